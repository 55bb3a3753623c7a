/-
  Own texts on the laws of the seat, joined: the logic, and contracts of functions. Conditions: none.
-/
import Derived.Test.YtekmeaoblpfnpaaGreatDoorNmP
import Derived.Test.YtekmeaoblpfnpaaGreatDoorPP7
set_option maxRecDepth 100000
set_option maxHeartbeats 40000000
set_option maxRecDepth 100000
set_option maxHeartbeats 40000000
namespace Go.Sx
open Go
section
variable {α : Type} [BEq α] [LawfulBEq α]
def mdel (l : ML α) (a : α) : ML α := match l with
  | [] => []
  | (b, v, n) :: r => if a == b then r else (b, v, n) :: mdel r a
omit [LawfulBEq α] in
theorem midx_del {a : α} : ∀ (l : ML α) (i : Nat), (midx l a i = none ∧ mdel l a = l) ∨ ∃ j v, midx l a i = some (i + j, v) ∧ mdel l a = l.eraseIdx j ∧ j < l.length
  | [], _ => .inl ⟨rfl, rfl⟩
  | (b, v, n) :: r, i => by
    unfold midx mdel
    by_cases h : (a == b) = true
    · rw [if_pos h, if_pos h]; exact .inr ⟨0, v, rfl, rfl, by simp⟩
    rw [if_neg h, if_neg h]
    rcases midx_del (a := a) r (i + 1) with ⟨h1, h2⟩ | ⟨j, u, h1, h2, h3⟩
    · exact .inl ⟨h1, by rw [h2]⟩
    refine .inr ⟨j + 1, u, ?_, by rw [h2]; rfl, by simpa using h3⟩
    rw [h1, Nat.add_assoc, Nat.add_comm 1 j]
theorem mdel_filter {a : α} : ∀ {l : ML α}, (l.map (·.1)).Nodup → mdel l a = l.filter fun p => !(p.1 == a)
  | [], _ => rfl
  | (b, v, n) :: r, h => by
    rw [List.map_cons, List.nodup_cons] at h
    unfold mdel
    by_cases hb : (a == b) = true
    · have he := eq_of_beq hb
      subst he
      rw [if_pos hb, List.filter_cons_of_neg (by simp)]
      rw [List.filter_eq_self.2]
      intro p hp
      have : p.1 ≠ a := fun g => h.1 (List.mem_map.2 ⟨p, hp, g⟩)
      simpa using this
    have hne : (b == a) = false := by
      rw [Bool.eq_false_iff]; intro g; exact hb (by rw [eq_of_beq g]; simp)
    rw [if_neg hb, List.filter_cons_of_pos (by simp [hne]), mdel_filter h.2]
theorem MS.del {l : ML α} {c : Nat} (h : MS l c) (a : α) : MS (mdel l a) c := by
  rw [mdel_filter h.1]
  refine ⟨h.1.sublist (List.filter_sublist.map _), h.2.1.sublist (List.filter_sublist.map _), fun p hp => h.2.2 p (List.mem_filter.1 hp).1⟩
theorem mget_mdel {l : ML α} (h : (l.map (·.1)).Nodup) (a b : α) : mget (mdel l a) b = if b == a then none else mget l b := by
  by_cases hb : (b == a) = true
  · rw [if_pos hb, mget_none, mdel_filter h]
    have := eq_of_beq hb
    subst this
    simp
  rw [if_neg hb]
  cases hm : mget l b with
  | none =>
    rw [mget_none] at hm ⊢
    rw [mdel_filter h]
    exact fun g => hm ((List.filter_sublist.map _).subset g)
  | some v =>
    have h2 : ((mdel l a).map (·.1)).Nodup := by rw [mdel_filter h]; exact h.sublist (List.filter_sublist.map _)
    rw [mget_iff h] at hm
    obtain ⟨n, hn⟩ := hm
    rw [mget_iff h2, mdel_filter h]
    exact ⟨n, List.mem_filter.2 ⟨hn, by simpa using hb⟩⟩
variable {cx : Cx} {Q : Qt} {e : Env} {I : Heap} {H : HL} {o : Oper} {C : Ct} {S : World → Prop}
omit [LawfulBEq α] in
theorem run_delete {P : Program} {T U K E b c : Nat} {t : TypeId} {kv : α → Value} {l : ML α} {a : α} {w : World} (hT : P.underlying T = some (.map K E)) (hk : KeyK P K kv) (hb : w.heap[b]? = some (mobj kv l c)) :
    (Builtin.delete_ #[T, U] t #[.map (some b), kv a]).run P w = .ok (.tuple #[]) (World.block w b (mobj kv (mdel l a) c)) := by
  obtain ⟨hf, hc, _⟩ := hk
  have hg : (getObj b).run P w = .ok (mobj kv l c) w := by simp [getObj, Sem.run, hb, mobj]
  have hset : ∀ o', (setObj b o').run P w = .ok () (World.block w b o') := fun o' => by simp [setObj, Sem.run, hb, World.block, mobj]
  rcases midx_del (a := a) l 0 with ⟨h1, h2⟩ | ⟨j, v, h1, h2, h3⟩
  · have h4 : (Instr.findKey K (kv a) (l.map (ment kv))).run P w = .ok none w := by rw [hf, h1]
    simp [Builtin.delete_, run_underlying hT, hg, mobj, hc, h4, hset, h2]
  rw [Nat.zero_add] at h1
  have he : ∀ (q : ML α) (k : Nat), (q.map (ment kv)).eraseIdx k = (q.eraseIdx k).map (ment kv) := by
    intro q
    induction q with
    | nil => intro k; rfl
    | cons x r ih => intro k; cases k with
      | zero => rfl
      | succ k => simp [ih]
  have h4 : (Instr.findKey K (kv a) (l.map (ment kv))).run P w = .ok (some (j, v)) w := by rw [hf, h1]
  have h5 : (l.map (ment kv)).toArray.eraseIdxIfInBounds j = (((l.eraseIdx j).map (ment kv)).toArray : Array MapEntry) := by
    rw [Array.eraseIdxIfInBounds, dif_pos (by simpa using h3), List.eraseIdx_toArray, he]
  simp [Builtin.delete_, run_underlying hT, hg, mobj, hc, h4, hset, h2, he]
omit [LawfulBEq α] in
theorem op_delete0 {T U K E b c : Nat} {m x : Operand} {kv : α → Value} {l : ML α} {a : α} {kx : Value} {H' : HL} (i : Nat) (ho : o.op = .call ⟨.builtin .delete, #[m, x], #[T, U]⟩) (hd : o.dst = none) (hm : ev e m = some (.map (some b))) (hx : ev e x = some kx) (hkx : kx = kv a) (hT : cx.P.underlying T = some (.map K E)) (hK : KeyK cx.P K kv)
    (hH : H[i]? = some (b, mobj kv l c)) (hH' : LSet H i (b, mobj kv (mdel l a) c) H') (kk : C e I H') : OpJ cx Q o e I H C := by
  intro Kk hKk w0 w ha hs
  unfold Oper.wp
  subst hkx
  have hb := hs.own _ (List.mem_of_getElem? hH)
  have hr := run_delete (U := U) (t := o.type) (a := a) hT hK hb
  have : (execOp w0.eval o).run cx.P w = .ok (.value (.tuple #[])) (World.block w b (mobj kv (mdel l a) c)) := by
    simp [execOp, ho, resolve, invoke, builtin, ha.eval hm, ha.eval hx, hr]
  rw [this]
  simp only [Oper.upon, hd]
  exact hKk _ _ _ kk _ _ ha.putNone (hs.block hH hH')
end
section
variable {cx : Cx} {o : Oper} {e : Env} {S : World → Prop}
theorem run_mapNil {P : Program} {w : World} {T K E : Nat} (p : Option Nat) (hT : P.underlying T = some (.map K E)) : (binOp .neq T (.map p) (.map none)).run P w = .ok (.bool p.isSome) w ∧ (binOp .eql T (.map p) (.map none)).run P w = .ok (.bool p.isNone) w := by
  have h1 : ∀ d : Nat, (Op.equalIn (d + 1) T (.map p) (.map none)).run P w = .ok p.isNone w := fun d => by cases p <;> simp [Op.equalIn, run_underlying hT]
  simp only [binOp]
  cases p <;> simp [Op.equal, Op.maxDepth, h1 9999]
theorem yl_eqlMap {x y : Operand} {T U K E : Nat} (p : Option Nat) (ho : o.op = .binOp .eql T x y U) (hx : ev e x = some (.map p)) (hy : ev e y = some (.map none)) (hT : cx.P.underlying T = some (.map K E)) : Yld cx o e S (.bool p.isNone) := by
  intro a w ha _
  have hb := (run_mapNil (P := cx.P) (w := w) p hT).2
  have hg : eqGuard .eql T x y (.map p) (.map none) = pure () := rfl
  simp [execOp, ho, ha.eval hx, ha.eval hy, hb, hg]
end
section
variable {α β : Type} [BEq α] [LawfulBEq α] [BEq β] [LawfulBEq β]
abbrev Nest (α β : Type) := List (α × Nat × ML β × Nat)
abbrev nvp (e : α × Nat × ML β × Nat) : α × Value := (e.1, .map (some e.2.1))
def nestH (kv : β → Value) (N : Nest α β) : HL := N.map fun e => (e.2.1, mobj kv e.2.2.1 e.2.2.2)
omit [BEq α] [LawfulBEq α] [BEq β] [LawfulBEq β] in
theorem nestH_app (kv : β → Value) (A B : Nest α β) : nestH kv (A ++ B) = nestH kv A ++ nestH kv B := by unfold nestH; rw [List.map_append]
omit [BEq α] [LawfulBEq α] [BEq β] [LawfulBEq β] in
theorem nestH_out (kv : β → Value) (A B : Nest α β) (a : α) (b : Nat) (m : ML β) (c : Nat) : ((b, mobj kv m c) :: nestH kv (A ++ B)).Perm (nestH kv (A ++ (a, b, m, c) :: B)) := by
  rw [nestH_app, nestH_app]
  exact (List.perm_middle).symm
def cv (n : Nat) : Option Value := if n = 0 then none else some (i64 (n : Int))
def bump (f : α → β → Nat) (a : α) (b : β) (d : Nat → Nat) (x : α) (y : β) : Nat := if x == a && y == b then d (f x y) else f x y
structure NestS (l : ML α) (c : Nat) (N : Nest α β) (f : α → β → Nat) : Prop where
  ms : MS l c
  vals : l.map kvp = N.map nvp
  inn : ∀ e ∈ N, MS e.2.2.1 e.2.2.2 ∧ e.2.2.1 ≠ [] ∧ ∀ t, mget e.2.2.1 t = cv (f e.1 t)
  out : ∀ a, a ∉ N.map (·.1) → ∀ t, f a t = 0
omit [BEq α] [LawfulBEq α] [LawfulBEq β] in
theorem NestS.nil : NestS ([] : ML α) 0 ([] : Nest α β) (fun _ _ => 0) := ⟨MS.nil, rfl, fun _ h => (by cases h), fun _ _ _ => rfl⟩
omit [BEq α] [LawfulBEq α] [BEq β] [LawfulBEq β] in
theorem nvp_keys (N : Nest α β) : (N.map nvp).map (·.1) = N.map (·.1) := by rw [List.map_map]; rfl
omit [BEq α] [LawfulBEq α] [LawfulBEq β] in
theorem NestS.keys {l : ML α} {c : Nat} {N : Nest α β} {f : α → β → Nat} (h : NestS l c N f) : l.map (·.1) = N.map (·.1) := by
  rw [← nvp_keys N, ← h.vals, List.map_map]; rfl
omit [BEq α] [LawfulBEq α] [LawfulBEq β] in
theorem NestS.nodup {l : ML α} {c : Nat} {N : Nest α β} {f : α → β → Nat} (h : NestS l c N f) : (N.map (·.1)).Nodup := h.keys ▸ h.ms.1
omit [LawfulBEq β] in
theorem NestS.find {l : ML α} {c : Nat} {N : Nest α β} {f : α → β → Nat} (h : NestS l c N f) (a : α) :
    (a ∉ N.map (·.1) ∧ mget l a = none ∧ ∀ t, f a t = 0) ∨ ∃ A b m k B, N = A ++ (a, b, m, k) :: B ∧ mget l a = some (.map (some b)) ∧ MS m k ∧ m ≠ [] ∧ (∀ t, mget m t = cv (f a t)) ∧ a ∉ A.map (·.1) ∧ a ∉ B.map (·.1) := by
  by_cases ha : a ∈ N.map (·.1)
  · obtain ⟨⟨a', b, m, k⟩, he, rfl⟩ := List.mem_map.1 ha
    obtain ⟨A, B, rfl⟩ := List.append_of_mem he
    have hn := h.nodup
    rw [List.map_append, List.map_cons, List.nodup_append, List.nodup_cons] at hn
    have h1 : a' ∉ A.map (·.1) := fun g => hn.2.2 _ g _ (.head _) rfl
    have h2 : mget l a' = some (.map (some b)) := by
      rw [mget_kvp, h.vals, List.map_append, List.map_cons]
      exact (pset_at (v := .map none) (by rw [nvp_keys]; exact h1)).2
    obtain ⟨h3, h4, h5⟩ := h.inn _ he
    exact .inr ⟨A, b, m, k, B, rfl, h2, h3, h4, h5, h1, hn.2.1.1⟩
  refine .inl ⟨ha, ?_, h.out a ha⟩
  rw [mget_none, h.keys]; exact ha
theorem NestS.set {l : ML α} {c : Nat} {A B : Nest α β} {f : α → β → Nat} {a : α} {b k k' : Nat} {m m' : ML β} {t : β} {d : Nat → Nat} (h : NestS l c (A ++ (a, b, m, k) :: B) f)
    (h1 : MS m' k') (h2 : m' ≠ []) (h3 : ∀ s, mget m' s = if s == t then cv (d (f a t)) else mget m s) : NestS l c (A ++ (a, b, m', k') :: B) (bump f a t d) := by
  have hn := h.nodup
  rw [List.map_append, List.map_cons, List.nodup_append, List.nodup_cons] at hn
  have hA : ∀ e ∈ A ++ B, e.1 ≠ a := by
    intro e he g
    rcases List.mem_append.1 he with he | he
    · exact hn.2.2 _ (List.mem_map_of_mem he) _ (.head _) g
    exact hn.2.1.1 (List.mem_map.2 ⟨e, he, g⟩)
  refine ⟨h.ms, ?_, fun e he => ?_, fun x hx s => ?_⟩
  · rw [h.vals]; simp
  · have hcase : e ∈ A ++ B ∨ e = (a, b, m', k') := by
      rcases List.mem_append.1 he with he | he
      · exact .inl (List.mem_append_left _ he)
      rcases List.mem_cons.1 he with he | he
      · exact .inr he
      exact .inl (List.mem_append_right _ he)
    rcases hcase with he | rfl
    · obtain ⟨g1, g2, g3⟩ := h.inn e (by rcases List.mem_append.1 he with he | he; exact List.mem_append_left _ he; exact List.mem_append_right _ (.tail _ he))
      refine ⟨g1, g2, fun s => ?_⟩
      have : (e.1 == a) = false := by simpa using hA e he
      rw [g3]; unfold bump; rw [this]; rfl
    refine ⟨h1, h2, fun s => ?_⟩
    dsimp only
    rw [h3]
    obtain ⟨_, _, g3⟩ := h.inn (a, b, m, k) (by simp)
    unfold bump
    by_cases hs : (s == t) = true
    · have := eq_of_beq hs; subst this; simp
    simp only [hs, if_false, beq_self_eq_true, Bool.true_and, Bool.false_eq_true]; exact g3 s
  have hx' : x ∉ (A ++ (a, b, m, k) :: B).map (·.1) := by simpa using hx
  have hxa : (x == a) = false := by
    have : x ≠ a := fun g => hx (by rw [g]; simp)
    simpa using this
  unfold bump
  rw [hxa]; exact h.out x hx' s
theorem NestS.add {l : ML α} {c : Nat} {N : Nest α β} {f : α → β → Nat} {a : α} {b k' : Nat} {m' : ML β} {t : β} {d : Nat → Nat} (h : NestS l c N f) (ha : a ∉ N.map (·.1))
    (h1 : MS m' k') (h2 : m' ≠ []) (h3 : ∀ s, mget m' s = if s == t then cv (d 0) else none) : NestS (mset l a (.map (some b)) c) (mclk l a c) (N ++ [(a, b, m', k')]) (bump f a t d) := by
  refine ⟨h.ms.set a _, ?_, fun e he => ?_, fun x hx s => ?_⟩
  · rw [mset_kvp, h.vals, (pset_new (by rw [nvp_keys]; exact ha)).1, List.map_append]; rfl
  · rcases List.mem_append.1 he with he | he
    · obtain ⟨g1, g2, g3⟩ := h.inn e he
      refine ⟨g1, g2, fun s => ?_⟩
      have : (e.1 == a) = false := by
        have : e.1 ≠ a := fun g => ha (g ▸ List.mem_map_of_mem he)
        simpa using this
      rw [g3]; unfold bump; rw [this]; rfl
    rw [List.mem_singleton.1 he]
    refine ⟨h1, h2, fun s => ?_⟩
    dsimp only
    rw [h3, ← h.out a ha t]
    unfold bump
    by_cases hs : (s == t) = true
    · have := eq_of_beq hs; subst this; simp
    simp only [hs, if_false, beq_self_eq_true, Bool.true_and, Bool.false_eq_true]
    rw [h.out a ha s]; rfl
  rw [List.map_append, List.mem_append, not_or] at hx
  have hxa : (x == a) = false := by
    have : x ≠ a := by simpa using hx.2
    simpa using this
  unfold bump
  rw [hxa]; exact h.out x hx.1 s
theorem NestS.drop {l : ML α} {c : Nat} {A B : Nest α β} {f : α → β → Nat} {a : α} {b k : Nat} {m : ML β} {t : β} {d : Nat → Nat} (h : NestS l c (A ++ (a, b, m, k) :: B) f)
    (h1 : ∀ s, s ≠ t → f a s = 0) (h2 : d (f a t) = 0) : NestS (mdel l a) c (A ++ B) (bump f a t d) := by
  have hn := h.nodup
  rw [List.map_append, List.map_cons, List.nodup_append, List.nodup_cons] at hn
  have hA : ∀ e ∈ A ++ B, e.1 ≠ a := by
    intro e he g
    rcases List.mem_append.1 he with he | he
    · exact hn.2.2 _ (List.mem_map_of_mem he) _ (.head _) g
    exact hn.2.1.1 (List.mem_map.2 ⟨e, he, g⟩)
  refine ⟨h.ms.del a, ?_, fun e he => ?_, fun x hx s => ?_⟩
  · have h3 : (mdel l a).map kvp = (l.map kvp).filter fun p => !(p.1 == a) := by
      rw [mdel_filter h.ms.1, List.filter_map]; rfl
    rw [h3, h.vals, List.map_append, List.map_cons, List.filter_append, List.filter_cons_of_neg (by simp), ← List.filter_append, ← List.map_append]
    rw [List.filter_eq_self.2]
    intro p hp
    obtain ⟨e, he, rfl⟩ := List.mem_map.1 hp
    have := hA e he
    simpa using this
  · obtain ⟨g1, g2, g3⟩ := h.inn e (by rcases List.mem_append.1 he with he | he; exact List.mem_append_left _ he; exact List.mem_append_right _ (.tail _ he))
    refine ⟨g1, g2, fun s => ?_⟩
    have : (e.1 == a) = false := by simpa using hA e he
    rw [g3]; unfold bump; rw [this]; rfl
  unfold bump
  by_cases hxa : x = a
  · subst hxa
    by_cases hs : s = t
    · subst hs; simp [h2]
    have : (s == t) = false := by simpa using hs
    simp only [this, Bool.and_false, Bool.false_eq_true, if_false]; exact h1 s hs
  have hxb : (x == a) = false := by simpa using hxa
  rw [hxb]
  refine h.out x ?_ s
  rw [List.map_append, List.map_cons, List.mem_append, List.mem_cons, not_or, not_or]
  rw [List.map_append, List.mem_append, not_or] at hx
  exact ⟨hx.1, hxa, hx.2⟩
theorem cv_set {m : ML β} {g : β → Nat} (_hm : ∀ s, mget m s = cv (g s)) (t : β) (n : Nat) (hn : n ≠ 0) (k : Nat) : ∀ s, mget (mset m t (i64 (n : Int)) k) s = if s == t then cv n else mget m s := by
  intro s
  rw [mget_mset]; unfold cv; rw [if_neg hn]
omit [LawfulBEq β] in
theorem cv_get {m : ML β} {g : β → Nat} (hm : ∀ s, mget m s = cv (g s)) (t : β) : (mget m t).getD (i64 0) = i64 (g t : Int) := by
  rw [hm]; unfold cv
  split
  · rename_i h; rw [h]; rfl
  rfl
end
section
variable {P : Program} {K i : TypeId} {f0 f1 : Field}
theorem check_str {b : Bool} {t : TypeId} (hu : P.underlying t = some .string) (a : List UInt8) (d : Nat) (w : World) : (Instr.checkKey b (d + 1) t (str a)).run P w = .ok () w := by simp [Instr.checkKey, run_underlying hu]
theorem equal_str {t : TypeId} (hu : P.underlying t = some .string) (a b : List UInt8) (d : Nat) (w : World) : (Op.equalIn (d + 1) t (str a) (str b)).run P w = .ok (a == b) w := by
  have h : ((⟨a.toArray⟩ : ByteArray) == ⟨b.toArray⟩) = (a == b) := by
    show (a.toArray == b.toArray) = (a == b)
    simp
  simp [Op.equalIn, run_underlying hu, str, h]
theorem KeyK.texts2 (hu : P.underlying K = some (.struct #[f0, f1])) (hp : P.stoodInHeld K = false) (n0 : f0.name ≠ "_") (n1 : f1.name ≠ "_") (o0 : f0.offset = 0) (o1 : f1.offset = 1) (t0 : f0.type = i) (t1 : f1.type = i) (hi : P.underlying i = some .string) (ha : ∀ w, (isAgg i).run P w = .ok false w) :
    KeyK P K (fun a : List UInt8 × List UInt8 => .agg #[str a.1, str a.2]) := by
  subst t0
  refine KeyK.equal hu (fun a b => rfl) (fun a b w => ?_) (fun b a w => ?_) (fun a => ?_)
  · have h := stru_equal2 hu hp n0 n1 o0 o1 ha (t1 ▸ ha) (x0 := str a.1) (x1 := str a.2) (y0 := str b.1) (y1 := str b.2) w (fun d w => equal_str hi a.1 b.1 d w) (fun d w => equal_str (t1 ▸ hi) a.2 b.2 d w) 9998
    exact h
  · exact stru_check2 hu n0 n1 o0 o1 ha (t1 ▸ ha) b w (fun d w => check_str hi _ d w) (fun d w => check_str (t1 ▸ hi) _ d w) 9998
  show Instr.sameBits (9999 + 1) _ _ = true
  have h := fun x n => sameBits_str x n
  simp [Instr.sameBits, h]
end
section
variable {α : Type} [BEq α] [LawfulBEq α]
def mst (l : ML α) (a : α) (c : Nat) : Nat := match l with
  | [] => c
  | (b, _, n) :: r => if a == b then n else mst r a c
omit [LawfulBEq α] in
theorem mst_none {l : ML α} {a : α} {c : Nat} (h : mget l a = none) : mst l a c = c := by
  induction l with
  | nil => rfl
  | cons p r ih =>
    obtain ⟨b, u, n⟩ := p
    unfold mget at h
    unfold mst
    split at h
    · cases h
    rename_i hne
    rw [if_neg hne]; exact ih h
theorem mst_some {a : α} {v : Value} : ∀ (l : ML α) (c i : Nat), mget l a = some v → ∃ j, midx l a i = some (i + j, v) ∧ l[j]? = some (a, v, mst l a c) ∧ ∀ x c', mset l a x c' = l.set j (a, x, mst l a c)
  | [], _, _, h => by cases h
  | (b, u, n) :: r, c, i, h => by
    unfold mget at h
    split at h
    · rename_i he
      have he' := eq_of_beq he
      subst he'
      cases h
      exact ⟨0, by simp [midx], by simp [mst], fun x c' => by simp [mset, mst]⟩
    rename_i hne
    have hb : (a == b) = false := by simpa using hne
    obtain ⟨j, h1, h2, h3⟩ := mst_some r c (i + 1) h
    refine ⟨j + 1, ?_, ?_, fun x c' => by simp [mset, mst, hb, h3]⟩
    · simp only [midx, hb, Bool.false_eq_true, if_false]
      rw [h1, Nat.add_assoc, Nat.add_comm 1 j]
    simp only [List.getElem?_cons_succ, mst, hb, Bool.false_eq_true, if_false]; exact h2
variable {cx : Cx} {Q : Qt} {e : Env} {I : Heap} {H : HL} {o : Oper} {C : Ct} {S : World → Prop}
theorem run_mapEntry {P : Program} {T K E b c : Nat} {kv : α → Value} {l : ML α} {a : α} {z : Value} {w : World} (hT : P.underlying T = some (.map K E)) (hk : KeyK P K kv) (hz : ∀ w, (zeroValue E).run P w = .ok z w) (hb : w.heap[b]? = some (mobj kv l c)) :
    (Instr.mapEntry T (.map (some b)) (kv a)).run P w = .ok (.tuple #[(mget l a).getD z, i64 (mst l a c : Int)]) (World.block w b (mobj kv (mset l a ((mget l a).getD z) c) (mclk l a c))) := by
  obtain ⟨hf, hc, hbits⟩ := hk
  have hg : (getObj b).run P w = .ok (mobj kv l c) w := by simp [getObj, Sem.run, hb, mobj]
  have hset : ∀ o', (setObj b o').run P w = .ok () (World.block w b o') := fun o' => by simp [setObj, Sem.run, hb, World.block, mobj]
  cases hm : mget l a with
  | none =>
    obtain ⟨h1, h2⟩ := midx_none l 0 hm
    have h3 : (Instr.findKey K (kv a) (l.map (ment kv))).run P w = .ok none w := by rw [hf, h1]
    simp only [Instr.mapEntry, Sem.run_bind, run_underlying hT, Result.andThen_ok, hg, mobj, hc, h3, hz, hset, h2, mclk, hm, mst_none hm]
    simp [goInt]
  | some u =>
    obtain ⟨j, h1, h2, h3⟩ := mst_some l c 0 hm
    rw [Nat.zero_add] at h1
    have h4 : (Instr.findKey K (kv a) (l.map (ment kv))).run P w = .ok (some (j, u)) w := by rw [hf, h1]
    have hj : (l.map (ment kv)).toArray[j]? = some { key := kv a, val := u, born := mst l a c } := by simp [h2, ment]
    have hkeep : ∀ w, (Instr.keyThatStays (kv a) (kv a)).run P w = .ok (kv a) w := fun w => by simp [Instr.keyThatStays, hbits]
    simp only [Instr.mapEntry, Sem.run_bind, run_underlying hT, Result.andThen_ok, hg, mobj, hc, h4, hj, Option.map_some, Option.getD_some, hkeep, hset, h3, mclk, hm, Option.isSome_some, if_true, goInt, Sem.run_pure]
    refine congrArg (fun A => Result.ok (Value.tuple #[u, Value.int .i64 (mst l a c : Int)]) (World.block w b (Obj.map A c))) ?_
    apply Array.ext_getElem?
    intro i
    rw [Array.getElem?_modify]
    simp only [List.getElem?_toArray, List.getElem?_map, List.getElem?_set]
    by_cases hi : j = i
    · subst hi
      have hlt : j < l.length := by
        rcases Nat.lt_or_ge j l.length with h' | h'
        · exact h'
        simp [List.getElem?_eq_none h'] at h2
      have h5 : l[j] = (a, u, mst l a c) := by
        have := List.getElem?_eq_getElem hlt
        rw [h2] at this; exact (Option.some.inj this).symm
      simp [hlt, h5]
    simp [hi]
theorem op_mapEntry {T K E b c d : Nat} {m x : Operand} {kv : α → Value} {l : ML α} {a : α} {kx z : Value} {H' : HL} (i : Nat) (ho : o.op = .mapEntry T m x) (hd : o.dst = some d) (hn : Nat.blt d cx.n = true) (hm : ev e m = some (.map (some b))) (hx : ev e x = some kx) (hkx : kx = kv a) (hT : cx.P.underlying T = some (.map K E)) (hK : KeyK cx.P K kv) (hz : ∀ w, (zeroValue E).run cx.P w = .ok z w)
    (hH : H[i]? = some (b, mobj kv l c)) (hH' : LSet H i (b, mobj kv (mset l a ((mget l a).getD z) c) (mclk l a c)) H') (kk : C ((d, .tuple #[(mget l a).getD z, i64 (mst l a c : Int)]) :: e) I H') : OpJ cx Q o e I H C := by
  intro Kk hKk w0 w ha hs
  unfold Oper.wp
  subst hkx
  have hb := hs.own _ (List.mem_of_getElem? hH)
  have hr := run_mapEntry (a := a) hT hK hz hb
  have : (execOp w0.eval o).run cx.P w = .ok (.value (.tuple #[(mget l a).getD z, i64 (mst l a c : Int)])) (World.block w b (mobj kv (mset l a ((mget l a).getD z) c) (mclk l a c))) := by
    simp [execOp, ho, ha.eval hm, ha.eval hx, hr]
  rw [this]
  simp only [Oper.upon, hd]
  exact hKk _ _ _ kk _ _ (ha.put hn) (hs.block hH hH')
theorem mset_two {l : ML α} {a : α} {x v : Value} {c : Nat} (_h : MS l c) : ∃ j, (mset l a x c)[j]? = some (a, x, mst l a c) ∧ mset l a v c = (mset l a x c).set j (a, v, mst l a c) := by
  cases hm : mget l a with
  | none =>
    obtain ⟨_, h2⟩ := midx_none l 0 hm
    refine ⟨l.length, ?_, ?_⟩
    · rw [h2, mst_none hm]; simp
    rw [h2, h2, mst_none hm]; simp
  | some u =>
    obtain ⟨j, _, h2, h3⟩ := mst_some l c 0 hm
    refine ⟨j, ?_, ?_⟩
    · rw [h3, List.getElem?_set, if_pos rfl, if_pos (List.getElem?_eq_some_iff.1 h2).1]
    rw [h3, h3, List.set_set]
theorem run_entryStore {P : Program} {T b c : Nat} {kv : α → Value} {l : ML α} {a : α} {x v : Value} {w : World} (h : MS l c) (hb : w.heap[b]? = some (mobj kv (mset l a x c) (mclk l a c))) :
    (Instr.entryStore T (.map (some b)) (i64 (mst l a c : Int)) v).run P w = .ok () (World.block w b (mobj kv (mset l a v c) (mclk l a c))) := by
  have hg : (getObj b).run P w = .ok (mobj kv (mset l a x c) (mclk l a c)) w := by simp [getObj, Sem.run, hb, mobj]
  have hset : ∀ o', (setObj b o').run P w = .ok () (World.block w b o') := fun o' => by simp [setObj, Sem.run, hb, World.block, mobj]
  obtain ⟨j, h1, h2⟩ := mset_two (x := x) (v := v) (a := a) h
  have hms := h.set a x
  generalize mset l a x c = L at h1 h2 hms hg
  have hj : j < L.length := (List.getElem?_eq_some_iff.1 h1).1
  have hLj : L[j] = (a, x, mst l a c) := (List.getElem?_eq_some_iff.1 h1).2
  have hf : (L.map (ment kv)).toArray.findIdx? (fun e => (e.born : Int) == (mst l a c : Int)) = some j := by
    rw [List.findIdx?_toArray, List.findIdx?_eq_some_iff_getElem]
    refine ⟨by simpa using hj, by simp [hLj], fun k hk => ?_⟩
    simp only [List.getElem_map, Bool.not_eq_true, beq_eq_false_iff_ne, ne_eq]
    intro he
    have hk' : k < L.length := by omega
    have h3 := hms.2.1
    rw [List.nodup_iff_pairwise_ne, List.pairwise_map, List.pairwise_iff_getElem] at h3
    refine h3 k j hk' hj hk ?_
    rw [hLj]
    exact Int.ofNat_inj.1 he
  have hai : ∀ w, (asInt (i64 (mst l a c : Int))).run P w = .ok (mst l a c : Int) w := fun w => by simp [asInt, asIntOf]
  simp only [Instr.entryStore, Sem.run_bind, hg, mobj, Result.andThen_ok, hai, hf, hset]
  refine congrArg (fun A => Result.ok () (World.block w b (Obj.map A (mclk l a c)))) ?_
  rw [h2]
  apply Array.ext_getElem?
  intro i
  rw [Array.getElem?_modify]
  simp only [List.getElem?_toArray, List.getElem?_map, List.getElem?_set]
  by_cases hi : j = i
  · subst hi
    simp [hj, hLj]
  simp [hi]
theorem op_entryStore {T b c : Nat} {m x y : Operand} {kv : α → Value} {l : ML α} {a : α} {u v : Value} {n : Int} {H' : HL} (i : Nat) (ho : o.op = .entryStore T m x y) (hd : o.dst = none) (hm : ev e m = some (.map (some b))) (hx : ev e x = some (i64 n)) (hnn : n = (mst l a c : Int)) (hy : ev e y = some v) (hMS : MS l c)
    (hH : H[i]? = some (b, mobj kv (mset l a u c) (mclk l a c))) (hH' : LSet H i (b, mobj kv (mset l a v c) (mclk l a c)) H') (kk : C e I H') : OpJ cx Q o e I H C := by
  intro Kk hKk w0 w ha hs
  unfold Oper.wp
  subst hnn
  have hb := hs.own _ (List.mem_of_getElem? hH)
  have hr := run_entryStore (P := cx.P) (T := T) (v := v) hMS hb
  have : (execOp w0.eval o).run cx.P w = .ok .skip (World.block w b (mobj kv (mset l a v c) (mclk l a c))) := by
    simp [execOp, ho, ha.eval hm, ha.eval hx, ha.eval hy, hr]
  rw [this]
  simp only [Oper.upon, hd]
  exact hKk _ _ _ kk _ _ ha.putNone (hs.block hH hH')
end
end Go.Sx
namespace Go.Proofs.YtekmeaoblpfnpaaGreatDoor
open _root_.Go.Proofs.Tryz
open Go Go.Sx
abbrev kvR (t : Ix.Rec) : Value := .agg #[i64 t.1, i64 t.2]
abbrev kvP (p : Ix.Pl) : Value := .agg #[str p.1, str p.2]
theorem keyR : KeyK Tryz.prog 54 kvR := KeyK.ints2 tU54 (by kernel_rfl) (by decide) (by decide) rfl rfl rfl rfl tU3 tA3
theorem keyP : KeyK Tryz.prog 152 kvP := KeyK.texts2 tU152 (by kernel_rfl) (by decide) (by decide) rfl rfl rfl rfl tU9 tA9
def setH (b : Nat) (l : ML Ix.Pl) (c : Nat) (N : Nest Ix.Pl Ix.Rec) : HL := (b, mobj kvP l c) :: nestH kvR N
theorem setH_out (b : Nat) (l : ML Ix.Pl) (c : Nat) (A B : Nest Ix.Pl Ix.Rec) (p : Ix.Pl) (ib : Nat) (m : ML Ix.Rec) (k : Nat) : ([(b, mobj kvP l c), (ib, mobj kvR m k)] ++ nestH kvR (A ++ B)).Perm (setH b l c (A ++ (p, ib, m, k) :: B)) :=
  List.Perm.cons _ (nestH_out kvR A B p ib m k)
theorem mset_ne {α : Type} [BEq α] [LawfulBEq α] (l : ML α) (a : α) (v : Value) (c : Nat) : mset l a v c ≠ [] := fun h => by
  have := (mset_mem (l := l) (a := a) (x := a) (v := v) (c := c)).2 (.inr rfl)
  rw [h] at this; cases this
theorem getD_set {α : Type} [BEq α] [LawfulBEq α] {l : ML α} {a : α} {v z : Value} {c : Nat} : (mget (mset l a v c) a).getD z = v := by
  rw [mget_mset]; simp
theorem cv_pos {n : Nat} (h : n ≠ 0) : cv n = some (i64 (n : Int)) := if_neg h
theorem add_new (b : Nat) (l : ML Ix.Pl) (c : Nat) (p : Ix.Pl) (t : Ix.Rec) (hm : mget l p = none) (I : Heap) : Ctr Tryz.prog 97 [.map (some b), kvP p, kvR t] I [(b, mobj kvP l c)]
    (fun e _ H' => ∃ ib, e = .returned (.tuple #[]) ∧ H' = [(b, mobj kvP (mset l p (.map (some ib)) c) (mclk l p c)), (ib, mobj kvR (mset [] t (i64 1) 0) (mclk ([] : ML Ix.Rec) t 0))]) := by
 refine Ctr.ob func97 ?_
 intro w0 hw0
 refine Cj.sr (J.op rfl (q15 ?_))
 intro b1 hb1
 refine J.op rfl (q15 ?_)
 intro b2 hb2
 refine J.nsss (Cj.region (J.z q0 ?_))
 refine J.z (q10 tA152 tS152 (Blk.at 1 rfl)) ?_
 refine J.z (yl_lookup1 (kv := kvP) (l := l) (a := p) rfl rfl rfl rfl tU112 keyP tZ213 (Blk.at 2 rfl)) ?_
 refine J.eqv 8 rfl (show _ = .map none from (by rw [hm]; rfl)) ?_
 refine J.z (yl_eqlMap _ rfl rfl rfl tU213) ?_
 refine J.c1 (fun hc3 => ?_)
 refine Cj.region (J.z q0 ?_)
 refine J.z (q10 tA152 tS152 (Blk.at 1 rfl)) ?_
 refine J.op rfl (op_makeMap rfl rfl rfl ?_)
 intro b4 hb4
 refine J.op rfl (op_insert (kv := kvP) (a := p) 3 (.inr rfl) rfl rfl rfl rfl rfl tU112 keyP rfl (LSet.s (LSet.s (LSet.s LSet.z))) ?_)
 refine J.ns (Cj.drawSel [1, 2, 3] [] 9 (by kernel_rfl) ?_)
 refine JA.fix ⟨(HSub.c 1 rfl (HSub.c 2 rfl (HSub.c 3 rfl HSub.n))), CSub.n, (Le.refl _)⟩ (fun fx5 => ?_)
 refine JA.tk 0 rfl fx5 q0 ?_
 refine JA.tk 1 rfl fx5 (q10 tA152 tS152 (Blk.atC 1 rfl)) ?_
 refine JA.tk 2 rfl fx5 (yl_lookup1 (kv := kvP) (l := (mset l p (.map (some b4)) c)) (a := p) rfl rfl rfl rfl tU112 keyP tZ213 (Blk.atC 2 rfl)) ?_
 refine JA.eqv 15 rfl (show _ = .map (some b4) from getD_set) ?_
 refine JA.tk 3 rfl fx5 (q10 tA54 tS54 (Blk.atC 0 rfl)) ?_
 refine JA.all [4, 6] (by kernel_rfl) (by simp) ?_
 intro i hi
 simp only [List.mem_cons, List.not_mem_nil, or_false] at hi
 rcases hi with rfl | rfl
 ·refine ⟨_, rfl, rfl, ?_⟩
  refine q7 (yl_lookup1 (kv := kvR) (l := []) (a := t) rfl rfl rfl rfl tU213 keyR tZ3 (Blk.at 0 rfl)) ?_
  refine ⟨⟨(Le.refl _), (HSub.c 1 rfl (HSub.c 2 rfl (HSub.c 3 rfl HSub.n))), CSub.n⟩, ?_⟩
  refine JA.eqv 17 rfl (show _ = i64 0 from rfl) ?_
  refine JA.fix ⟨(HSub.c 1 rfl (HSub.c 2 rfl (HSub.c 3 rfl HSub.n))), CSub.n, (Le.refl _)⟩ (fun fx6 => ?_)
  refine JA.tk 5 rfl fx6 (yl_add rfl rfl rfl (w64 (by decide))) ?_
  refine q4 6 rfl (op_mapEntry (kv := kvR) (l := []) (c := 0) (a := t) 0 rfl rfl rfl rfl rfl rfl tU213 keyR tZ3 rfl LSet.z ?_)
  refine ⟨⟨(Le.refl _), (HSub.c 1 rfl (HSub.c 2 rfl (HSub.c 3 rfl HSub.n))), CSub.n⟩, ?_⟩
  refine JA.fix ⟨(HSub.c 1 rfl (HSub.c 2 rfl (HSub.c 3 rfl HSub.n))), CSub.n, (Le.refl _)⟩ (fun fx7 => ?_)
  refine JA.tk 7 rfl fx7 q11 ?_
  refine q4 8 rfl (op_entryStore (kv := kvR) (l := []) (a := t) (c := 0) 0 rfl rfl rfl rfl rfl rfl MS.nil rfl LSet.z ?_)
  refine ⟨⟨(Le.refl _), (HSub.c 1 rfl (HSub.c 2 rfl (HSub.c 3 rfl HSub.n))), CSub.n⟩, ?_⟩
  refine q8 ?_
  refine Ej.keep (Keeps.k (Keeps.d (Keeps.d (Keeps.k Keeps.n)))) ?_
  refine Ej.pull Pull.z ?_
  refine Ej.pull (Pull.s Pull.z) ?_
  refine Ej.end0 rfl rfl ?_
  exact ⟨_, rfl, rfl⟩
 refine ⟨_, rfl, rfl, ?_⟩
 refine op_mapEntry (kv := kvR) (l := []) (c := 0) (a := t) 0 rfl rfl rfl rfl rfl rfl tU213 keyR tZ3 rfl LSet.z ?_
 refine ⟨⟨(Le.refl _), (HSub.c 1 rfl (HSub.c 2 rfl (HSub.c 3 rfl HSub.n))), CSub.n⟩, ?_⟩
 refine JA.fix ⟨(HSub.c 1 rfl (HSub.c 2 rfl (HSub.c 3 rfl HSub.n))), CSub.n, (Le.refl _)⟩ (fun fx8 => ?_)
 refine JA.tk 7 rfl fx8 q11 ?_
 refine q4 4 rfl (q7 (yl_lookup1 (kv := kvR) (l := (mset [] t ((mget [] t).getD (.int .i64 0)) 0)) (a := t) rfl rfl rfl rfl tU213 keyR tZ3 (Blk.at 0 rfl)) ?_)
 refine ⟨⟨(Le.refl _), (HSub.c 1 rfl (HSub.c 2 rfl (HSub.c 3 rfl HSub.n))), CSub.n⟩, ?_⟩
 refine JA.eqv 17 rfl (show _ = i64 0 from getD_set) ?_
 refine JA.fix ⟨(HSub.c 1 rfl (HSub.c 2 rfl (HSub.c 3 rfl HSub.n))), CSub.n, (Le.refl _)⟩ (fun fx9 => ?_)
 refine JA.tk 5 rfl fx9 (yl_add rfl rfl rfl (w64 (by decide))) ?_
 refine q4 8 rfl (op_entryStore (kv := kvR) (l := []) (a := t) (c := 0) 0 rfl rfl rfl rfl rfl rfl MS.nil rfl LSet.z ?_)
 refine ⟨⟨(Le.refl _), (HSub.c 1 rfl (HSub.c 2 rfl (HSub.c 3 rfl HSub.n))), CSub.n⟩, ?_⟩
 refine q8 ?_
 refine Ej.keep (Keeps.k (Keeps.d (Keeps.d (Keeps.k Keeps.n)))) ?_
 refine Ej.pull Pull.z ?_
 refine Ej.pull (Pull.s Pull.z) ?_
 refine Ej.end0 rfl rfl ?_
 exact ⟨_, rfl, rfl⟩
theorem add_old (b : Nat) (l : ML Ix.Pl) (c : Nat) (p : Ix.Pl) (t : Ix.Rec) (ib : Nat) (m : ML Ix.Rec) (k n : Nat) (hm : mget l p = some (.map (some ib))) (hms : MS m k) (hn : (mget m t).getD (i64 0) = i64 (n : Int)) (hn2 : n ≤ 1000000000000000) (I : Heap) : Ctr Tryz.prog 97 [.map (some b), kvP p, kvR t] I [(b, mobj kvP l c), (ib, mobj kvR m k)]
    (fun e _ H' => e = .returned (.tuple #[]) ∧ H' = [(b, mobj kvP l c), (ib, mobj kvR (mset m t (i64 ((n + 1 : Nat) : Int)) k) (mclk m t k))]) := by
 refine Ctr.ob func97 ?_
 intro w0 hw0
 refine Cj.sr (J.op rfl (q15 ?_))
 intro b1 hb1
 refine J.op rfl (q15 ?_)
 intro b2 hb2
 refine J.nsss (Cj.region (J.z q0 ?_))
 refine J.z (q10 tA152 tS152 (Blk.at 1 rfl)) ?_
 refine J.z (yl_lookup1 (kv := kvP) (l := l) (a := p) rfl rfl rfl rfl tU112 keyP tZ213 (Blk.at 2 rfl)) ?_
 refine J.eqv 8 rfl (show _ = .map (some ib) from (by rw [hm]; rfl)) ?_
 refine J.z (yl_eqlMap _ rfl rfl rfl tU213) ?_
 refine J.c0 (fun hc3 => ?_)
 refine Cj.skip (Ej.seq (Cj.drawSel [0, 1, 2] [] 9 (by kernel_rfl) ?_))
 refine JA.fix ⟨(HSub.c 0 rfl (HSub.c 1 rfl (HSub.c 2 rfl HSub.n))), CSub.n, (Le.refl _)⟩ (fun fx4 => ?_)
 refine JA.tk 0 rfl fx4 q0 ?_
 refine JA.tk 1 rfl fx4 (q10 tA152 tS152 (Blk.atC 1 rfl)) ?_
 refine JA.tk 2 rfl fx4 (yl_lookup1 (kv := kvP) (l := l) (a := p) rfl rfl rfl rfl tU112 keyP tZ213 (Blk.atC 2 rfl)) ?_
 refine JA.eqv 15 rfl (show _ = .map (some ib) from (by rw [hm]; rfl)) ?_
 refine JA.tk 3 rfl fx4 (q10 tA54 tS54 (Blk.atC 0 rfl)) ?_
 refine JA.all [4, 6] (by kernel_rfl) (by simp) ?_
 intro i hi
 simp only [List.mem_cons, List.not_mem_nil, or_false] at hi
 rcases hi with rfl | rfl
 ·refine ⟨_, rfl, rfl, ?_⟩
  refine q7 (yl_lookup1 (kv := kvR) (l := m) (a := t) rfl rfl rfl rfl tU213 keyR tZ3 (Blk.at 3 rfl)) ?_
  refine ⟨⟨(Le.refl _), (HSub.c 0 rfl (HSub.c 1 rfl (HSub.c 2 rfl HSub.n))), CSub.n⟩, ?_⟩
  refine JA.eqv 17 rfl (show _ = i64 (n : Int) from hn) ?_
  refine JA.fix ⟨(HSub.c 0 rfl (HSub.c 1 rfl (HSub.c 2 rfl HSub.n))), CSub.n, (Le.refl _)⟩ (fun fx5 => ?_)
  refine JA.tk 5 rfl fx5 (yl_add rfl rfl rfl (w64 (by omega))) ?_
  refine q4 6 rfl (op_mapEntry (kv := kvR) (l := m) (c := k) (a := t) 3 rfl rfl rfl rfl rfl rfl tU213 keyR tZ3 rfl (LSet.s (LSet.s (LSet.s LSet.z))) ?_)
  refine ⟨⟨(Le.refl _), (HSub.c 0 rfl (HSub.c 1 rfl (HSub.c 2 rfl HSub.n))), CSub.n⟩, ?_⟩
  refine JA.fix ⟨(HSub.c 0 rfl (HSub.c 1 rfl (HSub.c 2 rfl HSub.n))), CSub.n, (Le.refl _)⟩ (fun fx6 => ?_)
  refine JA.tk 7 rfl fx6 q11 ?_
  refine q4 8 rfl (op_entryStore (kv := kvR) (l := m) (a := t) (c := k) 3 rfl rfl rfl rfl rfl rfl hms rfl (LSet.s (LSet.s (LSet.s LSet.z))) ?_)
  refine ⟨⟨(Le.refl _), (HSub.c 0 rfl (HSub.c 1 rfl (HSub.c 2 rfl HSub.n))), CSub.n⟩, ?_⟩
  refine q8 ?_
  refine Ej.keep (Keeps.d (Keeps.d (Keeps.k (Keeps.k Keeps.n)))) ?_
  refine Ej.end0 rfl rfl ?_
  exact ⟨rfl, rfl⟩
 refine ⟨_, rfl, rfl, ?_⟩
 refine op_mapEntry (kv := kvR) (l := m) (c := k) (a := t) 3 rfl rfl rfl rfl rfl rfl tU213 keyR tZ3 rfl (LSet.s (LSet.s (LSet.s LSet.z))) ?_
 refine ⟨⟨(Le.refl _), (HSub.c 0 rfl (HSub.c 1 rfl (HSub.c 2 rfl HSub.n))), CSub.n⟩, ?_⟩
 refine JA.fix ⟨(HSub.c 0 rfl (HSub.c 1 rfl (HSub.c 2 rfl HSub.n))), CSub.n, (Le.refl _)⟩ (fun fx7 => ?_)
 refine JA.tk 7 rfl fx7 q11 ?_
 refine q4 4 rfl (q7 (yl_lookup1 (kv := kvR) (l := (mset m t ((mget m t).getD (.int .i64 0)) k)) (a := t) rfl rfl rfl rfl tU213 keyR tZ3 (Blk.at 3 rfl)) ?_)
 refine ⟨⟨(Le.refl _), (HSub.c 0 rfl (HSub.c 1 rfl (HSub.c 2 rfl HSub.n))), CSub.n⟩, ?_⟩
 refine JA.eqv 17 rfl (show _ = i64 (n : Int) from (getD_set.trans hn)) ?_
 refine JA.fix ⟨(HSub.c 0 rfl (HSub.c 1 rfl (HSub.c 2 rfl HSub.n))), CSub.n, (Le.refl _)⟩ (fun fx8 => ?_)
 refine JA.tk 5 rfl fx8 (yl_add rfl rfl rfl (w64 (by omega))) ?_
 refine q4 8 rfl (op_entryStore (kv := kvR) (l := m) (a := t) (c := k) 3 rfl rfl rfl rfl rfl rfl hms rfl (LSet.s (LSet.s (LSet.s LSet.z))) ?_)
 refine ⟨⟨(Le.refl _), (HSub.c 0 rfl (HSub.c 1 rfl (HSub.c 2 rfl HSub.n))), CSub.n⟩, ?_⟩
 refine q8 ?_
 refine Ej.keep (Keeps.d (Keeps.d (Keeps.k (Keeps.k Keeps.n)))) ?_
 refine Ej.end0 rfl rfl ?_
 exact ⟨rfl, rfl⟩
theorem add_ok (b : Nat) (l : ML Ix.Pl) (c : Nat) (N : Nest Ix.Pl Ix.Rec) (f : Ix.Pl → Ix.Rec → Nat) (p : Ix.Pl) (t : Ix.Rec) (h : NestS l c N f) (hf : f p t ≤ 1000000000000000) (I : Heap) :
    Ctr Tryz.prog 97 [.map (some b), kvP p, kvR t] I (setH b l c N) (fun e _ H' => ∃ l' c' N', e = .returned (.tuple #[]) ∧ NestS l' c' N' (bump f p t (· + 1)) ∧ H' = setH b l' c' N') := by
  rcases h.find p with ⟨hno, hmg, hz⟩ | ⟨A, ib, m, k, B, rfl, hmg, hms, hne, hmv, hA, hB⟩
  · have h1 := (add_new b l c p t hmg I).frame (nestH kvR N)
    refine h1.leave fun e I' H' _ ⟨H1, hH, ib, he, hH1⟩ => ⟨_, [], ?_, mset l p (.map (some ib)) c, mclk l p c, N ++ [(p, ib, mset [] t (i64 1) 0, mclk ([] : ML Ix.Rec) t 0)], he, h.add hno (MS.nil.set t _) (mset_ne _ _ _ _) (fun s => ?_), rfl⟩
    · rw [List.append_nil, hH, hH1]
      unfold setH
      rw [nestH_app]
      exact List.Perm.cons _ List.perm_append_comm
    rw [mget_mset]
    by_cases hs : (s == t) = true
    · rw [if_pos hs, if_pos hs]; rfl
    rw [if_neg hs, if_neg hs]; rfl
  have hn := cv_get hmv t
  have h1 := (Ctr.perm (setH_out b l c A B p ib m k) ((add_old b l c p t ib m k (f p t) hmg hms hn hf I).frame (nestH kvR (A ++ B))))
  refine h1.leave fun e I' H' _ ⟨H1, hH, he, hH1⟩ => ⟨_, [], ?_, l, c, A ++ (p, ib, mset m t (i64 ((f p t + 1 : Nat) : Int)) k, mclk m t k) :: B, he, h.set (d := (· + 1)) (hms.set t _) (mset_ne _ _ _ _) (fun s => ?_), rfl⟩
  · rw [List.append_nil, hH, hH1]
    exact (setH_out b l c A B p ib _ _).symm
  exact cv_set hmv t (f p t + 1) (Nat.succ_ne_zero _) k s
theorem remove_at (b : Nat) (l : ML Ix.Pl) (c : Nat) (p : Ix.Pl) (t : Ix.Rec) (ib : Nat) (m : ML Ix.Rec) (k n : Nat) (hm : mget l p = some (.map (some ib))) (hms : MS m k) (hn : (mget m t).getD (i64 0) = i64 (n : Int)) (hn1 : 1 ≤ n) (hn2 : n ≤ 1000000000000000) (I : Heap) : Ctr Tryz.prog 90 [.map (some b), kvP p, kvR t] I [(b, mobj kvP l c), (ib, mobj kvR m k)]
    (fun e _ H' => (n ≠ 1 ∧ e = .returned (.tuple #[]) ∧ H' = [(b, mobj kvP l c), (ib, mobj kvR (mset m t (i64 ((n - 1 : Nat) : Int)) k) (mclk m t k))]) ∨ (n = 1 ∧ (mdel (mset m t (i64 ((n - 1 : Nat) : Int)) k) t) ≠ [] ∧ e = .returned (.tuple #[]) ∧ H' = [(b, mobj kvP l c), (ib, mobj kvR (mdel (mset m t (i64 ((n - 1 : Nat) : Int)) k) t) (mclk m t k))]) ∨ (n = 1 ∧ (mdel (mset m t (i64 ((n - 1 : Nat) : Int)) k) t) = [] ∧ e = .returned (.tuple #[]) ∧ H' = [(b, mobj kvP (mdel l p) c), (ib, mobj kvR (mdel (mset m t (i64 ((n - 1 : Nat) : Int)) k) t) (mclk m t k))])) := by
 refine Ctr.ob func90 ?_
 intro w0 hw0
 refine Cj.sr (J.op rfl (q15 ?_))
 intro b1 hb1
 refine J.op rfl (q15 ?_)
 intro b2 hb2
 refine J.nss (Cj.drawSel [0, 1, 2] [] 9 (by kernel_rfl) ?_)
 refine JA.fix ⟨(HSub.c 0 rfl (HSub.c 1 rfl (HSub.c 2 rfl HSub.n))), CSub.n, (Le.refl _)⟩ (fun fx3 => ?_)
 refine JA.tk 0 rfl fx3 q0 ?_
 refine JA.tk 1 rfl fx3 (q10 tA152 tS152 (Blk.atC 1 rfl)) ?_
 refine JA.tk 2 rfl fx3 (yl_lookup1 (kv := kvP) (l := l) (a := p) rfl rfl rfl rfl tU112 keyP tZ213 (Blk.atC 2 rfl)) ?_
 refine JA.eqv 8 rfl (show _ = .map (some ib) from (by rw [hm]; rfl)) ?_
 refine JA.tk 3 rfl fx3 (q10 tA54 tS54 (Blk.atC 0 rfl)) ?_
 refine JA.all [4, 6] (by kernel_rfl) (by simp) ?_
 intro i hi
 simp only [List.mem_cons, List.not_mem_nil, or_false] at hi
 rcases hi with rfl | rfl
 ·refine ⟨_, rfl, rfl, ?_⟩
  refine q7 (yl_lookup1 (kv := kvR) (l := m) (a := t) rfl rfl rfl rfl tU213 keyR tZ3 (Blk.at 3 rfl)) ?_
  refine ⟨⟨(Le.refl _), (HSub.c 0 rfl (HSub.c 1 rfl (HSub.c 2 rfl HSub.n))), CSub.n⟩, ?_⟩
  refine JA.eqv 10 rfl (show _ = i64 (n : Int) from hn) ?_
  refine JA.fix ⟨(HSub.c 0 rfl (HSub.c 1 rfl (HSub.c 2 rfl HSub.n))), CSub.n, (Le.refl _)⟩ (fun fx4 => ?_)
  refine JA.tk 5 rfl fx4 (yl_sub rfl rfl rfl (w64 (by omega))) ?_
  refine JA.eqv 11 rfl (show _ = i64 ((n - 1 : Nat) : Int) from (congrArg i64 (by omega))) ?_
  refine q4 6 rfl (op_mapEntry (kv := kvR) (l := m) (c := k) (a := t) 3 rfl rfl rfl rfl rfl rfl tU213 keyR tZ3 rfl (LSet.s (LSet.s (LSet.s LSet.z))) ?_)
  refine ⟨⟨(Le.refl _), (HSub.c 0 rfl (HSub.c 1 rfl (HSub.c 2 rfl HSub.n))), CSub.n⟩, ?_⟩
  refine JA.fix ⟨(HSub.c 0 rfl (HSub.c 1 rfl (HSub.c 2 rfl HSub.n))), CSub.n, (Le.refl _)⟩ (fun fx5 => ?_)
  refine JA.tk 7 rfl fx5 q11 ?_
  refine q4 8 rfl (op_entryStore (kv := kvR) (l := m) (a := t) (c := k) 3 rfl rfl rfl rfl rfl rfl hms rfl (LSet.s (LSet.s (LSet.s LSet.z))) ?_)
  refine ⟨⟨(Le.refl _), (HSub.c 0 rfl (HSub.c 1 rfl (HSub.c 2 rfl HSub.n))), CSub.n⟩, ?_⟩
  refine q8 ?_
  refine Ej.seq (Cj.seq (Cj.seq (Cj.drawSel [0, 1, 2, 3] [] 6 (by kernel_rfl) ?_)))
  refine JA.fix ⟨(HSub.c 0 rfl (HSub.c 1 rfl (HSub.c 2 rfl (HSub.c 3 rfl HSub.n)))), CSub.n, (Le.refl _)⟩ (fun fx6 => ?_)
  refine JA.tk 0 rfl fx6 q0 ?_
  refine JA.tk 1 rfl fx6 (q10 tA152 tS152 (Blk.atC 1 rfl)) ?_
  refine JA.tk 2 rfl fx6 (yl_lookup1 (kv := kvP) (l := l) (a := p) rfl rfl rfl rfl tU112 keyP tZ213 (Blk.atC 2 rfl)) ?_
  refine JA.eqv 16 rfl (show _ = .map (some ib) from (by rw [hm]; rfl)) ?_
  refine JA.tk 3 rfl fx6 (q10 tA54 tS54 (Blk.atC 0 rfl)) ?_
  refine JA.tk 4 rfl fx6 (yl_lookup1 (kv := kvR) (l := (mset m t (i64 ((n - 1 : Nat) : Int)) k)) (a := t) rfl rfl rfl rfl tU213 keyR tZ3 (Blk.atC 3 rfl)) ?_
  refine JA.eqv 18 rfl (show _ = i64 ((n - 1 : Nat) : Int) from getD_set) ?_
  refine JA.tk 5 rfl fx6 q19 ?_
  refine q8 ?_
  refine Ej.seq (Cj.cond rfl (fun hc7 => ?_) (fun hc7 => ?_))
  ·have hc7p := ebq hc7
   refine Cj.drawSel [0, 1, 2] [] 5 (by kernel_rfl) ?_
   refine JA.fix ⟨(HSub.c 0 rfl (HSub.c 1 rfl (HSub.c 2 rfl HSub.n))), CSub.n, (Le.refl _)⟩ (fun fx8 => ?_)
   refine JA.tk 0 rfl fx8 q0 ?_
   refine JA.tk 1 rfl fx8 (q10 tA152 tS152 (Blk.atC 1 rfl)) ?_
   refine JA.tk 2 rfl fx8 (yl_lookup1 (kv := kvP) (l := l) (a := p) rfl rfl rfl rfl tU112 keyP tZ213 (Blk.atC 2 rfl)) ?_
   refine JA.eqv 22 rfl (show _ = .map (some ib) from (by rw [hm]; rfl)) ?_
   refine JA.tk 3 rfl fx8 (q10 tA54 tS54 (Blk.atC 0 rfl)) ?_
   refine q4 4 rfl (op_delete0 (kv := kvR) (a := t) 3 rfl rfl rfl rfl rfl tU213 keyR rfl (LSet.s (LSet.s (LSet.s LSet.z))) ?_)
   refine ⟨⟨(Le.refl _), (HSub.c 0 rfl (HSub.c 1 rfl (HSub.c 2 rfl HSub.n))), CSub.n⟩, ?_⟩
   refine q8 ?_
   refine Ej.seq (Cj.sr (J.z q0 ?_))
   refine J.z (q10 tA152 tS152 (Blk.at 1 rfl)) ?_
   refine J.z (yl_lookup1 (kv := kvP) (l := l) (a := p) rfl rfl rfl rfl tU112 keyP tZ213 (Blk.at 2 rfl)) ?_
   refine J.eqv 26 rfl (show _ = .map (some ib) from (by rw [hm]; rfl)) ?_
   refine J.z (yl_lenMap (kv := kvR) (l := (mdel (mset m t (i64 ((n - 1 : Nat) : Int)) k) t)) rfl rfl tU213 (Blk.at 3 rfl)) ?_
   refine J.z q19 ?_
   refine J.cd (fun hc9 => ?_) (fun hc9 => ?_)
   ·have hc9p := ebq hc9
    have hem : (mdel (mset m t (i64 ((n - 1 : Nat) : Int)) k) t) = [] := List.length_eq_zero_iff.1 (by have h := ebq hc9; omega)
    refine Cj.region (J.z q0 ?_)
    refine J.z (q10 tA152 tS152 (Blk.at 1 rfl)) ?_
    refine J.op rfl (op_delete0 (kv := kvP) (a := p) 2 rfl rfl rfl rfl rfl tU112 keyP rfl (LSet.s (LSet.s LSet.z)) ?_)
    refine J.nil (Ej.keep (Keeps.d (Keeps.d (Keeps.k (Keeps.k Keeps.n)))) ?_)
    refine Ej.end0 rfl rfl ?_
    exact .inr (.inr ⟨by omega, hem, rfl, rfl⟩)
   have hc9p := nbf hc9
   have hne : (mdel (mset m t (i64 ((n - 1 : Nat) : Int)) k) t) ≠ [] := fun e => by have h := nbf hc9; rw [e] at h; exact h rfl
   refine Cj.skip (Ej.keep (Keeps.d (Keeps.d (Keeps.k (Keeps.k Keeps.n)))) ?_)
   refine Ej.end0 rfl rfl ?_
   exact .inr (.inl ⟨by omega, hne, rfl, rfl⟩)
  have hc7p := nbf hc7
  refine Cj.skip (Ej.seq (Cj.sr (J.z q0 ?_)))
  refine J.z (q10 tA152 tS152 (Blk.at 1 rfl)) ?_
  refine J.z (yl_lookup1 (kv := kvP) (l := l) (a := p) rfl rfl rfl rfl tU112 keyP tZ213 (Blk.at 2 rfl)) ?_
  refine J.eqv 26 rfl (show _ = .map (some ib) from (by rw [hm]; rfl)) ?_
  refine J.z (yl_lenMap (kv := kvR) (l := (mset m t (i64 ((n - 1 : Nat) : Int)) k)) rfl rfl tU213 (Blk.at 3 rfl)) ?_
  refine J.z q19 ?_
  refine J.cd (fun hc10 => ?_) (fun hc10 => ?_)
  ·have hc10p := ebq hc10
   exact absurd (show (mset m t (i64 ((n - 1 : Nat) : Int)) k) = [] from List.length_eq_zero_iff.1 (by have h := ebq hc10; omega)) (mset_ne _ _ _ _)
  have hc10p := nbf hc10
  refine Cj.skip (Ej.keep (Keeps.d (Keeps.d (Keeps.k (Keeps.k Keeps.n)))) ?_)
  refine Ej.end0 rfl rfl ?_
  exact .inl ⟨by omega, rfl, rfl⟩
 refine ⟨_, rfl, rfl, ?_⟩
 refine op_mapEntry (kv := kvR) (l := m) (c := k) (a := t) 3 rfl rfl rfl rfl rfl rfl tU213 keyR tZ3 rfl (LSet.s (LSet.s (LSet.s LSet.z))) ?_
 refine ⟨⟨(Le.refl _), (HSub.c 0 rfl (HSub.c 1 rfl (HSub.c 2 rfl HSub.n))), CSub.n⟩, ?_⟩
 refine JA.fix ⟨(HSub.c 0 rfl (HSub.c 1 rfl (HSub.c 2 rfl HSub.n))), CSub.n, (Le.refl _)⟩ (fun fx11 => ?_)
 refine JA.tk 7 rfl fx11 q11 ?_
 refine q4 4 rfl (q7 (yl_lookup1 (kv := kvR) (l := (mset m t ((mget m t).getD (.int .i64 0)) k)) (a := t) rfl rfl rfl rfl tU213 keyR tZ3 (Blk.at 3 rfl)) ?_)
 refine ⟨⟨(Le.refl _), (HSub.c 0 rfl (HSub.c 1 rfl (HSub.c 2 rfl HSub.n))), CSub.n⟩, ?_⟩
 refine JA.eqv 10 rfl (show _ = i64 (n : Int) from (getD_set.trans hn)) ?_
 refine JA.fix ⟨(HSub.c 0 rfl (HSub.c 1 rfl (HSub.c 2 rfl HSub.n))), CSub.n, (Le.refl _)⟩ (fun fx12 => ?_)
 refine JA.tk 5 rfl fx12 (yl_sub rfl rfl rfl (w64 (by omega))) ?_
 refine JA.eqv 11 rfl (show _ = i64 ((n - 1 : Nat) : Int) from (congrArg i64 (by omega))) ?_
 refine q4 8 rfl (op_entryStore (kv := kvR) (l := m) (a := t) (c := k) 3 rfl rfl rfl rfl rfl rfl hms rfl (LSet.s (LSet.s (LSet.s LSet.z))) ?_)
 refine ⟨⟨(Le.refl _), (HSub.c 0 rfl (HSub.c 1 rfl (HSub.c 2 rfl HSub.n))), CSub.n⟩, ?_⟩
 refine q8 ?_
 refine Ej.seq (Cj.seq (Cj.seq (Cj.drawSel [0, 1, 2, 3] [] 6 (by kernel_rfl) ?_)))
 refine JA.fix ⟨(HSub.c 0 rfl (HSub.c 1 rfl (HSub.c 2 rfl (HSub.c 3 rfl HSub.n)))), CSub.n, (Le.refl _)⟩ (fun fx13 => ?_)
 refine JA.tk 0 rfl fx13 q0 ?_
 refine JA.tk 1 rfl fx13 (q10 tA152 tS152 (Blk.atC 1 rfl)) ?_
 refine JA.tk 2 rfl fx13 (yl_lookup1 (kv := kvP) (l := l) (a := p) rfl rfl rfl rfl tU112 keyP tZ213 (Blk.atC 2 rfl)) ?_
 refine JA.eqv 16 rfl (show _ = .map (some ib) from (by rw [hm]; rfl)) ?_
 refine JA.tk 3 rfl fx13 (q10 tA54 tS54 (Blk.atC 0 rfl)) ?_
 refine JA.tk 4 rfl fx13 (yl_lookup1 (kv := kvR) (l := (mset m t (i64 ((n - 1 : Nat) : Int)) k)) (a := t) rfl rfl rfl rfl tU213 keyR tZ3 (Blk.atC 3 rfl)) ?_
 refine JA.eqv 18 rfl (show _ = i64 ((n - 1 : Nat) : Int) from getD_set) ?_
 refine JA.tk 5 rfl fx13 q19 ?_
 refine q8 ?_
 refine Ej.seq (Cj.cond rfl (fun hc14 => ?_) (fun hc14 => ?_))
 ·have hc14p := ebq hc14
  refine Cj.drawSel [0, 1, 2] [] 5 (by kernel_rfl) ?_
  refine JA.fix ⟨(HSub.c 0 rfl (HSub.c 1 rfl (HSub.c 2 rfl HSub.n))), CSub.n, (Le.refl _)⟩ (fun fx15 => ?_)
  refine JA.tk 0 rfl fx15 q0 ?_
  refine JA.tk 1 rfl fx15 (q10 tA152 tS152 (Blk.atC 1 rfl)) ?_
  refine JA.tk 2 rfl fx15 (yl_lookup1 (kv := kvP) (l := l) (a := p) rfl rfl rfl rfl tU112 keyP tZ213 (Blk.atC 2 rfl)) ?_
  refine JA.eqv 22 rfl (show _ = .map (some ib) from (by rw [hm]; rfl)) ?_
  refine JA.tk 3 rfl fx15 (q10 tA54 tS54 (Blk.atC 0 rfl)) ?_
  refine q4 4 rfl (op_delete0 (kv := kvR) (a := t) 3 rfl rfl rfl rfl rfl tU213 keyR rfl (LSet.s (LSet.s (LSet.s LSet.z))) ?_)
  refine ⟨⟨(Le.refl _), (HSub.c 0 rfl (HSub.c 1 rfl (HSub.c 2 rfl HSub.n))), CSub.n⟩, ?_⟩
  refine q8 ?_
  refine Ej.seq (Cj.sr (J.z q0 ?_))
  refine J.z (q10 tA152 tS152 (Blk.at 1 rfl)) ?_
  refine J.z (yl_lookup1 (kv := kvP) (l := l) (a := p) rfl rfl rfl rfl tU112 keyP tZ213 (Blk.at 2 rfl)) ?_
  refine J.eqv 26 rfl (show _ = .map (some ib) from (by rw [hm]; rfl)) ?_
  refine J.z (yl_lenMap (kv := kvR) (l := (mdel (mset m t (i64 ((n - 1 : Nat) : Int)) k) t)) rfl rfl tU213 (Blk.at 3 rfl)) ?_
  refine J.z q19 ?_
  refine J.cd (fun hc16 => ?_) (fun hc16 => ?_)
  ·have hc16p := ebq hc16
   have hem : (mdel (mset m t (i64 ((n - 1 : Nat) : Int)) k) t) = [] := List.length_eq_zero_iff.1 (by have h := ebq hc16; omega)
   refine Cj.region (J.z q0 ?_)
   refine J.z (q10 tA152 tS152 (Blk.at 1 rfl)) ?_
   refine J.op rfl (op_delete0 (kv := kvP) (a := p) 2 rfl rfl rfl rfl rfl tU112 keyP rfl (LSet.s (LSet.s LSet.z)) ?_)
   refine J.nil (Ej.keep (Keeps.d (Keeps.d (Keeps.k (Keeps.k Keeps.n)))) ?_)
   refine Ej.end0 rfl rfl ?_
   exact .inr (.inr ⟨by omega, hem, rfl, rfl⟩)
  have hc16p := nbf hc16
  have hne : (mdel (mset m t (i64 ((n - 1 : Nat) : Int)) k) t) ≠ [] := fun e => by have h := nbf hc16; rw [e] at h; exact h rfl
  refine Cj.skip (Ej.keep (Keeps.d (Keeps.d (Keeps.k (Keeps.k Keeps.n)))) ?_)
  refine Ej.end0 rfl rfl ?_
  exact .inr (.inl ⟨by omega, hne, rfl, rfl⟩)
 have hc14p := nbf hc14
 refine Cj.skip (Ej.seq (Cj.sr (J.z q0 ?_)))
 refine J.z (q10 tA152 tS152 (Blk.at 1 rfl)) ?_
 refine J.z (yl_lookup1 (kv := kvP) (l := l) (a := p) rfl rfl rfl rfl tU112 keyP tZ213 (Blk.at 2 rfl)) ?_
 refine J.eqv 26 rfl (show _ = .map (some ib) from (by rw [hm]; rfl)) ?_
 refine J.z (yl_lenMap (kv := kvR) (l := (mset m t (i64 ((n - 1 : Nat) : Int)) k)) rfl rfl tU213 (Blk.at 3 rfl)) ?_
 refine J.z q19 ?_
 refine J.cd (fun hc17 => ?_) (fun hc17 => ?_)
 ·have hc17p := ebq hc17
  exact absurd (show (mset m t (i64 ((n - 1 : Nat) : Int)) k) = [] from List.length_eq_zero_iff.1 (by have h := ebq hc17; omega)) (mset_ne _ _ _ _)
 have hc17p := nbf hc17
 refine Cj.skip (Ej.keep (Keeps.d (Keeps.d (Keeps.k (Keeps.k Keeps.n)))) ?_)
 refine Ej.end0 rfl rfl ?_
 exact .inl ⟨by omega, rfl, rfl⟩
theorem cv_none {n : Nat} (h : cv n = none) : n = 0 := by
  unfold cv at h
  split at h
  · assumption
  cases h
theorem mdel_set {m : ML Ix.Rec} {k : Nat} (h : MS m k) (t : Ix.Rec) (v : Value) (s : Ix.Rec) : mget (mdel (mset m t v k) t) s = if s == t then none else mget m s := by
  rw [mget_mdel (h.set t v).1, mget_mset]
  by_cases hs : (s == t) = true
  · rw [if_pos hs, if_pos hs]
  rw [if_neg hs, if_neg hs, if_neg hs]
theorem remove_ok (b : Nat) (l : ML Ix.Pl) (c : Nat) (N : Nest Ix.Pl Ix.Rec) (f : Ix.Pl → Ix.Rec → Nat) (p : Ix.Pl) (t : Ix.Rec) (h : NestS l c N f) (hf1 : 1 ≤ f p t) (hf : f p t ≤ 1000000000000000) (I : Heap) :
    Ctr Tryz.prog 90 [.map (some b), kvP p, kvR t] I (setH b l c N) (fun e _ H' => ∃ l' c' N', e = .returned (.tuple #[]) ∧ NestS l' c' N' (bump f p t (· - 1)) ∧ H' = setH b l' c' N') := by
  rcases h.find p with ⟨hno, hmg, hz⟩ | ⟨A, ib, m, k, B, rfl, hmg, hms, hne, hmv, hA, hB⟩
  · rw [hz t] at hf1; omega
  have hn := cv_get hmv t
  have h1 := (Ctr.perm (setH_out b l c A B p ib m k) ((remove_at b l c p t ib m k (f p t) hmg hms hn hf1 hf I).frame (nestH kvR (A ++ B))))
  refine h1.leave fun e I' H' _ ⟨H1, hH, hq⟩ => ?_
  rcases hq with ⟨h9, he, hH1⟩ | ⟨h9, hne2, he, hH1⟩ | ⟨h9, hem, he, hH1⟩
  · refine ⟨_, [], ?_, l, c, A ++ (p, ib, mset m t (i64 ((f p t - 1 : Nat) : Int)) k, mclk m t k) :: B, he, h.set (d := (· - 1)) (hms.set t _) (mset_ne _ _ _ _) (fun s => ?_), rfl⟩
    · rw [List.append_nil, hH, hH1]
      exact (setH_out b l c A B p ib _ _).symm
    exact cv_set hmv t (f p t - 1) (by omega) k s
  · refine ⟨_, [], ?_, l, c, A ++ (p, ib, mdel (mset m t (i64 ((f p t - 1 : Nat) : Int)) k) t, mclk m t k) :: B, he, h.set (d := (· - 1)) ((hms.set t _).del t) hne2 (fun s => ?_), rfl⟩
    · rw [List.append_nil, hH, hH1]
      exact (setH_out b l c A B p ib _ _).symm
    rw [mdel_set hms]
    show _ = if (s == t) = true then cv (f p t - 1) else _
    rw [h9]; rfl
  refine ⟨_, [(ib, mobj kvR (mdel (mset m t (i64 ((f p t - 1 : Nat) : Int)) k) t) (mclk m t k))], ?_, mdel l p, c, A ++ B, he, h.drop (d := (· - 1)) (fun s hs => ?_) (by show f p t - 1 = 0; omega), rfl⟩
  · rw [hH, hH1]
    unfold setH
    exact List.Perm.cons _ List.perm_append_comm
  have h2 := mdel_set hms t (i64 ((f p t - 1 : Nat) : Int)) s
  rw [hem, if_neg (by simpa using hs), hmv] at h2
  exact cv_none h2.symm
abbrev ixC (vb wb kb : Nat) : List Value := [.map (some vb), .map (some wb), .map (some kb)]
structure Ent where
  t : Ix.Rec
  k : UInt8
  l : UInt8
  v : Value
  fs : List Ke.Fld
def entC (e : Ent) : List Value := [i64 e.t.1, i64 e.t.2, u8 e.k, u8 e.l, e.v]
theorem entC_len (e : Ent) : (entC e).length = 5 := rfl
theorem put1_ok (xb eb ib vb wb kb : Nat) (ek el : UInt8) (ev : Value) (l : ML Ix.Pl) (c : Nat) (N : Nest Ix.Pl Ix.Rec) (f : Ix.Pl → Ix.Rec → Nat) (p : Ix.Pl) (t : Ix.Rec) (h : NestS l c N f) (hf : f p t ≤ 1000000000000000) (I : Heap) (hxb : I xb = some (cel 26 [ptr ib 0])) (heb : I eb = some (cel 59 [i64 t.1, i64 t.2, u8 ek, u8 el, ev])) :
    Ctr Tryz.prog 96 [kvP p, ptr xb 0, ptr eb 0] I ([(ib, cel 114 (ixC vb wb kb))] ++ setH wb l c N) (fun e _ H' => ∃ l' c' N', e = .returned (.tuple #[]) ∧ NestS l' c' N' (bump f p t (· + 1)) ∧ H' = [(ib, cel 114 (ixC vb wb kb))] ++ setH wb l' c' N') := by
 refine Ctr.ob func96 ?_
 intro w0 hw0
 refine Cj.sr (J.op rfl (q15 ?_))
 intro b1 hb1
 refine J.ns (Cj.drawSel [0, 1] [] 8 (by kernel_rfl) ?_)
 have hxb_1 := hxb
 have heb_1 := heb
 refine JA.fix ⟨(HSub.c 0 rfl (HSub.c 1 rfl HSub.n)), CSub.n, (Le.refl _)⟩ (fun fx2 => ?_)
 refine JA.tk 0 rfl fx2 (q3 tA26 (Blk.immC hxb_1)) ?_
 refine JA.tk 1 rfl fx2 q6 ?_
 refine JA.tk 2 rfl fx2 (q2 (off' := 1) tU114 tS112) ?_
 refine JA.tk 3 rfl fx2 (q3 isAgg112 (Blk.atC 1 rfl)) ?_
 refine JA.tk 4 rfl fx2 (q10 tA152 tS152 (Blk.atC 0 rfl)) ?_
 refine JA.tk 5 rfl fx2 (q2 (off' := 0) tU59 tS54) ?_
 refine JA.tk 6 rfl fx2 (q10 tA54 tS54 (Blk.immC heb_1)) ?_
 refine q4 7 rfl (op_callR (H1 := setH _ _ _ _) [_, _] rfl rfl rfl rfl rfl rfl (add_ok wb l c N f p t h hf _) ?_ (fun _ _ _ _ ⟨_, _, _, h, _⟩ => by cases h) (fun _ _ ⟨_, _, _, h, _⟩ => by cases h))
 intro v3 I4 H5 hle6 hp7
 obtain ⟨l1, c1, N1, h, hN, rfl⟩ := hp7; cases h
 refine ⟨⟨(Le.trans (Le.refl _) hle6), (HSub.c 0 rfl (HSub.c 1 rfl HSub.n)), CSub.n⟩, ?_⟩
 refine q8 ?_
 refine Ej.keep (Keeps.d (Keeps.k Keeps.r)) ?_
 refine Ej.end0 rfl rfl ?_
 exact ⟨l1, c1, N1, rfl, hN, rfl⟩
theorem put2_ok (xb eb ib vb wb kb : Nat) (ek el : UInt8) (ev : Value) (l : ML Ix.Pl) (c : Nat) (N : Nest Ix.Pl Ix.Rec) (f : Ix.Pl → Ix.Rec → Nat) (p : Ix.Pl) (t : Ix.Rec) (h : NestS l c N f) (hf : f p t ≤ 1000000000000000) (I : Heap) (hxb : I xb = some (cel 26 [ptr ib 0])) (heb : I eb = some (cel 59 [i64 t.1, i64 t.2, u8 ek, u8 el, ev])) :
    Ctr Tryz.prog 98 [kvP p, ptr xb 0, ptr eb 0] I ([(ib, cel 114 (ixC vb wb kb))] ++ setH kb l c N) (fun e _ H' => ∃ l' c' N', e = .returned (.tuple #[]) ∧ NestS l' c' N' (bump f p t (· + 1)) ∧ H' = [(ib, cel 114 (ixC vb wb kb))] ++ setH kb l' c' N') := by
 refine Ctr.ob func98 ?_
 intro w0 hw0
 refine Cj.sr (J.op rfl (q15 ?_))
 intro b1 hb1
 refine J.ns (Cj.drawSel [0, 1] [] 8 (by kernel_rfl) ?_)
 have hxb_1 := hxb
 have heb_1 := heb
 refine JA.fix ⟨(HSub.c 0 rfl (HSub.c 1 rfl HSub.n)), CSub.n, (Le.refl _)⟩ (fun fx2 => ?_)
 refine JA.tk 0 rfl fx2 (q3 tA26 (Blk.immC hxb_1)) ?_
 refine JA.tk 1 rfl fx2 q6 ?_
 refine JA.tk 2 rfl fx2 (q2 (off' := 2) tU114 tS112) ?_
 refine JA.tk 3 rfl fx2 (q3 isAgg112 (Blk.atC 1 rfl)) ?_
 refine JA.tk 4 rfl fx2 (q10 tA152 tS152 (Blk.atC 0 rfl)) ?_
 refine JA.tk 5 rfl fx2 (q2 (off' := 0) tU59 tS54) ?_
 refine JA.tk 6 rfl fx2 (q10 tA54 tS54 (Blk.immC heb_1)) ?_
 refine q4 7 rfl (op_callR (H1 := setH _ _ _ _) [_, _] rfl rfl rfl rfl rfl rfl (add_ok kb l c N f p t h hf _) ?_ (fun _ _ _ _ ⟨_, _, _, h, _⟩ => by cases h) (fun _ _ ⟨_, _, _, h, _⟩ => by cases h))
 intro v3 I4 H5 hle6 hp7
 obtain ⟨l1, c1, N1, h, hN, rfl⟩ := hp7; cases h
 refine ⟨⟨(Le.trans (Le.refl _) hle6), (HSub.c 0 rfl (HSub.c 1 rfl HSub.n)), CSub.n⟩, ?_⟩
 refine q8 ?_
 refine Ej.keep (Keeps.d (Keeps.k Keeps.r)) ?_
 refine Ej.end0 rfl rfl ?_
 exact ⟨l1, c1, N1, rfl, hN, rfl⟩
theorem drop1_ok (xb eb ib vb wb kb : Nat) (l : ML Ix.Pl) (c : Nat) (N : Nest Ix.Pl Ix.Rec) (f : Ix.Pl → Ix.Rec → Nat) (p : Ix.Pl) (t : Ix.Rec) (h : NestS l c N f) (hf1 : 1 ≤ f p t) (hf : f p t ≤ 1000000000000000) (I : Heap) (hxb : I xb = some (cel 26 [ptr ib 0])) (heb : I eb = some (cel 54 [i64 t.1, i64 t.2])) :
    Ctr Tryz.prog 89 [kvP p, ptr xb 0, ptr eb 0] I ([(ib, cel 114 (ixC vb wb kb))] ++ setH wb l c N) (fun e _ H' => ∃ l' c' N', e = .returned (.tuple #[]) ∧ NestS l' c' N' (bump f p t (· - 1)) ∧ H' = [(ib, cel 114 (ixC vb wb kb))] ++ setH wb l' c' N') := by
 refine Ctr.ob func89 ?_
 intro w0 hw0
 refine Cj.sr (J.op rfl (q15 ?_))
 intro b1 hb1
 refine J.ns (Cj.drawSel [0, 1] [] 7 (by kernel_rfl) ?_)
 have hxb_1 := hxb
 have heb_1 := heb
 refine JA.fix ⟨(HSub.c 0 rfl (HSub.c 1 rfl HSub.n)), CSub.n, (Le.refl _)⟩ (fun fx2 => ?_)
 refine JA.tk 0 rfl fx2 (q3 tA26 (Blk.immC hxb_1)) ?_
 refine JA.tk 1 rfl fx2 q6 ?_
 refine JA.tk 2 rfl fx2 (q2 (off' := 1) tU114 tS112) ?_
 refine JA.tk 3 rfl fx2 (q3 isAgg112 (Blk.atC 1 rfl)) ?_
 refine JA.tk 4 rfl fx2 (q10 tA152 tS152 (Blk.atC 0 rfl)) ?_
 refine JA.tk 5 rfl fx2 (q10 tA54 tS54 (Blk.immC heb_1)) ?_
 refine q4 6 rfl (op_callR (H1 := setH _ _ _ _) [_, _] rfl rfl rfl rfl rfl rfl (remove_ok wb l c N f p t h hf1 hf _) ?_ (fun _ _ _ _ ⟨_, _, _, h, _⟩ => by cases h) (fun _ _ ⟨_, _, _, h, _⟩ => by cases h))
 intro v3 I4 H5 hle6 hp7
 obtain ⟨l1, c1, N1, h, hN, rfl⟩ := hp7; cases h
 refine ⟨⟨(Le.trans (Le.refl _) hle6), (HSub.c 0 rfl (HSub.c 1 rfl HSub.n)), CSub.n⟩, ?_⟩
 refine q8 ?_
 refine Ej.keep (Keeps.d (Keeps.k Keeps.r)) ?_
 refine Ej.end0 rfl rfl ?_
 exact ⟨l1, c1, N1, rfl, hN, rfl⟩
theorem drop2_ok (xb eb ib vb wb kb : Nat) (l : ML Ix.Pl) (c : Nat) (N : Nest Ix.Pl Ix.Rec) (f : Ix.Pl → Ix.Rec → Nat) (p : Ix.Pl) (t : Ix.Rec) (h : NestS l c N f) (hf1 : 1 ≤ f p t) (hf : f p t ≤ 1000000000000000) (I : Heap) (hxb : I xb = some (cel 26 [ptr ib 0])) (heb : I eb = some (cel 54 [i64 t.1, i64 t.2])) :
    Ctr Tryz.prog 91 [kvP p, ptr xb 0, ptr eb 0] I ([(ib, cel 114 (ixC vb wb kb))] ++ setH kb l c N) (fun e _ H' => ∃ l' c' N', e = .returned (.tuple #[]) ∧ NestS l' c' N' (bump f p t (· - 1)) ∧ H' = [(ib, cel 114 (ixC vb wb kb))] ++ setH kb l' c' N') := by
 refine Ctr.ob func91 ?_
 intro w0 hw0
 refine Cj.sr (J.op rfl (q15 ?_))
 intro b1 hb1
 refine J.ns (Cj.drawSel [0, 1] [] 7 (by kernel_rfl) ?_)
 have hxb_1 := hxb
 have heb_1 := heb
 refine JA.fix ⟨(HSub.c 0 rfl (HSub.c 1 rfl HSub.n)), CSub.n, (Le.refl _)⟩ (fun fx2 => ?_)
 refine JA.tk 0 rfl fx2 (q3 tA26 (Blk.immC hxb_1)) ?_
 refine JA.tk 1 rfl fx2 q6 ?_
 refine JA.tk 2 rfl fx2 (q2 (off' := 2) tU114 tS112) ?_
 refine JA.tk 3 rfl fx2 (q3 isAgg112 (Blk.atC 1 rfl)) ?_
 refine JA.tk 4 rfl fx2 (q10 tA152 tS152 (Blk.atC 0 rfl)) ?_
 refine JA.tk 5 rfl fx2 (q10 tA54 tS54 (Blk.immC heb_1)) ?_
 refine q4 6 rfl (op_callR (H1 := setH _ _ _ _) [_, _] rfl rfl rfl rfl rfl rfl (remove_ok kb l c N f p t h hf1 hf _) ?_ (fun _ _ _ _ ⟨_, _, _, h, _⟩ => by cases h) (fun _ _ ⟨_, _, _, h, _⟩ => by cases h))
 intro v3 I4 H5 hle6 hp7
 obtain ⟨l1, c1, N1, h, hN, rfl⟩ := hp7; cases h
 refine ⟨⟨(Le.trans (Le.refl _) hle6), (HSub.c 0 rfl (HSub.c 1 rfl HSub.n)), CSub.n⟩, ?_⟩
 refine q8 ?_
 refine Ej.keep (Keeps.d (Keeps.k Keeps.r)) ?_
 refine Ej.end0 rfl rfl ?_
 exact ⟨l1, c1, N1, rfl, hN, rfl⟩
structure EA where
  i : Nat
  J : Heap
  Y : HL
theorem each_ok (v : Ix.V) (wv : Value) (gw gk : Nat) (cap : List Value) (YW : Nat → HL → Prop) (Z : HL → Prop) (hwl : v.ws.length ≤ 1000000000000) (I : Heap) (hws0 : StrS 9 I v.ws wv) (H0 : HL) (hY0 : YW 0 H0)
    (hw : ∀ k w H J, v.ws[k]? = some w → Le I J → YW k H → Ctr Tryz.prog gw (kvP (v.name, w) :: cap) J H (fun e _ H' => e = .returned (.tuple #[]) ∧ YW (k + 1) H'))
    (hk : ∀ H J, v.key ≠ [] → Le I J → YW v.ws.length H → Ctr Tryz.prog gk (kvP (v.name, v.key) :: cap) J H (fun e _ H' => e = .returned (.tuple #[]) ∧ Z H')) (hz : v.key = [] → ∀ H, YW v.ws.length H → Z H) :
    Ctr Tryz.prog 88 [.agg (vwC (v, wv)).toArray, .func (.func gw) #[] cap.toArray, .func (.func gk) #[] cap.toArray] I H0 (fun e _ H' => e = .returned (.tuple #[]) ∧ Z H') := by
 obtain ⟨wp, wc, rfl⟩ := StrS_sl hws0
 refine Ctr.ob func88 ?_
 intro w0 hw0
 refine Cj.sr (J.op rfl (q15 ?_))
 intro b1 hb1
 refine J.nsss (Cj.region (J.z (q2 (off' := 2) tU142 tS69) ?_))
 refine J.z (q3 tA69 (Blk.at 0 rfl)) ?_
 refine J.z (q14 tU69) ?_
 refine J.z q0 ?_
 refine J.ns (Cj.block (Cj.loop (ι := EA) (fun y => y.i ≤ v.ws.length ∧ Le I y.J ∧ YW y.i y.Y) (fun y => v.ws.length - y.i) (fun y => [(1, .func (.func gw) #[] cap.toArray), (2, .func (.func gk) #[] cap.toArray), (3, ptr b1 0), (9, .slice wp v.ws.length wc), (10, i64 (v.ws.length : Int)), (11, i64 (y.i : Int))]) (fun y => y.J) (fun y => (b1, cel 142 [str v.name, str v.key, .slice wp v.ws.length wc]) :: y.Y) ⟨0, _, H0⟩ ⟨Nat.zero_le _, Le.refl _, hY0⟩ ⟨rfl, rfl, rfl, rfl, rfl, rfl, trivial⟩ rfl rfl ?_))
 rintro ⟨i, Jh, HY⟩ ⟨hi, hIJ, hY⟩
 dsimp only at hi hIJ hY ⊢
 have hws := hws0.mono hIJ
 refine Cj.sr (J.z q18 ?_)
 refine J.nss (Cj.cond rfl (fun hc2 => ?_) (fun hc2 => ?_))
 ·have hc2p := odt hc2
  have hlt : i < v.ws.length := by omega
  obtain ⟨x, hget⟩ : ∃ x, v.ws[i]? = some x := ⟨_, lgg hlt⟩
  obtain ⟨wb, wc1, wsp, hwe, hwb⟩ := hws.some (ne_nil_of hlt)
  cases hwe
  refine Cj.skip (Ej.seq (Cj.seq (Cj.block (Cj.sr (J.z (q16 (off' := i) tU69 tS9) ?_)))))
  refine J.z (yl_load rfl rfl tA9 (Blk.imm hwb) (str_get hget)) ?_
  refine J.z q1 ?_
  refine J.nsr (J.z q0 ?_)
  refine J.z (q2 (off' := 0) tU142 tS9) ?_
  refine J.z (q3 tA9 (Blk.at 0 rfl)) ?_
  refine J.z q0 ?_
  refine J.z (yl_buildS (pl := #[(0, 1), (1, 1)]) rfl rfl tZ152 rfl tU152 (fun w => by simp []) (LBld.part rfl rfl rfl (LSpl.c LSpl.z) (LBld.part rfl rfl rfl (LSpl.s (LSpl.c LSpl.z)) LBld.none))) ?_
  refine J.op rfl (op_callR (H1 := HY) [_] rfl rfl rfl rfl rfl rfl (hw i x _ _ hget hIJ hY) ?_ (fun _ _ _ _ h => by cases h.1) (fun _ _ h => by cases h.1))
  intro v3 I4 H5 hle6 hp7
  have hIJ := hIJ.mono hle6
  obtain ⟨h, hY1⟩ := hp7; cases h
  refine J.nil (Ej.blkNormal (Ej.seq (Cj.region (J.z (yl_add rfl rfl rfl (w64 (by omega))) ?_))))
  refine J.z q0 ?_
  refine J.nil (Ej.round ⟨i + 1, _, H5⟩ ⟨by dsimp only; omega, hIJ, hY1⟩ (by dsimp only; omega) ⟨rfl, rfl, rfl, rfl, rfl, rfl, trivial⟩ rfl rfl)
 have hc2p := odf hc2
 have hil : i = v.ws.length := by omega
 subst hil
 refine Cj.exit (Ej.seqExit (Ej.loopExit (Ej.blkExit (Ej.seq (Cj.sr (J.z (q2 (off' := 1) tU142 tS9) ?_))))))
 refine J.z (q3 tA9 (Blk.at 0 rfl)) ?_
 refine J.z (yl_neqStr rfl rfl rfl) ?_
 refine J.cd (fun hc8 => ?_) (fun hc8 => ?_)
 ·have hc8p := bne_iff_ne.1 hc8
  have hkey : v.key ≠ [] := bne_iff_ne.1 hc8
  refine Cj.region (J.z q0 ?_)
  refine J.z (q2 (off' := 0) tU142 tS9) ?_
  refine J.z (q3 tA9 (Blk.at 0 rfl)) ?_
  refine J.z (q2 (off' := 1) tU142 tS9) ?_
  refine J.z (q3 tA9 (Blk.at 0 rfl)) ?_
  refine J.z (yl_buildS (pl := #[(0, 1), (1, 1)]) rfl rfl tZ152 rfl tU152 (fun w => by simp []) (LBld.part rfl rfl rfl (LSpl.c LSpl.z) (LBld.part rfl rfl rfl (LSpl.s (LSpl.c LSpl.z)) LBld.none))) ?_
  refine J.op rfl (op_callR (H1 := HY) [_] rfl rfl rfl rfl rfl rfl (hk _ _ hkey hIJ hY) ?_ (fun _ _ _ _ h => by cases h.1) (fun _ _ h => by cases h.1))
  intro v9 I10 H11 hle12 hp13
  obtain ⟨h, hZ⟩ := hp13; cases h
  refine J.nil (Ej.keep (Keeps.d Keeps.r) ?_)
  refine Ej.end0 rfl rfl ?_
  exact ⟨rfl, hZ⟩
 have hc8p := bne_f hc8
 have hkey : v.key = [] := bne_f hc8
 refine Cj.skip (Ej.keep (Keeps.d Keeps.r) ?_)
 refine Ej.end0 rfl rfl ?_
 exact ⟨rfl, hz hkey _ hY⟩
end Go.Proofs.YtekmeaoblpfnpaaGreatDoor
namespace Go.Proofs.YtekmeaoblpfnpaaGreatDoor
open Go Go.Sx
theorem bump_add (f : Ix.Pl → Ix.Rec → Nat) (t : Ix.Rec) (xs : List Ix.Pl) (q : Ix.Pl) : bump (Ix.way f t fun p => xs.count p) q t (· + 1) = Ix.way f t fun p => (xs ++ [q]).count p := by
  funext p u
  unfold bump Ix.way
  by_cases hu : u = t
  · subst hu
    by_cases hp : p = q
    · subst hp; simp
    have h1 : (p == q) = false := by simpa using hp
    have h2 : List.count p [q] = 0 := List.count_eq_zero.2 (by simpa using hp)
    simp [h1, List.count_append, h2]
  have h1 : (u == t) = false := by simpa using hu
  simp [h1, hu]
theorem bump_del (f : Ix.Pl → Ix.Rec → Nat) (t : Ix.Rec) (ys : List Ix.Pl) (q : Ix.Pl) : bump (Ix.way f t fun p => (q :: ys).count p) q t (· - 1) = Ix.way f t fun p => ys.count p := by
  funext p u
  unfold bump Ix.way
  by_cases hu : u = t
  · subst hu
    by_cases hp : p = q
    · subst hp; simp
    have h1 : (p == q) = false := by simpa using hp
    have h2 : (q == p) = false := by simpa using Ne.symm hp
    simp [h1, List.count_cons, h2]
  have h1 : (u == t) = false := by simpa using hu
  simp [h1, hu]
theorem way_at (f : Ix.Pl → Ix.Rec → Nat) (t : Ix.Rec) (n : Ix.Pl → Nat) (p : Ix.Pl) : Ix.way f t n p t = n p := if_pos rfl
def VOK (vs : List Ix.V) : Prop := vs.length ≤ 10000000 ∧ ∀ v ∈ vs, v.ws.length ≤ 10000000
theorem plW_len : ∀ (vs : List Ix.V), (∀ v ∈ vs, v.ws.length ≤ 10000000) → (Ix.plW vs).length ≤ vs.length * 10000000
  | [], _ => by simp [Ix.plW]
  | v :: r, h => by
    have h1 := plW_len r fun x hx => h x (.tail _ hx)
    have h2 := h v (.head _)
    unfold Ix.plW at h1 ⊢
    rw [List.flatMap_cons, List.length_append, List.length_map, List.length_cons, Nat.add_mul]; omega
theorem plK_len : ∀ (vs : List Ix.V), (Ix.plK vs).length ≤ vs.length
  | [] => by simp [Ix.plK]
  | v :: r => by
    have h1 := plK_len r
    unfold Ix.plK at h1 ⊢
    rw [List.flatMap_cons, List.length_append, List.length_cons]
    by_cases hk : v.key = []
    · rw [if_pos hk, List.length_nil]; omega
    rw [if_neg hk, List.length_singleton]; omega
theorem VOK.w {vs : List Ix.V} (h : VOK vs) : (Ix.plW vs).length ≤ 100000000000000 := nlt (plW_len vs h.2) (Nat.mul_le_mul_right _ h.1)
theorem VOK.k {vs : List Ix.V} (h : VOK vs) : (Ix.plK vs).length ≤ 10000000 := nlt (plK_len vs) h.1
theorem vok_of {fs : List Ke.Fld} (h : EOK fs) : VOK (Ix.vals fs) := by
  have h1 := vals_take fs h fs.length
  rw [List.take_length] at h1
  refine ⟨nlt h1 (nlt (Nat.mul_le_mul_right _ h.1) (by decide)), fun v hv => ?_⟩
  unfold Ix.vals at hv
  obtain ⟨f, hf, hv⟩ := List.mem_flatMap.1 hv
  obtain ⟨k1, k2, k3⟩ := h.2 f hf
  have hw : v.ws.length ≤ v.text.length + 1 := (Ke.words_len v.text).1
  unfold Ix.vals1 at hv
  rcases List.mem_append.1 hv with g | g
  · obtain ⟨s, hs, rfl⟩ := List.mem_map.1 g
    have := named_text hs
    dsimp only at hw; omega
  split at g
  · rw [List.mem_singleton] at g
    subst g
    have := textX_len f []
    rw [textX_all] at this
    dsimp only at hw; omega
  cases g
structure Ist where
  vb : Nat
  wb : Nat
  kb : Nat
  lv : ML Ix.Rec
  cv : Nat
  lw : ML Ix.Pl
  cw : Nat
  Nw : Nest Ix.Pl Ix.Rec
  lk : ML Ix.Pl
  ck : Nat
  Nk : Nest Ix.Pl Ix.Rec
def istH (ib : Nat) (s : Ist) : HL := (s.vb, mobj kvR s.lv s.cv) :: (ib, cel 114 (ixC s.vb s.wb s.kb)) :: (setH s.wb s.lw s.cw s.Nw ++ setH s.kb s.lk s.ck s.Nk)
def ValMap (I : Heap) (lv : ML Ix.Rec) (L : Ix.Ix) : Prop := ∀ t, (Ix.rget L t = none → mget lv t = none) ∧ ∀ vs, Ix.rget L t = some vs → ∃ w, mget lv t = some w ∧ ValsS I vs w
theorem ValMap.mono {I I' : Heap} {lv : ML Ix.Rec} {L : Ix.Ix} (h : ValMap I lv L) (hle : Le I I') : ValMap I' lv L := fun t => ⟨(h t).1, fun vs hv => let ⟨w, h1, h2⟩ := (h t).2 vs hv; ⟨w, h1, h2.mono hle⟩⟩
theorem ValsS.nil (I : Heap) : ValsS I [] (.slice none 0 0) := ⟨[], RowT.nil, rfl, fun _ h => by cases h⟩
theorem ValMap.at {I : Heap} {lv : ML Ix.Rec} {L : Ix.Ix} (h : ValMap I lv L) (t : Ix.Rec) : ∃ w, (mget lv t).getD (.slice none 0 0) = w ∧ ValsS I ((Ix.rget L t).getD []) w := by
  cases hg : Ix.rget L t with
  | none => rw [(h t).1 hg]; exact ⟨_, rfl, ValsS.nil I⟩
  | some vs =>
    obtain ⟨w, h1, h2⟩ := (h t).2 vs hg
    rw [h1]; exact ⟨w, rfl, h2⟩
structure IstOk (I : Heap) (s : Ist) (L : Ix.Ix) : Prop where
  srt : Ix.Srt L
  big : L.length ≤ 100000
  vok : ∀ e ∈ L, VOK e.2
  vms : MS s.lv s.cv
  vals : ValMap I s.lv L
  nw : NestS s.lw s.cw s.Nw (Ix.cnt Ix.plW L)
  nk : NestS s.lk s.ck s.Nk (Ix.cnt Ix.plK L)
theorem IstOk.mono {I I' : Heap} {s : Ist} {L : Ix.Ix} (h : IstOk I s L) (hle : Le I I') : IstOk I' s L := ⟨h.srt, h.big, h.vok, h.vms, h.vals.mono hle, h.nw, h.nk⟩
theorem cnt_way (pl : List Ix.V → List Ix.Pl) (h0 : pl [] = []) (L : Ix.Ix) (t : Ix.Rec) : Ix.cnt pl L = Ix.way (Ix.cnt pl L) t fun p => (pl ((Ix.rget L t).getD [])).count p := by
  cases hg : Ix.rget L t with
  | none =>
    rw [Option.getD_none, h0]
    exact Ix.cnt_none hg
  | some vs => exact Ix.cnt_some hg
theorem rget_vok {L : Ix.Ix} (hs : Ix.Srt L) (h : ∀ e ∈ L, VOK e.2) (t : Ix.Rec) : VOK ((Ix.rget L t).getD []) := by
  cases hg : Ix.rget L t with
  | none => exact ⟨Nat.zero_le _, fun _ h => by cases h⟩
  | some vs => exact h _ ((Ix.rget_iff hs).1 hg)
def YS (ib vb wb kb : Nat) (fw fk : Ix.Pl → Ix.Rec → Nat) (Y : HL) : Prop := ∃ lw cw Nw lk ck Nk, NestS lw cw Nw fw ∧ NestS lk ck Nk fk ∧ Y = (ib, cel 114 (ixC vb wb kb)) :: (setH wb lw cw Nw ++ setH kb lk ck Nk)
theorem YS.word {ib vb wb kb : Nat} {fw fk fw' : Ix.Pl → Ix.Rec → Nat} {g : Nat} {args : List Value} {J : Heap} {H : HL} (hY : YS ib vb wb kb fw fk H)
    (h : ∀ l c N, NestS l c N fw → Ctr Tryz.prog g args J ([(ib, cel 114 (ixC vb wb kb))] ++ setH wb l c N) (fun e _ H' => ∃ l' c' N', e = .returned (.tuple #[]) ∧ NestS l' c' N' fw' ∧ H' = [(ib, cel 114 (ixC vb wb kb))] ++ setH wb l' c' N')) :
    Ctr Tryz.prog g args J H (fun e _ H' => e = .returned (.tuple #[]) ∧ YS ib vb wb kb fw' fk H') := by
  obtain ⟨lw, cw, Nw, lk, ck, Nk, h1, h2, rfl⟩ := hY
  refine ((h lw cw Nw h1).frame (setH kb lk ck Nk)).mono fun e I' H' _ ⟨H1, hH, l', c', N', he, hN, hH1⟩ => ⟨he, l', c', N', lk, ck, Nk, hN, h2, ?_⟩
  rw [hH, hH1]; rfl
theorem YS.key {ib vb wb kb : Nat} {fw fk fk' : Ix.Pl → Ix.Rec → Nat} {g : Nat} {args : List Value} {J : Heap} {H : HL} (hY : YS ib vb wb kb fw fk H)
    (h : ∀ l c N, NestS l c N fk → Ctr Tryz.prog g args J ([(ib, cel 114 (ixC vb wb kb))] ++ setH kb l c N) (fun e _ H' => ∃ l' c' N', e = .returned (.tuple #[]) ∧ NestS l' c' N' fk' ∧ H' = [(ib, cel 114 (ixC vb wb kb))] ++ setH kb l' c' N')) :
    Ctr Tryz.prog g args J H (fun e _ H' => e = .returned (.tuple #[]) ∧ YS ib vb wb kb fw fk' H') := by
  obtain ⟨lw, cw, Nw, lk, ck, Nk, h1, h2, rfl⟩ := hY
  have hp : ∀ X, (((ib, cel 114 (ixC vb wb kb)) :: (X ++ setH wb lw cw Nw) : HL)).Perm ((ib, cel 114 (ixC vb wb kb)) :: (setH wb lw cw Nw ++ X)) := fun X => List.Perm.cons _ List.perm_append_comm
  refine (Ctr.perm (hp (setH kb lk ck Nk)) ((h lk ck Nk h2).frame (setH wb lw cw Nw))).leave fun e I' H' _ ⟨H1, hH, l', c', N', he, hN, hH1⟩ => ⟨_, [], ?_, he, lw, cw, Nw, l', c', N', h1, hN, rfl⟩
  rw [List.append_nil, hH, hH1]
  exact (hp _).symm
theorem drop_next {α : Type} {l : List α} {k : Nat} {x : α} (h : l[k]? = some x) : l.drop k = x :: l.drop (k + 1) := by
  obtain ⟨hlt, hg⟩ := List.getElem?_eq_some_iff.1 h
  rw [← hg, List.getElem_cons_drop]
theorem plW_cons (v : Ix.V) (r : List Ix.V) : Ix.plW (v :: r) = v.ws.map (fun w => (v.name, w)) ++ Ix.plW r := by unfold Ix.plW; rw [List.flatMap_cons]
theorem plK_cons (v : Ix.V) (r : List Ix.V) : Ix.plK (v :: r) = (if v.key = [] then [] else [(v.name, v.key)]) ++ Ix.plK r := by unfold Ix.plK; rw [List.flatMap_cons]
theorem plW_one (xs : List Ix.V) (v : Ix.V) : Ix.plW (xs ++ [v]) = Ix.plW xs ++ v.ws.map fun w => (v.name, w) := by unfold Ix.plW; rw [List.flatMap_append]; simp
theorem plK_one (xs : List Ix.V) (v : Ix.V) : Ix.plK (xs ++ [v]) = Ix.plK xs ++ if v.key = [] then [] else [(v.name, v.key)] := by unfold Ix.plK; rw [List.flatMap_append]; simp
theorem plW_drop_len {vs : List Ix.V} (h : VOK vs) (i : Nat) : (Ix.plW (vs.drop i)).length ≤ 100000000000000 :=
  VOK.w ⟨by rw [List.length_drop]; have := h.1; omega, fun v hv => h.2 v (List.mem_of_mem_drop hv)⟩
theorem plK_drop_len {vs : List Ix.V} (h : VOK vs) (i : Nat) : (Ix.plK (vs.drop i)).length ≤ 10000000 :=
  VOK.k ⟨by rw [List.length_drop]; have := h.1; omega, fun v hv => h.2 v (List.mem_of_mem_drop hv)⟩
theorem plW_take_len {vs : List Ix.V} (h : VOK vs) (i : Nat) : (Ix.plW (vs.take i)).length ≤ 100000000000000 :=
  VOK.w ⟨by rw [List.length_take]; have := h.1; omega, fun v hv => h.2 v (List.mem_of_mem_take hv)⟩
theorem plK_take_len {vs : List Ix.V} (h : VOK vs) (i : Nat) : (Ix.plK (vs.take i)).length ≤ 10000000 :=
  VOK.k ⟨by rw [List.length_take]; have := h.1; omega, fun v hv => h.2 v (List.mem_of_mem_take hv)⟩
def YD (ib vb wb kb : Nat) (L : Ix.Ix) (t : Ix.Rec) (vs : List Ix.V) (i : Nat) : HL → Prop := YS ib vb wb kb (Ix.way (Ix.cnt Ix.plW L) t fun p => (Ix.plW (vs.drop i)).count p) (Ix.way (Ix.cnt Ix.plK L) t fun p => (Ix.plK (vs.drop i)).count p)
theorem each_drop (xb eb ib vb wb kb : Nat) (L : Ix.Ix) (t : Ix.Rec) (vs : List Ix.V) (hv : VOK vs) (i : Nat) (v : Ix.V) (wv : Value) (hget : vs[i]? = some v) (I : Heap) (hws : StrS 9 I v.ws wv) (hxb : I xb = some (cel 26 [ptr ib 0])) (heb : I eb = some (cel 54 [i64 t.1, i64 t.2])) (Y : HL) (hY : YD ib vb wb kb L t vs i Y) :
    Ctr Tryz.prog 88 [.agg (vwC (v, wv)).toArray, .func (.func 89) #[] [ptr xb 0, ptr eb 0].toArray, .func (.func 91) #[] [ptr xb 0, ptr eb 0].toArray] I Y (fun e _ H' => e = .returned (.tuple #[]) ∧ YD ib vb wb kb L t vs (i + 1) H') := by
  have hd := drop_next hget
  have hwl := hv.2 v (lmg hget)
  have hlW := plW_drop_len hv i
  have hlK := plK_drop_len hv i
  refine each_ok v wv _ _ [ptr xb 0, ptr eb 0] (fun k => YS ib vb wb kb (Ix.way (Ix.cnt Ix.plW L) t fun p => ((v.ws.drop k).map (fun w => (v.name, w)) ++ Ix.plW (vs.drop (i + 1))).count p) (Ix.way (Ix.cnt Ix.plK L) t fun p => (Ix.plK (vs.drop i)).count p)) (YD ib vb wb kb L t vs (i + 1)) (by omega) I hws Y ?_ ?_ ?_ ?_
  · unfold YD at hY
    rw [hd, plW_cons] at hY
    rw [hd]
    exact hY
  · intro k w H J hk hle hYk
    refine hYk.word fun l c N hN => ?_
    have hdk : (v.ws.drop k).map (fun w => (v.name, w)) ++ Ix.plW (vs.drop (i + 1)) = (v.name, w) :: ((v.ws.drop (k + 1)).map (fun w => (v.name, w)) ++ Ix.plW (vs.drop (i + 1))) := by rw [drop_next hk]; rfl
    rw [hdk] at hN
    have hb := bump_del (Ix.cnt Ix.plW L) t ((v.ws.drop (k + 1)).map (fun w => (v.name, w)) ++ Ix.plW (vs.drop (i + 1))) (v.name, w)
    rw [← hb]
    refine drop1_ok xb eb ib vb wb kb l c N _ (v.name, w) t hN ?_ ?_ J (hle _ _ hxb) (hle _ _ heb)
    · rw [way_at]; exact List.one_le_count_iff.2 (.head _)
    rw [way_at]
    refine nlt List.count_le_length ?_
    have h9 : ((v.name, w) :: ((v.ws.drop (k + 1)).map (fun w => (v.name, w)) ++ Ix.plW (vs.drop (i + 1)))).length ≤ (Ix.plW (vs.drop i)).length := by
      rw [hd, plW_cons, ← hdk, List.length_append, List.length_append, List.length_map, List.length_map, List.length_drop]; omega
    omega
  · intro H J hne hle hYk
    have hY2 : YS ib vb wb kb (Ix.way (Ix.cnt Ix.plW L) t fun p => (Ix.plW (vs.drop (i + 1))).count p) (Ix.way (Ix.cnt Ix.plK L) t fun p => ((v.name, v.key) :: Ix.plK (vs.drop (i + 1))).count p) H := by
      rw [List.drop_length, List.map_nil, List.nil_append, hd, plK_cons, if_neg hne] at hYk
      exact hYk
    unfold YD
    refine hY2.key fun l c N hN => ?_
    rw [← bump_del (Ix.cnt Ix.plK L) t (Ix.plK (vs.drop (i + 1))) (v.name, v.key)]
    refine drop2_ok xb eb ib vb wb kb l c N _ (v.name, v.key) t hN ?_ ?_ J (hle _ _ hxb) (hle _ _ heb)
    · rw [way_at]; exact List.one_le_count_iff.2 (.head _)
    rw [way_at]
    refine nlt List.count_le_length ?_
    rw [hd, plK_cons, if_neg hne] at hlK
    have : ((v.name, v.key) :: Ix.plK (vs.drop (i + 1))).length ≤ 10000000 := hlK
    omega
  intro he H hYk
  rw [List.drop_length, List.map_nil, List.nil_append, hd, plK_cons, if_pos he, List.nil_append] at hYk
  exact hYk
def YP (ib vb wb kb : Nat) (L : Ix.Ix) (t : Ix.Rec) (vs : List Ix.V) (i : Nat) : HL → Prop := YS ib vb wb kb (Ix.way (Ix.cnt Ix.plW L) t fun p => (Ix.plW (vs.take i)).count p) (Ix.way (Ix.cnt Ix.plK L) t fun p => (Ix.plK (vs.take i)).count p)
theorem take_one {α : Type} {l : List α} {k : Nat} {x : α} (h : l[k]? = some x) : l.take (k + 1) = l.take k ++ [x] := by
  obtain ⟨hlt, hg⟩ := List.getElem?_eq_some_iff.1 h
  rw [List.take_succ_eq_append_getElem hlt, hg]
theorem each_put (xb eb ib vb wb kb : Nat) (ek el : UInt8) (ev : Value) (L : Ix.Ix) (t : Ix.Rec) (vs : List Ix.V) (hv : VOK vs) (i : Nat) (v : Ix.V) (wv : Value) (hget : vs[i]? = some v) (I : Heap) (hws : StrS 9 I v.ws wv) (hxb : I xb = some (cel 26 [ptr ib 0])) (heb : I eb = some (cel 59 [i64 t.1, i64 t.2, u8 ek, u8 el, ev])) (Y : HL) (hY : YP ib vb wb kb L t vs i Y) :
    Ctr Tryz.prog 88 [.agg (vwC (v, wv)).toArray, .func (.func 96) #[] [ptr xb 0, ptr eb 0].toArray, .func (.func 98) #[] [ptr xb 0, ptr eb 0].toArray] I Y (fun e _ H' => e = .returned (.tuple #[]) ∧ YP ib vb wb kb L t vs (i + 1) H') := by
  have hd := take_one hget
  have hwl := hv.2 v (lmg hget)
  have hlW := plW_take_len hv (i + 1)
  have hlK := plK_take_len hv (i + 1)
  refine each_ok v wv _ _ [ptr xb 0, ptr eb 0] (fun k => YS ib vb wb kb (Ix.way (Ix.cnt Ix.plW L) t fun p => (Ix.plW (vs.take i) ++ (v.ws.take k).map (fun w => (v.name, w))).count p) (Ix.way (Ix.cnt Ix.plK L) t fun p => (Ix.plK (vs.take i)).count p)) (YP ib vb wb kb L t vs (i + 1)) (by omega) I hws Y ?_ ?_ ?_ ?_
  · unfold YP at hY
    rw [List.take_zero, List.map_nil, List.append_nil]
    exact hY
  · intro k w H J hk hle hYk
    refine hYk.word fun l c N hN => ?_
    have hdk : Ix.plW (vs.take i) ++ (v.ws.take (k + 1)).map (fun w => (v.name, w)) = (Ix.plW (vs.take i) ++ (v.ws.take k).map (fun w => (v.name, w))) ++ [(v.name, w)] := by rw [take_one hk, List.map_append, List.append_assoc]; rfl
    rw [hdk, ← bump_add (Ix.cnt Ix.plW L) t (Ix.plW (vs.take i) ++ (v.ws.take k).map (fun w => (v.name, w))) (v.name, w)]
    refine put1_ok xb eb ib vb wb kb ek el ev l c N _ (v.name, w) t hN ?_ J (hle _ _ hxb) (hle _ _ heb)
    rw [way_at]
    refine nlt List.count_le_length ?_
    have h9 : (Ix.plW (vs.take i) ++ (v.ws.take k).map (fun w => (v.name, w))).length ≤ (Ix.plW (vs.take (i + 1))).length := by
      rw [hd, plW_one, List.length_append, List.length_append, List.length_map, List.length_map, List.length_take]; omega
    omega
  · intro H J hne hle hYk
    have hY2 : YS ib vb wb kb (Ix.way (Ix.cnt Ix.plW L) t fun p => (Ix.plW (vs.take (i + 1))).count p) (Ix.way (Ix.cnt Ix.plK L) t fun p => (Ix.plK (vs.take i)).count p) H := by
      rw [List.take_length, ← plW_one, ← hd] at hYk
      exact hYk
    unfold YP
    refine hY2.key fun l c N hN => ?_
    have e1 : Ix.plK (vs.take (i + 1)) = Ix.plK (vs.take i) ++ [(v.name, v.key)] := by rw [hd, plK_one, if_neg hne]
    rw [e1, ← bump_add (Ix.cnt Ix.plK L) t (Ix.plK (vs.take i)) (v.name, v.key)]
    refine put2_ok xb eb ib vb wb kb ek el ev l c N _ (v.name, v.key) t hN ?_ J (hle _ _ hxb) (hle _ _ heb)
    rw [way_at]
    refine nlt List.count_le_length ?_
    rw [e1, List.length_append] at hlK
    omega
  intro he H hYk
  unfold YP
  rw [List.take_length, ← plW_one, ← hd] at hYk
  have e1 : Ix.plK (vs.take (i + 1)) = Ix.plK (vs.take i) := by rw [hd, plK_one, if_pos he, List.append_nil]
  rw [e1]
  exact hYk
structure DA where
  i : Nat
  J : Heap
  Y : HL
theorem rput_len (t : Ix.Rec) (v : List Ix.V) : ∀ L : Ix.Ix, (Ix.rput t v L).length ≤ L.length + 1
  | [] => by simp [Ix.rput]
  | (u, x) :: r => by
    unfold Ix.rput
    split
    · have := rput_len t v r; rw [List.length_cons, List.length_cons]; omega
    split
    · simp
    simp
theorem IstOk.drop {I I' : Heap} {vb wb kb : Nat} {lv : ML Ix.Rec} {cv : Nat} {lw : ML Ix.Pl} {cw : Nat} {Nw : Nest Ix.Pl Ix.Rec} {lk : ML Ix.Pl} {ck : Nat} {Nk : Nest Ix.Pl Ix.Rec} {L : Ix.Ix} (h : IstOk I ⟨vb, wb, kb, lv, cv, lw, cw, Nw, lk, ck, Nk⟩ L) (hle : Le I I') (t : Ix.Rec) {lw2 : ML Ix.Pl} {cw2 : Nat} {Nw2 : Nest Ix.Pl Ix.Rec} {lk2 : ML Ix.Pl} {ck2 : Nat} {Nk2 : Nest Ix.Pl Ix.Rec}
    (hw : NestS lw2 cw2 Nw2 (Ix.way (Ix.cnt Ix.plW L) t fun p => (Ix.plW []).count p)) (hk : NestS lk2 ck2 Nk2 (Ix.way (Ix.cnt Ix.plK L) t fun p => (Ix.plK []).count p)) : IstOk I' ⟨vb, wb, kb, mdel lv t, cv, lw2, cw2, Nw2, lk2, ck2, Nk2⟩ (Ix.rdrop t L) := by
  refine ⟨Ix.rdrop_srt t h.srt, nlt (List.length_filter_le _ _) h.big, fun e he => h.vok e ((Ix.rdrop_mem t L e).1 he).1, h.vms.del t, fun u => ⟨fun hu => ?_, fun vs hu => ?_⟩, ?_, ?_⟩
  · show mget (mdel lv t) u = none
    rw [mget_mdel h.vms.1]
    split
    · rfl
    rename_i hne
    rw [Ix.rget_rdrop h.srt, if_neg (by simpa using hne)] at hu
    exact (h.vals u).1 hu
  · rw [Ix.rget_rdrop h.srt] at hu
    split at hu
    · cases hu
    rename_i hne
    obtain ⟨w, h1, h2⟩ := (h.vals u).2 vs hu
    refine ⟨w, ?_, h2.mono hle⟩
    show mget (mdel lv t) u = some w
    rw [mget_mdel h.vms.1, if_neg (by simpa using hne)]; exact h1
  · rw [Ix.cnt_rdrop h.srt]; exact hw
  rw [Ix.cnt_rdrop h.srt]; exact hk
theorem IstOk.put {I : Heap} {vb wb kb : Nat} {lv : ML Ix.Rec} {cv : Nat} {lw : ML Ix.Pl} {cw : Nat} {Nw : Nest Ix.Pl Ix.Rec} {lk : ML Ix.Pl} {ck : Nat} {Nk : Nest Ix.Pl Ix.Rec} {L : Ix.Ix} (h : IstOk I ⟨vb, wb, kb, lv, cv, lw, cw, Nw, lk, ck, Nk⟩ L) {t : Ix.Rec} (hL : L.length < 100000) {vs : List Ix.V} (hv : VOK vs) {w : Value} (hw0 : ValsS I vs w) {lw2 : ML Ix.Pl} {cw2 : Nat} {Nw2 : Nest Ix.Pl Ix.Rec} {lk2 : ML Ix.Pl} {ck2 : Nat} {Nk2 : Nest Ix.Pl Ix.Rec}
    (hw : NestS lw2 cw2 Nw2 (Ix.way (Ix.cnt Ix.plW L) t fun p => (Ix.plW vs).count p)) (hk : NestS lk2 ck2 Nk2 (Ix.way (Ix.cnt Ix.plK L) t fun p => (Ix.plK vs).count p)) : IstOk I ⟨vb, wb, kb, mset lv t w cv, mclk lv t cv, lw2, cw2, Nw2, lk2, ck2, Nk2⟩ (Ix.rput t vs L) := by
  refine ⟨Ix.rput_srt t vs h.srt, ?_, fun e he => ?_, h.vms.set t w, fun u => ⟨fun hu => ?_, fun us hu => ?_⟩, ?_, ?_⟩
  · have := rput_len t vs L; omega
  · rcases (Ix.rput_mem t vs h.srt e).1 he with g | g
    · rw [g]; exact hv
    exact h.vok e g.1
  · show mget (mset lv t w cv) u = none
    rw [Ix.rget_rput h.srt] at hu
    rw [mget_mset]
    split at hu
    · cases hu
    rename_i hne
    rw [if_neg (by simpa using hne)]; exact (h.vals u).1 hu
  · show ∃ w', mget (mset lv t w cv) u = some w' ∧ _
    rw [Ix.rget_rput h.srt] at hu
    rw [mget_mset]
    split at hu
    · rename_i he
      cases hu
      exact ⟨w, by rw [if_pos (by simpa using he)], hw0⟩
    rename_i hne
    rw [if_neg (by simpa using hne)]; exact (h.vals u).2 us hu
  · rw [Ix.cnt_rput h.srt]; exact hw
  rw [Ix.cnt_rput h.srt]; exact hk
theorem ist_new (I : Heap) (vb wb kb : Nat) : IstOk I ⟨vb, wb, kb, [], 0, [], 0, [], [], 0, []⟩ [] :=
  ⟨List.Pairwise.nil, Nat.zero_le _, fun _ h => (by cases h), MS.nil, fun _ => ⟨fun _ => rfl, fun _ h => by cases h⟩, NestS.nil, NestS.nil⟩
