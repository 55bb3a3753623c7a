/-
  A small logic over the guide's 'Code.wp': the frame as a list of known slots, the memory as a persistent part (I) and an owned part (H).
  Own text; nothing of any program stands in it. Conditions: none.
-/
import Derived.WalkKit
import Derived.OrdersHeld
import Derived.Deep.LoopGhost
import Derived.KernelRfl
namespace Go.Sx
open Go

abbrev Heap := Nat → Option Obj
abbrev HL := List (Nat × Obj)
abbrev Env := List (Nat × Value)

def eg : Env → Nat → Option Value
  | [], _ => none
  | (k, v) :: r, t => bif Nat.beq k t then some v else eg r t

def ev (e : Env) : Operand → Option Value
  | .tmp t => eg e t
  | .const v => some v
  | .global g => some (.pointer (some ⟨g, 0, none⟩))
  | .func f => some (.func (.func f) #[] #[])

def evs (e : Env) : List Operand → Option (List Value)
  | [] => some []
  | x :: r => match ev e x, evs e r with
    | some v, some vs => some (v :: vs)
    | _, _ => none

def Sub : Env → Env → Prop
  | [], _ => True
  | (t, v) :: r, e => eg e t = some v ∧ Sub r e

structure Has (a : Act) (n : Nat) (e : Env) (ds : List Deferred) : Prop where
  size : a.tmps.size = n
  defs : a.defers = ds
  get : ∀ t v, eg e t = some v → a.tmps[t]? = some v

theorem eg_cons (k : Nat) (v : Value) (r : Env) (t : Nat) : eg ((k, v) :: r) t = if k = t then some v else eg r t := by
  show (bif Nat.beq k t then some v else eg r t) = _
  by_cases h : k = t
  · subst h; simp
  · have : Nat.beq k t = false := by
      cases hb : Nat.beq k t with
      | false => rfl
      | true => exact absurd (Nat.eq_of_beq_eq_true hb) h
    rw [this, if_neg h]; rfl

theorem Sub.get : ∀ {e' e : Env}, Sub e' e → ∀ t v, eg e' t = some v → eg e t = some v
  | [], _, _, t, v, h => by simp [eg] at h
  | (k, u) :: r, e, ⟨h1, h2⟩, t, v, h => by
    rw [eg_cons] at h
    by_cases hk : k = t
    · subst hk; simp at h; subst h; exact h1
    · simp only [hk, if_false] at h; exact Sub.get h2 t v h

section has
variable {a : Act} {n : Nat} {e : Env} {ds : List Deferred}
theorem Has.sub {e' : Env} (h : Has a n e ds) (hs : Sub e' e) : Has a n e' ds := ⟨h.size, h.defs, fun t v hv => h.get t v (hs.get t v hv)⟩
theorem Has.eval (h : Has a n e ds) {x : Operand} {v : Value} (hx : ev e x = some v) : a.eval x = v := by
  cases x with
  | tmp t =>
    have := h.get t v hx
    simp [Act.eval, this]
  | const c => simpa [ev, Act.eval] using hx
  | global g => simpa [ev, Act.eval] using hx
  | func f => simpa [ev, Act.eval] using hx
theorem Has.evals (h : Has a n e ds) : ∀ {xs : List Operand} {vs : List Value}, evs e xs = some vs → xs.map a.eval = vs
  | [], vs, hx => by simp [evs] at hx; subst hx; rfl
  | x :: r, vs, hx => by
    simp only [evs] at hx
    split at hx
    · rename_i v vs' h1 h2
      cases hx
      simp [h.eval h1, Has.evals h h2]
    · cases hx
theorem Has.put (h : Has a n e ds) {d : Nat} {v : Value} (hd : Nat.blt d n = true) : Has (a.put (some d) v) n ((d, v) :: e) ds := by
  have hd' : d < n := by simpa [Nat.blt_eq] using hd
  refine ⟨by simpa [Act.put] using h.size, by simpa [Act.put] using h.defs, fun t u hu => ?_⟩
  rw [eg_cons] at hu
  have hs := h.size
  by_cases hk : d = t
  · subst hk
    simp at hu; subst hu
    simp [Act.put, hs, hd']
  · simp only [hk, if_false] at hu
    simp [Act.put, hk]
    have := h.get t u hu
    simpa using this
theorem Has.putNone (h : Has a n e ds) {v : Value} : Has (a.put none v) n e ds := h
end has

def argsEnv : Nat → List Value → Env
  | _, [] => []
  | k, v :: r => (k, v) :: argsEnv (k + 1) r

theorem argsEnv_get : ∀ (l : List Value) (k t : Nat) (v : Value), eg (argsEnv k l) t = some v → k ≤ t ∧ l[t - k]? = some v
  | [], k, t, v, h => by simp [argsEnv, eg] at h
  | u :: r, k, t, v, h => by
    simp only [argsEnv] at h
    rw [eg_cons] at h
    by_cases hk : k = t
    · subst hk; simp at h; subst h; simp
    · simp only [hk, if_false] at h
      obtain ⟨h1, h2⟩ := argsEnv_get r (k + 1) t v h
      refine ⟨by omega, ?_⟩
      have : t - k = (t - (k + 1)) + 1 := by omega
      rw [this]; simpa using h2

theorem Has.start (l : List Value) (n : Nat) (hn : l.length ≤ n) :
    Has { tmps := l.toArray ++ Array.replicate (n - l.toArray.size) undef, defers := [] } n (argsEnv 0 l) [] := by
  refine ⟨by simp; omega, rfl, fun t v h => ?_⟩
  obtain ⟨_, h2⟩ := argsEnv_get l 0 t v h
  have ht : t < l.length := by
    rcases Nat.lt_or_ge t l.length with h' | h'
    · exact h'
    · simp [List.getElem?_eq_none h'] at h2
  simp only [Nat.sub_zero] at h2
  rw [Array.getElem?_append_left (by simpa using ht)]
  simpa using h2

/-! ### Memory -/
def Le (I I' : Heap) : Prop := ∀ b o, I b = some o → I' b = some o
theorem Le.refl (I : Heap) : Le I I := fun _ _ h => h
theorem Le.trans {I J K : Heap} (h : Le I J) (k : Le J K) : Le I K := fun b o x => k b o (h b o x)

structure St (w0 : World) (D : List Nat) (I0 I : Heap) (H : HL) (w : World) : Prop where
  os : w.os = w0.os
  tape : w.tape = w0.tape
  output : w.output = w0.output
  size : w0.heap.size ≤ w.heap.size
  frm : ∀ b, b < w0.heap.size → b ∉ D → w.heap[b]? = w0.heap[b]?
  sub : ∀ b o, I b = some o → w.heap[b]? = some o
  own : ∀ p ∈ H, w.heap[p.1]? = some p.2
  nodup : (H.map (·.1)).Nodup
  dis : ∀ p ∈ H, I p.1 = none
  new : ∀ p ∈ H, p.1 ∈ D ∨ w0.heap.size ≤ p.1
  ifr : ∀ b, b < w0.heap.size → I b = I0 b
  le : Le I0 I

theorem St.start (w : World) (I : Heap) (H : HL) (h1 : ∀ b o, I b = some o → w.heap[b]? = some o) (h2 : ∀ p ∈ H, w.heap[p.1]? = some p.2)
    (h3 : (H.map (·.1)).Nodup) (h4 : ∀ p ∈ H, I p.1 = none) : St w (H.map (·.1)) I I H w :=
  ⟨rfl, rfl, rfl, Nat.le_refl _, fun _ _ _ => rfl, h1, h2, h3, h4, fun _p hp => .inl (List.mem_map_of_mem hp), fun _ _ => rfl, Le.refl _⟩

section st
variable {w0 : World} {D : List Nat} {I0 I : Heap} {H : HL} {w : World}
theorem St.lt (h : St w0 D I0 I H w) {p : Nat × Obj} (hp : p ∈ H) : p.1 < w.heap.size := by
  have := h.own p hp
  rcases Nat.lt_or_ge p.1 w.heap.size with h' | h'
  · exact h'
  · simp [Array.getElem?_eq_none h'] at this
theorem St.drew (h : St w0 D I0 I H w) : St w0 D I0 I H { w with drawn := w.drawn + 1 } :=
  ⟨h.os, h.tape, h.output, h.size, h.frm, h.sub, h.own, h.nodup, h.dis, h.new, h.ifr, h.le⟩
theorem St.drewN (h : St w0 D I0 I H w) (k : Nat) : St w0 D I0 I H { w with drawn := k } :=
  ⟨h.os, h.tape, h.output, h.size, h.frm, h.sub, h.own, h.nodup, h.dis, h.new, h.ifr, h.le⟩
/-- Owned blocks may be forgotten, or listed in another order. -/
theorem St.keep {H' : HL} (h : St w0 D I0 I H w) (hs : ∀ p ∈ H', p ∈ H) (hn : (H'.map (·.1)).Nodup) : St w0 D I0 I H' w :=
  ⟨h.os, h.tape, h.output, h.size, h.frm, h.sub, fun p hp => h.own p (hs p hp), hn, fun p hp => h.dis p (hs p hp), fun p hp => h.new p (hs p hp), h.ifr, h.le⟩
theorem St.sublist {H' : HL} (h : St w0 D I0 I H w) (hs : H'.Sublist H) : St w0 D I0 I H' w :=
  h.keep (fun _ hp => hs.subset hp) (h.nodup.sublist (hs.map _))
theorem St.perm {H' : HL} (h : St w0 D I0 I H w) (hs : H'.Perm H) : St w0 D I0 I H' w :=
  h.keep (fun _ hp => hs.mem_iff.1 hp) ((hs.map _).nodup_iff.2 h.nodup)
/-- A new block, owned. -/
theorem St.alloc (h : St w0 D I0 I H w) (o : Obj) : St w0 D I0 I ((w.heap.size, o) :: H) { w with heap := w.heap.push o } := by
  have hlt : ∀ {b : Nat} {o' : Obj}, w.heap[b]? = some o' → b < w.heap.size := fun {b o'} hb => by
    rcases Nat.lt_or_ge b w.heap.size with h' | h'
    · exact h'
    · simp [Array.getElem?_eq_none h'] at hb
  have hold : ∀ {b : Nat} {o' : Obj}, w.heap[b]? = some o' → (w.heap.push o)[b]? = some o' := fun {b o'} hb => by
    rw [Array.getElem?_push, if_neg (by have := hlt hb; omega)]; exact hb
  refine ⟨h.os, h.tape, h.output, by have := h.size; simp; omega, fun b hb hd => ?_, fun b o' hb => hold (h.sub b o' hb), ?_, ?_, ?_, ?_, h.ifr, h.le⟩
  · rw [← h.frm b hb hd]
    show (w.heap.push o)[b]? = _
    rw [Array.getElem?_push, if_neg (by have := h.size; omega)]
  · intro p hp
    cases hp with
    | head => simp
    | tail _ hp => exact hold (h.own p hp)
  · simp only [List.map_cons, List.nodup_cons]
    refine ⟨fun hm => ?_, h.nodup⟩
    obtain ⟨p, hp, he⟩ := List.mem_map.1 hm
    have := h.lt hp
    omega
  · intro p hp
    cases hp with
    | head =>
      cases hi : I w.heap.size with
      | none => rfl
      | some o' => have := hlt (h.sub _ _ hi); omega
    | tail _ hp => exact h.dis p hp
  · intro p hp
    cases hp with
    | head => exact .inr h.size
    | tail _ hp => exact h.new p hp
/-- What stands at a key. -/
def hset (b : Nat) (o : Obj) : HL → HL
  | [] => []
  | (c, x) :: r => if c = b then (c, o) :: r else (c, x) :: hset b o r
theorem hset_map (b : Nat) (o : Obj) : ∀ H : HL, (hset b o H).map (·.1) = H.map (·.1)
  | [] => rfl
  | (c, x) :: r => by
    unfold hset
    split
    · rfl
    · simp [hset_map b o r]
theorem hset_mem (b : Nat) (o : Obj) : ∀ (H : HL), (H.map (·.1)).Nodup → ∀ p ∈ hset b o H, (p = (b, o)) ∨ (p ∈ H ∧ p.1 ≠ b)
  | [], _, p, hp => by cases hp
  | (c, x) :: r, hn, p, hp => by
    simp only [List.map_cons, List.nodup_cons] at hn
    unfold hset at hp
    split at hp
    · rename_i hc; subst hc
      cases hp with
      | head => exact .inl rfl
      | tail _ hp =>
        refine .inr ⟨.tail _ hp, fun he => hn.1 ?_⟩
        rw [← he]; exact List.mem_map_of_mem hp
    · rename_i hc
      cases hp with
      | head => exact .inr ⟨.head _, hc⟩
      | tail _ hp =>
        rcases hset_mem b o r hn.2 p hp with h | h
        · exact .inl h
        · exact .inr ⟨.tail _ h.1, h.2⟩
/-- An owned block turned into another one, by whatever writes it alone. -/
theorem St.write {w' : World} {b : Nat} {o o' : Obj} (h : St w0 D I0 I H w) (hm : (b, o) ∈ H) (hos : w'.os = w.os) (ht : w'.tape = w.tape) (hout : w'.output = w.output)
    (hsz : w'.heap.size = w.heap.size) (hb : w'.heap[b]? = some o') (hne : ∀ c, c ≠ b → w'.heap[c]? = w.heap[c]?) : St w0 D I0 I (hset b o' H) w' := by
  have hin : ∀ p ∈ hset b o' H, ∃ q ∈ H, q.1 = p.1 := fun p hp => by
    have : p.1 ∈ (hset b o' H).map (·.1) := List.mem_map_of_mem hp
    rw [hset_map] at this
    obtain ⟨q, hq, he⟩ := List.mem_map.1 this
    exact ⟨q, hq, he⟩
  refine ⟨hos.trans h.os, ht.trans h.tape, hout.trans h.output, by rw [hsz]; exact h.size, fun c hc hd => ?_, fun c x hx => ?_, fun p hp => ?_, by rw [hset_map]; exact h.nodup, fun p hp => ?_, fun p hp => ?_, h.ifr, h.le⟩
  · have : c ≠ b := fun he => by
      rcases h.new _ hm with h' | h'
      · exact hd (he ▸ h')
      · simp at h'; omega
    rw [hne c this]; exact h.frm c hc hd
  · have : c ≠ b := fun he => by
      have := h.dis _ hm
      simp only at this
      rw [he] at hx; rw [this] at hx; cases hx
    rw [hne c this]; exact h.sub c x hx
  · rcases hset_mem b o' H h.nodup p hp with rfl | ⟨h1, h2⟩
    · exact hb
    · rw [hne _ h2]; exact h.own p h1
  · obtain ⟨q, hq, he⟩ := hin p hp
    rw [← he]; exact h.dis q hq
  · obtain ⟨q, hq, he⟩ := hin p hp
    rw [← he]; exact h.new q hq
/-- An owned new block becomes persistent. -/
def hput (b : Nat) (o : Obj) (I : Heap) : Heap := fun c => if c = b then some o else I c
theorem St.persist {b : Nat} {o : Obj} {R : HL} (h : St w0 D I0 I ((b, o) :: R) w) (hb : w0.heap.size ≤ b) :
    St w0 D I0 (hput b o I) R w := by
  have hnd := h.nodup
  simp only [List.map_cons, List.nodup_cons] at hnd
  have hno : I b = none := h.dis _ (.head _)
  refine ⟨h.os, h.tape, h.output, h.size, h.frm, fun c x hx => ?_, fun p hp => h.own p (.tail _ hp), hnd.2, fun p hp => ?_, fun p hp => h.new p (.tail _ hp), fun c hc => ?_, fun c x hx => ?_⟩
  · unfold hput at hx
    split at hx
    · rename_i he; subst he; cases hx; exact h.own _ (.head _)
    · exact h.sub c x hx
  · unfold hput
    split
    · rename_i he
      exact absurd (he ▸ List.mem_map_of_mem hp) hnd.1
    · exact h.dis p (.tail _ hp)
  · unfold hput
    rw [if_neg (by omega)]; exact h.ifr c hc
  · unfold hput
    split
    · rename_i he; subst he
      have := h.le _ _ hx; rw [hno] at this; cases this
    · exact h.le c x hx
theorem hput_le {b : Nat} {o : Obj} {I : Heap} (h : I b = none) : Le I (hput b o I) := fun c x hx => by
  unfold hput
  split
  · rename_i he; subst he; rw [h] at hx; cases hx
  · exact hx
theorem hput_at (b : Nat) (o : Obj) (I : Heap) : hput b o I b = some o := by simp [hput]
end st

/-- Behind a call: the callee's state inside the caller's. -/
theorem St.call {w0 w w' : World} {D : List Nat} {I0 I I' : Heap} {H1 H1' R : HL} (h : St w0 D I0 I (H1 ++ R) w) (k : St w (H1.map (·.1)) I I' H1' w') :
    St w0 D I0 I' (H1' ++ R) w' := by
  have hnd := h.nodup
  rw [List.map_append, List.nodup_append] at hnd
  obtain ⟨n1, n2, n3⟩ := hnd
  have hR : ∀ p ∈ R, p.1 < w.heap.size := fun p hp => h.lt (List.mem_append_right _ hp)
  have hRD : ∀ p ∈ R, p.1 ∉ H1.map (·.1) := fun p hp hm => n3 _ hm _ (List.mem_map_of_mem hp) rfl
  refine ⟨k.os.trans h.os, k.tape.trans h.tape, k.output.trans h.output, Nat.le_trans h.size k.size, fun b hb hd => ?_, k.sub, fun p hp => ?_, ?_, fun p hp => ?_, fun p hp => ?_, fun b hb => ?_, h.le.trans k.le⟩
  · have hnot : b ∉ H1.map (·.1) := fun hm => by
      obtain ⟨p, hp, he⟩ := List.mem_map.1 hm
      rcases h.new p (List.mem_append_left _ hp) with h' | h'
      · exact hd (he ▸ h')
      · omega
    rw [k.frm b (Nat.lt_of_lt_of_le hb h.size) hnot]
    exact h.frm b hb hd
  · rcases List.mem_append.1 hp with hp | hp
    · exact k.own p hp
    · rw [k.frm _ (hR p hp) (hRD p hp)]
      exact h.own p (List.mem_append_right _ hp)
  · rw [List.map_append, List.nodup_append]
    refine ⟨k.nodup, n2, fun x hx y hy he => ?_⟩
    obtain ⟨p, hp, hpx⟩ := List.mem_map.1 hx
    obtain ⟨q, hq, hqy⟩ := List.mem_map.1 hy
    rcases k.new p hp with h' | h'
    · exact hRD q hq (by rw [hqy, ← he, ← hpx]; exact h')
    · have := hR q hq; omega
  · rcases List.mem_append.1 hp with hp | hp
    · exact k.dis p hp
    · rw [k.ifr _ (hR p hp)]; exact h.dis p (List.mem_append_right _ hp)
  · rcases List.mem_append.1 hp with hp | hp
    · rcases k.new p hp with h' | h'
      · obtain ⟨q, hq, he⟩ := List.mem_map.1 h'
        rw [← he]; exact h.new q (List.mem_append_left _ hq)
      · exact .inr (Nat.le_trans h.size h')
    · exact h.new p (List.mem_append_right _ hp)
  · rw [k.ifr b (Nat.lt_of_lt_of_le hb h.size)]; exact h.ifr b hb

/-- What a region's reads may lean on. -/
def SS (I : Heap) (H : HL) (w : World) : Prop := (∀ b o, I b = some o → w.heap[b]? = some o) ∧ ∀ p ∈ H, w.heap[p.1]? = some p.2
theorem St.ss {w0 w : World} {D : List Nat} {I0 I : Heap} {H : HL} (h : St w0 D I0 I H w) : SS I H w := ⟨h.sub, h.own⟩
def Blk (S : World → Prop) (b : Nat) (o : Obj) : Prop := ∀ w, S w → w.heap[b]? = some o
theorem Blk.imm {I : Heap} {H : HL} {b : Nat} {o : Obj} (h : I b = some o) : Blk (SS I H) b o := fun _ hs => hs.1 b o h
theorem Blk.at {I : Heap} {H : HL} {b : Nat} {o : Obj} (i : Nat) (h : H[i]? = some (b, o)) : Blk (SS I H) b o := fun _ hs => hs.2 _ (List.mem_of_getElem? h)
/-- The same, with some cells besides (of blocks that the region writes elsewhere). -/
abbrev CL := List (Nat × Nat × Value)
def SC (I : Heap) (A : HL) (Z : CL) (w : World) : Prop := SS I A w ∧ ∀ c ∈ Z, w.cell? ⟨c.1, c.2.1, none⟩ = some c.2.2
theorem Blk.immC {I : Heap} {A : HL} {Z : CL} {b : Nat} {o : Obj} (h : I b = some o) : Blk (SC I A Z) b o := fun _ hs => hs.1.1 b o h
theorem Blk.atC {I : Heap} {A : HL} {Z : CL} {b : Nat} {o : Obj} (i : Nat) (h : A[i]? = some (b, o)) : Blk (SC I A Z) b o := fun _ hs => hs.1.2 _ (List.mem_of_getElem? h)
theorem SC.cell {I : Heap} {A : HL} {Z : CL} {b off : Nat} {v : Value} (i : Nat) (h : Z[i]? = some (b, off, v)) : ∀ w, SC I A Z w → w.cell? ⟨b, off, none⟩ = some v := fun _ hs => hs.2 _ (List.mem_of_getElem? h)

/-! ### The judgements -/
structure Cx where
  P : Program
  n : Nat
  w0 : World
  D : List Nat
  I0 : Heap
  ds : List Deferred

abbrev Qt := Exit → Act → World → Prop

def Cj (cx : Cx) (Q : Qt) (c : Code) (e : Env) (I : Heap) (H : HL) : Prop :=
  ∀ a w, Has a cx.n e cx.ds → St cx.w0 cx.D cx.I0 I H w → c.wp cx.P Q a w
def Ej (cx : Cx) (Q : Qt) (x : Exit) (e : Env) (I : Heap) (H : HL) : Prop :=
  ∀ a w, Has a cx.n e cx.ds → St cx.w0 cx.D cx.I0 I H w → Q x a w
def J (cx : Cx) (Q : Qt) (ops : Array Oper) (l : List Oper) (e : Env) (I : Heap) (H : HL) : Prop :=
  ∀ a w, Has a cx.n e cx.ds → St cx.w0 cx.D cx.I0 I H w → wpList cx.P ops Q l a w
abbrev Ct := Env → Heap → HL → Prop
def OpJ (cx : Cx) (Q : Qt) (o : Oper) (e : Env) (I : Heap) (H : HL) (C : Ct) : Prop :=
  ∀ K : Act → World → Prop, (∀ e' I' H', C e' I' H' → ∀ a w, Has a cx.n e' cx.ds → St cx.w0 cx.D cx.I0 I' H' w → K a w) →
    ∀ a w, Has a cx.n e cx.ds → St cx.w0 cx.D cx.I0 I H w → o.wp cx.P a w K Q

section rules
variable {cx : Cx} {Q : Qt} {e : Env} {I : Heap} {H : HL}
theorem Cj.region {id : Nat} {l : List Oper} (h : J cx Q l.toArray l e I H) : Cj cx Q (.region id l.toArray false) e I H :=
  fun a w ha hs => wp_region_lit (h a w ha hs)
theorem J.nil {ops : Array Oper} (h : Ej cx Q .normal e I H) : J cx Q ops [] e I H := fun a w ha hs => wpList_nil (h a w ha hs)
theorem J.op {ops : Array Oper} {o : Oper} {l : List Oper} (hg : o.guard = none) (h : OpJ cx Q o e I H (J cx Q ops l)) : J cx Q ops (o :: l) e I H :=
  fun a w ha hs => wpList_plain hg fun K hK => h K (fun _ _ _ hc a w ha hs => hK a w (hc a w ha hs)) a w ha hs
theorem yielded_of {ops : Array Oper} {a : Act} {n : Nat} {ds : List Deferred} {j d : Nat} {b : Bool} (ha : Has a n e ds) (hd : (ops[j]?).bind (·.dst) = some d) (hv : eg e d = some (.bool b)) :
    yielded ops a.tmps j = some b := by
  have := ha.get d _ hv
  simp only [yielded, hd, Option.bind_some, this]
theorem J.opG {ops : Array Oper} {o : Oper} {l : List Oper} (j d : Nat) (want b : Bool) (hg : o.guard = some (j, want)) (hd : (ops[j]?).bind (·.dst) = some d) (hv : eg e d = some (.bool b)) (hb : b = want)
    (h : OpJ cx Q o e I H (J cx Q ops l)) : J cx Q ops (o :: l) e I H := by
  intro a w ha hs
  refine wpList_step fun K hK => ?_
  have hw : Region.wanted o (yielded ops a.tmps) = true := by simp [Region.wanted, hg, yielded_of ha hd hv, hb]
  rw [if_pos hw]
  exact h K (fun _ _ _ hc a w ha hs => hK a w (hc a w ha hs)) a w ha hs
theorem J.skip {ops : Array Oper} {o : Oper} {l : List Oper} (j d t : Nat) (want b : Bool) (hg : o.guard = some (j, want)) (hd : (ops[j]?).bind (·.dst) = some d) (hv : eg e d = some (.bool b)) (hb : b = !want)
    (ho : o.dst = some t) (ht : Nat.blt t cx.n = true) (h : J cx Q ops l ((t, undef) :: e) I H) : J cx Q ops (o :: l) e I H := by
  intro a w ha hs
  refine wpList_step fun K hK => ?_
  have hw : Region.wanted o (yielded ops a.tmps) = false := by simp [Region.wanted, hg, yielded_of ha hd hv, hb]
  rw [hw, ho]
  exact hK _ _ (h _ _ (ha.put ht) hs)
/-- Skipped for a guard that was skipped itself. -/
theorem J.skipU {ops : Array Oper} {o : Oper} {l : List Oper} (j d t : Nat) (want : Bool) (hg : o.guard = some (j, want)) (hd : (ops[j]?).bind (·.dst) = some d) (hv : eg e d = some undef)
    (ho : o.dst = some t) (ht : Nat.blt t cx.n = true) (h : J cx Q ops l ((t, undef) :: e) I H) : J cx Q ops (o :: l) e I H := by
  intro a w ha hs
  refine wpList_step fun K hK => ?_
  have hw : Region.wanted o (yielded ops a.tmps) = false := by
    have := ha.get d _ hv
    have hy : yielded ops a.tmps j = none := by simp only [yielded, hd, Option.bind_some, this, undef]
    simp [Region.wanted, hg, hy]
  rw [hw, ho]
  exact hK _ _ (h _ _ (ha.put ht) hs)
theorem Cj.seq {x y : Code} (h : Cj cx (Exit.then (y.wp cx.P Q) Q) x e I H) : Cj cx Q (.seq x y) e I H := fun a w ha hs => wp_seq (h a w ha hs)
theorem Ej.seq {y : Code} (h : Cj cx Q y e I H) : Ej cx (Exit.then (y.wp cx.P Q) Q) .normal e I H := fun a w ha hs => h a w ha hs
theorem Ej.seqRet {K : Act → World → Prop} (h : Ej cx Q .ret e I H) : Ej cx (Exit.then K Q) .ret e I H := fun a w ha hs => h a w ha hs
theorem Ej.seqExit {K : Act → World → Prop} {id : Nat} (h : Ej cx Q (.exit id) e I H) : Ej cx (Exit.then K Q) (.exit id) e I H := fun a w ha hs => h a w ha hs
theorem Ej.seqPanic {K : Act → World → Prop} {ch : List PanicEntry} (h : Ej cx Q (.panic ch) e I H) : Ej cx (Exit.then K Q) (.panic ch) e I H := fun a w ha hs => h a w ha hs
theorem Cj.block {id : Nat} {c : Code} (h : Cj cx (Exit.inBlock id Q) c e I H) : Cj cx Q (.block id c) e I H := fun a w ha hs => wp_block (h a w ha hs)
theorem Ej.blkNormal {id : Nat} (h : Ej cx Q .normal e I H) : Ej cx (Exit.inBlock id Q) .normal e I H := fun a w ha hs => h a w ha hs
theorem Ej.blkExit {id : Nat} (h : Ej cx Q .normal e I H) : Ej cx (Exit.inBlock id Q) (.exit id) e I H := fun a w ha hs => by
  simp only [Exit.inBlock, if_true]; exact h a w ha hs
theorem Ej.blkOther {id id' : Nat} (hn : Nat.beq id' id = false) (h : Ej cx Q (.exit id') e I H) : Ej cx (Exit.inBlock id Q) (.exit id') e I H := fun a w ha hs => by
  have : id' ≠ id := fun he => by subst he; simp [Nat.beq_refl] at hn
  simp only [Exit.inBlock, this, if_false]; exact h a w ha hs
theorem Ej.blkRet {id : Nat} (h : Ej cx Q .ret e I H) : Ej cx (Exit.inBlock id Q) .ret e I H := fun a w ha hs => h a w ha hs
theorem Ej.blkPanic {id : Nat} {ch : List PanicEntry} (h : Ej cx Q (.panic ch) e I H) : Ej cx (Exit.inBlock id Q) (.panic ch) e I H := fun a w ha hs => h a w ha hs
theorem Cj.skip (h : Ej cx Q .normal e I H) : Cj cx Q .skip e I H := fun a w ha hs => wp_skip (h a w ha hs)
theorem Cj.ret (h : Ej cx Q .ret e I H) : Cj cx Q .ret e I H := fun a w ha hs => wp_ret (h a w ha hs)
theorem Cj.exit {id : Nat} (h : Ej cx Q (.exit id) e I H) : Cj cx Q (.exit id) e I H := fun a w ha hs => wp_exit (h a w ha hs)
theorem Cj.cond {c : Operand} {x y : Code} {t : Bool} (hc : ev e c = some (.bool t)) (h1 : t = true → Cj cx Q x e I H) (h2 : t = false → Cj cx Q y e I H) : Cj cx Q (.cond c x y) e I H :=
  fun a w ha hs => wp_cond_split (ha.eval hc) (fun h => h1 h a w ha hs) (fun h => h2 h a w ha hs)
theorem Cj.weak {c : Code} {e' : Env} (hs : Sub e' e) (h : Cj cx Q c e' I H) : Cj cx Q c e I H := fun a w ha h1 => h a w (ha.sub hs) h1
theorem Ej.weak {x : Exit} {e' : Env} (hs : Sub e' e) (h : Ej cx Q x e' I H) : Ej cx Q x e I H := fun a w ha h1 => h a w (ha.sub hs) h1
theorem J.weak {ops : Array Oper} {l : List Oper} {e' : Env} (hs : Sub e' e) (h : J cx Q ops l e' I H) : J cx Q ops l e I H := fun a w ha h1 => h a w (ha.sub hs) h1
theorem Cj.keep {c : Code} {H' : HL} (hs : H'.Sublist H) (h : Cj cx Q c e I H') : Cj cx Q c e I H := fun a w ha h1 => h a w ha (h1.sublist hs)
theorem Ej.keep {x : Exit} {H' : HL} (hs : H'.Sublist H) (h : Ej cx Q x e I H') : Ej cx Q x e I H := fun a w ha h1 => h a w ha (h1.sublist hs)
theorem Cj.perm {c : Code} {H' : HL} (hs : H'.Perm H) (h : Cj cx Q c e I H') : Cj cx Q c e I H := fun a w ha h1 => h a w ha (h1.perm hs)
theorem J.perm {ops : Array Oper} {l : List Oper} {H' : HL} (hs : H'.Perm H) (h : J cx Q ops l e I H') : J cx Q ops l e I H := fun a w ha h1 => h a w ha (h1.perm hs)
theorem Ej.perm {x : Exit} {H' : HL} (hs : H'.Perm H) (h : Ej cx Q x e I H') : Ej cx Q x e I H := fun a w ha h1 => h a w ha (h1.perm hs)
theorem OpJ.perm {o : Oper} {C : Ct} {H' : HL} (hs : H'.Perm H) (h : OpJ cx Q o e I H' C) : OpJ cx Q o e I H C := fun K hK a w ha h1 => h K hK a w ha (h1.perm hs)
theorem Cj.cut {c : Code} {Q' : Qt} (h : Cj cx Q' c e I H) (hq : ∀ x a w, Q' x a w → Q x a w) : Cj cx Q c e I H := fun a w ha h1 => Code.wp_mono hq (h a w ha h1)
/-- A middle: what is known behind a piece of code, whichever way it went. -/
def Mid (cx : Cx) (Q : Qt) (M : Env → Heap → HL → Prop) : Qt
  | .normal, a, w => ∃ e I H, M e I H ∧ Has a cx.n e cx.ds ∧ St cx.w0 cx.D cx.I0 I H w
  | x, a, w => Q x a w
theorem Cj.seqMid (M : Env → Heap → HL → Prop) {x y : Code} (h1 : Cj cx (Mid cx Q M) x e I H) (h2 : ∀ e' I' H', M e' I' H' → Cj cx Q y e' I' H') : Cj cx Q (.seq x y) e I H :=
  fun a w ha hs => wp_seq (Code.wp_mono (fun x a w hq => by
    cases x <;> first
      | exact hq
      | (obtain ⟨e', I', H', hm, ha', hs'⟩ := hq; exact h2 e' I' H' hm a w ha' hs')) (h1 a w ha hs))
theorem Ej.mid {M : Env → Heap → HL → Prop} (e' : Env) (hs : Sub e' e) (hm : M e' I H) : Ej cx (Mid cx Q M) .normal e I H := fun _ _ ha h1 => ⟨e', I, H, hm, ha.sub hs, h1⟩
theorem Ej.midRet {M : Env → Heap → HL → Prop} (h : Ej cx Q .ret e I H) : Ej cx (Mid cx Q M) .ret e I H := fun a w ha hs => h a w ha hs
theorem Ej.midExit {M : Env → Heap → HL → Prop} {id : Nat} (h : Ej cx Q (.exit id) e I H) : Ej cx (Mid cx Q M) (.exit id) e I H := fun a w ha hs => h a w ha hs
theorem Ej.midPanic {M : Env → Heap → HL → Prop} {ch : List PanicEntry} (h : Ej cx Q (.panic ch) e I H) : Ej cx (Mid cx Q M) (.panic ch) e I H := fun a w ha hs => h a w ha hs
/-- A loop: the invariant is a family of states. -/
def LoopQ (cx : Cx) (Q : Qt) {ι : Type} (pre : ι → Prop) (μ : ι → Nat) (i : ι) (env : ι → Env) (hp : ι → Heap) (hl : ι → HL) : Qt
  | .normal, a, w => ∃ j, pre j ∧ μ j < μ i ∧ Has a cx.n (env j) cx.ds ∧ St cx.w0 cx.D cx.I0 (hp j) (hl j) w
  | x, a, w => Q x a w
theorem Cj.loop {ι : Type} (pre : ι → Prop) (μ : ι → Nat) (env : ι → Env) (hp : ι → Heap) (hl : ι → HL) {c : Code} (i0 : ι) (h0 : pre i0) (hs : Sub (env i0) e) (hI : hp i0 = I) (hH : hl i0 = H)
    (round : ∀ i, pre i → Cj cx (LoopQ cx Q pre μ i env hp hl) c (env i) (hp i) (hl i)) : Cj cx Q (.loop c) e I H := by
  intro a w ha hst
  refine wp_loop_ghost (fun m a w => ∃ i, pre i ∧ μ i = m ∧ Has a cx.n (env i) cx.ds ∧ St cx.w0 cx.D cx.I0 (hp i) (hl i) w) (μ i0) ⟨i0, h0, rfl, ha.sub hs, hI ▸ hH ▸ hst⟩ ?_
  rintro m a w ⟨i, hi, rfl, ha, hst⟩
  refine Code.wp_mono (fun x a w hq => ?_) (round i hi a w ha hst)
  cases x <;> first
    | exact hq
    | (obtain ⟨j, hj, hlt, ha', hs'⟩ := hq; exact ⟨μ j, hlt, j, hj, rfl, ha', hs'⟩)
section round
variable {ι : Type} {pre : ι → Prop} {μ : ι → Nat} {i : ι} {env : ι → Env} {hp : ι → Heap} {hl : ι → HL}
theorem Ej.round (j : ι) (hj : pre j) (hm : μ j < μ i) (hs : Sub (env j) e) (hI : hp j = I) (hH : hl j = H) : Ej cx (LoopQ cx Q pre μ i env hp hl) .normal e I H :=
  fun _ _ ha h1 => ⟨j, hj, hm, ha.sub hs, hI ▸ hH ▸ h1⟩
theorem Ej.loopRet (h : Ej cx Q .ret e I H) : Ej cx (LoopQ cx Q pre μ i env hp hl) .ret e I H := fun a w ha hs => h a w ha hs
theorem Ej.loopExit {id : Nat} (h : Ej cx Q (.exit id) e I H) : Ej cx (LoopQ cx Q pre μ i env hp hl) (.exit id) e I H := fun a w ha hs => h a w ha hs
theorem Ej.loopPanic {ch : List PanicEntry} (h : Ej cx Q (.panic ch) e I H) : Ej cx (LoopQ cx Q pre μ i env hp hl) (.panic ch) e I H := fun a w ha hs => h a w ha hs
end round
end rules
end Go.Sx
