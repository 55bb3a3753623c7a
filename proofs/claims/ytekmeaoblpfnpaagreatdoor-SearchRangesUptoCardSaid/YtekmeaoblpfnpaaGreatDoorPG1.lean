/-
  Own texts on the laws of the seat, joined: the logic, and contracts of functions. Conditions: none.
-/
import Derived.WalkKit
import Derived.OrdersHeld
import Derived.Deep.LoopGhost
import Derived.TacticsIn
import Derived.OrdersIn
import Derived.KernelRfl
set_option maxRecDepth 100000
set_option maxHeartbeats 40000000
section
set_option linter.unusedSectionVars false
namespace Go.Sx
open Go
abbrev Heap := Nat → Option Obj
abbrev HL := List (Nat × Obj)
abbrev Env := List (Nat × Value)
def eg : Env → Nat → Option Value
  | [], _ => none
  | (k, v) :: r, t => bif Nat.beq k t then some v else eg r t
def ev (e : Env) : Operand → Option Value
  | .tmp t => eg e t
  | .const v => some v
  | .global g => some (.pointer (some ⟨g, 0, none⟩))
  | .func f => some (.func (.func f) #[] #[])
def evs (e : Env) : List Operand → Option (List Value)
  | [] => some []
  | x :: r => match ev e x, evs e r with
    | some v, some vs => some (v :: vs)
    | _, _ => none
def Sub : Env → Env → Prop
  | [], _ => True
  | (t, v) :: r, e => eg e t = some v ∧ Sub r e
structure Has (a : Act) (n : Nat) (e : Env) (ds : List Deferred) : Prop where
  size : a.tmps.size = n
  defs : a.defers = ds
  get : ∀ t v, eg e t = some v → a.tmps[t]? = some v
theorem eg_cons (k : Nat) (v : Value) (r : Env) (t : Nat) : eg ((k, v) :: r) t = if k = t then some v else eg r t := by
  show (bif Nat.beq k t then some v else eg r t) = _
  by_cases h : k = t
  · subst h; simp
  have : Nat.beq k t = false := by
    cases hb : Nat.beq k t with
    | false => rfl
    | true => exact absurd (Nat.eq_of_beq_eq_true hb) h
  rw [this, if_neg h]; rfl
theorem Sub.get : ∀ {e' e : Env}, Sub e' e → ∀ t v, eg e' t = some v → eg e t = some v
  | [], _, _, t, v, h => by simp [eg] at h
  | (k, u) :: r, e, ⟨h1, h2⟩, t, v, h => by
    rw [eg_cons] at h
    by_cases hk : k = t
    · subst hk; simp at h; subst h; exact h1
    simp only [hk, if_false] at h; exact Sub.get h2 t v h
section has
variable {a : Act} {n : Nat} {e : Env} {ds : List Deferred}
theorem Has.sub {e' : Env} (h : Has a n e ds) (hs : Sub e' e) : Has a n e' ds := ⟨h.size, h.defs, fun t v hv => h.get t v (hs.get t v hv)⟩
theorem Has.eval (h : Has a n e ds) {x : Operand} {v : Value} (hx : ev e x = some v) : a.eval x = v := by
  cases x with
  | tmp t =>
    have := h.get t v hx
    simp [Act.eval, this]
  | const c => simpa [ev, Act.eval] using hx
  | global g => simpa [ev, Act.eval] using hx
  | func f => simpa [ev, Act.eval] using hx
theorem Has.evals (h : Has a n e ds) : ∀ {xs : List Operand} {vs : List Value}, evs e xs = some vs → xs.map a.eval = vs
  | [], vs, hx => by simp [evs] at hx; subst hx; rfl
  | x :: r, vs, hx => by
    simp only [evs] at hx
    split at hx
    · rename_i v vs' h1 h2
      cases hx
      simp [h.eval h1, Has.evals h h2]
    cases hx
theorem Has.put (h : Has a n e ds) {d : Nat} {v : Value} (hd : Nat.blt d n = true) : Has (a.put (some d) v) n ((d, v) :: e) ds := by
  have hd' : d < n := by simpa [Nat.blt_eq] using hd
  refine ⟨by simpa [Act.put] using h.size, by simpa [Act.put] using h.defs, fun t u hu => ?_⟩
  rw [eg_cons] at hu
  have hs := h.size
  by_cases hk : d = t
  · subst hk
    simp at hu; subst hu
    simp [Act.put, hs, hd']
  simp only [hk, if_false] at hu
  simp [Act.put, hk]
  have := h.get t u hu
  simpa using this
theorem Has.putNone (h : Has a n e ds) {v : Value} : Has (a.put none v) n e ds := h
end has
def argsEnv : Nat → List Value → Env
  | _, [] => []
  | k, v :: r => (k, v) :: argsEnv (k + 1) r
theorem argsEnv_get : ∀ (l : List Value) (k t : Nat) (v : Value), eg (argsEnv k l) t = some v → k ≤ t ∧ l[t - k]? = some v
  | [], k, t, v, h => by simp [argsEnv, eg] at h
  | u :: r, k, t, v, h => by
    simp only [argsEnv] at h
    rw [eg_cons] at h
    by_cases hk : k = t
    · subst hk; simp at h; subst h; simp
    simp only [hk, if_false] at h
    obtain ⟨h1, h2⟩ := argsEnv_get r (k + 1) t v h
    refine ⟨by omega, ?_⟩
    have : t - k = (t - (k + 1)) + 1 := by omega
    rw [this]; simpa using h2
theorem Has.start (l : List Value) (n : Nat) (hn : l.length ≤ n) :
    Has { tmps := l.toArray ++ Array.replicate (n - l.toArray.size) undef, defers := [] } n (argsEnv 0 l) [] := by
  refine ⟨by simp; omega, rfl, fun t v h => ?_⟩
  obtain ⟨_, h2⟩ := argsEnv_get l 0 t v h
  have ht : t < l.length := by
    rcases Nat.lt_or_ge t l.length with h' | h'
    · exact h'
    simp [List.getElem?_eq_none h'] at h2
  simp only [Nat.sub_zero] at h2
  rw [Array.getElem?_append_left (by simpa using ht)]
  simpa using h2
class DR where
  b : Bool
def Le (I I' : Heap) : Prop := ∀ b o, I b = some o → I' b = some o
theorem Le.refl (I : Heap) : Le I I := fun _ _ h => h
theorem Le.trans {I J K : Heap} (h : Le I J) (k : Le J K) : Le I K := fun b o x => k b o (h b o x)
structure St [DR] (w0 : World) (D : List Nat) (I0 I : Heap) (H : HL) (w : World) : Prop where
  os : w.os = w0.os
  tape : w.tape = w0.tape
  output : w.output = w0.output
  size : w0.heap.size ≤ w.heap.size
  frm : ∀ b, b < w0.heap.size → b ∉ D → w.heap[b]? = w0.heap[b]?
  sub : ∀ b o, I b = some o → w.heap[b]? = some o
  own : ∀ p ∈ H, w.heap[p.1]? = some p.2
  nodup : (H.map (·.1)).Nodup
  dis : ∀ p ∈ H, I p.1 = none
  new : ∀ p ∈ H, p.1 ∈ D ∨ w0.heap.size ≤ p.1
  ifr : ∀ b, b < w0.heap.size → I b = I0 b
  le : Le I0 I
  drw : DR.b = true → w0.drawn ≤ w.drawn
variable [DR]
theorem St.start (w : World) (I : Heap) (H : HL) (h1 : ∀ b o, I b = some o → w.heap[b]? = some o) (h2 : ∀ p ∈ H, w.heap[p.1]? = some p.2)
    (h3 : (H.map (·.1)).Nodup) (h4 : ∀ p ∈ H, I p.1 = none) : St w (H.map (·.1)) I I H w :=
  ⟨rfl, rfl, rfl, Nat.le_refl _, fun _ _ _ => rfl, h1, h2, h3, h4, fun _p hp => .inl (List.mem_map_of_mem hp), fun _ _ => rfl, Le.refl _, fun _ => Nat.le_refl _⟩
section st
variable {w0 : World} {D : List Nat} {I0 I : Heap} {H : HL} {w : World}
theorem St.lt (h : St w0 D I0 I H w) {p : Nat × Obj} (hp : p ∈ H) : p.1 < w.heap.size := by
  have := h.own p hp
  rcases Nat.lt_or_ge p.1 w.heap.size with h' | h'
  · exact h'
  simp [Array.getElem?_eq_none h'] at this
theorem St.drew (h : St w0 D I0 I H w) : St w0 D I0 I H { w with drawn := w.drawn + 1 } :=
  ⟨h.os, h.tape, h.output, h.size, h.frm, h.sub, h.own, h.nodup, h.dis, h.new, h.ifr, h.le, fun g => Nat.le_succ_of_le (h.drw g)⟩
theorem St.keep {H' : HL} (h : St w0 D I0 I H w) (hs : ∀ p ∈ H', p ∈ H) (hn : (H'.map (·.1)).Nodup) : St w0 D I0 I H' w :=
  ⟨h.os, h.tape, h.output, h.size, h.frm, h.sub, fun p hp => h.own p (hs p hp), hn, fun p hp => h.dis p (hs p hp), fun p hp => h.new p (hs p hp), h.ifr, h.le, h.drw⟩
theorem St.sublist {H' : HL} (h : St w0 D I0 I H w) (hs : H'.Sublist H) : St w0 D I0 I H' w :=
  h.keep (fun _ hp => hs.subset hp) (h.nodup.sublist (hs.map _))
theorem St.perm {H' : HL} (h : St w0 D I0 I H w) (hs : H'.Perm H) : St w0 D I0 I H' w :=
  h.keep (fun _ hp => hs.mem_iff.1 hp) ((hs.map _).nodup_iff.2 h.nodup)
theorem St.alloc (h : St w0 D I0 I H w) (o : Obj) : St w0 D I0 I ((w.heap.size, o) :: H) { w with heap := w.heap.push o } := by
  have hlt : ∀ {b : Nat} {o' : Obj}, w.heap[b]? = some o' → b < w.heap.size := fun {b o'} hb => by
    rcases Nat.lt_or_ge b w.heap.size with h' | h'
    · exact h'
    simp [Array.getElem?_eq_none h'] at hb
  have hold : ∀ {b : Nat} {o' : Obj}, w.heap[b]? = some o' → (w.heap.push o)[b]? = some o' := fun {b o'} hb => by
    rw [Array.getElem?_push, if_neg (by have := hlt hb; omega)]; exact hb
  refine ⟨h.os, h.tape, h.output, by have := h.size; simp; omega, fun b hb hd => ?_, fun b o' hb => hold (h.sub b o' hb), ?_, ?_, ?_, ?_, h.ifr, h.le, h.drw⟩
  · rw [← h.frm b hb hd]
    show (w.heap.push o)[b]? = _
    rw [Array.getElem?_push, if_neg (by have := h.size; omega)]
  · intro p hp
    cases hp with
    | head => simp
    | tail _ hp => exact hold (h.own p hp)
  · simp only [List.map_cons, List.nodup_cons]
    refine ⟨fun hm => ?_, h.nodup⟩
    obtain ⟨p, hp, he⟩ := List.mem_map.1 hm
    have := h.lt hp
    omega
  · intro p hp
    cases hp with
    | head =>
      cases hi : I w.heap.size with
      | none => rfl
      | some o' => have := hlt (h.sub _ _ hi); omega
    | tail _ hp => exact h.dis p hp
  intro p hp
  cases hp with
  | head => exact .inr h.size
  | tail _ hp => exact h.new p hp
def hset (b : Nat) (o : Obj) : HL → HL
  | [] => []
  | (c, x) :: r => if c = b then (c, o) :: r else (c, x) :: hset b o r
theorem hset_map (b : Nat) (o : Obj) : ∀ H : HL, (hset b o H).map (·.1) = H.map (·.1)
  | [] => rfl
  | (c, x) :: r => by
    unfold hset
    split
    · rfl
    simp [hset_map b o r]
theorem hset_mem (b : Nat) (o : Obj) : ∀ (H : HL), (H.map (·.1)).Nodup → ∀ p ∈ hset b o H, (p = (b, o)) ∨ (p ∈ H ∧ p.1 ≠ b)
  | [], _, p, hp => by cases hp
  | (c, x) :: r, hn, p, hp => by
    simp only [List.map_cons, List.nodup_cons] at hn
    unfold hset at hp
    split at hp
    · rename_i hc; subst hc
      cases hp with
      | head => exact .inl rfl
      | tail _ hp =>
        refine .inr ⟨.tail _ hp, fun he => hn.1 ?_⟩
        rw [← he]; exact List.mem_map_of_mem hp
    rename_i hc
    cases hp with
    | head => exact .inr ⟨.head _, hc⟩
    | tail _ hp =>
      rcases hset_mem b o r hn.2 p hp with h | h
      · exact .inl h
      exact .inr ⟨.tail _ h.1, h.2⟩
theorem St.write {w' : World} {b : Nat} {o o' : Obj} (h : St w0 D I0 I H w) (hm : (b, o) ∈ H) (hos : w'.os = w.os) (ht : w'.tape = w.tape) (hout : w'.output = w.output)
    (hsz : w'.heap.size = w.heap.size) (hb : w'.heap[b]? = some o') (hne : ∀ c, c ≠ b → w'.heap[c]? = w.heap[c]?) (hdr : w'.drawn = w.drawn) : St w0 D I0 I (hset b o' H) w' := by
  have hin : ∀ p ∈ hset b o' H, ∃ q ∈ H, q.1 = p.1 := fun p hp => by
    have : p.1 ∈ (hset b o' H).map (·.1) := List.mem_map_of_mem hp
    rw [hset_map] at this
    obtain ⟨q, hq, he⟩ := List.mem_map.1 this
    exact ⟨q, hq, he⟩
  refine ⟨hos.trans h.os, ht.trans h.tape, hout.trans h.output, by rw [hsz]; exact h.size, fun c hc hd => ?_, fun c x hx => ?_, fun p hp => ?_, by rw [hset_map]; exact h.nodup, fun p hp => ?_, fun p hp => ?_, h.ifr, h.le, by rw [hdr]; exact h.drw⟩
  · have : c ≠ b := fun he => by
      rcases h.new _ hm with h' | h'
      · exact hd (he ▸ h')
      simp at h'; omega
    rw [hne c this]; exact h.frm c hc hd
  · have : c ≠ b := fun he => by
      have := h.dis _ hm
      simp only at this
      rw [he] at hx; rw [this] at hx; cases hx
    rw [hne c this]; exact h.sub c x hx
  · rcases hset_mem b o' H h.nodup p hp with rfl | ⟨h1, h2⟩
    · exact hb
    rw [hne _ h2]; exact h.own p h1
  · obtain ⟨q, hq, he⟩ := hin p hp
    rw [← he]; exact h.dis q hq
  obtain ⟨q, hq, he⟩ := hin p hp
  rw [← he]; exact h.new q hq
def hput (b : Nat) (o : Obj) (I : Heap) : Heap := fun c => if c = b then some o else I c
theorem St.persist {b : Nat} {o : Obj} {R : HL} (h : St w0 D I0 I ((b, o) :: R) w) (hb : w0.heap.size ≤ b) :
    St w0 D I0 (hput b o I) R w := by
  have hnd := h.nodup
  simp only [List.map_cons, List.nodup_cons] at hnd
  have hno : I b = none := h.dis _ (.head _)
  refine ⟨h.os, h.tape, h.output, h.size, h.frm, fun c x hx => ?_, fun p hp => h.own p (.tail _ hp), hnd.2, fun p hp => ?_, fun p hp => h.new p (.tail _ hp), fun c hc => ?_, fun c x hx => ?_, h.drw⟩
  · unfold hput at hx
    split at hx
    · rename_i he; subst he; cases hx; exact h.own _ (.head _)
    exact h.sub c x hx
  · unfold hput
    split
    · rename_i he
      exact absurd (he ▸ List.mem_map_of_mem hp) hnd.1
    exact h.dis p (.tail _ hp)
  · unfold hput
    rw [if_neg (by omega)]; exact h.ifr c hc
  unfold hput
  split
  · rename_i he; subst he
    have := h.le _ _ hx; rw [hno] at this; cases this
  exact h.le c x hx
theorem hput_le {b : Nat} {o : Obj} {I : Heap} (h : I b = none) : Le I (hput b o I) := fun c x hx => by
  unfold hput
  split
  · rename_i he; subst he; rw [h] at hx; cases hx
  exact hx
theorem hput_at (b : Nat) (o : Obj) (I : Heap) : hput b o I b = some o := by simp [hput]
end st
theorem St.call {w0 w w' : World} {D : List Nat} {I0 I I' : Heap} {H1 H1' R : HL} (h : St w0 D I0 I (H1 ++ R) w) (k : St w (H1.map (·.1)) I I' H1' w') :
    St w0 D I0 I' (H1' ++ R) w' := by
  have hnd := h.nodup
  rw [List.map_append, List.nodup_append] at hnd
  obtain ⟨n1, n2, n3⟩ := hnd
  have hR : ∀ p ∈ R, p.1 < w.heap.size := fun p hp => h.lt (List.mem_append_right _ hp)
  have hRD : ∀ p ∈ R, p.1 ∉ H1.map (·.1) := fun p hp hm => n3 _ hm _ (List.mem_map_of_mem hp) rfl
  refine ⟨k.os.trans h.os, k.tape.trans h.tape, k.output.trans h.output, Nat.le_trans h.size k.size, fun b hb hd => ?_, k.sub, fun p hp => ?_, ?_, fun p hp => ?_, fun p hp => ?_, fun b hb => ?_, h.le.trans k.le, fun g => Nat.le_trans (h.drw g) (k.drw g)⟩
  · have hnot : b ∉ H1.map (·.1) := fun hm => by
      obtain ⟨p, hp, he⟩ := List.mem_map.1 hm
      rcases h.new p (List.mem_append_left _ hp) with h' | h'
      · exact hd (he ▸ h')
      omega
    rw [k.frm b (Nat.lt_of_lt_of_le hb h.size) hnot]
    exact h.frm b hb hd
  · rcases List.mem_append.1 hp with hp | hp
    · exact k.own p hp
    rw [k.frm _ (hR p hp) (hRD p hp)]
    exact h.own p (List.mem_append_right _ hp)
  · rw [List.map_append, List.nodup_append]
    refine ⟨k.nodup, n2, fun x hx y hy he => ?_⟩
    obtain ⟨p, hp, hpx⟩ := List.mem_map.1 hx
    obtain ⟨q, hq, hqy⟩ := List.mem_map.1 hy
    rcases k.new p hp with h' | h'
    · exact hRD q hq (by rw [hqy, ← he, ← hpx]; exact h')
    have := hR q hq; omega
  · rcases List.mem_append.1 hp with hp | hp
    · exact k.dis p hp
    rw [k.ifr _ (hR p hp)]; exact h.dis p (List.mem_append_right _ hp)
  · rcases List.mem_append.1 hp with hp | hp
    · rcases k.new p hp with h' | h'
      · obtain ⟨q, hq, he⟩ := List.mem_map.1 h'
        rw [← he]; exact h.new q (List.mem_append_left _ hq)
      exact .inr (Nat.le_trans h.size h')
    exact h.new p (List.mem_append_right _ hp)
  rw [k.ifr b (Nat.lt_of_lt_of_le hb h.size)]; exact h.ifr b hb
def SS (I : Heap) (H : HL) (w : World) : Prop := (∀ b o, I b = some o → w.heap[b]? = some o) ∧ ∀ p ∈ H, w.heap[p.1]? = some p.2
theorem St.ss {w0 w : World} {D : List Nat} {I0 I : Heap} {H : HL} (h : St w0 D I0 I H w) : SS I H w := ⟨h.sub, h.own⟩
def Blk (S : World → Prop) (b : Nat) (o : Obj) : Prop := ∀ w, S w → w.heap[b]? = some o
theorem Blk.imm {I : Heap} {H : HL} {b : Nat} {o : Obj} (h : I b = some o) : Blk (SS I H) b o := fun _ hs => hs.1 b o h
theorem Blk.at {I : Heap} {H : HL} {b : Nat} {o : Obj} (i : Nat) (h : H[i]? = some (b, o)) : Blk (SS I H) b o := fun _ hs => hs.2 _ (List.mem_of_getElem? h)
abbrev CL := List (Nat × Nat × Value)
def SC (I : Heap) (A : HL) (Z : CL) (w : World) : Prop := SS I A w ∧ ∀ c ∈ Z, w.cell? ⟨c.1, c.2.1, none⟩ = some c.2.2
theorem Blk.immC {I : Heap} {A : HL} {Z : CL} {b : Nat} {o : Obj} (h : I b = some o) : Blk (SC I A Z) b o := fun _ hs => hs.1.1 b o h
theorem Blk.atC {I : Heap} {A : HL} {Z : CL} {b : Nat} {o : Obj} (i : Nat) (h : A[i]? = some (b, o)) : Blk (SC I A Z) b o := fun _ hs => hs.1.2 _ (List.mem_of_getElem? h)
structure Cx where
  P : Program
  n : Nat
  w0 : World
  D : List Nat
  I0 : Heap
  ds : List Deferred
  rd : Option Nat := none
def Cx.F (cx : Cx) : Fence := { Fence.wide with round := cx.rd }
abbrev Qt := Exit → Act → World → Prop
def Cj (cx : Cx) (Q : Qt) (c : Code) (e : Env) (I : Heap) (H : HL) : Prop :=
  ∀ a w, Has a cx.n e cx.ds → St cx.w0 cx.D cx.I0 I H w → c.wpIn cx.F 0 cx.P Q a w
def Ej (cx : Cx) (Q : Qt) (x : Exit) (e : Env) (I : Heap) (H : HL) : Prop :=
  ∀ a w, Has a cx.n e cx.ds → St cx.w0 cx.D cx.I0 I H w → Q x a w
def J (cx : Cx) (Q : Qt) (ops : Array Oper) (l : List Oper) (e : Env) (I : Heap) (H : HL) : Prop :=
  ∀ a w, Has a cx.n e cx.ds → St cx.w0 cx.D cx.I0 I H w → wpListIn cx.F 0 cx.P ops Q l a w
abbrev Ct := Env → Heap → HL → Prop
def OpJ (cx : Cx) (Q : Qt) (o : Oper) (e : Env) (I : Heap) (H : HL) (C : Ct) : Prop :=
  ∀ K : Act → World → Prop, (∀ e' I' H', C e' I' H' → ∀ a w, Has a cx.n e' cx.ds → St cx.w0 cx.D cx.I0 I' H' w → K a w) →
    ∀ a w, Has a cx.n e cx.ds → St cx.w0 cx.D cx.I0 I H w → o.wp cx.P a w K Q
theorem fence_calls {rd : Option Nat} {n : Nat} {P : Program} {f : FuncId} {args : Array Value} {w : World} {R : Ending → World → Prop} (h : Calls P f args w R) : CallsIn { Fence.wide with round := rd } n P f args w R := by
  have := (callsIn_wide (n := n)).2 h
  cases rd with
  | none => exact this
  | some l => exact this
theorem fence_rows {rd : Option Nat} {n : Nat} {P : Program} {row : String} {args : Array Value} {w : World} {R : Value → World → Prop} (h : Rows P row args w R) : RowsIn { Fence.wide with round := rd } n P row args w R := by
  have : RowsIn Fence.wide n P row args w R := fun c cs _ => let ⟨v, w', hr, hs⟩ := h c cs; ⟨v, w', hr, stepsIn_wide.2 hs⟩
  cases rd with
  | none => exact this
  | some l => exact this
theorem fence_upon {rd : Option Nat} {n : Nat} {P : Program} {o : Oper} {a : Act} {K : Act → World → Prop} {Q : Qt} {r : Result Next} (h : o.upon P a K Q r) : o.uponIn { Fence.wide with round := rd } n P a K Q r := by
  cases r with
  | ok x w' =>
    cases x <;> simp only [Oper.upon, Oper.uponIn] at h ⊢ <;>
      first
        | exact h
        | exact ⟨fun h => by simp [Fence.wide] at h, fence_calls h⟩
        | exact ⟨fun h => by simp [Fence.wide] at h, fence_rows h⟩
  | halt x w' => cases x <;> simp only [Oper.upon, Oper.uponIn] at h ⊢ <;> exact h
theorem fence_wp {rd : Option Nat} {n : Nat} {P : Program} {o : Oper} {a : Act} {w : World} {K : Act → World → Prop} {Q : Qt} (hd : rd = none ∨ ∀ c, o.op ≠ .defer c) (h : o.wp P a w K Q) : o.wpIn { Fence.wide with round := rd } n P a w K Q := by
  refine ⟨fun _ _ => trivial, ?_⟩
  have he : o.semAt rd a.eval = execOp a.eval o := by
    rcases hd with rfl | hd
    · rfl
    exact Oper.semAt_eq rd a.eval o hd
  show o.uponIn _ n P a K Q ((o.semAt rd a.eval).run P w)
  rw [he]
  exact fence_upon h
theorem OpJ.toIn {cx : Cx} {Q : Qt} {o : Oper} {e : Env} {I : Heap} {H : HL} {C : Ct} (h : OpJ cx Q o e I H C) (K : Act → World → Prop)
    (hK : ∀ e' I' H', C e' I' H' → ∀ a w, Has a cx.n e' cx.ds → St cx.w0 cx.D cx.I0 I' H' w → K a w) (a : Act) (w : World) (ha : Has a cx.n e cx.ds) (hs : St cx.w0 cx.D cx.I0 I H w) : o.wpIn cx.F 0 cx.P a w K Q := by
  by_cases hd : ∃ c, o.op = .defer c
  · obtain ⟨c, hc⟩ := hd
    have h1 := h (fun a' w' => K a' w' ∧ a'.defers = cx.ds) (fun e' I' H' hC a w ha' hs' => ⟨hK e' I' H' hC a w ha' hs', ha'.defs⟩) a w ha hs
    refine ⟨fun _ _ => trivial, ?_⟩
    unfold Oper.wp at h1
    have hx : (execOp a.eval o).run cx.P w = ((resolve a.eval c o.type).run cx.P w).andThen fun d w' => .ok (.defer d) w' := by
      simp only [execOp, hc, Sem.run_bind]
      rfl
    rw [hx] at h1
    cases hr : (resolve a.eval c o.type).run cx.P w with
    | ok d w' =>
      rw [hr] at h1
      simp only [Result.andThen_ok, Oper.upon] at h1
      have h2 := h1.2
      have h3 : ({ a with defers := d :: a.defers }.put o.dst undef).defers = d :: a.defers := by
        cases o.dst <;> rfl
      rw [h3, ha.defs] at h2
      exact absurd (congrArg List.length h2) (by simp)
    | halt x w' =>
      rw [hr] at h1
      have hy : (o.semAt cx.F.round a.eval).run cx.P w = .halt x w' := by
        unfold Oper.semAt
        cases cx.F.round with
        | none => simp only [hx, hr]; rfl
        | some l => simp only [hc, Sem.run_bind, hr]; rfl
      rw [hy]
      have h4 : (Result.andThen (.halt x w' : Result Deferred) fun d w' => (.ok (.defer d) w' : Result Next)) = .halt x w' := rfl
      rw [h4] at h1
      cases x <;> simp only [Oper.upon, Oper.uponIn] at h1 ⊢ <;> exact h1
  have h1 := h K hK a w ha hs
  exact fence_wp (rd := cx.rd) (.inr fun c hc => hd ⟨c, hc⟩) h1
theorem wpIn_mono' {F : Fence} {n : Nat} {P : Program} {a : Act} {w : World} {c : Code} {Q Q' : Qt} (hq : ∀ e a w, Q e a w → Q' e a w) (h : c.wpIn F n P Q a w) : c.wpIn F n P Q' a w := wpIn_mono h hq
theorem wpIn_loop_gh {F : Fence} {rm : Nat} {P : Program} {Q : Qt} {a : Act} {w : World} {c : Code} (I : Nat → Act → World → Prop) (n₀ : Nat) (h₀ : I n₀ a w)
    (round : ∀ n a w, I n a w → c.wpIn F rm P (Exit.then (fun a' w' => ∃ n', n' < n ∧ I n' a' w') Q) a w) : (Code.loop c).wpIn F rm P Q a w := by
  refine wpIn_loop (fun a w => ∃ n, I n a w) (fun a w => leastOf (fun n => I n a w)) ⟨n₀, h₀⟩ ?_
  intro a w hI
  refine wpIn_mono (round _ a w (leastOf_spec hI).1) ?_
  intro e a' w' hq
  cases e with
  | normal =>
    obtain ⟨n', hlt, hI'⟩ := hq
    exact show (∃ n, I n a' w') ∧ leastOf (fun n => I n a' w') < leastOf (fun n => I n a w) from ⟨⟨n', hI'⟩, Nat.lt_of_le_of_lt ((leastOf_spec ⟨n', hI'⟩).2 n' hI') hlt⟩
  | exit id => exact hq
  | goto l => exact hq
  | ret => exact hq
  | panic ch => exact hq
  | outgrown => exact hq
theorem Cx.wide {cx : Cx} (h : cx.rd = none) : cx.F = Fence.wide := by
  unfold Cx.F; rw [h]; rfl
theorem Cj.of_wp {cx : Cx} {Q : Qt} {c : Code} {e : Env} {I : Heap} {H : HL} (hr : cx.rd = none) (h : ∀ a w, Has a cx.n e cx.ds → St cx.w0 cx.D cx.I0 I H w → c.wp cx.P Q a w) : Cj cx Q c e I H := fun a w ha hs => by
  rw [Cx.wide hr]; exact wpIn_wide.2 (h a w ha hs)
theorem Cj.wp {cx : Cx} {Q : Qt} {c : Code} {e : Env} {I : Heap} {H : HL} (h : Cj cx Q c e I H) (hr : cx.rd = none) {a : Act} {w : World} (ha : Has a cx.n e cx.ds) (hs : St cx.w0 cx.D cx.I0 I H w) : c.wp cx.P Q a w := by
  have := h a w ha hs
  rw [Cx.wide hr] at this; exact wpIn_wide.1 this
section rules
variable {cx : Cx} {Q : Qt} {e : Env} {I : Heap} {H : HL}
theorem Cj.region {id : Nat} {l : List Oper} (h : J cx Q l.toArray l e I H) : Cj cx Q (.region id l.toArray false) e I H :=
  fun a w ha hs => wpIn_region_lit (h a w ha hs)
theorem J.nil {ops : Array Oper} (h : Ej cx Q .normal e I H) : J cx Q ops [] e I H := fun a w ha hs => wpListIn_nil (h a w ha hs)
theorem J.op {ops : Array Oper} {o : Oper} {l : List Oper} (hg : o.guard = none) (h : OpJ cx Q o e I H (J cx Q ops l)) : J cx Q ops (o :: l) e I H :=
  fun a w ha hs => wpListIn_plain hg fun K hK => h.toIn K (fun _ _ _ hc a w ha hs => hK a w (hc a w ha hs)) a w ha hs
theorem yielded_of {ops : Array Oper} {a : Act} {n : Nat} {ds : List Deferred} {j d : Nat} {b : Bool} (ha : Has a n e ds) (hd : (ops[j]?).bind (·.dst) = some d) (hv : eg e d = some (.bool b)) :
    yielded ops a.tmps j = some b := by
  have := ha.get d _ hv
  simp only [yielded, hd, Option.bind_some, this]
theorem J.opG {ops : Array Oper} {o : Oper} {l : List Oper} (j d : Nat) (want b : Bool) (hg : o.guard = some (j, want)) (hd : (ops[j]?).bind (·.dst) = some d) (hv : eg e d = some (.bool b)) (hb : b = want)
    (h : OpJ cx Q o e I H (J cx Q ops l)) : J cx Q ops (o :: l) e I H := by
  intro a w ha hs
  refine wpListIn_step fun K hK => ?_
  have hw : Region.wanted o (yielded ops a.tmps) = true := by simp [Region.wanted, hg, yielded_of ha hd hv, hb]
  rw [if_pos hw]
  exact h.toIn K (fun _ _ _ hc a w ha hs => hK a w (hc a w ha hs)) a w ha hs
theorem J.skip {ops : Array Oper} {o : Oper} {l : List Oper} (j d t : Nat) (want b : Bool) (hg : o.guard = some (j, want)) (hd : (ops[j]?).bind (·.dst) = some d) (hv : eg e d = some (.bool b)) (hb : b = !want)
    (ho : o.dst = some t) (ht : Nat.blt t cx.n = true) (h : J cx Q ops l ((t, undef) :: e) I H) : J cx Q ops (o :: l) e I H := by
  intro a w ha hs
  refine wpListIn_step fun K hK => ?_
  have hw : Region.wanted o (yielded ops a.tmps) = false := by simp [Region.wanted, hg, yielded_of ha hd hv, hb]
  rw [hw, ho]
  exact ⟨fun _ _ => trivial, hK _ _ (h _ _ (ha.put ht) hs)⟩
theorem J.skipU {ops : Array Oper} {o : Oper} {l : List Oper} (j d t : Nat) (want : Bool) (hg : o.guard = some (j, want)) (hd : (ops[j]?).bind (·.dst) = some d) (hv : eg e d = some undef)
    (ho : o.dst = some t) (ht : Nat.blt t cx.n = true) (h : J cx Q ops l ((t, undef) :: e) I H) : J cx Q ops (o :: l) e I H := by
  intro a w ha hs
  refine wpListIn_step fun K hK => ?_
  have hw : Region.wanted o (yielded ops a.tmps) = false := by
    have := ha.get d _ hv
    have hy : yielded ops a.tmps j = none := by simp only [yielded, hd, Option.bind_some, this, undef]
    simp [Region.wanted, hg, hy]
  rw [hw, ho]
  exact ⟨fun _ _ => trivial, hK _ _ (h _ _ (ha.put ht) hs)⟩
theorem Cj.seq {x y : Code} (h : Cj cx (Exit.then (y.wpIn cx.F 0 cx.P Q) Q) x e I H) : Cj cx Q (.seq x y) e I H := fun a w ha hs => wpIn_seq (h a w ha hs)
theorem Ej.seq {y : Code} (h : Cj cx Q y e I H) : Ej cx (Exit.then (y.wpIn cx.F 0 cx.P Q) Q) .normal e I H := fun a w ha hs => h a w ha hs
theorem Ej.seqRet {K : Act → World → Prop} (h : Ej cx Q .ret e I H) : Ej cx (Exit.then K Q) .ret e I H := fun a w ha hs => h a w ha hs
theorem Ej.seqExit {K : Act → World → Prop} {id : Nat} (h : Ej cx Q (.exit id) e I H) : Ej cx (Exit.then K Q) (.exit id) e I H := fun a w ha hs => h a w ha hs
theorem Cj.block {id : Nat} {c : Code} (h : Cj cx (Exit.inBlock id Q) c e I H) : Cj cx Q (.block id c) e I H := fun a w ha hs => wpIn_block (h a w ha hs)
theorem Ej.blkNormal {id : Nat} (h : Ej cx Q .normal e I H) : Ej cx (Exit.inBlock id Q) .normal e I H := fun a w ha hs => h a w ha hs
theorem Ej.blkExit {id : Nat} (h : Ej cx Q .normal e I H) : Ej cx (Exit.inBlock id Q) (.exit id) e I H := fun a w ha hs => by
  simp only [Exit.inBlock, if_true]; exact h a w ha hs
theorem Ej.blkOther {id id' : Nat} (hn : Nat.beq id' id = false) (h : Ej cx Q (.exit id') e I H) : Ej cx (Exit.inBlock id Q) (.exit id') e I H := fun a w ha hs => by
  have : id' ≠ id := fun he => by subst he; simp [Nat.beq_refl] at hn
  simp only [Exit.inBlock, this, if_false]; exact h a w ha hs
theorem Ej.blkRet {id : Nat} (h : Ej cx Q .ret e I H) : Ej cx (Exit.inBlock id Q) .ret e I H := fun a w ha hs => h a w ha hs
theorem Cj.skip (h : Ej cx Q .normal e I H) : Cj cx Q .skip e I H := fun a w ha hs => wpIn_skip (h a w ha hs)
theorem Cj.ret (h : Ej cx Q .ret e I H) : Cj cx Q .ret e I H := fun a w ha hs => wpIn_ret (h a w ha hs)
theorem Cj.exit {id : Nat} (h : Ej cx Q (.exit id) e I H) : Cj cx Q (.exit id) e I H := fun a w ha hs => wpIn_exit (h a w ha hs)
theorem Cj.cond {c : Operand} {x y : Code} {t : Bool} (hc : ev e c = some (.bool t)) (h1 : t = true → Cj cx Q x e I H) (h2 : t = false → Cj cx Q y e I H) : Cj cx Q (.cond c x y) e I H :=
  fun a w ha hs => wpIn_cond_split (ha.eval hc) (fun h => h1 h a w ha hs) (fun h => h2 h a w ha hs)
theorem Cj.weak {c : Code} {e' : Env} (hs : Sub e' e) (h : Cj cx Q c e' I H) : Cj cx Q c e I H := fun a w ha h1 => h a w (ha.sub hs) h1
theorem Ej.weak {x : Exit} {e' : Env} (hs : Sub e' e) (h : Ej cx Q x e' I H) : Ej cx Q x e I H := fun a w ha h1 => h a w (ha.sub hs) h1
theorem Cj.keep {c : Code} {H' : HL} (hs : H'.Sublist H) (h : Cj cx Q c e I H') : Cj cx Q c e I H := fun a w ha h1 => h a w ha (h1.sublist hs)
theorem Ej.keep {x : Exit} {H' : HL} (hs : H'.Sublist H) (h : Ej cx Q x e I H') : Ej cx Q x e I H := fun a w ha h1 => h a w ha (h1.sublist hs)
theorem Cj.perm {c : Code} {H' : HL} (hs : H'.Perm H) (h : Cj cx Q c e I H') : Cj cx Q c e I H := fun a w ha h1 => h a w ha (h1.perm hs)
theorem J.perm {ops : Array Oper} {l : List Oper} {H' : HL} (hs : H'.Perm H) (h : J cx Q ops l e I H') : J cx Q ops l e I H := fun a w ha h1 => h a w ha (h1.perm hs)
theorem Ej.perm {x : Exit} {H' : HL} (hs : H'.Perm H) (h : Ej cx Q x e I H') : Ej cx Q x e I H := fun a w ha h1 => h a w ha (h1.perm hs)
theorem OpJ.perm {o : Oper} {C : Ct} {H' : HL} (hs : H'.Perm H) (h : OpJ cx Q o e I H' C) : OpJ cx Q o e I H C := fun K hK a w ha h1 => h K hK a w ha (h1.perm hs)
def Mid (cx : Cx) (Q : Qt) (M : Env → Heap → HL → Prop) : Qt
  | .normal, a, w => ∃ e I H, M e I H ∧ Has a cx.n e cx.ds ∧ St cx.w0 cx.D cx.I0 I H w
  | x, a, w => Q x a w
def LoopQ (cx : Cx) (Q : Qt) {ι : Type} (pre : ι → Prop) (μ : ι → Nat) (i : ι) (env : ι → Env) (hp : ι → Heap) (hl : ι → HL) : Qt
  | .normal, a, w => ∃ j, pre j ∧ μ j < μ i ∧ Has a cx.n (env j) cx.ds ∧ St cx.w0 cx.D cx.I0 (hp j) (hl j) w
  | x, a, w => Q x a w
theorem Cj.loop {ι : Type} (pre : ι → Prop) (μ : ι → Nat) (env : ι → Env) (hp : ι → Heap) (hl : ι → HL) {c : Code} (i0 : ι) (h0 : pre i0) (hs : Sub (env i0) e) (hI : hp i0 = I) (hH : hl i0 = H)
    (round : ∀ i, pre i → Cj cx (LoopQ cx Q pre μ i env hp hl) c (env i) (hp i) (hl i)) : Cj cx Q (.loop c) e I H := by
  intro a w ha hst
  refine wpIn_loop_gh (fun m a w => ∃ i, pre i ∧ μ i = m ∧ Has a cx.n (env i) cx.ds ∧ St cx.w0 cx.D cx.I0 (hp i) (hl i) w) (μ i0) ⟨i0, h0, rfl, ha.sub hs, hI ▸ hH ▸ hst⟩ ?_
  rintro m a w ⟨i, hi, rfl, ha, hst⟩
  refine wpIn_mono'  (fun x a w hq => ?_) (round i hi a w ha hst)
  cases x <;> first
    | exact hq
    | (obtain ⟨j, hj, hlt, ha', hs'⟩ := hq; exact ⟨μ j, hlt, j, hj, rfl, ha', hs'⟩)
section round
variable {ι : Type} {pre : ι → Prop} {μ : ι → Nat} {i : ι} {env : ι → Env} {hp : ι → Heap} {hl : ι → HL}
theorem Ej.round (j : ι) (hj : pre j) (hm : μ j < μ i) (hs : Sub (env j) e) (hI : hp j = I) (hH : hl j = H) : Ej cx (LoopQ cx Q pre μ i env hp hl) .normal e I H :=
  fun _ _ ha h1 => ⟨j, hj, hm, ha.sub hs, hI ▸ hH ▸ h1⟩
theorem Ej.loopRet (h : Ej cx Q .ret e I H) : Ej cx (LoopQ cx Q pre μ i env hp hl) .ret e I H := fun a w ha hs => h a w ha hs
theorem Ej.loopExit {id : Nat} (h : Ej cx Q (.exit id) e I H) : Ej cx (LoopQ cx Q pre μ i env hp hl) (.exit id) e I H := fun a w ha hs => h a w ha hs
end round
end rules
end Go.Sx
namespace Go.Sx
open Go
variable [DR]
def Yld (cx : Cx) (o : Oper) (e : Env) (S : World → Prop) (v : Value) : Prop :=
  ∀ a w, Has a cx.n e cx.ds → S w → (execOp a.eval o).run cx.P w = .ok (.value v) w
def str (l : List UInt8) : Value := .string ⟨l.toArray⟩
abbrev i64 (n : Int) : Value := .int .i64 n
abbrev u8 (c : UInt8) : Value := .int .u8 (c.toNat : Int)
abbrev ptr (b o : Nat) : Value := .pointer (some ⟨b, o, none⟩)
def cel (t : TypeId) (l : List Value) : Obj := .cells l.toArray t (0, 0)
theorem size_mk (l : List UInt8) : (⟨l.toArray⟩ : ByteArray).size = l.length := by
  show l.toArray.size = _
  simp
theorem bne_f {α : Type} [BEq α] [LawfulBEq α] {a b : α} (h : (a != b) = false) : a = b := by simpa using h
section
variable {cx : Cx} {Q : Qt} {o : Oper} {e : Env} {I : Heap} {H : HL} {C : Ct} {S : World → Prop}
theorem op_yld {d : Nat} {v : Value} (hy : Yld cx o e (SS I H) v) (ho : o.dst = some d) (hd : Nat.blt d cx.n = true) (k : C ((d, v) :: e) I H) : OpJ cx Q o e I H C := by
  intro K hK a w ha hs
  unfold Oper.wp
  rw [hy a w ha hs.ss]
  simp only [Oper.upon, ho]
  exact hK _ _ _ k _ _ (ha.put hd) hs
theorem J.y {ops : Array Oper} {l : List Oper} {d : Nat} {v : Value} (hy : Yld cx o e (SS I H) v) (hg : o.guard = none) (ho : o.dst = some d) (hd : Nat.blt d cx.n = true)
    (k : J cx Q ops l ((d, v) :: e) I H) : J cx Q ops (o :: l) e I H := J.op hg (op_yld hy ho hd k)
theorem J.z {ops : Array Oper} {l : List Oper} {d : Nat} {v : Value} (hy : Yld cx o e (SS I H) v) (k : J cx Q ops l ((d, v) :: e) I H) (hg : o.guard = none := by rfl) (ho : o.dst = some d := by rfl) (hd : Nat.blt d cx.n = true := by rfl) : J cx Q ops (o :: l) e I H := J.y hy hg ho hd k
theorem yl_move {x : Operand} {v : Value} (ho : o.op = .move x) (hx : ev e x = some v) : Yld cx o e S v := by
  intro a w ha _
  simp only [execOp, ho, Sem.run_pure, ha.eval hx]
theorem q2 {x : Operand} {v : Value} (ho : o.op = .move x := by exact rfl) (hx : ev e x = some v := by exact rfl) : Yld cx o e S v := yl_move ho hx
theorem yl_assign {x : Operand} {v : Value} (ho : o.op = .assign x) (hx : ev e x = some v) : Yld cx o e S v := by
  intro a w ha _
  simp only [execOp, ho, Sem.run_pure, ha.eval hx]
theorem yl_pick1 {c x y : Operand} {t : Bool} {v : Value} (ho : o.op = .pick c x y) (hc : ev e c = some (.bool t)) (ht : t = true) (hx : ev e x = some v) : Yld cx o e S v := by
  intro a w ha _
  subst ht
  simp [execOp, ho, ha.eval hc, ha.eval hx, asBool]
theorem yl_pick0 {c x y : Operand} {t : Bool} {v : Value} (ho : o.op = .pick c x y) (hc : ev e c = some (.bool t)) (ht : t = false) (hx : ev e y = some v) : Yld cx o e S v := by
  intro a w ha _
  subst ht
  simp [execOp, ho, ha.eval hc, ha.eval hx, asBool]
theorem yl_nilCheck {x : Operand} {p : Addr} (ho : o.op = .nilCheck x) (hx : ev e x = some (.pointer (some p))) : Yld cx o e S (.pointer (some p)) := by
  intro a w ha _
  simp [execOp, ho, ha.eval hx]
theorem yl_fieldAddr {x : Operand} {T k b off off' m : Nat} {fs : Array Field} {f : Field} (ho : o.op = .fieldAddr T x k) (hx : ev e x = some (ptr b off))
    (hu : cx.P.underlying T = some (.struct fs)) (hf : fs[k]? = some f) (hsz : ∀ w, (sizeOf f.type).run cx.P w = .ok (m + 1) w) (hoff : off + f.offset = off') :
    Yld cx o e S (ptr b off') := by
  intro a w ha _
  subst hoff
  simp [execOp, ho, ha.eval hx, Instr.fieldAt, run_underlying hu, hf, Instr.sureAddr, fieldPlace, hsz, Addr.add_lit]
theorem q1 {x : Operand} {T k b off off' m : Nat} {fs : Array Field} {f : Field} (hu : cx.P.underlying T = some (.struct fs)) (hsz : ∀ w, (sizeOf f.type).run cx.P w = .ok (m + 1) w) (ho : o.op = .fieldAddr T x k := by exact rfl) (hx : ev e x = some (ptr b off) := by exact rfl) (hf : fs[k]? = some f := by exact rfl) (hoff : off + f.offset = off' := by exact rfl) : Yld cx o e S (ptr b off') := yl_fieldAddr ho hx hu hf hsz hoff
theorem cell_of_heap {w : World} {b off : Nat} {cs : List Value} {t : TypeId} {fr : Nat × Nat} {v : Value} (h : w.heap[b]? = some (.cells cs.toArray t fr)) (hv : cs[off]? = some v) :
    w.cell? ⟨b, off, none⟩ = some v := by
  simp [World.cell?, h, hv]
theorem yl_load {x : Operand} {T b off : Nat} {cs : List Value} {t : TypeId} {fr : Nat × Nat} {v : Value} (ho : o.op = .load T x) (hx : ev e x = some (ptr b off))
    (ha0 : ∀ w, (isAgg T).run cx.P w = .ok false w) (hb : Blk S b (.cells cs.toArray t fr)) (hv : cs[off]? = some v) : Yld cx o e S v := by
  intro a w ha hs
  have hc := cell_of_heap (hb w hs) hv
  simp [execOp, ho, ha.eval hx, Instr.loadAt, Instr.sureAddr, loadVar, ha0, hc]
theorem yl_loadAgg {x : Operand} {T b off n : Nat} {cs vs : List Value} {t : TypeId} {fr : Nat × Nat} (ho : o.op = .load T x) (hx : ev e x = some (ptr b off))
    (ha0 : ∀ w, (isAgg T).run cx.P w = .ok true w) (hsz : ∀ w, (sizeOf T).run cx.P w = .ok n w) (hb : Blk S b (.cells cs.toArray t fr)) (hv : (cs.drop off).take n = vs) (hn : vs.length = n) :
    Yld cx o e S (.agg vs.toArray) := by
  intro a w ha hs
  have hh := hb w hs
  have hc : ∀ j v, vs[j]? = some v → w.cell? ((⟨b, off, none⟩ : Addr).add j) = some v := by
    intro j v hj
    rw [Addr.add_lit]
    refine cell_of_heap hh ?_
    rw [← hv] at hj
    rw [List.getElem?_take] at hj
    split at hj
    · simpa [List.getElem?_drop] using hj
    cases hj
  have := run_loadCells_list (P := cx.P) (w := w) ⟨b, off, none⟩ vs hc
  rw [hn] at this
  simp [execOp, ho, ha.eval hx, Instr.loadAt, Instr.sureAddr, loadVar, ha0, hsz, this]
theorem yl_add {x y : Operand} {T U : Nat} {k : IntKind} {p q : Int} (ho : o.op = .binOp .add T x y U) (hx : ev e x = some (.int k p)) (hy : ev e y = some (.int k q)) (hw : k.wrap (p + q) = p + q) :
    Yld cx o e S (.int k (p + q)) := by
  intro a w ha _
  simp [execOp, ho, ha.eval hx, ha.eval hy, eqGuard_add, binOp_add, Op.intArith, hw]
theorem yl_sub {x y : Operand} {T U : Nat} {k : IntKind} {p q : Int} (ho : o.op = .binOp .sub T x y U) (hx : ev e x = some (.int k p)) (hy : ev e y = some (.int k q)) (hw : k.wrap (p - q) = p - q) :
    Yld cx o e S (.int k (p - q)) := by
  intro a w ha _
  simp [execOp, ho, ha.eval hx, ha.eval hy, eqGuard_sub, binOp_sub, Op.intArith, hw]
theorem yl_mul {x y : Operand} {T U : Nat} {k : IntKind} {p q : Int} (ho : o.op = .binOp .mul T x y U) (hx : ev e x = some (.int k p)) (hy : ev e y = some (.int k q)) (hw : k.wrap (p * q) = p * q) :
    Yld cx o e S (.int k (p * q)) := by
  intro a w ha _
  simp [execOp, ho, ha.eval hx, ha.eval hy, eqGuard_mul, binOp_mul, Op.intArith, hw]
theorem yl_addW {x y : Operand} {T U : Nat} {k : IntKind} {p q : Int} (ho : o.op = .binOp .add T x y U) (hx : ev e x = some (.int k p)) (hy : ev e y = some (.int k q)) :
    Yld cx o e S (.int k (k.wrap (p + q))) := by
  intro a w ha _
  simp [execOp, ho, ha.eval hx, ha.eval hy, eqGuard_add, binOp_add, Op.intArith]
theorem yl_quo {x y : Operand} {T U : Nat} {k : IntKind} {p q : Int} (ho : o.op = .binOp .quo T x y U) (hx : ev e x = some (.int k p)) (hy : ev e y = some (.int k q)) (h0 : q ≠ 0) (hw : k.wrap (p.tdiv q) = p.tdiv q) :
    Yld cx o e S (.int k (p.tdiv q)) := by
  intro a w ha _
  simp [execOp, ho, ha.eval hx, ha.eval hy, eqGuard_quo, binOp_quo, Op.intDiv, hw, h0]
theorem yl_rem {x y : Operand} {T U : Nat} {k : IntKind} {p q : Int} (ho : o.op = .binOp .rem T x y U) (hx : ev e x = some (.int k p)) (hy : ev e y = some (.int k q)) (h0 : q ≠ 0) :
    Yld cx o e S (.int k (p.tmod q)) := by
  intro a w ha _
  simp [execOp, ho, ha.eval hx, ha.eval hy, eqGuard_rem, binOp_rem, Op.intDiv, h0]
theorem yl_lss {x y : Operand} {T U : Nat} {k : IntKind} {p q : Int} (ho : o.op = .binOp .lss T x y U) (hx : ev e x = some (.int k p)) (hy : ev e y = some (.int k q)) : Yld cx o e S (.bool (decide (p < q))) := by
  intro a w ha _
  simp [execOp, ho, ha.eval hx, ha.eval hy, eqGuard_lss, binOp_lss]
theorem yl_leq {x y : Operand} {T U : Nat} {k : IntKind} {p q : Int} (ho : o.op = .binOp .leq T x y U) (hx : ev e x = some (.int k p)) (hy : ev e y = some (.int k q)) : Yld cx o e S (.bool (decide (p ≤ q))) := by
  intro a w ha _
  simp [execOp, ho, ha.eval hx, ha.eval hy, eqGuard_leq, binOp_leq]
theorem yl_gtr {x y : Operand} {T U : Nat} {k : IntKind} {p q : Int} (ho : o.op = .binOp .gtr T x y U) (hx : ev e x = some (.int k p)) (hy : ev e y = some (.int k q)) : Yld cx o e S (.bool (decide (p > q))) := by
  intro a w ha _
  simp [execOp, ho, ha.eval hx, ha.eval hy, eqGuard_gtr, binOp_gtr]
theorem yl_geq {x y : Operand} {T U : Nat} {k : IntKind} {p q : Int} (ho : o.op = .binOp .geq T x y U) (hx : ev e x = some (.int k p)) (hy : ev e y = some (.int k q)) : Yld cx o e S (.bool (decide (p ≥ q))) := by
  intro a w ha _
  simp [execOp, ho, ha.eval hx, ha.eval hy, eqGuard_geq, binOp_geq]
theorem yl_eql {x y : Operand} {T U : Nat} {k : IntKind} {p q : Int} (ho : o.op = .binOp .eql T x y U) (hx : ev e x = some (.int k p)) (hy : ev e y = some (.int k q)) : Yld cx o e S (.bool (p == q)) := by
  intro a w ha _
  simp [execOp, ho, ha.eval hx, ha.eval hy, eqGuard_at_int, binOp_eql]
theorem yl_neq {x y : Operand} {T U : Nat} {k : IntKind} {p q : Int} (ho : o.op = .binOp .neq T x y U) (hx : ev e x = some (.int k p)) (hy : ev e y = some (.int k q)) : Yld cx o e S (.bool (p != q)) := by
  intro a w ha _
  simp [execOp, ho, ha.eval hx, ha.eval hy, eqGuard_at_int, binOp_neq]
theorem yl_not {x : Operand} {T : Nat} {b : Bool} (ho : o.op = .unOp .not T x) (hx : ev e x = some (.bool b)) : Yld cx o e S (.bool (!b)) := by
  intro a w ha _
  simp [execOp, ho, ha.eval hx, Op.unary]
theorem yl_convInt {x : Operand} {Sy T : Nat} {k k' : IntKind} {n : Int} {d : TypeDesc} (ho : o.op = .convert Sy T x) (hx : ev e x = some (.int k' n)) (hs : cx.P.underlying Sy = some d) (hu : cx.P.underlying T = some (.int k)) :
    Yld cx o e S (.int k (k.wrap n)) := by
  intro a w ha _
  simp [execOp, ho, ha.eval hx, convert, run_underlying hs, run_underlying hu, Conv.intToInt]
theorem yl_lenStr {x : Operand} {T : Nat} {l : List UInt8} (ho : o.op = .call ⟨.builtin .len, #[x], #[T]⟩) (hx : ev e x = some (str l)) (hu : cx.P.underlying T = some .string) : Yld cx o e S (i64 l.length) := by
  intro a w ha _
  simp [execOp, ho, resolve, invoke, builtin, Builtin.len_, ha.eval hx, run_underlying hu, str, goInt, size_mk]
theorem yl_lenSlice {x : Operand} {T E : Nat} {p : Option Addr} {n c : Nat} (ho : o.op = .call ⟨.builtin .len, #[x], #[T]⟩) (hx : ev e x = some (.slice p n c)) (hu : cx.P.underlying T = some (.slice E)) : Yld cx o e S (i64 n) := by
  intro a w ha _
  simp [execOp, ho, resolve, invoke, builtin, Builtin.len_, ha.eval hx, run_underlying hu, goInt]
theorem yl_index {x y : Operand} {T : Nat} {l : List UInt8} {k : IntKind} {i : Int} {c : UInt8} (ho : o.op = .index T x y) (hx : ev e x = some (str l)) (hy : ev e y = some (.int k i)) (hu : cx.P.underlying T = some .string)
    (h0 : 0 ≤ i) (hc : l[i.toNat]? = some c) : Yld cx o e S (u8 c) := by
  intro a w ha _
  have : (⟨l.toArray⟩ : ByteArray)[i.toNat]? = some c := by
    obtain ⟨hlt, hg⟩ := List.getElem?_eq_some_iff.1 hc
    rw [getElem?_pos (⟨l.toArray⟩ : ByteArray) i.toNat (by rw [size_mk]; exact hlt)]
    simp [ByteArray.getElem_eq_getElem_data, hg]
  simp [execOp, ho, ha.eval hx, ha.eval hy, Instr.index, run_underlying hu, str, asIntOf, h0, this]
theorem q4 {x y : Operand} {T : Nat} {l : List UInt8} {k : IntKind} {i : Int} {c : UInt8} (hu : cx.P.underlying T = some .string) (hc : l[i.toNat]? = some c) (ho : o.op = .index T x y := by exact rfl) (hx : ev e x = some (str l) := by exact rfl) (hy : ev e y = some (.int k i) := by exact rfl) (h0 : 0 ≤ i := by omega) : Yld cx o e S (u8 c) := yl_index ho hx hy hu h0 hc
theorem yl_sliceStr {x : Operand} {lo hi : Option Operand} {T : Nat} {l : List UInt8} {p q : Nat} (ho : o.op = .slice T x lo hi none) (hx : ev e x = some (str l)) (hu : cx.P.underlying T = some .string)
    (hlo : match lo with | some y => ∃ k, ev e y = some (.int k p) | none => p = 0) (hhi : match hi with | some y => ∃ k, ev e y = some (.int k q) | none => q = l.length)
    (h1 : p ≤ q) (h2 : q ≤ l.length) : Yld cx o e S (str ((l.take q).drop p)) := by
  intro a w ha _
  have hex : (⟨l.toArray⟩ : ByteArray).extract p q = ⟨((l.take q).drop p).toArray⟩ := by
    apply ByteArray.ext
    simp [ByteArray.data_extract]
    rw [List.drop_take]
  cases lo with
  | none =>
    simp only at hlo; subst hlo
    cases hi with
    | none =>
      simp only at hhi; subst hhi
      simp [execOp, ho, ha.eval hx, Instr.sliceAt, Instr.slice, Instr.sliceBounds, run_underlying hu, str]
      first | done | simpa [size_mk] using hex
    | some y =>
      obtain ⟨k, hy⟩ := hhi
      simp [execOp, ho, ha.eval hx, ha.eval hy, Instr.sliceAt, Instr.slice, Instr.sliceBounds, run_underlying hu, str, Instr.sliceBound, asIntOf, size_mk, h2]
      first | done | simpa using hex
  | some z =>
    obtain ⟨k', hz⟩ := hlo
    cases hi with
    | none =>
      simp only at hhi; subst hhi
      simp [execOp, ho, ha.eval hx, ha.eval hz, Instr.sliceAt, Instr.slice, Instr.sliceBounds, run_underlying hu, str, Instr.sliceBound, asIntOf, size_mk, h1]
      first | done | simpa using hex
    | some y =>
      obtain ⟨k, hy⟩ := hhi
      simp [execOp, ho, ha.eval hx, ha.eval hy, ha.eval hz, Instr.sliceAt, Instr.slice, Instr.sliceBounds, run_underlying hu, str, Instr.sliceBound, asIntOf, size_mk, h2, h1]
      first | done | simpa using hex
theorem yl_cat {x y : Operand} {T U : Nat} {l m : List UInt8} (ho : o.op = .binOp .add T x y U) (hx : ev e x = some (str l)) (hy : ev e y = some (str m)) (hw : l.length + m.length ≤ 9223372036854775807) :
    Yld cx o e S (str (l ++ m)) := by
  intro a w ha _
  have h1 : ¬ ((((⟨l.toArray⟩ : ByteArray).size + (⟨m.toArray⟩ : ByteArray).size : Nat) : Int) > IntKind.i64.max) := by
    rw [size_mk, size_mk]; simp; omega
  have h2 : (⟨l.toArray⟩ : ByteArray) ++ ⟨m.toArray⟩ = ⟨(l ++ m).toArray⟩ := by
    apply ByteArray.ext; simp
  simp only [execOp, ho, ha.eval hx, ha.eval hy, eqGuard_add, str, binOp, Op.stringOp, if_neg h1, h2, Sem.run_bind, Sem.run_pure, Result.andThen_ok]
theorem yl_eqlStr {x y : Operand} {T U : Nat} {l m : List UInt8} (ho : o.op = .binOp .eql T x y U) (hx : ev e x = some (str l)) (hy : ev e y = some (str m)) : Yld cx o e S (.bool (l == m)) := by
  intro a w ha _
  simp [execOp, ho, ha.eval hx, ha.eval hy, str, eqGuard_at_string, binOp, Op.stringOp]
theorem yl_neqStr {x y : Operand} {T U : Nat} {l m : List UInt8} (ho : o.op = .binOp .neq T x y U) (hx : ev e x = some (str l)) (hy : ev e y = some (str m)) : Yld cx o e S (.bool (l != m)) := by
  intro a w ha _
  simp [execOp, ho, ha.eval hx, ha.eval hy, str, eqGuard_at_string, binOp, Op.stringOp, bne]
theorem yl_indexAddr {x y : Operand} {T E b off n c sz off' : Nat} {k : IntKind} {i : Int} (ho : o.op = .indexAddr T x y) (hx : ev e x = some (.slice (some ⟨b, off, none⟩) n c)) (hy : ev e y = some (.int k i))
    (hu : cx.P.underlying T = some (.slice E)) (hsz : ∀ w, (sizeOf E).run cx.P w = .ok sz w) (h0 : 0 ≤ i) (h1 : i < n) (hoff : off + i.toNat * sz = off') : Yld cx o e S (ptr b off') := by
  intro a w ha _
  subst hoff
  simp [execOp, ho, ha.eval hx, ha.eval hy, Instr.indexAt, asIntOf, run_underlying hu, h0, h1, hsz, Addr.add_lit]
theorem yl_extract {x : Operand} {k : Nat} {vs : List Value} {v : Value} (ho : o.op = .extract x k) (hx : ev e x = some (.tuple vs.toArray)) (hv : vs[k]? = some v) : Yld cx o e S v := by
  intro a w ha _
  simp [execOp, ho, ha.eval hx, Instr.extract, hv]
theorem yl_makeFunc {fn : Fn} {fs cs : List Operand} {vs us : List Value} (ho : o.op = .makeFunc fn fs.toArray cs.toArray) (h1 : evs e fs = some vs) (h2 : evs e cs = some us) : Yld cx o e S (.func fn vs.toArray us.toArray) := by
  intro a w ha _
  simp [execOp, ho, Instr.makeFunc, ha.evals h1, ha.evals h2]
theorem yl_makeIface {T : Nat} {x : Operand} {v : Value} {d : TypeDesc} (ho : o.op = .makeInterface T x) (hx : ev e x = some v) (hu : cx.P.underlying T = some d) (hn : (match d with | .interface _ => false | _ => true) = true) : Yld cx o e S (.iface T v) := by
  intro a w ha _
  simp only [execOp, ho, Instr.makeInterface, ha.eval hx, Sem.run_bind, run_underlying hu, Result.andThen_ok]
  cases d <;> first | rfl | cases hn
end
end Go.Sx
namespace Go.Sx
open Go
variable [DR]
structure LSet {α : Type} (l : List α) (i : Nat) (x : α) (l' : List α) : Prop where
  lt : i < l.length
  eq : l.set i x = l'
theorem LSet.z {α : Type} {v x : α} {r : List α} : LSet (v :: r) 0 x (x :: r) := ⟨by simp, rfl⟩
theorem LSet.s {α : Type} {v x : α} {r r' : List α} {n : Nat} (h : LSet r n x r') : LSet (v :: r) (n + 1) x (v :: r') :=
  ⟨by have := h.1; simp; omega, by rw [List.set_cons_succ, h.2]⟩
structure LSpl {α : Type} (l : List α) (i : Nat) (xs : List α) (l' : List α) : Prop where
  le : i + xs.length ≤ l.length
  eq : l' = l.take i ++ xs ++ l.drop (i + xs.length)
theorem LSpl.z {α : Type} {l : List α} : LSpl l 0 [] l := ⟨by simp, by simp⟩
theorem LSpl.c {α : Type} {v x : α} {r r' xs : List α} (h : LSpl r 0 xs r') : LSpl (v :: r) 0 (x :: xs) (x :: r') := by
  obtain ⟨h1, h2⟩ := h
  refine ⟨by simp at h1 ⊢; omega, ?_⟩
  subst h2; simp
theorem LSpl.s {α : Type} {v : α} {r r' xs : List α} {n : Nat} (h : LSpl r n xs r') : LSpl (v :: r) (n + 1) xs (v :: r') := by
  obtain ⟨h1, h2⟩ := h
  refine ⟨by simp; omega, ?_⟩
  subst h2
  simp [List.take_succ_cons, Nat.add_right_comm n 1, List.drop_succ_cons]
theorem hset_at : ∀ (H : HL) (i b : Nat) (o o' : Obj), (H.map (·.1)).Nodup → H[i]? = some (b, o) → hset b o' H = H.set i (b, o')
  | [], i, b, o, o', _, h => by simp at h
  | (c, x) :: r, 0, b, o, o', _, h => by
    simp at h
    obtain ⟨rfl, rfl⟩ := h
    simp [hset]
  | (c, x) :: r, i + 1, b, o, o', hn, h => by
    simp only [List.map_cons, List.nodup_cons] at hn
    simp only [List.getElem?_cons_succ] at h
    have hcb : c ≠ b := fun he => hn.1 (by rw [he]; exact List.mem_map_of_mem (f := (·.1)) (List.mem_of_getElem? h))
    simp only [hset, if_neg hcb, List.set_cons_succ]
    rw [hset_at r i b o o' hn.2 h]
def World.block (w : World) (b : Nat) (o : Obj) : World := { w with heap := w.heap.setIfInBounds b o }
theorem setCell_block {w : World} {b off : Nat} {cs : List Value} {t : TypeId} {fr : Nat × Nat} {v : Value} (h : w.heap[b]? = some (.cells cs.toArray t fr)) :
    w.setCell ⟨b, off, none⟩ v = World.block w b (.cells (cs.set off v).toArray t fr) := by
  have hb : b < w.heap.size := by
    rcases Nat.lt_or_ge b w.heap.size with h' | h'
    · exact h'
    simp [Array.getElem?_eq_none h'] at h
  simp only [World.setCell, World.block]
  congr 1
  apply Array.ext_getElem?
  intro i
  rw [Array.getElem?_modify, Array.getElem?_setIfInBounds]
  by_cases hi : b = i
  · subst hi
    have hg : w.heap[b] = .cells cs.toArray t fr := by simpa [hb] using h
    simp [hb, hg]
  simp [hi]
theorem block_get {w : World} {b : Nat} {o o' : Obj} (h : w.heap[b]? = some o) : (World.block w b o').heap[b]? = some o' := by
  have hb : b < w.heap.size := by
    rcases Nat.lt_or_ge b w.heap.size with h' | h'
    · exact h'
    simp [Array.getElem?_eq_none h'] at h
  simp [World.block, hb]
theorem block_ne {w : World} {b c : Nat} {o' : Obj} (h : c ≠ b) : (World.block w b o').heap[c]? = w.heap[c]? := by
  simp [World.block, Ne.symm h]
theorem block_block {w : World} {b : Nat} {o o' : Obj} : World.block (World.block w b o) b o' = World.block w b o' := by
  simp [World.block]
theorem St.block {w0 : World} {D : List Nat} {I0 I : Heap} {H H' : HL} {w : World} {i b : Nat} {o o' : Obj} (h : St w0 D I0 I H w) (hi : H[i]? = some (b, o)) (hs : LSet H i (b, o') H') :
    St w0 D I0 I H' (World.block w b o') := by
  have hm := List.mem_of_getElem? hi
  have := h.write (o' := o') hm (w' := World.block w b o') rfl rfl rfl (by simp [World.block]) (block_get (h.own _ hm)) (fun c hc => block_ne hc) rfl
  rw [hset_at H i b o o' h.nodup hi, hs.2] at this
  exact this
theorem run_storeCells {P : Program} {b off : Nat} {t : TypeId} {fr : Nat × Nat} : ∀ (vs : List Value) (i : Nat) (w : World) (cs : List Value), w.heap[b]? = some (.cells cs.toArray t fr) → (fr = (0, 0) ∨ cs.length ≤ fr.1) → off + i + vs.length ≤ cs.length →
    (∀ v ∈ vs, v.oneCell' = true) → ∀ cs', LSpl cs (off + i) vs cs' → (storeCells ⟨b, off, none⟩ vs i).run P w = .ok () (World.block w b (.cells cs'.toArray t fr))
  | [], i, w, cs, h, _, _, _, cs', hl => by
    have : cs' = cs := by have := hl.2; simpa using this
    subst this
    have hw : World.block w b (.cells cs'.toArray t fr) = w := by
      simp only [World.block]
      congr 1
      apply Array.ext_getElem?
      intro j
      rw [Array.getElem?_setIfInBounds]
      by_cases hj : b = j
      · subst hj
        have hb : b < w.heap.size := by
          rcases Nat.lt_or_ge b w.heap.size with h' | h'
          · exact h'
          simp [Array.getElem?_eq_none h'] at h
        have hg : w.heap[b] = .cells cs'.toArray t fr := by simpa [hb] using h
        simp [hb, hg]
      simp [hj]
    rw [hw]; rfl
  | v :: r, i, w, cs, h, hfr, hlen, hone, cs', hl => by
    simp only [List.length_cons] at hlen
    have hlt : off + i < cs.length := by omega
    have hc : w.cell? ⟨b, off + i, none⟩ = some (cs[off + i]'hlt) := cell_of_heap h (by simp [hlt])
    have hfz : w.frozen? ⟨b, off + i, none⟩ = false := by
      rcases hfr with rfl | hfr
      · simp [World.frozen?, h]
      simp only [World.frozen?, h]
      have : decide (fr.1 ≤ off + i) = false := by simp; omega
      simp [this]
    have h1 := run_store P w ⟨b, off + i, none⟩ v .plain (hone v (.head _))
    simp only [hc, hfz, Bool.false_eq_true, if_false] at h1
    have hadd : ((⟨b, off, none⟩ : Addr).add i) = ⟨b, off + i, none⟩ := Addr.add_lit b off i
    simp only [storeCells, Sem.run_bind, hadd, h1, Result.andThen_ok]
    rw [setCell_block h]
    have h2 : (World.block w b (.cells (cs.set (off + i) v).toArray t fr)).heap[b]? = some (.cells (cs.set (off + i) v).toArray t fr) := block_get h
    rw [run_storeCells r (i + 1) _ (cs.set (off + i) v) h2 (by simpa using hfr) (by simp; omega) (fun u hu => hone u (.tail _ hu)) cs' ?_, block_block]
    refine ⟨by simp; omega, ?_⟩
    rw [hl.2]
    simp only [List.length_cons]
    rw [show off + (i + 1) = (off + i) + 1 from by omega]
    rw [List.take_set, List.drop_set_of_lt (by omega)]
    rw [List.take_succ_eq_append_getElem hlt]
    rw [List.set_append_right _ _ (by simp; omega)]
    simp [Nat.min_eq_left (Nat.le_of_lt hlt), Nat.add_assoc, Nat.add_comm 1]
structure LCat (vs : List Value) (sz : Nat) (cs : List Value) : Prop where
  all : ∀ v ∈ vs, v.cells.size = sz
  eq : vs.flatMap (fun v => v.cells.toList) = cs
theorem LCat.none {sz : Nat} : LCat [] sz [] := ⟨by simp, rfl⟩
theorem LCat.one {v : Value} {vs cs : List Value} (h1 : v.cells = #[v]) (h : LCat vs 1 cs) : LCat (v :: vs) 1 (v :: cs) :=
  ⟨fun u hu => by cases hu with | head => rw [h1]; rfl | tail _ hu => exact h.1 u hu, by rw [List.flatMap_cons, h1, h.2]; rfl⟩
theorem LCat.agg {xs vs cs : List Value} {sz : Nat} (h1 : xs.length = sz) (h : LCat vs sz cs) : LCat (.agg xs.toArray :: vs) sz (xs ++ cs) :=
  ⟨fun u hu => by cases hu with | head => simpa [Value.cells] using h1 | tail _ hu => exact h.1 u hu, by rw [List.flatMap_cons, h.2]; rfl⟩
theorem foldl_put : ∀ (xs : List Value) (k : Nat) (pre old post : List Value) (off : Nat), old.length = xs.length → pre.length = off + k →
    (xs.zipIdx k).foldl (fun cs (x : Value × Nat) => cs.setIfInBounds (off + x.2) x.1) (pre ++ old ++ post).toArray = (pre ++ xs ++ post).toArray
  | [], k, pre, old, post, off, h, _ => by
    have : old = [] := List.length_eq_zero_iff.1 (by simpa using h)
    subst this; simp
  | x :: xs, k, pre, old, post, off, h, hp => by
    obtain ⟨y, r, rfl⟩ : ∃ y r, old = y :: r := by
      cases old with
      | nil => simp at h
      | cons y r => exact ⟨y, r, rfl⟩
    simp only [List.zipIdx_cons, List.foldl_cons]
    have h1 : (pre ++ y :: r ++ post).toArray.setIfInBounds (off + k) x = ((pre ++ [x]) ++ r ++ post).toArray := by
      rw [List.setIfInBounds_toArray]
      congr 1
      rw [List.append_assoc, List.set_append_right _ _ (by omega), hp, Nat.sub_self]
      simp
    rw [h1, foldl_put xs (k + 1) (pre ++ [x]) r post off (by simpa using h) (by simp; omega)]
    simp
theorem fill_cat {sz : Nat} : ∀ (vs : List Value) (k : Nat) (pre rest : List Value), (∀ v ∈ vs, v.cells.size = sz) → pre.length = k * sz → rest.length = vs.length * sz →
    Instr.fill (fun i => some (i * sz, sz)) (pre ++ rest).toArray ((List.range' k vs.length).zip vs) = some (pre ++ vs.flatMap (fun v => v.cells.toList)).toArray
  | [], k, pre, rest, _, _, hr => by
    have : rest = [] := List.length_eq_zero_iff.1 (by simpa using hr)
    subst this; simp [Instr.fill]
  | v :: vs, k, pre, rest, hv, hp, hr => by
    have h1 : v.cells.toList.length = sz := by simpa using hv v (.head _)
    have hr' : rest.length = sz + vs.length * sz := by rw [hr]; simp [Nat.add_mul]; omega
    have hs1 : v.cells.size = sz := hv v (.head _)
    simp only [List.length_cons, List.range'_succ, List.zip_cons_cons, Instr.fill]
    rw [if_neg (by simp [hs1, hp]; omega)]
    have h2 : v.cells.zipIdx.foldl (fun cs (x : Value × Nat) => cs.setIfInBounds (k * sz + x.2) x.1) (pre ++ rest).toArray = (pre ++ v.cells.toList ++ rest.drop sz).toArray := by
      rw [← foldl_put v.cells.toList 0 pre (rest.take sz) (rest.drop sz) (k * sz) (by simp; omega) (by omega)]
      rw [List.append_assoc pre, List.take_append_drop]
      rw [← Array.foldl_toList, Array.toList_zipIdx]
    rw [h2, fill_cat vs (k + 1) (pre ++ v.cells.toList) (rest.drop sz) (fun u hu => hv u (.tail _ hu)) (by simp [hs1, hp, Nat.add_mul]) (by simp; omega)]
    simp [List.flatMap_cons]
section
variable {cx : Cx} {Q : Qt} {o : Oper} {e : Env} {I : Heap} {H : HL} {C : Ct}
theorem op_alloc {T d : Nat} {z : Value} {zs : List Value} (ho : o.op = .alloc T) (hd : o.dst = some d) (hn : Nat.blt d cx.n = true) (hz : ∀ w, (zeroValue T).run cx.P w = .ok z w) (hc : z.cells = zs.toArray)
    (k : ∀ b, cx.w0.heap.size ≤ b → C ((d, ptr b 0) :: e) I ((b, cel T zs) :: H)) : OpJ cx Q o e I H C := by
  intro K hK a w ha hs
  unfold Oper.wp
  have : (execOp a.eval o).run cx.P w = .ok (.value (ptr w.heap.size 0)) { w with heap := w.heap.push (cel T zs) } := by
    simp [execOp, ho, Instr.alloc, hz, newVar, newRow, hc, cel]
  rw [this]
  simp only [Oper.upon, hd]
  exact hK _ _ _ (k _ hs.size) _ _ (ha.put hn) (hs.alloc _)
theorem op_box {T d : Nat} {x : Operand} {z : Value} {zs : List Value} (ho : o.op = .box T x) (hd : o.dst = some d) (hn : Nat.blt d cx.n = true) (hx : ev e x = some z) (hc : z.cells = zs.toArray)
    (k : ∀ b, cx.w0.heap.size ≤ b → C ((d, ptr b 0) :: e) I ((b, cel T zs) :: H)) : OpJ cx Q o e I H C := by
  intro K hK a w ha hs
  unfold Oper.wp
  have : (execOp a.eval o).run cx.P w = .ok (.value (ptr w.heap.size 0)) { w with heap := w.heap.push (cel T zs) } := by
    simp [execOp, ho, Instr.box, ha.eval hx, newVar, newRow, hc, cel]
  rw [this]
  simp only [Oper.upon, hd]
  exact hK _ _ _ (k _ hs.size) _ _ (ha.put hn) (hs.alloc _)
theorem op_store {x y : Operand} {T t b off : Nat} (i : Nat) {cs cs' vs : List Value} {v : Value} {H' : HL} {n : Nat} (ho : o.op = .store T x y) (hd : o.dst = none) (hx : ev e x = some (ptr b off)) (hy : ev e y = some v)
    (hv : v.cells = vs.toArray) (h1 : vs.all Value.oneCell' = true) (hsz : ∀ w, (sizeOf T).run cx.P w = .ok n w) (hnn : vs.length = n) (hH : H[i]? = some (b, cel t cs)) (hcs : LSpl cs off vs cs') (hH' : LSet H i (b, cel t cs') H')
    (k : C e I H') : OpJ cx Q o e I H C := by
  intro K hK a w ha hs
  unfold Oper.wp
  have hb := hs.own _ (List.mem_of_getElem? hH)
  have hst := run_storeCells (P := cx.P) (t := t) vs 0 w cs hb (.inl rfl) hcs.1 (fun u hu => (List.all_eq_true.1 h1) u hu) cs' hcs
  have : (execOp a.eval o).run cx.P w = .ok .skip (World.block w b (cel t cs')) := by
    simp [execOp, ho, Instr.storeAt, Instr.sureAddr, ha.eval hx, ha.eval hy, storeVar, hv, hsz, hnn, hst, cel]
  rw [this]
  simp only [Oper.upon, hd]
  exact hK _ _ _ k _ _ ha.putNone (hs.block hH hH')
theorem op_buildSlice {T E d len sz : Nat} {parts : List (Nat × Operand)} {vs : List Value} {z : Value} {cells : List Value} (ho : o.op = .buildSlice T len parts.toArray) (hd : o.dst = some d) (hn : Nat.blt d cx.n = true)
    (hu : cx.P.underlying T = some (.slice E)) (hsz : ∀ w, (sizeOf E).run cx.P w = .ok sz w) (hz : ∀ w, (zeroValue E).run cx.P w = .ok z w) (hbig : (Nat.ble (len * sz) (2 ^ 24) && Nat.blt 0 (len * sz)) = true)
    (hv : evs e (parts.map (·.2)) = some vs) (hi : parts.map (·.1) = List.range' 0 vs.length) (hl : vs.length = len) (hf : LCat vs sz cells)
    (k : ∀ b, cx.w0.heap.size ≤ b → C ((d, .slice (some ⟨b, 0, none⟩) len len) :: e) I ((b, cel E cells) :: H)) : OpJ cx Q o e I H C := by
  intro K hK a w ha hs
  unfold Oper.wp
  have hp : (parts.toArray.map fun (i, x) => (i, a.eval x)).toList = (List.range' 0 vs.length).zip vs := by
    have h := ha.evals hv
    rw [← hi, ← h]
    simp [List.zip_map', List.map_map]
  have hb1 : ¬ (len * sz > 2 ^ 24) := by
    simp only [Bool.and_eq_true, Nat.ble_eq] at hbig; omega
  have hb2 : ¬ (len * sz = 0) := by
    simp only [Bool.and_eq_true, Nat.blt_eq] at hbig; omega
  have hfl : Instr.fill (fun i => some (i * sz, sz)) ((Array.range (len * sz)).map (z.cells[· % z.cells.size]!)) ((List.range' 0 vs.length).zip vs) = some cells.toArray := by
    have h0 : ((Array.range (len * sz)).map (z.cells[· % z.cells.size]!)) = ([] ++ ((Array.range (len * sz)).map (z.cells[· % z.cells.size]!)).toList).toArray := by rw [List.nil_append, Array.toArray_toList]
    rw [h0, fill_cat vs 0 [] _ hf.1 (by simp) (by simp [hl]), hf.2]
    simp
  have : (execOp a.eval o).run cx.P w = .ok (.value (.slice (some ⟨w.heap.size, 0, none⟩) len len)) { w with heap := w.heap.push (cel E cells) } := by
    simp only [execOp, ho, Instr.buildSlice, Sem.run_bind, run_underlying hu, Result.andThen_ok, hsz, hb1, hb2, if_false, Sem.run_pure, hz, hp, hfl, newRow, run_newObj, cel]
  rw [this]
  simp only [Oper.upon, hd]
  exact hK _ _ _ (k _ hs.size) _ _ (ha.put hn) (hs.alloc _)
theorem q3 {T E d len sz : Nat} {parts : List (Nat × Operand)} {vs : List Value} {z : Value} {cells : List Value} (hu : cx.P.underlying T = some (.slice E)) (hsz : ∀ w, (sizeOf E).run cx.P w = .ok sz w) (hz : ∀ w, (zeroValue E).run cx.P w = .ok z w) (hf : LCat vs sz cells) (k : ∀ b, cx.w0.heap.size ≤ b → C ((d, .slice (some ⟨b, 0, none⟩) len len) :: e) I ((b, cel E cells) :: H)) (ho : o.op = .buildSlice T len parts.toArray := by exact rfl) (hd : o.dst = some d := by exact rfl) (hn : Nat.blt d cx.n = true := by exact rfl) (hbig : (Nat.ble (len * sz) (2 ^ 24) && Nat.blt 0 (len * sz)) = true := by exact rfl) (hv : evs e (parts.map (·.2)) = some vs := by exact rfl) (hi : parts.map (·.1) = List.range' 0 vs.length := by exact rfl) (hl : vs.length = len := by exact rfl) : OpJ cx Q o e I H C := op_buildSlice ho hd hn hu hsz hz hbig hv hi hl hf k
end
def Enters (P : Program) (f : FuncId) : Prop := ∃ fn, P.funcs[f]? = some fn ∧ fn.name ≠ "runtime.NumGoroutine" ∧ fn.body.isNone = false
def Ready (I : Heap) (H : HL) (w : World) : Prop := (∀ b o, I b = some o → w.heap[b]? = some o) ∧ (∀ p ∈ H, w.heap[p.1]? = some p.2) ∧ (H.map (·.1)).Nodup ∧ ∀ p ∈ H, I p.1 = none
def RR (w0 : World) (D : List Nat) (I0 : Heap) (post : Ending → Heap → HL → Prop) : Ending → World → Prop :=
  fun e w' => ∃ I' H', St w0 D I0 I' H' w' ∧ post e I' H'
def Ctr (P : Program) (f : FuncId) (args : List Value) (I : Heap) (H : HL) (post : Ending → Heap → HL → Prop) : Prop :=
  Enters P f ∧ ∀ w, Ready I H w → Calls P f args.toArray w (RR w (H.map (·.1)) I post)
theorem Ctr.mono {P : Program} {f : FuncId} {args : List Value} {I : Heap} {H : HL} {post post' : Ending → Heap → HL → Prop} (h : Ctr P f args I H post)
    (hp : ∀ e I' H', Le I I' → post e I' H' → post' e I' H') : Ctr P f args I H post' :=
  ⟨h.1, fun w hw => (h.2 w hw).mono fun e _w' ⟨I', H', hs, hq⟩ => ⟨I', H', hs, hp e I' H' hs.le hq⟩⟩
def Pure (P : Program) (f : FuncId) (args : List Value) (I : Heap) (v : Value) : Prop := Ctr P f args I [] (fun e I' H' => e = .returned v ∧ I' = I ∧ H' = [])
theorem run_callFunc {P : Program} {f : FuncId} (h : Enters P f) (args : Array Value) (w : World) : (callFunc f args).run P w = .ok (.enter f args) w := by
  obtain ⟨fn, h1, h2, h3⟩ := h
  have h4 : (fn.name == "runtime.NumGoroutine") = false := by simpa using h2
  simp only [callFunc, Sem.run_bind, run_program, Result.andThen_ok, h1, h4, h3, Bool.false_eq_true, if_false, Sem.run_pure]
section
variable {cx : Cx} {Q : Qt} {o : Oper} {e : Env} {I : Heap} {C : Ct}
theorem op_call {H1 R : HL} {d f : Nat} {fo : Operand} {xs : List Operand} {ts : Array TypeId} {fst cap vs : List Value} {post : Ending → Heap → HL → Prop}
    (ho : o.op = .call ⟨.value fo, xs.toArray, ts⟩) (hd : o.dst = some d) (hn : Nat.blt d cx.n = true) (hf : ev e fo = some (.func (.func f) fst.toArray cap.toArray)) (hx : evs e xs = some vs)
    (hs : Ctr cx.P f (fst ++ vs ++ cap) I H1 post)
    (k : ∀ v I' H1', Le I I' → post (.returned v) I' H1' → C ((d, v) :: e) I' (H1' ++ R))
    (kp : ∀ ch I' H1', Le I I' → post (.panicked ch) I' H1' → Ej cx Q (.panic ch) e I' (H1' ++ R))
    (ko : ∀ I' H1', ¬ post .outgrown I' H1') : OpJ cx Q o e I (H1 ++ R) C := by
  intro K hK a w ha hst
  unfold Oper.wp
  have hr : (execOp a.eval o).run cx.P w = .ok (.enter f (fst ++ vs ++ cap).toArray) w := by
    have hxs : xs.toArray.map a.eval = vs.toArray := by
      rw [List.map_toArray, ha.evals hx]
    simp only [execOp, ho, resolve, hxs, ha.eval hf, Deferred.ofValue, invoke, Sem.run_bind, Sem.run_pure, Result.andThen_ok, run_callFunc hs.1]
    simp
  rw [hr]
  simp only [Oper.upon]
  have hready : Ready I H1 w := ⟨hst.sub, fun p hp => hst.own p (List.mem_append_left _ hp), by
    have := hst.nodup; rw [List.map_append, List.nodup_append] at this; exact this.1, fun p hp => hst.dis p (List.mem_append_left _ hp)⟩
  refine (hs.2 w hready).mono ?_
  rintro en w' ⟨I', H1', hs', hp⟩
  have hle := hs'.le
  have hst' := hst.call hs'
  cases en with
  | returned v =>
    rw [hd]
    exact hK _ _ _ (k v I' H1' hle hp) _ _ (ha.put hn) hst'
  | panicked ch => exact kp ch I' H1' hle hp _ _ ha hst'
  | outgrown => exact (ko _ _ hp).elim
theorem op_pure {H : HL} {d f : Nat} {fo : Operand} {xs : List Operand} {ts : Array TypeId} {fst cap vs : List Value} {v : Value}
    (ho : o.op = .call ⟨.value fo, xs.toArray, ts⟩) (hd : o.dst = some d) (hn : Nat.blt d cx.n = true) (hf : ev e fo = some (.func (.func f) fst.toArray cap.toArray)) (hx : evs e xs = some vs)
    (hs : Pure cx.P f (fst ++ vs ++ cap) I v) (k : C ((d, v) :: e) I H) : OpJ cx Q o e I H C :=
  op_call (H1 := []) (R := H) ho hd hn hf hx hs
    (fun u I' H1' _ ⟨h1, h2, h3⟩ => by cases h1; subst h2; subst h3; exact k) (fun ch I' H1' _ ⟨h1, _⟩ => by cases h1) (fun I' H1' ⟨h1, _⟩ => by cases h1)
end
theorem Ctr.of_body {P : Program} {f : FuncId} {fn : Func} {c : Code} {args : List Value} {I : Heap} {H : HL} {post : Ending → Heap → HL → Prop} (hf : P.funcs[f]? = some fn) (hb : fn.body = some c) (hname : fn.name ≠ "runtime.NumGoroutine")
    (hn : args.length ≤ fn.ntmps)
    (h : ∀ w0, Ready I H w0 → Cj ⟨P, fn.ntmps, w0, H.map (·.1), I, [], none⟩ (bodyPost P fn (RR w0 (H.map (·.1)) I post)) c (argsEnv 0 args) I H) : Ctr P f args I H post := by
  refine ⟨⟨fn, hf, hname, by simp [hb]⟩, fun w hw => ?_⟩
  refine calls_of_wp hf hb ?_
  exact (h w hw).wp rfl (Has.start args fn.ntmps hn) (St.start w I H hw.1 hw.2.1 hw.2.2.1 hw.2.2.2)
theorem w64 {x : Int} (h : -9223372036854775808 ≤ x ∧ x ≤ 9223372036854775807) : IntKind.i64.wrap x = x := IntWalk.i64_in _ h
section
variable {cx : Cx} {fn : Func} {post : Ending → Heap → HL → Prop} {e : Env} {I : Heap} {H : HL}
theorem Ej.ret1 {t : Nat} {v : Value} (hr : fn.results = #[.tmp t]) (hds : cx.ds = []) (hv : eg e t = some v) (hp : post (.returned v) I H) : Ej cx (bodyPost cx.P fn (RR cx.w0 cx.D cx.I0 post)) .ret e I H := by
  intro a w ha hs
  refine ⟨ha.defs.trans hds, v, ?_, I, H, hs, hp⟩
  rw [results_tmp hr]
  have := ha.get t v hv
  simp [this]
theorem Ej.ret2 {t u : Nat} {v x : Value} (hr : fn.results = #[.tmp t, .tmp u]) (hds : cx.ds = []) (hv : eg e t = some v) (hx : eg e u = some x) (hp : post (.returned (.tuple #[v, x])) I H) :
    Ej cx (bodyPost cx.P fn (RR cx.w0 cx.D cx.I0 post)) .ret e I H := by
  intro a w ha hs
  refine ⟨ha.defs.trans hds, _, ?_, I, H, hs, hp⟩
  rw [results_tmp2 hr]
  have h1 := ha.get t v hv
  have h2 := ha.get u x hx
  simp [h1, h2]
theorem Ej.ret0 (hr : fn.results = #[]) (hds : cx.ds = []) (hp : post (.returned (.tuple #[])) I H) : Ej cx (bodyPost cx.P fn (RR cx.w0 cx.D cx.I0 post)) .ret e I H :=
  fun _a _w ha hs => ⟨ha.defs.trans hds, _, results_none hr _ _ _, I, H, hs, hp⟩
theorem Ej.end0 (hr : fn.results = #[]) (hds : cx.ds = []) (hp : post (.returned (.tuple #[])) I H) : Ej cx (bodyPost cx.P fn (RR cx.w0 cx.D cx.I0 post)) .normal e I H :=
  fun _a _w ha hs => ⟨ha.defs.trans hds, _, results_none hr _ _ _, I, H, hs, hp⟩
end
def Pull (H : HL) (p : Nat × Obj) (H' : HL) : Prop := (p :: H').Perm H
theorem Pull.z {p : Nat × Obj} {r : HL} : Pull (p :: r) p r := List.Perm.refl _
theorem Pull.s {p q : Nat × Obj} {r r' : HL} (h : Pull r p r') : Pull (q :: r) p (q :: r') := (List.Perm.swap q p r').trans (List.Perm.cons q h)
def Keeps (H' H : HL) : Prop := H'.Sublist H
theorem Keeps.n : Keeps [] [] := List.Sublist.slnil
theorem Keeps.r {r : HL} : Keeps r r := List.Sublist.refl r
theorem Keeps.k {p : Nat × Obj} {r r' : HL} (h : Keeps r' r) : Keeps (p :: r') (p :: r) := List.Sublist.cons_cons p h
theorem Keeps.d {p : Nat × Obj} {r r' : HL} (h : Keeps r' r) : Keeps r' (p :: r) := List.Sublist.cons p h
section
variable {cx : Cx} {Q : Qt} {e : Env} {I : Heap} {H H' : HL} {p : Nat × Obj}
theorem Cj.pull {c : Code} (h : Pull H p H') (k : Cj cx Q c e I (p :: H')) : Cj cx Q c e I H := Cj.perm h k
theorem J.pull {ops : Array Oper} {l : List Oper} (h : Pull H p H') (k : J cx Q ops l e I (p :: H')) : J cx Q ops l e I H := J.perm h k
theorem Ej.pull {x : Exit} (h : Pull H p H') (k : Ej cx Q x e I (p :: H')) : Ej cx Q x e I H := Ej.perm h k
theorem Ej.bare {x : Exit} (k : Ej cx Q x e I []) : Ej cx Q x e I H := Ej.keep (List.nil_sublist _) k
theorem J.split {ops : Array Oper} {l : List Oper} (d : Nat) {b : Bool} (hv : eg e d = some (.bool b)) (h1 : b = true → J cx Q ops l e I H) (h0 : b = false → J cx Q ops l e I H) : J cx Q ops l e I H := by
  cases b
  · exact h0 rfl
  exact h1 rfl
theorem Cj.persist {c : Code} {b : Nat} {o : Obj} (hb : cx.w0.heap.size ≤ b) (k : ∀ I', Le I I' → I' b = some o → Cj cx Q c e I' H) : Cj cx Q c e I ((b, o) :: H) :=
  fun a w ha hs => k _ (hput_le (hs.dis _ (.head _))) (hput_at b o I) a w ha (hs.persist hb)
theorem J.persist {ops : Array Oper} {l : List Oper} {b : Nat} {o : Obj} (hb : cx.w0.heap.size ≤ b) (k : ∀ I', Le I I' → I' b = some o → J cx Q ops l e I' H) : J cx Q ops l e I ((b, o) :: H) :=
  fun a w ha hs => k _ (hput_le (hs.dis _ (.head _))) (hput_at b o I) a w ha (hs.persist hb)
theorem Ej.persist {x : Exit} {b : Nat} {o : Obj} (hb : cx.w0.heap.size ≤ b) (k : ∀ I', Le I I' → I' b = some o → Ej cx Q x e I' H) : Ej cx Q x e I ((b, o) :: H) :=
  fun a w ha hs => k _ (hput_le (hs.dis _ (.head _))) (hput_at b o I) a w ha (hs.persist hb)
end
def sel : List Nat → HL → HL
  | [], _ => []
  | i :: r, H => match H[i]? with
    | some p => p :: sel r H
    | none => sel r H
def HSub : HL → HL → Prop
  | [], _ => True
  | p :: r, H => p ∈ H ∧ HSub r H
theorem HSub.mem : ∀ {A H : HL}, HSub A H → ∀ p ∈ A, p ∈ H
  | _ :: _, _, ⟨h, _⟩, _, .head _ => h
  | _ :: _, _, ⟨_, h⟩, _, .tail _ hp => HSub.mem h _ hp
theorem HSub.n {H : HL} : HSub [] H := trivial
theorem HSub.c {p : Nat × Obj} {r H : HL} (i : Nat) (h : H[i]? = some p) (t : HSub r H) : HSub (p :: r) H := ⟨List.mem_of_getElem? h, t⟩
def CSub : CL → HL → Prop
  | [], _ => True
  | c :: r, H => (∃ cs t fr, (c.1, Obj.cells (List.toArray cs) t fr) ∈ H ∧ cs[c.2.1]? = some c.2.2) ∧ CSub r H
theorem CSub.n {H : HL} : CSub [] H := trivial
theorem CSub.cell : ∀ {Z : CL} {H : HL} {w : World}, CSub Z H → (∀ p ∈ H, w.heap[p.1]? = some p.2) → ∀ c ∈ Z, w.cell? ⟨c.1, c.2.1, none⟩ = some c.2.2
  | _ :: _, _, _, ⟨⟨_, _, _, h1, h2⟩, _⟩, hw, _, .head _ => cell_of_heap (hw _ h1) h2
  | _ :: _, _, _, ⟨_, h⟩, hw, _, .tail _ hc => CSub.cell h hw _ hc
def waits (ops : Array Oper) (i : Nat) : Nat → Nat → Bool
  | 0, _ => false
  | f + 1, j => match ops[j]? with
    | none => false
    | some o => o.after.any (fun e => Region.binds .any e && (e.on == i || waits ops i f e.on))
def Closed (ops : Array Oper) (listed : Array Bool) : Prop := ∀ j o, ops[j]? = some o → listed.getD j false = true → ∀ e ∈ o.after, Region.binds .any e = true → listed.getD e.on false = true
def closedB (ops : Array Oper) (listed : Array Bool) : Bool := (List.range ops.size).all fun j => !(listed.getD j false) || (match ops[j]? with
  | none => true
  | some o => o.after.all fun e => !(Region.binds .any e) || listed.getD e.on false)
theorem Closed.of {ops : Array Oper} {listed : Array Bool} (h : closedB ops listed = true) : Closed ops listed := by
  intro j o ho hj e he hb
  have hlt : j < ops.size := (Array.getElem?_eq_some_iff.1 ho).1
  have h1 := List.all_eq_true.1 h j (List.mem_range.2 hlt)
  rw [hj, ho] at h1
  simp only [Bool.not_true, Bool.false_or] at h1
  have h2 := Array.all_eq_true'.1 h1 e he
  rw [hb] at h2
  simpa using h2
theorem Closed.set {ops : Array Oper} {listed : Array Bool} {j : Nat} {oj : Oper} (h : Closed ops listed) (hj : ops[j]? = some oj) (hall : ∀ e ∈ oj.after, Region.binds .any e = true → listed.getD e.on false = true) : Closed ops (listed.setIfInBounds j true) := by
  intro k o ho hk e he hb
  by_cases hjk : j = k
  · subst hjk
    rw [hj] at ho; cases ho
    exact getD_set_true (hall e he hb)
  rw [getD_set_ne false hjk] at hk
  exact getD_set_true (h k o ho hk e he hb)
theorem waits_not {ops : Array Oper} {listed : Array Bool} {i : Nat} (hc : Closed ops listed) (hi : listed.getD i false = false) : ∀ (f j : Nat) (o : Oper), ops[j]? = some o → waits ops i f j = true → ∃ e ∈ o.after, Region.binds .any e = true ∧ listed.getD e.on false = false
  | 0, _, _, _, h => by cases h
  | f + 1, j, o, ho, h => by
    simp only [waits, ho] at h
    obtain ⟨e, he, hb⟩ := Array.any_eq_true'.1 h
    rw [Bool.and_eq_true, Bool.or_eq_true, beq_iff_eq] at hb
    refine ⟨e, he, hb.1, ?_⟩
    rcases hb.2 with h1 | h1
    · rw [h1]; exact hi
    cases hl : listed.getD e.on false with
    | false => rfl
    | true =>
      cases ho2 : ops[e.on]? with
      | none => cases f <;> simp [waits, ho2] at h1
      | some o2 =>
        obtain ⟨e2, he2, hb2, hn⟩ := waits_not hc hi f e.on o2 ho2 h1
        rw [hc e.on o2 ho2 hl e2 he2 hb2] at hn; cases hn
def zok (ops : Array Oper) (listed : Array Bool) (z i : Nat) : Bool := match ops[z]? with
  | none => true
  | some _ => closedB ops listed && (i != z && waits ops i ops.size z)
def wpAnyZ (P : Program) (ops : Array Oper) (Q : Qt) (S : World → Prop) (z : Nat) : Nat → Array Bool → Act → World → Prop
  | 0, listed, a, w => Region.ready .any ops listed = [] ∧ Q .normal a w
  | fuel + 1, listed, a, w => (Region.ready .any ops listed = [] → Q .normal a w) ∧
    ∀ i ∈ Region.ready .any ops listed, wpOp P ops Q i (fun a' w' => (i ≠ z → S w') ∧ wpAnyZ P ops Q S z fuel (listed.setIfInBounds i true) a' w') a w
theorem wpAny_of_Z {P : Program} {ops : Array Oper} {Q : Qt} {S : World → Prop} {z : Nat} : ∀ (fuel : Nat) (listed : Array Bool) (a : Act) (w : World), wpAnyZ P ops Q S z fuel listed a w → wpAny P .any ops Q fuel listed a w
  | 0, _, _, _, h => h
  | fuel + 1, _, _, _, h => ⟨h.1, fun i hi => wpOp_mono (fun a' w' h' => wpAny_of_Z fuel _ a' w' h'.2) (h.2 i hi)⟩
theorem wait_unlisted {listed : Array Bool} {i : Nat} {oj : Oper} (hr : listed.getD i true = false) (hall : ∀ e ∈ oj.after, Region.binds .any e = true → listed.getD e.on false = true) : ∀ e ∈ oj.after, Region.binds .any e = true → e.on ≠ i := fun e he hb heq => by
  have h1 := hall e he hb
  rw [heq] at h1
  rcases Nat.lt_or_ge i listed.size with h' | h'
  · simp [h'] at hr h1; rw [hr] at h1; cases h1
  simp [Array.getElem?_eq_none h'] at h1
theorem wpAnyZ_first {P : Program} {ops : Array Oper} {Q : Qt} {S : World → Prop} {z i : Nat} {oi : Oper} {v : Value} (hz : ∀ oz, ops[z]? = some oz → i ≠ z ∧ waits ops i ops.size z = true) (hi : ops[i]? = some oi) (hsel : ∀ (j : Nat) (o : Oper) cs b, ops[j]? = some o → o.op ≠ .select cs b)
    (hQ : ∀ c a w, Q (.panic c) (a.put oi.dst v) w → Q (.panic c) a w) : ∀ (fuel : Nat) (listed : Array Bool) (a : Act) (w : World),
      (∀ j oj, ops[j]? = some oj → j ≠ i → listed.getD j true = false → (∀ e ∈ oj.after, Region.binds .any e = true → e.on ≠ i) → oi.apart ops oj = true) →
      (∀ oz, ops[z]? = some oz → Closed ops listed) → i ∈ Region.ready .any ops listed → YieldsIf P ops S oi v a → S w →
      wpAnyZ P ops Q S z fuel (listed.setIfInBounds i true) (a.put oi.dst v) w → wpAnyZ P ops Q S z (fuel + 1) listed a w := by
  intro fuel
  induction fuel with
  | zero =>
    intro listed a w _ _ hr hy hS H
    refine ⟨fun h => (by rw [h] at hr; cases hr), fun j hj => ?_⟩
    by_cases hji : j = i
    · subst hji; exact hy.wpOp hi hS ⟨fun _ => hS, H⟩
    have := ready_mono hj hji
    rw [H.1] at this
    cases this
  | succ fuel ih =>
    intro listed a w hfree hcl hr hy hS H
    refine ⟨fun h => (by rw [h] at hr; cases hr), fun j hj => ?_⟩
    by_cases hji : j = i
    · subst hji; exact hy.wpOp hi hS ⟨fun _ => hS, H⟩
    have h1 := H.2 j (ready_mono hj hji)
    obtain ⟨hjun, oj, hoj, hall⟩ := mem_ready.1 hj
    have hnot := wait_unlisted (i := i) (mem_ready.1 hr).1 hall
    have hi0 : listed.getD i false = false := by
      have h0 := (mem_ready.1 hr).1
      rcases Nat.lt_or_ge i listed.size with h' | h'
      · simp [h'] at h0 ⊢; exact h0
      simp [Array.getElem?_eq_none h']
    have hjz : j ≠ z := fun he => by
      subst he
      obtain ⟨e, he, hb, hn⟩ := waits_not (hcl oj hoj) hi0 _ j oj hoj (hz oj hoj).2
      rw [hall e he hb] at hn; cases hn
    have h2 := wpOp_putIf hoj (hfree j oj hoj hji hjun hnot) (fun cs b => hsel i oi cs b hi) (fun cs b => hsel j oj cs b hoj) hQ hy h1
    have hfree' : ∀ k ok, ops[k]? = some ok → k ≠ i → (listed.setIfInBounds j true).getD k true = false →
        (∀ e ∈ ok.after, Region.binds .any e = true → e.on ≠ i) → oi.apart ops ok = true := fun k ok hk hki hun hno => by
      refine hfree k ok hk hki ?_ hno
      by_cases hjk : j = k
      · subst hjk; exact hjun
      rw [getD_set_ne true hjk] at hun; exact hun
    refine wpOp_mono (fun a' w' h3 => ⟨fun _ => h3.2.1 hjz, ih (listed.setIfInBounds j true) a' w' hfree' (fun oz hoz => (hcl oz hoz).set hoj hall) (ready_mono hr (Ne.symm hji)) h3.1 (h3.2.1 hjz) ?_⟩) h2
    rw [Array.setIfInBounds_comm _ _ hji]
    exact h3.2.2
theorem wpAnyZ_take {P : Program} {ops : Array Oper} {Q : Qt} {S : World → Prop} {z i : Nat} {oi : Oper} {v : Value} {fuel : Nat} {listed : Array Bool} {a : Act} {w : World} (hz : zok ops listed z i = true) (hi : ops[i]? = some oi)
    (hs : Region.noSelect ops = true) (hf : Region.free .any ops listed i = true) (hr : (Region.ready .any ops listed).contains i = true)
    (hQ : ∀ c a w, Q (.panic c) (a.put oi.dst v) w → Q (.panic c) a w) (hy : YieldsIf P ops S oi v a) (hS : S w)
    (h : wpAnyZ P ops Q S z fuel (listed.setIfInBounds i true) (a.put oi.dst v) w) : wpAnyZ P ops Q S z (fuel + 1) listed a w :=
  wpAnyZ_first (fun oz ho => by
    simp only [zok, ho, Bool.and_eq_true, bne_iff_ne] at hz
    exact hz.2) hi (Region.noSelect_spec hs) hQ fuel listed a w (Region.free_spec hi hf) (fun oz ho => by
    simp only [zok, ho, Bool.and_eq_true] at hz
    exact Closed.of hz.1) (by simpa using hr) hy hS h
theorem wpAnyZ_all {P : Program} {ops : Array Oper} {Q : Qt} {S : World → Prop} {z : Nat} {rs : List Nat} {fuel : Nat} {listed : Array Bool} {a : Act} {w : World} (hr : Region.ready .any ops listed = rs) (hne : rs ≠ [])
    (h : ∀ i ∈ rs, wpOp P ops Q i (fun a' w' => (i ≠ z → S w') ∧ wpAnyZ P ops Q S z fuel (listed.setIfInBounds i true) a' w') a w) : wpAnyZ P ops Q S z (fuel + 1) listed a w :=
  ⟨fun h0 => absurd (hr ▸ h0) hne, hr ▸ h⟩
theorem wpAnyZ_done {P : Program} {ops : Array Oper} {Q : Qt} {S : World → Prop} {z : Nat} {listed : Array Bool} {a : Act} {w : World} (hr : Region.ready .any ops listed = []) (h : Q .normal a w) : ∀ fuel, wpAnyZ P ops Q S z fuel listed a w
  | 0 => ⟨hr, h⟩
  | _ + 1 => ⟨fun _ => h, by rw [hr]; simp⟩
def JA (cx : Cx) (Q : Qt) (l : List Oper) (I1 : Heap) (A : HL) (Z : CL) (z : Nat) (fuel : Nat) (listed : Array Bool) (e : Env) (I : Heap) (H : HL) : Prop :=
  ∀ a w, Has a cx.n e cx.ds → St cx.w0 cx.D cx.I0 I H w → wpAnyZ cx.P l.toArray Q (SC I1 A Z) z fuel listed a w
section
variable {cx : Cx} {Q : Qt} {e : Env} {I I1 : Heap} {H A : HL} {Z : CL} {z : Nat} {l : List Oper}
def noDefer (ops : Array Oper) : Bool := ops.toList.all fun o => match o.op with
  | .defer _ => false
  | _ => true
theorem noDefer_at {ops : Array Oper} (h : noDefer ops = true) {i : Nat} {o : Oper} (ho : ops[i]? = some o) : ∀ c, o.op ≠ .defer c := by
  intro c hc
  have := List.all_eq_true.1 h o (by have := Array.mem_of_getElem? ho; simpa using this)
  simp [hc] at this
theorem fence_any {rd : Option Nat} {P : Program} {md : Region.Mode} {ops : Array Oper} {Q : Qt} (hd : noDefer ops = true) (hq : ¬ LetsOut Q) : ∀ (fuel : Nat) (listed : Array Bool) (a : Act) (w : World), wpAny P md ops Q fuel listed a w → wpAnyIn { Fence.wide with round := rd } 0 P md ops Q fuel listed a w
  | 0, _, _, _, h => h
  | fuel + 1, listed, a, w, h => ⟨h.1, fun i hi => by
    have h2 := h.2 i hi
    unfold wpOp at h2
    unfold wpOpIn
    cases ho : ops[i]? with
    | none => simp only [ho] at h2 ⊢; exact fence_any hd hq fuel _ _ _ h2
    | some o =>
      simp only [ho] at h2 ⊢
      split
      · rename_i hw
        rw [if_pos hw] at h2
        have hd' : rd = none ∨ ∀ c, o.op ≠ .defer c := .inr (noDefer_at hd ho)
        rcases h2 with h2 | ⟨_, h2⟩
        · exact Oper.wpIn_mono (fun a' w' h3 => fence_any hd hq fuel _ a' w' h3) (fence_wp hd' h2)
        exact (hq h2).elim
      rename_i hw
      rw [if_neg hw] at h2
      exact ⟨fun _ _ => trivial, fence_any hd hq fuel _ _ _ h2⟩⟩
theorem Cj.draw {id : Nat} (A : HL) (Z : CL) (z : Nat) (hm : cx.P.follows .mixedOrders = true) (h : JA cx Q l I A Z z l.toArray.size (Array.replicate l.toArray.size false) e I H) (hnd : cx.rd = none ∨ (noDefer l.toArray = true ∧ ¬ LetsOut Q) := by first | exact .inl rfl | exact .inr ⟨rfl, fun h => h.elim fun _ h => h.elim fun _ h => h⟩) : Cj cx Q (.region id l.toArray true) e I H :=
  hnd.elim (fun hr => Cj.of_wp hr fun a _w ha hs => wp_region_any hm (wpAny_of_Z _ _ _ _ (h a _ ha hs.drew))) fun hd => fun a _w ha hs => wpIn_region_any hm (fence_any hd.1 hd.2 _ _ _ _ (wpAny_of_Z _ _ _ _ (h a _ ha hs.drew)))
theorem Cj.drawSel {id : Nat} (is : List Nat) (Z : CL) (z : Nat) (hm : cx.P.follows .mixedOrders = true) (h : JA cx Q l I (sel is H) Z z l.toArray.size (Array.replicate l.toArray.size false) e I H) (hnd : cx.rd = none ∨ (noDefer l.toArray = true ∧ ¬ LetsOut Q) := by first | exact .inl rfl | exact .inr ⟨rfl, fun h => h.elim fun _ h => h.elim fun _ h => h⟩) : Cj cx Q (.region id l.toArray true) e I H := Cj.draw _ _ z hm h hnd
theorem JA.pull {H' : HL} {p : Nat × Obj} {fuel : Nat} {listed : Array Bool} (h : Pull H p H') (k : JA cx Q l I1 A Z z fuel listed e I (p :: H')) : JA cx Q l I1 A Z z fuel listed e I H := fun a w ha h1 => k a w ha (h1.perm h)
theorem JA.split {fuel : Nat} {listed : Array Bool} (d : Nat) {b : Bool} (hv : eg e d = some (.bool b)) (h1 : b = true → JA cx Q l I1 A Z z fuel listed e I H) (h0 : b = false → JA cx Q l I1 A Z z fuel listed e I H) : JA cx Q l I1 A Z z fuel listed e I H := by
  cases b
  · exact h0 rfl
  exact h1 rfl
theorem JA.persist {fuel : Nat} {listed : Array Bool} {b : Nat} {o : Obj} (hb : cx.w0.heap.size ≤ b) (k : ∀ I', Le I I' → I' b = some o → JA cx Q l I1 A Z z fuel listed e I' H) : JA cx Q l I1 A Z z fuel listed e I ((b, o) :: H) :=
  fun a w ha hs => k _ (hput_le (hs.dis _ (.head _))) (hput_at b o I) a w ha (hs.persist hb)
theorem JA.done {fuel : Nat} {listed : Array Bool} (hr : Region.ready .any l.toArray listed = []) (h : Ej cx Q .normal e I H) : JA cx Q l I1 A Z z fuel listed e I H :=
  fun a w ha hs => wpAnyZ_done hr (h a w ha hs) fuel
theorem JA.take {fuel : Nat} {listed : Array Bool} (i : Nat) {o : Oper} {d : Nat} {v : Value} (hz : zok l.toArray listed z i = true) (hi : l.toArray[i]? = some o) (hs : Region.noSelect l.toArray = true) (hf : Region.free .any l.toArray listed i = true)
    (hr : (Region.ready .any l.toArray listed).contains i = true) (hq : ∀ c a w, Q (.panic c) (a.put (some d) v) w → Q (.panic c) a w) (hg : o.guard = none) (hd : o.dst = some d) (hn : Nat.blt d cx.n = true) (hA : HSub A H) (hZ : CSub Z H) (hle : Le I1 I)
    (hy : Yld cx o e (SC I1 A Z) v) (k : JA cx Q l I1 A Z z fuel (listed.setIfInBounds i true) ((d, v) :: e) I H) : JA cx Q l I1 A Z z (fuel + 1) listed e I H := by
  intro a w ha hst
  have hss : SC I1 A Z w := ⟨⟨fun b o h => hst.sub b o (hle b o h), fun p hp => hst.own p (hA.mem p hp)⟩, hZ.cell hst.own⟩
  refine wpAnyZ_take (oi := o) hz (v := v) hi hs hf hr (by rw [hd]; exact hq) (.inl ⟨by simp [Region.wanted, hg], fun w' hs' => hy a w' ha hs'⟩) hss ?_
  rw [hd]
  exact k _ _ (ha.put hn) hst
theorem JA.takeG {fuel : Nat} {listed : Array Bool} (i : Nat) {o : Oper} {d : Nat} {v : Value} (j dj : Nat) (want b : Bool) (hz : zok l.toArray listed z i = true) (hi : l.toArray[i]? = some o) (hs : Region.noSelect l.toArray = true) (hf : Region.free .any l.toArray listed i = true)
    (hr : (Region.ready .any l.toArray listed).contains i = true) (hq : ∀ c a w, Q (.panic c) (a.put (some d) v) w → Q (.panic c) a w) (hg : o.guard = some (j, want)) (hdj : (l.toArray[j]?).bind (·.dst) = some dj) (hv : eg e dj = some (.bool b)) (hb : b = want)
    (hd : o.dst = some d) (hn : Nat.blt d cx.n = true) (hA : HSub A H) (hZ : CSub Z H) (hle : Le I1 I)
    (hy : Yld cx o e (SC I1 A Z) v) (k : JA cx Q l I1 A Z z fuel (listed.setIfInBounds i true) ((d, v) :: e) I H) : JA cx Q l I1 A Z z (fuel + 1) listed e I H := by
  intro a w ha hst
  have hss : SC I1 A Z w := ⟨⟨fun b o h => hst.sub b o (hle b o h), fun p hp => hst.own p (hA.mem p hp)⟩, hZ.cell hst.own⟩
  refine wpAnyZ_take (oi := o) hz (v := v) hi hs hf hr (by rw [hd]; exact hq) (.inl ⟨by simp [Region.wanted, hg, yielded_of ha hdj hv, hb], fun w' hs' => hy a w' ha hs'⟩) hss ?_
  rw [hd]
  exact k _ _ (ha.put hn) hst
theorem JA.takeS {fuel : Nat} {listed : Array Bool} (i : Nat) {o : Oper} {d : Nat} (j dj : Nat) (want : Bool) (u : Value) (hz : zok l.toArray listed z i = true) (hi : l.toArray[i]? = some o) (hs : Region.noSelect l.toArray = true) (hf : Region.free .any l.toArray listed i = true)
    (hr : (Region.ready .any l.toArray listed).contains i = true) (hq : ∀ c a w, Q (.panic c) (a.put (some d) undef) w → Q (.panic c) a w) (hg : o.guard = some (j, want)) (hdj : (l.toArray[j]?).bind (·.dst) = some dj) (hv : eg e dj = some u)
    (hb : u = .bool (!want) ∨ u = undef) (hd : o.dst = some d) (hn : Nat.blt d cx.n = true) (hA : HSub A H) (hZ : CSub Z H) (hle : Le I1 I)
    (k : JA cx Q l I1 A Z z fuel (listed.setIfInBounds i true) ((d, undef) :: e) I H) : JA cx Q l I1 A Z z (fuel + 1) listed e I H := by
  intro a w ha hst
  have hss : SC I1 A Z w := ⟨⟨fun b o h => hst.sub b o (hle b o h), fun p hp => hst.own p (hA.mem p hp)⟩, hZ.cell hst.own⟩
  have hw : Region.wanted o (yielded l.toArray a.tmps) = false := by
    have hg2 := ha.get dj _ hv
    rcases hb with rfl | rfl
    · simp [Region.wanted, hg, yielded_of ha hdj hv]
    have hy : yielded l.toArray a.tmps j = none := by simp only [yielded, hdj, Option.bind_some, hg2, undef]
    simp [Region.wanted, hg, hy]
  refine wpAnyZ_take (oi := o) hz (v := undef) hi hs hf hr (by rw [hd]; exact hq) (.inr ⟨hw, rfl⟩) hss ?_
  rw [hd]
  exact k _ _ (ha.put hn) hst
def JFix (I1 : Heap) (A : HL) (Z : CL) (I : Heap) (H : HL) : Prop := HSub A H ∧ CSub Z H ∧ Le I1 I
theorem JA.fix {fuel : Nat} {listed : Array Bool} (h : JFix I1 A Z I H) (k : JFix I1 A Z I H → JA cx Q l I1 A Z z fuel listed e I H) : JA cx Q l I1 A Z z fuel listed e I H := k h
theorem JA.tk {fuel : Nat} {listed : Array Bool} (i : Nat) {o : Oper} {d : Nat} {v : Value} (hi : l.toArray[i]? = some o) (hx : JFix I1 A Z I H) (hy : Yld cx o e (SC I1 A Z) v) (k : JA cx Q l I1 A Z z fuel (listed.setIfInBounds i true) ((d, v) :: e) I H)
    (hd : o.dst = some d := by rfl) (hg : o.guard = none := by rfl) (hn : Nat.blt d cx.n = true := by rfl) (hz : zok l.toArray listed z i = true := by first | rfl | kernel_rfl) (hs : Region.noSelect l.toArray = true := by kernel_rfl) (hf : Region.free .any l.toArray listed i = true := by kernel_rfl)
    (hr : (Region.ready .any l.toArray listed).contains i = true := by kernel_rfl) (hq : ∀ c a w, Q (.panic c) (a.put (some d) v) w → Q (.panic c) a w := by exact fun _ _ _ h => h) : JA cx Q l I1 A Z z (fuel + 1) listed e I H :=
  JA.take i hz hi hs hf hr hq hg hd hn hx.1 hx.2.1 hx.2.2 hy k
theorem JA.tkG {fuel : Nat} {listed : Array Bool} (i : Nat) {o : Oper} {d : Nat} {v : Value} (j dj : Nat) (want b : Bool) (hi : l.toArray[i]? = some o) (hx : JFix I1 A Z I H) (hdj : (l.toArray[j]?).bind (·.dst) = some dj) (hv : eg e dj = some (.bool b)) (hb : b = want) (hy : Yld cx o e (SC I1 A Z) v)
    (k : JA cx Q l I1 A Z z fuel (listed.setIfInBounds i true) ((d, v) :: e) I H) (hd : o.dst = some d := by rfl) (hg : o.guard = some (j, want) := by rfl) (hn : Nat.blt d cx.n = true := by rfl) (hz : zok l.toArray listed z i = true := by first | rfl | kernel_rfl) (hs : Region.noSelect l.toArray = true := by kernel_rfl)
    (hf : Region.free .any l.toArray listed i = true := by kernel_rfl) (hr : (Region.ready .any l.toArray listed).contains i = true := by kernel_rfl) (hq : ∀ c a w, Q (.panic c) (a.put (some d) v) w → Q (.panic c) a w := by exact fun _ _ _ h => h) : JA cx Q l I1 A Z z (fuel + 1) listed e I H :=
  JA.takeG i j dj want b hz hi hs hf hr hq hg hdj hv hb hd hn hx.1 hx.2.1 hx.2.2 hy k
theorem JA.tkS {fuel : Nat} {listed : Array Bool} (i : Nat) {o : Oper} {d : Nat} (j dj : Nat) (want : Bool) (u : Value) (hi : l.toArray[i]? = some o) (hx : JFix I1 A Z I H) (hdj : (l.toArray[j]?).bind (·.dst) = some dj) (hv : eg e dj = some u) (hb : u = .bool (!want) ∨ u = undef)
    (k : JA cx Q l I1 A Z z fuel (listed.setIfInBounds i true) ((d, undef) :: e) I H) (hd : o.dst = some d := by rfl) (hg : o.guard = some (j, want) := by rfl) (hn : Nat.blt d cx.n = true := by rfl) (hz : zok l.toArray listed z i = true := by first | rfl | kernel_rfl) (hs : Region.noSelect l.toArray = true := by kernel_rfl)
    (hf : Region.free .any l.toArray listed i = true := by kernel_rfl) (hr : (Region.ready .any l.toArray listed).contains i = true := by kernel_rfl) (hq : ∀ c a w, Q (.panic c) (a.put (some d) undef) w → Q (.panic c) a w := by exact fun _ _ _ h => h) : JA cx Q l I1 A Z z (fuel + 1) listed e I H :=
  JA.takeS i j dj want u hz hi hs hf hr hq hg hdj hv hb hd hn hx.1 hx.2.1 hx.2.2 k
theorem JA.step {fuel : Nat} {listed : Array Bool} (i : Nat) {o : Oper} (hr : Region.ready .any l.toArray listed = [i]) (hi : l.toArray[i]? = some o) (hg : o.guard = none)
    (k : OpJ cx Q o e I H (fun e' I' H' => (Le I1 I' ∧ HSub A H' ∧ CSub Z H') ∧ JA cx Q l I1 A Z z fuel (listed.setIfInBounds i true) e' I' H')) : JA cx Q l I1 A Z z (fuel + 1) listed e I H := by
  intro a w ha hst
  refine wpAnyZ_all hr (by simp) fun j hj => ?_
  obtain rfl : j = i := by simpa using hj
  unfold wpOp
  simp only [hi]
  rw [if_pos (by simp [Region.wanted, hg])]
  refine .inl (k _ (fun e' I' H' ⟨⟨hle, hA, hZ⟩, hj⟩ a' w' ha' hs' => ⟨fun _ => ⟨⟨fun b o h => hs'.sub b o (hle b o h), fun p hp => hs'.own p (hA.mem p hp)⟩, hZ.cell hs'.own⟩, hj a' w' ha' hs'⟩) a w ha hst)
theorem q0 {fuel : Nat} {listed : Array Bool} (i : Nat) {o : Oper} (hi : l.toArray[i]? = some o) (k : OpJ cx Q o e I H (fun e' I' H' => (Le I1 I' ∧ HSub A H' ∧ CSub Z H') ∧ JA cx Q l I1 A Z z fuel (listed.setIfInBounds i true) e' I' H')) (hr : Region.ready .any l.toArray listed = [i] := by kernel_rfl) (hg : o.guard = none := by exact rfl) : JA cx Q l I1 A Z z (fuel + 1) listed e I H := JA.step i hr hi hg k
theorem JA.last {fuel : Nat} {listed : Array Bool} (i : Nat) {o : Oper} (hr : Region.ready .any l.toArray listed = [i]) (hz : i = z) (hi : l.toArray[i]? = some o) (hg : o.guard = none)
    (k : OpJ cx Q o e I H (fun e' I' H' => JA cx Q l I1 A Z z fuel (listed.setIfInBounds i true) e' I' H')) : JA cx Q l I1 A Z z (fuel + 1) listed e I H := by
  intro a w ha hst
  refine wpAnyZ_all hr (by simp) fun j hj => ?_
  obtain rfl : j = i := by simpa using hj
  unfold wpOp
  simp only [hi]
  rw [if_pos (by simp [Region.wanted, hg])]
  refine .inl (k _ (fun e' I' H' hj a' w' ha' hs' => ⟨fun h => absurd hz h, hj a' w' ha' hs'⟩) a w ha hst)
theorem JA.stepG {fuel : Nat} {listed : Array Bool} (i : Nat) {o : Oper} (j dj : Nat) (want b : Bool) (hr : Region.ready .any l.toArray listed = [i]) (hi : l.toArray[i]? = some o) (hg : o.guard = some (j, want))
    (hdj : (l.toArray[j]?).bind (·.dst) = some dj) (hv : eg e dj = some (.bool b)) (hb : b = want)
    (k : OpJ cx Q o e I H (fun e' I' H' => (Le I1 I' ∧ HSub A H' ∧ CSub Z H') ∧ JA cx Q l I1 A Z z fuel (listed.setIfInBounds i true) e' I' H')) : JA cx Q l I1 A Z z (fuel + 1) listed e I H := by
  intro a w ha hst
  refine wpAnyZ_all hr (by simp) fun j hj => ?_
  obtain rfl : j = i := by simpa using hj
  unfold wpOp
  simp only [hi]
  rw [if_pos (by simp [Region.wanted, hg, yielded_of ha hdj hv, hb])]
  refine .inl (k _ (fun e' I' H' ⟨⟨hle, hA, hZ⟩, hj⟩ a' w' ha' hs' => ⟨fun _ => ⟨⟨fun b o h => hs'.sub b o (hle b o h), fun p hp => hs'.own p (hA.mem p hp)⟩, hZ.cell hs'.own⟩, hj a' w' ha' hs'⟩) a w ha hst)
theorem JA.all {fuel : Nat} {listed : Array Bool} (rs : List Nat) (hr : Region.ready .any l.toArray listed = rs) (hne : rs ≠ [])
    (k : ∀ i ∈ rs, ∃ o, l.toArray[i]? = some o ∧ o.guard = none ∧ OpJ cx Q o e I H (fun e' I' H' => (Le I1 I' ∧ HSub A H' ∧ CSub Z H') ∧ JA cx Q l I1 A Z z fuel (listed.setIfInBounds i true) e' I' H')) : JA cx Q l I1 A Z z (fuel + 1) listed e I H := by
  intro a w ha hst
  refine wpAnyZ_all hr hne fun j hj => ?_
  obtain ⟨o, hi, hg, k⟩ := k j hj
  unfold wpOp
  simp only [hi]
  rw [if_pos (by simp [Region.wanted, hg])]
  refine .inl (k _ (fun e' I' H' ⟨⟨hle, hA, hZ⟩, hj⟩ a' w' ha' hs' => ⟨fun _ => ⟨⟨fun b o h => hs'.sub b o (hle b o h), fun p hp => hs'.own p (hA.mem p hp)⟩, hZ.cell hs'.own⟩, hj a' w' ha' hs'⟩) a w ha hst)
end
end Go.Sx
namespace Go.Sx
instance noDR : DR := ⟨false⟩
theorem noDr {p : Prop} : DR.b = true → p := fun h => nomatch h
theorem St.drewN {w0 w : World} {D : List Nat} {I0 I : Heap} {H : HL} (h : St w0 D I0 I H w) (k : Nat) : St w0 D I0 I H { w with drawn := k } :=
  ⟨h.os, h.tape, h.output, h.size, h.frm, h.sub, h.own, h.nodup, h.dis, h.new, h.ifr, h.le, noDr⟩
theorem St.forget {w0 w : World} {D : List Nat} {I0 I : Heap} {H : HL} (h : St w0 D I0 I H w) : St w0 D I0 I0 H w :=
  ⟨h.os, h.tape, h.output, h.size, h.frm, fun b o hb => h.sub b o (h.le b o hb), h.own, h.nodup, fun p hp => (by
    cases hi : I0 p.1 with
    | none => rfl
    | some o => (have := h.dis p hp; rw [h.le _ _ hi] at this; cases this)), h.new, fun _ _ => rfl, Le.refl _, noDr⟩
theorem Ctr.forget {P : Program} {f : FuncId} {args : List Value} {I : Heap} {H : HL} {post post' : Ending → Heap → HL → Prop} (h : Ctr P f args I H post)
    (hp : ∀ e I' H', Le I I' → post e I' H' → post' e I H') : Ctr P f args I H post' :=
  ⟨h.1, fun w hw => (h.2 w hw).mono fun e _w' ⟨I', H', hs, hq⟩ => ⟨I, H', hs.forget, hp e I' H' hs.le hq⟩⟩
theorem Ctr.toPure {P : Program} {f : FuncId} {args : List Value} {I : Heap} {v : Value} (h : Ctr P f args I [] (fun e _ H' => e = .returned v ∧ H' = [])) : Pure P f args I v :=
  h.forget fun _ _ _ _ ⟨h1, h2⟩ => ⟨h1, rfl, h2⟩
end Go.Sx
namespace Go.Sx
open Go
abbrev Gs := Option (Nat × Nat × List Value)
def gH (E : TypeId) (xs : List Value) : Gs → HL
  | none => []
  | some (b, _, sp) => [(b, cel E (xs ++ sp))]
def gV (n : Nat) : Gs → Value
  | none => .slice none 0 0
  | some (b, c, _) => .slice (some ⟨b, 0, none⟩) n c
def gOk (base sz n : Nat) (xs : List Value) : Gs → Prop
  | none => n = 0 ∧ xs = []
  | some (b, c, sp) => base ≤ b ∧ xs.length = n * sz ∧ xs.length + sp.length = c * sz
theorem gOk.len {base sz n : Nat} {xs : List Value} {g : Gs} (h : gOk base sz n xs g) : xs.length = n * sz := by
  cases g with
  | none => obtain ⟨rfl, rfl⟩ := h; simp
  | some p => exact h.2.1
theorem gOk.some {base sz n : Nat} {xs : List Value} {g : Gs} (h : gOk base sz n xs g) (hn : 0 < n) : ∃ b c sp, g = .some (b, c, sp) ∧ base ≤ b := by
  cases g with
  | none => obtain ⟨rfl, _⟩ := h; omega
  | some p => exact ⟨p.1, p.2.1, p.2.2, rfl, h.1⟩
theorem drop_app {α : Type} (xs sp : List α) (k : Nat) : (xs ++ sp).drop (xs.length + k) = sp.drop k := by
  rw [← List.drop_drop, List.drop_left]
theorem grow_le (newLen : Nat) : ∀ (r c : Nat), c ≤ 2 * newLen + 768 → Builtin.growBy newLen r c ≤ 2 * newLen + 768
  | 0, c, h => h
  | r + 1, c, h => by
    unfold Builtin.growBy
    split
    · exact h
    exact grow_le newLen r _ (by omega)
theorem nextcap_le (need cap : Nat) (h : cap < need) : Builtin.nextslicecap need cap ≤ 2 * need + 768 := by
  unfold Builtin.nextslicecap
  split
  · omega
  split
  · omega
  exact grow_le need 4 cap (by omega)
theorem run_loadCells_blk {P : Program} {w : World} {b off n : Nat} {cs xs : List Value} {t : TypeId} {fr : Nat × Nat} (h : w.heap[b]? = some (.cells cs.toArray t fr)) (hx : (cs.drop off).take n = xs) (hn : xs.length = n) :
    (loadCells ⟨b, off, none⟩ n).run P w = .ok xs.toArray w := by
  have hc : ∀ j v, xs[j]? = some v → w.cell? ((⟨b, off, none⟩ : Addr).add j) = some v := fun j v hj => by
    rw [Addr.add_lit]
    refine cell_of_heap h ?_
    rw [← hx, List.getElem?_take] at hj
    split at hj
    · simpa [List.getElem?_drop] using hj
    cases hj
  have := run_loadCells_list (P := P) (w := w) ⟨b, off, none⟩ xs hc
  rwa [hn] at this
def Src (P : Program) (I : Heap) (H : HL) (sz m : Nat) (y : Value) (ys : List Value) : Prop :=
  ys.length = m * sz ∧ ys.all Value.oneCell' = true ∧ (∀ w, SS I H w → (Builtin.lenOf y).run P w = .ok m w) ∧ ∀ w, SS I H w → (Builtin.firstCells sz m y).run P w = .ok ys.toArray w
theorem Src.slice {P : Program} {I : Heap} {H : HL} {sz m b off c : Nat} {cs ys : List Value} {t : TypeId} {fr : Nat × Nat} (hb : Blk (SS I H) b (.cells cs.toArray t fr)) (hx : (cs.drop off).take (m * sz) = ys) (hn : ys.length = m * sz) (h1 : ys.all Value.oneCell' = true) :
    Src P I H sz m (.slice (some ⟨b, off, none⟩) m c) ys :=
  ⟨hn, h1, fun _ _ => rfl, fun w hs => by
    simp only [Builtin.firstCells]
    exact run_loadCells_blk (hb w hs) hx hn⟩
theorem Src.nil {P : Program} {I : Heap} {H : HL} {sz c : Nat} {p : Option Addr} : Src P I H sz 0 (.slice p 0 c) [] :=
  ⟨by simp, rfl, fun _ _ => rfl, fun w _ => by
    cases p <;> simp [Builtin.firstCells, loadCells, loadCellsFrom]⟩
def bcs (l : List UInt8) : List Value := l.map fun c => u8 c
theorem Src.str {P : Program} {I : Heap} {H : HL} {l : List UInt8} : Src P I H 1 l.length (str l) (bcs l) := by
  refine ⟨by simp [bcs], by simp [bcs, Value.oneCell'], fun _ _ => by simp [Builtin.lenOf, Sx.str, size_mk], fun w _ => ?_⟩
  have hex : (⟨l.toArray⟩ : ByteArray).extract 0 l.length = ⟨l.toArray⟩ := by
    apply ByteArray.ext
    simp [ByteArray.data_extract]
  simp only [Builtin.firstCells, Sx.str, hex, Sem.run_pure, bcs]
  simp
theorem ext_cons {e : Env} {d : Nat} {v : Value} (h : eg e d = some v) : ∀ t u, eg ((d, v) :: e) t = some u → eg e t = some u := fun t u hu => by
  rw [eg_cons] at hu
  by_cases hk : d = t
  · subst hk; simp at hu; subst hu; exact h
  simpa [hk] using hu
theorem Has.ext {a : Act} {n : Nat} {e e' : Env} {ds : List Deferred} (h : Has a n e ds) (hs : ∀ t u, eg e' t = some u → eg e t = some u) : Has a n e' ds := ⟨h.size, h.defs, fun t v hv => h.get t v (hs t v hv)⟩
theorem Cj.ext {cx : Cx} {Q : Qt} {e e' : Env} {I : Heap} {H : HL} {c : Code} (hs : ∀ t u, eg e' t = some u → eg e t = some u) (h : Cj cx Q c e' I H) : Cj cx Q c e I H := fun a w ha h1 => h a w (ha.ext hs) h1
theorem J.ext {cx : Cx} {Q : Qt} {e e' : Env} {I : Heap} {H : HL} {ops : Array Oper} {l : List Oper} (hs : ∀ t u, eg e' t = some u → eg e t = some u) (h : J cx Q ops l e' I H) : J cx Q ops l e I H := fun a w ha h1 => h a w (ha.ext hs) h1
section
variable {cx : Cx} {Q : Qt} {o : Oper} {e : Env} {I : Heap} {H : HL} {C : Ct} {S : World → Prop}
theorem op_appendB {T E d sz by' n m : Nat} (base : Nat) (hbase : base ≤ cx.w0.heap.size) {x y : Operand} {U : TypeId} {g : Gs} {xs ys : List Value} {yv z : Value} (R : HL) (ho : o.op = .call ⟨.builtin .append, #[x, y], #[T, U]⟩) (hd : o.dst = some d) (hn : Nat.blt d cx.n = true)
    (hx : ev e x = some (gV n g)) (hy : ev e y = some yv) (hu : cx.P.underlying T = some (.slice E)) (hU : cx.P.underlying U = some .string ∨ ∃ E', cx.P.underlying U = some (.slice E'))
    (hi0 : (cx.P.info? E).map (·.bytes) = some (by' + 1)) (hsz : ∀ w, (sizeOf E).run cx.P w = .ok sz w) (hz : ∀ w, (zeroValue E).run cx.P w = .ok z w) (hzs : z.cells.size = sz)
    (hg : gOk base sz n xs g) (hH : H = R ++ gH E xs g) (hs : Src cx.P I H sz m yv ys) (hroom : (2 * (n + m) + 768) * (by' + 1) ≤ 281474976710656)
    (k : ∀ g', gOk base sz (n + m) (xs ++ ys) g' → C ((d, gV (n + m) g') :: e) I (R ++ gH E (xs ++ ys) g')) : OpJ cx Q o e I H C := by
  intro K hK a w ha hst
  obtain ⟨hs1, hs2, hs3, hs4⟩ := hs
  obtain ⟨i, hi, hby⟩ : ∃ i, cx.P.info? E = some i ∧ i.bytes = by' + 1 := by
    cases h : cx.P.info? E with
    | none => rw [h] at hi0; cases hi0
    | some i => rw [h] at hi0; exact ⟨i, rfl, by simpa using hi0⟩
  have hss := hst.ss
  have hlen := hg.len
  unfold Oper.wp
  have key : ∃ w' g', (execOp a.eval o).run cx.P w = .ok (.value (gV (n + m) g')) w' ∧ gOk base sz (n + m) (xs ++ ys) g' ∧ St cx.w0 cx.D cx.I0 I (R ++ gH E (xs ++ ys) g') w' := by
    have hti : ∀ w', (typeInfo E).run cx.P w' = .ok i w' := fun w' => by simp [typeInfo, hi]
    have pre : ∀ (b? : Option Addr) (c : Nat), gV n g = .slice b? n c → (execOp a.eval o).run cx.P w =
        ((Builtin.append_ #[T, U] o.type #[.slice b? n c, yv]).run cx.P w).andThen fun v w' => .ok (.value v) w' := by
      intro b? c hv
      simp only [execOp, ho, resolve, invoke, builtin, Sem.run_bind, Sem.run_pure, Result.andThen_ok, List.map_toArray, List.map_cons, List.map_nil, ha.eval hx, ha.eval hy, hv]
    have fits : ∀ (b? : Option Addr) (c : Nat), n + m ≤ c → (Builtin.append_ #[T, U] o.type #[.slice b? n c, yv]).run cx.P w =
        (match b? with
          | some a => (storeCells (a.add (n * sz)) ys).run cx.P w
          | none => .ok () w).andThen fun _ w' => .ok (.slice b? (n + m) c) w' := by
      intro b? c hfit
      rcases hU with hU1 | ⟨E', hU1⟩ <;> cases b? <;> simp [Builtin.append_, run_underlying hu, run_underlying hU1, hsz, hs3 w hss, hs4 w hss, hfit]
    have grows : ∀ (b? : Option Addr) (c : Nat) (old : Array Value), ¬ n + m ≤ c → c < n + m → (∀ w', SS I H w' → (Builtin.firstCells sz n (.slice b? n c)).run cx.P w' = .ok old w') →
        (Builtin.append_ #[T, U] o.type #[.slice b? n c, yv]).run cx.P w =
          let cap := (Question.appendCap (n + m) c E).cut (w.tape w.drawn (.appendCap (n + m) c E))
          .ok (.slice (some ⟨w.heap.size, 0, none⟩) (n + m) cap) { { w with drawn := w.drawn + 1 } with heap := w.heap.push (.cells (old ++ ys.toArray ++ Builtin.zeroCells z.cells (cap - (n + m))) E (0, 0)) } := by
      intro b? c old hfit hc hold
      have hb1 : ¬ (2 ^ 48 < Builtin.nextslicecap (n + m) c * i.bytes) := by
        have := nextcap_le (n + m) c hc
        rw [hby]
        have h2 := Nat.mul_le_mul_right (by' + 1) this
        have h3 : (2 : Nat) ^ 48 = 281474976710656 := by decide
        omega
      have hb2 : ¬ i.bytes = 0 := by omega
      have hss1 : SS I H { w with drawn := w.drawn + 1 } := hss
      rcases hU with hU1 | ⟨E', hU1⟩ <;> simp only [Builtin.append_, List.getElem?_toArray, List.getElem?_cons_zero, List.getElem?_cons_succ, Sem.run_bind, Sem.run_pure, run_underlying hu, run_underlying hU1, Result.andThen_ok, hsz, hs3 w hss, Bool.false_eq_true, if_false, Sem.run_ite, hfit, hti, hb1, hb2, false_or, and_false, gt_iff_lt, run_choose, Question.forced, run_askRoom, hold _ hss1, Bool.not_false, if_true, hs4 _ hss1, hz, newRow, run_newObj]
    cases g with
    | none =>
      obtain ⟨rfl, rfl⟩ := hg
      rw [pre none 0 rfl]
      have h0c : ∀ w', SS I H w' → (Builtin.firstCells sz 0 (.slice none 0 0)).run cx.P w' = .ok #[] w' := fun w' _ => by simp [Builtin.firstCells]
      by_cases hm : m = 0
      · subst hm
        have hys : ys = [] := List.length_eq_zero_iff.1 (by simpa using hs1)
        subst hys
        refine ⟨w, none, ?_, ⟨by simp, by simp⟩, by simpa [gH, hH] using hst⟩
        rw [fits none 0 (by omega)]
        simp [gV]
      rw [grows none 0 #[] (by omega) (by omega) h0c]
      let cap := (Question.appendCap (0 + m) 0 E).cut (w.tape w.drawn (.appendCap (0 + m) 0 E))
      refine ⟨{ { w with drawn := w.drawn + 1 } with heap := w.heap.push (.cells (#[] ++ ys.toArray ++ Builtin.zeroCells z.cells (cap - (0 + m))) E (0, 0)) }, some (w.heap.size, cap, (Builtin.zeroCells z.cells (cap - (0 + m))).toList), ?_, ?_, ?_⟩
      · rfl
      · have hcap : m ≤ cap := by simp only [cap, Question.cut]; omega
        refine ⟨Nat.le_trans hbase hst.size, by simp [hs1], ?_⟩
        simp only [Builtin.zeroCells, Array.length_toList, Array.size_map, Array.size_range, List.nil_append, hs1, hzs]
        rw [← Nat.add_mul]
        congr 1; omega
      have h0 := (hst.drewN (w.drawn + 1)).alloc (.cells (#[] ++ ys.toArray ++ Builtin.zeroCells z.cells (cap - (0 + m))) E (0, 0))
      have hcell : (Obj.cells (#[] ++ ys.toArray ++ Builtin.zeroCells z.cells (cap - (0 + m))) E (0, 0)) = cel E ([] ++ ys ++ (Builtin.zeroCells z.cells (cap - (0 + m))).toList) := by
        simp [cel]
      rw [hcell] at h0 ⊢
      subst hH
      simp only [gH, List.append_nil] at h0 ⊢
      refine h0.perm ?_
      exact List.perm_append_comm
    | some p =>
      obtain ⟨b, c, sp⟩ := p
      obtain ⟨hb0, hxl, hcl⟩ := hg
      rw [pre (some ⟨b, 0, none⟩) c rfl]
      have hmem : (b, cel E (xs ++ sp)) ∈ H := by rw [hH]; simp [gH]
      have hblk := hst.own _ hmem
      by_cases hfit : n + m ≤ c
      · rw [fits _ _ hfit]
        have hle : ys.length ≤ sp.length := by
          have : (n + m) * sz ≤ c * sz := Nat.mul_le_mul_right sz hfit
          rw [Nat.add_mul] at this; omega
        have hspl : LSpl (xs ++ sp) (n * sz + 0) ys (xs ++ ys ++ sp.drop ys.length) := by
          refine ⟨by simp only [List.length_append]; omega, ?_⟩
          rw [Nat.add_zero, ← hxl, List.take_left' rfl, drop_app]
        have hrun := run_storeCells (P := cx.P) (b := b) (off := n * sz) (t := E) ys 0 w (xs ++ sp) hblk (.inl rfl) (by simp only [List.length_append]; omega) (fun u hu => (List.all_eq_true.1 hs2) u hu) _ hspl
        refine ⟨World.block w b (.cells (xs ++ ys ++ sp.drop ys.length).toArray E (0, 0)), some (b, c, sp.drop ys.length), ?_, ?_, ?_⟩
        · simp only [Result.andThen_ok, Addr.add_lit, Nat.zero_add, hrun, gV]
        · exact ⟨hb0, by simp [hxl, hs1, Nat.add_mul], by simp; omega⟩
        subst hH
        have hidx : (R ++ gH E xs (some (b, c, sp)))[R.length]? = some (b, cel E (xs ++ sp)) := by simp [gH]
        have hset : LSet (R ++ gH E xs (some (b, c, sp))) R.length (b, cel E (xs ++ ys ++ sp.drop ys.length)) (R ++ gH E (xs ++ ys) (some (b, c, sp.drop ys.length))) := by
          refine ⟨by simp [gH], ?_⟩
          rw [List.set_append_right _ _ (Nat.le_refl _)]
          simp [gH]
        exact hst.block hidx hset
      have hold : ∀ w', SS I H w' → (Builtin.firstCells sz n (.slice (some ⟨b, 0, none⟩) n c)).run cx.P w' = .ok xs.toArray w' := fun w' hw' =>
        run_loadCells_blk (cs := xs ++ sp) (hw'.2 _ hmem) (by rw [List.drop_zero, ← hxl, List.take_left']; rfl) hxl
      rw [grows _ _ _ hfit (by omega) hold]
      let cap := (Question.appendCap (n + m) c E).cut (w.tape w.drawn (.appendCap (n + m) c E))
      refine ⟨{ { w with drawn := w.drawn + 1 } with heap := w.heap.push (.cells (xs.toArray ++ ys.toArray ++ Builtin.zeroCells z.cells (cap - (n + m))) E (0, 0)) }, some (w.heap.size, cap, (Builtin.zeroCells z.cells (cap - (n + m))).toList), ?_, ?_, ?_⟩
      · rfl
      · have hcap : n + m ≤ cap := by simp only [cap, Question.cut]; omega
        refine ⟨Nat.le_trans hbase hst.size, by simp [hxl, hs1, Nat.add_mul], ?_⟩
        simp only [Builtin.zeroCells, Array.length_toList, Array.size_map, Array.size_range, List.length_append, hxl, hs1, hzs]
        rw [← Nat.add_mul, ← Nat.add_mul]
        congr 1; omega
      have h0 := (hst.drewN (w.drawn + 1)).alloc (.cells (xs.toArray ++ ys.toArray ++ Builtin.zeroCells z.cells (cap - (n + m))) E (0, 0))
      have hcell : (Obj.cells (xs.toArray ++ ys.toArray ++ Builtin.zeroCells z.cells (cap - (n + m))) E (0, 0)) = cel E (xs ++ ys ++ (Builtin.zeroCells z.cells (cap - (n + m))).toList) := by
        simp [cel]
      rw [hcell] at h0 ⊢
      subst hH
      have h1 := h0.sublist (H' := (w.heap.size, cel E (xs ++ ys ++ (Builtin.zeroCells z.cells (cap - (n + m))).toList)) :: R) (List.Sublist.cons_cons _ (List.sublist_append_left _ _))
      refine h1.perm ?_
      exact List.perm_append_comm
  obtain ⟨w', g', h1, h2, h3⟩ := key
  rw [h1]
  simp only [Oper.upon, hd]
  exact hK _ _ _ (k g' h2) _ _ (ha.put hn) h3
theorem op_append {T E d sz by' n m : Nat} {x y : Operand} {U : TypeId} {g : Gs} {xs ys : List Value} {yv z : Value} (R : HL) (ho : o.op = .call ⟨.builtin .append, #[x, y], #[T, U]⟩) (hd : o.dst = some d) (hn : Nat.blt d cx.n = true)
    (hx : ev e x = some (gV n g)) (hy : ev e y = some yv) (hu : cx.P.underlying T = some (.slice E)) (hU : cx.P.underlying U = some .string ∨ ∃ E', cx.P.underlying U = some (.slice E'))
    (hi0 : (cx.P.info? E).map (·.bytes) = some (by' + 1)) (hsz : ∀ w, (sizeOf E).run cx.P w = .ok sz w) (hz : ∀ w, (zeroValue E).run cx.P w = .ok z w) (hzs : z.cells.size = sz)
    (hg : gOk cx.w0.heap.size sz n xs g) (hH : H = R ++ gH E xs g) (hs : Src cx.P I H sz m yv ys) (hroom : (2 * (n + m) + 768) * (by' + 1) ≤ 281474976710656)
    (k : ∀ g', gOk cx.w0.heap.size sz (n + m) (xs ++ ys) g' → C ((d, gV (n + m) g') :: e) I (R ++ gH E (xs ++ ys) g')) : OpJ cx Q o e I H C :=
  op_appendB cx.w0.heap.size (Nat.le_refl _) R ho hd hn hx hy hu hU hi0 hsz hz hzs hg hH hs hroom k
theorem J.eqv {ops : Array Oper} {l : List Oper} (d : Nat) {v v' : Value} (hv : eg e d = some v) (h : v = v') (k : J cx Q ops l ((d, v') :: e) I H) : J cx Q ops l e I H :=
  J.ext (e' := (d, v') :: e) (ext_cons (h ▸ hv)) k
theorem JA.eqv {I1 : Heap} {A : HL} {Z : CL} {z : Nat} {l : List Oper} {fuel : Nat} {listed : Array Bool} (d : Nat) {v v' : Value} (hv : eg e d = some v) (h : v = v') (k : JA cx Q l I1 A Z z fuel listed ((d, v') :: e) I H) : JA cx Q l I1 A Z z fuel listed e I H :=
  fun a w ha hs => k a w (ha.ext (ext_cons (h ▸ hv))) hs
theorem Cj.eqv {c : Code} (d : Nat) {v v' : Value} (hv : eg e d = some v) (h : v = v') (k : Cj cx Q c ((d, v') :: e) I H) : Cj cx Q c e I H :=
  Cj.ext (e' := (d, v') :: e) (ext_cons (h ▸ hv)) k
theorem yl_build {T : Nat} {parts : List (Nat × Operand)} {vs : List Value} {v : Value} (ho : o.op = .build T parts.toArray) (hv : evs e (parts.map (·.2)) = some vs)
    (hr : ∀ w, (Instr.build T ((parts.map (·.1)).zip vs).toArray).run cx.P w = .ok v w) : Yld cx o e S v := by
  intro a w ha _
  have hp : (parts.toArray.map fun (i, x) => (i, a.eval x)) = ((parts.map (·.1)).zip vs).toArray := by
    have := ha.evals hv
    rw [← this]
    simp [List.zip_map', List.map_map]
  simp only [execOp, ho, Sem.run_bind, hp, hr, Result.andThen_ok, Sem.run_pure]
structure LBld (pl : Array (Nat × Nat)) (cs : List Value) (parts : List (Nat × Value)) (cs' : List Value) : Prop where
  eq : Instr.fill (pl[·]?) cs.toArray parts = some cs'.toArray
theorem LBld.none {pl : Array (Nat × Nat)} {cs : List Value} : LBld pl cs [] cs := ⟨rfl⟩
theorem LBld.part {pl : Array (Nat × Nat)} {cs vs cs1 cs2 : List Value} {i off sz : Nat} {v : Value} {r : List (Nat × Value)} (h1 : pl[i]? = some (off, sz)) (h2 : v.cells = vs.toArray) (h3 : vs.length = sz) (h4 : LSpl cs off vs cs1) (h5 : LBld pl cs1 r cs2) :
    LBld pl cs ((i, v) :: r) cs2 := by
  refine ⟨?_⟩
  simp only [Instr.fill, h1, h2]
  obtain ⟨hl, he⟩ := h4
  rw [if_neg (by simp; omega)]
  have h6 := foldl_put vs 0 (cs.take off) ((cs.drop off).take vs.length) (cs.drop (off + vs.length)) off (by simp; omega) (by simp; omega)
  have h7 : cs.take off ++ (cs.drop off).take vs.length ++ cs.drop (off + vs.length) = cs := by
    rw [List.append_assoc, ← List.drop_drop, List.take_append_drop, List.take_append_drop]
  rw [h7, ← he] at h6
  have h8 : vs.toArray.zipIdx.foldl (fun cs (x : Value × Nat) => cs.setIfInBounds (off + x.2) x.1) cs.toArray = cs1.toArray := by
    rw [← Array.foldl_toList, Array.toList_zipIdx]; exact h6
  rw [h8]
  exact h5.eq
theorem yl_buildS {T : Nat} {parts : List (Nat × Operand)} {vs zs cs : List Value} {z : Value} {fs : Array Field} {pl : Array (Nat × Nat)} (ho : o.op = .build T parts.toArray) (hv : evs e (parts.map (·.2)) = some vs)
    (hz : ∀ w, (zeroValue T).run cx.P w = .ok z w) (hzc : z.cells = zs.toArray) (hu : cx.P.underlying T = some (.struct fs))
    (hpl : ∀ w, (fs.mapM (m := Sem) fun f => do pure (f.offset, ← sizeOf f.type)).run cx.P w = .ok pl w) (hb : LBld pl zs ((parts.map (·.1)).zip vs) cs) : Yld cx o e S (.agg cs.toArray) :=
  yl_build ho hv fun w => by
    simp only [Instr.build, Sem.run_bind, hz, hzc, run_underlying hu, Result.andThen_ok, hpl]
    rw [hb.eq]
    rfl
theorem yl_min2 {x y : Operand} {ts : Array TypeId} {k : IntKind} {p q : Int} (ho : o.op = .call ⟨.builtin .min, #[x, y], ts⟩) (hx : ev e x = some (.int k p)) (hy : ev e y = some (.int k q)) : Yld cx o e S (.int k (if q < p then q else p)) := by
  intro a w ha _
  simp [execOp, ho, resolve, invoke, builtin, Builtin.min_, Builtin.min2, ha.eval hx, ha.eval hy]
theorem yl_max2 {x y : Operand} {ts : Array TypeId} {k : IntKind} {p q : Int} (ho : o.op = .call ⟨.builtin .max, #[x, y], ts⟩) (hx : ev e x = some (.int k p)) (hy : ev e y = some (.int k q)) : Yld cx o e S (.int k (if q > p then q else p)) := by
  intro a w ha _
  simp [execOp, ho, resolve, invoke, builtin, Builtin.max_, Builtin.max2, ha.eval hx, ha.eval hy]
theorem op_store1 {x y : Operand} {T t b off : Nat} (i : Nat) {cs : List Value} {v : Value} {H' : HL} {fr : Nat × Nat} (ho : o.op = .store T x y) (hd : o.dst = none) (hx : ev e x = some (ptr b off)) (hy : ev e y = some v)
    (hv : v.cells = #[v]) (h1 : v.oneCell' = true) (hsz : ∀ w, (sizeOf T).run cx.P w = .ok 1 w) (hH : H[i]? = some (b, .cells cs.toArray t fr)) (hfr : fr = (0, 0) ∨ cs.length ≤ fr.1) (hoff : off < cs.length)
    (hH' : LSet H i (b, .cells (cs.set off v).toArray t fr) H') (k : C e I H') : OpJ cx Q o e I H C := by
  intro K hK a w ha hs
  unfold Oper.wp
  have hb := hs.own _ (List.mem_of_getElem? hH)
  have hspl : LSpl cs (off + 0) [v] (cs.set off v) := by
    refine ⟨by simp; omega, ?_⟩
    rw [List.set_eq_take_append_cons_drop]
    simp [hoff]
  have hst := run_storeCells (P := cx.P) (t := t) [v] 0 w cs hb hfr (by simp; omega) (fun u hu => by simp at hu; subst hu; exact h1) _ hspl
  have : (execOp a.eval o).run cx.P w = .ok .skip (World.block w b (.cells (cs.set off v).toArray t fr)) := by
    simp [execOp, ho, Instr.storeAt, Instr.sureAddr, ha.eval hx, ha.eval hy, storeVar, hv, hsz, hst]
  rw [this]
  simp only [Oper.upon, hd]
  exact hK _ _ _ k _ _ ha.putNone (hs.block hH hH')
theorem bcs_len (l : List UInt8) : (bcs l).length = l.length := by simp [bcs]
theorem op_toBytes {Sy T E d : Nat} {x : Operand} {l : List UInt8} (ho : o.op = .convert Sy T x) (hd : o.dst = some d) (hn : Nat.blt d cx.n = true) (hx : ev e x = some (str l))
    (hS : cx.P.underlying Sy = some .string) (hT : cx.P.underlying T = some (.slice E)) (hE : cx.P.underlying E = some (.int .u8))
    (k : ∀ b c sp fr, cx.w0.heap.size ≤ b → (bcs l ++ sp).length ≤ fr → C ((d, .slice (some ⟨b, 0, none⟩) l.length c) :: e) I ((b, .cells (bcs l ++ sp).toArray E (fr, fr + 1)) :: H)) : OpJ cx Q o e I H C := by
  intro K hK a w ha hst
  unfold Oper.wp
  let cap := (Question.appendCap l.length 0 E).cut (w.tape w.drawn (.appendCap l.length 0 E))
  let sp : List Value := List.replicate (cap - l.length) (.int .u8 0)
  have hrun : (execOp a.eval o).run cx.P w = .ok (.value (.slice (some ⟨w.heap.size, 0, none⟩) l.length cap))
      { { w with drawn := w.drawn + 1 } with heap := w.heap.push (.cells (bcs l ++ sp).toArray E ((bcs l ++ sp).length, (bcs l ++ sp).length + 1)) } := by
    simp only [execOp, ho, convert, ha.eval hx, str, Sem.run_bind, run_underlying hS, run_underlying hT, Result.andThen_ok, run_underlying hE, Conv.stringToBytes, size_mk, run_choose, Question.forced, newRow, run_newObj, Bool.false_eq_true, if_false, markStringish, run_shape, Sem.run_pure]
    simp only [World.shape?, Array.getElem?_push_size, run_freeze, Result.andThen_ok, World.freeze]
    have h0 : (Array.map (fun b : UInt8 => Value.int IntKind.u8 ↑b.toNat) l.toArray ++ Array.replicate (cap - l.length) (Value.int IntKind.u8 0)) = (bcs l ++ sp).toArray := by
      simp [bcs, sp]
    have h1 : ∀ (A : Array Obj) (o o' : Obj) (f : Obj → Obj), f o = o' → (A.push o).modify A.size f = A.push o' := by
      intro A o o' f hf
      apply Array.ext_getElem?
      intro j
      rw [Array.getElem?_modify, Array.getElem?_push, Array.getElem?_push]
      by_cases hj : A.size = j
      · subst hj; simp [hf]
      simp [hj, Ne.symm hj]
    simp only [Nat.one_ne_zero, if_false]
    refine congrArg (fun W : World => (Result.ok (Next.value (.slice (some ⟨w.heap.size, 0, none⟩) l.length cap)) W : Result Next)) ?_
    refine congrArg (fun H : Array Obj => ({ heap := H, tape := w.tape, drawn := w.drawn + 1, os := w.os, output := w.output } : World)) ?_
    refine h1 _ _ _ _ ?_
    rw [show (Array.map (fun b : UInt8 => Value.int IntKind.u8 ↑b.toNat) l.toArray ++ Array.replicate ((Question.appendCap l.length 0 E).cut (w.tape w.drawn (Question.appendCap l.length 0 E)) - l.length) (Value.int IntKind.u8 0)) = (bcs l ++ sp).toArray from h0]
    simp
  rw [hrun]
  simp only [Oper.upon, hd]
  exact hK _ _ _ (k w.heap.size cap sp _ hst.size (Nat.le_refl _)) _ _ (ha.put hn) ((hst.drewN (w.drawn + 1)).alloc _)
theorem yl_toStr {Sy T E : Nat} {x : Operand} (l : List UInt8) {b off c n : Nat} {cs : List Value} {t : TypeId} {fr : Nat × Nat} (ho : o.op = .convert Sy T x) (hx : ev e x = some (.slice (some ⟨b, off, none⟩) n c)) (hn : l.length = n)
    (hS : cx.P.underlying Sy = some (.slice E)) (hT : cx.P.underlying T = some .string) (hE : cx.P.underlying E = some (.int .u8)) (hb : Blk S b (.cells cs.toArray t fr)) (hl : (cs.drop off).take l.length = bcs l) :
    Yld cx o e S (str l) := by
  intro a w ha hs
  subst hn
  have hc : ∀ j v, (bcs l)[j]? = some v → w.cell? ((⟨b, off, none⟩ : Addr).add j) = some v := fun j v hj => by
    rw [Addr.add_lit]
    refine cell_of_heap (hb w hs) ?_
    rw [← hl, List.getElem?_take] at hj
    split at hj
    · simpa [List.getElem?_drop] using hj
    cases hj
  have h1 := run_loadCells_list (P := cx.P) (w := w) ⟨b, off, none⟩ (bcs l) hc
  have h2 := run_bytesToString (P := cx.P) w ⟨b, off, none⟩ l.length c (l.map fun u => (u.toNat : Int)) (by
    rw [show (bcs l).length = l.length by simp [bcs]] at h1
    rw [h1]; simp [bcs, List.map_map])
  have h3 : (l.map fun u => (u.toNat : Int)).foldl (fun r n => r.push (UInt8.ofNat n.toNat)) ByteArray.empty = ⟨l.toArray⟩ := by
    rw [foldl_push_bytes]
    apply ByteArray.ext
    simp [List.map_map]
    have : (fun x => UInt8.ofNat x) ∘ UInt8.toNat = id := by funext x; simp
    first | simp [Function.comp_def] | rw [this, List.map_id]
  simp only [execOp, ho, Sem.run_bind, ha.eval hx, run_convert_bytes_string w Sy T E _ l.length c hS hE hT, h2, h3, Result.andThen_ok, Sem.run_pure, str]
end
end Go.Sx
end
section
namespace Go.Sx
open Go
section
variable {cx : Cx} {Q : Qt} {e : Env} {I I1 : Heap} {H A : HL} {Z : CL} {z : Nat} {ops : Array Oper} {l : List Oper} {o : Oper} {C : Ct} {S : World → Prop} {fuel : Nat} {listed : Array Bool}
variable [DR]
theorem J.mv {d : Nat} {x : Operand} {v : Value} (k : J cx Q ops l ((d, v) :: e) I H) (ho : o.op = .move x := by rfl) (hx : ev e x = some v := by rfl) (hg : o.guard = none := by rfl) (hd : o.dst = some d := by rfl) (hn : Nat.blt d cx.n = true := by rfl) : J cx Q ops (o :: l) e I H := J.z (yl_move ho hx) k hg hd hn
theorem J.as {d : Nat} {x : Operand} {v : Value} (k : J cx Q ops l ((d, v) :: e) I H) (ho : o.op = .assign x := by rfl) (hx : ev e x = some v := by rfl) (hg : o.guard = none := by rfl) (hd : o.dst = some d := by rfl) (hn : Nat.blt d cx.n = true := by rfl) : J cx Q ops (o :: l) e I H := J.z (yl_assign ho hx) k hg hd hn
theorem J.ns {y : Code} (h : Cj cx Q y e I H) : J cx (Exit.then (y.wpIn cx.F 0 cx.P Q) Q) ops [] e I H := J.nil (Ej.seq h)
theorem Cj.sr {id : Nat} {y : Code} (h : J cx (Exit.then (y.wpIn cx.F 0 cx.P Q) Q) l.toArray l e I H) : Cj cx Q (.seq (.region id l.toArray false) y) e I H := Cj.seq (Cj.region h)
theorem J.nss {x y : Code} (h : Cj cx (Exit.then (y.wpIn cx.F 0 cx.P Q) Q) x e I H) : J cx (Exit.then ((Code.seq x y).wpIn cx.F 0 cx.P Q) Q) ops [] e I H := J.ns (Cj.seq h)
theorem J.nsss {x y u : Code} (h : Cj cx (Exit.then (u.wpIn cx.F 0 cx.P (Exit.then (y.wpIn cx.F 0 cx.P Q) Q)) (Exit.then (y.wpIn cx.F 0 cx.P Q) Q)) x e I H) : J cx (Exit.then ((Code.seq (Code.seq x u) y).wpIn cx.F 0 cx.P Q) Q) ops [] e I H := J.nss (Cj.seq h)
theorem J.nsr {id : Nat} (h : J cx Q l.toArray l e I H) : J cx (Exit.then ((Code.region id l.toArray false).wpIn cx.F 0 cx.P Q) Q) ops [] e I H := J.ns (Cj.region h)
theorem J.nssr {id : Nat} {y : Code} (h : J cx (Exit.then (y.wpIn cx.F 0 cx.P Q) Q) l.toArray l e I H) : J cx (Exit.then ((Code.seq (Code.region id l.toArray false) y).wpIn cx.F 0 cx.P Q) Q) ops [] e I H := J.nss (Cj.region h)
theorem J.cd {c : Operand} {x y : Code} {t : Bool} (h1 : t = true → Cj cx Q x e I H) (h2 : t = false → Cj cx Q y e I H) (hc : ev e c = some (.bool t) := by exact rfl) : J cx (Exit.then ((Code.cond c x y).wpIn cx.F 0 cx.P Q) Q) ops [] e I H := J.ns (Cj.cond hc h1 h2)
theorem J.c0 {c : Operand} {x y : Code} {t : Bool} (h2 : t = false → Cj cx Q y e I H) (hc : ev e c = some (.bool t) := by exact rfl) (hf : t = false := by exact rfl) : J cx (Exit.then ((Code.cond c x y).wpIn cx.F 0 cx.P Q) Q) ops [] e I H := J.ns (Cj.cond hc (fun h => Bool.noConfusion (Eq.trans (Eq.symm hf) h)) h2)
theorem J.c1 {c : Operand} {x y : Code} {t : Bool} (h1 : t = true → Cj cx Q x e I H) (hc : ev e c = some (.bool t) := by exact rfl) (hf : t = true := by exact rfl) : J cx (Exit.then ((Code.cond c x y).wpIn cx.F 0 cx.P Q) Q) ops [] e I H := J.ns (Cj.cond hc h1 (fun h => Bool.noConfusion (Eq.trans (Eq.symm hf) h)))
theorem J.sk (j d t : Nat) {want b : Bool} (hb : b = !want) (h : J cx Q ops l ((t, undef) :: e) I H) (hg : o.guard = some (j, want) := by rfl) (hd : (ops[j]?).bind (·.dst) = some d := by rfl) (hv : eg e d = some (.bool b) := by rfl) (ho : o.dst = some t := by rfl) (ht : Nat.blt t cx.n = true := by rfl) : J cx Q ops (o :: l) e I H := J.skip j d t want b hg hd hv hb ho ht h
theorem JA.mv (i : Nat) {d : Nat} {x : Operand} {v : Value} (hfx : JFix I1 A Z I H) (k : JA cx Q l I1 A Z z fuel (listed.setIfInBounds i true) ((d, v) :: e) I H) (hi : l.toArray[i]? = some o := by rfl) (ho : o.op = .move x := by rfl) (hx : ev e x = some v := by rfl) (hd : o.dst = some d := by rfl) (hg : o.guard = none := by rfl) (hn : Nat.blt d cx.n = true := by rfl) (hz : zok l.toArray listed z i = true := by first | rfl | kernel_rfl)
    (hs : Region.noSelect l.toArray = true := by kernel_rfl) (hf : Region.free .any l.toArray listed i = true := by kernel_rfl) (hr : (Region.ready .any l.toArray listed).contains i = true := by kernel_rfl) (hq : ∀ c a w, Q (.panic c) (a.put (some d) v) w → Q (.panic c) a w := by exact fun _ _ _ h => h) : JA cx Q l I1 A Z z (fuel + 1) listed e I H := JA.tk i hi hfx (yl_move ho hx) k hd hg hn hz hs hf hr hq
theorem yl_fa {x : Operand} {T k b off m : Nat} {fs : Array Field} {f : Field} (off' : Nat) (hu : cx.P.underlying T = some (.struct fs)) (hsz : ∀ w, (sizeOf f.type).run cx.P w = .ok (m + 1) w) (ho : o.op = .fieldAddr T x k := by rfl) (hx : ev e x = some (ptr b off) := by rfl) (hf : fs[k]? = some f := by rfl) (hoff : off + f.offset = off' := by rfl) : Yld cx o e S (ptr b off') := yl_fieldAddr ho hx hu hf hsz hoff
theorem fx0 {I : Heap} {H : HL} : Le I I ∧ HSub [] H ∧ CSub [] H := ⟨Le.refl _, HSub.n, CSub.n⟩
theorem fx1 {I : Heap} {H : HL} : JFix I [] [] I H := ⟨HSub.n, CSub.n, Le.refl _⟩
theorem Cj.xl {K : Act → World → Prop} {ι : Type} {pre : ι → Prop} {μ : ι → Nat} {i0 : ι} {env : ι → Env} {hp : ι → Heap} {hl : ι → HL} {id : Nat} {y : Code} (h : Cj cx Q y e I H) : Cj cx (Exit.then K (LoopQ cx (Exit.inBlock id (Exit.then (y.wpIn cx.F 0 cx.P Q) Q)) pre μ i0 env hp hl)) (.exit id) e I H := Cj.exit (Ej.seqExit (Ej.loopExit (Ej.blkExit (Ej.seq h))))
theorem Cj.ks {y : Code} (h : Cj cx Q y e I H) : Cj cx (Exit.then (y.wpIn cx.F 0 cx.P Q) Q) .skip e I H := Cj.skip (Ej.seq h)
theorem Cj.kb {id : Nat} {y : Code} (h : Cj cx Q y e I H) : Cj cx (Exit.inBlock id (Exit.then (y.wpIn cx.F 0 cx.P Q) Q)) .skip e I H := Cj.skip (Ej.blkNormal (Ej.seq h))
theorem J.nb {id : Nat} {y : Code} (h : Cj cx Q y e I H) : J cx (Exit.inBlock id (Exit.then (y.wpIn cx.F 0 cx.P Q) Q)) ops [] e I H := J.nil (Ej.blkNormal (Ej.seq h))
theorem Cj.rs {K : Act → World → Prop} (h : Ej cx Q .ret e I H) : Cj cx (Exit.then K Q) .ret e I H := Cj.ret (Ej.seqRet h)
end
theorem Ctr.ob [DR] {P : Program} {f : FuncId} {fn : Func} {c : Code} {args : List Value} {I : Heap} {H : HL} {post : Ending → Heap → HL → Prop} (hf : P.funcs[f]? = some fn) (h : ∀ w0, Ready I H w0 → Cj ⟨P, fn.ntmps, w0, H.map (·.1), I, [], none⟩ (bodyPost P fn (RR w0 (H.map (·.1)) I post)) c (argsEnv 0 args) I H) (hb : fn.body = some c := by rfl) (hname : fn.name ≠ "runtime.NumGoroutine" := by decide) (hn : args.length ≤ fn.ntmps := by exact Nat.le_of_ble_eq_true rfl) : Ctr P f args I H post := Ctr.of_body hf hb hname hn h
end Go.Sx
end
