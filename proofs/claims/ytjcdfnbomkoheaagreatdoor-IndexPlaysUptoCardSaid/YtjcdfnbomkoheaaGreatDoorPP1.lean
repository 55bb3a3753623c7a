/-
  Own texts on the laws of the seat, joined: the logic, and contracts of functions. Conditions: none.
-/
import Derived.Test.YtjcdfnbomkoheaaGreatDoorNmP
import Derived.WalkKit
import Derived.OrdersHeld
import Derived.Deep.LoopGhost
import Derived.TacticsIn
import Derived.OrdersIn
import Derived.KernelRfl
import Derived.Laws.RangeAny
import Derived.Scope
import Derived.Below
import Derived.Lib.Builder
import Derived.Lib.UnsafeStr
import Derived.Laws.Externs
import Derived.Recover
import Derived.Laws.MakeOwn
import Derived.LoopN
import Derived.Test.YtjcdfnbomkoheaaGreatDoorChecked
import Derived.Test.YtjcdfnbomkoheaaGreatDoorCards
import Derived.Test.YtjcdfnbomkoheaaGreatDoorTie
import Derived.ProofKit
import Derived.OpenShut
import Derived.Lay
import Derived.Deep.DeepHandedRow
import Derived.WideKeyArr2
import Derived.RangeFuncRecord
import Derived.Sort.Grow
import Derived.Sort.EncStr
import Derived.Carry
import Derived.Tactics
import Derived.Tactics2
import Derived.Laws.Pointers
import Derived.Laws.LoneSync
import Derived.RegionTactic
import Derived.RegionCalls
import Derived.ChangeAlike
import Derived.Lib.TrimUEq
import Derived.Lib.TrimAscii
import Derived.Lib.MapLaws
set_option maxRecDepth 100000
set_option maxHeartbeats 4000000
section
namespace Go.Sx
open Go
abbrev Heap := Nat → Option Obj
abbrev HL := List (Nat × Obj)
abbrev Env := List (Nat × Value)
def eg : Env → Nat → Option Value
  | [], _ => none
  | (k, v) :: r, t => bif Nat.beq k t then some v else eg r t
def ev (e : Env) : Operand → Option Value
  | .tmp t => eg e t
  | .const v => some v
  | .global g => some (.pointer (some ⟨g, 0, none⟩))
  | .func f => some (.func (.func f) #[] #[])
def evs (e : Env) : List Operand → Option (List Value)
  | [] => some []
  | x :: r => match ev e x, evs e r with
    | some v, some vs => some (v :: vs)
    | _, _ => none
def Sub : Env → Env → Prop
  | [], _ => True
  | (t, v) :: r, e => eg e t = some v ∧ Sub r e
structure Has (a : Act) (n : Nat) (e : Env) (ds : List Deferred) : Prop where
  size : a.tmps.size = n
  defs : a.defers = ds
  get : ∀ t v, eg e t = some v → a.tmps[t]? = some v
theorem eg_cons (k : Nat) (v : Value) (r : Env) (t : Nat) : eg ((k, v) :: r) t = if k = t then some v else eg r t := by
  show (bif Nat.beq k t then some v else eg r t) = _
  by_cases h : k = t
  · subst h; simp
  have : Nat.beq k t = false := by
    cases hb : Nat.beq k t with
    | false => rfl
    | true => exact absurd (Nat.eq_of_beq_eq_true hb) h
  rw [this, if_neg h]; rfl
theorem Sub.get : ∀ {e' e : Env}, Sub e' e → ∀ t v, eg e' t = some v → eg e t = some v
  | [], _, _, t, v, h => by simp [eg] at h
  | (k, u) :: r, e, ⟨h1, h2⟩, t, v, h => by
    rw [eg_cons] at h
    by_cases hk : k = t
    · subst hk; simp at h; subst h; exact h1
    simp only [hk, if_false] at h; exact Sub.get h2 t v h
section has
variable {a : Act} {n : Nat} {e : Env} {ds : List Deferred}
theorem Has.sub {e' : Env} (h : Has a n e ds) (hs : Sub e' e) : Has a n e' ds := ⟨h.size, h.defs, fun t v hv => h.get t v (hs.get t v hv)⟩
theorem Has.eval (h : Has a n e ds) {x : Operand} {v : Value} (hx : ev e x = some v) : a.eval x = v := by
  cases x with
  | tmp t =>
    have := h.get t v hx
    simp [Act.eval, this]
  | const c => simpa [ev, Act.eval] using hx
  | global g => simpa [ev, Act.eval] using hx
  | func f => simpa [ev, Act.eval] using hx
theorem Has.evals (h : Has a n e ds) : ∀ {xs : List Operand} {vs : List Value}, evs e xs = some vs → xs.map a.eval = vs
  | [], vs, hx => by simp [evs] at hx; subst hx; rfl
  | x :: r, vs, hx => by
    simp only [evs] at hx
    split at hx
    · rename_i v vs' h1 h2
      cases hx
      simp [h.eval h1, Has.evals h h2]
    cases hx
theorem Has.put (h : Has a n e ds) {d : Nat} {v : Value} (hd : Nat.blt d n = true) : Has (a.put (some d) v) n ((d, v) :: e) ds := by
  have hd' : d < n := by simpa [Nat.blt_eq] using hd
  refine ⟨by simpa [Act.put] using h.size, by simpa [Act.put] using h.defs, fun t u hu => ?_⟩
  rw [eg_cons] at hu
  have hs := h.size
  by_cases hk : d = t
  · subst hk
    simp at hu; subst hu
    simp [Act.put, hs, hd']
  simp only [hk, if_false] at hu
  simp [Act.put, hk]
  have := h.get t u hu
  simpa using this
theorem Has.putNone (h : Has a n e ds) {v : Value} : Has (a.put none v) n e ds := h
end has
def argsEnv : Nat → List Value → Env
  | _, [] => []
  | k, v :: r => (k, v) :: argsEnv (k + 1) r
theorem argsEnv_get : ∀ (l : List Value) (k t : Nat) (v : Value), eg (argsEnv k l) t = some v → k ≤ t ∧ l[t - k]? = some v
  | [], k, t, v, h => by simp [argsEnv, eg] at h
  | u :: r, k, t, v, h => by
    simp only [argsEnv] at h
    rw [eg_cons] at h
    by_cases hk : k = t
    · subst hk; simp at h; subst h; simp
    simp only [hk, if_false] at h
    obtain ⟨h1, h2⟩ := argsEnv_get r (k + 1) t v h
    refine ⟨by omega, ?_⟩
    have : t - k = (t - (k + 1)) + 1 := by omega
    rw [this]; simpa using h2
theorem Has.start (l : List Value) (n : Nat) (hn : l.length ≤ n) :
    Has { tmps := l.toArray ++ Array.replicate (n - l.toArray.size) undef, defers := [] } n (argsEnv 0 l) [] := by
  refine ⟨by simp; omega, rfl, fun t v h => ?_⟩
  obtain ⟨_, h2⟩ := argsEnv_get l 0 t v h
  have ht : t < l.length := by
    rcases Nat.lt_or_ge t l.length with h' | h'
    · exact h'
    simp [List.getElem?_eq_none h'] at h2
  simp only [Nat.sub_zero] at h2
  rw [Array.getElem?_append_left (by simpa using ht)]
  simpa using h2
def Le (I I' : Heap) : Prop := ∀ b o, I b = some o → I' b = some o
theorem Le.refl (I : Heap) : Le I I := fun _ _ h => h
theorem Le.trans {I J K : Heap} (h : Le I J) (k : Le J K) : Le I K := fun b o x => k b o (h b o x)
structure St (w0 : World) (D : List Nat) (I0 I : Heap) (H : HL) (w : World) : Prop where
  os : w.os = w0.os
  tape : w.tape = w0.tape
  output : w.output = w0.output
  size : w0.heap.size ≤ w.heap.size
  frm : ∀ b, b < w0.heap.size → b ∉ D → w.heap[b]? = w0.heap[b]?
  sub : ∀ b o, I b = some o → w.heap[b]? = some o
  own : ∀ p ∈ H, w.heap[p.1]? = some p.2
  nodup : (H.map (·.1)).Nodup
  dis : ∀ p ∈ H, I p.1 = none
  new : ∀ p ∈ H, p.1 ∈ D ∨ w0.heap.size ≤ p.1
  ifr : ∀ b, b < w0.heap.size → I b = I0 b
  le : Le I0 I
theorem St.start (w : World) (I : Heap) (H : HL) (h1 : ∀ b o, I b = some o → w.heap[b]? = some o) (h2 : ∀ p ∈ H, w.heap[p.1]? = some p.2)
    (h3 : (H.map (·.1)).Nodup) (h4 : ∀ p ∈ H, I p.1 = none) : St w (H.map (·.1)) I I H w :=
  ⟨rfl, rfl, rfl, Nat.le_refl _, fun _ _ _ => rfl, h1, h2, h3, h4, fun _p hp => .inl (List.mem_map_of_mem hp), fun _ _ => rfl, Le.refl _⟩
section st
variable {w0 : World} {D : List Nat} {I0 I : Heap} {H : HL} {w : World}
theorem St.lt (h : St w0 D I0 I H w) {p : Nat × Obj} (hp : p ∈ H) : p.1 < w.heap.size := by
  have := h.own p hp
  rcases Nat.lt_or_ge p.1 w.heap.size with h' | h'
  · exact h'
  simp [Array.getElem?_eq_none h'] at this
theorem St.drew (h : St w0 D I0 I H w) : St w0 D I0 I H { w with drawn := w.drawn + 1 } :=
  ⟨h.os, h.tape, h.output, h.size, h.frm, h.sub, h.own, h.nodup, h.dis, h.new, h.ifr, h.le⟩
theorem St.drewN (h : St w0 D I0 I H w) (k : Nat) : St w0 D I0 I H { w with drawn := k } :=
  ⟨h.os, h.tape, h.output, h.size, h.frm, h.sub, h.own, h.nodup, h.dis, h.new, h.ifr, h.le⟩
theorem St.keep {H' : HL} (h : St w0 D I0 I H w) (hs : ∀ p ∈ H', p ∈ H) (hn : (H'.map (·.1)).Nodup) : St w0 D I0 I H' w :=
  ⟨h.os, h.tape, h.output, h.size, h.frm, h.sub, fun p hp => h.own p (hs p hp), hn, fun p hp => h.dis p (hs p hp), fun p hp => h.new p (hs p hp), h.ifr, h.le⟩
theorem St.sublist {H' : HL} (h : St w0 D I0 I H w) (hs : H'.Sublist H) : St w0 D I0 I H' w :=
  h.keep (fun _ hp => hs.subset hp) (h.nodup.sublist (hs.map _))
theorem St.perm {H' : HL} (h : St w0 D I0 I H w) (hs : H'.Perm H) : St w0 D I0 I H' w :=
  h.keep (fun _ hp => hs.mem_iff.1 hp) ((hs.map _).nodup_iff.2 h.nodup)
theorem St.alloc (h : St w0 D I0 I H w) (o : Obj) : St w0 D I0 I ((w.heap.size, o) :: H) { w with heap := w.heap.push o } := by
  have hlt : ∀ {b : Nat} {o' : Obj}, w.heap[b]? = some o' → b < w.heap.size := fun {b o'} hb => by
    rcases Nat.lt_or_ge b w.heap.size with h' | h'
    · exact h'
    simp [Array.getElem?_eq_none h'] at hb
  have hold : ∀ {b : Nat} {o' : Obj}, w.heap[b]? = some o' → (w.heap.push o)[b]? = some o' := fun {b o'} hb => by
    rw [Array.getElem?_push, if_neg (by have := hlt hb; omega)]; exact hb
  refine ⟨h.os, h.tape, h.output, by have := h.size; simp; omega, fun b hb hd => ?_, fun b o' hb => hold (h.sub b o' hb), ?_, ?_, ?_, ?_, h.ifr, h.le⟩
  · rw [← h.frm b hb hd]
    show (w.heap.push o)[b]? = _
    rw [Array.getElem?_push, if_neg (by have := h.size; omega)]
  · intro p hp
    cases hp with
    | head => simp
    | tail _ hp => exact hold (h.own p hp)
  · simp only [List.map_cons, List.nodup_cons]
    refine ⟨fun hm => ?_, h.nodup⟩
    obtain ⟨p, hp, he⟩ := List.mem_map.1 hm
    have := h.lt hp
    omega
  · intro p hp
    cases hp with
    | head =>
      cases hi : I w.heap.size with
      | none => rfl
      | some o' => have := hlt (h.sub _ _ hi); omega
    | tail _ hp => exact h.dis p hp
  intro p hp
  cases hp with
  | head => exact .inr h.size
  | tail _ hp => exact h.new p hp
def hset (b : Nat) (o : Obj) : HL → HL
  | [] => []
  | (c, x) :: r => if c = b then (c, o) :: r else (c, x) :: hset b o r
theorem hset_map (b : Nat) (o : Obj) : ∀ H : HL, (hset b o H).map (·.1) = H.map (·.1)
  | [] => rfl
  | (c, x) :: r => by
    unfold hset
    split
    · rfl
    simp [hset_map b o r]
theorem hset_mem (b : Nat) (o : Obj) : ∀ (H : HL), (H.map (·.1)).Nodup → ∀ p ∈ hset b o H, (p = (b, o)) ∨ (p ∈ H ∧ p.1 ≠ b)
  | [], _, p, hp => by cases hp
  | (c, x) :: r, hn, p, hp => by
    simp only [List.map_cons, List.nodup_cons] at hn
    unfold hset at hp
    split at hp
    · rename_i hc; subst hc
      cases hp with
      | head => exact .inl rfl
      | tail _ hp =>
        refine .inr ⟨.tail _ hp, fun he => hn.1 ?_⟩
        rw [← he]; exact List.mem_map_of_mem hp
    rename_i hc
    cases hp with
    | head => exact .inr ⟨.head _, hc⟩
    | tail _ hp =>
      rcases hset_mem b o r hn.2 p hp with h | h
      · exact .inl h
      exact .inr ⟨.tail _ h.1, h.2⟩
theorem St.write {w' : World} {b : Nat} {o o' : Obj} (h : St w0 D I0 I H w) (hm : (b, o) ∈ H) (hos : w'.os = w.os) (ht : w'.tape = w.tape) (hout : w'.output = w.output)
    (hsz : w'.heap.size = w.heap.size) (hb : w'.heap[b]? = some o') (hne : ∀ c, c ≠ b → w'.heap[c]? = w.heap[c]?) : St w0 D I0 I (hset b o' H) w' := by
  have hin : ∀ p ∈ hset b o' H, ∃ q ∈ H, q.1 = p.1 := fun p hp => by
    have : p.1 ∈ (hset b o' H).map (·.1) := List.mem_map_of_mem hp
    rw [hset_map] at this
    obtain ⟨q, hq, he⟩ := List.mem_map.1 this
    exact ⟨q, hq, he⟩
  refine ⟨hos.trans h.os, ht.trans h.tape, hout.trans h.output, by rw [hsz]; exact h.size, fun c hc hd => ?_, fun c x hx => ?_, fun p hp => ?_, by rw [hset_map]; exact h.nodup, fun p hp => ?_, fun p hp => ?_, h.ifr, h.le⟩
  · have : c ≠ b := fun he => by
      rcases h.new _ hm with h' | h'
      · exact hd (he ▸ h')
      simp at h'; omega
    rw [hne c this]; exact h.frm c hc hd
  · have : c ≠ b := fun he => by
      have := h.dis _ hm
      simp only at this
      rw [he] at hx; rw [this] at hx; cases hx
    rw [hne c this]; exact h.sub c x hx
  · rcases hset_mem b o' H h.nodup p hp with rfl | ⟨h1, h2⟩
    · exact hb
    rw [hne _ h2]; exact h.own p h1
  · obtain ⟨q, hq, he⟩ := hin p hp
    rw [← he]; exact h.dis q hq
  obtain ⟨q, hq, he⟩ := hin p hp
  rw [← he]; exact h.new q hq
def hput (b : Nat) (o : Obj) (I : Heap) : Heap := fun c => if c = b then some o else I c
theorem St.persist {b : Nat} {o : Obj} {R : HL} (h : St w0 D I0 I ((b, o) :: R) w) (hb : w0.heap.size ≤ b) :
    St w0 D I0 (hput b o I) R w := by
  have hnd := h.nodup
  simp only [List.map_cons, List.nodup_cons] at hnd
  have hno : I b = none := h.dis _ (.head _)
  refine ⟨h.os, h.tape, h.output, h.size, h.frm, fun c x hx => ?_, fun p hp => h.own p (.tail _ hp), hnd.2, fun p hp => ?_, fun p hp => h.new p (.tail _ hp), fun c hc => ?_, fun c x hx => ?_⟩
  · unfold hput at hx
    split at hx
    · rename_i he; subst he; cases hx; exact h.own _ (.head _)
    exact h.sub c x hx
  · unfold hput
    split
    · rename_i he
      exact absurd (he ▸ List.mem_map_of_mem hp) hnd.1
    exact h.dis p (.tail _ hp)
  · unfold hput
    rw [if_neg (by omega)]; exact h.ifr c hc
  unfold hput
  split
  · rename_i he; subst he
    have := h.le _ _ hx; rw [hno] at this; cases this
  exact h.le c x hx
theorem hput_le {b : Nat} {o : Obj} {I : Heap} (h : I b = none) : Le I (hput b o I) := fun c x hx => by
  unfold hput
  split
  · rename_i he; subst he; rw [h] at hx; cases hx
  exact hx
theorem hput_at (b : Nat) (o : Obj) (I : Heap) : hput b o I b = some o := by simp [hput]
end st
theorem St.call {w0 w w' : World} {D : List Nat} {I0 I I' : Heap} {H1 H1' R : HL} (h : St w0 D I0 I (H1 ++ R) w) (k : St w (H1.map (·.1)) I I' H1' w') :
    St w0 D I0 I' (H1' ++ R) w' := by
  have hnd := h.nodup
  rw [List.map_append, List.nodup_append] at hnd
  obtain ⟨n1, n2, n3⟩ := hnd
  have hR : ∀ p ∈ R, p.1 < w.heap.size := fun p hp => h.lt (List.mem_append_right _ hp)
  have hRD : ∀ p ∈ R, p.1 ∉ H1.map (·.1) := fun p hp hm => n3 _ hm _ (List.mem_map_of_mem hp) rfl
  refine ⟨k.os.trans h.os, k.tape.trans h.tape, k.output.trans h.output, Nat.le_trans h.size k.size, fun b hb hd => ?_, k.sub, fun p hp => ?_, ?_, fun p hp => ?_, fun p hp => ?_, fun b hb => ?_, h.le.trans k.le⟩
  · have hnot : b ∉ H1.map (·.1) := fun hm => by
      obtain ⟨p, hp, he⟩ := List.mem_map.1 hm
      rcases h.new p (List.mem_append_left _ hp) with h' | h'
      · exact hd (he ▸ h')
      omega
    rw [k.frm b (Nat.lt_of_lt_of_le hb h.size) hnot]
    exact h.frm b hb hd
  · rcases List.mem_append.1 hp with hp | hp
    · exact k.own p hp
    rw [k.frm _ (hR p hp) (hRD p hp)]
    exact h.own p (List.mem_append_right _ hp)
  · rw [List.map_append, List.nodup_append]
    refine ⟨k.nodup, n2, fun x hx y hy he => ?_⟩
    obtain ⟨p, hp, hpx⟩ := List.mem_map.1 hx
    obtain ⟨q, hq, hqy⟩ := List.mem_map.1 hy
    rcases k.new p hp with h' | h'
    · exact hRD q hq (by rw [hqy, ← he, ← hpx]; exact h')
    have := hR q hq; omega
  · rcases List.mem_append.1 hp with hp | hp
    · exact k.dis p hp
    rw [k.ifr _ (hR p hp)]; exact h.dis p (List.mem_append_right _ hp)
  · rcases List.mem_append.1 hp with hp | hp
    · rcases k.new p hp with h' | h'
      · obtain ⟨q, hq, he⟩ := List.mem_map.1 h'
        rw [← he]; exact h.new q (List.mem_append_left _ hq)
      exact .inr (Nat.le_trans h.size h')
    exact h.new p (List.mem_append_right _ hp)
  rw [k.ifr b (Nat.lt_of_lt_of_le hb h.size)]; exact h.ifr b hb
def SS (I : Heap) (H : HL) (w : World) : Prop := (∀ b o, I b = some o → w.heap[b]? = some o) ∧ ∀ p ∈ H, w.heap[p.1]? = some p.2
theorem St.ss {w0 w : World} {D : List Nat} {I0 I : Heap} {H : HL} (h : St w0 D I0 I H w) : SS I H w := ⟨h.sub, h.own⟩
def Blk (S : World → Prop) (b : Nat) (o : Obj) : Prop := ∀ w, S w → w.heap[b]? = some o
theorem Blk.imm {I : Heap} {H : HL} {b : Nat} {o : Obj} (h : I b = some o) : Blk (SS I H) b o := fun _ hs => hs.1 b o h
theorem Blk.at {I : Heap} {H : HL} {b : Nat} {o : Obj} (i : Nat) (h : H[i]? = some (b, o)) : Blk (SS I H) b o := fun _ hs => hs.2 _ (List.mem_of_getElem? h)
abbrev CL := List (Nat × Nat × Value)
def SC (I : Heap) (A : HL) (Z : CL) (w : World) : Prop := SS I A w ∧ ∀ c ∈ Z, w.cell? ⟨c.1, c.2.1, none⟩ = some c.2.2
theorem Blk.immC {I : Heap} {A : HL} {Z : CL} {b : Nat} {o : Obj} (h : I b = some o) : Blk (SC I A Z) b o := fun _ hs => hs.1.1 b o h
theorem Blk.atC {I : Heap} {A : HL} {Z : CL} {b : Nat} {o : Obj} (i : Nat) (h : A[i]? = some (b, o)) : Blk (SC I A Z) b o := fun _ hs => hs.1.2 _ (List.mem_of_getElem? h)
structure Cx where
  P : Program
  n : Nat
  w0 : World
  D : List Nat
  I0 : Heap
  ds : List Deferred
  rd : Option Nat := none
def Cx.F (cx : Cx) : Fence := { Fence.wide with round := cx.rd }
abbrev Qt := Exit → Act → World → Prop
def Cj (cx : Cx) (Q : Qt) (c : Code) (e : Env) (I : Heap) (H : HL) : Prop :=
  ∀ a w, Has a cx.n e cx.ds → St cx.w0 cx.D cx.I0 I H w → c.wpIn cx.F 0 cx.P Q a w
def Ej (cx : Cx) (Q : Qt) (x : Exit) (e : Env) (I : Heap) (H : HL) : Prop :=
  ∀ a w, Has a cx.n e cx.ds → St cx.w0 cx.D cx.I0 I H w → Q x a w
def J (cx : Cx) (Q : Qt) (ops : Array Oper) (l : List Oper) (e : Env) (I : Heap) (H : HL) : Prop :=
  ∀ a w, Has a cx.n e cx.ds → St cx.w0 cx.D cx.I0 I H w → wpListIn cx.F 0 cx.P ops Q l a w
abbrev Ct := Env → Heap → HL → Prop
def OpJ (cx : Cx) (Q : Qt) (o : Oper) (e : Env) (I : Heap) (H : HL) (C : Ct) : Prop :=
  ∀ K : Act → World → Prop, (∀ e' I' H', C e' I' H' → ∀ a w, Has a cx.n e' cx.ds → St cx.w0 cx.D cx.I0 I' H' w → K a w) →
    ∀ a w, Has a cx.n e cx.ds → St cx.w0 cx.D cx.I0 I H w → o.wp cx.P a w K Q
theorem fence_calls {rd : Option Nat} {n : Nat} {P : Program} {f : FuncId} {args : Array Value} {w : World} {R : Ending → World → Prop} (h : Calls P f args w R) : CallsIn { Fence.wide with round := rd } n P f args w R := by
  have := (callsIn_wide (n := n)).2 h
  cases rd with
  | none => exact this
  | some l => exact this
theorem fence_rows {rd : Option Nat} {n : Nat} {P : Program} {row : String} {args : Array Value} {w : World} {R : Value → World → Prop} (h : Rows P row args w R) : RowsIn { Fence.wide with round := rd } n P row args w R := by
  have : RowsIn Fence.wide n P row args w R := fun c cs _ => let ⟨v, w', hr, hs⟩ := h c cs; ⟨v, w', hr, stepsIn_wide.2 hs⟩
  cases rd with
  | none => exact this
  | some l => exact this
theorem fence_upon {rd : Option Nat} {n : Nat} {P : Program} {o : Oper} {a : Act} {K : Act → World → Prop} {Q : Qt} {r : Result Next} (h : o.upon P a K Q r) : o.uponIn { Fence.wide with round := rd } n P a K Q r := by
  cases r with
  | ok x w' =>
    cases x <;> simp only [Oper.upon, Oper.uponIn] at h ⊢ <;>
      first
        | exact h
        | exact ⟨fun h => by simp [Fence.wide] at h, fence_calls h⟩
        | exact ⟨fun h => by simp [Fence.wide] at h, fence_rows h⟩
  | halt x w' => cases x <;> simp only [Oper.upon, Oper.uponIn] at h ⊢ <;> exact h
theorem fence_wp {rd : Option Nat} {n : Nat} {P : Program} {o : Oper} {a : Act} {w : World} {K : Act → World → Prop} {Q : Qt} (hd : rd = none ∨ ∀ c, o.op ≠ .defer c) (h : o.wp P a w K Q) : o.wpIn { Fence.wide with round := rd } n P a w K Q := by
  refine ⟨fun _ _ => trivial, ?_⟩
  have he : o.semAt rd a.eval = execOp a.eval o := by
    rcases hd with rfl | hd
    · rfl
    exact Oper.semAt_eq rd a.eval o hd
  show o.uponIn _ n P a K Q ((o.semAt rd a.eval).run P w)
  rw [he]
  exact fence_upon h
theorem OpJ.toIn {cx : Cx} {Q : Qt} {o : Oper} {e : Env} {I : Heap} {H : HL} {C : Ct} (h : OpJ cx Q o e I H C) (K : Act → World → Prop)
    (hK : ∀ e' I' H', C e' I' H' → ∀ a w, Has a cx.n e' cx.ds → St cx.w0 cx.D cx.I0 I' H' w → K a w) (a : Act) (w : World) (ha : Has a cx.n e cx.ds) (hs : St cx.w0 cx.D cx.I0 I H w) : o.wpIn cx.F 0 cx.P a w K Q := by
  by_cases hd : ∃ c, o.op = .defer c
  · obtain ⟨c, hc⟩ := hd
    have h1 := h (fun a' w' => K a' w' ∧ a'.defers = cx.ds) (fun e' I' H' hC a w ha' hs' => ⟨hK e' I' H' hC a w ha' hs', ha'.defs⟩) a w ha hs
    refine ⟨fun _ _ => trivial, ?_⟩
    unfold Oper.wp at h1
    have hx : (execOp a.eval o).run cx.P w = ((resolve a.eval c o.type).run cx.P w).andThen fun d w' => .ok (.defer d) w' := by
      simp only [execOp, hc, Sem.run_bind]
      rfl
    rw [hx] at h1
    cases hr : (resolve a.eval c o.type).run cx.P w with
    | ok d w' =>
      rw [hr] at h1
      simp only [Result.andThen_ok, Oper.upon] at h1
      have h2 := h1.2
      have h3 : ({ a with defers := d :: a.defers }.put o.dst undef).defers = d :: a.defers := by
        cases o.dst <;> rfl
      rw [h3, ha.defs] at h2
      exact absurd (congrArg List.length h2) (by simp)
    | halt x w' =>
      rw [hr] at h1
      have hy : (o.semAt cx.F.round a.eval).run cx.P w = .halt x w' := by
        unfold Oper.semAt
        cases cx.F.round with
        | none => simp only [hx, hr]; rfl
        | some l => simp only [hc, Sem.run_bind, hr]; rfl
      rw [hy]
      have h4 : (Result.andThen (.halt x w' : Result Deferred) fun d w' => (.ok (.defer d) w' : Result Next)) = .halt x w' := rfl
      rw [h4] at h1
      cases x <;> simp only [Oper.upon, Oper.uponIn] at h1 ⊢ <;> exact h1
  have h1 := h K hK a w ha hs
  exact fence_wp (rd := cx.rd) (.inr fun c hc => hd ⟨c, hc⟩) h1
theorem wpIn_mono' {F : Fence} {n : Nat} {P : Program} {a : Act} {w : World} {c : Code} {Q Q' : Qt} (hq : ∀ e a w, Q e a w → Q' e a w) (h : c.wpIn F n P Q a w) : c.wpIn F n P Q' a w := wpIn_mono h hq
theorem wpIn_loop_gh {F : Fence} {rm : Nat} {P : Program} {Q : Qt} {a : Act} {w : World} {c : Code} (I : Nat → Act → World → Prop) (n₀ : Nat) (h₀ : I n₀ a w)
    (round : ∀ n a w, I n a w → c.wpIn F rm P (Exit.then (fun a' w' => ∃ n', n' < n ∧ I n' a' w') Q) a w) : (Code.loop c).wpIn F rm P Q a w := by
  refine wpIn_loop (fun a w => ∃ n, I n a w) (fun a w => leastOf (fun n => I n a w)) ⟨n₀, h₀⟩ ?_
  intro a w hI
  refine wpIn_mono (round _ a w (leastOf_spec hI).1) ?_
  intro e a' w' hq
  cases e with
  | normal =>
    obtain ⟨n', hlt, hI'⟩ := hq
    exact show (∃ n, I n a' w') ∧ leastOf (fun n => I n a' w') < leastOf (fun n => I n a w) from ⟨⟨n', hI'⟩, Nat.lt_of_le_of_lt ((leastOf_spec ⟨n', hI'⟩).2 n' hI') hlt⟩
  | exit id => exact hq
  | goto l => exact hq
  | ret => exact hq
  | panic ch => exact hq
  | outgrown => exact hq
theorem Cx.wide {cx : Cx} (h : cx.rd = none) : cx.F = Fence.wide := by
  unfold Cx.F; rw [h]; rfl
theorem Cj.of_wp {cx : Cx} {Q : Qt} {c : Code} {e : Env} {I : Heap} {H : HL} (hr : cx.rd = none) (h : ∀ a w, Has a cx.n e cx.ds → St cx.w0 cx.D cx.I0 I H w → c.wp cx.P Q a w) : Cj cx Q c e I H := fun a w ha hs => by
  rw [Cx.wide hr]; exact wpIn_wide.2 (h a w ha hs)
theorem Cj.wp {cx : Cx} {Q : Qt} {c : Code} {e : Env} {I : Heap} {H : HL} (h : Cj cx Q c e I H) (hr : cx.rd = none) {a : Act} {w : World} (ha : Has a cx.n e cx.ds) (hs : St cx.w0 cx.D cx.I0 I H w) : c.wp cx.P Q a w := by
  have := h a w ha hs
  rw [Cx.wide hr] at this; exact wpIn_wide.1 this
section rules
variable {cx : Cx} {Q : Qt} {e : Env} {I : Heap} {H : HL}
theorem Cj.region {id : Nat} {l : List Oper} (h : J cx Q l.toArray l e I H) : Cj cx Q (.region id l.toArray false) e I H :=
  fun a w ha hs => wpIn_region_lit (h a w ha hs)
theorem J.nil {ops : Array Oper} (h : Ej cx Q .normal e I H) : J cx Q ops [] e I H := fun a w ha hs => wpListIn_nil (h a w ha hs)
theorem J.op {ops : Array Oper} {o : Oper} {l : List Oper} (hg : o.guard = none) (h : OpJ cx Q o e I H (J cx Q ops l)) : J cx Q ops (o :: l) e I H :=
  fun a w ha hs => wpListIn_plain hg fun K hK => h.toIn K (fun _ _ _ hc a w ha hs => hK a w (hc a w ha hs)) a w ha hs
theorem yielded_of {ops : Array Oper} {a : Act} {n : Nat} {ds : List Deferred} {j d : Nat} {b : Bool} (ha : Has a n e ds) (hd : (ops[j]?).bind (·.dst) = some d) (hv : eg e d = some (.bool b)) :
    yielded ops a.tmps j = some b := by
  have := ha.get d _ hv
  simp only [yielded, hd, Option.bind_some, this]
theorem J.opG {ops : Array Oper} {o : Oper} {l : List Oper} (j d : Nat) (want b : Bool) (hg : o.guard = some (j, want)) (hd : (ops[j]?).bind (·.dst) = some d) (hv : eg e d = some (.bool b)) (hb : b = want)
    (h : OpJ cx Q o e I H (J cx Q ops l)) : J cx Q ops (o :: l) e I H := by
  intro a w ha hs
  refine wpListIn_step fun K hK => ?_
  have hw : Region.wanted o (yielded ops a.tmps) = true := by simp [Region.wanted, hg, yielded_of ha hd hv, hb]
  rw [if_pos hw]
  exact h.toIn K (fun _ _ _ hc a w ha hs => hK a w (hc a w ha hs)) a w ha hs
theorem q12 {ops : Array Oper} {o : Oper} {l : List Oper} (j : Nat) (d : Nat) (want : Bool) {b : Bool} (h : OpJ cx Q o e I H (J cx Q ops l)) (hg : o.guard = some (j, want) := by exact rfl) (hd : (ops[j]?).bind (·.dst) = some d := by exact rfl) (hv : eg e d = some (.bool b) := by exact rfl) (hb : b = want := by exact rfl) : J cx Q ops (o :: l) e I H := J.opG j d want b hg hd hv hb h
theorem q5 {ops : Array Oper} {o : Oper} {l : List Oper} (j : Nat) (d : Nat) (want : Bool) {b : Bool} (hb : b = want) (h : OpJ cx Q o e I H (J cx Q ops l)) (hg : o.guard = some (j, want) := by exact rfl) (hd : (ops[j]?).bind (·.dst) = some d := by exact rfl) (hv : eg e d = some (.bool b) := by exact rfl) : J cx Q ops (o :: l) e I H := J.opG j d want b hg hd hv hb h
theorem J.skip {ops : Array Oper} {o : Oper} {l : List Oper} (j d t : Nat) (want b : Bool) (hg : o.guard = some (j, want)) (hd : (ops[j]?).bind (·.dst) = some d) (hv : eg e d = some (.bool b)) (hb : b = !want)
    (ho : o.dst = some t) (ht : Nat.blt t cx.n = true) (h : J cx Q ops l ((t, undef) :: e) I H) : J cx Q ops (o :: l) e I H := by
  intro a w ha hs
  refine wpListIn_step fun K hK => ?_
  have hw : Region.wanted o (yielded ops a.tmps) = false := by simp [Region.wanted, hg, yielded_of ha hd hv, hb]
  rw [hw, ho]
  exact ⟨fun _ _ => trivial, hK _ _ (h _ _ (ha.put ht) hs)⟩
theorem q32 {ops : Array Oper} {o : Oper} {l : List Oper} (j : Nat) (d : Nat) (t : Nat) (want : Bool) {b : Bool} (h : J cx Q ops l ((t, undef) :: e) I H) (hg : o.guard = some (j, want) := by exact rfl) (hd : (ops[j]?).bind (·.dst) = some d := by exact rfl) (hv : eg e d = some (.bool b) := by exact rfl) (hb : b = !want := by exact rfl) (ho : o.dst = some t := by exact rfl) (ht : Nat.blt t cx.n = true := by exact rfl) : J cx Q ops (o :: l) e I H := J.skip j d t want b hg hd hv hb ho ht h
theorem q3 {ops : Array Oper} {o : Oper} {l : List Oper} (j : Nat) (d : Nat) (t : Nat) (want : Bool) {b : Bool} (hb : b = !want) (h : J cx Q ops l ((t, undef) :: e) I H) (hg : o.guard = some (j, want) := by exact rfl) (hd : (ops[j]?).bind (·.dst) = some d := by exact rfl) (hv : eg e d = some (.bool b) := by exact rfl) (ho : o.dst = some t := by exact rfl) (ht : Nat.blt t cx.n = true := by exact rfl) : J cx Q ops (o :: l) e I H := J.skip j d t want b hg hd hv hb ho ht h
theorem J.skipU {ops : Array Oper} {o : Oper} {l : List Oper} (j d t : Nat) (want : Bool) (hg : o.guard = some (j, want)) (hd : (ops[j]?).bind (·.dst) = some d) (hv : eg e d = some undef)
    (ho : o.dst = some t) (ht : Nat.blt t cx.n = true) (h : J cx Q ops l ((t, undef) :: e) I H) : J cx Q ops (o :: l) e I H := by
  intro a w ha hs
  refine wpListIn_step fun K hK => ?_
  have hw : Region.wanted o (yielded ops a.tmps) = false := by
    have := ha.get d _ hv
    have hy : yielded ops a.tmps j = none := by simp only [yielded, hd, Option.bind_some, this, undef]
    simp [Region.wanted, hg, hy]
  rw [hw, ho]
  exact ⟨fun _ _ => trivial, hK _ _ (h _ _ (ha.put ht) hs)⟩
theorem Cj.seq {x y : Code} (h : Cj cx (Exit.then (y.wpIn cx.F 0 cx.P Q) Q) x e I H) : Cj cx Q (.seq x y) e I H := fun a w ha hs => wpIn_seq (h a w ha hs)
theorem Ej.seq {y : Code} (h : Cj cx Q y e I H) : Ej cx (Exit.then (y.wpIn cx.F 0 cx.P Q) Q) .normal e I H := fun a w ha hs => h a w ha hs
theorem Ej.seqRet {K : Act → World → Prop} (h : Ej cx Q .ret e I H) : Ej cx (Exit.then K Q) .ret e I H := fun a w ha hs => h a w ha hs
theorem Ej.seqExit {K : Act → World → Prop} {id : Nat} (h : Ej cx Q (.exit id) e I H) : Ej cx (Exit.then K Q) (.exit id) e I H := fun a w ha hs => h a w ha hs
theorem Cj.block {id : Nat} {c : Code} (h : Cj cx (Exit.inBlock id Q) c e I H) : Cj cx Q (.block id c) e I H := fun a w ha hs => wpIn_block (h a w ha hs)
theorem Ej.blkNormal {id : Nat} (h : Ej cx Q .normal e I H) : Ej cx (Exit.inBlock id Q) .normal e I H := fun a w ha hs => h a w ha hs
theorem Ej.blkExit {id : Nat} (h : Ej cx Q .normal e I H) : Ej cx (Exit.inBlock id Q) (.exit id) e I H := fun a w ha hs => by
  simp only [Exit.inBlock, if_true]; exact h a w ha hs
theorem Ej.blkOther {id id' : Nat} (hn : Nat.beq id' id = false) (h : Ej cx Q (.exit id') e I H) : Ej cx (Exit.inBlock id Q) (.exit id') e I H := fun a w ha hs => by
  have : id' ≠ id := fun he => by subst he; simp [Nat.beq_refl] at hn
  simp only [Exit.inBlock, this, if_false]; exact h a w ha hs
theorem Ej.blkRet {id : Nat} (h : Ej cx Q .ret e I H) : Ej cx (Exit.inBlock id Q) .ret e I H := fun a w ha hs => h a w ha hs
theorem Cj.skip (h : Ej cx Q .normal e I H) : Cj cx Q .skip e I H := fun a w ha hs => wpIn_skip (h a w ha hs)
theorem Cj.ret (h : Ej cx Q .ret e I H) : Cj cx Q .ret e I H := fun a w ha hs => wpIn_ret (h a w ha hs)
theorem Cj.exit {id : Nat} (h : Ej cx Q (.exit id) e I H) : Cj cx Q (.exit id) e I H := fun a w ha hs => wpIn_exit (h a w ha hs)
theorem Cj.cond {c : Operand} {x y : Code} {t : Bool} (hc : ev e c = some (.bool t)) (h1 : t = true → Cj cx Q x e I H) (h2 : t = false → Cj cx Q y e I H) : Cj cx Q (.cond c x y) e I H :=
  fun a w ha hs => wpIn_cond_split (ha.eval hc) (fun h => h1 h a w ha hs) (fun h => h2 h a w ha hs)
theorem Cj.weak {c : Code} {e' : Env} (hs : Sub e' e) (h : Cj cx Q c e' I H) : Cj cx Q c e I H := fun a w ha h1 => h a w (ha.sub hs) h1
theorem Ej.weak {x : Exit} {e' : Env} (hs : Sub e' e) (h : Ej cx Q x e' I H) : Ej cx Q x e I H := fun a w ha h1 => h a w (ha.sub hs) h1
theorem Cj.keep {c : Code} {H' : HL} (hs : H'.Sublist H) (h : Cj cx Q c e I H') : Cj cx Q c e I H := fun a w ha h1 => h a w ha (h1.sublist hs)
theorem Ej.keep {x : Exit} {H' : HL} (hs : H'.Sublist H) (h : Ej cx Q x e I H') : Ej cx Q x e I H := fun a w ha h1 => h a w ha (h1.sublist hs)
theorem Cj.perm {c : Code} {H' : HL} (hs : H'.Perm H) (h : Cj cx Q c e I H') : Cj cx Q c e I H := fun a w ha h1 => h a w ha (h1.perm hs)
theorem J.perm {ops : Array Oper} {l : List Oper} {H' : HL} (hs : H'.Perm H) (h : J cx Q ops l e I H') : J cx Q ops l e I H := fun a w ha h1 => h a w ha (h1.perm hs)
theorem Ej.perm {x : Exit} {H' : HL} (hs : H'.Perm H) (h : Ej cx Q x e I H') : Ej cx Q x e I H := fun a w ha h1 => h a w ha (h1.perm hs)
theorem OpJ.perm {o : Oper} {C : Ct} {H' : HL} (hs : H'.Perm H) (h : OpJ cx Q o e I H' C) : OpJ cx Q o e I H C := fun K hK a w ha h1 => h K hK a w ha (h1.perm hs)
def Mid (cx : Cx) (Q : Qt) (M : Env → Heap → HL → Prop) : Qt
  | .normal, a, w => ∃ e I H, M e I H ∧ Has a cx.n e cx.ds ∧ St cx.w0 cx.D cx.I0 I H w
  | x, a, w => Q x a w
def LoopQ (cx : Cx) (Q : Qt) {ι : Type} (pre : ι → Prop) (μ : ι → Nat) (i : ι) (env : ι → Env) (hp : ι → Heap) (hl : ι → HL) : Qt
  | .normal, a, w => ∃ j, pre j ∧ μ j < μ i ∧ Has a cx.n (env j) cx.ds ∧ St cx.w0 cx.D cx.I0 (hp j) (hl j) w
  | x, a, w => Q x a w
theorem Cj.loop {ι : Type} (pre : ι → Prop) (μ : ι → Nat) (env : ι → Env) (hp : ι → Heap) (hl : ι → HL) {c : Code} (i0 : ι) (h0 : pre i0) (hs : Sub (env i0) e) (hI : hp i0 = I) (hH : hl i0 = H)
    (round : ∀ i, pre i → Cj cx (LoopQ cx Q pre μ i env hp hl) c (env i) (hp i) (hl i)) : Cj cx Q (.loop c) e I H := by
  intro a w ha hst
  refine wpIn_loop_gh (fun m a w => ∃ i, pre i ∧ μ i = m ∧ Has a cx.n (env i) cx.ds ∧ St cx.w0 cx.D cx.I0 (hp i) (hl i) w) (μ i0) ⟨i0, h0, rfl, ha.sub hs, hI ▸ hH ▸ hst⟩ ?_
  rintro m a w ⟨i, hi, rfl, ha, hst⟩
  refine wpIn_mono'  (fun x a w hq => ?_) (round i hi a w ha hst)
  cases x <;> first
    | exact hq
    | (obtain ⟨j, hj, hlt, ha', hs'⟩ := hq; exact ⟨μ j, hlt, j, hj, rfl, ha', hs'⟩)
section round
variable {ι : Type} {pre : ι → Prop} {μ : ι → Nat} {i : ι} {env : ι → Env} {hp : ι → Heap} {hl : ι → HL}
theorem Ej.round (j : ι) (hj : pre j) (hm : μ j < μ i) (hs : Sub (env j) e) (hI : hp j = I) (hH : hl j = H) : Ej cx (LoopQ cx Q pre μ i env hp hl) .normal e I H :=
  fun _ _ ha h1 => ⟨j, hj, hm, ha.sub hs, hI ▸ hH ▸ h1⟩
theorem Ej.loopRet (h : Ej cx Q .ret e I H) : Ej cx (LoopQ cx Q pre μ i env hp hl) .ret e I H := fun a w ha hs => h a w ha hs
theorem Ej.loopExit {id : Nat} (h : Ej cx Q (.exit id) e I H) : Ej cx (LoopQ cx Q pre μ i env hp hl) (.exit id) e I H := fun a w ha hs => h a w ha hs
end round
end rules
end Go.Sx
namespace Go.Sx
open Go
def Yld (cx : Cx) (o : Oper) (e : Env) (S : World → Prop) (v : Value) : Prop :=
  ∀ a w, Has a cx.n e cx.ds → S w → (execOp a.eval o).run cx.P w = .ok (.value v) w
def str (l : List UInt8) : Value := .string ⟨l.toArray⟩
abbrev i64 (n : Int) : Value := .int .i64 n
abbrev u8 (c : UInt8) : Value := .int .u8 (c.toNat : Int)
abbrev ptr (b o : Nat) : Value := .pointer (some ⟨b, o, none⟩)
def cel (t : TypeId) (l : List Value) : Obj := .cells l.toArray t (0, 0)
theorem size_mk (l : List UInt8) : (⟨l.toArray⟩ : ByteArray).size = l.length := by
  show l.toArray.size = _
  simp
theorem bne_f {α : Type} [BEq α] [LawfulBEq α] {a b : α} (h : (a != b) = false) : a = b := by simpa using h
section
variable {cx : Cx} {Q : Qt} {o : Oper} {e : Env} {I : Heap} {H : HL} {C : Ct} {S : World → Prop}
theorem op_yld {d : Nat} {v : Value} (hy : Yld cx o e (SS I H) v) (ho : o.dst = some d) (hd : Nat.blt d cx.n = true) (k : C ((d, v) :: e) I H) : OpJ cx Q o e I H C := by
  intro K hK a w ha hs
  unfold Oper.wp
  rw [hy a w ha hs.ss]
  simp only [Oper.upon, ho]
  exact hK _ _ _ k _ _ (ha.put hd) hs
theorem q2 {d : Nat} {v : Value} (hy : Yld cx o e (SS I H) v) (k : C ((d, v) :: e) I H) (ho : o.dst = some d := by exact rfl) (hd : Nat.blt d cx.n = true := by exact rfl) : OpJ cx Q o e I H C := op_yld hy ho hd k
theorem J.y {ops : Array Oper} {l : List Oper} {d : Nat} {v : Value} (hy : Yld cx o e (SS I H) v) (hg : o.guard = none) (ho : o.dst = some d) (hd : Nat.blt d cx.n = true)
    (k : J cx Q ops l ((d, v) :: e) I H) : J cx Q ops (o :: l) e I H := J.op hg (op_yld hy ho hd k)
theorem J.z {ops : Array Oper} {l : List Oper} {d : Nat} {v : Value} (hy : Yld cx o e (SS I H) v) (k : J cx Q ops l ((d, v) :: e) I H) (hg : o.guard = none := by rfl) (ho : o.dst = some d := by rfl) (hd : Nat.blt d cx.n = true := by rfl) : J cx Q ops (o :: l) e I H := J.y hy hg ho hd k
theorem yl_move {x : Operand} {v : Value} (ho : o.op = .move x) (hx : ev e x = some v) : Yld cx o e S v := by
  intro a w ha _
  simp only [execOp, ho, Sem.run_pure, ha.eval hx]
theorem q0 {x : Operand} {v : Value} (ho : o.op = .move x := by exact rfl) (hx : ev e x = some v := by exact rfl) : Yld cx o e S v := yl_move ho hx
theorem yl_assign {x : Operand} {v : Value} (ho : o.op = .assign x) (hx : ev e x = some v) : Yld cx o e S v := by
  intro a w ha _
  simp only [execOp, ho, Sem.run_pure, ha.eval hx]
theorem q1 {x : Operand} {v : Value} (ho : o.op = .assign x := by exact rfl) (hx : ev e x = some v := by exact rfl) : Yld cx o e S v := yl_assign ho hx
theorem yl_pick1 {c x y : Operand} {t : Bool} {v : Value} (ho : o.op = .pick c x y) (hc : ev e c = some (.bool t)) (ht : t = true) (hx : ev e x = some v) : Yld cx o e S v := by
  intro a w ha _
  subst ht
  simp [execOp, ho, ha.eval hc, ha.eval hx, asBool]
theorem q51 {c x y : Operand} {t : Bool} {v : Value} (ho : o.op = .pick c x y := by exact rfl) (hc : ev e c = some (.bool t) := by exact rfl) (ht : t = true := by exact rfl) (hx : ev e x = some v := by exact rfl) : Yld cx o e S v := yl_pick1 ho hc ht hx
theorem q11 {c x y : Operand} {t : Bool} {v : Value} (ht : t = true) (ho : o.op = .pick c x y := by exact rfl) (hc : ev e c = some (.bool t) := by exact rfl) (hx : ev e x = some v := by exact rfl) : Yld cx o e S v := yl_pick1 ho hc ht hx
theorem yl_pick0 {c x y : Operand} {t : Bool} {v : Value} (ho : o.op = .pick c x y) (hc : ev e c = some (.bool t)) (ht : t = false) (hx : ev e y = some v) : Yld cx o e S v := by
  intro a w ha _
  subst ht
  simp [execOp, ho, ha.eval hc, ha.eval hx, asBool]
theorem q30 {c x y : Operand} {t : Bool} {v : Value} (ho : o.op = .pick c x y := by exact rfl) (hc : ev e c = some (.bool t) := by exact rfl) (ht : t = false := by exact rfl) (hx : ev e y = some v := by exact rfl) : Yld cx o e S v := yl_pick0 ho hc ht hx
theorem q10 {c x y : Operand} {t : Bool} {v : Value} (ht : t = false) (ho : o.op = .pick c x y := by exact rfl) (hc : ev e c = some (.bool t) := by exact rfl) (hx : ev e y = some v := by exact rfl) : Yld cx o e S v := yl_pick0 ho hc ht hx
theorem yl_nilCheck {x : Operand} {p : Addr} (ho : o.op = .nilCheck x) (hx : ev e x = some (.pointer (some p))) : Yld cx o e S (.pointer (some p)) := by
  intro a w ha _
  simp [execOp, ho, ha.eval hx]
theorem q8 {x : Operand} {p : Addr} (ho : o.op = .nilCheck x := by exact rfl) (hx : ev e x = some (.pointer (some p)) := by exact rfl) : Yld cx o e S (.pointer (some p)) := yl_nilCheck ho hx
theorem yl_fieldAddr {x : Operand} {T k b off off' m : Nat} {fs : Array Field} {f : Field} (ho : o.op = .fieldAddr T x k) (hx : ev e x = some (ptr b off))
    (hu : cx.P.underlying T = some (.struct fs)) (hf : fs[k]? = some f) (hsz : ∀ w, (sizeOf f.type).run cx.P w = .ok (m + 1) w) (hoff : off + f.offset = off') :
    Yld cx o e S (ptr b off') := by
  intro a w ha _
  subst hoff
  simp [execOp, ho, ha.eval hx, Instr.fieldAt, run_underlying hu, hf, Instr.sureAddr, fieldPlace, hsz, Addr.add_lit]
theorem q4 {x : Operand} {T k b off off' m : Nat} {fs : Array Field} {f : Field} (hu : cx.P.underlying T = some (.struct fs)) (hsz : ∀ w, (sizeOf f.type).run cx.P w = .ok (m + 1) w) (ho : o.op = .fieldAddr T x k := by exact rfl) (hx : ev e x = some (ptr b off) := by exact rfl) (hf : fs[k]? = some f := by exact rfl) (hoff : off + f.offset = off' := by exact rfl) : Yld cx o e S (ptr b off') := yl_fieldAddr ho hx hu hf hsz hoff
theorem cell_of_heap {w : World} {b off : Nat} {cs : List Value} {t : TypeId} {fr : Nat × Nat} {v : Value} (h : w.heap[b]? = some (.cells cs.toArray t fr)) (hv : cs[off]? = some v) :
    w.cell? ⟨b, off, none⟩ = some v := by
  simp [World.cell?, h, hv]
theorem yl_load {x : Operand} {T b off : Nat} {cs : List Value} {t : TypeId} {fr : Nat × Nat} {v : Value} (ho : o.op = .load T x) (hx : ev e x = some (ptr b off))
    (ha0 : ∀ w, (isAgg T).run cx.P w = .ok false w) (hb : Blk S b (.cells cs.toArray t fr)) (hv : cs[off]? = some v) : Yld cx o e S v := by
  intro a w ha hs
  have hc := cell_of_heap (hb w hs) hv
  simp [execOp, ho, ha.eval hx, Instr.loadAt, Instr.sureAddr, loadVar, ha0, hc]
theorem q37 {x : Operand} {T b off : Nat} {cs : List Value} {t : TypeId} {fr : Nat × Nat} {v : Value} (ha0 : ∀ w, (isAgg T).run cx.P w = .ok false w) (hb : Blk S b (.cells cs.toArray t fr)) (hv : cs[off]? = some v) (ho : o.op = .load T x := by exact rfl) (hx : ev e x = some (ptr b off) := by exact rfl) : Yld cx o e S v := yl_load ho hx ha0 hb hv
theorem q18 {x : Operand} {T b off : Nat} {cs : List Value} {t : TypeId} {fr : Nat × Nat} {v : Value} (ha0 : ∀ w, (isAgg T).run cx.P w = .ok false w) (ho : o.op = .load T x := by exact rfl) (hx : ev e x = some (ptr b off) := by exact rfl) (hb : Blk S b (.cells cs.toArray t fr) := by exact Blk.at 0 rfl) (hv : cs[off]? = some v := by exact rfl) : Yld cx o e S v := yl_load ho hx ha0 hb hv
theorem q9 {x : Operand} {T b off : Nat} {cs : List Value} {t : TypeId} {fr : Nat × Nat} {v : Value} (ha0 : ∀ w, (isAgg T).run cx.P w = .ok false w) (hb : Blk S b (.cells cs.toArray t fr)) (ho : o.op = .load T x := by exact rfl) (hx : ev e x = some (ptr b off) := by exact rfl) (hv : cs[off]? = some v := by exact rfl) : Yld cx o e S v := yl_load ho hx ha0 hb hv
theorem yl_loadAgg {x : Operand} {T b off n : Nat} {cs vs : List Value} {t : TypeId} {fr : Nat × Nat} (ho : o.op = .load T x) (hx : ev e x = some (ptr b off))
    (ha0 : ∀ w, (isAgg T).run cx.P w = .ok true w) (hsz : ∀ w, (sizeOf T).run cx.P w = .ok n w) (hb : Blk S b (.cells cs.toArray t fr)) (hv : (cs.drop off).take n = vs) (hn : vs.length = n) :
    Yld cx o e S (.agg vs.toArray) := by
  intro a w ha hs
  have hh := hb w hs
  have hc : ∀ j v, vs[j]? = some v → w.cell? ((⟨b, off, none⟩ : Addr).add j) = some v := by
    intro j v hj
    rw [Addr.add_lit]
    refine cell_of_heap hh ?_
    rw [← hv] at hj
    rw [List.getElem?_take] at hj
    split at hj
    · simpa [List.getElem?_drop] using hj
    cases hj
  have := run_loadCells_list (P := cx.P) (w := w) ⟨b, off, none⟩ vs hc
  rw [hn] at this
  simp [execOp, ho, ha.eval hx, Instr.loadAt, Instr.sureAddr, loadVar, ha0, hsz, this]
theorem q43 {x : Operand} {T b off n : Nat} {cs vs : List Value} {t : TypeId} {fr : Nat × Nat} (ha0 : ∀ w, (isAgg T).run cx.P w = .ok true w) (hsz : ∀ w, (sizeOf T).run cx.P w = .ok n w) (hb : Blk S b (.cells cs.toArray t fr)) (hv : (cs.drop off).take n = vs) (ho : o.op = .load T x := by exact rfl) (hx : ev e x = some (ptr b off) := by exact rfl) (hn : vs.length = n := by exact rfl) : Yld cx o e S (.agg vs.toArray) := yl_loadAgg ho hx ha0 hsz hb hv hn
theorem q33 {x : Operand} {T b off n : Nat} {cs vs : List Value} {t : TypeId} {fr : Nat × Nat} (ha0 : ∀ w, (isAgg T).run cx.P w = .ok true w) (hsz : ∀ w, (sizeOf T).run cx.P w = .ok n w) (ho : o.op = .load T x := by exact rfl) (hx : ev e x = some (ptr b off) := by exact rfl) (hb : Blk S b (.cells cs.toArray t fr) := by exact Blk.at 0 rfl) (hv : (cs.drop off).take n = vs := by exact rfl) (hn : vs.length = n := by exact rfl) : Yld cx o e S (.agg vs.toArray) := yl_loadAgg ho hx ha0 hsz hb hv hn
theorem q27 {x : Operand} {T b off n : Nat} {cs vs : List Value} {t : TypeId} {fr : Nat × Nat} (ha0 : ∀ w, (isAgg T).run cx.P w = .ok true w) (hsz : ∀ w, (sizeOf T).run cx.P w = .ok n w) (hb : Blk S b (.cells cs.toArray t fr)) (ho : o.op = .load T x := by exact rfl) (hx : ev e x = some (ptr b off) := by exact rfl) (hv : (cs.drop off).take n = vs := by exact rfl) (hn : vs.length = n := by exact rfl) : Yld cx o e S (.agg vs.toArray) := yl_loadAgg ho hx ha0 hsz hb hv hn
theorem yl_add {x y : Operand} {T U : Nat} {k : IntKind} {p q : Int} (ho : o.op = .binOp .add T x y U) (hx : ev e x = some (.int k p)) (hy : ev e y = some (.int k q)) (hw : k.wrap (p + q) = p + q) :
    Yld cx o e S (.int k (p + q)) := by
  intro a w ha _
  simp [execOp, ho, ha.eval hx, ha.eval hy, eqGuard_add, binOp_add, Op.intArith, hw]
theorem q7 {x y : Operand} {T U : Nat} {k : IntKind} {p q : Int} (ho : o.op = .binOp .add T x y U := by exact rfl) (hx : ev e x = some (.int k p) := by exact rfl) (hy : ev e y = some (.int k q) := by exact rfl) (hw : k.wrap (p + q) = p + q := by exact w64 (by omega)) : Yld cx o e S (.int k (p + q)) := yl_add ho hx hy hw
theorem yl_sub {x y : Operand} {T U : Nat} {k : IntKind} {p q : Int} (ho : o.op = .binOp .sub T x y U) (hx : ev e x = some (.int k p)) (hy : ev e y = some (.int k q)) (hw : k.wrap (p - q) = p - q) :
    Yld cx o e S (.int k (p - q)) := by
  intro a w ha _
  simp [execOp, ho, ha.eval hx, ha.eval hy, eqGuard_sub, binOp_sub, Op.intArith, hw]
theorem q49 {x y : Operand} {T U : Nat} {k : IntKind} {p q : Int} (ho : o.op = .binOp .sub T x y U := by exact rfl) (hx : ev e x = some (.int k p) := by exact rfl) (hy : ev e y = some (.int k q) := by exact rfl) (hw : k.wrap (p - q) = p - q := by exact w64 (by omega)) : Yld cx o e S (.int k (p - q)) := yl_sub ho hx hy hw
theorem yl_mul {x y : Operand} {T U : Nat} {k : IntKind} {p q : Int} (ho : o.op = .binOp .mul T x y U) (hx : ev e x = some (.int k p)) (hy : ev e y = some (.int k q)) (hw : k.wrap (p * q) = p * q) :
    Yld cx o e S (.int k (p * q)) := by
  intro a w ha _
  simp [execOp, ho, ha.eval hx, ha.eval hy, eqGuard_mul, binOp_mul, Op.intArith, hw]
theorem yl_addW {x y : Operand} {T U : Nat} {k : IntKind} {p q : Int} (ho : o.op = .binOp .add T x y U) (hx : ev e x = some (.int k p)) (hy : ev e y = some (.int k q)) :
    Yld cx o e S (.int k (k.wrap (p + q))) := by
  intro a w ha _
  simp [execOp, ho, ha.eval hx, ha.eval hy, eqGuard_add, binOp_add, Op.intArith]
theorem yl_quo {x y : Operand} {T U : Nat} {k : IntKind} {p q : Int} (ho : o.op = .binOp .quo T x y U) (hx : ev e x = some (.int k p)) (hy : ev e y = some (.int k q)) (h0 : q ≠ 0) (hw : k.wrap (p.tdiv q) = p.tdiv q) :
    Yld cx o e S (.int k (p.tdiv q)) := by
  intro a w ha _
  simp [execOp, ho, ha.eval hx, ha.eval hy, eqGuard_quo, binOp_quo, Op.intDiv, hw, h0]
theorem yl_rem {x y : Operand} {T U : Nat} {k : IntKind} {p q : Int} (ho : o.op = .binOp .rem T x y U) (hx : ev e x = some (.int k p)) (hy : ev e y = some (.int k q)) (h0 : q ≠ 0) :
    Yld cx o e S (.int k (p.tmod q)) := by
  intro a w ha _
  simp [execOp, ho, ha.eval hx, ha.eval hy, eqGuard_rem, binOp_rem, Op.intDiv, h0]
theorem q53 {x y : Operand} {T U : Nat} {k : IntKind} {p q : Int} (ho : o.op = .binOp .rem T x y U := by exact rfl) (hx : ev e x = some (.int k p) := by exact rfl) (hy : ev e y = some (.int k q) := by exact rfl) (h0 : q ≠ 0 := by decide) : Yld cx o e S (.int k (p.tmod q)) := yl_rem ho hx hy h0
theorem yl_lss {x y : Operand} {T U : Nat} {k : IntKind} {p q : Int} (ho : o.op = .binOp .lss T x y U) (hx : ev e x = some (.int k p)) (hy : ev e y = some (.int k q)) : Yld cx o e S (.bool (decide (p < q))) := by
  intro a w ha _
  simp [execOp, ho, ha.eval hx, ha.eval hy, eqGuard_lss, binOp_lss]
theorem q17 {x y : Operand} {T U : Nat} {k : IntKind} {p q : Int} (ho : o.op = .binOp .lss T x y U := by exact rfl) (hx : ev e x = some (.int k p) := by exact rfl) (hy : ev e y = some (.int k q) := by exact rfl) : Yld cx o e S (.bool (decide (p < q))) := yl_lss ho hx hy
theorem yl_leq {x y : Operand} {T U : Nat} {k : IntKind} {p q : Int} (ho : o.op = .binOp .leq T x y U) (hx : ev e x = some (.int k p)) (hy : ev e y = some (.int k q)) : Yld cx o e S (.bool (decide (p ≤ q))) := by
  intro a w ha _
  simp [execOp, ho, ha.eval hx, ha.eval hy, eqGuard_leq, binOp_leq]
theorem q38 {x y : Operand} {T U : Nat} {k : IntKind} {p q : Int} (ho : o.op = .binOp .leq T x y U := by exact rfl) (hx : ev e x = some (.int k p) := by exact rfl) (hy : ev e y = some (.int k q) := by exact rfl) : Yld cx o e S (.bool (decide (p ≤ q))) := yl_leq ho hx hy
theorem yl_gtr {x y : Operand} {T U : Nat} {k : IntKind} {p q : Int} (ho : o.op = .binOp .gtr T x y U) (hx : ev e x = some (.int k p)) (hy : ev e y = some (.int k q)) : Yld cx o e S (.bool (decide (p > q))) := by
  intro a w ha _
  simp [execOp, ho, ha.eval hx, ha.eval hy, eqGuard_gtr, binOp_gtr]
theorem yl_geq {x y : Operand} {T U : Nat} {k : IntKind} {p q : Int} (ho : o.op = .binOp .geq T x y U) (hx : ev e x = some (.int k p)) (hy : ev e y = some (.int k q)) : Yld cx o e S (.bool (decide (p ≥ q))) := by
  intro a w ha _
  simp [execOp, ho, ha.eval hx, ha.eval hy, eqGuard_geq, binOp_geq]
theorem q34 {x y : Operand} {T U : Nat} {k : IntKind} {p q : Int} (ho : o.op = .binOp .geq T x y U := by exact rfl) (hx : ev e x = some (.int k p) := by exact rfl) (hy : ev e y = some (.int k q) := by exact rfl) : Yld cx o e S (.bool (decide (p ≥ q))) := yl_geq ho hx hy
theorem yl_eql {x y : Operand} {T U : Nat} {k : IntKind} {p q : Int} (ho : o.op = .binOp .eql T x y U) (hx : ev e x = some (.int k p)) (hy : ev e y = some (.int k q)) : Yld cx o e S (.bool (p == q)) := by
  intro a w ha _
  simp [execOp, ho, ha.eval hx, ha.eval hy, eqGuard_at_int, binOp_eql]
theorem q23 {x y : Operand} {T U : Nat} {k : IntKind} {p q : Int} (ho : o.op = .binOp .eql T x y U := by exact rfl) (hx : ev e x = some (.int k p) := by exact rfl) (hy : ev e y = some (.int k q) := by exact rfl) : Yld cx o e S (.bool (p == q)) := yl_eql ho hx hy
theorem yl_neq {x y : Operand} {T U : Nat} {k : IntKind} {p q : Int} (ho : o.op = .binOp .neq T x y U) (hx : ev e x = some (.int k p)) (hy : ev e y = some (.int k q)) : Yld cx o e S (.bool (p != q)) := by
  intro a w ha _
  simp [execOp, ho, ha.eval hx, ha.eval hy, eqGuard_at_int, binOp_neq]
theorem q47 {x y : Operand} {T U : Nat} {k : IntKind} {p q : Int} (ho : o.op = .binOp .neq T x y U := by exact rfl) (hx : ev e x = some (.int k p) := by exact rfl) (hy : ev e y = some (.int k q) := by exact rfl) : Yld cx o e S (.bool (p != q)) := yl_neq ho hx hy
theorem yl_not {x : Operand} {T : Nat} {b : Bool} (ho : o.op = .unOp .not T x) (hx : ev e x = some (.bool b)) : Yld cx o e S (.bool (!b)) := by
  intro a w ha _
  simp [execOp, ho, ha.eval hx, Op.unary]
theorem q50 {x : Operand} {T : Nat} {b : Bool} (ho : o.op = .unOp .not T x := by exact rfl) (hx : ev e x = some (.bool b) := by exact rfl) : Yld cx o e S (.bool (!b)) := yl_not ho hx
theorem yl_convInt {x : Operand} {Sy T : Nat} {k k' : IntKind} {n : Int} {d : TypeDesc} (ho : o.op = .convert Sy T x) (hx : ev e x = some (.int k' n)) (hs : cx.P.underlying Sy = some d) (hu : cx.P.underlying T = some (.int k)) :
    Yld cx o e S (.int k (k.wrap n)) := by
  intro a w ha _
  simp [execOp, ho, ha.eval hx, convert, run_underlying hs, run_underlying hu, Conv.intToInt]
theorem yl_lenStr {x : Operand} {T : Nat} {l : List UInt8} (ho : o.op = .call ⟨.builtin .len, #[x], #[T]⟩) (hx : ev e x = some (str l)) (hu : cx.P.underlying T = some .string) : Yld cx o e S (i64 l.length) := by
  intro a w ha _
  simp [execOp, ho, resolve, invoke, builtin, Builtin.len_, ha.eval hx, run_underlying hu, str, goInt, size_mk]
theorem q26 {x : Operand} {T : Nat} {l : List UInt8} (hu : cx.P.underlying T = some .string) (ho : o.op = .call ⟨.builtin .len, #[x], #[T]⟩ := by exact rfl) (hx : ev e x = some (str l) := by exact rfl) : Yld cx o e S (i64 l.length) := yl_lenStr ho hx hu
theorem yl_lenSlice {x : Operand} {T E : Nat} {p : Option Addr} {n c : Nat} (ho : o.op = .call ⟨.builtin .len, #[x], #[T]⟩) (hx : ev e x = some (.slice p n c)) (hu : cx.P.underlying T = some (.slice E)) : Yld cx o e S (i64 n) := by
  intro a w ha _
  simp [execOp, ho, resolve, invoke, builtin, Builtin.len_, ha.eval hx, run_underlying hu, goInt]
theorem q15 {x : Operand} {T E : Nat} {p : Option Addr} {n c : Nat} (hu : cx.P.underlying T = some (.slice E)) (ho : o.op = .call ⟨.builtin .len, #[x], #[T]⟩ := by exact rfl) (hx : ev e x = some (.slice p n c) := by exact rfl) : Yld cx o e S (i64 n) := yl_lenSlice ho hx hu
theorem yl_index {x y : Operand} {T : Nat} {l : List UInt8} {k : IntKind} {i : Int} {c : UInt8} (ho : o.op = .index T x y) (hx : ev e x = some (str l)) (hy : ev e y = some (.int k i)) (hu : cx.P.underlying T = some .string)
    (h0 : 0 ≤ i) (hc : l[i.toNat]? = some c) : Yld cx o e S (u8 c) := by
  intro a w ha _
  have : (⟨l.toArray⟩ : ByteArray)[i.toNat]? = some c := by
    obtain ⟨hlt, hg⟩ := List.getElem?_eq_some_iff.1 hc
    rw [getElem?_pos (⟨l.toArray⟩ : ByteArray) i.toNat (by rw [size_mk]; exact hlt)]
    simp [ByteArray.getElem_eq_getElem_data, hg]
  simp [execOp, ho, ha.eval hx, ha.eval hy, Instr.index, run_underlying hu, str, asIntOf, h0, this]
theorem q42 {x y : Operand} {T : Nat} {l : List UInt8} {k : IntKind} {i : Int} {c : UInt8} (hu : cx.P.underlying T = some .string) (hc : l[i.toNat]? = some c) (ho : o.op = .index T x y := by exact rfl) (hx : ev e x = some (str l) := by exact rfl) (hy : ev e y = some (.int k i) := by exact rfl) (h0 : 0 ≤ i := by omega) : Yld cx o e S (u8 c) := yl_index ho hx hy hu h0 hc
theorem yl_sliceStr {x : Operand} {lo hi : Option Operand} {T : Nat} {l : List UInt8} {p q : Nat} (ho : o.op = .slice T x lo hi none) (hx : ev e x = some (str l)) (hu : cx.P.underlying T = some .string)
    (hlo : match lo with | some y => ∃ k, ev e y = some (.int k p) | none => p = 0) (hhi : match hi with | some y => ∃ k, ev e y = some (.int k q) | none => q = l.length)
    (h1 : p ≤ q) (h2 : q ≤ l.length) : Yld cx o e S (str ((l.take q).drop p)) := by
  intro a w ha _
  have hex : (⟨l.toArray⟩ : ByteArray).extract p q = ⟨((l.take q).drop p).toArray⟩ := by
    apply ByteArray.ext
    simp [ByteArray.data_extract]
    rw [List.drop_take]
  cases lo with
  | none =>
    simp only at hlo; subst hlo
    cases hi with
    | none =>
      simp only at hhi; subst hhi
      simp [execOp, ho, ha.eval hx, Instr.sliceAt, Instr.slice, Instr.sliceBounds, run_underlying hu, str]
      first | done | simpa [size_mk] using hex
    | some y =>
      obtain ⟨k, hy⟩ := hhi
      simp [execOp, ho, ha.eval hx, ha.eval hy, Instr.sliceAt, Instr.slice, Instr.sliceBounds, run_underlying hu, str, Instr.sliceBound, asIntOf, size_mk, h2]
      first | done | simpa using hex
  | some z =>
    obtain ⟨k', hz⟩ := hlo
    cases hi with
    | none =>
      simp only at hhi; subst hhi
      simp [execOp, ho, ha.eval hx, ha.eval hz, Instr.sliceAt, Instr.slice, Instr.sliceBounds, run_underlying hu, str, Instr.sliceBound, asIntOf, size_mk, h1]
      first | done | simpa using hex
    | some y =>
      obtain ⟨k, hy⟩ := hhi
      simp [execOp, ho, ha.eval hx, ha.eval hy, ha.eval hz, Instr.sliceAt, Instr.slice, Instr.sliceBounds, run_underlying hu, str, Instr.sliceBound, asIntOf, size_mk, h2, h1]
      first | done | simpa using hex
theorem q54 {x : Operand} {lo hi : Option Operand} {T : Nat} {l : List UInt8} {p q : Nat} (hu : cx.P.underlying T = some .string) (ho : o.op = .slice T x lo hi none := by exact rfl) (hx : ev e x = some (str l) := by exact rfl) (hlo : match lo with | some y => ∃ k, ev e y = some (.int k p) | none => p = 0 := by exact rfl) (hhi : match hi with | some y => ∃ k, ev e y = some (.int k q) | none => q = l.length := by exact ⟨_, rfl⟩) (h1 : p ≤ q := by omega) (h2 : q ≤ l.length := by omega) : Yld cx o e S (str ((l.take q).drop p)) := yl_sliceStr ho hx hu hlo hhi h1 h2
theorem yl_cat {x y : Operand} {T U : Nat} {l m : List UInt8} (ho : o.op = .binOp .add T x y U) (hx : ev e x = some (str l)) (hy : ev e y = some (str m)) (hw : l.length + m.length ≤ 9223372036854775807) :
    Yld cx o e S (str (l ++ m)) := by
  intro a w ha _
  have h1 : ¬ ((((⟨l.toArray⟩ : ByteArray).size + (⟨m.toArray⟩ : ByteArray).size : Nat) : Int) > IntKind.i64.max) := by
    rw [size_mk, size_mk]; simp; omega
  have h2 : (⟨l.toArray⟩ : ByteArray) ++ ⟨m.toArray⟩ = ⟨(l ++ m).toArray⟩ := by
    apply ByteArray.ext; simp
  simp only [execOp, ho, ha.eval hx, ha.eval hy, eqGuard_add, str, binOp, Op.stringOp, if_neg h1, h2, Sem.run_bind, Sem.run_pure, Result.andThen_ok]
theorem yl_eqlStr {x y : Operand} {T U : Nat} {l m : List UInt8} (ho : o.op = .binOp .eql T x y U) (hx : ev e x = some (str l)) (hy : ev e y = some (str m)) : Yld cx o e S (.bool (l == m)) := by
  intro a w ha _
  simp [execOp, ho, ha.eval hx, ha.eval hy, str, eqGuard_at_string, binOp, Op.stringOp]
theorem q31 {x y : Operand} {T U : Nat} {l m : List UInt8} (ho : o.op = .binOp .eql T x y U := by exact rfl) (hx : ev e x = some (str l) := by exact rfl) (hy : ev e y = some (str m) := by exact rfl) : Yld cx o e S (.bool (l == m)) := yl_eqlStr ho hx hy
theorem yl_neqStr {x y : Operand} {T U : Nat} {l m : List UInt8} (ho : o.op = .binOp .neq T x y U) (hx : ev e x = some (str l)) (hy : ev e y = some (str m)) : Yld cx o e S (.bool (l != m)) := by
  intro a w ha _
  simp [execOp, ho, ha.eval hx, ha.eval hy, str, eqGuard_at_string, binOp, Op.stringOp, bne]
theorem yl_indexAddr {x y : Operand} {T E b off n c sz off' : Nat} {k : IntKind} {i : Int} (ho : o.op = .indexAddr T x y) (hx : ev e x = some (.slice (some ⟨b, off, none⟩) n c)) (hy : ev e y = some (.int k i))
    (hu : cx.P.underlying T = some (.slice E)) (hsz : ∀ w, (sizeOf E).run cx.P w = .ok sz w) (h0 : 0 ≤ i) (h1 : i < n) (hoff : off + i.toNat * sz = off') : Yld cx o e S (ptr b off') := by
  intro a w ha _
  subst hoff
  simp [execOp, ho, ha.eval hx, ha.eval hy, Instr.indexAt, asIntOf, run_underlying hu, h0, h1, hsz, Addr.add_lit]
theorem q55 {x y : Operand} {T E b off n c sz off' : Nat} {k : IntKind} {i : Int} (hu : cx.P.underlying T = some (.slice E)) (hsz : ∀ w, (sizeOf E).run cx.P w = .ok sz w) (ho : o.op = .indexAddr T x y := by exact rfl) (hx : ev e x = some (.slice (some ⟨b, off, none⟩) n c) := by exact rfl) (hy : ev e y = some (.int k i) := by exact rfl) (h0 : 0 ≤ i := by decide) (h1 : i < n := by decide) (hoff : off + i.toNat * sz = off' := by decide) : Yld cx o e S (ptr b off') := yl_indexAddr ho hx hy hu hsz h0 h1 hoff
theorem q19 {x y : Operand} {T E b off n c sz off' : Nat} {k : IntKind} {i : Int} (hu : cx.P.underlying T = some (.slice E)) (hsz : ∀ w, (sizeOf E).run cx.P w = .ok sz w) (ho : o.op = .indexAddr T x y := by exact rfl) (hx : ev e x = some (.slice (some ⟨b, off, none⟩) n c) := by exact rfl) (hy : ev e y = some (.int k i) := by exact rfl) (h0 : 0 ≤ i := by omega) (h1 : i < n := by omega) (hoff : off + i.toNat * sz = off' := by simp) : Yld cx o e S (ptr b off') := yl_indexAddr ho hx hy hu hsz h0 h1 hoff
theorem yl_extract {x : Operand} {k : Nat} {vs : List Value} {v : Value} (ho : o.op = .extract x k) (hx : ev e x = some (.tuple vs.toArray)) (hv : vs[k]? = some v) : Yld cx o e S v := by
  intro a w ha _
  simp [execOp, ho, ha.eval hx, Instr.extract, hv]
theorem q25 {x : Operand} {k : Nat} {vs : List Value} {v : Value} (ho : o.op = .extract x k := by exact rfl) (hx : ev e x = some (.tuple vs.toArray) := by exact rfl) (hv : vs[k]? = some v := by exact rfl) : Yld cx o e S v := yl_extract ho hx hv
theorem yl_makeFunc {fn : Fn} {fs cs : List Operand} {vs us : List Value} (ho : o.op = .makeFunc fn fs.toArray cs.toArray) (h1 : evs e fs = some vs) (h2 : evs e cs = some us) : Yld cx o e S (.func fn vs.toArray us.toArray) := by
  intro a w ha _
  simp [execOp, ho, Instr.makeFunc, ha.evals h1, ha.evals h2]
theorem yl_makeIface {T : Nat} {x : Operand} {v : Value} {d : TypeDesc} (ho : o.op = .makeInterface T x) (hx : ev e x = some v) (hu : cx.P.underlying T = some d) (hn : (match d with | .interface _ => false | _ => true) = true) : Yld cx o e S (.iface T v) := by
  intro a w ha _
  simp only [execOp, ho, Instr.makeInterface, ha.eval hx, Sem.run_bind, run_underlying hu, Result.andThen_ok]
  cases d <;> first | rfl | cases hn
end
end Go.Sx
namespace Go.Sx
open Go
def LSet {α : Type} (l : List α) (i : Nat) (x : α) (l' : List α) : Prop := i < l.length ∧ l.set i x = l'
theorem LSet.z {α : Type} {v x : α} {r : List α} : LSet (v :: r) 0 x (x :: r) := ⟨by simp, rfl⟩
theorem LSet.s {α : Type} {v x : α} {r r' : List α} {n : Nat} (h : LSet r n x r') : LSet (v :: r) (n + 1) x (v :: r') :=
  ⟨by have := h.1; simp; omega, by rw [List.set_cons_succ, h.2]⟩
def LSpl {α : Type} (l : List α) (i : Nat) (xs : List α) (l' : List α) : Prop := i + xs.length ≤ l.length ∧ l' = l.take i ++ xs ++ l.drop (i + xs.length)
theorem LSpl.z {α : Type} {l : List α} : LSpl l 0 [] l := ⟨by simp, by simp⟩
theorem LSpl.c {α : Type} {v x : α} {r r' xs : List α} (h : LSpl r 0 xs r') : LSpl (v :: r) 0 (x :: xs) (x :: r') := by
  obtain ⟨h1, h2⟩ := h
  refine ⟨by simp at h1 ⊢; omega, ?_⟩
  subst h2; simp
theorem LSpl.s {α : Type} {v : α} {r r' xs : List α} {n : Nat} (h : LSpl r n xs r') : LSpl (v :: r) (n + 1) xs (v :: r') := by
  obtain ⟨h1, h2⟩ := h
  refine ⟨by simp; omega, ?_⟩
  subst h2
  simp [List.take_succ_cons, Nat.add_right_comm n 1, List.drop_succ_cons]
theorem hset_at : ∀ (H : HL) (i b : Nat) (o o' : Obj), (H.map (·.1)).Nodup → H[i]? = some (b, o) → hset b o' H = H.set i (b, o')
  | [], i, b, o, o', _, h => by simp at h
  | (c, x) :: r, 0, b, o, o', _, h => by
    simp at h
    obtain ⟨rfl, rfl⟩ := h
    simp [hset]
  | (c, x) :: r, i + 1, b, o, o', hn, h => by
    simp only [List.map_cons, List.nodup_cons] at hn
    simp only [List.getElem?_cons_succ] at h
    have hcb : c ≠ b := fun he => hn.1 (by rw [he]; exact List.mem_map_of_mem (f := (·.1)) (List.mem_of_getElem? h))
    simp only [hset, if_neg hcb, List.set_cons_succ]
    rw [hset_at r i b o o' hn.2 h]
def World.block (w : World) (b : Nat) (o : Obj) : World := { w with heap := w.heap.setIfInBounds b o }
theorem setCell_block {w : World} {b off : Nat} {cs : List Value} {t : TypeId} {fr : Nat × Nat} {v : Value} (h : w.heap[b]? = some (.cells cs.toArray t fr)) :
    w.setCell ⟨b, off, none⟩ v = World.block w b (.cells (cs.set off v).toArray t fr) := by
  have hb : b < w.heap.size := by
    rcases Nat.lt_or_ge b w.heap.size with h' | h'
    · exact h'
    simp [Array.getElem?_eq_none h'] at h
  simp only [World.setCell, World.block]
  congr 1
  apply Array.ext_getElem?
  intro i
  rw [Array.getElem?_modify, Array.getElem?_setIfInBounds]
  by_cases hi : b = i
  · subst hi
    have hg : w.heap[b] = .cells cs.toArray t fr := by simpa [hb] using h
    simp [hb, hg]
  simp [hi]
theorem block_get {w : World} {b : Nat} {o o' : Obj} (h : w.heap[b]? = some o) : (World.block w b o').heap[b]? = some o' := by
  have hb : b < w.heap.size := by
    rcases Nat.lt_or_ge b w.heap.size with h' | h'
    · exact h'
    simp [Array.getElem?_eq_none h'] at h
  simp [World.block, hb]
theorem block_ne {w : World} {b c : Nat} {o' : Obj} (h : c ≠ b) : (World.block w b o').heap[c]? = w.heap[c]? := by
  simp [World.block, Ne.symm h]
theorem block_block {w : World} {b : Nat} {o o' : Obj} : World.block (World.block w b o) b o' = World.block w b o' := by
  simp [World.block]
theorem St.block {w0 : World} {D : List Nat} {I0 I : Heap} {H H' : HL} {w : World} {i b : Nat} {o o' : Obj} (h : St w0 D I0 I H w) (hi : H[i]? = some (b, o)) (hs : LSet H i (b, o') H') :
    St w0 D I0 I H' (World.block w b o') := by
  have hm := List.mem_of_getElem? hi
  have := h.write (o' := o') hm (w' := World.block w b o') rfl rfl rfl (by simp [World.block]) (block_get (h.own _ hm)) (fun c hc => block_ne hc)
  rw [hset_at H i b o o' h.nodup hi, hs.2] at this
  exact this
theorem run_storeCells {P : Program} {b off : Nat} {t : TypeId} {fr : Nat × Nat} : ∀ (vs : List Value) (i : Nat) (w : World) (cs : List Value), w.heap[b]? = some (.cells cs.toArray t fr) → (fr = (0, 0) ∨ cs.length ≤ fr.1) → off + i + vs.length ≤ cs.length →
    (∀ v ∈ vs, v.oneCell' = true) → ∀ cs', LSpl cs (off + i) vs cs' → (storeCells ⟨b, off, none⟩ vs i).run P w = .ok () (World.block w b (.cells cs'.toArray t fr))
  | [], i, w, cs, h, _, _, _, cs', hl => by
    have : cs' = cs := by have := hl.2; simpa using this
    subst this
    have hw : World.block w b (.cells cs'.toArray t fr) = w := by
      simp only [World.block]
      congr 1
      apply Array.ext_getElem?
      intro j
      rw [Array.getElem?_setIfInBounds]
      by_cases hj : b = j
      · subst hj
        have hb : b < w.heap.size := by
          rcases Nat.lt_or_ge b w.heap.size with h' | h'
          · exact h'
          simp [Array.getElem?_eq_none h'] at h
        have hg : w.heap[b] = .cells cs'.toArray t fr := by simpa [hb] using h
        simp [hb, hg]
      simp [hj]
    rw [hw]; rfl
  | v :: r, i, w, cs, h, hfr, hlen, hone, cs', hl => by
    simp only [List.length_cons] at hlen
    have hlt : off + i < cs.length := by omega
    have hc : w.cell? ⟨b, off + i, none⟩ = some (cs[off + i]'hlt) := cell_of_heap h (by simp [hlt])
    have hfz : w.frozen? ⟨b, off + i, none⟩ = false := by
      rcases hfr with rfl | hfr
      · simp [World.frozen?, h]
      simp only [World.frozen?, h]
      have : decide (fr.1 ≤ off + i) = false := by simp; omega
      simp [this]
    have h1 := run_store P w ⟨b, off + i, none⟩ v .plain (hone v (.head _))
    simp only [hc, hfz, Bool.false_eq_true, if_false] at h1
    have hadd : ((⟨b, off, none⟩ : Addr).add i) = ⟨b, off + i, none⟩ := Addr.add_lit b off i
    simp only [storeCells, Sem.run_bind, hadd, h1, Result.andThen_ok]
    rw [setCell_block h]
    have h2 : (World.block w b (.cells (cs.set (off + i) v).toArray t fr)).heap[b]? = some (.cells (cs.set (off + i) v).toArray t fr) := block_get h
    rw [run_storeCells r (i + 1) _ (cs.set (off + i) v) h2 (by simpa using hfr) (by simp; omega) (fun u hu => hone u (.tail _ hu)) cs' ?_, block_block]
    refine ⟨by simp; omega, ?_⟩
    rw [hl.2]
    simp only [List.length_cons]
    rw [show off + (i + 1) = (off + i) + 1 from by omega]
    rw [List.take_set, List.drop_set_of_lt (by omega)]
    rw [List.take_succ_eq_append_getElem hlt]
    rw [List.set_append_right _ _ (by simp; omega)]
    simp [Nat.min_eq_left (Nat.le_of_lt hlt), Nat.add_assoc, Nat.add_comm 1]
def LCat (vs : List Value) (sz : Nat) (cs : List Value) : Prop := (∀ v ∈ vs, v.cells.size = sz) ∧ vs.flatMap (fun v => v.cells.toList) = cs
theorem LCat.none {sz : Nat} : LCat [] sz [] := ⟨by simp, rfl⟩
theorem LCat.one {v : Value} {vs cs : List Value} (h1 : v.cells = #[v]) (h : LCat vs 1 cs) : LCat (v :: vs) 1 (v :: cs) :=
  ⟨fun u hu => by cases hu with | head => rw [h1]; rfl | tail _ hu => exact h.1 u hu, by rw [List.flatMap_cons, h1, h.2]; rfl⟩
theorem LCat.agg {xs vs cs : List Value} {sz : Nat} (h1 : xs.length = sz) (h : LCat vs sz cs) : LCat (.agg xs.toArray :: vs) sz (xs ++ cs) :=
  ⟨fun u hu => by cases hu with | head => simpa [Value.cells] using h1 | tail _ hu => exact h.1 u hu, by rw [List.flatMap_cons, h.2]; rfl⟩
theorem foldl_put : ∀ (xs : List Value) (k : Nat) (pre old post : List Value) (off : Nat), old.length = xs.length → pre.length = off + k →
    (xs.zipIdx k).foldl (fun cs (x : Value × Nat) => cs.setIfInBounds (off + x.2) x.1) (pre ++ old ++ post).toArray = (pre ++ xs ++ post).toArray
  | [], k, pre, old, post, off, h, _ => by
    have : old = [] := List.length_eq_zero_iff.1 (by simpa using h)
    subst this; simp
  | x :: xs, k, pre, old, post, off, h, hp => by
    obtain ⟨y, r, rfl⟩ : ∃ y r, old = y :: r := by
      cases old with
      | nil => simp at h
      | cons y r => exact ⟨y, r, rfl⟩
    simp only [List.zipIdx_cons, List.foldl_cons]
    have h1 : (pre ++ y :: r ++ post).toArray.setIfInBounds (off + k) x = ((pre ++ [x]) ++ r ++ post).toArray := by
      rw [List.setIfInBounds_toArray]
      congr 1
      rw [List.append_assoc, List.set_append_right _ _ (by omega), hp, Nat.sub_self]
      simp
    rw [h1, foldl_put xs (k + 1) (pre ++ [x]) r post off (by simpa using h) (by simp; omega)]
    simp
theorem fill_cat {sz : Nat} : ∀ (vs : List Value) (k : Nat) (pre rest : List Value), (∀ v ∈ vs, v.cells.size = sz) → pre.length = k * sz → rest.length = vs.length * sz →
    Instr.fill (fun i => some (i * sz, sz)) (pre ++ rest).toArray ((List.range' k vs.length).zip vs) = some (pre ++ vs.flatMap (fun v => v.cells.toList)).toArray
  | [], k, pre, rest, _, _, hr => by
    have : rest = [] := List.length_eq_zero_iff.1 (by simpa using hr)
    subst this; simp [Instr.fill]
  | v :: vs, k, pre, rest, hv, hp, hr => by
    have h1 : v.cells.toList.length = sz := by simpa using hv v (.head _)
    have hr' : rest.length = sz + vs.length * sz := by rw [hr]; simp [Nat.add_mul]; omega
    have hs1 : v.cells.size = sz := hv v (.head _)
    simp only [List.length_cons, List.range'_succ, List.zip_cons_cons, Instr.fill]
    rw [if_neg (by simp [hs1, hp]; omega)]
    have h2 : v.cells.zipIdx.foldl (fun cs (x : Value × Nat) => cs.setIfInBounds (k * sz + x.2) x.1) (pre ++ rest).toArray = (pre ++ v.cells.toList ++ rest.drop sz).toArray := by
      rw [← foldl_put v.cells.toList 0 pre (rest.take sz) (rest.drop sz) (k * sz) (by simp; omega) (by omega)]
      rw [List.append_assoc pre, List.take_append_drop]
      rw [← Array.foldl_toList, Array.toList_zipIdx]
    rw [h2, fill_cat vs (k + 1) (pre ++ v.cells.toList) (rest.drop sz) (fun u hu => hv u (.tail _ hu)) (by simp [hs1, hp, Nat.add_mul]) (by simp; omega)]
    simp [List.flatMap_cons]
section
variable {cx : Cx} {Q : Qt} {o : Oper} {e : Env} {I : Heap} {H : HL} {C : Ct}
theorem op_alloc {T d : Nat} {z : Value} {zs : List Value} (ho : o.op = .alloc T) (hd : o.dst = some d) (hn : Nat.blt d cx.n = true) (hz : ∀ w, (zeroValue T).run cx.P w = .ok z w) (hc : z.cells = zs.toArray)
    (k : ∀ b, cx.w0.heap.size ≤ b → C ((d, ptr b 0) :: e) I ((b, cel T zs) :: H)) : OpJ cx Q o e I H C := by
  intro K hK a w ha hs
  unfold Oper.wp
  have : (execOp a.eval o).run cx.P w = .ok (.value (ptr w.heap.size 0)) { w with heap := w.heap.push (cel T zs) } := by
    simp [execOp, ho, Instr.alloc, hz, newVar, newRow, hc, cel]
  rw [this]
  simp only [Oper.upon, hd]
  exact hK _ _ _ (k _ hs.size) _ _ (ha.put hn) (hs.alloc _)
theorem q46 {T d : Nat} {z : Value} {zs : List Value} (hz : ∀ w, (zeroValue T).run cx.P w = .ok z w) (k : ∀ b, cx.w0.heap.size ≤ b → C ((d, ptr b 0) :: e) I ((b, cel T zs) :: H)) (ho : o.op = .alloc T := by exact rfl) (hd : o.dst = some d := by exact rfl) (hn : Nat.blt d cx.n = true := by exact rfl) (hc : z.cells = zs.toArray := by exact rfl) : OpJ cx Q o e I H C := op_alloc ho hd hn hz hc k
theorem op_box {T d : Nat} {x : Operand} {z : Value} {zs : List Value} (ho : o.op = .box T x) (hd : o.dst = some d) (hn : Nat.blt d cx.n = true) (hx : ev e x = some z) (hc : z.cells = zs.toArray)
    (k : ∀ b, cx.w0.heap.size ≤ b → C ((d, ptr b 0) :: e) I ((b, cel T zs) :: H)) : OpJ cx Q o e I H C := by
  intro K hK a w ha hs
  unfold Oper.wp
  have : (execOp a.eval o).run cx.P w = .ok (.value (ptr w.heap.size 0)) { w with heap := w.heap.push (cel T zs) } := by
    simp [execOp, ho, Instr.box, ha.eval hx, newVar, newRow, hc, cel]
  rw [this]
  simp only [Oper.upon, hd]
  exact hK _ _ _ (k _ hs.size) _ _ (ha.put hn) (hs.alloc _)
theorem q28 {T d : Nat} {x : Operand} {z : Value} {zs : List Value} (k : ∀ b, cx.w0.heap.size ≤ b → C ((d, ptr b 0) :: e) I ((b, cel T zs) :: H)) (ho : o.op = .box T x := by exact rfl) (hd : o.dst = some d := by exact rfl) (hn : Nat.blt d cx.n = true := by exact rfl) (hx : ev e x = some z := by exact rfl) (hc : z.cells = zs.toArray := by exact rfl) : OpJ cx Q o e I H C := op_box ho hd hn hx hc k
theorem op_store {x y : Operand} {T t b off : Nat} (i : Nat) {cs cs' vs : List Value} {v : Value} {H' : HL} {n : Nat} (ho : o.op = .store T x y) (hd : o.dst = none) (hx : ev e x = some (ptr b off)) (hy : ev e y = some v)
    (hv : v.cells = vs.toArray) (h1 : vs.all Value.oneCell' = true) (hsz : ∀ w, (sizeOf T).run cx.P w = .ok n w) (hnn : vs.length = n) (hH : H[i]? = some (b, cel t cs)) (hcs : LSpl cs off vs cs') (hH' : LSet H i (b, cel t cs') H')
    (k : C e I H') : OpJ cx Q o e I H C := by
  intro K hK a w ha hs
  unfold Oper.wp
  have hb := hs.own _ (List.mem_of_getElem? hH)
  have hst := run_storeCells (P := cx.P) (t := t) vs 0 w cs hb (.inl rfl) hcs.1 (fun u hu => (List.all_eq_true.1 h1) u hu) cs' hcs
  have : (execOp a.eval o).run cx.P w = .ok .skip (World.block w b (cel t cs')) := by
    simp [execOp, ho, Instr.storeAt, Instr.sureAddr, ha.eval hx, ha.eval hy, storeVar, hv, hsz, hnn, hst, cel]
  rw [this]
  simp only [Oper.upon, hd]
  exact hK _ _ _ k _ _ ha.putNone (hs.block hH hH')
theorem q21 {x y : Operand} {T t b off : Nat} (i : Nat) {cs cs' vs : List Value} {v : Value} {H' : HL} {n : Nat} (hsz : ∀ w, (sizeOf T).run cx.P w = .ok n w) (hcs : LSpl cs off vs cs') (hH' : LSet H i (b, cel t cs') H') (k : C e I H') (ho : o.op = .store T x y := by exact rfl) (hd : o.dst = none := by exact rfl) (hx : ev e x = some (ptr b off) := by exact rfl) (hy : ev e y = some v := by exact rfl) (hv : v.cells = vs.toArray := by exact rfl) (h1 : vs.all Value.oneCell' = true := by exact rfl) (hnn : vs.length = n := by exact rfl) (hH : H[i]? = some (b, cel t cs) := by exact rfl) : OpJ cx Q o e I H C := op_store i ho hd hx hy hv h1 hsz hnn hH hcs hH' k
theorem op_buildSlice {T E d len sz : Nat} {parts : List (Nat × Operand)} {vs : List Value} {z : Value} {cells : List Value} (ho : o.op = .buildSlice T len parts.toArray) (hd : o.dst = some d) (hn : Nat.blt d cx.n = true)
    (hu : cx.P.underlying T = some (.slice E)) (hsz : ∀ w, (sizeOf E).run cx.P w = .ok sz w) (hz : ∀ w, (zeroValue E).run cx.P w = .ok z w) (hbig : (Nat.ble (len * sz) (2 ^ 24) && Nat.blt 0 (len * sz)) = true)
    (hv : evs e (parts.map (·.2)) = some vs) (hi : parts.map (·.1) = List.range' 0 vs.length) (hl : vs.length = len) (hf : LCat vs sz cells)
    (k : ∀ b, cx.w0.heap.size ≤ b → C ((d, .slice (some ⟨b, 0, none⟩) len len) :: e) I ((b, cel E cells) :: H)) : OpJ cx Q o e I H C := by
  intro K hK a w ha hs
  unfold Oper.wp
  have hp : (parts.toArray.map fun (i, x) => (i, a.eval x)).toList = (List.range' 0 vs.length).zip vs := by
    have h := ha.evals hv
    rw [← hi, ← h]
    simp [List.zip_map', List.map_map]
  have hb1 : ¬ (len * sz > 2 ^ 24) := by
    simp only [Bool.and_eq_true, Nat.ble_eq] at hbig; omega
  have hb2 : ¬ (len * sz = 0) := by
    simp only [Bool.and_eq_true, Nat.blt_eq] at hbig; omega
  have hfl : Instr.fill (fun i => some (i * sz, sz)) ((Array.range (len * sz)).map (z.cells[· % z.cells.size]!)) ((List.range' 0 vs.length).zip vs) = some cells.toArray := by
    have h0 : ((Array.range (len * sz)).map (z.cells[· % z.cells.size]!)) = ([] ++ ((Array.range (len * sz)).map (z.cells[· % z.cells.size]!)).toList).toArray := by rw [List.nil_append, Array.toArray_toList]
    rw [h0, fill_cat vs 0 [] _ hf.1 (by simp) (by simp [hl]), hf.2]
    simp
  have : (execOp a.eval o).run cx.P w = .ok (.value (.slice (some ⟨w.heap.size, 0, none⟩) len len)) { w with heap := w.heap.push (cel E cells) } := by
    simp only [execOp, ho, Instr.buildSlice, Sem.run_bind, run_underlying hu, Result.andThen_ok, hsz, hb1, hb2, if_false, Sem.run_pure, hz, hp, hfl, newRow, run_newObj, cel]
  rw [this]
  simp only [Oper.upon, hd]
  exact hK _ _ _ (k _ hs.size) _ _ (ha.put hn) (hs.alloc _)
theorem q41 {T E d len sz : Nat} {parts : List (Nat × Operand)} {vs : List Value} {z : Value} {cells : List Value} (hu : cx.P.underlying T = some (.slice E)) (hsz : ∀ w, (sizeOf E).run cx.P w = .ok sz w) (hz : ∀ w, (zeroValue E).run cx.P w = .ok z w) (k : ∀ b, cx.w0.heap.size ≤ b → C ((d, .slice (some ⟨b, 0, none⟩) len len) :: e) I ((b, cel E cells) :: H)) (ho : o.op = .buildSlice T len parts.toArray := by exact rfl) (hd : o.dst = some d := by exact rfl) (hn : Nat.blt d cx.n = true := by exact rfl) (hbig : (Nat.ble (len * sz) (2 ^ 24) && Nat.blt 0 (len * sz)) = true := by exact rfl) (hv : evs e (parts.map (·.2)) = some vs := by exact rfl) (hi : parts.map (·.1) = List.range' 0 vs.length := by exact rfl) (hl : vs.length = len := by exact rfl) (hf : LCat vs sz cells := by exact LCat.agg rfl LCat.none) : OpJ cx Q o e I H C := op_buildSlice ho hd hn hu hsz hz hbig hv hi hl hf k
theorem q24 {T E d len sz : Nat} {parts : List (Nat × Operand)} {vs : List Value} {z : Value} {cells : List Value} (hu : cx.P.underlying T = some (.slice E)) (hsz : ∀ w, (sizeOf E).run cx.P w = .ok sz w) (hz : ∀ w, (zeroValue E).run cx.P w = .ok z w) (k : ∀ b, cx.w0.heap.size ≤ b → C ((d, .slice (some ⟨b, 0, none⟩) len len) :: e) I ((b, cel E cells) :: H)) (ho : o.op = .buildSlice T len parts.toArray := by exact rfl) (hd : o.dst = some d := by exact rfl) (hn : Nat.blt d cx.n = true := by exact rfl) (hbig : (Nat.ble (len * sz) (2 ^ 24) && Nat.blt 0 (len * sz)) = true := by exact rfl) (hv : evs e (parts.map (·.2)) = some vs := by exact rfl) (hi : parts.map (·.1) = List.range' 0 vs.length := by exact rfl) (hl : vs.length = len := by exact rfl) (hf : LCat vs sz cells := by exact LCat.one rfl LCat.none) : OpJ cx Q o e I H C := op_buildSlice ho hd hn hu hsz hz hbig hv hi hl hf k
end
def Enters (P : Program) (f : FuncId) : Prop := ∃ fn, P.funcs[f]? = some fn ∧ fn.name ≠ "runtime.NumGoroutine" ∧ fn.body.isNone = false
def Ready (I : Heap) (H : HL) (w : World) : Prop := (∀ b o, I b = some o → w.heap[b]? = some o) ∧ (∀ p ∈ H, w.heap[p.1]? = some p.2) ∧ (H.map (·.1)).Nodup ∧ ∀ p ∈ H, I p.1 = none
def RR (w0 : World) (D : List Nat) (I0 : Heap) (post : Ending → Heap → HL → Prop) : Ending → World → Prop :=
  fun e w' => ∃ I' H', St w0 D I0 I' H' w' ∧ post e I' H'
def Ctr (P : Program) (f : FuncId) (args : List Value) (I : Heap) (H : HL) (post : Ending → Heap → HL → Prop) : Prop :=
  Enters P f ∧ ∀ w, Ready I H w → Calls P f args.toArray w (RR w (H.map (·.1)) I post)
theorem Ctr.mono {P : Program} {f : FuncId} {args : List Value} {I : Heap} {H : HL} {post post' : Ending → Heap → HL → Prop} (h : Ctr P f args I H post)
    (hp : ∀ e I' H', Le I I' → post e I' H' → post' e I' H') : Ctr P f args I H post' :=
  ⟨h.1, fun w hw => (h.2 w hw).mono fun e _w' ⟨I', H', hs, hq⟩ => ⟨I', H', hs, hp e I' H' hs.le hq⟩⟩
def Pure (P : Program) (f : FuncId) (args : List Value) (I : Heap) (v : Value) : Prop := Ctr P f args I [] (fun e I' H' => e = .returned v ∧ I' = I ∧ H' = [])
theorem run_callFunc {P : Program} {f : FuncId} (h : Enters P f) (args : Array Value) (w : World) : (callFunc f args).run P w = .ok (.enter f args) w := by
  obtain ⟨fn, h1, h2, h3⟩ := h
  have h4 : (fn.name == "runtime.NumGoroutine") = false := by simpa using h2
  simp only [callFunc, Sem.run_bind, run_program, Result.andThen_ok, h1, h4, h3, Bool.false_eq_true, if_false, Sem.run_pure]
section
variable {cx : Cx} {Q : Qt} {o : Oper} {e : Env} {I : Heap} {C : Ct}
theorem op_call {H1 R : HL} {d f : Nat} {fo : Operand} {xs : List Operand} {ts : Array TypeId} {fst cap vs : List Value} {post : Ending → Heap → HL → Prop}
    (ho : o.op = .call ⟨.value fo, xs.toArray, ts⟩) (hd : o.dst = some d) (hn : Nat.blt d cx.n = true) (hf : ev e fo = some (.func (.func f) fst.toArray cap.toArray)) (hx : evs e xs = some vs)
    (hs : Ctr cx.P f (fst ++ vs ++ cap) I H1 post)
    (k : ∀ v I' H1', Le I I' → post (.returned v) I' H1' → C ((d, v) :: e) I' (H1' ++ R))
    (kp : ∀ ch I' H1', Le I I' → post (.panicked ch) I' H1' → Ej cx Q (.panic ch) e I' (H1' ++ R))
    (ko : ∀ I' H1', ¬ post .outgrown I' H1') : OpJ cx Q o e I (H1 ++ R) C := by
  intro K hK a w ha hst
  unfold Oper.wp
  have hr : (execOp a.eval o).run cx.P w = .ok (.enter f (fst ++ vs ++ cap).toArray) w := by
    have hxs : xs.toArray.map a.eval = vs.toArray := by
      rw [List.map_toArray, ha.evals hx]
    simp only [execOp, ho, resolve, hxs, ha.eval hf, Deferred.ofValue, invoke, Sem.run_bind, Sem.run_pure, Result.andThen_ok, run_callFunc hs.1]
    simp
  rw [hr]
  simp only [Oper.upon]
  have hready : Ready I H1 w := ⟨hst.sub, fun p hp => hst.own p (List.mem_append_left _ hp), by
    have := hst.nodup; rw [List.map_append, List.nodup_append] at this; exact this.1, fun p hp => hst.dis p (List.mem_append_left _ hp)⟩
  refine (hs.2 w hready).mono ?_
  rintro en w' ⟨I', H1', hs', hp⟩
  have hle := hs'.le
  have hst' := hst.call hs'
  cases en with
  | returned v =>
    rw [hd]
    exact hK _ _ _ (k v I' H1' hle hp) _ _ (ha.put hn) hst'
  | panicked ch => exact kp ch I' H1' hle hp _ _ ha hst'
  | outgrown => exact (ko _ _ hp).elim
theorem q36 {H1 R : HL} {d f : Nat} {fo : Operand} {xs : List Operand} {ts : Array TypeId} {fst cap vs : List Value} {post : Ending → Heap → HL → Prop} (ho : o.op = .call ⟨.value fo, xs.toArray, ts⟩) (hd : o.dst = some d) (hn : Nat.blt d cx.n = true) (hf : ev e fo = some (.func (.func f) fst.toArray cap.toArray)) (hx : evs e xs = some vs) (hs : Ctr cx.P f (fst ++ vs ++ cap) I H1 post) (k : ∀ v I' H1', Le I I' → post (.returned v) I' H1' → C ((d, v) :: e) I' (H1' ++ R)) (kp : ∀ ch I' H1', Le I I' → post (.panicked ch) I' H1' → Ej cx Q (.panic ch) e I' (H1' ++ R) := by exact fun _ _ _ _ ⟨_, h, _⟩ => nomatch h) (ko : ∀ I' H1', ¬ post .outgrown I' H1' := by exact fun _ _ ⟨_, h, _⟩ => nomatch h) : OpJ cx Q o e I (H1 ++ R) C := op_call ho hd hn hf hx hs k kp ko
theorem op_pure {H : HL} {d f : Nat} {fo : Operand} {xs : List Operand} {ts : Array TypeId} {fst cap vs : List Value} {v : Value}
    (ho : o.op = .call ⟨.value fo, xs.toArray, ts⟩) (hd : o.dst = some d) (hn : Nat.blt d cx.n = true) (hf : ev e fo = some (.func (.func f) fst.toArray cap.toArray)) (hx : evs e xs = some vs)
    (hs : Pure cx.P f (fst ++ vs ++ cap) I v) (k : C ((d, v) :: e) I H) : OpJ cx Q o e I H C :=
  op_call (H1 := []) (R := H) ho hd hn hf hx hs
    (fun u I' H1' _ ⟨h1, h2, h3⟩ => by cases h1; subst h2; subst h3; exact k) (fun ch I' H1' _ ⟨h1, _⟩ => by cases h1) (fun I' H1' ⟨h1, _⟩ => by cases h1)
end
theorem Ctr.of_body {P : Program} {f : FuncId} {fn : Func} {c : Code} {args : List Value} {I : Heap} {H : HL} {post : Ending → Heap → HL → Prop} (hf : P.funcs[f]? = some fn) (hb : fn.body = some c) (hname : fn.name ≠ "runtime.NumGoroutine")
    (hn : args.length ≤ fn.ntmps)
    (h : ∀ w0, Ready I H w0 → Cj ⟨P, fn.ntmps, w0, H.map (·.1), I, [], none⟩ (bodyPost P fn (RR w0 (H.map (·.1)) I post)) c (argsEnv 0 args) I H) : Ctr P f args I H post := by
  refine ⟨⟨fn, hf, hname, by simp [hb]⟩, fun w hw => ?_⟩
  refine calls_of_wp hf hb ?_
  exact (h w hw).wp rfl (Has.start args fn.ntmps hn) (St.start w I H hw.1 hw.2.1 hw.2.2.1 hw.2.2.2)
theorem w64 {x : Int} (h : -9223372036854775808 ≤ x ∧ x ≤ 9223372036854775807) : IntKind.i64.wrap x = x := IntWalk.i64_in _ h
section
variable {cx : Cx} {fn : Func} {post : Ending → Heap → HL → Prop} {e : Env} {I : Heap} {H : HL}
theorem Ej.ret1 {t : Nat} {v : Value} (hr : fn.results = #[.tmp t]) (hds : cx.ds = []) (hv : eg e t = some v) (hp : post (.returned v) I H) : Ej cx (bodyPost cx.P fn (RR cx.w0 cx.D cx.I0 post)) .ret e I H := by
  intro a w ha hs
  refine ⟨ha.defs.trans hds, v, ?_, I, H, hs, hp⟩
  rw [results_tmp hr]
  have := ha.get t v hv
  simp [this]
theorem q6 {t : Nat} {v : Value} (hp : post (.returned v) I H) (hr : fn.results = #[.tmp t] := by exact rfl) (hds : cx.ds = [] := by exact rfl) (hv : eg e t = some v := by exact rfl) : Ej cx (bodyPost cx.P fn (RR cx.w0 cx.D cx.I0 post)) .ret e I H := Ej.ret1 hr hds hv hp
theorem Ej.ret2 {t u : Nat} {v x : Value} (hr : fn.results = #[.tmp t, .tmp u]) (hds : cx.ds = []) (hv : eg e t = some v) (hx : eg e u = some x) (hp : post (.returned (.tuple #[v, x])) I H) :
    Ej cx (bodyPost cx.P fn (RR cx.w0 cx.D cx.I0 post)) .ret e I H := by
  intro a w ha hs
  refine ⟨ha.defs.trans hds, _, ?_, I, H, hs, hp⟩
  rw [results_tmp2 hr]
  have h1 := ha.get t v hv
  have h2 := ha.get u x hx
  simp [h1, h2]
theorem q22 {t u : Nat} {v x : Value} (hp : post (.returned (.tuple #[v, x])) I H) (hr : fn.results = #[.tmp t, .tmp u] := by exact rfl) (hds : cx.ds = [] := by exact rfl) (hv : eg e t = some v := by exact rfl) (hx : eg e u = some x := by exact rfl) : Ej cx (bodyPost cx.P fn (RR cx.w0 cx.D cx.I0 post)) .ret e I H := Ej.ret2 hr hds hv hx hp
theorem Ej.ret0 (hr : fn.results = #[]) (hds : cx.ds = []) (hp : post (.returned (.tuple #[])) I H) : Ej cx (bodyPost cx.P fn (RR cx.w0 cx.D cx.I0 post)) .ret e I H :=
  fun _a _w ha hs => ⟨ha.defs.trans hds, _, results_none hr _ _ _, I, H, hs, hp⟩
theorem Ej.end0 (hr : fn.results = #[]) (hds : cx.ds = []) (hp : post (.returned (.tuple #[])) I H) : Ej cx (bodyPost cx.P fn (RR cx.w0 cx.D cx.I0 post)) .normal e I H :=
  fun _a _w ha hs => ⟨ha.defs.trans hds, _, results_none hr _ _ _, I, H, hs, hp⟩
theorem q39 (hp : post (.returned (.tuple #[])) I H) (hr : fn.results = #[] := by exact rfl) (hds : cx.ds = [] := by exact rfl) : Ej cx (bodyPost cx.P fn (RR cx.w0 cx.D cx.I0 post)) .normal e I H := Ej.end0 hr hds hp
end
def Pull (H : HL) (p : Nat × Obj) (H' : HL) : Prop := (p :: H').Perm H
theorem Pull.z {p : Nat × Obj} {r : HL} : Pull (p :: r) p r := List.Perm.refl _
theorem Pull.s {p q : Nat × Obj} {r r' : HL} (h : Pull r p r') : Pull (q :: r) p (q :: r') := (List.Perm.swap q p r').trans (List.Perm.cons q h)
def Keeps (H' H : HL) : Prop := H'.Sublist H
theorem Keeps.n : Keeps [] [] := List.Sublist.slnil
theorem Keeps.r {r : HL} : Keeps r r := List.Sublist.refl r
theorem Keeps.k {p : Nat × Obj} {r r' : HL} (h : Keeps r' r) : Keeps (p :: r') (p :: r) := List.Sublist.cons_cons p h
theorem Keeps.d {p : Nat × Obj} {r r' : HL} (h : Keeps r' r) : Keeps r' (p :: r) := List.Sublist.cons p h
section
variable {cx : Cx} {Q : Qt} {e : Env} {I : Heap} {H H' : HL} {p : Nat × Obj}
theorem Cj.pull {c : Code} (h : Pull H p H') (k : Cj cx Q c e I (p :: H')) : Cj cx Q c e I H := Cj.perm h k
theorem J.pull {ops : Array Oper} {l : List Oper} (h : Pull H p H') (k : J cx Q ops l e I (p :: H')) : J cx Q ops l e I H := J.perm h k
theorem Ej.pull {x : Exit} (h : Pull H p H') (k : Ej cx Q x e I (p :: H')) : Ej cx Q x e I H := Ej.perm h k
theorem Ej.bare {x : Exit} (k : Ej cx Q x e I []) : Ej cx Q x e I H := Ej.keep (List.nil_sublist _) k
theorem J.split {ops : Array Oper} {l : List Oper} (d : Nat) {b : Bool} (hv : eg e d = some (.bool b)) (h1 : b = true → J cx Q ops l e I H) (h0 : b = false → J cx Q ops l e I H) : J cx Q ops l e I H := by
  cases b
  · exact h0 rfl
  exact h1 rfl
theorem q16 {ops : Array Oper} {l : List Oper} (d : Nat) {b : Bool} (h1 : b = true → J cx Q ops l e I H) (h0 : b = false → J cx Q ops l e I H) (hv : eg e d = some (.bool b) := by exact rfl) : J cx Q ops l e I H := J.split d hv h1 h0
theorem Cj.persist {c : Code} {b : Nat} {o : Obj} (hb : cx.w0.heap.size ≤ b) (k : ∀ I', Le I I' → I' b = some o → Cj cx Q c e I' H) : Cj cx Q c e I ((b, o) :: H) :=
  fun a w ha hs => k _ (hput_le (hs.dis _ (.head _))) (hput_at b o I) a w ha (hs.persist hb)
theorem J.persist {ops : Array Oper} {l : List Oper} {b : Nat} {o : Obj} (hb : cx.w0.heap.size ≤ b) (k : ∀ I', Le I I' → I' b = some o → J cx Q ops l e I' H) : J cx Q ops l e I ((b, o) :: H) :=
  fun a w ha hs => k _ (hput_le (hs.dis _ (.head _))) (hput_at b o I) a w ha (hs.persist hb)
theorem Ej.persist {x : Exit} {b : Nat} {o : Obj} (hb : cx.w0.heap.size ≤ b) (k : ∀ I', Le I I' → I' b = some o → Ej cx Q x e I' H) : Ej cx Q x e I ((b, o) :: H) :=
  fun a w ha hs => k _ (hput_le (hs.dis _ (.head _))) (hput_at b o I) a w ha (hs.persist hb)
end
def sel : List Nat → HL → HL
  | [], _ => []
  | i :: r, H => match H[i]? with
    | some p => p :: sel r H
    | none => sel r H
def HSub : HL → HL → Prop
  | [], _ => True
  | p :: r, H => p ∈ H ∧ HSub r H
theorem HSub.mem : ∀ {A H : HL}, HSub A H → ∀ p ∈ A, p ∈ H
  | _ :: _, _, ⟨h, _⟩, _, .head _ => h
  | _ :: _, _, ⟨_, h⟩, _, .tail _ hp => HSub.mem h _ hp
theorem HSub.n {H : HL} : HSub [] H := trivial
theorem HSub.c {p : Nat × Obj} {r H : HL} (i : Nat) (h : H[i]? = some p) (t : HSub r H) : HSub (p :: r) H := ⟨List.mem_of_getElem? h, t⟩
def CSub : CL → HL → Prop
  | [], _ => True
  | c :: r, H => (∃ cs t fr, (c.1, Obj.cells (List.toArray cs) t fr) ∈ H ∧ cs[c.2.1]? = some c.2.2) ∧ CSub r H
theorem CSub.n {H : HL} : CSub [] H := trivial
theorem CSub.cell : ∀ {Z : CL} {H : HL} {w : World}, CSub Z H → (∀ p ∈ H, w.heap[p.1]? = some p.2) → ∀ c ∈ Z, w.cell? ⟨c.1, c.2.1, none⟩ = some c.2.2
  | _ :: _, _, _, ⟨⟨_, _, _, h1, h2⟩, _⟩, hw, _, .head _ => cell_of_heap (hw _ h1) h2
  | _ :: _, _, _, ⟨_, h⟩, hw, _, .tail _ hc => CSub.cell h hw _ hc
def waits (ops : Array Oper) (i : Nat) : Nat → Nat → Bool
  | 0, _ => false
  | f + 1, j => match ops[j]? with
    | none => false
    | some o => o.after.any (fun e => Region.binds .any e && (e.on == i || waits ops i f e.on))
def Closed (ops : Array Oper) (listed : Array Bool) : Prop := ∀ j o, ops[j]? = some o → listed.getD j false = true → ∀ e ∈ o.after, Region.binds .any e = true → listed.getD e.on false = true
def closedB (ops : Array Oper) (listed : Array Bool) : Bool := (List.range ops.size).all fun j => !(listed.getD j false) || (match ops[j]? with
  | none => true
  | some o => o.after.all fun e => !(Region.binds .any e) || listed.getD e.on false)
theorem Closed.of {ops : Array Oper} {listed : Array Bool} (h : closedB ops listed = true) : Closed ops listed := by
  intro j o ho hj e he hb
  have hlt : j < ops.size := (Array.getElem?_eq_some_iff.1 ho).1
  have h1 := List.all_eq_true.1 h j (List.mem_range.2 hlt)
  rw [hj, ho] at h1
  simp only [Bool.not_true, Bool.false_or] at h1
  have h2 := Array.all_eq_true'.1 h1 e he
  rw [hb] at h2
  simpa using h2
theorem Closed.set {ops : Array Oper} {listed : Array Bool} {j : Nat} {oj : Oper} (h : Closed ops listed) (hj : ops[j]? = some oj) (hall : ∀ e ∈ oj.after, Region.binds .any e = true → listed.getD e.on false = true) : Closed ops (listed.setIfInBounds j true) := by
  intro k o ho hk e he hb
  by_cases hjk : j = k
  · subst hjk
    rw [hj] at ho; cases ho
    exact getD_set_true (hall e he hb)
  rw [getD_set_ne false hjk] at hk
  exact getD_set_true (h k o ho hk e he hb)
theorem waits_not {ops : Array Oper} {listed : Array Bool} {i : Nat} (hc : Closed ops listed) (hi : listed.getD i false = false) : ∀ (f j : Nat) (o : Oper), ops[j]? = some o → waits ops i f j = true → ∃ e ∈ o.after, Region.binds .any e = true ∧ listed.getD e.on false = false
  | 0, _, _, _, h => by cases h
  | f + 1, j, o, ho, h => by
    simp only [waits, ho] at h
    obtain ⟨e, he, hb⟩ := Array.any_eq_true'.1 h
    rw [Bool.and_eq_true, Bool.or_eq_true, beq_iff_eq] at hb
    refine ⟨e, he, hb.1, ?_⟩
    rcases hb.2 with h1 | h1
    · rw [h1]; exact hi
    cases hl : listed.getD e.on false with
    | false => rfl
    | true =>
      cases ho2 : ops[e.on]? with
      | none => cases f <;> simp [waits, ho2] at h1
      | some o2 =>
        obtain ⟨e2, he2, hb2, hn⟩ := waits_not hc hi f e.on o2 ho2 h1
        rw [hc e.on o2 ho2 hl e2 he2 hb2] at hn; cases hn
def zok (ops : Array Oper) (listed : Array Bool) (z i : Nat) : Bool := match ops[z]? with
  | none => true
  | some _ => closedB ops listed && (i != z && waits ops i ops.size z)
def wpAnyZ (P : Program) (ops : Array Oper) (Q : Qt) (S : World → Prop) (z : Nat) : Nat → Array Bool → Act → World → Prop
  | 0, listed, a, w => Region.ready .any ops listed = [] ∧ Q .normal a w
  | fuel + 1, listed, a, w => (Region.ready .any ops listed = [] → Q .normal a w) ∧
    ∀ i ∈ Region.ready .any ops listed, wpOp P ops Q i (fun a' w' => (i ≠ z → S w') ∧ wpAnyZ P ops Q S z fuel (listed.setIfInBounds i true) a' w') a w
theorem wpAny_of_Z {P : Program} {ops : Array Oper} {Q : Qt} {S : World → Prop} {z : Nat} : ∀ (fuel : Nat) (listed : Array Bool) (a : Act) (w : World), wpAnyZ P ops Q S z fuel listed a w → wpAny P .any ops Q fuel listed a w
  | 0, _, _, _, h => h
  | fuel + 1, _, _, _, h => ⟨h.1, fun i hi => wpOp_mono (fun a' w' h' => wpAny_of_Z fuel _ a' w' h'.2) (h.2 i hi)⟩
theorem wait_unlisted {listed : Array Bool} {i : Nat} {oj : Oper} (hr : listed.getD i true = false) (hall : ∀ e ∈ oj.after, Region.binds .any e = true → listed.getD e.on false = true) : ∀ e ∈ oj.after, Region.binds .any e = true → e.on ≠ i := fun e he hb heq => by
  have h1 := hall e he hb
  rw [heq] at h1
  rcases Nat.lt_or_ge i listed.size with h' | h'
  · simp [h'] at hr h1; rw [hr] at h1; cases h1
  simp [Array.getElem?_eq_none h'] at h1
theorem wpAnyZ_first {P : Program} {ops : Array Oper} {Q : Qt} {S : World → Prop} {z i : Nat} {oi : Oper} {v : Value} (hz : ∀ oz, ops[z]? = some oz → i ≠ z ∧ waits ops i ops.size z = true) (hi : ops[i]? = some oi) (hsel : ∀ (j : Nat) (o : Oper) cs b, ops[j]? = some o → o.op ≠ .select cs b)
    (hQ : ∀ c a w, Q (.panic c) (a.put oi.dst v) w → Q (.panic c) a w) : ∀ (fuel : Nat) (listed : Array Bool) (a : Act) (w : World),
      (∀ j oj, ops[j]? = some oj → j ≠ i → listed.getD j true = false → (∀ e ∈ oj.after, Region.binds .any e = true → e.on ≠ i) → oi.apart ops oj = true) →
      (∀ oz, ops[z]? = some oz → Closed ops listed) → i ∈ Region.ready .any ops listed → YieldsIf P ops S oi v a → S w →
      wpAnyZ P ops Q S z fuel (listed.setIfInBounds i true) (a.put oi.dst v) w → wpAnyZ P ops Q S z (fuel + 1) listed a w := by
  intro fuel
  induction fuel with
  | zero =>
    intro listed a w _ _ hr hy hS H
    refine ⟨fun h => (by rw [h] at hr; cases hr), fun j hj => ?_⟩
    by_cases hji : j = i
    · subst hji; exact hy.wpOp hi hS ⟨fun _ => hS, H⟩
    have := ready_mono hj hji
    rw [H.1] at this
    cases this
  | succ fuel ih =>
    intro listed a w hfree hcl hr hy hS H
    refine ⟨fun h => (by rw [h] at hr; cases hr), fun j hj => ?_⟩
    by_cases hji : j = i
    · subst hji; exact hy.wpOp hi hS ⟨fun _ => hS, H⟩
    have h1 := H.2 j (ready_mono hj hji)
    obtain ⟨hjun, oj, hoj, hall⟩ := mem_ready.1 hj
    have hnot := wait_unlisted (i := i) (mem_ready.1 hr).1 hall
    have hi0 : listed.getD i false = false := by
      have h0 := (mem_ready.1 hr).1
      rcases Nat.lt_or_ge i listed.size with h' | h'
      · simp [h'] at h0 ⊢; exact h0
      simp [Array.getElem?_eq_none h']
    have hjz : j ≠ z := fun he => by
      subst he
      obtain ⟨e, he, hb, hn⟩ := waits_not (hcl oj hoj) hi0 _ j oj hoj (hz oj hoj).2
      rw [hall e he hb] at hn; cases hn
    have h2 := wpOp_putIf hoj (hfree j oj hoj hji hjun hnot) (fun cs b => hsel i oi cs b hi) (fun cs b => hsel j oj cs b hoj) hQ hy h1
    have hfree' : ∀ k ok, ops[k]? = some ok → k ≠ i → (listed.setIfInBounds j true).getD k true = false →
        (∀ e ∈ ok.after, Region.binds .any e = true → e.on ≠ i) → oi.apart ops ok = true := fun k ok hk hki hun hno => by
      refine hfree k ok hk hki ?_ hno
      by_cases hjk : j = k
      · subst hjk; exact hjun
      rw [getD_set_ne true hjk] at hun; exact hun
    refine wpOp_mono (fun a' w' h3 => ⟨fun _ => h3.2.1 hjz, ih (listed.setIfInBounds j true) a' w' hfree' (fun oz hoz => (hcl oz hoz).set hoj hall) (ready_mono hr (Ne.symm hji)) h3.1 (h3.2.1 hjz) ?_⟩) h2
    rw [Array.setIfInBounds_comm _ _ hji]
    exact h3.2.2
theorem wpAnyZ_take {P : Program} {ops : Array Oper} {Q : Qt} {S : World → Prop} {z i : Nat} {oi : Oper} {v : Value} {fuel : Nat} {listed : Array Bool} {a : Act} {w : World} (hz : zok ops listed z i = true) (hi : ops[i]? = some oi)
    (hs : Region.noSelect ops = true) (hf : Region.free .any ops listed i = true) (hr : (Region.ready .any ops listed).contains i = true)
    (hQ : ∀ c a w, Q (.panic c) (a.put oi.dst v) w → Q (.panic c) a w) (hy : YieldsIf P ops S oi v a) (hS : S w)
    (h : wpAnyZ P ops Q S z fuel (listed.setIfInBounds i true) (a.put oi.dst v) w) : wpAnyZ P ops Q S z (fuel + 1) listed a w :=
  wpAnyZ_first (fun oz ho => by
    simp only [zok, ho, Bool.and_eq_true, bne_iff_ne] at hz
    exact hz.2) hi (Region.noSelect_spec hs) hQ fuel listed a w (Region.free_spec hi hf) (fun oz ho => by
    simp only [zok, ho, Bool.and_eq_true] at hz
    exact Closed.of hz.1) (by simpa using hr) hy hS h
theorem wpAnyZ_all {P : Program} {ops : Array Oper} {Q : Qt} {S : World → Prop} {z : Nat} {rs : List Nat} {fuel : Nat} {listed : Array Bool} {a : Act} {w : World} (hr : Region.ready .any ops listed = rs) (hne : rs ≠ [])
    (h : ∀ i ∈ rs, wpOp P ops Q i (fun a' w' => (i ≠ z → S w') ∧ wpAnyZ P ops Q S z fuel (listed.setIfInBounds i true) a' w') a w) : wpAnyZ P ops Q S z (fuel + 1) listed a w :=
  ⟨fun h0 => absurd (hr ▸ h0) hne, hr ▸ h⟩
theorem wpAnyZ_done {P : Program} {ops : Array Oper} {Q : Qt} {S : World → Prop} {z : Nat} {listed : Array Bool} {a : Act} {w : World} (hr : Region.ready .any ops listed = []) (h : Q .normal a w) : ∀ fuel, wpAnyZ P ops Q S z fuel listed a w
  | 0 => ⟨hr, h⟩
  | _ + 1 => ⟨fun _ => h, by rw [hr]; simp⟩
def JA (cx : Cx) (Q : Qt) (l : List Oper) (I1 : Heap) (A : HL) (Z : CL) (z : Nat) (fuel : Nat) (listed : Array Bool) (e : Env) (I : Heap) (H : HL) : Prop :=
  ∀ a w, Has a cx.n e cx.ds → St cx.w0 cx.D cx.I0 I H w → wpAnyZ cx.P l.toArray Q (SC I1 A Z) z fuel listed a w
section
variable {cx : Cx} {Q : Qt} {e : Env} {I I1 : Heap} {H A : HL} {Z : CL} {z : Nat} {l : List Oper}
def noDefer (ops : Array Oper) : Bool := ops.toList.all fun o => match o.op with
  | .defer _ => false
  | _ => true
theorem noDefer_at {ops : Array Oper} (h : noDefer ops = true) {i : Nat} {o : Oper} (ho : ops[i]? = some o) : ∀ c, o.op ≠ .defer c := by
  intro c hc
  have := List.all_eq_true.1 h o (by have := Array.mem_of_getElem? ho; simpa using this)
  simp [hc] at this
theorem fence_any {rd : Option Nat} {P : Program} {md : Region.Mode} {ops : Array Oper} {Q : Qt} (hd : noDefer ops = true) (hq : ¬ LetsOut Q) : ∀ (fuel : Nat) (listed : Array Bool) (a : Act) (w : World), wpAny P md ops Q fuel listed a w → wpAnyIn { Fence.wide with round := rd } 0 P md ops Q fuel listed a w
  | 0, _, _, _, h => h
  | fuel + 1, listed, a, w, h => ⟨h.1, fun i hi => by
    have h2 := h.2 i hi
    unfold wpOp at h2
    unfold wpOpIn
    cases ho : ops[i]? with
    | none => simp only [ho] at h2 ⊢; exact fence_any hd hq fuel _ _ _ h2
    | some o =>
      simp only [ho] at h2 ⊢
      split
      · rename_i hw
        rw [if_pos hw] at h2
        have hd' : rd = none ∨ ∀ c, o.op ≠ .defer c := .inr (noDefer_at hd ho)
        rcases h2 with h2 | ⟨_, h2⟩
        · exact Oper.wpIn_mono (fun a' w' h3 => fence_any hd hq fuel _ a' w' h3) (fence_wp hd' h2)
        exact (hq h2).elim
      rename_i hw
      rw [if_neg hw] at h2
      exact ⟨fun _ _ => trivial, fence_any hd hq fuel _ _ _ h2⟩⟩
theorem Cj.draw {id : Nat} (A : HL) (Z : CL) (z : Nat) (hm : cx.P.follows .mixedOrders = true) (h : JA cx Q l I A Z z l.toArray.size (Array.replicate l.toArray.size false) e I H) (hnd : cx.rd = none ∨ (noDefer l.toArray = true ∧ ¬ LetsOut Q) := by first | exact .inl rfl | exact .inr ⟨rfl, fun h => h.elim fun _ h => h.elim fun _ h => h⟩) : Cj cx Q (.region id l.toArray true) e I H :=
  hnd.elim (fun hr => Cj.of_wp hr fun a _w ha hs => wp_region_any hm (wpAny_of_Z _ _ _ _ (h a _ ha hs.drew))) fun hd => fun a _w ha hs => wpIn_region_any hm (fence_any hd.1 hd.2 _ _ _ _ (wpAny_of_Z _ _ _ _ (h a _ ha hs.drew)))
theorem Cj.drawSel {id : Nat} (is : List Nat) (Z : CL) (z : Nat) (hm : cx.P.follows .mixedOrders = true) (h : JA cx Q l I (sel is H) Z z l.toArray.size (Array.replicate l.toArray.size false) e I H) (hnd : cx.rd = none ∨ (noDefer l.toArray = true ∧ ¬ LetsOut Q) := by first | exact .inl rfl | exact .inr ⟨rfl, fun h => h.elim fun _ h => h.elim fun _ h => h⟩) : Cj cx Q (.region id l.toArray true) e I H := Cj.draw _ _ z hm h hnd
theorem JA.split {fuel : Nat} {listed : Array Bool} (d : Nat) {b : Bool} (hv : eg e d = some (.bool b)) (h1 : b = true → JA cx Q l I1 A Z z fuel listed e I H) (h0 : b = false → JA cx Q l I1 A Z z fuel listed e I H) : JA cx Q l I1 A Z z fuel listed e I H := by
  cases b
  · exact h0 rfl
  exact h1 rfl
theorem JA.persist {fuel : Nat} {listed : Array Bool} {b : Nat} {o : Obj} (hb : cx.w0.heap.size ≤ b) (k : ∀ I', Le I I' → I' b = some o → JA cx Q l I1 A Z z fuel listed e I' H) : JA cx Q l I1 A Z z fuel listed e I ((b, o) :: H) :=
  fun a w ha hs => k _ (hput_le (hs.dis _ (.head _))) (hput_at b o I) a w ha (hs.persist hb)
theorem JA.done {fuel : Nat} {listed : Array Bool} (hr : Region.ready .any l.toArray listed = []) (h : Ej cx Q .normal e I H) : JA cx Q l I1 A Z z fuel listed e I H :=
  fun a w ha hs => wpAnyZ_done hr (h a w ha hs) fuel
theorem q14 {fuel : Nat} {listed : Array Bool} (h : Ej cx Q .normal e I H) (hr : Region.ready .any l.toArray listed = [] := by kernel_rfl) : JA cx Q l I1 A Z z fuel listed e I H := JA.done hr h
theorem JA.take {fuel : Nat} {listed : Array Bool} (i : Nat) {o : Oper} {d : Nat} {v : Value} (hz : zok l.toArray listed z i = true) (hi : l.toArray[i]? = some o) (hs : Region.noSelect l.toArray = true) (hf : Region.free .any l.toArray listed i = true)
    (hr : (Region.ready .any l.toArray listed).contains i = true) (hq : ∀ c a w, Q (.panic c) (a.put (some d) v) w → Q (.panic c) a w) (hg : o.guard = none) (hd : o.dst = some d) (hn : Nat.blt d cx.n = true) (hA : HSub A H) (hZ : CSub Z H) (hle : Le I1 I)
    (hy : Yld cx o e (SC I1 A Z) v) (k : JA cx Q l I1 A Z z fuel (listed.setIfInBounds i true) ((d, v) :: e) I H) : JA cx Q l I1 A Z z (fuel + 1) listed e I H := by
  intro a w ha hst
  have hss : SC I1 A Z w := ⟨⟨fun b o h => hst.sub b o (hle b o h), fun p hp => hst.own p (hA.mem p hp)⟩, hZ.cell hst.own⟩
  refine wpAnyZ_take (oi := o) hz (v := v) hi hs hf hr (by rw [hd]; exact hq) (.inl ⟨by simp [Region.wanted, hg], fun w' hs' => hy a w' ha hs'⟩) hss ?_
  rw [hd]
  exact k _ _ (ha.put hn) hst
theorem JA.takeG {fuel : Nat} {listed : Array Bool} (i : Nat) {o : Oper} {d : Nat} {v : Value} (j dj : Nat) (want b : Bool) (hz : zok l.toArray listed z i = true) (hi : l.toArray[i]? = some o) (hs : Region.noSelect l.toArray = true) (hf : Region.free .any l.toArray listed i = true)
    (hr : (Region.ready .any l.toArray listed).contains i = true) (hq : ∀ c a w, Q (.panic c) (a.put (some d) v) w → Q (.panic c) a w) (hg : o.guard = some (j, want)) (hdj : (l.toArray[j]?).bind (·.dst) = some dj) (hv : eg e dj = some (.bool b)) (hb : b = want)
    (hd : o.dst = some d) (hn : Nat.blt d cx.n = true) (hA : HSub A H) (hZ : CSub Z H) (hle : Le I1 I)
    (hy : Yld cx o e (SC I1 A Z) v) (k : JA cx Q l I1 A Z z fuel (listed.setIfInBounds i true) ((d, v) :: e) I H) : JA cx Q l I1 A Z z (fuel + 1) listed e I H := by
  intro a w ha hst
  have hss : SC I1 A Z w := ⟨⟨fun b o h => hst.sub b o (hle b o h), fun p hp => hst.own p (hA.mem p hp)⟩, hZ.cell hst.own⟩
  refine wpAnyZ_take (oi := o) hz (v := v) hi hs hf hr (by rw [hd]; exact hq) (.inl ⟨by simp [Region.wanted, hg, yielded_of ha hdj hv, hb], fun w' hs' => hy a w' ha hs'⟩) hss ?_
  rw [hd]
  exact k _ _ (ha.put hn) hst
theorem JA.takeS {fuel : Nat} {listed : Array Bool} (i : Nat) {o : Oper} {d : Nat} (j dj : Nat) (want : Bool) (u : Value) (hz : zok l.toArray listed z i = true) (hi : l.toArray[i]? = some o) (hs : Region.noSelect l.toArray = true) (hf : Region.free .any l.toArray listed i = true)
    (hr : (Region.ready .any l.toArray listed).contains i = true) (hq : ∀ c a w, Q (.panic c) (a.put (some d) undef) w → Q (.panic c) a w) (hg : o.guard = some (j, want)) (hdj : (l.toArray[j]?).bind (·.dst) = some dj) (hv : eg e dj = some u)
    (hb : u = .bool (!want) ∨ u = undef) (hd : o.dst = some d) (hn : Nat.blt d cx.n = true) (hA : HSub A H) (hZ : CSub Z H) (hle : Le I1 I)
    (k : JA cx Q l I1 A Z z fuel (listed.setIfInBounds i true) ((d, undef) :: e) I H) : JA cx Q l I1 A Z z (fuel + 1) listed e I H := by
  intro a w ha hst
  have hss : SC I1 A Z w := ⟨⟨fun b o h => hst.sub b o (hle b o h), fun p hp => hst.own p (hA.mem p hp)⟩, hZ.cell hst.own⟩
  have hw : Region.wanted o (yielded l.toArray a.tmps) = false := by
    have hg2 := ha.get dj _ hv
    rcases hb with rfl | rfl
    · simp [Region.wanted, hg, yielded_of ha hdj hv]
    have hy : yielded l.toArray a.tmps j = none := by simp only [yielded, hdj, Option.bind_some, hg2, undef]
    simp [Region.wanted, hg, hy]
  refine wpAnyZ_take (oi := o) hz (v := undef) hi hs hf hr (by rw [hd]; exact hq) (.inr ⟨hw, rfl⟩) hss ?_
  rw [hd]
  exact k _ _ (ha.put hn) hst
def JFix (I1 : Heap) (A : HL) (Z : CL) (I : Heap) (H : HL) : Prop := HSub A H ∧ CSub Z H ∧ Le I1 I
theorem JA.fix {fuel : Nat} {listed : Array Bool} (h : JFix I1 A Z I H) (k : JFix I1 A Z I H → JA cx Q l I1 A Z z fuel listed e I H) : JA cx Q l I1 A Z z fuel listed e I H := k h
theorem JA.tk {fuel : Nat} {listed : Array Bool} (i : Nat) {o : Oper} {d : Nat} {v : Value} (hi : l.toArray[i]? = some o) (hx : JFix I1 A Z I H) (hy : Yld cx o e (SC I1 A Z) v) (k : JA cx Q l I1 A Z z fuel (listed.setIfInBounds i true) ((d, v) :: e) I H)
    (hd : o.dst = some d := by rfl) (hg : o.guard = none := by rfl) (hn : Nat.blt d cx.n = true := by rfl) (hz : zok l.toArray listed z i = true := by first | rfl | kernel_rfl) (hs : Region.noSelect l.toArray = true := by kernel_rfl) (hf : Region.free .any l.toArray listed i = true := by kernel_rfl)
    (hr : (Region.ready .any l.toArray listed).contains i = true := by kernel_rfl) (hq : ∀ c a w, Q (.panic c) (a.put (some d) v) w → Q (.panic c) a w := by exact fun _ _ _ h => h) : JA cx Q l I1 A Z z (fuel + 1) listed e I H :=
  JA.take i hz hi hs hf hr hq hg hd hn hx.1 hx.2.1 hx.2.2 hy k
theorem JA.tkG {fuel : Nat} {listed : Array Bool} (i : Nat) {o : Oper} {d : Nat} {v : Value} (j dj : Nat) (want b : Bool) (hi : l.toArray[i]? = some o) (hx : JFix I1 A Z I H) (hdj : (l.toArray[j]?).bind (·.dst) = some dj) (hv : eg e dj = some (.bool b)) (hb : b = want) (hy : Yld cx o e (SC I1 A Z) v)
    (k : JA cx Q l I1 A Z z fuel (listed.setIfInBounds i true) ((d, v) :: e) I H) (hd : o.dst = some d := by rfl) (hg : o.guard = some (j, want) := by rfl) (hn : Nat.blt d cx.n = true := by rfl) (hz : zok l.toArray listed z i = true := by first | rfl | kernel_rfl) (hs : Region.noSelect l.toArray = true := by kernel_rfl)
    (hf : Region.free .any l.toArray listed i = true := by kernel_rfl) (hr : (Region.ready .any l.toArray listed).contains i = true := by kernel_rfl) (hq : ∀ c a w, Q (.panic c) (a.put (some d) v) w → Q (.panic c) a w := by exact fun _ _ _ h => h) : JA cx Q l I1 A Z z (fuel + 1) listed e I H :=
  JA.takeG i j dj want b hz hi hs hf hr hq hg hdj hv hb hd hn hx.1 hx.2.1 hx.2.2 hy k
theorem JA.tkS {fuel : Nat} {listed : Array Bool} (i : Nat) {o : Oper} {d : Nat} (j dj : Nat) (want : Bool) (u : Value) (hi : l.toArray[i]? = some o) (hx : JFix I1 A Z I H) (hdj : (l.toArray[j]?).bind (·.dst) = some dj) (hv : eg e dj = some u) (hb : u = .bool (!want) ∨ u = undef)
    (k : JA cx Q l I1 A Z z fuel (listed.setIfInBounds i true) ((d, undef) :: e) I H) (hd : o.dst = some d := by rfl) (hg : o.guard = some (j, want) := by rfl) (hn : Nat.blt d cx.n = true := by rfl) (hz : zok l.toArray listed z i = true := by first | rfl | kernel_rfl) (hs : Region.noSelect l.toArray = true := by kernel_rfl)
    (hf : Region.free .any l.toArray listed i = true := by kernel_rfl) (hr : (Region.ready .any l.toArray listed).contains i = true := by kernel_rfl) (hq : ∀ c a w, Q (.panic c) (a.put (some d) undef) w → Q (.panic c) a w := by exact fun _ _ _ h => h) : JA cx Q l I1 A Z z (fuel + 1) listed e I H :=
  JA.takeS i j dj want u hz hi hs hf hr hq hg hdj hv hb hd hn hx.1 hx.2.1 hx.2.2 k
theorem q29 {fuel : Nat} {listed : Array Bool} (i : Nat) {o : Oper} {d : Nat} (j : Nat) (dj : Nat) (want : Bool) {u : Value} (hx : JFix I1 A Z I H) (k : JA cx Q l I1 A Z z fuel (listed.setIfInBounds i true) ((d, undef) :: e) I H) (hi : l.toArray[i]? = some o := by exact rfl) (hdj : (l.toArray[j]?).bind (·.dst) = some dj := by exact rfl) (hv : eg e dj = some u := by exact rfl) (hb : u = .bool (!want) ∨ u = undef := by exact .inl (congrArg Value.bool rfl)) (hd : o.dst = some d := by rfl) (hg : o.guard = some (j, want) := by rfl) (hn : Nat.blt d cx.n = true := by rfl) (hz : zok l.toArray listed z i = true := by first | rfl | kernel_rfl) (hs : Region.noSelect l.toArray = true := by kernel_rfl) (hf : Region.free .any l.toArray listed i = true := by kernel_rfl) (hr : (Region.ready .any l.toArray listed).contains i = true := by kernel_rfl) (hq : ∀ c a w, Q (.panic c) (a.put (some d) undef) w → Q (.panic c) a w := by exact fun _ _ _ h => h) : JA cx Q l I1 A Z z (fuel + 1) listed e I H := JA.tkS i j dj want u hi hx hdj hv hb k (hd := hd) (hg := hg) (hn := hn) (hz := hz) (hs := hs) (hf := hf) (hr := hr) (hq := hq)
theorem q20 {fuel : Nat} {listed : Array Bool} (i : Nat) {o : Oper} {d : Nat} (j : Nat) (dj : Nat) (want : Bool) {u : Value} (hx : JFix I1 A Z I H) (hb : u = .bool (!want) ∨ u = undef) (k : JA cx Q l I1 A Z z fuel (listed.setIfInBounds i true) ((d, undef) :: e) I H) (hi : l.toArray[i]? = some o := by exact rfl) (hdj : (l.toArray[j]?).bind (·.dst) = some dj := by exact rfl) (hv : eg e dj = some u := by exact rfl) (hd : o.dst = some d := by rfl) (hg : o.guard = some (j, want) := by rfl) (hn : Nat.blt d cx.n = true := by rfl) (hz : zok l.toArray listed z i = true := by first | rfl | kernel_rfl) (hs : Region.noSelect l.toArray = true := by kernel_rfl) (hf : Region.free .any l.toArray listed i = true := by kernel_rfl) (hr : (Region.ready .any l.toArray listed).contains i = true := by kernel_rfl) (hq : ∀ c a w, Q (.panic c) (a.put (some d) undef) w → Q (.panic c) a w := by exact fun _ _ _ h => h) : JA cx Q l I1 A Z z (fuel + 1) listed e I H := JA.tkS i j dj want u hi hx hdj hv hb k (hd := hd) (hg := hg) (hn := hn) (hz := hz) (hs := hs) (hf := hf) (hr := hr) (hq := hq)
theorem JA.step {fuel : Nat} {listed : Array Bool} (i : Nat) {o : Oper} (hr : Region.ready .any l.toArray listed = [i]) (hi : l.toArray[i]? = some o) (hg : o.guard = none)
    (k : OpJ cx Q o e I H (fun e' I' H' => (Le I1 I' ∧ HSub A H' ∧ CSub Z H') ∧ JA cx Q l I1 A Z z fuel (listed.setIfInBounds i true) e' I' H')) : JA cx Q l I1 A Z z (fuel + 1) listed e I H := by
  intro a w ha hst
  refine wpAnyZ_all hr (by simp) fun j hj => ?_
  obtain rfl : j = i := by simpa using hj
  unfold wpOp
  simp only [hi]
  rw [if_pos (by simp [Region.wanted, hg])]
  refine .inl (k _ (fun e' I' H' ⟨⟨hle, hA, hZ⟩, hj⟩ a' w' ha' hs' => ⟨fun _ => ⟨⟨fun b o h => hs'.sub b o (hle b o h), fun p hp => hs'.own p (hA.mem p hp)⟩, hZ.cell hs'.own⟩, hj a' w' ha' hs'⟩) a w ha hst)
theorem q13 {fuel : Nat} {listed : Array Bool} (i : Nat) {o : Oper} (hi : l.toArray[i]? = some o) (k : OpJ cx Q o e I H (fun e' I' H' => (Le I1 I' ∧ HSub A H' ∧ CSub Z H') ∧ JA cx Q l I1 A Z z fuel (listed.setIfInBounds i true) e' I' H')) (hr : Region.ready .any l.toArray listed = [i] := by kernel_rfl) (hg : o.guard = none := by exact rfl) : JA cx Q l I1 A Z z (fuel + 1) listed e I H := JA.step i hr hi hg k
theorem JA.last {fuel : Nat} {listed : Array Bool} (i : Nat) {o : Oper} (hr : Region.ready .any l.toArray listed = [i]) (hz : i = z) (hi : l.toArray[i]? = some o) (hg : o.guard = none)
    (k : OpJ cx Q o e I H (fun e' I' H' => JA cx Q l I1 A Z z fuel (listed.setIfInBounds i true) e' I' H')) : JA cx Q l I1 A Z z (fuel + 1) listed e I H := by
  intro a w ha hst
  refine wpAnyZ_all hr (by simp) fun j hj => ?_
  obtain rfl : j = i := by simpa using hj
  unfold wpOp
  simp only [hi]
  rw [if_pos (by simp [Region.wanted, hg])]
  refine .inl (k _ (fun e' I' H' hj a' w' ha' hs' => ⟨fun h => absurd hz h, hj a' w' ha' hs'⟩) a w ha hst)
theorem JA.stepG {fuel : Nat} {listed : Array Bool} (i : Nat) {o : Oper} (j dj : Nat) (want b : Bool) (hr : Region.ready .any l.toArray listed = [i]) (hi : l.toArray[i]? = some o) (hg : o.guard = some (j, want))
    (hdj : (l.toArray[j]?).bind (·.dst) = some dj) (hv : eg e dj = some (.bool b)) (hb : b = want)
    (k : OpJ cx Q o e I H (fun e' I' H' => (Le I1 I' ∧ HSub A H' ∧ CSub Z H') ∧ JA cx Q l I1 A Z z fuel (listed.setIfInBounds i true) e' I' H')) : JA cx Q l I1 A Z z (fuel + 1) listed e I H := by
  intro a w ha hst
  refine wpAnyZ_all hr (by simp) fun j hj => ?_
  obtain rfl : j = i := by simpa using hj
  unfold wpOp
  simp only [hi]
  rw [if_pos (by simp [Region.wanted, hg, yielded_of ha hdj hv, hb])]
  refine .inl (k _ (fun e' I' H' ⟨⟨hle, hA, hZ⟩, hj⟩ a' w' ha' hs' => ⟨fun _ => ⟨⟨fun b o h => hs'.sub b o (hle b o h), fun p hp => hs'.own p (hA.mem p hp)⟩, hZ.cell hs'.own⟩, hj a' w' ha' hs'⟩) a w ha hst)
theorem JA.all {fuel : Nat} {listed : Array Bool} (rs : List Nat) (hr : Region.ready .any l.toArray listed = rs) (hne : rs ≠ [])
    (k : ∀ i ∈ rs, ∃ o, l.toArray[i]? = some o ∧ o.guard = none ∧ OpJ cx Q o e I H (fun e' I' H' => (Le I1 I' ∧ HSub A H' ∧ CSub Z H') ∧ JA cx Q l I1 A Z z fuel (listed.setIfInBounds i true) e' I' H')) : JA cx Q l I1 A Z z (fuel + 1) listed e I H := by
  intro a w ha hst
  refine wpAnyZ_all hr hne fun j hj => ?_
  obtain ⟨o, hi, hg, k⟩ := k j hj
  unfold wpOp
  simp only [hi]
  rw [if_pos (by simp [Region.wanted, hg])]
  refine .inl (k _ (fun e' I' H' ⟨⟨hle, hA, hZ⟩, hj⟩ a' w' ha' hs' => ⟨fun _ => ⟨⟨fun b o h => hs'.sub b o (hle b o h), fun p hp => hs'.own p (hA.mem p hp)⟩, hZ.cell hs'.own⟩, hj a' w' ha' hs'⟩) a w ha hst)
end
end Go.Sx
namespace Go.Sx
theorem St.forget {w0 w : World} {D : List Nat} {I0 I : Heap} {H : HL} (h : St w0 D I0 I H w) : St w0 D I0 I0 H w :=
  ⟨h.os, h.tape, h.output, h.size, h.frm, fun b o hb => h.sub b o (h.le b o hb), h.own, h.nodup, fun p hp => (by
    cases hi : I0 p.1 with
    | none => rfl
    | some o => (have := h.dis p hp; rw [h.le _ _ hi] at this; cases this)), h.new, fun _ _ => rfl, Le.refl _⟩
theorem Ctr.forget {P : Program} {f : FuncId} {args : List Value} {I : Heap} {H : HL} {post post' : Ending → Heap → HL → Prop} (h : Ctr P f args I H post)
    (hp : ∀ e I' H', Le I I' → post e I' H' → post' e I H') : Ctr P f args I H post' :=
  ⟨h.1, fun w hw => (h.2 w hw).mono fun e _w' ⟨I', H', hs, hq⟩ => ⟨I, H', hs.forget, hp e I' H' hs.le hq⟩⟩
theorem Ctr.toPure {P : Program} {f : FuncId} {args : List Value} {I : Heap} {v : Value} (h : Ctr P f args I [] (fun e _ H' => e = .returned v ∧ H' = [])) : Pure P f args I v :=
  h.forget fun _ _ _ _ ⟨h1, h2⟩ => ⟨h1, rfl, h2⟩
end Go.Sx
namespace Go.Sx
open Go
abbrev Gs := Option (Nat × Nat × List Value)
def gH (E : TypeId) (xs : List Value) : Gs → HL
  | none => []
  | some (b, _, sp) => [(b, cel E (xs ++ sp))]
def gV (n : Nat) : Gs → Value
  | none => .slice none 0 0
  | some (b, c, _) => .slice (some ⟨b, 0, none⟩) n c
def gOk (base sz n : Nat) (xs : List Value) : Gs → Prop
  | none => n = 0 ∧ xs = []
  | some (b, c, sp) => base ≤ b ∧ xs.length = n * sz ∧ xs.length + sp.length = c * sz
theorem gOk.len {base sz n : Nat} {xs : List Value} {g : Gs} (h : gOk base sz n xs g) : xs.length = n * sz := by
  cases g with
  | none => obtain ⟨rfl, rfl⟩ := h; simp
  | some p => exact h.2.1
theorem gOk.some {base sz n : Nat} {xs : List Value} {g : Gs} (h : gOk base sz n xs g) (hn : 0 < n) : ∃ b c sp, g = .some (b, c, sp) ∧ base ≤ b := by
  cases g with
  | none => obtain ⟨rfl, _⟩ := h; omega
  | some p => exact ⟨p.1, p.2.1, p.2.2, rfl, h.1⟩
theorem drop_app {α : Type} (xs sp : List α) (k : Nat) : (xs ++ sp).drop (xs.length + k) = sp.drop k := by
  rw [← List.drop_drop, List.drop_left]
theorem grow_le (newLen : Nat) : ∀ (r c : Nat), c ≤ 2 * newLen + 768 → Builtin.growBy newLen r c ≤ 2 * newLen + 768
  | 0, c, h => h
  | r + 1, c, h => by
    unfold Builtin.growBy
    split
    · exact h
    exact grow_le newLen r _ (by omega)
theorem nextcap_le (need cap : Nat) (h : cap < need) : Builtin.nextslicecap need cap ≤ 2 * need + 768 := by
  unfold Builtin.nextslicecap
  split
  · omega
  split
  · omega
  exact grow_le need 4 cap (by omega)
theorem run_loadCells_blk {P : Program} {w : World} {b off n : Nat} {cs xs : List Value} {t : TypeId} {fr : Nat × Nat} (h : w.heap[b]? = some (.cells cs.toArray t fr)) (hx : (cs.drop off).take n = xs) (hn : xs.length = n) :
    (loadCells ⟨b, off, none⟩ n).run P w = .ok xs.toArray w := by
  have hc : ∀ j v, xs[j]? = some v → w.cell? ((⟨b, off, none⟩ : Addr).add j) = some v := fun j v hj => by
    rw [Addr.add_lit]
    refine cell_of_heap h ?_
    rw [← hx, List.getElem?_take] at hj
    split at hj
    · simpa [List.getElem?_drop] using hj
    cases hj
  have := run_loadCells_list (P := P) (w := w) ⟨b, off, none⟩ xs hc
  rwa [hn] at this
def Src (P : Program) (I : Heap) (H : HL) (sz m : Nat) (y : Value) (ys : List Value) : Prop :=
  ys.length = m * sz ∧ ys.all Value.oneCell' = true ∧ (∀ w, SS I H w → (Builtin.lenOf y).run P w = .ok m w) ∧ ∀ w, SS I H w → (Builtin.firstCells sz m y).run P w = .ok ys.toArray w
theorem Src.slice {P : Program} {I : Heap} {H : HL} {sz m b off c : Nat} {cs ys : List Value} {t : TypeId} {fr : Nat × Nat} (hb : Blk (SS I H) b (.cells cs.toArray t fr)) (hx : (cs.drop off).take (m * sz) = ys) (hn : ys.length = m * sz) (h1 : ys.all Value.oneCell' = true) :
    Src P I H sz m (.slice (some ⟨b, off, none⟩) m c) ys :=
  ⟨hn, h1, fun _ _ => rfl, fun w hs => by
    simp only [Builtin.firstCells]
    exact run_loadCells_blk (hb w hs) hx hn⟩
theorem Src.nil {P : Program} {I : Heap} {H : HL} {sz c : Nat} {p : Option Addr} : Src P I H sz 0 (.slice p 0 c) [] :=
  ⟨by simp, rfl, fun _ _ => rfl, fun w _ => by
    cases p <;> simp [Builtin.firstCells, loadCells, loadCellsFrom]⟩
def bcs (l : List UInt8) : List Value := l.map fun c => u8 c
theorem Src.str {P : Program} {I : Heap} {H : HL} {l : List UInt8} : Src P I H 1 l.length (str l) (bcs l) := by
  refine ⟨by simp [bcs], by simp [bcs, Value.oneCell'], fun _ _ => by simp [Builtin.lenOf, Sx.str, size_mk], fun w _ => ?_⟩
  have hex : (⟨l.toArray⟩ : ByteArray).extract 0 l.length = ⟨l.toArray⟩ := by
    apply ByteArray.ext
    simp [ByteArray.data_extract]
  simp only [Builtin.firstCells, Sx.str, hex, Sem.run_pure, bcs]
  simp
theorem ext_cons {e : Env} {d : Nat} {v : Value} (h : eg e d = some v) : ∀ t u, eg ((d, v) :: e) t = some u → eg e t = some u := fun t u hu => by
  rw [eg_cons] at hu
  by_cases hk : d = t
  · subst hk; simp at hu; subst hu; exact h
  simpa [hk] using hu
theorem Has.ext {a : Act} {n : Nat} {e e' : Env} {ds : List Deferred} (h : Has a n e ds) (hs : ∀ t u, eg e' t = some u → eg e t = some u) : Has a n e' ds := ⟨h.size, h.defs, fun t v hv => h.get t v (hs t v hv)⟩
theorem Cj.ext {cx : Cx} {Q : Qt} {e e' : Env} {I : Heap} {H : HL} {c : Code} (hs : ∀ t u, eg e' t = some u → eg e t = some u) (h : Cj cx Q c e' I H) : Cj cx Q c e I H := fun a w ha h1 => h a w (ha.ext hs) h1
theorem J.ext {cx : Cx} {Q : Qt} {e e' : Env} {I : Heap} {H : HL} {ops : Array Oper} {l : List Oper} (hs : ∀ t u, eg e' t = some u → eg e t = some u) (h : J cx Q ops l e' I H) : J cx Q ops l e I H := fun a w ha h1 => h a w (ha.ext hs) h1
section
variable {cx : Cx} {Q : Qt} {o : Oper} {e : Env} {I : Heap} {H : HL} {C : Ct} {S : World → Prop}
theorem op_appendB {T E d sz by' n m : Nat} (base : Nat) (hbase : base ≤ cx.w0.heap.size) {x y : Operand} {U : TypeId} {g : Gs} {xs ys : List Value} {yv z : Value} (R : HL) (ho : o.op = .call ⟨.builtin .append, #[x, y], #[T, U]⟩) (hd : o.dst = some d) (hn : Nat.blt d cx.n = true)
    (hx : ev e x = some (gV n g)) (hy : ev e y = some yv) (hu : cx.P.underlying T = some (.slice E)) (hU : cx.P.underlying U = some .string ∨ ∃ E', cx.P.underlying U = some (.slice E'))
    (hi0 : (cx.P.info? E).map (·.bytes) = some (by' + 1)) (hsz : ∀ w, (sizeOf E).run cx.P w = .ok sz w) (hz : ∀ w, (zeroValue E).run cx.P w = .ok z w) (hzs : z.cells.size = sz)
    (hg : gOk base sz n xs g) (hH : H = R ++ gH E xs g) (hs : Src cx.P I H sz m yv ys) (hroom : (2 * (n + m) + 768) * (by' + 1) ≤ 281474976710656)
    (k : ∀ g', gOk base sz (n + m) (xs ++ ys) g' → C ((d, gV (n + m) g') :: e) I (R ++ gH E (xs ++ ys) g')) : OpJ cx Q o e I H C := by
  intro K hK a w ha hst
  obtain ⟨hs1, hs2, hs3, hs4⟩ := hs
  obtain ⟨i, hi, hby⟩ : ∃ i, cx.P.info? E = some i ∧ i.bytes = by' + 1 := by
    cases h : cx.P.info? E with
    | none => rw [h] at hi0; cases hi0
    | some i => rw [h] at hi0; exact ⟨i, rfl, by simpa using hi0⟩
  have hss := hst.ss
  have hlen := hg.len
  unfold Oper.wp
  have key : ∃ w' g', (execOp a.eval o).run cx.P w = .ok (.value (gV (n + m) g')) w' ∧ gOk base sz (n + m) (xs ++ ys) g' ∧ St cx.w0 cx.D cx.I0 I (R ++ gH E (xs ++ ys) g') w' := by
    have hti : ∀ w', (typeInfo E).run cx.P w' = .ok i w' := fun w' => by simp [typeInfo, hi]
    have pre : ∀ (b? : Option Addr) (c : Nat), gV n g = .slice b? n c → (execOp a.eval o).run cx.P w =
        ((Builtin.append_ #[T, U] o.type #[.slice b? n c, yv]).run cx.P w).andThen fun v w' => .ok (.value v) w' := by
      intro b? c hv
      simp only [execOp, ho, resolve, invoke, builtin, Sem.run_bind, Sem.run_pure, Result.andThen_ok, List.map_toArray, List.map_cons, List.map_nil, ha.eval hx, ha.eval hy, hv]
    have fits : ∀ (b? : Option Addr) (c : Nat), n + m ≤ c → (Builtin.append_ #[T, U] o.type #[.slice b? n c, yv]).run cx.P w =
        (match b? with
          | some a => (storeCells (a.add (n * sz)) ys).run cx.P w
          | none => .ok () w).andThen fun _ w' => .ok (.slice b? (n + m) c) w' := by
      intro b? c hfit
      rcases hU with hU1 | ⟨E', hU1⟩ <;> cases b? <;> simp [Builtin.append_, run_underlying hu, run_underlying hU1, hsz, hs3 w hss, hs4 w hss, hfit]
    have grows : ∀ (b? : Option Addr) (c : Nat) (old : Array Value), ¬ n + m ≤ c → c < n + m → (∀ w', SS I H w' → (Builtin.firstCells sz n (.slice b? n c)).run cx.P w' = .ok old w') →
        (Builtin.append_ #[T, U] o.type #[.slice b? n c, yv]).run cx.P w =
          let cap := (Question.appendCap (n + m) c E).cut (w.tape w.drawn (.appendCap (n + m) c E))
          .ok (.slice (some ⟨w.heap.size, 0, none⟩) (n + m) cap) { { w with drawn := w.drawn + 1 } with heap := w.heap.push (.cells (old ++ ys.toArray ++ Builtin.zeroCells z.cells (cap - (n + m))) E (0, 0)) } := by
      intro b? c old hfit hc hold
      have hb1 : ¬ (2 ^ 48 < Builtin.nextslicecap (n + m) c * i.bytes) := by
        have := nextcap_le (n + m) c hc
        rw [hby]
        have h2 := Nat.mul_le_mul_right (by' + 1) this
        have h3 : (2 : Nat) ^ 48 = 281474976710656 := by decide
        omega
      have hb2 : ¬ i.bytes = 0 := by omega
      have hss1 : SS I H { w with drawn := w.drawn + 1 } := hss
      rcases hU with hU1 | ⟨E', hU1⟩ <;> simp only [Builtin.append_, List.getElem?_toArray, List.getElem?_cons_zero, List.getElem?_cons_succ, Sem.run_bind, Sem.run_pure, run_underlying hu, run_underlying hU1, Result.andThen_ok, hsz, hs3 w hss, Bool.false_eq_true, if_false, Sem.run_ite, hfit, hti, hb1, hb2, false_or, and_false, gt_iff_lt, run_choose, Question.forced, run_askRoom, hold _ hss1, Bool.not_false, if_true, hs4 _ hss1, hz, newRow, run_newObj]
    cases g with
    | none =>
      obtain ⟨rfl, rfl⟩ := hg
      rw [pre none 0 rfl]
      have h0c : ∀ w', SS I H w' → (Builtin.firstCells sz 0 (.slice none 0 0)).run cx.P w' = .ok #[] w' := fun w' _ => by simp [Builtin.firstCells]
      by_cases hm : m = 0
      · subst hm
        have hys : ys = [] := List.length_eq_zero_iff.1 (by simpa using hs1)
        subst hys
        refine ⟨w, none, ?_, ⟨by simp, by simp⟩, by simpa [gH, hH] using hst⟩
        rw [fits none 0 (by omega)]
        simp [gV]
      rw [grows none 0 #[] (by omega) (by omega) h0c]
      let cap := (Question.appendCap (0 + m) 0 E).cut (w.tape w.drawn (.appendCap (0 + m) 0 E))
      refine ⟨{ { w with drawn := w.drawn + 1 } with heap := w.heap.push (.cells (#[] ++ ys.toArray ++ Builtin.zeroCells z.cells (cap - (0 + m))) E (0, 0)) }, some (w.heap.size, cap, (Builtin.zeroCells z.cells (cap - (0 + m))).toList), ?_, ?_, ?_⟩
      · rfl
      · have hcap : m ≤ cap := by simp only [cap, Question.cut]; omega
        refine ⟨Nat.le_trans hbase hst.size, by simp [hs1], ?_⟩
        simp only [Builtin.zeroCells, Array.length_toList, Array.size_map, Array.size_range, List.nil_append, hs1, hzs]
        rw [← Nat.add_mul]
        congr 1; omega
      have h0 := (hst.drewN (w.drawn + 1)).alloc (.cells (#[] ++ ys.toArray ++ Builtin.zeroCells z.cells (cap - (0 + m))) E (0, 0))
      have hcell : (Obj.cells (#[] ++ ys.toArray ++ Builtin.zeroCells z.cells (cap - (0 + m))) E (0, 0)) = cel E ([] ++ ys ++ (Builtin.zeroCells z.cells (cap - (0 + m))).toList) := by
        simp [cel]
      rw [hcell] at h0 ⊢
      subst hH
      simp only [gH, List.append_nil] at h0 ⊢
      refine h0.perm ?_
      exact List.perm_append_comm
    | some p =>
      obtain ⟨b, c, sp⟩ := p
      obtain ⟨hb0, hxl, hcl⟩ := hg
      rw [pre (some ⟨b, 0, none⟩) c rfl]
      have hmem : (b, cel E (xs ++ sp)) ∈ H := by rw [hH]; simp [gH]
      have hblk := hst.own _ hmem
      by_cases hfit : n + m ≤ c
      · rw [fits _ _ hfit]
        have hle : ys.length ≤ sp.length := by
          have : (n + m) * sz ≤ c * sz := Nat.mul_le_mul_right sz hfit
          rw [Nat.add_mul] at this; omega
        have hspl : LSpl (xs ++ sp) (n * sz + 0) ys (xs ++ ys ++ sp.drop ys.length) := by
          refine ⟨by simp only [List.length_append]; omega, ?_⟩
          rw [Nat.add_zero, ← hxl, List.take_left' rfl, drop_app]
        have hrun := run_storeCells (P := cx.P) (b := b) (off := n * sz) (t := E) ys 0 w (xs ++ sp) hblk (.inl rfl) (by simp only [List.length_append]; omega) (fun u hu => (List.all_eq_true.1 hs2) u hu) _ hspl
        refine ⟨World.block w b (.cells (xs ++ ys ++ sp.drop ys.length).toArray E (0, 0)), some (b, c, sp.drop ys.length), ?_, ?_, ?_⟩
        · simp only [Result.andThen_ok, Addr.add_lit, Nat.zero_add, hrun, gV]
        · exact ⟨hb0, by simp [hxl, hs1, Nat.add_mul], by simp; omega⟩
        subst hH
        have hidx : (R ++ gH E xs (some (b, c, sp)))[R.length]? = some (b, cel E (xs ++ sp)) := by simp [gH]
        have hset : LSet (R ++ gH E xs (some (b, c, sp))) R.length (b, cel E (xs ++ ys ++ sp.drop ys.length)) (R ++ gH E (xs ++ ys) (some (b, c, sp.drop ys.length))) := by
          refine ⟨by simp [gH], ?_⟩
          rw [List.set_append_right _ _ (Nat.le_refl _)]
          simp [gH]
        exact hst.block hidx hset
      have hold : ∀ w', SS I H w' → (Builtin.firstCells sz n (.slice (some ⟨b, 0, none⟩) n c)).run cx.P w' = .ok xs.toArray w' := fun w' hw' =>
        run_loadCells_blk (cs := xs ++ sp) (hw'.2 _ hmem) (by rw [List.drop_zero, ← hxl, List.take_left']; rfl) hxl
      rw [grows _ _ _ hfit (by omega) hold]
      let cap := (Question.appendCap (n + m) c E).cut (w.tape w.drawn (.appendCap (n + m) c E))
      refine ⟨{ { w with drawn := w.drawn + 1 } with heap := w.heap.push (.cells (xs.toArray ++ ys.toArray ++ Builtin.zeroCells z.cells (cap - (n + m))) E (0, 0)) }, some (w.heap.size, cap, (Builtin.zeroCells z.cells (cap - (n + m))).toList), ?_, ?_, ?_⟩
      · rfl
      · have hcap : n + m ≤ cap := by simp only [cap, Question.cut]; omega
        refine ⟨Nat.le_trans hbase hst.size, by simp [hxl, hs1, Nat.add_mul], ?_⟩
        simp only [Builtin.zeroCells, Array.length_toList, Array.size_map, Array.size_range, List.length_append, hxl, hs1, hzs]
        rw [← Nat.add_mul, ← Nat.add_mul]
        congr 1; omega
      have h0 := (hst.drewN (w.drawn + 1)).alloc (.cells (xs.toArray ++ ys.toArray ++ Builtin.zeroCells z.cells (cap - (n + m))) E (0, 0))
      have hcell : (Obj.cells (xs.toArray ++ ys.toArray ++ Builtin.zeroCells z.cells (cap - (n + m))) E (0, 0)) = cel E (xs ++ ys ++ (Builtin.zeroCells z.cells (cap - (n + m))).toList) := by
        simp [cel]
      rw [hcell] at h0 ⊢
      subst hH
      have h1 := h0.sublist (H' := (w.heap.size, cel E (xs ++ ys ++ (Builtin.zeroCells z.cells (cap - (n + m))).toList)) :: R) (List.Sublist.cons_cons _ (List.sublist_append_left _ _))
      refine h1.perm ?_
      exact List.perm_append_comm
  obtain ⟨w', g', h1, h2, h3⟩ := key
  rw [h1]
  simp only [Oper.upon, hd]
  exact hK _ _ _ (k g' h2) _ _ (ha.put hn) h3
theorem op_append {T E d sz by' n m : Nat} {x y : Operand} {U : TypeId} {g : Gs} {xs ys : List Value} {yv z : Value} (R : HL) (ho : o.op = .call ⟨.builtin .append, #[x, y], #[T, U]⟩) (hd : o.dst = some d) (hn : Nat.blt d cx.n = true)
    (hx : ev e x = some (gV n g)) (hy : ev e y = some yv) (hu : cx.P.underlying T = some (.slice E)) (hU : cx.P.underlying U = some .string ∨ ∃ E', cx.P.underlying U = some (.slice E'))
    (hi0 : (cx.P.info? E).map (·.bytes) = some (by' + 1)) (hsz : ∀ w, (sizeOf E).run cx.P w = .ok sz w) (hz : ∀ w, (zeroValue E).run cx.P w = .ok z w) (hzs : z.cells.size = sz)
    (hg : gOk cx.w0.heap.size sz n xs g) (hH : H = R ++ gH E xs g) (hs : Src cx.P I H sz m yv ys) (hroom : (2 * (n + m) + 768) * (by' + 1) ≤ 281474976710656)
    (k : ∀ g', gOk cx.w0.heap.size sz (n + m) (xs ++ ys) g' → C ((d, gV (n + m) g') :: e) I (R ++ gH E (xs ++ ys) g')) : OpJ cx Q o e I H C :=
  op_appendB cx.w0.heap.size (Nat.le_refl _) R ho hd hn hx hy hu hU hi0 hsz hz hzs hg hH hs hroom k
theorem J.eqv {ops : Array Oper} {l : List Oper} (d : Nat) {v v' : Value} (hv : eg e d = some v) (h : v = v') (k : J cx Q ops l ((d, v') :: e) I H) : J cx Q ops l e I H :=
  J.ext (e' := (d, v') :: e) (ext_cons (h ▸ hv)) k
theorem JA.eqv {I1 : Heap} {A : HL} {Z : CL} {z : Nat} {l : List Oper} {fuel : Nat} {listed : Array Bool} (d : Nat) {v v' : Value} (hv : eg e d = some v) (h : v = v') (k : JA cx Q l I1 A Z z fuel listed ((d, v') :: e) I H) : JA cx Q l I1 A Z z fuel listed e I H :=
  fun a w ha hs => k a w (ha.ext (ext_cons (h ▸ hv))) hs
theorem Cj.eqv {c : Code} (d : Nat) {v v' : Value} (hv : eg e d = some v) (h : v = v') (k : Cj cx Q c ((d, v') :: e) I H) : Cj cx Q c e I H :=
  Cj.ext (e' := (d, v') :: e) (ext_cons (h ▸ hv)) k
theorem yl_build {T : Nat} {parts : List (Nat × Operand)} {vs : List Value} {v : Value} (ho : o.op = .build T parts.toArray) (hv : evs e (parts.map (·.2)) = some vs)
    (hr : ∀ w, (Instr.build T ((parts.map (·.1)).zip vs).toArray).run cx.P w = .ok v w) : Yld cx o e S v := by
  intro a w ha _
  have hp : (parts.toArray.map fun (i, x) => (i, a.eval x)) = ((parts.map (·.1)).zip vs).toArray := by
    have := ha.evals hv
    rw [← this]
    simp [List.zip_map', List.map_map]
  simp only [execOp, ho, Sem.run_bind, hp, hr, Result.andThen_ok, Sem.run_pure]
def LBld (pl : Array (Nat × Nat)) (cs : List Value) (parts : List (Nat × Value)) (cs' : List Value) : Prop := Instr.fill (pl[·]?) cs.toArray parts = some cs'.toArray
theorem LBld.none {pl : Array (Nat × Nat)} {cs : List Value} : LBld pl cs [] cs := rfl
theorem LBld.part {pl : Array (Nat × Nat)} {cs vs cs1 cs2 : List Value} {i off sz : Nat} {v : Value} {r : List (Nat × Value)} (h1 : pl[i]? = some (off, sz)) (h2 : v.cells = vs.toArray) (h3 : vs.length = sz) (h4 : LSpl cs off vs cs1) (h5 : LBld pl cs1 r cs2) :
    LBld pl cs ((i, v) :: r) cs2 := by
  unfold LBld at *
  simp only [Instr.fill, h1, h2]
  obtain ⟨hl, he⟩ := h4
  rw [if_neg (by simp; omega)]
  have h6 := foldl_put vs 0 (cs.take off) ((cs.drop off).take vs.length) (cs.drop (off + vs.length)) off (by simp; omega) (by simp; omega)
  have h7 : cs.take off ++ (cs.drop off).take vs.length ++ cs.drop (off + vs.length) = cs := by
    rw [List.append_assoc, ← List.drop_drop, List.take_append_drop, List.take_append_drop]
  rw [h7, ← he] at h6
  have h8 : vs.toArray.zipIdx.foldl (fun cs (x : Value × Nat) => cs.setIfInBounds (off + x.2) x.1) cs.toArray = cs1.toArray := by
    rw [← Array.foldl_toList, Array.toList_zipIdx]; exact h6
  rw [h8]
  exact h5
theorem yl_buildS {T : Nat} {parts : List (Nat × Operand)} {vs zs cs : List Value} {z : Value} {fs : Array Field} {pl : Array (Nat × Nat)} (ho : o.op = .build T parts.toArray) (hv : evs e (parts.map (·.2)) = some vs)
    (hz : ∀ w, (zeroValue T).run cx.P w = .ok z w) (hzc : z.cells = zs.toArray) (hu : cx.P.underlying T = some (.struct fs))
    (hpl : ∀ w, (fs.mapM (m := Sem) fun f => do pure (f.offset, ← sizeOf f.type)).run cx.P w = .ok pl w) (hb : LBld pl zs ((parts.map (·.1)).zip vs) cs) : Yld cx o e S (.agg cs.toArray) :=
  yl_build ho hv fun w => by
    simp only [Instr.build, Sem.run_bind, hz, hzc, run_underlying hu, Result.andThen_ok, hpl]
    have := hb
    unfold LBld at this
    rw [this]
    rfl
theorem yl_min2 {x y : Operand} {ts : Array TypeId} {k : IntKind} {p q : Int} (ho : o.op = .call ⟨.builtin .min, #[x, y], ts⟩) (hx : ev e x = some (.int k p)) (hy : ev e y = some (.int k q)) : Yld cx o e S (.int k (if q < p then q else p)) := by
  intro a w ha _
  simp [execOp, ho, resolve, invoke, builtin, Builtin.min_, Builtin.min2, ha.eval hx, ha.eval hy]
theorem yl_max2 {x y : Operand} {ts : Array TypeId} {k : IntKind} {p q : Int} (ho : o.op = .call ⟨.builtin .max, #[x, y], ts⟩) (hx : ev e x = some (.int k p)) (hy : ev e y = some (.int k q)) : Yld cx o e S (.int k (if q > p then q else p)) := by
  intro a w ha _
  simp [execOp, ho, resolve, invoke, builtin, Builtin.max_, Builtin.max2, ha.eval hx, ha.eval hy]
theorem op_store1 {x y : Operand} {T t b off : Nat} (i : Nat) {cs : List Value} {v : Value} {H' : HL} {fr : Nat × Nat} (ho : o.op = .store T x y) (hd : o.dst = none) (hx : ev e x = some (ptr b off)) (hy : ev e y = some v)
    (hv : v.cells = #[v]) (h1 : v.oneCell' = true) (hsz : ∀ w, (sizeOf T).run cx.P w = .ok 1 w) (hH : H[i]? = some (b, .cells cs.toArray t fr)) (hfr : fr = (0, 0) ∨ cs.length ≤ fr.1) (hoff : off < cs.length)
    (hH' : LSet H i (b, .cells (cs.set off v).toArray t fr) H') (k : C e I H') : OpJ cx Q o e I H C := by
  intro K hK a w ha hs
  unfold Oper.wp
  have hb := hs.own _ (List.mem_of_getElem? hH)
  have hspl : LSpl cs (off + 0) [v] (cs.set off v) := by
    refine ⟨by simp; omega, ?_⟩
    rw [List.set_eq_take_append_cons_drop]
    simp [hoff]
  have hst := run_storeCells (P := cx.P) (t := t) [v] 0 w cs hb hfr (by simp; omega) (fun u hu => by simp at hu; subst hu; exact h1) _ hspl
  have : (execOp a.eval o).run cx.P w = .ok .skip (World.block w b (.cells (cs.set off v).toArray t fr)) := by
    simp [execOp, ho, Instr.storeAt, Instr.sureAddr, ha.eval hx, ha.eval hy, storeVar, hv, hsz, hst]
  rw [this]
  simp only [Oper.upon, hd]
  exact hK _ _ _ k _ _ ha.putNone (hs.block hH hH')
theorem bcs_len (l : List UInt8) : (bcs l).length = l.length := by simp [bcs]
theorem op_toBytes {Sy T E d : Nat} {x : Operand} {l : List UInt8} (ho : o.op = .convert Sy T x) (hd : o.dst = some d) (hn : Nat.blt d cx.n = true) (hx : ev e x = some (str l))
    (hS : cx.P.underlying Sy = some .string) (hT : cx.P.underlying T = some (.slice E)) (hE : cx.P.underlying E = some (.int .u8))
    (k : ∀ b c sp fr, cx.w0.heap.size ≤ b → (bcs l ++ sp).length ≤ fr → C ((d, .slice (some ⟨b, 0, none⟩) l.length c) :: e) I ((b, .cells (bcs l ++ sp).toArray E (fr, fr + 1)) :: H)) : OpJ cx Q o e I H C := by
  intro K hK a w ha hst
  unfold Oper.wp
  let cap := (Question.appendCap l.length 0 E).cut (w.tape w.drawn (.appendCap l.length 0 E))
  let sp : List Value := List.replicate (cap - l.length) (.int .u8 0)
  have hrun : (execOp a.eval o).run cx.P w = .ok (.value (.slice (some ⟨w.heap.size, 0, none⟩) l.length cap))
      { { w with drawn := w.drawn + 1 } with heap := w.heap.push (.cells (bcs l ++ sp).toArray E ((bcs l ++ sp).length, (bcs l ++ sp).length + 1)) } := by
    simp only [execOp, ho, convert, ha.eval hx, str, Sem.run_bind, run_underlying hS, run_underlying hT, Result.andThen_ok, run_underlying hE, Conv.stringToBytes, size_mk, run_choose, Question.forced, newRow, run_newObj, Bool.false_eq_true, if_false, markStringish, run_shape, Sem.run_pure]
    simp only [World.shape?, Array.getElem?_push_size, run_freeze, Result.andThen_ok, World.freeze]
    have h0 : (Array.map (fun b : UInt8 => Value.int IntKind.u8 ↑b.toNat) l.toArray ++ Array.replicate (cap - l.length) (Value.int IntKind.u8 0)) = (bcs l ++ sp).toArray := by
      simp [bcs, sp]
    have h1 : ∀ (A : Array Obj) (o o' : Obj) (f : Obj → Obj), f o = o' → (A.push o).modify A.size f = A.push o' := by
      intro A o o' f hf
      apply Array.ext_getElem?
      intro j
      rw [Array.getElem?_modify, Array.getElem?_push, Array.getElem?_push]
      by_cases hj : A.size = j
      · subst hj; simp [hf]
      simp [hj, Ne.symm hj]
    simp only [Nat.one_ne_zero, if_false]
    refine congrArg (fun W : World => (Result.ok (Next.value (.slice (some ⟨w.heap.size, 0, none⟩) l.length cap)) W : Result Next)) ?_
    refine congrArg (fun H : Array Obj => ({ heap := H, tape := w.tape, drawn := w.drawn + 1, os := w.os, output := w.output } : World)) ?_
    refine h1 _ _ _ _ ?_
    rw [show (Array.map (fun b : UInt8 => Value.int IntKind.u8 ↑b.toNat) l.toArray ++ Array.replicate ((Question.appendCap l.length 0 E).cut (w.tape w.drawn (Question.appendCap l.length 0 E)) - l.length) (Value.int IntKind.u8 0)) = (bcs l ++ sp).toArray from h0]
    simp
  rw [hrun]
  simp only [Oper.upon, hd]
  exact hK _ _ _ (k w.heap.size cap sp _ hst.size (Nat.le_refl _)) _ _ (ha.put hn) ((hst.drewN (w.drawn + 1)).alloc _)
theorem yl_toStr {Sy T E : Nat} {x : Operand} (l : List UInt8) {b off c n : Nat} {cs : List Value} {t : TypeId} {fr : Nat × Nat} (ho : o.op = .convert Sy T x) (hx : ev e x = some (.slice (some ⟨b, off, none⟩) n c)) (hn : l.length = n)
    (hS : cx.P.underlying Sy = some (.slice E)) (hT : cx.P.underlying T = some .string) (hE : cx.P.underlying E = some (.int .u8)) (hb : Blk S b (.cells cs.toArray t fr)) (hl : (cs.drop off).take l.length = bcs l) :
    Yld cx o e S (str l) := by
  intro a w ha hs
  subst hn
  have hc : ∀ j v, (bcs l)[j]? = some v → w.cell? ((⟨b, off, none⟩ : Addr).add j) = some v := fun j v hj => by
    rw [Addr.add_lit]
    refine cell_of_heap (hb w hs) ?_
    rw [← hl, List.getElem?_take] at hj
    split at hj
    · simpa [List.getElem?_drop] using hj
    cases hj
  have h1 := run_loadCells_list (P := cx.P) (w := w) ⟨b, off, none⟩ (bcs l) hc
  have h2 := run_bytesToString (P := cx.P) w ⟨b, off, none⟩ l.length c (l.map fun u => (u.toNat : Int)) (by
    rw [show (bcs l).length = l.length by simp [bcs]] at h1
    rw [h1]; simp [bcs, List.map_map])
  have h3 : (l.map fun u => (u.toNat : Int)).foldl (fun r n => r.push (UInt8.ofNat n.toNat)) ByteArray.empty = ⟨l.toArray⟩ := by
    rw [foldl_push_bytes]
    apply ByteArray.ext
    simp [List.map_map]
    have : (fun x => UInt8.ofNat x) ∘ UInt8.toNat = id := by funext x; simp
    first | simp [Function.comp_def] | rw [this, List.map_id]
  simp only [execOp, ho, Sem.run_bind, ha.eval hx, run_convert_bytes_string w Sy T E _ l.length c hS hE hT, h2, h3, Result.andThen_ok, Sem.run_pure, str]
end
end Go.Sx
end
section
namespace Go.Sx
open Go
section
variable {cx : Cx} {Q : Qt} {e : Env} {I I1 : Heap} {H A : HL} {Z : CL} {z : Nat} {ops : Array Oper} {l : List Oper} {o : Oper} {C : Ct} {S : World → Prop} {fuel : Nat} {listed : Array Bool}
theorem J.mv {d : Nat} {x : Operand} {v : Value} (k : J cx Q ops l ((d, v) :: e) I H) (ho : o.op = .move x := by rfl) (hx : ev e x = some v := by rfl) (hg : o.guard = none := by rfl) (hd : o.dst = some d := by rfl) (hn : Nat.blt d cx.n = true := by rfl) : J cx Q ops (o :: l) e I H := J.z (yl_move ho hx) k hg hd hn
theorem J.as {d : Nat} {x : Operand} {v : Value} (k : J cx Q ops l ((d, v) :: e) I H) (ho : o.op = .assign x := by rfl) (hx : ev e x = some v := by rfl) (hg : o.guard = none := by rfl) (hd : o.dst = some d := by rfl) (hn : Nat.blt d cx.n = true := by rfl) : J cx Q ops (o :: l) e I H := J.z (yl_assign ho hx) k hg hd hn
theorem J.ns {y : Code} (h : Cj cx Q y e I H) : J cx (Exit.then (y.wpIn cx.F 0 cx.P Q) Q) ops [] e I H := J.nil (Ej.seq h)
theorem Cj.sr {id : Nat} {y : Code} (h : J cx (Exit.then (y.wpIn cx.F 0 cx.P Q) Q) l.toArray l e I H) : Cj cx Q (.seq (.region id l.toArray false) y) e I H := Cj.seq (Cj.region h)
theorem J.nss {x y : Code} (h : Cj cx (Exit.then (y.wpIn cx.F 0 cx.P Q) Q) x e I H) : J cx (Exit.then ((Code.seq x y).wpIn cx.F 0 cx.P Q) Q) ops [] e I H := J.ns (Cj.seq h)
theorem J.nsss {x y u : Code} (h : Cj cx (Exit.then (u.wpIn cx.F 0 cx.P (Exit.then (y.wpIn cx.F 0 cx.P Q) Q)) (Exit.then (y.wpIn cx.F 0 cx.P Q) Q)) x e I H) : J cx (Exit.then ((Code.seq (Code.seq x u) y).wpIn cx.F 0 cx.P Q) Q) ops [] e I H := J.nss (Cj.seq h)
theorem J.nsr {id : Nat} (h : J cx Q l.toArray l e I H) : J cx (Exit.then ((Code.region id l.toArray false).wpIn cx.F 0 cx.P Q) Q) ops [] e I H := J.ns (Cj.region h)
theorem J.nssr {id : Nat} {y : Code} (h : J cx (Exit.then (y.wpIn cx.F 0 cx.P Q) Q) l.toArray l e I H) : J cx (Exit.then ((Code.seq (Code.region id l.toArray false) y).wpIn cx.F 0 cx.P Q) Q) ops [] e I H := J.nss (Cj.region h)
theorem J.cd {c : Operand} {x y : Code} {t : Bool} (h1 : t = true → Cj cx Q x e I H) (h2 : t = false → Cj cx Q y e I H) (hc : ev e c = some (.bool t) := by exact rfl) : J cx (Exit.then ((Code.cond c x y).wpIn cx.F 0 cx.P Q) Q) ops [] e I H := J.ns (Cj.cond hc h1 h2)
theorem J.c0 {c : Operand} {x y : Code} {t : Bool} (h2 : t = false → Cj cx Q y e I H) (hc : ev e c = some (.bool t) := by exact rfl) (hf : t = false := by exact rfl) : J cx (Exit.then ((Code.cond c x y).wpIn cx.F 0 cx.P Q) Q) ops [] e I H := J.ns (Cj.cond hc (fun h => Bool.noConfusion (Eq.trans (Eq.symm hf) h)) h2)
theorem J.c1 {c : Operand} {x y : Code} {t : Bool} (h1 : t = true → Cj cx Q x e I H) (hc : ev e c = some (.bool t) := by exact rfl) (hf : t = true := by exact rfl) : J cx (Exit.then ((Code.cond c x y).wpIn cx.F 0 cx.P Q) Q) ops [] e I H := J.ns (Cj.cond hc h1 (fun h => Bool.noConfusion (Eq.trans (Eq.symm hf) h)))
theorem J.sk (j d t : Nat) {want b : Bool} (hb : b = !want) (h : J cx Q ops l ((t, undef) :: e) I H) (hg : o.guard = some (j, want) := by rfl) (hd : (ops[j]?).bind (·.dst) = some d := by rfl) (hv : eg e d = some (.bool b) := by rfl) (ho : o.dst = some t := by rfl) (ht : Nat.blt t cx.n = true := by rfl) : J cx Q ops (o :: l) e I H := J.skip j d t want b hg hd hv hb ho ht h
theorem JA.mv (i : Nat) {d : Nat} {x : Operand} {v : Value} (hfx : JFix I1 A Z I H) (k : JA cx Q l I1 A Z z fuel (listed.setIfInBounds i true) ((d, v) :: e) I H) (hi : l.toArray[i]? = some o := by rfl) (ho : o.op = .move x := by rfl) (hx : ev e x = some v := by rfl) (hd : o.dst = some d := by rfl) (hg : o.guard = none := by rfl) (hn : Nat.blt d cx.n = true := by rfl) (hz : zok l.toArray listed z i = true := by first | rfl | kernel_rfl)
    (hs : Region.noSelect l.toArray = true := by kernel_rfl) (hf : Region.free .any l.toArray listed i = true := by kernel_rfl) (hr : (Region.ready .any l.toArray listed).contains i = true := by kernel_rfl) (hq : ∀ c a w, Q (.panic c) (a.put (some d) v) w → Q (.panic c) a w := by exact fun _ _ _ h => h) : JA cx Q l I1 A Z z (fuel + 1) listed e I H := JA.tk i hi hfx (yl_move ho hx) k hd hg hn hz hs hf hr hq
theorem yl_fa {x : Operand} {T k b off m : Nat} {fs : Array Field} {f : Field} (off' : Nat) (hu : cx.P.underlying T = some (.struct fs)) (hsz : ∀ w, (sizeOf f.type).run cx.P w = .ok (m + 1) w) (ho : o.op = .fieldAddr T x k := by rfl) (hx : ev e x = some (ptr b off) := by rfl) (hf : fs[k]? = some f := by rfl) (hoff : off + f.offset = off' := by rfl) : Yld cx o e S (ptr b off') := yl_fieldAddr ho hx hu hf hsz hoff
theorem fx0 {I : Heap} {H : HL} : Le I I ∧ HSub [] H ∧ CSub [] H := ⟨Le.refl _, HSub.n, CSub.n⟩
theorem fx1 {I : Heap} {H : HL} : JFix I [] [] I H := ⟨HSub.n, CSub.n, Le.refl _⟩
theorem Cj.xl {K : Act → World → Prop} {ι : Type} {pre : ι → Prop} {μ : ι → Nat} {i0 : ι} {env : ι → Env} {hp : ι → Heap} {hl : ι → HL} {id : Nat} {y : Code} (h : Cj cx Q y e I H) : Cj cx (Exit.then K (LoopQ cx (Exit.inBlock id (Exit.then (y.wpIn cx.F 0 cx.P Q) Q)) pre μ i0 env hp hl)) (.exit id) e I H := Cj.exit (Ej.seqExit (Ej.loopExit (Ej.blkExit (Ej.seq h))))
theorem Cj.ks {y : Code} (h : Cj cx Q y e I H) : Cj cx (Exit.then (y.wpIn cx.F 0 cx.P Q) Q) .skip e I H := Cj.skip (Ej.seq h)
theorem Cj.kb {id : Nat} {y : Code} (h : Cj cx Q y e I H) : Cj cx (Exit.inBlock id (Exit.then (y.wpIn cx.F 0 cx.P Q) Q)) .skip e I H := Cj.skip (Ej.blkNormal (Ej.seq h))
theorem J.nb {id : Nat} {y : Code} (h : Cj cx Q y e I H) : J cx (Exit.inBlock id (Exit.then (y.wpIn cx.F 0 cx.P Q) Q)) ops [] e I H := J.nil (Ej.blkNormal (Ej.seq h))
theorem Cj.rs {K : Act → World → Prop} (h : Ej cx Q .ret e I H) : Cj cx (Exit.then K Q) .ret e I H := Cj.ret (Ej.seqRet h)
end
theorem Ctr.ob {P : Program} {f : FuncId} {fn : Func} {c : Code} {args : List Value} {I : Heap} {H : HL} {post : Ending → Heap → HL → Prop} (hf : P.funcs[f]? = some fn) (h : ∀ w0, Ready I H w0 → Cj ⟨P, fn.ntmps, w0, H.map (·.1), I, [], none⟩ (bodyPost P fn (RR w0 (H.map (·.1)) I post)) c (argsEnv 0 args) I H) (hb : fn.body = some c := by rfl) (hname : fn.name ≠ "runtime.NumGoroutine" := by decide) (hn : args.length ≤ fn.ntmps := by exact Nat.le_of_ble_eq_true rfl) : Ctr P f args I H post := Ctr.of_body hf hb hname hn h
end Go.Sx
end
section
namespace Go.Sx
open Go Go.RowKit
theorem St.below {w w' : World} {I : Heap} (hr : Ready I [] w) (h : Below w.heap.size w w') : St w [] I I [] w' := by
  have hlt : ∀ {b : Nat} {o' : Obj}, w.heap[b]? = some o' → b < w.heap.size := fun {b o'} hb => by
    rcases Nat.lt_or_ge b w.heap.size with h' | h'
    · exact h'
    simp [Array.getElem?_eq_none h'] at hb
  exact ⟨h.os, h.tape, h.output, h.size, fun b hb _ => h.block b hb, fun b o hb => by rw [h.block b (hlt (hr.1 b o hb))]; exact hr.1 b o hb, by simp, by simp, by simp, by simp, fun _ _ => rfl, Le.refl _⟩
theorem Pure.of_below {P : Program} {f : FuncId} {args : List Value} {I : Heap} {v : Value} (he : Enters P f) (h : ∀ w, Ready I [] w → Calls P f args.toArray w fun e w' => e = .returned v ∧ Below w.heap.size w w') : Pure P f args I v :=
  ⟨he, fun w hw => (h w hw).mono fun _ _w' ⟨h1, h2⟩ => ⟨I, [], St.below hw h2, h1, rfl, rfl⟩⟩
theorem Pure.of_same {P : Program} {f : FuncId} {args : List Value} {I : Heap} {v : Value} (he : Enters P f) (h : ∀ w, Ready I [] w → Calls P f args.toArray w fun e w' => e = .returned v ∧ w' = w) : Pure P f args I v :=
  Pure.of_below he fun w hw => (h w hw).mono fun _ _ ⟨h1, h2⟩ => ⟨h1, h2 ▸ Below.refl _ _⟩
theorem Enters.of {P : Program} {f : FuncId} {fn : Func} (h : P.funcs[f]? = some fn) (h1 : fn.name ≠ "runtime.NumGoroutine") (h2 : fn.body.isNone = false) : Enters P f := ⟨fn, h, h1, h2⟩
section
variable {cx : Cx} {Q : Qt} {e : Env} {I : Heap} {H : HL} {o : Oper} {C : Ct} {S : World → Prop}
theorem Cj.scope {c : Code} (h : Cj cx (Exit.noGoto Q) c e I H) (hr : cx.rd = none := by rfl) : Cj cx Q (.scope c) e I H := Cj.of_wp hr fun _ _ ha hs => wp_scope_straight (h.wp hr ha hs)
theorem Ej.scRet (h : Ej cx Q .ret e I H) : Ej cx (Exit.noGoto Q) .ret e I H := h
theorem op_range {T d : Nat} {x : Operand} {s : ByteArray} (ho : o.op = .range T x) (hd : o.dst = some d) (hn : Nat.blt d cx.n = true) (hx : ev e x = some (.string s)) (hu : cx.P.underlying T = some .string)
    (k : ∀ b, cx.w0.heap.size ≤ b → C ((d, ptr b 0) :: e) I ((b, .stringIter s 0) :: H)) : OpJ cx Q o e I H C := by
  intro K hK a w ha hs
  unfold Oper.wp
  have : (execOp a.eval o).run cx.P w = .ok (.value (ptr w.heap.size 0)) { w with heap := w.heap.push (.stringIter s 0) } := by
    simp only [execOp, ho, ha.eval hx, Sem.run_bind, run_range_string w T s hu, Result.andThen_ok, Sem.run_pure]
    rfl
  rw [this]
  simp only [Oper.upon, hd]
  exact hK _ _ _ (k _ hs.size) _ _ (ha.put hn) (hs.alloc _)
theorem op_next {d b pos : Nat} {x : Operand} {s : ByteArray} {H' : HL} (i : Nat) (ho : o.op = .next x true) (hd : o.dst = some d) (hn : Nat.blt d cx.n = true) (hx : ev e x = some (ptr b 0)) (hH : H[i]? = some (b, .stringIter s pos)) (hp : pos < s.size)
    (hH' : LSet H i (b, .stringIter s (pos + (Utf8.decode s pos).2)) H') (k : C ((d, .tuple #[.bool true, .int .i64 pos, .int .i32 (Utf8.decode s pos).1]) :: e) I H') : OpJ cx Q o e I H C := by
  intro K hK a w ha hs
  unfold Oper.wp
  have hb := hs.own _ (List.mem_of_getElem? hH)
  have : (execOp a.eval o).run cx.P w = .ok (.value (.tuple #[.bool true, .int .i64 pos, .int .i32 (Utf8.decode s pos).1])) (World.block w b (.stringIter s (pos + (Utf8.decode s pos).2))) := by
    simp only [execOp, ho, ha.eval hx, Instr.next, getObj, setObj, Sem.run_bind, Sem.run, hb, Result.andThen, hp, if_true]
    simp [goInt, World.block]
  rw [this]
  simp only [Oper.upon, hd]
  exact hK _ _ _ k _ _ (ha.put hn) (hs.block hH hH')
theorem op_nextEnd {d b pos : Nat} {x : Operand} {s : ByteArray} (i : Nat) (ho : o.op = .next x true) (hd : o.dst = some d) (hn : Nat.blt d cx.n = true) (hx : ev e x = some (ptr b 0)) (hH : H[i]? = some (b, .stringIter s pos)) (hp : ¬ pos < s.size)
    (k : C ((d, .tuple #[.bool false]) :: e) I H) : OpJ cx Q o e I H C := by
  intro K hK a w ha hs
  unfold Oper.wp
  have hb := hs.own _ (List.mem_of_getElem? hH)
  have : (execOp a.eval o).run cx.P w = .ok (.value (.tuple #[.bool false])) w := by
    simp [execOp, ho, ha.eval hx, Instr.next, getObj, Sem.run_bind, Sem.run, hb, Result.andThen, hp]
  rw [this]
  simp only [Oper.upon, hd]
  exact hK _ _ _ k _ _ (ha.put hn) hs
theorem yl_runeStr {Sy T : Nat} {x : Operand} {k : IntKind} {r : Int} (ho : o.op = .convert Sy T x) (hx : ev e x = some (.int k r)) (hS : cx.P.underlying Sy = some (.int k)) (hT : cx.P.underlying T = some .string) : Yld cx o e S (str (Utf8.encode r).data.toList) := by
  intro a w ha _
  simp [execOp, ho, ha.eval hx, convert, run_underlying hS, run_underlying hT, str, Conv.intToString]
end
end Go.Sx
namespace Go.Sx
open Go
theorem shape_of_heap {w : World} {b : Nat} {cs : Array Value} {t : TypeId} {fr : Nat × Nat} (h : w.heap[b]? = some (.cells cs t fr)) : w.shape? b = some (t, cs.size) := by simp [World.shape?, h]
theorem gV_cells (n : Nat) (g : Gs) : (gV n g).cells = [gV n g].toArray := by cases g <;> rfl
theorem gV_one (n : Nat) (g : Gs) : [gV n g].all Value.oneCell' = true := by cases g <;> rfl
section
variable {cx : Cx} {Q : Qt} {e : Env} {I : Heap} {H : HL} {o : Oper} {C : Ct} {S : World → Prop}
theorem run_eqlNil {P : Program} {w : World} {T te : TypeId} {j : TypeInfo} (p : Option Addr) (hT : P.underlying T = some (.pointer te)) (_hj : P.info? te = some j) : (binOp .eql T (.pointer p) (.pointer none)).run P w = .ok (.bool p.isNone) w := by
  have h : ∀ d : Nat, (Op.equalIn (d + 1) T (.pointer p) (.pointer none)).run P w = .ok p.isNone w := fun d => by
    cases p <;> simp [Op.equalIn, run_underlying hT, sizeOf, typeInfo, samePointer]
  simp only [binOp]
  simp [Op.equal, Op.maxDepth, h 9999]
theorem yl_eqlNil {x y : Operand} {T U te : Nat} (p : Option Addr) (ho : o.op = .binOp .eql T x y U) (hx : ev e x = some (.pointer p)) (hy : ev e y = some (.pointer none)) (hT : cx.P.underlying T = some (.pointer te)) (hj0 : (cx.P.info? te).isSome = true) : Yld cx o e S (.bool p.isNone) := by
  intro a w ha _
  obtain ⟨j, hj⟩ := Option.isSome_iff_exists.1 hj0
  have hb := run_eqlNil (P := cx.P) (w := w) p hT hj
  have hg : eqGuard .eql T x y (.pointer p) (.pointer none) = pure () := rfl
  simp [execOp, ho, ha.eval hx, ha.eval hy, hb, hg]
theorem q52 {x y : Operand} {T U te : Nat} {p : Option Addr} (hT : cx.P.underlying T = some (.pointer te)) (ho : o.op = .binOp .eql T x y U := by exact rfl) (hx : ev e x = some (.pointer p) := by exact rfl) (hy : ev e y = some (.pointer none) := by exact rfl) (hj0 : (cx.P.info? te).isSome = true := by kernel_rfl) : Yld cx o e S (.bool p.isNone) := yl_eqlNil p ho hx hy hT hj0
theorem yl_neqSame {x y : Operand} {T U te b off : Nat} (ho : o.op = .binOp .neq T x y U) (hx : ev e x = some (ptr b off)) (hy : ev e y = some (ptr b off)) (hT : cx.P.underlying T = some (.pointer te)) (hj0 : (cx.P.info? te).isSome = true) : Yld cx o e S (.bool false) := by
  intro a w ha _
  obtain ⟨j, hj⟩ := Option.isSome_iff_exists.1 hj0
  have hb := Lib.run_neq_ptr_same (P := cx.P) w ⟨b, off, none⟩ hT hj
  have hg : eqGuard .neq T x y (ptr b off) (ptr b off) = pure () := rfl
  simp [execOp, ho, ha.eval hx, ha.eval hy, hb, hg]
theorem yl_toUnsafe {x : Operand} {Sy T te b off : Nat} (z : Nat) {cs : List Value} {t : TypeId} {fr : Nat × Nat} (ho : o.op = .convert Sy T x) (hx : ev e x = some (ptr b off)) (hS : cx.P.underlying Sy = some (.pointer te)) (hT : cx.P.underlying T = some .unsafePointer) (hj0 : (cx.P.info? te).map (·.size) = some (z + 1))
    (hb : Blk S b (.cells cs.toArray t fr)) (hoff : off < cs.length) : Yld cx o e S (ptr b off) := by
  intro a w ha hs
  obtain ⟨j, hj, hz⟩ := Option.map_eq_some_iff.1 hj0
  have hz : j.size ≠ 0 := by omega
  have h := Lib.run_to_unsafe (P := cx.P) (w := w) ⟨b, off, none⟩ hS hT hj hz (shape_of_heap (hb w hs)) (by simpa using hoff)
  simp [execOp, ho, ha.eval hx, h]
theorem yl_fromUnsafe {x : Operand} {Sy T te b off : Nat} {cs : List Value} {t : TypeId} {fr : Nat × Nat} (ho : o.op = .convert Sy T x) (hx : ev e x = some (ptr b off)) (hS : cx.P.underlying Sy = some .unsafePointer) (hT : cx.P.underlying T = some (.pointer te)) (hj0 : (cx.P.info? te).isSome = true)
    (hb : Blk S b (.cells cs.toArray t fr)) (hl : liesAt cx.P cx.P.depth t (cs.length / cx.P.cellsOf t) off te 1 = true) : Yld cx o e S (ptr b off) := by
  intro a w ha hs
  obtain ⟨j, hj⟩ := Option.isSome_iff_exists.1 hj0
  have h := Lib.run_from_unsafe (P := cx.P) (w := w) ⟨b, off, none⟩ hS hT hj (shape_of_heap (hb w hs)) (by simpa using hl)
  simp [execOp, ho, ha.eval hx, h]
theorem yl_noEscape {f : Nat} {fn : Func} {fo x : Operand} {ts : Array TypeId} {v : Value} (ho : o.op = .call ⟨.value fo, #[x], ts⟩) (hf : ev e fo = some (.func (.func f) #[] #[])) (hx : ev e x = some v) (h1 : cx.P.funcs[f]? = some fn) (h2 : (fn.name == "runtime.NumGoroutine") = false) (h3 : fn.body.isNone = true)
    (h4 : Extern.findNext fn = none) (h5 : Extern.find fn = some Extern.AbiNoEscape.same) : Yld cx o e S v := by
  intro a w ha _
  have h := run_callFunc_extern h1 h2 h3 h4 h5 #[v] w
  simp [execOp, ho, resolve, invoke, ha.eval hf, ha.eval hx, h, Deferred.ofValue, Lib.run_noEscape, Result.andThen]
theorem yl_sliceData {x : Operand} {T b off n c : Nat} (ho : o.op = .call ⟨.builtin .unsafeSliceData, #[x], #[T]⟩) (hx : ev e x = some (.slice (some ⟨b, off, none⟩) n c)) (hc : c ≠ 0) : Yld cx o e S (ptr b off) := by
  intro a w ha _
  have h := fun ty => Lib.run_unsafeSliceData_row (P := cx.P) (w := w) #[T] ty ⟨b, off, none⟩ n c hc
  simp [execOp, ho, resolve, invoke, ha.eval hx, builtin, h]
theorem yl_sliceDataNil {x : Operand} {T n c : Nat} (ho : o.op = .call ⟨.builtin .unsafeSliceData, #[x], #[T]⟩) (hx : ev e x = some (.slice none n c)) : Yld cx o e S (.pointer none) := by
  intro a w ha _
  have h := fun ty => Lib.run_unsafeSliceData_nil (P := cx.P) (w := w) #[T] ty n c
  simp [execOp, ho, resolve, invoke, ha.eval hx, builtin, h]
theorem yl_unsafeStringNone {x y : Operand} {p : Option Addr} {T U : Nat} (ho : o.op = .call ⟨.builtin .unsafeString, #[x, y], #[T, U]⟩) (hx : ev e x = some (.pointer p)) (hy : ev e y = some (i64 0)) : Yld cx o e S (str []) := by
  intro a w ha _
  have h := fun ty => Lib.run_unsafeString_none (P := cx.P) (w := w) T U ty p
  simp [execOp, ho, resolve, invoke, ha.eval hx, ha.eval hy, builtin, h]
  rfl
theorem op_unsafeString {x y : Operand} {T U E d b : Nat} (i : Nat) (l : List UInt8) {cs : List Value} {H' : HL} (ho : o.op = .call ⟨.builtin .unsafeString, #[x, y], #[T, U]⟩) (hd : o.dst = some d) (hn : Nat.blt d cx.n = true) (hx : ev e x = some (ptr b 0)) (hy : ev e y = some (i64 l.length))
    (hT : cx.P.underlying T = some (.pointer E)) (hE : cx.P.cellsOf E = 1) (hH : H[i]? = some (b, cel E (bcs l ++ cs))) (h0 : l ≠ []) (h63 : l.length ≤ 9223372036854775807) (hH' : LSet H i (b, .cells (bcs l ++ cs).toArray E (0, l.length)) H') (k : C ((d, str l) :: e) I H') : OpJ cx Q o e I H C := by
  intro K hK a w ha hs
  unfold Oper.wp
  have hb := hs.own _ (List.mem_of_getElem? hH)
  have h := fun ty => Lib.run_unsafeString_row (P := cx.P) (w := w) T U ty E hT hE b (bcs l ++ cs).length (by rw [shape_of_heap hb]; simp) l h0 (by rw [List.length_append, bcs_len]; omega) h63 (fun j x hj => by
    rw [Addr.add_lit]
    refine cell_of_heap hb ?_
    rw [List.getElem?_append_left (by rw [bcs_len, Nat.zero_add]; exact (List.getElem?_eq_some_iff.1 hj).1)]
    simp [bcs, hj])
  have hfr : w.freeze ⟨b, 0, none⟩ l.length = World.block w b (.cells (bcs l ++ cs).toArray E (0, l.length)) := by
    have hl : l.length ≠ 0 := by simpa using h0
    unfold World.freeze World.block
    rw [if_neg hl]
    congr 1
    apply Array.ext_getElem?
    intro k
    rw [Array.getElem?_modify, Array.getElem?_setIfInBounds]
    by_cases hk : b = k
    · subst hk
      have hlt : b < w.heap.size := hs.lt (List.mem_of_getElem? hH)
      rw [if_pos rfl, if_pos rfl, if_pos hlt, show w.heap[b]? = _ from hb]
      simp [cel]
    simp [hk]
  have : (execOp a.eval o).run cx.P w = .ok (.value (str l)) (World.block w b (.cells (bcs l ++ cs).toArray E (0, l.length))) := by
    simp [execOp, ho, resolve, invoke, ha.eval hx, ha.eval hy, builtin, h, hfr, str]
  rw [this]
  simp only [Oper.upon, hd]
  exact hK _ _ _ k _ _ (ha.put hn) (hs.block hH hH')
end
end Go.Sx
namespace Go.Sx
open Go
section
variable {cx : Cx} {Q : Qt} {e : Env} {I : Heap} {H : HL} {o : Oper} {C : Ct}
end
end Go.Sx
namespace Go.Sx
open Go
section
variable {cx : Cx} {Q : Qt} {e : Env} {I : Heap} {H : HL} {o : Oper} {C : Ct} {S : World → Prop}
theorem op_makeMap {T d : Nat} (ho : o.op = .makeMap T none) (hd : o.dst = some d) (hn : Nat.blt d cx.n = true) (k : ∀ b, cx.w0.heap.size ≤ b → C ((d, .map (some b)) :: e) I ((b, .map #[] 0) :: H)) : OpJ cx Q o e I H C := by
  intro K hK a w ha hs
  unfold Oper.wp
  have : (execOp a.eval o).run cx.P w = .ok (.value (.map (some w.heap.size))) { w with heap := w.heap.push (.map #[] 0) } := by
    simp [execOp, ho, Instr.makeMap, newObj, Sem.run]
  rw [this]
  simp only [Oper.upon, hd]
  exact hK _ _ _ (k _ hs.size) _ _ (ha.put hn) (hs.alloc _)
end
end Go.Sx
namespace Go.Sx
open Go
def CtrD (P : Program) (f : FuncId) (args : List Value) (u : FrameMode) (I : Heap) (H : HL) (post : FrameMode → Heap → HL → Prop) : Prop :=
  Enters P f ∧ ∀ w, Ready I H w → CallsD P f args.toArray u w fun e u' w' => (∃ v, e = .returned v) ∧ ∃ I' H', St w (H.map (·.1)) I I' H' w' ∧ post u' I' H'
theorem Ctr.of_bodyD {P : Program} {f : FuncId} {fn : Func} {c : Code} {args : List Value} {I : Heap} {H : HL} {post : Ending → Heap → HL → Prop} (hf : P.funcs[f]? = some fn) (hb : fn.body = some c) (hname : fn.name ≠ "runtime.NumGoroutine")
    (hn : args.length ≤ fn.ntmps)
    (h : ∀ w0, Ready I H w0 → Cj ⟨P, fn.ntmps, w0, H.map (·.1), I, [], none⟩ (bodyPostD P fn (RR w0 (H.map (·.1)) I post)) c (argsEnv 0 args) I H) : Ctr P f args I H post := by
  refine ⟨⟨fn, hf, hname, by simp [hb]⟩, fun w hw => ?_⟩
  refine calls_of_wp_defers hf hb ?_
  exact (h w hw).wp rfl (Has.start args fn.ntmps hn) (St.start w I H hw.1 hw.2.1 hw.2.2.1 hw.2.2.2)
section
variable {cx : Cx} {Q : Qt} {e : Env} {I : Heap} {H : HL} {o : Oper} {C : Ct}
theorem J.defer {ops : Array Oper} {l : List Oper} {f : Nat} {fo : Operand} {xs : List Operand} {ts : Array TypeId} {fst cap vs : List Value} (hg : o.guard = none) (ho : o.op = .defer ⟨.value fo, xs.toArray, ts⟩) (hd : o.dst = none)
    (hf : ev e fo = some (.func (.func f) fst.toArray cap.toArray)) (hx : evs e xs = some vs)
    (k : J { cx with ds := ⟨.fn (.func f) cap.toArray, (fst ++ vs).toArray⟩ :: cx.ds } Q ops l e I H) (hrd : cx.rd = none := by rfl) : J cx Q ops (o :: l) e I H := by
  intro a w ha hs
  refine wpListIn_plain hg fun K hK => fence_wp (.inl hrd) ?_
  unfold Oper.wp
  have hr : (execOp a.eval o).run cx.P w = .ok (.defer ⟨.fn (.func f) cap.toArray, (fst ++ vs).toArray⟩) w := by
    have hxs : xs.toArray.map a.eval = vs.toArray := by rw [List.map_toArray, ha.evals hx]
    simp [execOp, ho, resolve, hxs, ha.eval hf, Deferred.ofValue]
  rw [hr]
  simp only [Oper.upon, hd]
  exact hK _ _ (k _ _ ⟨ha.size, by simp [Act.put, ha.defs], fun t v h => ha.get t v h⟩ hs)
def ResJ (cx : Cx) (fn : Func) (post : Ending → Heap → HL → Prop) (e : Env) (I : Heap) (H : HL) : Prop :=
  ∀ a w, Has a cx.n e cx.ds → St cx.w0 cx.D cx.I0 I H w → ∃ v, (results fn a.tmps).run cx.P w = .ok v w ∧ RR cx.w0 cx.D cx.I0 post (.returned v) w
theorem leaves_one {P : Program} {fn : Func} {tmps : Array Value} {R : Ending → World → Prop} {f : Nat} {cap vs : List Value} {u : FrameMode} {w w0 : World} {D : List Nat} {I0 : Heap} {H1 R1 : HL} {post : FrameMode → Heap → HL → Prop} (hu : u ≠ .run)
    (hs : CtrD P f (vs ++ cap) u I H1 post) (hst : St w0 D I0 I (H1 ++ R1) w) {ds : List Deferred}
    (k : ∀ u' I' H1' w', Le I I' → post u' I' H1' → St w0 D I0 I' (H1' ++ R1) w' → Leaves P fn tmps R ds (settle u') w') :
    Leaves P fn tmps R (⟨.fn (.func f) cap.toArray, vs.toArray⟩ :: ds) u w := by
  refine leaves_cons (f := f) (args := (vs ++ cap).toArray) hu (by have h := run_callFunc hs.1 (vs ++ cap).toArray w; simpa [invoke] using h) ?_
  have hready : Ready I H1 w := ⟨hst.sub, fun p hp => hst.own p (List.mem_append_left _ hp), by
    have := hst.nodup; rw [List.map_append, List.nodup_append] at this; exact this.1, fun p hp => hst.dis p (List.mem_append_left _ hp)⟩
  refine (hs.2 w hready).mono ?_
  rintro en u' w' ⟨⟨v, rfl⟩, I', H1', hs', hp⟩
  exact k u' I' H1' w' hs'.le hp (hst.call hs')
end
end Go.Sx
namespace Go.Sx
open Go
def Rj (cx : Cx) (Q : Qt) (c : Code) (n : Nat) (e : Env) (I : Heap) (H : HL) : Prop := ∀ a w, Has a cx.n e cx.ds → St cx.w0 cx.D cx.I0 I H w → Code.rounds cx.P c Q n a w
section
variable {cx : Cx} {Q : Qt} {e : Env} {I : Heap} {H : HL} {o : Oper} {C : Ct} {S : World → Prop}
theorem Cj.rounds (n : Nat) {c : Code} (h : Rj cx Q c n e I H) (hr : cx.rd = none := by rfl) : Cj cx Q (.loop c) e I H := Cj.of_wp hr fun a w ha hs => wp_loop_rounds n (h a w ha hs)
theorem Rj.succ {c : Code} {n : Nat} (h : Cj cx (Exit.then (Code.rounds cx.P c Q n) Q) c e I H) (hr : cx.rd = none := by rfl) : Rj cx Q c (n + 1) e I H := fun _ _ ha hs => h.wp hr ha hs
theorem Ej.rounds {c : Code} {n : Nat} (h : Rj cx Q c n e I H) : Ej cx (Exit.then (Code.rounds cx.P c Q n) Q) .normal e I H := fun a w ha hs => h a w ha hs
theorem yl_indexArr {x y : Operand} {T E b off n sz off' : Nat} {k : IntKind} {i : Int} (ho : o.op = .indexAddr T x y) (hx : ev e x = some (ptr b off)) (hy : ev e y = some (.int k i))
    (hu : cx.P.underlying T = some (.array n E)) (hsz : ∀ w, (sizeOf E).run cx.P w = .ok sz w) (h0 : 0 ≤ i) (h1 : i < n) (hoff : off + i.toNat * sz = off') : Yld cx o e S (ptr b off') := by
  intro a w ha _
  subst hoff
  simp [execOp, ho, ha.eval hx, ha.eval hy, Instr.indexAt, Instr.sureAddr, asIntOf, run_underlying hu, h0, h1, hsz, Addr.add_lit]
theorem q35 {x y : Operand} {T E b off n sz off' : Nat} {k : IntKind} {i : Int} (hu : cx.P.underlying T = some (.array n E)) (hsz : ∀ w, (sizeOf E).run cx.P w = .ok sz w) (ho : o.op = .indexAddr T x y := by exact rfl) (hx : ev e x = some (ptr b off) := by exact rfl) (hy : ev e y = some (.int k i) := by exact rfl) (h0 : 0 ≤ i := by decide) (h1 : i < n := by decide) (hoff : off + i.toNat * sz = off' := by decide) : Yld cx o e S (ptr b off') := yl_indexArr ho hx hy hu hsz h0 h1 hoff
theorem run_sliceNil {P : Program} {w : World} {T E n c : Nat} (p : Option Addr) (hT : P.underlying T = some (.slice E)) : (binOp .neq T (.slice p n c) (.slice none 0 0)).run P w = .ok (.bool p.isSome) w ∧ (binOp .eql T (.slice p n c) (.slice none 0 0)).run P w = .ok (.bool p.isNone) w := by
  have h1 : ∀ d : Nat, (Op.equalIn (d + 1) T (.slice p n c) (.slice none 0 0)).run P w = .ok p.isNone w := fun d => by cases p <;> simp [Op.equalIn, run_underlying hT]
  simp only [binOp]
  cases p <;> simp [Op.equal, Op.maxDepth, h1 9999]
theorem yl_neqSlice {x y : Operand} {T U E n c : Nat} (p : Option Addr) (ho : o.op = .binOp .neq T x y U) (hx : ev e x = some (.slice p n c)) (hy : ev e y = some (.slice none 0 0)) (hT : cx.P.underlying T = some (.slice E)) : Yld cx o e S (.bool p.isSome) := by
  intro a w ha _
  have hb := (run_sliceNil (P := cx.P) (w := w) (n := n) (c := c) p hT).1
  have hg : eqGuard .neq T x y (.slice p n c) (.slice none 0 0) = pure () := rfl
  simp [execOp, ho, ha.eval hx, ha.eval hy, hb, hg]
theorem yl_eqlSlice {x y : Operand} {T U E n c : Nat} (p : Option Addr) (ho : o.op = .binOp .eql T x y U) (hx : ev e x = some (.slice p n c)) (hy : ev e y = some (.slice none 0 0)) (hT : cx.P.underlying T = some (.slice E)) : Yld cx o e S (.bool p.isNone) := by
  intro a w ha _
  have hb := (run_sliceNil (P := cx.P) (w := w) (n := n) (c := c) p hT).2
  have hg : eqGuard .eql T x y (.slice p n c) (.slice none 0 0) = pure () := rfl
  simp [execOp, ho, ha.eval hx, ha.eval hy, hb, hg]
theorem made1 (z : Value) (c : Nat) : madeCells #[z] c = (List.replicate c z).toArray := by
  apply Array.ext_getElem?
  intro i
  unfold madeCells
  by_cases h : i < c
  · simp [h, Nat.mod_one]
  simp [h]
theorem op_makeSlice {T E d by1 n c : Nat} {x y : Operand} {kl kc : IntKind} {z : Value} (ho : o.op = .makeSlice T x y) (hd : o.dst = some d) (hn : Nat.blt d cx.n = true) (hx : ev e x = some (.int kl (n : Int))) (hy : ev e y = some (.int kc (c : Int)))
    (hu : cx.P.underlying T = some (.slice E)) (hi0 : (cx.P.info? E).map (fun i => (i.bytes, i.size, i.zero)) = some (by1, 1, some z)) (hzc : z.cells = #[z]) (hnc : n ≤ c) (hb : by1 * c ≤ 281474976710656) (h63 : c ≤ 9223372036854775807)
    (k : ∀ b, cx.w0.heap.size ≤ b → C ((d, .slice (some ⟨b, 0, none⟩) n c) :: e) I ((b, cel E (List.replicate c z)) :: H)) : OpJ cx Q o e I H C := by
  intro K hK a w ha hs
  unfold Oper.wp
  obtain ⟨i, hi, hii⟩ := Option.map_eq_some_iff.1 hi0
  simp only [Prod.mk.injEq] at hii
  obtain ⟨h1, h2, h3⟩ := hii
  have hbb : (i.bytes : Int) * (c : Int) ≤ 281474976710656 := by
    have h : ((by1 * c : Nat) : Int) ≤ 281474976710656 := by omega
    rw [h1]
    rwa [Int.natCast_mul] at h
  have hr := run_make (P := cx.P) w T E i z hu hi h3 kl kc n c (by omega) (by omega) hbb (by omega)
  have : (execOp a.eval o).run cx.P w = .ok (.value (.slice (some ⟨w.heap.size, 0, none⟩) n c)) (w.alloc (cel E (List.replicate c z))) := by
    simp [execOp, ho, ha.eval hx, ha.eval hy, hr, h2, hzc, made1, cel]
  rw [this]
  simp only [Oper.upon, hd]
  exact hK _ _ _ (k _ hs.size) _ _ (ha.put hn) (hs.alloc _)
theorem yl_sliceFrom {x y : Operand} {T E b off n c sz j : Nat} {kl : IntKind} (ho : o.op = .slice T x (some y) none none) (hx : ev e x = some (.slice (some ⟨b, off, none⟩) n c)) (hy : ev e y = some (.int kl (j : Int))) (hu : cx.P.underlying T = some (.slice E)) (hsz : ∀ w, (sizeOf E).run cx.P w = .ok sz w) (hj : j ≤ n) (hc : j < c) :
    Yld cx o e S (.slice (some ⟨b, off + j * sz, none⟩) (n - j) (c - j)) := by
  intro a w ha _
  have hne : ¬ c = j := by omega
  have h1 : (j : Int) ≤ n := by omega
  simp [execOp, ho, ha.eval hx, ha.eval hy, Instr.sliceAt, Instr.slice, run_underlying hu, Instr.sliceBounds, run_sliceBound, h1, hsz, hne, Addr.add_lit]
theorem op_copy {x y : Operand} {T U E d b off n c m : Nat} {yv : Value} (i : Nat) {cs cs' ys : List Value} {H' : HL} (ho : o.op = .call ⟨.builtin .copy, #[x, y], #[T, U]⟩) (hd : o.dst = some d) (hn : Nat.blt d cx.n = true) (hx : ev e x = some (.slice (some ⟨b, off, none⟩) n c)) (hy : ev e y = some yv)
    (hu : cx.P.underlying T = some (.slice E)) (hsz : ∀ w, (sizeOf E).run cx.P w = .ok 1 w) (hs0 : Src cx.P I H 1 m yv ys) (hmn : m ≤ n) (hH : H[i]? = some (b, cel E cs)) (hcs : LSpl cs off ys cs') (hH' : LSet H i (b, cel E cs') H')
    (k : C ((d, i64 m) :: e) I H') : OpJ cx Q o e I H C := by
  intro K hK a w ha hs
  unfold Oper.wp
  obtain ⟨hs1, hs2, hs3, hs4⟩ := hs0
  have hb := hs.own _ (List.mem_of_getElem? hH)
  have hst := run_storeCells (P := cx.P) (t := E) ys 0 w cs hb (.inl rfl) hcs.1 (fun u hu => (List.all_eq_true.1 hs2) u hu) cs' hcs
  have hmin : Nat.min m n = m := Nat.min_eq_left hmn
  have : (execOp a.eval o).run cx.P w = .ok (.value (i64 m)) (World.block w b (cel E cs')) := by
    simp [execOp, ho, resolve, invoke, builtin, ha.eval hx, ha.eval hy, Builtin.copy_, run_underlying hu, hs3 w hs.ss, hmin, hsz, hs4 w hs.ss, hst, goInt, cel]
  rw [this]
  simp only [Oper.upon, hd]
  exact hK _ _ _ k _ _ (ha.put hn) (hs.block hH hH')
theorem op_invoke {H1 R : HL} {d f T te : Nat} {fo : Operand} {nm : String} {xs : List Operand} {ts : Array TypeId} {vs : List Value} {q : Option Addr} {post : Ending → Heap → HL → Prop}
    (ho : o.op = .call ⟨.invoke fo nm, xs.toArray, ts⟩) (hd : o.dst = some d) (hn : Nat.blt d cx.n = true) (hf : ev e fo = some (.iface T (.pointer q))) (hx : evs e xs = some vs)
    (hm : ((cx.P.info? T).bind fun i => i.methods.find? (·.name == nm)).map (fun m => (m.path.isEmpty, m.func)) = some (true, some (f, true))) (hu : cx.P.underlying T = some (.pointer te))
    (hs : Ctr cx.P f (.pointer q :: vs) I H1 post)
    (k : ∀ v I' H1', Le I I' → post (.returned v) I' H1' → C ((d, v) :: e) I' (H1' ++ R))
    (kp : ∀ ch I' H1', Le I I' → post (.panicked ch) I' H1' → Ej cx Q (.panic ch) e I' (H1' ++ R))
    (ko : ∀ I' H1', ¬ post .outgrown I' H1') : OpJ cx Q o e I (H1 ++ R) C := by
  intro K hK a w ha hst
  unfold Oper.wp
  have hr : (execOp a.eval o).run cx.P w = .ok (.enter f (.pointer q :: vs).toArray) w := by
    have hxs : xs.toArray.map a.eval = vs.toArray := by rw [List.map_toArray, ha.evals hx]
    obtain ⟨m, hm1, hm2⟩ := Option.map_eq_some_iff.1 hm
    obtain ⟨i, hi, hfi⟩ := Option.bind_eq_some_iff.1 hm1
    simp only [Prod.mk.injEq] at hm2
    obtain ⟨hp, hmf⟩ := hm2
    have hpl : m.path.toList = [] := by
      have : m.path = #[] := by simpa using hp
      rw [this]
    have hcall := run_callFunc hs.1 (.pointer q :: vs).toArray w
    have hmeth : ∀ n : Nat, (method (n + 1) T (.pointer q) nm).run cx.P w = .ok (f, .pointer q) w := fun n => by
      simp [method, typeInfo, hi, hfi, hpl, follow, hmf, receiverAt, run_underlying hu, Place.get]
    have hmd : ∀ n : Nat, (method (n + Made.depth) T (.pointer q) nm).run cx.P w = .ok (f, .pointer q) w := fun n => hmeth (n + (Made.depth - 1))
    simp only [execOp, ho, resolve, hxs, ha.eval hf, invoke, Sem.run_bind, Sem.run_pure, Result.andThen_ok, callMethod]
    simp [hmd, hcall]
  rw [hr]
  simp only [Oper.upon]
  have hready : Ready I H1 w := ⟨hst.sub, fun p hp => hst.own p (List.mem_append_left _ hp), by
    have := hst.nodup; rw [List.map_append, List.nodup_append] at this; exact this.1, fun p hp => hst.dis p (List.mem_append_left _ hp)⟩
  refine (hs.2 w hready).mono ?_
  rintro en w' ⟨I', H1', hs', hp⟩
  have hle := hs'.le
  have hst' := hst.call hs'
  cases en with
  | returned v =>
    rw [hd]
    exact hK _ _ _ (k v I' H1' hle hp) _ _ (ha.put hn) hst'
  | panicked ch => exact kp ch I' H1' hle hp _ _ ha hst'
  | outgrown => exact (ko _ _ hp).elim
end
theorem St.set1 {w : World} {I : Heap} {b T off : Nat} {cs : List Value} {v : Value} (hr : Ready I [(b, cel T cs)] w) : St w [b] I I [(b, cel T (cs.set off v))] (w.setCell ⟨b, off, none⟩ v) := by
  have hb : w.heap[b]? = some (cel T cs) := hr.2.1 (b, cel T cs) (.head _)
  have hst : St w [b] I I [(b, cel T cs)] w := St.start w I [(b, cel T cs)] hr.1 hr.2.1 hr.2.2.1 hr.2.2.2
  rw [setCell_block (fr := (0, 0)) hb]
  exact hst.block (i := 0) rfl LSet.z
theorem Ctr.of_set {P : Program} {f : FuncId} {args : List Value} {I : Heap} {b T off : Nat} {cs : List Value} {x y v : Value} (he : Enters P f) (hx : cs[off]? = some x)
    (h : ∀ w, w.cell? ⟨b, off, none⟩ = some x → w.frozen? ⟨b, off, none⟩ = false → Calls P f args.toArray w fun e w' => e = .returned v ∧ w' = w.setCell ⟨b, off, none⟩ y) :
    Ctr P f args I [(b, cel T cs)] (fun e _I' H' => e = .returned v ∧ H' = [(b, cel T (cs.set off y))]) :=
  ⟨he, fun w hr => (h w (cell_of_heap (hr.2.1 _ (.head _)) hx) (by have := hr.2.1 _ (.head _); simp only at this; simp [World.frozen?, this, cel])).mono fun e w' ⟨h1, h2⟩ => ⟨I, _, h2 ▸ St.set1 hr, h1, rfl⟩⟩
theorem Ctr.of_read {P : Program} {f : FuncId} {args : List Value} {I : Heap} {b T off : Nat} {cs : List Value} {x v : Value} (he : Enters P f) (hx : cs[off]? = some x)
    (h : ∀ w, w.cell? ⟨b, off, none⟩ = some x → Calls P f args.toArray w fun e w' => e = .returned v ∧ w' = w) :
    Ctr P f args I [(b, cel T cs)] (fun e _I' H' => e = .returned v ∧ H' = [(b, cel T cs)]) :=
  ⟨he, fun w hr => (h w (cell_of_heap (hr.2.1 _ (.head _)) hx)).mono fun _e _w' ⟨h1, h2⟩ => ⟨I, _, h2 ▸ St.start w I _ hr.1 hr.2.1 hr.2.2.1 hr.2.2.2, h1, rfl⟩⟩
theorem CtrD.of_set {P : Program} {f : FuncId} {args : List Value} {u : FrameMode} {I : Heap} {b T off : Nat} {cs : List Value} {x y v : Value} (he : Enters P f) (hx : cs[off]? = some x)
    (h : ∀ w, w.cell? ⟨b, off, none⟩ = some x → w.frozen? ⟨b, off, none⟩ = false → CallsD P f args.toArray u w fun e u' w' => u' = u ∧ (e = .returned v ∧ (w' = w.setCell ⟨b, off, none⟩ y ∨ w' = w.drew.setCell ⟨b, off, none⟩ y))) :
    CtrD P f args u I [(b, cel T cs)] (fun u' _I' H' => u' = u ∧ H' = [(b, cel T (cs.set off y))]) :=
  ⟨he, fun w hr => (h w (cell_of_heap (hr.2.1 _ (.head _)) hx) (by have := hr.2.1 _ (.head _); simp only at this; simp [World.frozen?, this, cel])).mono fun e u' w' ⟨h0, h1, h2⟩ => ⟨⟨v, h1⟩, I, _, by
    have hs := St.set1 (off := off) (v := y) hr
    rcases h2 with h2 | h2
    · rw [h2]; exact hs
    rw [h2]; exact hs.drew, h0, rfl⟩⟩
def tab (f : Nat → Value) (tr : Value) : List Value := (List.range 256).map f ++ [tr]
theorem tab_len (f : Nat → Value) (tr : Value) : (tab f tr).length = 257 := by simp [tab]
theorem tab_at (f : Nat → Value) (tr : Value) {i : Nat} (h : i < 256) : (tab f tr)[i]? = some (f i) := by
  unfold tab
  rw [List.getElem?_append_left (by simpa using h)]
  simp [h]
theorem tab_tr (f : Nat → Value) (tr : Value) : (tab f tr)[256]? = some tr := by
  unfold tab
  rw [List.getElem?_append_right (by simp)]
  simp
theorem tab_set (f : Nat → Value) (tr v : Value) {i : Nat} (h : i < 256) : (tab f tr).set i v = tab (fun j => if j = i then v else f j) tr := by
  apply List.ext_getElem?
  intro j
  rw [List.getElem?_set]
  rcases Nat.lt_or_ge j 256 with hj | hj
  · rw [tab_at _ _ hj, tab_at _ _ hj]
    by_cases hij : i = j
    · subst hij; simp [tab_len]; omega
    have : ¬ j = i := fun he => hij he.symm
    simp [hij, this]
  have hij : ¬ i = j := by omega
  simp only [hij, if_false]
  unfold tab
  rw [List.getElem?_append_right (by simpa using hj), List.getElem?_append_right (by simpa using hj)]
  simp
theorem tab_setTr (f : Nat → Value) (tr v : Value) : (tab f tr).set 256 v = tab f v := by
  unfold tab
  rw [List.set_append_right _ _ (by simp)]
  simp
theorem tab_one {f : Nat → Value} {tr : Value} (hf : ∀ i, (f i).oneCell' = true) (ht : tr.oneCell' = true) : (tab f tr).all Value.oneCell' = true := by
  unfold tab
  simp [hf, ht]
theorem tab_spl (f : Nat → Value) (a v : Value) : LSpl (tab f a) 256 [v] (tab f v) := by
  refine ⟨by simp [tab_len], ?_⟩
  unfold tab
  rw [List.take_append_of_le_length (by simp), List.take_of_length_le (by simp), List.drop_eq_nil_of_le (by simp)]
  simp
theorem LSpl.all {l xs : List Value} (h : l.length = xs.length) : LSpl l 0 xs xs := ⟨by simp [h], by simp [← h]⟩
theorem gV_cells1 (n : Nat) (g : Gs) : (gV n g).cells = #[gV n g] := by cases g <;> rfl
theorem gV_oneC (n : Nat) (g : Gs) : (gV n g).oneCell' = true := by cases g <;> rfl
def BytSl (I : Heap) (l : List UInt8) (v : Value) : Prop := ∃ b c sp fr, v = .slice (some ⟨b, 0, none⟩) l.length c ∧ I b = some (.cells (bcs l ++ sp).toArray 5 fr)
theorem BytSl.mono {I I' : Heap} {l : List UInt8} {v : Value} (h : BytSl I l v) (hle : Le I I') : BytSl I' l v := let ⟨b, c, sp, fr, h1, h2⟩ := h; ⟨b, c, sp, fr, h1, hle _ _ h2⟩
section
variable {cx : Cx} {Q : Qt} {e : Env} {I : Heap} {H : HL}
theorem Ej.leave2 {fn : Func} {post : Ending → Heap → HL → Prop} {H1 H2 H3 R1 : HL} {f1 f2 : Nat} {cap1 vs1 cap2 vs2 : List Value} (hds : cx.ds = [⟨.fn (.func f1) cap1.toArray, vs1.toArray⟩, ⟨.fn (.func f2) cap2.toArray, vs2.toArray⟩])
    (h1 : CtrD cx.P f1 (vs1 ++ cap1) .returning I H1 fun u' _I' H' => u' = .returning ∧ H' = H2) (h2 : ∀ I', CtrD cx.P f2 (vs2 ++ cap2) .returning I' H2 fun u' _I'' H' => u' = .returning ∧ H' = H3)
    (k : ∀ I', Le I I' → ResJ cx fn post e I' (H3 ++ R1)) : Ej cx (bodyPostD cx.P fn (RR cx.w0 cx.D cx.I0 post)) .normal e I (H1 ++ R1) := by
  intro a w ha hst
  show Leaves cx.P fn a.tmps (RR cx.w0 cx.D cx.I0 post) a.defers .returning w
  rw [ha.defs, hds]
  refine leaves_one (by simp) h1 hst ?_
  rintro u' I' H1' w' hle ⟨rfl, rfl⟩ hs'
  refine leaves_one (by simp []) (h2 I') hs' ?_
  rintro u2 I2 H2' w2 hle2 ⟨rfl, rfl⟩ hs2
  exact k I2 (hle.trans hle2) a w2 ha hs2
theorem ResJ.none {fn : Func} {post : Ending → Heap → HL → Prop} (hr : fn.results = #[]) (hp : post (.returned (.tuple #[])) I H) : ResJ cx fn post e I H :=
  fun _a _w _ hs => ⟨.tuple #[], results_none hr _ _ _, I, H, hs, hp⟩
end
end Go.Sx
end
section
namespace Go.Proofs.YtjcdfnbomkoheaaGreatDoor
open _root_.Go.Proofs.Tryz
open Go Go.Sx
def BldH (b : Nat) (l : List UInt8) (p : Bool) (g : Gs) : HL := (b, cel 154 [if p then ptr b 0 else .pointer none, gV l.length g]) :: gH 5 (bcs l) g
theorem copyCheck_fresh (b : Nat) (v : Value) (I : Heap) : Ctr Tryz.prog 154 [ptr b 0] I [(b, cel 154 [.pointer none, v])] (fun e _I' H' => e = .returned (.tuple #[]) ∧ H' = [(b, cel 154 [ptr b 0, v])]) := by
 refine Ctr.ob func154 ?_
 intro w0 hw0
 refine Cj.sr (J.z q0 ?_)
 refine J.z q8 ?_
 refine J.z (q4 (off' := 0) tU154 tS152) ?_
 refine J.z (q18 isAgg152) ?_
 refine J.z (q52 tU152) ?_
 refine J.c1 (fun hc1 => ?_)
 refine Cj.region (J.z q0 ?_)
 refine J.z q0 ?_
 refine J.z (yl_toUnsafe 1 rfl rfl tU152 tU236 (by kernel_rfl) (Blk.at 0 rfl) (by simp)) ?_
 refine J.z (yl_noEscape rfl rfl rfl func184 (by kernel_rfl) (by kernel_rfl) (by kernel_rfl) (by kernel_rfl)) ?_
 refine J.z (yl_fromUnsafe rfl rfl tU236 tU152 (by kernel_rfl) (Blk.at 0 rfl) (by kernel_rfl)) ?_
 refine J.z q8 ?_
 refine J.z (q4 (off' := 0) tU154 tS152) ?_
 refine J.op rfl (q21 0 tS152 (LSpl.c LSpl.z) LSet.z ?_)
 refine J.nil (q39 ?_)
 exact ⟨rfl, rfl⟩
theorem copyCheck_used (b : Nat) (v : Value) (I : Heap) : Ctr Tryz.prog 154 [ptr b 0] I [(b, cel 154 [ptr b 0, v])] (fun e _I' H' => e = .returned (.tuple #[]) ∧ H' = [(b, cel 154 [ptr b 0, v])]) := by
 refine Ctr.ob func154 ?_
 intro w0 hw0
 refine Cj.sr (J.z q0 ?_)
 refine J.z q8 ?_
 refine J.z (q4 (off' := 0) tU154 tS152) ?_
 refine J.z (q18 isAgg152) ?_
 refine J.z (q52 tU152) ?_
 refine J.c0 (fun hc1 => ?_)
 refine Cj.sr (J.z q0 ?_)
 refine J.z q8 ?_
 refine J.z (q4 (off' := 0) tU154 tS152) ?_
 refine J.z (q18 isAgg152) ?_
 refine J.z q0 ?_
 refine J.z (yl_neqSame rfl rfl rfl tU152 (by kernel_rfl)) ?_
 refine J.c0 (fun hc2 => ?_)
 refine Cj.skip (q39 ?_)
 exact ⟨rfl, rfl⟩
theorem copyCheck_ok (b : Nat) (p : Bool) (v : Value) (I : Heap) : Ctr Tryz.prog 154 [ptr b 0] I [(b, cel 154 [if p then ptr b 0 else .pointer none, v])] (fun e _I' H' => e = .returned (.tuple #[]) ∧ H' = [(b, cel 154 [ptr b 0, v])]) := by
  cases p
  · exact copyCheck_fresh b v I
  exact copyCheck_used b v I
theorem WriteString_ok (b : Nat) (l s : List UInt8) (p : Bool) (g : Gs) (hg : gOk 0 1 l.length (bcs l) g) (hl : l.length ≤ 1000000000000) (hs : s.length ≤ 1000000000000) (I : Heap) :
    Ctr Tryz.prog 109 [ptr b 0, str s] I (BldH b l p g) (fun e _I' H' => e = .returned (.tuple #[i64 s.length, .nilIface]) ∧ ∃ g', gOk 0 1 (l ++ s).length (bcs (l ++ s)) g' ∧ H' = BldH b (l ++ s) true g') := by
 refine Ctr.ob func109 ?_
 intro w0 hw0
 refine Cj.sr (J.z q1 ?_)
 refine J.z q1 ?_
 refine J.nssr (J.z q0 ?_)
 refine J.pull Pull.z ?_
 refine J.op rfl (op_call (H1 := [_]) rfl rfl rfl rfl rfl (copyCheck_ok b p _ _) ?_ (fun _ _ _ _ h => by cases h.1) (fun _ _ h => by cases h.1))
 intro v1 I2 H3 hle4 hp5
 obtain ⟨hv1, rfl⟩ := hp5; cases hv1
 refine J.nssr (J.z q0 ?_)
 refine J.z q0 ?_
 refine J.z q8 ?_
 refine J.z (q4 (off' := 1) tU154 tS71) ?_
 refine J.z (q18 tA71) ?_
 refine J.z q0 ?_
 refine J.op rfl (op_appendB 0 (Nat.zero_le _) (by' := 0) [_] rfl rfl rfl rfl rfl tU71 (.inl tU9) (by kernel_rfl) tS5 tZ5 rfl hg rfl Src.str (by omega) ?_)
 intro g6 hg6
 refine J.z q8 ?_
 refine J.z (q4 (off' := 1) tU154 tS71) ?_
 refine J.op rfl (op_store 0 rfl rfl rfl rfl (gV_cells _ _) (gV_one _ _) tS71 rfl rfl (LSpl.s (LSpl.c LSpl.z)) LSet.z ?_)
 refine J.nssr (J.z q0 ?_)
 refine J.z (q26 tU9) ?_
 refine J.z q1 ?_
 refine J.z q1 ?_
 refine J.ns (Cj.ret (Ej.keep (Keeps.k Keeps.r) ?_))
 refine q22 ?_
 exact ⟨rfl, g6, by simpa [bcs] using hg6, by simp [BldH, bcs]⟩
theorem String_nil (b : Nat) (x : Value) (I : Heap) : Ctr Tryz.prog 111 [ptr b 0] I [(b, cel 154 [x, .slice none 0 0])] (fun e _I' H' => e = .returned (str []) ∧ ∃ y z, H' = [(b, cel 154 [y, z])]) := by
 refine Ctr.ob func111 ?_
 intro w0 hw0
 refine Cj.sr (J.z q1 ?_)
 refine J.nss (Cj.drawSel [0] [] 12 (by kernel_rfl) ?_)
 refine JA.fix ⟨(HSub.c 0 rfl HSub.n), CSub.n, (Le.refl _)⟩ (fun fx1 => ?_)
 refine JA.tk 0 rfl fx1 q0 ?_
 refine JA.tk 1 rfl fx1 q8 ?_
 refine JA.tk 2 rfl fx1 (q4 (off' := 1) tU154 tS71) ?_
 refine JA.tk 3 rfl fx1 (q9 tA71 (Blk.atC 0 rfl)) ?_
 refine JA.tk 4 rfl fx1 (yl_sliceDataNil rfl rfl) ?_
 refine JA.tk 5 rfl fx1 q0 ?_
 refine JA.tk 6 rfl fx1 q8 ?_
 refine JA.tk 7 rfl fx1 (q4 (off' := 1) tU154 tS71) ?_
 refine JA.tk 8 rfl fx1 (q9 tA71 (Blk.atC 0 rfl)) ?_
 refine JA.tk 9 rfl fx1 (q15 tU71) ?_
 refine q13 10 rfl (q2 (yl_unsafeStringNone rfl rfl rfl) ?_)
 refine ⟨⟨(Le.refl _), (HSub.c 0 rfl HSub.n), CSub.n⟩, ?_⟩
 refine JA.fix ⟨(HSub.c 0 rfl HSub.n), CSub.n, (Le.refl _)⟩ (fun fx2 => ?_)
 refine JA.tk 11 rfl fx2 q1 ?_
 refine q14 ?_
 refine Ej.seq (Cj.ret (Ej.keep (Keeps.k Keeps.n) ?_))
 refine q6 ?_
 exact ⟨rfl, _, _, rfl⟩
theorem String_some (b gb c : Nat) (x : Value) (l : List UInt8) (sp : List Value) (h0 : l ≠ []) (hl : l.length ≤ 1000000000000) (hc : c ≠ 0) (I : Heap) : Ctr Tryz.prog 111 [ptr b 0] I [(b, cel 154 [x, .slice (some ⟨gb, 0, none⟩) l.length c]), (gb, cel 5 (bcs l ++ sp))] (fun e _I' H' => e = .returned (str l) ∧ ∃ y z, H' = [(b, cel 154 [y, z])]) := by
 refine Ctr.ob func111 ?_
 intro w0 hw0
 refine Cj.sr (J.z q1 ?_)
 refine J.nss (Cj.drawSel [0] [] 12 (by kernel_rfl) ?_)
 refine JA.fix ⟨(HSub.c 0 rfl HSub.n), CSub.n, (Le.refl _)⟩ (fun fx1 => ?_)
 refine JA.tk 0 rfl fx1 q0 ?_
 refine JA.tk 1 rfl fx1 q8 ?_
 refine JA.tk 2 rfl fx1 (q4 (off' := 1) tU154 tS71) ?_
 refine JA.tk 3 rfl fx1 (q9 tA71 (Blk.atC 0 rfl)) ?_
 refine JA.tk 4 rfl fx1 (yl_sliceData rfl rfl hc) ?_
 refine JA.tk 5 rfl fx1 q0 ?_
 refine JA.tk 6 rfl fx1 q8 ?_
 refine JA.tk 7 rfl fx1 (q4 (off' := 1) tU154 tS71) ?_
 refine JA.tk 8 rfl fx1 (q9 tA71 (Blk.atC 0 rfl)) ?_
 refine JA.tk 9 rfl fx1 (q15 tU71) ?_
 refine q13 10 rfl (op_unsafeString 1 l rfl rfl rfl rfl rfl underlying191 (by kernel_rfl) rfl h0 (by omega) (LSet.s LSet.z) ?_)
 refine ⟨⟨(Le.refl _), (HSub.c 0 rfl HSub.n), CSub.n⟩, ?_⟩
 refine JA.fix ⟨(HSub.c 0 rfl HSub.n), CSub.n, (Le.refl _)⟩ (fun fx2 => ?_)
 refine JA.tk 11 rfl fx2 q1 ?_
 refine q14 ?_
 refine Ej.seq (Cj.ret (Ej.keep (Keeps.k (Keeps.d Keeps.n)) ?_))
 refine q6 ?_
 exact ⟨rfl, _, _, rfl⟩
theorem String_ok (b : Nat) (l : List UInt8) (p : Bool) (g : Gs) (hg : gOk 0 1 l.length (bcs l) g) (h0 : l = [] → g = none) (hl : l.length ≤ 1000000000000) (I : Heap) : Ctr Tryz.prog 111 [ptr b 0] I (BldH b l p g) (fun e _I' H' => e = .returned (str l) ∧ ∃ y z, H' = [(b, cel 154 [y, z])]) := by
  cases g with
  | none =>
    have : l = [] := List.length_eq_zero_iff.1 hg.1
    subst this
    exact String_nil b _ I
  | some q =>
    obtain ⟨gb, c, sp⟩ := q
    have hne : l ≠ [] := fun h => by cases h0 h
    have hlen := hg.2.1
    have hcap := hg.2.2
    have : 0 < l.length := List.length_pos_iff.2 hne
    exact String_some b gb c _ l sp hne hl (by rw [hlen] at hcap; omega) I
theorem Len_nil (b : Nat) (x : Value) (I : Heap) : Ctr Tryz.prog 110 [ptr b 0] I [(b, cel 154 [x, .slice none 0 0])] (fun e _I' H' => e = .returned (i64 0) ∧ H' = [(b, cel 154 [x, .slice none 0 0])]) := by
 refine Ctr.ob func110 ?_
 intro w0 hw0
 refine Cj.sr (J.z q1 ?_)
 refine J.nssr (J.z q0 ?_)
 refine J.z q8 ?_
 refine J.z (q4 (off' := 1) tU154 tS71) ?_
 refine J.z (q18 tA71) ?_
 refine J.z (q15 tU71) ?_
 refine J.z q1 ?_
 refine J.ns (Cj.ret (q6 ?_))
 exact ⟨rfl, rfl⟩
theorem Len_some (b : Nat) (x : Value) (p : Option Addr) (n c : Nat) (I : Heap) : Ctr Tryz.prog 110 [ptr b 0] I [(b, cel 154 [x, .slice p n c])] (fun e _I' H' => e = .returned (i64 n) ∧ H' = [(b, cel 154 [x, .slice p n c])]) := by
 refine Ctr.ob func110 ?_
 intro w0 hw0
 refine Cj.sr (J.z q1 ?_)
 refine J.nssr (J.z q0 ?_)
 refine J.z q8 ?_
 refine J.z (q4 (off' := 1) tU154 tS71) ?_
 refine J.z (q18 tA71) ?_
 refine J.z (q15 tU71) ?_
 refine J.z q1 ?_
 refine J.ns (Cj.ret (q6 ?_))
 exact ⟨rfl, rfl⟩
theorem Len_ok (b : Nat) (x : Value) (n : Nat) (g : Gs) {sz : Nat} {xs : List Value} (hg : gOk 0 sz n xs g) (I : Heap) : Ctr Tryz.prog 110 [ptr b 0] I [(b, cel 154 [x, gV n g])] (fun e _I' H' => e = .returned (i64 n) ∧ H' = [(b, cel 154 [x, gV n g])]) := by
  cases g with
  | none =>
    obtain rfl : n = 0 := hg.1
    exact Len_nil b x I
  | some q => exact Len_some b x _ n _ I
theorem Reset_ok (b : Nat) (x y : Value) (I : Heap) : Ctr Tryz.prog 112 [ptr b 0] I [(b, cel 154 [x, y])] (fun e _I' H' => e = .returned (.tuple #[]) ∧ H' = [(b, cel 154 [.pointer none, .slice none 0 0])]) := by
 refine Ctr.ob func112 ?_
 intro w0 hw0
 refine Cj.sr (J.z q0 ?_)
 refine J.z q8 ?_
 refine J.z (q4 (off' := 0) tU154 tS152) ?_
 refine J.op rfl (q21 0 tS152 (LSpl.c LSpl.z) LSet.z ?_)
 refine J.nsr (J.z q0 ?_)
 refine J.z q8 ?_
 refine J.z (q4 (off' := 1) tU154 tS71) ?_
 refine J.op rfl (q21 0 tS71 (LSpl.s (LSpl.c LSpl.z)) LSet.z ?_)
 refine J.nil (q39 ?_)
 exact ⟨rfl, rfl⟩
end Go.Proofs.YtjcdfnbomkoheaaGreatDoor
end
section
namespace Go.Proofs.YtjcdfnbomkoheaaGreatDoor
open Go.ChangeShapes Go.WideShapes Go.ChangeAt Go.RowKit Go.Sx Go.Lib Go.ChangeMaps Go.WideMaps
theorem own : ownKnob Tryz.prog.godebug = none := by kernel_rfl
def HW (W : World) : Heap := fun b => W.heap[b]?
theorem HW.ready (W : World) : Ready (HW W) [] W := ⟨fun _ _ h => h, by simp, by simp, by simp⟩
theorem HW.below {W w' : World} {I' : Heap} {H' : HL} (h : St W [] (HW W) I' H' w') : Below W.heap.size W w' := ⟨h.os, h.tape, h.output, h.size, fun b hb => h.frm b hb (by simp)⟩
theorem HW.calls {f : FuncId} {args : List Value} {W : World} {v : Value} (h : Sx.Pure Tryz.prog f args (HW W) v) : Calls Tryz.prog f args.toArray W fun e w' => e = .returned v ∧ Below W.heap.size W w' :=
  (h.2 W (HW.ready W)).mono fun _e _w' ⟨_I', _H', hs, h1, _, _⟩ => ⟨h1, HW.below hs⟩
theorem post_grow {H : Type} {enc : TypeId × Value → H} {P : Program} {f : Func} {s : ChangeSpec} {apart fresh handsOn again : Bool} {W W' : World} {args : Array Value} {v : Value} {ds gs : List (DataW H)} {before pa pv : List MemPlace}
    (hB : Below W.heap.size W W') (hW : DataW.Whole enc P f.params.toList s.vars apart W args.toList ds gs before) (hps : before = pa ++ pv)
    (hres : ∀ (b : Nat) (sp : Nat → Bool) (hd : Bool), DataW.TrodAll enc P W' b sp hd f.resultTypes.toList (v.resultList f.resultTypes.size) (s.fn H (ds ++ gs)).results [])
    (hargs : ∀ sp : Nat → Bool, (∀ p ∈ before, sp p.block = true) → DataW.TrodAll enc P W' 0 sp true f.params.toList args.toList (s.fn H (ds ++ gs)).args pa)
    (hvars : ∀ sp : Nat → Bool, (∀ p ∈ before, sp p.block = true) → DataW.TrodVars enc P W' sp s.vars (s.fn H (ds ++ gs)).vars pv)
    (hok : ∀ (j : Nat) (t : TypeId) (r : Value), f.resultTypes[j]? = some t → (v.resultList f.resultTypes.size)[j]? = some r → Value.okWide P W' .any 0 t r) : s.post enc P f apart fresh handsOn again W args v W' := by
  have old : ∀ p ∈ before, p.block < W.heap.size := hW.lt
  have mem : ∀ p, p ∈ before ↔ p ∈ pa ∨ p ∈ pv := fun p => by rw [hps]; exact List.mem_append
  have both : ([] ++ pa) ++ pv = before := by rw [hps]; rfl
  refine ⟨ds, gs, before, [], pa, pv, hW, hres _ _ _, hargs _ fun p hp => decide_eq_true (old p hp), hvars _ fun p hp => decide_eq_true (old p hp), World.keptBut_mono (fun p hp => ⟨hp, .inr ((mem p).1 hp)⟩) (hB.frame (· ∈ before)), fun _ => ?_⟩
  have hrd := hargs (fun _ => true) fun _ _ => rfl
  obtain ⟨_, _, _, _, _, hfrz, hnd⟩ := hW
  refine ⟨hok, _, _, ([] ++ pa) ++ pv, ⟨[] ++ pa, pv, trodAll_append hrd (hres _ _ _), hvars _ fun _ _ => rfl, rfl, fun b off hp => ?_, fun ha => ?_⟩, fun p hp _ => ?_⟩
  · have hin : MemPlace.cell b off ∈ before := both ▸ hp
    have hlt : b < W.heap.size := old _ hin
    have hf := hfrz b off hin
    unfold World.frozen? at hf ⊢
    rw [hB.block b hlt]
    exact hf
  · exact both ▸ hnd ha
  exact both ▸ hp
def Again {H : Type} (enc : TypeId × Value → H) (W : World) (t : TypeId) (v : Value) (d : DataW H) (p : List MemPlace) : Prop :=
  ∀ W', Below W.heap.size W W' → ∀ sp : Nat → Bool, (∀ q ∈ p, sp q.block = true) → DataW.Trod enc Tryz.prog W' 0 sp true t v d p
section
variable {H : Type} {enc : TypeId × Value → H} {W : World} {base : Nat}
theorem arg_string {t : TypeId} {v : Value} {d : DataW H} {p : List MemPlace} (ht : Tryz.prog.underlying t = some .string) (hval : Value.okWide Tryz.prog W .any base t v) (h : DataW.Trod enc Tryz.prog W 0 (fun _ => true) true t v d p) :
    ∃ s : List UInt8, v = str s ∧ d = .lit (.string s) ∧ p = [] ∧ Again enc W t v d p := by
  obtain ⟨s, rfl, rfl, rfl, ws⟩ := open_string ht hval h
  exact ⟨s.data.toList, by cases s; simp [str], rfl, rfl, fun W' _ sp _ => shut_string ht ws⟩
theorem u8_of {n : Int} (h : (Lit.int .u8 n).wf = true) : ∃ c : UInt8, n = (c.toNat : Int) := by
  simp [Lit.wf, IntKind.min, IntKind.max, IntKind.signed, IntKind.bits] at h
  refine ⟨UInt8.ofNatLT n.toNat (by show n.toNat < 256; omega), ?_⟩
  rw [UInt8.toNat_ofNatLT]
  omega
theorem arg_u8 {t : TypeId} {v : Value} {d : DataW H} {p : List MemPlace} (ht : Tryz.prog.underlying t = some (.int .u8)) (hval : Value.okWide Tryz.prog W .any base t v) (h : DataW.Trod enc Tryz.prog W 0 (fun _ => true) true t v d p) :
    ∃ c : UInt8, v = u8 c ∧ d = .lit (.int .u8 (c.toNat : Int)) ∧ p = [] ∧ Again enc W t v d p := by
  obtain ⟨n, rfl, rfl, rfl, hw⟩ := open_int ht hval h
  obtain ⟨c, rfl⟩ := u8_of hw
  exact ⟨c, rfl, rfl, rfl, fun W' _ sp _ => shut_int ht hw⟩
end
theorem witness_laid {H : Type} {enc : TypeId × Value → H} (os : Os) {f : FuncId} {fn : Func} {s : OpenSpec} {conds : List PathCond} {apart : Bool} {laid : List (String × DataW Unit)} (args : Array Value)
    (hv : ((World.laidAll Tryz.prog os laid).forCall (fun _ _ => 0) ⟨#[], args, []⟩).variablesZipB Tryz.prog = true)
    (hr : (((World.laidAll Tryz.prog os laid).forCall (fun _ _ => 0) ⟨#[], args, []⟩).heap.toList.drop Tryz.prog.globals.size).take ((begin Tryz.prog (fun _ _ => 0) default).world.heap.size - Tryz.prog.globals.size) = (begin Tryz.prog (fun _ _ => 0) default).world.heap.toList.drop Tryz.prog.globals.size)
    (hok : Input.okWideB Tryz.prog ((World.laidAll Tryz.prog os laid).forCall (fun _ _ => 0) ⟨#[], args, []⟩) f ⟨#[], args, []⟩ = true)
    (hrow : s.preRow enc Tryz.prog fn conds apart laid ((World.laidAll Tryz.prog os laid).forCall (fun _ _ => 0) ⟨#[], args, []⟩).memory args) :
    ∃ (w : World) (tape : Tape) (i : Input), w.os = os ∧ (w.forCall tape i).Shaped Tryz.prog ∧ i.vars = [] ∧ Input.okWide Tryz.prog (w.forCall tape i) .any w.heap.size f i ∧
      s.preRow enc Tryz.prog fn conds apart laid (w.forCall tape i).memory i.args ∧ ({} : Assume).holds Tryz.prog (lone (Frame.enter Tryz.prog f i.args .normal) [] (w.forCall tape i)) :=
  ⟨World.laidAll Tryz.prog os laid, fun _ _ => 0, ⟨#[], args, []⟩, World.laidAll_os _ _ _, World.shaped_of_ZipB hv hr, (Input.okWide_of_okWideB (base := 0) hok).1, (Input.okWide_of_okWideB hok).2, hrow, by
    simp only [Assume.holds]
    exact ⟨by simp, by simp, by simp, by simp, by simp⟩⟩
end Go.Proofs.YtjcdfnbomkoheaaGreatDoor
end
section
namespace Go.Sx
open Go
def YC (P : Program) (l : Nat) (args : List Value) (I : Heap) (H : HL) (post : Ending → Heap → HL → Prop) : Prop :=
  ∀ w, Ready I H w → ∃ f tmps assign body, (Instr.yield l args.toArray).run P w = .ok (.round l f tmps assign body) w ∧ RoundIn Fence.wide 0 P l f tmps assign body w (RR w (H.map (·.1)) I post)
theorem fence_round {rd : Option Nat} {n : Nat} {P : Program} {l : Nat} {f : FuncId} {tmps : Array Value} {assign body : Code} {w : World} {R : Ending → World → Prop} (h : RoundIn Fence.wide n P l f tmps assign body w R) : RoundIn { Fence.wide with round := rd } n P l f tmps assign body w R := by
  cases rd with
  | none => exact h
  | some l => exact h
section
variable {cx : Cx} {Q : Qt} {o : Oper} {e : Env} {I : Heap}
theorem wp_yield {H1 R : HL} {d l : Nat} {fo : Operand} {xs : List Operand} {ts : Array TypeId} {vs : List Value} {post : Ending → Heap → HL → Prop} {K : Act → World → Prop}
    (ho : o.op = .call ⟨.value fo, xs.toArray, ts⟩) (hd : o.dst = some d) (hn : Nat.blt d cx.n = true) (hf : ev e fo = some (.func (.yield l) #[] #[])) (hx : evs e xs = some vs) (hs : YC cx.P l vs I H1 post)
    (k : ∀ v I' H1', Le I I' → post (.returned v) I' H1' → ∀ a w, Has a cx.n ((d, v) :: e) cx.ds → St cx.w0 cx.D cx.I0 I' (R ++ H1') w → K a w)
    (kp : ∀ ch I' H1', ¬ post (.panicked ch) I' H1') (ko : ∀ I' H1', ¬ post .outgrown I' H1') {a : Act} {w : World} (ha : Has a cx.n e cx.ds) (hst : St cx.w0 cx.D cx.I0 I (R ++ H1) w) : o.wpIn cx.F 0 cx.P a w K Q := by
  replace hst := hst.perm (H' := H1 ++ R) List.perm_append_comm
  have hready : Ready I H1 w := ⟨hst.sub, fun p hp => hst.own p (List.mem_append_left _ hp), by
    have := hst.nodup; rw [List.map_append, List.nodup_append] at this; exact this.1, fun p hp => hst.dis p (List.mem_append_left _ hp)⟩
  obtain ⟨f, tmps, assign, body, h1, h2⟩ := hs w hready
  have hr : (execOp a.eval o).run cx.P w = .ok (.round l f tmps assign body) w := by
    have hxs : xs.toArray.map a.eval = vs.toArray := by
      rw [List.map_toArray, ha.evals hx]
    simp only [execOp, ho, resolve, hxs, ha.eval hf, Deferred.ofValue, invoke, Sem.run_bind, Sem.run_pure, Result.andThen_ok, Array.empty_append, h1]
  refine ⟨fun _ _ => trivial, ?_⟩
  have he : o.semAt cx.F.round a.eval = execOp a.eval o := Oper.semAt_eq _ _ _ (fun c hc => by rw [ho] at hc; cases hc)
  rw [he, hr]
  refine ⟨fun h => by simp [Cx.F, Fence.wide] at h, ?_⟩
  refine RoundIn.mono (fence_round (rd := cx.rd) h2) ?_
  rintro en w' ⟨I', H1', hs', hp⟩
  have hle := hs'.le
  have hst' := (hst.call hs').perm (H' := R ++ H1') List.perm_append_comm
  cases en with
  | returned v =>
    rw [hd]
    exact k v I' H1' hle hp _ _ (ha.put hn) hst'
  | panicked ch => exact (kp _ _ _ hp).elim
  | outgrown => exact (ko _ _ hp).elim
theorem J.yield {ops : Array Oper} {r : List Oper} {H1 : HL} (R : HL) {d l : Nat} {fo : Operand} {xs : List Operand} {ts : Array TypeId} {vs : List Value} {post : Ending → Heap → HL → Prop}
    (hg : o.guard = none) (ho : o.op = .call ⟨.value fo, xs.toArray, ts⟩) (hd : o.dst = some d) (hn : Nat.blt d cx.n = true) (hf : ev e fo = some (.func (.yield l) #[] #[])) (hx : evs e xs = some vs) (hs : YC cx.P l vs I H1 post)
    (k : ∀ v I' H1', Le I I' → post (.returned v) I' H1' → J cx Q ops r ((d, v) :: e) I' (R ++ H1'))
    (kp : ∀ ch I' H1', ¬ post (.panicked ch) I' H1') (ko : ∀ I' H1', ¬ post .outgrown I' H1') : J cx Q ops (o :: r) e I (R ++ H1) :=
  fun _ _ ha hst => wpListIn_plain hg fun _ hK => wp_yield ho hd hn hf hx hs (fun v I' H1' hle hp a w ha hst => hK a w (k v I' H1' hle hp a w ha hst)) kp ko ha hst
theorem J.yieldG {ops : Array Oper} {r : List Oper} {H1 : HL} (R : HL) {d l : Nat} {fo : Operand} {xs : List Operand} {ts : Array TypeId} {vs : List Value} {post : Ending → Heap → HL → Prop} (j dj : Nat) (want b : Bool)
    (hg : o.guard = some (j, want)) (hdj : (ops[j]?).bind (·.dst) = some dj) (hv : eg e dj = some (.bool b)) (hb : b = want) (ho : o.op = .call ⟨.value fo, xs.toArray, ts⟩) (hd : o.dst = some d) (hn : Nat.blt d cx.n = true) (hf : ev e fo = some (.func (.yield l) #[] #[])) (hx : evs e xs = some vs) (hs : YC cx.P l vs I H1 post)
    (k : ∀ v I' H1', Le I I' → post (.returned v) I' H1' → J cx Q ops r ((d, v) :: e) I' (R ++ H1'))
    (kp : ∀ ch I' H1', ¬ post (.panicked ch) I' H1') (ko : ∀ I' H1', ¬ post .outgrown I' H1') : J cx Q ops (o :: r) e I (R ++ H1) := by
  intro a w ha hst
  refine wpListIn_step fun K hK => ?_
  rw [if_pos (by simp [Region.wanted, hg, yielded_of ha hdj hv, hb])]
  exact wp_yield ho hd hn hf hx hs (fun v I' H1' hle hp a w ha hst => hK a w (k v I' H1' hle hp a w ha hst)) kp ko ha hst
end
def YS (P : Program) (l : Nat) (xs : List (List Value)) (Y : Nat → Heap → HL → Prop) (Z : Heap → HL → Prop) : Prop :=
  ∀ k args, xs[k]? = some args → ∀ I H, Y k I H → YC P l args I H (fun e I' H' => (e = .returned (.bool true) ∧ Y (k + 1) I' H') ∨ (e = .returned (.bool false) ∧ Z I' H'))
def Gen (P : Program) (f : FuncId) (fst cap : List Value) (I : Heap) (xs : List (List Value)) : Prop :=
  Enters P f ∧ ∀ (l : Nat) (Y : Nat → Heap → HL → Prop) (Z : Heap → HL → Prop), (∀ k I1 I2 H, Le I1 I2 → Y k I1 H → Y k I2 H) → YS P l xs Y Z →
    ∀ H, Y 0 I H → Ctr P f (fst ++ [.func (.yield l) #[] #[]] ++ cap) I H (fun e I' H' => e = .returned (.tuple #[]) ∧ (Y xs.length I' H' ∨ Z I' H'))
def zipEnv : List Tmp → List Value → Env → Env
  | t :: ps, v :: vs, e => zipEnv ps vs ((t, v) :: e)
  | _, _, e => e
theorem Has.zip {n : Nat} : ∀ (ps : List Tmp) (vs : List Value) (e : Env) (tmps : Array Value), (∀ t ∈ ps, Nat.blt t n = true) → Has ⟨tmps, []⟩ n e [] → Has ⟨(ps.zip vs).foldl (fun tmps (x : Tmp × Value) => tmps.setIfInBounds x.1 x.2) tmps, []⟩ n (zipEnv ps vs e) []
  | [], _, _, _, _, h => h
  | _ :: _, [], _, _, _, h => h
  | t :: ps, _v :: vs, _e, tmps, hn, h => Has.zip ps vs _ _ (fun u hu => hn u (.tail _ hu)) (Has.put (a := ⟨tmps, []⟩) h (hn t (.head _)))
def AsgQ (cx : Cx) (l : Nat) (r : Loop) (body : Code) (Q : Qt) : Qt
  | .normal, a, w => ∃ e I H, Has a cx.n e cx.ds ∧ St cx.w0 cx.D cx.I0 I ((l, .loop r) :: H) w ∧ Cj cx Q body e I ((l, .loop { r with state := .busy }) :: H)
  | _, _, _ => False
def RdQ (cx : Cx) (l : Nat) (r : Loop) (Y : Heap → HL → Prop) (Z : Code → Heap → HL → Prop) : Qt
  | .normal, _, w => ∃ I H, St cx.w0 cx.D cx.I0 I ((l, .loop { r with state := .busy }) :: H) w ∧ Y I H
  | .ret, _, w => ∃ I H, St cx.w0 cx.D cx.I0 I ((l, .loop { r with state := .busy }) :: H) w ∧ Z .ret I H
  | .exit id, _, w => ∃ I H, St cx.w0 cx.D cx.I0 I ((l, .loop { r with state := .busy }) :: H) w ∧ Z (.exit id) I H
  | _, _, _ => False
section
variable {cx : Cx} {Q : Qt} {e : Env} {I : Heap} {H : HL} {l : Nat} {r : Loop} {Y : Heap → HL → Prop} {Z : Code → Heap → HL → Prop}
theorem Ej.asg {body : Code} (k : Cj cx Q body e I ((l, .loop { r with state := .busy }) :: H)) : Ej cx (AsgQ cx l r body Q) .normal e I ((l, .loop r) :: H) :=
  fun _ _ ha hs => ⟨e, I, H, ha, hs, k⟩
theorem Ej.rdNormal (h : Y I H) : Ej cx (RdQ cx l r Y Z) .normal e I ((l, .loop { r with state := .busy }) :: H) := fun _ _ _ hs => ⟨I, H, hs, h⟩
abbrev markOf (b : Nat) : Deferred := { target := .collected b, args := #[] }
theorem Cj.rangeFunc {g : Operand} {ps : List Tmp} {assign body : Code} {f : Nat} {fst cap : List Value} {H1 R : HL} (xs : List (List Value)) (Y : Nat → Heap → HL → Prop) (Z : Code → Heap → HL → Prop)
    (hr : cx.rd = none) (hps : ∀ t ∈ ps, Nat.blt t cx.n = true) (hlen : ∀ args ∈ xs, args.length = ps.length) (hg : ev e g = some (.func (.func f) fst.toArray cap.toArray)) (hgen : Gen cx.P f fst cap I xs)
    (hmono : ∀ k I1 I2 H, Le I1 I2 → Y k I1 H → Y k I2 H) (h0 : Y 0 I H1)
    (round : ∀ l r k args I1 Hk w0, xs[k]? = some args → Le I I1 → Y k I1 Hk →
      Cj ⟨cx.P, cx.n, w0, l :: Hk.map (·.1), I1, [], some l⟩ (AsgQ ⟨cx.P, cx.n, w0, l :: Hk.map (·.1), I1, [], some l⟩ l r body (RdQ ⟨cx.P, cx.n, w0, l :: Hk.map (·.1), I1, [], some l⟩ l r (Y (k + 1)) Z)) assign (zipEnv ps args e) I1 ((l, .loop r) :: Hk))
    (done : ∀ b I' H', Le I I' → Y xs.length I' H' → Ej { cx with ds := markOf b :: cx.ds } Q .normal e I' ((b, .deferred (some [])) :: (H' ++ R)))
    (left : ∀ b c I' H', Le I I' → Z c I' H' → Cj { cx with ds := markOf b :: cx.ds } Q c e I' ((b, .deferred (some [])) :: (H' ++ R))) :
    Cj cx Q (.rangeFunc g ps.toArray assign body) e I (H1 ++ R) := by
  intro a w ha hst
  rw [Cx.wide hr]
  refine wpIn_rangeFunc fun fn _ => ?_
  obtain ⟨r, hr0⟩ : ∃ r : Loop, r = { state := .ready, pending := none, fn := fn, tmps := a.tmps, params := ps.toArray, assign := assign, body := body, defers := w.heap.size } := ⟨_, rfl⟩
  obtain ⟨l, hl⟩ : ∃ l, l = w.heap.size + 1 := ⟨_, rfl⟩
  have hst1 : St cx.w0 cx.D cx.I0 I (((l, .loop r) :: H1) ++ ((w.heap.size, .deferred (some [])) :: R)) ((w.alloc (.deferred (some []))).alloc (.loop r)) := by
    have h1 := (hst.alloc (.deferred (some []))).alloc (.loop r)
    have h2 : (w.heap.push (.deferred (some []))).size = l := by rw [hl, Array.size_push]
    rw [h2] at h1
    refine h1.perm ?_
    show ((l, Obj.loop r) :: (H1 ++ (w.heap.size, Obj.deferred (some [])) :: R)).Perm _
    exact List.Perm.cons _ List.perm_middle
  let Y' : Nat → Heap → HL → Prop := fun k I1 H => Le I I1 ∧ ∃ Hk, H = (l, .loop r) :: Hk ∧ Y k I1 Hk
  let Z' : Heap → HL → Prop := fun I1 H => ∃ c Hk, H = (l, .loop { r with state := .done, pending := some c }) :: Hk ∧ Z c I1 Hk
  have hYS : YS cx.P l xs Y' Z' := by
    rintro k args hk I1 H ⟨hle, Hk, rfl, hY⟩ w1 hready
    have hlr : w1.heap[l]? = some (.loop r) := hready.2.1 _ (.head _)
    have hal := hlen args (List.mem_of_getElem? hk)
    refine ⟨r.fn, _, r.assign, r.body, run_yield hlr (by rw [hr0]; simp [hal]), roundIn_of_wpIn trivial ?_⟩
    have hz : (r.params.zip args.toArray).foldl (fun tmps (x : Tmp × Value) => tmps.setIfInBounds x.1 x.2) r.tmps = (ps.zip args).foldl (fun tmps (x : Tmp × Value) => tmps.setIfInBounds x.1 x.2) a.tmps := by
      rw [hr0]; simp [List.zip_toArray]
    have hhas := Has.zip (n := cx.n) ps args e a.tmps hps ⟨ha.size, rfl, ha.get⟩
    rw [← hz] at hhas
    have hc := round l r k args I1 Hk w1 hk hle hY _ _ hhas (St.start w1 I1 ((l, .loop r) :: Hk) hready.1 hready.2.1 hready.2.2.1 hready.2.2.2)
    have e1 : r.assign = assign := by rw [hr0]
    have e2 : r.body = body := by rw [hr0]
    rw [e1, e2]
    refine wpIn_mono hc ?_
    rintro x a2 w2 hq
    cases x with
    | normal =>
      obtain ⟨e2, I2, H2, ha2, hs2, hb⟩ := hq
      refine ⟨_, run_beginRound (hs2.own _ (.head _)) (by rw [hr0]), ?_⟩
      have hs3 := hs2.block (i := 0) (o' := .loop { r with state := .busy }) rfl LSet.z
      refine wpIn_mono (hb a2 _ ha2 hs3) ?_
      rintro x a3 w3 hq3
      cases x with
      | normal =>
        obtain ⟨I3, H3, hs4, hY4⟩ := hq3
        refine ⟨_, _, run_endRound none (hs4.own _ (.head _)), I3, (l, .loop r) :: H3, ?_, .inl ⟨rfl, hle.trans hs4.le, H3, rfl, hY4⟩⟩
        have := hs4.block (i := 0) (o' := .loop r) rfl LSet.z
        rw [hr0] at this ⊢
        exact this
      | ret =>
        obtain ⟨I3, H3, hs4, hZ4⟩ := hq3
        exact ⟨_, _, run_endRound (some .ret) (hs4.own _ (.head _)), I3, _, hs4.block (i := 0) rfl LSet.z, .inr ⟨rfl, _, H3, rfl, hZ4⟩⟩
      | exit id =>
        obtain ⟨I3, H3, hs4, hZ4⟩ := hq3
        exact ⟨_, _, run_endRound (some (.exit id)) (hs4.own _ (.head _)), I3, _, hs4.block (i := 0) rfl LSet.z, .inr ⟨rfl, _, H3, rfl, hZ4⟩⟩
      | goto t => exact hq3.elim
      | panic ch => exact hq3.elim
      | outgrown => exact hq3.elim
    | exit id => exact hq.elim
    | goto t => exact hq.elim
    | ret => exact hq.elim
    | panic ch => exact hq.elim
    | outgrown => exact hq.elim
  have hctr := hgen.2 l Y' Z' (fun k I1 I2 H hle ⟨h1, Hk, h2, h3⟩ => ⟨h1.trans hle, Hk, h2, hmono _ _ _ _ hle h3⟩) hYS ((l, .loop r) :: H1) ⟨Le.refl _, H1, rfl, h0⟩
  have hready : Ready I ((l, .loop r) :: H1) ((w.alloc (.deferred (some []))).alloc (.loop r)) := ⟨hst1.sub, fun p hp => hst1.own p (List.mem_append_left _ hp), by
    have := hst1.nodup; rw [List.map_append, List.nodup_append] at this; exact this.1, fun p hp => hst1.dis p (List.mem_append_left _ hp)⟩
  have hent : (Instr.enterLoop fn a.tmps ps.toArray assign body none).run cx.P w = .ok (l, [markOf w.heap.size]) ((w.alloc (.deferred (some []))).alloc (.loop r)) := by
    rw [hl, hr0]; exact run_enterLoop_outer fn a.tmps ps.toArray assign body
  refine ⟨l, [markOf w.heap.size], (w.alloc (.deferred (some []))).alloc (.loop r), ⟨.fn (.func f) cap.toArray, (fst ++ [Value.func (.yield l) #[] #[]]).toArray⟩, (w.alloc (.deferred (some []))).alloc (.loop r), f, (fst ++ [Value.func (.yield l) #[] #[]] ++ cap).toArray, (w.alloc (.deferred (some []))).alloc (.loop r), hent, ?_, fun _ _ => trivial, ?_, fun h => by simp [Fence.wide] at h, callsIn_wide.2 ?_⟩
  · have he : a.eval (.const (.func (.yield l) #[] #[])) = .func (.yield l) #[] #[] := rfl
    simp [resolve, ha.eval hg, Deferred.ofValue, he]
  · have h := run_callFunc hgen.1 (fst ++ [Value.func (.yield l) #[] #[]] ++ cap).toArray ((w.alloc (.deferred (some []))).alloc (.loop r))
    simpa [invoke] using h
  refine (hctr.2 _ hready).mono ?_
  rintro en w' ⟨I', H', hs', rfl, hYZ⟩
  have hst2 := hst1.call hs'
  have hle := hs'.le
  have ha2 : Has { a with defers := [markOf w.heap.size] ++ a.defers } cx.n e (markOf w.heap.size :: cx.ds) := ⟨ha.size, by simp [ha.defs], ha.get⟩
  rcases hYZ with ⟨_, Hk, rfl, hY⟩ | ⟨c, Hk, rfl, hZ⟩
  · refine ⟨_, _, run_endLoop (hst2.own _ (.head _)) (by rw [hr0]; simp), ?_⟩
    have hs5 := ((hst2.block (i := 0) (o' := .loop { r with state := .exhausted }) rfl LSet.z).sublist (List.sublist_cons_self _ _)).perm (H' := (w.heap.size, .deferred (some [])) :: (Hk ++ R)) List.perm_middle.symm
    have hp : r.pending = none := by rw [hr0]
    rw [hp] at hs5 ⊢
    exact done w.heap.size I' Hk hle hY _ _ ha2 hs5
  refine ⟨_, _, run_endLoop (hst2.own _ (.head _)) (by simp), ?_⟩
  have hs5 := ((hst2.block (i := 0) (o' := .loop { { r with state := .done, pending := some c } with state := .exhausted }) rfl LSet.z).sublist (List.sublist_cons_self _ _)).perm (H' := (w.heap.size, .deferred (some [])) :: (Hk ++ R)) List.perm_middle.symm
  have hw := left w.heap.size c I' Hk hle hZ _ _ ha2 hs5
  have hF : ({ cx with ds := markOf w.heap.size :: cx.ds } : Cx).F = Fence.wide := Cx.wide hr
  rw [hF] at hw
  exact hw
end
theorem one_blt {t n : Nat} (h : Nat.blt t n = true) : ∀ u ∈ [t], Nat.blt u n = true := fun u hu => by simp at hu; subst hu; exact h
theorem seq1 {α : Type} (l : List α) (f : α → Value) : ∀ args ∈ l.map (fun x => [f x]), args.length = 1 := fun args h => by
  obtain ⟨x, _, rfl⟩ := List.mem_map.1 h; rfl
theorem seq1_at {α : Type} {l : List α} {f : α → Value} {k : Nat} {args : List Value} (h : (l.map (fun x => [f x]))[k]? = some args) : ∃ x, l[k]? = some x ∧ args = [f x] := by
  rw [List.getElem?_map] at h
  cases hl : l[k]? with
  | none => rw [hl] at h; cases h
  | some x => rw [hl] at h; cases h; exact ⟨x, rfl, rfl⟩
theorem Cj.isNew {cx : Cx} {Q : Qt} {c : Code} {e : Env} {I : Heap} {H : HL} (hD : cx.D = []) (k : (∀ p ∈ H, cx.w0.heap.size ≤ p.1) → Cj cx Q c e I H) : Cj cx Q c e I H := fun a w ha hs => k (fun p hp => by
  have := hs.new p hp
  rw [hD] at this
  exact this.resolve_left (by simp)) a w ha hs
theorem gOk.base {b0 b1 sz n : Nat} {xs : List Value} {g : Gs} {T : TypeId} (h : gOk b0 sz n xs g) (hn : ∀ p ∈ gH T xs g, b1 ≤ p.1) : gOk b1 sz n xs g := by
  cases g with
  | none => exact h
  | some q => exact ⟨hn _ (.head _), h.2⟩
theorem Ctr.of_bodyM {P : Program} {f : FuncId} {fn : Func} {c : Code} {args : List Value} {I : Heap} {H : HL} {post : Ending → Heap → HL → Prop} (hf : P.funcs[f]? = some fn) (hb : fn.body = some c) (hname : fn.name ≠ "runtime.NumGoroutine")
    (hn : args.length ≤ fn.ntmps)
    (h : ∀ w0, Ready I H w0 → Cj ⟨P, fn.ntmps, w0, H.map (·.1), I, [], none⟩ (bodyPostM Fence.wide 0 P fn (RR w0 (H.map (·.1)) I post)) c (argsEnv 0 args) I H) : Ctr P f args I H post := by
  refine ⟨⟨fn, hf, hname, by simp [hb]⟩, fun w hw => ?_⟩
  refine (callsIn_wide (n := 0)).1 (callsIn_of_wp_marks hf hb trivial ?_)
  exact h w hw _ _ (Has.start args fn.ntmps hn) (St.start w I H hw.1 hw.2.1 hw.2.2.1 hw.2.2.2)
def LvJ (cx : Cx) (fn : Func) (post : Ending → Heap → HL → Prop) (ds : List Deferred) (e : Env) (I : Heap) (H : HL) : Prop :=
  ∀ a w, Has a cx.n e cx.ds → St cx.w0 cx.D cx.I0 I H w → LeavesInM Fence.wide 0 cx.P fn a.tmps (RR cx.w0 cx.D cx.I0 post) ds .returning w
section
variable {cx : Cx} {fn : Func} {post : Ending → Heap → HL → Prop} {e : Env} {I : Heap} {H H' : HL} {ds : List Deferred}
theorem Ej.leaveM {x : Exit} (hx : x = .ret ∨ x = .normal) (h : LvJ cx fn post cx.ds e I H) : Ej cx (bodyPostM Fence.wide 0 cx.P fn (RR cx.w0 cx.D cx.I0 post)) x e I H := by
  intro a w ha hs
  have := h a w ha hs
  rw [← ha.defs] at this
  rcases hx with rfl | rfl
  · exact this
  exact this
theorem LvJ.mark {b : Nat} (i : Nat) (hH : H[i]? = some (b, .deferred (some []))) (hH' : LSet H i (b, .deferred none) H') (h : LvJ cx fn post ds e I H') : LvJ cx fn post (markOf b :: ds) e I H :=
  fun a _ ha hs => ⟨by simp, .inl ⟨b, _, rfl, run_takeDeferred (hs.own _ (List.mem_of_getElem? hH)), h a _ ha (hs.block hH hH')⟩⟩
theorem LvJ.keep (hk : Keeps H' H) (h : LvJ cx fn post ds e I H') : LvJ cx fn post ds e I H := fun a w ha hs => h a w ha (hs.sublist hk)
theorem LvJ.ret1 {t : Nat} {v : Value} (hr : fn.results = #[.tmp t]) (hv : eg e t = some v) (hp : post (.returned v) I H) : LvJ cx fn post [] e I H := by
  intro a w ha hs
  refine ⟨v, ?_, I, H, hs, hp⟩
  rw [results_tmp hr]
  have := ha.get t v hv
  simp [this]
end
end Go.Sx
end
section
namespace Go.Sx
open Go
section
variable {α : Type} [BEq α] [LawfulBEq α]
abbrev ML (α : Type) := List (α × Value × Nat)
abbrev ment (kv : α → Value) (p : α × Value × Nat) : MapEntry := { key := kv p.1, val := p.2.1, born := p.2.2 }
def mobj (kv : α → Value) (l : ML α) (c : Nat) : Obj := .map (l.map (ment kv)).toArray c
def mget (l : ML α) (a : α) : Option Value := match l with
  | [] => none
  | (b, v, _) :: r => if a == b then some v else mget r a
def mset (l : ML α) (a : α) (v : Value) (c : Nat) : ML α := match l with
  | [] => [(a, v, c)]
  | (b, u, n) :: r => if a == b then (b, v, n) :: r else (b, u, n) :: mset r a v c
def mclk (l : ML α) (a : α) (c : Nat) : Nat := if (mget l a).isSome then c else c + 1
def midx (l : ML α) (a : α) (i : Nat) : Option (Nat × Value) := match l with
  | [] => none
  | (b, v, _) :: r => if a == b then some (i, v) else midx r a (i + 1)
def KeyK (P : Program) (K : TypeId) (kv : α → Value) : Prop :=
  (∀ (a : α) (l : ML α) (w : World), (Instr.findKey K (kv a) (l.map (ment kv))).run P w = .ok (midx l a 0) w) ∧ (∀ b a w, (Instr.checkKey b 10000 K (kv a)).run P w = .ok () w) ∧ ∀ a, Instr.sameBits 10000 (kv a) (kv a) = true
theorem run_findKey {P : Program} {K : TypeId} {w : World} {d : TypeDesc} (hu : P.underlying K = some d) {k : Value} {es : List MapEntry} {r : Option (Nat × Value)} (h : Instr.findNow d k es 0 = some r) : (Instr.findKey K k es).run P w = .ok r w := by
  simp [Instr.findKey, run_underlying hu, h]
omit [LawfulBEq α] in
theorem findNow_midx {kv : α → Value} {d : TypeDesc} (hs : ∀ a b, Instr.sameNow d (kv a) (kv b) = some (a == b)) (a : α) : ∀ (l : ML α) (i : Nat), Instr.findNow d (kv a) (l.map (ment kv)) i = some (midx l a i)
  | [], _ => rfl
  | (b, u, n) :: r, i => by
    simp only [List.map_cons, Instr.findNow, hs, midx]
    cases a == b
    · simp only [Bool.false_eq_true, if_false]; exact findNow_midx hs a r (i + 1)
    simp
omit [LawfulBEq α] in
theorem KeyK.now {P : Program} {K : TypeId} {kv : α → Value} {d : TypeDesc} (hu : P.underlying K = some d) (hs : ∀ a b, Instr.sameNow d (kv a) (kv b) = some (a == b)) (hc : ∀ b a w, (Instr.checkKey b 10000 K (kv a)).run P w = .ok () w) (hb : ∀ a, Instr.sameBits 10000 (kv a) (kv a) = true) : KeyK P K kv :=
  ⟨fun a l _ => run_findKey hu (findNow_midx hs a l 0), hc, hb⟩
omit [LawfulBEq α] in
theorem run_asking {P : Program} {K : TypeId} {kv : α → Value} {w : World} (he : ∀ a b, (Op.equal K (kv a) (kv b)).run P w = .ok (a == b) w) (a : α) : ∀ (l : ML α) (i : Nat), (Instr.findAsking K (kv a) (l.map (ment kv)) i).run P w = .ok (midx l a i) w
  | [], i => by simp [Instr.findAsking, midx]
  | (b, u, n) :: r, i => by
    simp only [List.map_cons, Instr.findAsking, midx, Sem.run_bind, he, Result.andThen_ok]
    cases a == b
    · simp only [Bool.false_eq_true, if_false]; exact run_asking he a r (i + 1)
    simp
omit [LawfulBEq α] in
theorem KeyK.equal {P : Program} {K : TypeId} {kv : α → Value} {d : TypeDesc} (hu : P.underlying K = some d) (hs : ∀ a b, Instr.sameNow d (kv a) (kv b) = none) (he : ∀ a b w, (Op.equal K (kv a) (kv b)).run P w = .ok (a == b) w) (hc : ∀ b a w, (Instr.checkKey b 10000 K (kv a)).run P w = .ok () w) (hb : ∀ a, Instr.sameBits 10000 (kv a) (kv a) = true) : KeyK P K kv := by
  refine ⟨fun a l w => ?_, hc, hb⟩
  cases l with
  | nil => exact run_findKey hu rfl
  | cons p r =>
    have h1 : Instr.findNow d (kv a) ((p :: r).map (ment kv)) 0 = none := by simp [Instr.findNow, hs]
    have h2 := run_asking (P := P) (K := K) (w := w) (fun a b => he a b w) a (p :: r) 0
    simp only [Instr.findKey, Sem.run_bind, run_underlying hu, Result.andThen_ok, h1]
    exact h2
theorem KeyK.int {P : Program} {K : TypeId} {k : IntKind} (hu : P.underlying K = some (.int k)) : KeyK P K (fun a : Int => Value.int k a) := by
  refine KeyK.now hu (fun a b => by simp [Instr.sameNow]) (fun b a w => ?_) (fun a => ?_)
  · have h : ∀ n, (Instr.checkKey b (n + 1) K (.int k a)).run P w = .ok () w := fun n => by simp [Instr.checkKey, run_underlying hu]
    exact h 9999
  have h : ∀ n, Instr.sameBits (n + 1) (.int k a) (.int k a) = true := fun n => by simp [Instr.sameBits]
  exact h 9999
theorem sameBits_str (a : List UInt8) : ∀ n, Instr.sameBits n (str a) (str a) = true := fun n => by
  cases n <;> simp only [Instr.sameBits, str] <;> (show (a.toArray == a.toArray) = true) <;> simp
theorem midx_none {a : α} : ∀ (l : ML α) (i : Nat), mget l a = none → midx l a i = none ∧ ∀ v c, mset l a v c = l ++ [(a, v, c)]
  | [], _, _ => ⟨rfl, fun _ _ => rfl⟩
  | (b, u, n) :: r, i, h => by
    unfold mget at h
    split at h
    · cases h
    rename_i hne
    obtain ⟨h1, h2⟩ := midx_none r (i + 1) h
    have hb : (a == b) = false := by simpa using hne
    refine ⟨?_, fun v c => ?_⟩
    · simp only [midx, hb]; exact h1
    simp only [mset, hb, Bool.false_eq_true, if_false, h2, List.cons_append]
theorem midx_some {a : α} {v : Value} : ∀ (l : ML α) (i : Nat), mget l a = some v →
    ∃ j u n, midx l a i = some (i + j, v) ∧ l[j]? = some (a, u, n) ∧ ∀ x c, mset l a x c = l.set j (a, x, n)
  | [], _, h => by cases h
  | (b, u, n) :: r, i, h => by
    unfold mget at h
    split at h
    · rename_i he
      have he' := eq_of_beq he
      subst he'
      cases h
      exact ⟨0, v, n, by simp [midx], rfl, fun x c => by simp [mset]⟩
    rename_i hne
    have hb : (a == b) = false := by simpa using hne
    obtain ⟨j, u', n', h1, h2, h3⟩ := midx_some r (i + 1) h
    refine ⟨j + 1, u', n', ?_, by simpa using h2, fun x c => by simp [mset, hb, h3]⟩
    simp only [midx, hb, Bool.false_eq_true, if_false]
    rw [h1, Nat.add_assoc, Nat.add_comm 1 j]
variable {cx : Cx} {Q : Qt} {e : Env} {I : Heap} {H : HL} {o : Oper} {C : Ct} {S : World → Prop}
theorem run_mapUpdate {P : Program} {T K E b c : Nat} {kv : α → Value} {l : ML α} {a : α} {v : Value} {w : World} (hT : P.underlying T = some (.map K E)) (hk : KeyK P K kv) (hb : w.heap[b]? = some (mobj kv l c)) :
    (Instr.mapUpdate T (.map (some b)) (kv a) v).run P w = .ok () (World.block w b (mobj kv (mset l a v c) (mclk l a c))) := by
  obtain ⟨hf, hc, hbits⟩ := hk
  have hg : (getObj b).run P w = .ok (mobj kv l c) w := by simp [getObj, Sem.run, hb, mobj]
  have hset : ∀ o', (setObj b o').run P w = .ok () (World.block w b o') := fun o' => by simp [setObj, Sem.run, hb, World.block, mobj]
  cases hm : mget l a with
  | none =>
    obtain ⟨h1, h2⟩ := midx_none l 0 hm
    have h3 : (Instr.findKey K (kv a) (l.map (ment kv))).run P w = .ok none w := by rw [hf, h1]
    simp only [Instr.mapUpdate, Sem.run_bind, run_underlying hT, Result.andThen_ok, hg, mobj, hc, h3, hset, h2, mclk, hm]
    simp
  | some u =>
    obtain ⟨j, u', n, h1, h2, h3⟩ := midx_some l 0 hm
    rw [Nat.zero_add] at h1
    have h4 : (Instr.findKey K (kv a) (l.map (ment kv))).run P w = .ok (some (j, u)) w := by rw [hf, h1]
    have hj : (l.map (ment kv)).toArray[j]? = some { key := kv a, val := u', born := n } := by simp [h2, ment]
    have hkeep : ∀ w, (Instr.keyThatStays (kv a) (kv a)).run P w = .ok (kv a) w := fun w => by simp [Instr.keyThatStays, hbits]
    simp only [Instr.mapUpdate, Sem.run_bind, run_underlying hT, Result.andThen_ok, hg, mobj, hc, h4, hj, Option.map_some, Option.getD_some, hkeep, hset, h3, mclk, hm]
    simp only [Option.isSome_some, if_true]
    refine congrArg (fun A => Result.ok () (World.block w b (Obj.map A c))) ?_
    apply Array.ext_getElem?
    intro i
    rw [Array.getElem?_modify]
    simp only [List.getElem?_toArray, List.getElem?_map, List.getElem?_set]
    by_cases hi : j = i
    · subst hi
      have hlt : j < l.length := by
        rcases Nat.lt_or_ge j l.length with h' | h'
        · exact h'
        simp [List.getElem?_eq_none h'] at h2
      have h5 : l[j] = (a, u', n) := by
        have := List.getElem?_eq_getElem hlt
        rw [h2] at this; exact (Option.some.inj this).symm
      simp [hlt, h5]
    simp [hi]
theorem op_insert {T K E b c : Nat} {m x y : Operand} {kv : α → Value} {l : ML α} {a : α} {kx v : Value} {H' : HL} (i : Nat) (ho : o.op = .insert T m x y ∨ o.op = .mapUpdate T m x y) (hd : o.dst = none) (hm : ev e m = some (.map (some b))) (hx : ev e x = some kx) (hkx : kx = kv a) (hy : ev e y = some v) (hT : cx.P.underlying T = some (.map K E)) (hK : KeyK cx.P K kv)
    (hH : H[i]? = some (b, mobj kv l c)) (hH' : LSet H i (b, mobj kv (mset l a v c) (mclk l a c)) H') (kk : C e I H') : OpJ cx Q o e I H C := by
  intro Kk hKk w0 w ha hs
  unfold Oper.wp
  subst hkx
  have hb := hs.own _ (List.mem_of_getElem? hH)
  have hr := run_mapUpdate (a := a) (v := v) hT hK hb
  have : (execOp w0.eval o).run cx.P w = .ok .skip (World.block w b (mobj kv (mset l a v c) (mclk l a c))) := by
    rcases ho with ho | ho <;> simp [execOp, ho, ha.eval hm, ha.eval hx, ha.eval hy, hr]
  rw [this]
  simp only [Oper.upon, hd]
  exact hKk _ _ _ kk _ _ ha.putNone (hs.block hH hH')
theorem run_lookup {P : Program} {T K E b c : Nat} {kv : α → Value} {l : ML α} {a : α} {z : Value} {w : World} {ok : Bool} (hT : P.underlying T = some (.map K E)) (hk : KeyK P K kv) (hz : ∀ w, (zeroValue E).run P w = .ok z w) (hb : w.heap[b]? = some (mobj kv l c)) :
    (Instr.lookup T (.map (some b)) (kv a) ok).run P w = .ok (if ok then .tuple #[(mget l a).getD z, .bool (mget l a).isSome] else (mget l a).getD z) w := by
  obtain ⟨hf, hc, hbits⟩ := hk
  have hg : (getObj b).run P w = .ok (mobj kv l c) w := by simp [getObj, Sem.run, hb, mobj]
  cases hm : mget l a with
  | none =>
    have h3 : (Instr.findKey K (kv a) (l.map (ment kv))).run P w = .ok none w := by rw [hf, (midx_none l 0 hm).1]
    simp only [Instr.lookup, Sem.run_bind, run_underlying hT, Result.andThen_ok, hg, mobj, Sem.run_pure, hc, h3, hz]
    simp
  | some u =>
    obtain ⟨j, u', n, h1, h2, h3⟩ := midx_some l 0 hm
    have h4 : (Instr.findKey K (kv a) (l.map (ment kv))).run P w = .ok (some (0 + j, u)) w := by rw [hf, h1]
    simp only [Instr.lookup, Sem.run_bind, run_underlying hT, Result.andThen_ok, hg, mobj, Sem.run_pure, hc, h4]
    simp
theorem yl_lookup2 {T K E b c : Nat} {m x : Operand} {kv : α → Value} {l : ML α} {a : α} {kx z : Value} (ho : o.op = .lookup T m x true) (hm : ev e m = some (.map (some b))) (hx : ev e x = some kx) (hkx : kx = kv a) (hT : cx.P.underlying T = some (.map K E)) (hK : KeyK cx.P K kv) (hz : ∀ w, (zeroValue E).run cx.P w = .ok z w)
    (hb : Blk S b (mobj kv l c)) : Yld cx o e S (.tuple #[(mget l a).getD z, .bool (mget l a).isSome]) := by
  intro w0 w ha hs
  subst hkx
  have hr := run_lookup (a := a) (ok := true) hT hK hz (hb w hs)
  simp only [execOp, ho, Sem.run_bind, ha.eval hm, ha.eval hx, hr, Result.andThen_ok, Sem.run_pure, if_true]
theorem yl_lookup1 {T K E b c : Nat} {m x : Operand} {kv : α → Value} {l : ML α} {a : α} {kx z : Value} (ho : o.op = .lookup T m x false) (hm : ev e m = some (.map (some b))) (hx : ev e x = some kx) (hkx : kx = kv a) (hT : cx.P.underlying T = some (.map K E)) (hK : KeyK cx.P K kv) (hz : ∀ w, (zeroValue E).run cx.P w = .ok z w)
    (hb : Blk S b (mobj kv l c)) : Yld cx o e S ((mget l a).getD z) := by
  intro w0 w ha hs
  subst hkx
  have hr := run_lookup (a := a) (ok := false) hT hK hz (hb w hs)
  simp only [execOp, ho, Sem.run_bind, ha.eval hm, ha.eval hx, hr, Result.andThen_ok, Sem.run_pure, if_false, Bool.false_eq_true]
theorem q45 {T K E b c : Nat} {m x : Operand} {kv : α → Value} {l : ML α} {a : α} {kx z : Value} (hT : cx.P.underlying T = some (.map K E)) (hK : KeyK cx.P K kv) (hz : ∀ w, (zeroValue E).run cx.P w = .ok z w) (hb : Blk S b (mobj kv l c)) (ho : o.op = .lookup T m x false := by exact rfl) (hm : ev e m = some (.map (some b)) := by exact rfl) (hx : ev e x = some kx := by exact rfl) (hkx : kx = kv a := by exact rfl) : Yld cx o e S ((mget l a).getD z) := yl_lookup1 ho hm hx hkx hT hK hz hb
end
end Go.Sx
end
section
namespace Go.Sx
open Go
def StrSl (T : TypeId) (I : Heap) (l : List (List UInt8)) (v : Value) : Prop := ∃ b c sp, v = .slice (some ⟨b, 0, none⟩) l.length c ∧ I b = some (cel T (l.map str ++ sp))
theorem StrSl.mono {T : TypeId} {I I' : Heap} {l : List (List UInt8)} {v : Value} (h : StrSl T I l v) (hle : Le I I') : StrSl T I' l v :=
  let ⟨b, c, sp, h1, h2⟩ := h; ⟨b, c, sp, h1, hle _ _ h2⟩
theorem str_get {l : List (List UInt8)} {sp : List Value} {k : Nat} {x : List UInt8} (h : l[k]? = some x) : (l.map str ++ sp)[k]? = some (str x) := by
  obtain ⟨hlt, hg⟩ := List.getElem?_eq_some_iff.1 h
  rw [List.getElem?_append_left (by simpa using hlt)]
  simp [h]
theorem ba_list (l : List UInt8) : (⟨l.toArray⟩ : ByteArray).data.toList = l := by simp
theorem i32w {x : Int} (h : -2147483648 ≤ x ∧ x ≤ 2147483647) : IntKind.i32.wrap x = x := by
  simp [IntKind.wrap, IntKind.bits, IntKind.signed]; omega
theorem drop_cons {α : Type} {s : List α} {k : Nat} {c : α} (h : s[k]? = some c) : s.drop k = c :: s.drop (k + 1) := by
  obtain ⟨hlt, hg⟩ := List.getElem?_eq_some_iff.1 h
  rw [List.drop_eq_getElem_cons hlt, hg]
theorem Ej.ret3 {cx : Cx} {fn : Func} {post : Ending → Heap → HL → Prop} {e : Env} {I : Heap} {H : HL} {t u s : Nat} {v x y : Value} (hr : fn.results = #[.tmp t, .tmp u, .tmp s]) (hds : cx.ds = []) (hv : eg e t = some v) (hx : eg e u = some x) (hy : eg e s = some y) (hp : post (.returned (.tuple #[v, x, y])) I H) :
    Ej cx (bodyPost cx.P fn (RR cx.w0 cx.D cx.I0 post)) .ret e I H := by
  intro a w ha hs
  refine ⟨ha.defs.trans hds, _, ?_, I, H, hs, hp⟩
  have h1 := ha.get t v hv
  have h2 := ha.get u x hx
  have h3 := ha.get s y hy
  simp [results, hr, h1, h2, h3]
theorem Ctr.frame {P : Program} {f : FuncId} {args : List Value} {I : Heap} {H : HL} {post : Ending → Heap → HL → Prop} (R : HL) (h : Ctr P f args I H post) : Ctr P f args I (H ++ R) (fun e I' H' => ∃ H1, H' = H1 ++ R ∧ post e I' H1) := by
  refine ⟨h.1, fun w hw => ?_⟩
  have hst := St.start w I (H ++ R) hw.1 hw.2.1 hw.2.2.1 hw.2.2.2
  have hready : Ready I H w := ⟨hst.sub, fun p hp => hst.own p (List.mem_append_left _ hp), by
    have := hst.nodup; rw [List.map_append, List.nodup_append] at this; exact this.1, fun p hp => hst.dis p (List.mem_append_left _ hp)⟩
  refine (h.2 w hready).mono fun e w' ⟨I', H1, hs, hp⟩ => ⟨I', H1 ++ R, hst.call hs, H1, rfl, hp⟩
theorem Ctr.drop {P : Program} {f : FuncId} {args : List Value} {I : Heap} {H : HL} {post post' : Ending → Heap → HL → Prop} (h : Ctr P f args I H post) (hp : ∀ e I' H', post e I' H' → ∃ H2, H2.Sublist H' ∧ post' e I' H2) : Ctr P f args I H post' :=
  ⟨h.1, fun w hw => (h.2 w hw).mono fun e _ ⟨I', H', hs, hq⟩ => let ⟨H2, h1, h2⟩ := hp e I' H' hq; ⟨I', H2, hs.sublist h1, h2⟩⟩
theorem op_callN {cx : Cx} {Q : Qt} {o : Oper} {e : Env} {I : Heap} {C : Ct} {R : HL} {d f : Nat} {fo : Operand} {xs : List Operand} {ts : Array TypeId} {fst cap vs : List Value} {post : Ending → Heap → HL → Prop}
    (ho : o.op = .call ⟨.value fo, xs.toArray, ts⟩) (hd : o.dst = some d) (hn : Nat.blt d cx.n = true) (hf : ev e fo = some (.func (.func f) fst.toArray cap.toArray)) (hx : evs e xs = some vs)
    (hs : Ctr cx.P f (fst ++ vs ++ cap) I [] post)
    (k : ∀ v I' H1', Le I I' → (∀ p ∈ H1', cx.w0.heap.size ≤ p.1) → post (.returned v) I' H1' → C ((d, v) :: e) I' (H1' ++ R))
    (kp : ∀ ch I' H1', Le I I' → post (.panicked ch) I' H1' → Ej cx Q (.panic ch) e I' (H1' ++ R))
    (ko : ∀ I' H1', ¬ post .outgrown I' H1') : OpJ cx Q o e I R C := by
  intro K hK a w ha hst
  unfold Oper.wp
  have hr : (execOp a.eval o).run cx.P w = .ok (.enter f (fst ++ vs ++ cap).toArray) w := by
    have hxs : xs.toArray.map a.eval = vs.toArray := by
      rw [List.map_toArray, ha.evals hx]
    simp only [execOp, ho, resolve, hxs, ha.eval hf, Deferred.ofValue, invoke, Sem.run_bind, Sem.run_pure, Result.andThen_ok, run_callFunc hs.1]
    simp
  rw [hr]
  simp only [Oper.upon]
  have hready : Ready I [] w := ⟨hst.sub, fun _ hp => absurd hp (List.not_mem_nil), List.nodup_nil, fun _ hp => absurd hp (List.not_mem_nil)⟩
  refine (hs.2 w hready).mono ?_
  rintro en w' ⟨I', H1', hs', hp⟩
  have hle := hs'.le
  have hst' := St.call (H1 := []) (R := R) hst hs'
  have hnew : ∀ p ∈ H1', cx.w0.heap.size ≤ p.1 := fun p hp => Nat.le_trans hst.size ((hs'.new p hp).resolve_left (by simp))
  cases en with
  | returned v =>
    rw [hd]
    exact hK _ _ _ (k v I' H1' hle hnew hp) _ _ (ha.put hn) hst'
  | panicked ch => exact kp ch I' H1' hle hp _ _ ha hst'
  | outgrown => exact (ko _ _ hp).elim
theorem q57 {cx : Cx} {Q : Qt} {o : Oper} {e : Env} {I : Heap} {C : Ct} {R : HL} {d f : Nat} {fo : Operand} {xs : List Operand} {ts : Array TypeId} {fst cap vs : List Value} {post : Ending → Heap → HL → Prop} (ho : o.op = .call ⟨.value fo, xs.toArray, ts⟩) (hd : o.dst = some d) (hn : Nat.blt d cx.n = true) (hf : ev e fo = some (.func (.func f) fst.toArray cap.toArray)) (hx : evs e xs = some vs) (hs : Ctr cx.P f (fst ++ vs ++ cap) I [] post) (k : ∀ v I' H1', Le I I' → (∀ p ∈ H1', cx.w0.heap.size ≤ p.1) → post (.returned v) I' H1' → C ((d, v) :: e) I' (H1' ++ R)) (kp : ∀ ch I' H1', Le I I' → post (.panicked ch) I' H1' → Ej cx Q (.panic ch) e I' (H1' ++ R) := by exact fun _ _ _ _ ⟨_, _, h, _⟩ => nomatch h) (ko : ∀ I' H1', ¬ post .outgrown I' H1' := by exact fun _ _ ⟨_, _, h, _⟩ => nomatch h) : OpJ cx Q o e I R C := op_callN ho hd hn hf hx hs k kp ko
theorem q44 {cx : Cx} {Q : Qt} {o : Oper} {e : Env} {I : Heap} {C : Ct} {R : HL} {d f : Nat} {fo : Operand} {xs : List Operand} {ts : Array TypeId} {fst cap vs : List Value} {post : Ending → Heap → HL → Prop} (ho : o.op = .call ⟨.value fo, xs.toArray, ts⟩) (hd : o.dst = some d) (hn : Nat.blt d cx.n = true) (hf : ev e fo = some (.func (.func f) fst.toArray cap.toArray)) (hx : evs e xs = some vs) (hs : Ctr cx.P f (fst ++ vs ++ cap) I [] post) (k : ∀ v I' H1', Le I I' → (∀ p ∈ H1', cx.w0.heap.size ≤ p.1) → post (.returned v) I' H1' → C ((d, v) :: e) I' (H1' ++ R)) (kp : ∀ ch I' H1', Le I I' → post (.panicked ch) I' H1' → Ej cx Q (.panic ch) e I' (H1' ++ R) := by exact fun _ _ _ _ ⟨_, h, _⟩ => nomatch h) (ko : ∀ I' H1', ¬ post .outgrown I' H1' := by exact fun _ _ ⟨_, h, _⟩ => nomatch h) : OpJ cx Q o e I R C := op_callN ho hd hn hf hx hs k kp ko
def StrS (T : TypeId) (I : Heap) (l : List (List UInt8)) (v : Value) : Prop := (l = [] ∧ v = .slice none 0 0) ∨ ∃ b c sp, v = .slice (some ⟨b, 0, none⟩) l.length c ∧ l.length ≤ c ∧ I b = some (cel T (l.map str ++ sp))
theorem StrS.mono {T : TypeId} {I I' : Heap} {l : List (List UInt8)} {v : Value} (h : StrS T I l v) (hle : Le I I') : StrS T I' l v := h.imp id fun ⟨b, c, sp, h1, h2, h3⟩ => ⟨b, c, sp, h1, h2, hle _ _ h3⟩
theorem StrS.some {T : TypeId} {I : Heap} {l : List (List UInt8)} {v : Value} (h : StrS T I l v) (hl : l ≠ []) : StrSl T I l v := let ⟨b, c, sp, h1, _, h3⟩ := h.resolve_left fun h => hl h.1; ⟨b, c, sp, h1, h3⟩
section
variable {cx : Cx} {Q : Qt} {e : Env} {I : Heap} {R : HL} {T : TypeId} {l : List (List UInt8)} {n base : Nat} {g : Gs}
theorem gS_none (hg : gOk base 1 n (l.map str) none) : l = [] ∧ n = 0 := ⟨by simpa using hg.2, hg.1⟩
theorem gS_some {b c : Nat} {sp : List Value} (hg : gOk base 1 n (l.map str) (some (b, c, sp))) : base ≤ b ∧ n = l.length ∧ l.length ≤ c := ⟨hg.1, by have := hg.2.1; simpa using this.symm, by have := hg.2.2; simp at this; omega⟩
theorem gS_cases {X : Heap → HL → Prop} (hg : gOk base 1 n (l.map str) g) (hp : ∀ b o, base ≤ b → (∀ I', Le I I' → I' b = some o → X I' R) → X I ((b, o) :: R)) (k : ∀ I', Le I I' → StrS T I' l (gV n g) → X I' R) : X I (gH T (l.map str) g ++ R) := by
  cases g with
  | none =>
    obtain ⟨h1, h2⟩ := gS_none hg
    subst h2
    exact k I (Le.refl _) (.inl ⟨h1, rfl⟩)
  | some q =>
    obtain ⟨b, c, sp⟩ := q
    obtain ⟨h1, h2, h3⟩ := gS_some hg
    subst h2
    exact hp b _ h1 fun I' hle hb => k I' hle (.inr ⟨b, c, sp, rfl, h3, hb⟩)
theorem Cj.keepS {c : Code} (hg : gOk cx.w0.heap.size 1 n (l.map str) g) (k : ∀ I', Le I I' → StrS T I' l (gV n g) → Cj cx Q c e I' R) : Cj cx Q c e I (gH T (l.map str) g ++ R) :=
  gS_cases (X := fun I H => Cj cx Q c e I H) hg (fun _ _ hb k => Cj.persist hb k) k
theorem J.keepS {ops : Array Oper} {r : List Oper} (hg : gOk cx.w0.heap.size 1 n (l.map str) g) (k : ∀ I', Le I I' → StrS T I' l (gV n g) → J cx Q ops r e I' R) : J cx Q ops r e I (gH T (l.map str) g ++ R) :=
  gS_cases (X := fun I H => J cx Q ops r e I H) hg (fun _ _ hb k => J.persist hb k) k
end
section
variable {cx : Cx} {Q : Qt} {o : Oper} {e : Env} {I : Heap} {H : HL} {C : Ct} {S : World → Prop}
theorem yl_buildA {T E sz len : Nat} {parts : List (Nat × Operand)} {vs zs cs : List Value} {z : Value} (ho : o.op = .build T parts.toArray) (hv : evs e (parts.map (·.2)) = some vs)
    (hz : ∀ w, (zeroValue T).run cx.P w = .ok z w) (hzc : z.cells = zs.toArray) (hu : cx.P.underlying T = some (.array len E)) (hsz : ∀ w, (sizeOf E).run cx.P w = .ok sz w)
    (hb : Instr.fill (fun i => some (i * sz, sz)) zs.toArray ((parts.map (·.1)).zip vs) = some cs.toArray) : Yld cx o e S (.agg cs.toArray) :=
  yl_build ho hv fun w => by
    simp only [Instr.build, Sem.run_bind, hz, hzc, run_underlying hu, Result.andThen_ok, hsz, hb, Sem.run_pure]
theorem q40 {T E sz len : Nat} {parts : List (Nat × Operand)} {vs zs cs : List Value} {z : Value} (hz : ∀ w, (zeroValue T).run cx.P w = .ok z w) (hu : cx.P.underlying T = some (.array len E)) (hsz : ∀ w, (sizeOf E).run cx.P w = .ok sz w) (ho : o.op = .build T parts.toArray := by exact rfl) (hv : evs e (parts.map (·.2)) = some vs := by exact rfl) (hzc : z.cells = zs.toArray := by exact rfl) (hb : Instr.fill (fun i => some (i * sz, sz)) zs.toArray ((parts.map (·.1)).zip vs) = some cs.toArray := by exact rfl) : Yld cx o e S (.agg cs.toArray) := yl_buildA ho hv hz hzc hu hsz hb
theorem run_equalBool {P : Program} {w : World} {T : Nat} {l m : Bool} (hT : P.underlying T = some .bool) : (Op.equal T (.bool l) (.bool m)).run P w = .ok (l == m) w := by
  show (Op.equalIn (9999 + 1) T (.bool l) (.bool m)).run P w = _
  rw [Op.equalIn]
  simp only [Sem.run_bind, run_underlying hT, Result.andThen_ok, Sem.run_pure]
theorem yl_eqlBool {x y : Operand} {T U : Nat} {l m : Bool} (ho : o.op = .binOp .eql T x y U) (hx : ev e x = some (.bool l)) (hy : ev e y = some (.bool m)) (hT : cx.P.underlying T = some .bool) : Yld cx o e S (.bool (l == m)) := by
  intro a w ha _
  have hg : eqGuard .eql T x y (.bool l) (.bool m) = pure () := rfl
  simp [execOp, ho, ha.eval hx, ha.eval hy, hg, binOp, run_equalBool hT]
end
end Go.Sx
end
section
namespace Go.Sx
open Go Go.Sort Go.Proofs
end Go.Sx
end
section
namespace Go.Sx
open Go
theorem row_at {α : Type} {f : α → List Value} {n : Nat} (hf : ∀ x, (f x).length = n) {sp : List Value} : ∀ {l : List α} {k : Nat} {x : α}, l[k]? = some x → ((l.flatMap f ++ sp).drop (k * n)).take n = f x
  | [], _, _, h => by simp at h
  | y :: l, 0, x, h => by
    simp at h; subst h
    rw [Nat.zero_mul, List.drop_zero, List.flatMap_cons, List.append_assoc, ← hf y, List.take_left]
  | y :: l, k + 1, x, h => by
    have h' : l[k]? = some x := by simpa using h
    have := row_at hf (sp := sp) h'
    rw [List.flatMap_cons, List.append_assoc, show (k + 1) * n = (f y).length + k * n by rw [hf y, Nat.add_mul]; omega, ← List.drop_drop, List.drop_left]
    exact this
theorem row_cell {α : Type} {f : α → List Value} {n : Nat} (hf : ∀ x, (f x).length = n) {sp : List Value} {l : List α} {k : Nat} {x : α} (h : l[k]? = some x) (j : Nat) (hj : j < n) : (l.flatMap f ++ sp)[k * n + j]? = (f x)[j]? := by
  rw [← row_at hf (sp := sp) h, List.getElem?_take, if_pos hj, List.getElem?_drop]
theorem row_from {α : Type} {f : α → List Value} {n : Nat} (hf : ∀ x, (f x).length = n) {cs sp : List Value} {o : Nat} {l : List α} (h : cs.drop o = l.flatMap f ++ sp) {k : Nat} {x : α} (hx : l[k]? = some x) : (cs.drop (o + k * n)).take n = f x := by
  rw [← List.drop_drop, h]; exact row_at hf hx
theorem row_fcell {α : Type} {f : α → List Value} {n : Nat} (hf : ∀ x, (f x).length = n) {cs sp : List Value} {o : Nat} {l : List α} (h : cs.drop o = l.flatMap f ++ sp) {k : Nat} {x : α} (hx : l[k]? = some x) (j : Nat) (hj : j < n) : cs[o + k * n + j]? = (f x)[j]? := by
  rw [← row_cell hf (sp := sp) hx j hj, ← h, List.getElem?_drop, Nat.add_assoc]
def RowS {α : Type} (f : α → List Value) (I : Heap) (l : List α) (v : Value) : Prop :=
  ∃ p c, v = .slice p l.length c ∧ l.length ≤ c ∧ (l ≠ [] → ∃ b o cs t fr sp, p = some ⟨b, o, none⟩ ∧ I b = some (.cells (List.toArray cs) t fr) ∧ cs.drop o = l.flatMap f ++ sp)
theorem RowS.mono {α : Type} {f : α → List Value} {I I' : Heap} {l : List α} {v : Value} (h : RowS f I l v) (hle : Le I I') : RowS f I' l v :=
  let ⟨p, c, h1, h2, h3⟩ := h; ⟨p, c, h1, h2, fun hn => let ⟨b, o, cs, t, fr, sp, h4, h5, h6⟩ := h3 hn; ⟨b, o, cs, t, fr, sp, h4, hle _ _ h5, h6⟩⟩
theorem RowS.of {α : Type} {f : α → List Value} {I : Heap} {l : List α} {T b c : Nat} {sp : List Value} (hc : l.length ≤ c) (hb : I b = some (cel T (l.flatMap f ++ sp))) : RowS f I l (.slice (some ⟨b, 0, none⟩) l.length c) :=
  ⟨_, c, rfl, hc, fun _ => ⟨b, 0, _, T, _, sp, rfl, hb, rfl⟩⟩
theorem RowS.nil {α : Type} {f : α → List Value} {I : Heap} : RowS f I ([] : List α) (.slice none 0 0) := ⟨none, 0, rfl, Nat.le_refl _, fun h => absurd rfl h⟩
theorem ne_nil_of {α : Type} {l : List α} {k : Nat} (h : k < l.length) : l ≠ [] := fun e => by rw [e] at h; simp at h
theorem Cj.join {cx : Cx} {Q : Qt} {x y : Code} {e : Env} {I : Heap} {H : HL} {ι : Type} (pre : ι → Prop) (env : ι → Env) (hp : ι → Heap) (hl : ι → HL) (k2 : ∀ i, pre i → Cj cx Q y (env i) (hp i) (hl i))
    (k1 : (∀ j e' I' H', pre j → Sub (env j) e' → hp j = I' → hl j = H' → Ej cx (Exit.then (y.wpIn cx.F 0 cx.P Q) Q) .normal e' I' H') → Cj cx (Exit.then (y.wpIn cx.F 0 cx.P Q) Q) x e I H) : Cj cx Q (.seq x y) e I H :=
  Cj.seq (k1 fun j e' I' H' hj hs hI hH => Ej.seq (by subst hI hH; exact Cj.weak hs (k2 j hj)))
end Go.Sx
end
section
namespace Go.Proofs.YtjcdfnbomkoheaaGreatDoor
open Go.ChangeShapes Go.WideShapes Go.ChangeAt Go.RowKit Go.Sx Go.Lib Go.ChangeMaps Go.WideMaps
section
variable {H : Type} {enc : TypeId × Value → H} {W : World} {base : Nat}
def Arg (enc : TypeId × Value → H) (W : World) (t : TypeId) (cs : List Value) (m : Nat) : Prop := ∃ n x, DataW.trod enc Tryz.prog W 0 (fun _ => true) true n t cs = some x ∧ Rows.uptoBulk x.1 = m
theorem Arg.of {t : TypeId} {v : Value} {d : DataW H} {p : List MemPlace} (h : DataW.Trod enc Tryz.prog W 0 (fun _ => true) true t v d p) : Arg enc W t v.cells.toList (Rows.uptoBulk d) := by
  obtain ⟨n, hn⟩ := h
  exact ⟨n, _, hn, rfl⟩
theorem laidOut : laidOutB Tryz.prog = true := by kernel_rfl
theorem again {t : TypeId} {v : Value} {d : DataW H} {p : List MemPlace} (hr : Tryz.prog.readableRec t = true) (hrow : t < Tryz.prog.types.size) (h : DataW.Trod enc Tryz.prog W 0 (fun _ => true) true t v d p) (hlt : ∀ x ∈ p, x.block < W.heap.size) : Again enc W t v d p :=
  fun _ hB _ hsp => WideElems.Trod_stays laidOut hr hrow h (fun _ hx => hB.same (hlt _ hx)) hsp
theorem mapM_some {α β : Type} {g : α → Option β} : ∀ {l : List α} {ys : List β}, l.mapM g = some ys → ys.length = l.length ∧ ∀ (i : Nat) x, l[i]? = some x → ∃ y, ys[i]? = some y ∧ g x = some y
  | [], ys, h => by simp at h; subst h; exact ⟨rfl, fun i x hx => by simp at hx⟩
  | a :: l, ys, h => by
    rw [List.mapM_cons] at h
    cases ha : g a with
    | none => simp [ha] at h
    | some y =>
      cases hl : l.mapM g with
      | none => simp [ha, hl] at h
      | some zs =>
        simp [ha, hl] at h
        subst h
        obtain ⟨h1, h2⟩ := mapM_some hl
        refine ⟨by simp [h1], fun i x hx => ?_⟩
        cases i with
        | zero => simp at hx; subst hx; exact ⟨y, rfl, ha⟩
        | succ i => exact h2 i x (by simpa using hx)
theorem bulk_sum : ∀ (l : List (DataW H)), Rows.uptoBulkAll l = (l.map Rows.uptoBulk).sum
  | [] => rfl
  | d :: r => by simp only [Rows.uptoBulkAll, List.map_cons, List.sum_cons, bulk_sum r]
theorem Arg.step {t : TypeId} {cs : List Value} {m : Nat} (h : Arg enc W t cs m) : ∃ n x, DataW.trodStep enc Tryz.prog W 0 (fun _ => true) true (DataW.trod enc Tryz.prog W 0 (fun _ => true) true n) t cs = some x ∧ Rows.uptoBulk x.1 = m := by
  obtain ⟨n, x, h, hm⟩ := h
  cases n with
  | zero => simp [DataW.trod] at h
  | succ n => exact ⟨n, x, (DataW.trod_step enc Tryz.prog W 0 (fun _ => true) true n t cs).symm.trans h, hm⟩
theorem Arg.int {t : TypeId} {k : IntKind} {cs : List Value} {m : Nat} (ht : Tryz.prog.underlying t = some (.int k)) (h : Arg enc W t cs m) : ∃ z, cs = [.int k z] ∧ (Lit.int k z).wf = true ∧ m = 1 := by
  obtain ⟨n, x, h, hm⟩ := h
  obtain ⟨z, rfl, rfl, hw⟩ := DataW.trod_int ht h
  simp only [Rows.uptoBulk] at hm
  exact ⟨z, rfl, hw, hm.symm⟩
theorem Arg.bool {t : TypeId} {cs : List Value} {m : Nat} (ht : Tryz.prog.underlying t = some .bool) (h : Arg enc W t cs m) : ∃ b : Bool, cs = [.bool b] := by
  obtain ⟨n, x, h, hm⟩ := h.step
  unfold DataW.trodStep at h
  rw [ht] at h
  split at h <;> simp_all
theorem Arg.struct {t : TypeId} {fs : Array Field} {cs : List Value} {m : Nat} (ht : Tryz.prog.underlying t = some (.struct fs)) (h : Arg enc W t cs m) :
    cs.length = Tryz.prog.cellsOf t ∧ ∃ ms : List Nat, ms.length = fs.size ∧ ms.sum + 1 = m ∧ ∀ (i : Nat) f m', fs[i]? = some f → ms[i]? = some m' → Arg enc W f.type ((cs.drop f.offset).take (Tryz.prog.cellsOf f.type)) m' := by
  obtain ⟨n, x, h, hm⟩ := h.step
  unfold DataW.trodStep at h
  simp only [ht] at h
  split at h
  · rename_i hl
    refine ⟨hl, ?_⟩
    simp only [Option.map_eq_some_iff] at h
    obtain ⟨xs, hx, rfl⟩ := h
    obtain ⟨h1, h2⟩ := mapM_some hx
    refine ⟨xs.map fun y => Rows.uptoBulk y.1, by simp [h1], ?_, fun i f m' hf hm' => ?_⟩
    · rw [← hm]; simp only [Rows.uptoBulk, bulk_sum, List.map_map]; rfl
    obtain ⟨y, hy, hg⟩ := h2 i f (by simpa using hf)
    rw [List.getElem?_map, hy] at hm'
    simp only [Option.map_some, Option.some.injEq] at hm'
    exact ⟨n, y, hg, hm'⟩
  cases h
theorem Arg.array {t e k : Nat} {cs : List Value} {m : Nat} (ht : Tryz.prog.underlying t = some (.array k e)) (h : Arg enc W t cs m) :
    cs.length = Tryz.prog.cellsOf t ∧ ∃ ms : List Nat, ms.length = k ∧ ms.sum + 1 = m ∧ ∀ (i m' : Nat), ms[i]? = some m' → Arg enc W e ((cs.drop (i * Tryz.prog.cellsOf e)).take (Tryz.prog.cellsOf e)) m' := by
  obtain ⟨n, x, h, hm⟩ := h.step
  unfold DataW.trodStep at h
  simp only [ht] at h
  split at h
  · rename_i hl
    refine ⟨hl, ?_⟩
    simp only [Option.map_eq_some_iff] at h
    obtain ⟨xs, hx, rfl⟩ := h
    obtain ⟨h1, h2⟩ := mapM_some hx
    rw [List.length_range] at h1
    refine ⟨xs.map fun y => Rows.uptoBulk y.1, by simp [h1], ?_, fun i m' hm' => ?_⟩
    · rw [← hm]; simp only [Rows.uptoBulk, bulk_sum, List.map_map]; rfl
    have hi : i < k := by
      have := (List.getElem?_eq_some_iff.1 hm').1
      simpa [h1] using this
    obtain ⟨y, hy, hg⟩ := h2 i i (List.getElem?_range hi)
    rw [List.getElem?_map, hy] at hm'
    simp only [Option.map_some, Option.some.injEq] at hm'
    exact ⟨n, y, hg, hm'⟩
  cases h
theorem cells_at {a : Addr} {n : Nat} {cs : List Value} (h : W.cells? 0 a n = some cs) : cs.length = n ∧ ∀ i, i < n → W.cell? (a.add i) = cs[i]? := by
  unfold World.cells? at h
  rw [if_pos (Nat.zero_le _)] at h
  obtain ⟨h1, h2⟩ := mapM_some h
  rw [List.length_range] at h1
  refine ⟨h1, fun i hi => ?_⟩
  obtain ⟨y, hy, hg⟩ := h2 i i (List.getElem?_range hi)
  rw [hg, hy]
theorem Arg.slice {t e sz : Nat} {cs : List Value} {m : Nat} (ht : Tryz.prog.underlying t = some (.slice e)) (hsz : Tryz.prog.cellsOf e = sz) (hpos : 0 < sz) (h : Arg enc W t cs m) :
    ∃ (p : Option Addr) (len cap : Nat) (ms : List Nat), cs = [.slice p len cap] ∧ len ≤ cap ∧ cap ≤ maxLen ∧ ms.length = len ∧ ms.sum + 1 ≤ m ∧ (0 < len → ∃ b o cells T fr, p = some ⟨b, o, none⟩ ∧ HW W b = some (.cells (List.toArray cells) T fr) ∧
      ∀ (i m' : Nat), ms[i]? = some m' → ((cells.drop (o + i * sz)).take sz).length = sz ∧ Arg enc W e ((cells.drop (o + i * sz)).take sz) m') := by
  obtain ⟨n, x, g, hm⟩ := h.step
  clear h
  unfold DataW.trodStep at g
  simp only [ht] at g
  split at g <;> first | (exfalso; simp_all; done) | skip
  · simp only [Option.some.injEq] at g
    subst g
    exact ⟨none, 0, 0, [], rfl, Nat.le_refl _, Nat.zero_le _, rfl, by rw [← hm]; simp [Rows.uptoBulk], fun h => absurd h (by decide)⟩
  rename_i a len cap he
  cases he
  split at g
  · rename_i hl
    simp only [if_true, Option.bind_eq_some_iff, Option.map_eq_some_iff] at g
    obtain ⟨elems, hel, rest, hre, rfl⟩ := g
    obtain ⟨h1, h2⟩ := mapM_some hel
    rw [List.length_range] at h1
    refine ⟨some a, len, cap, elems.map fun y => Rows.uptoBulk y.1, rfl, hl.2.1, hl.2.2, by simp [h1], ?_, fun h0 => ?_⟩
    · rw [← hm]; simp only [Rows.uptoBulk, bulk_sum, List.map_map]; have : (elems.map fun y => Rows.uptoBulk y.1).sum = (elems.map (Rows.uptoBulk ∘ fun x => x.1)).sum := rfl
      omega
    have elem : ∀ i, i < len → ∃ (cs : List Value) (y : DataW H × List MemPlace), W.cells? 0 (a.add (i * sz)) sz = some cs ∧ elems[i]? = some y ∧ DataW.trod enc Tryz.prog W 0 (fun _ => true) true n e cs = some y := fun i hi => by
      obtain ⟨y, hy, hg⟩ := h2 i i (List.getElem?_range hi)
      simp only [Option.bind_eq_some_iff] at hg
      obtain ⟨cs, hc, hg⟩ := hg
      rw [hsz] at hc
      exact ⟨cs, y, hc, hy, hg⟩
    obtain ⟨cs0, y0, hc0, _, _⟩ := elem 0 h0
    obtain ⟨hl0, hc0⟩ := cells_at hc0
    have hcell0 := hc0 0 hpos
    rw [List.getElem?_eq_getElem (by omega)] at hcell0
    rw [Nat.zero_mul] at hcell0
    have ha : a.add 0 = a := by simp [Addr.add]
    rw [ha, ha] at hcell0
    obtain ⟨blk, off, spot⟩ := a
    cases spot with
    | some sp => obtain ⟨_, _, _, _, hs⟩ := World.shape?_of_cell? hcell0; cases hs
    | none =>
      have h' := hcell0
      unfold World.cell? at h'
      cases hb : W.heap[blk]? with
      | none => simp only [hb] at h'; cases h'
      | some o =>
        cases o with
        | cells cells T fr =>
          refine ⟨blk, off, cells.toList, T, fr, rfl, by show W.heap[blk]? = _; rw [hb], fun i m' hm' => ?_⟩
          have hi : i < len := by
            have := (List.getElem?_eq_some_iff.1 hm').1
            simpa [h1] using this
          obtain ⟨cs, y, hc, hy, hg⟩ := elem i hi
          obtain ⟨hl1, hc1⟩ := cells_at hc
          have hcs : (cells.toList.drop (off + i * sz)).take sz = cs := by
            apply List.ext_getElem?
            intro j
            rcases Nat.lt_or_ge j sz with hj | hj
            · have h3 := hc1 j hj
              rw [Addr.add_lit, Addr.add_lit] at h3
              unfold World.cell? at h3
              simp only [hb] at h3
              rw [List.getElem?_take, if_pos hj, List.getElem?_drop, ← h3]
              simp
            rw [List.getElem?_take, if_neg (by omega), List.getElem?_eq_none (by omega)]
          rw [hcs]
          rw [List.getElem?_map, hy] at hm'
          simp only [Option.map_some, Option.some.injEq] at hm'
          exact ⟨hl1, n, y, hg, hm'⟩
        | _ => simp only [hb] at h'; cases h'
  cases g
theorem Arg.row {α : Type} {f : α → List Value} {size : α → Nat} {t e sz : Nat} {cs : List Value} {m : Nat} (ht : Tryz.prog.underlying t = some (.slice e)) (hsz : Tryz.prog.cellsOf e = sz) (hpos : 0 < sz) (Q : α → Prop)
    (he : ∀ (cs : List Value) (m' : Nat), m' ≤ m → Arg enc W e cs m' → ∃ x : α, cs = f x ∧ size x ≤ m' ∧ Q x) (h : Arg enc W t cs m) :
    ∃ (l : List α) (v : Value), cs = [v] ∧ RowS f (HW W) l v ∧ (l.map size).sum + 1 ≤ m ∧ l.length ≤ maxLen ∧ ∀ x ∈ l, Q x := by
  obtain ⟨p, len, cap, ms, rfl, hlc, hcm, hml, hms, hb⟩ := h.slice ht hsz hpos
  rcases Nat.eq_zero_or_pos len with h0 | h0
  · subst h0
    exact ⟨[], _, rfl, ⟨p, cap, rfl, hlc, fun h => absurd rfl h⟩, by simp; omega, Nat.zero_le _, fun x hx => by cases hx⟩
  obtain ⟨b, o, cells, T, fr, rfl, hblk, hel⟩ := hb h0
  have key : ∀ (ms : List Nat) (o : Nat), ms.sum + 1 ≤ m → (∀ (i m' : Nat), ms[i]? = some m' → ((cells.drop (o + i * sz)).take sz).length = sz ∧ Arg enc W e ((cells.drop (o + i * sz)).take sz) m') →
      ∃ (l : List α) (sp : List Value), l.length = ms.length ∧ cells.drop o = l.flatMap f ++ sp ∧ (l.map size).sum ≤ ms.sum ∧ ∀ x ∈ l, Q x := by
    intro ms
    induction ms with
    | nil => exact fun o _ _ => ⟨[], cells.drop o, rfl, rfl, Nat.le_refl _, fun x hx => by cases hx⟩
    | cons a r ih =>
      intro o hs hel
      rw [List.sum_cons] at hs
      have h0 := hel 0 a rfl
      rw [Nat.zero_mul, Nat.add_zero] at h0
      obtain ⟨x, hx, hsx, hq⟩ := he _ a (by omega) h0.2
      obtain ⟨l, sp, h1, h2, h3, h4⟩ := ih (o + sz) (by omega) fun i m' hi => by
        have := hel (i + 1) m' (by simpa using hi)
        rw [show o + (i + 1) * sz = o + sz + i * sz by rw [Nat.add_mul]; omega] at this
        exact this
      refine ⟨x :: l, sp, by simp [h1], ?_, by simp only [List.map_cons, List.sum_cons]; omega, fun y hy => ?_⟩
      · rw [List.flatMap_cons, List.append_assoc, ← h2, ← hx, ← List.drop_drop]
        exact (List.take_append_drop sz (cells.drop o)).symm
      rcases List.mem_cons.1 hy with rfl | hy
      · exact hq
      exact h4 y hy
  obtain ⟨l, sp, h1, h2, h3, h4⟩ := key ms o hms hel
  have hll : l.length = len := h1.trans hml
  subst hll
  exact ⟨l, _, rfl, ⟨_, cap, rfl, hlc, fun _ => ⟨b, o, cells, T, fr, sp, rfl, hblk, h2⟩⟩, by omega, by omega, h4⟩
end
end Go.Proofs.YtjcdfnbomkoheaaGreatDoor
end
section
namespace Go.Proofs.YtjcdfnbomkoheaaGreatDoor.Sync
open _root_.Go.Proofs.Tryz
open Go Go.Sx
theorem disable (w : World) : (callFunc 228 #[]).run Tryz.prog w = .ok (.value (.tuple #[])) w := run_call_mark0 func228 (by kernel_rfl) (by kernel_rfl) (by kernel_rfl) .disable (by kernel_rfl) w
theorem enable (w : World) : (callFunc 230 #[]).run Tryz.prog w = .ok (.value (.tuple #[])) w := run_call_mark0 func230 (by kernel_rfl) (by kernel_rfl) (by kernel_rfl) .enable (by kernel_rfl) w
theorem acquire (a : Addr) (w : World) : (callFunc 231 #[.pointer (some a)]).run Tryz.prog w = .ok (.value (.tuple #[])) w := run_call_marked func231 (by kernel_rfl) (by kernel_rfl) (by kernel_rfl) .acquire (by kernel_rfl) a w
theorem releaseMerge (a : Addr) (w : World) : (callFunc 233 #[.pointer (some a)]).run Tryz.prog w = .ok (.value (.tuple #[])) w := run_call_marked func233 (by kernel_rfl) (by kernel_rfl) (by kernel_rfl) .releaseMerge (by kernel_rfl) a w
theorem store_deferred (a : Addr) (x : Value) (u : FrameMode) (w : World) (hc : w.cell? a = some x) (hz : w.frozen? a = false) :
    CallsD Tryz.prog 212 #[.pointer (some a), .bool true] u w fun e u' w' => u' = u ∧ (e = .returned (.tuple #[]) ∧ w' = w.drew.setCell a (.int .u32 1)) := by
  have hc' : w.drew.cell? a = some x := by go_simp
  have hz' : w.drew.frozen? a = false := by go_simp
  have hst := run_call_store (P := Tryz.prog) func222 (by kernel_rfl) (by kernel_rfl) (by kernel_rfl) (by kernel_rfl) (k := .u32) (y := 1) hc' hz'
  go_enter_d func212, Tryz.ntmps212
  go_wp2
  go_region_calls
  all_goals (go_end0; exact ⟨rfl, rfl⟩)
theorem unlock_deferred (a : Addr) (u : FrameMode) (w : World) (hc : w.cell? a = some (.int .i32 1)) (hz : w.frozen? a = false) :
    CallsD Tryz.prog 211 #[.pointer (some a)] u w fun e u' w' => u' = u ∧ (e = .returned (.tuple #[]) ∧ w' = w.setCell a (.int .i32 0)) := by
  have hd := disable
  have he := enable
  have hr := releaseMerge
  have hadd := run_call_add (P := Tryz.prog) func234 (by kernel_rfl) (by kernel_rfl) (by kernel_rfl) .i32 (by kernel_rfl) (y := -1) (s := 0) hc hz (by simp [go_sem]; rfl)
  have hcv := run_convert_to_unsafe (P := Tryz.prog) (src := 298) (dst := 236) underlying298 tU236 (by kernel_rfl) hc
  go_enter_d func211, Tryz.ntmps211
  go_wp2
  go_end0
  go_wp2
  go_end0
  exact ⟨rfl, rfl⟩
theorem lock_free (a : Addr) (w : World) (hc : w.cell? a = some (.int .i32 0)) (hz : w.frozen? a = false) :
    Calls Tryz.prog 210 #[.pointer (some a)] w fun e w' => e = .returned (.tuple #[]) ∧ w' = w.setCell a (.int .i32 1) := by
  have hd := disable
  have he := enable
  have ha := acquire
  have hcas := run_call_cas_hit (P := Tryz.prog) func229 (by kernel_rfl) (by kernel_rfl) (by kernel_rfl) .i32 (by kernel_rfl) (y := 1) hc hz
  have hc' : (w.setCell a (.int .i32 1)).cell? a = some (.int .i32 1) := World.cell?_setCell_same w a _ hc
  have hcv := run_convert_to_unsafe (P := Tryz.prog) (src := 298) (dst := 236) underlying298 tU236 (by kernel_rfl) hc'
  go_enter func210, Tryz.ntmps210
  go_wp2
  first | go_end0 | (simp only [Exit.inBlock, Exit.then]; refine bodyPost_ret (results_none rfl _ _ _) rfl ?_) | refine bodyPost_ret (results_none rfl _ _ _) rfl ?_
  go_wp2
  go_end0
  exact ⟨rfl, rfl⟩
theorem load_free (a : Addr) (x : Int) (w : World) (hc : w.cell? a = some (.int .u32 x)) :
    Calls Tryz.prog 194 #[.pointer (some a)] w fun e w' => e = .returned (.bool (x != 0)) ∧ w' = w := by
  have hl := run_call_load (P := Tryz.prog) func209 (by kernel_rfl) (by kernel_rfl) (by kernel_rfl) .u32 (by kernel_rfl) hc
  go_enter func194, Tryz.ntmps194
  go_wp2
  go_ret
  exact ⟨rfl, rfl⟩
end Go.Proofs.YtjcdfnbomkoheaaGreatDoor.Sync
end
section
namespace Ke
open Go.Lib (decodeL decodeN)
abbrev Bs := List UInt8
def runesF : Nat → Bs → List Nat
  | 0, _ => []
  | _ + 1, [] => []
  | f + 1, c :: r => (decodeL (c :: r)).1 :: runesF f ((c :: r).drop (decodeL (c :: r)).2)
def runes (s : Bs) : List Nat := runesF s.length s
theorem runesF_eq : ∀ (f g : Nat) (s : Bs), s.length ≤ f → s.length ≤ g → runesF f s = runesF g s
  | 0, 0, _, _, _ => rfl
  | 0, g + 1, s, h, _ => by
    have : s = [] := List.length_eq_zero_iff.1 (by omega)
    subst this; rfl
  | f + 1, 0, s, _, h => by
    have : s = [] := List.length_eq_zero_iff.1 (by omega)
    subst this; rfl
  | f + 1, g + 1, [], _, _ => rfl
  | f + 1, g + 1, c :: r, h1, h2 => by
    have hw := Go.Lib.decodeL_width (c :: r)
    simp only [List.length_cons] at h1 h2
    simp only [runesF]
    rw [runesF_eq f g _ (by simp; omega) (by simp; omega)]
theorem runes_cons {s : Bs} (h : s ≠ []) : runes s = (decodeL s).1 :: runes (s.drop (decodeL s).2) := by
  cases s with
  | nil => exact absurd rfl h
  | cons c r =>
    have hw := Go.Lib.decodeL_width (c :: r)
    show runesF (r.length + 1) (c :: r) = _
    simp only [runesF]
    unfold runes
    rw [runesF_eq r.length _ _ (by simp; omega) (Nat.le_refl _)]
theorem runes_at {s : Bs} {i : Nat} (h : i < s.length) : runes (s.drop i) = (Go.Utf8.decode ⟨s.toArray⟩ i).1 :: runes (s.drop (i + (Go.Utf8.decode ⟨s.toArray⟩ i).2)) := by
  have h1 := Go.Lib.decodeL_drop ⟨s.toArray⟩ i
  simp only at h1
  rw [← h1, runes_cons (by simp; omega), List.drop_drop]
theorem runes_end {s : Bs} {i : Nat} (h : s.length ≤ i) : runes (s.drop i) = [] := by rw [List.drop_eq_nil_of_le h]; rfl
theorem decode_le (s : Bs) (i : Nat) : (Go.Utf8.decode ⟨s.toArray⟩ i).1 ≤ 1114111 := by
  rw [← Go.Lib.decodeL_drop ⟨s.toArray⟩ i]; exact Go.Lib.decodeL_rune _
theorem decode_width (s : Bs) {i : Nat} (h : i < s.length) : 1 ≤ (Go.Utf8.decode ⟨s.toArray⟩ i).2 ∧ i + (Go.Utf8.decode ⟨s.toArray⟩ i).2 ≤ s.length := by
  have h1 : decodeL (s.drop i) = Go.Utf8.decode ⟨s.toArray⟩ i := Go.Lib.decodeL_drop ⟨s.toArray⟩ i
  rw [← h1]
  refine ⟨Go.Lib.decodeL_width _, ?_⟩
  have := Go.Lib.decodeL_le (s.drop i) (by simp; omega)
  simp only [List.length_drop] at this
  omega
theorem runes_le : ∀ (f : Nat) (s : Bs), ∀ c ∈ runesF f s, c ≤ 1114111
  | 0, _, c, h => by cases h
  | _ + 1, [], c, h => by cases h
  | f + 1, d :: r, c, h => by
    simp only [runesF, List.mem_cons] at h
    rcases h with rfl | h
    · exact Go.Lib.decodeL_rune _
    exact runes_le f _ c h
theorem runes_len : ∀ (f : Nat) (s : Bs), (runesF f s).length ≤ s.length
  | 0, _ => Nat.zero_le _
  | _ + 1, [] => Nat.le_refl _
  | f + 1, d :: r => by
    have hw := Go.Lib.decodeL_width (d :: r)
    have := runes_len f ((d :: r).drop (decodeL (d :: r)).2)
    simp only [runesF, List.length_cons]
    simp only [List.length_drop, List.length_cons] at this
    omega
def enc (c : Nat) : Bs :=
  if c < 128 then [UInt8.ofNat c] else if c < 2048 then [UInt8.ofNat (192 + c / 64), UInt8.ofNat (128 + c % 64)]
  else if c < 65536 then [UInt8.ofNat (224 + c / 4096), UInt8.ofNat (128 + c / 64 % 64), UInt8.ofNat (128 + c % 64)]
  else [UInt8.ofNat (240 + c / 262144), UInt8.ofNat (128 + c / 4096 % 64), UInt8.ofNat (128 + c / 64 % 64), UInt8.ofNat (128 + c % 64)]
def okc (c : Nat) : Prop := c < 55296 ∨ (57344 ≤ c ∧ c < 65536)
theorem valid_of {c : Nat} (h : okc c) : Go.Utf8.valid (c : Int) = true := by
  unfold okc at h
  unfold Go.Utf8.valid
  simp only [Bool.or_eq_true, Bool.and_eq_true, decide_eq_true_eq]
  omega
theorem enc_valid {c : Nat} (hv : Go.Utf8.valid (c : Int) = true) : (Go.Utf8.encode (c : Int)).data.toList = (if c < 128 then (⟨#[UInt8.ofNat c]⟩ : ByteArray) else if c < 2048 then ⟨#[UInt8.ofNat (192 + c / 64), UInt8.ofNat (128 + c % 64)]⟩ else if c < 65536 then ⟨#[UInt8.ofNat (224 + c / 4096), UInt8.ofNat (128 + c / 64 % 64), UInt8.ofNat (128 + c % 64)]⟩
    else ⟨#[UInt8.ofNat (240 + c / 262144), UInt8.ofNat (128 + c / 4096 % 64), UInt8.ofNat (128 + c / 64 % 64), UInt8.ofNat (128 + c % 64)]⟩).data.toList := by
  unfold Go.Utf8.encode
  simp only [hv, if_true, Int.toNat_natCast]
theorem enc_encode {c : Nat} (h : okc c) : (Go.Utf8.encode (c : Int)).data.toList = enc c := by
  rw [enc_valid (valid_of h)]
  unfold enc
  by_cases h1 : c < 128
  · rw [if_pos h1, if_pos h1]
  rw [if_neg h1, if_neg h1]
  by_cases h2 : c < 2048
  · rw [if_pos h2, if_pos h2]
  rw [if_neg h2, if_neg h2]
  by_cases h3 : c < 65536
  · rw [if_pos h3, if_pos h3]
  rw [if_neg h3, if_neg h3]
def rows : List (Bs × Bs) := [
  ([97], [195, 160, 195, 161, 195, 162, 195, 163, 195, 164, 195, 165, 196, 129, 196, 131, 196, 133, 195, 128, 195, 129, 195, 130, 195, 131, 195, 132, 195, 133, 196, 128, 196, 130, 196, 132]),
  ([99], [195, 167, 196, 135, 196, 137, 196, 139, 196, 141, 195, 135, 196, 134, 196, 136, 196, 138, 196, 140]),
  ([100], [196, 143, 196, 145, 195, 176, 196, 142, 196, 144, 195, 144]),
  ([101], [195, 168, 195, 169, 195, 170, 195, 171, 196, 147, 196, 149, 196, 151, 196, 153, 196, 155, 195, 136, 195, 137, 195, 138, 195, 139, 196, 146, 196, 148, 196, 150, 196, 152, 196, 154]),
  ([103], [196, 157, 196, 159, 196, 161, 196, 163, 196, 156, 196, 158, 196, 160, 196, 162]),
  ([104], [196, 165, 196, 167, 196, 164, 196, 166]),
  ([105], [195, 172, 195, 173, 195, 174, 195, 175, 196, 169, 196, 171, 196, 173, 196, 175, 196, 177, 195, 140, 195, 141, 195, 142, 195, 143, 196, 168, 196, 170, 196, 172, 196, 174, 196, 176]),
  ([106], [196, 181, 196, 180]),
  ([107], [196, 183, 196, 182]),
  ([108], [196, 186, 196, 188, 196, 190, 197, 130, 196, 185, 196, 187, 196, 189, 197, 129]),
  ([110], [195, 177, 197, 132, 197, 134, 197, 136, 195, 145, 197, 131, 197, 133, 197, 135]),
  ([111], [195, 178, 195, 179, 195, 180, 195, 181, 195, 182, 195, 184, 197, 141, 197, 143, 197, 145, 198, 161, 195, 146, 195, 147, 195, 148, 195, 149, 195, 150, 195, 152, 197, 140, 197, 142, 197, 144, 198, 160]),
  ([114], [197, 149, 197, 151, 197, 153, 197, 148, 197, 150, 197, 152]),
  ([115], [197, 155, 197, 157, 197, 159, 197, 161, 197, 154, 197, 156, 197, 158, 197, 160]),
  ([116], [197, 163, 197, 165, 197, 167, 197, 162, 197, 164, 197, 166]),
  ([117], [195, 185, 195, 186, 195, 187, 195, 188, 197, 169, 197, 171, 197, 173, 197, 175, 197, 177, 197, 179, 198, 176, 195, 153, 195, 154, 195, 155, 195, 156, 197, 168, 197, 170, 197, 172, 197, 174, 197, 176, 197, 178, 198, 175]),
  ([119], [197, 181, 197, 180]),
  ([121], [195, 189, 195, 191, 197, 183, 195, 157, 197, 184, 197, 182]),
  ([122], [197, 186, 197, 188, 197, 190, 197, 185, 197, 187, 197, 189]),
  ([97, 101], [195, 166, 195, 134]),
  ([111, 101], [197, 147, 197, 146]),
  ([115, 115], [195, 159]),
  ([116, 104], [195, 190, 195, 158]),
  ([206, 177], [206, 172, 206, 134]),
  ([206, 181], [206, 173, 206, 136]),
  ([206, 183], [206, 174, 206, 137]),
  ([206, 185], [206, 175, 207, 138, 206, 144, 206, 138, 206, 170]),
  ([206, 191], [207, 140, 206, 140]),
  ([207, 133], [207, 141, 207, 139, 206, 176, 206, 142, 206, 171]),
  ([207, 137], [207, 142, 206, 143]),
  ([208, 181], [209, 145, 208, 129])]
def tab : List (Nat × Bs) := [
  (224, [97]), (225, [97]), (226, [97]), (227, [97]), (228, [97]), (229, [97]), (257, [97]), (259, [97]), (261, [97]), (192, [97]), (193, [97]), (194, [97]), (195, [97]), (196, [97]), (197, [97]), (256, [97]), (258, [97]), (260, [97]),
  (231, [99]), (263, [99]), (265, [99]), (267, [99]), (269, [99]), (199, [99]), (262, [99]), (264, [99]), (266, [99]), (268, [99]),
  (271, [100]), (273, [100]), (240, [100]), (270, [100]), (272, [100]), (208, [100]),
  (232, [101]), (233, [101]), (234, [101]), (235, [101]), (275, [101]), (277, [101]), (279, [101]), (281, [101]), (283, [101]), (200, [101]), (201, [101]), (202, [101]), (203, [101]), (274, [101]), (276, [101]), (278, [101]), (280, [101]), (282, [101]),
  (285, [103]), (287, [103]), (289, [103]), (291, [103]), (284, [103]), (286, [103]), (288, [103]), (290, [103]),
  (293, [104]), (295, [104]), (292, [104]), (294, [104]),
  (236, [105]), (237, [105]), (238, [105]), (239, [105]), (297, [105]), (299, [105]), (301, [105]), (303, [105]), (305, [105]), (204, [105]), (205, [105]), (206, [105]), (207, [105]), (296, [105]), (298, [105]), (300, [105]), (302, [105]), (304, [105]),
  (309, [106]), (308, [106]),
  (311, [107]), (310, [107]),
  (314, [108]), (316, [108]), (318, [108]), (322, [108]), (313, [108]), (315, [108]), (317, [108]), (321, [108]),
  (241, [110]), (324, [110]), (326, [110]), (328, [110]), (209, [110]), (323, [110]), (325, [110]), (327, [110]),
  (242, [111]), (243, [111]), (244, [111]), (245, [111]), (246, [111]), (248, [111]), (333, [111]), (335, [111]), (337, [111]), (417, [111]), (210, [111]), (211, [111]), (212, [111]), (213, [111]), (214, [111]), (216, [111]), (332, [111]), (334, [111]), (336, [111]), (416, [111]),
  (341, [114]), (343, [114]), (345, [114]), (340, [114]), (342, [114]), (344, [114]),
  (347, [115]), (349, [115]), (351, [115]), (353, [115]), (346, [115]), (348, [115]), (350, [115]), (352, [115]),
  (355, [116]), (357, [116]), (359, [116]), (354, [116]), (356, [116]), (358, [116]),
  (249, [117]), (250, [117]), (251, [117]), (252, [117]), (361, [117]), (363, [117]), (365, [117]), (367, [117]), (369, [117]), (371, [117]), (432, [117]), (217, [117]), (218, [117]), (219, [117]), (220, [117]), (360, [117]), (362, [117]), (364, [117]), (366, [117]), (368, [117]), (370, [117]), (431, [117]),
  (373, [119]), (372, [119]),
  (253, [121]), (255, [121]), (375, [121]), (221, [121]), (376, [121]), (374, [121]),
  (378, [122]), (380, [122]), (382, [122]), (377, [122]), (379, [122]), (381, [122]),
  (230, [97, 101]), (198, [97, 101]),
  (339, [111, 101]), (338, [111, 101]),
  (223, [115, 115]),
  (254, [116, 104]), (222, [116, 104]),
  (940, [206, 177]), (902, [206, 177]),
  (941, [206, 181]), (904, [206, 181]),
  (942, [206, 183]), (905, [206, 183]),
  (943, [206, 185]), (970, [206, 185]), (912, [206, 185]), (906, [206, 185]), (938, [206, 185]),
  (972, [206, 191]), (908, [206, 191]),
  (973, [207, 133]), (971, [207, 133]), (944, [207, 133]), (910, [207, 133]), (939, [207, 133]),
  (974, [207, 137]), (911, [207, 137]),
  (1105, [208, 181]), (1025, [208, 181])]
def char (c : Nat) : Bs :=
  if (97 ≤ c ∧ c ≤ 122) ∨ (48 ≤ c ∧ c ≤ 57) then enc c
  else if 65 ≤ c ∧ c ≤ 90 then enc (c + 32)
  else if c < 128 then [32]
  else if (768 ≤ c ∧ c ≤ 879) ∨ (65056 ≤ c ∧ c ≤ 65071) then []
  else match tab.lookup c with
    | some s => s
    | none =>
      if c = 962 then enc 963
      else if (945 ≤ c ∧ c ≤ 969) ∨ (1072 ≤ c ∧ c ≤ 1103) then enc c
      else if ((913 ≤ c ∧ c ≤ 937) ∧ c ≠ 930) ∨ (1040 ≤ c ∧ c ≤ 1071) then enc (c + 32)
      else [32]
def rowTab : List (Bs × Bs) → List (Nat × Bs)
  | [] => []
  | (a, b) :: r => (runes b).map (·, a) ++ rowTab r
theorem tab_eq : rowTab rows = tab := by kernel_rfl
theorem tab_nodup : (tab.map (·.1)).Nodup := by decide +kernel
def wf (w : Bs) : List Nat → List Bs
  | [] => if w = [] then [] else [w]
  | c :: r => if char c = [32] then (if w = [] then wf [] r else w :: wf [] r) else wf (w ++ char c) r
def words (s : Bs) : List Bs := wf [] (runes s)
def join : List Bs → Bs
  | [] => []
  | [a] => a
  | a :: b :: r => a ++ [32] ++ join (b :: r)
theorem words_ne : ∀ (l : List Nat) (w : Bs), ∀ x ∈ wf w l, x ≠ []
  | [], w, x, h => by
    unfold wf at h
    split at h
    · cases h
    simp at h; subst h; assumption
  | c :: r, w, x, h => by
    unfold wf at h
    split at h
    · split at h
      · exact words_ne r [] x h
      rcases List.mem_cons.1 h with rfl | h
      · assumption
      exact words_ne r [] x h
    exact words_ne r _ x h
def digit (c : UInt8) : Bool := 48 ≤ c && c ≤ 57
def digits (s : Bs) : Bool := s.all digit
def strip (s : Bs) : Bs := (s.dropLast.dropWhile (· == 48)) ++ s.drop (s.length - 1)
def number (s : Bs) : Bs :=
  let t := strip s
  let n := min t.length 99
  [UInt8.ofNat (48 + n / 10), UInt8.ofNat (48 + n % 10)] ++ t
def sortWord (w : Bs) : Bs := if digits w then number w else w
def cut (s : Bs) (skip : Int) : Bs := s.drop (min (max skip 0) s.length).toNat
def sortKey (s : Bs) (skip : Int) : Bs := join ((words (cut s skip)).map sortWord)
end Ke
end
section
namespace Ke
def okb (c : UInt8) : Bool := digit c || c == 88 || c == 120 || c == 32 || c == 45
def nb (c : UInt8) : Bool := !(c == 32 || c == 45)
def up (c : UInt8) : UInt8 := if c = 120 then 88 else c
def norm (s : Bs) : Bs := ((s.takeWhile okb).filter nb).map up
def csum : Nat → Bs → Nat
  | _, [] => 0
  | k, c :: r => (c.toNat - 48) * (1 + 2 * (k % 2)) + csum (k + 1) r
def check (s : Bs) : UInt8 := UInt8.ofNat (48 + (10 - csum 0 (s.take 12) % 10) % 10)
def val (c : UInt8) : Nat := if c = 88 then 10 else c.toNat - 48
def rsum : Nat → Bs → Nat
  | _, [] => 0
  | k, c :: r => (10 - k) * val c + rsum (k + 1) r
def rightShort (s : Bs) : Bool := rsum 0 s % 11 == 0 && digits (s.take 9)
def isbnN (t : Bs) : Bs × Bool :=
  if t.length = 10 ∧ rightShort t = true then ([57, 55, 56] ++ t.take 9 ++ [check ([57, 55, 56] ++ t.take 9)], true)
  else if t.length = 13 ∧ digits t = true ∧ check t = t.getD 12 0 then (t, true)
  else ([], false)
def isbn (s : Bs) : Bs × Bool := isbnN (norm s)
theorem byte_all {p : UInt8 → Prop} (h : ∀ n < 256, p (UInt8.ofNat n)) (c : UInt8) : p c := by
  have := h c.toNat c.toNat_lt
  rwa [UInt8.ofNat_toNat] at this
theorem digit_iff {c : UInt8} : digit c = true ↔ 48 ≤ c.toNat ∧ c.toNat ≤ 57 := by
  simp [digit, UInt8.le_iff_toNat_le]
theorem digit_ok {c : UInt8} (h : digit c = true) : okb c = true ∧ nb c = true ∧ up c = c := by
  revert h
  exact byte_all (p := fun c => digit c = true → okb c = true ∧ nb c = true ∧ up c = c) (by decide +kernel) c
theorem digits_cons {c : UInt8} {r : Bs} : digits (c :: r) = (digit c && digits r) := rfl
theorem digits_app {a b : Bs} : digits (a ++ b) = (digits a && digits b) := by simp [digits, List.all_append]
theorem map_same : ∀ {s : Bs}, (∀ c ∈ s, up c = c) → s.map up = s
  | [], _ => rfl
  | c :: r, h => by rw [List.map_cons, h c (.head _), map_same fun d hd => h d (.tail _ hd)]
theorem csum_app : ∀ (a b : Bs) (k : Nat), csum k (a ++ b) = csum k a + csum (k + a.length) b
  | [], b, k => by simp [csum]
  | c :: r, b, k => by
    simp only [List.cons_append, csum, List.length_cons, csum_app r b (k + 1)]
    rw [show k + 1 + r.length = k + (r.length + 1) by omega]
    omega
theorem rsum_app : ∀ (a b : Bs) (k : Nat), rsum k (a ++ b) = rsum k a + rsum (k + a.length) b
  | [], b, k => by simp [rsum]
  | c :: r, b, k => by
    simp only [List.cons_append, rsum, List.length_cons, rsum_app r b (k + 1)]
    rw [show k + 1 + r.length = k + (r.length + 1) by omega]
    omega
theorem digits_val {s : Bs} (h : digits s = true) : s.map up = s := map_same fun c hc => (digit_ok (List.all_eq_true.1 h c hc)).2.2
end Ke
end
section
namespace Ke
def rep (s : Bs) : Bs := s.filter nb
def cnt (l : Bs) : Nat := l.countP (fun c => c == 32 || c == 45)
theorem nb_eq (c : UInt8) : nb c = !(c == 32 || c == 45) := rfl
theorem rep_cnt : ∀ l : Bs, (rep l).length + cnt l = l.length
  | [] => rfl
  | c :: r => by
    have ih := rep_cnt r
    unfold rep cnt at *
    rw [List.filter_cons, List.countP_cons]
    cases h : (c == 32 || c == 45) with
    | true => rw [nb_eq, h]; simp only [Bool.not_true, Bool.false_eq_true, if_false, if_true, List.length_cons]; omega
    | false => rw [nb_eq, h]; simp only [Bool.not_false, Bool.false_eq_true, if_false, if_true, List.length_cons]; omega
theorem cnt_counts : ∀ l : Bs, l.count 32 + l.count 45 = cnt l
  | [] => rfl
  | c :: r => by
    have ih := cnt_counts r
    simp only [cnt, List.count_cons, List.countP_cons] at ih ⊢
    by_cases h : c = 32
    · subst h; simp; omega
    by_cases h2 : c = 45
    · subst h2; simp; omega
    simp [h, h2]; omega
theorem rep_id (l : Bs) (h : cnt l = 0) : rep l = l := by
  have h1 := rep_cnt l
  exact List.filter_eq_self.2 (fun c hc => by
    have := List.countP_eq_zero.1 h c hc
    rw [nb_eq]; simpa using this)
theorem take_nextB {s : Bs} {k : Nat} {c : UInt8} (h : s[k]? = some c) : s.take (k + 1) = s.take k ++ [c] := by
  obtain ⟨hlt, hg⟩ := List.getElem?_eq_some_iff.1 h
  rw [List.take_succ_eq_append_getElem hlt, hg]
theorem cnt_next {s : Bs} {k : Nat} {c : UInt8} (h : s[k]? = some c) : cnt (s.take (k + 1)) = cnt (s.take k) + if c = 32 ∨ c = 45 then 1 else 0 := by
  rw [take_nextB h]
  unfold cnt
  rw [List.countP_append]
  simp
theorem rep_next {s : Bs} {k : Nat} {c : UInt8} (h : s[k]? = some c) : rep (s.take (k + 1)) = rep (s.take k) ++ if c = 32 ∨ c = 45 then [] else [c] := by
  rw [take_nextB h]
  unfold rep
  rw [List.filter_append]
  by_cases hc : c = 32 ∨ c = 45
  · rw [if_pos hc, List.filter_cons_of_neg (by rcases hc with rfl | rfl <;> decide)]; rfl
  rw [if_neg hc, List.filter_cons_of_pos (by rw [nb_eq]; simp only [not_or] at hc; simp [hc.1, hc.2])]; rfl
theorem rep_part (s : Bs) (k : Nat) : (rep (s.take k)).length ≤ (rep s).length := by
  have : rep s = rep (s.take k) ++ rep (s.drop k) := by
    unfold rep
    rw [← List.filter_append, List.take_append_drop]
  rw [this]; simp
theorem three (c : UInt8) : c = 45 ∨ c = 32 ∨ ¬ (c = 32 ∨ c = 45) := by
  by_cases h : c = 45
  · exact .inl h
  by_cases h2 : c = 32
  · exact .inr (.inl h2)
  exact .inr (.inr (by simp [h, h2]))
end Ke
namespace Go.Sx
def buf (E : List UInt8) (n : Nat) : List Value := bcs E ++ List.replicate (n - E.length) (.int .u8 0)
theorem buf_nil (n : Nat) : buf [] n = List.replicate n (.int .u8 0) := by simp [buf, bcs]
theorem buf_len {E : List UInt8} {n : Nat} (h : E.length ≤ n) : (buf E n).length = n := by simp [buf, bcs]; omega
theorem buf_set {E : List UInt8} {n : Nat} (c : UInt8) (h : E.length < n) : (buf E n).set E.length (u8 c) = buf (E ++ [c]) n := by
  have hE : (bcs E).length = E.length := bcs_len E
  unfold buf
  rw [List.set_append_right _ _ (by omega), hE, Nat.sub_self]
  obtain ⟨m, hm⟩ : ∃ m, n - E.length = m + 1 := ⟨n - E.length - 1, by omega⟩
  have h2 : n - (E ++ [c]).length = m := by simp; omega
  rw [hm, h2, List.replicate_succ, List.set_cons_zero]
  simp [bcs]
theorem buf_full {E : List UInt8} {n : Nat} (h : n = E.length) : buf E n = bcs E ++ [] := by
  subst h; simp [buf]
end Go.Sx
end
