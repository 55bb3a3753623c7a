/-
  Ranges over functions: calls of yield, the statement, and functions that hold one. Own text. Conditions: none.
-/
import Derived.Test.YtnogdccoekfnoaaGreatDoorSxLib
import Derived.RangeFuncRecord
namespace Go.Sx
open Go

/-- What a call of yield does. -/
def YC (P : Program) (l : Nat) (args : List Value) (I : Heap) (H : HL) (post : Ending → Heap → HL → Prop) : Prop :=
  ∀ w, Ready I H w → ∃ f tmps assign body, (Instr.yield l args.toArray).run P w = .ok (.round l f tmps assign body) w ∧ RoundIn Fence.wide 0 P l f tmps assign body w (RR w (H.map (·.1)) I post)
theorem fence_round {rd : Option Nat} {n : Nat} {P : Program} {l : Nat} {f : FuncId} {tmps : Array Value} {assign body : Code} {w : World} {R : Ending → World → Prop} (h : RoundIn Fence.wide n P l f tmps assign body w R) : RoundIn { Fence.wide with round := rd } n P l f tmps assign body w R := by
  cases rd with
  | none => exact h
  | some l => exact h
section
variable {cx : Cx} {Q : Qt} {o : Oper} {e : Env} {I : Heap}
theorem wp_yield {H1 R : HL} {d l : Nat} {fo : Operand} {xs : List Operand} {ts : Array TypeId} {vs : List Value} {post : Ending → Heap → HL → Prop} {K : Act → World → Prop}
    (ho : o.op = .call ⟨.value fo, xs.toArray, ts⟩) (hd : o.dst = some d) (hn : Nat.blt d cx.n = true) (hf : ev e fo = some (.func (.yield l) #[] #[])) (hx : evs e xs = some vs) (hs : YC cx.P l vs I H1 post)
    (k : ∀ v I' H1', Le I I' → post (.returned v) I' H1' → ∀ a w, Has a cx.n ((d, v) :: e) cx.ds → St cx.w0 cx.D cx.I0 I' (R ++ H1') w → K a w)
    (kp : ∀ ch I' H1', ¬ post (.panicked ch) I' H1') (ko : ∀ I' H1', ¬ post .outgrown I' H1') {a : Act} {w : World} (ha : Has a cx.n e cx.ds) (hst : St cx.w0 cx.D cx.I0 I (R ++ H1) w) : o.wpIn cx.F 0 cx.P a w K Q := by
  replace hst := hst.perm (H' := H1 ++ R) List.perm_append_comm
  have hready : Ready I H1 w := ⟨hst.sub, fun p hp => hst.own p (List.mem_append_left _ hp), by
    have := hst.nodup; rw [List.map_append, List.nodup_append] at this; exact this.1, fun p hp => hst.dis p (List.mem_append_left _ hp)⟩
  obtain ⟨f, tmps, assign, body, h1, h2⟩ := hs w hready
  have hr : (execOp a.eval o).run cx.P w = .ok (.round l f tmps assign body) w := by
    have hxs : xs.toArray.map a.eval = vs.toArray := by
      rw [List.map_toArray, ha.evals hx]
    simp only [execOp, ho, resolve, hxs, ha.eval hf, Deferred.ofValue, invoke, Sem.run_bind, Sem.run_pure, Result.andThen_ok, Array.empty_append, h1]
  refine ⟨fun _ _ => trivial, ?_⟩
  have he : o.semAt cx.F.round a.eval = execOp a.eval o := Oper.semAt_eq _ _ _ (fun c hc => by rw [ho] at hc; cases hc)
  rw [he, hr]
  refine ⟨fun h => by simp [Cx.F, Fence.wide] at h, ?_⟩
  refine RoundIn.mono (fence_round (rd := cx.rd) h2) ?_
  rintro en w' ⟨I', H1', hs', hp⟩
  have hle := hs'.le
  have hst' := (hst.call hs').perm (H' := R ++ H1') List.perm_append_comm
  cases en with
  | returned v =>
    rw [hd]
    exact k v I' H1' hle hp _ _ (ha.put hn) hst'
  | panicked ch => exact (kp _ _ _ hp).elim
  | outgrown => exact (ko _ _ hp).elim
theorem J.yield {ops : Array Oper} {r : List Oper} {H1 : HL} (R : HL) {d l : Nat} {fo : Operand} {xs : List Operand} {ts : Array TypeId} {vs : List Value} {post : Ending → Heap → HL → Prop}
    (hg : o.guard = none) (ho : o.op = .call ⟨.value fo, xs.toArray, ts⟩) (hd : o.dst = some d) (hn : Nat.blt d cx.n = true) (hf : ev e fo = some (.func (.yield l) #[] #[])) (hx : evs e xs = some vs) (hs : YC cx.P l vs I H1 post)
    (k : ∀ v I' H1', Le I I' → post (.returned v) I' H1' → J cx Q ops r ((d, v) :: e) I' (R ++ H1'))
    (kp : ∀ ch I' H1', ¬ post (.panicked ch) I' H1') (ko : ∀ I' H1', ¬ post .outgrown I' H1') : J cx Q ops (o :: r) e I (R ++ H1) :=
  fun _ _ ha hst => wpListIn_plain hg fun _ hK => wp_yield ho hd hn hf hx hs (fun v I' H1' hle hp a w ha hst => hK a w (k v I' H1' hle hp a w ha hst)) kp ko ha hst
theorem J.yieldG {ops : Array Oper} {r : List Oper} {H1 : HL} (R : HL) {d l : Nat} {fo : Operand} {xs : List Operand} {ts : Array TypeId} {vs : List Value} {post : Ending → Heap → HL → Prop} (j dj : Nat) (want b : Bool)
    (hg : o.guard = some (j, want)) (hdj : (ops[j]?).bind (·.dst) = some dj) (hv : eg e dj = some (.bool b)) (hb : b = want) (ho : o.op = .call ⟨.value fo, xs.toArray, ts⟩) (hd : o.dst = some d) (hn : Nat.blt d cx.n = true) (hf : ev e fo = some (.func (.yield l) #[] #[])) (hx : evs e xs = some vs) (hs : YC cx.P l vs I H1 post)
    (k : ∀ v I' H1', Le I I' → post (.returned v) I' H1' → J cx Q ops r ((d, v) :: e) I' (R ++ H1'))
    (kp : ∀ ch I' H1', ¬ post (.panicked ch) I' H1') (ko : ∀ I' H1', ¬ post .outgrown I' H1') : J cx Q ops (o :: r) e I (R ++ H1) := by
  intro a w ha hst
  refine wpListIn_step fun K hK => ?_
  rw [if_pos (by simp [Region.wanted, hg, yielded_of ha hdj hv, hb])]
  exact wp_yield ho hd hn hf hx hs (fun v I' H1' hle hp a w ha hst => hK a w (k v I' H1' hle hp a w ha hst)) kp ko ha hst
end

/-! ### Sequences -/
/-- One who takes xs, one after the other: at the stages Y; Z once he has had enough. -/
def YS (P : Program) (l : Nat) (xs : List (List Value)) (Y : Nat → Heap → HL → Prop) (Z : Heap → HL → Prop) : Prop :=
  ∀ k args, xs[k]? = some args → ∀ I H, Y k I H → YC P l args I H (fun e I' H' => (e = .returned (.bool true) ∧ Y (k + 1) I' H') ∨ (e = .returned (.bool false) ∧ Z I' H'))
/-- A function that yields xs. -/
def Gen (P : Program) (f : FuncId) (fst cap : List Value) (I : Heap) (xs : List (List Value)) : Prop :=
  Enters P f ∧ ∀ (l : Nat) (Y : Nat → Heap → HL → Prop) (Z : Heap → HL → Prop), (∀ k I1 I2 H, Le I1 I2 → Y k I1 H → Y k I2 H) → YS P l xs Y Z →
    ∀ H, Y 0 I H → Ctr P f (fst ++ [.func (.yield l) #[] #[]] ++ cap) I H (fun e I' H' => e = .returned (.tuple #[]) ∧ (Y xs.length I' H' ∨ Z I' H'))

/-! ### The statement -/
def zipEnv : List Tmp → List Value → Env → Env
  | t :: ps, v :: vs, e => zipEnv ps vs ((t, v) :: e)
  | _, _, e => e
theorem Has.zip {n : Nat} : ∀ (ps : List Tmp) (vs : List Value) (e : Env) (tmps : Array Value), (∀ t ∈ ps, Nat.blt t n = true) → Has ⟨tmps, []⟩ n e [] → Has ⟨(ps.zip vs).foldl (fun tmps (x : Tmp × Value) => tmps.setIfInBounds x.1 x.2) tmps, []⟩ n (zipEnv ps vs e) []
  | [], _, _, _, _, h => h
  | _ :: _, [], _, _, _, h => h
  | t :: ps, _v :: vs, _e, tmps, hn, h => Has.zip ps vs _ _ (fun u hu => hn u (.tail _ hu)) (Has.put (a := ⟨tmps, []⟩) h (hn t (.head _)))
def AsgQ (cx : Cx) (l : Nat) (r : Loop) (body : Code) (Q : Qt) : Qt
  | .normal, a, w => ∃ e I H, Has a cx.n e cx.ds ∧ St cx.w0 cx.D cx.I0 I ((l, .loop r) :: H) w ∧ Cj cx Q body e I ((l, .loop { r with state := .busy }) :: H)
  | _, _, _ => False
def RdQ (cx : Cx) (l : Nat) (r : Loop) (Y : Heap → HL → Prop) (Z : Code → Heap → HL → Prop) : Qt
  | .normal, _, w => ∃ I H, St cx.w0 cx.D cx.I0 I ((l, .loop { r with state := .busy }) :: H) w ∧ Y I H
  | .ret, _, w => ∃ I H, St cx.w0 cx.D cx.I0 I ((l, .loop { r with state := .busy }) :: H) w ∧ Z .ret I H
  | .exit id, _, w => ∃ I H, St cx.w0 cx.D cx.I0 I ((l, .loop { r with state := .busy }) :: H) w ∧ Z (.exit id) I H
  | _, _, _ => False
section
variable {cx : Cx} {Q : Qt} {e : Env} {I : Heap} {H : HL} {l : Nat} {r : Loop} {Y : Heap → HL → Prop} {Z : Code → Heap → HL → Prop}
theorem Ej.asg {body : Code} (k : Cj cx Q body e I ((l, .loop { r with state := .busy }) :: H)) : Ej cx (AsgQ cx l r body Q) .normal e I ((l, .loop r) :: H) :=
  fun _ _ ha hs => ⟨e, I, H, ha, hs, k⟩
theorem Ej.rdNormal (h : Y I H) : Ej cx (RdQ cx l r Y Z) .normal e I ((l, .loop { r with state := .busy }) :: H) := fun _ _ _ hs => ⟨I, H, hs, h⟩
theorem Ej.rdRet (h : Z .ret I H) : Ej cx (RdQ cx l r Y Z) .ret e I ((l, .loop { r with state := .busy }) :: H) := fun _ _ _ hs => ⟨I, H, hs, h⟩
theorem Ej.rdExit {id : Nat} (h : Z (.exit id) I H) : Ej cx (RdQ cx l r Y Z) (.exit id) e I ((l, .loop { r with state := .busy }) :: H) := fun _ _ _ hs => ⟨I, H, hs, h⟩
theorem putObj_block (w : World) (b : Nat) (o : Obj) : w.putObj b o = World.block w b o := rfl
abbrev markOf (b : Nat) : Deferred := { target := .collected b, args := #[] }
theorem Cj.rangeFunc {g : Operand} {ps : List Tmp} {assign body : Code} {f : Nat} {fst cap : List Value} {H1 R : HL} (xs : List (List Value)) (Y : Nat → Heap → HL → Prop) (Z : Code → Heap → HL → Prop)
    (hr : cx.rd = none) (hps : ∀ t ∈ ps, Nat.blt t cx.n = true) (hlen : ∀ args ∈ xs, args.length = ps.length) (hg : ev e g = some (.func (.func f) fst.toArray cap.toArray)) (hgen : Gen cx.P f fst cap I xs)
    (hmono : ∀ k I1 I2 H, Le I1 I2 → Y k I1 H → Y k I2 H) (h0 : Y 0 I H1)
    (round : ∀ l r k args I1 Hk w0, xs[k]? = some args → Le I I1 → Y k I1 Hk →
      Cj ⟨cx.P, cx.n, w0, l :: Hk.map (·.1), I1, [], some l⟩ (AsgQ ⟨cx.P, cx.n, w0, l :: Hk.map (·.1), I1, [], some l⟩ l r body (RdQ ⟨cx.P, cx.n, w0, l :: Hk.map (·.1), I1, [], some l⟩ l r (Y (k + 1)) Z)) assign (zipEnv ps args e) I1 ((l, .loop r) :: Hk))
    (done : ∀ b I' H', Le I I' → Y xs.length I' H' → Ej { cx with ds := markOf b :: cx.ds } Q .normal e I' ((b, .deferred (some [])) :: (H' ++ R)))
    (left : ∀ b c I' H', Le I I' → Z c I' H' → Cj { cx with ds := markOf b :: cx.ds } Q c e I' ((b, .deferred (some [])) :: (H' ++ R))) :
    Cj cx Q (.rangeFunc g ps.toArray assign body) e I (H1 ++ R) := by
  intro a w ha hst
  rw [Cx.wide hr]
  refine wpIn_rangeFunc fun fn _ => ?_
  obtain ⟨r, hr0⟩ : ∃ r : Loop, r = { state := .ready, pending := none, fn := fn, tmps := a.tmps, params := ps.toArray, assign := assign, body := body, defers := w.heap.size } := ⟨_, rfl⟩
  obtain ⟨l, hl⟩ : ∃ l, l = w.heap.size + 1 := ⟨_, rfl⟩
  have hst1 : St cx.w0 cx.D cx.I0 I (((l, .loop r) :: H1) ++ ((w.heap.size, .deferred (some [])) :: R)) ((w.alloc (.deferred (some []))).alloc (.loop r)) := by
    have h1 := (hst.alloc (.deferred (some []))).alloc (.loop r)
    have h2 : (w.heap.push (.deferred (some []))).size = l := by rw [hl, Array.size_push]
    rw [h2] at h1
    refine h1.perm ?_
    show ((l, Obj.loop r) :: (H1 ++ (w.heap.size, Obj.deferred (some [])) :: R)).Perm _
    exact List.Perm.cons _ List.perm_middle
  let Y' : Nat → Heap → HL → Prop := fun k I1 H => Le I I1 ∧ ∃ Hk, H = (l, .loop r) :: Hk ∧ Y k I1 Hk
  let Z' : Heap → HL → Prop := fun I1 H => ∃ c Hk, H = (l, .loop { r with state := .done, pending := some c }) :: Hk ∧ Z c I1 Hk
  have hYS : YS cx.P l xs Y' Z' := by
    rintro k args hk I1 H ⟨hle, Hk, rfl, hY⟩ w1 hready
    have hlr : w1.heap[l]? = some (.loop r) := hready.2.1 _ (.head _)
    have hal := hlen args (List.mem_of_getElem? hk)
    refine ⟨r.fn, _, r.assign, r.body, run_yield hlr (by rw [hr0]; simp [hal]), roundIn_of_wpIn trivial ?_⟩
    have hz : (r.params.zip args.toArray).foldl (fun tmps (x : Tmp × Value) => tmps.setIfInBounds x.1 x.2) r.tmps = (ps.zip args).foldl (fun tmps (x : Tmp × Value) => tmps.setIfInBounds x.1 x.2) a.tmps := by
      rw [hr0]; simp [List.zip_toArray]
    have hhas := Has.zip (n := cx.n) ps args e a.tmps hps ⟨ha.size, rfl, ha.get⟩
    rw [← hz] at hhas
    have hc := round l r k args I1 Hk w1 hk hle hY _ _ hhas (St.start w1 I1 ((l, .loop r) :: Hk) hready.1 hready.2.1 hready.2.2.1 hready.2.2.2)
    have e1 : r.assign = assign := by rw [hr0]
    have e2 : r.body = body := by rw [hr0]
    rw [e1, e2]
    refine wpIn_mono hc ?_
    rintro x a2 w2 hq
    cases x with
    | normal =>
      obtain ⟨e2, I2, H2, ha2, hs2, hb⟩ := hq
      refine ⟨_, run_beginRound (hs2.own _ (.head _)) (by rw [hr0]), ?_⟩
      have hs3 := hs2.block (i := 0) (o' := .loop { r with state := .busy }) rfl LSet.z
      refine wpIn_mono (hb a2 _ ha2 hs3) ?_
      rintro x a3 w3 hq3
      cases x with
      | normal =>
        obtain ⟨I3, H3, hs4, hY4⟩ := hq3
        refine ⟨_, _, run_endRound none (hs4.own _ (.head _)), I3, (l, .loop r) :: H3, ?_, .inl ⟨rfl, hle.trans hs4.le, H3, rfl, hY4⟩⟩
        have := hs4.block (i := 0) (o' := .loop r) rfl LSet.z
        rw [hr0] at this ⊢
        exact this
      | ret =>
        obtain ⟨I3, H3, hs4, hZ4⟩ := hq3
        exact ⟨_, _, run_endRound (some .ret) (hs4.own _ (.head _)), I3, _, hs4.block (i := 0) rfl LSet.z, .inr ⟨rfl, _, H3, rfl, hZ4⟩⟩
      | exit id =>
        obtain ⟨I3, H3, hs4, hZ4⟩ := hq3
        exact ⟨_, _, run_endRound (some (.exit id)) (hs4.own _ (.head _)), I3, _, hs4.block (i := 0) rfl LSet.z, .inr ⟨rfl, _, H3, rfl, hZ4⟩⟩
      | goto t => exact hq3.elim
      | panic ch => exact hq3.elim
      | outgrown => exact hq3.elim
    | exit id => exact hq.elim
    | goto t => exact hq.elim
    | ret => exact hq.elim
    | panic ch => exact hq.elim
    | outgrown => exact hq.elim
  have hctr := hgen.2 l Y' Z' (fun k I1 I2 H hle ⟨h1, Hk, h2, h3⟩ => ⟨h1.trans hle, Hk, h2, hmono _ _ _ _ hle h3⟩) hYS ((l, .loop r) :: H1) ⟨Le.refl _, H1, rfl, h0⟩
  have hready : Ready I ((l, .loop r) :: H1) ((w.alloc (.deferred (some []))).alloc (.loop r)) := ⟨hst1.sub, fun p hp => hst1.own p (List.mem_append_left _ hp), by
    have := hst1.nodup; rw [List.map_append, List.nodup_append] at this; exact this.1, fun p hp => hst1.dis p (List.mem_append_left _ hp)⟩
  have hent : (Instr.enterLoop fn a.tmps ps.toArray assign body none).run cx.P w = .ok (l, [markOf w.heap.size]) ((w.alloc (.deferred (some []))).alloc (.loop r)) := by
    rw [hl, hr0]; exact run_enterLoop_outer fn a.tmps ps.toArray assign body
  refine ⟨l, [markOf w.heap.size], (w.alloc (.deferred (some []))).alloc (.loop r), ⟨.fn (.func f) cap.toArray, (fst ++ [Value.func (.yield l) #[] #[]]).toArray⟩, (w.alloc (.deferred (some []))).alloc (.loop r), f, (fst ++ [Value.func (.yield l) #[] #[]] ++ cap).toArray, (w.alloc (.deferred (some []))).alloc (.loop r), hent, ?_, fun _ _ => trivial, ?_, fun h => by simp [Fence.wide] at h, callsIn_wide.2 ?_⟩
  · have he : a.eval (.const (.func (.yield l) #[] #[])) = .func (.yield l) #[] #[] := rfl
    simp [resolve, ha.eval hg, Deferred.ofValue, he]
  · have h := run_callFunc hgen.1 (fst ++ [Value.func (.yield l) #[] #[]] ++ cap).toArray ((w.alloc (.deferred (some []))).alloc (.loop r))
    simpa [invoke] using h
  · refine (hctr.2 _ hready).mono ?_
    rintro en w' ⟨I', H', hs', rfl, hYZ⟩
    have hst2 := hst1.call hs'
    have hle := hs'.le
    have ha2 : Has { a with defers := [markOf w.heap.size] ++ a.defers } cx.n e (markOf w.heap.size :: cx.ds) := ⟨ha.size, by simp [ha.defs], ha.get⟩
    rcases hYZ with ⟨_, Hk, rfl, hY⟩ | ⟨c, Hk, rfl, hZ⟩
    · refine ⟨_, _, run_endLoop (hst2.own _ (.head _)) (by rw [hr0]; simp), ?_⟩
      have hs5 := ((hst2.block (i := 0) (o' := .loop { r with state := .exhausted }) rfl LSet.z).sublist (List.sublist_cons_self _ _)).perm (H' := (w.heap.size, .deferred (some [])) :: (Hk ++ R)) List.perm_middle.symm
      have hp : r.pending = none := by rw [hr0]
      rw [hp] at hs5 ⊢
      exact done w.heap.size I' Hk hle hY _ _ ha2 hs5
    · refine ⟨_, _, run_endLoop (hst2.own _ (.head _)) (by simp), ?_⟩
      have hs5 := ((hst2.block (i := 0) (o' := .loop { { r with state := .done, pending := some c } with state := .exhausted }) rfl LSet.z).sublist (List.sublist_cons_self _ _)).perm (H' := (w.heap.size, .deferred (some [])) :: (Hk ++ R)) List.perm_middle.symm
      have hw := left w.heap.size c I' Hk hle hZ _ _ ha2 hs5
      have hF : ({ cx with ds := markOf w.heap.size :: cx.ds } : Cx).F = Fence.wide := Cx.wide hr
      rw [hF] at hw
      exact hw
end

theorem one_blt {t n : Nat} (h : Nat.blt t n = true) : ∀ u ∈ [t], Nat.blt u n = true := fun u hu => by simp at hu; subst hu; exact h
theorem two_blt {t u n : Nat} (h : Nat.blt t n = true) (h2 : Nat.blt u n = true) : ∀ x ∈ [t, u], Nat.blt x n = true := fun x hx => by
  simp at hx
  rcases hx with rfl | rfl
  · exact h
  · exact h2
theorem seq1 {α : Type} (l : List α) (f : α → Value) : ∀ args ∈ l.map (fun x => [f x]), args.length = 1 := fun args h => by
  obtain ⟨x, _, rfl⟩ := List.mem_map.1 h; rfl
theorem seq1_at {α : Type} {l : List α} {f : α → Value} {k : Nat} {args : List Value} (h : (l.map (fun x => [f x]))[k]? = some args) : ∃ x, l[k]? = some x ∧ args = [f x] := by
  rw [List.getElem?_map] at h
  cases hl : l[k]? with
  | none => rw [hl] at h; cases h
  | some x => rw [hl] at h; cases h; exact ⟨x, rfl, rfl⟩
/-- What a call leaves behind is new, or was handed over. -/
theorem Ej.isNew {cx : Cx} {Q : Qt} {x : Exit} {e : Env} {I : Heap} {H : HL} (hD : cx.D = []) (k : (∀ p ∈ H, cx.w0.heap.size ≤ p.1) → Ej cx Q x e I H) : Ej cx Q x e I H := fun a w ha hs => k (fun p hp => by
  have := hs.new p hp
  rw [hD] at this
  exact this.resolve_left (by simp)) a w ha hs
theorem Cj.isNew {cx : Cx} {Q : Qt} {c : Code} {e : Env} {I : Heap} {H : HL} (hD : cx.D = []) (k : (∀ p ∈ H, cx.w0.heap.size ≤ p.1) → Cj cx Q c e I H) : Cj cx Q c e I H := fun a w ha hs => k (fun p hp => by
  have := hs.new p hp
  rw [hD] at this
  exact this.resolve_left (by simp)) a w ha hs
theorem J.isNew {cx : Cx} {Q : Qt} {ops : Array Oper} {r : List Oper} {e : Env} {I : Heap} {H : HL} (hD : cx.D = []) (k : (∀ p ∈ H, cx.w0.heap.size ≤ p.1) → J cx Q ops r e I H) : J cx Q ops r e I H := fun a w ha hs => k (fun p hp => by
  have := hs.new p hp
  rw [hD] at this
  exact this.resolve_left (by simp)) a w ha hs
theorem gOk.base {b0 b1 sz n : Nat} {xs : List Value} {g : Gs} {T : TypeId} (h : gOk b0 sz n xs g) (hn : ∀ p ∈ gH T xs g, b1 ≤ p.1) : gOk b1 sz n xs g := by
  cases g with
  | none => exact h
  | some q => exact ⟨hn _ (.head _), h.2⟩
/-! ### Functions that hold one -/
theorem Ctr.of_bodyM {P : Program} {f : FuncId} {fn : Func} {c : Code} {args : List Value} {I : Heap} {H : HL} {post : Ending → Heap → HL → Prop} (hf : P.funcs[f]? = some fn) (hb : fn.body = some c) (hname : fn.name ≠ "runtime.NumGoroutine")
    (hn : args.length ≤ fn.ntmps)
    (h : ∀ w0, Ready I H w0 → Cj ⟨P, fn.ntmps, w0, H.map (·.1), I, [], none⟩ (bodyPostM Fence.wide 0 P fn (RR w0 (H.map (·.1)) I post)) c (argsEnv 0 args) I H) : Ctr P f args I H post := by
  refine ⟨⟨fn, hf, hname, by simp [hb]⟩, fun w hw => ?_⟩
  refine (callsIn_wide (n := 0)).1 (callsIn_of_wp_marks hf hb trivial ?_)
  exact h w hw _ _ (Has.start args fn.ntmps hn) (St.start w I H hw.1 hw.2.1 hw.2.2.1 hw.2.2.2)
def LvJ (cx : Cx) (fn : Func) (post : Ending → Heap → HL → Prop) (ds : List Deferred) (e : Env) (I : Heap) (H : HL) : Prop :=
  ∀ a w, Has a cx.n e cx.ds → St cx.w0 cx.D cx.I0 I H w → LeavesInM Fence.wide 0 cx.P fn a.tmps (RR cx.w0 cx.D cx.I0 post) ds .returning w
section
variable {cx : Cx} {fn : Func} {post : Ending → Heap → HL → Prop} {e : Env} {I : Heap} {H H' : HL} {ds : List Deferred}
theorem Ej.leaveM {x : Exit} (hx : x = .ret ∨ x = .normal) (h : LvJ cx fn post cx.ds e I H) : Ej cx (bodyPostM Fence.wide 0 cx.P fn (RR cx.w0 cx.D cx.I0 post)) x e I H := by
  intro a w ha hs
  have := h a w ha hs
  rw [← ha.defs] at this
  rcases hx with rfl | rfl
  · exact this
  · exact this
theorem LvJ.mark {b : Nat} (i : Nat) (hH : H[i]? = some (b, .deferred (some []))) (hH' : LSet H i (b, .deferred none) H') (h : LvJ cx fn post ds e I H') : LvJ cx fn post (markOf b :: ds) e I H :=
  fun a _ ha hs => ⟨by simp, .inl ⟨b, _, rfl, run_takeDeferred (hs.own _ (List.mem_of_getElem? hH)), h a _ ha (hs.block hH hH')⟩⟩
theorem LvJ.keep (hk : Keeps H' H) (h : LvJ cx fn post ds e I H') : LvJ cx fn post ds e I H := fun a w ha hs => h a w ha (hs.sublist hk)
theorem LvJ.ret0 (hr : fn.results = #[]) (hp : post (.returned (.tuple #[])) I H) : LvJ cx fn post [] e I H :=
  fun _ _ _ hs => ⟨_, results_none hr _ _ _, I, H, hs, hp⟩
theorem LvJ.ret1 {t : Nat} {v : Value} (hr : fn.results = #[.tmp t]) (hv : eg e t = some v) (hp : post (.returned v) I H) : LvJ cx fn post [] e I H := by
  intro a w ha hs
  refine ⟨v, ?_, I, H, hs, hp⟩
  rw [results_tmp hr]
  have := ha.get t v hv
  simp [this]
theorem LvJ.ret2 {t u : Nat} {v x : Value} (hr : fn.results = #[.tmp t, .tmp u]) (hv : eg e t = some v) (hx : eg e u = some x) (hp : post (.returned (.tuple #[v, x])) I H) : LvJ cx fn post [] e I H := by
  intro a w ha hs
  refine ⟨_, ?_, I, H, hs, hp⟩
  rw [results_tmp2 hr]
  have h1 := ha.get t v hv
  have h2 := ha.get u x hx
  simp [h1, h2]
end
end Go.Sx
