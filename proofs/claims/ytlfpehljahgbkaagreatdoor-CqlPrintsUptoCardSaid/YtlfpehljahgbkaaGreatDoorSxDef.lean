/-
  Deferred calls and recover. Own text. Conditions: none.
-/
import Derived.Test.YtlfpehljahgbkaaGreatDoorSxMap
import Derived.Recover
namespace Go.Sx
open Go
/-- A deferred call: what it leaves, and in which mode its caller's frame goes on. -/
def CtrD (P : Program) (f : FuncId) (args : List Value) (u : FrameMode) (I : Heap) (H : HL) (post : FrameMode → Heap → HL → Prop) : Prop :=
  Enters P f ∧ ∀ w, Ready I H w → CallsD P f args.toArray u w fun e u' w' => (∃ v, e = .returned v) ∧ ∃ I' H', St w (H.map (·.1)) I I' H' w' ∧ post u' I' H'
theorem Ctr.of_bodyD {P : Program} {f : FuncId} {fn : Func} {c : Code} {args : List Value} {I : Heap} {H : HL} {post : Ending → Heap → HL → Prop} (hf : P.funcs[f]? = some fn) (hb : fn.body = some c) (hname : fn.name ≠ "runtime.NumGoroutine")
    (hn : args.length ≤ fn.ntmps)
    (h : ∀ w0, Ready I H w0 → Cj ⟨P, fn.ntmps, w0, H.map (·.1), I, []⟩ (bodyPostD P fn (RR w0 (H.map (·.1)) I post)) c (argsEnv 0 args) I H) : Ctr P f args I H post := by
  refine ⟨⟨fn, hf, hname, by simp [hb]⟩, fun w hw => ?_⟩
  refine calls_of_wp_defers hf hb ?_
  exact h w hw _ _ (Has.start args fn.ntmps hn) (St.start w I H hw.1 hw.2.1 hw.2.2.1 hw.2.2.2)
section
variable {cx : Cx} {Q : Qt} {e : Env} {I : Heap} {H : HL} {o : Oper} {C : Ct}
theorem J.defer {ops : Array Oper} {l : List Oper} {f : Nat} {fo : Operand} {xs : List Operand} {ts : Array TypeId} {fst cap vs : List Value} (hg : o.guard = none) (ho : o.op = .defer ⟨.value fo, xs.toArray, ts⟩) (hd : o.dst = none)
    (hf : ev e fo = some (.func (.func f) fst.toArray cap.toArray)) (hx : evs e xs = some vs)
    (k : J { cx with ds := ⟨.fn (.func f) cap.toArray, (fst ++ vs).toArray⟩ :: cx.ds } Q ops l e I H) : J cx Q ops (o :: l) e I H := by
  intro a w ha hs
  refine wpList_plain hg fun K hK => ?_
  unfold Oper.wp
  have hr : (execOp a.eval o).run cx.P w = .ok (.defer ⟨.fn (.func f) cap.toArray, (fst ++ vs).toArray⟩) w := by
    have hxs : xs.toArray.map a.eval = vs.toArray := by rw [List.map_toArray, ha.evals hx]
    simp [execOp, ho, resolve, hxs, ha.eval hf, Deferred.ofValue]
  rw [hr]
  simp only [Oper.upon, hd]
  exact hK _ _ (k _ _ ⟨ha.size, by simp [Act.put, ha.defs], fun t v h => ha.get t v h⟩ hs)
/-- The results, read behind the deferred calls. -/
def ResJ (cx : Cx) (fn : Func) (post : Ending → Heap → HL → Prop) (e : Env) (I : Heap) (H : HL) : Prop :=
  ∀ a w, Has a cx.n e cx.ds → St cx.w0 cx.D cx.I0 I H w → ∃ v, (results fn a.tmps).run cx.P w = .ok v w ∧ RR cx.w0 cx.D cx.I0 post (.returned v) w
theorem leaves_one {P : Program} {fn : Func} {tmps : Array Value} {R : Ending → World → Prop} {f : Nat} {cap vs : List Value} {u : FrameMode} {w w0 : World} {D : List Nat} {I0 : Heap} {H1 R1 : HL} {post : FrameMode → Heap → HL → Prop} (hu : u ≠ .run)
    (hs : CtrD P f (vs ++ cap) u I H1 post) (hst : St w0 D I0 I (H1 ++ R1) w) {ds : List Deferred}
    (k : ∀ u' I' H1' w', Le I I' → post u' I' H1' → St w0 D I0 I' (H1' ++ R1) w' → Leaves P fn tmps R ds (settle u') w') :
    Leaves P fn tmps R (⟨.fn (.func f) cap.toArray, vs.toArray⟩ :: ds) u w := by
  refine leaves_cons (f := f) (args := (vs ++ cap).toArray) hu (by have h := run_callFunc hs.1 (vs ++ cap).toArray w; simpa [invoke] using h) ?_
  have hready : Ready I H1 w := ⟨hst.sub, fun p hp => hst.own p (List.mem_append_left _ hp), by
    have := hst.nodup; rw [List.map_append, List.nodup_append] at this; exact this.1, fun p hp => hst.dis p (List.mem_append_left _ hp)⟩
  refine (hs.2 w hready).mono ?_
  rintro en u' w' ⟨⟨v, rfl⟩, I', H1', hs', hp⟩
  exact k u' I' H1' w' hs'.le hp (hst.call hs')
/-- The end of a function with one deferred call. -/
theorem Ej.leave {fn : Func} {post : Ending → Heap → HL → Prop} {x : Exit} {u : FrameMode} {H1 R1 : HL} {f : Nat} {cap vs : List Value} {post1 : FrameMode → Heap → HL → Prop}
    (hx : (x = .ret ∧ u = .returning) ∨ (x = .normal ∧ u = .returning) ∨ ∃ ch, x = .panic ch ∧ u = .panicking ch) (hds : cx.ds = [⟨.fn (.func f) cap.toArray, vs.toArray⟩]) (hs : CtrD cx.P f (vs ++ cap) u I H1 post1)
    (k : ∀ u' I' H1', Le I I' → post1 u' I' H1' → settle u' = .returning ∧ ResJ cx fn post e I' (H1' ++ R1)) :
    Ej cx (bodyPostD cx.P fn (RR cx.w0 cx.D cx.I0 post)) x e I (H1 ++ R1) := by
  intro a w ha hst
  have key : u ≠ .run → Leaves cx.P fn a.tmps (RR cx.w0 cx.D cx.I0 post) a.defers u w := fun hu => by
    rw [ha.defs, hds]
    refine leaves_one hu hs hst fun u' I' H1' w' hle hp hs' => ?_
    obtain ⟨h1, h2⟩ := k u' I' H1' hle hp
    rw [h1]
    exact h2 a w' ha hs'
  rcases hx with ⟨rfl, rfl⟩ | ⟨rfl, rfl⟩ | ⟨ch, rfl, rfl⟩
  · exact key (by simp)
  · exact key (by simp)
  · exact key (by simp)
theorem ResJ.cell3 {fn : Func} {post : Ending → Heap → HL → Prop} {H' : HL} {t t2 t3 T T2 T3 b b2 b3 n : Nat} {x y : Value} {cs : List Value} {ty ty2 ty3 : TypeId} {fr fr2 fr3 : Nat × Nat} (hk : Keeps H' H) (hr : fn.results = #[.cell t T, .cell t2 T2, .cell t3 T3])
    (hv : eg e t = some (ptr b 0)) (hv2 : eg e t2 = some (ptr b2 0)) (hv3 : eg e t3 = some (ptr b3 0)) (hb : Blk (SS I H) b (.cells cs.toArray ty fr)) (hb2 : Blk (SS I H) b2 (.cells #[x] ty2 fr2)) (hb3 : Blk (SS I H) b3 (.cells #[y] ty3 fr3))
    (ha0 : ∀ w, (isAgg T).run cx.P w = .ok true w) (ha2 : ∀ w, (isAgg T2).run cx.P w = .ok false w) (ha3 : ∀ w, (isAgg T3).run cx.P w = .ok false w) (hsz : ∀ w, (sizeOf T).run cx.P w = .ok n w) (hn : cs.length = n) (hp : post (.returned (.tuple #[.agg cs.toArray, x, y])) I H') :
    ResJ cx fn post e I H := by
  intro a w ha hs
  have h1 := ha.get t _ hv
  have h3 := ha.get t2 _ hv2
  have h4 := ha.get t3 _ hv3
  have hc : ∀ j v, cs[j]? = some v → w.cell? ((⟨b, 0, none⟩ : Addr).add j) = some v := fun j v hj => by
    rw [Addr.add_lit]; exact cell_of_heap (hb w hs.ss) (by simpa using hj)
  have h2 := run_loadCells_list (P := cx.P) (w := w) ⟨b, 0, none⟩ cs hc
  rw [hn] at h2
  have c2 : w.cell? ⟨b2, 0, none⟩ = some x := cell_of_heap (cs := [x]) (hb2 w hs.ss) rfl
  have c3 : w.cell? ⟨b3, 0, none⟩ = some y := cell_of_heap (cs := [y]) (hb3 w hs.ss) rfl
  refine ⟨.tuple #[.agg cs.toArray, x, y], ?_, I, H', hs.sublist hk, hp⟩
  simp [results, hr, h1, h3, h4, asAddr, loadVar, ha0, ha2, ha3, hsz, h2, c2, c3]
theorem wpS_recover {P : Program} {id : Nat} {o1 o2 : Oper} {t1 t2 : Nat} {Q : Exit → Act → List Frame → World → Prop} {a : Act} {cs cs' : List Frame} {w : World} {v : Value} {ty : Array TypeId} (ho1 : o1.op = .call ⟨.builtin .recover, #[], ty⟩) (hg1 : o1.guard = none) (hd1 : o1.dst = some t1) (ho2 : o2.op = .assign (.tmp t1)) (hg2 : o2.guard = none) (hd2 : o2.dst = some t2)
    (ht1 : t1 < a.tmps.size) (hrec : recoverD cs = some (v, cs') ∨ (recoverD cs = none ∧ v = .nilIface ∧ cs' = cs)) (k : Q .normal ((a.put (some t1) v).put (some t2) v) cs' w) : (Code.region id #[o1, o2] false).wpS P Q a cs w := by
  refine wpS_region ?_
  have hl : List.range (#[o1, o2] : Array Oper).size = [0, 1] := rfl
  rw [hl]
  have hr1 : (execOp a.eval o1).run P w = .ok .recover w := by simp [execOp, ho1, resolve, invoke, builtin]
  have he : (a.put (some t1) v).eval (.tmp t1) = v := by simp [Act.eval, Act.put, ht1]
  have hr2 : ∀ c, (execOp (a.put (some t1) v).eval o2).run P c = .ok (.value v) c := fun c => by simp only [execOp, ho2, he, Sem.run_pure]
  rcases hrec with h | ⟨h, rfl, rfl⟩
  · simp [wpOpsS, Region.wanted, hg1, hg2, hr1, h, hd1, hr2, Oper.upon, hd2, k]
  · simp [wpOpsS, Region.wanted, hg1, hg2, hr1, h, hd1, hr2, Oper.upon, hd2, k]
theorem CtrD.recover {P : Program} {f : FuncId} {fn : Func} {rest : Code} {args : List Value} {H : HL} {post : FrameMode → Heap → HL → Prop} {id : Nat} {o1 o2 : Oper} {t1 t2 : Nat} {ty : Array TypeId} {u : FrameMode} (v : Value) (u' : FrameMode)
    (hf : P.funcs[f]? = some fn) (hb : fn.body = some (.seq (.region id #[o1, o2] false) rest)) (hname : fn.name ≠ "runtime.NumGoroutine") (hn : args.length ≤ fn.ntmps)
    (ho1 : o1.op = .call ⟨.builtin .recover, #[], ty⟩) (hg1 : o1.guard = none) (hd1 : o1.dst = some t1) (ho2 : o2.op = .assign (.tmp t1)) (hg2 : o2.guard = none) (hd2 : o2.dst = some t2) (ht1 : Nat.blt t1 fn.ntmps = true) (ht2 : Nat.blt t2 fn.ntmps = true)
    (hrec : ∀ (c₀ : Frame) (cs : List Frame), c₀.mode = u → recoverD (c₀ :: cs) = some (v, { c₀ with mode := u' } :: cs) ∨ (recoverD (c₀ :: cs) = none ∧ v = .nilIface ∧ u' = u))
    (h : ∀ w0, Ready I H w0 → Cj ⟨P, fn.ntmps, w0, H.map (·.1), I, []⟩ (bodyPost P fn (RR w0 (H.map (·.1)) I fun e I' H' => (∃ x, e = .returned x) ∧ post u' I' H')) rest ((t2, v) :: (t1, v) :: argsEnv 0 args) I H) :
    CtrD P f args u I H post := by
  refine ⟨⟨fn, hf, hname, by simp [hb]⟩, fun w hw => ?_⟩
  refine callsD_of_wpS hf hb fun c₀ cs hc => ?_
  have hst := St.start w I H hw.1 hw.2.1 hw.2.2.1 hw.2.2.2
  have ha := Has.start args fn.ntmps hn
  have ha2 := (ha.put (v := v) ht1).put (v := v) ht2
  have hsz := ha.size
  have ht1' : t1 < fn.ntmps := by simpa [Nat.blt_eq] using ht1
  refine wpS_seq ?_
  refine wpS_recover ho1 hg1 hd1 ho2 hg2 hd2 (by rw [hsz]; exact ht1') (v := v) (cs' := { c₀ with mode := u' } :: cs) ?_ ?_
  · rcases hrec c₀ cs hc with h | ⟨h1, h2, h3⟩
    · exact .inl h
    · exact .inr ⟨h1, h2, by rw [h3, ← hc]⟩
  · show rest.wpS P (bodyPostS P fn c₀ cs _) _ ({ c₀ with mode := u' } :: cs) w
    refine wpS_of_wp ?_
    refine Code.wp_mono (fun x a w' hq => ?_) (h w hw _ _ ha2 hst)
    cases x with
    | normal => obtain ⟨h1, y, h2, I', H', h3, h4, h5⟩ := hq; exact ⟨h1, u', rfl, y, h2, ⟨y, rfl⟩, I', H', h3, h5⟩
    | ret => obtain ⟨h1, y, h2, I', H', h3, h4, h5⟩ := hq; exact ⟨h1, u', rfl, y, h2, ⟨y, rfl⟩, I', H', h3, h5⟩
    | panic ch => obtain ⟨h1, I', H', h3, ⟨x, h4⟩, h5⟩ := hq; cases h4
    | exit id => exact hq.elim
    | goto l => exact hq.elim
    | outgrown => obtain ⟨I', H', h3, ⟨x, h4⟩, h5⟩ := hq; cases h4
theorem run_neqNil {P : Program} {w : World} {T t : TypeId} {u : Value} {ms : Array (String × TypeId)} (hT : P.underlying T = some (.interface ms)) : (binOp .neq T (.iface t u) .nilIface).run P w = .ok (.bool true) w ∧ (binOp .neq T .nilIface .nilIface).run P w = .ok (.bool false) w
    ∧ (binOp .eql T (.iface t u) .nilIface).run P w = .ok (.bool false) w ∧ (binOp .eql T .nilIface .nilIface).run P w = .ok (.bool true) w := by
  have h1 : ∀ d : Nat, (Op.equalIn (d + 1) T (.iface t u) .nilIface).run P w = .ok false w := fun d => by simp [Op.equalIn, run_underlying hT]
  have h2 : ∀ d : Nat, (Op.equalIn (d + 1) T .nilIface .nilIface).run P w = .ok true w := fun d => by simp [Op.equalIn, run_underlying hT]
  simp only [binOp]
  simp [Op.equal, Op.maxDepth, h1 9999, h2 9999]
theorem yl_neqNil1 {S : World → Prop} {x y : Operand} {T U t : Nat} {u : Value} {ms : Array (String × TypeId)} (ho : o.op = .binOp .neq T x y U) (hx : ev e x = some (.iface t u)) (hy : ev e y = some .nilIface) (hT : cx.P.underlying T = some (.interface ms)) : Yld cx o e S (.bool true) := by
  intro a w ha _
  have hb := (run_neqNil (P := cx.P) (w := w) (t := t) (u := u) hT).1
  have hg : eqGuard .neq T x y (.iface t u) .nilIface = pure () := rfl
  simp [execOp, ho, ha.eval hx, ha.eval hy, hb, hg]
theorem yl_neqNil0 {S : World → Prop} {x : Operand} {v0 : Value} {T U : Nat} {ms : Array (String × TypeId)} (ho : o.op = .binOp .neq T x (.const v0) U) (hx : ev e x = some .nilIface) (hy : v0 = .nilIface) (hT : cx.P.underlying T = some (.interface ms)) : Yld cx o e S (.bool false) := by
  intro a w ha _
  subst hy
  have hb := (run_neqNil (P := cx.P) (w := w) (t := 0) (u := undef) hT).2.1
  have hg : eqGuard .neq T x (.const .nilIface) .nilIface .nilIface = pure () := by unfold eqGuard; simp
  have he : a.eval (.const .nilIface) = .nilIface := rfl
  simp [execOp, ho, ha.eval hx, he, hb, hg]
theorem yl_typeAssertHit {S : World → Prop} {x : Operand} {T U : Nat} {v : Value} {d : TypeDesc} (ho : o.op = .typeAssert x T U true) (hx : ev e x = some (.iface U v)) (hu : cx.P.underlying U = some d) (hn : (match d with | .interface _ => false | _ => true) = true) : Yld cx o e S (.tuple #[v, .bool true]) := by
  intro a w ha _
  have hr : (Instr.typeAssert (.iface U v) T U true).run cx.P w = .ok (.tuple #[v, .bool true]) w := by
    unfold Instr.typeAssert
    simp only [Sem.run_bind, run_underlying hu, Result.andThen_ok]
    cases d <;> simp_all
  simp [execOp, ho, ha.eval hx, hr]
end
end Go.Sx
