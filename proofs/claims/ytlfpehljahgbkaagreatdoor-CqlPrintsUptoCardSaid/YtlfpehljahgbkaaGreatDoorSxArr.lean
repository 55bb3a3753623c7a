/-
  Loops that are unrolled; arrays, made slices, copies, slices of slices; calls through an interface; reads of a contract. Own text. Conditions: none.
-/
import Derived.Test.YtlfpehljahgbkaaGreatDoorSxDef
import Derived.Laws.MakeOwn
import Derived.LoopN
namespace Go.Sx
open Go
/-! ### Rounds of a loop, one by one -/
def Rj (cx : Cx) (Q : Qt) (c : Code) (n : Nat) (e : Env) (I : Heap) (H : HL) : Prop := ∀ a w, Has a cx.n e cx.ds → St cx.w0 cx.D cx.I0 I H w → Code.rounds cx.P c Q n a w
section
variable {cx : Cx} {Q : Qt} {e : Env} {I : Heap} {H : HL} {o : Oper} {C : Ct} {S : World → Prop}
theorem Cj.rounds (n : Nat) {c : Code} (h : Rj cx Q c n e I H) : Cj cx Q (.loop c) e I H := fun a w ha hs => wp_loop_rounds n (h a w ha hs)
theorem Rj.succ {c : Code} {n : Nat} (h : Cj cx (Exit.then (Code.rounds cx.P c Q n) Q) c e I H) : Rj cx Q c (n + 1) e I H := fun a w ha hs => h a w ha hs
theorem Ej.rounds {c : Code} {n : Nat} (h : Rj cx Q c n e I H) : Ej cx (Exit.then (Code.rounds cx.P c Q n) Q) .normal e I H := fun a w ha hs => h a w ha hs
/-! ### Arrays and slices -/
theorem yl_indexArr {x y : Operand} {T E b off n sz off' : Nat} {k : IntKind} {i : Int} (ho : o.op = .indexAddr T x y) (hx : ev e x = some (ptr b off)) (hy : ev e y = some (.int k i))
    (hu : cx.P.underlying T = some (.array n E)) (hsz : ∀ w, (sizeOf E).run cx.P w = .ok sz w) (h0 : 0 ≤ i) (h1 : i < n) (hoff : off + i.toNat * sz = off') : Yld cx o e S (ptr b off') := by
  intro a w ha _
  subst hoff
  simp [execOp, ho, ha.eval hx, ha.eval hy, Instr.indexAt, Instr.sureAddr, asIntOf, run_underlying hu, h0, h1, hsz, Addr.add_lit]
theorem run_sliceNil {P : Program} {w : World} {T E n c : Nat} (p : Option Addr) (hT : P.underlying T = some (.slice E)) : (binOp .neq T (.slice p n c) (.slice none 0 0)).run P w = .ok (.bool p.isSome) w ∧ (binOp .eql T (.slice p n c) (.slice none 0 0)).run P w = .ok (.bool p.isNone) w := by
  have h1 : ∀ d : Nat, (Op.equalIn (d + 1) T (.slice p n c) (.slice none 0 0)).run P w = .ok p.isNone w := fun d => by cases p <;> simp [Op.equalIn, run_underlying hT]
  simp only [binOp]
  cases p <;> simp [Op.equal, Op.maxDepth, h1 9999]
theorem yl_neqSlice {x y : Operand} {T U E n c : Nat} (p : Option Addr) (ho : o.op = .binOp .neq T x y U) (hx : ev e x = some (.slice p n c)) (hy : ev e y = some (.slice none 0 0)) (hT : cx.P.underlying T = some (.slice E)) : Yld cx o e S (.bool p.isSome) := by
  intro a w ha _
  have hb := (run_sliceNil (P := cx.P) (w := w) (n := n) (c := c) p hT).1
  have hg : eqGuard .neq T x y (.slice p n c) (.slice none 0 0) = pure () := rfl
  simp [execOp, ho, ha.eval hx, ha.eval hy, hb, hg]
theorem yl_eqlSlice {x y : Operand} {T U E n c : Nat} (p : Option Addr) (ho : o.op = .binOp .eql T x y U) (hx : ev e x = some (.slice p n c)) (hy : ev e y = some (.slice none 0 0)) (hT : cx.P.underlying T = some (.slice E)) : Yld cx o e S (.bool p.isNone) := by
  intro a w ha _
  have hb := (run_sliceNil (P := cx.P) (w := w) (n := n) (c := c) p hT).2
  have hg : eqGuard .eql T x y (.slice p n c) (.slice none 0 0) = pure () := rfl
  simp [execOp, ho, ha.eval hx, ha.eval hy, hb, hg]
theorem made1 (z : Value) (c : Nat) : madeCells #[z] c = (List.replicate c z).toArray := by
  apply Array.ext_getElem?
  intro i
  unfold madeCells
  by_cases h : i < c
  · simp [h, Nat.mod_one]
  · simp [h]
theorem op_makeSlice {T E d by1 n c : Nat} {x y : Operand} {kl kc : IntKind} {z : Value} (ho : o.op = .makeSlice T x y) (hd : o.dst = some d) (hn : Nat.blt d cx.n = true) (hx : ev e x = some (.int kl (n : Int))) (hy : ev e y = some (.int kc (c : Int)))
    (hu : cx.P.underlying T = some (.slice E)) (hi0 : (cx.P.info? E).map (fun i => (i.bytes, i.size, i.zero)) = some (by1, 1, some z)) (hzc : z.cells = #[z]) (hnc : n ≤ c) (hb : by1 * c ≤ 281474976710656) (h63 : c ≤ 9223372036854775807)
    (k : ∀ b, cx.w0.heap.size ≤ b → C ((d, .slice (some ⟨b, 0, none⟩) n c) :: e) I ((b, cel E (List.replicate c z)) :: H)) : OpJ cx Q o e I H C := by
  intro K hK a w ha hs
  unfold Oper.wp
  obtain ⟨i, hi, hii⟩ := Option.map_eq_some_iff.1 hi0
  simp only [Prod.mk.injEq] at hii
  obtain ⟨h1, h2, h3⟩ := hii
  have hbb : (i.bytes : Int) * (c : Int) ≤ 281474976710656 := by
    have h : ((by1 * c : Nat) : Int) ≤ 281474976710656 := by omega
    rw [h1]
    rwa [Int.natCast_mul] at h
  have hr := run_make (P := cx.P) w T E i z hu hi h3 kl kc n c (by omega) (by omega) hbb (by omega)
  have : (execOp a.eval o).run cx.P w = .ok (.value (.slice (some ⟨w.heap.size, 0, none⟩) n c)) (w.alloc (cel E (List.replicate c z))) := by
    simp [execOp, ho, ha.eval hx, ha.eval hy, hr, h2, hzc, made1, cel]
  rw [this]
  simp only [Oper.upon, hd]
  exact hK _ _ _ (k _ hs.size) _ _ (ha.put hn) (hs.alloc _)
/-- The rest of a slice, from j on. -/
theorem yl_sliceFrom {x y : Operand} {T E b off n c sz j : Nat} {kl : IntKind} (ho : o.op = .slice T x (some y) none none) (hx : ev e x = some (.slice (some ⟨b, off, none⟩) n c)) (hy : ev e y = some (.int kl (j : Int))) (hu : cx.P.underlying T = some (.slice E)) (hsz : ∀ w, (sizeOf E).run cx.P w = .ok sz w) (hj : j ≤ n) (hc : j < c) :
    Yld cx o e S (.slice (some ⟨b, off + j * sz, none⟩) (n - j) (c - j)) := by
  intro a w ha _
  have hne : ¬ c = j := by omega
  have h1 : (j : Int) ≤ n := by omega
  simp [execOp, ho, ha.eval hx, ha.eval hy, Instr.sliceAt, Instr.slice, run_underlying hu, Instr.sliceBounds, run_sliceBound, h1, hsz, hne, Addr.add_lit]
/-- Copied into a block of our own. -/
theorem op_copy {x y : Operand} {T U E d b off n c m : Nat} {yv : Value} (i : Nat) {cs cs' ys : List Value} {H' : HL} (ho : o.op = .call ⟨.builtin .copy, #[x, y], #[T, U]⟩) (hd : o.dst = some d) (hn : Nat.blt d cx.n = true) (hx : ev e x = some (.slice (some ⟨b, off, none⟩) n c)) (hy : ev e y = some yv)
    (hu : cx.P.underlying T = some (.slice E)) (hsz : ∀ w, (sizeOf E).run cx.P w = .ok 1 w) (hs0 : Src cx.P I H 1 m yv ys) (hmn : m ≤ n) (hH : H[i]? = some (b, cel E cs)) (hcs : LSpl cs off ys cs') (hH' : LSet H i (b, cel E cs') H')
    (k : C ((d, i64 m) :: e) I H') : OpJ cx Q o e I H C := by
  intro K hK a w ha hs
  unfold Oper.wp
  obtain ⟨hs1, hs2, hs3, hs4⟩ := hs0
  have hb := hs.own _ (List.mem_of_getElem? hH)
  have hst := run_storeCells (P := cx.P) (t := E) ys 0 w cs hb (.inl rfl) hcs.1 (fun u hu => (List.all_eq_true.1 hs2) u hu) cs' hcs
  have hmin : Nat.min m n = m := Nat.min_eq_left hmn
  have : (execOp a.eval o).run cx.P w = .ok (.value (i64 m)) (World.block w b (cel E cs')) := by
    simp [execOp, ho, resolve, invoke, builtin, ha.eval hx, ha.eval hy, Builtin.copy_, run_underlying hu, hs3 w hs.ss, hmin, hsz, hs4 w hs.ss, hst, goInt, cel]
  rw [this]
  simp only [Oper.upon, hd]
  exact hK _ _ _ k _ _ (ha.put hn) (hs.block hH hH')
/-! ### Calls through an interface, of a method of a pointer's -/
theorem op_invoke {H1 R : HL} {d f T te : Nat} {fo : Operand} {nm : String} {xs : List Operand} {ts : Array TypeId} {vs : List Value} {q : Option Addr} {post : Ending → Heap → HL → Prop}
    (ho : o.op = .call ⟨.invoke fo nm, xs.toArray, ts⟩) (hd : o.dst = some d) (hn : Nat.blt d cx.n = true) (hf : ev e fo = some (.iface T (.pointer q))) (hx : evs e xs = some vs)
    (hm : ((cx.P.info? T).bind fun i => i.methods.find? (·.name == nm)).map (fun m => (m.path.isEmpty, m.func)) = some (true, some (f, true))) (hu : cx.P.underlying T = some (.pointer te))
    (hs : Ctr cx.P f (.pointer q :: vs) I H1 post)
    (k : ∀ v I' H1', Le I I' → post (.returned v) I' H1' → C ((d, v) :: e) I' (H1' ++ R))
    (kp : ∀ ch I' H1', Le I I' → post (.panicked ch) I' H1' → Ej cx Q (.panic ch) e I' (H1' ++ R))
    (ko : ∀ I' H1', ¬ post .outgrown I' H1') : OpJ cx Q o e I (H1 ++ R) C := by
  intro K hK a w ha hst
  unfold Oper.wp
  have hr : (execOp a.eval o).run cx.P w = .ok (.enter f (.pointer q :: vs).toArray) w := by
    have hxs : xs.toArray.map a.eval = vs.toArray := by rw [List.map_toArray, ha.evals hx]
    obtain ⟨m, hm1, hm2⟩ := Option.map_eq_some_iff.1 hm
    obtain ⟨i, hi, hfi⟩ := Option.bind_eq_some_iff.1 hm1
    simp only [Prod.mk.injEq] at hm2
    obtain ⟨hp, hmf⟩ := hm2
    have hpl : m.path.toList = [] := by
      have : m.path = #[] := by simpa using hp
      rw [this]
    have hcall := run_callFunc hs.1 (.pointer q :: vs).toArray w
    have hmeth : ∀ n : Nat, (method (n + 1) T (.pointer q) nm).run cx.P w = .ok (f, .pointer q) w := fun n => by
      simp [method, typeInfo, hi, hfi, hpl, follow, hmf, receiverAt, run_underlying hu, Place.get]
    have hmd : ∀ n : Nat, (method (n + Made.depth) T (.pointer q) nm).run cx.P w = .ok (f, .pointer q) w := fun n => hmeth (n + (Made.depth - 1))
    simp only [execOp, ho, resolve, hxs, ha.eval hf, invoke, Sem.run_bind, Sem.run_pure, Result.andThen_ok, callMethod]
    simp [hmd, hcall]
  rw [hr]
  simp only [Oper.upon]
  have hready : Ready I H1 w := ⟨hst.sub, fun p hp => hst.own p (List.mem_append_left _ hp), by
    have := hst.nodup; rw [List.map_append, List.nodup_append] at this; exact this.1, fun p hp => hst.dis p (List.mem_append_left _ hp)⟩
  refine (hs.2 w hready).mono ?_
  rintro en w' ⟨I', H1', hs', hp⟩
  have hle := hs'.le
  have hst' := hst.call hs'
  cases en with
  | returned v =>
    rw [hd]
    exact hK _ _ _ (k v I' H1' hle hp) _ _ (ha.put hn) hst'
  | panicked ch => exact kp ch I' H1' hle hp _ _ ha hst'
  | outgrown => exact (ko _ _ hp).elim
end
/-! ### Contracts out of those that tell the world behind -/
theorem St.set1 {w : World} {I : Heap} {b T off : Nat} {cs : List Value} {v : Value} (hr : Ready I [(b, cel T cs)] w) : St w [b] I I [(b, cel T (cs.set off v))] (w.setCell ⟨b, off, none⟩ v) := by
  have hb : w.heap[b]? = some (cel T cs) := hr.2.1 (b, cel T cs) (.head _)
  have hst : St w [b] I I [(b, cel T cs)] w := St.start w I [(b, cel T cs)] hr.1 hr.2.1 hr.2.2.1 hr.2.2.2
  rw [setCell_block (fr := (0, 0)) hb]
  exact hst.block (i := 0) rfl LSet.z
theorem Ctr.of_set {P : Program} {f : FuncId} {args : List Value} {I : Heap} {b T off : Nat} {cs : List Value} {x y v : Value} (he : Enters P f) (hx : cs[off]? = some x)
    (h : ∀ w, w.cell? ⟨b, off, none⟩ = some x → w.frozen? ⟨b, off, none⟩ = false → Calls P f args.toArray w fun e w' => e = .returned v ∧ w' = w.setCell ⟨b, off, none⟩ y) :
    Ctr P f args I [(b, cel T cs)] (fun e _I' H' => e = .returned v ∧ H' = [(b, cel T (cs.set off y))]) :=
  ⟨he, fun w hr => (h w (cell_of_heap (hr.2.1 _ (.head _)) hx) (by have := hr.2.1 _ (.head _); simp only at this; simp [World.frozen?, this, cel])).mono fun e w' ⟨h1, h2⟩ => ⟨I, _, h2 ▸ St.set1 hr, h1, rfl⟩⟩
theorem Ctr.of_read {P : Program} {f : FuncId} {args : List Value} {I : Heap} {b T off : Nat} {cs : List Value} {x v : Value} (he : Enters P f) (hx : cs[off]? = some x)
    (h : ∀ w, w.cell? ⟨b, off, none⟩ = some x → Calls P f args.toArray w fun e w' => e = .returned v ∧ w' = w) :
    Ctr P f args I [(b, cel T cs)] (fun e _I' H' => e = .returned v ∧ H' = [(b, cel T cs)]) :=
  ⟨he, fun w hr => (h w (cell_of_heap (hr.2.1 _ (.head _)) hx)).mono fun _e _w' ⟨h1, h2⟩ => ⟨I, _, h2 ▸ St.start w I _ hr.1 hr.2.1 hr.2.2.1 hr.2.2.2, h1, rfl⟩⟩
theorem CtrD.of_set {P : Program} {f : FuncId} {args : List Value} {u : FrameMode} {I : Heap} {b T off : Nat} {cs : List Value} {x y v : Value} (he : Enters P f) (hx : cs[off]? = some x)
    (h : ∀ w, w.cell? ⟨b, off, none⟩ = some x → w.frozen? ⟨b, off, none⟩ = false → CallsD P f args.toArray u w fun e u' w' => u' = u ∧ (e = .returned v ∧ (w' = w.setCell ⟨b, off, none⟩ y ∨ w' = w.drew.setCell ⟨b, off, none⟩ y))) :
    CtrD P f args u I [(b, cel T cs)] (fun u' _I' H' => u' = u ∧ H' = [(b, cel T (cs.set off y))]) :=
  ⟨he, fun w hr => (h w (cell_of_heap (hr.2.1 _ (.head _)) hx) (by have := hr.2.1 _ (.head _); simp only at this; simp [World.frozen?, this, cel])).mono fun e u' w' ⟨h0, h1, h2⟩ => ⟨⟨v, h1⟩, I, _, by
    have hs := St.set1 (off := off) (v := y) hr
    rcases h2 with h2 | h2
    · rw [h2]; exact hs
    · rw [h2]; exact hs.drew, h0, rfl⟩⟩
/-! ### A table of 256 slices with a slice behind it -/
def tab (f : Nat → Value) (tr : Value) : List Value := (List.range 256).map f ++ [tr]
theorem tab_len (f : Nat → Value) (tr : Value) : (tab f tr).length = 257 := by simp [tab]
theorem tab_at (f : Nat → Value) (tr : Value) {i : Nat} (h : i < 256) : (tab f tr)[i]? = some (f i) := by
  unfold tab
  rw [List.getElem?_append_left (by simpa using h)]
  simp [h]
theorem tab_tr (f : Nat → Value) (tr : Value) : (tab f tr)[256]? = some tr := by
  unfold tab
  rw [List.getElem?_append_right (by simp)]
  simp
theorem tab_set (f : Nat → Value) (tr v : Value) {i : Nat} (h : i < 256) : (tab f tr).set i v = tab (fun j => if j = i then v else f j) tr := by
  apply List.ext_getElem?
  intro j
  rw [List.getElem?_set]
  rcases Nat.lt_or_ge j 256 with hj | hj
  · rw [tab_at _ _ hj, tab_at _ _ hj]
    by_cases hij : i = j
    · subst hij; simp [tab_len]; omega
    · have : ¬ j = i := fun he => hij he.symm
      simp [hij, this]
  · have hij : ¬ i = j := by omega
    simp only [hij, if_false]
    unfold tab
    rw [List.getElem?_append_right (by simpa using hj), List.getElem?_append_right (by simpa using hj)]
    simp
theorem tab_setTr (f : Nat → Value) (tr v : Value) : (tab f tr).set 256 v = tab f v := by
  unfold tab
  rw [List.set_append_right _ _ (by simp)]
  simp
theorem tab_one {f : Nat → Value} {tr : Value} (hf : ∀ i, (f i).oneCell' = true) (ht : tr.oneCell' = true) : (tab f tr).all Value.oneCell' = true := by
  unfold tab
  simp [hf, ht]
theorem tab_spl (f : Nat → Value) (a v : Value) : LSpl (tab f a) 256 [v] (tab f v) := by
  refine ⟨by simp [tab_len], ?_⟩
  unfold tab
  rw [List.take_append_of_le_length (by simp), List.take_of_length_le (by simp), List.drop_eq_nil_of_le (by simp)]
  simp
theorem LSpl.all {l xs : List Value} (h : l.length = xs.length) : LSpl l 0 xs xs := ⟨by simp [h], by simp [← h]⟩
theorem gV_cells1 (n : Nat) (g : Gs) : (gV n g).cells = #[gV n g] := by cases g <;> rfl
theorem gV_oneC (n : Nat) (g : Gs) : (gV n g).oneCell' = true := by cases g <;> rfl
/-- Bytes in the persistent part. -/
def BytSl (I : Heap) (l : List UInt8) (v : Value) : Prop := ∃ b c sp fr, v = .slice (some ⟨b, 0, none⟩) l.length c ∧ I b = some (.cells (bcs l ++ sp).toArray 5 fr)
theorem BytSl.mono {I I' : Heap} {l : List UInt8} {v : Value} (h : BytSl I l v) (hle : Le I I') : BytSl I' l v := let ⟨b, c, sp, fr, h1, h2⟩ := h; ⟨b, c, sp, fr, h1, hle _ _ h2⟩
section
variable {cx : Cx} {Q : Qt} {e : Env} {I : Heap} {H : HL}
/-- The end of a function with two deferred calls, the later one first. -/
theorem Ej.leave2 {fn : Func} {post : Ending → Heap → HL → Prop} {H1 H2 H3 R1 : HL} {f1 f2 : Nat} {cap1 vs1 cap2 vs2 : List Value} (hds : cx.ds = [⟨.fn (.func f1) cap1.toArray, vs1.toArray⟩, ⟨.fn (.func f2) cap2.toArray, vs2.toArray⟩])
    (h1 : CtrD cx.P f1 (vs1 ++ cap1) .returning I H1 fun u' _I' H' => u' = .returning ∧ H' = H2) (h2 : ∀ I', CtrD cx.P f2 (vs2 ++ cap2) .returning I' H2 fun u' _I'' H' => u' = .returning ∧ H' = H3)
    (k : ∀ I', Le I I' → ResJ cx fn post e I' (H3 ++ R1)) : Ej cx (bodyPostD cx.P fn (RR cx.w0 cx.D cx.I0 post)) .normal e I (H1 ++ R1) := by
  intro a w ha hst
  show Leaves cx.P fn a.tmps (RR cx.w0 cx.D cx.I0 post) a.defers .returning w
  rw [ha.defs, hds]
  refine leaves_one (by simp) h1 hst ?_
  rintro u' I' H1' w' hle ⟨rfl, rfl⟩ hs'
  refine leaves_one (by simp []) (h2 I') hs' ?_
  rintro u2 I2 H2' w2 hle2 ⟨rfl, rfl⟩ hs2
  exact k I2 (hle.trans hle2) a w2 ha hs2
theorem ResJ.none {fn : Func} {post : Ending → Heap → HL → Prop} (hr : fn.results = #[]) (hp : post (.returned (.tuple #[])) I H) : ResJ cx fn post e I H :=
  fun _a _w _ hs => ⟨.tuple #[], results_none hr _ _ _, I, H, hs, hp⟩
end
end Go.Sx
