/-
  Bytes, texts and slices of texts in the walks. Own text. Conditions: none.
-/
import Derived.Test.YtnogdccoekfnoaaGreatDoorSxKeyed
namespace Go.Sx
open Go
theorem u8_eq (c d : UInt8) : ((c.toNat : Int) = (d.toNat : Int)) ↔ c = d := by
  constructor
  · intro h; exact UInt8.toNat_inj.1 (by omega)
  · intro h; subst h; rfl
theorem nb (a n : Nat) : ((a : Int) == (n : Int)) = (a == n) := by rw [Bool.eq_iff_iff, beq_iff_eq, beq_iff_eq]; omega
theorem nb1 (a : Nat) : ((a : Int) == 1) = (a == 1) := nb a 1
theorem u8_is {c d : UInt8} (h : (c.toNat : Int) = (d.toNat : Int)) : c = d := (u8_eq c d).1 h
theorem u8_not {c d : UInt8} (h : ¬ (c.toNat : Int) = (d.toNat : Int)) : c ≠ d := fun e => h ((u8_eq c d).2 e)
theorem cut1 {s : List UInt8} {k : Nat} {c : UInt8} (h : s[k]? = some c) : (s.take (k + 1)).drop k = [c] := by
  obtain ⟨hlt, hg⟩ := List.getElem?_eq_some_iff.1 h
  rw [List.take_succ_eq_append_getElem hlt, hg, List.drop_append, List.drop_eq_nil_of_le (by simp; omega)]
  simp [Nat.min_eq_left (Nat.le_of_lt hlt)]
theorem cut2 {s : List UInt8} {k : Nat} {c d : UInt8} (h : s[k]? = some c) (h2 : s[k + 1]? = some d) : (s.take (k + 2)).drop k = [c, d] := by
  obtain ⟨hlt, hg⟩ := List.getElem?_eq_some_iff.1 h2
  rw [List.take_succ_eq_append_getElem hlt, hg, List.drop_append_of_le_length (by simp; omega), cut1 h]
  rfl
theorem u8_lit (c : UInt8) (n : Nat) (h : n < 256) : ((c.toNat : Int) == (n : Int)) = (c == UInt8.ofNat n) := by
  rw [Bool.eq_iff_iff, beq_iff_eq, beq_iff_eq]
  have : (UInt8.ofNat n).toNat = n := by simp [Nat.mod_eq_of_lt h]
  rw [← UInt8.toNat_inj, this]; omega
/-- A slice of texts in the persistent part. -/
def StrSl (T : TypeId) (I : Heap) (l : List (List UInt8)) (v : Value) : Prop := ∃ b c sp, v = .slice (some ⟨b, 0, none⟩) l.length c ∧ I b = some (cel T (l.map str ++ sp))
theorem StrSl.mono {T : TypeId} {I I' : Heap} {l : List (List UInt8)} {v : Value} (h : StrSl T I l v) (hle : Le I I') : StrSl T I' l v :=
  let ⟨b, c, sp, h1, h2⟩ := h; ⟨b, c, sp, h1, hle _ _ h2⟩
theorem str_get {l : List (List UInt8)} {sp : List Value} {k : Nat} {x : List UInt8} (h : l[k]? = some x) : (l.map str ++ sp)[k]? = some (str x) := by
  obtain ⟨hlt, hg⟩ := List.getElem?_eq_some_iff.1 h
  rw [List.getElem?_append_left (by simpa using hlt)]
  simp [h]
theorem ba_list (l : List UInt8) : (⟨l.toArray⟩ : ByteArray).data.toList = l := by simp
theorem ba_str (b : ByteArray) : (.string b : Value) = str b.data.toList := by simp [str]
theorem i32w {x : Int} (h : -2147483648 ≤ x ∧ x ≤ 2147483647) : IntKind.i32.wrap x = x := by
  simp [IntKind.wrap, IntKind.bits, IntKind.signed]; omega
theorem drop_cons {α : Type} {s : List α} {k : Nat} {c : α} (h : s[k]? = some c) : s.drop k = c :: s.drop (k + 1) := by
  obtain ⟨hlt, hg⟩ := List.getElem?_eq_some_iff.1 h
  rw [List.drop_eq_getElem_cons hlt, hg]
theorem Ej.ret3 {cx : Cx} {fn : Func} {post : Ending → Heap → HL → Prop} {e : Env} {I : Heap} {H : HL} {t u s : Nat} {v x y : Value} (hr : fn.results = #[.tmp t, .tmp u, .tmp s]) (hds : cx.ds = []) (hv : eg e t = some v) (hx : eg e u = some x) (hy : eg e s = some y) (hp : post (.returned (.tuple #[v, x, y])) I H) :
    Ej cx (bodyPost cx.P fn (RR cx.w0 cx.D cx.I0 post)) .ret e I H := by
  intro a w ha hs
  refine ⟨ha.defs.trans hds, _, ?_, I, H, hs, hp⟩
  have h1 := ha.get t v hv
  have h2 := ha.get u x hx
  have h3 := ha.get s y hy
  simp [results, hr, h1, h2, h3]
/-- A contract beside blocks that it does not touch. -/
theorem Ctr.frame {P : Program} {f : FuncId} {args : List Value} {I : Heap} {H : HL} {post : Ending → Heap → HL → Prop} (R : HL) (h : Ctr P f args I H post) : Ctr P f args I (H ++ R) (fun e I' H' => ∃ H1, H' = H1 ++ R ∧ post e I' H1) := by
  refine ⟨h.1, fun w hw => ?_⟩
  have hst := St.start w I (H ++ R) hw.1 hw.2.1 hw.2.2.1 hw.2.2.2
  have hready : Ready I H w := ⟨hst.sub, fun p hp => hst.own p (List.mem_append_left _ hp), by
    have := hst.nodup; rw [List.map_append, List.nodup_append] at this; exact this.1, fun p hp => hst.dis p (List.mem_append_left _ hp)⟩
  refine (h.2 w hready).mono fun e w' ⟨I', H1, hs, hp⟩ => ⟨I', H1 ++ R, hst.call hs, H1, rfl, hp⟩
/-- Blocks that nobody asks for any more. -/
theorem Ctr.drop {P : Program} {f : FuncId} {args : List Value} {I : Heap} {H : HL} {post post' : Ending → Heap → HL → Prop} (h : Ctr P f args I H post) (hp : ∀ e I' H', post e I' H' → ∃ H2, H2.Sublist H' ∧ post' e I' H2) : Ctr P f args I H post' :=
  ⟨h.1, fun w hw => (h.2 w hw).mono fun e _ ⟨I', H', hs, hq⟩ => let ⟨H2, h1, h2⟩ := hp e I' H' hq; ⟨I', H2, hs.sublist h1, h2⟩⟩
/-- A call that is handed no block: what it leaves is new. -/
theorem op_callN {cx : Cx} {Q : Qt} {o : Oper} {e : Env} {I : Heap} {C : Ct} {R : HL} {d f : Nat} {fo : Operand} {xs : List Operand} {ts : Array TypeId} {fst cap vs : List Value} {post : Ending → Heap → HL → Prop}
    (ho : o.op = .call ⟨.value fo, xs.toArray, ts⟩) (hd : o.dst = some d) (hn : Nat.blt d cx.n = true) (hf : ev e fo = some (.func (.func f) fst.toArray cap.toArray)) (hx : evs e xs = some vs)
    (hs : Ctr cx.P f (fst ++ vs ++ cap) I [] post)
    (k : ∀ v I' H1', Le I I' → (∀ p ∈ H1', cx.w0.heap.size ≤ p.1) → post (.returned v) I' H1' → C ((d, v) :: e) I' (H1' ++ R))
    (kp : ∀ ch I' H1', Le I I' → post (.panicked ch) I' H1' → Ej cx Q (.panic ch) e I' (H1' ++ R))
    (ko : ∀ I' H1', ¬ post .outgrown I' H1') : OpJ cx Q o e I R C := by
  intro K hK a w ha hst
  unfold Oper.wp
  have hr : (execOp a.eval o).run cx.P w = .ok (.enter f (fst ++ vs ++ cap).toArray) w := by
    have hxs : xs.toArray.map a.eval = vs.toArray := by
      rw [List.map_toArray, ha.evals hx]
    simp only [execOp, ho, resolve, hxs, ha.eval hf, Deferred.ofValue, invoke, Sem.run_bind, Sem.run_pure, Result.andThen_ok, run_callFunc hs.1]
    simp
  rw [hr]
  simp only [Oper.upon]
  have hready : Ready I [] w := ⟨hst.sub, fun _ hp => absurd hp (List.not_mem_nil), List.nodup_nil, fun _ hp => absurd hp (List.not_mem_nil)⟩
  refine (hs.2 w hready).mono ?_
  rintro en w' ⟨I', H1', hs', hp⟩
  have hle := hs'.le
  have hst' := St.call (H1 := []) (R := R) hst hs'
  have hnew : ∀ p ∈ H1', cx.w0.heap.size ≤ p.1 := fun p hp => Nat.le_trans hst.size ((hs'.new p hp).resolve_left (by simp))
  cases en with
  | returned v =>
    rw [hd]
    exact hK _ _ _ (k v I' H1' hle hnew hp) _ _ (ha.put hn) hst'
  | panicked ch => exact kp ch I' H1' hle hp _ _ ha hst'
  | outgrown => exact (ko _ _ hp).elim
/-- A slice of texts in the persistent part, or nil. -/
def StrS (T : TypeId) (I : Heap) (l : List (List UInt8)) (v : Value) : Prop := (l = [] ∧ v = .slice none 0 0) ∨ ∃ b c sp, v = .slice (some ⟨b, 0, none⟩) l.length c ∧ l.length ≤ c ∧ I b = some (cel T (l.map str ++ sp))
theorem StrS.mono {T : TypeId} {I I' : Heap} {l : List (List UInt8)} {v : Value} (h : StrS T I l v) (hle : Le I I') : StrS T I' l v := h.imp id fun ⟨b, c, sp, h1, h2, h3⟩ => ⟨b, c, sp, h1, h2, hle _ _ h3⟩
theorem StrS.some {T : TypeId} {I : Heap} {l : List (List UInt8)} {v : Value} (h : StrS T I l v) (hl : l ≠ []) : StrSl T I l v := let ⟨b, c, sp, h1, _, h3⟩ := h.resolve_left fun h => hl h.1; ⟨b, c, sp, h1, h3⟩
section
variable {cx : Cx} {Q : Qt} {e : Env} {I : Heap} {R : HL} {T : TypeId} {l : List (List UInt8)} {n base : Nat} {g : Gs}
theorem gS_none (hg : gOk base 1 n (l.map str) none) : l = [] ∧ n = 0 := ⟨by simpa using hg.2, hg.1⟩
theorem gS_some {b c : Nat} {sp : List Value} (hg : gOk base 1 n (l.map str) (some (b, c, sp))) : base ≤ b ∧ n = l.length ∧ l.length ≤ c := ⟨hg.1, by have := hg.2.1; simpa using this.symm, by have := hg.2.2; simp at this; omega⟩
theorem gS_cases {X : Heap → HL → Prop} (hg : gOk base 1 n (l.map str) g) (hp : ∀ b o, base ≤ b → (∀ I', Le I I' → I' b = some o → X I' R) → X I ((b, o) :: R)) (k : ∀ I', Le I I' → StrS T I' l (gV n g) → X I' R) : X I (gH T (l.map str) g ++ R) := by
  cases g with
  | none =>
    obtain ⟨h1, h2⟩ := gS_none hg
    subst h2
    exact k I (Le.refl _) (.inl ⟨h1, rfl⟩)
  | some q =>
    obtain ⟨b, c, sp⟩ := q
    obtain ⟨h1, h2, h3⟩ := gS_some hg
    subst h2
    exact hp b _ h1 fun I' hle hb => k I' hle (.inr ⟨b, c, sp, rfl, h3, hb⟩)
theorem Cj.keepS {c : Code} (hg : gOk cx.w0.heap.size 1 n (l.map str) g) (k : ∀ I', Le I I' → StrS T I' l (gV n g) → Cj cx Q c e I' R) : Cj cx Q c e I (gH T (l.map str) g ++ R) :=
  gS_cases (X := fun I H => Cj cx Q c e I H) hg (fun _ _ hb k => Cj.persist hb k) k
theorem J.keepS {ops : Array Oper} {r : List Oper} (hg : gOk cx.w0.heap.size 1 n (l.map str) g) (k : ∀ I', Le I I' → StrS T I' l (gV n g) → J cx Q ops r e I' R) : J cx Q ops r e I (gH T (l.map str) g ++ R) :=
  gS_cases (X := fun I H => J cx Q ops r e I H) hg (fun _ _ hb k => J.persist hb k) k
theorem Ej.keepS {x : Exit} (hg : gOk cx.w0.heap.size 1 n (l.map str) g) (k : ∀ I', Le I I' → StrS T I' l (gV n g) → Ej cx Q x e I' R) : Ej cx Q x e I (gH T (l.map str) g ++ R) :=
  gS_cases (X := fun I H => Ej cx Q x e I H) hg (fun _ _ hb k => Ej.persist hb k) k
end
section
variable {cx : Cx} {Q : Qt} {o : Oper} {e : Env} {I : Heap} {H : HL} {C : Ct} {S : World → Prop}
theorem op_buildSlice0 {d T E sz : Nat} (ho : o.op = .buildSlice T 0 #[]) (hd : o.dst = some d) (hn : Nat.blt d cx.n = true)
    (hu : cx.P.underlying T = some (.slice E)) (hsz : ∀ w, (sizeOf E).run cx.P w = .ok sz w)
    (k : ∀ b, cx.w0.heap.size ≤ b → C ((d, .slice (some ⟨b, 0, none⟩) 0 0) :: e) I ((b, cel E []) :: H)) : OpJ cx Q o e I H C := by
  intro K hK a w ha hs
  unfold Oper.wp
  have : (execOp a.eval o).run cx.P w = .ok (.value (.slice (some ⟨w.heap.size, 0, none⟩) 0 0)) { w with heap := w.heap.push (cel E []) } := by
    simp [execOp, ho, Instr.buildSlice, run_underlying hu, hsz, Instr.fill, newRow, cel]
    exact congrArg (fun l => w.alloc (Obj.cells l E)) (Array.eq_empty_of_size_eq_zero (by simp))
  rw [this]
  simp only [Oper.upon, hd]
  exact hK _ _ _ (k _ hs.size) _ _ (ha.put hn) (hs.alloc _)
theorem yl_buildA {T E sz len : Nat} {parts : List (Nat × Operand)} {vs zs cs : List Value} {z : Value} (ho : o.op = .build T parts.toArray) (hv : evs e (parts.map (·.2)) = some vs)
    (hz : ∀ w, (zeroValue T).run cx.P w = .ok z w) (hzc : z.cells = zs.toArray) (hu : cx.P.underlying T = some (.array len E)) (hsz : ∀ w, (sizeOf E).run cx.P w = .ok sz w)
    (hb : Instr.fill (fun i => some (i * sz, sz)) zs.toArray ((parts.map (·.1)).zip vs) = some cs.toArray) : Yld cx o e S (.agg cs.toArray) :=
  yl_build ho hv fun w => by
    simp only [Instr.build, Sem.run_bind, hz, hzc, run_underlying hu, Result.andThen_ok, hsz, hb, Sem.run_pure]
theorem run_equalBool {P : Program} {w : World} {T : Nat} {l m : Bool} (hT : P.underlying T = some .bool) : (Op.equal T (.bool l) (.bool m)).run P w = .ok (l == m) w := by
  show (Op.equalIn (9999 + 1) T (.bool l) (.bool m)).run P w = _
  rw [Op.equalIn]
  simp only [Sem.run_bind, run_underlying hT, Result.andThen_ok, Sem.run_pure]
theorem yl_eqlBool {x y : Operand} {T U : Nat} {l m : Bool} (ho : o.op = .binOp .eql T x y U) (hx : ev e x = some (.bool l)) (hy : ev e y = some (.bool m)) (hT : cx.P.underlying T = some .bool) : Yld cx o e S (.bool (l == m)) := by
  intro a w ha _
  have hg : eqGuard .eql T x y (.bool l) (.bool m) = pure () := rfl
  simp [execOp, ho, ha.eval hx, ha.eval hy, hg, binOp, run_equalBool hT]
theorem yl_neqBool {x y : Operand} {T U : Nat} {l m : Bool} (ho : o.op = .binOp .neq T x y U) (hx : ev e x = some (.bool l)) (hy : ev e y = some (.bool m)) (hT : cx.P.underlying T = some .bool) : Yld cx o e S (.bool (l != m)) := by
  intro a w ha _
  have hg : eqGuard .neq T x y (.bool l) (.bool m) = pure () := rfl
  simp [execOp, ho, ha.eval hx, ha.eval hy, hg, binOp, run_equalBool hT, bne]
end
end Go.Sx
