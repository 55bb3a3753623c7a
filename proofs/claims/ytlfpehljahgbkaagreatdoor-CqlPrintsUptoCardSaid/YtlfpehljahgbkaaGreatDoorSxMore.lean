/-
  Slices that grow, texts as bytes, built structs, small builtins. Own text. Conditions: none.
-/
import Derived.Test.YtlfpehljahgbkaaGreatDoorSxEff
namespace Go.Sx
open Go

/-! ### A slice of the call's own: none yet, or a block with spare places -/
abbrev Gs := Option (Nat × Nat × List Value)
def gH (E : TypeId) (xs : List Value) : Gs → HL
  | none => []
  | some (b, _, sp) => [(b, cel E (xs ++ sp))]
def gV (n : Nat) : Gs → Value
  | none => .slice none 0 0
  | some (b, c, _) => .slice (some ⟨b, 0, none⟩) n c
def gOk (base sz n : Nat) (xs : List Value) : Gs → Prop
  | none => n = 0 ∧ xs = []
  | some (b, c, sp) => base ≤ b ∧ xs.length = n * sz ∧ xs.length + sp.length = c * sz
theorem gOk.len {base sz n : Nat} {xs : List Value} {g : Gs} (h : gOk base sz n xs g) : xs.length = n * sz := by
  cases g with
  | none => obtain ⟨rfl, rfl⟩ := h; simp
  | some p => exact h.2.1

theorem gOk.some {base sz n : Nat} {xs : List Value} {g : Gs} (h : gOk base sz n xs g) (hn : 0 < n) : ∃ b c sp, g = .some (b, c, sp) ∧ base ≤ b := by
  cases g with
  | none => obtain ⟨rfl, _⟩ := h; omega
  | some p => exact ⟨p.1, p.2.1, p.2.2, rfl, h.1⟩
theorem drop_app {α : Type} (xs sp : List α) (k : Nat) : (xs ++ sp).drop (xs.length + k) = sp.drop k := by
  rw [← List.drop_drop, List.drop_left]
theorem grow_le (newLen : Nat) : ∀ (r c : Nat), c ≤ 2 * newLen + 768 → Builtin.growBy newLen r c ≤ 2 * newLen + 768
  | 0, c, h => h
  | r + 1, c, h => by
    unfold Builtin.growBy
    split
    · exact h
    · exact grow_le newLen r _ (by omega)
theorem nextcap_le (need cap : Nat) (h : cap < need) : Builtin.nextslicecap need cap ≤ 2 * need + 768 := by
  unfold Builtin.nextslicecap
  split
  · omega
  · split
    · omega
    · exact grow_le need 4 cap (by omega)

theorem run_loadCells_blk {P : Program} {w : World} {b off n : Nat} {cs xs : List Value} {t : TypeId} {fr : Nat × Nat} (h : w.heap[b]? = some (.cells cs.toArray t fr)) (hx : (cs.drop off).take n = xs) (hn : xs.length = n) :
    (loadCells ⟨b, off, none⟩ n).run P w = .ok xs.toArray w := by
  have hc : ∀ j v, xs[j]? = some v → w.cell? ((⟨b, off, none⟩ : Addr).add j) = some v := fun j v hj => by
    rw [Addr.add_lit]
    refine cell_of_heap h ?_
    rw [← hx, List.getElem?_take] at hj
    split at hj
    · simpa [List.getElem?_drop] using hj
    · cases hj
  have := run_loadCells_list (P := P) (w := w) ⟨b, off, none⟩ xs hc
  rwa [hn] at this

/-- What is appended: m elements whose cells are ys. -/
def Src (P : Program) (I : Heap) (H : HL) (sz m : Nat) (y : Value) (ys : List Value) : Prop :=
  ys.length = m * sz ∧ ys.all Value.oneCell' = true ∧ (∀ w, SS I H w → (Builtin.lenOf y).run P w = .ok m w) ∧ ∀ w, SS I H w → (Builtin.firstCells sz m y).run P w = .ok ys.toArray w
theorem Src.slice {P : Program} {I : Heap} {H : HL} {sz m b off c : Nat} {cs ys : List Value} {t : TypeId} {fr : Nat × Nat} (hb : Blk (SS I H) b (.cells cs.toArray t fr)) (hx : (cs.drop off).take (m * sz) = ys) (hn : ys.length = m * sz) (h1 : ys.all Value.oneCell' = true) :
    Src P I H sz m (.slice (some ⟨b, off, none⟩) m c) ys :=
  ⟨hn, h1, fun _ _ => rfl, fun w hs => by
    simp only [Builtin.firstCells]
    exact run_loadCells_blk (hb w hs) hx hn⟩
theorem Src.nil {P : Program} {I : Heap} {H : HL} {sz c : Nat} {p : Option Addr} : Src P I H sz 0 (.slice p 0 c) [] :=
  ⟨by simp, rfl, fun _ _ => rfl, fun w _ => by
    cases p <;> simp [Builtin.firstCells, loadCells, loadCellsFrom]⟩

def bcs (l : List UInt8) : List Value := l.map fun c => u8 c
theorem Src.str {P : Program} {I : Heap} {H : HL} {l : List UInt8} : Src P I H 1 l.length (str l) (bcs l) := by
  refine ⟨by simp [bcs], by simp [bcs, Value.oneCell'], fun _ _ => by simp [Builtin.lenOf, Sx.str, size_mk], fun w _ => ?_⟩
  have hex : (⟨l.toArray⟩ : ByteArray).extract 0 l.length = ⟨l.toArray⟩ := by
    apply ByteArray.ext
    simp [ByteArray.data_extract]
  simp only [Builtin.firstCells, Sx.str, hex, Sem.run_pure, bcs]
  simp

theorem ext_cons {e : Env} {d : Nat} {v : Value} (h : eg e d = some v) : ∀ t u, eg ((d, v) :: e) t = some u → eg e t = some u := fun t u hu => by
  rw [eg_cons] at hu
  by_cases hk : d = t
  · subst hk; simp at hu; subst hu; exact h
  · simpa [hk] using hu
theorem Has.ext {a : Act} {n : Nat} {e e' : Env} {ds : List Deferred} (h : Has a n e ds) (hs : ∀ t u, eg e' t = some u → eg e t = some u) : Has a n e' ds := ⟨h.size, h.defs, fun t v hv => h.get t v (hs t v hv)⟩
theorem Cj.ext {cx : Cx} {Q : Qt} {e e' : Env} {I : Heap} {H : HL} {c : Code} (hs : ∀ t u, eg e' t = some u → eg e t = some u) (h : Cj cx Q c e' I H) : Cj cx Q c e I H := fun a w ha h1 => h a w (ha.ext hs) h1
theorem Ej.ext {cx : Cx} {Q : Qt} {e e' : Env} {I : Heap} {H : HL} {x : Exit} (hs : ∀ t u, eg e' t = some u → eg e t = some u) (h : Ej cx Q x e' I H) : Ej cx Q x e I H := fun a w ha h1 => h a w (ha.ext hs) h1
theorem J.ext {cx : Cx} {Q : Qt} {e e' : Env} {I : Heap} {H : HL} {ops : Array Oper} {l : List Oper} (hs : ∀ t u, eg e' t = some u → eg e t = some u) (h : J cx Q ops l e' I H) : J cx Q ops l e I H := fun a w ha h1 => h a w (ha.ext hs) h1
section
variable {cx : Cx} {Q : Qt} {o : Oper} {e : Env} {I : Heap} {H : HL} {C : Ct} {S : World → Prop}
theorem op_appendB {T E d sz by' n m : Nat} (base : Nat) (hbase : base ≤ cx.w0.heap.size) {x y : Operand} {U : TypeId} {g : Gs} {xs ys : List Value} {yv z : Value} (R : HL) (ho : o.op = .call ⟨.builtin .append, #[x, y], #[T, U]⟩) (hd : o.dst = some d) (hn : Nat.blt d cx.n = true)
    (hx : ev e x = some (gV n g)) (hy : ev e y = some yv) (hu : cx.P.underlying T = some (.slice E)) (hU : cx.P.underlying U = some .string ∨ ∃ E', cx.P.underlying U = some (.slice E'))
    (hi0 : (cx.P.info? E).map (·.bytes) = some (by' + 1)) (hsz : ∀ w, (sizeOf E).run cx.P w = .ok sz w) (hz : ∀ w, (zeroValue E).run cx.P w = .ok z w) (hzs : z.cells.size = sz)
    (hg : gOk base sz n xs g) (hH : H = R ++ gH E xs g) (hs : Src cx.P I H sz m yv ys) (hroom : (2 * (n + m) + 768) * (by' + 1) ≤ 281474976710656)
    (k : ∀ g', gOk base sz (n + m) (xs ++ ys) g' → C ((d, gV (n + m) g') :: e) I (R ++ gH E (xs ++ ys) g')) : OpJ cx Q o e I H C := by
  intro K hK a w ha hst
  obtain ⟨hs1, hs2, hs3, hs4⟩ := hs
  obtain ⟨i, hi, hby⟩ : ∃ i, cx.P.info? E = some i ∧ i.bytes = by' + 1 := by
    cases h : cx.P.info? E with
    | none => rw [h] at hi0; cases hi0
    | some i => rw [h] at hi0; exact ⟨i, rfl, by simpa using hi0⟩
  have hss := hst.ss
  have hlen := hg.len
  unfold Oper.wp
  have key : ∃ w' g', (execOp a.eval o).run cx.P w = .ok (.value (gV (n + m) g')) w' ∧ gOk base sz (n + m) (xs ++ ys) g' ∧ St cx.w0 cx.D cx.I0 I (R ++ gH E (xs ++ ys) g') w' := by
    have hti : ∀ w', (typeInfo E).run cx.P w' = .ok i w' := fun w' => by simp [typeInfo, hi]
    have pre : ∀ (b? : Option Addr) (c : Nat), gV n g = .slice b? n c → (execOp a.eval o).run cx.P w =
        ((Builtin.append_ #[T, U] o.type #[.slice b? n c, yv]).run cx.P w).andThen fun v w' => .ok (.value v) w' := by
      intro b? c hv
      simp only [execOp, ho, resolve, invoke, builtin, Sem.run_bind, Sem.run_pure, Result.andThen_ok, List.map_toArray, List.map_cons, List.map_nil, ha.eval hx, ha.eval hy, hv]
    have fits : ∀ (b? : Option Addr) (c : Nat), n + m ≤ c → (Builtin.append_ #[T, U] o.type #[.slice b? n c, yv]).run cx.P w =
        (match b? with
          | some a => (storeCells (a.add (n * sz)) ys).run cx.P w
          | none => .ok () w).andThen fun _ w' => .ok (.slice b? (n + m) c) w' := by
      intro b? c hfit
      rcases hU with hU1 | ⟨E', hU1⟩ <;> cases b? <;> simp [Builtin.append_, run_underlying hu, run_underlying hU1, hsz, hs3 w hss, hs4 w hss, hfit]
    have grows : ∀ (b? : Option Addr) (c : Nat) (old : Array Value), ¬ n + m ≤ c → c < n + m → (∀ w', SS I H w' → (Builtin.firstCells sz n (.slice b? n c)).run cx.P w' = .ok old w') →
        (Builtin.append_ #[T, U] o.type #[.slice b? n c, yv]).run cx.P w =
          let cap := (Question.appendCap (n + m) c E).cut (w.tape w.drawn (.appendCap (n + m) c E))
          .ok (.slice (some ⟨w.heap.size, 0, none⟩) (n + m) cap) { { w with drawn := w.drawn + 1 } with heap := w.heap.push (.cells (old ++ ys.toArray ++ Builtin.zeroCells z.cells (cap - (n + m))) E (0, 0)) } := by
      intro b? c old hfit hc hold
      have hb1 : ¬ (2 ^ 48 < Builtin.nextslicecap (n + m) c * i.bytes) := by
        have := nextcap_le (n + m) c hc
        rw [hby]
        have h2 := Nat.mul_le_mul_right (by' + 1) this
        have h3 : (2 : Nat) ^ 48 = 281474976710656 := by decide
        omega
      have hb2 : ¬ i.bytes = 0 := by omega
      have hss1 : SS I H { w with drawn := w.drawn + 1 } := hss
      rcases hU with hU1 | ⟨E', hU1⟩ <;> simp only [Builtin.append_, List.getElem?_toArray, List.getElem?_cons_zero, List.getElem?_cons_succ, Sem.run_bind, Sem.run_pure, run_underlying hu, run_underlying hU1, Result.andThen_ok, hsz, hs3 w hss, Bool.false_eq_true, if_false, Sem.run_ite, hfit, hti, hb1, hb2, false_or, and_false, gt_iff_lt, run_choose, Question.forced, run_askRoom, hold _ hss1, Bool.not_false, if_true, hs4 _ hss1, hz, newRow, run_newObj]
    cases g with
    | none =>
      obtain ⟨rfl, rfl⟩ := hg
      rw [pre none 0 rfl]
      have h0c : ∀ w', SS I H w' → (Builtin.firstCells sz 0 (.slice none 0 0)).run cx.P w' = .ok #[] w' := fun w' _ => by simp [Builtin.firstCells]
      by_cases hm : m = 0
      · subst hm
        have hys : ys = [] := List.length_eq_zero_iff.1 (by simpa using hs1)
        subst hys
        refine ⟨w, none, ?_, ⟨by simp, by simp⟩, by simpa [gH, hH] using hst⟩
        rw [fits none 0 (by omega)]
        simp [gV]
      · rw [grows none 0 #[] (by omega) (by omega) h0c]
        let cap := (Question.appendCap (0 + m) 0 E).cut (w.tape w.drawn (.appendCap (0 + m) 0 E))
        refine ⟨{ { w with drawn := w.drawn + 1 } with heap := w.heap.push (.cells (#[] ++ ys.toArray ++ Builtin.zeroCells z.cells (cap - (0 + m))) E (0, 0)) }, some (w.heap.size, cap, (Builtin.zeroCells z.cells (cap - (0 + m))).toList), ?_, ?_, ?_⟩
        · rfl
        · have hcap : m ≤ cap := by simp only [cap, Question.cut]; omega
          refine ⟨Nat.le_trans hbase hst.size, by simp [hs1], ?_⟩
          simp only [Builtin.zeroCells, Array.length_toList, Array.size_map, Array.size_range, List.nil_append, hs1, hzs]
          rw [← Nat.add_mul]
          congr 1; omega
        · have h0 := (hst.drewN (w.drawn + 1)).alloc (.cells (#[] ++ ys.toArray ++ Builtin.zeroCells z.cells (cap - (0 + m))) E (0, 0))
          have hcell : (Obj.cells (#[] ++ ys.toArray ++ Builtin.zeroCells z.cells (cap - (0 + m))) E (0, 0)) = cel E ([] ++ ys ++ (Builtin.zeroCells z.cells (cap - (0 + m))).toList) := by
            simp [cel]
          rw [hcell] at h0 ⊢
          subst hH
          simp only [gH, List.append_nil] at h0 ⊢
          refine h0.perm ?_
          exact List.perm_append_comm
    | some p =>
      obtain ⟨b, c, sp⟩ := p
      obtain ⟨hb0, hxl, hcl⟩ := hg
      rw [pre (some ⟨b, 0, none⟩) c rfl]
      have hmem : (b, cel E (xs ++ sp)) ∈ H := by rw [hH]; simp [gH]
      have hblk := hst.own _ hmem
      by_cases hfit : n + m ≤ c
      · rw [fits _ _ hfit]
        have hle : ys.length ≤ sp.length := by
          have : (n + m) * sz ≤ c * sz := Nat.mul_le_mul_right sz hfit
          rw [Nat.add_mul] at this; omega
        have hspl : LSpl (xs ++ sp) (n * sz + 0) ys (xs ++ ys ++ sp.drop ys.length) := by
          refine ⟨by simp only [List.length_append]; omega, ?_⟩
          rw [Nat.add_zero, ← hxl, List.take_left' rfl, drop_app]
        have hrun := run_storeCells (P := cx.P) (b := b) (off := n * sz) (t := E) ys 0 w (xs ++ sp) hblk (.inl rfl) (by simp only [List.length_append]; omega) (fun u hu => (List.all_eq_true.1 hs2) u hu) _ hspl
        refine ⟨World.block w b (.cells (xs ++ ys ++ sp.drop ys.length).toArray E (0, 0)), some (b, c, sp.drop ys.length), ?_, ?_, ?_⟩
        · simp only [Result.andThen_ok, Addr.add_lit, Nat.zero_add, hrun, gV]
        · exact ⟨hb0, by simp [hxl, hs1, Nat.add_mul], by simp; omega⟩
        · subst hH
          have hidx : (R ++ gH E xs (some (b, c, sp)))[R.length]? = some (b, cel E (xs ++ sp)) := by simp [gH]
          have hset : LSet (R ++ gH E xs (some (b, c, sp))) R.length (b, cel E (xs ++ ys ++ sp.drop ys.length)) (R ++ gH E (xs ++ ys) (some (b, c, sp.drop ys.length))) := by
            refine ⟨by simp [gH], ?_⟩
            rw [List.set_append_right _ _ (Nat.le_refl _)]
            simp [gH]
          exact hst.block hidx hset
      · have hold : ∀ w', SS I H w' → (Builtin.firstCells sz n (.slice (some ⟨b, 0, none⟩) n c)).run cx.P w' = .ok xs.toArray w' := fun w' hw' =>
          run_loadCells_blk (cs := xs ++ sp) (hw'.2 _ hmem) (by rw [List.drop_zero, ← hxl, List.take_left']; rfl) hxl
        rw [grows _ _ _ hfit (by omega) hold]
        let cap := (Question.appendCap (n + m) c E).cut (w.tape w.drawn (.appendCap (n + m) c E))
        refine ⟨{ { w with drawn := w.drawn + 1 } with heap := w.heap.push (.cells (xs.toArray ++ ys.toArray ++ Builtin.zeroCells z.cells (cap - (n + m))) E (0, 0)) }, some (w.heap.size, cap, (Builtin.zeroCells z.cells (cap - (n + m))).toList), ?_, ?_, ?_⟩
        · rfl
        · have hcap : n + m ≤ cap := by simp only [cap, Question.cut]; omega
          refine ⟨Nat.le_trans hbase hst.size, by simp [hxl, hs1, Nat.add_mul], ?_⟩
          simp only [Builtin.zeroCells, Array.length_toList, Array.size_map, Array.size_range, List.length_append, hxl, hs1, hzs]
          rw [← Nat.add_mul, ← Nat.add_mul]
          congr 1; omega
        · have h0 := (hst.drewN (w.drawn + 1)).alloc (.cells (xs.toArray ++ ys.toArray ++ Builtin.zeroCells z.cells (cap - (n + m))) E (0, 0))
          have hcell : (Obj.cells (xs.toArray ++ ys.toArray ++ Builtin.zeroCells z.cells (cap - (n + m))) E (0, 0)) = cel E (xs ++ ys ++ (Builtin.zeroCells z.cells (cap - (n + m))).toList) := by
            simp [cel]
          rw [hcell] at h0 ⊢
          subst hH
          have h1 := h0.sublist (H' := (w.heap.size, cel E (xs ++ ys ++ (Builtin.zeroCells z.cells (cap - (n + m))).toList)) :: R) (List.Sublist.cons_cons _ (List.sublist_append_left _ _))
          refine h1.perm ?_
          exact List.perm_append_comm
  obtain ⟨w', g', h1, h2, h3⟩ := key
  rw [h1]
  simp only [Oper.upon, hd]
  exact hK _ _ _ (k g' h2) _ _ (ha.put hn) h3

theorem op_append {T E d sz by' n m : Nat} {x y : Operand} {U : TypeId} {g : Gs} {xs ys : List Value} {yv z : Value} (R : HL) (ho : o.op = .call ⟨.builtin .append, #[x, y], #[T, U]⟩) (hd : o.dst = some d) (hn : Nat.blt d cx.n = true)
    (hx : ev e x = some (gV n g)) (hy : ev e y = some yv) (hu : cx.P.underlying T = some (.slice E)) (hU : cx.P.underlying U = some .string ∨ ∃ E', cx.P.underlying U = some (.slice E'))
    (hi0 : (cx.P.info? E).map (·.bytes) = some (by' + 1)) (hsz : ∀ w, (sizeOf E).run cx.P w = .ok sz w) (hz : ∀ w, (zeroValue E).run cx.P w = .ok z w) (hzs : z.cells.size = sz)
    (hg : gOk cx.w0.heap.size sz n xs g) (hH : H = R ++ gH E xs g) (hs : Src cx.P I H sz m yv ys) (hroom : (2 * (n + m) + 768) * (by' + 1) ≤ 281474976710656)
    (k : ∀ g', gOk cx.w0.heap.size sz (n + m) (xs ++ ys) g' → C ((d, gV (n + m) g') :: e) I (R ++ gH E (xs ++ ys) g')) : OpJ cx Q o e I H C :=
  op_appendB cx.w0.heap.size (Nat.le_refl _) R ho hd hn hx hy hu hU hi0 hsz hz hzs hg hH hs hroom k

theorem J.eqv {ops : Array Oper} {l : List Oper} (d : Nat) {v v' : Value} (hv : eg e d = some v) (h : v = v') (k : J cx Q ops l ((d, v') :: e) I H) : J cx Q ops l e I H :=
  J.ext (e' := (d, v') :: e) (ext_cons (h ▸ hv)) k
theorem JA.eqv {I1 : Heap} {A : HL} {Z : CL} {z : Nat} {l : List Oper} {fuel : Nat} {listed : Array Bool} (d : Nat) {v v' : Value} (hv : eg e d = some v) (h : v = v') (k : JA cx Q l I1 A Z z fuel listed ((d, v') :: e) I H) : JA cx Q l I1 A Z z fuel listed e I H :=
  fun a w ha hs => k a w (ha.ext (ext_cons (h ▸ hv))) hs
theorem Cj.eqv {c : Code} (d : Nat) {v v' : Value} (hv : eg e d = some v) (h : v = v') (k : Cj cx Q c ((d, v') :: e) I H) : Cj cx Q c e I H :=
  Cj.ext (e' := (d, v') :: e) (ext_cons (h ▸ hv)) k
theorem Ej.eqv {x : Exit} (d : Nat) {v v' : Value} (hv : eg e d = some v) (h : v = v') (k : Ej cx Q x ((d, v') :: e) I H) : Ej cx Q x e I H :=
  Ej.ext (e' := (d, v') :: e) (ext_cons (h ▸ hv)) k
/-- A struct literal. -/
theorem yl_build {T : Nat} {parts : List (Nat × Operand)} {vs : List Value} {v : Value} (ho : o.op = .build T parts.toArray) (hv : evs e (parts.map (·.2)) = some vs)
    (hr : ∀ w, (Instr.build T ((parts.map (·.1)).zip vs).toArray).run cx.P w = .ok v w) : Yld cx o e S v := by
  intro a w ha _
  have hp : (parts.toArray.map fun (i, x) => (i, a.eval x)) = ((parts.map (·.1)).zip vs).toArray := by
    have := ha.evals hv
    rw [← this]
    simp [List.zip_map', List.map_map]
  simp only [execOp, ho, Sem.run_bind, hp, hr, Result.andThen_ok, Sem.run_pure]
/-- A struct literal, field by field. -/
def LBld (pl : Array (Nat × Nat)) (cs : List Value) (parts : List (Nat × Value)) (cs' : List Value) : Prop := Instr.fill (pl[·]?) cs.toArray parts = some cs'.toArray
theorem LBld.none {pl : Array (Nat × Nat)} {cs : List Value} : LBld pl cs [] cs := rfl
theorem LBld.part {pl : Array (Nat × Nat)} {cs vs cs1 cs2 : List Value} {i off sz : Nat} {v : Value} {r : List (Nat × Value)} (h1 : pl[i]? = some (off, sz)) (h2 : v.cells = vs.toArray) (h3 : vs.length = sz) (h4 : LSpl cs off vs cs1) (h5 : LBld pl cs1 r cs2) :
    LBld pl cs ((i, v) :: r) cs2 := by
  unfold LBld at *
  simp only [Instr.fill, h1, h2]
  obtain ⟨hl, he⟩ := h4
  rw [if_neg (by simp; omega)]
  have h6 := foldl_put vs 0 (cs.take off) ((cs.drop off).take vs.length) (cs.drop (off + vs.length)) off (by simp; omega) (by simp; omega)
  have h7 : cs.take off ++ (cs.drop off).take vs.length ++ cs.drop (off + vs.length) = cs := by
    rw [List.append_assoc, ← List.drop_drop, List.take_append_drop, List.take_append_drop]
  rw [h7, ← he] at h6
  have h8 : vs.toArray.zipIdx.foldl (fun cs (x : Value × Nat) => cs.setIfInBounds (off + x.2) x.1) cs.toArray = cs1.toArray := by
    rw [← Array.foldl_toList, Array.toList_zipIdx]; exact h6
  rw [h8]
  exact h5
theorem yl_buildS {T : Nat} {parts : List (Nat × Operand)} {vs zs cs : List Value} {z : Value} {fs : Array Field} {pl : Array (Nat × Nat)} (ho : o.op = .build T parts.toArray) (hv : evs e (parts.map (·.2)) = some vs)
    (hz : ∀ w, (zeroValue T).run cx.P w = .ok z w) (hzc : z.cells = zs.toArray) (hu : cx.P.underlying T = some (.struct fs))
    (hpl : ∀ w, (fs.mapM (m := Sem) fun f => do pure (f.offset, ← sizeOf f.type)).run cx.P w = .ok pl w) (hb : LBld pl zs ((parts.map (·.1)).zip vs) cs) : Yld cx o e S (.agg cs.toArray) :=
  yl_build ho hv fun w => by
    simp only [Instr.build, Sem.run_bind, hz, hzc, run_underlying hu, Result.andThen_ok, hpl]
    have := hb
    unfold LBld at this
    rw [this]
    rfl
theorem yl_min2 {x y : Operand} {ts : Array TypeId} {k : IntKind} {p q : Int} (ho : o.op = .call ⟨.builtin .min, #[x, y], ts⟩) (hx : ev e x = some (.int k p)) (hy : ev e y = some (.int k q)) : Yld cx o e S (.int k (if q < p then q else p)) := by
  intro a w ha _
  simp [execOp, ho, resolve, invoke, builtin, Builtin.min_, Builtin.min2, ha.eval hx, ha.eval hy]
theorem yl_max2 {x y : Operand} {ts : Array TypeId} {k : IntKind} {p q : Int} (ho : o.op = .call ⟨.builtin .max, #[x, y], ts⟩) (hx : ev e x = some (.int k p)) (hy : ev e y = some (.int k q)) : Yld cx o e S (.int k (if q > p then q else p)) := by
  intro a w ha _
  simp [execOp, ho, resolve, invoke, builtin, Builtin.max_, Builtin.max2, ha.eval hx, ha.eval hy]
/-- A store of one cell at a place that is a letter. -/
theorem op_store1 {x y : Operand} {T t b off : Nat} (i : Nat) {cs : List Value} {v : Value} {H' : HL} {fr : Nat × Nat} (ho : o.op = .store T x y) (hd : o.dst = none) (hx : ev e x = some (ptr b off)) (hy : ev e y = some v)
    (hv : v.cells = #[v]) (h1 : v.oneCell' = true) (hsz : ∀ w, (sizeOf T).run cx.P w = .ok 1 w) (hH : H[i]? = some (b, .cells cs.toArray t fr)) (hfr : fr = (0, 0) ∨ cs.length ≤ fr.1) (hoff : off < cs.length)
    (hH' : LSet H i (b, .cells (cs.set off v).toArray t fr) H') (k : C e I H') : OpJ cx Q o e I H C := by
  intro K hK a w ha hs
  unfold Oper.wp
  have hb := hs.own _ (List.mem_of_getElem? hH)
  have hspl : LSpl cs (off + 0) [v] (cs.set off v) := by
    refine ⟨by simp; omega, ?_⟩
    rw [List.set_eq_take_append_cons_drop]
    simp [hoff]
  have hst := run_storeCells (P := cx.P) (t := t) [v] 0 w cs hb hfr (by simp; omega) (fun u hu => by simp at hu; subst hu; exact h1) _ hspl
  have : (execOp a.eval o).run cx.P w = .ok .skip (World.block w b (.cells (cs.set off v).toArray t fr)) := by
    simp [execOp, ho, Instr.storeAt, Instr.sureAddr, ha.eval hx, ha.eval hy, storeVar, hv, hsz, hst]
  rw [this]
  simp only [Oper.upon, hd]
  exact hK _ _ _ k _ _ ha.putNone (hs.block hH hH')
theorem yl_addB {x y : Operand} {T U : Nat} {c : UInt8} {q : Int} (dd : UInt8) (ho : o.op = .binOp .add T x y U) (hx : ev e x = some (u8 c)) (hy : ev e y = some (.int .u8 q)) (hq : q = dd.toNat) : Yld cx o e S (u8 (c + dd)) := by
  intro a w ha _
  subst hq
  have : IntKind.u8.wrap ((c.toNat : Int) + dd.toNat) = ((c + dd).toNat : Int) := by
    simp [IntKind.wrap, IntKind.signed, IntKind.bits, UInt8.toNat_add]
  simp [execOp, ho, ha.eval hx, ha.eval hy, eqGuard_add, binOp_add, Op.intArith, this]
theorem yl_subB {x y : Operand} {T U : Nat} {c : UInt8} {q : Int} (dd : UInt8) (ho : o.op = .binOp .sub T x y U) (hx : ev e x = some (u8 c)) (hy : ev e y = some (.int .u8 q)) (hq : q = dd.toNat) (hle : dd.toNat ≤ c.toNat) : Yld cx o e S (u8 (c - dd)) := by
  intro a w ha _
  subst hq
  have h1 := c.toNat_lt
  have : IntKind.u8.wrap ((c.toNat : Int) - dd.toNat) = ((c - dd).toNat : Int) := by
    have h2 : (c - dd).toNat = c.toNat - dd.toNat := UInt8.toNat_sub_of_le _ _ (by simpa [UInt8.le_iff_toNat_le] using hle)
    rw [h2]
    simp [IntKind.wrap, IntKind.signed, IntKind.bits]
    omega
  simp [execOp, ho, ha.eval hx, ha.eval hy, eqGuard_sub, binOp_sub, Op.intArith, this]
theorem bcs_set (l : List UInt8) (sp : List Value) (k : Nat) (c : UInt8) (h : k < l.length) : (bcs l ++ sp).set k (u8 c) = bcs (l.set k c) ++ sp := by
  rw [List.set_append_left _ _ (by simpa [bcs] using h)]
  simp [bcs, List.map_set]
theorem bcs_get (l : List UInt8) (sp : List Value) (k : Nat) (c : UInt8) (h : l[k]? = some c) : (bcs l ++ sp)[k]? = some (u8 c) := by
  have : k < (bcs l).length := by
    simp only [bcs, List.length_map]
    rcases Nat.lt_or_ge k l.length with h' | h'
    · exact h'
    · simp [List.getElem?_eq_none h'] at h
  rw [List.getElem?_append_left this]
  simp [bcs, h]
theorem bcs_len (l : List UInt8) : (bcs l).length = l.length := by simp [bcs]
/-- A text turned into a new row of bytes. -/
theorem op_toBytes {Sy T E d : Nat} {x : Operand} {l : List UInt8} (ho : o.op = .convert Sy T x) (hd : o.dst = some d) (hn : Nat.blt d cx.n = true) (hx : ev e x = some (str l))
    (hS : cx.P.underlying Sy = some .string) (hT : cx.P.underlying T = some (.slice E)) (hE : cx.P.underlying E = some (.int .u8))
    (k : ∀ b c sp fr, cx.w0.heap.size ≤ b → (bcs l ++ sp).length ≤ fr → C ((d, .slice (some ⟨b, 0, none⟩) l.length c) :: e) I ((b, .cells (bcs l ++ sp).toArray E (fr, fr + 1)) :: H)) : OpJ cx Q o e I H C := by
  intro K hK a w ha hst
  unfold Oper.wp
  let cap := (Question.appendCap l.length 0 E).cut (w.tape w.drawn (.appendCap l.length 0 E))
  let sp : List Value := List.replicate (cap - l.length) (.int .u8 0)
  have hrun : (execOp a.eval o).run cx.P w = .ok (.value (.slice (some ⟨w.heap.size, 0, none⟩) l.length cap))
      { { w with drawn := w.drawn + 1 } with heap := w.heap.push (.cells (bcs l ++ sp).toArray E ((bcs l ++ sp).length, (bcs l ++ sp).length + 1)) } := by
    simp only [execOp, ho, convert, ha.eval hx, str, Sem.run_bind, run_underlying hS, run_underlying hT, Result.andThen_ok, run_underlying hE, Conv.stringToBytes, size_mk, run_choose, Question.forced, newRow, run_newObj, Bool.false_eq_true, if_false, markStringish, run_shape, Sem.run_pure]
    simp only [World.shape?, Array.getElem?_push_size, run_freeze, Result.andThen_ok, World.freeze]
    have h0 : (Array.map (fun b : UInt8 => Value.int IntKind.u8 ↑b.toNat) l.toArray ++ Array.replicate (cap - l.length) (Value.int IntKind.u8 0)) = (bcs l ++ sp).toArray := by
      simp [bcs, sp]
    have h1 : ∀ (A : Array Obj) (o o' : Obj) (f : Obj → Obj), f o = o' → (A.push o).modify A.size f = A.push o' := by
      intro A o o' f hf
      apply Array.ext_getElem?
      intro j
      rw [Array.getElem?_modify, Array.getElem?_push, Array.getElem?_push]
      by_cases hj : A.size = j
      · subst hj; simp [hf]
      · simp [hj, Ne.symm hj]
    simp only [Nat.one_ne_zero, if_false]
    refine congrArg (fun W : World => (Result.ok (Next.value (.slice (some ⟨w.heap.size, 0, none⟩) l.length cap)) W : Result Next)) ?_
    refine congrArg (fun H : Array Obj => ({ heap := H, tape := w.tape, drawn := w.drawn + 1, os := w.os, output := w.output } : World)) ?_
    refine h1 _ _ _ _ ?_
    rw [show (Array.map (fun b : UInt8 => Value.int IntKind.u8 ↑b.toNat) l.toArray ++ Array.replicate ((Question.appendCap l.length 0 E).cut (w.tape w.drawn (Question.appendCap l.length 0 E)) - l.length) (Value.int IntKind.u8 0)) = (bcs l ++ sp).toArray from h0]
    simp
  rw [hrun]
  simp only [Oper.upon, hd]
  exact hK _ _ _ (k w.heap.size cap sp _ hst.size (Nat.le_refl _)) _ _ (ha.put hn) ((hst.drewN (w.drawn + 1)).alloc _)
/-- A row of bytes as a text. -/
theorem yl_toStr {Sy T E : Nat} {x : Operand} (l : List UInt8) {b off c n : Nat} {cs : List Value} {t : TypeId} {fr : Nat × Nat} (ho : o.op = .convert Sy T x) (hx : ev e x = some (.slice (some ⟨b, off, none⟩) n c)) (hn : l.length = n)
    (hS : cx.P.underlying Sy = some (.slice E)) (hT : cx.P.underlying T = some .string) (hE : cx.P.underlying E = some (.int .u8)) (hb : Blk S b (.cells cs.toArray t fr)) (hl : (cs.drop off).take l.length = bcs l) :
    Yld cx o e S (str l) := by
  intro a w ha hs
  subst hn
  have hc : ∀ j v, (bcs l)[j]? = some v → w.cell? ((⟨b, off, none⟩ : Addr).add j) = some v := fun j v hj => by
    rw [Addr.add_lit]
    refine cell_of_heap (hb w hs) ?_
    rw [← hl, List.getElem?_take] at hj
    split at hj
    · simpa [List.getElem?_drop] using hj
    · cases hj
  have h1 := run_loadCells_list (P := cx.P) (w := w) ⟨b, off, none⟩ (bcs l) hc
  have h2 := run_bytesToString (P := cx.P) w ⟨b, off, none⟩ l.length c (l.map fun u => (u.toNat : Int)) (by
    rw [show (bcs l).length = l.length by simp [bcs]] at h1
    rw [h1]; simp [bcs, List.map_map])
  have h3 : (l.map fun u => (u.toNat : Int)).foldl (fun r n => r.push (UInt8.ofNat n.toNat)) ByteArray.empty = ⟨l.toArray⟩ := by
    rw [foldl_push_bytes]
    apply ByteArray.ext
    simp [List.map_map]
    have : (fun x => UInt8.ofNat x) ∘ UInt8.toNat = id := by funext x; simp
    first | simp [Function.comp_def] | rw [this, List.map_id]
  simp only [execOp, ho, Sem.run_bind, ha.eval hx, run_convert_bytes_string w Sy T E _ l.length c hS hE hT, h2, h3, Result.andThen_ok, Sem.run_pure, str]
end
end Go.Sx
