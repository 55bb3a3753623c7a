/-
  What the reference's Spoiled and the law CqlPrints lack: an empty literal of a slice, a literal of an array, lists of queries put behind one another, the depth of any query. Own text. Conditions: none.
-/
import Derived.Test.YtlfpehljahgbkaaGreatDoorCqW
namespace Go.Sx
section
variable {cx : Cx} {Q : Qt} {o : Oper} {e : Env} {I : Heap} {H : HL} {C : Ct} {S : World → Prop}
theorem op_buildSlice0 {d T E sz : Nat} (ho : o.op = .buildSlice T 0 #[]) (hd : o.dst = some d) (hn : Nat.blt d cx.n = true)
    (hu : cx.P.underlying T = some (.slice E)) (hsz : ∀ w, (sizeOf E).run cx.P w = .ok sz w)
    (k : ∀ b, cx.w0.heap.size ≤ b → C ((d, .slice (some ⟨b, 0, none⟩) 0 0) :: e) I ((b, cel E []) :: H)) : OpJ cx Q o e I H C := by
  intro K hK a w ha hs
  unfold Oper.wp
  have : (execOp a.eval o).run cx.P w = .ok (.value (.slice (some ⟨w.heap.size, 0, none⟩) 0 0)) { w with heap := w.heap.push (cel E []) } := by
    simp [execOp, ho, Instr.buildSlice, run_underlying hu, hsz, Instr.fill, newRow, cel]
    exact congrArg (fun l => w.alloc (Obj.cells l E)) (Array.eq_empty_of_size_eq_zero (by simp))
  rw [this]
  simp only [Oper.upon, hd]
  exact hK _ _ _ (k _ hs.size) _ _ (ha.put hn) (hs.alloc _)
theorem yl_buildA {T E sz len : Nat} {parts : List (Nat × Operand)} {vs zs cs : List Value} {z : Value} (ho : o.op = .build T parts.toArray) (hv : evs e (parts.map (·.2)) = some vs)
    (hz : ∀ w, (zeroValue T).run cx.P w = .ok z w) (hzc : z.cells = zs.toArray) (hu : cx.P.underlying T = some (.array len E)) (hsz : ∀ w, (sizeOf E).run cx.P w = .ok sz w)
    (hb : Instr.fill (fun i => some (i * sz, sz)) zs.toArray ((parts.map (·.1)).zip vs) = some cs.toArray) : Yld cx o e S (.agg cs.toArray) :=
  yl_build ho hv fun w => by
    simp only [Instr.build, Sem.run_bind, hz, hzc, run_underlying hu, Result.andThen_ok, hsz, hb, Sem.run_pure]
theorem run_equalBool {P : Program} {w : World} {T : Nat} {l m : Bool} (hT : P.underlying T = some .bool) : (Op.equal T (.bool l) (.bool m)).run P w = .ok (l == m) w := by
  show (Op.equalIn (9999 + 1) T (.bool l) (.bool m)).run P w = _
  rw [Op.equalIn]
  simp only [Sem.run_bind, run_underlying hT, Result.andThen_ok, Sem.run_pure]
theorem yl_eqlBool {x y : Operand} {T U : Nat} {l m : Bool} (ho : o.op = .binOp .eql T x y U) (hx : ev e x = some (.bool l)) (hy : ev e y = some (.bool m)) (hT : cx.P.underlying T = some .bool) : Yld cx o e S (.bool (l == m)) := by
  intro a w ha _
  have hg : eqGuard .eql T x y (.bool l) (.bool m) = pure () := rfl
  simp [execOp, ho, ha.eval hx, ha.eval hy, hg, binOp, run_equalBool hT]
theorem yl_neqBool {x y : Operand} {T U : Nat} {l m : Bool} (ho : o.op = .binOp .neq T x y U) (hx : ev e x = some (.bool l)) (hy : ev e y = some (.bool m)) (hT : cx.P.underlying T = some .bool) : Yld cx o e S (.bool (l != m)) := by
  intro a w ha _
  have hg : eqGuard .neq T x y (.bool l) (.bool m) = pure () := rfl
  simp [execOp, ho, ha.eval hx, ha.eval hy, hg, binOp, run_equalBool hT, bne]
end
theorem tdiv_rng {x : Int} {n : Int} (hn : 0 < n) (h : -9223372036854775808 ≤ x ∧ x ≤ 9223372036854775807) : -9223372036854775808 ≤ x.tdiv n ∧ x.tdiv n ≤ 9223372036854775807 := by
  rcases Int.le_total 0 x with h0 | h0
  · rw [Int.tdiv_eq_ediv_of_nonneg h0]
    have h1 := Int.ediv_nonneg h0 (Int.le_of_lt hn)
    have h2 := Int.ediv_le_self n h0
    omega
  · have hx : x = -(-x) := by omega
    have h3 : 0 ≤ -x := by omega
    rw [hx, Int.neg_tdiv, Int.tdiv_eq_ediv_of_nonneg h3]
    have h1 := Int.ediv_nonneg h3 (Int.le_of_lt hn)
    have h2 := Int.ediv_le_self n h3
    omega
end Go.Sx
namespace Cq
def Qs.app : Qs → Qs → Qs
  | .nil, r => r
  | .cons k i r t ps rest, x => .cons k i r t ps (rest.app x)
theorem Qs.app_len : ∀ (a b : Qs), (a.app b).len = a.len + b.len
  | .nil, b => by simp [Qs.app, Qs.len]
  | .cons _ _ _ _ _ rest, b => by simp only [Qs.app, Qs.len, Qs.app_len rest b]; omega
theorem Qs.app_size : ∀ (a b : Qs), (a.app b).size = a.size + b.size
  | .nil, b => by simp [Qs.app, Qs.size]
  | .cons _ _ _ _ _ rest, b => by simp only [Qs.app, Qs.size, Qs.app_size rest b]; omega
theorem Qs.app_wide : ∀ (a b : Qs), (a.app b).wide = a.wide + b.wide
  | .nil, b => by simp [Qs.app, Qs.wide]
  | .cons _ _ _ _ _ rest, b => by simp only [Qs.app, Qs.wide, Qs.app_wide rest b]; omega
theorem depth_any : ∀ (n : Nat) (q : Qn), q.size < n → depth q ≤ q.size
  | 0, q, h => by omega
  | n + 1, q, h => by
    by_cases hk : q.k = 1
    · rw [depth_term hk]; exact Nat.zero_le _
    · by_cases hl : q.ps.len = 2
      · obtain ⟨a, b, htw⟩ := Qs.two_of hl
        have htw' : q.Two a b := htw
        have h1 := htw'.size
        have ha := depth_any n a (by omega)
        have hb := depth_any n b (by omega)
        have hu : up b.k ≤ 1 := by unfold up; split <;> omega
        rw [depth_two hk htw']
        omega
      · have : depth q = 0 := by
          obtain ⟨k, i, r, t, ps⟩ := q
          unfold depth depth1
          rw [if_neg hk]
          match ps, hl with
          | .nil, _ => rfl
          | .cons _ _ _ _ _ .nil, _ => rfl
          | .cons _ _ _ _ _ (.cons _ _ _ _ _ .nil), h => exact absurd rfl h
          | .cons _ _ _ _ _ (.cons _ _ _ _ _ (.cons _ _ _ _ _ _)), _ => rfl
        omega
theorem depth_le_size (q : Qn) : depth q ≤ q.size := depth_any _ q (Nat.lt_succ_self _)
theorem Qn.Two.sizes {q a b : Qn} (h : q.Two a b) : q.size = a.size + b.size + 2 ∧ q.ps.wide = a.wide + b.wide := by
  have h' : q.ps = a.push (b.push .nil) := h
  unfold Qn.size Qn.wide
  rw [h']
  simp only [Qn.push, Qs.size, Qs.wide]
  omega
end Cq
namespace Go.Sx
open Cq
theorem QC.app {I : Heap} : ∀ {ps rest : Qs} {cs zs : List Value}, cs.length = ps.len * 5 → QC I ps cs → QC I rest zs → QC I (ps.app rest) (cs ++ zs)
  | .nil, _, cs, zs, h, _, hr => by
    have : cs = [] := List.length_eq_zero_iff.1 (by simpa [Qs.len] using h)
    subst this; exact hr
  | .cons _ _ _ _ _ rest', _, _, zs, h, ⟨p, c, tl, h0, h1, h2⟩, hr => by
    subst h0
    exact ⟨p, c, tl ++ zs, rfl, h1, QC.app (by simp only [List.length_cons, Qs.len] at h; omega) h2 hr⟩
theorem QC.cut {I : Heap} : ∀ {ps : Qs} {cs : List Value}, QC I ps cs → QC I ps (cs.take (ps.len * 5)) ∧ (cs.take (ps.len * 5)).length = ps.len * 5 ∧ (cs.take (ps.len * 5)).all Value.oneCell' = true
  | .nil, cs, _ => ⟨trivial, by simp [Qs.len], by simp [Qs.len]⟩
  | .cons _ _ _ _ ps' rest, _, ⟨p, c, tl, h0, h1, h2⟩ => by
    subst h0
    obtain ⟨g1, g2, g3⟩ := QC.cut h2
    have e : (rest.len + 1) * 5 = rest.len * 5 + 1 + 1 + 1 + 1 + 1 := by omega
    simp only [Qs.len, e, List.take_succ_cons]
    exact ⟨⟨p, c, _, rfl, h1, g1⟩, by simp only [List.length_cons, g2], by simp [g3, Value.oneCell', i64, str]⟩
theorem PS.src {P : Program} {I : Heap} {ps : Qs} {p : Option Addr} (h : PS I ps p) (c : Nat) : ∃ ys, ys.length = ps.len * 5 ∧ QC I ps ys ∧ ∀ H, Src P I H 5 ps.len (.slice p ps.len c) ys := by
  rcases h with rfl | ⟨b, off, cs', T, fr, rfl, hI, hq⟩
  · exact ⟨[], rfl, trivial, fun H => Src.nil⟩
  · obtain ⟨g1, g2, g3⟩ := hq.cut
    exact ⟨_, g2, g1, fun H => Src.slice (Blk.imm hI) rfl g2 g3⟩
theorem PS.snoc {I : Heap} {ps : Qs} {x : Qn} {ys sp : List Value} {bl T : Nat} {p : Option Addr} {c : Nat} (hl : ys.length = ps.len * 5) (hq : QC I ps ys) (hx : PS I x.ps p) (h : I bl = some (cel T (ys ++ qCells x p c ++ sp))) : PS I (ps.app (x.push .nil)) (some ⟨bl, 0, none⟩) := by
  refine .inr ⟨bl, 0, _, T, (0, 0), rfl, h, ?_⟩
  rw [List.drop_zero, List.append_assoc]
  exact QC.app hl hq ⟨p, c, sp, rfl, hx, trivial⟩
theorem PS.twoS {I : Heap} {a b : Qn} {pa pb : Option Addr} {ca cb : Nat} {bl T : Nat} {sp : List Value} (ha : PS I a.ps pa) (hb : PS I b.ps pb) (h : I bl = some (cel T (qCells a pa ca ++ (qCells b pb cb ++ sp)))) : PS I (a.push (b.push .nil)) (some ⟨bl, 0, none⟩) :=
  .inr ⟨bl, 0, _, T, (0, 0), rfl, h, pa, ca, _, rfl, ha, pb, cb, _, rfl, hb, trivial⟩
theorem ten_of {l x y : List Value} {off : Nat} (h1 : (l.drop off).take 5 = x) (h2 : (l.drop (off + 5)).take 5 = y) : (l.drop off).take 10 = x ++ y := by
  rw [show (10 : Nat) = 5 + 5 from rfl, List.take_add, h1, List.drop_drop, h2]
/-- Five queries in one block. -/
def Five (I : Heap) (b : Nat) (big : Nat) : Prop := ∃ cs T fr, I b = some (.cells (List.toArray cs) T fr) ∧ ∀ j < 5, ∃ (x : Qn) (p : Option Addr) (c : Nat), (cs.drop (0 + j * 5)).take 5 = qCells x p c ∧ PS I x.ps p ∧ x.size ≤ 1000000 ∧ x.wide ≤ big
theorem Five.mono {I I' : Heap} {b big : Nat} (h : Five I b big) (hle : Le I I') : Five I' b big :=
  let ⟨cs, T, fr, h1, h2⟩ := h
  ⟨cs, T, fr, hle _ _ h1, fun j hj => let ⟨x, p, c, g1, g2, g3⟩ := h2 j hj; ⟨x, p, c, g1, g2.mono hle, g3⟩⟩
end Go.Sx
