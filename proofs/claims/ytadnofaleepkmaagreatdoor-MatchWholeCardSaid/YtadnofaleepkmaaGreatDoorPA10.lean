/-
  Own texts on the laws of match, joined: the logic, and contracts of functions. Conditions: none.
-/
import Derived.Test.YtadnofaleepkmaaGreatDoorPA9
import Derived.Test.YtadnofaleepkmaaGreatDoorPA8
import Derived.Test.YtadnofaleepkmaaGreatDoorPA7
section
namespace Go.Proofs.YtadnofaleepkmaaGreatDoor
open Go Go.Sx
theorem tmod_rng (a : Int) {m : Int} (hm : 0 < m) : -m < a.tmod m ∧ a.tmod m < m := by
  refine ⟨?_, Int.tmod_lt_of_pos a hm⟩
  have h := Int.tmod_lt_of_pos (-a) hm
  rw [Int.neg_tmod] at h
  omega
theorem goMod_eq (a : Int) {m : Int} (hm : 0 < m) : (a.tmod m + m).tmod m = a % m := by
  have h := tmod_rng a hm
  rw [Int.tmod_eq_emod_of_nonneg (by omega), Int.add_emod_right, Int.tmod_def, Int.sub_mul_emod_self_left]
/-- Rows of numbers, one cell each. -/
def intC (x : Int) : List Value := [i64 x]
theorem one_from {α : Type} {f : α → List Value} {g : α → Value} (hf : ∀ x, f x = [g x]) {cs sp : List Value} {o : Nat} {l : List α} (h : cs.drop o = l.flatMap f ++ sp) {k : Nat} {x : α} (hx : l[k]? = some x) : cs[o + k]? = some (g x) := by
  have := row_fcell (n := 1) (fun x => by rw [hf]; rfl) h hx 0 (by decide)
  rw [hf] at this
  simpa using this
def twoC (x : Int × Int) : List Value := [i64 x.1, i64 x.2]
theorem twoC_len (x : Int × Int) : (twoC x).length = 2 := rfl
def valC (x : Value) : List Value := [x]
/-- A row of rows of numbers. -/
def PartR (I : Heap) (l : List (List Int)) (v : Value) : Prop := ∃ vs, RowS valC I vs v ∧ vs.length = l.length ∧ ∀ (k : Nat) (w : Value) (x : List Int), vs[k]? = some w → l[k]? = some x → RowS intC I x w
theorem PartR.mono {I I' : Heap} {l : List (List Int)} {v : Value} (h : PartR I l v) (hle : Le I I') : PartR I' l v :=
  let ⟨vs, h1, h2, h3⟩ := h; ⟨vs, h1.mono hle, h2, fun k w x a b => (h3 k w x a b).mono hle⟩
set_option maxRecDepth 20000 in
theorem Mod_ok (a m : Int) (hm : 0 < m) (hm2 : m ≤ 1000000000000) (I : Heap) : Pure Tryz.prog 29 [i64 a, i64 m] I (i64 (a % m)) := by
 have hrg := tmod_rng a hm
 refine Ctr.of_body Tryz.func29 rfl (by decide) (Nat.le_of_ble_eq_true rfl) ?_
 intro w0 hw0
 refine Cj.seq (Cj.region (J.z (yl_assign rfl rfl) ?_))
 refine J.nil (Ej.seq (Cj.seq (Cj.region (J.z (yl_move rfl rfl) ?_))))
 refine J.z (yl_move rfl rfl) ?_
 refine J.z (yl_rem rfl rfl rfl (by omega)) ?_
 refine J.z (yl_move rfl rfl) ?_
 refine J.z (yl_add rfl rfl rfl (w64 (by omega))) ?_
 refine J.z (yl_move rfl rfl) ?_
 refine J.z (yl_rem rfl rfl rfl (by omega)) ?_
 refine J.eqv 11 rfl (show _ = i64 (a % m) from (congrArg i64 (goMod_eq a hm))) ?_
 refine J.z (yl_assign rfl rfl) ?_
 refine J.nil (Ej.seq (Cj.ret (Ej.ret1 rfl rfl rfl ?_)))
 exact ⟨rfl, rfl, rfl⟩
set_option maxRecDepth 20000 in
theorem SameI_ok (a b : List Int) (va vb : Value) (ha0 : a.length ≤ 100000000000000) (I : Heap) (ha : RowS intC I a va) (hb : RowS intC I b vb) : Pure Tryz.prog 56 [va, vb] I (.bool (decide (a = b))) := by
 obtain ⟨p, c, rfl, hc, hp⟩ := ha
 obtain ⟨q, d, rfl, hd, hq⟩ := hb
 refine Ctr.of_body Tryz.func56 rfl (by decide) (Nat.le_of_ble_eq_true rfl) ?_
 intro w0 hw0
 refine Cj.seq (Cj.region (J.z (yl_assign rfl rfl) ?_))
 refine J.nil (Ej.seq (Cj.seq (Cj.seq (Cj.region (J.z (yl_move rfl rfl) ?_)))))
 refine J.z (yl_lenSlice rfl rfl Tryz.underlying62) ?_
 refine J.z (yl_move rfl rfl) ?_
 refine J.z (yl_lenSlice rfl rfl Tryz.underlying62) ?_
 refine J.z (yl_neq rfl rfl rfl) ?_
 refine J.nil (Ej.seq (Cj.cond rfl (fun hc1 => ?_) (fun hc1 => ?_)))
 ·
  have hc1p := bne_iff_ne.1 hc1
  have hne : a.length ≠ b.length := fun e => (bne_iff_ne.1 hc1) (by rw [e])
  refine Cj.seq (Cj.region (J.z (yl_assign rfl rfl) ?_))
  refine J.nil (Ej.seq (Cj.ret (Ej.seqRet (Ej.ret1 rfl rfl rfl ?_))))
  have he : decide (a = b) = false := decide_eq_false (fun e => hne (by rw [e]))
  rw [he]
  exact ⟨rfl, rfl, rfl⟩
 ·
  have hc1p := bne_f hc1
  have hle0 : a.length = b.length := by have h := hc1; simp at h; omega
  refine Cj.skip (Ej.seq (Cj.seq (Cj.seq (Cj.region (J.z (yl_assign rfl rfl) ?_)))))
  refine J.nil (Ej.seq (Cj.block (Cj.loop (ι := Nat) (fun j => j ≤ a.length ∧ a.take j = b.take j) (fun j => a.length - j) (fun j => [(0, .slice p a.length c), (1, .slice q b.length d), (5, i64 (j : Int))]) (fun j => I) (fun j => []) 0 ⟨Nat.zero_le _, rfl⟩ ⟨rfl, rfl, rfl, trivial⟩ rfl rfl ?_)))
  rintro j ⟨hj, hsm⟩
  refine Cj.seq (Cj.seq (Cj.region (J.z (yl_move rfl rfl) ?_)))
  refine J.z (yl_move rfl rfl) ?_
  refine J.z (yl_lenSlice rfl rfl Tryz.underlying62) ?_
  refine J.z (yl_lss rfl rfl rfl) ?_
  refine J.nil (Ej.seq (Cj.cond rfl (fun hc2 => ?_) (fun hc2 => ?_)))
  ·
   have hc2p := of_decide_eq_true hc2
   have hlt : j < a.length := by omega
   obtain ⟨x, hgx⟩ : ∃ x, a[j]? = some x := ⟨_, List.getElem?_eq_getElem hlt⟩
   obtain ⟨y, hgy⟩ : ∃ y, b[j]? = some y := ⟨_, List.getElem?_eq_getElem (by omega)⟩
   obtain ⟨ab, ao, acs, aty, afr, spa, rfl, hab, had⟩ := hp (ne_nil_of hlt)
   obtain ⟨bb, bo, bcs, bty, bfr, spb, rfl, hbb, hbd⟩ := hq (ne_nil_of (k := j) (by omega))
   refine Cj.skip (Ej.seq (Cj.seq (Cj.block (Cj.seq (Cj.drawSel [] [] 9 (by kernel_rfl) ?_)))))
   refine JA.fix ⟨HSub.n, CSub.n, (Le.refl _)⟩ (fun fx3 => ?_)
   refine JA.tk 0 rfl fx3 (yl_move rfl rfl) ?_
   refine JA.tk 1 rfl fx3 (yl_move rfl rfl) ?_
   refine JA.tk 2 rfl fx3 (yl_indexAddr (off' := ao + j) rfl rfl rfl Tryz.underlying62 Tryz.sizeOf3 (by omega) (by omega) (by simp)) ?_
   refine JA.tk 3 rfl fx3 (yl_load rfl rfl Tryz.isAgg3 (Blk.immC hab) (one_from (fun _ => rfl) had hgx)) ?_
   refine JA.tk 4 rfl fx3 (yl_move rfl rfl) ?_
   refine JA.tk 5 rfl fx3 (yl_move rfl rfl) ?_
   refine JA.tk 6 rfl fx3 (yl_indexAddr (off' := bo + j) rfl rfl rfl Tryz.underlying62 Tryz.sizeOf3 (by omega) (by omega) (by simp)) ?_
   refine JA.tk 7 rfl fx3 (yl_load rfl rfl Tryz.isAgg3 (Blk.immC hbb) (one_from (fun _ => rfl) hbd hgy)) ?_
   refine JA.tk 8 rfl fx3 (yl_neq rfl rfl rfl) ?_
   refine JA.done (by kernel_rfl) ?_
   refine Ej.seq (Cj.cond rfl (fun hc4 => ?_) (fun hc4 => ?_))
   ·
    have hc4p := bne_iff_ne.1 hc4
    have hxn : x ≠ y := bne_iff_ne.1 hc4
    refine Cj.seq (Cj.region (J.z (yl_assign rfl rfl) ?_))
    refine J.nil (Ej.seq (Cj.ret (Ej.blkRet (Ej.seqRet (Ej.loopRet (Ej.blkRet (Ej.seqRet (Ej.ret1 rfl rfl rfl ?_))))))))
    have he : decide (a = b) = false := decide_eq_false (fun e => by subst e; rw [hgx] at hgy; exact hxn (Option.some.inj hgy))
    rw [he]
    exact ⟨rfl, rfl, rfl⟩
   ·
    have hc4p := bne_f hc4
    have hxy : y = x := by have h := hc4; simp at h; exact h.symm
    refine Cj.skip (Ej.blkNormal (Ej.seq (Cj.region (J.z (yl_move rfl rfl) ?_))))
    refine J.z (yl_add rfl rfl rfl (w64 (by omega))) ?_
    refine J.z (yl_assign rfl rfl) ?_
    refine J.nil (Ej.round (j + 1) ⟨by omega, take_same hsm hgx (hxy ▸ hgy)⟩ (by omega) ⟨rfl, rfl, rfl, trivial⟩ rfl rfl)
  ·
   have hc2p := of_decide_eq_false hc2
   refine Cj.exit (Ej.seqExit (Ej.loopExit (Ej.blkExit (Ej.seq (Cj.seq (Cj.region (J.z (yl_assign rfl rfl) ?_)))))))
   refine J.nil (Ej.seq (Cj.ret (Ej.ret1 rfl rfl rfl ?_)))
   have he : decide (a = b) = true := decide_eq_true (by rw [List.take_of_length_le (by omega), List.take_of_length_le (by omega)] at hsm; exact hsm)
   rw [he]
   exact ⟨rfl, rfl, rfl⟩
set_option maxRecDepth 20000 in
theorem SameParts_ok (a b : List (List Int)) (ua ub : Value) (ha0 : a.length ≤ 100000000000000) (hsz : ∀ x ∈ a, x.length ≤ 100000000000000) (I : Heap) (ha : PartR I a ua) (hb : PartR I b ub) : Pure Tryz.prog 30 [ua, ub] I (.bool (decide (a = b))) := by
 obtain ⟨va, ⟨p, c, rfl, hc, hp⟩, hla, hax⟩ := ha
 obtain ⟨vb, ⟨q, d, rfl, hd, hq⟩, hlb, hby⟩ := hb
 refine Ctr.of_body Tryz.func30 rfl (by decide) (Nat.le_of_ble_eq_true rfl) ?_
 intro w0 hw0
 refine Cj.seq (Cj.region (J.z (yl_assign rfl rfl) ?_))
 refine J.nil (Ej.seq (Cj.seq (Cj.seq (Cj.region (J.z (yl_move rfl rfl) ?_)))))
 refine J.z (yl_lenSlice rfl rfl Tryz.underlying59) ?_
 refine J.z (yl_move rfl rfl) ?_
 refine J.z (yl_lenSlice rfl rfl Tryz.underlying59) ?_
 refine J.z (yl_neq rfl rfl rfl) ?_
 refine J.nil (Ej.seq (Cj.cond rfl (fun hc1 => ?_) (fun hc1 => ?_)))
 ·
  have hc1p := bne_iff_ne.1 hc1
  have hne : a.length ≠ b.length := fun e => (bne_iff_ne.1 hc1) (by rw [hla, hlb, e])
  refine Cj.seq (Cj.region (J.z (yl_assign rfl rfl) ?_))
  refine J.nil (Ej.seq (Cj.ret (Ej.seqRet (Ej.ret1 rfl rfl rfl ?_))))
  have he : decide (a = b) = false := decide_eq_false (fun e => hne (by rw [e]))
  rw [he]
  exact ⟨rfl, rfl, rfl⟩
 ·
  have hc1p := bne_f hc1
  have hle0 : a.length = b.length := by have h := hc1; simp at h; omega
  refine Cj.skip (Ej.seq (Cj.seq (Cj.seq (Cj.region (J.z (yl_assign rfl rfl) ?_)))))
  refine J.nil (Ej.seq (Cj.block (Cj.loop (ι := Nat) (fun j => j ≤ a.length ∧ a.take j = b.take j) (fun j => a.length - j) (fun j => [(0, .slice p va.length c), (1, .slice q vb.length d), (5, i64 (j : Int))]) (fun j => I) (fun j => []) 0 ⟨Nat.zero_le _, rfl⟩ ⟨rfl, rfl, rfl, trivial⟩ rfl rfl ?_)))
  rintro j ⟨hj, hsm⟩
  refine Cj.seq (Cj.seq (Cj.region (J.z (yl_move rfl rfl) ?_)))
  refine J.z (yl_move rfl rfl) ?_
  refine J.z (yl_lenSlice rfl rfl Tryz.underlying59) ?_
  refine J.z (yl_lss rfl rfl rfl) ?_
  refine J.nil (Ej.seq (Cj.cond rfl (fun hc2 => ?_) (fun hc2 => ?_)))
  ·
   have hc2p := of_decide_eq_true hc2
   have hlt : j < a.length := by omega
   obtain ⟨x, hgx⟩ : ∃ x, a[j]? = some x := ⟨_, List.getElem?_eq_getElem hlt⟩
   obtain ⟨y, hgy⟩ : ∃ y, b[j]? = some y := ⟨_, List.getElem?_eq_getElem (by omega)⟩
   obtain ⟨wx, hwx⟩ : ∃ x, va[j]? = some x := ⟨_, List.getElem?_eq_getElem (by omega)⟩
   obtain ⟨wy, hwy⟩ : ∃ y, vb[j]? = some y := ⟨_, List.getElem?_eq_getElem (by omega)⟩
   obtain ⟨ab, ao, acs, aty, afr, spa, rfl, hab, had⟩ := hp (ne_nil_of (k := j) (by omega))
   obtain ⟨bb, bo, bcs, bty, bfr, spb, rfl, hbb, hbd⟩ := hq (ne_nil_of (k := j) (by omega))
   have hrx := hax j wx x hwx hgx
   have hry := hby j wy y hwy hgy
   have hxl := hsz x (List.mem_of_getElem? hgx)
   refine Cj.skip (Ej.seq (Cj.seq (Cj.block (Cj.seq (Cj.drawSel [] [] 10 (by kernel_rfl) ?_)))))
   have hab_6 := hab
   have hbb_6 := hbb
   refine JA.fix ⟨HSub.n, CSub.n, (Le.refl _)⟩ (fun fx3 => ?_)
   refine JA.tk 0 rfl fx3 (yl_move rfl rfl) ?_
   refine JA.tk 1 rfl fx3 (yl_move rfl rfl) ?_
   refine JA.tk 2 rfl fx3 (yl_indexAddr (off' := ao + j) rfl rfl rfl Tryz.underlying59 Tryz.sizeOf62 (by omega) (by omega) (by simp)) ?_
   refine JA.tk 3 rfl fx3 (yl_load rfl rfl Tryz.isAgg62 (Blk.immC hab_6) (one_from (g := id) (fun _ => rfl) had hwx)) ?_
   refine JA.tk 4 rfl fx3 (yl_move rfl rfl) ?_
   refine JA.tk 5 rfl fx3 (yl_move rfl rfl) ?_
   refine JA.tk 6 rfl fx3 (yl_indexAddr (off' := bo + j) rfl rfl rfl Tryz.underlying59 Tryz.sizeOf62 (by omega) (by omega) (by simp)) ?_
   refine JA.tk 7 rfl fx3 (yl_load rfl rfl Tryz.isAgg62 (Blk.immC hbb_6) (one_from (g := id) (fun _ => rfl) hbd hwy)) ?_
   refine JA.step 8 (by kernel_rfl) rfl rfl (op_pure rfl rfl rfl rfl rfl (SameI_ok x y _ _ hxl _ hrx hry) ?_)
   refine ⟨⟨(Le.refl _), HSub.n, CSub.n⟩, ?_⟩
   refine JA.fix ⟨HSub.n, CSub.n, (Le.refl _)⟩ (fun fx4 => ?_)
   refine JA.tk 9 rfl fx4 (yl_not rfl rfl) ?_
   refine JA.done (by kernel_rfl) ?_
   refine Ej.seq (Cj.cond rfl (fun hc5 => ?_) (fun hc5 => ?_))
   ·
    have hxn : x ≠ y := by have h := hc5; simpa using h
    refine Cj.seq (Cj.region (J.z (yl_assign rfl rfl) ?_))
    refine J.nil (Ej.seq (Cj.ret (Ej.blkRet (Ej.seqRet (Ej.loopRet (Ej.blkRet (Ej.seqRet (Ej.ret1 rfl rfl rfl ?_))))))))
    have he : decide (a = b) = false := decide_eq_false (fun e => by subst e; rw [hgx] at hgy; exact hxn (Option.some.inj hgy))
    rw [he]
    exact ⟨rfl, rfl, rfl⟩
   ·
    have hxy : y = x := by have h := hc5; simp at h; exact h.symm
    refine Cj.skip (Ej.blkNormal (Ej.seq (Cj.region (J.z (yl_move rfl rfl) ?_))))
    refine J.z (yl_add rfl rfl rfl (w64 (by omega))) ?_
    refine J.z (yl_assign rfl rfl) ?_
    refine J.nil (Ej.round (j + 1) ⟨by omega, take_same hsm hgx (hxy ▸ hgy)⟩ (by omega) ⟨rfl, rfl, rfl, trivial⟩ rfl rfl)
  ·
   have hc2p := of_decide_eq_false hc2
   refine Cj.exit (Ej.seqExit (Ej.loopExit (Ej.blkExit (Ej.seq (Cj.seq (Cj.region (J.z (yl_assign rfl rfl) ?_)))))))
   refine J.nil (Ej.seq (Cj.ret (Ej.ret1 rfl rfl rfl ?_)))
   have he : decide (a = b) = true := decide_eq_true (by rw [List.take_of_length_le (by omega), List.take_of_length_le (by omega)] at hsm; exact hsm)
   rw [he]
   exact ⟨rfl, rfl, rfl⟩
set_option maxRecDepth 20000 in
theorem SamePairs_ok (a b : List (Int × Int)) (va vb : Value) (ha0 : a.length ≤ 100000000000000) (I : Heap) (ha : RowS twoC I a va) (hb : RowS twoC I b vb) : Pure Tryz.prog 26 [va, vb] I (.bool (decide (a = b))) := by
 obtain ⟨p, c, rfl, hc, hp⟩ := ha
 obtain ⟨q, d, rfl, hd, hq⟩ := hb
 refine Ctr.of_body Tryz.func26 rfl (by decide) (Nat.le_of_ble_eq_true rfl) ?_
 intro w0 hw0
 refine Cj.seq (Cj.region (J.z (yl_assign rfl rfl) ?_))
 refine J.nil (Ej.seq (Cj.seq (Cj.seq (Cj.region (J.z (yl_move rfl rfl) ?_)))))
 refine J.z (yl_lenSlice rfl rfl Tryz.underlying53) ?_
 refine J.z (yl_move rfl rfl) ?_
 refine J.z (yl_lenSlice rfl rfl Tryz.underlying53) ?_
 refine J.z (yl_neq rfl rfl rfl) ?_
 refine J.nil (Ej.seq (Cj.cond rfl (fun hc1 => ?_) (fun hc1 => ?_)))
 ·
  have hc1p := bne_iff_ne.1 hc1
  have hne : a.length ≠ b.length := fun e => (bne_iff_ne.1 hc1) (by rw [e])
  refine Cj.seq (Cj.region (J.z (yl_assign rfl rfl) ?_))
  refine J.nil (Ej.seq (Cj.ret (Ej.seqRet (Ej.ret1 rfl rfl rfl ?_))))
  have he : decide (a = b) = false := decide_eq_false (fun e => hne (by rw [e]))
  rw [he]
  exact ⟨rfl, rfl, rfl⟩
 ·
  have hc1p := bne_f hc1
  have hle0 : a.length = b.length := by have h := hc1; simp at h; omega
  refine Cj.skip (Ej.seq (Cj.seq (Cj.seq (Cj.region (J.z (yl_assign rfl rfl) ?_)))))
  refine J.nil (Ej.seq (Cj.block (Cj.loop (ι := Nat) (fun j => j ≤ a.length ∧ a.take j = b.take j) (fun j => a.length - j) (fun j => [(0, .slice p a.length c), (1, .slice q b.length d), (5, i64 (j : Int))]) (fun j => I) (fun j => []) 0 ⟨Nat.zero_le _, rfl⟩ ⟨rfl, rfl, rfl, trivial⟩ rfl rfl ?_)))
  rintro j ⟨hj, hsm⟩
  refine Cj.seq (Cj.seq (Cj.region (J.z (yl_move rfl rfl) ?_)))
  refine J.z (yl_move rfl rfl) ?_
  refine J.z (yl_lenSlice rfl rfl Tryz.underlying53) ?_
  refine J.z (yl_lss rfl rfl rfl) ?_
  refine J.nil (Ej.seq (Cj.cond rfl (fun hc2 => ?_) (fun hc2 => ?_)))
  ·
   have hc2p := of_decide_eq_true hc2
   have hlt : j < a.length := by omega
   obtain ⟨x, hgx⟩ : ∃ x, a[j]? = some x := ⟨_, List.getElem?_eq_getElem hlt⟩
   obtain ⟨y, hgy⟩ : ∃ y, b[j]? = some y := ⟨_, List.getElem?_eq_getElem (by omega)⟩
   obtain ⟨ab, ao, acs, aty, afr, spa, rfl, hab, had⟩ := hp (ne_nil_of hlt)
   obtain ⟨bb, bo, bcs, bty, bfr, spb, rfl, hbb, hbd⟩ := hq (ne_nil_of (k := j) (by omega))
   refine Cj.skip (Ej.seq (Cj.seq (Cj.block (Cj.seq (Cj.drawSel [] [] 9 (by kernel_rfl) ?_)))))
   refine JA.fix ⟨HSub.n, CSub.n, (Le.refl _)⟩ (fun fx3 => ?_)
   refine JA.tk 0 rfl fx3 (yl_move rfl rfl) ?_
   refine JA.tk 1 rfl fx3 (yl_move rfl rfl) ?_
   refine JA.tk 2 rfl fx3 (yl_indexAddr (off' := ao + j * 2) rfl rfl rfl Tryz.underlying53 Tryz.sizeOf56 (by omega) (by omega) (by simp)) ?_
   refine JA.tk 3 rfl fx3 (yl_loadAgg rfl rfl Tryz.isAgg56 Tryz.sizeOf56 (Blk.immC hab) (row_from twoC_len had hgx) rfl) ?_
   refine JA.tk 4 rfl fx3 (yl_move rfl rfl) ?_
   refine JA.tk 5 rfl fx3 (yl_move rfl rfl) ?_
   refine JA.tk 6 rfl fx3 (yl_indexAddr (off' := bo + j * 2) rfl rfl rfl Tryz.underlying53 Tryz.sizeOf56 (by omega) (by omega) (by simp)) ?_
   refine JA.tk 7 rfl fx3 (yl_loadAgg rfl rfl Tryz.isAgg56 Tryz.sizeOf56 (Blk.immC hbb) (row_from twoC_len hbd hgy) rfl) ?_
   refine JA.tk 8 rfl fx3 (yl_neqA2 (a := x) (b := y) rfl rfl rfl rfl rfl Tryz.underlying56 Tryz.underlying3 (by kernel_rfl) Tryz.isAgg3 (by kernel_rfl)) ?_
   refine JA.done (by kernel_rfl) ?_
   refine Ej.seq (Cj.cond rfl (fun hc4 => ?_) (fun hc4 => ?_))
   ·
    have hc4p := bne_iff_ne.1 hc4
    have hxn : x ≠ y := bne_iff_ne.1 hc4
    refine Cj.seq (Cj.region (J.z (yl_assign rfl rfl) ?_))
    refine J.nil (Ej.seq (Cj.ret (Ej.blkRet (Ej.seqRet (Ej.loopRet (Ej.blkRet (Ej.seqRet (Ej.ret1 rfl rfl rfl ?_))))))))
    have he : decide (a = b) = false := decide_eq_false (fun e => by subst e; rw [hgx] at hgy; exact hxn (Option.some.inj hgy))
    rw [he]
    exact ⟨rfl, rfl, rfl⟩
   ·
    have hc4p := bne_f hc4
    have hxy : y = x := by have h := hc4; simp at h; exact h.symm
    refine Cj.skip (Ej.blkNormal (Ej.seq (Cj.region (J.z (yl_move rfl rfl) ?_))))
    refine J.z (yl_add rfl rfl rfl (w64 (by omega))) ?_
    refine J.z (yl_assign rfl rfl) ?_
    refine J.nil (Ej.round (j + 1) ⟨by omega, take_same hsm hgx (hxy ▸ hgy)⟩ (by omega) ⟨rfl, rfl, rfl, trivial⟩ rfl rfl)
  ·
   have hc2p := of_decide_eq_false hc2
   refine Cj.exit (Ej.seqExit (Ej.loopExit (Ej.blkExit (Ej.seq (Cj.seq (Cj.region (J.z (yl_assign rfl rfl) ?_)))))))
   refine J.nil (Ej.seq (Cj.ret (Ej.ret1 rfl rfl rfl ?_)))
   have he : decide (a = b) = true := decide_eq_true (by rw [List.take_of_length_le (by omega), List.take_of_length_le (by omega)] at hsm; exact hsm)
   rw [he]
   exact ⟨rfl, rfl, rfl⟩
set_option maxRecDepth 20000 in
theorem field_ok (tag ind text : List UInt8) (I : Heap) : Ctr Tryz.prog 33 [str tag, str ind, str text] I [] (fun e I' H' => ∃ sv, e = .returned (.agg (fldC ⟨tag, ind, [], sv, [⟨97, text⟩]⟩).toArray) ∧ RowS subC I' [⟨97, text⟩] sv ∧ H' = []) := by
 refine Ctr.of_body Tryz.func33 rfl (by decide) (Nat.le_of_ble_eq_true rfl) ?_
 intro w0 hw0
 refine Cj.seq (Cj.region (J.op rfl (op_alloc rfl rfl rfl Tryz.zeroValue35 rfl ?_)))
 intro b1 hb1
 refine J.nil (Ej.seq (Cj.seq (Cj.region (J.z (yl_move rfl rfl) ?_))))
 refine J.z (yl_move rfl rfl) ?_
 refine J.z (yl_move rfl rfl) ?_
 refine J.z (yl_buildS (pl := #[(0, 1), (1, 1)]) rfl rfl Tryz.zeroValue47 rfl Tryz.underlying47 (fun w => by simp [Tryz.sizeOf5, Tryz.sizeOf9]) (LBld.part rfl rfl rfl (LSpl.c LSpl.z) (LBld.part rfl rfl rfl (LSpl.s (LSpl.c LSpl.z)) LBld.none))) ?_
 refine J.op rfl (op_buildSlice rfl rfl rfl Tryz.underlying33 Tryz.sizeOf47 Tryz.zeroValue47 rfl rfl rfl rfl (LCat.agg rfl LCat.none) ?_)
 intro b2 hb2
 refine J.z (yl_buildS (pl := #[(0, 1), (1, 1), (2, 1), (3, 1)]) rfl rfl Tryz.zeroValue35 rfl Tryz.underlying35 (fun w => by simp [Tryz.sizeOf33, Tryz.sizeOf9]) (LBld.part rfl rfl rfl (LSpl.c LSpl.z) (LBld.part rfl rfl rfl (LSpl.s (LSpl.c LSpl.z)) (LBld.part rfl rfl rfl (LSpl.s (LSpl.s (LSpl.s (LSpl.c LSpl.z)))) LBld.none)))) ?_
 refine J.op rfl (op_store 1 rfl rfl rfl rfl rfl rfl Tryz.sizeOf35 rfl rfl (LSpl.c (LSpl.c (LSpl.c (LSpl.c LSpl.z)))) (LSet.s LSet.z) ?_)
 refine J.nil (Ej.seq (Cj.ret (Ej.pull Pull.z ?_)))
 refine Ej.persist hb2 (fun I9 hle9 hbi => ?_)
 refine Ej.retC (Keeps.d Keeps.n) rfl rfl rfl (Blk.at 0 rfl) Tryz.isAgg35 Tryz.sizeOf35 rfl ?_
 exact ⟨_, rfl, RowS.of (l := [(⟨97, text⟩ : Ke.Sub)]) (sp := []) (Nat.le_refl _) hbi, rfl⟩
end Go.Proofs.YtadnofaleepkmaaGreatDoor
end
section
namespace Go.Proofs.YtadnofaleepkmaaGreatDoor
open Go Go.Sx
/-- Rows of numbers that are not negative, one cell each. -/
abbrev natC (x : Nat) : List Value := [i64 (x : Int)]
theorem natC_len (x : Nat) : (natC x).length = 1 := rfl
theorem valC_len (x : Value) : (valC x).length = 1 := rfl
theorem imin (p q : Int) : (if q < p then q else p) = min p q := by rcases Int.lt_or_le q p with h | h <;> (first | rw [if_pos h] | rw [if_neg (by omega)]) <;> omega
theorem imax (p q : Int) : (if q > p then q else p) = max p q := by rcases Int.lt_or_le p q with h | h <;> (first | rw [if_pos h] | rw [if_neg (by omega)]) <;> omega
theorem nmin (p q : Nat) : (if (q : Int) < (p : Int) then (q : Int) else (p : Int)) = ((min p q : Nat) : Int) := by rw [imin]; omega
theorem nmax (p q : Nat) : (if (q : Int) > (p : Int) then (q : Int) else (p : Int)) = ((max p q : Nat) : Int) := by rw [imax]; omega
theorem ntop (n : Int) : (if (0 : Int) > n then (0 : Int) else n) = ((n.toNat : Nat) : Int) := by rw [imax]; omega
theorem RowS.cast {α β : Type} {f : α → List Value} {g : β → List Value} {c : α → β} (h : ∀ x, g (c x) = f x) {I : Heap} {l : List α} {v : Value} (hr : RowS f I l v) : RowS g I (l.map c) v := by
  obtain ⟨p, k, rfl, hk, hp⟩ := hr
  refine ⟨p, k, by rw [List.length_map], by rw [List.length_map]; exact hk, fun hn => ?_⟩
  obtain ⟨b, o, cs, t, fr, sp, h1, h2, h3⟩ := hp (fun e => hn (by rw [e]; rfl))
  refine ⟨b, o, cs, t, fr, sp, h1, h2, ?_⟩
  rw [h3, List.flatMap_map]
  congr 2
  funext x; exact (h x).symm
/-- The first ones are set. -/
theorem fill_next {n j : Nat} (h : j < n) : ((List.range j).map nat64 ++ List.replicate (n - j) (i64 0)).set j (i64 (j : Int)) = (List.range (j + 1)).map nat64 ++ List.replicate (n - (j + 1)) (i64 0) := by
  rw [List.set_append_right _ _ (by simp), show n - j = n - (j + 1) + 1 by omega, List.replicate_succ, List.length_map, List.length_range, Nat.sub_self, List.set_cons_zero, List.range_succ, List.map_append, List.append_assoc]
  rfl
theorem valid_next {N : Nat} {ps : List (Int × Int)} {k : Nat} {x : Int × Int} (h : ps[k]? = some x) : Kp.valid N (ps.take (k + 1)) = Kp.valid N (ps.take k) ++ if 0 ≤ x.1 ∧ x.1 < (N : Int) ∧ 0 ≤ x.2 ∧ x.2 < (N : Int) then [(x.1.toNat, x.2.toNat)] else [] := by
  obtain ⟨hlt, hg⟩ := List.getElem?_eq_some_iff.1 h
  unfold Kp.valid
  rw [List.take_succ_eq_append_getElem hlt, hg, List.filterMap_append]
  congr 1
  split <;> simp_all
theorem valid_mem {N : Nat} {ps : List (Int × Int)} {a b : Nat} (h : ((a : Int), (b : Int)) ∈ ps) (ha : a < N) (hb : b < N) : (a, b) ∈ Kp.valid N ps :=
  List.mem_filterMap.2 ⟨_, h, by dsimp only; rw [if_pos (by omega)]; rfl⟩
/-- The roots of the first numbers. -/
def rts (R : Nat → Nat) (k : Nat) : List Nat := (List.range k).filter fun i => decide (R i = i)
def prt (R : Nat → Nat) (k r : Nat) : List Nat := (List.range k).filter fun i => decide (R i = r)
theorem rts_next (R : Nat → Nat) (k : Nat) : rts R (k + 1) = rts R k ++ if R k = k then [k] else [] := by
  unfold rts
  rw [List.range_succ, List.filter_append]
  by_cases h : R k = k <;> simp [h]
theorem prt_next (R : Nat → Nat) (k r : Nat) : prt R (k + 1) r = prt R k r ++ if R k = r then [k] else [] := by
  unfold prt
  rw [List.range_succ, List.filter_append]
  by_cases h : R k = r <;> simp [h]
theorem rts_len (R : Nat → Nat) (k : Nat) : (rts R k).length ≤ k := by
  have := List.length_filter_le (fun i => decide (R i = i)) (List.range k)
  rw [List.length_range] at this; exact this
theorem prt_len (R : Nat → Nat) (k r : Nat) : (prt R k r).length ≤ k := by
  have := List.length_filter_le (fun i => decide (R i = r)) (List.range k)
  rw [List.length_range] at this; exact this
/-- The parts that pairs connect. -/
def partsI (n : Int) (ps : List (Int × Int)) : List (List Int) := (Kp.parts n.toNat (Kp.lb n.toNat (Kp.valid n.toNat ps))).map fun l => l.map fun x : Nat => (x : Int)
theorem parts_row {N : Nat} {V : Kp.Prs} {R : Nat → Nat} (hR : Kp.Lab N V R) (hV : ∀ p ∈ V, p.1 < N ∧ p.2 < N) {I : Heap} {val : Nat → Value} {w : Value} (hw : RowS valC I ((rts R N).map val) w) (hv : ∀ r, RowS natC I (prt R N r) (val r)) : PartR I ((Kp.parts N (Kp.lb N V)).map fun l => l.map fun x : Nat => (x : Int)) w := by
  rw [Kp.parts_eq (n := N) (L := Kp.lb N V) (M := R) fun i hi => (Kp.lb_lab hV).unique hR hi]
  refine ⟨_, hw, by simp [Kp.parts, rts], fun k u x hu hx => ?_⟩
  have hp : Kp.parts N R = (rts R N).map fun i => prt R N i := rfl
  rw [hp, List.map_map, List.getElem?_map] at hx
  rw [List.getElem?_map] at hu
  cases hk : (rts R N)[k]? with
  | none => rw [hk] at hu; cases hu
  | some i =>
    rw [hk] at hu hx
    cases hu; cases hx
    exact RowS.cast (fun _ => rfl) (hv i)
theorem fam_next {F : Fam Int Nat} {R : Nat → Nat} {k r : Nat} {xs : List Nat} (hfg : fget F ((R k : Nat) : Int) = xs) (hm : ∀ r : Nat, fget F (r : Int) = prt R k r) : (if ((r : Int) == ((R k : Nat) : Int)) = true then xs ++ [k] else fget F (r : Int)) = prt R k r ++ if R k = r then [k] else [] := by
  by_cases h : R k = r
  · subst h; rw [if_pos (by simp), if_pos rfl, ← hfg, hm]
  · rw [if_neg (by rw [beq_iff_eq]; omega), if_neg h, List.append_nil, hm]
theorem val_flat (vs : List Value) : vs.flatMap valC = vs := by
  induction vs with
  | nil => rfl
  | cons a r ih => rw [List.flatMap_cons, ih]; rfl
set_option maxRecDepth 20000 in
set_option maxHeartbeats 2000000 in
theorem Parts_ok (n : Int) (hn : n ≤ 100000) (ps : List (Int × Int)) (hps : ps.length ≤ 100000000) (v : Value) (I : Heap) (hr : RowS twoC I ps v) : Ctr Tryz.prog 31 [i64 n, v] I [] (fun e I' H' => ∃ w, e = .returned w ∧ PartR I' (partsI n ps) w ∧ H' = []) := by
 obtain ⟨p, c, rfl, hc, -⟩ := id hr
 unfold partsI
 obtain ⟨N, hN⟩ : ∃ N, N = n.toNat := ⟨_, rfl⟩
 rw [← hN]
 obtain ⟨V, hV⟩ : ∃ V, V = Kp.valid N ps := ⟨_, rfl⟩
 rw [← hV]
 have hVl : ∀ p ∈ V, p.1 < N ∧ p.2 < N := fun p hp => Kp.valid_lt (hV ▸ hp)
 refine Ctr.of_body Tryz.func31 rfl (by decide) (Nat.le_of_ble_eq_true rfl) ?_
 intro w0 hw0
 refine Cj.seq (Cj.region (J.z (yl_assign rfl rfl) ?_))
 refine J.nil (Ej.seq (Cj.seq (Cj.region (J.z (yl_move rfl rfl) ?_))))
 refine J.z (yl_max2 rfl rfl rfl) ?_
 refine J.eqv 17 rfl (show _ = i64 (N : Int) from (by rw [hN]; exact congrArg i64 (ntop n))) ?_
 refine J.op rfl (op_makeSlice (n := N) (c := N) (by1 := 8) (z := (.int .i64 0)) rfl rfl rfl rfl rfl Tryz.underlying62 (by kernel_rfl) rfl (by omega) (by omega) (by omega) ?_)
 intro b1 hb1
 refine J.op rfl (op_alloc rfl rfl rfl Tryz.zeroValue62 rfl ?_)
 intro b2 hb2
 refine J.op rfl (op_store 0 rfl rfl rfl rfl rfl rfl Tryz.sizeOf62 rfl rfl (LSpl.c LSpl.z) LSet.z ?_)
 refine J.nil (Ej.seq (Cj.seq (Cj.seq (Cj.region (J.z (yl_load rfl rfl Tryz.isAgg62 (Blk.at 0 rfl) rfl) ?_)))))
 refine J.z (yl_lenSlice rfl rfl Tryz.underlying62) ?_
 refine J.z (yl_move rfl rfl) ?_
 refine J.nil (Ej.seq (Cj.block (Cj.loop (ι := Nat) (fun j => j ≤ N) (fun j => N - j) (fun j => [(0, i64 n), (1, .slice p ps.length c), (5, ptr b2 0), (20, i64 (N : Int)), (21, i64 (j : Int))]) (fun j => I) (fun j => [(b2, cel 62 [.slice (some ⟨b1, 0, none⟩) N N]), (b1, cel 3 ((List.range j).map nat64 ++ List.replicate (N - j) (i64 0)))]) 0 (Nat.zero_le _) ⟨rfl, rfl, rfl, rfl, rfl, trivial⟩ rfl rfl ?_)))
 rintro j hj
 refine Cj.seq (Cj.region (J.z (yl_lss rfl rfl rfl) ?_))
 refine J.nil (Ej.seq (Cj.seq (Cj.cond rfl (fun hc3 => ?_) (fun hc3 => ?_))))
 ·
  have hc3p := of_decide_eq_true hc3
  refine Cj.skip (Ej.seq (Cj.seq (Cj.block (Cj.seq (Cj.region (J.z (yl_move rfl rfl) ?_))))))
  refine J.z (yl_assign rfl rfl) ?_
  refine J.nil (Ej.seq (Cj.region (J.z (yl_load rfl rfl Tryz.isAgg62 (Blk.at 0 rfl) rfl) ?_)))
  refine J.z (yl_move rfl rfl) ?_
  refine J.z (yl_move rfl rfl) ?_
  refine J.z (yl_indexAddr (off' := j) rfl rfl rfl Tryz.underlying62 Tryz.sizeOf3 (by omega) (by omega) (by simp)) ?_
  refine J.op rfl (op_store1 1 rfl rfl rfl rfl rfl rfl Tryz.sizeOf3 rfl (.inl rfl) (by simp; omega) (LSet.s LSet.z) ?_)
  refine J.nil (Ej.blkNormal (Ej.seq (Cj.region (J.z (yl_add rfl rfl rfl (w64 (by omega))) ?_))))
  refine J.z (yl_move rfl rfl) ?_
  refine J.nil (Ej.round (j + 1) (by omega) (by omega) ⟨rfl, rfl, rfl, rfl, rfl, trivial⟩ rfl (by rw [← fill_next (by omega)]; rfl))
 ·
  have hc3p := of_decide_eq_false hc3
  have hfull : (List.range j).map nat64 ++ List.replicate (N - j) (i64 0) = (List.range N).map nat64 := by rw [show j = N by omega, Nat.sub_self]; simp
  refine Cj.exit (Ej.seqExit (Ej.loopExit (Ej.blkExit (Ej.seq (Cj.seq (Cj.region (J.op rfl (op_alloc rfl rfl rfl Tryz.zeroValue97 rfl ?_))))))))
  intro b4 hb4
  refine J.nil (Ej.seq (Cj.seq (Cj.region (J.z (yl_makeFunc rfl rfl rfl) ?_))))
  refine J.op rfl (op_store 0 rfl rfl rfl rfl rfl rfl Tryz.sizeOf97 rfl rfl (LSpl.c LSpl.z) LSet.z ?_)
  refine J.nil (Ej.seq (Cj.seq (Cj.seq (Cj.pull (Pull.s Pull.z) ?_))))
  refine Cj.persist hb2 (fun I6 hle5 hb2i => ?_)
  have hr := hr.mono hle5
  refine Cj.persist hb4 (fun I8 hle7 hb4i => ?_)
  have hr := hr.mono hle7
  have hb2i := hle7 _ _ hb2i
  refine Cj.region (J.z (yl_move rfl rfl) ?_)
  refine J.z (yl_lenSlice rfl rfl Tryz.underlying53) ?_
  refine J.z (yl_move rfl rfl) ?_
  refine J.nil (Ej.seq (Cj.block (Cj.loop (ι := Nat × List Nat) (fun y => y.1 ≤ ps.length ∧ Kp.For N V y.2 ∧ Kp.Joined (Kp.valid N (ps.take y.1)) y.2) (fun y => ps.length - y.1) (fun y => [(0, i64 n), (5, ptr b2 0), (7, ptr b4 0), (30, .slice p ps.length c), (31, i64 (ps.length : Int)), (32, i64 (y.1 : Int))]) (fun y => _) (fun y => [(b1, cel 3 (y.2.map nat64))]) (0, List.range N) ⟨Nat.zero_le _, Kp.For.start N V, fun q hq => by cases hq⟩ ⟨rfl, rfl, rfl, rfl, rfl, rfl, trivial⟩ rfl (by dsimp only; rw [hfull]) ?_)))
  rintro ⟨k, P⟩ ⟨hk, hF, hJ⟩
  dsimp only at hk hF hJ ⊢
  refine Cj.seq (Cj.region (J.z (yl_lss rfl rfl rfl) ?_))
  refine J.nil (Ej.seq (Cj.seq (Cj.cond rfl (fun hc9 => ?_) (fun hc9 => ?_))))
  ·
   have hc9p := of_decide_eq_true hc9
   have hlt : k < ps.length := by omega
   obtain ⟨⟨x1, x2⟩, hget⟩ : ∃ x, ps[k]? = some x := ⟨_, List.getElem?_eq_getElem hlt⟩
   obtain ⟨pp, pc, hpe, hpc, hpp⟩ := id hr
   cases hpe
   obtain ⟨pb, po, pcs, pty, pfr, psp, rfl, hpb, hpd⟩ := hpp (ne_nil_of hlt)
   have hvn := valid_next (N := N) hget
   refine Cj.skip (Ej.seq (Cj.seq (Cj.block (Cj.seq (Cj.region (J.z (yl_indexAddr (off' := po + k * 2) rfl rfl rfl Tryz.underlying53 Tryz.sizeOf56 (by omega) (by omega) (by simp)) ?_))))))
   refine J.z (yl_loadAgg rfl rfl Tryz.isAgg56 Tryz.sizeOf56 (Blk.imm hpb) (row_from twoC_len hpd hget) rfl) ?_
   refine J.op rfl (op_alloc rfl rfl rfl Tryz.zeroValue56 rfl ?_)
   intro b10 hb10
   refine J.op rfl (op_store 0 rfl rfl rfl rfl rfl rfl Tryz.sizeOf56 rfl rfl (LSpl.c (LSpl.c LSpl.z)) LSet.z ?_)
   refine J.nil (Ej.seq (Cj.seq (Cj.seq (Cj.region (J.z (yl_indexArr (off' := 0) rfl rfl rfl Tryz.underlying56 Tryz.sizeOf3 (by decide) (by decide) (by decide)) ?_)))))
   refine J.z (yl_load rfl rfl Tryz.isAgg3 (Blk.at 0 rfl) rfl) ?_
   refine J.z (yl_indexArr (off' := 1) rfl rfl rfl Tryz.underlying56 Tryz.sizeOf3 (by decide) (by decide) (by decide)) ?_
   refine J.z (yl_load rfl rfl Tryz.isAgg3 (Blk.at 0 rfl) rfl) ?_
   refine J.z (yl_min2 rfl rfl rfl) ?_
   refine J.eqv 40 rfl (show _ = i64 (min x1 x2) from (congrArg i64 (imin x1 x2))) ?_
   refine J.z (yl_lss rfl rfl rfl) ?_
   refine J.z (yl_move rfl rfl) ?_
   refine J.split 42 rfl (fun hg11 => ?_) (fun hg11 => ?_)
   ·
    have hg11p := of_decide_eq_true hg11
    dsimp only at hvn
    rw [if_neg (by omega)] at hvn
    refine J.skip 6 42 43 false _ rfl rfl rfl hg11 rfl rfl ?_
    refine J.skip 6 42 44 false _ rfl rfl rfl hg11 rfl rfl ?_
    refine J.skip 6 42 45 false _ rfl rfl rfl hg11 rfl rfl ?_
    refine J.skip 6 42 46 false _ rfl rfl rfl hg11 rfl rfl ?_
    refine J.skip 6 42 47 false _ rfl rfl rfl hg11 rfl rfl ?_
    refine J.skip 6 42 48 false _ rfl rfl rfl hg11 rfl rfl ?_
    refine J.skip 6 42 49 false _ rfl rfl rfl hg11 rfl rfl ?_
    refine J.z (yl_pick1 rfl rfl hg11 rfl) ?_
    refine J.nil (Ej.seq (Cj.cond rfl (fun hc12 => ?_) (fun hc12 => Bool.noConfusion (Eq.trans (Eq.symm rfl) hc12))))
    refine Cj.exit (Ej.seqExit (Ej.blkExit (Ej.seq (Cj.region (J.z (yl_add rfl rfl rfl (w64 (by omega))) ?_)))))
    refine J.z (yl_move rfl rfl) ?_
    refine J.nil (Ej.keep (Keeps.d (Keeps.k Keeps.n)) ?_)
    refine Ej.round (k + 1, P) ⟨by dsimp only; omega, hF, by dsimp only; rw [hvn, List.append_nil]; exact hJ⟩ (by dsimp only; omega) ⟨rfl, rfl, rfl, rfl, rfl, rfl, trivial⟩ rfl rfl
   ·
    have hg11p := of_decide_eq_false hg11
    refine J.opG 6 42 false _ rfl rfl rfl hg11 (op_yld (yl_indexArr (off' := 0) rfl rfl rfl Tryz.underlying56 Tryz.sizeOf3 (by decide) (by decide) (by decide)) rfl rfl ?_)
    refine J.opG 6 42 false _ rfl rfl rfl hg11 (op_yld (yl_load rfl rfl Tryz.isAgg3 (Blk.at 0 rfl) rfl) rfl rfl ?_)
    refine J.opG 6 42 false _ rfl rfl rfl hg11 (op_yld (yl_indexArr (off' := 1) rfl rfl rfl Tryz.underlying56 Tryz.sizeOf3 (by decide) (by decide) (by decide)) rfl rfl ?_)
    refine J.opG 6 42 false _ rfl rfl rfl hg11 (op_yld (yl_load rfl rfl Tryz.isAgg3 (Blk.at 0 rfl) rfl) rfl rfl ?_)
    refine J.opG 6 42 false _ rfl rfl rfl hg11 (op_yld (yl_max2 rfl rfl rfl) rfl rfl ?_)
    refine J.eqv 47 rfl (show _ = i64 (max x1 x2) from (congrArg i64 (imax x1 x2))) ?_
    refine J.opG 6 42 false _ rfl rfl rfl hg11 (op_yld (yl_move rfl rfl) rfl rfl ?_)
    refine J.opG 6 42 false _ rfl rfl rfl hg11 (op_yld (yl_geq rfl rfl rfl) rfl rfl ?_)
    refine J.z (yl_pick0 rfl rfl hg11 rfl) ?_
    refine J.nil (Ej.seq (Cj.cond rfl (fun hc13 => ?_) (fun hc13 => ?_)))
    ·
     have hc13p := of_decide_eq_true hc13
     dsimp only at hvn
     rw [if_neg (by omega)] at hvn
     refine Cj.exit (Ej.seqExit (Ej.blkExit (Ej.seq (Cj.region (J.z (yl_add rfl rfl rfl (w64 (by omega))) ?_)))))
     refine J.z (yl_move rfl rfl) ?_
     refine J.nil (Ej.keep (Keeps.d (Keeps.k Keeps.n)) ?_)
     refine Ej.round (k + 1, P) ⟨by dsimp only; omega, hF, by dsimp only; rw [hvn, List.append_nil]; exact hJ⟩ (by dsimp only; omega) ⟨rfl, rfl, rfl, rfl, rfl, rfl, trivial⟩ rfl rfl
    ·
     have hc13p := of_decide_eq_false hc13
     obtain ⟨a, ha⟩ : ∃ a : Nat, x1 = (a : Int) := ⟨x1.toNat, by omega⟩
     obtain ⟨b, hb⟩ : ∃ b : Nat, x2 = (b : Int) := ⟨x2.toNat, by omega⟩
     subst ha; subst hb
     have haN : a < N := by omega
     have hbN : b < N := by omega
     dsimp only at hvn
     rw [if_pos (by omega), Int.toNat_natCast, Int.toNat_natCast] at hvn
     have hab : (a, b) ∈ V := by rw [hV]; exact valid_mem (List.mem_of_getElem? hget) haN hbN
     refine Cj.skip (Ej.seq (Cj.seq (Cj.drawSel [0] [] 10 (by kernel_rfl) ?_)))
     have hb2i_13 := hb2i
     have hb4i_13 := hb4i
     have hpb_13 := hpb
     refine JA.fix ⟨(HSub.c 0 rfl HSub.n), CSub.n, (Le.refl _)⟩ (fun fx14 => ?_)
     refine JA.tk 0 rfl fx14 (yl_load rfl rfl Tryz.isAgg97 (Blk.immC hb4i_13) rfl) ?_
     refine JA.tk 1 rfl fx14 (yl_indexArr (off' := 0) rfl rfl rfl Tryz.underlying56 Tryz.sizeOf3 (by decide) (by decide) (by decide)) ?_
     refine JA.tk 2 rfl fx14 (yl_load rfl rfl Tryz.isAgg3 (Blk.atC 0 rfl) rfl) ?_
     refine JA.tk 4 rfl fx14 (yl_load rfl rfl Tryz.isAgg97 (Blk.immC hb4i_13) rfl) ?_
     refine JA.tk 5 rfl fx14 (yl_indexArr (off' := 1) rfl rfl rfl Tryz.underlying56 Tryz.sizeOf3 (by decide) (by decide) (by decide)) ?_
     refine JA.tk 6 rfl fx14 (yl_load rfl rfl Tryz.isAgg3 (Blk.atC 0 rfl) rfl) ?_
     refine JA.pull (Pull.s Pull.z) ?_
     refine JA.step 3 (by kernel_rfl) rfl rfl (op_call (H1 := [_]) rfl rfl rfl rfl rfl (root_ok _ _ b2 b4 b1 (by omega) _ hb2i hb4i a P (by omega) hF) ?_ (fun _ _ _ _ h => by obtain ⟨_, _, h, _⟩ := h; cases h) (fun _ _ h => by obtain ⟨_, _, h, _⟩ := h; cases h))
     intro v15 I16 H17 hle18 hp19
     have hr := hr.mono hle18
     have hb2i := hle18 _ _ hb2i
     have hb4i := hle18 _ _ hb4i
     have hpb := hle18 _ _ hpb
     obtain ⟨P1, hI, h, hF1, hR1, rfl⟩ := hp19; cases h; subst hI
     refine ⟨⟨(Le.trans (Le.refl _) hle18), (HSub.c 1 rfl HSub.n), CSub.n⟩, ?_⟩
     refine JA.pull Pull.z ?_
     refine JA.step 7 (by kernel_rfl) rfl rfl (op_call (H1 := [_]) rfl rfl rfl rfl rfl (root_ok _ _ b2 b4 b1 (by omega) _ hb2i hb4i b P1 (by omega) hF1) ?_ (fun _ _ _ _ h => by obtain ⟨_, _, h, _⟩ := h; cases h) (fun _ _ h => by obtain ⟨_, _, h, _⟩ := h; cases h))
     intro v20 I21 H22 hle23 hp24
     have hr := hr.mono hle23
     have hb2i := hle23 _ _ hb2i
     have hb4i := hle23 _ _ hb4i
     have hpb := hle23 _ _ hpb
     obtain ⟨P2, hI, h, hF2, hR2, rfl⟩ := hp24; cases h; subst hI
     refine ⟨⟨(Le.trans (Le.trans (Le.refl _) hle18) hle23), (HSub.c 1 rfl HSub.n), CSub.n⟩, ?_⟩
     refine JA.fix ⟨(HSub.c 1 rfl HSub.n), CSub.n, (Le.trans (Le.trans (Le.refl _) hle18) hle23)⟩ (fun fx25 => ?_)
     refine JA.tk 8 rfl fx25 (yl_assign rfl rfl) ?_
     refine JA.tk 9 rfl fx25 (yl_assign rfl rfl) ?_
     refine JA.done (by kernel_rfl) ?_
     refine Ej.seq ?_
     have e1 : Kp.rootOf P a = Kp.rootOf P2 a := by rw [hR2, hR1]
     have e2 : Kp.rootOf P1 b = Kp.rootOf P2 b := (hR2 b).symm
     rw [e1, e2]
     have hJ2 : Kp.Joined (Kp.valid N (ps.take k)) P2 := fun q hq => by rw [hR2, hR1, hR2, hR1]; exact hJ q hq
     have hl1 := Kp.rootOf_le P2 a
     have hl2 := Kp.rootOf_le P2 b
     refine Cj.region (J.z (yl_load rfl rfl Tryz.isAgg62 (Blk.imm hb2i) rfl) ?_)
     refine J.z (yl_move rfl rfl) ?_
     refine J.z (yl_move rfl rfl) ?_
     refine J.z (yl_max2 rfl rfl rfl) ?_
     refine J.eqv 62 rfl (show _ = i64 ((max (Kp.rootOf P2 a) (Kp.rootOf P2 b) : Nat) : Int) from (congrArg i64 (nmax _ _))) ?_
     refine J.z (yl_move rfl rfl) ?_
     refine J.z (yl_move rfl rfl) ?_
     refine J.z (yl_min2 rfl rfl rfl) ?_
     refine J.eqv 65 rfl (show _ = i64 ((min (Kp.rootOf P2 a) (Kp.rootOf P2 b) : Nat) : Int) from (congrArg i64 (nmin _ _))) ?_
     refine J.z (yl_indexAddr (off' := max (Kp.rootOf P2 a) (Kp.rootOf P2 b)) rfl rfl rfl Tryz.underlying62 Tryz.sizeOf3 (by omega) (by omega) (by simp)) ?_
     refine J.op rfl (op_store1 0 rfl rfl rfl rfl rfl rfl Tryz.sizeOf3 rfl (.inl rfl) (by rw [List.length_map, hF2.len]; omega) LSet.z ?_)
     refine J.nil (Ej.blkNormal (Ej.seq (Cj.region (J.z (yl_add rfl rfl rfl (w64 (by omega))) ?_))))
     refine J.z (yl_move rfl rfl) ?_
     refine J.nil (Ej.keep (Keeps.k (Keeps.d Keeps.n)) ?_)
     refine Ej.round (k + 1, P2.set (max (Kp.rootOf P2 a) (Kp.rootOf P2 b)) (min (Kp.rootOf P2 a) (Kp.rootOf P2 b))) ⟨by dsimp only; omega, hF2.join haN hbN hab, by dsimp only; rw [hvn]; exact Kp.joined_next hF2 haN hbN hJ2⟩ (by dsimp only; omega) ⟨rfl, rfl, rfl, rfl, rfl, rfl, trivial⟩ rfl (by dsimp only; rw [List.map_set]; rfl)
  ·
   have hc9p := of_decide_eq_false hc9
   have hvt : Kp.valid N (ps.take k) = V := by rw [hV, List.take_of_length_le (by omega)]
   rw [hvt] at hJ
   obtain ⟨P0, hP0⟩ : ∃ P0, P0 = P := ⟨_, rfl⟩
   subst hP0
   have hF0 := hF
   have hJ0 := hJ
   refine Cj.exit (Ej.seqExit (Ej.loopExit (Ej.blkExit (Ej.seq (Cj.seq (Cj.region (J.op rfl (op_makeMap rfl rfl rfl ?_))))))))
   intro b26 hb26
   refine J.z (yl_assign rfl rfl) ?_
   refine J.nil (Ej.seq (Cj.seq (Cj.region (J.z (yl_assign rfl rfl) ?_))))
   refine J.nil (Ej.seq (Cj.seq (Cj.seq (Cj.region (J.z (yl_load rfl rfl Tryz.isAgg62 (Blk.imm hb2i) rfl) ?_)))))
   refine J.z (yl_lenSlice rfl rfl Tryz.underlying62) ?_
   refine J.z (yl_move rfl rfl) ?_
   refine J.nil (Ej.seq (Cj.block (Cj.loop (ι := Nat × List Nat × ML Int × Nat × Fam Int Nat) (fun y => y.1 ≤ N ∧ Kp.For N V y.2.1 ∧ (∀ j, Kp.rootOf y.2.1 j = Kp.rootOf P0 j) ∧ FamS w0.heap.size 1 natC y.2.2.1 y.2.2.2.2 ∧ ∀ r : Nat, fget y.2.2.2.2 (r : Int) = prt (Kp.rootOf P0) y.1 r) (fun y => N - y.1) (fun y => [(5, ptr b2 0), (7, ptr b4 0), (12, .map (some b26)), (13, .slice none 0 0), (70, i64 (N : Int)), (71, i64 (y.1 : Int))]) (fun y => _) (fun y => (b26, mobj (fun a : Int => Value.int .i64 a) y.2.2.1 y.2.2.2.1) :: (b1, cel 3 (y.2.1.map nat64)) :: famH 3 natC y.2.2.2.2) (0, P0, [], 0, []) ⟨Nat.zero_le _, hF, fun _ => rfl, FamS.nil, fun _ => rfl⟩ ⟨rfl, rfl, rfl, rfl, rfl, rfl, trivial⟩ rfl rfl ?_)))
   rintro ⟨k, P, l, cc, Fm⟩ ⟨hk, hF, hR0, hfam, hmem⟩
   dsimp only at hk hF hR0 hfam hmem ⊢
   refine Cj.seq (Cj.region (J.z (yl_lss rfl rfl rfl) ?_))
   refine J.nil (Ej.seq (Cj.seq (Cj.cond rfl (fun hc27 => ?_) (fun hc27 => ?_))))
   ·
    have hc27p := of_decide_eq_true hc27
    refine Cj.skip (Ej.seq (Cj.seq (Cj.block (Cj.seq (Cj.region (J.z (yl_move rfl rfl) ?_))))))
    refine J.z (yl_assign rfl rfl) ?_
    refine J.nil (Ej.seq (Cj.drawSel [0] [] 12 (by kernel_rfl) ?_))
    have hb2i_21 := hb2i
    have hb4i_21 := hb4i
    refine JA.fix ⟨(HSub.c 0 rfl HSub.n), CSub.n, (Le.refl _)⟩ (fun fx28 => ?_)
    refine JA.tk 0 rfl fx28 (yl_move rfl rfl) ?_
    refine JA.tk 1 rfl fx28 (yl_load rfl rfl Tryz.isAgg97 (Blk.immC hb4i_21) rfl) ?_
    refine JA.tk 2 rfl fx28 (yl_move rfl rfl) ?_
    refine JA.tk 4 rfl fx28 (yl_move rfl rfl) ?_
    refine JA.tk 5 rfl fx28 (yl_load rfl rfl Tryz.isAgg97 (Blk.immC hb4i_21) rfl) ?_
    refine JA.tk 6 rfl fx28 (yl_move rfl rfl) ?_
    refine JA.tk 9 rfl fx28 (yl_move rfl rfl) ?_
    refine JA.all [3, 10] (by kernel_rfl) (by simp) ?_
    intro i hi
    simp only [List.mem_cons, List.not_mem_nil, or_false] at hi
    rcases hi with rfl | rfl
    ·
     refine ⟨_, rfl, rfl, ?_⟩
     refine OpJ.pull (Pull.s Pull.z) ?_
     refine op_call (H1 := [_]) rfl rfl rfl rfl rfl (root_ok _ _ b2 b4 b1 (by omega) _ hb2i hb4i k P (by omega) hF) ?_ (fun _ _ _ _ h => by obtain ⟨_, _, h, _⟩ := h; cases h) (fun _ _ h => by obtain ⟨_, _, h, _⟩ := h; cases h)
     intro v29 I30 H31 hle32 hp33
     have hr := hr.mono hle32
     have hb2i := hle32 _ _ hb2i
     have hb4i := hle32 _ _ hb4i
     obtain ⟨P1, hI, h, hF1, hR1, rfl⟩ := hp33; cases h; subst hI
     refine ⟨⟨(Le.trans (Le.refl _) hle32), (HSub.c 1 rfl HSub.n), CSub.n⟩, ?_⟩
     refine JA.eqv 77 rfl (show _ = i64 ((Kp.rootOf P0 k : Nat) : Int) from (by rw [hR0])) ?_
     refine JA.all [7, 10] (by kernel_rfl) (by simp) ?_
     intro i hi
     simp only [List.mem_cons, List.not_mem_nil, or_false] at hi
     rcases hi with rfl | rfl
     ·
      refine ⟨_, rfl, rfl, ?_⟩
      refine OpJ.pull Pull.z ?_
      refine op_call (H1 := [_]) rfl rfl rfl rfl rfl (root_ok _ _ b2 b4 b1 (by omega) _ hb2i hb4i k P1 (by omega) hF1) ?_ (fun _ _ _ _ h => by obtain ⟨_, _, h, _⟩ := h; cases h) (fun _ _ h => by obtain ⟨_, _, h, _⟩ := h; cases h)
      intro v34 I35 H36 hle37 hp38
      have hr := hr.mono hle37
      have hb2i := hle37 _ _ hb2i
      have hb4i := hle37 _ _ hb4i
      obtain ⟨P2, hI, h, hF2, hR2, rfl⟩ := hp38; cases h; subst hI
      refine ⟨⟨(Le.trans (Le.trans (Le.refl _) hle32) hle37), (HSub.c 1 rfl HSub.n), CSub.n⟩, ?_⟩
      refine JA.eqv 81 rfl (show _ = i64 ((Kp.rootOf P0 k : Nat) : Int) from (by rw [hR1, hR0])) ?_
      obtain ⟨F1, F2, xs, gx, hout, hval, hgx, hfg, hback⟩ := hfam.out 3 ((Kp.rootOf P0 k : Nat) : Int)
      have hxl : xs.length ≤ k := by rw [← hfg, hmem]; exact prt_len _ _ _
      refine JA.fix ⟨(HSub.c 1 rfl HSub.n), CSub.n, (Le.trans (Le.trans (Le.refl _) hle32) hle37)⟩ (fun fx39 => ?_)
      refine JA.tk 8 rfl fx39 (yl_lookup1 (kv := (fun a : Int => Value.int .i64 a)) (l := l) (a := ((Kp.rootOf P0 k : Nat) : Int)) rfl rfl rfl rfl Tryz.underlying98 (KeyK.int Tryz.underlying3) Tryz.zeroValue62 (Blk.atC 0 rfl)) ?_
      refine JA.eqv 82 rfl (show _ = gV xs.length gx from hval) ?_
      refine JA.step 10 (by kernel_rfl) rfl rfl (op_buildSlice rfl rfl rfl Tryz.underlying62 Tryz.sizeOf3 Tryz.zeroValue3 rfl rfl rfl rfl (LCat.one rfl LCat.none) ?_)
      intro b40 hb40
      refine ⟨⟨(Le.trans (Le.trans (Le.refl _) hle32) hle37), (HSub.c 2 rfl HSub.n), CSub.n⟩, ?_⟩
      refine JA.perm (hout [_, _, _]) ?_
      refine JA.step 11 (by kernel_rfl) rfl rfl (op_append (by' := 7) ([_, _, _] ++ famH _ _ _) rfl rfl rfl rfl rfl Tryz.underlying62 (.inr ⟨_, Tryz.underlying62⟩) (by kernel_rfl) Tryz.sizeOf3 Tryz.zeroValue3 rfl hgx rfl (Src.slice (Blk.at 0 rfl) rfl rfl rfl) (by omega) ?_)
      intro g41 hg41
      refine ⟨⟨(Le.trans (Le.trans (Le.refl _) hle32) hle37), (HSub.c 2 rfl HSub.n), CSub.n⟩, ?_⟩
      refine JA.last 12 (by kernel_rfl) rfl rfl rfl (op_insert (kv := (fun a : Int => Value.int .i64 a)) (a := ((Kp.rootOf P0 k : Nat) : Int)) 2 (.inr rfl) rfl rfl rfl rfl rfl Tryz.underlying98 (KeyK.int Tryz.underlying3) rfl (LSet.s (LSet.s LSet.z)) ?_)
      refine JA.done (by kernel_rfl) ?_
      refine Ej.blkNormal (Ej.seq (Cj.region (J.z (yl_add rfl rfl rfl (w64 (by omega))) ?_)))
      refine J.z (yl_move rfl rfl) ?_
      refine J.nil ?_
      obtain ⟨F9, hfam9, hget9, hperm9⟩ := hback k g41 cc hg41
      refine Ej.perm (hperm9 [_, _, _]) ?_
      refine Ej.keep (Keeps.d (Keeps.k (Keeps.k Keeps.r))) ?_
      refine Ej.pull Pull.z ?_
      refine Ej.pull (Pull.s Pull.z) ?_
      refine Ej.round (k + 1, P2, mset l ((Kp.rootOf P0 k : Nat) : Int) (gV (xs.length + 1) g41) cc, mclk l ((Kp.rootOf P0 k : Nat) : Int) cc, F9) ⟨by dsimp only; omega, hF2, fun j => by rw [hR2, hR1]; exact hR0 j, hfam9, fun r => by dsimp only; rw [hget9, prt_next]; exact fam_next hfg hmem⟩ (by dsimp only; omega) ⟨rfl, rfl, rfl, rfl, rfl, rfl, trivial⟩ rfl rfl
     ·
      refine ⟨_, rfl, rfl, ?_⟩
      refine op_buildSlice rfl rfl rfl Tryz.underlying62 Tryz.sizeOf3 Tryz.zeroValue3 rfl rfl rfl rfl (LCat.one rfl LCat.none) ?_
      intro b42 hb42
      refine ⟨⟨(Le.trans (Le.refl _) hle32), (HSub.c 2 rfl HSub.n), CSub.n⟩, ?_⟩
      refine JA.pull (Pull.s Pull.z) ?_
      refine JA.step 7 (by kernel_rfl) rfl rfl (op_call (H1 := [_]) rfl rfl rfl rfl rfl (root_ok _ _ b2 b4 b1 (by omega) _ hb2i hb4i k P1 (by omega) hF1) ?_ (fun _ _ _ _ h => by obtain ⟨_, _, h, _⟩ := h; cases h) (fun _ _ h => by obtain ⟨_, _, h, _⟩ := h; cases h))
      intro v43 I44 H45 hle46 hp47
      have hr := hr.mono hle46
      have hb2i := hle46 _ _ hb2i
      have hb4i := hle46 _ _ hb4i
      obtain ⟨P2, hI, h, hF2, hR2, rfl⟩ := hp47; cases h; subst hI
      refine ⟨⟨(Le.trans (Le.trans (Le.refl _) hle32) hle46), (HSub.c 2 rfl HSub.n), CSub.n⟩, ?_⟩
      refine JA.eqv 81 rfl (show _ = i64 ((Kp.rootOf P0 k : Nat) : Int) from (by rw [hR1, hR0])) ?_
      obtain ⟨F1, F2, xs, gx, hout, hval, hgx, hfg, hback⟩ := hfam.out 3 ((Kp.rootOf P0 k : Nat) : Int)
      have hxl : xs.length ≤ k := by rw [← hfg, hmem]; exact prt_len _ _ _
      refine JA.fix ⟨(HSub.c 2 rfl HSub.n), CSub.n, (Le.trans (Le.trans (Le.refl _) hle32) hle46)⟩ (fun fx48 => ?_)
      refine JA.tk 8 rfl fx48 (yl_lookup1 (kv := (fun a : Int => Value.int .i64 a)) (l := l) (a := ((Kp.rootOf P0 k : Nat) : Int)) rfl rfl rfl rfl Tryz.underlying98 (KeyK.int Tryz.underlying3) Tryz.zeroValue62 (Blk.atC 0 rfl)) ?_
      refine JA.eqv 82 rfl (show _ = gV xs.length gx from hval) ?_
      refine JA.perm (hout [_, _, _]) ?_
      refine JA.step 11 (by kernel_rfl) rfl rfl (op_append (by' := 7) ([_, _, _] ++ famH _ _ _) rfl rfl rfl rfl rfl Tryz.underlying62 (.inr ⟨_, Tryz.underlying62⟩) (by kernel_rfl) Tryz.sizeOf3 Tryz.zeroValue3 rfl hgx rfl (Src.slice (Blk.at 1 rfl) rfl rfl rfl) (by omega) ?_)
      intro g49 hg49
      refine ⟨⟨(Le.trans (Le.trans (Le.refl _) hle32) hle46), (HSub.c 2 rfl HSub.n), CSub.n⟩, ?_⟩
      refine JA.last 12 (by kernel_rfl) rfl rfl rfl (op_insert (kv := (fun a : Int => Value.int .i64 a)) (a := ((Kp.rootOf P0 k : Nat) : Int)) 2 (.inr rfl) rfl rfl rfl rfl rfl Tryz.underlying98 (KeyK.int Tryz.underlying3) rfl (LSet.s (LSet.s LSet.z)) ?_)
      refine JA.done (by kernel_rfl) ?_
      refine Ej.blkNormal (Ej.seq (Cj.region (J.z (yl_add rfl rfl rfl (w64 (by omega))) ?_)))
      refine J.z (yl_move rfl rfl) ?_
      refine J.nil ?_
      obtain ⟨F9, hfam9, hget9, hperm9⟩ := hback k g49 cc hg49
      refine Ej.perm (hperm9 [_, _, _]) ?_
      refine Ej.keep (Keeps.k (Keeps.d (Keeps.k Keeps.r))) ?_
      refine Ej.pull Pull.z ?_
      refine Ej.pull (Pull.s Pull.z) ?_
      refine Ej.round (k + 1, P2, mset l ((Kp.rootOf P0 k : Nat) : Int) (gV (xs.length + 1) g49) cc, mclk l ((Kp.rootOf P0 k : Nat) : Int) cc, F9) ⟨by dsimp only; omega, hF2, fun j => by rw [hR2, hR1]; exact hR0 j, hfam9, fun r => by dsimp only; rw [hget9, prt_next]; exact fam_next hfg hmem⟩ (by dsimp only; omega) ⟨rfl, rfl, rfl, rfl, rfl, rfl, trivial⟩ rfl rfl
    ·
     refine ⟨_, rfl, rfl, ?_⟩
     refine op_buildSlice rfl rfl rfl Tryz.underlying62 Tryz.sizeOf3 Tryz.zeroValue3 rfl rfl rfl rfl (LCat.one rfl LCat.none) ?_
     intro b50 hb50
     refine ⟨⟨(Le.refl _), (HSub.c 1 rfl HSub.n), CSub.n⟩, ?_⟩
     refine JA.pull (Pull.s (Pull.s Pull.z)) ?_
     refine JA.step 3 (by kernel_rfl) rfl rfl (op_call (H1 := [_]) rfl rfl rfl rfl rfl (root_ok _ _ b2 b4 b1 (by omega) _ hb2i hb4i k P (by omega) hF) ?_ (fun _ _ _ _ h => by obtain ⟨_, _, h, _⟩ := h; cases h) (fun _ _ h => by obtain ⟨_, _, h, _⟩ := h; cases h))
     intro v51 I52 H53 hle54 hp55
     have hr := hr.mono hle54
     have hb2i := hle54 _ _ hb2i
     have hb4i := hle54 _ _ hb4i
     obtain ⟨P1, hI, h, hF1, hR1, rfl⟩ := hp55; cases h; subst hI
     refine ⟨⟨(Le.trans (Le.refl _) hle54), (HSub.c 2 rfl HSub.n), CSub.n⟩, ?_⟩
     refine JA.eqv 77 rfl (show _ = i64 ((Kp.rootOf P0 k : Nat) : Int) from (by rw [hR0])) ?_
     refine JA.pull Pull.z ?_
     refine JA.step 7 (by kernel_rfl) rfl rfl (op_call (H1 := [_]) rfl rfl rfl rfl rfl (root_ok _ _ b2 b4 b1 (by omega) _ hb2i hb4i k P1 (by omega) hF1) ?_ (fun _ _ _ _ h => by obtain ⟨_, _, h, _⟩ := h; cases h) (fun _ _ h => by obtain ⟨_, _, h, _⟩ := h; cases h))
     intro v56 I57 H58 hle59 hp60
     have hr := hr.mono hle59
     have hb2i := hle59 _ _ hb2i
     have hb4i := hle59 _ _ hb4i
     obtain ⟨P2, hI, h, hF2, hR2, rfl⟩ := hp60; cases h; subst hI
     refine ⟨⟨(Le.trans (Le.trans (Le.refl _) hle54) hle59), (HSub.c 2 rfl HSub.n), CSub.n⟩, ?_⟩
     refine JA.eqv 81 rfl (show _ = i64 ((Kp.rootOf P0 k : Nat) : Int) from (by rw [hR1, hR0])) ?_
     obtain ⟨F1, F2, xs, gx, hout, hval, hgx, hfg, hback⟩ := hfam.out 3 ((Kp.rootOf P0 k : Nat) : Int)
     have hxl : xs.length ≤ k := by rw [← hfg, hmem]; exact prt_len _ _ _
     refine JA.fix ⟨(HSub.c 2 rfl HSub.n), CSub.n, (Le.trans (Le.trans (Le.refl _) hle54) hle59)⟩ (fun fx61 => ?_)
     refine JA.tk 8 rfl fx61 (yl_lookup1 (kv := (fun a : Int => Value.int .i64 a)) (l := l) (a := ((Kp.rootOf P0 k : Nat) : Int)) rfl rfl rfl rfl Tryz.underlying98 (KeyK.int Tryz.underlying3) Tryz.zeroValue62 (Blk.atC 0 rfl)) ?_
     refine JA.eqv 82 rfl (show _ = gV xs.length gx from hval) ?_
     refine JA.perm (hout [_, _, _]) ?_
     refine JA.step 11 (by kernel_rfl) rfl rfl (op_append (by' := 7) ([_, _, _] ++ famH _ _ _) rfl rfl rfl rfl rfl Tryz.underlying62 (.inr ⟨_, Tryz.underlying62⟩) (by kernel_rfl) Tryz.sizeOf3 Tryz.zeroValue3 rfl hgx rfl (Src.slice (Blk.at 1 rfl) rfl rfl rfl) (by omega) ?_)
     intro g62 hg62
     refine ⟨⟨(Le.trans (Le.trans (Le.refl _) hle54) hle59), (HSub.c 2 rfl HSub.n), CSub.n⟩, ?_⟩
     refine JA.last 12 (by kernel_rfl) rfl rfl rfl (op_insert (kv := (fun a : Int => Value.int .i64 a)) (a := ((Kp.rootOf P0 k : Nat) : Int)) 2 (.inr rfl) rfl rfl rfl rfl rfl Tryz.underlying98 (KeyK.int Tryz.underlying3) rfl (LSet.s (LSet.s LSet.z)) ?_)
     refine JA.done (by kernel_rfl) ?_
     refine Ej.blkNormal (Ej.seq (Cj.region (J.z (yl_add rfl rfl rfl (w64 (by omega))) ?_)))
     refine J.z (yl_move rfl rfl) ?_
     refine J.nil ?_
     obtain ⟨F9, hfam9, hget9, hperm9⟩ := hback k g62 cc hg62
     refine Ej.perm (hperm9 [_, _, _]) ?_
     refine Ej.keep (Keeps.k (Keeps.d (Keeps.k Keeps.r))) ?_
     refine Ej.pull Pull.z ?_
     refine Ej.pull (Pull.s Pull.z) ?_
     refine Ej.round (k + 1, P2, mset l ((Kp.rootOf P0 k : Nat) : Int) (gV (xs.length + 1) g62) cc, mclk l ((Kp.rootOf P0 k : Nat) : Int) cc, F9) ⟨by dsimp only; omega, hF2, fun j => by rw [hR2, hR1]; exact hR0 j, hfam9, fun r => by dsimp only; rw [hget9, prt_next]; exact fam_next hfg hmem⟩ (by dsimp only; omega) ⟨rfl, rfl, rfl, rfl, rfl, rfl, trivial⟩ rfl rfl
   ·
    have hc27p := of_decide_eq_false hc27
    refine Cj.exit (Ej.seqExit (Ej.loopExit (Ej.blkExit (Ej.seq (Cj.seq (Cj.seq ?_))))))
    have hkN : N = k := by omega
    subst hkN
    refine Cj.perm (H' := famH _ _ _ ++ [_, _]) List.perm_append_comm ?_
    refine Cj.keepFam natC_len (by decide) Fm _ hfam.ok (fun I9 hle9 hall => ?_)
    have hr := hr.mono hle9
    have hb2i := hle9 _ _ hb2i
    have hb4i := hle9 _ _ hb4i
    have hrow : ∀ r : Nat, RowS natC I9 (prt (Kp.rootOf P0) N r) ((mget l ((r : Nat) : Int)).getD (.slice none 0 0)) := fun r => (hmem r) ▸ hfam.row hall ((r : Nat) : Int)
    refine Cj.region (J.z (yl_load rfl rfl Tryz.isAgg62 (Blk.imm hb2i) rfl) ?_)
    refine J.z (yl_lenSlice rfl rfl Tryz.underlying62) ?_
    refine J.z (yl_move rfl rfl) ?_
    refine J.nil (Ej.seq (Cj.block (Cj.loop (ι := Nat × List Nat × Gs) (fun y => y.1 ≤ N ∧ Kp.For N V y.2.1 ∧ (∀ j, Kp.rootOf y.2.1 j = Kp.rootOf P0 j) ∧ gOk w0.heap.size 1 (rts (Kp.rootOf P0) y.1).length ((rts (Kp.rootOf P0) y.1).map (fun i : Nat => (mget l ((i : Nat) : Int)).getD (.slice none 0 0))) y.2.2) (fun y => N - y.1) (fun y => [(5, ptr b2 0), (7, ptr b4 0), (12, .map (some b26)), (13, gV (rts (Kp.rootOf P0) y.1).length y.2.2), (88, i64 (N : Int)), (89, i64 (y.1 : Int))]) (fun y => _) (fun y => (b26, mobj (fun a : Int => Value.int .i64 a) l cc) :: (b1, cel 3 (y.2.1.map nat64)) :: gH 62 ((rts (Kp.rootOf P0) y.1).map (fun i : Nat => (mget l ((i : Nat) : Int)).getD (.slice none 0 0))) y.2.2) (0, P, none) ⟨Nat.zero_le _, hF, hR0, rfl, rfl⟩ ⟨rfl, rfl, rfl, rfl, rfl, rfl, trivial⟩ rfl rfl ?_)))
    rintro ⟨m, P, g⟩ ⟨hm, hF, hR0, hg⟩
    dsimp only at hm hF hR0 hg ⊢
    have hrl := rts_len (Kp.rootOf P0) m
    refine Cj.seq (Cj.region (J.z (yl_lss rfl rfl rfl) ?_))
    refine J.nil (Ej.seq (Cj.seq (Cj.cond rfl (fun hc63 => ?_) (fun hc63 => ?_))))
    ·
     have hc63p := of_decide_eq_true hc63
     refine Cj.skip (Ej.seq (Cj.seq (Cj.block (Cj.seq (Cj.region (J.z (yl_move rfl rfl) ?_))))))
     refine J.z (yl_assign rfl rfl) ?_
     refine J.nil (Ej.seq (Cj.seq (Cj.region (J.z (yl_load rfl rfl Tryz.isAgg97 (Blk.imm hb4i) rfl) ?_))))
     refine J.z (yl_move rfl rfl) ?_
     refine J.pull (Pull.s Pull.z) ?_
     refine J.op rfl (op_call (H1 := [_]) rfl rfl rfl rfl rfl (root_ok _ _ b2 b4 b1 (by omega) _ hb2i hb4i m P (by omega) hF) ?_ (fun _ _ _ _ h => by obtain ⟨_, _, h, _⟩ := h; cases h) (fun _ _ h => by obtain ⟨_, _, h, _⟩ := h; cases h))
     intro v64 I65 H66 hle67 hp68
     have hr := hr.mono hle67
     have hb2i := hle67 _ _ hb2i
     have hb4i := hle67 _ _ hb4i
     obtain ⟨P1, hI, h, hF1, hR1, rfl⟩ := hp68; cases h; subst hI
     refine J.eqv 94 rfl (show _ = i64 ((Kp.rootOf P0 m : Nat) : Int) from (by rw [hR0])) ?_
     refine J.z (yl_move rfl rfl) ?_
     refine J.z (yl_eql rfl rfl rfl) ?_
     refine J.nil (Ej.seq (Cj.cond rfl (fun hc69 => ?_) (fun hc69 => ?_)))
     ·
      have hc69p := eq_of_beq hc69
      have hrt : Kp.rootOf P0 m = m := by have h := eq_of_beq hc69; omega
      obtain ⟨xp, xc, hxv, -⟩ := id (hrow m)
      refine Cj.region (J.z (yl_move rfl rfl) ?_)
      refine J.z (yl_move rfl rfl) ?_
      refine J.z (yl_move rfl rfl) ?_
      refine J.z (yl_lookup1 (kv := (fun a : Int => Value.int .i64 a)) (l := l) (a := ((m : Nat) : Int)) rfl rfl rfl rfl Tryz.underlying98 (KeyK.int Tryz.underlying3) Tryz.zeroValue62 (Blk.at 1 rfl)) ?_
      refine J.eqv 100 rfl (show _ = .slice xp _ xc from hxv) ?_
      refine J.op rfl (op_buildSlice rfl rfl rfl Tryz.underlying59 Tryz.sizeOf62 Tryz.zeroValue62 rfl rfl rfl rfl (LCat.one rfl LCat.none) ?_)
      intro b70 hb70
      refine J.op rfl (op_append (by' := 23) [_, _, _] rfl rfl rfl rfl rfl Tryz.underlying59 (.inr ⟨_, Tryz.underlying59⟩) (by kernel_rfl) Tryz.sizeOf62 Tryz.zeroValue62 rfl hg rfl (Src.slice (Blk.at 0 rfl) rfl rfl rfl) (by omega) ?_)
      intro g71 hg71
      refine J.z (yl_assign rfl rfl) ?_
      refine J.nil (Ej.blkNormal (Ej.seq (Cj.region (J.z (yl_add rfl rfl rfl (w64 (by omega))) ?_))))
      refine J.z (yl_move rfl rfl) ?_
      refine J.nil (Ej.keep (Keeps.d (Keeps.k (Keeps.k Keeps.r))) ?_)
      refine Ej.pull Pull.z ?_
      refine Ej.pull (Pull.s Pull.z) ?_
      refine Ej.round (m + 1, P1, g71) ⟨by dsimp only; omega, hF1, fun j => by rw [hR1]; exact hR0 j, by dsimp only; rw [rts_next, if_pos hrt, List.length_append, List.map_append]; rw [← hxv] at hg71; exact hg71⟩ (by dsimp only; omega) ⟨rfl, rfl, rfl, by dsimp only; rw [rts_next, if_pos hrt, List.length_append]; rfl, rfl, rfl, trivial⟩ rfl (by dsimp only; rw [rts_next, if_pos hrt, List.map_append, ← hxv]; rfl)
     ·
      have hc69p := ne_of_beq_false hc69
      have hrt : Kp.rootOf P0 m ≠ m := fun e => ne_of_beq_false hc69 (by rw [e])
      refine Cj.skip (Ej.blkNormal (Ej.seq (Cj.region (J.z (yl_add rfl rfl rfl (w64 (by omega))) ?_))))
      refine J.z (yl_move rfl rfl) ?_
      refine J.nil (Ej.keep (Keeps.k (Keeps.k Keeps.r)) ?_)
      refine Ej.pull Pull.z ?_
      refine Ej.pull (Pull.s Pull.z) ?_
      refine Ej.round (m + 1, P1, g) ⟨by dsimp only; omega, hF1, fun j => by rw [hR1]; exact hR0 j, by dsimp only; rw [rts_next, if_neg hrt, List.append_nil]; exact hg⟩ (by dsimp only; omega) ⟨rfl, rfl, rfl, by dsimp only; rw [rts_next, if_neg hrt, List.append_nil]; rfl, rfl, rfl, trivial⟩ rfl (by dsimp only; rw [rts_next, if_neg hrt, List.append_nil])
    ·
     have hc63p := of_decide_eq_false hc63
     refine Cj.exit (Ej.seqExit (Ej.loopExit (Ej.blkExit (Ej.seq (Cj.seq (Cj.region (J.z (yl_move rfl rfl) ?_)))))))
     refine J.z (yl_assign rfl rfl) ?_
     refine J.nil (Ej.seq (Cj.ret ?_))
     have hmk : N = m := by omega
     subst hmk
     refine Ej.perm (H' := gH _ _ _ ++ [_, _]) List.perm_append_comm ?_
     rw [← val_flat (List.map _ (rts (Kp.rootOf P0) N))] at hg
     rw [← val_flat (List.map _ (rts (Kp.rootOf P0) N))]
     refine Ej.keepR valC_len (by decide) hg (List.length_map _).symm (fun I8 hle8 hvs => ?_)
     refine Ej.bare ?_
     refine Ej.ret1 rfl rfl rfl ?_
     exact ⟨_, rfl, parts_row (hF0.lab hJ0) hVl hvs (fun r => (hrow r).mono hle8), rfl⟩
end Go.Proofs.YtadnofaleepkmaaGreatDoor
end
section
namespace Ke
def dig (d : Nat) : UInt8 := UInt8.ofNat (48 + d % 10)
theorem dig_nat (d : Nat) : (dig d).toNat = 48 + d % 10 := by unfold dig; rw [UInt8.toNat_ofNat_of_lt' (show _ < 256 by omega)]
theorem dig_digit (d : Nat) : digit (dig d) = true := by rw [digit_iff, dig_nat]; omega
/-- A year in four digits. -/
def s4 (x : Nat) : Bs := [dig (x / 1000), dig (x / 100), dig (x / 10), dig x]
theorem num4_s4 {x : Nat} (hx : x < 10000) (r : Bs) : num4 (s4 x ++ r) = (x : Int) := by
  have ht : (s4 x ++ r).take 4 = s4 x := by simp [s4]
  unfold num4
  rw [ht, if_pos ⟨by simp [s4], by simp [digits, s4, dig_digit]⟩]
  have : val4 (s4 x) = x := by
    unfold val4 s4
    simp only [List.foldl, dig_nat]
    omega
  rw [this]
theorem yearIn_hit {x : Nat} (hx : x < 10000) (r : Bs) : yearIn (s4 x ++ r) = (x : Int) := by
  have h := num4_s4 hx r
  show yearIn (dig (x / 1000) :: (([dig (x / 100), dig (x / 10), dig x] : Bs) ++ r)) = _
  have h' : num4 (dig (x / 1000) :: (([dig (x / 100), dig (x / 10), dig x] : Bs) ++ r)) = (x : Int) := h
  unfold yearIn
  rw [h', if_pos (by omega)]
theorem yearIn_skip {c : UInt8} {r : Bs} (h : digits ((c :: r).take 4) = false) : yearIn (c :: r) = yearIn r := by
  have h1 : num4 (c :: r) = -1 := if_neg (fun g => by rw [h] at g; exact Bool.noConfusion g.2)
  conv => lhs; unfold yearIn
  rw [h1, if_neg (by decide)]
/-- The four ways in which a year is written in field 260. -/
def wayC (x w : Nat) : Bs := match w with
  | 0 => s4 x
  | 1 => 99 :: (s4 x ++ [46])
  | 2 => [91, 49, 50, 93, 32] ++ s4 x
  | _ => s4 x ++ [45, 49, 48, 48, 48]
theorem yearIn_way {x : Nat} (hx : x < 10000) (w : Nat) : yearIn (wayC x w) = (x : Int) := by
  unfold wayC
  split
  · have := yearIn_hit hx []; rwa [List.append_nil] at this
  · rw [yearIn_skip (by simp [digits, s4, digit])]; exact yearIn_hit hx _
  · show yearIn (91 :: 49 :: 50 :: 93 :: 32 :: s4 x) = _
    rw [yearIn_skip (by simp [digits, digit]), yearIn_skip (by simp [digits, digit]), yearIn_skip (by simp [digits, digit]), yearIn_skip (by simp [digits, digit, s4]), yearIn_skip (by simp [digits, digit, s4])]
    have := yearIn_hit hx []; rwa [List.append_nil] at this
  · exact yearIn_hit hx _
theorem year_260 {x : Nat} (hx : x < 10000) (w : Nat) (v : Go.Value) : year [⟨[50, 54, 48], [32, 32], [], v, [⟨98, [49, 49, 49, 49]⟩, ⟨99, wayC x w⟩]⟩] = (x : Int) := by
  have h1 : first [(⟨[50, 54, 48], [32, 32], [], v, [⟨98, [49, 49, 49, 49]⟩, ⟨99, wayC x w⟩]⟩ : Fld)] [48, 48, 56] = zf := rfl
  unfold year
  rw [h1, if_neg (fun g => by have := g.1; simp [zf] at this)]
  exact yearIn_way hx w
theorem year_008 {x : Nat} (hx : x < 10000) (u v : Go.Value) (ss : List Sub) : year [⟨[48, 48, 56], [], [48, 48, 48, 48, 48, 48, 48] ++ s4 x, u, []⟩, ⟨[50, 54, 48], [32, 32], [], v, ss⟩] = (x : Int) := by
  have h1 : first [(⟨[48, 48, 56], [], [48, 48, 48, 48, 48, 48, 48] ++ s4 x, u, []⟩ : Fld), ⟨[50, 54, 48], [32, 32], [], v, ss⟩] [48, 48, 56] = ⟨[48, 48, 56], [], [48, 48, 48, 48, 48, 48, 48] ++ s4 x, u, []⟩ := rfl
  have h2 := num4_s4 hx []
  rw [List.append_nil] at h2
  have h3 : num4 ((([48, 48, 48, 48, 48, 48, 48] : Bs) ++ s4 x).drop 7) = (x : Int) := h2
  unfold year
  rw [h1]
  dsimp only
  rw [h3, if_pos ⟨by simp [s4], by omega⟩]
/-- Points of two records that have a year and a kind alone. -/
theorem pts_years {a b : Feat} (ha : a.books = [] ∧ a.title = [] ∧ a.author = []) (hk : a.kind = b.kind) : pts a b = pY a.year b.year := by
  unfold pts
  rw [show pB a.books b.books = 0 from if_neg (fun g => g.1 ha.1), show pT a.title b.title = 0 from if_neg (fun g => g.1 ha.2.1), show pA a.author b.author = 0 from if_neg (fun g => g.1 ha.2.2), show pK a.kind b.kind = 0 from if_pos hk]
  omega
theorem pY_none (a : Int) : pY a (-1) = 0 := if_neg (fun g => by omega)
/-! ### A record is the same as itself -/
theorem all_nodup (fs : List Fld) : (all fs).Nodup := List.Pairwise.imp (R := (· < ·)) (fun {a b} h => (show a ≠ b from fun e => List.lt_irrefl b (e ▸ h))) (puts_inc (raw fs) List.Pairwise.nil)
end Ke
end
section
namespace Go.Sx
open Go
section
variable {cx : Cx} {Q : Qt} {e : Env} {I : Heap} {H : HL} {o : Oper} {C : Ct}
theorem madeN {zs : List Value} {sz : Nat} (hz : zs.length = sz) (h0 : 0 < sz) (c : Nat) : madeCells zs.toArray (c * sz) = ((List.replicate c zs).flatMap id).toArray := by
  apply Array.ext_getElem?
  intro i
  unfold madeCells
  by_cases h : i < c * sz
  · have hd : i / sz < c := (Nat.div_lt_iff_lt_mul h0).2 h
    have hm : i % sz < sz := Nat.mod_lt _ h0
    have h3 : ((List.replicate c zs).flatMap id)[i]? = zs[i % sz]? := by
      have hl : ∀ (l : List (List Value)), (∀ x ∈ l, x = zs) → ∀ k j, k < l.length → j < sz → (l.flatMap id)[k * sz + j]? = zs[j]? := by
        intro l
        induction l with
        | nil => intro _ k j hk; simp at hk
        | cons a r ih =>
          intro hall k j hk hj
          have ha := hall a (.head _)
          subst ha
          rw [List.flatMap_cons]
          cases k with
          | zero => rw [Nat.zero_mul, Nat.zero_add, List.getElem?_append_left (by rw [id]; omega)]; rfl
          | succ k =>
            rw [List.getElem?_append_right (by rw [id, hz, Nat.add_mul]; omega), id, hz, show (k + 1) * sz + j - sz = k * sz + j by rw [Nat.add_mul]; omega]
            exact ih (fun x hx => hall x (.tail _ hx)) k j (by simpa using hk) hj
      have := hl (List.replicate c zs) (fun x hx => (List.mem_replicate.1 hx).2) (i / sz) (i % sz) (by simpa using hd) hm
      rw [Nat.mul_comm, Nat.div_add_mod] at this
      exact this
    have hr : ((List.replicate c zs).flatMap id).toArray[i]? = ((List.replicate c zs).flatMap id)[i]? := List.getElem?_toArray
    rw [hr, h3, List.getElem?_eq_getElem (by omega)]
    rw [Array.getElem?_map, Array.getElem?_range, if_pos h]
    simp only [Option.map_some, List.size_toArray, hz]
    rw [getElem!_pos _ _ (by simpa [hz] using hm)]
    simp
  · have h3 : ((List.replicate c zs).flatMap id).length = c * sz := by
      have hl : ∀ c, ((List.replicate c zs).flatMap id).length = c * sz := by
        intro c
        induction c with
        | zero => simp
        | succ c ih => rw [List.replicate_succ, List.flatMap_cons, List.length_append, ih, id, hz, Nat.add_mul]; omega
      exact hl c
    have hr : ((List.replicate c zs).flatMap id).toArray[i]? = ((List.replicate c zs).flatMap id)[i]? := List.getElem?_toArray
    rw [hr, List.getElem?_eq_none (by omega), Array.getElem?_eq_none (by rw [Array.size_map, Array.size_range]; omega)]
theorem op_makeSliceN {T E d by1 n c sz : Nat} {x y : Operand} {kl kc : IntKind} {z : Value} {zs : List Value} (ho : o.op = .makeSlice T x y) (hd : o.dst = some d) (hn : Nat.blt d cx.n = true) (hx : ev e x = some (.int kl (n : Int))) (hy : ev e y = some (.int kc (c : Int)))
    (hu : cx.P.underlying T = some (.slice E)) (hi0 : (cx.P.info? E).map (fun i => (i.bytes, i.size, i.zero)) = some (by1, sz, some z)) (hzc : z.cells = zs.toArray) (hzl : zs.length = sz) (h0 : 0 < sz) (hnc : n ≤ c) (hb : by1 * c ≤ 281474976710656) (h63 : c ≤ 9223372036854775807)
    (k : ∀ b, cx.w0.heap.size ≤ b → C ((d, .slice (some ⟨b, 0, none⟩) n c) :: e) I ((b, cel E ((List.replicate c zs).flatMap id)) :: H)) : OpJ cx Q o e I H C := by
  intro K hK a w ha hs
  unfold Oper.wp
  obtain ⟨i, hi, hii⟩ := Option.map_eq_some_iff.1 hi0
  simp only [Prod.mk.injEq] at hii
  obtain ⟨h1, h2, h3⟩ := hii
  have hbb : (i.bytes : Int) * (c : Int) ≤ 281474976710656 := by
    have h : ((by1 * c : Nat) : Int) ≤ 281474976710656 := by omega
    rw [h1]
    rwa [Int.natCast_mul] at h
  have hr := run_make (P := cx.P) w T E i z hu hi h3 kl kc n c (by omega) (by omega) hbb (by omega)
  have : (execOp a.eval o).run cx.P w = .ok (.value (.slice (some ⟨w.heap.size, 0, none⟩) n c)) (w.alloc (cel E ((List.replicate c zs).flatMap id))) := by
    simp only [execOp, ho, ha.eval hx, ha.eval hy, Sem.run_bind, hr, Result.andThen_ok, Sem.run_pure, h2, hzc, Int.toNat_natCast, madeN hzl h0, cel]
  rw [this]
  simp only [Oper.upon, hd]
  exact hK _ _ _ (k _ hs.size) _ _ (ha.put hn) (hs.alloc _)
end
/-- A struct of a row is set. -/
theorem row_spl {α : Type} {f : α → List Value} {n : Nat} (hf : ∀ x, (f x).length = n) {sp : List Value} {x : α} : ∀ {l : List α} {i : Nat}, i < l.length → LSpl (l.flatMap f ++ sp) (i * n) (f x) ((l.set i x).flatMap f ++ sp)
  | [], _, h => by simp at h
  | a :: r, 0, _ => by
    refine ⟨by rw [Nat.zero_mul, hf, List.flatMap_cons, List.length_append, List.length_append, hf]; omega, ?_⟩
    rw [Nat.zero_mul, List.take_zero, List.nil_append, Nat.zero_add, List.set_cons_zero, List.flatMap_cons, List.flatMap_cons, List.append_assoc, List.append_assoc, hf, ← hf a, List.drop_left]
  | a :: r, i + 1, h => by
    obtain ⟨h1, h2⟩ := row_spl hf (sp := sp) (x := x) (l := r) (i := i) (by simpa using h)
    have ha := hf a
    refine ⟨by rw [List.flatMap_cons, List.append_assoc, List.length_append, ha, Nat.add_mul]; omega, ?_⟩
    rw [List.set_cons_succ, List.flatMap_cons, List.append_assoc, h2, List.flatMap_cons, List.append_assoc (f a), show (i + 1) * n = (f a).length + i * n by rw [ha, Nat.add_mul]; omega, List.take_length_add_append, Nat.add_assoc, List.drop_length_add_append]
    simp only [List.append_assoc]
end Go.Sx
end
section
namespace Go.Proofs.YtadnofaleepkmaaGreatDoor
open Go Go.Sx
/-- A record, with the value that stands for its fields. -/
structure Rc where
  k : UInt8
  l : UInt8
  v : Value
  fs : List Ke.Fld
def zr : Rc := ⟨0, 0, .slice none 0 0, []⟩
def rcC (r : Rc) : List Value := [u8 r.k, u8 r.l, r.v]
theorem rcC_len (r : Rc) : (rcC r).length = 3 := rfl
theorem rcC_one {r : Rc} {p : Option Addr} {n c : Nat} (h : r.v = .slice p n c) : (rcC r).all Value.oneCell' = true := by unfold rcC; rw [h]; rfl
def ROK (r : Rc) : Prop := FOK r.fs ∧ ∀ f ∈ r.fs, f.data.length ≤ 2000000
def RecsS (I : Heap) (rs : List Rc) (v : Value) : Prop := RowS rcC I rs v ∧ ∀ r ∈ rs, RecS I r.fs r.v
theorem RecsS.mono {I I' : Heap} {rs : List Rc} {v : Value} (h : RecsS I rs v) (hle : Le I I') : RecsS I' rs v := ⟨h.1.mono hle, fun r hr => (h.2 r hr).mono hle⟩
def ksOf (rs : List Rc) (i : Nat) : Ke.Row := Ke.all (rs.getD i zr).fs
def ftOf (rs : List Rc) (i : Nat) : Ke.Feat := Ke.feat (rs.getD i zr).k (rs.getD i zr).fs
def smOf (rs : List Rc) (a b : Nat) : Bool := decide (Ke.pts (ftOf rs a) (ftOf rs b) ≥ 40)
/-- The pairs of a list of records. -/
def pairsN (rs : List Rc) : Kq.Prs := Kq.tgt (ksOf rs) (smOf rs) rs.length
theorem getD_of {rs : List Rc} {i : Nat} {r : Rc} (h : rs[i]? = some r) : rs.getD i zr = r := by rw [List.getD, h]; rfl
theorem ks_nodup (rs : List Rc) (i : Nat) : (ksOf rs i).Nodup := Ke.all_nodup _
theorem booksAll_len : ∀ (fs : List Ke.Fld), (∀ f ∈ fs, f.subs.length ≤ 2000000) → (fs.flatMap Ke.books).length ≤ 2000000 * fs.length
  | [], _ => by simp
  | f :: r, h => by
    have h1 := booksAll_len r fun g hg => h g (.tail _ hg)
    have h2 := h f (.head _)
    have h3 : (Ke.books f).length ≤ f.subs.length := by
      unfold Ke.books
      split
      · exact List.length_filterMap_le _ _
      · simp
    rw [List.flatMap_cons, List.length_append, List.length_cons]; omega
theorem all_len {fs : List Ke.Fld} (hok : FOK fs) : (Ke.all fs).length ≤ 100000000000000 := by
  have h1 := puts_len (Ke.raw fs) []
  have h2 := booksAll_len fs fun f hf => (hok.2 f hf).1
  have h3 : (Ke.titles fs).length ≤ 1 := by unfold Ke.titles; split <;> simp
  have h4 := hok.1
  unfold Ke.all
  unfold Ke.raw at h1 ⊢
  rw [List.length_append] at h1
  simp only [List.length_nil] at h1
  omega
/-- Features as five cells. -/
structure V5 where
  a : Value
  b : Value
  c : Value
  d : Value
  e : Value
def v5C (x : V5) : List Value := [x.a, x.b, x.c, x.d, x.e]
theorem v5C_len (x : V5) : (v5C x).length = 5 := rfl
def z5 : V5 := ⟨.map none, str [], .slice none 0 0, i64 0, u8 0⟩
theorem feat_v5 {I : Heap} {f : Ke.Feat} {v : Value} (h : FeatS I f v) : ∃ y : V5, v = .agg (v5C y).toArray ∧ (v5C y).all Value.oneCell' = true ∧ FeatS I f (.agg (v5C y).toArray) := by
  obtain ⟨mb, l, c, p, n, rfl, h2, h3, h4⟩ := h
  exact ⟨⟨.map (some mb), str f.title, .slice p f.author.length n, i64 f.year, u8 f.kind⟩, rfl, rfl, mb, l, c, p, n, rfl, h2, h3, h4⟩
/-- The features that are known so far. -/
def KnownS (I : Heap) (ft : Nat → Ke.Feat) (xs : List V5) (i : Nat) : Prop := ∀ j, j < i → ∃ w, xs[j]? = some w ∧ FeatS I (ft j) (.agg (v5C w).toArray)
theorem KnownS.mono {I I' : Heap} {ft : Nat → Ke.Feat} {xs : List V5} {i : Nat} (h : KnownS I ft xs i) (hle : Le I I') : KnownS I' ft xs i := fun j hj => let ⟨w, h1, h2⟩ := h j hj; ⟨w, h1, h2.mono hle⟩
theorem KnownS.next {I : Heap} {ft : Nat → Ke.Feat} {xs : List V5} {i : Nat} (h : KnownS I ft xs i) (hi : i < xs.length) {y : V5} (hy : FeatS I (ft i) (.agg (v5C y).toArray)) : KnownS I ft (xs.set i y) (i + 1) := fun j hj => by
  rcases Nat.lt_or_ge j i with hji | hji
  · obtain ⟨w, h1, h2⟩ := h j hji
    exact ⟨w, by rw [List.getElem?_set_ne (by omega)]; exact h1, h2⟩
  · have : j = i := by omega
    subst this
    exact ⟨y, List.getElem?_set_self hi, hy⟩
theorem rep5 (n : Nat) : (List.replicate n (v5C z5)).flatMap id = (List.replicate n z5).flatMap v5C := by
  induction n with
  | zero => rfl
  | succ n ih => rw [List.replicate_succ, List.replicate_succ, List.flatMap_cons, List.flatMap_cons, ih]; rfl
theorem row_spl0 {α : Type} {f : α → List Value} {n : Nat} (hf : ∀ x, (f x).length = n) {x : α} {l : List α} {i : Nat} (h : i < l.length) : LSpl (l.flatMap f) (i * n) (f x) ((l.set i x).flatMap f) := by
  have := row_spl hf (sp := []) (x := x) h
  rwa [List.append_nil, List.append_nil] at this
theorem row_zero {α : Type} {f : α → List Value} {n : Nat} (hf : ∀ x, (f x).length = n) {l : List α} {k : Nat} {x : α} (hx : l[k]? = some x) : ((l.flatMap f).drop (k * n)).take n = f x := by
  have := row_at hf (sp := []) hx
  rwa [List.append_nil] at this
abbrev cst (p : Nat × Nat) : Int × Int := ((p.1 : Int), (p.2 : Int))
theorem cst_mem {l : Kq.Prs} {a b : Nat} : ((a : Int), (b : Int)) ∈ l.map cst ↔ (a, b) ∈ l := by
  rw [List.mem_map]
  constructor
  · rintro ⟨⟨c, d⟩, h, e⟩
    simp only [cst, Prod.mk.injEq] at e
    obtain ⟨e1, e2⟩ := e
    have h1 : c = a := by omega
    have h2 : d = b := by omega
    subst h1; subst h2; exact h
  · exact fun h => ⟨(a, b), h, rfl⟩
theorem tab_next {F F' : Fam (List UInt8) Nat} {tb : Kq.Tab} {k : List UInt8} {xs : List Nat} {i : Nat} (hF : ∀ x, fget F x = Kq.look tb x) (hk : fget F k = xs) (hF' : ∀ b, fget F' b = if b == k then xs ++ [i] else fget F b) (x : List UInt8) : fget F' x = Kq.look (tb ++ [(k, i)]) x := by
  rw [hF', Kq.look_one]
  by_cases h : k = x
  · subst h; rw [if_pos (by simp), if_pos rfl, ← hk, hF]
  · rw [if_neg (by simpa using Ne.symm h), if_neg h, List.append_nil, hF]
theorem nodup_len {l : Kq.Prs} {n : Nat} (hn : l.Nodup) (h : ∀ p ∈ l, p.1 < n ∧ p.2 < n) : l.length ≤ n * n := by
  have h1 := Kq.sub_len hn (m := (List.range n).flatMap fun a => (List.range n).map fun b => (a, b)) fun p hp => by
    obtain ⟨a, b⟩ := p
    have := h _ hp
    simp only [List.mem_flatMap, List.mem_map, List.mem_range, Prod.mk.injEq]
    exact ⟨a, this.1, b, this.2, rfl, rfl⟩
  have h2 : ((List.range n).flatMap fun a => (List.range n).map fun b => (a, b)).length = n * n := by
    have h3 : ∀ l : List Nat, (l.flatMap fun a => (List.range n).map fun b => (a, b)).length = l.length * n := by
      intro l
      induction l with
      | nil => simp
      | cons a r ih => rw [List.flatMap_cons, List.length_append, ih, List.length_map, List.length_range, List.length_cons, Nat.add_mul]; omega
    rw [h3, List.length_range]
  omega
theorem sq_le {n m : Nat} (h : n ≤ 100000) (hm : m ≤ n * n) : m ≤ 10000000000 := Nat.le_trans hm (Nat.mul_le_mul h h)
section
variable {rs : List Rc} {i q : Nat} {k : List UInt8} {T : Kq.Tab × Kq.Prs × Kq.Prs}
theorem inv_at (hT : T = ((ksOf rs i).take q).foldl (Kq.pk (smOf rs) i) (Kq.run (ksOf rs) (smOf rs) i)) : Kq.Inv (ksOf rs) (smOf rs) i ((ksOf rs i).take q) T := by
  have h := Kq.Inv.keys (ks := ksOf rs) (sm := smOf rs) (i := i) ((ksOf rs i).take q) [] _ (by rw [List.nil_append]; exact (ks_nodup rs i).sublist (List.take_sublist _ _)) (Kq.run_inv (ksOf rs) (smOf rs) i fun a _ => ks_nodup rs a)
  rw [List.nil_append, ← hT] at h
  exact h
theorem look_at (hT : T = ((ksOf rs i).take q).foldl (Kq.pk (smOf rs) i) (Kq.run (ksOf rs) (smOf rs) i)) (hk : (ksOf rs i)[q]? = some k) : (∀ j ∈ Kq.look T.1 k, j < i) ∧ (Kq.look T.1 k).length ≤ i := by
  have h := inv_at hT
  have hn : k ∉ (ksOf rs i).take q := fun hm => by
    obtain ⟨a, ha, e⟩ := List.mem_iff_getElem.1 hm
    have ha2 : a < q := by rw [List.length_take] at ha; omega
    obtain ⟨hq1, hq2⟩ := List.getElem?_eq_some_iff.1 hk
    rw [List.getElem_take] at e
    have := (List.pairwise_iff_getElem.1 (ks_nodup rs i)) a q (by omega) hq1 ha2
    exact this (e.trans hq2.symm)
  rw [h.tab, if_neg hn, List.append_nil]
  refine ⟨fun j hj => ?_, ?_⟩
  · rw [List.mem_filter, List.mem_range] at hj; exact hj.1
  · have := List.length_filter_le (fun a => decide (k ∈ ksOf rs a)) (List.range i)
    rw [List.length_range] at this; exact this
theorem ot_len (hi : i < rs.length) (hn : rs.length ≤ 100000) (hT : T = ((ksOf rs i).take q).foldl (Kq.pk (smOf rs) i) (Kq.run (ksOf rs) (smOf rs) i)) (hk : (ksOf rs i)[q]? = some k) {t : Nat} {S : Kq.Prs × Kq.Prs} (hS : S = ((Kq.look T.1 k).take t).foldl (Kq.pj (smOf rs) i) T.2) : S.2.length ≤ 10000000000 := by
  have h := inv_at hT
  obtain ⟨h1, h2⟩ := Kq.pjs (smOf rs) i ((Kq.look T.1 k).take t) T.2 h.cho
  rw [← hS] at h1 h2
  refine sq_le hn (nodup_len h1.1 fun p hp => ?_)
  obtain ⟨a, b⟩ := p
  have h3 := (h2 a b).1 ((h1.2 a b).1 hp).1
  rw [h.seen] at h3
  rcases h3 with (⟨h4, h5, _⟩ | ⟨h4, h5, _⟩) | ⟨h4, h5⟩
  · dsimp only; omega
  · dsimp only; omega
  · have := (look_at hT hk).1 a (List.mem_of_mem_take h5)
    dsimp only; omega
theorem run_len (hn : rs.length ≤ 100000) : (Kq.run (ksOf rs) (smOf rs) rs.length).2.2.length ≤ 10000000000 := by
  have h := Kq.run_inv (ksOf rs) (smOf rs) rs.length fun a _ => ks_nodup rs a
  refine sq_le hn (nodup_len h.cho.1 fun p hp => ?_)
  obtain ⟨a, b⟩ := p
  have h3 := ((h.cho.2 a b).1 hp).1
  rw [h.seen] at h3
  rcases h3 with ⟨h4, h5, _⟩ | ⟨h4, h5, _, h6, _⟩
  · dsimp only; omega
  · cases h6
end
theorem ft_len {rs : List Rc} (hok : ∀ r ∈ rs, ROK r) (j : Nat) : (ftOf rs j).author.length ≤ 1000000000000 := by
  unfold ftOf
  cases h : rs[j]? with
  | none => rw [List.getD, h]; exact author_len (fs := []) ⟨Nat.zero_le _, fun f hf => by cases hf⟩
  | some r => rw [List.getD, h]; exact author_len (hok r (List.mem_of_getElem? h)).1
theorem gOk_same {base sz n n' : Nat} {xs xs' : List Value} {g : Gs} (h : gOk base sz n xs g) (hn : n = n') (hx : xs.length = xs'.length) : gOk base sz n' xs' g := by
  subst hn
  cases g with
  | none => obtain ⟨h1, h2⟩ := h; exact ⟨h1, List.length_eq_zero_iff.1 (by rw [← hx, h2]; rfl)⟩
  | some q => obtain ⟨h1, h2, h3⟩ := h; exact ⟨h1, by rw [← hx]; exact h2, by rw [← hx]; exact h3⟩
theorem foldl_next {α β : Type} (f : β → α → β) (b : β) {l : List α} {k : Nat} {x : α} (h : l[k]? = some x) : (l.take (k + 1)).foldl f b = f ((l.take k).foldl f b) x := by
  obtain ⟨hlt, hg⟩ := List.getElem?_eq_some_iff.1 h
  rw [List.take_succ_eq_append_getElem hlt, hg, List.foldl_append]; rfl
theorem pj_seen1 {sm : Nat → Nat → Bool} {i j : Nat} {sn ot : Kq.Prs} (h : (j, i) ∈ sn) : Kq.pj sm i (sn, ot) j = (sn, ot) := if_pos h
theorem pj_new {sm : Nat → Nat → Bool} {i j : Nat} {sn ot : Kq.Prs} (h : (j, i) ∉ sn) (hs : sm j i = true) : Kq.pj sm i (sn, ot) j = (sn ++ [(j, i)], ot ++ [(j, i)]) := by unfold Kq.pj; rw [if_neg h, if_pos hs]
theorem pj_not {sm : Nat → Nat → Bool} {i j : Nat} {sn ot : Kq.Prs} (h : (j, i) ∉ sn) (hs : ¬ sm j i = true) : Kq.pj sm i (sn, ot) j = (sn ++ [(j, i)], ot) := by unfold Kq.pj; rw [if_neg h, if_neg hs]
theorem perm_swap3 {α : Type} (A G G' : List α) : (A ++ G' ++ G).Perm (A ++ G ++ G') := by
  rw [List.append_assoc, List.append_assoc]; exact List.Perm.append_left A List.perm_append_comm
structure PA where
  i : Nat
  J : Heap
  xs : List V5
  tb : Kq.Tab
  sn : Kq.Prs
  ot : Kq.Prs
  l : ML (List UInt8)
  cc : Nat
  F : Fam (List UInt8) Nat
  ls : ML (Int × Int)
  cs : Nat
  g : Gs
structure PB where
  q : Nat
  tb : Kq.Tab
  sn : Kq.Prs
  ot : Kq.Prs
  l : ML (List UInt8)
  cc : Nat
  F : Fam (List UInt8) Nat
  ls : ML (Int × Int)
  cs : Nat
  g : Gs
structure PC where
  s : Nat
  sn : Kq.Prs
  ot : Kq.Prs
  ls : ML (Int × Int)
  cs : Nat
  g : Gs
set_option maxRecDepth 20000 in
set_option maxHeartbeats 4000000 in
theorem Pairs_ok (rs : List Rc) (hn : rs.length ≤ 100000) (hok : ∀ r ∈ rs, ROK r) (v : Value) (I : Heap) (hrs0 : RecsS I rs v) : Ctr Tryz.prog 27 [v] I [] (fun e I' H' => ∃ w, e = .returned w ∧ RowS twoN I' (pairsN rs) w ∧ H' = []) := by
 obtain ⟨p, c, rfl, hc, -⟩ := id hrs0.1
 refine Ctr.of_body Tryz.func27 rfl (by decide) (Nat.le_of_ble_eq_true rfl) ?_
 intro w0 hw0
 refine Cj.seq (Cj.region (J.z (yl_assign rfl rfl) ?_))
 refine J.nil (Ej.seq (Cj.seq (Cj.region (J.z (yl_move rfl rfl) ?_))))
 refine J.z (yl_lenSlice rfl rfl Tryz.underlying50) ?_
 refine J.op rfl (op_makeSliceN (n := rs.length) (c := rs.length) (by1 := 64) (sz := 5) (z := (.agg #[(.map none), (str []), (.slice none 0 0), (.int .i64 0), (.int .u8 0)])) (zs := v5C z5) rfl rfl rfl rfl rfl Tryz.underlying87 (by kernel_rfl) rfl rfl (by decide) (Nat.le_refl _) (by omega) (by omega) ?_)
 intro b1 hb1
 refine J.z (yl_assign rfl rfl) ?_
 refine J.nil (Ej.seq (Cj.seq (Cj.region (J.op rfl (op_makeMap rfl rfl rfl ?_)))))
 intro b2 hb2
 refine J.z (yl_assign rfl rfl) ?_
 refine J.nil (Ej.seq (Cj.seq (Cj.region (J.op rfl (op_makeMap rfl rfl rfl ?_)))))
 intro b3 hb3
 refine J.z (yl_assign rfl rfl) ?_
 refine J.nil (Ej.seq (Cj.seq (Cj.region (J.z (yl_assign rfl rfl) ?_))))
 refine J.nil (Ej.seq (Cj.seq (Cj.seq (Cj.region (J.z (yl_move rfl rfl) ?_)))))
 refine J.z (yl_lenSlice rfl rfl Tryz.underlying50) ?_
 refine J.z (yl_move rfl rfl) ?_
 refine J.nil (Ej.seq (Cj.block (Cj.loop (ι := PA) (fun y => y.i ≤ rs.length ∧ Le I y.J ∧ y.xs.length = rs.length ∧ KnownS y.J (ftOf rs) y.xs y.i ∧ (y.tb, y.sn, y.ot) = Kq.run (ksOf rs) (smOf rs) y.i ∧ FamS w0.heap.size 1 natC y.l y.F ∧ (∀ k, fget y.F k = Kq.look y.tb k) ∧ SetS y.ls y.cs (y.sn.map cst) ∧ gOk w0.heap.size 2 y.ot.length (y.ot.flatMap twoN) y.g) (fun y => rs.length - y.i) (fun y => [(3, .slice (some ⟨b1, 0, none⟩) rs.length rs.length), (4, .map (some b2)), (5, .map (some b3)), (6, gV y.ot.length y.g), (19, .slice p rs.length c), (20, i64 (rs.length : Int)), (21, i64 (y.i : Int))]) (fun y => y.J) (fun y => (b3, mobj (fun a : Int × Int => .agg #[i64 a.1, i64 a.2]) y.ls y.cs) :: (b2, mobj (fun a : List UInt8 => str a) y.l y.cc) :: (b1, cel 67 (y.xs.flatMap v5C)) :: (famH 3 natC y.F ++ gH 56 (y.ot.flatMap twoN) y.g)) ⟨0, _, List.replicate rs.length z5, [], [], [], [], 0, [], [], 0, none⟩ ⟨Nat.zero_le _, Le.refl _, List.length_replicate, fun j hj => absurd hj (Nat.not_lt_zero j), rfl, FamS.nil, fun _ => rfl, SetS.nil, rfl, rfl⟩ ⟨rfl, rfl, rfl, rfl, rfl, rfl, rfl, trivial⟩ rfl (by dsimp only; rw [← rep5]; rfl) ?_)))
 rintro ⟨i, Jh, xs, tb, sn, ot, l, cc, Fm, ls, cs, g⟩ ⟨hi, hIJ, hxl, hKn, hrun, hfam, hfget, hset, hg⟩
 dsimp only at hi hIJ hxl hKn hrun hfam hfget hset hg ⊢
 have hrs := hrs0.mono hIJ
 refine Cj.seq (Cj.region (J.z (yl_lss rfl rfl rfl) ?_))
 refine J.nil (Ej.seq (Cj.seq (Cj.cond rfl (fun hc4 => ?_) (fun hc4 => ?_))))
 ·
  have hc4p := of_decide_eq_true hc4
  have hlt : i < rs.length := by omega
  obtain ⟨r, hget⟩ : ∃ r, rs[i]? = some r := ⟨_, List.getElem?_eq_getElem hlt⟩
  have hrm := List.mem_of_getElem? hget
  have hrD := getD_of hget
  obtain ⟨⟨pp, pc, hpe, hpc, hpp⟩, hRall⟩ := id hrs
  cases hpe
  obtain ⟨pb, po, pcs, pty, pfr, psp, rfl, hpb, hpd⟩ := hpp (ne_nil_of hlt)
  have hR := hRall r hrm
  clear hRall
  obtain ⟨hok1, hok2⟩ := hok r hrm
  obtain ⟨rp, rcp, hrv, -, -⟩ := id hR.1
  refine Cj.skip (Ej.seq (Cj.seq (Cj.block (Cj.seq (Cj.region (J.z (yl_move rfl rfl) ?_))))))
  refine J.z (yl_indexAddr (off' := po + i * 3) rfl rfl rfl Tryz.underlying50 Tryz.sizeOf26 (by omega) (by omega) (by simp)) ?_
  refine J.z (yl_loadAgg rfl rfl Tryz.isAgg26 Tryz.sizeOf26 (Blk.imm hpb) (row_from rcC_len hpd hget) rfl) ?_
  refine J.op rfl (op_alloc rfl rfl rfl Tryz.zeroValue26 rfl ?_)
  intro b5 hb5
  refine J.z (yl_assign rfl rfl) ?_
  refine J.op rfl (op_store 0 rfl rfl rfl rfl rfl (rcC_one hrv) Tryz.sizeOf26 rfl rfl (LSpl.c (LSpl.c (LSpl.c LSpl.z))) LSet.z ?_)
  refine J.nil (Ej.seq (Cj.seq (Cj.region (J.z (yl_move rfl rfl) ?_))))
  refine J.z (yl_move rfl rfl) ?_
  refine J.z (yl_loadAgg rfl rfl Tryz.isAgg26 Tryz.sizeOf26 (Blk.at 0 rfl) rfl rfl) ?_
  refine J.op rfl (op_call (H1 := []) rfl rfl rfl rfl rfl (of_ok r.fs _ r.k r.l hok1 hok2 _ hR) ?_ (fun _ _ _ _ h => by obtain ⟨_, h, _⟩ := h; cases h) (fun _ _ h => by obtain ⟨_, h, _⟩ := h; cases h))
  intro v6 I7 H8 hle9 hp10
  have hIJ := hIJ.mono hle9
  have hrs := hrs.mono hle9
  have hKn := hKn.mono hle9
  have hpb := hle9 _ _ hpb
  have hR := hR.mono hle9
  obtain ⟨vff, h, ff, rfl⟩ := hp10; cases h
  obtain ⟨y5, rfl, h5o, h5⟩ := feat_v5 ff
  refine J.z (yl_indexAddr (off' := i * 5) rfl rfl rfl Tryz.underlying87 Tryz.sizeOf67 (by omega) (by omega) (by simp)) ?_
  refine J.op rfl (op_store 3 rfl rfl rfl rfl rfl h5o Tryz.sizeOf67 rfl rfl (row_spl0 (x := y5) v5C_len (by omega)) (LSet.s (LSet.s (LSet.s LSet.z))) ?_)
  have hKn := KnownS.next hKn (by omega) (by unfold ftOf; rw [hrD]; exact h5)
  have hkl := all_len hok1
  refine J.nil (Ej.seq (Cj.seq (Cj.region (J.z (yl_loadAgg rfl rfl Tryz.isAgg26 Tryz.sizeOf26 (Blk.at 0 rfl) rfl rfl) ?_))))
  refine J.op rfl (op_call (H1 := []) rfl rfl rfl rfl rfl (All_ok r.fs _ r.k r.l hok1 _ hR) ?_ (fun _ _ _ _ h => by obtain ⟨_, h, _⟩ := h; cases h) (fun _ _ h => by obtain ⟨_, h, _⟩ := h; cases h))
  intro v11 I12 H13 hle14 hp15
  have hIJ := hIJ.mono hle14
  have hrs := hrs.mono hle14
  have hKn := hKn.mono hle14
  have hpb := hle14 _ _ hpb
  have hR := hR.mono hle14
  have h5 := h5.mono hle14
  obtain ⟨vk, h, hk, rfl⟩ := hp15; cases h
  obtain ⟨kp, kc, rfl⟩ := StrS_sl hk
  refine J.z (yl_lenSlice rfl rfl Tryz.underlying31) ?_
  refine J.z (yl_move rfl rfl) ?_
  refine J.nil (Ej.seq (Cj.block (Cj.keep (Keeps.d (Keeps.k (Keeps.k (Keeps.k Keeps.r)))) ?_)))
  refine Cj.loop (ι := PB) (fun y => y.q ≤ (Ke.all r.fs).length ∧ (y.tb, y.sn, y.ot) = ((Ke.all r.fs).take y.q).foldl (Kq.pk (smOf rs) i) (tb, sn, ot) ∧ FamS w0.heap.size 1 natC y.l y.F ∧ (∀ k, fget y.F k = Kq.look y.tb k) ∧ SetS y.ls y.cs (y.sn.map cst) ∧ gOk w0.heap.size 2 y.ot.length (y.ot.flatMap twoN) y.g) (fun y => (Ke.all r.fs).length - y.q) (fun y => [(3, .slice (some ⟨b1, 0, none⟩) rs.length rs.length), (4, .map (some b2)), (5, .map (some b3)), (6, gV y.ot.length y.g), (7, i64 (i : Int)), (19, .slice (some ⟨pb, po, none⟩) rs.length c), (20, i64 (rs.length : Int)), (21, i64 (i : Int)), (32, .slice kp (Ke.all r.fs).length kc), (33, i64 ((Ke.all r.fs).length : Int)), (34, i64 (y.q : Int))]) (fun y => _) (fun y => (b3, mobj (fun a : Int × Int => .agg #[i64 a.1, i64 a.2]) y.ls y.cs) :: (b2, mobj (fun a : List UInt8 => str a) y.l y.cc) :: (b1, cel 67 ((xs.set i y5).flatMap v5C)) :: (famH 3 natC y.F ++ gH 56 (y.ot.flatMap twoN) y.g)) ⟨0, tb, sn, ot, l, cc, Fm, ls, cs, g⟩ ⟨Nat.zero_le _, rfl, hfam, hfget, hset, hg⟩ ⟨rfl, rfl, rfl, rfl, rfl, rfl, rfl, rfl, rfl, rfl, rfl, trivial⟩ rfl rfl ?_
  rintro ⟨q, tb1, sn1, ot1, l, cc, Fm, ls, cs, g⟩ ⟨hq, hB, hfam, hfget, hset, hg⟩
  dsimp only at hq hB hfam hfget hset hg ⊢
  refine Cj.seq (Cj.region (J.z (yl_lss rfl rfl rfl) ?_))
  refine J.nil (Ej.seq (Cj.seq (Cj.cond rfl (fun hc16 => ?_) (fun hc16 => ?_))))
  ·
   have hc16p := of_decide_eq_true hc16
   have hqlt : q < (Ke.all r.fs).length := by omega
   obtain ⟨k, hkget⟩ : ∃ k, (Ke.all r.fs)[q]? = some k := ⟨_, List.getElem?_eq_getElem hqlt⟩
   obtain ⟨kbb, kc1, ksp, hke, hkbb⟩ := hk.some (ne_nil_of hqlt)
   cases hke
   refine Cj.skip (Ej.seq (Cj.seq (Cj.block (Cj.seq (Cj.region (J.z (yl_indexAddr (off' := q) rfl rfl rfl Tryz.underlying31 Tryz.sizeOf9 (by omega) (by omega) (by simp)) ?_))))))
   refine J.z (yl_load rfl rfl Tryz.isAgg9 (Blk.imm hkbb) (str_get hkget)) ?_
   refine J.z (yl_assign rfl rfl) ?_
   refine J.nil (Ej.seq (Cj.seq (Cj.seq (Cj.region (J.z (yl_move rfl rfl) ?_)))))
   refine J.z (yl_move rfl rfl) ?_
   obtain ⟨F1, F2, js, gx, hout, hval, hgx, hfg, hback⟩ := hfam.out 3 k
   have hjs : Kq.look tb1 k = js := by rw [← hfget]; exact hfg
   have hkq : ksOf rs i = Ke.all r.fs := by unfold ksOf; rw [hrD]
   have hTT : (tb1, sn1, ot1) = ((ksOf rs i).take q).foldl (Kq.pk (smOf rs) i) (Kq.run (ksOf rs) (smOf rs) i) := by rw [← hrun, hkq]; exact hB
   have hkg2 : (ksOf rs i)[q]? = some k := by rw [hkq]; exact hkget
   obtain ⟨hjlt, hjn⟩ := look_at hTT hkg2
   dsimp only at hjlt hjn
   rw [hjs] at hjlt hjn
   refine J.z (yl_lookup1 (kv := (fun a : List UInt8 => str a)) (l := l) (a := k) rfl rfl rfl rfl Tryz.underlying88 (KeyK.text Tryz.underlying9) Tryz.zeroValue62 (Blk.at 1 rfl)) ?_
   refine J.eqv 40 rfl (show _ = gV js.length gx from hval) ?_
   refine J.perm ((hout [_, _, _]).append_right (gH _ _ _)) ?_
   refine J.z (yl_lenG hgx rfl rfl Tryz.underlying62) ?_
   refine J.z (yl_move rfl rfl) ?_
   refine J.nil (Ej.seq (Cj.block (Cj.keep (Keeps.k (Keeps.k (Keeps.k Keeps.r))) ?_)))
   refine Cj.loop (ι := PC) (fun y => y.s ≤ js.length ∧ (y.sn, y.ot) = (js.take y.s).foldl (Kq.pj (smOf rs) i) (sn1, ot1) ∧ SetS y.ls y.cs (y.sn.map cst) ∧ gOk w0.heap.size 2 y.ot.length (y.ot.flatMap twoN) y.g) (fun y => js.length - y.s) (fun y => [(3, .slice (some ⟨b1, 0, none⟩) rs.length rs.length), (4, .map (some b2)), (5, .map (some b3)), (6, gV y.ot.length y.g), (7, i64 (i : Int)), (10, str k), (19, .slice (some ⟨pb, po, none⟩) rs.length c), (20, i64 (rs.length : Int)), (21, i64 (i : Int)), (32, .slice (some ⟨kbb, 0, none⟩) (Ke.all r.fs).length kc), (33, i64 ((Ke.all r.fs).length : Int)), (34, i64 (q : Int)), (40, gV js.length gx), (41, i64 (js.length : Int)), (42, i64 (y.s : Int))]) (fun y => _) (fun y => (b3, mobj (fun a : Int × Int => .agg #[i64 a.1, i64 a.2]) y.ls y.cs) :: (b2, mobj (fun a : List UInt8 => str a) l cc) :: (b1, cel 67 ((xs.set i y5).flatMap v5C)) :: (famH 3 natC (F1 ++ F2) ++ gH 3 (js.flatMap natC) gx ++ gH 56 (y.ot.flatMap twoN) y.g)) ⟨0, sn1, ot1, ls, cs, g⟩ ⟨Nat.zero_le _, rfl, hset, hg⟩ ⟨rfl, rfl, rfl, rfl, rfl, rfl, rfl, rfl, rfl, rfl, rfl, rfl, rfl, rfl, rfl, trivial⟩ rfl rfl ?_
   rintro ⟨t, sn, ot, ls, cs, g⟩ ⟨ht, hCf, hset, hg⟩
   dsimp only at ht hCf hset hg ⊢
   have hotl := ot_len hlt hn hTT hkg2 (S := (sn, ot)) (t := t) (by dsimp only; rw [hjs]; exact hCf)
   dsimp only at hotl
   refine Cj.seq (Cj.region (J.z (yl_lss rfl rfl rfl) ?_))
   refine J.nil (Ej.seq (Cj.seq (Cj.cond rfl (fun hc17 => ?_) (fun hc17 => ?_))))
   ·
    have hc17p := of_decide_eq_true hc17
    have htlt : t < js.length := by omega
    obtain ⟨j, hjget⟩ : ∃ j, js[t]? = some j := ⟨_, List.getElem?_eq_getElem htlt⟩
    have hji := hjlt j (List.mem_of_getElem? hjget)
    obtain ⟨jb, jc, jsp, rfl, hjbb⟩ := hgx.some (by omega)
    obtain ⟨wj, hwj, hfj⟩ := hKn j (by omega)
    obtain ⟨wi, hwi, hfi⟩ := hKn i (by omega)
    refine Cj.skip (Ej.seq (Cj.seq (Cj.block (Cj.seq (Cj.region (J.z (yl_indexAddr (off' := 0 + t) rfl rfl rfl Tryz.underlying62 Tryz.sizeOf3 (by omega) (by omega) (by simp)) ?_))))))
    refine J.z (yl_load rfl rfl Tryz.isAgg3 (Blk.mem (o := cel 3 (js.flatMap natC ++ jsp)) (by simp [gH])) (one_from (g := fun x : Nat => i64 (x : Int)) (fun _ => rfl) rfl hjget)) ?_
    refine J.z (yl_assign rfl rfl) ?_
    refine J.nil (Ej.seq (Cj.seq (Cj.region (J.z (yl_move rfl rfl) ?_))))
    refine J.z (yl_move rfl rfl) ?_
    refine J.z (yl_buildS (pl := #[(0, 1), (1, 1)]) rfl rfl Tryz.zeroValue91 rfl Tryz.underlying91 (fun w => by simp [Tryz.sizeOf3]) (LBld.part rfl rfl rfl (LSpl.c LSpl.z) (LBld.part rfl rfl rfl (LSpl.s (LSpl.c LSpl.z)) LBld.none))) ?_
    refine J.op rfl (op_alloc rfl rfl rfl Tryz.zeroValue91 rfl ?_)
    intro b18 hb18
    refine J.op rfl (op_store 0 rfl rfl rfl rfl rfl rfl Tryz.sizeOf91 rfl rfl (LSpl.c (LSpl.c LSpl.z)) LSet.z ?_)
    refine J.nil (Ej.seq (Cj.seq (Cj.region (J.z (yl_move rfl rfl) ?_))))
    refine J.z (yl_loadAgg rfl rfl Tryz.isAgg91 Tryz.sizeOf91 (Blk.at 0 rfl) rfl rfl) ?_
    refine J.z (yl_lookup1 (kv := (fun a : Int × Int => .agg #[i64 a.1, i64 a.2])) (l := ls) (a := ((j : Int), (i : Int))) rfl rfl rfl rfl Tryz.underlying89 (KeyK.ints2 Tryz.underlying91 (by kernel_rfl) (by decide) (by decide) rfl rfl rfl rfl Tryz.underlying3 Tryz.isAgg3) Tryz.zeroValue4 (Blk.at 1 rfl)) ?_
    refine J.eqv 51 rfl (show _ = .bool (decide (((j : Int), (i : Int)) ∈ sn.map cst)) from (hset.get _)) ?_
    refine J.z (yl_not rfl rfl) ?_
    refine J.nil (Ej.seq (Cj.cond rfl (fun hc19 => ?_) (fun hc19 => ?_)))
    ·
     have hns : (j, i) ∉ sn := fun h => by have h1 := hc19; rw [decide_eq_true (cst_mem.2 h)] at h1; exact absurd h1 (by decide)
     refine Cj.seq (Cj.region (J.z (yl_move rfl rfl) ?_))
     refine J.z (yl_loadAgg rfl rfl Tryz.isAgg91 Tryz.sizeOf91 (Blk.at 0 rfl) rfl rfl) ?_
     refine J.op rfl (op_insert (kv := (fun a : Int × Int => .agg #[i64 a.1, i64 a.2])) (a := ((j : Int), (i : Int))) 1 (.inr rfl) rfl rfl rfl rfl rfl Tryz.underlying89 (KeyK.ints2 Tryz.underlying91 (by kernel_rfl) (by decide) (by decide) rfl rfl rfl rfl Tryz.underlying3 Tryz.isAgg3) rfl (LSet.s LSet.z) ?_)
     refine J.nil (Ej.seq (Cj.seq (Cj.drawSel [0, 1, 2, 3] [] 10 (by kernel_rfl) ?_)))
     have hpb_18 := hpb
     have hkbb_18 := hkbb
     refine JA.fix ⟨(HSub.c 0 rfl (HSub.c 1 rfl (HSub.c 2 rfl (HSub.c 3 rfl HSub.n)))), CSub.n, (Le.refl _)⟩ (fun fx20 => ?_)
     refine JA.tk 0 rfl fx20 (yl_move rfl rfl) ?_
     refine JA.tk 1 rfl fx20 (yl_move rfl rfl) ?_
     refine JA.tk 2 rfl fx20 (yl_indexAddr (off' := j * 5) rfl rfl rfl Tryz.underlying87 Tryz.sizeOf67 (by omega) (by omega) (by simp)) ?_
     refine JA.tk 3 rfl fx20 (yl_loadAgg rfl rfl Tryz.isAgg67 Tryz.sizeOf67 (Blk.atC 3 rfl) (row_zero v5C_len hwj) rfl) ?_
     refine JA.tk 4 rfl fx20 (yl_move rfl rfl) ?_
     refine JA.tk 5 rfl fx20 (yl_move rfl rfl) ?_
     refine JA.tk 6 rfl fx20 (yl_indexAddr (off' := i * 5) rfl rfl rfl Tryz.underlying87 Tryz.sizeOf67 (by omega) (by omega) (by simp)) ?_
     refine JA.tk 7 rfl fx20 (yl_loadAgg rfl rfl Tryz.isAgg67 Tryz.sizeOf67 (Blk.atC 3 rfl) (row_zero v5C_len hwi) rfl) ?_
     refine JA.step 8 (by kernel_rfl) rfl rfl (op_pure rfl rfl rfl rfl rfl (points_ok (ftOf rs j) (ftOf rs i) _ _ (Ke.year_rng _) (Ke.year_rng _) (ft_len hok j) (ft_len hok i) _ hfj hfi) ?_)
     refine ⟨⟨(Le.refl _), (HSub.c 0 rfl (HSub.c 1 rfl (HSub.c 2 rfl (HSub.c 3 rfl HSub.n)))), CSub.n⟩, ?_⟩
     refine JA.fix ⟨(HSub.c 0 rfl (HSub.c 1 rfl (HSub.c 2 rfl (HSub.c 3 rfl HSub.n)))), CSub.n, (Le.refl _)⟩ (fun fx21 => ?_)
     refine JA.tk 9 rfl fx21 (yl_geq rfl rfl rfl) ?_
     refine JA.done (by kernel_rfl) ?_
     refine Ej.seq (Cj.cond rfl (fun hc22 => ?_) (fun hc22 => ?_))
     ·
      have hc22p := of_decide_eq_true hc22
      have hsm : smOf rs j i = true := decide_eq_true (by omega)
      refine Cj.region (J.z (yl_move rfl rfl) ?_)
      refine J.z (yl_move rfl rfl) ?_
      refine J.z (yl_move rfl rfl) ?_
      refine J.z (yl_buildA (zs := [(.int .i64 0), (.int .i64 0)]) rfl rfl Tryz.zeroValue56 rfl Tryz.underlying56 Tryz.sizeOf3 rfl) ?_
      refine J.op rfl (op_buildSlice rfl rfl rfl Tryz.underlying53 Tryz.sizeOf56 Tryz.zeroValue56 rfl rfl rfl rfl (LCat.agg rfl LCat.none) ?_)
      intro b23 hb23
      refine J.op rfl (op_append (by' := 15) ([_, _, _, _, _] ++ famH _ _ _ ++ gH _ _ _) rfl rfl rfl rfl rfl Tryz.underlying53 (.inr ⟨_, Tryz.underlying53⟩) (by kernel_rfl) Tryz.sizeOf56 Tryz.zeroValue56 rfl hg rfl (Src.slice (Blk.at 0 rfl) rfl rfl rfl) (by omega) ?_)
      intro g24 hg24
      refine J.z (yl_assign rfl rfl) ?_
      refine J.nil (Ej.blkNormal (Ej.seq (Cj.region (J.z (yl_add rfl rfl rfl (w64 (by omega))) ?_))))
      refine J.z (yl_move rfl rfl) ?_
      refine J.nil (Ej.keep (Keeps.d (Keeps.d (Keeps.k (Keeps.k (Keeps.k Keeps.r))))) ?_)
      refine Ej.round ⟨t + 1, sn ++ [(j, i)], ot ++ [(j, i)], mset ls ((j : Int), (i : Int)) (.bool true) cs, mclk ls ((j : Int), (i : Int)) cs, g24⟩ ⟨by dsimp only; omega, by dsimp only; rw [foldl_next _ _ hjget, ← hCf, pj_new hns hsm], by dsimp only; rw [List.map_append]; exact hset.put _, by dsimp only; rw [List.length_append, List.flatMap_append]; exact hg24⟩ (by dsimp only; omega) ⟨rfl, rfl, rfl, by dsimp only; rw [List.length_append]; rfl, rfl, rfl, rfl, rfl, rfl, rfl, rfl, rfl, rfl, rfl, rfl, trivial⟩ rfl (by dsimp only; rw [List.flatMap_append]; rfl)
     ·
      have hc22p := of_decide_eq_false hc22
      have hsm : ¬ smOf rs j i = true := fun h => by have := of_decide_eq_true h; omega
      refine Cj.skip (Ej.blkNormal (Ej.seq (Cj.region (J.z (yl_add rfl rfl rfl (w64 (by omega))) ?_))))
      refine J.z (yl_move rfl rfl) ?_
      refine J.nil (Ej.keep (Keeps.d (Keeps.k (Keeps.k (Keeps.k Keeps.r)))) ?_)
      refine Ej.round ⟨t + 1, sn ++ [(j, i)], ot, mset ls ((j : Int), (i : Int)) (.bool true) cs, mclk ls ((j : Int), (i : Int)) cs, g⟩ ⟨by dsimp only; omega, by dsimp only; rw [foldl_next _ _ hjget, ← hCf, pj_not hns hsm], by dsimp only; rw [List.map_append]; exact hset.put _, hg⟩ (by dsimp only; omega) ⟨rfl, rfl, rfl, rfl, rfl, rfl, rfl, rfl, rfl, rfl, rfl, rfl, rfl, rfl, rfl, trivial⟩ rfl rfl
    ·
     have hns : (j, i) ∈ sn := by have h1 := hc19; rw [Bool.not_eq_false'] at h1; exact cst_mem.1 (of_decide_eq_true h1)
     refine Cj.skip (Ej.blkNormal (Ej.seq (Cj.region (J.z (yl_add rfl rfl rfl (w64 (by omega))) ?_))))
     refine J.z (yl_move rfl rfl) ?_
     refine J.nil (Ej.keep (Keeps.d (Keeps.k (Keeps.k (Keeps.k Keeps.r)))) ?_)
     refine Ej.round ⟨t + 1, sn, ot, ls, cs, g⟩ ⟨by dsimp only; omega, by dsimp only; rw [foldl_next _ _ hjget, ← hCf, pj_seen1 hns], hset, hg⟩ (by dsimp only; omega) ⟨rfl, rfl, rfl, rfl, rfl, rfl, rfl, rfl, rfl, rfl, rfl, rfl, rfl, rfl, rfl, trivial⟩ rfl rfl
   ·
    have hc17p := of_decide_eq_false hc17
    rw [List.take_of_length_le (by omega)] at hCf
    refine Cj.exit (Ej.seqExit (Ej.loopExit (Ej.blkExit (Ej.seq (Cj.region (J.z (yl_move rfl rfl) ?_))))))
    refine J.z (yl_move rfl rfl) ?_
    refine J.z (yl_move rfl rfl) ?_
    refine J.z (yl_move rfl rfl) ?_
    refine J.z (yl_lookup1 (kv := (fun a : List UInt8 => str a)) (l := l) (a := k) rfl rfl rfl rfl Tryz.underlying88 (KeyK.text Tryz.underlying9) Tryz.zeroValue62 (Blk.at 1 rfl)) ?_
    refine J.eqv 76 rfl (show _ = gV js.length gx from hval) ?_
    refine J.z (yl_move rfl rfl) ?_
    refine J.op rfl (op_buildSlice rfl rfl rfl Tryz.underlying62 Tryz.sizeOf3 Tryz.zeroValue3 rfl rfl rfl rfl (LCat.one rfl LCat.none) ?_)
    intro b25 hb25
    refine J.perm (perm_swap3 ([_, _, _, _] ++ famH _ _ _) (gH _ _ _) (gH _ _ _)) ?_
    refine J.op rfl (op_append (by' := 7) ([_, _, _, _] ++ famH _ _ _ ++ gH _ _ _) rfl rfl rfl rfl rfl Tryz.underlying62 (.inr ⟨_, Tryz.underlying62⟩) (by kernel_rfl) Tryz.sizeOf3 Tryz.zeroValue3 rfl hgx rfl (Src.slice (Blk.at 0 rfl) rfl rfl rfl) (by omega) ?_)
    intro g26 hg26
    refine J.op rfl (op_insert (kv := (fun a : List UInt8 => str a)) (a := k) 2 (.inr rfl) rfl rfl rfl rfl rfl Tryz.underlying88 (KeyK.text Tryz.underlying9) rfl (LSet.s (LSet.s LSet.z)) ?_)
    refine J.nil (Ej.blkNormal (Ej.seq (Cj.region (J.z (yl_add rfl rfl rfl (w64 (by omega))) ?_))))
    refine J.z (yl_move rfl rfl) ?_
    refine J.nil ?_
    obtain ⟨F9, hfam9, hget9, hperm9⟩ := hback i g26 cc hg26
    refine Ej.perm (((hperm9 [_, _, _, _]).append_right (gH _ _ _)).trans (perm_swap3 ([_, _, _, _] ++ famH _ _ _) (gH _ _ _) (gH _ _ _))) ?_
    refine Ej.keep (Keeps.d (Keeps.k (Keeps.k (Keeps.k Keeps.r)))) ?_
    refine Ej.round ⟨q + 1, tb1 ++ [(k, i)], sn, ot, mset l k (gV (js.length + 1) g26) cc, mclk l k cc, F9, ls, cs, g⟩ ⟨by dsimp only; omega, by dsimp only; rw [foldl_next _ _ hkget, ← hB]; unfold Kq.pk; dsimp only; rw [hjs, ← hCf], hfam9, fun x => tab_next hfget hfg hget9 x, hset, hg⟩ (by dsimp only; omega) ⟨rfl, rfl, rfl, rfl, rfl, rfl, rfl, rfl, rfl, rfl, rfl, trivial⟩ rfl rfl
  ·
   have hc16p := of_decide_eq_false hc16
   have hB : (tb1, sn1, ot1) = Kq.pr (ksOf rs) (smOf rs) (tb, sn, ot) i := by rw [hB, List.take_of_length_le (by omega)]; unfold Kq.pr ksOf; rw [hrD]
   refine Cj.exit (Ej.seqExit (Ej.loopExit (Ej.blkExit (Ej.blkNormal (Ej.seq (Cj.region (J.z (yl_add rfl rfl rfl (w64 (by omega))) ?_)))))))
   refine J.z (yl_move rfl rfl) ?_
   refine J.nil (Ej.round ⟨i + 1, _, xs.set i y5, tb1, sn1, ot1, l, cc, Fm, ls, cs, g⟩ ⟨by dsimp only; omega, hIJ, by dsimp only; rw [List.length_set]; exact hxl, hKn, by dsimp only; rw [Kq.run_next, ← hrun]; exact hB, hfam, hfget, hset, hg⟩ (by dsimp only; omega) ⟨rfl, rfl, rfl, rfl, rfl, rfl, rfl, trivial⟩ rfl rfl)
 ·
  have hc4p := of_decide_eq_false hc4
  have hin : i = rs.length := by omega
  subst hin
  refine Cj.exit (Ej.seqExit (Ej.loopExit (Ej.blkExit (Ej.seq (Cj.seq (Cj.region (J.z (yl_move rfl rfl) ?_)))))))
  refine J.perm (H' := gH _ _ _ ++ ([_, _, _] ++ famH _ _ _)) List.perm_append_comm ?_
  refine J.op rfl (op_call (H1 := gH _ _ _) rfl rfl rfl rfl rfl (SortP_ok ot g hg (by have h := run_len (rs := rs) hn; rw [← hrun] at h; dsimp only at h; omega) _) ?_ (fun _ _ _ _ h => by obtain ⟨_, _, _, h, _⟩ := h; cases h) (fun _ _ h => by obtain ⟨_, _, _, h, _⟩ := h; cases h))
  rintro v9 I9 H9 hle9 ⟨ps, hpp, hpo, h, rfl⟩; cases h
  have hot : (Kq.run (ksOf rs) (smOf rs) rs.length).2.2 = ot := by rw [← hrun]
  have hpt : ps = pairsN rs := Kq.sorted_tgt (fun a _ => ks_nodup rs a) (by rw [hot]; exact hpp) hpo
  have hpl : ot.length = ps.length := hpp.length_eq.symm
  have hgp : gOk w0.heap.size 2 ps.length (ps.flatMap twoN) g := gOk_same hg hpl (by rw [flat_len twoN_len, flat_len twoN_len, hpl])
  refine J.keepR twoN_len (by decide) hgp rfl (fun I7 hle7 hv => ?_)
  refine J.nil (Ej.seq (Cj.seq (Cj.region (J.z (yl_move rfl rfl) ?_))))
  refine J.z (yl_assign rfl rfl) ?_
  refine J.nil (Ej.seq (Cj.ret (Ej.bare ?_)))
  refine Ej.ret1 rfl rfl rfl ?_
  rw [hpl]
  exact ⟨_, rfl, by rw [← hpt]; exact hv, rfl⟩
end Go.Proofs.YtadnofaleepkmaaGreatDoor
end
