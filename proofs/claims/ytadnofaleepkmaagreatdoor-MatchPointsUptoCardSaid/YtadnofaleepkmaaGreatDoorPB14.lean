/-
  Own texts on the laws of match, joined: the logic, and contracts of functions. Conditions: none.
-/
import Derived.Test.YtadnofaleepkmaaGreatDoorPB7
import Derived.Test.YtadnofaleepkmaaGreatDoorPB13
section
namespace Go.Proofs.YtadnofaleepkmaaGreatDoor
open Go Go.Sx
/-- A record, with the value that stands for its fields. -/
structure Rc where
  k : UInt8
  l : UInt8
  v : Value
  fs : List Ke.Fld
def zr : Rc := ⟨0, 0, .slice none 0 0, []⟩
def rcC (r : Rc) : List Value := [u8 r.k, u8 r.l, r.v]
theorem rcC_len (r : Rc) : (rcC r).length = 3 := rfl
theorem rcC_one {r : Rc} {p : Option Addr} {n c : Nat} (h : r.v = .slice p n c) : (rcC r).all Value.oneCell' = true := by unfold rcC; rw [h]; rfl
def ROK (r : Rc) : Prop := FOK r.fs ∧ ∀ f ∈ r.fs, f.data.length ≤ 2000000
def RecsS (I : Heap) (rs : List Rc) (v : Value) : Prop := RowS rcC I rs v ∧ ∀ r ∈ rs, RecS I r.fs r.v
theorem RecsS.mono {I I' : Heap} {rs : List Rc} {v : Value} (h : RecsS I rs v) (hle : Le I I') : RecsS I' rs v := ⟨h.1.mono hle, fun r hr => (h.2 r hr).mono hle⟩
def ksOf (rs : List Rc) (i : Nat) : Ke.Row := Ke.all (rs.getD i zr).fs
def ftOf (rs : List Rc) (i : Nat) : Ke.Feat := Ke.feat (rs.getD i zr).k (rs.getD i zr).fs
def smOf (rs : List Rc) (a b : Nat) : Bool := decide (Ke.pts (ftOf rs a) (ftOf rs b) ≥ 40)
/-- The pairs of a list of records. -/
def pairsN (rs : List Rc) : Kq.Prs := Kq.tgt (ksOf rs) (smOf rs) rs.length
theorem getD_of {rs : List Rc} {i : Nat} {r : Rc} (h : rs[i]? = some r) : rs.getD i zr = r := by rw [List.getD, h]; rfl
theorem ks_nodup (rs : List Rc) (i : Nat) : (ksOf rs i).Nodup := Ke.all_nodup _
theorem booksAll_len : ∀ (fs : List Ke.Fld), (∀ f ∈ fs, f.subs.length ≤ 2000000) → (fs.flatMap Ke.books).length ≤ 2000000 * fs.length
  | [], _ => by simp
  | f :: r, h => by
    have h1 := booksAll_len r fun g hg => h g (.tail _ hg)
    have h2 := h f (.head _)
    have h3 : (Ke.books f).length ≤ f.subs.length := by
      unfold Ke.books
      split
      · exact List.length_filterMap_le _ _
      · simp
    rw [List.flatMap_cons, List.length_append, List.length_cons]; omega
theorem all_len {fs : List Ke.Fld} (hok : FOK fs) : (Ke.all fs).length ≤ 100000000000000 := by
  have h1 := puts_len (Ke.raw fs) []
  have h2 := booksAll_len fs fun f hf => (hok.2 f hf).1
  have h3 : (Ke.titles fs).length ≤ 1 := by unfold Ke.titles; split <;> simp
  have h4 := hok.1
  unfold Ke.all
  unfold Ke.raw at h1 ⊢
  rw [List.length_append] at h1
  simp only [List.length_nil] at h1
  omega
/-- Features as five cells. -/
structure V5 where
  a : Value
  b : Value
  c : Value
  d : Value
  e : Value
def v5C (x : V5) : List Value := [x.a, x.b, x.c, x.d, x.e]
theorem v5C_len (x : V5) : (v5C x).length = 5 := rfl
def z5 : V5 := ⟨.map none, str [], .slice none 0 0, i64 0, u8 0⟩
theorem feat_v5 {I : Heap} {f : Ke.Feat} {v : Value} (h : FeatS I f v) : ∃ y : V5, v = .agg (v5C y).toArray ∧ (v5C y).all Value.oneCell' = true ∧ FeatS I f (.agg (v5C y).toArray) := by
  obtain ⟨mb, l, c, p, n, rfl, h2, h3, h4⟩ := h
  exact ⟨⟨.map (some mb), str f.title, .slice p f.author.length n, i64 f.year, u8 f.kind⟩, rfl, rfl, mb, l, c, p, n, rfl, h2, h3, h4⟩
/-- The features that are known so far. -/
def KnownS (I : Heap) (ft : Nat → Ke.Feat) (xs : List V5) (i : Nat) : Prop := ∀ j, j < i → ∃ w, xs[j]? = some w ∧ FeatS I (ft j) (.agg (v5C w).toArray)
theorem KnownS.mono {I I' : Heap} {ft : Nat → Ke.Feat} {xs : List V5} {i : Nat} (h : KnownS I ft xs i) (hle : Le I I') : KnownS I' ft xs i := fun j hj => let ⟨w, h1, h2⟩ := h j hj; ⟨w, h1, h2.mono hle⟩
theorem KnownS.next {I : Heap} {ft : Nat → Ke.Feat} {xs : List V5} {i : Nat} (h : KnownS I ft xs i) (hi : i < xs.length) {y : V5} (hy : FeatS I (ft i) (.agg (v5C y).toArray)) : KnownS I ft (xs.set i y) (i + 1) := fun j hj => by
  rcases Nat.lt_or_ge j i with hji | hji
  · obtain ⟨w, h1, h2⟩ := h j hji
    exact ⟨w, by rw [List.getElem?_set_ne (by omega)]; exact h1, h2⟩
  · have : j = i := by omega
    subst this
    exact ⟨y, List.getElem?_set_self hi, hy⟩
theorem rep5 (n : Nat) : (List.replicate n (v5C z5)).flatMap id = (List.replicate n z5).flatMap v5C := by
  induction n with
  | zero => rfl
  | succ n ih => rw [List.replicate_succ, List.replicate_succ, List.flatMap_cons, List.flatMap_cons, ih]; rfl
theorem row_spl0 {α : Type} {f : α → List Value} {n : Nat} (hf : ∀ x, (f x).length = n) {x : α} {l : List α} {i : Nat} (h : i < l.length) : LSpl (l.flatMap f) (i * n) (f x) ((l.set i x).flatMap f) := by
  have := row_spl hf (sp := []) (x := x) h
  rwa [List.append_nil, List.append_nil] at this
theorem row_zero {α : Type} {f : α → List Value} {n : Nat} (hf : ∀ x, (f x).length = n) {l : List α} {k : Nat} {x : α} (hx : l[k]? = some x) : ((l.flatMap f).drop (k * n)).take n = f x := by
  have := row_at hf (sp := []) hx
  rwa [List.append_nil] at this
abbrev cst (p : Nat × Nat) : Int × Int := ((p.1 : Int), (p.2 : Int))
theorem cst_mem {l : Kq.Prs} {a b : Nat} : ((a : Int), (b : Int)) ∈ l.map cst ↔ (a, b) ∈ l := by
  rw [List.mem_map]
  constructor
  · rintro ⟨⟨c, d⟩, h, e⟩
    simp only [cst, Prod.mk.injEq] at e
    obtain ⟨e1, e2⟩ := e
    have h1 : c = a := by omega
    have h2 : d = b := by omega
    subst h1; subst h2; exact h
  · exact fun h => ⟨(a, b), h, rfl⟩
theorem tab_next {F F' : Fam (List UInt8) Nat} {tb : Kq.Tab} {k : List UInt8} {xs : List Nat} {i : Nat} (hF : ∀ x, fget F x = Kq.look tb x) (hk : fget F k = xs) (hF' : ∀ b, fget F' b = if b == k then xs ++ [i] else fget F b) (x : List UInt8) : fget F' x = Kq.look (tb ++ [(k, i)]) x := by
  rw [hF', Kq.look_one]
  by_cases h : k = x
  · subst h; rw [if_pos (by simp), if_pos rfl, ← hk, hF]
  · rw [if_neg (by simpa using Ne.symm h), if_neg h, List.append_nil, hF]
theorem nodup_len {l : Kq.Prs} {n : Nat} (hn : l.Nodup) (h : ∀ p ∈ l, p.1 < n ∧ p.2 < n) : l.length ≤ n * n := by
  have h1 := Kq.sub_len hn (m := (List.range n).flatMap fun a => (List.range n).map fun b => (a, b)) fun p hp => by
    obtain ⟨a, b⟩ := p
    have := h _ hp
    simp only [List.mem_flatMap, List.mem_map, List.mem_range, Prod.mk.injEq]
    exact ⟨a, this.1, b, this.2, rfl, rfl⟩
  have h2 : ((List.range n).flatMap fun a => (List.range n).map fun b => (a, b)).length = n * n := by
    have h3 : ∀ l : List Nat, (l.flatMap fun a => (List.range n).map fun b => (a, b)).length = l.length * n := by
      intro l
      induction l with
      | nil => simp
      | cons a r ih => rw [List.flatMap_cons, List.length_append, ih, List.length_map, List.length_range, List.length_cons, Nat.add_mul]; omega
    rw [h3, List.length_range]
  omega
theorem sq_le {n m : Nat} (h : n ≤ 100000) (hm : m ≤ n * n) : m ≤ 10000000000 := Nat.le_trans hm (Nat.mul_le_mul h h)
section
variable {rs : List Rc} {i q : Nat} {k : List UInt8} {T : Kq.Tab × Kq.Prs × Kq.Prs}
theorem inv_at (hT : T = ((ksOf rs i).take q).foldl (Kq.pk (smOf rs) i) (Kq.run (ksOf rs) (smOf rs) i)) : Kq.Inv (ksOf rs) (smOf rs) i ((ksOf rs i).take q) T := by
  have h := Kq.Inv.keys (ks := ksOf rs) (sm := smOf rs) (i := i) ((ksOf rs i).take q) [] _ (by rw [List.nil_append]; exact (ks_nodup rs i).sublist (List.take_sublist _ _)) (Kq.run_inv (ksOf rs) (smOf rs) i fun a _ => ks_nodup rs a)
  rw [List.nil_append, ← hT] at h
  exact h
theorem look_at (hT : T = ((ksOf rs i).take q).foldl (Kq.pk (smOf rs) i) (Kq.run (ksOf rs) (smOf rs) i)) (hk : (ksOf rs i)[q]? = some k) : (∀ j ∈ Kq.look T.1 k, j < i) ∧ (Kq.look T.1 k).length ≤ i := by
  have h := inv_at hT
  have hn : k ∉ (ksOf rs i).take q := fun hm => by
    obtain ⟨a, ha, e⟩ := List.mem_iff_getElem.1 hm
    have ha2 : a < q := by rw [List.length_take] at ha; omega
    obtain ⟨hq1, hq2⟩ := List.getElem?_eq_some_iff.1 hk
    rw [List.getElem_take] at e
    have := (List.pairwise_iff_getElem.1 (ks_nodup rs i)) a q (by omega) hq1 ha2
    exact this (e.trans hq2.symm)
  rw [h.tab, if_neg hn, List.append_nil]
  refine ⟨fun j hj => ?_, ?_⟩
  · rw [List.mem_filter, List.mem_range] at hj; exact hj.1
  · have := List.length_filter_le (fun a => decide (k ∈ ksOf rs a)) (List.range i)
    rw [List.length_range] at this; exact this
theorem ot_len (hi : i < rs.length) (hn : rs.length ≤ 100000) (hT : T = ((ksOf rs i).take q).foldl (Kq.pk (smOf rs) i) (Kq.run (ksOf rs) (smOf rs) i)) (hk : (ksOf rs i)[q]? = some k) {t : Nat} {S : Kq.Prs × Kq.Prs} (hS : S = ((Kq.look T.1 k).take t).foldl (Kq.pj (smOf rs) i) T.2) : S.2.length ≤ 10000000000 := by
  have h := inv_at hT
  obtain ⟨h1, h2⟩ := Kq.pjs (smOf rs) i ((Kq.look T.1 k).take t) T.2 h.cho
  rw [← hS] at h1 h2
  refine sq_le hn (nodup_len h1.1 fun p hp => ?_)
  obtain ⟨a, b⟩ := p
  have h3 := (h2 a b).1 ((h1.2 a b).1 hp).1
  rw [h.seen] at h3
  rcases h3 with (⟨h4, h5, _⟩ | ⟨h4, h5, _⟩) | ⟨h4, h5⟩
  · dsimp only; omega
  · dsimp only; omega
  · have := (look_at hT hk).1 a (List.mem_of_mem_take h5)
    dsimp only; omega
theorem run_len (hn : rs.length ≤ 100000) : (Kq.run (ksOf rs) (smOf rs) rs.length).2.2.length ≤ 10000000000 := by
  have h := Kq.run_inv (ksOf rs) (smOf rs) rs.length fun a _ => ks_nodup rs a
  refine sq_le hn (nodup_len h.cho.1 fun p hp => ?_)
  obtain ⟨a, b⟩ := p
  have h3 := ((h.cho.2 a b).1 hp).1
  rw [h.seen] at h3
  rcases h3 with ⟨h4, h5, _⟩ | ⟨h4, h5, _, h6, _⟩
  · dsimp only; omega
  · cases h6
end
theorem ft_len {rs : List Rc} (hok : ∀ r ∈ rs, ROK r) (j : Nat) : (ftOf rs j).author.length ≤ 1000000000000 := by
  unfold ftOf
  cases h : rs[j]? with
  | none => rw [List.getD, h]; exact author_len (fs := []) ⟨Nat.zero_le _, fun f hf => by cases hf⟩
  | some r => rw [List.getD, h]; exact author_len (hok r (List.mem_of_getElem? h)).1
theorem gOk_same {base sz n n' : Nat} {xs xs' : List Value} {g : Gs} (h : gOk base sz n xs g) (hn : n = n') (hx : xs.length = xs'.length) : gOk base sz n' xs' g := by
  subst hn
  cases g with
  | none => obtain ⟨h1, h2⟩ := h; exact ⟨h1, List.length_eq_zero_iff.1 (by rw [← hx, h2]; rfl)⟩
  | some q => obtain ⟨h1, h2, h3⟩ := h; exact ⟨h1, by rw [← hx]; exact h2, by rw [← hx]; exact h3⟩
theorem foldl_next {α β : Type} (f : β → α → β) (b : β) {l : List α} {k : Nat} {x : α} (h : l[k]? = some x) : (l.take (k + 1)).foldl f b = f ((l.take k).foldl f b) x := by
  obtain ⟨hlt, hg⟩ := List.getElem?_eq_some_iff.1 h
  rw [List.take_succ_eq_append_getElem hlt, hg, List.foldl_append]; rfl
theorem pj_seen1 {sm : Nat → Nat → Bool} {i j : Nat} {sn ot : Kq.Prs} (h : (j, i) ∈ sn) : Kq.pj sm i (sn, ot) j = (sn, ot) := if_pos h
theorem pj_new {sm : Nat → Nat → Bool} {i j : Nat} {sn ot : Kq.Prs} (h : (j, i) ∉ sn) (hs : sm j i = true) : Kq.pj sm i (sn, ot) j = (sn ++ [(j, i)], ot ++ [(j, i)]) := by unfold Kq.pj; rw [if_neg h, if_pos hs]
theorem pj_not {sm : Nat → Nat → Bool} {i j : Nat} {sn ot : Kq.Prs} (h : (j, i) ∉ sn) (hs : ¬ sm j i = true) : Kq.pj sm i (sn, ot) j = (sn ++ [(j, i)], ot) := by unfold Kq.pj; rw [if_neg h, if_neg hs]
theorem perm_swap3 {α : Type} (A G G' : List α) : (A ++ G' ++ G).Perm (A ++ G ++ G') := by
  rw [List.append_assoc, List.append_assoc]; exact List.Perm.append_left A List.perm_append_comm
structure PA where
  i : Nat
  J : Heap
  xs : List V5
  tb : Kq.Tab
  sn : Kq.Prs
  ot : Kq.Prs
  l : ML (List UInt8)
  cc : Nat
  F : Fam (List UInt8) Nat
  ls : ML (Int × Int)
  cs : Nat
  g : Gs
structure PB where
  q : Nat
  tb : Kq.Tab
  sn : Kq.Prs
  ot : Kq.Prs
  l : ML (List UInt8)
  cc : Nat
  F : Fam (List UInt8) Nat
  ls : ML (Int × Int)
  cs : Nat
  g : Gs
structure PC where
  s : Nat
  sn : Kq.Prs
  ot : Kq.Prs
  ls : ML (Int × Int)
  cs : Nat
  g : Gs
set_option maxRecDepth 20000 in
set_option maxHeartbeats 4000000 in
theorem Pairs_ok (rs : List Rc) (hn : rs.length ≤ 100000) (hok : ∀ r ∈ rs, ROK r) (v : Value) (I : Heap) (hrs0 : RecsS I rs v) : Ctr Tryz.prog 27 [v] I [] (fun e I' H' => ∃ w, e = .returned w ∧ RowS twoN I' (pairsN rs) w ∧ H' = []) := by
 obtain ⟨p, c, rfl, hc, -⟩ := id hrs0.1
 refine Ctr.of_body Tryz.func27 rfl (by decide) (Nat.le_of_ble_eq_true rfl) ?_
 intro w0 hw0
 refine Cj.seq (Cj.region (J.z (yl_assign rfl rfl) ?_))
 refine J.nil (Ej.seq (Cj.seq (Cj.region (J.z (yl_move rfl rfl) ?_))))
 refine J.z (yl_lenSlice rfl rfl Tryz.underlying50) ?_
 refine J.op rfl (op_makeSliceN (n := rs.length) (c := rs.length) (by1 := 64) (sz := 5) (z := (.agg #[(.map none), (str []), (.slice none 0 0), (.int .i64 0), (.int .u8 0)])) (zs := v5C z5) rfl rfl rfl rfl rfl Tryz.underlying87 (by kernel_rfl) rfl rfl (by decide) (Nat.le_refl _) (by omega) (by omega) ?_)
 intro b1 hb1
 refine J.z (yl_assign rfl rfl) ?_
 refine J.nil (Ej.seq (Cj.seq (Cj.region (J.op rfl (op_makeMap rfl rfl rfl ?_)))))
 intro b2 hb2
 refine J.z (yl_assign rfl rfl) ?_
 refine J.nil (Ej.seq (Cj.seq (Cj.region (J.op rfl (op_makeMap rfl rfl rfl ?_)))))
 intro b3 hb3
 refine J.z (yl_assign rfl rfl) ?_
 refine J.nil (Ej.seq (Cj.seq (Cj.region (J.z (yl_assign rfl rfl) ?_))))
 refine J.nil (Ej.seq (Cj.seq (Cj.seq (Cj.region (J.z (yl_move rfl rfl) ?_)))))
 refine J.z (yl_lenSlice rfl rfl Tryz.underlying50) ?_
 refine J.z (yl_move rfl rfl) ?_
 refine J.nil (Ej.seq (Cj.block (Cj.loop (ι := PA) (fun y => y.i ≤ rs.length ∧ Le I y.J ∧ y.xs.length = rs.length ∧ KnownS y.J (ftOf rs) y.xs y.i ∧ (y.tb, y.sn, y.ot) = Kq.run (ksOf rs) (smOf rs) y.i ∧ FamS w0.heap.size 1 natC y.l y.F ∧ (∀ k, fget y.F k = Kq.look y.tb k) ∧ SetS y.ls y.cs (y.sn.map cst) ∧ gOk w0.heap.size 2 y.ot.length (y.ot.flatMap twoN) y.g) (fun y => rs.length - y.i) (fun y => [(3, .slice (some ⟨b1, 0, none⟩) rs.length rs.length), (4, .map (some b2)), (5, .map (some b3)), (6, gV y.ot.length y.g), (19, .slice p rs.length c), (20, i64 (rs.length : Int)), (21, i64 (y.i : Int))]) (fun y => y.J) (fun y => (b3, mobj (fun a : Int × Int => .agg #[i64 a.1, i64 a.2]) y.ls y.cs) :: (b2, mobj (fun a : List UInt8 => str a) y.l y.cc) :: (b1, cel 67 (y.xs.flatMap v5C)) :: (famH 3 natC y.F ++ gH 56 (y.ot.flatMap twoN) y.g)) ⟨0, _, List.replicate rs.length z5, [], [], [], [], 0, [], [], 0, none⟩ ⟨Nat.zero_le _, Le.refl _, List.length_replicate, fun j hj => absurd hj (Nat.not_lt_zero j), rfl, FamS.nil, fun _ => rfl, SetS.nil, rfl, rfl⟩ ⟨rfl, rfl, rfl, rfl, rfl, rfl, rfl, trivial⟩ rfl (by dsimp only; rw [← rep5]; rfl) ?_)))
 rintro ⟨i, Jh, xs, tb, sn, ot, l, cc, Fm, ls, cs, g⟩ ⟨hi, hIJ, hxl, hKn, hrun, hfam, hfget, hset, hg⟩
 dsimp only at hi hIJ hxl hKn hrun hfam hfget hset hg ⊢
 have hrs := hrs0.mono hIJ
 refine Cj.seq (Cj.region (J.z (yl_lss rfl rfl rfl) ?_))
 refine J.nil (Ej.seq (Cj.seq (Cj.cond rfl (fun hc4 => ?_) (fun hc4 => ?_))))
 ·
  have hc4p := of_decide_eq_true hc4
  have hlt : i < rs.length := by omega
  obtain ⟨r, hget⟩ : ∃ r, rs[i]? = some r := ⟨_, List.getElem?_eq_getElem hlt⟩
  have hrm := List.mem_of_getElem? hget
  have hrD := getD_of hget
  obtain ⟨⟨pp, pc, hpe, hpc, hpp⟩, hRall⟩ := id hrs
  cases hpe
  obtain ⟨pb, po, pcs, pty, pfr, psp, rfl, hpb, hpd⟩ := hpp (ne_nil_of hlt)
  have hR := hRall r hrm
  clear hRall
  obtain ⟨hok1, hok2⟩ := hok r hrm
  obtain ⟨rp, rcp, hrv, -, -⟩ := id hR.1
  refine Cj.skip (Ej.seq (Cj.seq (Cj.block (Cj.seq (Cj.region (J.z (yl_move rfl rfl) ?_))))))
  refine J.z (yl_indexAddr (off' := po + i * 3) rfl rfl rfl Tryz.underlying50 Tryz.sizeOf26 (by omega) (by omega) (by simp)) ?_
  refine J.z (yl_loadAgg rfl rfl Tryz.isAgg26 Tryz.sizeOf26 (Blk.imm hpb) (row_from rcC_len hpd hget) rfl) ?_
  refine J.op rfl (op_alloc rfl rfl rfl Tryz.zeroValue26 rfl ?_)
  intro b5 hb5
  refine J.z (yl_assign rfl rfl) ?_
  refine J.op rfl (op_store 0 rfl rfl rfl rfl rfl (rcC_one hrv) Tryz.sizeOf26 rfl rfl (LSpl.c (LSpl.c (LSpl.c LSpl.z))) LSet.z ?_)
  refine J.nil (Ej.seq (Cj.seq (Cj.region (J.z (yl_move rfl rfl) ?_))))
  refine J.z (yl_move rfl rfl) ?_
  refine J.z (yl_loadAgg rfl rfl Tryz.isAgg26 Tryz.sizeOf26 (Blk.at 0 rfl) rfl rfl) ?_
  refine J.op rfl (op_call (H1 := []) rfl rfl rfl rfl rfl (of_ok r.fs _ r.k r.l hok1 hok2 _ hR) ?_ (fun _ _ _ _ h => by obtain ⟨_, h, _⟩ := h; cases h) (fun _ _ h => by obtain ⟨_, h, _⟩ := h; cases h))
  intro v6 I7 H8 hle9 hp10
  have hIJ := hIJ.mono hle9
  have hrs := hrs.mono hle9
  have hKn := hKn.mono hle9
  have hpb := hle9 _ _ hpb
  have hR := hR.mono hle9
  obtain ⟨vff, h, ff, rfl⟩ := hp10; cases h
  obtain ⟨y5, rfl, h5o, h5⟩ := feat_v5 ff
  refine J.z (yl_indexAddr (off' := i * 5) rfl rfl rfl Tryz.underlying87 Tryz.sizeOf67 (by omega) (by omega) (by simp)) ?_
  refine J.op rfl (op_store 3 rfl rfl rfl rfl rfl h5o Tryz.sizeOf67 rfl rfl (row_spl0 (x := y5) v5C_len (by omega)) (LSet.s (LSet.s (LSet.s LSet.z))) ?_)
  have hKn := KnownS.next hKn (by omega) (by unfold ftOf; rw [hrD]; exact h5)
  have hkl := all_len hok1
  refine J.nil (Ej.seq (Cj.seq (Cj.region (J.z (yl_loadAgg rfl rfl Tryz.isAgg26 Tryz.sizeOf26 (Blk.at 0 rfl) rfl rfl) ?_))))
  refine J.op rfl (op_call (H1 := []) rfl rfl rfl rfl rfl (All_ok r.fs _ r.k r.l hok1 _ hR) ?_ (fun _ _ _ _ h => by obtain ⟨_, h, _⟩ := h; cases h) (fun _ _ h => by obtain ⟨_, h, _⟩ := h; cases h))
  intro v11 I12 H13 hle14 hp15
  have hIJ := hIJ.mono hle14
  have hrs := hrs.mono hle14
  have hKn := hKn.mono hle14
  have hpb := hle14 _ _ hpb
  have hR := hR.mono hle14
  have h5 := h5.mono hle14
  obtain ⟨vk, h, hk, rfl⟩ := hp15; cases h
  obtain ⟨kp, kc, rfl⟩ := StrS_sl hk
  refine J.z (yl_lenSlice rfl rfl Tryz.underlying31) ?_
  refine J.z (yl_move rfl rfl) ?_
  refine J.nil (Ej.seq (Cj.block (Cj.keep (Keeps.d (Keeps.k (Keeps.k (Keeps.k Keeps.r)))) ?_)))
  refine Cj.loop (ι := PB) (fun y => y.q ≤ (Ke.all r.fs).length ∧ (y.tb, y.sn, y.ot) = ((Ke.all r.fs).take y.q).foldl (Kq.pk (smOf rs) i) (tb, sn, ot) ∧ FamS w0.heap.size 1 natC y.l y.F ∧ (∀ k, fget y.F k = Kq.look y.tb k) ∧ SetS y.ls y.cs (y.sn.map cst) ∧ gOk w0.heap.size 2 y.ot.length (y.ot.flatMap twoN) y.g) (fun y => (Ke.all r.fs).length - y.q) (fun y => [(3, .slice (some ⟨b1, 0, none⟩) rs.length rs.length), (4, .map (some b2)), (5, .map (some b3)), (6, gV y.ot.length y.g), (7, i64 (i : Int)), (19, .slice (some ⟨pb, po, none⟩) rs.length c), (20, i64 (rs.length : Int)), (21, i64 (i : Int)), (32, .slice kp (Ke.all r.fs).length kc), (33, i64 ((Ke.all r.fs).length : Int)), (34, i64 (y.q : Int))]) (fun y => _) (fun y => (b3, mobj (fun a : Int × Int => .agg #[i64 a.1, i64 a.2]) y.ls y.cs) :: (b2, mobj (fun a : List UInt8 => str a) y.l y.cc) :: (b1, cel 67 ((xs.set i y5).flatMap v5C)) :: (famH 3 natC y.F ++ gH 56 (y.ot.flatMap twoN) y.g)) ⟨0, tb, sn, ot, l, cc, Fm, ls, cs, g⟩ ⟨Nat.zero_le _, rfl, hfam, hfget, hset, hg⟩ ⟨rfl, rfl, rfl, rfl, rfl, rfl, rfl, rfl, rfl, rfl, rfl, trivial⟩ rfl rfl ?_
  rintro ⟨q, tb1, sn1, ot1, l, cc, Fm, ls, cs, g⟩ ⟨hq, hB, hfam, hfget, hset, hg⟩
  dsimp only at hq hB hfam hfget hset hg ⊢
  refine Cj.seq (Cj.region (J.z (yl_lss rfl rfl rfl) ?_))
  refine J.nil (Ej.seq (Cj.seq (Cj.cond rfl (fun hc16 => ?_) (fun hc16 => ?_))))
  ·
   have hc16p := of_decide_eq_true hc16
   have hqlt : q < (Ke.all r.fs).length := by omega
   obtain ⟨k, hkget⟩ : ∃ k, (Ke.all r.fs)[q]? = some k := ⟨_, List.getElem?_eq_getElem hqlt⟩
   obtain ⟨kbb, kc1, ksp, hke, hkbb⟩ := hk.some (ne_nil_of hqlt)
   cases hke
   refine Cj.skip (Ej.seq (Cj.seq (Cj.block (Cj.seq (Cj.region (J.z (yl_indexAddr (off' := q) rfl rfl rfl Tryz.underlying31 Tryz.sizeOf9 (by omega) (by omega) (by simp)) ?_))))))
   refine J.z (yl_load rfl rfl Tryz.isAgg9 (Blk.imm hkbb) (str_get hkget)) ?_
   refine J.z (yl_assign rfl rfl) ?_
   refine J.nil (Ej.seq (Cj.seq (Cj.seq (Cj.region (J.z (yl_move rfl rfl) ?_)))))
   refine J.z (yl_move rfl rfl) ?_
   obtain ⟨F1, F2, js, gx, hout, hval, hgx, hfg, hback⟩ := hfam.out 3 k
   have hjs : Kq.look tb1 k = js := by rw [← hfget]; exact hfg
   have hkq : ksOf rs i = Ke.all r.fs := by unfold ksOf; rw [hrD]
   have hTT : (tb1, sn1, ot1) = ((ksOf rs i).take q).foldl (Kq.pk (smOf rs) i) (Kq.run (ksOf rs) (smOf rs) i) := by rw [← hrun, hkq]; exact hB
   have hkg2 : (ksOf rs i)[q]? = some k := by rw [hkq]; exact hkget
   obtain ⟨hjlt, hjn⟩ := look_at hTT hkg2
   dsimp only at hjlt hjn
   rw [hjs] at hjlt hjn
   refine J.z (yl_lookup1 (kv := (fun a : List UInt8 => str a)) (l := l) (a := k) rfl rfl rfl rfl Tryz.underlying88 (KeyK.text Tryz.underlying9) Tryz.zeroValue62 (Blk.at 1 rfl)) ?_
   refine J.eqv 40 rfl (show _ = gV js.length gx from hval) ?_
   refine J.perm ((hout [_, _, _]).append_right (gH _ _ _)) ?_
   refine J.z (yl_lenG hgx rfl rfl Tryz.underlying62) ?_
   refine J.z (yl_move rfl rfl) ?_
   refine J.nil (Ej.seq (Cj.block (Cj.keep (Keeps.k (Keeps.k (Keeps.k Keeps.r))) ?_)))
   refine Cj.loop (ι := PC) (fun y => y.s ≤ js.length ∧ (y.sn, y.ot) = (js.take y.s).foldl (Kq.pj (smOf rs) i) (sn1, ot1) ∧ SetS y.ls y.cs (y.sn.map cst) ∧ gOk w0.heap.size 2 y.ot.length (y.ot.flatMap twoN) y.g) (fun y => js.length - y.s) (fun y => [(3, .slice (some ⟨b1, 0, none⟩) rs.length rs.length), (4, .map (some b2)), (5, .map (some b3)), (6, gV y.ot.length y.g), (7, i64 (i : Int)), (10, str k), (19, .slice (some ⟨pb, po, none⟩) rs.length c), (20, i64 (rs.length : Int)), (21, i64 (i : Int)), (32, .slice (some ⟨kbb, 0, none⟩) (Ke.all r.fs).length kc), (33, i64 ((Ke.all r.fs).length : Int)), (34, i64 (q : Int)), (40, gV js.length gx), (41, i64 (js.length : Int)), (42, i64 (y.s : Int))]) (fun y => _) (fun y => (b3, mobj (fun a : Int × Int => .agg #[i64 a.1, i64 a.2]) y.ls y.cs) :: (b2, mobj (fun a : List UInt8 => str a) l cc) :: (b1, cel 67 ((xs.set i y5).flatMap v5C)) :: (famH 3 natC (F1 ++ F2) ++ gH 3 (js.flatMap natC) gx ++ gH 56 (y.ot.flatMap twoN) y.g)) ⟨0, sn1, ot1, ls, cs, g⟩ ⟨Nat.zero_le _, rfl, hset, hg⟩ ⟨rfl, rfl, rfl, rfl, rfl, rfl, rfl, rfl, rfl, rfl, rfl, rfl, rfl, rfl, rfl, trivial⟩ rfl rfl ?_
   rintro ⟨t, sn, ot, ls, cs, g⟩ ⟨ht, hCf, hset, hg⟩
   dsimp only at ht hCf hset hg ⊢
   have hotl := ot_len hlt hn hTT hkg2 (S := (sn, ot)) (t := t) (by dsimp only; rw [hjs]; exact hCf)
   dsimp only at hotl
   refine Cj.seq (Cj.region (J.z (yl_lss rfl rfl rfl) ?_))
   refine J.nil (Ej.seq (Cj.seq (Cj.cond rfl (fun hc17 => ?_) (fun hc17 => ?_))))
   ·
    have hc17p := of_decide_eq_true hc17
    have htlt : t < js.length := by omega
    obtain ⟨j, hjget⟩ : ∃ j, js[t]? = some j := ⟨_, List.getElem?_eq_getElem htlt⟩
    have hji := hjlt j (List.mem_of_getElem? hjget)
    obtain ⟨jb, jc, jsp, rfl, hjbb⟩ := hgx.some (by omega)
    obtain ⟨wj, hwj, hfj⟩ := hKn j (by omega)
    obtain ⟨wi, hwi, hfi⟩ := hKn i (by omega)
    refine Cj.skip (Ej.seq (Cj.seq (Cj.block (Cj.seq (Cj.region (J.z (yl_indexAddr (off' := 0 + t) rfl rfl rfl Tryz.underlying62 Tryz.sizeOf3 (by omega) (by omega) (by simp)) ?_))))))
    refine J.z (yl_load rfl rfl Tryz.isAgg3 (Blk.mem (o := cel 3 (js.flatMap natC ++ jsp)) (by simp [gH])) (one_from (g := fun x : Nat => i64 (x : Int)) (fun _ => rfl) rfl hjget)) ?_
    refine J.z (yl_assign rfl rfl) ?_
    refine J.nil (Ej.seq (Cj.seq (Cj.region (J.z (yl_move rfl rfl) ?_))))
    refine J.z (yl_move rfl rfl) ?_
    refine J.z (yl_buildS (pl := #[(0, 1), (1, 1)]) rfl rfl Tryz.zeroValue91 rfl Tryz.underlying91 (fun w => by simp [Tryz.sizeOf3]) (LBld.part rfl rfl rfl (LSpl.c LSpl.z) (LBld.part rfl rfl rfl (LSpl.s (LSpl.c LSpl.z)) LBld.none))) ?_
    refine J.op rfl (op_alloc rfl rfl rfl Tryz.zeroValue91 rfl ?_)
    intro b18 hb18
    refine J.op rfl (op_store 0 rfl rfl rfl rfl rfl rfl Tryz.sizeOf91 rfl rfl (LSpl.c (LSpl.c LSpl.z)) LSet.z ?_)
    refine J.nil (Ej.seq (Cj.seq (Cj.region (J.z (yl_move rfl rfl) ?_))))
    refine J.z (yl_loadAgg rfl rfl Tryz.isAgg91 Tryz.sizeOf91 (Blk.at 0 rfl) rfl rfl) ?_
    refine J.z (yl_lookup1 (kv := (fun a : Int × Int => .agg #[i64 a.1, i64 a.2])) (l := ls) (a := ((j : Int), (i : Int))) rfl rfl rfl rfl Tryz.underlying89 (KeyK.ints2 Tryz.underlying91 (by kernel_rfl) (by decide) (by decide) rfl rfl rfl rfl Tryz.underlying3 Tryz.isAgg3) Tryz.zeroValue4 (Blk.at 1 rfl)) ?_
    refine J.eqv 51 rfl (show _ = .bool (decide (((j : Int), (i : Int)) ∈ sn.map cst)) from (hset.get _)) ?_
    refine J.z (yl_not rfl rfl) ?_
    refine J.nil (Ej.seq (Cj.cond rfl (fun hc19 => ?_) (fun hc19 => ?_)))
    ·
     have hns : (j, i) ∉ sn := fun h => by have h1 := hc19; rw [decide_eq_true (cst_mem.2 h)] at h1; exact absurd h1 (by decide)
     refine Cj.seq (Cj.region (J.z (yl_move rfl rfl) ?_))
     refine J.z (yl_loadAgg rfl rfl Tryz.isAgg91 Tryz.sizeOf91 (Blk.at 0 rfl) rfl rfl) ?_
     refine J.op rfl (op_insert (kv := (fun a : Int × Int => .agg #[i64 a.1, i64 a.2])) (a := ((j : Int), (i : Int))) 1 (.inr rfl) rfl rfl rfl rfl rfl Tryz.underlying89 (KeyK.ints2 Tryz.underlying91 (by kernel_rfl) (by decide) (by decide) rfl rfl rfl rfl Tryz.underlying3 Tryz.isAgg3) rfl (LSet.s LSet.z) ?_)
     refine J.nil (Ej.seq (Cj.seq (Cj.drawSel [0, 1, 2, 3] [] 10 (by kernel_rfl) ?_)))
     have hpb_18 := hpb
     have hkbb_18 := hkbb
     refine JA.fix ⟨(HSub.c 0 rfl (HSub.c 1 rfl (HSub.c 2 rfl (HSub.c 3 rfl HSub.n)))), CSub.n, (Le.refl _)⟩ (fun fx20 => ?_)
     refine JA.tk 0 rfl fx20 (yl_move rfl rfl) ?_
     refine JA.tk 1 rfl fx20 (yl_move rfl rfl) ?_
     refine JA.tk 2 rfl fx20 (yl_indexAddr (off' := j * 5) rfl rfl rfl Tryz.underlying87 Tryz.sizeOf67 (by omega) (by omega) (by simp)) ?_
     refine JA.tk 3 rfl fx20 (yl_loadAgg rfl rfl Tryz.isAgg67 Tryz.sizeOf67 (Blk.atC 3 rfl) (row_zero v5C_len hwj) rfl) ?_
     refine JA.tk 4 rfl fx20 (yl_move rfl rfl) ?_
     refine JA.tk 5 rfl fx20 (yl_move rfl rfl) ?_
     refine JA.tk 6 rfl fx20 (yl_indexAddr (off' := i * 5) rfl rfl rfl Tryz.underlying87 Tryz.sizeOf67 (by omega) (by omega) (by simp)) ?_
     refine JA.tk 7 rfl fx20 (yl_loadAgg rfl rfl Tryz.isAgg67 Tryz.sizeOf67 (Blk.atC 3 rfl) (row_zero v5C_len hwi) rfl) ?_
     refine JA.step 8 (by kernel_rfl) rfl rfl (op_pure rfl rfl rfl rfl rfl (points_ok (ftOf rs j) (ftOf rs i) _ _ (Ke.year_rng _) (Ke.year_rng _) (ft_len hok j) (ft_len hok i) _ hfj hfi) ?_)
     refine ⟨⟨(Le.refl _), (HSub.c 0 rfl (HSub.c 1 rfl (HSub.c 2 rfl (HSub.c 3 rfl HSub.n)))), CSub.n⟩, ?_⟩
     refine JA.fix ⟨(HSub.c 0 rfl (HSub.c 1 rfl (HSub.c 2 rfl (HSub.c 3 rfl HSub.n)))), CSub.n, (Le.refl _)⟩ (fun fx21 => ?_)
     refine JA.tk 9 rfl fx21 (yl_geq rfl rfl rfl) ?_
     refine JA.done (by kernel_rfl) ?_
     refine Ej.seq (Cj.cond rfl (fun hc22 => ?_) (fun hc22 => ?_))
     ·
      have hc22p := of_decide_eq_true hc22
      have hsm : smOf rs j i = true := decide_eq_true (by omega)
      refine Cj.region (J.z (yl_move rfl rfl) ?_)
      refine J.z (yl_move rfl rfl) ?_
      refine J.z (yl_move rfl rfl) ?_
      refine J.z (yl_buildA (zs := [(.int .i64 0), (.int .i64 0)]) rfl rfl Tryz.zeroValue56 rfl Tryz.underlying56 Tryz.sizeOf3 rfl) ?_
      refine J.op rfl (op_buildSlice rfl rfl rfl Tryz.underlying53 Tryz.sizeOf56 Tryz.zeroValue56 rfl rfl rfl rfl (LCat.agg rfl LCat.none) ?_)
      intro b23 hb23
      refine J.op rfl (op_append (by' := 15) ([_, _, _, _, _] ++ famH _ _ _ ++ gH _ _ _) rfl rfl rfl rfl rfl Tryz.underlying53 (.inr ⟨_, Tryz.underlying53⟩) (by kernel_rfl) Tryz.sizeOf56 Tryz.zeroValue56 rfl hg rfl (Src.slice (Blk.at 0 rfl) rfl rfl rfl) (by omega) ?_)
      intro g24 hg24
      refine J.z (yl_assign rfl rfl) ?_
      refine J.nil (Ej.blkNormal (Ej.seq (Cj.region (J.z (yl_add rfl rfl rfl (w64 (by omega))) ?_))))
      refine J.z (yl_move rfl rfl) ?_
      refine J.nil (Ej.keep (Keeps.d (Keeps.d (Keeps.k (Keeps.k (Keeps.k Keeps.r))))) ?_)
      refine Ej.round ⟨t + 1, sn ++ [(j, i)], ot ++ [(j, i)], mset ls ((j : Int), (i : Int)) (.bool true) cs, mclk ls ((j : Int), (i : Int)) cs, g24⟩ ⟨by dsimp only; omega, by dsimp only; rw [foldl_next _ _ hjget, ← hCf, pj_new hns hsm], by dsimp only; rw [List.map_append]; exact hset.put _, by dsimp only; rw [List.length_append, List.flatMap_append]; exact hg24⟩ (by dsimp only; omega) ⟨rfl, rfl, rfl, by dsimp only; rw [List.length_append]; rfl, rfl, rfl, rfl, rfl, rfl, rfl, rfl, rfl, rfl, rfl, rfl, trivial⟩ rfl (by dsimp only; rw [List.flatMap_append]; rfl)
     ·
      have hc22p := of_decide_eq_false hc22
      have hsm : ¬ smOf rs j i = true := fun h => by have := of_decide_eq_true h; omega
      refine Cj.skip (Ej.blkNormal (Ej.seq (Cj.region (J.z (yl_add rfl rfl rfl (w64 (by omega))) ?_))))
      refine J.z (yl_move rfl rfl) ?_
      refine J.nil (Ej.keep (Keeps.d (Keeps.k (Keeps.k (Keeps.k Keeps.r)))) ?_)
      refine Ej.round ⟨t + 1, sn ++ [(j, i)], ot, mset ls ((j : Int), (i : Int)) (.bool true) cs, mclk ls ((j : Int), (i : Int)) cs, g⟩ ⟨by dsimp only; omega, by dsimp only; rw [foldl_next _ _ hjget, ← hCf, pj_not hns hsm], by dsimp only; rw [List.map_append]; exact hset.put _, hg⟩ (by dsimp only; omega) ⟨rfl, rfl, rfl, rfl, rfl, rfl, rfl, rfl, rfl, rfl, rfl, rfl, rfl, rfl, rfl, trivial⟩ rfl rfl
    ·
     have hns : (j, i) ∈ sn := by have h1 := hc19; rw [Bool.not_eq_false'] at h1; exact cst_mem.1 (of_decide_eq_true h1)
     refine Cj.skip (Ej.blkNormal (Ej.seq (Cj.region (J.z (yl_add rfl rfl rfl (w64 (by omega))) ?_))))
     refine J.z (yl_move rfl rfl) ?_
     refine J.nil (Ej.keep (Keeps.d (Keeps.k (Keeps.k (Keeps.k Keeps.r)))) ?_)
     refine Ej.round ⟨t + 1, sn, ot, ls, cs, g⟩ ⟨by dsimp only; omega, by dsimp only; rw [foldl_next _ _ hjget, ← hCf, pj_seen1 hns], hset, hg⟩ (by dsimp only; omega) ⟨rfl, rfl, rfl, rfl, rfl, rfl, rfl, rfl, rfl, rfl, rfl, rfl, rfl, rfl, rfl, trivial⟩ rfl rfl
   ·
    have hc17p := of_decide_eq_false hc17
    rw [List.take_of_length_le (by omega)] at hCf
    refine Cj.exit (Ej.seqExit (Ej.loopExit (Ej.blkExit (Ej.seq (Cj.region (J.z (yl_move rfl rfl) ?_))))))
    refine J.z (yl_move rfl rfl) ?_
    refine J.z (yl_move rfl rfl) ?_
    refine J.z (yl_move rfl rfl) ?_
    refine J.z (yl_lookup1 (kv := (fun a : List UInt8 => str a)) (l := l) (a := k) rfl rfl rfl rfl Tryz.underlying88 (KeyK.text Tryz.underlying9) Tryz.zeroValue62 (Blk.at 1 rfl)) ?_
    refine J.eqv 76 rfl (show _ = gV js.length gx from hval) ?_
    refine J.z (yl_move rfl rfl) ?_
    refine J.op rfl (op_buildSlice rfl rfl rfl Tryz.underlying62 Tryz.sizeOf3 Tryz.zeroValue3 rfl rfl rfl rfl (LCat.one rfl LCat.none) ?_)
    intro b25 hb25
    refine J.perm (perm_swap3 ([_, _, _, _] ++ famH _ _ _) (gH _ _ _) (gH _ _ _)) ?_
    refine J.op rfl (op_append (by' := 7) ([_, _, _, _] ++ famH _ _ _ ++ gH _ _ _) rfl rfl rfl rfl rfl Tryz.underlying62 (.inr ⟨_, Tryz.underlying62⟩) (by kernel_rfl) Tryz.sizeOf3 Tryz.zeroValue3 rfl hgx rfl (Src.slice (Blk.at 0 rfl) rfl rfl rfl) (by omega) ?_)
    intro g26 hg26
    refine J.op rfl (op_insert (kv := (fun a : List UInt8 => str a)) (a := k) 2 (.inr rfl) rfl rfl rfl rfl rfl Tryz.underlying88 (KeyK.text Tryz.underlying9) rfl (LSet.s (LSet.s LSet.z)) ?_)
    refine J.nil (Ej.blkNormal (Ej.seq (Cj.region (J.z (yl_add rfl rfl rfl (w64 (by omega))) ?_))))
    refine J.z (yl_move rfl rfl) ?_
    refine J.nil ?_
    obtain ⟨F9, hfam9, hget9, hperm9⟩ := hback i g26 cc hg26
    refine Ej.perm (((hperm9 [_, _, _, _]).append_right (gH _ _ _)).trans (perm_swap3 ([_, _, _, _] ++ famH _ _ _) (gH _ _ _) (gH _ _ _))) ?_
    refine Ej.keep (Keeps.d (Keeps.k (Keeps.k (Keeps.k Keeps.r)))) ?_
    refine Ej.round ⟨q + 1, tb1 ++ [(k, i)], sn, ot, mset l k (gV (js.length + 1) g26) cc, mclk l k cc, F9, ls, cs, g⟩ ⟨by dsimp only; omega, by dsimp only; rw [foldl_next _ _ hkget, ← hB]; unfold Kq.pk; dsimp only; rw [hjs, ← hCf], hfam9, fun x => tab_next hfget hfg hget9 x, hset, hg⟩ (by dsimp only; omega) ⟨rfl, rfl, rfl, rfl, rfl, rfl, rfl, rfl, rfl, rfl, rfl, trivial⟩ rfl rfl
  ·
   have hc16p := of_decide_eq_false hc16
   have hB : (tb1, sn1, ot1) = Kq.pr (ksOf rs) (smOf rs) (tb, sn, ot) i := by rw [hB, List.take_of_length_le (by omega)]; unfold Kq.pr ksOf; rw [hrD]
   refine Cj.exit (Ej.seqExit (Ej.loopExit (Ej.blkExit (Ej.blkNormal (Ej.seq (Cj.region (J.z (yl_add rfl rfl rfl (w64 (by omega))) ?_)))))))
   refine J.z (yl_move rfl rfl) ?_
   refine J.nil (Ej.round ⟨i + 1, _, xs.set i y5, tb1, sn1, ot1, l, cc, Fm, ls, cs, g⟩ ⟨by dsimp only; omega, hIJ, by dsimp only; rw [List.length_set]; exact hxl, hKn, by dsimp only; rw [Kq.run_next, ← hrun]; exact hB, hfam, hfget, hset, hg⟩ (by dsimp only; omega) ⟨rfl, rfl, rfl, rfl, rfl, rfl, rfl, trivial⟩ rfl rfl)
 ·
  have hc4p := of_decide_eq_false hc4
  have hin : i = rs.length := by omega
  subst hin
  refine Cj.exit (Ej.seqExit (Ej.loopExit (Ej.blkExit (Ej.seq (Cj.seq (Cj.region (J.z (yl_move rfl rfl) ?_)))))))
  refine J.perm (H' := gH _ _ _ ++ ([_, _, _] ++ famH _ _ _)) List.perm_append_comm ?_
  refine J.op rfl (op_call (H1 := gH _ _ _) rfl rfl rfl rfl rfl (SortP_ok ot g hg (by have h := run_len (rs := rs) hn; rw [← hrun] at h; dsimp only at h; omega) _) ?_ (fun _ _ _ _ h => by obtain ⟨_, _, _, h, _⟩ := h; cases h) (fun _ _ h => by obtain ⟨_, _, _, h, _⟩ := h; cases h))
  rintro v9 I9 H9 hle9 ⟨ps, hpp, hpo, h, rfl⟩; cases h
  have hot : (Kq.run (ksOf rs) (smOf rs) rs.length).2.2 = ot := by rw [← hrun]
  have hpt : ps = pairsN rs := Kq.sorted_tgt (fun a _ => ks_nodup rs a) (by rw [hot]; exact hpp) hpo
  have hpl : ot.length = ps.length := hpp.length_eq.symm
  have hgp : gOk w0.heap.size 2 ps.length (ps.flatMap twoN) g := gOk_same hg hpl (by rw [flat_len twoN_len, flat_len twoN_len, hpl])
  refine J.keepR twoN_len (by decide) hgp rfl (fun I7 hle7 hv => ?_)
  refine J.nil (Ej.seq (Cj.seq (Cj.region (J.z (yl_move rfl rfl) ?_))))
  refine J.z (yl_assign rfl rfl) ?_
  refine J.nil (Ej.seq (Cj.ret (Ej.bare ?_)))
  refine Ej.ret1 rfl rfl rfl ?_
  rw [hpl]
  exact ⟨_, rfl, by rw [← hpt]; exact hv, rfl⟩
end Go.Proofs.YtadnofaleepkmaaGreatDoor
end
section
namespace Ke
/-! ### Fields without the value that stands for their subfields -/
def nrm1 (f : Fld) : Fld := { f with sv := .slice none 0 0 }
def nrm (fs : List Fld) : List Fld := fs.map nrm1
theorem find_map {g : Fld → Fld} (hg : ∀ f, (g f).tag = f.tag) (tag : Bs) : ∀ fs : List Fld, find (fs.map g) tag = (find fs tag).map g
  | [] => rfl
  | f :: r => by
    have ih := find_map hg tag r
    unfold find at ih ⊢
    rw [List.map_cons]
    by_cases h : f.tag = tag
    · rw [List.find?_cons_of_pos (by rw [hg]; simpa using h), List.find?_cons_of_pos (by simpa using h)]; rfl
    · rw [List.find?_cons_of_neg (by rw [hg]; simpa using h), List.find?_cons_of_neg (by simpa using h), ih]
theorem first_map {g : Fld → Fld} (hg : ∀ f, (g f).tag = f.tag) (hz : g zf = zf) (tag : Bs) (fs : List Fld) : first (fs.map g) tag = g (first fs tag) := by
  unfold first
  rw [find_map hg]
  cases find fs tag with
  | none => exact hz.symm
  | some f => rfl
theorem first_nrm (fs : List Fld) (tag : Bs) : first (nrm fs) tag = nrm1 (first fs tag) := first_map (g := nrm1) (fun _ => rfl) rfl tag fs
theorem title_nrm (fs : List Fld) : title (nrm fs) = title fs := by unfold title; rw [first_nrm]; rfl
theorem author_nrm (fs : List Fld) : author (nrm fs) = author fs := by unfold author; rw [first_nrm]; rfl
theorem year_nrm (fs : List Fld) : year (nrm fs) = year fs := by unfold year y260; rw [first_nrm, first_nrm]; rfl
theorem isbns_nrm (fs : List Fld) : isbns (nrm fs) = isbns fs := by
  unfold isbns nrm
  rw [List.flatMap_map]; rfl
theorem feat_nrm (k : UInt8) (fs : List Fld) : feat k (nrm fs) = feat k fs := by unfold feat; rw [title_nrm, author_nrm, year_nrm, isbns_nrm]
theorem all_nrm (fs : List Fld) : all (nrm fs) = all fs := by
  have h1 : (nrm fs).flatMap books = fs.flatMap books := by unfold nrm; rw [List.flatMap_map]; rfl
  have h2 : titles (nrm fs) = titles fs := by unfold titles; rw [title_nrm, first_nrm]; rfl
  unfold all raw
  rw [h1, h2]
/-! ### Records out of numbers -/
def yearsL : List Bs := [[], [49, 57, 56, 52], [49, 57, 56, 53], [49, 57, 57, 48], [99, 49, 57, 56, 52, 46], [49, 57, 56], [56, 52, 32, 49, 57, 57, 57, 32, 49, 57, 56, 52], [120]]
def booksL : List Bs := [[], [57, 55, 56, 51, 49, 54, 49, 52, 56, 52, 49, 48, 48], [57, 55, 56, 45, 51, 45, 49, 54, 45, 49, 52, 56, 52, 49, 48, 45, 48, 32, 40, 112, 98, 107, 41], [51, 49, 54, 49, 52, 56, 52, 49, 48, 88], [48, 51, 48, 54, 52, 48, 54, 49, 53, 50], [57, 55, 56, 48, 51, 48, 54, 52, 48, 54, 49, 53, 55], [49, 50, 51]]
def namesL : List Bs := [[], [77, 195, 188, 108, 108, 101, 114, 44, 32, 65, 110, 110, 97], [77, 117, 108, 108, 101, 114, 44, 32, 65, 110, 110, 97], [77, 85, 76, 76, 69, 82, 32, 65, 46], [71, 195, 182, 100, 101, 108, 44, 32, 75, 117, 114, 116], [45]]
def titlesL : List Bs := [[84, 104, 101, 32, 115, 116, 97, 114, 115], [116, 104, 101, 32, 83, 84, 65, 82, 83, 33], [83, 116, 97, 114, 115], [], [195, 156, 98, 101, 114, 32, 97, 108, 108, 101, 115], [85, 98, 101, 114, 44, 32, 97, 108, 108, 101, 115]]
def indsL : List Bs := [[48, 48], [48, 52], [49, 120]]
structure Six where
  q0 : Int
  q1 : Int
  q2 : Int
  q3 : Int
  q4 : Int
  q5 : Int
def pick (l : List Bs) (n : Int) : Bs := l.getD n.toNat []
def mkind (q : Six) : UInt8 := if q.q0 % 5 = 4 then 109 else 97
def m008 (q : Six) : List Fld := if q.q1 % 2 = 0 then [⟨[48, 48, 56], [], ([56, 53, 48, 49, 48, 49, 115] ++ pick yearsL (q.q1 % 8)) ++ [32, 32, 32, 32, 120, 120], .slice none 0 0, []⟩] else []
def m020 (q : Six) (k : Nat) : List Fld := (List.range k).map fun i : Nat => ⟨[48, 50, 48], [32, 32], [], .slice none 0 0, [⟨if q.q2 % 7 = 6 then 122 else 97, pick booksL ((q.q2.tdiv 3 + (i : Int)) % 7)⟩]⟩
def m100 (q : Six) : List Fld := if q.q3 % 4 = 0 then [] else [⟨[49, 48, 48], [49, 32], [], .slice none 0 0, [⟨97, pick namesL (q.q3.tdiv 4 % 6)⟩]⟩]
def m245 (q : Six) : List Fld := if q.q4 % 5 = 0 then [] else [⟨[50, 52, 53], pick indsL (q.q4 % 3), [], .slice none 0 0, [⟨97, pick titlesL (q.q4.tdiv 5 % 6)⟩, ⟨99, [98, 121]⟩]⟩]
def m260 (q : Six) : List Fld := if q.q5 % 3 = 0 then [] else [⟨[50, 54, 48], [32, 32], [], .slice none 0 0, [⟨97, [80, 97, 114, 105, 115, 32, 49, 57, 48, 48]⟩, ⟨99, pick yearsL (q.q5 % 8)⟩]⟩]
def made6 (q : Six) : List Fld := m008 q ++ m020 q (q.q2 % 3).toNat ++ m100 q ++ m245 q ++ m260 q
theorem pick_in {l : List Bs} {n : Int} (h0 : 0 ≤ n) (h1 : n < (l.length : Int)) : pick l n ∈ l := by
  unfold pick
  rw [List.getD, List.getElem?_eq_getElem (show n.toNat < l.length by omega)]; exact List.getElem_mem _
theorem pick_get {l : List Bs} {n : Int} (h0 : 0 ≤ n) (h1 : n < (l.length : Int)) : l[n.toNat]? = some (pick l n) := by
  unfold pick
  rw [List.getD, List.getElem?_eq_getElem (show n.toNat < l.length by omega)]; rfl
theorem mem008 {q : Six} {f : Fld} (h : f ∈ m008 q) : f.tag = [48, 48, 56] ∧ f.subs = [] ∧ f.ind = [] ∧ f.data.length ≤ 40 := by
  unfold m008 at h
  split at h
  · rw [List.mem_singleton.1 h]
    have hm : pick yearsL (q.q1 % 8) ∈ yearsL := pick_in (by omega) (by simp [yearsL]; omega)
    have hl : ∀ y ∈ yearsL, y.length ≤ 12 := by decide
    have := hl _ hm
    exact ⟨rfl, rfl, rfl, by dsimp only; simp only [List.length_append, List.length_cons, List.length_nil]; omega⟩
  · cases h
theorem mem020 {q : Six} {k : Nat} {f : Fld} (h : f ∈ m020 q k) : f.tag = [48, 50, 48] ∧ f.ind = [32, 32] ∧ f.data = [] ∧ ∃ c t, f.subs = [⟨c, t⟩] ∧ t ∈ booksL := by
  obtain ⟨i, _, rfl⟩ := List.mem_map.1 h
  exact ⟨rfl, rfl, rfl, _, _, rfl, pick_in (by omega) (by simp [booksL]; omega)⟩
theorem mem100 {q : Six} {f : Fld} (h : f ∈ m100 q) : f.tag = [49, 48, 48] ∧ f.ind = [49, 32] ∧ f.data = [] ∧ ∃ t, f.subs = [⟨97, t⟩] ∧ t ∈ namesL := by
  unfold m100 at h
  split at h
  · cases h
  · rw [List.mem_singleton.1 h]; exact ⟨rfl, rfl, rfl, _, rfl, pick_in (by omega) (by simp [namesL]; omega)⟩
theorem mem245 {q : Six} {f : Fld} (h : f ∈ m245 q) : f.tag = [50, 52, 53] ∧ f.ind ∈ indsL ∧ f.data = [] ∧ ∃ t, f.subs = [⟨97, t⟩, ⟨99, [98, 121]⟩] ∧ t ∈ titlesL := by
  unfold m245 at h
  split at h
  · cases h
  · rw [List.mem_singleton.1 h]; exact ⟨rfl, pick_in (by omega) (by simp [indsL]; omega), rfl, _, rfl, pick_in (by omega) (by simp [titlesL]; omega)⟩
theorem mem260 {q : Six} {f : Fld} (h : f ∈ m260 q) : f.tag = [50, 54, 48] ∧ f.ind = [32, 32] ∧ f.data = [] ∧ ∃ t, f.subs = [⟨97, [80, 97, 114, 105, 115, 32, 49, 57, 48, 48]⟩, ⟨99, t⟩] ∧ t ∈ yearsL := by
  unfold m260 at h
  split at h
  · cases h
  · rw [List.mem_singleton.1 h]; exact ⟨rfl, rfl, rfl, _, rfl, pick_in (by omega) (by simp [yearsL]; omega)⟩
/-! ### Capital letters and signs -/
def cap (c : UInt8) : UInt8 := if 97 ≤ c.toNat ∧ c.toNat ≤ 122 then UInt8.ofNat (c.toNat - 32) else c
def capS (s : Bs) : Bs := s.map cap
def op1 (m : Bs) (s : Sub) : Sub := { s with text := capS s.text ++ m }
def opC (f : Fld) : Bool := decide (f.tag = [49, 48, 48]) || (decide (f.tag = [50, 52, 53]) && decide (f.ind ≠ [48, 52]))
def op (m : Bs) (f : Fld) : Fld := if opC f = true then { f with subs := f.subs.map (op1 m) } else f
theorem find_tag {fs : List Fld} {tag : Bs} {f : Fld} (h : find fs tag = some f) : f.tag = tag ∧ f ∈ fs := ⟨by have := List.find?_some h; simpa using this, List.mem_of_find?_eq_some h⟩
theorem first_in (fs : List Fld) (tag : Bs) : first fs tag = zf ∨ ((first fs tag).tag = tag ∧ first fs tag ∈ fs) := by
  unfold first
  cases h : find fs tag with
  | none => exact .inl rfl
  | some f => exact .inr (find_tag h)
theorem made_in {q : Six} {f : Fld} (h : f ∈ made6 q) : f ∈ m008 q ∨ f ∈ m020 q (q.q2 % 3).toNat ∨ f ∈ m100 q ∨ f ∈ m245 q ∨ f ∈ m260 q := by
  unfold made6 at h
  simp only [List.mem_append] at h
  rcases h with (((h | h) | h) | h) | h
  · exact .inl h
  · exact .inr (.inl h)
  · exact .inr (.inr (.inl h))
  · exact .inr (.inr (.inr (.inl h)))
  · exact .inr (.inr (.inr (.inr h)))
end Ke
end
section
namespace Go.Proofs.YtadnofaleepkmaaGreatDoor
open Go Go.Sx
def fA (s1 s2 s3 : Value) : List Ke.Fld := [⟨[48, 50, 48], [32, 32], [], s1, [⟨97, [57, 55, 56, 51, 49, 54, 49, 52, 56, 52, 49, 48, 48]⟩]⟩, ⟨[50, 52, 53], [48, 48], [], s2, [⟨97, [84, 104, 101, 32, 115, 116, 97, 114, 115]⟩]⟩, ⟨[49, 48, 48], [49, 32], [], s3, [⟨97, [77, 195, 188, 108, 108, 101, 114, 44, 32, 65, 110, 110, 97]⟩]⟩]
def fB (s1 s2 : Value) : List Ke.Fld := [⟨[50, 52, 53], [48, 48], [], s1, [⟨97, [116, 104, 101, 32, 83, 84, 65, 82, 83]⟩]⟩, ⟨[49, 48, 48], [49, 32], [], s2, [⟨97, [77, 117, 108, 108, 101, 114]⟩]⟩]
def fC (s1 : Value) : List Ke.Fld := [⟨[48, 50, 48], [32, 32], [], s1, [⟨97, [57, 55, 56, 45, 51, 45, 49, 54, 45, 49, 52, 56, 52, 49, 48, 45, 48]⟩]⟩]
def nA : List Ke.Fld := fA (.slice none 0 0) (.slice none 0 0) (.slice none 0 0)
def nB : List Ke.Fld := fB (.slice none 0 0) (.slice none 0 0)
def nC : List Ke.Fld := fC (.slice none 0 0)
theorem feat_A (k : UInt8) (s1 s2 s3 : Value) : Ke.feat k (fA s1 s2 s3) = Ke.feat k nA := by rw [← Ke.feat_nrm]; rfl
theorem feat_B (k : UInt8) (s1 s2 : Value) : Ke.feat k (fB s1 s2) = Ke.feat k nB := by rw [← Ke.feat_nrm]; rfl
theorem feat_C (k : UInt8) (s1 : Value) : Ke.feat k (fC s1) = Ke.feat k nC := by rw [← Ke.feat_nrm]; rfl
theorem pAA : Ke.pts (Ke.feat 97 nA) (Ke.feat 97 nA) = 95 := by decide +kernel
theorem pAB : Ke.pts (Ke.feat 97 nA) (Ke.feat 97 nB) = 38 := by decide +kernel
theorem pAC : Ke.pts (Ke.feat 97 nA) (Ke.feat 109 nC) = 10 := by decide +kernel
theorem pBC : Ke.pts (Ke.feat 97 nB) (Ke.feat 109 nC) = -40 := by decide +kernel
theorem small_ok {fs : List Ke.Fld} (h : fs.length ≤ 5 ∧ ∀ f ∈ fs, f.subs.length ≤ 5 ∧ textsLen f.subs ≤ 50 ∧ f.ind.length ≤ 5 ∧ f.data.length ≤ 5) : FOK fs ∧ ∀ f ∈ fs, f.data.length ≤ 2000000 := by
  refine ⟨⟨by omega, fun f hf => ?_⟩, fun f hf => ?_⟩
  · obtain ⟨h1, h2, h3, -⟩ := h.2 f hf; exact ⟨by omega, by omega, by omega⟩
  · have := (h.2 f hf).2.2.2; omega
theorem okA (s1 s2 s3 : Value) : FOK (fA s1 s2 s3) ∧ ∀ f ∈ fA s1 s2 s3, f.data.length ≤ 2000000 := small_ok ⟨of_decide_eq_true rfl, fun f hf => by
  simp only [fA, List.mem_cons, List.not_mem_nil, or_false] at hf
  rcases hf with rfl | rfl | rfl <;> exact ⟨of_decide_eq_true rfl, of_decide_eq_true rfl, of_decide_eq_true rfl, of_decide_eq_true rfl⟩⟩
theorem okB (s1 s2 : Value) : FOK (fB s1 s2) ∧ ∀ f ∈ fB s1 s2, f.data.length ≤ 2000000 := small_ok ⟨of_decide_eq_true rfl, fun f hf => by
  simp only [fB, List.mem_cons, List.not_mem_nil, or_false] at hf
  rcases hf with rfl | rfl <;> exact ⟨of_decide_eq_true rfl, of_decide_eq_true rfl, of_decide_eq_true rfl, of_decide_eq_true rfl⟩⟩
theorem okC (s1 : Value) : FOK (fC s1) ∧ ∀ f ∈ fC s1, f.data.length ≤ 2000000 := small_ok ⟨of_decide_eq_true rfl, fun f hf => by
  simp only [fC, List.mem_cons, List.not_mem_nil, or_false] at hf
  rcases hf with rfl; exact ⟨of_decide_eq_true rfl, of_decide_eq_true rfl, of_decide_eq_true rfl, of_decide_eq_true rfl⟩⟩
def nrmR (r : Rc) : Rc := ⟨r.k, 0, .slice none 0 0, Ke.nrm r.fs⟩
theorem getD_map_nrm (rs : List Rc) (i : Nat) : (rs.map nrmR).getD i zr = nrmR (rs.getD i zr) := by
  rw [List.getD, List.getD, List.getElem?_map]
  cases rs[i]? with
  | none => rfl
  | some r => rfl
theorem pairs_nrm (rs : List Rc) : pairsN (rs.map nrmR) = pairsN rs := by
  have h1 : ksOf (rs.map nrmR) = ksOf rs := by
    funext i
    unfold ksOf
    rw [getD_map_nrm]; exact Ke.all_nrm _
  have h2 : ftOf (rs.map nrmR) = ftOf rs := by
    funext i
    unfold ftOf
    rw [getD_map_nrm]; exact Ke.feat_nrm _ _
  have h3 : smOf (rs.map nrmR) = smOf rs := by funext a b; unfold smOf; rw [h2]
  unfold pairsN
  rw [h1, h3, List.length_map]
def nP : List Rc := [⟨97, 0, .slice none 0 0, nA⟩, ⟨97, 0, .slice none 0 0, nB⟩, ⟨97, 0, .slice none 0 0, nA⟩]
theorem pABA : (pairsN nP).map cst = [((0 : Int), (2 : Int))] := by decide +kernel
theorem parts_ex : partsI 5 [((3 : Int), (1 : Int)), (4, 3), (7, 0)] = [[0], [1, 3, 4], [2]] := by decide +kernel
theorem rowT {I : Heap} {l : Kq.Prs} {v : Value} (h : RowS twoN I l v) : RowS twoC I (l.map cst) v := RowS.cast (fun _ => rfl) h
set_option maxRecDepth 20000 in
set_option maxHeartbeats 2000000 in
theorem sanity_ok (I : Heap) : Pure Tryz.prog 12 [] I (.bool true) := by
 refine Ctr.toPure ?_
 refine Ctr.of_body Tryz.func12 rfl (by decide) (Nat.le_of_ble_eq_true rfl) ?_
 intro w0 hw0
 refine Cj.seq (Cj.region (J.z (yl_assign rfl rfl) ?_))
 refine J.nil (Ej.seq (Cj.seq (Cj.region (J.op rfl (op_call (H1 := []) rfl rfl rfl rfl rfl (field_ok [48, 50, 48] [32, 32] [57, 55, 56, 51, 49, 54, 49, 52, 56, 52, 49, 48, 48] _) ?_ (fun _ _ _ _ h => by obtain ⟨_, h, _⟩ := h; cases h) (fun _ _ h => by obtain ⟨_, h, _⟩ := h; cases h))))))
 intro v1 I2 H3 hle4 hp5
 obtain ⟨v7, h, hs7, rfl⟩ := hp5; cases h
 obtain ⟨p7, c7, rfl, -, -⟩ := id hs7
 refine J.op rfl (op_call (H1 := []) rfl rfl rfl rfl rfl (field_ok [50, 52, 53] [48, 48] [84, 104, 101, 32, 115, 116, 97, 114, 115] _) ?_ (fun _ _ _ _ h => by obtain ⟨_, h, _⟩ := h; cases h) (fun _ _ h => by obtain ⟨_, h, _⟩ := h; cases h))
 intro v6 I7 H8 hle9 hp10
 have hs7 := hs7.mono hle9
 obtain ⟨v8, h, hs8, rfl⟩ := hp10; cases h
 obtain ⟨p8, c8, rfl, -, -⟩ := id hs8
 refine J.op rfl (op_call (H1 := []) rfl rfl rfl rfl rfl (field_ok [49, 48, 48] [49, 32] [77, 195, 188, 108, 108, 101, 114, 44, 32, 65, 110, 110, 97] _) ?_ (fun _ _ _ _ h => by obtain ⟨_, h, _⟩ := h; cases h) (fun _ _ h => by obtain ⟨_, h, _⟩ := h; cases h))
 intro v11 I12 H13 hle14 hp15
 have hs7 := hs7.mono hle14
 have hs8 := hs8.mono hle14
 obtain ⟨v9, h, hs9, rfl⟩ := hp15; cases h
 obtain ⟨p9, c9, rfl, -, -⟩ := id hs9
 refine J.op rfl (op_buildSlice rfl rfl rfl Tryz.underlying23 Tryz.sizeOf35 Tryz.zeroValue35 rfl rfl rfl rfl (LCat.agg rfl (LCat.agg rfl (LCat.agg rfl LCat.none))) ?_)
 intro b16 hb16
 refine J.z (yl_buildS (pl := #[(0, 1), (1, 1), (2, 1)]) rfl rfl Tryz.zeroValue26 rfl Tryz.underlying26 (fun w => by simp [Tryz.sizeOf23, Tryz.sizeOf5]) (LBld.part rfl rfl rfl (LSpl.c LSpl.z) (LBld.part rfl rfl rfl (LSpl.s (LSpl.s (LSpl.c LSpl.z))) LBld.none))) ?_
 refine J.op rfl (op_alloc rfl rfl rfl Tryz.zeroValue26 rfl ?_)
 intro b17 hb17
 refine J.op rfl (op_store 0 rfl rfl rfl rfl rfl rfl Tryz.sizeOf26 rfl rfl (LSpl.c (LSpl.c (LSpl.c LSpl.z))) LSet.z ?_)
 refine J.nil (Ej.seq (Cj.seq (Cj.pull (Pull.s Pull.z) ?_)))
 refine Cj.persist hb16 (fun I19 hle18 hb16i => ?_)
 have hs7 := hs7.mono hle18
 have hs8 := hs8.mono hle18
 have hs9 := hs9.mono hle18
 have hRA : RecS _ (fA (.slice p7 1 c7) (.slice p8 1 c8) (.slice p9 1 c9)) (.slice (some ⟨b16, 0, none⟩) 3 3) := ⟨RowS.of (l := (fA (.slice p7 1 c7) (.slice p8 1 c8) (.slice p9 1 c9))) (sp := []) (Nat.le_refl _) hb16i, fun f hf => by
  simp only [fA, List.mem_cons, List.not_mem_nil, or_false] at hf
  rcases hf with rfl | rfl | rfl
  · exact hs7
  · exact hs8
  · exact hs9⟩
 refine Cj.region (J.op rfl (op_call (H1 := []) rfl rfl rfl rfl rfl (field_ok [50, 52, 53] [48, 48] [116, 104, 101, 32, 83, 84, 65, 82, 83] _) ?_ (fun _ _ _ _ h => by obtain ⟨_, h, _⟩ := h; cases h) (fun _ _ h => by obtain ⟨_, h, _⟩ := h; cases h)))
 intro v20 I21 H22 hle23 hp24
 have hs7 := hs7.mono hle23
 have hs8 := hs8.mono hle23
 have hs9 := hs9.mono hle23
 have hb16i := hle23 _ _ hb16i
 have hRA := hRA.mono hle23
 obtain ⟨v12, h, hs12, rfl⟩ := hp24; cases h
 obtain ⟨p12, c12, rfl, -, -⟩ := id hs12
 refine J.op rfl (op_call (H1 := []) rfl rfl rfl rfl rfl (field_ok [49, 48, 48] [49, 32] [77, 117, 108, 108, 101, 114] _) ?_ (fun _ _ _ _ h => by obtain ⟨_, h, _⟩ := h; cases h) (fun _ _ h => by obtain ⟨_, h, _⟩ := h; cases h))
 intro v25 I26 H27 hle28 hp29
 have hs7 := hs7.mono hle28
 have hs8 := hs8.mono hle28
 have hs9 := hs9.mono hle28
 have hb16i := hle28 _ _ hb16i
 have hRA := hRA.mono hle28
 have hs12 := hs12.mono hle28
 obtain ⟨v13, h, hs13, rfl⟩ := hp29; cases h
 obtain ⟨p13, c13, rfl, -, -⟩ := id hs13
 refine J.op rfl (op_buildSlice rfl rfl rfl Tryz.underlying23 Tryz.sizeOf35 Tryz.zeroValue35 rfl rfl rfl rfl (LCat.agg rfl (LCat.agg rfl LCat.none)) ?_)
 intro b30 hb30
 refine J.z (yl_buildS (pl := #[(0, 1), (1, 1), (2, 1)]) rfl rfl Tryz.zeroValue26 rfl Tryz.underlying26 (fun w => by simp [Tryz.sizeOf23, Tryz.sizeOf5]) (LBld.part rfl rfl rfl (LSpl.c LSpl.z) (LBld.part rfl rfl rfl (LSpl.s (LSpl.s (LSpl.c LSpl.z))) LBld.none))) ?_
 refine J.op rfl (op_alloc rfl rfl rfl Tryz.zeroValue26 rfl ?_)
 intro b31 hb31
 refine J.op rfl (op_store 0 rfl rfl rfl rfl rfl rfl Tryz.sizeOf26 rfl rfl (LSpl.c (LSpl.c (LSpl.c LSpl.z))) LSet.z ?_)
 refine J.nil (Ej.seq (Cj.seq (Cj.pull (Pull.s Pull.z) ?_)))
 refine Cj.persist hb30 (fun I33 hle32 hb30i => ?_)
 have hs7 := hs7.mono hle32
 have hs8 := hs8.mono hle32
 have hs9 := hs9.mono hle32
 have hb16i := hle32 _ _ hb16i
 have hRA := hRA.mono hle32
 have hs12 := hs12.mono hle32
 have hs13 := hs13.mono hle32
 have hRB : RecS _ (fB (.slice p12 1 c12) (.slice p13 1 c13)) (.slice (some ⟨b30, 0, none⟩) 2 2) := ⟨RowS.of (l := (fB (.slice p12 1 c12) (.slice p13 1 c13))) (sp := []) (Nat.le_refl _) hb30i, fun f hf => by
  simp only [fB, List.mem_cons, List.not_mem_nil, or_false] at hf
  rcases hf with rfl | rfl
  · exact hs12
  · exact hs13⟩
 refine Cj.region (J.op rfl (op_call (H1 := []) rfl rfl rfl rfl rfl (field_ok [48, 50, 48] [32, 32] [57, 55, 56, 45, 51, 45, 49, 54, 45, 49, 52, 56, 52, 49, 48, 45, 48] _) ?_ (fun _ _ _ _ h => by obtain ⟨_, h, _⟩ := h; cases h) (fun _ _ h => by obtain ⟨_, h, _⟩ := h; cases h)))
 intro v34 I35 H36 hle37 hp38
 have hs7 := hs7.mono hle37
 have hs8 := hs8.mono hle37
 have hs9 := hs9.mono hle37
 have hb16i := hle37 _ _ hb16i
 have hRA := hRA.mono hle37
 have hs12 := hs12.mono hle37
 have hs13 := hs13.mono hle37
 have hb30i := hle37 _ _ hb30i
 have hRB := hRB.mono hle37
 obtain ⟨v16, h, hs16, rfl⟩ := hp38; cases h
 obtain ⟨p16, c16, rfl, -, -⟩ := id hs16
 refine J.op rfl (op_buildSlice rfl rfl rfl Tryz.underlying23 Tryz.sizeOf35 Tryz.zeroValue35 rfl rfl rfl rfl (LCat.agg rfl LCat.none) ?_)
 intro b39 hb39
 refine J.z (yl_buildS (pl := #[(0, 1), (1, 1), (2, 1)]) rfl rfl Tryz.zeroValue26 rfl Tryz.underlying26 (fun w => by simp [Tryz.sizeOf23, Tryz.sizeOf5]) (LBld.part rfl rfl rfl (LSpl.c LSpl.z) (LBld.part rfl rfl rfl (LSpl.s (LSpl.s (LSpl.c LSpl.z))) LBld.none))) ?_
 refine J.op rfl (op_alloc rfl rfl rfl Tryz.zeroValue26 rfl ?_)
 intro b40 hb40
 refine J.op rfl (op_store 0 rfl rfl rfl rfl rfl rfl Tryz.sizeOf26 rfl rfl (LSpl.c (LSpl.c (LSpl.c LSpl.z))) LSet.z ?_)
 refine J.nil (Ej.seq (Cj.seq (Cj.pull (Pull.s Pull.z) ?_)))
 refine Cj.persist hb39 (fun I42 hle41 hb39i => ?_)
 have hs7 := hs7.mono hle41
 have hs8 := hs8.mono hle41
 have hs9 := hs9.mono hle41
 have hb16i := hle41 _ _ hb16i
 have hRA := hRA.mono hle41
 have hs12 := hs12.mono hle41
 have hs13 := hs13.mono hle41
 have hb30i := hle41 _ _ hb30i
 have hRB := hRB.mono hle41
 have hs16 := hs16.mono hle41
 have hRC : RecS _ (fC (.slice p16 1 c16)) (.slice (some ⟨b39, 0, none⟩) 1 1) := ⟨RowS.of (l := (fC (.slice p16 1 c16))) (sp := []) (Nat.le_refl _) hb39i, fun f hf => by
  simp only [fC, List.mem_cons, List.not_mem_nil, or_false] at hf
  rcases hf with rfl
  · exact hs16⟩
 refine Cj.region (J.z (yl_loadAgg rfl rfl Tryz.isAgg26 Tryz.sizeOf26 (Blk.at 2 rfl) rfl rfl) ?_)
 refine J.z (yl_loadAgg rfl rfl Tryz.isAgg26 Tryz.sizeOf26 (Blk.at 2 rfl) rfl rfl) ?_
 refine J.op rfl (op_pure rfl rfl rfl rfl rfl (Points_ok (fA (.slice p7 1 c7) (.slice p8 1 c8) (.slice p9 1 c9)) (fA (.slice p7 1 c7) (.slice p8 1 c8) (.slice p9 1 c9)) _ _ 97 0 97 0 (okA _ _ _).1 (okA _ _ _).1 (okA _ _ _).2 (okA _ _ _).2 _ hRA hRA) ?_)
 refine J.eqv 21 rfl (show _ = i64 95 from (congrArg i64 (by rw [feat_A]; exact pAA))) ?_
 refine J.z (yl_eql rfl rfl rfl) ?_
 refine J.z (yl_move rfl rfl) ?_
 refine J.opG 4 23 true _ rfl rfl rfl (by first | rfl | decide) (op_yld (yl_loadAgg rfl rfl Tryz.isAgg26 Tryz.sizeOf26 (Blk.at 2 rfl) rfl rfl) rfl rfl ?_)
 refine J.opG 4 23 true _ rfl rfl rfl (by first | rfl | decide) (op_yld (yl_loadAgg rfl rfl Tryz.isAgg26 Tryz.sizeOf26 (Blk.at 1 rfl) rfl rfl) rfl rfl ?_)
 refine J.opG 4 23 true _ rfl rfl rfl (by first | rfl | decide) (op_pure rfl rfl rfl rfl rfl (Points_ok (fA (.slice p7 1 c7) (.slice p8 1 c8) (.slice p9 1 c9)) (fB (.slice p12 1 c12) (.slice p13 1 c13)) _ _ 97 0 97 0 (okA _ _ _).1 (okB _ _).1 (okA _ _ _).2 (okB _ _).2 _ hRA hRB) ?_)
 refine J.eqv 26 rfl (show _ = i64 38 from (congrArg i64 (by rw [feat_A, feat_B]; exact pAB))) ?_
 refine J.opG 4 23 true _ rfl rfl rfl (by first | rfl | decide) (op_yld (yl_eql rfl rfl rfl) rfl rfl ?_)
 refine J.z (yl_pick1 rfl rfl (by first | rfl | decide) rfl) ?_
 refine J.z (yl_move rfl rfl) ?_
 refine J.opG 10 29 true _ rfl rfl rfl (by first | rfl | decide) (op_yld (yl_loadAgg rfl rfl Tryz.isAgg26 Tryz.sizeOf26 (Blk.at 2 rfl) rfl rfl) rfl rfl ?_)
 refine J.opG 10 29 true _ rfl rfl rfl (by first | rfl | decide) (op_yld (yl_loadAgg rfl rfl Tryz.isAgg26 Tryz.sizeOf26 (Blk.at 0 rfl) rfl rfl) rfl rfl ?_)
 refine J.opG 10 29 true _ rfl rfl rfl (by first | rfl | decide) (op_pure rfl rfl rfl rfl rfl (Points_ok (fA (.slice p7 1 c7) (.slice p8 1 c8) (.slice p9 1 c9)) (fC (.slice p16 1 c16)) _ _ 97 0 109 0 (okA _ _ _).1 (okC _).1 (okA _ _ _).2 (okC _).2 _ hRA hRC) ?_)
 refine J.eqv 32 rfl (show _ = i64 10 from (congrArg i64 (by rw [feat_A, feat_C]; exact pAC))) ?_
 refine J.opG 10 29 true _ rfl rfl rfl (by first | rfl | decide) (op_yld (yl_eql rfl rfl rfl) rfl rfl ?_)
 refine J.z (yl_pick1 rfl rfl (by first | rfl | decide) rfl) ?_
 refine J.z (yl_move rfl rfl) ?_
 refine J.opG 16 35 true _ rfl rfl rfl (by first | rfl | decide) (op_yld (yl_loadAgg rfl rfl Tryz.isAgg26 Tryz.sizeOf26 (Blk.at 1 rfl) rfl rfl) rfl rfl ?_)
 refine J.opG 16 35 true _ rfl rfl rfl (by first | rfl | decide) (op_yld (yl_loadAgg rfl rfl Tryz.isAgg26 Tryz.sizeOf26 (Blk.at 0 rfl) rfl rfl) rfl rfl ?_)
 refine J.opG 16 35 true _ rfl rfl rfl (by first | rfl | decide) (op_pure rfl rfl rfl rfl rfl (Points_ok (fB (.slice p12 1 c12) (.slice p13 1 c13)) (fC (.slice p16 1 c16)) _ _ 97 0 109 0 (okB _ _).1 (okC _).1 (okB _ _).2 (okC _).2 _ hRB hRC) ?_)
 refine J.eqv 38 rfl (show _ = i64 (-40) from (congrArg i64 (by rw [feat_B, feat_C]; exact pBC))) ?_
 refine J.opG 16 35 true _ rfl rfl rfl (by first | rfl | decide) (op_yld (yl_eql rfl rfl rfl) rfl rfl ?_)
 refine J.z (yl_pick1 rfl rfl (by first | rfl | decide) rfl) ?_
 refine J.z (yl_assign rfl rfl) ?_
 refine J.nil (Ej.seq (Cj.seq (Cj.region (J.z (yl_loadAgg rfl rfl Tryz.isAgg26 Tryz.sizeOf26 (Blk.at 2 rfl) rfl rfl) ?_))))
 refine J.z (yl_loadAgg rfl rfl Tryz.isAgg26 Tryz.sizeOf26 (Blk.at 1 rfl) rfl rfl) ?_
 refine J.z (yl_loadAgg rfl rfl Tryz.isAgg26 Tryz.sizeOf26 (Blk.at 2 rfl) rfl rfl) ?_
 refine J.op rfl (op_buildSlice rfl rfl rfl Tryz.underlying50 Tryz.sizeOf26 Tryz.zeroValue26 rfl rfl rfl rfl (LCat.agg rfl (LCat.agg rfl (LCat.agg rfl LCat.none))) ?_)
 intro b43 hb43
 refine J.persist hb43 (fun I45 hle44 hb43i => ?_)
 have hs7 := hs7.mono hle44
 have hs8 := hs8.mono hle44
 have hs9 := hs9.mono hle44
 have hb16i := hle44 _ _ hb16i
 have hRA := hRA.mono hle44
 have hs12 := hs12.mono hle44
 have hs13 := hs13.mono hle44
 have hb30i := hle44 _ _ hb30i
 have hRB := hRB.mono hle44
 have hs16 := hs16.mono hle44
 have hb39i := hle44 _ _ hb39i
 have hRC := hRC.mono hle44
 have hRs : RecsS _ ([⟨97, 0, .slice (some ⟨b16, 0, none⟩) 3 3, (fA (.slice p7 1 c7) (.slice p8 1 c8) (.slice p9 1 c9))⟩, ⟨97, 0, .slice (some ⟨b30, 0, none⟩) 2 2, (fB (.slice p12 1 c12) (.slice p13 1 c13))⟩, ⟨97, 0, .slice (some ⟨b16, 0, none⟩) 3 3, (fA (.slice p7 1 c7) (.slice p8 1 c8) (.slice p9 1 c9))⟩] : List Rc) (.slice (some ⟨b43, 0, none⟩) 3 3) := ⟨RowS.of (l := ([⟨97, 0, .slice (some ⟨b16, 0, none⟩) 3 3, (fA (.slice p7 1 c7) (.slice p8 1 c8) (.slice p9 1 c9))⟩, ⟨97, 0, .slice (some ⟨b30, 0, none⟩) 2 2, (fB (.slice p12 1 c12) (.slice p13 1 c13))⟩, ⟨97, 0, .slice (some ⟨b16, 0, none⟩) 3 3, (fA (.slice p7 1 c7) (.slice p8 1 c8) (.slice p9 1 c9))⟩] : List Rc)) (sp := []) (Nat.le_refl _) hb43i, fun r hr => by
  simp only [List.mem_cons, List.not_mem_nil, or_false] at hr
  rcases hr with rfl | rfl | rfl
  · exact hRA
  · exact hRB
  · exact hRA⟩
 have hOKs : ∀ r ∈ ([⟨97, 0, .slice (some ⟨b16, 0, none⟩) 3 3, (fA (.slice p7 1 c7) (.slice p8 1 c8) (.slice p9 1 c9))⟩, ⟨97, 0, .slice (some ⟨b30, 0, none⟩) 2 2, (fB (.slice p12 1 c12) (.slice p13 1 c13))⟩, ⟨97, 0, .slice (some ⟨b16, 0, none⟩) 3 3, (fA (.slice p7 1 c7) (.slice p8 1 c8) (.slice p9 1 c9))⟩] : List Rc), ROK r := fun r hr => by
  simp only [List.mem_cons, List.not_mem_nil, or_false] at hr
  rcases hr with rfl | rfl | rfl
  · exact okA _ _ _
  · exact okB _ _
  · exact okA _ _ _
 have hPs : (pairsN ([⟨97, 0, .slice (some ⟨b16, 0, none⟩) 3 3, (fA (.slice p7 1 c7) (.slice p8 1 c8) (.slice p9 1 c9))⟩, ⟨97, 0, .slice (some ⟨b30, 0, none⟩) 2 2, (fB (.slice p12 1 c12) (.slice p13 1 c13))⟩, ⟨97, 0, .slice (some ⟨b16, 0, none⟩) 3 3, (fA (.slice p7 1 c7) (.slice p8 1 c8) (.slice p9 1 c9))⟩] : List Rc)).map cst = [((0 : Int), (2 : Int))] := by rw [← pairs_nrm]; exact pABA
 refine J.op rfl (op_call (H1 := []) rfl rfl rfl rfl rfl (Pairs_ok ([⟨97, 0, .slice (some ⟨b16, 0, none⟩) 3 3, (fA (.slice p7 1 c7) (.slice p8 1 c8) (.slice p9 1 c9))⟩, ⟨97, 0, .slice (some ⟨b30, 0, none⟩) 2 2, (fB (.slice p12 1 c12) (.slice p13 1 c13))⟩, ⟨97, 0, .slice (some ⟨b16, 0, none⟩) 3 3, (fA (.slice p7 1 c7) (.slice p8 1 c8) (.slice p9 1 c9))⟩] : List Rc) (by simp) hOKs _ _ hRs) ?_ (fun _ _ _ _ h => by obtain ⟨_, h, _⟩ := h; cases h) (fun _ _ h => by obtain ⟨_, h, _⟩ := h; cases h))
 intro v46 I47 H48 hle49 hp50
 have hs7 := hs7.mono hle49
 have hs8 := hs8.mono hle49
 have hs9 := hs9.mono hle49
 have hb16i := hle49 _ _ hb16i
 have hRA := hRA.mono hle49
 have hs12 := hs12.mono hle49
 have hs13 := hs13.mono hle49
 have hb30i := hle49 _ _ hb30i
 have hRB := hRB.mono hle49
 have hs16 := hs16.mono hle49
 have hb39i := hle49 _ _ hb39i
 have hRC := hRC.mono hle49
 have hb43i := hle49 _ _ hb43i
 have hRs := hRs.mono hle49
 obtain ⟨vps, h, hps, rfl⟩ := hp50; cases h
 refine J.z (yl_buildA (zs := [(.int .i64 0), (.int .i64 0)]) rfl rfl Tryz.zeroValue56 rfl Tryz.underlying56 Tryz.sizeOf3 rfl) ?_
 refine J.op rfl (op_buildSlice rfl rfl rfl Tryz.underlying53 Tryz.sizeOf56 Tryz.zeroValue56 rfl rfl rfl rfl (LCat.agg rfl LCat.none) ?_)
 intro b51 hb51
 refine J.persist hb51 (fun I53 hle52 hb51i => ?_)
 have hs7 := hs7.mono hle52
 have hs8 := hs8.mono hle52
 have hs9 := hs9.mono hle52
 have hb16i := hle52 _ _ hb16i
 have hRA := hRA.mono hle52
 have hs12 := hs12.mono hle52
 have hs13 := hs13.mono hle52
 have hb30i := hle52 _ _ hb30i
 have hRB := hRB.mono hle52
 have hs16 := hs16.mono hle52
 have hb39i := hle52 _ _ hb39i
 have hRC := hRC.mono hle52
 have hb43i := hle52 _ _ hb43i
 have hRs := hRs.mono hle52
 have hps := hps.mono hle52
 have hq47 : RowS twoC _ ([(0, 2)] : List (Int × Int)) (.slice (some ⟨b51, 0, none⟩) 1 1) := RowS.of (l := ([(0, 2)] : List (Int × Int))) (sp := []) (Nat.le_refl _) hb51i
 refine J.op rfl (op_pure rfl rfl rfl rfl rfl (SamePairs_ok ((pairsN ([⟨97, 0, .slice (some ⟨b16, 0, none⟩) 3 3, (fA (.slice p7 1 c7) (.slice p8 1 c8) (.slice p9 1 c9))⟩, ⟨97, 0, .slice (some ⟨b30, 0, none⟩) 2 2, (fB (.slice p12 1 c12) (.slice p13 1 c13))⟩, ⟨97, 0, .slice (some ⟨b16, 0, none⟩) 3 3, (fA (.slice p7 1 c7) (.slice p8 1 c8) (.slice p9 1 c9))⟩] : List Rc)).map cst) [(0, 2)] _ _ (by rw [hPs]; decide) _ (rowT hps) hq47) ?_)
 refine J.eqv 48 rfl (show _ = .bool true from (congrArg Value.bool (decide_eq_true hPs))) ?_
 refine J.z (yl_assign rfl rfl) ?_
 refine J.nil (Ej.seq (Cj.seq (Cj.region (J.z (yl_buildA (zs := [(.int .i64 0), (.int .i64 0)]) rfl rfl Tryz.zeroValue56 rfl Tryz.underlying56 Tryz.sizeOf3 rfl) ?_))))
 refine J.z (yl_buildA (zs := [(.int .i64 0), (.int .i64 0)]) rfl rfl Tryz.zeroValue56 rfl Tryz.underlying56 Tryz.sizeOf3 rfl) ?_
 refine J.z (yl_buildA (zs := [(.int .i64 0), (.int .i64 0)]) rfl rfl Tryz.zeroValue56 rfl Tryz.underlying56 Tryz.sizeOf3 rfl) ?_
 refine J.op rfl (op_buildSlice rfl rfl rfl Tryz.underlying53 Tryz.sizeOf56 Tryz.zeroValue56 rfl rfl rfl rfl (LCat.agg rfl (LCat.agg rfl (LCat.agg rfl LCat.none))) ?_)
 intro b54 hb54
 refine J.persist hb54 (fun I56 hle55 hb54i => ?_)
 have hs7 := hs7.mono hle55
 have hs8 := hs8.mono hle55
 have hs9 := hs9.mono hle55
 have hb16i := hle55 _ _ hb16i
 have hRA := hRA.mono hle55
 have hs12 := hs12.mono hle55
 have hs13 := hs13.mono hle55
 have hb30i := hle55 _ _ hb30i
 have hRB := hRB.mono hle55
 have hs16 := hs16.mono hle55
 have hb39i := hle55 _ _ hb39i
 have hRC := hRC.mono hle55
 have hb43i := hle55 _ _ hb43i
 have hRs := hRs.mono hle55
 have hps := hps.mono hle55
 have hb51i := hle55 _ _ hb51i
 have hq47 := hq47.mono hle55
 have hq52 : RowS twoC _ ([(3, 1), (4, 3), (7, 0)] : List (Int × Int)) (.slice (some ⟨b54, 0, none⟩) 3 3) := RowS.of (l := ([(3, 1), (4, 3), (7, 0)] : List (Int × Int))) (sp := []) (Nat.le_refl _) hb54i
 refine J.op rfl (op_call (H1 := []) rfl rfl rfl rfl rfl (Parts_ok 5 (by decide) [(3, 1), (4, 3), (7, 0)] (by decide) _ _ hq52) ?_ (fun _ _ _ _ h => by obtain ⟨_, h, _⟩ := h; cases h) (fun _ _ h => by obtain ⟨_, h, _⟩ := h; cases h))
 intro v57 I58 H59 hle60 hp61
 have hs7 := hs7.mono hle60
 have hs8 := hs8.mono hle60
 have hs9 := hs9.mono hle60
 have hb16i := hle60 _ _ hb16i
 have hRA := hRA.mono hle60
 have hs12 := hs12.mono hle60
 have hs13 := hs13.mono hle60
 have hb30i := hle60 _ _ hb30i
 have hRB := hRB.mono hle60
 have hs16 := hs16.mono hle60
 have hb39i := hle60 _ _ hb39i
 have hRC := hRC.mono hle60
 have hb43i := hle60 _ _ hb43i
 have hRs := hRs.mono hle60
 have hps := hps.mono hle60
 have hb51i := hle60 _ _ hb51i
 have hq47 := hq47.mono hle60
 have hb54i := hle60 _ _ hb54i
 have hq52 := hq52.mono hle60
 obtain ⟨vpt, h, hpt, rfl⟩ := hp61; cases h
 refine J.op rfl (op_buildSlice rfl rfl rfl Tryz.underlying62 Tryz.sizeOf3 Tryz.zeroValue3 rfl rfl rfl rfl (LCat.one rfl LCat.none) ?_)
 intro b62 hb62
 refine J.persist hb62 (fun I64 hle63 hb62i => ?_)
 have hs7 := hs7.mono hle63
 have hs8 := hs8.mono hle63
 have hs9 := hs9.mono hle63
 have hb16i := hle63 _ _ hb16i
 have hRA := hRA.mono hle63
 have hs12 := hs12.mono hle63
 have hs13 := hs13.mono hle63
 have hb30i := hle63 _ _ hb30i
 have hRB := hRB.mono hle63
 have hs16 := hs16.mono hle63
 have hb39i := hle63 _ _ hb39i
 have hRC := hRC.mono hle63
 have hb43i := hle63 _ _ hb43i
 have hRs := hRs.mono hle63
 have hps := hps.mono hle63
 have hb51i := hle63 _ _ hb51i
 have hq47 := hq47.mono hle63
 have hb54i := hle63 _ _ hb54i
 have hq52 := hq52.mono hle63
 have hpt := hpt.mono hle63
 have hq54 : RowS intC _ ([0] : List Int) (.slice (some ⟨b62, 0, none⟩) 1 1) := RowS.of (l := ([0] : List Int)) (sp := []) (Nat.le_refl _) hb62i
 refine J.op rfl (op_buildSlice rfl rfl rfl Tryz.underlying62 Tryz.sizeOf3 Tryz.zeroValue3 rfl rfl rfl rfl (LCat.one rfl (LCat.one rfl (LCat.one rfl LCat.none))) ?_)
 intro b65 hb65
 refine J.persist hb65 (fun I67 hle66 hb65i => ?_)
 have hs7 := hs7.mono hle66
 have hs8 := hs8.mono hle66
 have hs9 := hs9.mono hle66
 have hb16i := hle66 _ _ hb16i
 have hRA := hRA.mono hle66
 have hs12 := hs12.mono hle66
 have hs13 := hs13.mono hle66
 have hb30i := hle66 _ _ hb30i
 have hRB := hRB.mono hle66
 have hs16 := hs16.mono hle66
 have hb39i := hle66 _ _ hb39i
 have hRC := hRC.mono hle66
 have hb43i := hle66 _ _ hb43i
 have hRs := hRs.mono hle66
 have hps := hps.mono hle66
 have hb51i := hle66 _ _ hb51i
 have hq47 := hq47.mono hle66
 have hb54i := hle66 _ _ hb54i
 have hq52 := hq52.mono hle66
 have hpt := hpt.mono hle66
 have hb62i := hle66 _ _ hb62i
 have hq54 := hq54.mono hle66
 have hq55 : RowS intC _ ([1, 3, 4] : List Int) (.slice (some ⟨b65, 0, none⟩) 3 3) := RowS.of (l := ([1, 3, 4] : List Int)) (sp := []) (Nat.le_refl _) hb65i
 refine J.op rfl (op_buildSlice rfl rfl rfl Tryz.underlying62 Tryz.sizeOf3 Tryz.zeroValue3 rfl rfl rfl rfl (LCat.one rfl LCat.none) ?_)
 intro b68 hb68
 refine J.persist hb68 (fun I70 hle69 hb68i => ?_)
 have hs7 := hs7.mono hle69
 have hs8 := hs8.mono hle69
 have hs9 := hs9.mono hle69
 have hb16i := hle69 _ _ hb16i
 have hRA := hRA.mono hle69
 have hs12 := hs12.mono hle69
 have hs13 := hs13.mono hle69
 have hb30i := hle69 _ _ hb30i
 have hRB := hRB.mono hle69
 have hs16 := hs16.mono hle69
 have hb39i := hle69 _ _ hb39i
 have hRC := hRC.mono hle69
 have hb43i := hle69 _ _ hb43i
 have hRs := hRs.mono hle69
 have hps := hps.mono hle69
 have hb51i := hle69 _ _ hb51i
 have hq47 := hq47.mono hle69
 have hb54i := hle69 _ _ hb54i
 have hq52 := hq52.mono hle69
 have hpt := hpt.mono hle69
 have hb62i := hle69 _ _ hb62i
 have hq54 := hq54.mono hle69
 have hb65i := hle69 _ _ hb65i
 have hq55 := hq55.mono hle69
 have hq56 : RowS intC _ ([2] : List Int) (.slice (some ⟨b68, 0, none⟩) 1 1) := RowS.of (l := ([2] : List Int)) (sp := []) (Nat.le_refl _) hb68i
 refine J.op rfl (op_buildSlice rfl rfl rfl Tryz.underlying59 Tryz.sizeOf62 Tryz.zeroValue62 rfl rfl rfl rfl (LCat.one rfl (LCat.one rfl (LCat.one rfl LCat.none))) ?_)
 intro b71 hb71
 refine J.persist hb71 (fun I73 hle72 hb71i => ?_)
 have hs7 := hs7.mono hle72
 have hs8 := hs8.mono hle72
 have hs9 := hs9.mono hle72
 have hb16i := hle72 _ _ hb16i
 have hRA := hRA.mono hle72
 have hs12 := hs12.mono hle72
 have hs13 := hs13.mono hle72
 have hb30i := hle72 _ _ hb30i
 have hRB := hRB.mono hle72
 have hs16 := hs16.mono hle72
 have hb39i := hle72 _ _ hb39i
 have hRC := hRC.mono hle72
 have hb43i := hle72 _ _ hb43i
 have hRs := hRs.mono hle72
 have hps := hps.mono hle72
 have hb51i := hle72 _ _ hb51i
 have hq47 := hq47.mono hle72
 have hb54i := hle72 _ _ hb54i
 have hq52 := hq52.mono hle72
 have hpt := hpt.mono hle72
 have hb62i := hle72 _ _ hb62i
 have hq54 := hq54.mono hle72
 have hb65i := hle72 _ _ hb65i
 have hq55 := hq55.mono hle72
 have hb68i := hle72 _ _ hb68i
 have hq56 := hq56.mono hle72
 have hPt : PartR _ [[0], [1, 3, 4], [2]] (.slice (some ⟨b71, 0, none⟩) 3 3) := ⟨([.slice (some ⟨b62, 0, none⟩) 1 1, .slice (some ⟨b65, 0, none⟩) 3 3, .slice (some ⟨b68, 0, none⟩) 1 1] : List Value), RowS.of (l := ([.slice (some ⟨b62, 0, none⟩) 1 1, .slice (some ⟨b65, 0, none⟩) 3 3, .slice (some ⟨b68, 0, none⟩) 1 1] : List Value)) (sp := []) (Nat.le_refl _) hb71i, rfl, fun k w x h1 h2 => by
  rcases k with _ | _ | _ | k
  · cases h1; cases h2; exact hq54
  · cases h1; cases h2; exact hq55
  · cases h1; cases h2; exact hq56
  · cases h1⟩
 refine J.op rfl (op_pure rfl rfl rfl rfl rfl (SameParts_ok (partsI 5 [((3 : Int), (1 : Int)), (4, 3), (7, 0)]) [[0], [1, 3, 4], [2]] _ _ (by rw [parts_ex]; decide) (by rw [parts_ex]; decide) _ hpt hPt) ?_)
 refine J.eqv 58 rfl (show _ = .bool true from (congrArg Value.bool (decide_eq_true parts_ex))) ?_
 refine J.z (yl_assign rfl rfl) ?_
 refine J.nil (Ej.seq (Cj.seq (Cj.region (J.z (yl_move rfl rfl) ?_))))
 refine J.z (yl_move rfl rfl) ?_
 refine J.opG 1 60 true _ rfl rfl rfl (by first | rfl | decide) (op_yld (yl_loadAgg rfl rfl Tryz.isAgg26 Tryz.sizeOf26 (Blk.at 2 rfl) rfl rfl) rfl rfl ?_)
 refine J.opG 1 60 true _ rfl rfl rfl (by first | rfl | decide) (op_yld (yl_loadAgg rfl rfl Tryz.isAgg26 Tryz.sizeOf26 (Blk.at 2 rfl) rfl rfl) rfl rfl ?_)
 refine J.opG 1 60 true _ rfl rfl rfl (by first | rfl | decide) (op_pure rfl rfl rfl rfl rfl (Same_ok (fA (.slice p7 1 c7) (.slice p8 1 c8) (.slice p9 1 c9)) (fA (.slice p7 1 c7) (.slice p8 1 c8) (.slice p9 1 c9)) _ _ 97 0 97 0 (okA _ _ _).1 (okA _ _ _).1 (okA _ _ _).2 (okA _ _ _).2 _ hRA hRA) ?_)
 refine J.eqv 63 rfl (show _ = .bool true from (congrArg Value.bool (decide_eq_true (by rw [feat_A, pAA]; decide)))) ?_
 refine J.z (yl_pick1 rfl rfl (by first | rfl | decide) rfl) ?_
 refine J.z (yl_move rfl rfl) ?_
 refine J.opG 6 65 true _ rfl rfl rfl rfl (op_yld (yl_loadAgg rfl rfl Tryz.isAgg26 Tryz.sizeOf26 (Blk.at 2 rfl) rfl rfl) rfl rfl ?_)
 refine J.opG 6 65 true _ rfl rfl rfl rfl (op_yld (yl_loadAgg rfl rfl Tryz.isAgg26 Tryz.sizeOf26 (Blk.at 1 rfl) rfl rfl) rfl rfl ?_)
 refine J.opG 6 65 true _ rfl rfl rfl rfl (op_pure rfl rfl rfl rfl rfl (Same_ok (fA (.slice p7 1 c7) (.slice p8 1 c8) (.slice p9 1 c9)) (fB (.slice p12 1 c12) (.slice p13 1 c13)) _ _ 97 0 97 0 (okA _ _ _).1 (okB _ _).1 (okA _ _ _).2 (okB _ _).2 _ hRA hRB) ?_)
 refine J.eqv 68 rfl (show _ = .bool false from (congrArg Value.bool (decide_eq_false (by rw [feat_A, feat_B, pAB]; decide)))) ?_
 refine J.opG 6 65 true _ rfl rfl rfl rfl (op_yld (yl_not rfl rfl) rfl rfl ?_)
 refine J.z (yl_pick1 rfl rfl rfl rfl) ?_
 refine J.z (yl_move rfl rfl) ?_
 refine J.opG 12 71 true _ rfl rfl rfl (congrArg not rfl) (op_yld (yl_move rfl rfl) rfl rfl ?_)
 refine J.z (yl_pick1 rfl rfl (congrArg not rfl) rfl) ?_
 refine J.z (yl_move rfl rfl) ?_
 refine J.opG 15 74 true _ rfl rfl rfl rfl (op_yld (yl_move rfl rfl) rfl rfl ?_)
 refine J.z (yl_pick1 rfl rfl rfl rfl) ?_
 refine J.z (yl_assign rfl rfl) ?_
 refine J.nil (Ej.seq (Cj.ret (Ej.bare ?_)))
 refine Ej.ret1 rfl rfl rfl ?_
 exact ⟨rfl, rfl⟩
end Go.Proofs.YtadnofaleepkmaaGreatDoor
end
section
namespace Go.Proofs.YtadnofaleepkmaaGreatDoor
open Go Go.Sx
def prow (rs : List Rc) (i k : Nat) : Kq.Prs := ((List.range k).filter fun b => decide (i < b) && Ke.common (ksOf rs i) (ksOf rs b) && smOf rs i b).map fun b => (i, b)
def pto (rs : List Rc) (i : Nat) : Kq.Prs := (List.range i).flatMap fun a => prow rs a rs.length
theorem pto_all (rs : List Rc) : pto rs rs.length = pairsN rs := rfl
theorem pto_next (rs : List Rc) (i : Nat) : pto rs (i + 1) = pto rs i ++ prow rs i rs.length := by unfold pto; rw [List.range_succ, List.flatMap_append]; simp
theorem prow_start (rs : List Rc) (i : Nat) : prow rs i (i + 1) = [] := by
  unfold prow
  rw [List.filter_eq_nil_iff.2 fun b hb => by have := List.mem_range.1 hb; simp; omega]; rfl
theorem prow_next (rs : List Rc) {i k : Nat} (h : i < k) : prow rs i (k + 1) = prow rs i k ++ if (Ke.common (ksOf rs i) (ksOf rs k) && smOf rs i k) = true then [(i, k)] else [] := by
  unfold prow
  rw [List.range_succ, List.filter_append, List.map_append]
  by_cases hc : (Ke.common (ksOf rs i) (ksOf rs k) && smOf rs i k) = true
  · rw [if_pos hc]
    have : (decide (i < k) && Ke.common (ksOf rs i) (ksOf rs k) && smOf rs i k) = true := by rw [Bool.and_assoc, hc, decide_eq_true h]; rfl
    simp [this]
  · rw [if_neg hc]
    have : (decide (i < k) && Ke.common (ksOf rs i) (ksOf rs k) && smOf rs i k) = false := by rw [Bool.and_assoc, Bool.eq_false_iff.2 hc, Bool.and_false]
    simp [this]
theorem prow_len (rs : List Rc) (i k : Nat) : (prow rs i k).length ≤ k := by
  unfold prow
  rw [List.length_map]
  have := List.length_filter_le (fun b => decide (i < b) && Ke.common (ksOf rs i) (ksOf rs b) && smOf rs i b) (List.range k)
  rw [List.length_range] at this; exact this
theorem pto_len (rs : List Rc) : ∀ i, (pto rs i).length ≤ i * rs.length
  | 0 => by simp [pto]
  | i + 1 => by
    have h1 := pto_len rs i
    have h2 := prow_len rs i rs.length
    rw [pto_next, List.length_append, Nat.add_mul]; omega
end Go.Proofs.YtadnofaleepkmaaGreatDoor
end
