/-
  Own texts on the laws of the seat, joined: the logic, and contracts of functions. Conditions: none.
-/
import Derived.Test.YtekmeaoblpfnpaaGreatDoorPG12
import Derived.Lib.LaidU8
set_option maxRecDepth 100000
set_option maxHeartbeats 40000000
section
set_option maxHeartbeats 40000000
namespace Go.Proofs.YtekmeaoblpfnpaaGreatDoor
open _root_.Go.Proofs.Tryz
open Go Go.Sx
theorem codes_at {ps : List Ke.Sub} {i : Nat} {x : Ke.Sub} (h : ps[i]? = some x) : (ps.map (·.code))[i]? = some x.code := by rw [List.getElem?_map, h]; rfl
theorem texts_at {ps : List Ke.Sub} {i : Nat} {x : Ke.Sub} (h : ps[i]? = some x) : (ps.map (·.text))[i]? = some x.text := by rw [List.getElem?_map, h]; rfl
def nameI (n : UInt8) : List UInt8 := Cq.indexes.getD (n.toNat % 6) []
def nameR (n : UInt8) : List UInt8 := Cq.relations.getD (n.toNat % 6) []
theorem six_at {l : List (List UInt8)} (hl : l.length = 6) (n : UInt8) (sp : List Value) : (l.map str ++ sp)[n.toNat % 6]? = some (str (l.getD (n.toNat % 6) [])) := by
  have h : n.toNat % 6 < l.length := by rw [hl]; exact Nat.mod_lt _ (by decide)
  rw [List.getElem?_append_left (by rw [List.length_map]; exact h), List.getElem?_map, List.getD_eq_getElem?_getD, List.getElem?_eq_getElem h]; rfl
theorem nameI_mem (n : UInt8) : nameI n ∈ Cq.indexes := by
  unfold nameI
  rw [List.getD_eq_getElem?_getD, List.getElem?_eq_getElem (show n.toNat % 6 < Cq.indexes.length from Nat.mod_lt _ (by decide))]
  exact List.getElem_mem _
theorem bothQ_ps {I : Heap} {k : Int} {qa qb : Cq.Qn} {pa pb : Option Addr} {ca cb bl : Nat} {T : TypeId} (ha : PS I qa.ps pa) (hb : PS I qb.ps pb) (h : I bl = some (cel T (qCells qa pa ca ++ (qCells qb pb cb ++ [])))) : PS I (Ix.bothQ k qa qb).ps (some ⟨bl, 0, none⟩) := PS.two ha hb h
theorem text_ok (tag ind : List UInt8) (ps : List Ke.Sub) (v : Value) (hps : ps.length ≤ 1000) (I : Heap) (hv : StrP I (ps.map (·.text)) v) : Ctr Tryz.prog 49 [str tag, str ind, str (ps.map (·.code)), v] I [] (fun e I' H' => ∃ w, e = .returned (.agg (fldC ⟨tag, ind, [], w, ps⟩).toArray) ∧ RowS subC I' ps w ∧ H' = []) := by
 obtain ⟨p, c, rfl, hc, hp⟩ := hv
 have hpl : (ps.map (·.text)).length = ps.length := List.length_map _
 refine xob func49 fun w0 hw0 => ?_
 refine axn 3 ?_
 intro b1 hb1
 refine J.nssr (J.z q2 ?_)
 refine J.z q2 ?_
 refine J.z (yl_buildS (pl := #[(0, 1), (1, 1), (2, 1), (3, 1)]) rfl rfl zeroValue108 rfl underlying108 (fun w => by simp [sizeOf106, sizeOf9]) (LBld.part rfl rfl rfl (LSpl.c LSpl.z) (LBld.part rfl rfl rfl (LSpl.s (LSpl.c LSpl.z)) LBld.none))) ?_
 refine J.op rfl (op_alloc rfl rfl rfl zeroValue108 rfl ?_)
 intro b2 hb2
 refine J.op rfl (op_store 0 rfl rfl rfl rfl rfl rfl sizeOf108 rfl rfl (LSpl.c (LSpl.c (LSpl.c (LSpl.c LSpl.z)))) LSet.z ?_)
 refine J.nsss (Cj.region (J.as ?_))
 refine J.ns (Cj.block ?_)
 refine Cj.loop (ι := Nat × Gs) (fun y => y.1 ≤ ps.length ∧ gOk w0.heap.size 2 (ps.take y.1).length ((ps.take y.1).flatMap subC) y.2) (fun y => ps.length - y.1) (fun y => [(2, str (ps.map (·.code))), (3, .slice p (ps.map (·.text)).length c), (8, ptr b1 0), (9, ptr b2 0), (10, i64 (y.1 : Int))]) (fun y => _) (fun y => (b2, cel 108 [str tag, str ind, str [], gV (ps.take y.1).length y.2]) :: (b1, cel 108 [str [], str [], str [], .slice none 0 0]) :: gH 176 ((ps.take y.1).flatMap subC) y.2) (0, none) ⟨Nat.zero_le _, rfl, rfl⟩ ⟨rfl, rfl, rfl, rfl, rfl, trivial⟩ rfl rfl ?_
 rintro ⟨i, g⟩ ⟨hi, hg⟩
 dsimp only at hi hg ⊢
 have hsl : (ps.take i).length = i := by rw [List.length_take]; omega
 refine axc (fun hc3 hc3p => ?_) (fun hc3 hc3p => ?_)
 ·
  refine axn 4 ?_
  have hlt : i < ps.length := by omega
  obtain ⟨x, hsget⟩ : ∃ x, ps[i]? = some x := ⟨_, List.getElem?_eq_getElem hlt⟩
  have hsl1 : (ps.take (i + 1)).length = (ps.take i).length + 1 := by rw [List.length_take, List.length_take]; omega
  obtain ⟨lb, lo, lcs, lty, lfr, sp, rfl, hlb, hld⟩ := hp (ne_nil_of (k := i) (by omega))
  refine Cj.drawSel [0, 1] [] 13 (by kernel_rfl) ?_
  refine axn 4 ?_
  refine JA.zt 4 rfl (q4 underlying9 (codes_at hsget)) ?_
  refine xix (lo + i) ?_
  refine JA.zt 8 rfl (yl_load rfl rfl isAgg9 (Blk.immC hlb) (str_from hld (texts_at hsget))) ?_
  refine JA.fix fxA (fun fx4 => ?_)
  refine JA.tk 9 rfl fx4 (yl_buildS (pl := #[(0, 1), (1, 1)]) rfl rfl zeroValue176 rfl underlying176 (fun w => by simp [sizeOf5, sizeOf9]) (LBld.part rfl rfl rfl (LSpl.c LSpl.z) (LBld.part rfl rfl rfl (LSpl.s (LSpl.c LSpl.z)) LBld.none))) ?_
  refine q0 10 rfl (q3 underlying106 sizeOf176 zeroValue176 (LCat.agg rfl LCat.none) ?_)
  intro b5 hb5
  refine ⟨⟨(Le.refl _), (HSub.c 1 rfl (HSub.c 2 rfl HSub.n)), CSub.n⟩, ?_⟩
  refine q0 11 rfl (op_append (by' := 23) [_, _, _] rfl rfl rfl rfl rfl underlying106 (.inr ⟨_, underlying106⟩) (by kernel_rfl) sizeOf176 zeroValue176 rfl hg rfl (Src.slice (Blk.at 0 rfl) rfl rfl rfl) (by omega) ?_)
  intro g6 hg6
  refine ⟨⟨(Le.refl _), (HSub.c 1 rfl (HSub.c 2 rfl HSub.n)), CSub.n⟩, ?_⟩
  refine JA.fix fxA (fun fx7 => ?_)
  refine JA.tk 12 rfl fx7 (q1 (off' := 3) underlying108 sizeOf106) ?_
  refine JA.last 13 (by kernel_rfl) rfl rfl rfl (op_store 1 rfl rfl rfl rfl (gV_cells _ _) (gV_one _ _) sizeOf106 rfl rfl (LSpl.s (LSpl.s (LSpl.s (LSpl.c LSpl.z)))) (LSet.s LSet.z) ?_)
  refine axn 8 ?_
  refine Ej.keep (Keeps.d (Keeps.k (Keeps.k Keeps.r))) ?_
  refine Ej.round (i + 1, g6) ⟨by dsimp only; omega, by dsimp only; rw [hsl1, flat_next subC hsget]; exact hg6⟩ (by dsimp only; omega) ⟨rfl, rfl, rfl, rfl, rfl, trivial⟩ rfl (by dsimp only; rw [hsl1, flat_next subC hsget]; rfl)
 refine axn 8 ?_
 refine J.op rfl (op_store 1 rfl rfl rfl rfl rfl (by show [str tag, str ind, str [], gV _ _].all Value.oneCell' = true; simp only [List.all_cons, List.all_nil, gV_one', Bool.and_true]; rfl) sizeOf108 rfl rfl (LSpl.c (LSpl.c (LSpl.c (LSpl.c LSpl.z)))) (LSet.s LSet.z) ?_)
 refine axn 3 ?_
 have hfull : ps.take i = ps := List.take_of_length_le (by omega)
 rw [hfull] at hg ⊢
 refine Ej.perm (H' := gH _ _ _ ++ [_, _]) List.perm_append_comm ?_
 refine Ej.keepR subC_len (by decide) hg rfl (fun I9 hle9 hfs => ?_)
 refine Ej.retC (Keeps.d (Keeps.d Keeps.n)) rfl rfl rfl (Blk.at 1 rfl) isAgg108 sizeOf108 rfl ?_
 exact ⟨_, rfl, hfs, rfl⟩
theorem term_ok (i r t : List UInt8) (I : Heap) : Ctr Tryz.prog 23 [str i, str r, str t] I [] (fun e _ H' => e = .returned (.agg (qCells (Ix.termQ i r t) none 0).toArray) ∧ H' = []) := by
 refine xob func23 fun w0 hw0 => ?_
 refine axn 3 ?_
 intro b1 hb1
 refine J.nssr (J.z q2 ?_)
 refine J.z q2 ?_
 refine J.z q2 ?_
 refine J.z (yl_buildS (pl := #[(0, 1), (1, 1), (2, 1), (3, 1), (4, 1)]) rfl rfl zeroValue32 rfl underlying32 (fun w => by simp [sizeOf3, sizeOf30, sizeOf9]) (LBld.part rfl rfl rfl (LSpl.c LSpl.z) (LBld.part rfl rfl rfl (LSpl.s (LSpl.c LSpl.z)) (LBld.part rfl rfl rfl (LSpl.s (LSpl.s (LSpl.c LSpl.z))) (LBld.part rfl rfl rfl (LSpl.s (LSpl.s (LSpl.s (LSpl.c LSpl.z)))) LBld.none))))) ?_
 refine J.op rfl (op_store 0 rfl rfl rfl rfl rfl rfl sizeOf32 rfl rfl (LSpl.c (LSpl.c (LSpl.c (LSpl.c (LSpl.c LSpl.z))))) LSet.z ?_)
 refine J.ns (Cj.ret ?_)
 refine Ej.retC (Keeps.d Keeps.n) rfl rfl rfl (Blk.at 0 rfl) isAgg32 sizeOf32 rfl ?_
 exact ⟨rfl, rfl⟩
theorem both_ok (k : Int) (qa qb : Cq.Qn) (pa pb : Option Addr) (ca cb : Nat) (I : Heap) (ha : PS I qa.ps pa) (hb : PS I qb.ps pb) : Ctr Tryz.prog 35 [i64 k, .agg (qCells qa pa ca).toArray, .agg (qCells qb pb cb).toArray] I [] (fun e I' H' => (∃ p c, e = .returned (.agg (qCells (Ix.bothQ k qa qb) p c).toArray) ∧ PS I' (Ix.bothQ k qa qb).ps p) ∧ H' = []) := by
 refine xob func35 fun w0 hw0 => ?_
 refine axn 3 ?_
 intro b1 hb1
 refine axn 1 ?_
 intro b2 hb2
 refine axn 1 ?_
 intro b3 hb3
 refine axn 8 ?_
 intro b4 hb4
 refine J.persist hb4 (fun I6 hle5 hb4i => ?_)
 have ha := ha.mono hle5
 have hb := hb.mono hle5
 refine J.z (yl_buildS (pl := #[(0, 1), (1, 1), (2, 1), (3, 1), (4, 1)]) rfl rfl zeroValue32 rfl underlying32 (fun w => by simp [sizeOf3, sizeOf30, sizeOf9]) (LBld.part rfl rfl rfl (LSpl.c LSpl.z) (LBld.part rfl rfl rfl (LSpl.s (LSpl.s (LSpl.s (LSpl.s (LSpl.c LSpl.z))))) LBld.none))) ?_
 refine J.op rfl (op_store 0 rfl rfl rfl rfl rfl rfl sizeOf32 rfl rfl (LSpl.c (LSpl.c (LSpl.c (LSpl.c (LSpl.c LSpl.z))))) LSet.z ?_)
 refine J.ns (Cj.ret ?_)
 refine Ej.retC (Keeps.d (Keeps.d (Keeps.d Keeps.n))) rfl rfl rfl (Blk.at 0 rfl) isAgg32 sizeOf32 rfl ?_
 exact ⟨⟨_, _, rfl, bothQ_ps (ca := ca) (cb := cb) ha hb hb4i⟩, rfl⟩
theorem rindexes_ok (I : Heap) : Ctr Tryz.prog 65 [] I [] (fun e I' H' => (∃ v, e = .returned v ∧ StrSl 9 I' Cq.indexes v) ∧ H' = []) := by
 refine xob func65 fun w0 hw0 => ?_
 refine axn 8 ?_
 intro b1 hb1
 refine axn 4 ?_
 refine Ej.persist hb1 (fun I3 hle2 hb1i => ?_)
 refine axe ?_
 exact ⟨⟨_, rfl, b1, 6, [], rfl, hb1i⟩, rfl⟩
theorem rrelations_ok (I : Heap) : Ctr Tryz.prog 66 [] I [] (fun e I' H' => (∃ v, e = .returned v ∧ StrSl 9 I' Cq.relations v) ∧ H' = []) := by
 refine xob func66 fun w0 hw0 => ?_
 refine axn 8 ?_
 intro b1 hb1
 refine axn 4 ?_
 refine Ej.persist hb1 (fun I3 hle2 hb1i => ?_)
 refine axe ?_
 exact ⟨⟨_, rfl, b1, 6, [], rfl, hb1i⟩, rfl⟩
theorem names_ok (n m : UInt8) (I : Heap) : Ctr Tryz.prog 22 [u8 n, u8 m] I [] (fun e _ H' => e = .returned (.tuple #[str (nameI n), str (nameR m)]) ∧ H' = []) := by
 have hnl := n.toNat_lt
 have hml := m.toNat_lt
 have hli : Cq.indexes.length = 6 := rfl
 have hlr : Cq.relations.length = 6 := rfl
 refine xob func22 fun w0 hw0 => ?_
 refine axn 7 ?_
 refine Cj.drawSel [] [] 12 (by kernel_rfl) ?_
 refine axn 2 ?_
 refine JA.ev 8 (.int .u8 ((n.toNat % 6 : Nat) : Int)) rfl (congrArg (Value.int .u8) (by rw [Int.tmod_eq_emod_of_nonneg (by omega)]; omega)) ?_
 refine axn 2 ?_
 refine JA.ev 13 (.int .u8 ((m.toNat % 6 : Nat) : Int)) rfl (congrArg (Value.int .u8) (by rw [Int.tmod_eq_emod_of_nonneg (by omega)]; omega)) ?_
 refine xca (rindexes_ok _) ?_
 intro v2 I3 H4 hle5 hp6
 obtain ⟨⟨v2x, hv2, bi, cbi, spbi, rfl, hbi⟩, rfl⟩ := hp6; cases hv2
 refine axn 1 ?_
 refine JA.zt 3 rfl (yl_indexAddr (off' := n.toNat % 6) rfl rfl rfl underlying69 sizeOf9 (by omega) (by have := Nat.mod_lt n.toNat (by decide : 0 < 6); omega) (by omega)) ?_
 refine JA.all [4, 5] (by kernel_rfl) (by simp) ?_
 intro i hi
 simp only [List.mem_cons, List.not_mem_nil, or_false] at hi
 rcases hi with rfl | rfl
 ·
  refine ⟨_, rfl, rfl, ?_⟩
  refine op_yld (yl_load rfl rfl isAgg9 (Blk.imm hbi) (six_at hli n _)) rfl rfl ?_
  refine xca (rrelations_ok _) ?_
  intro v8 I9 H10 hle11 hp12
  have hbi := hle11 _ _ hbi
  obtain ⟨⟨v8x, hv8, br, cbr, spbr, rfl, hbr⟩, rfl⟩ := hp12; cases hv8
  refine axn 1 ?_
  refine JA.zt 8 rfl (yl_indexAddr (off' := m.toNat % 6) rfl rfl rfl underlying69 sizeOf9 (by omega) (by have := Nat.mod_lt m.toNat (by decide : 0 < 6); omega) (by omega)) ?_
  refine axn 1 ?_
  refine q0 9 rfl (op_yld (yl_load rfl rfl isAgg9 (Blk.imm hbr) (six_at hlr m _)) rfl rfl ?_)
  refine axe ?_
  exact ⟨rfl, rfl⟩
 refine ⟨_, rfl, rfl, ?_⟩
 refine xca (rrelations_ok _) ?_
 intro v15 I16 H17 hle18 hp19
 have hbi := hle18 _ _ hbi
 obtain ⟨⟨v15x, hv15, br, cbr, spbr, rfl, hbr⟩, rfl⟩ := hp19; cases hv15
 refine axn 1 ?_
 refine JA.zt 8 rfl (yl_indexAddr (off' := m.toNat % 6) rfl rfl rfl underlying69 sizeOf9 (by omega) (by have := Nat.mod_lt m.toNat (by decide : 0 < 6); omega) (by omega)) ?_
 refine JA.all [4, 9] (by kernel_rfl) (by simp) ?_
 intro i hi
 simp only [List.mem_cons, List.not_mem_nil, or_false] at hi
 rcases hi with rfl | rfl
 ·
  refine ⟨_, rfl, rfl, ?_⟩
  refine op_yld (yl_load rfl rfl isAgg9 (Blk.imm hbi) (six_at hli n _)) rfl rfl ?_
  refine axn 2 ?_
  refine q0 9 rfl (op_yld (yl_load rfl rfl isAgg9 (Blk.imm hbr) (six_at hlr m _)) rfl rfl ?_)
  refine axe ?_
  exact ⟨rfl, rfl⟩
 refine ⟨_, rfl, rfl, ?_⟩
 refine op_yld (yl_load rfl rfl isAgg9 (Blk.imm hbr) (six_at hlr m _)) rfl rfl ?_
 refine axn 1 ?_
 refine q0 4 rfl (op_yld (yl_load rfl rfl isAgg9 (Blk.imm hbi) (six_at hli n _)) rfl rfl ?_)
 refine axe ?_
 exact ⟨rfl, rfl⟩
theorem lcontains_ok (l : List Ix.Rec) (t : Ix.Rec) (v : Value) (hl : l.length ≤ 1000000000) (I : Heap) (hr : RowS recC I l v) : Pure Tryz.prog 27 [v, kvR t] I (.bool (decide (t ∈ l))) := by
 refine Ctr.toPure ?_
 obtain ⟨p, c, rfl, hc, hp⟩ := hr
 refine xob func27 fun w0 hw0 => ?_
 refine axn 3 ?_
 intro b1 hb1
 refine axn 10 ?_
 refine Cj.loop (ι := Nat) (fun j => j ≤ l.length ∧ t ∉ l.take j) (fun j => l.length - j) (fun j => [(0, .slice p l.length c), (3, ptr b1 0), (5, i64 (j : Int))]) (fun j => I) (fun j => [(b1, cel 54 [i64 t.1, i64 t.2])]) 0 ⟨Nat.zero_le _, by simp⟩ ⟨rfl, rfl, rfl, trivial⟩ rfl rfl ?_
 rintro j ⟨hj, hno⟩
 refine axc (fun hc2 hc2p => ?_) (fun hc2 hc2p => ?_)
 ·
  refine axn 5 ?_
  have hlt : j < l.length := by omega
  obtain ⟨x, hget⟩ : ∃ x, l[j]? = some x := ⟨_, List.getElem?_eq_getElem hlt⟩
  obtain ⟨fb, fo, fcs, fty, ffr, fsp, rfl, hfb, hfd⟩ := hp (ne_nil_of hlt)
  refine Cj.drawSel [0] [] 6 (by kernel_rfl) ?_
  refine xix (fo + j * 2) ?_
  refine JA.zt 3 rfl (yl_loadAgg rfl rfl isAgg54 sizeOf54 (Blk.immC hfb) (row_from recC_len hfd hget) rfl) ?_
  refine axn 1 ?_
  refine JA.zt 5 rfl (yl_eqlK (kv := recA) (a := x) (b := t) rfl rfl rfl rfl rfl eqRec (by kernel_rfl)) ?_
  refine axc (fun hc4 hc4p => ?_) (fun hc4 hc4p => ?_)
  ·
   have heq : x = t := eq_of_beq hc4
   refine axr ?_
   rw [decide_eq_true (heq ▸ List.mem_of_getElem? hget)]
   exact ⟨rfl, rfl⟩
  have hne : x ≠ t := ne_of_beq_false hc4
  refine axn 8 ?_
  refine Ej.round (j + 1) ⟨by omega, by rw [List.take_add_one, hget]; intro g; rcases List.mem_append.1 g with g | g; exact hno g; exact hne (List.mem_singleton.1 (show t ∈ [x] from g)).symm⟩ (by omega) ⟨rfl, rfl, rfl, trivial⟩ rfl rfl
 refine axr ?_
 rw [List.take_of_length_le (by omega : l.length ≤ j)] at hno
 rw [decide_eq_false hno]
 exact ⟨rfl, rfl⟩
theorem act_t {L : Ix.Ix} {a : Ix.ActL} (h : a.drop = true) : Ix.act L a = Ix.rdrop a.title L := if_pos h
theorem act_f {L : Ix.Ix} {a : Ix.ActL} (h : a.drop = false) : Ix.act L a = Ix.rput a.title a.vs L := if_neg (by rw [h]; decide)
theorem act_len (L : Ix.Ix) (a : Ix.ActL) : (Ix.act L a).length ≤ L.length + 1 := by
  unfold Ix.act
  split
  · exact Nat.le_succ_of_le (List.length_filter_le _ _)
  exact rput_len _ _ _
theorem acts_lenF : ∀ (l : List Ix.ActL) (L : Ix.Ix), (l.foldl Ix.act L).length ≤ L.length + l.length
  | [], _ => Nat.le_refl _
  | a :: r, L => by
    have h1 := acts_lenF r (Ix.act L a)
    have h2 := act_len L a
    rw [List.foldl_cons, List.length_cons]; omega
theorem acts_len (xs : List Act) : ((acts xs).foldl Ix.act []).length ≤ xs.length := by
  have := acts_lenF (acts xs) []
  rw [List.length_map, List.length_nil] at this; omega
theorem play_eq {xs : List Act} {k : Nat} (hk : k ≤ xs.length) (h : k ≤ 20 ∧ (xs.length ≤ k ∨ 20 ≤ k)) : (acts (xs.take k)).foldl Ix.act [] = Ix.play (acts xs) := by
  rw [made_take hk h, acts_take]; rfl
theorem play_len (xs : List Act) : (Ix.play (acts xs)).length ≤ 20 := by
  have := acts_lenF ((acts xs).take 20) []
  rw [List.length_take, List.length_nil] at this
  unfold Ix.play; omega
theorem built_ok (xs : List Act) (v : Value) (hao : ActsOk xs) (I : Heap) (hA0 : ActsS I xs v) : Ctr Tryz.prog 15 [v] I [] (fun ev I' H' => ∃ ib o rb es w, ev = .returned (.tuple #[ptr ib 0, ptr rb 0]) ∧ IxOk I' o (Ix.play (acts xs)) ∧ EntsS I' es w ∧ es.map entL = Ix.play (acts xs) ∧ (∀ e ∈ es, EOK e.fs) ∧ es.length ≤ 20 ∧ H' = (rb, cel 50 [w]) :: ixH ib o) := by
 obtain ⟨p, c, rfl⟩ := RowS.len hA0.1
 refine xob func15 fun w0 hw0 => ?_
 refine axn 8 ?_
 refine J.z (yl_buildS (pl := #[(0, 1), (1, 1), (2, 1)]) rfl rfl zeroValue114 rfl underlying114 (fun w => by simp [sizeOf110, sizeOf112]) LBld.none) ?_
 refine axn 1 ?_
 intro b1 hb1
 refine axn 10 ?_
 refine Cj.loop (ι := Nat × Heap × Option Ist) (fun y => y.1 ≤ xs.length ∧ y.1 ≤ 20 ∧ Le I y.2.1 ∧ IxOk y.2.1 y.2.2 ((acts (xs.take y.1)).foldl Ix.act [])) (fun y => 20 - y.1) (fun y => [(0, .slice p xs.length c), (4, ptr b1 0), (5, i64 (y.1 : Int))]) (fun y => y.2.1) (fun y => ixH b1 y.2.2) (0, _, none) ⟨Nat.zero_le _, Nat.zero_le _, Le.refl _, rfl⟩ ⟨rfl, rfl, rfl, trivial⟩ rfl rfl ?_
 rintro ⟨k, Jh, o⟩ ⟨hk, hk20, hIJ, hok⟩
 dsimp only at hk hk20 hIJ hok ⊢
 have hA := hA0.mono hIJ
 have hll := acts_len (xs.take k)
 rw [List.length_take, Nat.min_eq_left hk] at hll
 refine axg (fun hg2 hg2p => ?_) (fun hg2 hg2p => ?_)
 ·
  refine axc (fun hc3 hc3p => ?_) (fun hc3 hc3p => ?_)
  ·
   refine axn 5 ?_
   have hIJ9 := hIJ
   have hlt : k < xs.length := by omega
   have hlt2 : k < 20 := by omega
   obtain ⟨x, hget⟩ : ∃ x, xs[k]? = some x := ⟨_, List.getElem?_eq_getElem hlt⟩
   have hxm := List.mem_of_getElem? hget
   obtain ⟨p1, c1, hpe, hc1, hp⟩ := id hA.1
   cases hpe
   obtain ⟨ab, ao, acs, aty, afr, asp, rfl, hab, had⟩ := hp (ne_nil_of hlt)
   have hfv := hA.2 x hxm
   obtain ⟨vp, vc, hxv⟩ := RowS.len hfv
   have hnx : acts (xs.take (k + 1)) = acts (xs.take k) ++ [x.a] := map_next _ hget
   refine xix (ao + k * 4) ?_
   refine axn 1 ?_
   refine J.z (yl_load rfl rfl isAgg4 (Blk.imm hab) (row_fcell actC_len had hget 0 (by decide))) ?_
   refine ax0 (fun hc4 => ?_) (fun hc4 => ?_)
   ·
    have hdr : x.a.drop = true := hc4
    refine xix (ao + k * 4) ?_
    refine J.z (yl_loadAgg rfl rfl isAgg93 sizeOf93 (Blk.imm hab) (row_from actC_len had hget) rfl) ?_
    refine xca (Entry_ok x (hao x hxm) _ hfv) ?_
    intro v5 I6 H7 hle8 hp9
    have hIJ := hIJ.mono hle8
    have hA := hA.mono hle8
    have hok := hok.mono hle8
    have hab := hle8 _ _ hab
    have hfv := hfv.mono hle8
    obtain ⟨e0, h, he0, rfl⟩ := hp9; cases h
    refine J.z (yl_fieldR (v := kvR e0.t) rfl rfl (fun _ => by kernel_rfl)) ?_
    refine xcr [] (Drop_ok b1 o _ e0.t _ hok) ?_
    intro v10 I11 H12 hle13 hp14
    have hIJ := hIJ.mono hle13
    have hA := hA.mono hle13
    have hok := hok.mono hle13
    have hab := hle13 _ _ hab
    have hfv := hfv.mono hle13
    have he0 := he0.mono hle13
    obtain ⟨o1, h, hok1, rfl⟩ := hp14; cases h
    refine axn 8 ?_
    refine Ej.round (k + 1, _, o1) ⟨by dsimp only; omega, by dsimp only; omega, hIJ, by dsimp only; rw [hnx, List.foldl_append]; rw [he0.t] at hok1; show IxOk _ _ (Ix.act _ x.a); rw [act_t hdr]; exact hok1⟩ (by dsimp only; omega) ⟨rfl, rfl, rfl, trivial⟩ rfl rfl
   have hdr : x.a.drop = false := hc4
   refine xix (ao + k * 4) ?_
   refine J.z (yl_loadAgg rfl rfl isAgg93 sizeOf93 (Blk.imm hab) (row_from actC_len had hget) rfl) ?_
   refine xca (Entry_ok x (hao x hxm) _ hfv) ?_
   intro v15 I16 H17 hle18 hp19
   have hIJ := hIJ.mono hle18
   have hA := hA.mono hle18
   have hok := hok.mono hle18
   have hab := hle18 _ _ hab
   have hfv := hfv.mono hle18
   obtain ⟨e0, h, he0, rfl⟩ := hp19; cases h
   refine xcr [] (Put_ok b1 o _ e0 _ hok (by omega) he0.eok he0.r) ?_
   intro v20 I21 H22 hle23 hp24
   have hIJ := hIJ.mono hle23
   have hA := hA.mono hle23
   have hok := hok.mono hle23
   have hab := hle23 _ _ hab
   have hfv := hfv.mono hle23
   have he0 := he0.mono hle23
   obtain ⟨o1, h, hok1, rfl⟩ := hp24; cases h
   refine axn 8 ?_
   refine Ej.round (k + 1, _, o1) ⟨by dsimp only; omega, by dsimp only; omega, hIJ, by dsimp only; rw [hnx, List.foldl_append]; rw [he0.t, he0.vals] at hok1; show IxOk _ _ (Ix.act _ x.a); rw [act_f hdr]; exact hok1⟩ (by dsimp only; omega) ⟨rfl, rfl, rfl, trivial⟩ rfl rfl
  refine axn 6 ?_
  have hpl := play_eq hk (by omega)
  rw [hpl] at hok
  refine xca (rPlay_ok xs _ hao _ hA) ?_
  intro v25 I26 H27 hle28 hp29
  have hIJ := hIJ.mono hle28
  have hA := hA.mono hle28
  have hok := hok.mono hle28
  obtain ⟨rb, es, w, h, hE, hL, hek, hel, rfl⟩ := hp29; cases h
  refine axe ?_
  exact ⟨b1, o, rb, es, w, rfl, hok, hE, hL, hek, by omega, rfl⟩
 refine axn 12 ?_
 have hpl := play_eq hk (by omega)
 rw [hpl] at hok
 refine xca (rPlay_ok xs _ hao _ hA) ?_
 intro v31 I32 H33 hle34 hp35
 have hIJ := hIJ.mono hle34
 have hA := hA.mono hle34
 have hok := hok.mono hle34
 obtain ⟨rb, es, w, h, hE, hL, hek, hel, rfl⟩ := hp35; cases h
 refine axe ?_
 exact ⟨b1, o, rb, es, w, rfl, hok, hE, hL, hek, by omega, rfl⟩
end Go.Proofs.YtekmeaoblpfnpaaGreatDoor
end
section
namespace Go.Sx
open Go
structure Fact where
  p : Value → Heap → Prop
  m : ∀ v I I', p v I → Le I I' → p v I'
def Fact.is (v0 : Value) : Fact := ⟨fun v _ => v = v0, fun _ _ _ h _ => h⟩
theorem countP_lt {α : Type} {p q : α → Bool} : ∀ {l : List α} {i : α}, (∀ x ∈ l, q x = true → p x = true) → i ∈ l → p i = true → q i = false → l.countP q < l.countP p
  | [], _, _, h, _, _ => by cases h
  | a :: r, i, hs, hi, hp, hq => by
    have hs' : ∀ x ∈ r, q x = true → p x = true := fun x hx => hs x (.tail _ hx)
    have hle : r.countP q ≤ r.countP p := List.countP_mono_left hs'
    rw [List.countP_cons, List.countP_cons]
    by_cases ha : a = i
    · subst ha; rw [hp, hq]; simp; omega
    have hr : i ∈ r := by
      rcases List.mem_cons.1 hi with g | g
      · exact absurd g.symm ha
      exact g
    have := countP_lt hs' hr hp hq
    have h2 := hs a (.head _)
    cases hqa : q a with
    | false => simp; omega
    | true => rw [h2 hqa]; simp; omega
theorem OpJ.mono {cx : Cx} {Q : Qt} {o : Oper} {e : Env} {I : Heap} {H : HL} {C C' : Ct} (h : OpJ cx Q o e I H C) (hc : ∀ e' I' H', C e' I' H' → C' e' I' H') : OpJ cx Q o e I H C' :=
  fun K hK a w ha hs => h K (fun e' I' H' h1 => hK e' I' H' (hc e' I' H' h1)) a w ha hs
def waitsFor (l : List Oper) (k j : Nat) : Bool := match l[k]? with
  | none => false
  | some o => o.after.any fun ed => Region.binds .any ed && ed.on == j
def backwards (l : List Oper) : Bool := (List.range l.length).all fun k => match l[k]? with
  | none => true
  | some o => o.after.all fun ed => !Region.binds .any ed || Nat.blt ed.on k
def dsts (l : List Oper) : List Nat := l.filterMap (·.dst)
def dstAll (l : List Oper) : Bool := l.all (·.dst.isSome) && decide (dsts l).Nodup
theorem dst_inj : ∀ {l : List Oper}, (∀ o ∈ l, o.dst.isSome = true) → (dsts l).Nodup → ∀ {j k : Nat} {oj ok : Oper} {d : Nat}, l[j]? = some oj → l[k]? = some ok → oj.dst = some d → ok.dst = some d → j = k
  | [], _, _, j, _, _, _, _, h, _, _, _ => by simp at h
  | a :: r, hs, hn, j, k, oj, ok, d, hj, hk, h1, h2 => by
    obtain ⟨x, hx⟩ := Option.isSome_iff_exists.1 (hs a (.head _))
    have hc : dsts (a :: r) = x :: dsts r := by unfold dsts; rw [List.filterMap_cons, hx]
    rw [hc, List.nodup_cons] at hn
    have hs' : ∀ o ∈ r, o.dst.isSome = true := fun o ho => hs o (.tail _ ho)
    have hin : ∀ {i : Nat} {o : Oper}, r[i]? = some o → o.dst = some x → False := fun {i o} hi ho => hn.1 (List.mem_filterMap.2 ⟨o, List.mem_of_getElem? hi, ho⟩)
    match j, k with
    | 0, 0 => rfl
    | 0, k + 1 =>
      cases hj
      rw [List.getElem?_cons_succ] at hk
      exact absurd (by rw [h2, ← h1, hx]) fun g => hin hk g
    | j + 1, 0 =>
      cases hk
      rw [List.getElem?_cons_succ] at hj
      exact absurd (by rw [h1, ← h2, hx]) fun g => hin hj g
    | j + 1, k + 1 =>
      rw [List.getElem?_cons_succ] at hj hk
      rw [dst_inj hs' hn.2 hj hk h1 h2]
section
variable {cx : Cx} {Q : Qt} {l : List Oper} {I1 : Heap} {H : HL} {e0 : Env}
def Base (l : List Oper) (e0 e : Env) : Prop := ∀ t, t ∉ dsts l → eg e t = eg e0 t
def FlowT (cx : Cx) (_l : List Oper) (F : Nat → Fact) (k d : Nat) (e : Env) (I : Heap) (H : HL) : Ct := fun e' I' H' =>
  ∃ v K, e' = (d, v) :: e ∧ H' = K ++ H ∧ (∀ p ∈ K, cx.w0.heap.size ≤ p.1) ∧ Le I I' ∧ ∀ I'', Le I' I'' → (∀ p ∈ K, I'' p.1 = some p.2) → (F k).p v I''
def Known (l : List Oper) (F : Nat → Fact) (e : Env) (I : Heap) (j : Nat) : Prop := ∀ oj dj, l[j]? = some oj → oj.dst = some dj → ∃ v, eg e dj = some v ∧ (F j).p v I
theorem JA.flowN (F : Nat → Fact) (hb : backwards l = true) (hd : dstAll l = true)
    (step : ∀ k o d, l[k]? = some o → o.dst = some d → ∀ e I, Le I1 I → Base l e0 e → (∀ j, waitsFor l k j = true → Known l F e I j) → o.guard = none ∧ OpJ cx Q o e I H (FlowT cx l F k d e I H))
    (fin : ∀ e I, Le I1 I → Base l e0 e → (∀ k, Known l F e I k) → Ej cx Q .normal e I H) :
    ∀ (fuel : Nat) (listed : Array Bool) (e : Env) (I : Heap), listed.size = l.length → (List.range l.length).countP (fun i => !listed.getD i true) ≤ fuel → Le I1 I → Base l e0 e →
      (∀ k, listed.getD k false = true → Known l F e I k) → JA cx Q l I1 [] [] l.length fuel listed e I H := by
  have hds := hd
  unfold dstAll at hds
  rw [Bool.and_eq_true, List.all_eq_true, decide_eq_true_eq] at hds
  have hall : ∀ (listed : Array Bool) (e : Env) (I : Heap), listed.size = l.length → Region.ready .any l.toArray listed = [] → (∀ k, listed.getD k false = true → Known l F e I k) → ∀ k, Known l F e I k := by
    intro listed e I hsz hr hk k
    have hL : ∀ k, k < l.length → listed.getD k false = true := by
      intro k
      induction k using Nat.strongRecOn with
      | ind k ih =>
        intro hk
        refine Classical.byContradiction fun hn => ?_
        have hlt : k < listed.size := by omega
        have h1 : listed.getD k true = false := by
          rw [Array.getD, dif_pos hlt] at hn ⊢
          simpa using hn
        have h2 : k ∈ Region.ready .any l.toArray listed := by
          rw [mem_ready]
          refine ⟨h1, l[k], by simp [hk], fun ed hed hbd => ?_⟩
          have h3 := List.all_eq_true.1 hb k (List.mem_range.2 hk)
          rw [List.getElem?_eq_getElem hk] at h3
          have h4 := Array.all_eq_true_iff_forall_mem.1 h3 ed hed
          rw [hbd] at h4
          have h5 : ed.on < k := Nat.le_of_ble_eq_true (by simpa [Nat.blt] using h4)
          exact ih ed.on h5 (by omega)
        rw [hr] at h2; cases h2
    rcases Nat.lt_or_ge k l.length with g | g
    · exact hk k (hL k g)
    intro oj dj hj _
    rw [List.getElem?_eq_none g] at hj; cases hj
  intro fuel
  induction fuel with
  | zero =>
    intro listed e I hsz hc hle hba hk
    have hr : Region.ready .any l.toArray listed = [] := by
      refine List.eq_nil_iff_forall_not_mem.2 fun i hi => ?_
      obtain ⟨h1, o, h2, _⟩ := mem_ready.1 hi
      have h3 : i < l.length := by
        rcases Nat.lt_or_ge i l.length with g | g
        · exact g
        simp [List.getElem?_eq_none g] at h2
      have h4 : 0 < (List.range l.length).countP (fun i => !listed.getD i true) := List.countP_pos_iff.2 ⟨i, List.mem_range.2 h3, by rw [h1]; rfl⟩
      omega
    exact JA.done hr (fin e I hle hba (hall listed e I hsz hr hk))
  | succ fuel ih =>
    intro listed e I hsz hc hle hba hk
    by_cases hr : Region.ready .any l.toArray listed = []
    · exact JA.done hr (fin e I hle hba (hall listed e I hsz hr hk))
    refine JA.all _ rfl hr fun i hi => ?_
    obtain ⟨h1, o, h2, h3⟩ := mem_ready.1 hi
    have h2' : l[i]? = some o := by simpa using h2
    have hil : i < l.length := (List.getElem?_eq_some_iff.1 h2').1
    obtain ⟨d, hod⟩ := Option.isSome_iff_exists.1 (hds.1 o (List.mem_of_getElem? h2'))
    have hst := step i o d h2' hod e I hle hba fun j hj => by
      unfold waitsFor at hj
      rw [h2'] at hj
      obtain ⟨ed, hed, hp⟩ := Array.any_eq_true'.1 hj
      rw [Bool.and_eq_true, beq_iff_eq] at hp
      rw [← hp.2]
      exact hk _ (h3 ed hed hp.1)
    refine ⟨o, h2, hst.1, hst.2.mono ?_⟩
    rintro e' I' H' ⟨v, K, rfl, rfl, hK, hle', hF⟩
    refine ⟨⟨hle.trans hle', trivial, trivial⟩, ?_⟩
    refine persists_any (X := fun I H => JA cx Q l I1 [] [] l.length fuel (listed.setIfInBounds i true) ((d, v) :: e) I H) (base := cx.w0.heap.size) (fun _ _ _ _ hb k => JA.persist hb k) K I' hK fun I'' hle'' hKI => ?_
    have hdm : d ∈ dsts l := List.mem_filterMap.2 ⟨o, List.mem_of_getElem? h2', hod⟩
    refine ih _ _ _ (by simpa using hsz) ?_ ((hle.trans hle').trans hle'') (fun t ht => ?_) fun k hkl => ?_
    · have hlt := countP_lt (l := List.range l.length) (p := fun i => !listed.getD i true) (q := fun j => !(listed.setIfInBounds i true).getD j true) (i := i) (fun x _ hx => ?_) (List.mem_range.2 hil) (by rw [h1]; rfl) ?_
      · omega
      · by_cases hxi : i = x
        · subst hxi; rw [h1]; rfl
        rwa [getD_set_ne true hxi] at hx
      have : i < (listed.setIfInBounds i true).size := by rw [Array.size_setIfInBounds]; omega
      rw [Array.getD, dif_pos this]
      simp
    · have hne : Nat.beq d t = false := by
        refine Bool.eq_false_iff.2 fun g => ht ?_
        rw [← Nat.eq_of_beq_eq_true g]; exact hdm
      show (bif Nat.beq d t then some v else eg e t) = _
      rw [hne]; exact hba t ht
    by_cases hki : i = k
    · subst hki
      intro oj dj hj hdj
      rw [h2'] at hj; cases hj
      rw [hod] at hdj; cases hdj
      refine ⟨v, ?_, hF I'' hle'' hKI⟩
      show (bif Nat.beq d d then some v else eg e d) = _
      rw [Nat.beq_refl]; rfl
    rw [getD_set_ne false hki] at hkl
    intro oj dj hj hdj
    obtain ⟨u, hu, hp⟩ := hk k hkl oj dj hj hdj
    refine ⟨u, ?_, (F k).m _ _ _ hp (hle'.trans hle'')⟩
    have hne : Nat.beq d dj = false := by
      refine Bool.eq_false_iff.2 fun g => hki ?_
      have := Nat.eq_of_beq_eq_true g
      subst this
      exact dst_inj hds.1 hds.2 h2' hj hod hdj
    show (bif Nat.beq d dj then some v else eg e dj) = _
    rw [hne]; exact hu
theorem Cj.flow {id : Nat} (F : Nat → Fact) (hm : cx.P.follows .mixedOrders = true) (hb : backwards l = true) (hd : dstAll l = true)
    (step : ∀ k o d, l[k]? = some o → o.dst = some d → ∀ e I, Le I1 I → Base l e0 e → (∀ j, waitsFor l k j = true → Known l F e I j) → o.guard = none ∧ OpJ cx Q o e I H (FlowT cx l F k d e I H))
    (fin : ∀ e I, Le I1 I → Base l e0 e → (∀ k, Known l F e I k) → Ej cx Q .normal e I H)
    (hnd : cx.rd = none ∨ (noDefer l.toArray = true ∧ ¬ LetsOut Q) := by first | exact .inl rfl | exact .inr ⟨rfl, fun h => h.elim fun _ h => h.elim fun _ h => h⟩) : Cj cx Q (.region id l.toArray true) e0 I1 H := by
  refine Cj.draw [] [] l.length hm (JA.flowN F hb hd step fin _ _ _ _ (by simp) ?_ (Le.refl _) (fun _ _ => rfl) fun k hk => ?_) hnd
  · exact Nat.le_trans List.countP_le_length (by simp)
  rw [Array.getD] at hk
  split at hk
  · simp at hk
  cases hk
end
end Go.Sx
end
section
set_option maxHeartbeats 40000000
namespace Go.Proofs.YtekmeaoblpfnpaaGreatDoor
open _root_.Go.Proofs.Tryz
open Go Go.Sx
def ss2 : List Ke.Sub := [⟨97, [84, 104, 101, 32, 115, 101, 97, 32, 58]⟩, ⟨98, [97, 32, 115, 116, 111, 114, 121]⟩]
def ff2 (w : Value) : Ke.Fld := ⟨[50, 52, 53], [49, 52], [], w, ss2⟩
def ss4 : List Ke.Sub := [⟨97, [48, 45, 51, 48, 54, 45, 52, 48, 54, 49, 53, 45, 50]⟩]
def ff4 (w : Value) : Ke.Fld := ⟨[48, 50, 48], [32, 32], [], w, ss4⟩
def ss6 : List Ke.Sub := [⟨99, [99, 49, 57, 57, 57, 46]⟩]
def ff6 (w : Value) : Ke.Fld := ⟨[50, 54, 48], [32, 32], [], w, ss6⟩
def ss12 : List Ke.Sub := [⟨97, [83, 101, 97, 32, 115, 116, 111, 114, 105, 101, 115]⟩]
def ff12 (w : Value) : Ke.Fld := ⟨[50, 52, 53], [49, 48], [], w, ss12⟩
def ss14 : List Ke.Sub := [⟨97, [87, 111, 111, 108, 102, 44, 32, 86, 105, 114, 103, 105, 110, 105, 97]⟩]
def ff14 (w : Value) : Ke.Fld := ⟨[49, 48, 48], [49, 32], [], w, ss14⟩
def ss16 : List Ke.Sub := [⟨97, [83, 101, 97]⟩, ⟨120, [72, 105, 115, 116, 111, 114, 121]⟩]
def ff16 (w : Value) : Ke.Fld := ⟨[54, 53, 48], [32, 32], [], w, ss16⟩
def fs1 (a b c : Value) : List Ke.Fld := [ff2 a, ff4 b, ff6 c]
def fs2 (a b c : Value) : List Ke.Fld := [ff12 a, ff14 b, ff16 c]
def ns1 : List Ke.Fld := fs1 (.slice none 0 0) (.slice none 0 0) (.slice none 0 0)
def ns2 : List Ke.Fld := fs2 (.slice none 0 0) (.slice none 0 0) (.slice none 0 0)
def LS : Ix.Ix := [((1, 1), Ix.vals ns1), ((2, 1), Ix.vals ns2)]
theorem vals1_n (a b c : Value) : Ix.vals (fs1 a b c) = Ix.vals ns1 := by rw [← vals_nrm]; rfl
theorem vals2_n (a b c : Value) : Ix.vals (fs2 a b c) = Ix.vals ns2 := by rw [← vals_nrm]; rfl
theorem eok1 (a b c : Value) : EOK (fs1 a b c) := ⟨of_decide_eq_true rfl, fun f hf => by
  simp only [fs1, List.mem_cons, List.not_mem_nil, or_false] at hf
  rcases hf with rfl | rfl | rfl <;> exact ⟨of_decide_eq_true rfl, of_decide_eq_true rfl, of_decide_eq_true rfl⟩⟩
theorem eok2 (a b c : Value) : EOK (fs2 a b c) := ⟨of_decide_eq_true rfl, fun f hf => by
  simp only [fs2, List.mem_cons, List.not_mem_nil, or_false] at hf
  rcases hf with rfl | rfl | rfl <;> exact ⟨of_decide_eq_true rfl, of_decide_eq_true rfl, of_decide_eq_true rfl⟩⟩
theorem tok_eok {fs : List Ke.Fld} (h : EOK fs) : ∀ v ∈ Ix.vals fs, v.text.length ≤ 4000000 := fun v hv => by
  unfold Ix.vals at hv
  obtain ⟨f, hf, hv⟩ := List.mem_flatMap.1 hv
  obtain ⟨k1, k2, k3⟩ := h.2 f hf
  unfold Ix.vals1 at hv
  rcases List.mem_append.1 hv with g | g
  · obtain ⟨s, hs, rfl⟩ := List.mem_map.1 g
    have := named_text hs
    dsimp only; omega
  split at g
  · rw [List.mem_singleton] at g
    subst g
    have := textX_len f []
    rw [textX_all] at this
    dsimp only; omega
  cases g
theorem ls_tok : Ix.TOK LS := fun e he => by
  have he : e = ((1, 1), Ix.vals ns1) ∨ e = ((2, 1), Ix.vals ns2) := by simpa [LS] using he
  rcases he with rfl | rfl
  · exact tok_eok (eok1 _ _ _)
  exact tok_eok (eok2 _ _ _)
theorem tok_few {L : Ix.Ix} (h : Ix.Few L) : Ix.TOK L := fun e he => by
  obtain ⟨a, ha⟩ := h.2 e he
  rw [ha]
  unfold Ix.ActL.vs
  exact tok_eok (made_eok (l := a.fs.take 8) (by show Ke.nrm (Ix.madeR _) = Ix.madeR _; unfold Ix.madeR Ke.nrm; rw [List.map_map]; refine List.map_congr_left fun q _ => ?_; unfold Function.comp Ke.nrm1 Ix.fldN; split <;> rfl))
def fStrs (l : List (List UInt8)) : Fact := ⟨fun v I => StrP I l v, fun _ _ _ h hle => h.mono hle⟩
def fFld (f : Value → Ke.Fld) (ss : List Ke.Sub) : Fact := ⟨fun v I => ∃ w, v = .agg (fldC (f w)).toArray ∧ RowS subC I ss w, fun _ _ _ ⟨w, h1, h2⟩ hle => ⟨w, h1, h2.mono hle⟩⟩
def fRow (fs : Value → Value → Value → List Ke.Fld) : Fact := ⟨fun v I => ∃ a b c, RecS I (fs a b c) v, fun _ _ _ ⟨a, b, c, h⟩ hle => ⟨a, b, c, h.mono hle⟩⟩
def fRcd (fs : Value → Value → Value → List Ke.Fld) : Fact := ⟨fun v I => ∃ w a b c, v = recV 0 0 w ∧ RecS I (fs a b c) w, fun _ _ _ ⟨w, a, b, c, h1, h⟩ hle => ⟨w, a, b, c, h1, h.mono hle⟩⟩
def fEnt (t : Ix.Rec) (fs : Value → Value → Value → List Ke.Fld) : Fact := ⟨fun v I => ∃ w a b c, v = .agg (entC ⟨t, 0, 0, w, fs a b c⟩).toArray ∧ RecS I (fs a b c) w, fun _ _ _ ⟨w, a, b, c, h1, h⟩ hle => ⟨w, a, b, c, h1, h.mono hle⟩⟩
def fEnts : Fact := ⟨fun v I => ∃ es, EntsS I es v ∧ es.length = 2 ∧ (∀ e ∈ es, EOK e.fs) ∧ Ix.rputs (es.map entL) [] = LS, fun _ _ _ ⟨es, h1, h2⟩ hle => ⟨es, h1.mono hle, h2⟩⟩
def fIxp : Fact := ⟨fun v I => ∃ ib, v = ptr ib 0 ∧ IxP I ib LS, fun _ _ _ ⟨ib, h1, h2⟩ hle => ⟨ib, h1, h2.mono hle⟩⟩
def fAny : Fact := ⟨fun _ _ => True, fun _ _ _ _ _ => trivial⟩
theorem strP_blk {I : Heap} {b : Nat} {l : List (List UInt8)} (h : I b = some (cel 9 (l.map str))) : StrP I l (.slice (some ⟨b, 0, none⟩) l.length l.length) :=
  strC_row.2 (RowS.of (sp := []) (Nat.le_refl _) (by rw [h, List.append_nil]; congr 1; congr 1; rw [← List.flatMap_singleton' (l.map str), List.flatMap_map]))
theorem one_ge {n b : Nat} {o : Obj} (h : n ≤ b) : ∀ p ∈ [(b, o)], n ≤ p.1 := fun p hp => by rw [List.mem_singleton.1 hp]; exact h
theorem none_ge {n : Nat} : ∀ p ∈ ([] : HL), n ≤ p.1 := fun p hp => by cases hp
theorem ls_eq (a b c x y z w u : Value) : Ix.rputs ([(⟨(1, 1), 0, 0, w, fs1 a b c⟩ : Ent), ⟨(2, 1), 0, 0, u, fs2 x y z⟩].map entL) [] = LS := by
  show Ix.rputs [((1, 1), Ix.vals (fs1 a b c)), ((2, 1), Ix.vals (fs2 x y z))] [] = LS
  rw [vals1_n, vals2_n]
  generalize hv : Ix.vals ns1 = v
  generalize hu : Ix.vals ns2 = u
  have : LS = [((1, 1), v), ((2, 1), u)] := by unfold LS; rw [hv, hu]
  rw [this]; rfl
theorem ssort : Ix.sortOf LS (1, 1) < Ix.sortOf LS (2, 1) := by decide +kernel
theorem sr1 : Ix.IsRun LS (Ix.bothQ 2 (Ix.termQ [116, 105, 116, 108, 101] [61] [115, 101, 97]) (Ix.termQ [97, 117, 116, 104, 111, 114] [61] [119, 111, 111, 108, 102])) [(2, 1)] := by
  refine Ix.isRun_by ?_ ?_ ?_
  · exact List.pairwise_singleton _ _
  · intro t ht
    have ht : t ∈ [((1, 1) : Ix.Rec), (2, 1)] := ht
    simp only [List.mem_cons, List.not_mem_nil, or_false] at ht
    rcases ht with rfl | rfl <;> decide +kernel
  intro t ht
  revert t
  decide +kernel
theorem sr2 : Ix.IsRun LS (Ix.termQ [97, 110, 121] [97, 110, 121] [104, 105, 115, 116, 111, 114, 121, 32, 115, 116, 111, 114, 121]) [(1, 1), (2, 1)] := by
  refine Ix.isRun_by ?_ ?_ ?_
  · exact List.pairwise_cons.2 ⟨fun t ht => by rw [List.mem_singleton.1 ht]; exact .inl ssort, List.pairwise_singleton _ _⟩
  · intro t ht
    have ht : t ∈ [((1, 1) : Ix.Rec), (2, 1)] := ht
    simp only [List.mem_cons, List.not_mem_nil, or_false] at ht
    rcases ht with rfl | rfl <;> decide +kernel
  intro t ht
  revert t
  decide +kernel
theorem sr3 : Ix.IsRun LS (Ix.termQ [121, 101, 97, 114] [60] [50, 48, 48, 48]) [(1, 1)] := by
  refine Ix.isRun_by ?_ ?_ ?_
  · exact List.pairwise_singleton _ _
  · intro t ht
    have ht : t ∈ [((1, 1) : Ix.Rec), (2, 1)] := ht
    simp only [List.mem_cons, List.not_mem_nil, or_false] at ht
    rcases ht with rfl | rfl <;> decide +kernel
  intro t ht
  revert t
  decide +kernel
theorem sr4 : Ix.IsRun LS (Ix.termQ [121, 101, 97, 114] [62, 61] [50, 48, 48, 48]) [] := by
  refine Ix.isRun_by ?_ ?_ ?_
  · exact List.Pairwise.nil
  · intro t ht
    have ht : t ∈ [((1, 1) : Ix.Rec), (2, 1)] := ht
    simp only [List.mem_cons, List.not_mem_nil, or_false] at ht
    rcases ht with rfl | rfl <;> decide +kernel
  intro t ht
  revert t
  decide +kernel
theorem sr5 : Ix.IsRun LS (Ix.bothQ 4 (Ix.termQ [116, 105, 116, 108, 101] [97, 108, 108] [115, 101, 97, 32, 115, 116, 111, 114, 105, 101, 115]) (Ix.termQ [97, 117, 116, 104, 111, 114] [61] [119, 111, 111, 108, 102])) [] := by
  refine Ix.isRun_by ?_ ?_ ?_
  · exact List.Pairwise.nil
  · intro t ht
    have ht : t ∈ [((1, 1) : Ix.Rec), (2, 1)] := ht
    simp only [List.mem_cons, List.not_mem_nil, or_false] at ht
    rcases ht with rfl | rfl <;> decide +kernel
  intro t ht
  revert t
  decide +kernel
def flow3 : Nat → Fact
  | 0 => .is (.agg #[i64 1, i64 1])
  | 1 => fStrs (ss2.map (·.text))
  | 2 => fFld ff2 ss2
  | 3 => fStrs (ss4.map (·.text))
  | 4 => fFld ff4 ss4
  | 5 => fStrs (ss6.map (·.text))
  | 6 => fFld ff6 ss6
  | 7 => fRow fs1
  | 8 => fRcd fs1
  | 9 => fEnt (1, 1) fs1
  | 10 => .is (.agg #[i64 2, i64 1])
  | 11 => fStrs (ss12.map (·.text))
  | 12 => fFld ff12 ss12
  | 13 => fStrs (ss14.map (·.text))
  | 14 => fFld ff14 ss14
  | 15 => fStrs (ss16.map (·.text))
  | 16 => fFld ff16 ss16
  | 17 => fRow fs2
  | 18 => fRcd fs2
  | 19 => fEnt (2, 1) fs2
  | 20 => fEnts
  | 21 => fIxp
  | 22 => fIxp
  | _ => fAny
theorem sanity_ok (I : Heap) (hT : STab I) : Pure Tryz.prog 14 [] I (.bool true) := by
 refine Ctr.toPure ?_
 refine xob func14 fun w0 hw0 => ?_
 refine Cj.sr (J.as ?_)
 refine J.nssr (J.z (yl_buildS (pl := #[(0, 1), (1, 1)]) rfl rfl zeroValue54 rfl underlying54 (fun w => by simp [sizeOf3]) (LBld.part rfl rfl rfl (LSpl.c LSpl.z) (LBld.part rfl rfl rfl (LSpl.s (LSpl.c LSpl.z)) LBld.none))) ?_)
 refine J.op rfl (op_alloc rfl rfl rfl zeroValue54 rfl ?_)
 intro b1 hb1
 refine J.op rfl (op_store 0 rfl rfl rfl rfl rfl rfl sizeOf54 rfl rfl (LSpl.c (LSpl.c LSpl.z)) LSet.z ?_)
 refine J.nssr (J.z (yl_buildS (pl := #[(0, 1), (1, 1)]) rfl rfl zeroValue54 rfl underlying54 (fun w => by simp [sizeOf3]) (LBld.part rfl rfl rfl (LSpl.c LSpl.z) (LBld.part rfl rfl rfl (LSpl.s (LSpl.c LSpl.z)) LBld.none))) ?_)
 refine J.op rfl (op_alloc rfl rfl rfl zeroValue54 rfl ?_)
 intro b2 hb2
 refine J.op rfl (op_store 0 rfl rfl rfl rfl rfl rfl sizeOf54 rfl rfl (LSpl.c (LSpl.c LSpl.z)) LSet.z ?_)
 refine J.nss ?_
 refine Cj.flow flow3 (by kernel_rfl) (by kernel_rfl) (by kernel_rfl) (fun k o d hk hd e I2 hle hba hdep => ?_) (fun e I2 hle hba hkn => ?_)
 ·
  match k, hk with
  | 0, hk =>
   obtain rfl := Option.some.inj hk
   obtain rfl := Option.some.inj hd
   have ht : eg e 1 = some (ptr b1 0) := (hba 1 (by decide)).trans rfl
   exact ⟨rfl, op_yld (yl_loadAgg (vs := [i64 1, i64 1]) rfl ht isAgg54 sizeOf54 (Blk.at 1 rfl) rfl rfl) rfl rfl ⟨_, [], rfl, rfl, none_ge, Le.refl _, fun _ _ _ => rfl⟩⟩
  | 1, hk =>
   obtain rfl := Option.some.inj hk
   obtain rfl := Option.some.inj hd
   exact ⟨rfl, q3 underlying69 sizeOf9 zeroValue9 (LCat.one rfl (LCat.one rfl LCat.none)) (fun b hb => ⟨_, [(b, _)], rfl, rfl, one_ge hb, Le.refl _, fun I3 _ hK => strP_blk (l := ss2.map Ke.Sub.text) (hK _ (.head _))⟩)⟩
  | 2, hk =>
   obtain rfl := Option.some.inj hk
   obtain rfl := Option.some.inj hd
   obtain ⟨va, ha, pa⟩ := hdep 1 (by kernel_rfl) _ _ rfl rfl
   refine ⟨rfl, op_callN (vs := [str [50, 52, 53], str [49, 52], str [97, 98], va]) (fst := []) (cap := []) rfl rfl rfl rfl (by simp only [evs, ev, ha]; rfl) (text_ok [50, 52, 53] [49, 52] ss2 va (by decide) _ pa) (fun v I3 H3 hle3 _ hp => ?_) (fun _ _ _ _ ⟨_, h, _⟩ => by cases h) (fun _ _ ⟨_, h, _⟩ => by cases h)⟩
   obtain ⟨w, h, hw, rfl⟩ := hp; cases h
   exact ⟨_, [], rfl, rfl, none_ge, hle3, fun I4 hle4 _ => ⟨w, rfl, hw.mono hle4⟩⟩
  | 3, hk =>
   obtain rfl := Option.some.inj hk
   obtain rfl := Option.some.inj hd
   exact ⟨rfl, q3 underlying69 sizeOf9 zeroValue9 (LCat.one rfl LCat.none) (fun b hb => ⟨_, [(b, _)], rfl, rfl, one_ge hb, Le.refl _, fun I3 _ hK => strP_blk (l := ss4.map Ke.Sub.text) (hK _ (.head _))⟩)⟩
  | 4, hk =>
   obtain rfl := Option.some.inj hk
   obtain rfl := Option.some.inj hd
   obtain ⟨va, ha, pa⟩ := hdep 3 (by kernel_rfl) _ _ rfl rfl
   refine ⟨rfl, op_callN (vs := [str [48, 50, 48], str [32, 32], str [97], va]) (fst := []) (cap := []) rfl rfl rfl rfl (by simp only [evs, ev, ha]; rfl) (text_ok [48, 50, 48] [32, 32] ss4 va (by decide) _ pa) (fun v I3 H3 hle3 _ hp => ?_) (fun _ _ _ _ ⟨_, h, _⟩ => by cases h) (fun _ _ ⟨_, h, _⟩ => by cases h)⟩
   obtain ⟨w, h, hw, rfl⟩ := hp; cases h
   exact ⟨_, [], rfl, rfl, none_ge, hle3, fun I4 hle4 _ => ⟨w, rfl, hw.mono hle4⟩⟩
  | 5, hk =>
   obtain rfl := Option.some.inj hk
   obtain rfl := Option.some.inj hd
   exact ⟨rfl, q3 underlying69 sizeOf9 zeroValue9 (LCat.one rfl LCat.none) (fun b hb => ⟨_, [(b, _)], rfl, rfl, one_ge hb, Le.refl _, fun I3 _ hK => strP_blk (l := ss6.map Ke.Sub.text) (hK _ (.head _))⟩)⟩
  | 6, hk =>
   obtain rfl := Option.some.inj hk
   obtain rfl := Option.some.inj hd
   obtain ⟨va, ha, pa⟩ := hdep 5 (by kernel_rfl) _ _ rfl rfl
   refine ⟨rfl, op_callN (vs := [str [50, 54, 48], str [32, 32], str [99], va]) (fst := []) (cap := []) rfl rfl rfl rfl (by simp only [evs, ev, ha]; rfl) (text_ok [50, 54, 48] [32, 32] ss6 va (by decide) _ pa) (fun v I3 H3 hle3 _ hp => ?_) (fun _ _ _ _ ⟨_, h, _⟩ => by cases h) (fun _ _ ⟨_, h, _⟩ => by cases h)⟩
   obtain ⟨w, h, hw, rfl⟩ := hp; cases h
   exact ⟨_, [], rfl, rfl, none_ge, hle3, fun I4 hle4 _ => ⟨w, rfl, hw.mono hle4⟩⟩
  | 7, hk =>
   obtain rfl := Option.some.inj hk
   obtain rfl := Option.some.inj hd
   obtain ⟨va, ha, pa⟩ := hdep 2 (by kernel_rfl) _ _ rfl rfl
   obtain ⟨wa, rfl, hwa⟩ := pa
   obtain ⟨vb, hb, pb⟩ := hdep 4 (by kernel_rfl) _ _ rfl rfl
   obtain ⟨wb, rfl, hwb⟩ := pb
   obtain ⟨vc, hc, pc⟩ := hdep 6 (by kernel_rfl) _ _ rfl rfl
   obtain ⟨wc, rfl, hwc⟩ := pc
   refine ⟨rfl, op_buildSlice (vs := [.agg (fldC (ff2 wa)).toArray, .agg (fldC (ff4 wb)).toArray, .agg (fldC (ff6 wc)).toArray]) rfl rfl rfl underlying55 sizeOf108 zeroValue108 rfl (by simp only [List.map, evs, ev, ha, hb, hc]) rfl rfl (LCat.agg rfl (LCat.agg rfl (LCat.agg rfl LCat.none))) (fun b hbb => ⟨_, [(b, _)], rfl, rfl, one_ge hbb, Le.refl _, fun I3 hle3 hK => ⟨wa, wb, wc, RowS.of (l := fs1 wa wb wc) (sp := []) (Nat.le_refl _) (hK _ (.head _)), fun f hf => ?_⟩⟩)⟩
   simp only [fs1, List.mem_cons, List.not_mem_nil, or_false] at hf
   rcases hf with rfl | rfl | rfl
   · exact hwa.mono hle3
   · exact hwb.mono hle3
   exact hwc.mono hle3
  | 8, hk =>
   obtain rfl := Option.some.inj hk
   obtain rfl := Option.some.inj hd
   obtain ⟨va, ha, pa⟩ := hdep 7 (by kernel_rfl) _ _ rfl rfl
   obtain ⟨wa, wb, wc, hw⟩ := pa
   obtain ⟨qp, qc, rfl⟩ := RowS.len hw.1
   exact ⟨rfl, op_yld (yl_buildS (vs := [.slice qp (fs1 wa wb wc).length qc]) (pl := #[(0, 1), (1, 1), (2, 1)]) rfl (by simp only [List.map, evs, ev, ha]) zeroValue57 rfl underlying57 (fun w => by simp [sizeOf55, sizeOf5]) (LBld.part rfl rfl rfl (LSpl.s (LSpl.s (LSpl.c LSpl.z))) LBld.none)) rfl rfl ⟨_, [], rfl, rfl, none_ge, Le.refl _, fun I3 hle3 _ => ⟨_, wa, wb, wc, rfl, hw.mono hle3⟩⟩⟩
  | 9, hk =>
   obtain rfl := Option.some.inj hk
   obtain rfl := Option.some.inj hd
   obtain ⟨va, ha, pa⟩ := hdep 0 (by kernel_rfl) _ _ rfl rfl
   have pa : va = .agg [i64 1, i64 1].toArray := pa
   subst pa
   obtain ⟨vb, hb, pb⟩ := hdep 8 (by kernel_rfl) _ _ rfl rfl
   obtain ⟨w, wa, wb, wc, rfl, hw⟩ := pb
   exact ⟨rfl, op_yld (yl_buildS (vs := [.agg [i64 1, i64 1].toArray, recV 0 0 w]) (pl := #[(0, 2), (2, 3)]) rfl (by simp only [List.map, evs, ev, ha, hb]) zeroValue59 rfl underlying59 (fun w => by simp [sizeOf54, sizeOf57]) (LBld.part rfl rfl rfl (LSpl.c (LSpl.c LSpl.z)) (LBld.part rfl rfl rfl (LSpl.s (LSpl.s (LSpl.c (LSpl.c (LSpl.c LSpl.z))))) LBld.none))) rfl rfl ⟨_, [], rfl, rfl, none_ge, Le.refl _, fun I3 hle3 _ => ⟨w, wa, wb, wc, rfl, hw.mono hle3⟩⟩⟩
  | 10, hk =>
   obtain rfl := Option.some.inj hk
   obtain rfl := Option.some.inj hd
   have ht : eg e 2 = some (ptr b2 0) := (hba 2 (by decide)).trans rfl
   exact ⟨rfl, op_yld (yl_loadAgg (vs := [i64 2, i64 1]) rfl ht isAgg54 sizeOf54 (Blk.at 0 rfl) rfl rfl) rfl rfl ⟨_, [], rfl, rfl, none_ge, Le.refl _, fun _ _ _ => rfl⟩⟩
  | 11, hk =>
   obtain rfl := Option.some.inj hk
   obtain rfl := Option.some.inj hd
   exact ⟨rfl, q3 underlying69 sizeOf9 zeroValue9 (LCat.one rfl LCat.none) (fun b hb => ⟨_, [(b, _)], rfl, rfl, one_ge hb, Le.refl _, fun I3 _ hK => strP_blk (l := ss12.map Ke.Sub.text) (hK _ (.head _))⟩)⟩
  | 12, hk =>
   obtain rfl := Option.some.inj hk
   obtain rfl := Option.some.inj hd
   obtain ⟨va, ha, pa⟩ := hdep 11 (by kernel_rfl) _ _ rfl rfl
   refine ⟨rfl, op_callN (vs := [str [50, 52, 53], str [49, 48], str [97], va]) (fst := []) (cap := []) rfl rfl rfl rfl (by simp only [evs, ev, ha]; rfl) (text_ok [50, 52, 53] [49, 48] ss12 va (by decide) _ pa) (fun v I3 H3 hle3 _ hp => ?_) (fun _ _ _ _ ⟨_, h, _⟩ => by cases h) (fun _ _ ⟨_, h, _⟩ => by cases h)⟩
   obtain ⟨w, h, hw, rfl⟩ := hp; cases h
   exact ⟨_, [], rfl, rfl, none_ge, hle3, fun I4 hle4 _ => ⟨w, rfl, hw.mono hle4⟩⟩
  | 13, hk =>
   obtain rfl := Option.some.inj hk
   obtain rfl := Option.some.inj hd
   exact ⟨rfl, q3 underlying69 sizeOf9 zeroValue9 (LCat.one rfl LCat.none) (fun b hb => ⟨_, [(b, _)], rfl, rfl, one_ge hb, Le.refl _, fun I3 _ hK => strP_blk (l := ss14.map Ke.Sub.text) (hK _ (.head _))⟩)⟩
  | 14, hk =>
   obtain rfl := Option.some.inj hk
   obtain rfl := Option.some.inj hd
   obtain ⟨va, ha, pa⟩ := hdep 13 (by kernel_rfl) _ _ rfl rfl
   refine ⟨rfl, op_callN (vs := [str [49, 48, 48], str [49, 32], str [97], va]) (fst := []) (cap := []) rfl rfl rfl rfl (by simp only [evs, ev, ha]; rfl) (text_ok [49, 48, 48] [49, 32] ss14 va (by decide) _ pa) (fun v I3 H3 hle3 _ hp => ?_) (fun _ _ _ _ ⟨_, h, _⟩ => by cases h) (fun _ _ ⟨_, h, _⟩ => by cases h)⟩
   obtain ⟨w, h, hw, rfl⟩ := hp; cases h
   exact ⟨_, [], rfl, rfl, none_ge, hle3, fun I4 hle4 _ => ⟨w, rfl, hw.mono hle4⟩⟩
  | 15, hk =>
   obtain rfl := Option.some.inj hk
   obtain rfl := Option.some.inj hd
   exact ⟨rfl, q3 underlying69 sizeOf9 zeroValue9 (LCat.one rfl (LCat.one rfl LCat.none)) (fun b hb => ⟨_, [(b, _)], rfl, rfl, one_ge hb, Le.refl _, fun I3 _ hK => strP_blk (l := ss16.map Ke.Sub.text) (hK _ (.head _))⟩)⟩
  | 16, hk =>
   obtain rfl := Option.some.inj hk
   obtain rfl := Option.some.inj hd
   obtain ⟨va, ha, pa⟩ := hdep 15 (by kernel_rfl) _ _ rfl rfl
   refine ⟨rfl, op_callN (vs := [str [54, 53, 48], str [32, 32], str [97, 120], va]) (fst := []) (cap := []) rfl rfl rfl rfl (by simp only [evs, ev, ha]; rfl) (text_ok [54, 53, 48] [32, 32] ss16 va (by decide) _ pa) (fun v I3 H3 hle3 _ hp => ?_) (fun _ _ _ _ ⟨_, h, _⟩ => by cases h) (fun _ _ ⟨_, h, _⟩ => by cases h)⟩
   obtain ⟨w, h, hw, rfl⟩ := hp; cases h
   exact ⟨_, [], rfl, rfl, none_ge, hle3, fun I4 hle4 _ => ⟨w, rfl, hw.mono hle4⟩⟩
  | 17, hk =>
   obtain rfl := Option.some.inj hk
   obtain rfl := Option.some.inj hd
   obtain ⟨va, ha, pa⟩ := hdep 12 (by kernel_rfl) _ _ rfl rfl
   obtain ⟨wa, rfl, hwa⟩ := pa
   obtain ⟨vb, hb, pb⟩ := hdep 14 (by kernel_rfl) _ _ rfl rfl
   obtain ⟨wb, rfl, hwb⟩ := pb
   obtain ⟨vc, hc, pc⟩ := hdep 16 (by kernel_rfl) _ _ rfl rfl
   obtain ⟨wc, rfl, hwc⟩ := pc
   refine ⟨rfl, op_buildSlice (vs := [.agg (fldC (ff12 wa)).toArray, .agg (fldC (ff14 wb)).toArray, .agg (fldC (ff16 wc)).toArray]) rfl rfl rfl underlying55 sizeOf108 zeroValue108 rfl (by simp only [List.map, evs, ev, ha, hb, hc]) rfl rfl (LCat.agg rfl (LCat.agg rfl (LCat.agg rfl LCat.none))) (fun b hbb => ⟨_, [(b, _)], rfl, rfl, one_ge hbb, Le.refl _, fun I3 hle3 hK => ⟨wa, wb, wc, RowS.of (l := fs2 wa wb wc) (sp := []) (Nat.le_refl _) (hK _ (.head _)), fun f hf => ?_⟩⟩)⟩
   simp only [fs2, List.mem_cons, List.not_mem_nil, or_false] at hf
   rcases hf with rfl | rfl | rfl
   · exact hwa.mono hle3
   · exact hwb.mono hle3
   exact hwc.mono hle3
  | 18, hk =>
   obtain rfl := Option.some.inj hk
   obtain rfl := Option.some.inj hd
   obtain ⟨va, ha, pa⟩ := hdep 17 (by kernel_rfl) _ _ rfl rfl
   obtain ⟨wa, wb, wc, hw⟩ := pa
   obtain ⟨qp, qc, rfl⟩ := RowS.len hw.1
   exact ⟨rfl, op_yld (yl_buildS (vs := [.slice qp (fs2 wa wb wc).length qc]) (pl := #[(0, 1), (1, 1), (2, 1)]) rfl (by simp only [List.map, evs, ev, ha]) zeroValue57 rfl underlying57 (fun w => by simp [sizeOf55, sizeOf5]) (LBld.part rfl rfl rfl (LSpl.s (LSpl.s (LSpl.c LSpl.z))) LBld.none)) rfl rfl ⟨_, [], rfl, rfl, none_ge, Le.refl _, fun I3 hle3 _ => ⟨_, wa, wb, wc, rfl, hw.mono hle3⟩⟩⟩
  | 19, hk =>
   obtain rfl := Option.some.inj hk
   obtain rfl := Option.some.inj hd
   obtain ⟨va, ha, pa⟩ := hdep 10 (by kernel_rfl) _ _ rfl rfl
   have pa : va = .agg [i64 2, i64 1].toArray := pa
   subst pa
   obtain ⟨vb, hb, pb⟩ := hdep 18 (by kernel_rfl) _ _ rfl rfl
   obtain ⟨w, wa, wb, wc, rfl, hw⟩ := pb
   exact ⟨rfl, op_yld (yl_buildS (vs := [.agg [i64 2, i64 1].toArray, recV 0 0 w]) (pl := #[(0, 2), (2, 3)]) rfl (by simp only [List.map, evs, ev, ha, hb]) zeroValue59 rfl underlying59 (fun w => by simp [sizeOf54, sizeOf57]) (LBld.part rfl rfl rfl (LSpl.c (LSpl.c LSpl.z)) (LBld.part rfl rfl rfl (LSpl.s (LSpl.s (LSpl.c (LSpl.c (LSpl.c LSpl.z))))) LBld.none))) rfl rfl ⟨_, [], rfl, rfl, none_ge, Le.refl _, fun I3 hle3 _ => ⟨w, wa, wb, wc, rfl, hw.mono hle3⟩⟩⟩
  | 20, hk =>
   obtain rfl := Option.some.inj hk
   obtain rfl := Option.some.inj hd
   obtain ⟨va, ha, pa⟩ := hdep 9 (by kernel_rfl) _ _ rfl rfl
   obtain ⟨w, wa, wb, wc, rfl, hw⟩ := pa
   obtain ⟨vb, hb, pb⟩ := hdep 19 (by kernel_rfl) _ _ rfl rfl
   obtain ⟨u, ua, ub, uc, rfl, hu⟩ := pb
   obtain ⟨qp, qc, hq⟩ := RowS.len hw.1
   obtain ⟨rp, rc, hr⟩ := RowS.len hu.1
   refine ⟨rfl, op_buildSlice (vs := [.agg (entC ⟨(1, 1), 0, 0, w, fs1 wa wb wc⟩).toArray, .agg (entC ⟨(2, 1), 0, 0, u, fs2 ua ub uc⟩).toArray]) rfl rfl rfl underlying48 sizeOf59 zeroValue59 rfl (by simp only [List.map, evs, ev, ha, hb]) rfl rfl (LCat.agg rfl (LCat.agg rfl LCat.none)) (fun b hbb => ⟨_, [(b, _)], rfl, rfl, one_ge hbb, Le.refl _, fun I3 hle3 hK => ⟨[⟨(1, 1), 0, 0, w, fs1 wa wb wc⟩, ⟨(2, 1), 0, 0, u, fs2 ua ub uc⟩], ⟨RowS.of (sp := []) (Nat.le_refl _) (hK _ (.head _)), fun x hx => ?_⟩, rfl, fun x hx => ?_, ls_eq _ _ _ _ _ _ _ _⟩⟩)⟩
   · simp only [List.mem_cons, List.not_mem_nil, or_false] at hx
     rcases hx with rfl | rfl
     · exact hw.mono hle3
     exact hu.mono hle3
   simp only [List.mem_cons, List.not_mem_nil, or_false] at hx
   rcases hx with rfl | rfl
   · exact eok1 _ _ _
   exact eok2 _ _ _
  | 21, hk =>
   obtain rfl := Option.some.inj hk
   obtain rfl := Option.some.inj hd
   obtain ⟨va, ha, pa⟩ := hdep 20 (by kernel_rfl) _ _ rfl rfl
   obtain ⟨es, hE, hl, hek, hls⟩ := pa
   refine ⟨rfl, op_callN (vs := [va]) (fst := []) (cap := []) rfl rfl rfl rfl (by simp only [evs, ev, ha]) (Build_ok es va (by omega) hek _ hE) (fun v I3 H3 hle3 hn hp => ?_) (fun _ _ _ _ ⟨_, _, h, _⟩ => by cases h) (fun _ _ ⟨_, _, h, _⟩ => by cases h)⟩
   obtain ⟨ib, o, h, hok, rfl⟩ := hp; cases h
   rw [hls] at hok
   exact ⟨_, ixH ib o, rfl, rfl, hn, hle3, fun I4 hle4 hK => ⟨ib, rfl, o, hok.mono hle4, hK⟩⟩
  | 22, hk =>
   obtain rfl := Option.some.inj hk
   obtain rfl := Option.some.inj hd
   obtain ⟨va, ha, pa⟩ := hdep 21 (by kernel_rfl) _ _ rfl rfl
   obtain ⟨ib, rfl, hx⟩ := pa
   exact ⟨rfl, op_yld (yl_assign rfl (show ev e (.tmp 37) = some (ptr ib 0) from ha)) rfl rfl ⟨_, [], rfl, rfl, none_ge, Le.refl _, fun I3 hle3 _ => ⟨ib, rfl, hx.mono hle3⟩⟩⟩
  | k + 23, hk => exact absurd hk (by simp)
 obtain ⟨v3, h3, ib, rfl, hx⟩ := hkn 22 _ _ rfl rfl
 refine Ej.weak (e' := [(3, ptr ib 0), (1, ptr b1 0), (2, ptr b2 0)]) ⟨h3, (hba 1 (by decide)).trans rfl, (hba 2 (by decide)).trans rfl, trivial⟩ ?_
 have hT := hT.mono hle
 refine xca (term_ok [116, 105, 116, 108, 101] [61] [115, 101, 97] _) ?_
 intro v3 I4 H5 hle6 hp7
 have hT := hT.mono hle6
 have hx := hx.mono hle6
 obtain ⟨h, rfl⟩ := hp7; cases h
 refine xca (term_ok [97, 117, 116, 104, 111, 114] [61] [119, 111, 111, 108, 102] _) ?_
 intro v8 I9 H10 hle11 hp12
 have hT := hT.mono hle11
 have hx := hx.mono hle11
 obtain ⟨h, rfl⟩ := hp12; cases h
 refine xca (both_ok 2 (Ix.termQ [116, 105, 116, 108, 101] [61] [115, 101, 97]) (Ix.termQ [97, 117, 116, 104, 111, 114] [61] [119, 111, 111, 108, 102]) none none 0 0 _ (.inl rfl) (.inl rfl)) ?_
 intro v13 I14 H15 hle16 hp17
 have hT := hT.mono hle16
 have hx := hx.mono hle16
 obtain ⟨⟨pqa, cqa, h, hqa⟩, rfl⟩ := hp17; cases h
 refine xcn (Run_ok (ptr ib 0) LS (Ix.bothQ 2 (Ix.termQ [116, 105, 116, 108, 101] [61] [115, 101, 97]) (Ix.termQ [97, 117, 116, 104, 111, 114] [61] [119, 111, 111, 108, 102])) pqa cqa (by decide) (by decide) (Ix.right_both (by decide) (by decide) (Ix.termQ_form (by decide) (by decide) _) (Ix.termQ_form (by decide) (by decide) _) (by decide) (by decide)) ls_tok _ hqa (.inr ⟨ib, rfl, hx⟩) hT) ?_
 intro v19 I20 H21 hle22 hn18 hp23
 have hT := hT.mono hle22
 have hx := hx.mono hle22
 have hqa := hqa.mono hle22
 obtain ⟨wa, ra, h, hruna, hoa⟩ := hp23; cases h
 obtain rfl := hruna.eq sr1
 refine J.keepO hoa hn18 (fun Ia hlea hra => ?_)
 have hT := hT.mono hlea
 have hx := hx.mono hlea
 have hqa := hqa.mono hlea
 replace hra := hra.row
 obtain ⟨pa, ca, rfl⟩ := rowS_len hra
 refine xca (term_ok [97, 110, 121] [97, 110, 121] [104, 105, 115, 116, 111, 114, 121, 32, 115, 116, 111, 114, 121] _) ?_
 intro v24 I25 H26 hle27 hp28
 have hT := hT.mono hle27
 have hx := hx.mono hle27
 have hqa := hqa.mono hle27
 have hra := hra.mono hle27
 obtain ⟨h, rfl⟩ := hp28; cases h
 refine xcn (Run_ok (ptr ib 0) LS (Ix.termQ [97, 110, 121] [97, 110, 121] [104, 105, 115, 116, 111, 114, 121, 32, 115, 116, 111, 114, 121]) none 0 (by decide) (by decide) (Ix.right_term (by decide) (by decide) _) ls_tok _ (.inl rfl) (.inr ⟨ib, rfl, hx⟩) hT) ?_
 intro v30 I31 H32 hle33 hn29 hp34
 have hT := hT.mono hle33
 have hx := hx.mono hle33
 have hqa := hqa.mono hle33
 have hra := hra.mono hle33
 obtain ⟨wb, rb, h, hrunb, hob⟩ := hp34; cases h
 obtain rfl := hrunb.eq sr2
 refine J.keepO hob hn29 (fun Ib hleb hrb => ?_)
 have hT := hT.mono hleb
 have hx := hx.mono hleb
 have hqa := hqa.mono hleb
 have hra := hra.mono hleb
 replace hrb := hrb.row
 obtain ⟨pb, cb, rfl⟩ := rowS_len hrb
 refine xca (term_ok [121, 101, 97, 114] [60] [50, 48, 48, 48] _) ?_
 intro v35 I36 H37 hle38 hp39
 have hT := hT.mono hle38
 have hx := hx.mono hle38
 have hqa := hqa.mono hle38
 have hra := hra.mono hle38
 have hrb := hrb.mono hle38
 obtain ⟨h, rfl⟩ := hp39; cases h
 refine xcn (Run_ok (ptr ib 0) LS (Ix.termQ [121, 101, 97, 114] [60] [50, 48, 48, 48]) none 0 (by decide) (by decide) (Ix.right_term (by decide) (by decide) _) ls_tok _ (.inl rfl) (.inr ⟨ib, rfl, hx⟩) hT) ?_
 intro v41 I42 H43 hle44 hn40 hp45
 have hT := hT.mono hle44
 have hx := hx.mono hle44
 have hqa := hqa.mono hle44
 have hra := hra.mono hle44
 have hrb := hrb.mono hle44
 obtain ⟨wc, rc, h, hrunc, hoc⟩ := hp45; cases h
 obtain rfl := hrunc.eq sr3
 refine J.keepO hoc hn40 (fun Ic hlec hrc => ?_)
 have hT := hT.mono hlec
 have hx := hx.mono hlec
 have hqa := hqa.mono hlec
 have hra := hra.mono hlec
 have hrb := hrb.mono hlec
 replace hrc := hrc.row
 obtain ⟨pc, cc, rfl⟩ := rowS_len hrc
 refine xca (term_ok [121, 101, 97, 114] [62, 61] [50, 48, 48, 48] _) ?_
 intro v46 I47 H48 hle49 hp50
 have hT := hT.mono hle49
 have hx := hx.mono hle49
 have hqa := hqa.mono hle49
 have hra := hra.mono hle49
 have hrb := hrb.mono hle49
 have hrc := hrc.mono hle49
 obtain ⟨h, rfl⟩ := hp50; cases h
 refine xcn (Run_ok (ptr ib 0) LS (Ix.termQ [121, 101, 97, 114] [62, 61] [50, 48, 48, 48]) none 0 (by decide) (by decide) (Ix.right_term (by decide) (by decide) _) ls_tok _ (.inl rfl) (.inr ⟨ib, rfl, hx⟩) hT) ?_
 intro v52 I53 H54 hle55 hn51 hp56
 have hT := hT.mono hle55
 have hx := hx.mono hle55
 have hqa := hqa.mono hle55
 have hra := hra.mono hle55
 have hrb := hrb.mono hle55
 have hrc := hrc.mono hle55
 obtain ⟨wd, rd, h, hrund, hod⟩ := hp56; cases h
 obtain rfl := hrund.eq sr4
 refine J.keepO hod hn51 (fun Id hled hrd => ?_)
 have hT := hT.mono hled
 have hx := hx.mono hled
 have hqa := hqa.mono hled
 have hra := hra.mono hled
 have hrb := hrb.mono hled
 have hrc := hrc.mono hled
 replace hrd := hrd.row
 obtain ⟨pd, cd, rfl⟩ := rowS_len hrd
 refine xca (term_ok [116, 105, 116, 108, 101] [97, 108, 108] [115, 101, 97, 32, 115, 116, 111, 114, 105, 101, 115] _) ?_
 intro v57 I58 H59 hle60 hp61
 have hT := hT.mono hle60
 have hx := hx.mono hle60
 have hqa := hqa.mono hle60
 have hra := hra.mono hle60
 have hrb := hrb.mono hle60
 have hrc := hrc.mono hle60
 have hrd := hrd.mono hle60
 obtain ⟨h, rfl⟩ := hp61; cases h
 refine xca (term_ok [97, 117, 116, 104, 111, 114] [61] [119, 111, 111, 108, 102] _) ?_
 intro v62 I63 H64 hle65 hp66
 have hT := hT.mono hle65
 have hx := hx.mono hle65
 have hqa := hqa.mono hle65
 have hra := hra.mono hle65
 have hrb := hrb.mono hle65
 have hrc := hrc.mono hle65
 have hrd := hrd.mono hle65
 obtain ⟨h, rfl⟩ := hp66; cases h
 refine xca (both_ok 4 (Ix.termQ [116, 105, 116, 108, 101] [97, 108, 108] [115, 101, 97, 32, 115, 116, 111, 114, 105, 101, 115]) (Ix.termQ [97, 117, 116, 104, 111, 114] [61] [119, 111, 111, 108, 102]) none none 0 0 _ (.inl rfl) (.inl rfl)) ?_
 intro v67 I68 H69 hle70 hp71
 have hT := hT.mono hle70
 have hx := hx.mono hle70
 have hqa := hqa.mono hle70
 have hra := hra.mono hle70
 have hrb := hrb.mono hle70
 have hrc := hrc.mono hle70
 have hrd := hrd.mono hle70
 obtain ⟨⟨pqe, cqe, h, hqe⟩, rfl⟩ := hp71; cases h
 refine xcn (Run_ok (ptr ib 0) LS (Ix.bothQ 4 (Ix.termQ [116, 105, 116, 108, 101] [97, 108, 108] [115, 101, 97, 32, 115, 116, 111, 114, 105, 101, 115]) (Ix.termQ [97, 117, 116, 104, 111, 114] [61] [119, 111, 111, 108, 102])) pqe cqe (by decide) (by decide) (Ix.right_both (by decide) (by decide) (Ix.termQ_form (by decide) (by decide) _) (Ix.termQ_form (by decide) (by decide) _) (by decide) (by decide)) ls_tok _ hqe (.inr ⟨ib, rfl, hx⟩) hT) ?_
 intro v73 I74 H75 hle76 hn72 hp77
 have hT := hT.mono hle76
 have hx := hx.mono hle76
 have hqa := hqa.mono hle76
 have hra := hra.mono hle76
 have hrb := hrb.mono hle76
 have hrc := hrc.mono hle76
 have hrd := hrd.mono hle76
 have hqe := hqe.mono hle76
 obtain ⟨we, re, h, hrune, hoe⟩ := hp77; cases h
 obtain rfl := hrune.eq sr5
 refine J.keepO hoe hn72 (fun Ie hlee hre => ?_)
 have hT := hT.mono hlee
 have hx := hx.mono hlee
 have hqa := hqa.mono hlee
 have hra := hra.mono hlee
 have hrb := hrb.mono hlee
 have hrc := hrc.mono hlee
 have hrd := hrd.mono hlee
 have hqe := hqe.mono hlee
 replace hre := hre.row
 obtain ⟨pe, ce, rfl⟩ := rowS_len hre
 refine axn 14 ?_
 refine J.opG 2 74 true _ rfl rfl rfl (by first | rfl | decide) (q3 underlying36 sizeOf54 zeroValue54 (LCat.agg rfl LCat.none) ?_)
 intro b78 hb78
 refine J.persist hb78 (fun I80 hle79 hb78i => ?_)
 have hT := hT.mono hle79
 have hx := hx.mono hle79
 have hqa := hqa.mono hle79
 have hra := hra.mono hle79
 have hrb := hrb.mono hle79
 have hrc := hrc.mono hle79
 have hrd := hrd.mono hle79
 have hqe := hqe.mono hle79
 have hre := hre.mono hle79
 have hL78 : RowS recC _ ([(2, 1)] : List Ix.Rec) (.slice (some ⟨b78, 0, none⟩) 1 1) := RowS.of (l := ([(2, 1)] : List Ix.Rec)) (sp := []) (Nat.le_refl _) hb78i
 refine xpu (rRecs_ok [(2, 1)] [(2, 1)] _ _ (by decide) _ hra hL78) ?_
 refine J.ev 78 (.bool true) rfl (congrArg Value.bool (by decide)) ?_
 refine axn 5 ?_
 refine J.opG 8 80 true _ rfl rfl rfl rfl (q3 underlying36 sizeOf54 zeroValue54 (LCat.agg rfl (LCat.agg rfl LCat.none)) ?_)
 intro b81 hb81
 refine J.persist hb81 (fun I83 hle82 hb81i => ?_)
 have hT := hT.mono hle82
 have hx := hx.mono hle82
 have hqa := hqa.mono hle82
 have hra := hra.mono hle82
 have hrb := hrb.mono hle82
 have hrc := hrc.mono hle82
 have hrd := hrd.mono hle82
 have hqe := hqe.mono hle82
 have hre := hre.mono hle82
 have hb78i := hle82 _ _ hb78i
 have hL78 := hL78.mono hle82
 have hL85 : RowS recC _ ([(1, 1), (2, 1)] : List Ix.Rec) (.slice (some ⟨b81, 0, none⟩) 2 2) := RowS.of (l := ([(1, 1), (2, 1)] : List Ix.Rec)) (sp := []) (Nat.le_refl _) hb81i
 refine xpu (rRecs_ok [(1, 1), (2, 1)] [(1, 1), (2, 1)] _ _ (by decide) _ hrb hL85) ?_
 refine J.ev 85 (.bool true) rfl (congrArg Value.bool (by decide)) ?_
 refine axn 4 ?_
 refine J.opG 15 87 true _ rfl rfl rfl rfl (q3 underlying36 sizeOf54 zeroValue54 (LCat.agg rfl LCat.none) ?_)
 intro b84 hb84
 refine J.persist hb84 (fun I86 hle85 hb84i => ?_)
 have hT := hT.mono hle85
 have hx := hx.mono hle85
 have hqa := hqa.mono hle85
 have hra := hra.mono hle85
 have hrb := hrb.mono hle85
 have hrc := hrc.mono hle85
 have hrd := hrd.mono hle85
 have hqe := hqe.mono hle85
 have hre := hre.mono hle85
 have hb78i := hle85 _ _ hb78i
 have hL78 := hL78.mono hle85
 have hb81i := hle85 _ _ hb81i
 have hL85 := hL85.mono hle85
 have hL91 : RowS recC _ ([(1, 1)] : List Ix.Rec) (.slice (some ⟨b84, 0, none⟩) 1 1) := RowS.of (l := ([(1, 1)] : List Ix.Rec)) (sp := []) (Nat.le_refl _) hb84i
 refine xpu (rRecs_ok [(1, 1)] [(1, 1)] _ _ (by decide) _ hrc hL91) ?_
 refine J.ev 91 (.bool true) rfl (congrArg Value.bool (by decide)) ?_
 refine axn 4 ?_
 refine J.ev 95 (i64 0) rfl rfl ?_
 refine axn 2 ?_
 refine J.ev 97 (i64 0) rfl rfl ?_
 refine axn 2 ?_
 refine J.ev 99 (.bool true) rfl rfl ?_
 refine axr ?_
 exact ⟨rfl, rfl⟩
end Go.Proofs.YtekmeaoblpfnpaaGreatDoor
end
section
namespace Ix
open Ke
theorem textN_in (n : Int) : textN n ∈ [] :: textsL := by grind [textN]
theorem isbn_back : ∀ x ∈ [] :: textsL, (isbn x).2 = true → keyOf nIsbn (plainK (sortKey (isbn x).1 0)) = sortKey (isbn x).1 0 := by decide +kernel
theorem fldN_texts (q : Four) : ∀ s ∈ (fldN q).subs, s.text ∈ [] :: textsL := by
  unfold fldN
  split
  · intro s hs; cases hs
  intro s hs
  obtain ⟨j, _, rfl⟩ := List.mem_map.1 hs
  exact textN_in _
theorem named_isbn {f : Fld} (h : (named f).1 = nIsbn) : f.tag = [48, 50, 48] ∧ (named f).2 = f.subs.filterMap isb := by
  unfold named at h ⊢
  split at h
  · exact absurd h (by decide : nTitle ≠ nIsbn)
  rename_i h1
  split at h
  · exact absurd h (by decide : nAuthor ≠ nIsbn)
  rename_i h2
  split at h
  · exact absurd h (by decide : nSubject ≠ nIsbn)
  rename_i h3
  split at h
  · rename_i h4
    exact ⟨h4, by rw [if_neg h1, if_neg h2, if_neg h3, if_pos h4]⟩
  split at h
  · exact absurd h (by decide : nYear ≠ nIsbn)
  exact absurd h (by decide : ([] : Bs) ≠ nIsbn)
theorem back_val (q : Four) (v : V) (hv : v ∈ vals1 (fldN q)) : keyOf v.name (plainK v.key) = v.key := by
  by_cases hn : v.name = nIsbn
  · unfold vals1 at hv
    rcases List.mem_append.1 hv with g | g
    · obtain ⟨s, hs, rfl⟩ := List.mem_map.1 g
      obtain ⟨ht, hm⟩ := named_isbn hn
      rw [hm] at hs
      obtain ⟨x, hx, he⟩ := List.mem_filterMap.1 hs
      unfold isb at he
      split at he
      · rename_i hc
        cases he
        have h0 : skipT (fldN q) = 0 := by
          unfold skipT
          rw [ht, if_neg (by decide)]
        show keyOf (named (fldN q)).1 (plainK (sortKey (isbn x.text).1 (skipT (fldN q)))) = sortKey (isbn x.text).1 (skipT (fldN q))
        rw [h0, show (named (fldN q)).1 = nIsbn from hn]
        exact isbn_back x.text (fldN_texts q x hx) hc.1
      cases he
    split at g
    · rw [List.mem_singleton.1 g] at hn
      exact absurd hn (by decide : nAny ≠ nIsbn)
    cases g
  unfold keyOf
  rw [if_neg fun h => hn h.2]
  exact key_plain v.text v.skip
theorem back_act (a : ActL) : ∀ v ∈ a.vs, keyOf v.name (plainK v.key) = v.key := by grind [ActL.vs, vals, ActL.record, madeR, List.mem_flatMap.1, List.mem_map.1, back_val]
theorem few_back {L : Ix} (h : Few L) (n : Bs) : Back L n := fun e he v hv hn => by
  obtain ⟨a, ha⟩ := h.2 e he
  rw [ha] at hv
  rw [← hn]
  exact back_act a v hv
def side (vs : List V) (n : Bs) (P : Bs → Bool) : Bool := vs.any fun v => decide (v.name = n) && decide (v.key ≠ []) && P v.key
theorem side_iff {vs : List V} {n : Bs} {P : Bs → Bool} : side vs n P = true ↔ ∃ v ∈ vs, v.name = n ∧ v.key ≠ [] ∧ P v.key = true := by unfold side; grind
theorem sat_ge {L : Ix} (hs : Srt L) (hf : Few L) (n s : Bs) {e : Rec × List V} (he : e ∈ L) : satT L n rGe s e.1 = side e.2 n fun k => !decide (k < keyOf n s) := by
  rw [show satT L n rGe s e.1 = decide (e.1 ∈ keyed L n (keysAll L n (keyOf n s))) from rfl, Bool.eq_iff_iff, decide_eq_true_eq, side_iff, mem_keyed hs (b := keyOf n s) (few_back hf n) (fun _ => True) (fun k => by simp)]
  constructor
  · rintro ⟨e2, he2, h1, v, hv, h2, h3, h4, _⟩
    rw [srt_key hs he2 he h1] at hv
    exact ⟨v, hv, h2, h3, by simpa using h4⟩
  rintro ⟨v, hv, h2, h3, h4⟩
  exact ⟨e, he, rfl, v, hv, h2, h3, by simpa using h4, trivial⟩
theorem sat_lt {L : Ix} (hs : Srt L) (hf : Few L) (n s : Bs) {e : Rec × List V} (he : e ∈ L) : satT L n rLt s e.1 = side e.2 n fun k => decide (k < keyOf n s) := by
  rw [show satT L n rLt s e.1 = decide (e.1 ∈ keyed L n ((keysAll L n []).take ((keysAll L n []).length - (keysAll L n (keyOf n s)).length))) from rfl, Bool.eq_iff_iff, decide_eq_true_eq, side_iff, mem_keyed hs (b := []) (few_back hf n) (fun k => k < keyOf n s) (fun k => take_less hs n _)]
  constructor
  · rintro ⟨e2, he2, h1, v, hv, h2, h3, _, h4⟩
    rw [srt_key hs he2 he h1] at hv
    exact ⟨v, hv, h2, h3, decide_eq_true h4⟩
  rintro ⟨v, hv, h2, h3, h4⟩
  exact ⟨e, he, rfl, v, hv, h2, h3, List.not_lt_nil _, of_decide_eq_true h4⟩
end Ix
end
section
set_option maxHeartbeats 40000000
namespace Go.Proofs.YtekmeaoblpfnpaaGreatDoor
open _root_.Go.Proofs.Tryz
open Go Go.Sx
def sideN (P : List UInt8 → Bool) (vs : List (List UInt8 × Nat)) : Bool := vs.any fun x => decide (Ke.sortKey x.1 (x.2 : Int) ≠ []) && P (Ke.sortKey x.1 (x.2 : Int))
theorem sideN_next {P : List UInt8 → Bool} {vs : List (List UInt8 × Nat)} {k : Nat} {x : List UInt8 × Nat} (h : vs[k]? = some x) : sideN P (vs.take (k + 1)) = (sideN P (vs.take k) || (decide (Ke.sortKey x.1 (x.2 : Int) ≠ []) && P (Ke.sortKey x.1 (x.2 : Int)))) := by
  obtain ⟨hlt, hg⟩ := List.getElem?_eq_some_iff.1 h
  unfold sideN
  rw [List.take_succ_eq_append_getElem hlt, hg, List.any_append]
  simp
theorem side_N (fs : List Ke.Fld) (n : List UInt8) (P : List UInt8 → Bool) : Ix.side (Ix.vals fs) n P = sideN P (Ix.valsN fs n) := by
  unfold Ix.side sideN
  rw [← Ix.valsN_eq, List.any_map, List.any_filter]
  congr 1
  funext v
  simp only [Function.comp]
  cases h : decide (v.name = n) <;> simp <;> rfl
theorem side_y {P : List UInt8 → Bool} {a : Bool} {k : List UInt8} (ha : a = true) : true = (a || (decide (k ≠ []) && P k)) := by rw [ha]; rfl
theorem side_n {P : List UInt8 → Bool} {a : Bool} {k : List UInt8} (ha : a = false) (hk : (k != []) = false) : false = (a || (decide (k ≠ []) && P k)) := by
  rw [ha, Bool.false_or, decide_eq_false (fun h => h (by simpa using hk))]; rfl
theorem side_p {P : List UInt8 → Bool} {a : Bool} {k : List UInt8} (ha : a = false) (hk : (k != []) = true) : P k = (a || (decide (k ≠ []) && P k)) := by
  rw [ha, Bool.false_or, decide_eq_true (by simpa using hk), Bool.true_and]
theorem bne_of {a b : Bool} (h : a = b) : (a != b) = false := by rw [h]; exact bne_self_eq_false _
theorem six_len {x : List UInt8} (h : x ∈ Cq.indexes) : x.length ≤ 7 := by revert x; decide
theorem SearchRanges_ok (xs : List Act) (v : Value) (hao : ActsOk xs) (n : UInt8) (s : List UInt8) (hsl : s.length ≤ 5000000) (I : Heap) (hT : STab I) (hA : ActsS I xs v) : Pure Tryz.prog 4 [v, u8 n, str s] I (.bool true) := by
 refine Ctr.toPure ?_
 have hp20 := play_len xs
 have hnl := nameI_mem n
 refine xob func4 fun w0 hw0 => ?_
 refine xpu (sanity_ok _ hT) ?_
 refine xcn (built_ok xs _ hao _ hA) ?_
 intro v2 I3 H4 hle5 hn1 hp6
 have hA := hA.mono hle5
 have hT := hT.mono hle5
 obtain ⟨ib, o, rb, es, w, h, hok, hE, hL, hek, hel, rfl⟩ := hp6; cases h
 refine J.persists ((rb, _) :: ixH ib o) hn1 (fun Ip hlep hK => ?_)
 have hA := hA.mono hlep
 have hT := hT.mono hlep
 have hx : IxP Ip ib (Ix.play (acts xs)) := ⟨o, hok.mono hlep, fun p hp => hK p (.tail _ hp)⟩
 have hy : RxP Ip rb es := RxP.of (hK (rb, _) (.head _)) (hE.mono hlep) (by omega) hek (hL ▸ Ix.play_srt _)
 clear hok hE hK
 refine xca (names_ok n 0 _) ?_
 intro v7 I8 H9 hle10 hp11
 have hA := hA.mono hle10
 have hT := hT.mono hle10
 have hx := hx.mono hle10
 have hy := hy.mono hle10
 obtain ⟨h, rfl⟩ := hp11; cases h
 refine xca (term_ok (nameI n) [62, 61] s _) ?_
 intro v12 I13 H14 hle15 hp16
 have hA := hA.mono hle15
 have hT := hT.mono hle15
 have hx := hx.mono hle15
 have hy := hy.mono hle15
 obtain ⟨h, rfl⟩ := hp16; cases h
 refine xcn (Run_ok (ptr ib 0) (Ix.play (acts xs)) (Ix.termQ (nameI n) [62, 61] s) none 0 (Nat.zero_le _) (by rw [Ix.termQ_wide]; have := six_len hnl; simp only [List.length_cons, List.length_nil]; omega) (Ix.right_term hnl (by decide) s) (tok_few (Ix.play_few _)) _ (.inl rfl) (.inr ⟨ib, rfl, hx⟩) hT) ?_
 intro v18 I19 H20 hle21 hn17 hp22
 have hA := hA.mono hle21
 have hT := hT.mono hle21
 have hx := hx.mono hle21
 have hy := hy.mono hle21
 obtain ⟨wa, ra, h, hruna, hoa⟩ := hp22; cases h
 refine J.keepO hoa hn17 (fun Ia hlea hra => ?_)
 have hA := hA.mono hlea
 have hT := hT.mono hlea
 have hx := hx.mono hlea
 have hy := hy.mono hlea
 replace hra := hra.row
 obtain ⟨pa, ca, rfl⟩ := rowS_len hra
 refine xca (term_ok (nameI n) [60] s _) ?_
 intro v23 I24 H25 hle26 hp27
 have hA := hA.mono hle26
 have hT := hT.mono hle26
 have hx := hx.mono hle26
 have hy := hy.mono hle26
 have hra := hra.mono hle26
 obtain ⟨h, rfl⟩ := hp27; cases h
 refine xcn (Run_ok (ptr ib 0) (Ix.play (acts xs)) (Ix.termQ (nameI n) [60] s) none 0 (Nat.zero_le _) (by rw [Ix.termQ_wide]; have := six_len hnl; simp only [List.length_cons, List.length_nil]; omega) (Ix.right_term hnl (by decide) s) (tok_few (Ix.play_few _)) _ (.inl rfl) (.inr ⟨ib, rfl, hx⟩) hT) ?_
 intro v29 I30 H31 hle32 hn28 hp33
 have hA := hA.mono hle32
 have hT := hT.mono hle32
 have hx := hx.mono hle32
 have hy := hy.mono hle32
 have hra := hra.mono hle32
 obtain ⟨wb, rb1, h, hrunb, hob⟩ := hp33; cases h
 refine J.keepO hob hn28 (fun Ib hleb hrb => ?_)
 have hA := hA.mono hleb
 have hT := hT.mono hleb
 have hx := hx.mono hleb
 have hy := hy.mono hleb
 have hra := hra.mono hleb
 replace hrb := hrb.row
 obtain ⟨pb, cb, rfl⟩ := rowS_len hrb
 refine xpu (rKeyOf_ok (nameI n) s (by omega) _) ?_
 refine axn 5 ?_
 obtain ⟨p, c, hR0⟩ := hy.ex
 have hlen := hy.len
 refine axn 5 ?_
 refine Cj.loop (ι := Nat × Heap) (fun y => y.1 ≤ es.length ∧ Le Ib y.2) (fun y => es.length - y.1) (fun y => [(7, .bool true), (9, ptr rb 0), (10, str (nameI n)), (12, .slice pa ra.length ca), (14, .slice pb rb1.length cb), (16, str (Ix.keyOf (nameI n) s)), (17, i64 (y.1 : Int))]) (fun y => y.2) (fun y => []) (0, _) ⟨Nat.zero_le _, Le.refl _⟩ ⟨rfl, rfl, rfl, rfl, rfl, rfl, rfl, trivial⟩ rfl rfl ?_
 rintro ⟨k, J1⟩ ⟨hk, hIJ⟩
 dsimp only at hk hIJ ⊢
 have hy := hy.mono hIJ
 have hR := hR0.mono hIJ
 have hRb := hR.1
 have hra := hra.mono hIJ
 have hrb := hrb.mono hIJ
 refine axc (fun hc35 hc35p => ?_) (fun hc35 hc35p => ?_)
 ·
  have hlt : k < es.length := by omega
  obtain ⟨e0, hget⟩ : ∃ x, es[k]? = some x := ⟨_, List.getElem?_eq_getElem hlt⟩
  have hek := hy.eok e0 (List.mem_of_getElem? hget)
  have hmem : entL e0 ∈ (Ix.play (acts xs)) := by rw [← hL]; exact List.mem_map_of_mem (List.mem_of_getElem? hget)
  have htm : e0.t ∈ (Ix.play (acts xs)).map (·.1) := List.mem_map_of_mem hmem
  obtain ⟨p1, c1, hpe, hc1, hp⟩ := id hR.2.1
  cases hpe
  obtain ⟨eb, eo, ecs, ety, efr, esp, rfl, heb, hed⟩ := hp (ne_nil_of hlt)
  have hrec := hR.2.2 e0 (List.mem_of_getElem? hget)
  obtain ⟨vp0, vc0, hev, -, -⟩ := id hrec.1
  refine xix (eo + k * 5) ?_
  refine J.z (q1 (off' := eo + k * 5 + 2) underlying59 sizeOf57) ?_
  refine J.z (yl_loadAgg rfl rfl isAgg57 sizeOf57 (Blk.imm heb) (ent_record hed hget) rfl) ?_
  refine xca (rValues_ok e0.fs e0.v e0.k e0.l (nameI n) hek _ hrec) ?_
  intro v36 I37 H38 hle39 hp40
  have hIJ := hIJ.mono hle39
  have hy := hy.mono hle39
  have hR := hR.mono hle39
  have hRb := hle39 _ _ hRb
  have hra := hra.mono hle39
  have hrb := hrb.mono hle39
  have heb := hle39 _ _ heb
  have hrec := hrec.mono hle39
  obtain ⟨vv, h, hvals, rfl⟩ := hp40; cases h
  obtain ⟨pv, cv, rfl⟩ := RowS.len hvals
  have hvl : (Ix.valsN e0.fs (nameI n)).length ≤ 1000000 := by have h1 := valsN_len (nameI n) e0.fs (fun f hf => (hek.2 f hf).1); have h2 := hek.1; omega
  refine axn 20 ?_
  refine Cj.loop (ι := Nat) (fun y => y ≤ (Ix.valsN e0.fs (nameI n)).length) (fun y => (Ix.valsN e0.fs (nameI n)).length - y) (fun y => [(7, .bool true), (9, ptr rb 0), (10, str (nameI n)), (12, .slice pa ra.length ca), (14, .slice pb rb1.length cb), (16, str (Ix.keyOf (nameI n) s)), (17, i64 (k : Int)), (18, .slice pv (Ix.valsN e0.fs (nameI n)).length cv), (19, .bool (sideN (fun k => !decide (k < (Ix.keyOf (nameI n) s))) ((Ix.valsN e0.fs (nameI n)).take y))), (20, .bool (sideN (fun k => decide (k < (Ix.keyOf (nameI n) s))) ((Ix.valsN e0.fs (nameI n)).take y))), (21, i64 (y : Int))]) (fun y => _) (fun y => []) 0 (Nat.zero_le _) ⟨rfl, rfl, rfl, rfl, rfl, rfl, rfl, rfl, rfl, rfl, rfl, trivial⟩ rfl rfl ?_
  intro j hj
  refine axc (fun hc41 hc41p => ?_) (fun hc41 hc41p => ?_)
  ·
   have hjlt : j < (Ix.valsN e0.fs (nameI n)).length := by omega
   obtain ⟨x, hvget⟩ : ∃ x, (Ix.valsN e0.fs (nameI n))[j]? = some x := ⟨_, List.getElem?_eq_getElem hjlt⟩
   have hxt := valsN_text hek (List.mem_of_getElem? hvget)
   obtain ⟨p2, c2, hpe2, hc2, hp2⟩ := id hvals
   cases hpe2
   obtain ⟨vb, vo, vcs, vty, vfr, vsp, rfl, hvb, hvd⟩ := hp2 (ne_nil_of hjlt)
   refine axn 5 ?_
   refine Cj.drawSel [] [] 12 (by kernel_rfl) ?_
   have hRb_18 := hRb
   have heb_18 := heb
   have hvb_18 := hvb
   refine xix (vo + j * 2) ?_
   refine axn 1 ?_
   refine JA.zt 4 rfl (yl_load rfl rfl isAgg9 (Blk.immC hvb_18) (row_fcell valC_len hvd hvget 0 (by decide))) ?_
   refine xix (vo + j * 2) ?_
   refine JA.zt 8 rfl (q1 (off' := vo + j * 2 + 1) underlying62 sizeOf3) ?_
   refine JA.zt 9 rfl (yl_load rfl rfl isAgg3 (Blk.immC hvb_18) (row_fcell valC_len hvd hvget 1 (by decide))) ?_
   refine xpu (rSort_ok x.1 (x.2 : Int) (by omega) _) ?_
   refine axh (fun hg44 => ?_) (fun hg44 => ?_)
   ·
    refine axn 8 ?_
    refine J.ev 104 (.bool (sideN (fun k => !decide (k < (Ix.keyOf (nameI n) s))) ((Ix.valsN e0.fs (nameI n)).take (j + 1)))) rfl (congrArg Value.bool ((side_y (P := (fun k => !decide (k < (Ix.keyOf (nameI n) s)))) hg44).trans (sideN_next hvget).symm)) ?_
    refine axh (fun hg45 => ?_) (fun hg45 => ?_)
    ·
     refine axn 8 ?_
     refine J.ev 114 (.bool (sideN (fun k => decide (k < (Ix.keyOf (nameI n) s))) ((Ix.valsN e0.fs (nameI n)).take (j + 1)))) rfl (congrArg Value.bool ((side_y (P := (fun k => decide (k < (Ix.keyOf (nameI n) s)))) hg45).trans (sideN_next hvget).symm)) ?_
     refine axn 9 ?_
     refine Ej.round (j + 1) (by omega) (by omega) ⟨rfl, rfl, rfl, rfl, rfl, rfl, rfl, rfl, rfl, rfl, rfl, trivial⟩ rfl rfl
    refine axg (fun hg46 hg46p => ?_) (fun hg46 hg46p => ?_)
    ·
     refine axn 2 ?_
     refine J.zg (yl_lssStr rfl rfl rfl) ?_
     refine axn 2 ?_
     refine J.ev 114 (.bool (sideN (fun k => decide (k < (Ix.keyOf (nameI n) s))) ((Ix.valsN e0.fs (nameI n)).take (j + 1)))) rfl (congrArg Value.bool ((side_p (P := (fun k => decide (k < (Ix.keyOf (nameI n) s)))) hg45 hg46).trans (sideN_next hvget).symm)) ?_
     refine axn 9 ?_
     refine Ej.round (j + 1) (by omega) (by omega) ⟨rfl, rfl, rfl, rfl, rfl, rfl, rfl, rfl, rfl, rfl, rfl, trivial⟩ rfl rfl
    refine axn 5 ?_
    refine J.ev 114 (.bool (sideN (fun k => decide (k < (Ix.keyOf (nameI n) s))) ((Ix.valsN e0.fs (nameI n)).take (j + 1)))) rfl (congrArg Value.bool ((side_n (P := (fun k => decide (k < (Ix.keyOf (nameI n) s)))) hg45 hg46).trans (sideN_next hvget).symm)) ?_
    refine axn 9 ?_
    refine Ej.round (j + 1) (by omega) (by omega) ⟨rfl, rfl, rfl, rfl, rfl, rfl, rfl, rfl, rfl, rfl, rfl, trivial⟩ rfl rfl
   refine axg (fun hg47 hg47p => ?_) (fun hg47 hg47p => ?_)
   ·
    refine axn 2 ?_
    refine J.zg (yl_geqStr rfl rfl rfl) ?_
    refine axn 2 ?_
    refine J.ev 104 (.bool (sideN (fun k => !decide (k < (Ix.keyOf (nameI n) s))) ((Ix.valsN e0.fs (nameI n)).take (j + 1)))) rfl (congrArg Value.bool ((side_p (P := (fun k => !decide (k < (Ix.keyOf (nameI n) s)))) hg44 hg47).trans (sideN_next hvget).symm)) ?_
    refine axh (fun hg48 => ?_) (fun hg48 => ?_)
    ·
     refine axn 8 ?_
     refine J.ev 114 (.bool (sideN (fun k => decide (k < (Ix.keyOf (nameI n) s))) ((Ix.valsN e0.fs (nameI n)).take (j + 1)))) rfl (congrArg Value.bool ((side_y (P := (fun k => decide (k < (Ix.keyOf (nameI n) s)))) hg48).trans (sideN_next hvget).symm)) ?_
     refine axn 9 ?_
     refine Ej.round (j + 1) (by omega) (by omega) ⟨rfl, rfl, rfl, rfl, rfl, rfl, rfl, rfl, rfl, rfl, rfl, trivial⟩ rfl rfl
    refine axn 3 ?_
    refine J.split 109 rfl (fun hg49 => ?_) (fun hg49 => ?_)
    rotate_left
    ·
     have hg49p := bne_f hg49
     refine J.sk 4 109 110 hg49 ?_
     refine J.sk 4 109 111 hg49 ?_
     refine J.sk 4 109 112 hg49 ?_
     refine J.opG 1 106 false _ rfl rfl rfl hg48 (op_yld (yl_pick0 rfl rfl hg49 rfl) rfl rfl ?_)
     refine J.z (yl_pick0 rfl rfl hg48 rfl) ?_
     refine J.eqv 114 rfl (show _ = .bool (sideN (fun k => decide (k < (Ix.keyOf (nameI n) s))) ((Ix.valsN e0.fs (nameI n)).take (j + 1))) from (congrArg Value.bool ((side_n (P := (fun k => decide (k < (Ix.keyOf (nameI n) s)))) hg48 hg49).trans (sideN_next hvget).symm))) ?_
     refine axn 9 ?_
     refine Ej.round (j + 1) (by omega) (by omega) ⟨rfl, rfl, rfl, rfl, rfl, rfl, rfl, rfl, rfl, rfl, rfl, trivial⟩ rfl rfl
    have hg49p := bne_iff_ne.1 hg49
    refine J.opG 4 109 true _ rfl rfl rfl hg49 (op_yld q2 rfl rfl ?_)
    refine J.opG 4 109 true _ rfl rfl rfl hg49 (op_yld q2 rfl rfl ?_)
    refine J.opG 4 109 true _ rfl rfl rfl hg49 (op_yld (yl_lssStr rfl rfl rfl) rfl rfl ?_)
    refine J.opG 1 106 false _ rfl rfl rfl hg48 (op_yld (yl_pick1 rfl rfl hg49 rfl) rfl rfl ?_)
    refine J.z (yl_pick0 rfl rfl hg48 rfl) ?_
    refine J.eqv 114 rfl (show _ = .bool (sideN (fun k => decide (k < (Ix.keyOf (nameI n) s))) ((Ix.valsN e0.fs (nameI n)).take (j + 1))) from (congrArg Value.bool ((side_p (P := (fun k => decide (k < (Ix.keyOf (nameI n) s)))) hg48 hg49).trans (sideN_next hvget).symm))) ?_
    refine J.as ?_
    refine J.nil (Ej.blkNormal (Ej.seq (Cj.region (J.z q2 ?_))))
    refine J.z (yl_add rfl rfl rfl (w64 (by omega))) ?_
    refine J.as ?_
    refine J.nil ?_
    refine Ej.round (j + 1) (by omega) (by omega) ⟨rfl, rfl, rfl, rfl, rfl, rfl, rfl, rfl, rfl, rfl, rfl, trivial⟩ rfl rfl
   refine axn 5 ?_
   refine J.ev 104 (.bool (sideN (fun k => !decide (k < (Ix.keyOf (nameI n) s))) ((Ix.valsN e0.fs (nameI n)).take (j + 1)))) rfl (congrArg Value.bool ((side_n (P := (fun k => !decide (k < (Ix.keyOf (nameI n) s)))) hg44 hg47).trans (sideN_next hvget).symm)) ?_
   refine axh (fun hg50 => ?_) (fun hg50 => ?_)
   ·
    refine axn 8 ?_
    refine J.ev 114 (.bool (sideN (fun k => decide (k < (Ix.keyOf (nameI n) s))) ((Ix.valsN e0.fs (nameI n)).take (j + 1)))) rfl (congrArg Value.bool ((side_y (P := (fun k => decide (k < (Ix.keyOf (nameI n) s)))) hg50).trans (sideN_next hvget).symm)) ?_
    refine axn 9 ?_
    refine Ej.round (j + 1) (by omega) (by omega) ⟨rfl, rfl, rfl, rfl, rfl, rfl, rfl, rfl, rfl, rfl, rfl, trivial⟩ rfl rfl
   refine axn 3 ?_
   refine J.split 109 rfl (fun hg51 => ?_) (fun hg51 => ?_)
   ·
    have hg51p := bne_iff_ne.1 hg51
    refine J.opG 4 109 true _ rfl rfl rfl hg51 (op_yld q2 rfl rfl ?_)
    refine J.opG 4 109 true _ rfl rfl rfl hg51 (op_yld q2 rfl rfl ?_)
    refine J.opG 4 109 true _ rfl rfl rfl hg51 (op_yld (yl_lssStr rfl rfl rfl) rfl rfl ?_)
    refine axn 2 ?_
    refine J.ev 114 (.bool (sideN (fun k => decide (k < (Ix.keyOf (nameI n) s))) ((Ix.valsN e0.fs (nameI n)).take (j + 1)))) rfl (congrArg Value.bool ((side_p (P := (fun k => decide (k < (Ix.keyOf (nameI n) s)))) hg50 hg51).trans (sideN_next hvget).symm)) ?_
    refine axn 9 ?_
    refine Ej.round (j + 1) (by omega) (by omega) ⟨rfl, rfl, rfl, rfl, rfl, rfl, rfl, rfl, rfl, rfl, rfl, trivial⟩ rfl rfl
   have hg51p := bne_f hg51
   refine axn 5 ?_
   refine J.ev 114 (.bool (sideN (fun k => decide (k < (Ix.keyOf (nameI n) s))) ((Ix.valsN e0.fs (nameI n)).take (j + 1)))) rfl (congrArg Value.bool ((side_n (P := (fun k => decide (k < (Ix.keyOf (nameI n) s)))) hg50 hg51).trans (sideN_next hvget).symm)) ?_
   refine axn 9 ?_
   refine Ej.round (j + 1) (by omega) (by omega) ⟨rfl, rfl, rfl, rfl, rfl, rfl, rfl, rfl, rfl, rfl, rfl, trivial⟩ rfl rfl
  have hfull : (Ix.valsN e0.fs (nameI n)).take j = (Ix.valsN e0.fs (nameI n)) := List.take_of_length_le (by omega)
  have hsa : decide (e0.t ∈ ra) = sideN (fun k => !decide (k < (Ix.keyOf (nameI n) s))) (Ix.valsN e0.fs (nameI n)) := (hruna.mem htm).trans ((Ix.sat_ge (Ix.play_srt _) (Ix.play_few _) (nameI n) s hmem).trans (side_N _ _ _))
  have hsb : decide (e0.t ∈ rb1) = sideN (fun k => decide (k < (Ix.keyOf (nameI n) s))) (Ix.valsN e0.fs (nameI n)) := (hrunb.mem htm).trans ((Ix.sat_lt (Ix.play_srt _) (Ix.play_few _) (nameI n) s hmem).trans (side_N _ _ _))
  refine xix (eo + k * 5) ?_
  refine axn 1 ?_
  refine J.z (yl_loadAgg rfl rfl isAgg54 sizeOf54 (Blk.imm heb) (ent_rec hed hget) rfl) ?_
  refine xpu (lcontains_ok ra e0.t _ (Nat.le_trans hruna.len (by omega)) _ hra) ?_
  refine axn 2 ?_
  refine J.ev 126 (.bool false) rfl (congrArg Value.bool (bne_of (by rw [hfull]; exact hsa))) ?_
  refine axn 7 ?_
  refine J.zg (yl_indexAddr (off' := eo + k * 5) rfl rfl rfl underlying48 sizeOf59 (by omega) (by omega) (by simp)) ?_
  refine axn 1 ?_
  refine J.zg (yl_loadAgg rfl rfl isAgg54 sizeOf54 (Blk.imm heb) (ent_rec hed hget) rfl) ?_
  refine xpu (lcontains_ok rb1 e0.t _ (Nat.le_trans hrunb.len (by omega)) _ hrb) ?_
  refine axn 2 ?_
  refine J.ev 139 (.bool false) rfl (congrArg Value.bool (bne_of (by rw [hfull]; exact hsb))) ?_
  refine axn 12 ?_
  refine Ej.round (k + 1, _) ⟨by dsimp only; omega, hIJ⟩ (by dsimp only; omega) ⟨rfl, rfl, rfl, rfl, rfl, rfl, rfl, trivial⟩ rfl rfl
 refine axe ?_
 exact ⟨rfl, rfl⟩
end Go.Proofs.YtekmeaoblpfnpaaGreatDoor
end
section
namespace Go.Proofs.YtekmeaoblpfnpaaGreatDoor
open Go.ChangeShapes Go.WideShapes Go.ChangeAt Go.RowKit Go.Sx Go.Lib Go.ChangeMaps
theorem tab_of_reads {P : Program} {W : World} {name : String} {k : IntKind} {zs : List Int} {g : Nat} {t e : TypeId} {n : Nat}
    (hg : P.globalNamed name = some g) (hty : (P.globals[g]?).map (·.type) = some t) (ht : P.underlying t = some (.array n e)) (he : P.underlying e = some (.int k)) (hce : P.cellsOf e = 1) (hct : P.cellsOf t = n)
    (h : VarReads P W name (tabData k zs)) : TabIs P W name k zs := by
  obtain ⟨g', t', cs, fuel, p, hg', ht', hvar, hd⟩ := h
  obtain rfl := Option.some.inj (hg.symm.trans hg')
  obtain rfl := Option.some.inj (hty.symm.trans ht')
  unfold TabIs
  rw [hvar, ← cells_of_tab ht he hce hct hd]
theorem stab_of {W : World} {L : List (String × DataW Unit)} (hL : laidMet Tryz.prog L W) (hw : ("unicode.White_Space", Rows.laid_unicode_White_Space) ∈ L) (ha : ("strings.asciiSpace", Rows.laid_strings_asciiSpace) ∈ L) : STab (HW W) := by
  have e1 : (Rows.laid_unicode_White_Space : DataW Unit) = whiteData := by kernel_rfl
  have e2 : (Rows.laid_strings_asciiSpace : DataW Unit) = tabData .u8 asciiSpaceTab := by kernel_rfl
  have hT : TabIs Tryz.prog W "strings.asciiSpace" .u8 asciiSpaceTab := tab_of_reads (g := 1) (t := Tryz.lays157_ren.t 119) (e := Tryz.lays157_ren.t 5) (n := 256) (by kernel_rfl) (by kernel_rfl) Tryz.lays157.t119 Tryz.lays157.t5 (by kernel_rfl) (by kernel_rfl) (e2 ▸ laidMet.reads hL ha)
  have hS : WhiteTab 3 W := whiteTab_of_reads (ρ := Tryz.lays157_ren) { Tryz.lays157 with } ⟨by kernel_rfl, by kernel_rfl, by kernel_rfl, by kernel_rfl, by kernel_rfl, by kernel_rfl, by kernel_rfl, by kernel_rfl⟩ (e1 ▸ laidMet.reads hL hw)
  intro w hwW
  have key : ∀ (a : Addr) (v : Value), W.cell? a = some v → w.cell? a = some v := fun a v h => by
    have h0 := h
    unfold World.cell? at h
    cases hb : W.heap[a.block]? with
    | none => rw [hb] at h; cases h
    | some o =>
      have := World.cell?_of_block (w := w) (w' := W) (a := a) (by rw [hwW _ _ hb, hb])
      rw [← this]; exact h0
  refine ⟨?_, ?_⟩
  · unfold TabIs World.var? at hT ⊢
    have hg : Tryz.prog.globalNamed "strings.asciiSpace" = some 1 := by kernel_rfl
    rw [hg] at hT ⊢
    simp only [Option.bind_some] at hT ⊢
    cases hb : W.heap[(1 : Nat)]? with
    | none => rw [hb] at hT; cases hT
    | some o => rw [hwW _ _ hb]; rw [hb] at hT; exact hT
  obtain ⟨T, oT, R, oR, h1, h2, h3, h4, h5⟩ := hS
  exact ⟨T, oT, R, oR, key _ _ h1, key _ _ h2, key _ _ h3, key _ _ h4, fun i hi => key _ _ (h5 i hi)⟩
end Go.Proofs.YtekmeaoblpfnpaaGreatDoor
end
section
namespace Go.Proofs.YtekmeaoblpfnpaaGreatDoor
open Go.ChangeShapes Go.WideShapes Go.ChangeAt Go.RowKit Go.Sx Go.Lib Go.ChangeMaps Go.WideMaps
section
variable {H : Type} {enc : TypeId × Value → H} {W : World} {base : Nat}
theorem Arg.field {fs : Array Field} {cs : List Value} {ms : List Nat} (h : ∀ (i : Nat) f m', fs[i]? = some f → ms[i]? = some m' → Arg enc W f.type ((cs.drop f.offset).take (Tryz.prog.cellsOf f.type)) m') (i : Nat) {f : Field} {m t o k : Nat}
    (hf : fs[i]? = some f) (hm : ms[i]? = some m) (ht : f.type = t) (ho : f.offset = o) (hc : Tryz.prog.cellsOf t = k) : Arg enc W t ((cs.drop o).take k) m := by
  subst ht ho hc
  exact h i f m hf hm
theorem list4 {α : Type} {l : List α} (h : l.length = 4) : ∃ a b c d, l = [a, b, c, d] := by
  match l, h with
  | [a, b, c, d], _ => exact ⟨a, b, c, d, rfl⟩
theorem wf_in64 {n : Int} (h : (Lit.int .i64 n).wf = true) : In64 n := by
  have h1 : (decide (-9223372036854775808 ≤ n) && decide (n ≤ 9223372036854775807)) = true := h
  rw [Bool.and_eq_true, decide_eq_true_eq, decide_eq_true_eq] at h1
  exact h1
theorem Arg.elem {e k : Nat} {cs : List Value} {ms : List Nat} (h : ∀ (i m' : Nat), ms[i]? = some m' → Arg enc W e ((cs.drop (i * 1)).take 1) m') (he : Tryz.prog.underlying e = some (.int .i64)) (hml : ms.length = k) (i : Nat) (hi : i < k) : ∃ z : Int, cs[i]? = some (i64 z) ∧ In64 z := by
  have hm : ms[i]? = some (ms[i]'(by omega)) := List.getElem?_eq_getElem _
  obtain ⟨z, hz, hw, _⟩ := (h i _ hm).int he
  refine ⟨z, ?_, wf_in64 hw⟩
  have := congrArg (fun l => l[0]?) hz
  simpa [List.getElem?_drop] using this
theorem list_four {cs : List Value} (hl : cs.length = 4) (h : ∀ i, i < 4 → ∃ z : Int, cs[i]? = some (i64 z) ∧ In64 z) : ∃ q : Ix.Four, cs = fourC q ∧ FourOk q := by
  match cs, hl with
  | [a, b, c, d], _ =>
    obtain ⟨z0, e0, w0⟩ := h 0 (by decide)
    obtain ⟨z1, e1, w1⟩ := h 1 (by decide)
    obtain ⟨z2, e2, w2⟩ := h 2 (by decide)
    obtain ⟨z3, e3, w3⟩ := h 3 (by decide)
    cases e0; cases e1; cases e2; cases e3
    exact ⟨⟨z0, z1, z2, z3⟩, rfl, ⟨w0, w1, w2, w3⟩⟩
theorem Arg.four {cs : List Value} {m : Nat} (h : Arg enc W 215 cs m) : ∃ q : Ix.Four, cs = fourC q ∧ FourOk q := by
  obtain ⟨hl, ms, hml, _, hf⟩ := h.array Tryz.underlying215
  rw [show Tryz.prog.cellsOf 215 = 4 by kernel_rfl] at hl
  rw [show Tryz.prog.cellsOf 3 = 1 by kernel_rfl] at hf
  exact list_four hl fun i hi => Arg.elem hf Tryz.underlying3 hml i hi
theorem Arg.act {cs : List Value} {m : Nat} (h : Arg enc W 93 cs m) : ∃ x : Act, cs = actC x ∧ RowS fourC (HW W) x.a.fs x.v ∧ ∀ q ∈ x.a.fs, FourOk q := by
  obtain ⟨hl, ms, hml, hms, hf⟩ := h.struct Tryz.underlying93
  rw [show Tryz.prog.cellsOf 93 = 4 by kernel_rfl] at hl
  obtain ⟨a, b, c, d, rfl⟩ := list4 hl
  obtain ⟨m0, m1, m2, m3, rfl⟩ := list4 hml
  have cI : Tryz.prog.cellsOf 3 = 1 := by kernel_rfl
  obtain ⟨b0, h0⟩ := (Arg.field hf (o := 0) 0 rfl rfl rfl rfl (show Tryz.prog.cellsOf 4 = 1 by kernel_rfl)).bool Tryz.underlying4
  obtain ⟨z1, h1, _, _⟩ := (Arg.field hf (o := 1) 1 rfl rfl rfl rfl cI).int Tryz.underlying3
  obtain ⟨z2, h2, _, _⟩ := (Arg.field hf (o := 2) 2 rfl rfl rfl rfl cI).int Tryz.underlying3
  obtain ⟨l, v, h3, hr, _, _, hq⟩ := (Arg.field hf (o := 3) 3 rfl rfl rfl rfl (show Tryz.prog.cellsOf 91 = 1 by kernel_rfl)).row (f := fourC) (size := fun _ => 0) Tryz.underlying91 (show Tryz.prog.cellsOf 215 = 4 by kernel_rfl) (by decide) FourOk fun cs m' _ h => by
    obtain ⟨q, h1, h2⟩ := h.four
    exact ⟨q, h1, Nat.zero_le _, h2⟩
  simp only [List.drop_zero, List.drop_succ_cons, List.take_succ_cons, List.take_zero, List.cons.injEq, and_true] at h0 h1 h2 h3
  subst h0 h1 h2 h3
  exact ⟨⟨⟨b0, z1, z2, l⟩, d⟩, rfl, hr, hq⟩
theorem arg_acts {v : Value} {d : DataW H} {p : List MemPlace} (hval : Value.okWide Tryz.prog W .any base 22 v) (h : DataW.Trod enc Tryz.prog W 0 (fun _ => true) true 22 v d p) (hlt : ∀ x ∈ p, x.block < W.heap.size) :
    ∃ xs : List Act, ActsS (HW W) xs v ∧ ActsOk xs ∧ Again enc W 22 v d p := by
  have hag := again (by kernel_rfl) (of_decide_eq_true (by kernel_rfl)) h hlt
  obtain ⟨a, len, cap, rfl⟩ := okWide_slice Tryz.underlying22 hval
  obtain ⟨xs, v', h1, h2, _, _, h4⟩ := (Arg.of h).row (f := actC) (size := fun _ => 0) Tryz.underlying22 (show Tryz.prog.cellsOf 93 = 4 by kernel_rfl) (by decide) (fun x => RowS fourC (HW W) x.a.fs x.v ∧ ∀ q ∈ x.a.fs, FourOk q) fun cs m' _ h => by
    obtain ⟨x, h1, h2, h3⟩ := h.act
    exact ⟨x, h1, Nat.zero_le _, h2, h3⟩
  obtain rfl : Value.slice a len cap = v' := by simpa [Value.cells] using h1
  exact ⟨xs, ⟨h2, fun x hx => (h4 x hx).1⟩, fun x hx => (h4 x hx).2, hag⟩
end
end Go.Proofs.YtekmeaoblpfnpaaGreatDoor
end
