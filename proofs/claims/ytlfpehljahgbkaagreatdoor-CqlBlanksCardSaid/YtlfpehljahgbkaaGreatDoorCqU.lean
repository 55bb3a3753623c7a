/-
  Contracts of cql's write and Print. Own text, printed by a program. Conditions: none.
-/
import Derived.Test.YtlfpehljahgbkaaGreatDoorCqT
import Derived.Test.YtlfpehljahgbkaaGreatDoorCqR
import Derived.Test.YtlfpehljahgbkaaGreatDoorCqN
namespace Cq
theorem write_ne {q : Qn} (h : form q = true) : write q ≠ [] := by
  rcases form_tree h with hk | ⟨hk, _, _, a, b, htw, _, _⟩
  · rw [write_term hk]; simp
  · rw [write_two hk htw]; simp
end Cq
namespace Go.Proofs.YtlfpehljahgbkaaGreatDoor
open Go Go.Sx
theorem _root_.Go.Sx.JA.perm {cx : Cx} {Q : Qt} {e : Env} {I I1 : Heap} {H A : HL} {Z : CL} {z : Nat} {l : List Oper} {H' : HL} {fuel : Nat} {listed : Array Bool} (h : H'.Perm H) (k : JA cx Q l I1 A Z z fuel listed e I H') : JA cx Q l I1 A Z z fuel listed e I H := fun a w ha h1 => k a w ha (h1.perm h)
def WSpec (q : Cq.Qn) : Prop := ∀ (p : Option Addr) (c : Nat) (b : Nat) (l : List UInt8) (pp : Bool) (g : Gs) (I : Heap), PS I q.ps p → Cq.form q = true → gOk 0 1 l.length (bcs l) g → l.length + (Cq.write q).length ≤ 1000000000 →
  Ctr Tryz.prog 30 [ptr b 0, .agg (qCells q p c).toArray] I (BldH b l pp g) (fun e _I' H' => e = .returned (.tuple #[]) ∧ ∃ g', gOk 0 1 (l ++ Cq.write q).length (bcs (l ++ Cq.write q)) g' ∧ H' = BldH b (l ++ Cq.write q) true g')
theorem oper_at {k : Int} (h2 : 2 ≤ k) (h4 : k ≤ 4) (sp : List Value) : (opers.map str ++ sp)[(k - 2).toNat]? = some (str (Cq.word k)) := by
  rw [List.getElem?_append_left (by simp [opers]; omega)]
  exact word_at h2 h4
set_option maxRecDepth 20000 in
theorem write_step (q : Cq.Qn) (ih : ∀ q', Cq.Qn.size q' < q.size → WSpec q') : WSpec q := by
  intro p c b l pp g I hps hform hg hlen
  refine Ctr.of_body Tryz.func30 rfl (by decide) (Nat.le_of_ble_eq_true rfl) ?_
  intro w0 hw0
  refine Cj.seq ?_
  refine Cj.region ?_
  refine J.op rfl (op_box rfl rfl rfl rfl rfl ?_)
  intro b1 hb1
  refine J.nil ?_
  refine Ej.seq ?_
  refine Cj.seq ?_
  refine Cj.seq ?_
  refine Cj.region ?_
  refine J.y (yl_fieldAddr (off' := 0) rfl rfl Tryz.underlying28 rfl Tryz.sizeOf3 rfl) rfl rfl rfl ?_
  refine J.y (yl_load rfl rfl Tryz.isAgg3 (Blk.at 0 rfl) rfl) rfl rfl rfl ?_
  refine J.y (yl_eql rfl rfl rfl) rfl rfl rfl ?_
  refine J.nil ?_
  refine Ej.seq ?_
  refine Cj.cond rfl (fun hc2 => ?_) (fun hc2 => ?_)
  ·
    have hc2p := eq_of_beq hc2
    have hk : q.k = 1 := by omega
    have hw := Cq.write_term hk
    have hwl := congrArg List.length hw
    have htl := (Cq.escape_len q.t).1
    have htx : (Cq.text q.t).length = (Cq.escape q.t).length + 2 := by simp [Cq.text]
    simp at hwl
    refine Cj.seq ?_
    refine Cj.region ?_
    refine J.y (yl_move rfl rfl) rfl rfl rfl ?_
    refine J.y (yl_fieldAddr (off' := 1) rfl rfl Tryz.underlying28 rfl Tryz.sizeOf9 rfl) rfl rfl rfl ?_
    refine J.y (yl_load rfl rfl Tryz.isAgg9 (Blk.at 0 rfl) rfl) rfl rfl rfl ?_
    refine J.y (yl_cat rfl rfl rfl (by first | omega | (simp only [List.length_append]; omega) | (simp; omega))) rfl rfl rfl ?_
    refine J.y (yl_fieldAddr (off' := 2) rfl rfl Tryz.underlying28 rfl Tryz.sizeOf9 rfl) rfl rfl rfl ?_
    refine J.y (yl_load rfl rfl Tryz.isAgg9 (Blk.at 0 rfl) rfl) rfl rfl rfl ?_
    refine J.y (yl_cat rfl rfl rfl (by first | omega | (simp only [List.length_append]; omega) | (simp; omega))) rfl rfl rfl ?_
    refine J.y (yl_cat rfl rfl rfl (by first | omega | (simp only [List.length_append]; omega) | (simp; omega))) rfl rfl rfl ?_
    refine J.eqv 14 rfl (show _ = str (q.i ++ [32] ++ q.r ++ [32, 34]) from (by simp [str])) ?_
    refine J.pull (Pull.s Pull.z) ?_
    refine J.perm (perm_in (R := [_])) ?_
    refine J.op rfl (op_call (H1 := BldH _ _ _ _) rfl rfl rfl rfl rfl (Ctr.still (WriteString_ok b l (q.i ++ [32] ++ q.r ++ [32, 34]) pp _ hg (by first | omega | (simp; omega) | simp) (by first | omega | (simp; omega) | simp) _)) ?_ (fun _ _ _ _ h => by cases h.2.1) (fun _ _ h => by cases h.2.1))
    intro v3 I4 H5 hle6 hp7
    obtain ⟨rfl, h, g8, hg8, rfl⟩ := hp7; cases h
    refine J.perm (perm_out (R := [_])) ?_
    refine J.nil ?_
    refine Ej.seq ?_
    refine Cj.seq ?_
    refine Cj.drawSel [1] [] 6 (by kernel_rfl) ?_
    refine JA.take 0 (by kernel_rfl) rfl (by kernel_rfl) (by kernel_rfl) (by kernel_rfl) (fun _ _ _ h => h) rfl rfl rfl (HSub.c 1 rfl HSub.n) CSub.n (Le.refl _) (yl_move rfl rfl) ?_
    refine JA.take 3 (by kernel_rfl) rfl (by kernel_rfl) (by kernel_rfl) (by kernel_rfl) (fun _ _ _ h => h) rfl rfl rfl (HSub.c 1 rfl HSub.n) CSub.n (Le.refl _) (yl_fieldAddr (off' := 3) rfl rfl Tryz.underlying28 rfl Tryz.sizeOf9 rfl) ?_
    refine JA.take 4 (by kernel_rfl) rfl (by kernel_rfl) (by kernel_rfl) (by kernel_rfl) (fun _ _ _ h => h) rfl rfl rfl (HSub.c 1 rfl HSub.n) CSub.n (Le.refl _) (yl_load rfl rfl Tryz.isAgg9 (Blk.atC 0 rfl) rfl) ?_
    refine JA.step 1 (by kernel_rfl) rfl rfl (op_buildSlice rfl rfl rfl Tryz.underlying44 Tryz.sizeOf9 Tryz.zeroValue9 rfl rfl rfl rfl (LCat.one rfl (LCat.one rfl (LCat.one rfl (LCat.one rfl LCat.none)))) ?_)
    intro b9 hb9
    refine ⟨⟨(Le.refl _), (HSub.c 2 rfl HSub.n), CSub.n⟩, ?_⟩
    refine JA.pull Pull.z ?_
    refine JA.step 2 (by kernel_rfl) rfl rfl (op_call (H1 := [_]) rfl rfl rfl rfl rfl (NewReplacer_ok b9 _ _) ?_ (fun _ _ _ _ h => by obtain ⟨_, _, h, _⟩ := h; cases h) (fun _ _ h => by obtain ⟨_, _, h, _⟩ := h; cases h))
    intro v10 I11 H12 hle13 hp14
    have hps := hps.mono hle13
    obtain ⟨rb, osl, h, rfl, ho⟩ := hp14; cases h
    refine ⟨⟨(Le.trans (Le.refl _) hle13), (HSub.c 2 rfl HSub.n), CSub.n⟩, ?_⟩
    refine JA.pull Pull.z ?_
    refine JA.step 5 (by kernel_rfl) rfl rfl (op_call (H1 := [_]) rfl rfl rfl rfl rfl (Replace_ok rb osl q.t (by omega) _ ho) ?_ (fun _ _ _ _ h => by cases h.1) (fun _ _ h => by cases h.1))
    intro v15 I16 H17 hle18 hp19
    have hps := hps.mono hle18
    have ho := ho.mono hle18
    obtain ⟨h, rfl⟩ := hp19; cases h
    refine ⟨⟨(Le.trans (Le.trans (Le.refl _) hle13) hle18), (HSub.c 1 rfl HSub.n), CSub.n⟩, ?_⟩
    refine JA.perm (perm_in (R := [_])) ?_
    refine JA.last 6 (by kernel_rfl) rfl rfl rfl (op_call (H1 := BldH _ _ _ _) rfl rfl rfl rfl rfl (Ctr.still (WriteString_ok b (l ++ (q.i ++ [32] ++ q.r ++ [32, 34])) (Cq.escape q.t) true _ hg8 (by first | omega | (simp; omega) | simp) (by first | omega | (simp; omega) | simp) _)) ?_ (fun _ _ _ _ h => by cases h.2.1) (fun _ _ h => by cases h.2.1))
    intro v20 I21 H22 hle23 hp24
    obtain ⟨rfl, h, g25, hg25, rfl⟩ := hp24; cases h
    refine JA.perm (perm_out (R := [_])) ?_
    refine JA.done (by kernel_rfl) ?_
    refine Ej.seq ?_
    refine Cj.seq ?_
    refine Cj.region ?_
    refine J.y (yl_move rfl rfl) rfl rfl rfl ?_
    refine J.perm (perm_in (R := [_])) ?_
    refine J.op rfl (op_call (H1 := BldH _ _ _ _) rfl rfl rfl rfl rfl (Ctr.still (WriteString_ok b ((l ++ (q.i ++ [32] ++ q.r ++ [32, 34])) ++ (Cq.escape q.t)) [34] true _ hg25 (by first | omega | (simp; omega) | simp) (by first | omega | (simp; omega) | simp) _)) ?_ (fun _ _ _ _ h => by cases h.2.1) (fun _ _ h => by cases h.2.1))
    intro v26 I27 H28 hle29 hp30
    obtain ⟨rfl, h, g31, hg31, rfl⟩ := hp30; cases h
    refine J.perm (perm_out (R := [_])) ?_
    refine J.nil ?_
    refine Ej.seq ?_
    refine Cj.ret ?_
    refine Ej.seqRet ?_
    refine Ej.keep (Keeps.k (Keeps.d Keeps.r)) ?_
    refine Ej.ret0 rfl rfl ?_
    have hfin : l ++ Cq.write q = (((l ++ (q.i ++ [32] ++ q.r ++ [32, 34])) ++ (Cq.escape q.t)) ++ [34]) := by rw [hw]; simp [Cq.text]
    rw [hfin]
    exact ⟨rfl, _, hg31, rfl⟩
  ·
    have hc2p := ne_of_beq_false hc2
    have hk : q.k ≠ 1 := by omega
    obtain ⟨_, hk2, hk4, qa, qb, htw, hfa, hfb⟩ := (Cq.form_tree hform).resolve_left hk
    have hw := Cq.write_two hk htw
    have hwl := congrArg List.length hw
    have hpl := Cq.paren_len qb.k (Cq.write qb)
    simp at hwl
    have hln := htw.len
    obtain ⟨bl, off, cs', T, fr, pa, ca, pb, cb, rfl, hbl, hca, hcb, hkb, hpa, hpb⟩ := hps.two_at htw
    refine Cj.skip ?_
    refine Ej.seq ?_
    refine Cj.seq ?_
    refine Cj.region ?_
    refine J.y (yl_move rfl rfl) rfl rfl rfl ?_
    refine J.y (yl_fieldAddr (off' := 4) rfl rfl Tryz.underlying28 rfl Tryz.sizeOf26 rfl) rfl rfl rfl ?_
    refine J.y (yl_load rfl rfl Tryz.isAgg26 (Blk.at 0 rfl) rfl) rfl rfl rfl ?_
    refine J.y (yl_indexAddr (off' := off) rfl rfl rfl Tryz.underlying26 Tryz.sizeOf28 (by omega) (by omega) (by simp)) rfl rfl rfl ?_
    refine J.y (yl_loadAgg rfl rfl Tryz.isAgg28 Tryz.sizeOf28 (Blk.imm hbl) hca rfl) rfl rfl rfl ?_
    refine J.pull (Pull.s Pull.z) ?_
    refine J.perm (perm_in (R := [_])) ?_
    refine J.op rfl (op_call (H1 := BldH _ _ _ _) rfl rfl rfl rfl rfl (Ctr.still (ih qa htw.size.1 pa ca b l pp _ _ hpa hfa hg (by first | omega | (simp; omega) | simp))) ?_ (fun _ _ _ _ h => by cases h.2.1) (fun _ _ h => by cases h.2.1))
    intro v32 I33 H34 hle35 hp36
    obtain ⟨rfl, h, g37, hg37, rfl⟩ := hp36; cases h
    refine J.perm (perm_out (R := [_])) ?_
    refine J.nil ?_
    refine Ej.seq ?_
    refine Cj.seq ?_
    refine Cj.drawSel [1] [] 9 (by kernel_rfl) ?_
    have hbl_6 := hbl
    refine JA.take 0 (by kernel_rfl) rfl (by kernel_rfl) (by kernel_rfl) (by kernel_rfl) (fun _ _ _ h => h) rfl rfl rfl (HSub.c 1 rfl HSub.n) CSub.n (Le.refl _) (yl_move rfl rfl) ?_
    refine JA.take 2 (by kernel_rfl) rfl (by kernel_rfl) (by kernel_rfl) (by kernel_rfl) (fun _ _ _ h => h) rfl rfl rfl (HSub.c 1 rfl HSub.n) CSub.n (Le.refl _) (yl_fieldAddr (off' := 0) rfl rfl Tryz.underlying28 rfl Tryz.sizeOf3 rfl) ?_
    refine JA.take 3 (by kernel_rfl) rfl (by kernel_rfl) (by kernel_rfl) (by kernel_rfl) (fun _ _ _ h => h) rfl rfl rfl (HSub.c 1 rfl HSub.n) CSub.n (Le.refl _) (yl_load rfl rfl Tryz.isAgg3 (Blk.atC 0 rfl) rfl) ?_
    refine JA.take 4 (by kernel_rfl) rfl (by kernel_rfl) (by kernel_rfl) (by kernel_rfl) (fun _ _ _ h => h) rfl rfl rfl (HSub.c 1 rfl HSub.n) CSub.n (Le.refl _) (yl_sub rfl rfl rfl (w64 (by omega))) ?_
    refine JA.step 1 (by kernel_rfl) rfl rfl (op_call (H1 := []) rfl rfl rfl rfl rfl (coperators_ok _) ?_ (fun _ _ _ _ h => by obtain ⟨⟨_, h, _⟩, _⟩ := h; cases h) (fun _ _ h => by obtain ⟨⟨_, h, _⟩, _⟩ := h; cases h))
    intro v38 I39 H40 hle41 hp42
    have hbl := hle41 _ _ hbl
    have hpa := hpa.mono hle41
    have hpb := hpb.mono hle41
    obtain ⟨⟨vx, h, ob, oc, osp, rfl, hob⟩, rfl⟩ := hp42; cases h
    rw [show opers.length = 3 from rfl]
    refine ⟨⟨(Le.trans (Le.refl _) hle41), (HSub.c 1 rfl HSub.n), CSub.n⟩, ?_⟩
    refine JA.take 5 (by kernel_rfl) rfl (by kernel_rfl) (by kernel_rfl) (by kernel_rfl) (fun _ _ _ h => h) rfl rfl rfl (HSub.c 1 rfl HSub.n) CSub.n (Le.trans (Le.refl _) hle41) (yl_indexAddr (off' := (q.k - 2).toNat) rfl rfl rfl Tryz.underlying44 Tryz.sizeOf9 (by omega) (by omega) (by simp)) ?_
    refine JA.step 6 (by kernel_rfl) rfl rfl (op_yld (yl_load rfl rfl Tryz.isAgg9 (Blk.imm hob) (oper_at hk2 hk4 _)) rfl rfl ?_)
    refine ⟨⟨(Le.trans (Le.refl _) hle41), (HSub.c 1 rfl HSub.n), CSub.n⟩, ?_⟩
    refine JA.take 7 (by kernel_rfl) rfl (by kernel_rfl) (by kernel_rfl) (by kernel_rfl) (fun _ _ _ h => h) rfl rfl rfl (HSub.c 1 rfl HSub.n) CSub.n (Le.trans (Le.refl _) hle41) (yl_cat rfl rfl rfl (by first | omega | (simp only [List.length_append]; omega) | (simp; omega))) ?_
    refine JA.take 8 (by kernel_rfl) rfl (by kernel_rfl) (by kernel_rfl) (by kernel_rfl) (fun _ _ _ h => h) rfl rfl rfl (HSub.c 1 rfl HSub.n) CSub.n (Le.trans (Le.refl _) hle41) (yl_cat rfl rfl rfl (by first | omega | (simp only [List.length_append]; omega) | (simp; omega))) ?_
    refine JA.perm (perm_in (R := [_])) ?_
    refine JA.last 9 (by kernel_rfl) rfl rfl rfl (op_call (H1 := BldH _ _ _ _) rfl rfl rfl rfl rfl (Ctr.still (WriteString_ok b (l ++ Cq.write qa) ([32] ++ Cq.word q.k ++ [32]) true _ hg37 (by first | omega | (simp; omega) | simp) (by first | omega | (simp; omega) | simp) _)) ?_ (fun _ _ _ _ h => by cases h.2.1) (fun _ _ h => by cases h.2.1))
    intro v43 I44 H45 hle46 hp47
    obtain ⟨rfl, h, g48, hg48, rfl⟩ := hp47; cases h
    refine JA.perm (perm_out (R := [_])) ?_
    refine JA.done (by kernel_rfl) ?_
    refine Ej.seq ?_
    refine Cj.seq ?_
    refine Cj.seq ?_
    refine Cj.region ?_
    refine J.y (yl_fieldAddr (off' := 4) rfl rfl Tryz.underlying28 rfl Tryz.sizeOf26 rfl) rfl rfl rfl ?_
    refine J.y (yl_load rfl rfl Tryz.isAgg26 (Blk.at 1 rfl) rfl) rfl rfl rfl ?_
    refine J.y (yl_indexAddr (off' := off + 5) rfl rfl rfl Tryz.underlying26 Tryz.sizeOf28 (by omega) (by omega) (by simp)) rfl rfl rfl ?_
    refine J.y (yl_fieldAddr rfl rfl Tryz.underlying28 rfl Tryz.sizeOf3 rfl) rfl rfl rfl ?_
    refine J.y (yl_load rfl rfl Tryz.isAgg3 (Blk.imm hbl) hkb) rfl rfl rfl ?_
    refine J.y (yl_eql rfl rfl rfl) rfl rfl rfl ?_
    refine J.nil ?_
    refine Ej.seq ?_
    refine Cj.cond rfl (fun hc49 => ?_) (fun hc49 => ?_)
    ·
      have hc49p := eq_of_beq hc49
      have hku : Cq.paren qb.k (Cq.write qb) = Cq.write qb := by have h := hc49; simp at h; simp [Cq.paren, h]
      refine Cj.seq ?_
      refine Cj.region ?_
      refine J.y (yl_move rfl rfl) rfl rfl rfl ?_
      refine J.y (yl_fieldAddr (off' := 4) rfl rfl Tryz.underlying28 rfl Tryz.sizeOf26 rfl) rfl rfl rfl ?_
      refine J.y (yl_load rfl rfl Tryz.isAgg26 (Blk.at 1 rfl) rfl) rfl rfl rfl ?_
      refine J.y (yl_indexAddr (off' := off + 5) rfl rfl rfl Tryz.underlying26 Tryz.sizeOf28 (by omega) (by omega) (by simp)) rfl rfl rfl ?_
      refine J.y (yl_loadAgg rfl rfl Tryz.isAgg28 Tryz.sizeOf28 (Blk.imm hbl) hcb rfl) rfl rfl rfl ?_
      refine J.perm (perm_in (R := [_])) ?_
      refine J.op rfl (op_call (H1 := BldH _ _ _ _) rfl rfl rfl rfl rfl (Ctr.still (ih qb htw.size.2 pb cb b ((l ++ Cq.write qa) ++ ([32] ++ Cq.word q.k ++ [32])) true _ _ hpb hfb hg48 (by first | omega | (simp; omega) | simp))) ?_ (fun _ _ _ _ h => by cases h.2.1) (fun _ _ h => by cases h.2.1))
      intro v50 I51 H52 hle53 hp54
      obtain ⟨rfl, h, g55, hg55, rfl⟩ := hp54; cases h
      refine J.perm (perm_out (R := [_])) ?_
      refine J.nil ?_
      refine Ej.seq ?_
      refine Cj.ret ?_
      refine Ej.seqRet ?_
      refine Ej.keep (Keeps.k (Keeps.d Keeps.r)) ?_
      refine Ej.ret0 rfl rfl ?_
      have hfin : l ++ Cq.write q = (((l ++ Cq.write qa) ++ ([32] ++ Cq.word q.k ++ [32])) ++ Cq.write qb) := by rw [hw, hku]; simp []
      rw [hfin]
      exact ⟨rfl, _, hg55, rfl⟩
    ·
      have hc49p := ne_of_beq_false hc49
      have hku : Cq.paren qb.k (Cq.write qb) = 40 :: Cq.write qb ++ [41] := by have h := hc49; simp at h; simp [Cq.paren, h]
      have hpl2 := congrArg List.length hku
      simp at hpl2
      refine Cj.skip ?_
      refine Ej.seq ?_
      refine Cj.seq ?_
      refine Cj.region ?_
      refine J.y (yl_move rfl rfl) rfl rfl rfl ?_
      refine J.perm (perm_in (R := [_])) ?_
      refine J.op rfl (op_call (H1 := BldH _ _ _ _) rfl rfl rfl rfl rfl (Ctr.still (WriteString_ok b ((l ++ Cq.write qa) ++ ([32] ++ Cq.word q.k ++ [32])) [40] true _ hg48 (by first | omega | (simp; omega) | simp) (by first | omega | (simp; omega) | simp) _)) ?_ (fun _ _ _ _ h => by cases h.2.1) (fun _ _ h => by cases h.2.1))
      intro v56 I57 H58 hle59 hp60
      obtain ⟨rfl, h, g61, hg61, rfl⟩ := hp60; cases h
      refine J.perm (perm_out (R := [_])) ?_
      refine J.nil ?_
      refine Ej.seq ?_
      refine Cj.seq ?_
      refine Cj.region ?_
      refine J.y (yl_move rfl rfl) rfl rfl rfl ?_
      refine J.y (yl_fieldAddr (off' := 4) rfl rfl Tryz.underlying28 rfl Tryz.sizeOf26 rfl) rfl rfl rfl ?_
      refine J.y (yl_load rfl rfl Tryz.isAgg26 (Blk.at 1 rfl) rfl) rfl rfl rfl ?_
      refine J.y (yl_indexAddr (off' := off + 5) rfl rfl rfl Tryz.underlying26 Tryz.sizeOf28 (by omega) (by omega) (by simp)) rfl rfl rfl ?_
      refine J.y (yl_loadAgg rfl rfl Tryz.isAgg28 Tryz.sizeOf28 (Blk.imm hbl) hcb rfl) rfl rfl rfl ?_
      refine J.perm (perm_in (R := [_])) ?_
      refine J.op rfl (op_call (H1 := BldH _ _ _ _) rfl rfl rfl rfl rfl (Ctr.still (ih qb htw.size.2 pb cb b (((l ++ Cq.write qa) ++ ([32] ++ Cq.word q.k ++ [32])) ++ [40]) true _ _ hpb hfb hg61 (by first | omega | (simp; omega) | simp))) ?_ (fun _ _ _ _ h => by cases h.2.1) (fun _ _ h => by cases h.2.1))
      intro v62 I63 H64 hle65 hp66
      obtain ⟨rfl, h, g67, hg67, rfl⟩ := hp66; cases h
      refine J.perm (perm_out (R := [_])) ?_
      refine J.nil ?_
      refine Ej.seq ?_
      refine Cj.region ?_
      refine J.y (yl_move rfl rfl) rfl rfl rfl ?_
      refine J.perm (perm_in (R := [_])) ?_
      refine J.op rfl (op_call (H1 := BldH _ _ _ _) rfl rfl rfl rfl rfl (Ctr.still (WriteString_ok b ((((l ++ Cq.write qa) ++ ([32] ++ Cq.word q.k ++ [32])) ++ [40]) ++ Cq.write qb) [41] true _ hg67 (by first | omega | (simp; omega) | simp) (by first | omega | (simp; omega) | simp) _)) ?_ (fun _ _ _ _ h => by cases h.2.1) (fun _ _ h => by cases h.2.1))
      intro v68 I69 H70 hle71 hp72
      obtain ⟨rfl, h, g73, hg73, rfl⟩ := hp72; cases h
      refine J.perm (perm_out (R := [_])) ?_
      refine J.nil ?_
      refine Ej.keep (Keeps.k (Keeps.d Keeps.r)) ?_
      refine Ej.end0 rfl rfl ?_
      have hfin : l ++ Cq.write q = (((((l ++ Cq.write qa) ++ ([32] ++ Cq.word q.k ++ [32])) ++ [40]) ++ Cq.write qb) ++ [41]) := by rw [hw, hku]; simp []
      rw [hfin]
      exact ⟨rfl, _, hg73, rfl⟩

theorem cwrite_ok (q : Cq.Qn) : WSpec q := by
  suffices ∀ n (q : Cq.Qn), q.size < n → WSpec q from this _ q (Nat.lt_succ_self _)
  intro n
  induction n with
  | zero => intro q h; omega
  | succ n ih => intro q h; exact write_step q fun q' h' => ih q' (by omega)

set_option maxRecDepth 20000 in
theorem cPrint_ok (q : Cq.Qn) (p : Option Addr) (c : Nat) (hsz : q.size ≤ 1000000000) (hwd : q.wide ≤ 1000000000) (hlen : Cq.form q = true → (Cq.write q).length ≤ 1000000000) (I : Heap) (hps : PS I q.ps p) : Pure Tryz.prog 17 [.agg (qCells q p c).toArray] I (str (Cq.print q)) := by
  refine Ctr.toPure ?_
  refine Ctr.of_body Tryz.func17 rfl (by decide) (Nat.le_of_ble_eq_true rfl) ?_
  intro w0 hw0
  refine Cj.seq ?_
  refine Cj.region ?_
  refine J.op rfl (op_box rfl rfl rfl rfl rfl ?_)
  intro b1 hb1
  refine J.y (yl_assign rfl rfl) rfl rfl rfl ?_
  refine J.nil ?_
  refine Ej.seq ?_
  refine Cj.seq ?_
  refine Cj.seq ?_
  refine Cj.region ?_
  refine J.y (yl_loadAgg rfl rfl Tryz.isAgg28 Tryz.sizeOf28 (Blk.at 0 rfl) rfl rfl) rfl rfl rfl ?_
  refine J.op rfl (op_pure rfl rfl rfl rfl rfl (cRight_ok q p c hsz hwd _ hps) ?_)
  refine J.y (yl_not rfl rfl) rfl rfl rfl ?_
  refine J.nil ?_
  refine Ej.seq ?_
  refine Cj.cond rfl (fun hc2 => ?_) (fun hc2 => ?_)
  ·
    have hr : Cq.right q = false := by have h := hc2; simpa using h
    refine Cj.seq ?_
    refine Cj.region ?_
    refine J.y (yl_assign rfl rfl) rfl rfl rfl ?_
    refine J.nil ?_
    refine Ej.seq ?_
    refine Cj.ret ?_
    refine Ej.seqRet ?_
    refine Ej.bare ?_
    refine Ej.ret1 rfl rfl rfl ?_
    refine ⟨?_, rfl⟩
    simp [Cq.print, hr] <;> rfl
  ·
    have hr : Cq.right q = true := by have h := hc2; simpa using h
    have hform : Cq.form q = true := by unfold Cq.right at hr; rw [Bool.and_eq_true] at hr; exact hr.1
    refine Cj.skip ?_
    refine Ej.seq ?_
    refine Cj.seq ?_
    refine Cj.region ?_
    refine J.op rfl (op_alloc rfl rfl rfl Tryz.zeroValue65 rfl ?_)
    intro b3 hb3
    refine J.nil ?_
    refine Ej.seq ?_
    refine Cj.seq ?_
    refine Cj.region ?_
    refine J.y (yl_loadAgg rfl rfl Tryz.isAgg28 Tryz.sizeOf28 (Blk.at 1 rfl) rfl rfl) rfl rfl rfl ?_
    refine J.perm (perm_in (R := [_]) (G := [])) ?_
    refine J.op rfl (op_call (H1 := BldH _ [] false none) rfl rfl rfl rfl rfl (Ctr.still (cwrite_ok q p c b3 [] false none _ hps hform ⟨rfl, rfl⟩ (by have := hlen hform; simp; omega))) ?_ (fun _ _ _ _ h => by cases h.2.1) (fun _ _ h => by cases h.2.1))
    intro v4 I5 H6 hle7 hp8
    obtain ⟨rfl, h, g9, hg9, rfl⟩ := hp8; cases h
    refine J.perm (perm_out (R := [_])) ?_
    refine J.nil ?_
    refine Ej.seq ?_
    refine Cj.seq ?_
    refine Cj.region ?_
    refine J.perm (perm_in (R := [_])) ?_
    refine J.op rfl (op_call (H1 := BldH _ _ _ _) rfl rfl rfl rfl rfl (Ctr.still (String_ok b3 ([] ++ Cq.write q) true _ hg9 (fun h => absurd h (by simpa using Cq.write_ne hform)) (by have := hlen hform; simp; omega) _)) ?_ (fun _ _ _ _ h => by cases h.2.1) (fun _ _ h => by cases h.2.1))
    intro v10 I11 H12 hle13 hp14
    obtain ⟨rfl, h, rfl⟩ := hp14; cases h
    refine J.y (yl_assign rfl rfl) rfl rfl rfl ?_
    refine J.nil ?_
    refine Ej.seq ?_
    refine Cj.ret ?_
    refine Ej.bare ?_
    refine Ej.ret1 rfl rfl rfl ?_
    refine ⟨?_, rfl⟩
    simp [Cq.print, hr] <;> rfl

end Go.Proofs.YtlfpehljahgbkaaGreatDoor
