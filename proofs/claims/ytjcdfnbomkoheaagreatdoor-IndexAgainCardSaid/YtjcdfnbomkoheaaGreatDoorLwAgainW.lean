/-
  The law IndexAgain. Own text, printed by a program. Conditions: none.
-/
import Derived.Test.YtjcdfnbomkoheaaGreatDoorPW13
import Derived.Test.YtjcdfnbomkoheaaGreatDoorPW12
import Derived.Test.YtjcdfnbomkoheaaGreatDoorPW10
namespace Go.Proofs.YtjcdfnbomkoheaaGreatDoor
open Go Go.Sx
theorem swap_perm {α : Type} {l : List α} {j k : Nat} {a b : α} (hk : l[k]? = some a) (hj : l[j]? = some b) : ((l.set k b).set j a).Perm l := by
  obtain ⟨h1, h2⟩ := List.getElem?_eq_some_iff.1 hk
  obtain ⟨h3, h4⟩ := List.getElem?_eq_some_iff.1 hj
  have h := (Array.swap_perm (xs := l.toArray) (i := k) (j := j) (by simpa using h1) (by simpa using h3)).toList
  have e : (l.toArray.swap k j (by simpa using h1) (by simpa using h3)).toList = (l.set k b).set j a := by
    simp [Array.swap_def, h2, h4]
  rw [e] at h
  simpa using h
theorem entsS_one {I : Heap} {es : List Ent} {v : Value} (h : EntsS I es v) : ∀ e ∈ es, (entC e).all Value.oneCell' = true := fun e he => by
  obtain ⟨p, c, hv⟩ := RowS.len (h.2 e he).1
  exact ent_one hv
theorem byteC_len (x : UInt8) : [u8 x].length = 1 := rfl
theorem remNat (a b : Nat) : (a : Int).tmod (b : Int) = ((a % b : Nat) : Int) := rfl
/-- Texts of a law are asked for in small numbers. -/
theorem textN_small (k : Nat) : (Ix.textN (k : Int)).length ≤ 100000000 := Nat.le_trans (Ix.textN_len _) (by decide)
theorem byte_from {cs sp : List Value} {o : Nat} {l : List UInt8} (h : cs.drop o = l.flatMap (fun x => [u8 x]) ++ sp) {k : Nat} {x : UInt8} (hx : l[k]? = some x) : cs[o + k]? = some (u8 x) := by
  have := row_fcell byteC_len h hx 0 (by decide)
  simpa using this
set_option maxRecDepth 20000 in
set_option maxHeartbeats 1000000 in
theorem IndexAgain_ok (xs : List Act) (v : Value) (hao : ActsOk xs) (ol : List UInt8) (ov : Value) (n : UInt8) (I : Heap) (hA : ActsS I xs v) (hO : RowS (fun x : UInt8 => [u8 x]) I ol ov) : Pure Tryz.prog 9 [v, ov, u8 n] I (.bool true) := by
 refine Ctr.toPure ?_
 obtain ⟨oq, oc, rfl⟩ := RowS.len hO
 refine Ctr.of_body Tryz.func9 rfl (by decide) (Nat.le_of_ble_eq_true rfl) ?_
 intro w0 hw0
 refine Cj.seq (Cj.region (J.z (yl_assign rfl rfl) ?_))
 refine J.nil (Ej.seq (Cj.seq (Cj.region (J.op rfl (op_pure rfl rfl rfl rfl rfl (sanity_ok _) ?_)))))
 refine J.z (yl_assign rfl rfl) ?_
 refine J.nil (Ej.seq (Cj.seq (Cj.region (J.z (yl_move rfl rfl) ?_))))
 refine J.op rfl (op_callN rfl rfl rfl rfl rfl (play_ok xs _ hao _ hA) ?_ (fun _ _ _ _ h => by obtain ⟨_, _, h, _⟩ := h; cases h) (fun _ _ h => by obtain ⟨_, _, h, _⟩ := h; cases h))
 intro v2 I3 H4 hle5 hn1 hp6
 have hA := hA.mono hle5
 have hO := hO.mono hle5
 obtain ⟨ib, o, h, hok, rfl⟩ := hp6; cases h
 refine J.persists (ixH ib o) hn1 (fun Ip hlep hK => ?_)
 have hA := hA.mono hlep
 have hO := hO.mono hlep
 have hx : IxP Ip ib (Ix.play (acts xs)) := ⟨o, hok.mono hlep, hK⟩
 clear hok hK
 refine J.z (yl_assign rfl rfl) ?_
 refine J.nil (Ej.seq (Cj.seq (Cj.region (J.op rfl (op_buildSlice0 rfl rfl rfl Tryz.underlying27 Tryz.sizeOf37 ?_)))))
 intro b7 hb7
 refine J.z (yl_move rfl rfl) ?_
 refine J.op rfl (op_callN rfl rfl rfl rfl rfl (rPlay_ok xs _ hao _ hA) ?_ (fun _ _ _ _ h => by obtain ⟨_, _, _, h, _⟩ := h; cases h) (fun _ _ h => by obtain ⟨_, _, _, h, _⟩ := h; cases h))
 intro v9 I10 H11 hle12 hn8 hp13
 have hA := hA.mono hle12
 have hO := hO.mono hle12
 have hx := hx.mono hle12
 obtain ⟨rb, es, w, h, hE, hL, hek, hel, rfl⟩ := hp13; cases h
 refine J.persists [(rb, _)] hn8 (fun Iq hleq hK => ?_)
 have hA := hA.mono hleq
 have hO := hO.mono hleq
 have hx := hx.mono hleq
 have hy : RxP Iq rb es := RxP.of (hK (rb, _) (.head _)) (hE.mono hleq) (by omega) hek (hL ▸ Ix.play_srt _)
 clear hE hK
 obtain ⟨pR, cR, hR0⟩ := hy.ex
 have hrb := hR0.1
 have hE := hR0.2
 have hsrt := hy.srt
 rw [← hL] at hx
 refine J.z (yl_nilCheck rfl rfl) ?_
 refine J.z (yl_fieldAddr (off' := 0) rfl rfl Tryz.underlying73 rfl Tryz.sizeOf27 rfl) ?_
 refine J.z (yl_load rfl rfl Tryz.isAgg27 (Blk.imm hrb) rfl) ?_
 refine J.op rfl (op_append (by' := 47) (n := 0) (g := some (b7, 0, [])) (xs := []) [] rfl rfl rfl rfl rfl Tryz.underlying27 (.inr ⟨_, Tryz.underlying27⟩) (by kernel_rfl) Tryz.sizeOf37 Tryz.zeroValue37 rfl ⟨hb7, rfl, rfl⟩ rfl (Src.row entC_len hE.1 (entsS_one hE)) (by omega) ?_)
 intro g14 hg14
 refine J.z (yl_assign rfl rfl) ?_
 refine J.nil (Ej.seq (Cj.seq (Cj.seq (Cj.region (J.z (yl_assign rfl rfl) ?_)))))
 refine J.nil (Ej.seq (Cj.block (Cj.keep Keeps.r ?_)))
 refine Cj.loop (ι := Nat × List Ent × Gs) (fun y => 1 ≤ y.1 ∧ y.2.1.Perm es ∧ gOk w0.heap.size 5 es.length (y.2.1.flatMap entC) y.2.2) (fun y => es.length - y.1) (fun y => [(1, .slice oq ol.length oc), (2, u8 n), (7, .bool true), (8, ptr ib 0), (9, gV es.length y.2.2), (10, i64 (y.1 : Int))]) (fun y => _) (fun y => gH 37 (y.2.1.flatMap entC) y.2.2) (1, es, g14) ⟨Nat.le_refl _, .refl _, by dsimp only; have h := hg14; rw [Nat.zero_add, List.nil_append] at h; exact h⟩ ⟨rfl, rfl, rfl, rfl, by dsimp only; rw [Nat.zero_add]; rfl, rfl, trivial⟩ rfl rfl ?_
 rintro ⟨k, zs, g⟩ ⟨hk1, hp, hg⟩
 dsimp only at hk1 hp hg ⊢
 have hzl := hp.length_eq
 refine Cj.seq (Cj.seq (Cj.region (J.z (yl_move rfl rfl) ?_)))
 refine J.z (yl_move rfl rfl) ?_
 refine J.z (yl_lenG hg rfl rfl Tryz.underlying27) ?_
 refine J.z (yl_lss rfl rfl rfl) ?_
 refine J.z (yl_move rfl rfl) ?_
 refine J.split 29 rfl (fun hg15 => ?_) (fun hg15 => ?_)
 ·
  have hg15p := of_decide_eq_true hg15
  refine J.opG 4 29 true _ rfl rfl rfl hg15 (op_yld (yl_move rfl rfl) rfl rfl ?_)
  refine J.opG 4 29 true _ rfl rfl rfl hg15 (op_yld (yl_lenSlice rfl rfl Tryz.underlying71) rfl rfl ?_)
  refine J.opG 4 29 true _ rfl rfl rfl hg15 (op_yld (yl_gtr rfl rfl rfl) rfl rfl ?_)
  refine J.z (yl_pick1 rfl rfl hg15 rfl) ?_
  refine J.nil (Ej.seq (Cj.cond rfl (fun hc16 => ?_) (fun hc16 => ?_)))
  ·
   have hc16p := of_decide_eq_true hc16
   refine Cj.skip (Ej.seq (Cj.seq (Cj.block (Cj.seq ?_))))
   obtain ⟨bg17, cg18, sp19, rfl, hbg17⟩ := hg.some (by omega)
   have hkl : k < es.length := by omega
   have hol : 0 < ol.length := by omega
   obtain ⟨i, hi⟩ : ∃ i, i = k % ol.length := ⟨_, rfl⟩
   have hil : i < ol.length := hi ▸ Nat.mod_lt _ hol
   obtain ⟨x, hgx⟩ : ∃ x, ol[i]? = some x := ⟨_, List.getElem?_eq_getElem hil⟩
   obtain ⟨j, hj⟩ : ∃ j, j = x.toNat % (k + 1) := ⟨_, rfl⟩
   have hjl : j < k + 1 := hj ▸ Nat.mod_lt _ (by omega)
   have hxl := x.toNat_lt
   obtain ⟨ea, hgk⟩ : ∃ x, zs[k]? = some x := ⟨_, List.getElem?_eq_getElem (by omega)⟩
   obtain ⟨eb, hgj⟩ : ∃ x, zs[j]? = some x := ⟨_, List.getElem?_eq_getElem (by omega)⟩
   have hoa := entsS_one hE ea (hp.mem_iff.1 (List.mem_of_getElem? hgk))
   have hobn := entsS_one hE eb (hp.mem_iff.1 (List.mem_of_getElem? hgj))
   obtain ⟨p1, c1, hpe, hc1, hp1⟩ := id hO
   cases hpe
   obtain ⟨ob, oo, ocs, oty, ofr, osp, rfl, hob, hod⟩ := hp1 (ne_nil_of hil)
   refine Cj.region (J.z (yl_move rfl rfl) ?_)
   refine J.z (yl_move rfl rfl) ?_
   refine J.z (yl_move rfl rfl) ?_
   refine J.z (yl_lenSlice rfl rfl Tryz.underlying71) ?_
   refine J.z (yl_rem rfl rfl rfl (by omega)) ?_
   refine J.eqv 40 rfl (show _ = i64 (i : Int) from (congrArg i64 ((remNat _ _).trans (by rw [hi])))) ?_
   refine J.z (yl_indexAddr (off' := oo + i) rfl rfl rfl Tryz.underlying71 Tryz.sizeOf5 (by omega) (by omega) (by simp)) ?_
   refine J.z (yl_load rfl rfl Tryz.isAgg5 (Blk.imm hob) (byte_from hod hgx)) ?_
   refine J.z (yl_convInt rfl rfl Tryz.underlying5 Tryz.underlying3) ?_
   refine J.eqv 43 rfl (show _ = i64 (x.toNat : Int) from (congrArg i64 (w64 (by omega)))) ?_
   refine J.z (yl_move rfl rfl) ?_
   refine J.z (yl_add rfl rfl rfl (w64 (by omega))) ?_
   refine J.z (yl_rem rfl rfl rfl (by omega)) ?_
   refine J.eqv 46 rfl (show _ = i64 (j : Int) from (congrArg i64 ((remNat x.toNat (k + 1)).trans (by rw [hj])))) ?_
   refine J.z (yl_assign rfl rfl) ?_
   refine J.nil (Ej.seq (Cj.drawSel [] [] 16 (by kernel_rfl) ?_))
   refine JA.fix ⟨HSub.n, CSub.n, (Le.refl _)⟩ (fun fx20 => ?_)
   refine JA.tk 0 rfl fx20 (yl_move rfl rfl) ?_
   refine JA.tk 1 rfl fx20 (yl_move rfl rfl) ?_
   refine JA.tk 2 rfl fx20 (yl_move rfl rfl) ?_
   refine JA.tk 3 rfl fx20 (yl_move rfl rfl) ?_
   refine JA.tk 4 rfl fx20 (yl_move rfl rfl) ?_
   refine JA.tk 5 rfl fx20 (yl_move rfl rfl) ?_
   refine JA.tk 6 rfl fx20 (yl_indexAddr (off' := j * 5) rfl rfl rfl Tryz.underlying27 Tryz.sizeOf37 (by omega) (by omega) (by simp)) ?_
   refine JA.tk 8 rfl fx20 (yl_move rfl rfl) ?_
   refine JA.tk 9 rfl fx20 (yl_move rfl rfl) ?_
   refine JA.tk 10 rfl fx20 (yl_indexAddr (off' := k * 5) rfl rfl rfl Tryz.underlying27 Tryz.sizeOf37 (by omega) (by omega) (by simp)) ?_
   refine JA.all [7, 11] (by kernel_rfl) (by simp) ?_
   intro i hi
   simp only [List.mem_cons, List.not_mem_nil, or_false] at hi
   rcases hi with rfl | rfl
   ·
    refine ⟨_, rfl, rfl, ?_⟩
    refine op_yld (yl_loadAgg rfl rfl Tryz.isAgg37 Tryz.sizeOf37 (Blk.at 0 rfl) (row_zero' entC_len hgj) rfl) rfl rfl ?_
    refine ⟨⟨(Le.refl _), HSub.n, CSub.n⟩, ?_⟩
    refine JA.step 11 (by kernel_rfl) rfl rfl (op_yld (yl_loadAgg rfl rfl Tryz.isAgg37 Tryz.sizeOf37 (Blk.at 0 rfl) (row_zero' entC_len hgk) rfl) rfl rfl ?_)
    refine ⟨⟨(Le.refl _), HSub.n, CSub.n⟩, ?_⟩
    refine JA.fix ⟨HSub.n, CSub.n, (Le.refl _)⟩ (fun fx21 => ?_)
    refine JA.tk 12 rfl fx21 (yl_indexAddr (off' := k * 5) rfl rfl rfl Tryz.underlying27 Tryz.sizeOf37 (by omega) (by omega) (by simp)) ?_
    refine JA.step 13 (by kernel_rfl) rfl rfl (op_store 0 rfl rfl rfl rfl rfl hobn Tryz.sizeOf37 rfl rfl (row_spl (x := eb) entC_len (by first | omega | (simp only [List.length_set]; omega))) LSet.z ?_)
    refine ⟨⟨(Le.refl _), HSub.n, CSub.n⟩, ?_⟩
    refine JA.fix ⟨HSub.n, CSub.n, (Le.refl _)⟩ (fun fx22 => ?_)
    refine JA.tk 14 rfl fx22 (yl_indexAddr (off' := j * 5) rfl rfl rfl Tryz.underlying27 Tryz.sizeOf37 (by omega) (by omega) (by simp)) ?_
    refine JA.step 15 (by kernel_rfl) rfl rfl (op_store 0 rfl rfl rfl rfl rfl hoa Tryz.sizeOf37 rfl rfl (row_spl (x := ea) entC_len (by first | omega | (simp only [List.length_set]; omega))) LSet.z ?_)
    refine ⟨⟨(Le.refl _), HSub.n, CSub.n⟩, ?_⟩
    refine JA.done (by kernel_rfl) ?_
    refine Ej.blkNormal (Ej.seq (Cj.region (J.z (yl_move rfl rfl) ?_)))
    refine J.z (yl_add rfl rfl rfl (w64 (by omega))) ?_
    refine J.z (yl_assign rfl rfl) ?_
    refine J.nil (Ej.round (k + 1, (zs.set k eb).set j ea, some (bg17, cg18, sp19)) ⟨by dsimp only; omega, (swap_perm hgk hgj).trans hp, ⟨hg.1, by rw [flat_len entC_len, List.length_set, List.length_set, hp.length_eq], by rw [flat_len entC_len, List.length_set, List.length_set]; have := hg.2.2; rw [flat_len entC_len] at this; exact this⟩⟩ (by dsimp only; omega) ⟨rfl, rfl, rfl, rfl, rfl, rfl, trivial⟩ rfl rfl)
   ·
    refine ⟨_, rfl, rfl, ?_⟩
    refine op_yld (yl_loadAgg rfl rfl Tryz.isAgg37 Tryz.sizeOf37 (Blk.at 0 rfl) (row_zero' entC_len hgk) rfl) rfl rfl ?_
    refine ⟨⟨(Le.refl _), HSub.n, CSub.n⟩, ?_⟩
    refine JA.step 7 (by kernel_rfl) rfl rfl (op_yld (yl_loadAgg rfl rfl Tryz.isAgg37 Tryz.sizeOf37 (Blk.at 0 rfl) (row_zero' entC_len hgj) rfl) rfl rfl ?_)
    refine ⟨⟨(Le.refl _), HSub.n, CSub.n⟩, ?_⟩
    refine JA.fix ⟨HSub.n, CSub.n, (Le.refl _)⟩ (fun fx23 => ?_)
    refine JA.tk 12 rfl fx23 (yl_indexAddr (off' := k * 5) rfl rfl rfl Tryz.underlying27 Tryz.sizeOf37 (by omega) (by omega) (by simp)) ?_
    refine JA.step 13 (by kernel_rfl) rfl rfl (op_store 0 rfl rfl rfl rfl rfl hobn Tryz.sizeOf37 rfl rfl (row_spl (x := eb) entC_len (by first | omega | (simp only [List.length_set]; omega))) LSet.z ?_)
    refine ⟨⟨(Le.refl _), HSub.n, CSub.n⟩, ?_⟩
    refine JA.fix ⟨HSub.n, CSub.n, (Le.refl _)⟩ (fun fx24 => ?_)
    refine JA.tk 14 rfl fx24 (yl_indexAddr (off' := j * 5) rfl rfl rfl Tryz.underlying27 Tryz.sizeOf37 (by omega) (by omega) (by simp)) ?_
    refine JA.step 15 (by kernel_rfl) rfl rfl (op_store 0 rfl rfl rfl rfl rfl hoa Tryz.sizeOf37 rfl rfl (row_spl (x := ea) entC_len (by first | omega | (simp only [List.length_set]; omega))) LSet.z ?_)
    refine ⟨⟨(Le.refl _), HSub.n, CSub.n⟩, ?_⟩
    refine JA.done (by kernel_rfl) ?_
    refine Ej.blkNormal (Ej.seq (Cj.region (J.z (yl_move rfl rfl) ?_)))
    refine J.z (yl_add rfl rfl rfl (w64 (by omega))) ?_
    refine J.z (yl_assign rfl rfl) ?_
    refine J.nil (Ej.round (k + 1, (zs.set k eb).set j ea, some (bg17, cg18, sp19)) ⟨by dsimp only; omega, (swap_perm hgk hgj).trans hp, ⟨hg.1, by rw [flat_len entC_len, List.length_set, List.length_set, hp.length_eq], by rw [flat_len entC_len, List.length_set, List.length_set]; have := hg.2.2; rw [flat_len entC_len] at this; exact this⟩⟩ (by dsimp only; omega) ⟨rfl, rfl, rfl, rfl, rfl, rfl, trivial⟩ rfl rfl)
  ·
   have hc16p := of_decide_eq_false hc16
   refine Cj.exit (Ej.seqExit (Ej.loopExit (Ej.blkExit (Ej.seq (Cj.seq (Cj.perm (H' := gH 37 _ g ++ []) (.of_eq (List.append_nil _)) ?_))))))
   have hgz : gOk w0.heap.size 5 zs.length (zs.flatMap entC) g := by rw [hzl]; exact hg
   refine Cj.keepR entC_len (by decide) hgz rfl (fun I8 hle8 hv => ?_)
   have hA := hA.mono hle8
   have hO := hO.mono hle8
   have hx := hx.mono hle8
   have hy := hy.mono hle8
   have hrb := hle8 _ _ hrb
   have hE := hE.mono hle8
   have hE1 : EntsS I8 zs (gV zs.length g) := ⟨hv, fun e he => hE.2 e (hp.mem_iff.1 he)⟩
   have hek1 : ∀ e ∈ zs, EOK e.fs := fun e he => hek e (hp.mem_iff.1 he)
   have hput : Ix.rputs (zs.map entL) [] = es.map entL := Ix.rputs_perm hsrt (hp.map _)
   refine Cj.eqv 9 rfl (show _ = gV zs.length g from by rw [hzl]) ?_
   refine Cj.region (J.z (yl_move rfl rfl) ?_)
   refine J.op rfl (op_callN rfl rfl rfl rfl rfl (Build_ok (zs) _ (by omega) hek1 _ hE1) ?_ (fun _ _ _ _ h => by obtain ⟨_, _, h, _⟩ := h; cases h) (fun _ _ h => by obtain ⟨_, _, h, _⟩ := h; cases h))
   intro v26 I27 H28 hle29 hn25 hp30
   have hA := hA.mono hle29
   have hO := hO.mono hle29
   have hx := hx.mono hle29
   have hy := hy.mono hle29
   have hrb := hle29 _ _ hrb
   have hE := hE.mono hle29
   have hE1 := hE1.mono hle29
   obtain ⟨ib2, o2, h, hok, rfl⟩ := hp30; cases h
   refine J.persists (ixH ib2 o2) hn25 (fun Ip2 hlep hK => ?_)
   have hA := hA.mono hlep
   have hO := hO.mono hlep
   have hx := hx.mono hlep
   have hy := hy.mono hlep
   have hrb := hlep _ _ hrb
   have hE := hE.mono hlep
   have hE1 := hE1.mono hlep
   have hx2 : IxP Ip2 ib2 (Ix.rputs ((zs).map entL) []) := ⟨o2, hok.mono hlep, hK⟩
   clear hok hK
   rw [hput] at hx2
   refine J.z (yl_assign rfl rfl) ?_
   refine J.nil (Ej.seq (Cj.seq (Cj.seq (Cj.region (J.z (yl_move rfl rfl) ?_)))))
   refine J.nil (Ej.seq (Cj.block (Cj.loop (ι := Nat × Heap) (fun y => y.1 ≤ 20 ∧ Le Ip2 y.2) (fun y => 20 - y.1) (fun y => [(2, u8 n), (7, .bool true), (8, ptr ib 0), (12, ptr ib2 0), (63, i64 (y.1 : Int))]) (fun y => y.2) (fun y => []) (0, _) ⟨Nat.zero_le _, Le.refl _⟩ ⟨rfl, rfl, rfl, rfl, rfl, trivial⟩ rfl rfl ?_)))
   rintro ⟨k, J1⟩ ⟨hk, hIJ⟩
   dsimp only at hk hIJ ⊢
   have hx := hx.mono hIJ
   have hx2 := hx2.mono hIJ
   refine Cj.seq (Cj.region (J.z (yl_lss rfl rfl rfl) ?_))
   refine J.nil (Ej.seq (Cj.seq (Cj.cond rfl (fun hc31 => ?_) (fun hc31 => ?_))))
   ·
    have hc31p := of_decide_eq_true hc31
    refine Cj.skip (Ej.seq (Cj.seq (Cj.block (Cj.seq ?_))))
    have hw1 := word_small es (nameN n) (Ix.textN (k : Int))
    have hw2 := phrase_small es (nameN n) (Ke.words (Ix.textN (k : Int)))
    have hw3 := withK_len es (nameN n) (Ix.keyOf (nameN n) (Ix.textN (k : Int)))
    refine Cj.region (J.z (yl_move rfl rfl) ?_)
    refine J.z (yl_assign rfl rfl) ?_
    refine J.nil (Ej.seq (Cj.seq (Cj.region (J.z (yl_move rfl rfl) ?_))))
    refine J.op rfl (op_pure rfl rfl rfl rfl rfl (nText_ok (k : Int) _) ?_)
    refine J.z (yl_assign rfl rfl) ?_
    refine J.nil (Ej.seq (Cj.seq (Cj.region (J.z (yl_move rfl rfl) ?_))))
    refine J.z (yl_move rfl rfl) ?_
    refine J.op rfl (op_pure rfl rfl rfl rfl rfl (name_ok n _) ?_)
    refine J.z (yl_move rfl rfl) ?_
    refine J.op rfl (op_callN rfl rfl rfl rfl rfl (Word_ok ib (es.map entL) (nameN n) (Ix.textN (k : Int)) (textN_small k) _ hx) ?_ (fun _ _ _ _ h => by obtain ⟨_, h, _⟩ := h; cases h) (fun _ _ h => by obtain ⟨_, h, _⟩ := h; cases h))
    intro v33 I34 H35 hle36 hn32 hp37
    have hIJ := hIJ.mono hle36
    have hx := hx.mono hle36
    have hx2 := hx2.mono hle36
    obtain ⟨wa, h, hoa⟩ := hp37; cases h
    refine J.keepO hoa hn32 (fun Ia hlea hra => ?_)
    have hIJ := hIJ.mono hlea
    have hx := hx.mono hlea
    have hx2 := hx2.mono hlea
    replace hra := hra.row
    refine J.z (yl_move rfl rfl) ?_
    refine J.z (yl_move rfl rfl) ?_
    refine J.op rfl (op_pure rfl rfl rfl rfl rfl (name_ok n _) ?_)
    refine J.z (yl_move rfl rfl) ?_
    refine J.op rfl (op_callN rfl rfl rfl rfl rfl (Word_ok ib2 (es.map entL) (nameN n) (Ix.textN (k : Int)) (textN_small k) _ hx2) ?_ (fun _ _ _ _ h => by obtain ⟨_, h, _⟩ := h; cases h) (fun _ _ h => by obtain ⟨_, h, _⟩ := h; cases h))
    intro v39 I40 H41 hle42 hn38 hp43
    have hIJ := hIJ.mono hle42
    have hx := hx.mono hle42
    have hx2 := hx2.mono hle42
    have hra := hra.mono hle42
    obtain ⟨wb, h, hob⟩ := hp43; cases h
    refine J.keepO hob hn38 (fun Ib hleb hrb => ?_)
    have hIJ := hIJ.mono hleb
    have hx := hx.mono hleb
    have hx2 := hx2.mono hleb
    have hra := hra.mono hleb
    replace hrb := hrb.row
    refine J.op rfl (op_pure rfl rfl rfl rfl rfl (rRecs_ok (Ix.word (es.map entL) (nameN n) (Ix.textN (k : Int))) (Ix.word (es.map entL) (nameN n) (Ix.textN (k : Int))) _ _ (by omega) _ hra hrb) ?_)
    refine J.eqv 78 rfl (show _ = .bool true from (congrArg Value.bool (decide_eq_true rfl))) ?_
    refine J.z (yl_not rfl rfl) ?_
    refine J.z (yl_move rfl rfl) ?_
    refine J.opG 12 80 false _ rfl rfl rfl (congrArg not rfl) (op_yld (yl_move rfl rfl) rfl rfl ?_)
    refine J.opG 12 80 false _ rfl rfl rfl (congrArg not rfl) (op_yld (yl_move rfl rfl) rfl rfl ?_)
    refine J.opG 12 80 false _ rfl rfl rfl (congrArg not rfl) (op_pure rfl rfl rfl rfl rfl (name_ok n _) ?_)
    refine J.opG 12 80 false _ rfl rfl rfl (congrArg not rfl) (op_yld (yl_move rfl rfl) rfl rfl ?_)
    refine J.opG 12 80 false _ rfl rfl rfl (congrArg not rfl) (op_callN rfl rfl rfl rfl rfl (Phrase_ok ib (es.map entL) (nameN n) (Ix.textN (k : Int)) (textN_small k) _ hx) ?_ (fun _ _ _ _ h => by obtain ⟨_, h, _⟩ := h; cases h) (fun _ _ h => by obtain ⟨_, h, _⟩ := h; cases h))
    intro v45 I46 H47 hle48 hn44 hp49
    have hIJ := hIJ.mono hle48
    have hx := hx.mono hle48
    have hx2 := hx2.mono hle48
    have hra := hra.mono hle48
    have hrb := hrb.mono hle48
    obtain ⟨wc, h, hoc⟩ := hp49; cases h
    refine J.keepO hoc hn44 (fun Ic hlec hrc => ?_)
    have hIJ := hIJ.mono hlec
    have hx := hx.mono hlec
    have hx2 := hx2.mono hlec
    have hra := hra.mono hlec
    have hrb := hrb.mono hlec
    replace hrc := hrc.row
    refine J.opG 12 80 false _ rfl rfl rfl (congrArg not rfl) (op_yld (yl_move rfl rfl) rfl rfl ?_)
    refine J.opG 12 80 false _ rfl rfl rfl (congrArg not rfl) (op_yld (yl_move rfl rfl) rfl rfl ?_)
    refine J.opG 12 80 false _ rfl rfl rfl (congrArg not rfl) (op_pure rfl rfl rfl rfl rfl (name_ok n _) ?_)
    refine J.opG 12 80 false _ rfl rfl rfl (congrArg not rfl) (op_yld (yl_move rfl rfl) rfl rfl ?_)
    refine J.opG 12 80 false _ rfl rfl rfl (congrArg not rfl) (op_callN rfl rfl rfl rfl rfl (Phrase_ok ib2 (es.map entL) (nameN n) (Ix.textN (k : Int)) (textN_small k) _ hx2) ?_ (fun _ _ _ _ h => by obtain ⟨_, h, _⟩ := h; cases h) (fun _ _ h => by obtain ⟨_, h, _⟩ := h; cases h))
    intro v51 I52 H53 hle54 hn50 hp55
    have hIJ := hIJ.mono hle54
    have hx := hx.mono hle54
    have hx2 := hx2.mono hle54
    have hra := hra.mono hle54
    have hrb := hrb.mono hle54
    have hrc := hrc.mono hle54
    obtain ⟨wd, h, hod⟩ := hp55; cases h
    refine J.keepO hod hn50 (fun Id hled hrd => ?_)
    have hIJ := hIJ.mono hled
    have hx := hx.mono hled
    have hx2 := hx2.mono hled
    have hra := hra.mono hled
    have hrb := hrb.mono hled
    have hrc := hrc.mono hled
    replace hrd := hrd.row
    refine J.opG 12 80 false _ rfl rfl rfl (congrArg not rfl) (op_pure rfl rfl rfl rfl rfl (rRecs_ok (Ix.phrase (es.map entL) (nameN n) (Ke.words (Ix.textN (k : Int)))) (Ix.phrase (es.map entL) (nameN n) (Ke.words (Ix.textN (k : Int)))) _ _ (by omega) _ hrc hrd) ?_)
    refine J.eqv 91 rfl (show _ = .bool true from (congrArg Value.bool (decide_eq_true rfl))) ?_
    refine J.opG 12 80 false _ rfl rfl rfl (congrArg not rfl) (op_yld (yl_not rfl rfl) rfl rfl ?_)
    refine J.z (yl_pick0 rfl rfl (congrArg not rfl) rfl) ?_
    refine J.z (yl_move rfl rfl) ?_
    refine J.opG 26 94 false _ rfl rfl rfl (congrArg not rfl) (op_yld (yl_move rfl rfl) rfl rfl ?_)
    refine J.opG 26 94 false _ rfl rfl rfl (congrArg not rfl) (op_yld (yl_move rfl rfl) rfl rfl ?_)
    refine J.opG 26 94 false _ rfl rfl rfl (congrArg not rfl) (op_pure rfl rfl rfl rfl rfl (name_ok n _) ?_)
    refine J.opG 26 94 false _ rfl rfl rfl (congrArg not rfl) (op_yld (yl_move rfl rfl) rfl rfl ?_)
    refine J.opG 26 94 false _ rfl rfl rfl (congrArg not rfl) (op_callN rfl rfl rfl rfl rfl (Key_ok ib (es.map entL) (nameN n) (Ix.textN (k : Int)) (textN_small k) _ hx) ?_ (fun _ _ _ _ h => by obtain ⟨_, h, _⟩ := h; cases h) (fun _ _ h => by obtain ⟨_, h, _⟩ := h; cases h))
    intro v57 I58 H59 hle60 hn56 hp61
    have hIJ := hIJ.mono hle60
    have hx := hx.mono hle60
    have hx2 := hx2.mono hle60
    have hra := hra.mono hle60
    have hrb := hrb.mono hle60
    have hrc := hrc.mono hle60
    have hrd := hrd.mono hle60
    obtain ⟨we, h, hoe⟩ := hp61; cases h
    refine J.keepO hoe hn56 (fun Ie hlee hre => ?_)
    have hIJ := hIJ.mono hlee
    have hx := hx.mono hlee
    have hx2 := hx2.mono hlee
    have hra := hra.mono hlee
    have hrb := hrb.mono hlee
    have hrc := hrc.mono hlee
    have hrd := hrd.mono hlee
    replace hre := hre.row
    refine J.opG 26 94 false _ rfl rfl rfl (congrArg not rfl) (op_yld (yl_move rfl rfl) rfl rfl ?_)
    refine J.opG 26 94 false _ rfl rfl rfl (congrArg not rfl) (op_yld (yl_move rfl rfl) rfl rfl ?_)
    refine J.opG 26 94 false _ rfl rfl rfl (congrArg not rfl) (op_pure rfl rfl rfl rfl rfl (name_ok n _) ?_)
    refine J.opG 26 94 false _ rfl rfl rfl (congrArg not rfl) (op_yld (yl_move rfl rfl) rfl rfl ?_)
    refine J.opG 26 94 false _ rfl rfl rfl (congrArg not rfl) (op_callN rfl rfl rfl rfl rfl (Key_ok ib2 (es.map entL) (nameN n) (Ix.textN (k : Int)) (textN_small k) _ hx2) ?_ (fun _ _ _ _ h => by obtain ⟨_, h, _⟩ := h; cases h) (fun _ _ h => by obtain ⟨_, h, _⟩ := h; cases h))
    intro v63 I64 H65 hle66 hn62 hp67
    have hIJ := hIJ.mono hle66
    have hx := hx.mono hle66
    have hx2 := hx2.mono hle66
    have hra := hra.mono hle66
    have hrb := hrb.mono hle66
    have hrc := hrc.mono hle66
    have hrd := hrd.mono hle66
    have hre := hre.mono hle66
    obtain ⟨wf, h, hof⟩ := hp67; cases h
    refine J.keepO hof hn62 (fun If hlef hrf => ?_)
    have hIJ := hIJ.mono hlef
    have hx := hx.mono hlef
    have hx2 := hx2.mono hlef
    have hra := hra.mono hlef
    have hrb := hrb.mono hlef
    have hrc := hrc.mono hlef
    have hrd := hrd.mono hlef
    have hre := hre.mono hlef
    replace hrf := hrf.row
    refine J.opG 26 94 false _ rfl rfl rfl (congrArg not rfl) (op_pure rfl rfl rfl rfl rfl (rRecs_ok (Ix.withK (es.map entL) (nameN n) (Ix.keyOf (nameN n) (Ix.textN (k : Int)))) (Ix.withK (es.map entL) (nameN n) (Ix.keyOf (nameN n) (Ix.textN (k : Int)))) _ _ (by omega) _ hre hrf) ?_)
    refine J.eqv 105 rfl (show _ = .bool true from (congrArg Value.bool (decide_eq_true rfl))) ?_
    refine J.opG 26 94 false _ rfl rfl rfl (congrArg not rfl) (op_yld (yl_not rfl rfl) rfl rfl ?_)
    refine J.z (yl_pick0 rfl rfl (congrArg not rfl) rfl) ?_
    refine J.nil (Ej.seq (Cj.cond rfl (fun hc68 => Bool.noConfusion (Eq.trans (Eq.symm (congrArg not rfl)) hc68)) (fun hc68 => ?_)))
    refine Cj.skip (Ej.blkNormal (Ej.seq (Cj.region (J.z (yl_add rfl rfl rfl (w64 (by omega))) ?_))))
    refine J.z (yl_move rfl rfl) ?_
    refine J.nil (Ej.round (k + 1, _) ⟨by dsimp only; omega, hIJ⟩ (by dsimp only; omega) ⟨rfl, rfl, rfl, rfl, rfl, trivial⟩ rfl rfl)
   ·
    have hc31p := of_decide_eq_false hc31
    refine Cj.exit (Ej.seqExit (Ej.loopExit (Ej.blkExit (Ej.seq (Cj.seq (Cj.region (J.z (yl_move rfl rfl) ?_)))))))
    refine J.z (yl_move rfl rfl) ?_
    refine J.opG 1 110 true _ rfl rfl rfl rfl (op_yld (yl_move rfl rfl) rfl rfl ?_)
    refine J.opG 1 110 true _ rfl rfl rfl rfl (op_yld (yl_move rfl rfl) rfl rfl ?_)
    refine J.opG 1 110 true _ rfl rfl rfl rfl (op_pure rfl rfl rfl rfl rfl (name_ok n _) ?_)
    refine J.opG 1 110 true _ rfl rfl rfl rfl (op_callN rfl rfl rfl rfl rfl (Scan_ok ib (es.map entL) (nameN n) [] (by decide) 1000 _ hx) ?_ (fun _ _ _ _ h => by obtain ⟨_, h, _⟩ := h; cases h) (fun _ _ h => by obtain ⟨_, h, _⟩ := h; cases h))
    intro v70 I71 H72 hle73 hn69 hp74
    have hIJ := hIJ.mono hle73
    have hx := hx.mono hle73
    have hx2 := hx2.mono hle73
    obtain ⟨wg, h, hog⟩ := hp74; cases h
    refine J.keepO hog hn69 (fun Ig hleg hrg => ?_)
    have hIJ := hIJ.mono hleg
    have hx := hx.mono hleg
    have hx2 := hx2.mono hleg
    replace hrg := hrg.row
    refine J.opG 1 110 true _ rfl rfl rfl rfl (op_yld (yl_move rfl rfl) rfl rfl ?_)
    refine J.opG 1 110 true _ rfl rfl rfl rfl (op_yld (yl_move rfl rfl) rfl rfl ?_)
    refine J.opG 1 110 true _ rfl rfl rfl rfl (op_pure rfl rfl rfl rfl rfl (name_ok n _) ?_)
    refine J.opG 1 110 true _ rfl rfl rfl rfl (op_callN rfl rfl rfl rfl rfl (Scan_ok ib2 (es.map entL) (nameN n) [] (by decide) 1000 _ hx2) ?_ (fun _ _ _ _ h => by obtain ⟨_, h, _⟩ := h; cases h) (fun _ _ h => by obtain ⟨_, h, _⟩ := h; cases h))
    intro v76 I77 H78 hle79 hn75 hp80
    have hIJ := hIJ.mono hle79
    have hx := hx.mono hle79
    have hx2 := hx2.mono hle79
    have hrg := hrg.mono hle79
    obtain ⟨wh, h, hoh⟩ := hp80; cases h
    refine J.keepO hoh hn75 (fun Ih hleh hrh => ?_)
    have hIJ := hIJ.mono hleh
    have hx := hx.mono hleh
    have hx2 := hx2.mono hleh
    have hrg := hrg.mono hleh
    replace hrh := hrh.row
    refine J.opG 1 110 true _ rfl rfl rfl rfl (op_pure rfl rfl rfl rfl rfl (rLines_ok ((Ix.scan (es.map entL) (nameN n) [] 1000).map lineI) ((Ix.scan (es.map entL) (nameN n) [] 1000).map lineI) _ _ (by have := scan_small (es.map entL) (nameN n) [] 1000; omega) _ hrg hrh) ?_)
    refine J.eqv 119 rfl (show _ = .bool true from (congrArg Value.bool (decide_eq_true rfl))) ?_
    refine J.z (yl_pick1 rfl rfl rfl rfl) ?_
    refine J.z (yl_move rfl rfl) ?_
    refine J.opG 12 121 true _ rfl rfl rfl rfl (op_yld (yl_move rfl rfl) rfl rfl ?_)
    refine J.opG 12 121 true _ rfl rfl rfl rfl (op_callN rfl rfl rfl rfl rfl (Titles_ok ib (es.map entL) _ hx) ?_ (fun _ _ _ _ h => by obtain ⟨_, _, h, _⟩ := h; cases h) (fun _ _ h => by obtain ⟨_, _, h, _⟩ := h; cases h))
    intro v82 I83 H84 hle85 hn81 hp86
    have hIJ := hIJ.mono hle85
    have hx := hx.mono hle85
    have hx2 := hx2.mono hle85
    have hrg := hrg.mono hle85
    have hrh := hrh.mono hle85
    obtain ⟨gi, hgi, h, rfl⟩ := hp86; cases h
    refine J.keepR recC_len (by decide) (hgi.base hn81) (by simp) (fun Ii hlei hri => ?_)
    have hIJ := hIJ.mono hlei
    have hx := hx.mono hlei
    have hx2 := hx2.mono hlei
    have hrg := hrg.mono hlei
    have hrh := hrh.mono hlei
    refine J.opG 12 121 true _ rfl rfl rfl rfl (op_yld (yl_move rfl rfl) rfl rfl ?_)
    refine J.opG 12 121 true _ rfl rfl rfl rfl (op_callN rfl rfl rfl rfl rfl (Titles_ok ib2 (es.map entL) _ hx2) ?_ (fun _ _ _ _ h => by obtain ⟨_, _, h, _⟩ := h; cases h) (fun _ _ h => by obtain ⟨_, _, h, _⟩ := h; cases h))
    intro v88 I89 H90 hle91 hn87 hp92
    have hIJ := hIJ.mono hle91
    have hx := hx.mono hle91
    have hx2 := hx2.mono hle91
    have hrg := hrg.mono hle91
    have hrh := hrh.mono hle91
    have hri := hri.mono hle91
    obtain ⟨gj, hgj, h, rfl⟩ := hp92; cases h
    refine J.keepR recC_len (by decide) (hgj.base hn87) (by simp) (fun Ij hlej hrj => ?_)
    have hIJ := hIJ.mono hlej
    have hx := hx.mono hlej
    have hx2 := hx2.mono hlej
    have hrg := hrg.mono hlej
    have hrh := hrh.mono hlej
    have hri := hri.mono hlej
    refine J.opG 12 121 true _ rfl rfl rfl rfl (op_pure rfl rfl rfl rfl rfl (rRecs_ok ((es.map entL).map Prod.fst) ((es.map entL).map Prod.fst) _ _ (by rw [List.length_map, List.length_map]; omega) _ hri hrj) ?_)
    refine J.eqv 126 rfl (show _ = .bool true from (congrArg Value.bool (decide_eq_true rfl))) ?_
    refine J.z (yl_pick1 rfl rfl rfl rfl) ?_
    refine J.z (yl_assign rfl rfl) ?_
    refine J.nil (Ej.seq (Cj.ret (Ej.ret1 rfl rfl rfl ?_)))
    exact ⟨rfl, rfl⟩
 ·
  have hg15p := of_decide_eq_false hg15
  refine J.skip 4 29 30 true _ rfl rfl rfl hg15 rfl rfl ?_
  refine J.skip 4 29 31 true _ rfl rfl rfl hg15 rfl rfl ?_
  refine J.skip 4 29 32 true _ rfl rfl rfl hg15 rfl rfl ?_
  refine J.z (yl_pick0 rfl rfl hg15 rfl) ?_
  refine J.nil (Ej.seq (Cj.cond rfl (fun hc93 => Bool.noConfusion (Eq.trans (Eq.symm rfl) hc93)) (fun hc93 => ?_)))
  refine Cj.exit (Ej.seqExit (Ej.loopExit (Ej.blkExit (Ej.seq (Cj.seq (Cj.perm (H' := gH 37 _ g ++ []) (.of_eq (List.append_nil _)) ?_))))))
  have hgz : gOk w0.heap.size 5 zs.length (zs.flatMap entC) g := by rw [hzl]; exact hg
  refine Cj.keepR entC_len (by decide) hgz rfl (fun I8 hle8 hv => ?_)
  have hA := hA.mono hle8
  have hO := hO.mono hle8
  have hx := hx.mono hle8
  have hy := hy.mono hle8
  have hrb := hle8 _ _ hrb
  have hE := hE.mono hle8
  have hE1 : EntsS I8 zs (gV zs.length g) := ⟨hv, fun e he => hE.2 e (hp.mem_iff.1 he)⟩
  have hek1 : ∀ e ∈ zs, EOK e.fs := fun e he => hek e (hp.mem_iff.1 he)
  have hput : Ix.rputs (zs.map entL) [] = es.map entL := Ix.rputs_perm hsrt (hp.map _)
  refine Cj.eqv 9 rfl (show _ = gV zs.length g from by rw [hzl]) ?_
  refine Cj.region (J.z (yl_move rfl rfl) ?_)
  refine J.op rfl (op_callN rfl rfl rfl rfl rfl (Build_ok (zs) _ (by omega) hek1 _ hE1) ?_ (fun _ _ _ _ h => by obtain ⟨_, _, h, _⟩ := h; cases h) (fun _ _ h => by obtain ⟨_, _, h, _⟩ := h; cases h))
  intro v95 I96 H97 hle98 hn94 hp99
  have hA := hA.mono hle98
  have hO := hO.mono hle98
  have hx := hx.mono hle98
  have hy := hy.mono hle98
  have hrb := hle98 _ _ hrb
  have hE := hE.mono hle98
  have hE1 := hE1.mono hle98
  obtain ⟨ib2, o2, h, hok, rfl⟩ := hp99; cases h
  refine J.persists (ixH ib2 o2) hn94 (fun Ip2 hlep hK => ?_)
  have hA := hA.mono hlep
  have hO := hO.mono hlep
  have hx := hx.mono hlep
  have hy := hy.mono hlep
  have hrb := hlep _ _ hrb
  have hE := hE.mono hlep
  have hE1 := hE1.mono hlep
  have hx2 : IxP Ip2 ib2 (Ix.rputs ((zs).map entL) []) := ⟨o2, hok.mono hlep, hK⟩
  clear hok hK
  rw [hput] at hx2
  refine J.z (yl_assign rfl rfl) ?_
  refine J.nil (Ej.seq (Cj.seq (Cj.seq (Cj.region (J.z (yl_move rfl rfl) ?_)))))
  refine J.nil (Ej.seq (Cj.block (Cj.loop (ι := Nat × Heap) (fun y => y.1 ≤ 20 ∧ Le Ip2 y.2) (fun y => 20 - y.1) (fun y => [(2, u8 n), (7, .bool true), (8, ptr ib 0), (12, ptr ib2 0), (63, i64 (y.1 : Int))]) (fun y => y.2) (fun y => []) (0, _) ⟨Nat.zero_le _, Le.refl _⟩ ⟨rfl, rfl, rfl, rfl, rfl, trivial⟩ rfl rfl ?_)))
  rintro ⟨k, J1⟩ ⟨hk, hIJ⟩
  dsimp only at hk hIJ ⊢
  have hx := hx.mono hIJ
  have hx2 := hx2.mono hIJ
  refine Cj.seq (Cj.region (J.z (yl_lss rfl rfl rfl) ?_))
  refine J.nil (Ej.seq (Cj.seq (Cj.cond rfl (fun hc100 => ?_) (fun hc100 => ?_))))
  ·
   have hc100p := of_decide_eq_true hc100
   refine Cj.skip (Ej.seq (Cj.seq (Cj.block (Cj.seq ?_))))
   have hw1 := word_small es (nameN n) (Ix.textN (k : Int))
   have hw2 := phrase_small es (nameN n) (Ke.words (Ix.textN (k : Int)))
   have hw3 := withK_len es (nameN n) (Ix.keyOf (nameN n) (Ix.textN (k : Int)))
   refine Cj.region (J.z (yl_move rfl rfl) ?_)
   refine J.z (yl_assign rfl rfl) ?_
   refine J.nil (Ej.seq (Cj.seq (Cj.region (J.z (yl_move rfl rfl) ?_))))
   refine J.op rfl (op_pure rfl rfl rfl rfl rfl (nText_ok (k : Int) _) ?_)
   refine J.z (yl_assign rfl rfl) ?_
   refine J.nil (Ej.seq (Cj.seq (Cj.region (J.z (yl_move rfl rfl) ?_))))
   refine J.z (yl_move rfl rfl) ?_
   refine J.op rfl (op_pure rfl rfl rfl rfl rfl (name_ok n _) ?_)
   refine J.z (yl_move rfl rfl) ?_
   refine J.op rfl (op_callN rfl rfl rfl rfl rfl (Word_ok ib (es.map entL) (nameN n) (Ix.textN (k : Int)) (textN_small k) _ hx) ?_ (fun _ _ _ _ h => by obtain ⟨_, h, _⟩ := h; cases h) (fun _ _ h => by obtain ⟨_, h, _⟩ := h; cases h))
   intro v102 I103 H104 hle105 hn101 hp106
   have hIJ := hIJ.mono hle105
   have hx := hx.mono hle105
   have hx2 := hx2.mono hle105
   obtain ⟨wa, h, hoa⟩ := hp106; cases h
   refine J.keepO hoa hn101 (fun Ia hlea hra => ?_)
   have hIJ := hIJ.mono hlea
   have hx := hx.mono hlea
   have hx2 := hx2.mono hlea
   replace hra := hra.row
   refine J.z (yl_move rfl rfl) ?_
   refine J.z (yl_move rfl rfl) ?_
   refine J.op rfl (op_pure rfl rfl rfl rfl rfl (name_ok n _) ?_)
   refine J.z (yl_move rfl rfl) ?_
   refine J.op rfl (op_callN rfl rfl rfl rfl rfl (Word_ok ib2 (es.map entL) (nameN n) (Ix.textN (k : Int)) (textN_small k) _ hx2) ?_ (fun _ _ _ _ h => by obtain ⟨_, h, _⟩ := h; cases h) (fun _ _ h => by obtain ⟨_, h, _⟩ := h; cases h))
   intro v108 I109 H110 hle111 hn107 hp112
   have hIJ := hIJ.mono hle111
   have hx := hx.mono hle111
   have hx2 := hx2.mono hle111
   have hra := hra.mono hle111
   obtain ⟨wb, h, hob⟩ := hp112; cases h
   refine J.keepO hob hn107 (fun Ib hleb hrb => ?_)
   have hIJ := hIJ.mono hleb
   have hx := hx.mono hleb
   have hx2 := hx2.mono hleb
   have hra := hra.mono hleb
   replace hrb := hrb.row
   refine J.op rfl (op_pure rfl rfl rfl rfl rfl (rRecs_ok (Ix.word (es.map entL) (nameN n) (Ix.textN (k : Int))) (Ix.word (es.map entL) (nameN n) (Ix.textN (k : Int))) _ _ (by omega) _ hra hrb) ?_)
   refine J.eqv 78 rfl (show _ = .bool true from (congrArg Value.bool (decide_eq_true rfl))) ?_
   refine J.z (yl_not rfl rfl) ?_
   refine J.z (yl_move rfl rfl) ?_
   refine J.opG 12 80 false _ rfl rfl rfl (congrArg not rfl) (op_yld (yl_move rfl rfl) rfl rfl ?_)
   refine J.opG 12 80 false _ rfl rfl rfl (congrArg not rfl) (op_yld (yl_move rfl rfl) rfl rfl ?_)
   refine J.opG 12 80 false _ rfl rfl rfl (congrArg not rfl) (op_pure rfl rfl rfl rfl rfl (name_ok n _) ?_)
   refine J.opG 12 80 false _ rfl rfl rfl (congrArg not rfl) (op_yld (yl_move rfl rfl) rfl rfl ?_)
   refine J.opG 12 80 false _ rfl rfl rfl (congrArg not rfl) (op_callN rfl rfl rfl rfl rfl (Phrase_ok ib (es.map entL) (nameN n) (Ix.textN (k : Int)) (textN_small k) _ hx) ?_ (fun _ _ _ _ h => by obtain ⟨_, h, _⟩ := h; cases h) (fun _ _ h => by obtain ⟨_, h, _⟩ := h; cases h))
   intro v114 I115 H116 hle117 hn113 hp118
   have hIJ := hIJ.mono hle117
   have hx := hx.mono hle117
   have hx2 := hx2.mono hle117
   have hra := hra.mono hle117
   have hrb := hrb.mono hle117
   obtain ⟨wc, h, hoc⟩ := hp118; cases h
   refine J.keepO hoc hn113 (fun Ic hlec hrc => ?_)
   have hIJ := hIJ.mono hlec
   have hx := hx.mono hlec
   have hx2 := hx2.mono hlec
   have hra := hra.mono hlec
   have hrb := hrb.mono hlec
   replace hrc := hrc.row
   refine J.opG 12 80 false _ rfl rfl rfl (congrArg not rfl) (op_yld (yl_move rfl rfl) rfl rfl ?_)
   refine J.opG 12 80 false _ rfl rfl rfl (congrArg not rfl) (op_yld (yl_move rfl rfl) rfl rfl ?_)
   refine J.opG 12 80 false _ rfl rfl rfl (congrArg not rfl) (op_pure rfl rfl rfl rfl rfl (name_ok n _) ?_)
   refine J.opG 12 80 false _ rfl rfl rfl (congrArg not rfl) (op_yld (yl_move rfl rfl) rfl rfl ?_)
   refine J.opG 12 80 false _ rfl rfl rfl (congrArg not rfl) (op_callN rfl rfl rfl rfl rfl (Phrase_ok ib2 (es.map entL) (nameN n) (Ix.textN (k : Int)) (textN_small k) _ hx2) ?_ (fun _ _ _ _ h => by obtain ⟨_, h, _⟩ := h; cases h) (fun _ _ h => by obtain ⟨_, h, _⟩ := h; cases h))
   intro v120 I121 H122 hle123 hn119 hp124
   have hIJ := hIJ.mono hle123
   have hx := hx.mono hle123
   have hx2 := hx2.mono hle123
   have hra := hra.mono hle123
   have hrb := hrb.mono hle123
   have hrc := hrc.mono hle123
   obtain ⟨wd, h, hod⟩ := hp124; cases h
   refine J.keepO hod hn119 (fun Id hled hrd => ?_)
   have hIJ := hIJ.mono hled
   have hx := hx.mono hled
   have hx2 := hx2.mono hled
   have hra := hra.mono hled
   have hrb := hrb.mono hled
   have hrc := hrc.mono hled
   replace hrd := hrd.row
   refine J.opG 12 80 false _ rfl rfl rfl (congrArg not rfl) (op_pure rfl rfl rfl rfl rfl (rRecs_ok (Ix.phrase (es.map entL) (nameN n) (Ke.words (Ix.textN (k : Int)))) (Ix.phrase (es.map entL) (nameN n) (Ke.words (Ix.textN (k : Int)))) _ _ (by omega) _ hrc hrd) ?_)
   refine J.eqv 91 rfl (show _ = .bool true from (congrArg Value.bool (decide_eq_true rfl))) ?_
   refine J.opG 12 80 false _ rfl rfl rfl (congrArg not rfl) (op_yld (yl_not rfl rfl) rfl rfl ?_)
   refine J.z (yl_pick0 rfl rfl (congrArg not rfl) rfl) ?_
   refine J.z (yl_move rfl rfl) ?_
   refine J.opG 26 94 false _ rfl rfl rfl (congrArg not rfl) (op_yld (yl_move rfl rfl) rfl rfl ?_)
   refine J.opG 26 94 false _ rfl rfl rfl (congrArg not rfl) (op_yld (yl_move rfl rfl) rfl rfl ?_)
   refine J.opG 26 94 false _ rfl rfl rfl (congrArg not rfl) (op_pure rfl rfl rfl rfl rfl (name_ok n _) ?_)
   refine J.opG 26 94 false _ rfl rfl rfl (congrArg not rfl) (op_yld (yl_move rfl rfl) rfl rfl ?_)
   refine J.opG 26 94 false _ rfl rfl rfl (congrArg not rfl) (op_callN rfl rfl rfl rfl rfl (Key_ok ib (es.map entL) (nameN n) (Ix.textN (k : Int)) (textN_small k) _ hx) ?_ (fun _ _ _ _ h => by obtain ⟨_, h, _⟩ := h; cases h) (fun _ _ h => by obtain ⟨_, h, _⟩ := h; cases h))
   intro v126 I127 H128 hle129 hn125 hp130
   have hIJ := hIJ.mono hle129
   have hx := hx.mono hle129
   have hx2 := hx2.mono hle129
   have hra := hra.mono hle129
   have hrb := hrb.mono hle129
   have hrc := hrc.mono hle129
   have hrd := hrd.mono hle129
   obtain ⟨we, h, hoe⟩ := hp130; cases h
   refine J.keepO hoe hn125 (fun Ie hlee hre => ?_)
   have hIJ := hIJ.mono hlee
   have hx := hx.mono hlee
   have hx2 := hx2.mono hlee
   have hra := hra.mono hlee
   have hrb := hrb.mono hlee
   have hrc := hrc.mono hlee
   have hrd := hrd.mono hlee
   replace hre := hre.row
   refine J.opG 26 94 false _ rfl rfl rfl (congrArg not rfl) (op_yld (yl_move rfl rfl) rfl rfl ?_)
   refine J.opG 26 94 false _ rfl rfl rfl (congrArg not rfl) (op_yld (yl_move rfl rfl) rfl rfl ?_)
   refine J.opG 26 94 false _ rfl rfl rfl (congrArg not rfl) (op_pure rfl rfl rfl rfl rfl (name_ok n _) ?_)
   refine J.opG 26 94 false _ rfl rfl rfl (congrArg not rfl) (op_yld (yl_move rfl rfl) rfl rfl ?_)
   refine J.opG 26 94 false _ rfl rfl rfl (congrArg not rfl) (op_callN rfl rfl rfl rfl rfl (Key_ok ib2 (es.map entL) (nameN n) (Ix.textN (k : Int)) (textN_small k) _ hx2) ?_ (fun _ _ _ _ h => by obtain ⟨_, h, _⟩ := h; cases h) (fun _ _ h => by obtain ⟨_, h, _⟩ := h; cases h))
   intro v132 I133 H134 hle135 hn131 hp136
   have hIJ := hIJ.mono hle135
   have hx := hx.mono hle135
   have hx2 := hx2.mono hle135
   have hra := hra.mono hle135
   have hrb := hrb.mono hle135
   have hrc := hrc.mono hle135
   have hrd := hrd.mono hle135
   have hre := hre.mono hle135
   obtain ⟨wf, h, hof⟩ := hp136; cases h
   refine J.keepO hof hn131 (fun If hlef hrf => ?_)
   have hIJ := hIJ.mono hlef
   have hx := hx.mono hlef
   have hx2 := hx2.mono hlef
   have hra := hra.mono hlef
   have hrb := hrb.mono hlef
   have hrc := hrc.mono hlef
   have hrd := hrd.mono hlef
   have hre := hre.mono hlef
   replace hrf := hrf.row
   refine J.opG 26 94 false _ rfl rfl rfl (congrArg not rfl) (op_pure rfl rfl rfl rfl rfl (rRecs_ok (Ix.withK (es.map entL) (nameN n) (Ix.keyOf (nameN n) (Ix.textN (k : Int)))) (Ix.withK (es.map entL) (nameN n) (Ix.keyOf (nameN n) (Ix.textN (k : Int)))) _ _ (by omega) _ hre hrf) ?_)
   refine J.eqv 105 rfl (show _ = .bool true from (congrArg Value.bool (decide_eq_true rfl))) ?_
   refine J.opG 26 94 false _ rfl rfl rfl (congrArg not rfl) (op_yld (yl_not rfl rfl) rfl rfl ?_)
   refine J.z (yl_pick0 rfl rfl (congrArg not rfl) rfl) ?_
   refine J.nil (Ej.seq (Cj.cond rfl (fun hc137 => Bool.noConfusion (Eq.trans (Eq.symm (congrArg not rfl)) hc137)) (fun hc137 => ?_)))
   refine Cj.skip (Ej.blkNormal (Ej.seq (Cj.region (J.z (yl_add rfl rfl rfl (w64 (by omega))) ?_))))
   refine J.z (yl_move rfl rfl) ?_
   refine J.nil (Ej.round (k + 1, _) ⟨by dsimp only; omega, hIJ⟩ (by dsimp only; omega) ⟨rfl, rfl, rfl, rfl, rfl, trivial⟩ rfl rfl)
  ·
   have hc100p := of_decide_eq_false hc100
   refine Cj.exit (Ej.seqExit (Ej.loopExit (Ej.blkExit (Ej.seq (Cj.seq (Cj.region (J.z (yl_move rfl rfl) ?_)))))))
   refine J.z (yl_move rfl rfl) ?_
   refine J.opG 1 110 true _ rfl rfl rfl rfl (op_yld (yl_move rfl rfl) rfl rfl ?_)
   refine J.opG 1 110 true _ rfl rfl rfl rfl (op_yld (yl_move rfl rfl) rfl rfl ?_)
   refine J.opG 1 110 true _ rfl rfl rfl rfl (op_pure rfl rfl rfl rfl rfl (name_ok n _) ?_)
   refine J.opG 1 110 true _ rfl rfl rfl rfl (op_callN rfl rfl rfl rfl rfl (Scan_ok ib (es.map entL) (nameN n) [] (by decide) 1000 _ hx) ?_ (fun _ _ _ _ h => by obtain ⟨_, h, _⟩ := h; cases h) (fun _ _ h => by obtain ⟨_, h, _⟩ := h; cases h))
   intro v139 I140 H141 hle142 hn138 hp143
   have hIJ := hIJ.mono hle142
   have hx := hx.mono hle142
   have hx2 := hx2.mono hle142
   obtain ⟨wg, h, hog⟩ := hp143; cases h
   refine J.keepO hog hn138 (fun Ig hleg hrg => ?_)
   have hIJ := hIJ.mono hleg
   have hx := hx.mono hleg
   have hx2 := hx2.mono hleg
   replace hrg := hrg.row
   refine J.opG 1 110 true _ rfl rfl rfl rfl (op_yld (yl_move rfl rfl) rfl rfl ?_)
   refine J.opG 1 110 true _ rfl rfl rfl rfl (op_yld (yl_move rfl rfl) rfl rfl ?_)
   refine J.opG 1 110 true _ rfl rfl rfl rfl (op_pure rfl rfl rfl rfl rfl (name_ok n _) ?_)
   refine J.opG 1 110 true _ rfl rfl rfl rfl (op_callN rfl rfl rfl rfl rfl (Scan_ok ib2 (es.map entL) (nameN n) [] (by decide) 1000 _ hx2) ?_ (fun _ _ _ _ h => by obtain ⟨_, h, _⟩ := h; cases h) (fun _ _ h => by obtain ⟨_, h, _⟩ := h; cases h))
   intro v145 I146 H147 hle148 hn144 hp149
   have hIJ := hIJ.mono hle148
   have hx := hx.mono hle148
   have hx2 := hx2.mono hle148
   have hrg := hrg.mono hle148
   obtain ⟨wh, h, hoh⟩ := hp149; cases h
   refine J.keepO hoh hn144 (fun Ih hleh hrh => ?_)
   have hIJ := hIJ.mono hleh
   have hx := hx.mono hleh
   have hx2 := hx2.mono hleh
   have hrg := hrg.mono hleh
   replace hrh := hrh.row
   refine J.opG 1 110 true _ rfl rfl rfl rfl (op_pure rfl rfl rfl rfl rfl (rLines_ok ((Ix.scan (es.map entL) (nameN n) [] 1000).map lineI) ((Ix.scan (es.map entL) (nameN n) [] 1000).map lineI) _ _ (by have := scan_small (es.map entL) (nameN n) [] 1000; omega) _ hrg hrh) ?_)
   refine J.eqv 119 rfl (show _ = .bool true from (congrArg Value.bool (decide_eq_true rfl))) ?_
   refine J.z (yl_pick1 rfl rfl rfl rfl) ?_
   refine J.z (yl_move rfl rfl) ?_
   refine J.opG 12 121 true _ rfl rfl rfl rfl (op_yld (yl_move rfl rfl) rfl rfl ?_)
   refine J.opG 12 121 true _ rfl rfl rfl rfl (op_callN rfl rfl rfl rfl rfl (Titles_ok ib (es.map entL) _ hx) ?_ (fun _ _ _ _ h => by obtain ⟨_, _, h, _⟩ := h; cases h) (fun _ _ h => by obtain ⟨_, _, h, _⟩ := h; cases h))
   intro v151 I152 H153 hle154 hn150 hp155
   have hIJ := hIJ.mono hle154
   have hx := hx.mono hle154
   have hx2 := hx2.mono hle154
   have hrg := hrg.mono hle154
   have hrh := hrh.mono hle154
   obtain ⟨gi, hgi, h, rfl⟩ := hp155; cases h
   refine J.keepR recC_len (by decide) (hgi.base hn150) (by simp) (fun Ii hlei hri => ?_)
   have hIJ := hIJ.mono hlei
   have hx := hx.mono hlei
   have hx2 := hx2.mono hlei
   have hrg := hrg.mono hlei
   have hrh := hrh.mono hlei
   refine J.opG 12 121 true _ rfl rfl rfl rfl (op_yld (yl_move rfl rfl) rfl rfl ?_)
   refine J.opG 12 121 true _ rfl rfl rfl rfl (op_callN rfl rfl rfl rfl rfl (Titles_ok ib2 (es.map entL) _ hx2) ?_ (fun _ _ _ _ h => by obtain ⟨_, _, h, _⟩ := h; cases h) (fun _ _ h => by obtain ⟨_, _, h, _⟩ := h; cases h))
   intro v157 I158 H159 hle160 hn156 hp161
   have hIJ := hIJ.mono hle160
   have hx := hx.mono hle160
   have hx2 := hx2.mono hle160
   have hrg := hrg.mono hle160
   have hrh := hrh.mono hle160
   have hri := hri.mono hle160
   obtain ⟨gj, hgj, h, rfl⟩ := hp161; cases h
   refine J.keepR recC_len (by decide) (hgj.base hn156) (by simp) (fun Ij hlej hrj => ?_)
   have hIJ := hIJ.mono hlej
   have hx := hx.mono hlej
   have hx2 := hx2.mono hlej
   have hrg := hrg.mono hlej
   have hrh := hrh.mono hlej
   have hri := hri.mono hlej
   refine J.opG 12 121 true _ rfl rfl rfl rfl (op_pure rfl rfl rfl rfl rfl (rRecs_ok ((es.map entL).map Prod.fst) ((es.map entL).map Prod.fst) _ _ (by rw [List.length_map, List.length_map]; omega) _ hri hrj) ?_)
   refine J.eqv 126 rfl (show _ = .bool true from (congrArg Value.bool (decide_eq_true rfl))) ?_
   refine J.z (yl_pick1 rfl rfl rfl rfl) ?_
   refine J.z (yl_assign rfl rfl) ?_
   refine J.nil (Ej.seq (Cj.ret (Ej.ret1 rfl rfl rfl ?_)))
   exact ⟨rfl, rfl⟩
end Go.Proofs.YtjcdfnbomkoheaaGreatDoor
