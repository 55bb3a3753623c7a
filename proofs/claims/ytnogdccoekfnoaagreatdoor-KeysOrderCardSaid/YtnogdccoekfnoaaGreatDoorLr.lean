/-
  The laws' record. Own text, printed by a program. Conditions: none.
-/
import Derived.Test.YtnogdccoekfnoaaGreatDoorRe
import Derived.Test.YtnogdccoekfnoaaGreatDoorNu
import Derived.Test.YtnogdccoekfnoaaGreatDoorRc
import Derived.Test.YtnogdccoekfnoaaGreatDoorSxKeep
namespace Go.Proofs.YtnogdccoekfnoaaGreatDoor
open Go Go.Sx
/-- A row of numbers, with the value that stands for it. -/
structure Xs where
  l : List Int
  v : Value
/-- A piece, with the value that stands for its rows. -/
structure Pc where
  tag : UInt8
  i0 : UInt8
  i1 : UInt8
  sv : Value
  subs : List Xs
def pcC (p : Pc) : List Value := [u8 p.tag, u8 p.i0, u8 p.i1, p.sv]
def xsC (x : Xs) : List Value := [x.v]
theorem pcC_len (p : Pc) : (pcC p).length = 4 := rfl
theorem xsC_len (x : Xs) : (xsC x).length = 1 := rfl
def PcS (I : Heap) (ps : List Pc) (v : Value) : Prop := RowS pcC I ps v ∧ ∀ p ∈ ps, RowS xsC I p.subs p.sv ∧ ∀ x ∈ p.subs, IntP I x.l x.v
theorem PcS.mono {I I' : Heap} {ps : List Pc} {v : Value} (h : PcS I ps v) (hle : Le I I') : PcS I' ps v := ⟨h.1.mono hle, fun p hp => ⟨(h.2 p hp).1.mono hle, fun x hx => RowS.mono ((h.2 p hp).2 x hx) hle⟩⟩
def Fok (f : Ke.Fld) : Prop := f.subs.length ≤ 6 ∧ textsLen f.subs ≤ 1500 ∧ f.ind.length ≤ 2
def GoodS (I : Heap) (fs : List Ke.Fld) : Prop := ∀ f ∈ fs, RowS subC I f.subs f.sv ∧ Fok f
theorem GoodS.mono {I I' : Heap} {fs : List Ke.Fld} (h : GoodS I fs) (hle : Le I I') : GoodS I' fs := fun f hf => ⟨(h f hf).1.mono hle, (h f hf).2⟩
theorem GoodS.add {I : Heap} {fs : List Ke.Fld} {f : Ke.Fld} (h : GoodS I fs) (h1 : RowS subC I f.subs f.sv) (h2 : Fok f) : GoodS I (fs ++ [f]) := fun x hx => by
  rcases List.mem_append.1 hx with hx | hx
  · exact h x hx
  · rw [List.mem_singleton.1 hx]; exact ⟨h1, h2⟩
def Small (fs : List Ke.Fld) : Prop := fs.length ≤ 12 ∧ ∀ f ∈ fs, Fok f
theorem Small.ok {fs : List Ke.Fld} (h : Small fs) : FOK fs := ⟨by have := h.1; omega, fun f hf => by obtain ⟨h1, h2, h3⟩ := h.2 f hf; exact ⟨by omega, by omega, by omega⟩⟩
def tagsL : List (List UInt8) := [[48, 50, 48], [49, 48, 48], [50, 52, 53], [50, 52, 53], [55, 48, 48], [48, 50, 48]]
theorem tag_at (n : Nat) : (tagsL.map str)[n % 6]? = some (str (tagsL.getD (n % 6) [])) := by
  have h : n % 6 < tagsL.length := Nat.mod_lt _ (by decide)
  rw [List.getElem?_map, List.getD, List.getElem?_eq_getElem h]; rfl
theorem at_mod {s : List UInt8} {k : Nat} (hk : s.length = k) (h0 : 0 < k) (n : Nat) : s[n % k]? = some (s.getD (n % k) 0) := by
  have h : n % k < s.length := by rw [hk]; exact Nat.mod_lt _ h0
  rw [List.getD, List.getElem?_eq_getElem h]; rfl
def toU8 (n : Int) : UInt8 := UInt8.ofNat (n % 256).toNat
theorem conv_u8 (n : Int) : IntKind.u8.wrap n = ((toU8 n).toNat : Int) := by
  have h : (toU8 n).toNat = (n % 256).toNat := by unfold toU8; rw [UInt8.toNat_ofNat_of_lt' (show _ < 256 by omega)]
  rw [h]
  simp [IntKind.wrap, IntKind.bits, IntKind.signed]; omega
theorem texts_one (ss : List Ke.Sub) (c : UInt8) (t : List UInt8) : textsLen (ss ++ [⟨c, t⟩]) = textsLen ss + t.length := by simp [textsLen]
theorem numb_len2 (l : List UInt8) (hl : l.length = 12) (q0 q1 q2 q3 : UInt8) : (Ke.numb l q0 q1 q2 q3).length ≤ 100 := by
  rw [numb_eq rfl rfl]
  have h1 := sep_len (m := q1.toNat / 2 % 4)
  have h2 := tail_len (m := q3.toNat / 16 % 4)
  simp only [List.length_append, List.length_take, List.length_drop, List.length_cons, List.length_nil]
  have h3 : (if q0.toNat % 2 = 1 then (l.map Ke.dgt).take 9 else l.map Ke.dgt).length ≤ 12 := by split <;> simp <;> omega
  omega
theorem xs_at {cs sp : List Value} {o : Nat} {l : List Xs} (h : cs.drop o = l.flatMap xsC ++ sp) {k : Nat} {x : Xs} (hx : l[k]? = some x) : cs[o + k]? = some x.v := by
  have := row_fcell (f := xsC) (n := 1) xsC_len h hx 0 (by decide)
  simpa [xsC] using this

set_option maxRecDepth 20000 in
set_option maxHeartbeats 2000000 in
theorem record_ok (ps : List Pc) (v : Value) (I0 : Heap) (hP0 : PcS I0 ps v) : Ctr Tryz.prog 27 [v] I0 [] (fun e I' H' => ∃ fs w, e = .returned (recV 97 109 w) ∧ RecS I' fs w ∧ Small fs ∧ H' = []) := by
 obtain ⟨p, c, rfl, hc, -⟩ := id hP0.1
 refine Ctr.of_body Tryz.func27 rfl (by decide) (Nat.le_of_ble_eq_true rfl) ?_
 intro w0 hw0
 refine Cj.seq (Cj.region (J.op rfl (op_alloc rfl rfl rfl Tryz.zeroValue51 rfl ?_)))
 intro b1 hb1
 refine J.nil (Ej.seq (Cj.seq (Cj.region (J.op rfl (op_buildSlice rfl rfl rfl Tryz.underlying27 Tryz.sizeOf9 Tryz.zeroValue9 rfl rfl rfl rfl (LCat.one rfl (LCat.one rfl (LCat.one rfl (LCat.one rfl (LCat.one rfl (LCat.one rfl LCat.none)))))) ?_)))))
 intro b2 hb2
 refine J.z (yl_assign rfl rfl) ?_
 refine J.nil (Ej.seq (Cj.seq (Cj.region (J.z (yl_buildS (pl := #[(0, 1), (1, 1), (2, 1)]) rfl rfl Tryz.zeroValue51 rfl Tryz.underlying51 (fun w => by simp [Tryz.sizeOf49, Tryz.sizeOf5]) (LBld.part rfl rfl rfl (LSpl.c LSpl.z) (LBld.part rfl rfl rfl (LSpl.s (LSpl.c LSpl.z)) LBld.none))) ?_))))
 refine J.op rfl (op_alloc rfl rfl rfl Tryz.zeroValue51 rfl ?_)
 intro b3 hb3
 refine J.op rfl (op_store 0 rfl rfl rfl rfl rfl rfl Tryz.sizeOf51 rfl rfl (LSpl.c (LSpl.c (LSpl.c LSpl.z))) LSet.z ?_)
 refine J.nil (Ej.seq (Cj.seq (Cj.seq (Cj.region (J.z (yl_assign rfl rfl) ?_)))))
 refine J.nil (Ej.seq (Cj.block (Cj.loop (ι := Nat × Heap × List Ke.Fld × Gs) (fun y => y.1 ≤ ps.length ∧ y.1 ≤ 12 ∧ Le I0 y.2.1 ∧ y.2.2.1.length = y.1 ∧ GoodS y.2.1 y.2.2.1 ∧ gOk w0.heap.size 4 y.1 (y.2.2.1.flatMap fldC) y.2.2.2) (fun y => 12 - y.1) (fun y => [(0, .slice p ps.length c), (2, ptr b1 0), (3, .slice (some ⟨b2, 0, none⟩) 6 6), (4, ptr b3 0), (5, i64 (y.1 : Int))]) (fun y => y.2.1) (fun y => (b3, cel 51 [u8 97, u8 109, gV y.1 y.2.2.2]) :: (b2, cel 9 (tagsL.map str)) :: (b1, cel 51 [u8 0, u8 0, .slice none 0 0]) :: gH 58 (y.2.2.1.flatMap fldC) y.2.2.2) (0, _, [], none) ⟨Nat.zero_le _, Nat.zero_le _, Le.refl _, rfl, (fun f hf => by cases hf), rfl, rfl⟩ ⟨rfl, rfl, rfl, rfl, rfl, trivial⟩ rfl rfl ?_)))
 rintro ⟨k, Jh, fs, g⟩ ⟨hk, hk2, hIJ, hfl, hG, hg⟩
 dsimp only at hk hk2 hIJ hfl hG hg ⊢
 have hP := hP0.mono hIJ
 refine Cj.seq (Cj.seq (Cj.region (J.z (yl_move rfl rfl) ?_)))
 refine J.z (yl_move rfl rfl) ?_
 refine J.z (yl_lenSlice rfl rfl Tryz.underlying48) ?_
 refine J.z (yl_lss rfl rfl rfl) ?_
 refine J.z (yl_move rfl rfl) ?_
 refine J.split 16 rfl (fun hg4 => ?_) (fun hg4 => ?_)
 ·
  have hg4p := of_decide_eq_true hg4
  refine J.opG 4 16 true _ rfl rfl rfl hg4 (op_yld (yl_move rfl rfl) rfl rfl ?_)
  refine J.opG 4 16 true _ rfl rfl rfl hg4 (op_yld (yl_lss rfl rfl rfl) rfl rfl ?_)
  refine J.z (yl_pick1 rfl rfl hg4 rfl) ?_
  refine J.nil (Ej.seq (Cj.cond rfl (fun hc5 => ?_) (fun hc5 => ?_)))
  ·
   have hc5p := of_decide_eq_true hc5
   refine Cj.skip (Ej.seq (Cj.seq (Cj.block (Cj.seq ?_))))
   have hlt : k < ps.length := by omega
   have hlt2 : k < 12 := by omega
   obtain ⟨q, hpget⟩ : ∃ q, ps[k]? = some q := ⟨_, List.getElem?_eq_getElem hlt⟩
   obtain ⟨⟨pp, pc, hpe, hpc, hpp⟩, hPs⟩ := hP
   cases hpe
   obtain ⟨pb, po, pcs, pty, pfr, psp, rfl, hpb, hpd⟩ := hpp (ne_nil_of hlt)
   obtain ⟨hqr, hqx⟩ := hPs q (List.mem_of_getElem? hpget)
   obtain ⟨p3, c3, hqsv, hqc, hqp⟩ := hqr
   refine Cj.drawSel [0, 1, 2] [] 30 (by kernel_rfl) ?_
   refine JA.fix ⟨(HSub.c 0 rfl (HSub.c 1 rfl (HSub.c 2 rfl HSub.n))), CSub.n, (Le.refl _)⟩ (fun fx6 => ?_)
   refine JA.tk 0 rfl fx6 (yl_move rfl rfl) ?_
   refine JA.tk 1 rfl fx6 (yl_move rfl rfl) ?_
   refine JA.tk 2 rfl fx6 (yl_move rfl rfl) ?_
   refine JA.tk 3 rfl fx6 (yl_indexAddr (off' := po + k * 4) rfl rfl rfl Tryz.underlying48 Tryz.sizeOf78 (by omega) (by omega) (by simp)) ?_
   refine JA.tk 4 rfl fx6 (yl_fieldAddr rfl rfl Tryz.underlying78 rfl Tryz.sizeOf5 rfl) ?_
   refine JA.tk 5 rfl fx6 (yl_load rfl rfl Tryz.isAgg5 (Blk.immC hpb) (row_fcell pcC_len hpd hpget 0 (by decide))) ?_
   refine JA.tk 6 rfl fx6 (yl_rem rfl rfl rfl (by decide)) ?_
   refine JA.eqv 28 rfl (show _ = .int .u8 ((q.tag.toNat % 6 : Nat) : Int) from rfl) ?_
   refine JA.tk 7 rfl fx6 (yl_indexAddr (off' := q.tag.toNat % 6) rfl rfl rfl Tryz.underlying27 Tryz.sizeOf9 (by omega) (by omega) (by first | (simp; done) | (simp; omega) | omega)) ?_
   refine JA.tk 8 rfl fx6 (yl_load rfl rfl Tryz.isAgg9 (Blk.atC 1 rfl) (tag_at q.tag.toNat)) ?_
   refine JA.tk 9 rfl fx6 (yl_move rfl rfl) ?_
   refine JA.tk 10 rfl fx6 (yl_move rfl rfl) ?_
   refine JA.tk 11 rfl fx6 (yl_indexAddr (off' := po + k * 4) rfl rfl rfl Tryz.underlying48 Tryz.sizeOf78 (by omega) (by omega) (by simp)) ?_
   refine JA.tk 12 rfl fx6 (yl_fieldAddr rfl rfl Tryz.underlying78 rfl Tryz.sizeOf37 rfl) ?_
   refine JA.tk 13 rfl fx6 (yl_indexArr (off' := po + k * 4 + 1) rfl rfl rfl Tryz.underlying37 Tryz.sizeOf5 (by decide) (by decide) (by simp)) ?_
   refine JA.tk 14 rfl fx6 (yl_load rfl rfl Tryz.isAgg5 (Blk.immC hpb) (row_fcell pcC_len hpd hpget 1 (by decide))) ?_
   refine JA.tk 15 rfl fx6 (yl_rem rfl rfl rfl (by decide)) ?_
   refine JA.eqv 37 rfl (show _ = .int .u8 ((q.i0.toNat % 7 : Nat) : Int) from rfl) ?_
   refine JA.tk 16 rfl fx6 (yl_index rfl rfl rfl Tryz.underlying9 (by omega) (at_mod rfl (by decide) _)) ?_
   refine JA.tk 17 rfl fx6 (yl_move rfl rfl) ?_
   refine JA.tk 18 rfl fx6 (yl_move rfl rfl) ?_
   refine JA.tk 19 rfl fx6 (yl_indexAddr (off' := po + k * 4) rfl rfl rfl Tryz.underlying48 Tryz.sizeOf78 (by omega) (by omega) (by simp)) ?_
   refine JA.tk 20 rfl fx6 (yl_fieldAddr rfl rfl Tryz.underlying78 rfl Tryz.sizeOf37 rfl) ?_
   refine JA.tk 21 rfl fx6 (yl_indexArr (off' := po + k * 4 + 2) rfl rfl rfl Tryz.underlying37 Tryz.sizeOf5 (by decide) (by decide) (by simp)) ?_
   refine JA.tk 22 rfl fx6 (yl_load rfl rfl Tryz.isAgg5 (Blk.immC hpb) (row_fcell pcC_len hpd hpget 2 (by decide))) ?_
   refine JA.tk 23 rfl fx6 (yl_rem rfl rfl rfl (by decide)) ?_
   refine JA.eqv 45 rfl (show _ = .int .u8 ((q.i1.toNat % 7 : Nat) : Int) from rfl) ?_
   refine JA.tk 24 rfl fx6 (yl_index rfl rfl rfl Tryz.underlying9 (by omega) (at_mod rfl (by decide) _)) ?_
   refine JA.all [25, 28] (by kernel_rfl) (by simp) ?_
   intro i hi
   simp only [List.mem_cons, List.not_mem_nil, or_false] at hi
   rcases hi with rfl | rfl
   ·
    refine ⟨_, rfl, rfl, ?_⟩
    refine op_buildSlice rfl rfl rfl Tryz.underlying46 Tryz.sizeOf5 Tryz.zeroValue5 rfl rfl rfl rfl (LCat.one rfl (LCat.one rfl LCat.none)) ?_
    intro b7 hb7
    refine ⟨⟨(Le.refl _), (HSub.c 1 rfl (HSub.c 2 rfl (HSub.c 3 rfl HSub.n))), CSub.n⟩, ?_⟩
    refine JA.all [26, 28] (by kernel_rfl) (by simp) ?_
    intro i hi
    simp only [List.mem_cons, List.not_mem_nil, or_false] at hi
    rcases hi with rfl | rfl
    ·
     refine ⟨_, rfl, rfl, ?_⟩
     refine op_yld (yl_toStr [(([32, 48, 49, 52, 32, 50, 51] : List UInt8).getD (q.i0.toNat % 7) 0), (([32, 48, 49, 52, 57, 97, 51] : List UInt8).getD (q.i1.toNat % 7) 0)] rfl rfl rfl Tryz.underlying46 Tryz.underlying9 Tryz.underlying5 (Blk.at 0 rfl) rfl) rfl rfl ?_
     refine ⟨⟨(Le.refl _), (HSub.c 1 rfl (HSub.c 2 rfl (HSub.c 3 rfl HSub.n))), CSub.n⟩, ?_⟩
     refine JA.fix ⟨(HSub.c 1 rfl (HSub.c 2 rfl (HSub.c 3 rfl HSub.n))), CSub.n, (Le.refl _)⟩ (fun fx8 => ?_)
     refine JA.tk 27 rfl fx8 (yl_buildS (pl := #[(0, 1), (1, 1), (2, 1), (3, 1)]) rfl rfl Tryz.zeroValue58 rfl Tryz.underlying58 (fun w => by simp [Tryz.sizeOf56, Tryz.sizeOf9]) (LBld.part rfl rfl rfl (LSpl.c LSpl.z) (LBld.part rfl rfl rfl (LSpl.s (LSpl.c LSpl.z)) LBld.none))) ?_
     refine JA.step 28 (by kernel_rfl) rfl rfl (op_alloc rfl rfl rfl Tryz.zeroValue58 rfl ?_)
     intro b9 hb9
     refine ⟨⟨(Le.refl _), (HSub.c 2 rfl (HSub.c 3 rfl (HSub.c 4 rfl HSub.n))), CSub.n⟩, ?_⟩
     refine JA.step 29 (by kernel_rfl) rfl rfl (op_store 0 rfl rfl rfl rfl rfl rfl Tryz.sizeOf58 rfl rfl (LSpl.c (LSpl.c (LSpl.c (LSpl.c LSpl.z)))) LSet.z ?_)
     refine ⟨⟨(Le.refl _), (HSub.c 2 rfl (HSub.c 3 rfl (HSub.c 4 rfl HSub.n))), CSub.n⟩, ?_⟩
     refine JA.done (by kernel_rfl) ?_
     refine Ej.seq (Cj.seq (Cj.seq (Cj.region (J.z (yl_assign rfl rfl) ?_))))
     refine J.nil (Ej.seq (Cj.block (Cj.keep (Keeps.k (Keeps.d (Keeps.k (Keeps.k (Keeps.k Keeps.r))))) ?_)))
     refine Cj.loop (ι := Nat × List Ke.Sub × Gs) (fun y => y.1 ≤ q.subs.length ∧ y.1 ≤ 6 ∧ y.2.1.length = y.1 ∧ textsLen y.2.1 ≤ 240 * y.1 ∧ gOk w0.heap.size 2 y.1 (y.2.1.flatMap subC) y.2.2) (fun y => 6 - y.1) (fun y => [(0, .slice (some ⟨pb, po, none⟩) ps.length c), (2, ptr b1 0), (3, .slice (some ⟨b2, 0, none⟩) 6 6), (4, ptr b3 0), (5, i64 (k : Int)), (6, ptr b9 0), (7, i64 (y.1 : Int))]) (fun y => _) (fun y => (b9, cel 58 [str (tagsL.getD (q.tag.toNat % 6) []), str [(([32, 48, 49, 52, 32, 50, 51] : List UInt8).getD (q.i0.toNat % 7) 0), (([32, 48, 49, 52, 57, 97, 51] : List UInt8).getD (q.i1.toNat % 7) 0)], str [], gV y.1 y.2.2]) :: (b3, cel 51 [u8 97, u8 109, gV k g]) :: (b2, cel 9 (tagsL.map str)) :: (b1, cel 51 [u8 0, u8 0, .slice none 0 0]) :: (gH 58 (fs.flatMap fldC) g ++ gH 60 (y.2.1.flatMap subC) y.2.2)) (0, [], none) ⟨Nat.zero_le _, Nat.zero_le _, rfl, Nat.zero_le _, rfl, rfl⟩ ⟨rfl, rfl, rfl, rfl, rfl, rfl, rfl, trivial⟩ rfl (by dsimp only; rw [show gH _ (([] : List Ke.Sub).flatMap subC) none = [] from rfl, List.append_nil]; rfl) ?_
     rintro ⟨j, ss, h⟩ ⟨hj, hj2, hsl, htx, hh⟩
     dsimp only at hj hj2 hsl htx hh ⊢
     refine Cj.seq (Cj.seq (Cj.region (J.z (yl_move rfl rfl) ?_)))
     refine J.z (yl_move rfl rfl) ?_
     refine J.z (yl_move rfl rfl) ?_
     refine J.z (yl_indexAddr (off' := po + k * 4) rfl rfl rfl Tryz.underlying48 Tryz.sizeOf78 (by omega) (by omega) (by simp)) ?_
     refine J.z (yl_fieldAddr rfl rfl Tryz.underlying78 rfl Tryz.sizeOf76 rfl) ?_
     refine J.z (yl_load rfl rfl Tryz.isAgg76 (Blk.imm hpb) (row_fcell pcC_len hpd hpget 3 (by decide))) ?_
     refine J.eqv 55 rfl (show _ = .slice p3 q.subs.length c3 from hqsv) ?_
     refine J.z (yl_lenSlice rfl rfl Tryz.underlying76) ?_
     refine J.z (yl_lss rfl rfl rfl) ?_
     refine J.z (yl_move rfl rfl) ?_
     refine J.split 58 rfl (fun hg10 => ?_) (fun hg10 => ?_)
     ·
      have hg10p := of_decide_eq_true hg10
      refine J.opG 8 58 true _ rfl rfl rfl hg10 (op_yld (yl_move rfl rfl) rfl rfl ?_)
      refine J.opG 8 58 true _ rfl rfl rfl hg10 (op_yld (yl_lss rfl rfl rfl) rfl rfl ?_)
      refine J.z (yl_pick1 rfl rfl hg10 rfl) ?_
      refine J.nil (Ej.seq (Cj.cond rfl (fun hc11 => ?_) (fun hc11 => ?_)))
      ·
       have hc11p := of_decide_eq_true hc11
       refine Cj.skip (Ej.seq (Cj.seq (Cj.block (Cj.seq ?_))))
       have hjlt : j < q.subs.length := by omega
       have hjlt2 : j < 6 := by omega
       obtain ⟨x, hxget⟩ : ∃ x, q.subs[j]? = some x := ⟨_, List.getElem?_eq_getElem hjlt⟩
       obtain ⟨xb, xo, xcs, xty, xfr, xsp, rfl, hxb, hxd⟩ := hqp (ne_nil_of hjlt)
       have hxi := hqx x (List.mem_of_getElem? hxget)
       obtain ⟨lp, lc, hxv, hlc, hlp⟩ := id hxi
       rw [hxv] at hxi
       have hml := Ke.made_len x.l
       refine Cj.region (J.z (yl_move rfl rfl) ?_)
       refine J.z (yl_move rfl rfl) ?_
       refine J.z (yl_indexAddr (off' := po + k * 4) rfl rfl rfl Tryz.underlying48 Tryz.sizeOf78 (by omega) (by omega) (by simp)) ?_
       refine J.z (yl_fieldAddr rfl rfl Tryz.underlying78 rfl Tryz.sizeOf76 rfl) ?_
       refine J.z (yl_load rfl rfl Tryz.isAgg76 (Blk.imm hpb) (row_fcell pcC_len hpd hpget 3 (by decide))) ?_
       refine J.eqv 68 rfl (show _ = .slice (some ⟨xb, xo, none⟩) q.subs.length c3 from hqsv) ?_
       refine J.z (yl_move rfl rfl) ?_
       refine J.z (yl_indexAddr (off' := xo + j) rfl rfl rfl Tryz.underlying76 Tryz.sizeOf22 (by omega) (by omega) (by simp)) ?_
       refine J.z (yl_load rfl rfl Tryz.isAgg22 (Blk.imm hxb) (xs_at hxd hxget)) ?_
       refine J.eqv 71 rfl (show _ = .slice lp x.l.length lc from hxv) ?_
       refine J.z (yl_assign rfl rfl) ?_
       refine J.nil (Ej.seq (Cj.seq (Cj.drawSel [0, 1, 2, 3] [] 9 (by kernel_rfl) ?_)))
       have hpb_11 := hpb
       have hxb_11 := hxb
       refine JA.fix ⟨(HSub.c 0 rfl (HSub.c 1 rfl (HSub.c 2 rfl (HSub.c 3 rfl HSub.n)))), CSub.n, (Le.refl _)⟩ (fun fx12 => ?_)
       refine JA.tk 0 rfl fx12 (yl_move rfl rfl) ?_
       refine JA.tk 1 rfl fx12 (yl_lenSlice rfl rfl Tryz.underlying22) ?_
       refine JA.tk 2 rfl fx12 (yl_rem rfl rfl rfl (by decide)) ?_
       refine JA.eqv 74 rfl (show _ = i64 ((x.l.length % 5 : Nat) : Int) from rfl) ?_
       refine JA.tk 3 rfl fx12 (yl_index rfl rfl rfl Tryz.underlying9 (by omega) (at_mod rfl (by decide) _)) ?_
       refine JA.tk 4 rfl fx12 (yl_move rfl rfl) ?_
       refine JA.all [5, 7] (by kernel_rfl) (by simp) ?_
       intro i hi
       simp only [List.mem_cons, List.not_mem_nil, or_false] at hi
       rcases hi with rfl | rfl
       ·
        refine ⟨_, rfl, rfl, ?_⟩
        refine op_pure rfl rfl rfl rfl rfl (Made_ok x.l _ _ hxi) ?_
        refine ⟨⟨(Le.refl _), (HSub.c 0 rfl (HSub.c 1 rfl (HSub.c 2 rfl (HSub.c 3 rfl HSub.n)))), CSub.n⟩, ?_⟩
        refine JA.fix ⟨(HSub.c 0 rfl (HSub.c 1 rfl (HSub.c 2 rfl (HSub.c 3 rfl HSub.n)))), CSub.n, (Le.refl _)⟩ (fun fx13 => ?_)
        refine JA.tk 6 rfl fx13 (yl_buildS (pl := #[(0, 1), (1, 1)]) rfl rfl Tryz.zeroValue60 rfl Tryz.underlying60 (fun w => by simp [Tryz.sizeOf5, Tryz.sizeOf9]) (LBld.part rfl rfl rfl (LSpl.c LSpl.z) (LBld.part rfl rfl rfl (LSpl.s (LSpl.c LSpl.z)) LBld.none))) ?_
        refine JA.step 7 (by kernel_rfl) rfl rfl (op_alloc rfl rfl rfl Tryz.zeroValue60 rfl ?_)
        intro b14 hb14
        refine ⟨⟨(Le.refl _), (HSub.c 1 rfl (HSub.c 2 rfl (HSub.c 3 rfl (HSub.c 4 rfl HSub.n)))), CSub.n⟩, ?_⟩
        refine JA.step 8 (by kernel_rfl) rfl rfl (op_store 0 rfl rfl rfl rfl rfl rfl Tryz.sizeOf60 rfl rfl (LSpl.c (LSpl.c LSpl.z)) LSet.z ?_)
        refine ⟨⟨(Le.refl _), (HSub.c 1 rfl (HSub.c 2 rfl (HSub.c 3 rfl (HSub.c 4 rfl HSub.n)))), CSub.n⟩, ?_⟩
        refine JA.done (by kernel_rfl) ?_
        refine Ej.seq (Cj.seq (Cj.seq (Cj.region (J.z (yl_fieldAddr (off' := 0) rfl rfl Tryz.underlying58 rfl Tryz.sizeOf9 rfl) ?_))))
        refine J.z (yl_load rfl rfl Tryz.isAgg9 (Blk.at 1 rfl) rfl) ?_
        refine J.z (yl_eqlStr rfl rfl rfl) ?_
        refine J.z (yl_move rfl rfl) ?_
        refine J.split 82 rfl (fun hg15 => ?_) (fun hg15 => ?_)
        ·
         have hg15p := eq_of_beq hg15
         refine J.opG 3 82 true _ rfl rfl rfl hg15 (op_yld (yl_move rfl rfl) rfl rfl ?_)
         refine J.opG 3 82 true _ rfl rfl rfl hg15 (op_yld (yl_lenSlice rfl rfl Tryz.underlying22) rfl rfl ?_)
         refine J.opG 3 82 true _ rfl rfl rfl hg15 (op_yld (yl_gtr rfl rfl rfl) rfl rfl ?_)
         refine J.z (yl_pick1 rfl rfl hg15 rfl) ?_
         refine J.z (yl_move rfl rfl) ?_
         refine J.split 87 rfl (fun hg16 => ?_) (fun hg16 => ?_)
         ·
          have hg16p := of_decide_eq_true hg16
          have hl2 : 1 < x.l.length := by omega
          obtain ⟨x0, hx0⟩ : ∃ a, x.l[0]? = some a := ⟨_, List.getElem?_eq_getElem (by omega)⟩
          obtain ⟨x1, hx1⟩ : ∃ a, x.l[1]? = some a := ⟨_, List.getElem?_eq_getElem (by omega)⟩
          obtain ⟨lb, lo, lcs, lty, lfr, lsp, rfl, hlb, hld⟩ := hlp (ne_nil_of hl2)
          refine J.opG 8 87 true _ rfl rfl rfl hg16 (op_yld (yl_move rfl rfl) rfl rfl ?_)
          refine J.opG 8 87 true _ rfl rfl rfl hg16 (op_yld (yl_indexAddr (off' := lo + 0) rfl rfl rfl Tryz.underlying22 Tryz.sizeOf3 (by omega) (by omega) (by simp)) rfl rfl ?_)
          refine J.opG 8 87 true _ rfl rfl rfl hg16 (op_yld (yl_load rfl rfl Tryz.isAgg3 (Blk.imm hlb) (int_from hld hx0)) rfl rfl ?_)
          refine J.opG 8 87 true _ rfl rfl rfl hg16 (op_yld (yl_rem rfl rfl rfl (by decide)) rfl rfl ?_)
          refine J.opG 8 87 true _ rfl rfl rfl hg16 (op_yld (yl_gtr rfl rfl rfl) rfl rfl ?_)
          refine J.z (yl_pick1 rfl rfl hg16 rfl) ?_
          refine J.nil (Ej.seq (Cj.cond rfl (fun hc17 => ?_) (fun hc17 => ?_)))
          ·
           have hc17p := of_decide_eq_true hc17
           have hnl := numb_len2 [toU8 x0, toU8 x1, 3, toU8 (x.l.length : Int), 0, 0, 0, 0, 0, 0, 0, 0] rfl (toU8 x1) (toU8 (j : Int)) 0 (toU8 x0)
           refine Cj.drawSel [1, 2, 3, 4] [] 26 (by kernel_rfl) ?_
           have hpb_13 := hpb
           have hxb_13 := hxb
           have hlb_13 := hlb
           refine JA.fix ⟨(HSub.c 1 rfl (HSub.c 2 rfl (HSub.c 3 rfl (HSub.c 4 rfl HSub.n)))), CSub.n, (Le.refl _)⟩ (fun fx18 => ?_)
           refine JA.tk 0 rfl fx18 (yl_move rfl rfl) ?_
           refine JA.tk 1 rfl fx18 (yl_indexAddr (off' := lo + 0) rfl rfl rfl Tryz.underlying22 Tryz.sizeOf3 (by omega) (by omega) (by simp)) ?_
           refine JA.tk 2 rfl fx18 (yl_load rfl rfl Tryz.isAgg3 (Blk.immC hlb_13) (int_from hld hx0)) ?_
           refine JA.tk 3 rfl fx18 (yl_convInt rfl rfl Tryz.underlying3 Tryz.underlying5) ?_
           refine JA.eqv 97 rfl (show _ = u8 (toU8 x0) from (congrArg (Value.int .u8) (conv_u8 x0))) ?_
           refine JA.tk 4 rfl fx18 (yl_move rfl rfl) ?_
           refine JA.tk 5 rfl fx18 (yl_indexAddr (off' := lo + 1) rfl rfl rfl Tryz.underlying22 Tryz.sizeOf3 (by omega) (by omega) (by simp)) ?_
           refine JA.tk 6 rfl fx18 (yl_load rfl rfl Tryz.isAgg3 (Blk.immC hlb_13) (int_from hld hx1)) ?_
           refine JA.tk 7 rfl fx18 (yl_convInt rfl rfl Tryz.underlying3 Tryz.underlying5) ?_
           refine JA.eqv 101 rfl (show _ = u8 (toU8 x1) from (congrArg (Value.int .u8) (conv_u8 x1))) ?_
           refine JA.tk 8 rfl fx18 (yl_move rfl rfl) ?_
           refine JA.tk 9 rfl fx18 (yl_lenSlice rfl rfl Tryz.underlying22) ?_
           refine JA.tk 10 rfl fx18 (yl_convInt rfl rfl Tryz.underlying3 Tryz.underlying5) ?_
           refine JA.eqv 104 rfl (show _ = u8 (toU8 (x.l.length : Int)) from (congrArg (Value.int .u8) (conv_u8 (x.l.length : Int)))) ?_
           refine JA.tk 11 rfl fx18 (yl_buildA (zs := [(.int .u8 0), (.int .u8 0), (.int .u8 0), (.int .u8 0), (.int .u8 0), (.int .u8 0), (.int .u8 0), (.int .u8 0), (.int .u8 0), (.int .u8 0), (.int .u8 0), (.int .u8 0)]) rfl rfl Tryz.zeroValue40 rfl Tryz.underlying40 Tryz.sizeOf5 rfl) ?_
           refine JA.tk 12 rfl fx18 (yl_move rfl rfl) ?_
           refine JA.tk 13 rfl fx18 (yl_indexAddr (off' := lo + 1) rfl rfl rfl Tryz.underlying22 Tryz.sizeOf3 (by omega) (by omega) (by simp)) ?_
           refine JA.tk 14 rfl fx18 (yl_load rfl rfl Tryz.isAgg3 (Blk.immC hlb_13) (int_from hld hx1)) ?_
           refine JA.tk 15 rfl fx18 (yl_convInt rfl rfl Tryz.underlying3 Tryz.underlying5) ?_
           refine JA.eqv 109 rfl (show _ = u8 (toU8 x1) from (congrArg (Value.int .u8) (conv_u8 x1))) ?_
           refine JA.tk 16 rfl fx18 (yl_move rfl rfl) ?_
           refine JA.tk 17 rfl fx18 (yl_convInt rfl rfl Tryz.underlying3 Tryz.underlying5) ?_
           refine JA.eqv 111 rfl (show _ = u8 (toU8 (j : Int)) from (congrArg (Value.int .u8) (conv_u8 (j : Int)))) ?_
           refine JA.tk 18 rfl fx18 (yl_move rfl rfl) ?_
           refine JA.tk 19 rfl fx18 (yl_indexAddr (off' := lo + 0) rfl rfl rfl Tryz.underlying22 Tryz.sizeOf3 (by omega) (by omega) (by simp)) ?_
           refine JA.tk 20 rfl fx18 (yl_load rfl rfl Tryz.isAgg3 (Blk.immC hlb_13) (int_from hld hx0)) ?_
           refine JA.tk 21 rfl fx18 (yl_convInt rfl rfl Tryz.underlying3 Tryz.underlying5) ?_
           refine JA.eqv 115 rfl (show _ = u8 (toU8 x0) from (congrArg (Value.int .u8) (conv_u8 x0))) ?_
           refine JA.tk 22 rfl fx18 (yl_buildA (zs := [(.int .u8 0), (.int .u8 0), (.int .u8 0), (.int .u8 0)]) rfl rfl Tryz.zeroValue41 rfl Tryz.underlying41 Tryz.sizeOf5 rfl) ?_
           refine JA.step 23 (by kernel_rfl) rfl rfl (op_pure rfl rfl rfl rfl rfl (Number_ok [toU8 x0, toU8 x1, 3, toU8 (x.l.length : Int), 0, 0, 0, 0, 0, 0, 0, 0] rfl (toU8 x1) (toU8 (j : Int)) 0 (toU8 x0) _) ?_)
           refine ⟨⟨(Le.refl _), (HSub.c 1 rfl (HSub.c 2 rfl (HSub.c 3 rfl (HSub.c 4 rfl HSub.n)))), CSub.n⟩, ?_⟩
           refine JA.fix ⟨(HSub.c 1 rfl (HSub.c 2 rfl (HSub.c 3 rfl (HSub.c 4 rfl HSub.n)))), CSub.n, (Le.refl _)⟩ (fun fx19 => ?_)
           refine JA.tk 24 rfl fx19 (yl_fieldAddr (off' := 1) rfl rfl Tryz.underlying60 rfl Tryz.sizeOf9 rfl) ?_
           refine JA.step 25 (by kernel_rfl) rfl rfl (op_store 0 rfl rfl rfl rfl rfl rfl Tryz.sizeOf9 rfl rfl (LSpl.s (LSpl.c LSpl.z)) LSet.z ?_)
           refine ⟨⟨(Le.refl _), (HSub.c 1 rfl (HSub.c 2 rfl (HSub.c 3 rfl (HSub.c 4 rfl HSub.n)))), CSub.n⟩, ?_⟩
           refine JA.done (by kernel_rfl) ?_
           refine Ej.seq (Cj.region (J.z (yl_fieldAddr (off' := 3) rfl rfl Tryz.underlying58 rfl Tryz.sizeOf56 rfl) ?_))
           refine J.z (yl_load rfl rfl Tryz.isAgg56 (Blk.at 1 rfl) rfl) ?_
           refine J.z (yl_loadAgg rfl rfl Tryz.isAgg60 Tryz.sizeOf60 (Blk.at 0 rfl) rfl rfl) ?_
           refine J.op rfl (op_buildSlice rfl rfl rfl Tryz.underlying56 Tryz.sizeOf60 Tryz.zeroValue60 rfl rfl rfl rfl (LCat.agg rfl LCat.none) ?_)
           intro b20 hb20
           refine J.op rfl (op_append (by' := 23) ([_, _, _, _, _, _] ++ gH _ _ _) rfl rfl rfl rfl rfl Tryz.underlying56 (.inr ⟨_, Tryz.underlying56⟩) (by kernel_rfl) Tryz.sizeOf60 Tryz.zeroValue60 rfl hh rfl (Src.slice (Blk.at 0 rfl) rfl rfl rfl) (by omega) ?_)
           intro g21 hg21
           refine J.z (yl_fieldAddr (off' := 3) rfl rfl Tryz.underlying58 rfl Tryz.sizeOf56 rfl) ?_
           refine J.op rfl (op_store 2 rfl rfl rfl rfl (gV_cells _ _) (gV_one _ _) Tryz.sizeOf56 rfl rfl (LSpl.s (LSpl.s (LSpl.s (LSpl.c LSpl.z)))) (LSet.s (LSet.s LSet.z)) ?_)
           refine J.nil (Ej.blkNormal (Ej.seq (Cj.region (J.z (yl_move rfl rfl) ?_))))
           refine J.z (yl_add rfl rfl rfl (w64 (by omega))) ?_
           refine J.z (yl_assign rfl rfl) ?_
           refine J.nil (Ej.keep (Keeps.d (Keeps.d (Keeps.k (Keeps.k (Keeps.k (Keeps.k Keeps.r)))))) ?_)
           refine Ej.round (j + 1, ss ++ [⟨(([97, 97, 98, 99, 122] : List UInt8).getD (x.l.length % 5) 0), (Ke.numb [toU8 x0, toU8 x1, 3, toU8 (x.l.length : Int), 0, 0, 0, 0, 0, 0, 0, 0] (toU8 x1) (toU8 (j : Int)) 0 (toU8 x0))⟩], g21) ⟨by dsimp only; omega, by dsimp only; omega, by dsimp only; rw [List.length_append, hsl]; rfl, by dsimp only; rw [texts_one]; omega, by dsimp only; rw [flat_one]; exact hg21⟩ (by dsimp only; omega) ⟨rfl, rfl, rfl, rfl, rfl, rfl, rfl, trivial⟩ rfl (by dsimp only; rw [flat_one]; rfl)
          ·
           have hc17p := of_decide_eq_false hc17
           refine Cj.skip (Ej.seq (Cj.region (J.z (yl_fieldAddr (off' := 3) rfl rfl Tryz.underlying58 rfl Tryz.sizeOf56 rfl) ?_)))
           refine J.z (yl_load rfl rfl Tryz.isAgg56 (Blk.at 1 rfl) rfl) ?_
           refine J.z (yl_loadAgg rfl rfl Tryz.isAgg60 Tryz.sizeOf60 (Blk.at 0 rfl) rfl rfl) ?_
           refine J.op rfl (op_buildSlice rfl rfl rfl Tryz.underlying56 Tryz.sizeOf60 Tryz.zeroValue60 rfl rfl rfl rfl (LCat.agg rfl LCat.none) ?_)
           intro b22 hb22
           refine J.op rfl (op_append (by' := 23) ([_, _, _, _, _, _] ++ gH _ _ _) rfl rfl rfl rfl rfl Tryz.underlying56 (.inr ⟨_, Tryz.underlying56⟩) (by kernel_rfl) Tryz.sizeOf60 Tryz.zeroValue60 rfl hh rfl (Src.slice (Blk.at 0 rfl) rfl rfl rfl) (by omega) ?_)
           intro g23 hg23
           refine J.z (yl_fieldAddr (off' := 3) rfl rfl Tryz.underlying58 rfl Tryz.sizeOf56 rfl) ?_
           refine J.op rfl (op_store 2 rfl rfl rfl rfl (gV_cells _ _) (gV_one _ _) Tryz.sizeOf56 rfl rfl (LSpl.s (LSpl.s (LSpl.s (LSpl.c LSpl.z)))) (LSet.s (LSet.s LSet.z)) ?_)
           refine J.nil (Ej.blkNormal (Ej.seq (Cj.region (J.z (yl_move rfl rfl) ?_))))
           refine J.z (yl_add rfl rfl rfl (w64 (by omega))) ?_
           refine J.z (yl_assign rfl rfl) ?_
           refine J.nil (Ej.keep (Keeps.d (Keeps.d (Keeps.k (Keeps.k (Keeps.k (Keeps.k Keeps.r)))))) ?_)
           refine Ej.round (j + 1, ss ++ [⟨(([97, 97, 98, 99, 122] : List UInt8).getD (x.l.length % 5) 0), (Ke.made x.l)⟩], g23) ⟨by dsimp only; omega, by dsimp only; omega, by dsimp only; rw [List.length_append, hsl]; rfl, by dsimp only; rw [texts_one]; omega, by dsimp only; rw [flat_one]; exact hg23⟩ (by dsimp only; omega) ⟨rfl, rfl, rfl, rfl, rfl, rfl, rfl, trivial⟩ rfl (by dsimp only; rw [flat_one]; rfl)
         ·
          have hg16p := of_decide_eq_false hg16
          refine J.skip 8 87 88 true _ rfl rfl rfl hg16 rfl rfl ?_
          refine J.skip 8 87 89 true _ rfl rfl rfl hg16 rfl rfl ?_
          refine J.skip 8 87 90 true _ rfl rfl rfl hg16 rfl rfl ?_
          refine J.skip 8 87 91 true _ rfl rfl rfl hg16 rfl rfl ?_
          refine J.skip 8 87 92 true _ rfl rfl rfl hg16 rfl rfl ?_
          refine J.z (yl_pick0 rfl rfl hg16 rfl) ?_
          refine J.nil (Ej.seq (Cj.cond rfl (fun hc24 => Bool.noConfusion (Eq.trans (Eq.symm rfl) hc24)) (fun hc24 => ?_)))
          refine Cj.skip (Ej.seq (Cj.region (J.z (yl_fieldAddr (off' := 3) rfl rfl Tryz.underlying58 rfl Tryz.sizeOf56 rfl) ?_)))
          refine J.z (yl_load rfl rfl Tryz.isAgg56 (Blk.at 1 rfl) rfl) ?_
          refine J.z (yl_loadAgg rfl rfl Tryz.isAgg60 Tryz.sizeOf60 (Blk.at 0 rfl) rfl rfl) ?_
          refine J.op rfl (op_buildSlice rfl rfl rfl Tryz.underlying56 Tryz.sizeOf60 Tryz.zeroValue60 rfl rfl rfl rfl (LCat.agg rfl LCat.none) ?_)
          intro b25 hb25
          refine J.op rfl (op_append (by' := 23) ([_, _, _, _, _, _] ++ gH _ _ _) rfl rfl rfl rfl rfl Tryz.underlying56 (.inr ⟨_, Tryz.underlying56⟩) (by kernel_rfl) Tryz.sizeOf60 Tryz.zeroValue60 rfl hh rfl (Src.slice (Blk.at 0 rfl) rfl rfl rfl) (by omega) ?_)
          intro g26 hg26
          refine J.z (yl_fieldAddr (off' := 3) rfl rfl Tryz.underlying58 rfl Tryz.sizeOf56 rfl) ?_
          refine J.op rfl (op_store 2 rfl rfl rfl rfl (gV_cells _ _) (gV_one _ _) Tryz.sizeOf56 rfl rfl (LSpl.s (LSpl.s (LSpl.s (LSpl.c LSpl.z)))) (LSet.s (LSet.s LSet.z)) ?_)
          refine J.nil (Ej.blkNormal (Ej.seq (Cj.region (J.z (yl_move rfl rfl) ?_))))
          refine J.z (yl_add rfl rfl rfl (w64 (by omega))) ?_
          refine J.z (yl_assign rfl rfl) ?_
          refine J.nil (Ej.keep (Keeps.d (Keeps.d (Keeps.k (Keeps.k (Keeps.k (Keeps.k Keeps.r)))))) ?_)
          refine Ej.round (j + 1, ss ++ [⟨(([97, 97, 98, 99, 122] : List UInt8).getD (x.l.length % 5) 0), (Ke.made x.l)⟩], g26) ⟨by dsimp only; omega, by dsimp only; omega, by dsimp only; rw [List.length_append, hsl]; rfl, by dsimp only; rw [texts_one]; omega, by dsimp only; rw [flat_one]; exact hg26⟩ (by dsimp only; omega) ⟨rfl, rfl, rfl, rfl, rfl, rfl, rfl, trivial⟩ rfl (by dsimp only; rw [flat_one]; rfl)
        ·
         have hg15p := ne_of_beq_false hg15
         refine J.skip 3 82 83 true _ rfl rfl rfl hg15 rfl rfl ?_
         refine J.skip 3 82 84 true _ rfl rfl rfl hg15 rfl rfl ?_
         refine J.skip 3 82 85 true _ rfl rfl rfl hg15 rfl rfl ?_
         refine J.z (yl_pick0 rfl rfl hg15 rfl) ?_
         refine J.z (yl_move rfl rfl) ?_
         refine J.skip 8 87 88 true _ rfl rfl rfl rfl rfl rfl ?_
         refine J.skip 8 87 89 true _ rfl rfl rfl rfl rfl rfl ?_
         refine J.skip 8 87 90 true _ rfl rfl rfl rfl rfl rfl ?_
         refine J.skip 8 87 91 true _ rfl rfl rfl rfl rfl rfl ?_
         refine J.skip 8 87 92 true _ rfl rfl rfl rfl rfl rfl ?_
         refine J.z (yl_pick0 rfl rfl rfl rfl) ?_
         refine J.nil (Ej.seq (Cj.cond rfl (fun hc27 => Bool.noConfusion (Eq.trans (Eq.symm rfl) hc27)) (fun hc27 => ?_)))
         refine Cj.skip (Ej.seq (Cj.region (J.z (yl_fieldAddr (off' := 3) rfl rfl Tryz.underlying58 rfl Tryz.sizeOf56 rfl) ?_)))
         refine J.z (yl_load rfl rfl Tryz.isAgg56 (Blk.at 1 rfl) rfl) ?_
         refine J.z (yl_loadAgg rfl rfl Tryz.isAgg60 Tryz.sizeOf60 (Blk.at 0 rfl) rfl rfl) ?_
         refine J.op rfl (op_buildSlice rfl rfl rfl Tryz.underlying56 Tryz.sizeOf60 Tryz.zeroValue60 rfl rfl rfl rfl (LCat.agg rfl LCat.none) ?_)
         intro b28 hb28
         refine J.op rfl (op_append (by' := 23) ([_, _, _, _, _, _] ++ gH _ _ _) rfl rfl rfl rfl rfl Tryz.underlying56 (.inr ⟨_, Tryz.underlying56⟩) (by kernel_rfl) Tryz.sizeOf60 Tryz.zeroValue60 rfl hh rfl (Src.slice (Blk.at 0 rfl) rfl rfl rfl) (by omega) ?_)
         intro g29 hg29
         refine J.z (yl_fieldAddr (off' := 3) rfl rfl Tryz.underlying58 rfl Tryz.sizeOf56 rfl) ?_
         refine J.op rfl (op_store 2 rfl rfl rfl rfl (gV_cells _ _) (gV_one _ _) Tryz.sizeOf56 rfl rfl (LSpl.s (LSpl.s (LSpl.s (LSpl.c LSpl.z)))) (LSet.s (LSet.s LSet.z)) ?_)
         refine J.nil (Ej.blkNormal (Ej.seq (Cj.region (J.z (yl_move rfl rfl) ?_))))
         refine J.z (yl_add rfl rfl rfl (w64 (by omega))) ?_
         refine J.z (yl_assign rfl rfl) ?_
         refine J.nil (Ej.keep (Keeps.d (Keeps.d (Keeps.k (Keeps.k (Keeps.k (Keeps.k Keeps.r)))))) ?_)
         refine Ej.round (j + 1, ss ++ [⟨(([97, 97, 98, 99, 122] : List UInt8).getD (x.l.length % 5) 0), (Ke.made x.l)⟩], g29) ⟨by dsimp only; omega, by dsimp only; omega, by dsimp only; rw [List.length_append, hsl]; rfl, by dsimp only; rw [texts_one]; omega, by dsimp only; rw [flat_one]; exact hg29⟩ (by dsimp only; omega) ⟨rfl, rfl, rfl, rfl, rfl, rfl, rfl, trivial⟩ rfl (by dsimp only; rw [flat_one]; rfl)
       ·
        refine ⟨_, rfl, rfl, ?_⟩
        refine op_alloc rfl rfl rfl Tryz.zeroValue60 rfl ?_
        intro b30 hb30
        refine ⟨⟨(Le.refl _), (HSub.c 1 rfl (HSub.c 2 rfl (HSub.c 3 rfl (HSub.c 4 rfl HSub.n)))), CSub.n⟩, ?_⟩
        refine JA.step 5 (by kernel_rfl) rfl rfl (op_pure rfl rfl rfl rfl rfl (Made_ok x.l _ _ hxi) ?_)
        refine ⟨⟨(Le.refl _), (HSub.c 1 rfl (HSub.c 2 rfl (HSub.c 3 rfl (HSub.c 4 rfl HSub.n)))), CSub.n⟩, ?_⟩
        refine JA.fix ⟨(HSub.c 1 rfl (HSub.c 2 rfl (HSub.c 3 rfl (HSub.c 4 rfl HSub.n)))), CSub.n, (Le.refl _)⟩ (fun fx31 => ?_)
        refine JA.tk 6 rfl fx31 (yl_buildS (pl := #[(0, 1), (1, 1)]) rfl rfl Tryz.zeroValue60 rfl Tryz.underlying60 (fun w => by simp [Tryz.sizeOf5, Tryz.sizeOf9]) (LBld.part rfl rfl rfl (LSpl.c LSpl.z) (LBld.part rfl rfl rfl (LSpl.s (LSpl.c LSpl.z)) LBld.none))) ?_
        refine JA.step 8 (by kernel_rfl) rfl rfl (op_store 0 rfl rfl rfl rfl rfl rfl Tryz.sizeOf60 rfl rfl (LSpl.c (LSpl.c LSpl.z)) LSet.z ?_)
        refine ⟨⟨(Le.refl _), (HSub.c 1 rfl (HSub.c 2 rfl (HSub.c 3 rfl (HSub.c 4 rfl HSub.n)))), CSub.n⟩, ?_⟩
        refine JA.done (by kernel_rfl) ?_
        refine Ej.seq (Cj.seq (Cj.seq (Cj.region (J.z (yl_fieldAddr (off' := 0) rfl rfl Tryz.underlying58 rfl Tryz.sizeOf9 rfl) ?_))))
        refine J.z (yl_load rfl rfl Tryz.isAgg9 (Blk.at 1 rfl) rfl) ?_
        refine J.z (yl_eqlStr rfl rfl rfl) ?_
        refine J.z (yl_move rfl rfl) ?_
        refine J.split 82 rfl (fun hg32 => ?_) (fun hg32 => ?_)
        ·
         have hg32p := eq_of_beq hg32
         refine J.opG 3 82 true _ rfl rfl rfl hg32 (op_yld (yl_move rfl rfl) rfl rfl ?_)
         refine J.opG 3 82 true _ rfl rfl rfl hg32 (op_yld (yl_lenSlice rfl rfl Tryz.underlying22) rfl rfl ?_)
         refine J.opG 3 82 true _ rfl rfl rfl hg32 (op_yld (yl_gtr rfl rfl rfl) rfl rfl ?_)
         refine J.z (yl_pick1 rfl rfl hg32 rfl) ?_
         refine J.z (yl_move rfl rfl) ?_
         refine J.split 87 rfl (fun hg33 => ?_) (fun hg33 => ?_)
         ·
          have hg33p := of_decide_eq_true hg33
          have hl2 : 1 < x.l.length := by omega
          obtain ⟨x0, hx0⟩ : ∃ a, x.l[0]? = some a := ⟨_, List.getElem?_eq_getElem (by omega)⟩
          obtain ⟨x1, hx1⟩ : ∃ a, x.l[1]? = some a := ⟨_, List.getElem?_eq_getElem (by omega)⟩
          obtain ⟨lb, lo, lcs, lty, lfr, lsp, rfl, hlb, hld⟩ := hlp (ne_nil_of hl2)
          refine J.opG 8 87 true _ rfl rfl rfl hg33 (op_yld (yl_move rfl rfl) rfl rfl ?_)
          refine J.opG 8 87 true _ rfl rfl rfl hg33 (op_yld (yl_indexAddr (off' := lo + 0) rfl rfl rfl Tryz.underlying22 Tryz.sizeOf3 (by omega) (by omega) (by simp)) rfl rfl ?_)
          refine J.opG 8 87 true _ rfl rfl rfl hg33 (op_yld (yl_load rfl rfl Tryz.isAgg3 (Blk.imm hlb) (int_from hld hx0)) rfl rfl ?_)
          refine J.opG 8 87 true _ rfl rfl rfl hg33 (op_yld (yl_rem rfl rfl rfl (by decide)) rfl rfl ?_)
          refine J.opG 8 87 true _ rfl rfl rfl hg33 (op_yld (yl_gtr rfl rfl rfl) rfl rfl ?_)
          refine J.z (yl_pick1 rfl rfl hg33 rfl) ?_
          refine J.nil (Ej.seq (Cj.cond rfl (fun hc34 => ?_) (fun hc34 => ?_)))
          ·
           have hc34p := of_decide_eq_true hc34
           have hnl := numb_len2 [toU8 x0, toU8 x1, 3, toU8 (x.l.length : Int), 0, 0, 0, 0, 0, 0, 0, 0] rfl (toU8 x1) (toU8 (j : Int)) 0 (toU8 x0)
           refine Cj.drawSel [1, 2, 3, 4] [] 26 (by kernel_rfl) ?_
           have hpb_13 := hpb
           have hxb_13 := hxb
           have hlb_13 := hlb
           refine JA.fix ⟨(HSub.c 1 rfl (HSub.c 2 rfl (HSub.c 3 rfl (HSub.c 4 rfl HSub.n)))), CSub.n, (Le.refl _)⟩ (fun fx35 => ?_)
           refine JA.tk 0 rfl fx35 (yl_move rfl rfl) ?_
           refine JA.tk 1 rfl fx35 (yl_indexAddr (off' := lo + 0) rfl rfl rfl Tryz.underlying22 Tryz.sizeOf3 (by omega) (by omega) (by simp)) ?_
           refine JA.tk 2 rfl fx35 (yl_load rfl rfl Tryz.isAgg3 (Blk.immC hlb_13) (int_from hld hx0)) ?_
           refine JA.tk 3 rfl fx35 (yl_convInt rfl rfl Tryz.underlying3 Tryz.underlying5) ?_
           refine JA.eqv 97 rfl (show _ = u8 (toU8 x0) from (congrArg (Value.int .u8) (conv_u8 x0))) ?_
           refine JA.tk 4 rfl fx35 (yl_move rfl rfl) ?_
           refine JA.tk 5 rfl fx35 (yl_indexAddr (off' := lo + 1) rfl rfl rfl Tryz.underlying22 Tryz.sizeOf3 (by omega) (by omega) (by simp)) ?_
           refine JA.tk 6 rfl fx35 (yl_load rfl rfl Tryz.isAgg3 (Blk.immC hlb_13) (int_from hld hx1)) ?_
           refine JA.tk 7 rfl fx35 (yl_convInt rfl rfl Tryz.underlying3 Tryz.underlying5) ?_
           refine JA.eqv 101 rfl (show _ = u8 (toU8 x1) from (congrArg (Value.int .u8) (conv_u8 x1))) ?_
           refine JA.tk 8 rfl fx35 (yl_move rfl rfl) ?_
           refine JA.tk 9 rfl fx35 (yl_lenSlice rfl rfl Tryz.underlying22) ?_
           refine JA.tk 10 rfl fx35 (yl_convInt rfl rfl Tryz.underlying3 Tryz.underlying5) ?_
           refine JA.eqv 104 rfl (show _ = u8 (toU8 (x.l.length : Int)) from (congrArg (Value.int .u8) (conv_u8 (x.l.length : Int)))) ?_
           refine JA.tk 11 rfl fx35 (yl_buildA (zs := [(.int .u8 0), (.int .u8 0), (.int .u8 0), (.int .u8 0), (.int .u8 0), (.int .u8 0), (.int .u8 0), (.int .u8 0), (.int .u8 0), (.int .u8 0), (.int .u8 0), (.int .u8 0)]) rfl rfl Tryz.zeroValue40 rfl Tryz.underlying40 Tryz.sizeOf5 rfl) ?_
           refine JA.tk 12 rfl fx35 (yl_move rfl rfl) ?_
           refine JA.tk 13 rfl fx35 (yl_indexAddr (off' := lo + 1) rfl rfl rfl Tryz.underlying22 Tryz.sizeOf3 (by omega) (by omega) (by simp)) ?_
           refine JA.tk 14 rfl fx35 (yl_load rfl rfl Tryz.isAgg3 (Blk.immC hlb_13) (int_from hld hx1)) ?_
           refine JA.tk 15 rfl fx35 (yl_convInt rfl rfl Tryz.underlying3 Tryz.underlying5) ?_
           refine JA.eqv 109 rfl (show _ = u8 (toU8 x1) from (congrArg (Value.int .u8) (conv_u8 x1))) ?_
           refine JA.tk 16 rfl fx35 (yl_move rfl rfl) ?_
           refine JA.tk 17 rfl fx35 (yl_convInt rfl rfl Tryz.underlying3 Tryz.underlying5) ?_
           refine JA.eqv 111 rfl (show _ = u8 (toU8 (j : Int)) from (congrArg (Value.int .u8) (conv_u8 (j : Int)))) ?_
           refine JA.tk 18 rfl fx35 (yl_move rfl rfl) ?_
           refine JA.tk 19 rfl fx35 (yl_indexAddr (off' := lo + 0) rfl rfl rfl Tryz.underlying22 Tryz.sizeOf3 (by omega) (by omega) (by simp)) ?_
           refine JA.tk 20 rfl fx35 (yl_load rfl rfl Tryz.isAgg3 (Blk.immC hlb_13) (int_from hld hx0)) ?_
           refine JA.tk 21 rfl fx35 (yl_convInt rfl rfl Tryz.underlying3 Tryz.underlying5) ?_
           refine JA.eqv 115 rfl (show _ = u8 (toU8 x0) from (congrArg (Value.int .u8) (conv_u8 x0))) ?_
           refine JA.tk 22 rfl fx35 (yl_buildA (zs := [(.int .u8 0), (.int .u8 0), (.int .u8 0), (.int .u8 0)]) rfl rfl Tryz.zeroValue41 rfl Tryz.underlying41 Tryz.sizeOf5 rfl) ?_
           refine JA.step 23 (by kernel_rfl) rfl rfl (op_pure rfl rfl rfl rfl rfl (Number_ok [toU8 x0, toU8 x1, 3, toU8 (x.l.length : Int), 0, 0, 0, 0, 0, 0, 0, 0] rfl (toU8 x1) (toU8 (j : Int)) 0 (toU8 x0) _) ?_)
           refine ⟨⟨(Le.refl _), (HSub.c 1 rfl (HSub.c 2 rfl (HSub.c 3 rfl (HSub.c 4 rfl HSub.n)))), CSub.n⟩, ?_⟩
           refine JA.fix ⟨(HSub.c 1 rfl (HSub.c 2 rfl (HSub.c 3 rfl (HSub.c 4 rfl HSub.n)))), CSub.n, (Le.refl _)⟩ (fun fx36 => ?_)
           refine JA.tk 24 rfl fx36 (yl_fieldAddr (off' := 1) rfl rfl Tryz.underlying60 rfl Tryz.sizeOf9 rfl) ?_
           refine JA.step 25 (by kernel_rfl) rfl rfl (op_store 0 rfl rfl rfl rfl rfl rfl Tryz.sizeOf9 rfl rfl (LSpl.s (LSpl.c LSpl.z)) LSet.z ?_)
           refine ⟨⟨(Le.refl _), (HSub.c 1 rfl (HSub.c 2 rfl (HSub.c 3 rfl (HSub.c 4 rfl HSub.n)))), CSub.n⟩, ?_⟩
           refine JA.done (by kernel_rfl) ?_
           refine Ej.seq (Cj.region (J.z (yl_fieldAddr (off' := 3) rfl rfl Tryz.underlying58 rfl Tryz.sizeOf56 rfl) ?_))
           refine J.z (yl_load rfl rfl Tryz.isAgg56 (Blk.at 1 rfl) rfl) ?_
           refine J.z (yl_loadAgg rfl rfl Tryz.isAgg60 Tryz.sizeOf60 (Blk.at 0 rfl) rfl rfl) ?_
           refine J.op rfl (op_buildSlice rfl rfl rfl Tryz.underlying56 Tryz.sizeOf60 Tryz.zeroValue60 rfl rfl rfl rfl (LCat.agg rfl LCat.none) ?_)
           intro b37 hb37
           refine J.op rfl (op_append (by' := 23) ([_, _, _, _, _, _] ++ gH _ _ _) rfl rfl rfl rfl rfl Tryz.underlying56 (.inr ⟨_, Tryz.underlying56⟩) (by kernel_rfl) Tryz.sizeOf60 Tryz.zeroValue60 rfl hh rfl (Src.slice (Blk.at 0 rfl) rfl rfl rfl) (by omega) ?_)
           intro g38 hg38
           refine J.z (yl_fieldAddr (off' := 3) rfl rfl Tryz.underlying58 rfl Tryz.sizeOf56 rfl) ?_
           refine J.op rfl (op_store 2 rfl rfl rfl rfl (gV_cells _ _) (gV_one _ _) Tryz.sizeOf56 rfl rfl (LSpl.s (LSpl.s (LSpl.s (LSpl.c LSpl.z)))) (LSet.s (LSet.s LSet.z)) ?_)
           refine J.nil (Ej.blkNormal (Ej.seq (Cj.region (J.z (yl_move rfl rfl) ?_))))
           refine J.z (yl_add rfl rfl rfl (w64 (by omega))) ?_
           refine J.z (yl_assign rfl rfl) ?_
           refine J.nil (Ej.keep (Keeps.d (Keeps.d (Keeps.k (Keeps.k (Keeps.k (Keeps.k Keeps.r)))))) ?_)
           refine Ej.round (j + 1, ss ++ [⟨(([97, 97, 98, 99, 122] : List UInt8).getD (x.l.length % 5) 0), (Ke.numb [toU8 x0, toU8 x1, 3, toU8 (x.l.length : Int), 0, 0, 0, 0, 0, 0, 0, 0] (toU8 x1) (toU8 (j : Int)) 0 (toU8 x0))⟩], g38) ⟨by dsimp only; omega, by dsimp only; omega, by dsimp only; rw [List.length_append, hsl]; rfl, by dsimp only; rw [texts_one]; omega, by dsimp only; rw [flat_one]; exact hg38⟩ (by dsimp only; omega) ⟨rfl, rfl, rfl, rfl, rfl, rfl, rfl, trivial⟩ rfl (by dsimp only; rw [flat_one]; rfl)
          ·
           have hc34p := of_decide_eq_false hc34
           refine Cj.skip (Ej.seq (Cj.region (J.z (yl_fieldAddr (off' := 3) rfl rfl Tryz.underlying58 rfl Tryz.sizeOf56 rfl) ?_)))
           refine J.z (yl_load rfl rfl Tryz.isAgg56 (Blk.at 1 rfl) rfl) ?_
           refine J.z (yl_loadAgg rfl rfl Tryz.isAgg60 Tryz.sizeOf60 (Blk.at 0 rfl) rfl rfl) ?_
           refine J.op rfl (op_buildSlice rfl rfl rfl Tryz.underlying56 Tryz.sizeOf60 Tryz.zeroValue60 rfl rfl rfl rfl (LCat.agg rfl LCat.none) ?_)
           intro b39 hb39
           refine J.op rfl (op_append (by' := 23) ([_, _, _, _, _, _] ++ gH _ _ _) rfl rfl rfl rfl rfl Tryz.underlying56 (.inr ⟨_, Tryz.underlying56⟩) (by kernel_rfl) Tryz.sizeOf60 Tryz.zeroValue60 rfl hh rfl (Src.slice (Blk.at 0 rfl) rfl rfl rfl) (by omega) ?_)
           intro g40 hg40
           refine J.z (yl_fieldAddr (off' := 3) rfl rfl Tryz.underlying58 rfl Tryz.sizeOf56 rfl) ?_
           refine J.op rfl (op_store 2 rfl rfl rfl rfl (gV_cells _ _) (gV_one _ _) Tryz.sizeOf56 rfl rfl (LSpl.s (LSpl.s (LSpl.s (LSpl.c LSpl.z)))) (LSet.s (LSet.s LSet.z)) ?_)
           refine J.nil (Ej.blkNormal (Ej.seq (Cj.region (J.z (yl_move rfl rfl) ?_))))
           refine J.z (yl_add rfl rfl rfl (w64 (by omega))) ?_
           refine J.z (yl_assign rfl rfl) ?_
           refine J.nil (Ej.keep (Keeps.d (Keeps.d (Keeps.k (Keeps.k (Keeps.k (Keeps.k Keeps.r)))))) ?_)
           refine Ej.round (j + 1, ss ++ [⟨(([97, 97, 98, 99, 122] : List UInt8).getD (x.l.length % 5) 0), (Ke.made x.l)⟩], g40) ⟨by dsimp only; omega, by dsimp only; omega, by dsimp only; rw [List.length_append, hsl]; rfl, by dsimp only; rw [texts_one]; omega, by dsimp only; rw [flat_one]; exact hg40⟩ (by dsimp only; omega) ⟨rfl, rfl, rfl, rfl, rfl, rfl, rfl, trivial⟩ rfl (by dsimp only; rw [flat_one]; rfl)
         ·
          have hg33p := of_decide_eq_false hg33
          refine J.skip 8 87 88 true _ rfl rfl rfl hg33 rfl rfl ?_
          refine J.skip 8 87 89 true _ rfl rfl rfl hg33 rfl rfl ?_
          refine J.skip 8 87 90 true _ rfl rfl rfl hg33 rfl rfl ?_
          refine J.skip 8 87 91 true _ rfl rfl rfl hg33 rfl rfl ?_
          refine J.skip 8 87 92 true _ rfl rfl rfl hg33 rfl rfl ?_
          refine J.z (yl_pick0 rfl rfl hg33 rfl) ?_
          refine J.nil (Ej.seq (Cj.cond rfl (fun hc41 => Bool.noConfusion (Eq.trans (Eq.symm rfl) hc41)) (fun hc41 => ?_)))
          refine Cj.skip (Ej.seq (Cj.region (J.z (yl_fieldAddr (off' := 3) rfl rfl Tryz.underlying58 rfl Tryz.sizeOf56 rfl) ?_)))
          refine J.z (yl_load rfl rfl Tryz.isAgg56 (Blk.at 1 rfl) rfl) ?_
          refine J.z (yl_loadAgg rfl rfl Tryz.isAgg60 Tryz.sizeOf60 (Blk.at 0 rfl) rfl rfl) ?_
          refine J.op rfl (op_buildSlice rfl rfl rfl Tryz.underlying56 Tryz.sizeOf60 Tryz.zeroValue60 rfl rfl rfl rfl (LCat.agg rfl LCat.none) ?_)
          intro b42 hb42
          refine J.op rfl (op_append (by' := 23) ([_, _, _, _, _, _] ++ gH _ _ _) rfl rfl rfl rfl rfl Tryz.underlying56 (.inr ⟨_, Tryz.underlying56⟩) (by kernel_rfl) Tryz.sizeOf60 Tryz.zeroValue60 rfl hh rfl (Src.slice (Blk.at 0 rfl) rfl rfl rfl) (by omega) ?_)
          intro g43 hg43
          refine J.z (yl_fieldAddr (off' := 3) rfl rfl Tryz.underlying58 rfl Tryz.sizeOf56 rfl) ?_
          refine J.op rfl (op_store 2 rfl rfl rfl rfl (gV_cells _ _) (gV_one _ _) Tryz.sizeOf56 rfl rfl (LSpl.s (LSpl.s (LSpl.s (LSpl.c LSpl.z)))) (LSet.s (LSet.s LSet.z)) ?_)
          refine J.nil (Ej.blkNormal (Ej.seq (Cj.region (J.z (yl_move rfl rfl) ?_))))
          refine J.z (yl_add rfl rfl rfl (w64 (by omega))) ?_
          refine J.z (yl_assign rfl rfl) ?_
          refine J.nil (Ej.keep (Keeps.d (Keeps.d (Keeps.k (Keeps.k (Keeps.k (Keeps.k Keeps.r)))))) ?_)
          refine Ej.round (j + 1, ss ++ [⟨(([97, 97, 98, 99, 122] : List UInt8).getD (x.l.length % 5) 0), (Ke.made x.l)⟩], g43) ⟨by dsimp only; omega, by dsimp only; omega, by dsimp only; rw [List.length_append, hsl]; rfl, by dsimp only; rw [texts_one]; omega, by dsimp only; rw [flat_one]; exact hg43⟩ (by dsimp only; omega) ⟨rfl, rfl, rfl, rfl, rfl, rfl, rfl, trivial⟩ rfl (by dsimp only; rw [flat_one]; rfl)
        ·
         have hg32p := ne_of_beq_false hg32
         refine J.skip 3 82 83 true _ rfl rfl rfl hg32 rfl rfl ?_
         refine J.skip 3 82 84 true _ rfl rfl rfl hg32 rfl rfl ?_
         refine J.skip 3 82 85 true _ rfl rfl rfl hg32 rfl rfl ?_
         refine J.z (yl_pick0 rfl rfl hg32 rfl) ?_
         refine J.z (yl_move rfl rfl) ?_
         refine J.skip 8 87 88 true _ rfl rfl rfl rfl rfl rfl ?_
         refine J.skip 8 87 89 true _ rfl rfl rfl rfl rfl rfl ?_
         refine J.skip 8 87 90 true _ rfl rfl rfl rfl rfl rfl ?_
         refine J.skip 8 87 91 true _ rfl rfl rfl rfl rfl rfl ?_
         refine J.skip 8 87 92 true _ rfl rfl rfl rfl rfl rfl ?_
         refine J.z (yl_pick0 rfl rfl rfl rfl) ?_
         refine J.nil (Ej.seq (Cj.cond rfl (fun hc44 => Bool.noConfusion (Eq.trans (Eq.symm rfl) hc44)) (fun hc44 => ?_)))
         refine Cj.skip (Ej.seq (Cj.region (J.z (yl_fieldAddr (off' := 3) rfl rfl Tryz.underlying58 rfl Tryz.sizeOf56 rfl) ?_)))
         refine J.z (yl_load rfl rfl Tryz.isAgg56 (Blk.at 1 rfl) rfl) ?_
         refine J.z (yl_loadAgg rfl rfl Tryz.isAgg60 Tryz.sizeOf60 (Blk.at 0 rfl) rfl rfl) ?_
         refine J.op rfl (op_buildSlice rfl rfl rfl Tryz.underlying56 Tryz.sizeOf60 Tryz.zeroValue60 rfl rfl rfl rfl (LCat.agg rfl LCat.none) ?_)
         intro b45 hb45
         refine J.op rfl (op_append (by' := 23) ([_, _, _, _, _, _] ++ gH _ _ _) rfl rfl rfl rfl rfl Tryz.underlying56 (.inr ⟨_, Tryz.underlying56⟩) (by kernel_rfl) Tryz.sizeOf60 Tryz.zeroValue60 rfl hh rfl (Src.slice (Blk.at 0 rfl) rfl rfl rfl) (by omega) ?_)
         intro g46 hg46
         refine J.z (yl_fieldAddr (off' := 3) rfl rfl Tryz.underlying58 rfl Tryz.sizeOf56 rfl) ?_
         refine J.op rfl (op_store 2 rfl rfl rfl rfl (gV_cells _ _) (gV_one _ _) Tryz.sizeOf56 rfl rfl (LSpl.s (LSpl.s (LSpl.s (LSpl.c LSpl.z)))) (LSet.s (LSet.s LSet.z)) ?_)
         refine J.nil (Ej.blkNormal (Ej.seq (Cj.region (J.z (yl_move rfl rfl) ?_))))
         refine J.z (yl_add rfl rfl rfl (w64 (by omega))) ?_
         refine J.z (yl_assign rfl rfl) ?_
         refine J.nil (Ej.keep (Keeps.d (Keeps.d (Keeps.k (Keeps.k (Keeps.k (Keeps.k Keeps.r)))))) ?_)
         refine Ej.round (j + 1, ss ++ [⟨(([97, 97, 98, 99, 122] : List UInt8).getD (x.l.length % 5) 0), (Ke.made x.l)⟩], g46) ⟨by dsimp only; omega, by dsimp only; omega, by dsimp only; rw [List.length_append, hsl]; rfl, by dsimp only; rw [texts_one]; omega, by dsimp only; rw [flat_one]; exact hg46⟩ (by dsimp only; omega) ⟨rfl, rfl, rfl, rfl, rfl, rfl, rfl, trivial⟩ rfl (by dsimp only; rw [flat_one]; rfl)
      ·
       have hc11p := of_decide_eq_false hc11
       refine Cj.exit (Ej.seqExit (Ej.loopExit (Ej.blkExit (Ej.seq (Cj.perm (H' := gH _ _ _ ++ ([_, _, _, _] ++ gH _ _ _)) (perm_last [_, _, _, _] _ _) ?_)))))
       refine Cj.keepR subC_len (by decide) hh hsl.symm (fun I8 hle8 hss => ?_)
       have hIJ := hIJ.mono hle8
       have hG := hG.mono hle8
       have hpb := hle8 _ _ hpb
       
       refine Cj.region (J.z (yl_fieldAddr (off' := 2) rfl rfl Tryz.underlying51 rfl Tryz.sizeOf49 rfl) ?_)
       refine J.z (yl_load rfl rfl Tryz.isAgg49 (Blk.at 1 rfl) rfl) ?_
       refine J.z (yl_loadAgg rfl rfl Tryz.isAgg58 Tryz.sizeOf58 (Blk.at 0 rfl) rfl rfl) ?_
       refine J.op rfl (op_buildSlice rfl rfl rfl Tryz.underlying49 Tryz.sizeOf58 Tryz.zeroValue58 rfl rfl rfl rfl (LCat.agg rfl LCat.none) ?_)
       intro b47 hb47
       refine J.op rfl (op_append (by' := 71) [_, _, _, _, _] rfl rfl rfl rfl rfl Tryz.underlying49 (.inr ⟨_, Tryz.underlying49⟩) (by kernel_rfl) Tryz.sizeOf58 Tryz.zeroValue58 rfl hg rfl (Src.slice (Blk.at 0 rfl) rfl rfl (by show [str (tagsL.getD (q.tag.toNat % 6) []), str [(([32, 48, 49, 52, 32, 50, 51] : List UInt8).getD (q.i0.toNat % 7) 0), (([32, 48, 49, 52, 57, 97, 51] : List UInt8).getD (q.i1.toNat % 7) 0)], str [], gV j h].all Value.oneCell' = true; simp only [List.all_cons, List.all_nil, gV_one', Bool.and_true]; rfl)) (by omega) ?_)
       intro g48 hg48
       refine J.z (yl_fieldAddr (off' := 2) rfl rfl Tryz.underlying51 rfl Tryz.sizeOf49 rfl) ?_
       refine J.op rfl (op_store 2 rfl rfl rfl rfl (gV_cells _ _) (gV_one _ _) Tryz.sizeOf49 rfl rfl (LSpl.s (LSpl.s (LSpl.c LSpl.z))) (LSet.s (LSet.s LSet.z)) ?_)
       refine J.nil (Ej.blkNormal (Ej.seq (Cj.region (J.z (yl_move rfl rfl) ?_))))
       refine J.z (yl_add rfl rfl rfl (w64 (by omega))) ?_
       refine J.z (yl_assign rfl rfl) ?_
       refine J.nil (Ej.keep (Keeps.d (Keeps.d (Keeps.k (Keeps.k (Keeps.k Keeps.r))))) ?_)
       refine Ej.round (k + 1, _, fs ++ [(⟨(tagsL.getD (q.tag.toNat % 6) []), [(([32, 48, 49, 52, 32, 50, 51] : List UInt8).getD (q.i0.toNat % 7) 0), (([32, 48, 49, 52, 57, 97, 51] : List UInt8).getD (q.i1.toNat % 7) 0)], [], gV j h, ss⟩ : Ke.Fld)], g48) ⟨by dsimp only; omega, by dsimp only; omega, hIJ, by dsimp only; rw [List.length_append, hfl]; rfl, GoodS.add hG hss ⟨by dsimp only; omega, by dsimp only; omega, Nat.le_refl 2⟩, by dsimp only; rw [flat_one]; exact hg48⟩ (by dsimp only; omega) ⟨rfl, rfl, rfl, rfl, rfl, trivial⟩ rfl (by dsimp only; rw [flat_one]; rfl)
     ·
      have hg10p := of_decide_eq_false hg10
      refine J.skip 8 58 59 true _ rfl rfl rfl hg10 rfl rfl ?_
      refine J.skip 8 58 60 true _ rfl rfl rfl hg10 rfl rfl ?_
      refine J.z (yl_pick0 rfl rfl hg10 rfl) ?_
      refine J.nil (Ej.seq (Cj.cond rfl (fun hc49 => Bool.noConfusion (Eq.trans (Eq.symm rfl) hc49)) (fun hc49 => ?_)))
      refine Cj.exit (Ej.seqExit (Ej.loopExit (Ej.blkExit (Ej.seq (Cj.perm (H' := gH _ _ _ ++ ([_, _, _, _] ++ gH _ _ _)) (perm_last [_, _, _, _] _ _) ?_)))))
      refine Cj.keepR subC_len (by decide) hh hsl.symm (fun I8 hle8 hss => ?_)
      have hIJ := hIJ.mono hle8
      have hG := hG.mono hle8
      have hpb := hle8 _ _ hpb
      
      refine Cj.region (J.z (yl_fieldAddr (off' := 2) rfl rfl Tryz.underlying51 rfl Tryz.sizeOf49 rfl) ?_)
      refine J.z (yl_load rfl rfl Tryz.isAgg49 (Blk.at 1 rfl) rfl) ?_
      refine J.z (yl_loadAgg rfl rfl Tryz.isAgg58 Tryz.sizeOf58 (Blk.at 0 rfl) rfl rfl) ?_
      refine J.op rfl (op_buildSlice rfl rfl rfl Tryz.underlying49 Tryz.sizeOf58 Tryz.zeroValue58 rfl rfl rfl rfl (LCat.agg rfl LCat.none) ?_)
      intro b50 hb50
      refine J.op rfl (op_append (by' := 71) [_, _, _, _, _] rfl rfl rfl rfl rfl Tryz.underlying49 (.inr ⟨_, Tryz.underlying49⟩) (by kernel_rfl) Tryz.sizeOf58 Tryz.zeroValue58 rfl hg rfl (Src.slice (Blk.at 0 rfl) rfl rfl (by show [str (tagsL.getD (q.tag.toNat % 6) []), str [(([32, 48, 49, 52, 32, 50, 51] : List UInt8).getD (q.i0.toNat % 7) 0), (([32, 48, 49, 52, 57, 97, 51] : List UInt8).getD (q.i1.toNat % 7) 0)], str [], gV j h].all Value.oneCell' = true; simp only [List.all_cons, List.all_nil, gV_one', Bool.and_true]; rfl)) (by omega) ?_)
      intro g51 hg51
      refine J.z (yl_fieldAddr (off' := 2) rfl rfl Tryz.underlying51 rfl Tryz.sizeOf49 rfl) ?_
      refine J.op rfl (op_store 2 rfl rfl rfl rfl (gV_cells _ _) (gV_one _ _) Tryz.sizeOf49 rfl rfl (LSpl.s (LSpl.s (LSpl.c LSpl.z))) (LSet.s (LSet.s LSet.z)) ?_)
      refine J.nil (Ej.blkNormal (Ej.seq (Cj.region (J.z (yl_move rfl rfl) ?_))))
      refine J.z (yl_add rfl rfl rfl (w64 (by omega))) ?_
      refine J.z (yl_assign rfl rfl) ?_
      refine J.nil (Ej.keep (Keeps.d (Keeps.d (Keeps.k (Keeps.k (Keeps.k Keeps.r))))) ?_)
      refine Ej.round (k + 1, _, fs ++ [(⟨(tagsL.getD (q.tag.toNat % 6) []), [(([32, 48, 49, 52, 32, 50, 51] : List UInt8).getD (q.i0.toNat % 7) 0), (([32, 48, 49, 52, 57, 97, 51] : List UInt8).getD (q.i1.toNat % 7) 0)], [], gV j h, ss⟩ : Ke.Fld)], g51) ⟨by dsimp only; omega, by dsimp only; omega, hIJ, by dsimp only; rw [List.length_append, hfl]; rfl, GoodS.add hG hss ⟨by dsimp only; omega, by dsimp only; omega, Nat.le_refl 2⟩, by dsimp only; rw [flat_one]; exact hg51⟩ (by dsimp only; omega) ⟨rfl, rfl, rfl, rfl, rfl, trivial⟩ rfl (by dsimp only; rw [flat_one]; rfl)
    ·
     refine ⟨_, rfl, rfl, ?_⟩
     refine op_alloc rfl rfl rfl Tryz.zeroValue58 rfl ?_
     intro b52 hb52
     refine ⟨⟨(Le.refl _), (HSub.c 2 rfl (HSub.c 3 rfl (HSub.c 4 rfl HSub.n))), CSub.n⟩, ?_⟩
     refine JA.step 26 (by kernel_rfl) rfl rfl (op_yld (yl_toStr [(([32, 48, 49, 52, 32, 50, 51] : List UInt8).getD (q.i0.toNat % 7) 0), (([32, 48, 49, 52, 57, 97, 51] : List UInt8).getD (q.i1.toNat % 7) 0)] rfl rfl rfl Tryz.underlying46 Tryz.underlying9 Tryz.underlying5 (Blk.at 1 rfl) rfl) rfl rfl ?_)
     refine ⟨⟨(Le.refl _), (HSub.c 2 rfl (HSub.c 3 rfl (HSub.c 4 rfl HSub.n))), CSub.n⟩, ?_⟩
     refine JA.fix ⟨(HSub.c 2 rfl (HSub.c 3 rfl (HSub.c 4 rfl HSub.n))), CSub.n, (Le.refl _)⟩ (fun fx53 => ?_)
     refine JA.tk 27 rfl fx53 (yl_buildS (pl := #[(0, 1), (1, 1), (2, 1), (3, 1)]) rfl rfl Tryz.zeroValue58 rfl Tryz.underlying58 (fun w => by simp [Tryz.sizeOf56, Tryz.sizeOf9]) (LBld.part rfl rfl rfl (LSpl.c LSpl.z) (LBld.part rfl rfl rfl (LSpl.s (LSpl.c LSpl.z)) LBld.none))) ?_
     refine JA.step 29 (by kernel_rfl) rfl rfl (op_store 0 rfl rfl rfl rfl rfl rfl Tryz.sizeOf58 rfl rfl (LSpl.c (LSpl.c (LSpl.c (LSpl.c LSpl.z)))) LSet.z ?_)
     refine ⟨⟨(Le.refl _), (HSub.c 2 rfl (HSub.c 3 rfl (HSub.c 4 rfl HSub.n))), CSub.n⟩, ?_⟩
     refine JA.done (by kernel_rfl) ?_
     refine Ej.seq (Cj.seq (Cj.seq (Cj.region (J.z (yl_assign rfl rfl) ?_))))
     refine J.nil (Ej.seq (Cj.block (Cj.keep (Keeps.k (Keeps.d (Keeps.k (Keeps.k (Keeps.k Keeps.r))))) ?_)))
     refine Cj.loop (ι := Nat × List Ke.Sub × Gs) (fun y => y.1 ≤ q.subs.length ∧ y.1 ≤ 6 ∧ y.2.1.length = y.1 ∧ textsLen y.2.1 ≤ 240 * y.1 ∧ gOk w0.heap.size 2 y.1 (y.2.1.flatMap subC) y.2.2) (fun y => 6 - y.1) (fun y => [(0, .slice (some ⟨pb, po, none⟩) ps.length c), (2, ptr b1 0), (3, .slice (some ⟨b2, 0, none⟩) 6 6), (4, ptr b3 0), (5, i64 (k : Int)), (6, ptr b52 0), (7, i64 (y.1 : Int))]) (fun y => _) (fun y => (b52, cel 58 [str (tagsL.getD (q.tag.toNat % 6) []), str [(([32, 48, 49, 52, 32, 50, 51] : List UInt8).getD (q.i0.toNat % 7) 0), (([32, 48, 49, 52, 57, 97, 51] : List UInt8).getD (q.i1.toNat % 7) 0)], str [], gV y.1 y.2.2]) :: (b3, cel 51 [u8 97, u8 109, gV k g]) :: (b2, cel 9 (tagsL.map str)) :: (b1, cel 51 [u8 0, u8 0, .slice none 0 0]) :: (gH 58 (fs.flatMap fldC) g ++ gH 60 (y.2.1.flatMap subC) y.2.2)) (0, [], none) ⟨Nat.zero_le _, Nat.zero_le _, rfl, Nat.zero_le _, rfl, rfl⟩ ⟨rfl, rfl, rfl, rfl, rfl, rfl, rfl, trivial⟩ rfl (by dsimp only; rw [show gH _ (([] : List Ke.Sub).flatMap subC) none = [] from rfl, List.append_nil]; rfl) ?_
     rintro ⟨j, ss, h⟩ ⟨hj, hj2, hsl, htx, hh⟩
     dsimp only at hj hj2 hsl htx hh ⊢
     refine Cj.seq (Cj.seq (Cj.region (J.z (yl_move rfl rfl) ?_)))
     refine J.z (yl_move rfl rfl) ?_
     refine J.z (yl_move rfl rfl) ?_
     refine J.z (yl_indexAddr (off' := po + k * 4) rfl rfl rfl Tryz.underlying48 Tryz.sizeOf78 (by omega) (by omega) (by simp)) ?_
     refine J.z (yl_fieldAddr rfl rfl Tryz.underlying78 rfl Tryz.sizeOf76 rfl) ?_
     refine J.z (yl_load rfl rfl Tryz.isAgg76 (Blk.imm hpb) (row_fcell pcC_len hpd hpget 3 (by decide))) ?_
     refine J.eqv 55 rfl (show _ = .slice p3 q.subs.length c3 from hqsv) ?_
     refine J.z (yl_lenSlice rfl rfl Tryz.underlying76) ?_
     refine J.z (yl_lss rfl rfl rfl) ?_
     refine J.z (yl_move rfl rfl) ?_
     refine J.split 58 rfl (fun hg54 => ?_) (fun hg54 => ?_)
     ·
      have hg54p := of_decide_eq_true hg54
      refine J.opG 8 58 true _ rfl rfl rfl hg54 (op_yld (yl_move rfl rfl) rfl rfl ?_)
      refine J.opG 8 58 true _ rfl rfl rfl hg54 (op_yld (yl_lss rfl rfl rfl) rfl rfl ?_)
      refine J.z (yl_pick1 rfl rfl hg54 rfl) ?_
      refine J.nil (Ej.seq (Cj.cond rfl (fun hc55 => ?_) (fun hc55 => ?_)))
      ·
       have hc55p := of_decide_eq_true hc55
       refine Cj.skip (Ej.seq (Cj.seq (Cj.block (Cj.seq ?_))))
       have hjlt : j < q.subs.length := by omega
       have hjlt2 : j < 6 := by omega
       obtain ⟨x, hxget⟩ : ∃ x, q.subs[j]? = some x := ⟨_, List.getElem?_eq_getElem hjlt⟩
       obtain ⟨xb, xo, xcs, xty, xfr, xsp, rfl, hxb, hxd⟩ := hqp (ne_nil_of hjlt)
       have hxi := hqx x (List.mem_of_getElem? hxget)
       obtain ⟨lp, lc, hxv, hlc, hlp⟩ := id hxi
       rw [hxv] at hxi
       have hml := Ke.made_len x.l
       refine Cj.region (J.z (yl_move rfl rfl) ?_)
       refine J.z (yl_move rfl rfl) ?_
       refine J.z (yl_indexAddr (off' := po + k * 4) rfl rfl rfl Tryz.underlying48 Tryz.sizeOf78 (by omega) (by omega) (by simp)) ?_
       refine J.z (yl_fieldAddr rfl rfl Tryz.underlying78 rfl Tryz.sizeOf76 rfl) ?_
       refine J.z (yl_load rfl rfl Tryz.isAgg76 (Blk.imm hpb) (row_fcell pcC_len hpd hpget 3 (by decide))) ?_
       refine J.eqv 68 rfl (show _ = .slice (some ⟨xb, xo, none⟩) q.subs.length c3 from hqsv) ?_
       refine J.z (yl_move rfl rfl) ?_
       refine J.z (yl_indexAddr (off' := xo + j) rfl rfl rfl Tryz.underlying76 Tryz.sizeOf22 (by omega) (by omega) (by simp)) ?_
       refine J.z (yl_load rfl rfl Tryz.isAgg22 (Blk.imm hxb) (xs_at hxd hxget)) ?_
       refine J.eqv 71 rfl (show _ = .slice lp x.l.length lc from hxv) ?_
       refine J.z (yl_assign rfl rfl) ?_
       refine J.nil (Ej.seq (Cj.seq (Cj.drawSel [0, 1, 2, 3] [] 9 (by kernel_rfl) ?_)))
       have hpb_11 := hpb
       have hxb_11 := hxb
       refine JA.fix ⟨(HSub.c 0 rfl (HSub.c 1 rfl (HSub.c 2 rfl (HSub.c 3 rfl HSub.n)))), CSub.n, (Le.refl _)⟩ (fun fx56 => ?_)
       refine JA.tk 0 rfl fx56 (yl_move rfl rfl) ?_
       refine JA.tk 1 rfl fx56 (yl_lenSlice rfl rfl Tryz.underlying22) ?_
       refine JA.tk 2 rfl fx56 (yl_rem rfl rfl rfl (by decide)) ?_
       refine JA.eqv 74 rfl (show _ = i64 ((x.l.length % 5 : Nat) : Int) from rfl) ?_
       refine JA.tk 3 rfl fx56 (yl_index rfl rfl rfl Tryz.underlying9 (by omega) (at_mod rfl (by decide) _)) ?_
       refine JA.tk 4 rfl fx56 (yl_move rfl rfl) ?_
       refine JA.all [5, 7] (by kernel_rfl) (by simp) ?_
       intro i hi
       simp only [List.mem_cons, List.not_mem_nil, or_false] at hi
       rcases hi with rfl | rfl
       ·
        refine ⟨_, rfl, rfl, ?_⟩
        refine op_pure rfl rfl rfl rfl rfl (Made_ok x.l _ _ hxi) ?_
        refine ⟨⟨(Le.refl _), (HSub.c 0 rfl (HSub.c 1 rfl (HSub.c 2 rfl (HSub.c 3 rfl HSub.n)))), CSub.n⟩, ?_⟩
        refine JA.fix ⟨(HSub.c 0 rfl (HSub.c 1 rfl (HSub.c 2 rfl (HSub.c 3 rfl HSub.n)))), CSub.n, (Le.refl _)⟩ (fun fx57 => ?_)
        refine JA.tk 6 rfl fx57 (yl_buildS (pl := #[(0, 1), (1, 1)]) rfl rfl Tryz.zeroValue60 rfl Tryz.underlying60 (fun w => by simp [Tryz.sizeOf5, Tryz.sizeOf9]) (LBld.part rfl rfl rfl (LSpl.c LSpl.z) (LBld.part rfl rfl rfl (LSpl.s (LSpl.c LSpl.z)) LBld.none))) ?_
        refine JA.step 7 (by kernel_rfl) rfl rfl (op_alloc rfl rfl rfl Tryz.zeroValue60 rfl ?_)
        intro b58 hb58
        refine ⟨⟨(Le.refl _), (HSub.c 1 rfl (HSub.c 2 rfl (HSub.c 3 rfl (HSub.c 4 rfl HSub.n)))), CSub.n⟩, ?_⟩
        refine JA.step 8 (by kernel_rfl) rfl rfl (op_store 0 rfl rfl rfl rfl rfl rfl Tryz.sizeOf60 rfl rfl (LSpl.c (LSpl.c LSpl.z)) LSet.z ?_)
        refine ⟨⟨(Le.refl _), (HSub.c 1 rfl (HSub.c 2 rfl (HSub.c 3 rfl (HSub.c 4 rfl HSub.n)))), CSub.n⟩, ?_⟩
        refine JA.done (by kernel_rfl) ?_
        refine Ej.seq (Cj.seq (Cj.seq (Cj.region (J.z (yl_fieldAddr (off' := 0) rfl rfl Tryz.underlying58 rfl Tryz.sizeOf9 rfl) ?_))))
        refine J.z (yl_load rfl rfl Tryz.isAgg9 (Blk.at 1 rfl) rfl) ?_
        refine J.z (yl_eqlStr rfl rfl rfl) ?_
        refine J.z (yl_move rfl rfl) ?_
        refine J.split 82 rfl (fun hg59 => ?_) (fun hg59 => ?_)
        ·
         have hg59p := eq_of_beq hg59
         refine J.opG 3 82 true _ rfl rfl rfl hg59 (op_yld (yl_move rfl rfl) rfl rfl ?_)
         refine J.opG 3 82 true _ rfl rfl rfl hg59 (op_yld (yl_lenSlice rfl rfl Tryz.underlying22) rfl rfl ?_)
         refine J.opG 3 82 true _ rfl rfl rfl hg59 (op_yld (yl_gtr rfl rfl rfl) rfl rfl ?_)
         refine J.z (yl_pick1 rfl rfl hg59 rfl) ?_
         refine J.z (yl_move rfl rfl) ?_
         refine J.split 87 rfl (fun hg60 => ?_) (fun hg60 => ?_)
         ·
          have hg60p := of_decide_eq_true hg60
          have hl2 : 1 < x.l.length := by omega
          obtain ⟨x0, hx0⟩ : ∃ a, x.l[0]? = some a := ⟨_, List.getElem?_eq_getElem (by omega)⟩
          obtain ⟨x1, hx1⟩ : ∃ a, x.l[1]? = some a := ⟨_, List.getElem?_eq_getElem (by omega)⟩
          obtain ⟨lb, lo, lcs, lty, lfr, lsp, rfl, hlb, hld⟩ := hlp (ne_nil_of hl2)
          refine J.opG 8 87 true _ rfl rfl rfl hg60 (op_yld (yl_move rfl rfl) rfl rfl ?_)
          refine J.opG 8 87 true _ rfl rfl rfl hg60 (op_yld (yl_indexAddr (off' := lo + 0) rfl rfl rfl Tryz.underlying22 Tryz.sizeOf3 (by omega) (by omega) (by simp)) rfl rfl ?_)
          refine J.opG 8 87 true _ rfl rfl rfl hg60 (op_yld (yl_load rfl rfl Tryz.isAgg3 (Blk.imm hlb) (int_from hld hx0)) rfl rfl ?_)
          refine J.opG 8 87 true _ rfl rfl rfl hg60 (op_yld (yl_rem rfl rfl rfl (by decide)) rfl rfl ?_)
          refine J.opG 8 87 true _ rfl rfl rfl hg60 (op_yld (yl_gtr rfl rfl rfl) rfl rfl ?_)
          refine J.z (yl_pick1 rfl rfl hg60 rfl) ?_
          refine J.nil (Ej.seq (Cj.cond rfl (fun hc61 => ?_) (fun hc61 => ?_)))
          ·
           have hc61p := of_decide_eq_true hc61
           have hnl := numb_len2 [toU8 x0, toU8 x1, 3, toU8 (x.l.length : Int), 0, 0, 0, 0, 0, 0, 0, 0] rfl (toU8 x1) (toU8 (j : Int)) 0 (toU8 x0)
           refine Cj.drawSel [1, 2, 3, 4] [] 26 (by kernel_rfl) ?_
           have hpb_13 := hpb
           have hxb_13 := hxb
           have hlb_13 := hlb
           refine JA.fix ⟨(HSub.c 1 rfl (HSub.c 2 rfl (HSub.c 3 rfl (HSub.c 4 rfl HSub.n)))), CSub.n, (Le.refl _)⟩ (fun fx62 => ?_)
           refine JA.tk 0 rfl fx62 (yl_move rfl rfl) ?_
           refine JA.tk 1 rfl fx62 (yl_indexAddr (off' := lo + 0) rfl rfl rfl Tryz.underlying22 Tryz.sizeOf3 (by omega) (by omega) (by simp)) ?_
           refine JA.tk 2 rfl fx62 (yl_load rfl rfl Tryz.isAgg3 (Blk.immC hlb_13) (int_from hld hx0)) ?_
           refine JA.tk 3 rfl fx62 (yl_convInt rfl rfl Tryz.underlying3 Tryz.underlying5) ?_
           refine JA.eqv 97 rfl (show _ = u8 (toU8 x0) from (congrArg (Value.int .u8) (conv_u8 x0))) ?_
           refine JA.tk 4 rfl fx62 (yl_move rfl rfl) ?_
           refine JA.tk 5 rfl fx62 (yl_indexAddr (off' := lo + 1) rfl rfl rfl Tryz.underlying22 Tryz.sizeOf3 (by omega) (by omega) (by simp)) ?_
           refine JA.tk 6 rfl fx62 (yl_load rfl rfl Tryz.isAgg3 (Blk.immC hlb_13) (int_from hld hx1)) ?_
           refine JA.tk 7 rfl fx62 (yl_convInt rfl rfl Tryz.underlying3 Tryz.underlying5) ?_
           refine JA.eqv 101 rfl (show _ = u8 (toU8 x1) from (congrArg (Value.int .u8) (conv_u8 x1))) ?_
           refine JA.tk 8 rfl fx62 (yl_move rfl rfl) ?_
           refine JA.tk 9 rfl fx62 (yl_lenSlice rfl rfl Tryz.underlying22) ?_
           refine JA.tk 10 rfl fx62 (yl_convInt rfl rfl Tryz.underlying3 Tryz.underlying5) ?_
           refine JA.eqv 104 rfl (show _ = u8 (toU8 (x.l.length : Int)) from (congrArg (Value.int .u8) (conv_u8 (x.l.length : Int)))) ?_
           refine JA.tk 11 rfl fx62 (yl_buildA (zs := [(.int .u8 0), (.int .u8 0), (.int .u8 0), (.int .u8 0), (.int .u8 0), (.int .u8 0), (.int .u8 0), (.int .u8 0), (.int .u8 0), (.int .u8 0), (.int .u8 0), (.int .u8 0)]) rfl rfl Tryz.zeroValue40 rfl Tryz.underlying40 Tryz.sizeOf5 rfl) ?_
           refine JA.tk 12 rfl fx62 (yl_move rfl rfl) ?_
           refine JA.tk 13 rfl fx62 (yl_indexAddr (off' := lo + 1) rfl rfl rfl Tryz.underlying22 Tryz.sizeOf3 (by omega) (by omega) (by simp)) ?_
           refine JA.tk 14 rfl fx62 (yl_load rfl rfl Tryz.isAgg3 (Blk.immC hlb_13) (int_from hld hx1)) ?_
           refine JA.tk 15 rfl fx62 (yl_convInt rfl rfl Tryz.underlying3 Tryz.underlying5) ?_
           refine JA.eqv 109 rfl (show _ = u8 (toU8 x1) from (congrArg (Value.int .u8) (conv_u8 x1))) ?_
           refine JA.tk 16 rfl fx62 (yl_move rfl rfl) ?_
           refine JA.tk 17 rfl fx62 (yl_convInt rfl rfl Tryz.underlying3 Tryz.underlying5) ?_
           refine JA.eqv 111 rfl (show _ = u8 (toU8 (j : Int)) from (congrArg (Value.int .u8) (conv_u8 (j : Int)))) ?_
           refine JA.tk 18 rfl fx62 (yl_move rfl rfl) ?_
           refine JA.tk 19 rfl fx62 (yl_indexAddr (off' := lo + 0) rfl rfl rfl Tryz.underlying22 Tryz.sizeOf3 (by omega) (by omega) (by simp)) ?_
           refine JA.tk 20 rfl fx62 (yl_load rfl rfl Tryz.isAgg3 (Blk.immC hlb_13) (int_from hld hx0)) ?_
           refine JA.tk 21 rfl fx62 (yl_convInt rfl rfl Tryz.underlying3 Tryz.underlying5) ?_
           refine JA.eqv 115 rfl (show _ = u8 (toU8 x0) from (congrArg (Value.int .u8) (conv_u8 x0))) ?_
           refine JA.tk 22 rfl fx62 (yl_buildA (zs := [(.int .u8 0), (.int .u8 0), (.int .u8 0), (.int .u8 0)]) rfl rfl Tryz.zeroValue41 rfl Tryz.underlying41 Tryz.sizeOf5 rfl) ?_
           refine JA.step 23 (by kernel_rfl) rfl rfl (op_pure rfl rfl rfl rfl rfl (Number_ok [toU8 x0, toU8 x1, 3, toU8 (x.l.length : Int), 0, 0, 0, 0, 0, 0, 0, 0] rfl (toU8 x1) (toU8 (j : Int)) 0 (toU8 x0) _) ?_)
           refine ⟨⟨(Le.refl _), (HSub.c 1 rfl (HSub.c 2 rfl (HSub.c 3 rfl (HSub.c 4 rfl HSub.n)))), CSub.n⟩, ?_⟩
           refine JA.fix ⟨(HSub.c 1 rfl (HSub.c 2 rfl (HSub.c 3 rfl (HSub.c 4 rfl HSub.n)))), CSub.n, (Le.refl _)⟩ (fun fx63 => ?_)
           refine JA.tk 24 rfl fx63 (yl_fieldAddr (off' := 1) rfl rfl Tryz.underlying60 rfl Tryz.sizeOf9 rfl) ?_
           refine JA.step 25 (by kernel_rfl) rfl rfl (op_store 0 rfl rfl rfl rfl rfl rfl Tryz.sizeOf9 rfl rfl (LSpl.s (LSpl.c LSpl.z)) LSet.z ?_)
           refine ⟨⟨(Le.refl _), (HSub.c 1 rfl (HSub.c 2 rfl (HSub.c 3 rfl (HSub.c 4 rfl HSub.n)))), CSub.n⟩, ?_⟩
           refine JA.done (by kernel_rfl) ?_
           refine Ej.seq (Cj.region (J.z (yl_fieldAddr (off' := 3) rfl rfl Tryz.underlying58 rfl Tryz.sizeOf56 rfl) ?_))
           refine J.z (yl_load rfl rfl Tryz.isAgg56 (Blk.at 1 rfl) rfl) ?_
           refine J.z (yl_loadAgg rfl rfl Tryz.isAgg60 Tryz.sizeOf60 (Blk.at 0 rfl) rfl rfl) ?_
           refine J.op rfl (op_buildSlice rfl rfl rfl Tryz.underlying56 Tryz.sizeOf60 Tryz.zeroValue60 rfl rfl rfl rfl (LCat.agg rfl LCat.none) ?_)
           intro b64 hb64
           refine J.op rfl (op_append (by' := 23) ([_, _, _, _, _, _] ++ gH _ _ _) rfl rfl rfl rfl rfl Tryz.underlying56 (.inr ⟨_, Tryz.underlying56⟩) (by kernel_rfl) Tryz.sizeOf60 Tryz.zeroValue60 rfl hh rfl (Src.slice (Blk.at 0 rfl) rfl rfl rfl) (by omega) ?_)
           intro g65 hg65
           refine J.z (yl_fieldAddr (off' := 3) rfl rfl Tryz.underlying58 rfl Tryz.sizeOf56 rfl) ?_
           refine J.op rfl (op_store 2 rfl rfl rfl rfl (gV_cells _ _) (gV_one _ _) Tryz.sizeOf56 rfl rfl (LSpl.s (LSpl.s (LSpl.s (LSpl.c LSpl.z)))) (LSet.s (LSet.s LSet.z)) ?_)
           refine J.nil (Ej.blkNormal (Ej.seq (Cj.region (J.z (yl_move rfl rfl) ?_))))
           refine J.z (yl_add rfl rfl rfl (w64 (by omega))) ?_
           refine J.z (yl_assign rfl rfl) ?_
           refine J.nil (Ej.keep (Keeps.d (Keeps.d (Keeps.k (Keeps.k (Keeps.k (Keeps.k Keeps.r)))))) ?_)
           refine Ej.round (j + 1, ss ++ [⟨(([97, 97, 98, 99, 122] : List UInt8).getD (x.l.length % 5) 0), (Ke.numb [toU8 x0, toU8 x1, 3, toU8 (x.l.length : Int), 0, 0, 0, 0, 0, 0, 0, 0] (toU8 x1) (toU8 (j : Int)) 0 (toU8 x0))⟩], g65) ⟨by dsimp only; omega, by dsimp only; omega, by dsimp only; rw [List.length_append, hsl]; rfl, by dsimp only; rw [texts_one]; omega, by dsimp only; rw [flat_one]; exact hg65⟩ (by dsimp only; omega) ⟨rfl, rfl, rfl, rfl, rfl, rfl, rfl, trivial⟩ rfl (by dsimp only; rw [flat_one]; rfl)
          ·
           have hc61p := of_decide_eq_false hc61
           refine Cj.skip (Ej.seq (Cj.region (J.z (yl_fieldAddr (off' := 3) rfl rfl Tryz.underlying58 rfl Tryz.sizeOf56 rfl) ?_)))
           refine J.z (yl_load rfl rfl Tryz.isAgg56 (Blk.at 1 rfl) rfl) ?_
           refine J.z (yl_loadAgg rfl rfl Tryz.isAgg60 Tryz.sizeOf60 (Blk.at 0 rfl) rfl rfl) ?_
           refine J.op rfl (op_buildSlice rfl rfl rfl Tryz.underlying56 Tryz.sizeOf60 Tryz.zeroValue60 rfl rfl rfl rfl (LCat.agg rfl LCat.none) ?_)
           intro b66 hb66
           refine J.op rfl (op_append (by' := 23) ([_, _, _, _, _, _] ++ gH _ _ _) rfl rfl rfl rfl rfl Tryz.underlying56 (.inr ⟨_, Tryz.underlying56⟩) (by kernel_rfl) Tryz.sizeOf60 Tryz.zeroValue60 rfl hh rfl (Src.slice (Blk.at 0 rfl) rfl rfl rfl) (by omega) ?_)
           intro g67 hg67
           refine J.z (yl_fieldAddr (off' := 3) rfl rfl Tryz.underlying58 rfl Tryz.sizeOf56 rfl) ?_
           refine J.op rfl (op_store 2 rfl rfl rfl rfl (gV_cells _ _) (gV_one _ _) Tryz.sizeOf56 rfl rfl (LSpl.s (LSpl.s (LSpl.s (LSpl.c LSpl.z)))) (LSet.s (LSet.s LSet.z)) ?_)
           refine J.nil (Ej.blkNormal (Ej.seq (Cj.region (J.z (yl_move rfl rfl) ?_))))
           refine J.z (yl_add rfl rfl rfl (w64 (by omega))) ?_
           refine J.z (yl_assign rfl rfl) ?_
           refine J.nil (Ej.keep (Keeps.d (Keeps.d (Keeps.k (Keeps.k (Keeps.k (Keeps.k Keeps.r)))))) ?_)
           refine Ej.round (j + 1, ss ++ [⟨(([97, 97, 98, 99, 122] : List UInt8).getD (x.l.length % 5) 0), (Ke.made x.l)⟩], g67) ⟨by dsimp only; omega, by dsimp only; omega, by dsimp only; rw [List.length_append, hsl]; rfl, by dsimp only; rw [texts_one]; omega, by dsimp only; rw [flat_one]; exact hg67⟩ (by dsimp only; omega) ⟨rfl, rfl, rfl, rfl, rfl, rfl, rfl, trivial⟩ rfl (by dsimp only; rw [flat_one]; rfl)
         ·
          have hg60p := of_decide_eq_false hg60
          refine J.skip 8 87 88 true _ rfl rfl rfl hg60 rfl rfl ?_
          refine J.skip 8 87 89 true _ rfl rfl rfl hg60 rfl rfl ?_
          refine J.skip 8 87 90 true _ rfl rfl rfl hg60 rfl rfl ?_
          refine J.skip 8 87 91 true _ rfl rfl rfl hg60 rfl rfl ?_
          refine J.skip 8 87 92 true _ rfl rfl rfl hg60 rfl rfl ?_
          refine J.z (yl_pick0 rfl rfl hg60 rfl) ?_
          refine J.nil (Ej.seq (Cj.cond rfl (fun hc68 => Bool.noConfusion (Eq.trans (Eq.symm rfl) hc68)) (fun hc68 => ?_)))
          refine Cj.skip (Ej.seq (Cj.region (J.z (yl_fieldAddr (off' := 3) rfl rfl Tryz.underlying58 rfl Tryz.sizeOf56 rfl) ?_)))
          refine J.z (yl_load rfl rfl Tryz.isAgg56 (Blk.at 1 rfl) rfl) ?_
          refine J.z (yl_loadAgg rfl rfl Tryz.isAgg60 Tryz.sizeOf60 (Blk.at 0 rfl) rfl rfl) ?_
          refine J.op rfl (op_buildSlice rfl rfl rfl Tryz.underlying56 Tryz.sizeOf60 Tryz.zeroValue60 rfl rfl rfl rfl (LCat.agg rfl LCat.none) ?_)
          intro b69 hb69
          refine J.op rfl (op_append (by' := 23) ([_, _, _, _, _, _] ++ gH _ _ _) rfl rfl rfl rfl rfl Tryz.underlying56 (.inr ⟨_, Tryz.underlying56⟩) (by kernel_rfl) Tryz.sizeOf60 Tryz.zeroValue60 rfl hh rfl (Src.slice (Blk.at 0 rfl) rfl rfl rfl) (by omega) ?_)
          intro g70 hg70
          refine J.z (yl_fieldAddr (off' := 3) rfl rfl Tryz.underlying58 rfl Tryz.sizeOf56 rfl) ?_
          refine J.op rfl (op_store 2 rfl rfl rfl rfl (gV_cells _ _) (gV_one _ _) Tryz.sizeOf56 rfl rfl (LSpl.s (LSpl.s (LSpl.s (LSpl.c LSpl.z)))) (LSet.s (LSet.s LSet.z)) ?_)
          refine J.nil (Ej.blkNormal (Ej.seq (Cj.region (J.z (yl_move rfl rfl) ?_))))
          refine J.z (yl_add rfl rfl rfl (w64 (by omega))) ?_
          refine J.z (yl_assign rfl rfl) ?_
          refine J.nil (Ej.keep (Keeps.d (Keeps.d (Keeps.k (Keeps.k (Keeps.k (Keeps.k Keeps.r)))))) ?_)
          refine Ej.round (j + 1, ss ++ [⟨(([97, 97, 98, 99, 122] : List UInt8).getD (x.l.length % 5) 0), (Ke.made x.l)⟩], g70) ⟨by dsimp only; omega, by dsimp only; omega, by dsimp only; rw [List.length_append, hsl]; rfl, by dsimp only; rw [texts_one]; omega, by dsimp only; rw [flat_one]; exact hg70⟩ (by dsimp only; omega) ⟨rfl, rfl, rfl, rfl, rfl, rfl, rfl, trivial⟩ rfl (by dsimp only; rw [flat_one]; rfl)
        ·
         have hg59p := ne_of_beq_false hg59
         refine J.skip 3 82 83 true _ rfl rfl rfl hg59 rfl rfl ?_
         refine J.skip 3 82 84 true _ rfl rfl rfl hg59 rfl rfl ?_
         refine J.skip 3 82 85 true _ rfl rfl rfl hg59 rfl rfl ?_
         refine J.z (yl_pick0 rfl rfl hg59 rfl) ?_
         refine J.z (yl_move rfl rfl) ?_
         refine J.skip 8 87 88 true _ rfl rfl rfl rfl rfl rfl ?_
         refine J.skip 8 87 89 true _ rfl rfl rfl rfl rfl rfl ?_
         refine J.skip 8 87 90 true _ rfl rfl rfl rfl rfl rfl ?_
         refine J.skip 8 87 91 true _ rfl rfl rfl rfl rfl rfl ?_
         refine J.skip 8 87 92 true _ rfl rfl rfl rfl rfl rfl ?_
         refine J.z (yl_pick0 rfl rfl rfl rfl) ?_
         refine J.nil (Ej.seq (Cj.cond rfl (fun hc71 => Bool.noConfusion (Eq.trans (Eq.symm rfl) hc71)) (fun hc71 => ?_)))
         refine Cj.skip (Ej.seq (Cj.region (J.z (yl_fieldAddr (off' := 3) rfl rfl Tryz.underlying58 rfl Tryz.sizeOf56 rfl) ?_)))
         refine J.z (yl_load rfl rfl Tryz.isAgg56 (Blk.at 1 rfl) rfl) ?_
         refine J.z (yl_loadAgg rfl rfl Tryz.isAgg60 Tryz.sizeOf60 (Blk.at 0 rfl) rfl rfl) ?_
         refine J.op rfl (op_buildSlice rfl rfl rfl Tryz.underlying56 Tryz.sizeOf60 Tryz.zeroValue60 rfl rfl rfl rfl (LCat.agg rfl LCat.none) ?_)
         intro b72 hb72
         refine J.op rfl (op_append (by' := 23) ([_, _, _, _, _, _] ++ gH _ _ _) rfl rfl rfl rfl rfl Tryz.underlying56 (.inr ⟨_, Tryz.underlying56⟩) (by kernel_rfl) Tryz.sizeOf60 Tryz.zeroValue60 rfl hh rfl (Src.slice (Blk.at 0 rfl) rfl rfl rfl) (by omega) ?_)
         intro g73 hg73
         refine J.z (yl_fieldAddr (off' := 3) rfl rfl Tryz.underlying58 rfl Tryz.sizeOf56 rfl) ?_
         refine J.op rfl (op_store 2 rfl rfl rfl rfl (gV_cells _ _) (gV_one _ _) Tryz.sizeOf56 rfl rfl (LSpl.s (LSpl.s (LSpl.s (LSpl.c LSpl.z)))) (LSet.s (LSet.s LSet.z)) ?_)
         refine J.nil (Ej.blkNormal (Ej.seq (Cj.region (J.z (yl_move rfl rfl) ?_))))
         refine J.z (yl_add rfl rfl rfl (w64 (by omega))) ?_
         refine J.z (yl_assign rfl rfl) ?_
         refine J.nil (Ej.keep (Keeps.d (Keeps.d (Keeps.k (Keeps.k (Keeps.k (Keeps.k Keeps.r)))))) ?_)
         refine Ej.round (j + 1, ss ++ [⟨(([97, 97, 98, 99, 122] : List UInt8).getD (x.l.length % 5) 0), (Ke.made x.l)⟩], g73) ⟨by dsimp only; omega, by dsimp only; omega, by dsimp only; rw [List.length_append, hsl]; rfl, by dsimp only; rw [texts_one]; omega, by dsimp only; rw [flat_one]; exact hg73⟩ (by dsimp only; omega) ⟨rfl, rfl, rfl, rfl, rfl, rfl, rfl, trivial⟩ rfl (by dsimp only; rw [flat_one]; rfl)
       ·
        refine ⟨_, rfl, rfl, ?_⟩
        refine op_alloc rfl rfl rfl Tryz.zeroValue60 rfl ?_
        intro b74 hb74
        refine ⟨⟨(Le.refl _), (HSub.c 1 rfl (HSub.c 2 rfl (HSub.c 3 rfl (HSub.c 4 rfl HSub.n)))), CSub.n⟩, ?_⟩
        refine JA.step 5 (by kernel_rfl) rfl rfl (op_pure rfl rfl rfl rfl rfl (Made_ok x.l _ _ hxi) ?_)
        refine ⟨⟨(Le.refl _), (HSub.c 1 rfl (HSub.c 2 rfl (HSub.c 3 rfl (HSub.c 4 rfl HSub.n)))), CSub.n⟩, ?_⟩
        refine JA.fix ⟨(HSub.c 1 rfl (HSub.c 2 rfl (HSub.c 3 rfl (HSub.c 4 rfl HSub.n)))), CSub.n, (Le.refl _)⟩ (fun fx75 => ?_)
        refine JA.tk 6 rfl fx75 (yl_buildS (pl := #[(0, 1), (1, 1)]) rfl rfl Tryz.zeroValue60 rfl Tryz.underlying60 (fun w => by simp [Tryz.sizeOf5, Tryz.sizeOf9]) (LBld.part rfl rfl rfl (LSpl.c LSpl.z) (LBld.part rfl rfl rfl (LSpl.s (LSpl.c LSpl.z)) LBld.none))) ?_
        refine JA.step 8 (by kernel_rfl) rfl rfl (op_store 0 rfl rfl rfl rfl rfl rfl Tryz.sizeOf60 rfl rfl (LSpl.c (LSpl.c LSpl.z)) LSet.z ?_)
        refine ⟨⟨(Le.refl _), (HSub.c 1 rfl (HSub.c 2 rfl (HSub.c 3 rfl (HSub.c 4 rfl HSub.n)))), CSub.n⟩, ?_⟩
        refine JA.done (by kernel_rfl) ?_
        refine Ej.seq (Cj.seq (Cj.seq (Cj.region (J.z (yl_fieldAddr (off' := 0) rfl rfl Tryz.underlying58 rfl Tryz.sizeOf9 rfl) ?_))))
        refine J.z (yl_load rfl rfl Tryz.isAgg9 (Blk.at 1 rfl) rfl) ?_
        refine J.z (yl_eqlStr rfl rfl rfl) ?_
        refine J.z (yl_move rfl rfl) ?_
        refine J.split 82 rfl (fun hg76 => ?_) (fun hg76 => ?_)
        ·
         have hg76p := eq_of_beq hg76
         refine J.opG 3 82 true _ rfl rfl rfl hg76 (op_yld (yl_move rfl rfl) rfl rfl ?_)
         refine J.opG 3 82 true _ rfl rfl rfl hg76 (op_yld (yl_lenSlice rfl rfl Tryz.underlying22) rfl rfl ?_)
         refine J.opG 3 82 true _ rfl rfl rfl hg76 (op_yld (yl_gtr rfl rfl rfl) rfl rfl ?_)
         refine J.z (yl_pick1 rfl rfl hg76 rfl) ?_
         refine J.z (yl_move rfl rfl) ?_
         refine J.split 87 rfl (fun hg77 => ?_) (fun hg77 => ?_)
         ·
          have hg77p := of_decide_eq_true hg77
          have hl2 : 1 < x.l.length := by omega
          obtain ⟨x0, hx0⟩ : ∃ a, x.l[0]? = some a := ⟨_, List.getElem?_eq_getElem (by omega)⟩
          obtain ⟨x1, hx1⟩ : ∃ a, x.l[1]? = some a := ⟨_, List.getElem?_eq_getElem (by omega)⟩
          obtain ⟨lb, lo, lcs, lty, lfr, lsp, rfl, hlb, hld⟩ := hlp (ne_nil_of hl2)
          refine J.opG 8 87 true _ rfl rfl rfl hg77 (op_yld (yl_move rfl rfl) rfl rfl ?_)
          refine J.opG 8 87 true _ rfl rfl rfl hg77 (op_yld (yl_indexAddr (off' := lo + 0) rfl rfl rfl Tryz.underlying22 Tryz.sizeOf3 (by omega) (by omega) (by simp)) rfl rfl ?_)
          refine J.opG 8 87 true _ rfl rfl rfl hg77 (op_yld (yl_load rfl rfl Tryz.isAgg3 (Blk.imm hlb) (int_from hld hx0)) rfl rfl ?_)
          refine J.opG 8 87 true _ rfl rfl rfl hg77 (op_yld (yl_rem rfl rfl rfl (by decide)) rfl rfl ?_)
          refine J.opG 8 87 true _ rfl rfl rfl hg77 (op_yld (yl_gtr rfl rfl rfl) rfl rfl ?_)
          refine J.z (yl_pick1 rfl rfl hg77 rfl) ?_
          refine J.nil (Ej.seq (Cj.cond rfl (fun hc78 => ?_) (fun hc78 => ?_)))
          ·
           have hc78p := of_decide_eq_true hc78
           have hnl := numb_len2 [toU8 x0, toU8 x1, 3, toU8 (x.l.length : Int), 0, 0, 0, 0, 0, 0, 0, 0] rfl (toU8 x1) (toU8 (j : Int)) 0 (toU8 x0)
           refine Cj.drawSel [1, 2, 3, 4] [] 26 (by kernel_rfl) ?_
           have hpb_13 := hpb
           have hxb_13 := hxb
           have hlb_13 := hlb
           refine JA.fix ⟨(HSub.c 1 rfl (HSub.c 2 rfl (HSub.c 3 rfl (HSub.c 4 rfl HSub.n)))), CSub.n, (Le.refl _)⟩ (fun fx79 => ?_)
           refine JA.tk 0 rfl fx79 (yl_move rfl rfl) ?_
           refine JA.tk 1 rfl fx79 (yl_indexAddr (off' := lo + 0) rfl rfl rfl Tryz.underlying22 Tryz.sizeOf3 (by omega) (by omega) (by simp)) ?_
           refine JA.tk 2 rfl fx79 (yl_load rfl rfl Tryz.isAgg3 (Blk.immC hlb_13) (int_from hld hx0)) ?_
           refine JA.tk 3 rfl fx79 (yl_convInt rfl rfl Tryz.underlying3 Tryz.underlying5) ?_
           refine JA.eqv 97 rfl (show _ = u8 (toU8 x0) from (congrArg (Value.int .u8) (conv_u8 x0))) ?_
           refine JA.tk 4 rfl fx79 (yl_move rfl rfl) ?_
           refine JA.tk 5 rfl fx79 (yl_indexAddr (off' := lo + 1) rfl rfl rfl Tryz.underlying22 Tryz.sizeOf3 (by omega) (by omega) (by simp)) ?_
           refine JA.tk 6 rfl fx79 (yl_load rfl rfl Tryz.isAgg3 (Blk.immC hlb_13) (int_from hld hx1)) ?_
           refine JA.tk 7 rfl fx79 (yl_convInt rfl rfl Tryz.underlying3 Tryz.underlying5) ?_
           refine JA.eqv 101 rfl (show _ = u8 (toU8 x1) from (congrArg (Value.int .u8) (conv_u8 x1))) ?_
           refine JA.tk 8 rfl fx79 (yl_move rfl rfl) ?_
           refine JA.tk 9 rfl fx79 (yl_lenSlice rfl rfl Tryz.underlying22) ?_
           refine JA.tk 10 rfl fx79 (yl_convInt rfl rfl Tryz.underlying3 Tryz.underlying5) ?_
           refine JA.eqv 104 rfl (show _ = u8 (toU8 (x.l.length : Int)) from (congrArg (Value.int .u8) (conv_u8 (x.l.length : Int)))) ?_
           refine JA.tk 11 rfl fx79 (yl_buildA (zs := [(.int .u8 0), (.int .u8 0), (.int .u8 0), (.int .u8 0), (.int .u8 0), (.int .u8 0), (.int .u8 0), (.int .u8 0), (.int .u8 0), (.int .u8 0), (.int .u8 0), (.int .u8 0)]) rfl rfl Tryz.zeroValue40 rfl Tryz.underlying40 Tryz.sizeOf5 rfl) ?_
           refine JA.tk 12 rfl fx79 (yl_move rfl rfl) ?_
           refine JA.tk 13 rfl fx79 (yl_indexAddr (off' := lo + 1) rfl rfl rfl Tryz.underlying22 Tryz.sizeOf3 (by omega) (by omega) (by simp)) ?_
           refine JA.tk 14 rfl fx79 (yl_load rfl rfl Tryz.isAgg3 (Blk.immC hlb_13) (int_from hld hx1)) ?_
           refine JA.tk 15 rfl fx79 (yl_convInt rfl rfl Tryz.underlying3 Tryz.underlying5) ?_
           refine JA.eqv 109 rfl (show _ = u8 (toU8 x1) from (congrArg (Value.int .u8) (conv_u8 x1))) ?_
           refine JA.tk 16 rfl fx79 (yl_move rfl rfl) ?_
           refine JA.tk 17 rfl fx79 (yl_convInt rfl rfl Tryz.underlying3 Tryz.underlying5) ?_
           refine JA.eqv 111 rfl (show _ = u8 (toU8 (j : Int)) from (congrArg (Value.int .u8) (conv_u8 (j : Int)))) ?_
           refine JA.tk 18 rfl fx79 (yl_move rfl rfl) ?_
           refine JA.tk 19 rfl fx79 (yl_indexAddr (off' := lo + 0) rfl rfl rfl Tryz.underlying22 Tryz.sizeOf3 (by omega) (by omega) (by simp)) ?_
           refine JA.tk 20 rfl fx79 (yl_load rfl rfl Tryz.isAgg3 (Blk.immC hlb_13) (int_from hld hx0)) ?_
           refine JA.tk 21 rfl fx79 (yl_convInt rfl rfl Tryz.underlying3 Tryz.underlying5) ?_
           refine JA.eqv 115 rfl (show _ = u8 (toU8 x0) from (congrArg (Value.int .u8) (conv_u8 x0))) ?_
           refine JA.tk 22 rfl fx79 (yl_buildA (zs := [(.int .u8 0), (.int .u8 0), (.int .u8 0), (.int .u8 0)]) rfl rfl Tryz.zeroValue41 rfl Tryz.underlying41 Tryz.sizeOf5 rfl) ?_
           refine JA.step 23 (by kernel_rfl) rfl rfl (op_pure rfl rfl rfl rfl rfl (Number_ok [toU8 x0, toU8 x1, 3, toU8 (x.l.length : Int), 0, 0, 0, 0, 0, 0, 0, 0] rfl (toU8 x1) (toU8 (j : Int)) 0 (toU8 x0) _) ?_)
           refine ⟨⟨(Le.refl _), (HSub.c 1 rfl (HSub.c 2 rfl (HSub.c 3 rfl (HSub.c 4 rfl HSub.n)))), CSub.n⟩, ?_⟩
           refine JA.fix ⟨(HSub.c 1 rfl (HSub.c 2 rfl (HSub.c 3 rfl (HSub.c 4 rfl HSub.n)))), CSub.n, (Le.refl _)⟩ (fun fx80 => ?_)
           refine JA.tk 24 rfl fx80 (yl_fieldAddr (off' := 1) rfl rfl Tryz.underlying60 rfl Tryz.sizeOf9 rfl) ?_
           refine JA.step 25 (by kernel_rfl) rfl rfl (op_store 0 rfl rfl rfl rfl rfl rfl Tryz.sizeOf9 rfl rfl (LSpl.s (LSpl.c LSpl.z)) LSet.z ?_)
           refine ⟨⟨(Le.refl _), (HSub.c 1 rfl (HSub.c 2 rfl (HSub.c 3 rfl (HSub.c 4 rfl HSub.n)))), CSub.n⟩, ?_⟩
           refine JA.done (by kernel_rfl) ?_
           refine Ej.seq (Cj.region (J.z (yl_fieldAddr (off' := 3) rfl rfl Tryz.underlying58 rfl Tryz.sizeOf56 rfl) ?_))
           refine J.z (yl_load rfl rfl Tryz.isAgg56 (Blk.at 1 rfl) rfl) ?_
           refine J.z (yl_loadAgg rfl rfl Tryz.isAgg60 Tryz.sizeOf60 (Blk.at 0 rfl) rfl rfl) ?_
           refine J.op rfl (op_buildSlice rfl rfl rfl Tryz.underlying56 Tryz.sizeOf60 Tryz.zeroValue60 rfl rfl rfl rfl (LCat.agg rfl LCat.none) ?_)
           intro b81 hb81
           refine J.op rfl (op_append (by' := 23) ([_, _, _, _, _, _] ++ gH _ _ _) rfl rfl rfl rfl rfl Tryz.underlying56 (.inr ⟨_, Tryz.underlying56⟩) (by kernel_rfl) Tryz.sizeOf60 Tryz.zeroValue60 rfl hh rfl (Src.slice (Blk.at 0 rfl) rfl rfl rfl) (by omega) ?_)
           intro g82 hg82
           refine J.z (yl_fieldAddr (off' := 3) rfl rfl Tryz.underlying58 rfl Tryz.sizeOf56 rfl) ?_
           refine J.op rfl (op_store 2 rfl rfl rfl rfl (gV_cells _ _) (gV_one _ _) Tryz.sizeOf56 rfl rfl (LSpl.s (LSpl.s (LSpl.s (LSpl.c LSpl.z)))) (LSet.s (LSet.s LSet.z)) ?_)
           refine J.nil (Ej.blkNormal (Ej.seq (Cj.region (J.z (yl_move rfl rfl) ?_))))
           refine J.z (yl_add rfl rfl rfl (w64 (by omega))) ?_
           refine J.z (yl_assign rfl rfl) ?_
           refine J.nil (Ej.keep (Keeps.d (Keeps.d (Keeps.k (Keeps.k (Keeps.k (Keeps.k Keeps.r)))))) ?_)
           refine Ej.round (j + 1, ss ++ [⟨(([97, 97, 98, 99, 122] : List UInt8).getD (x.l.length % 5) 0), (Ke.numb [toU8 x0, toU8 x1, 3, toU8 (x.l.length : Int), 0, 0, 0, 0, 0, 0, 0, 0] (toU8 x1) (toU8 (j : Int)) 0 (toU8 x0))⟩], g82) ⟨by dsimp only; omega, by dsimp only; omega, by dsimp only; rw [List.length_append, hsl]; rfl, by dsimp only; rw [texts_one]; omega, by dsimp only; rw [flat_one]; exact hg82⟩ (by dsimp only; omega) ⟨rfl, rfl, rfl, rfl, rfl, rfl, rfl, trivial⟩ rfl (by dsimp only; rw [flat_one]; rfl)
          ·
           have hc78p := of_decide_eq_false hc78
           refine Cj.skip (Ej.seq (Cj.region (J.z (yl_fieldAddr (off' := 3) rfl rfl Tryz.underlying58 rfl Tryz.sizeOf56 rfl) ?_)))
           refine J.z (yl_load rfl rfl Tryz.isAgg56 (Blk.at 1 rfl) rfl) ?_
           refine J.z (yl_loadAgg rfl rfl Tryz.isAgg60 Tryz.sizeOf60 (Blk.at 0 rfl) rfl rfl) ?_
           refine J.op rfl (op_buildSlice rfl rfl rfl Tryz.underlying56 Tryz.sizeOf60 Tryz.zeroValue60 rfl rfl rfl rfl (LCat.agg rfl LCat.none) ?_)
           intro b83 hb83
           refine J.op rfl (op_append (by' := 23) ([_, _, _, _, _, _] ++ gH _ _ _) rfl rfl rfl rfl rfl Tryz.underlying56 (.inr ⟨_, Tryz.underlying56⟩) (by kernel_rfl) Tryz.sizeOf60 Tryz.zeroValue60 rfl hh rfl (Src.slice (Blk.at 0 rfl) rfl rfl rfl) (by omega) ?_)
           intro g84 hg84
           refine J.z (yl_fieldAddr (off' := 3) rfl rfl Tryz.underlying58 rfl Tryz.sizeOf56 rfl) ?_
           refine J.op rfl (op_store 2 rfl rfl rfl rfl (gV_cells _ _) (gV_one _ _) Tryz.sizeOf56 rfl rfl (LSpl.s (LSpl.s (LSpl.s (LSpl.c LSpl.z)))) (LSet.s (LSet.s LSet.z)) ?_)
           refine J.nil (Ej.blkNormal (Ej.seq (Cj.region (J.z (yl_move rfl rfl) ?_))))
           refine J.z (yl_add rfl rfl rfl (w64 (by omega))) ?_
           refine J.z (yl_assign rfl rfl) ?_
           refine J.nil (Ej.keep (Keeps.d (Keeps.d (Keeps.k (Keeps.k (Keeps.k (Keeps.k Keeps.r)))))) ?_)
           refine Ej.round (j + 1, ss ++ [⟨(([97, 97, 98, 99, 122] : List UInt8).getD (x.l.length % 5) 0), (Ke.made x.l)⟩], g84) ⟨by dsimp only; omega, by dsimp only; omega, by dsimp only; rw [List.length_append, hsl]; rfl, by dsimp only; rw [texts_one]; omega, by dsimp only; rw [flat_one]; exact hg84⟩ (by dsimp only; omega) ⟨rfl, rfl, rfl, rfl, rfl, rfl, rfl, trivial⟩ rfl (by dsimp only; rw [flat_one]; rfl)
         ·
          have hg77p := of_decide_eq_false hg77
          refine J.skip 8 87 88 true _ rfl rfl rfl hg77 rfl rfl ?_
          refine J.skip 8 87 89 true _ rfl rfl rfl hg77 rfl rfl ?_
          refine J.skip 8 87 90 true _ rfl rfl rfl hg77 rfl rfl ?_
          refine J.skip 8 87 91 true _ rfl rfl rfl hg77 rfl rfl ?_
          refine J.skip 8 87 92 true _ rfl rfl rfl hg77 rfl rfl ?_
          refine J.z (yl_pick0 rfl rfl hg77 rfl) ?_
          refine J.nil (Ej.seq (Cj.cond rfl (fun hc85 => Bool.noConfusion (Eq.trans (Eq.symm rfl) hc85)) (fun hc85 => ?_)))
          refine Cj.skip (Ej.seq (Cj.region (J.z (yl_fieldAddr (off' := 3) rfl rfl Tryz.underlying58 rfl Tryz.sizeOf56 rfl) ?_)))
          refine J.z (yl_load rfl rfl Tryz.isAgg56 (Blk.at 1 rfl) rfl) ?_
          refine J.z (yl_loadAgg rfl rfl Tryz.isAgg60 Tryz.sizeOf60 (Blk.at 0 rfl) rfl rfl) ?_
          refine J.op rfl (op_buildSlice rfl rfl rfl Tryz.underlying56 Tryz.sizeOf60 Tryz.zeroValue60 rfl rfl rfl rfl (LCat.agg rfl LCat.none) ?_)
          intro b86 hb86
          refine J.op rfl (op_append (by' := 23) ([_, _, _, _, _, _] ++ gH _ _ _) rfl rfl rfl rfl rfl Tryz.underlying56 (.inr ⟨_, Tryz.underlying56⟩) (by kernel_rfl) Tryz.sizeOf60 Tryz.zeroValue60 rfl hh rfl (Src.slice (Blk.at 0 rfl) rfl rfl rfl) (by omega) ?_)
          intro g87 hg87
          refine J.z (yl_fieldAddr (off' := 3) rfl rfl Tryz.underlying58 rfl Tryz.sizeOf56 rfl) ?_
          refine J.op rfl (op_store 2 rfl rfl rfl rfl (gV_cells _ _) (gV_one _ _) Tryz.sizeOf56 rfl rfl (LSpl.s (LSpl.s (LSpl.s (LSpl.c LSpl.z)))) (LSet.s (LSet.s LSet.z)) ?_)
          refine J.nil (Ej.blkNormal (Ej.seq (Cj.region (J.z (yl_move rfl rfl) ?_))))
          refine J.z (yl_add rfl rfl rfl (w64 (by omega))) ?_
          refine J.z (yl_assign rfl rfl) ?_
          refine J.nil (Ej.keep (Keeps.d (Keeps.d (Keeps.k (Keeps.k (Keeps.k (Keeps.k Keeps.r)))))) ?_)
          refine Ej.round (j + 1, ss ++ [⟨(([97, 97, 98, 99, 122] : List UInt8).getD (x.l.length % 5) 0), (Ke.made x.l)⟩], g87) ⟨by dsimp only; omega, by dsimp only; omega, by dsimp only; rw [List.length_append, hsl]; rfl, by dsimp only; rw [texts_one]; omega, by dsimp only; rw [flat_one]; exact hg87⟩ (by dsimp only; omega) ⟨rfl, rfl, rfl, rfl, rfl, rfl, rfl, trivial⟩ rfl (by dsimp only; rw [flat_one]; rfl)
        ·
         have hg76p := ne_of_beq_false hg76
         refine J.skip 3 82 83 true _ rfl rfl rfl hg76 rfl rfl ?_
         refine J.skip 3 82 84 true _ rfl rfl rfl hg76 rfl rfl ?_
         refine J.skip 3 82 85 true _ rfl rfl rfl hg76 rfl rfl ?_
         refine J.z (yl_pick0 rfl rfl hg76 rfl) ?_
         refine J.z (yl_move rfl rfl) ?_
         refine J.skip 8 87 88 true _ rfl rfl rfl rfl rfl rfl ?_
         refine J.skip 8 87 89 true _ rfl rfl rfl rfl rfl rfl ?_
         refine J.skip 8 87 90 true _ rfl rfl rfl rfl rfl rfl ?_
         refine J.skip 8 87 91 true _ rfl rfl rfl rfl rfl rfl ?_
         refine J.skip 8 87 92 true _ rfl rfl rfl rfl rfl rfl ?_
         refine J.z (yl_pick0 rfl rfl rfl rfl) ?_
         refine J.nil (Ej.seq (Cj.cond rfl (fun hc88 => Bool.noConfusion (Eq.trans (Eq.symm rfl) hc88)) (fun hc88 => ?_)))
         refine Cj.skip (Ej.seq (Cj.region (J.z (yl_fieldAddr (off' := 3) rfl rfl Tryz.underlying58 rfl Tryz.sizeOf56 rfl) ?_)))
         refine J.z (yl_load rfl rfl Tryz.isAgg56 (Blk.at 1 rfl) rfl) ?_
         refine J.z (yl_loadAgg rfl rfl Tryz.isAgg60 Tryz.sizeOf60 (Blk.at 0 rfl) rfl rfl) ?_
         refine J.op rfl (op_buildSlice rfl rfl rfl Tryz.underlying56 Tryz.sizeOf60 Tryz.zeroValue60 rfl rfl rfl rfl (LCat.agg rfl LCat.none) ?_)
         intro b89 hb89
         refine J.op rfl (op_append (by' := 23) ([_, _, _, _, _, _] ++ gH _ _ _) rfl rfl rfl rfl rfl Tryz.underlying56 (.inr ⟨_, Tryz.underlying56⟩) (by kernel_rfl) Tryz.sizeOf60 Tryz.zeroValue60 rfl hh rfl (Src.slice (Blk.at 0 rfl) rfl rfl rfl) (by omega) ?_)
         intro g90 hg90
         refine J.z (yl_fieldAddr (off' := 3) rfl rfl Tryz.underlying58 rfl Tryz.sizeOf56 rfl) ?_
         refine J.op rfl (op_store 2 rfl rfl rfl rfl (gV_cells _ _) (gV_one _ _) Tryz.sizeOf56 rfl rfl (LSpl.s (LSpl.s (LSpl.s (LSpl.c LSpl.z)))) (LSet.s (LSet.s LSet.z)) ?_)
         refine J.nil (Ej.blkNormal (Ej.seq (Cj.region (J.z (yl_move rfl rfl) ?_))))
         refine J.z (yl_add rfl rfl rfl (w64 (by omega))) ?_
         refine J.z (yl_assign rfl rfl) ?_
         refine J.nil (Ej.keep (Keeps.d (Keeps.d (Keeps.k (Keeps.k (Keeps.k (Keeps.k Keeps.r)))))) ?_)
         refine Ej.round (j + 1, ss ++ [⟨(([97, 97, 98, 99, 122] : List UInt8).getD (x.l.length % 5) 0), (Ke.made x.l)⟩], g90) ⟨by dsimp only; omega, by dsimp only; omega, by dsimp only; rw [List.length_append, hsl]; rfl, by dsimp only; rw [texts_one]; omega, by dsimp only; rw [flat_one]; exact hg90⟩ (by dsimp only; omega) ⟨rfl, rfl, rfl, rfl, rfl, rfl, rfl, trivial⟩ rfl (by dsimp only; rw [flat_one]; rfl)
      ·
       have hc55p := of_decide_eq_false hc55
       refine Cj.exit (Ej.seqExit (Ej.loopExit (Ej.blkExit (Ej.seq (Cj.perm (H' := gH _ _ _ ++ ([_, _, _, _] ++ gH _ _ _)) (perm_last [_, _, _, _] _ _) ?_)))))
       refine Cj.keepR subC_len (by decide) hh hsl.symm (fun I8 hle8 hss => ?_)
       have hIJ := hIJ.mono hle8
       have hG := hG.mono hle8
       have hpb := hle8 _ _ hpb
       
       refine Cj.region (J.z (yl_fieldAddr (off' := 2) rfl rfl Tryz.underlying51 rfl Tryz.sizeOf49 rfl) ?_)
       refine J.z (yl_load rfl rfl Tryz.isAgg49 (Blk.at 1 rfl) rfl) ?_
       refine J.z (yl_loadAgg rfl rfl Tryz.isAgg58 Tryz.sizeOf58 (Blk.at 0 rfl) rfl rfl) ?_
       refine J.op rfl (op_buildSlice rfl rfl rfl Tryz.underlying49 Tryz.sizeOf58 Tryz.zeroValue58 rfl rfl rfl rfl (LCat.agg rfl LCat.none) ?_)
       intro b91 hb91
       refine J.op rfl (op_append (by' := 71) [_, _, _, _, _] rfl rfl rfl rfl rfl Tryz.underlying49 (.inr ⟨_, Tryz.underlying49⟩) (by kernel_rfl) Tryz.sizeOf58 Tryz.zeroValue58 rfl hg rfl (Src.slice (Blk.at 0 rfl) rfl rfl (by show [str (tagsL.getD (q.tag.toNat % 6) []), str [(([32, 48, 49, 52, 32, 50, 51] : List UInt8).getD (q.i0.toNat % 7) 0), (([32, 48, 49, 52, 57, 97, 51] : List UInt8).getD (q.i1.toNat % 7) 0)], str [], gV j h].all Value.oneCell' = true; simp only [List.all_cons, List.all_nil, gV_one', Bool.and_true]; rfl)) (by omega) ?_)
       intro g92 hg92
       refine J.z (yl_fieldAddr (off' := 2) rfl rfl Tryz.underlying51 rfl Tryz.sizeOf49 rfl) ?_
       refine J.op rfl (op_store 2 rfl rfl rfl rfl (gV_cells _ _) (gV_one _ _) Tryz.sizeOf49 rfl rfl (LSpl.s (LSpl.s (LSpl.c LSpl.z))) (LSet.s (LSet.s LSet.z)) ?_)
       refine J.nil (Ej.blkNormal (Ej.seq (Cj.region (J.z (yl_move rfl rfl) ?_))))
       refine J.z (yl_add rfl rfl rfl (w64 (by omega))) ?_
       refine J.z (yl_assign rfl rfl) ?_
       refine J.nil (Ej.keep (Keeps.d (Keeps.d (Keeps.k (Keeps.k (Keeps.k Keeps.r))))) ?_)
       refine Ej.round (k + 1, _, fs ++ [(⟨(tagsL.getD (q.tag.toNat % 6) []), [(([32, 48, 49, 52, 32, 50, 51] : List UInt8).getD (q.i0.toNat % 7) 0), (([32, 48, 49, 52, 57, 97, 51] : List UInt8).getD (q.i1.toNat % 7) 0)], [], gV j h, ss⟩ : Ke.Fld)], g92) ⟨by dsimp only; omega, by dsimp only; omega, hIJ, by dsimp only; rw [List.length_append, hfl]; rfl, GoodS.add hG hss ⟨by dsimp only; omega, by dsimp only; omega, Nat.le_refl 2⟩, by dsimp only; rw [flat_one]; exact hg92⟩ (by dsimp only; omega) ⟨rfl, rfl, rfl, rfl, rfl, trivial⟩ rfl (by dsimp only; rw [flat_one]; rfl)
     ·
      have hg54p := of_decide_eq_false hg54
      refine J.skip 8 58 59 true _ rfl rfl rfl hg54 rfl rfl ?_
      refine J.skip 8 58 60 true _ rfl rfl rfl hg54 rfl rfl ?_
      refine J.z (yl_pick0 rfl rfl hg54 rfl) ?_
      refine J.nil (Ej.seq (Cj.cond rfl (fun hc93 => Bool.noConfusion (Eq.trans (Eq.symm rfl) hc93)) (fun hc93 => ?_)))
      refine Cj.exit (Ej.seqExit (Ej.loopExit (Ej.blkExit (Ej.seq (Cj.perm (H' := gH _ _ _ ++ ([_, _, _, _] ++ gH _ _ _)) (perm_last [_, _, _, _] _ _) ?_)))))
      refine Cj.keepR subC_len (by decide) hh hsl.symm (fun I8 hle8 hss => ?_)
      have hIJ := hIJ.mono hle8
      have hG := hG.mono hle8
      have hpb := hle8 _ _ hpb
      
      refine Cj.region (J.z (yl_fieldAddr (off' := 2) rfl rfl Tryz.underlying51 rfl Tryz.sizeOf49 rfl) ?_)
      refine J.z (yl_load rfl rfl Tryz.isAgg49 (Blk.at 1 rfl) rfl) ?_
      refine J.z (yl_loadAgg rfl rfl Tryz.isAgg58 Tryz.sizeOf58 (Blk.at 0 rfl) rfl rfl) ?_
      refine J.op rfl (op_buildSlice rfl rfl rfl Tryz.underlying49 Tryz.sizeOf58 Tryz.zeroValue58 rfl rfl rfl rfl (LCat.agg rfl LCat.none) ?_)
      intro b94 hb94
      refine J.op rfl (op_append (by' := 71) [_, _, _, _, _] rfl rfl rfl rfl rfl Tryz.underlying49 (.inr ⟨_, Tryz.underlying49⟩) (by kernel_rfl) Tryz.sizeOf58 Tryz.zeroValue58 rfl hg rfl (Src.slice (Blk.at 0 rfl) rfl rfl (by show [str (tagsL.getD (q.tag.toNat % 6) []), str [(([32, 48, 49, 52, 32, 50, 51] : List UInt8).getD (q.i0.toNat % 7) 0), (([32, 48, 49, 52, 57, 97, 51] : List UInt8).getD (q.i1.toNat % 7) 0)], str [], gV j h].all Value.oneCell' = true; simp only [List.all_cons, List.all_nil, gV_one', Bool.and_true]; rfl)) (by omega) ?_)
      intro g95 hg95
      refine J.z (yl_fieldAddr (off' := 2) rfl rfl Tryz.underlying51 rfl Tryz.sizeOf49 rfl) ?_
      refine J.op rfl (op_store 2 rfl rfl rfl rfl (gV_cells _ _) (gV_one _ _) Tryz.sizeOf49 rfl rfl (LSpl.s (LSpl.s (LSpl.c LSpl.z))) (LSet.s (LSet.s LSet.z)) ?_)
      refine J.nil (Ej.blkNormal (Ej.seq (Cj.region (J.z (yl_move rfl rfl) ?_))))
      refine J.z (yl_add rfl rfl rfl (w64 (by omega))) ?_
      refine J.z (yl_assign rfl rfl) ?_
      refine J.nil (Ej.keep (Keeps.d (Keeps.d (Keeps.k (Keeps.k (Keeps.k Keeps.r))))) ?_)
      refine Ej.round (k + 1, _, fs ++ [(⟨(tagsL.getD (q.tag.toNat % 6) []), [(([32, 48, 49, 52, 32, 50, 51] : List UInt8).getD (q.i0.toNat % 7) 0), (([32, 48, 49, 52, 57, 97, 51] : List UInt8).getD (q.i1.toNat % 7) 0)], [], gV j h, ss⟩ : Ke.Fld)], g95) ⟨by dsimp only; omega, by dsimp only; omega, hIJ, by dsimp only; rw [List.length_append, hfl]; rfl, GoodS.add hG hss ⟨by dsimp only; omega, by dsimp only; omega, Nat.le_refl 2⟩, by dsimp only; rw [flat_one]; exact hg95⟩ (by dsimp only; omega) ⟨rfl, rfl, rfl, rfl, rfl, trivial⟩ rfl (by dsimp only; rw [flat_one]; rfl)
   ·
    refine ⟨_, rfl, rfl, ?_⟩
    refine op_alloc rfl rfl rfl Tryz.zeroValue58 rfl ?_
    intro b96 hb96
    refine ⟨⟨(Le.refl _), (HSub.c 1 rfl (HSub.c 2 rfl (HSub.c 3 rfl HSub.n))), CSub.n⟩, ?_⟩
    refine JA.step 25 (by kernel_rfl) rfl rfl (op_buildSlice rfl rfl rfl Tryz.underlying46 Tryz.sizeOf5 Tryz.zeroValue5 rfl rfl rfl rfl (LCat.one rfl (LCat.one rfl LCat.none)) ?_)
    intro b97 hb97
    refine ⟨⟨(Le.refl _), (HSub.c 2 rfl (HSub.c 3 rfl (HSub.c 4 rfl HSub.n))), CSub.n⟩, ?_⟩
    refine JA.step 26 (by kernel_rfl) rfl rfl (op_yld (yl_toStr [(([32, 48, 49, 52, 32, 50, 51] : List UInt8).getD (q.i0.toNat % 7) 0), (([32, 48, 49, 52, 57, 97, 51] : List UInt8).getD (q.i1.toNat % 7) 0)] rfl rfl rfl Tryz.underlying46 Tryz.underlying9 Tryz.underlying5 (Blk.at 0 rfl) rfl) rfl rfl ?_)
    refine ⟨⟨(Le.refl _), (HSub.c 2 rfl (HSub.c 3 rfl (HSub.c 4 rfl HSub.n))), CSub.n⟩, ?_⟩
    refine JA.fix ⟨(HSub.c 2 rfl (HSub.c 3 rfl (HSub.c 4 rfl HSub.n))), CSub.n, (Le.refl _)⟩ (fun fx98 => ?_)
    refine JA.tk 27 rfl fx98 (yl_buildS (pl := #[(0, 1), (1, 1), (2, 1), (3, 1)]) rfl rfl Tryz.zeroValue58 rfl Tryz.underlying58 (fun w => by simp [Tryz.sizeOf56, Tryz.sizeOf9]) (LBld.part rfl rfl rfl (LSpl.c LSpl.z) (LBld.part rfl rfl rfl (LSpl.s (LSpl.c LSpl.z)) LBld.none))) ?_
    refine JA.step 29 (by kernel_rfl) rfl rfl (op_store 1 rfl rfl rfl rfl rfl rfl Tryz.sizeOf58 rfl rfl (LSpl.c (LSpl.c (LSpl.c (LSpl.c LSpl.z)))) (LSet.s LSet.z) ?_)
    refine ⟨⟨(Le.refl _), (HSub.c 2 rfl (HSub.c 3 rfl (HSub.c 4 rfl HSub.n))), CSub.n⟩, ?_⟩
    refine JA.done (by kernel_rfl) ?_
    refine Ej.seq (Cj.seq (Cj.seq (Cj.region (J.z (yl_assign rfl rfl) ?_))))
    refine J.nil (Ej.seq (Cj.block (Cj.keep (Keeps.d (Keeps.k (Keeps.k (Keeps.k (Keeps.k Keeps.r))))) ?_)))
    refine Cj.loop (ι := Nat × List Ke.Sub × Gs) (fun y => y.1 ≤ q.subs.length ∧ y.1 ≤ 6 ∧ y.2.1.length = y.1 ∧ textsLen y.2.1 ≤ 240 * y.1 ∧ gOk w0.heap.size 2 y.1 (y.2.1.flatMap subC) y.2.2) (fun y => 6 - y.1) (fun y => [(0, .slice (some ⟨pb, po, none⟩) ps.length c), (2, ptr b1 0), (3, .slice (some ⟨b2, 0, none⟩) 6 6), (4, ptr b3 0), (5, i64 (k : Int)), (6, ptr b96 0), (7, i64 (y.1 : Int))]) (fun y => _) (fun y => (b96, cel 58 [str (tagsL.getD (q.tag.toNat % 6) []), str [(([32, 48, 49, 52, 32, 50, 51] : List UInt8).getD (q.i0.toNat % 7) 0), (([32, 48, 49, 52, 57, 97, 51] : List UInt8).getD (q.i1.toNat % 7) 0)], str [], gV y.1 y.2.2]) :: (b3, cel 51 [u8 97, u8 109, gV k g]) :: (b2, cel 9 (tagsL.map str)) :: (b1, cel 51 [u8 0, u8 0, .slice none 0 0]) :: (gH 58 (fs.flatMap fldC) g ++ gH 60 (y.2.1.flatMap subC) y.2.2)) (0, [], none) ⟨Nat.zero_le _, Nat.zero_le _, rfl, Nat.zero_le _, rfl, rfl⟩ ⟨rfl, rfl, rfl, rfl, rfl, rfl, rfl, trivial⟩ rfl (by dsimp only; rw [show gH _ (([] : List Ke.Sub).flatMap subC) none = [] from rfl, List.append_nil]; rfl) ?_
    rintro ⟨j, ss, h⟩ ⟨hj, hj2, hsl, htx, hh⟩
    dsimp only at hj hj2 hsl htx hh ⊢
    refine Cj.seq (Cj.seq (Cj.region (J.z (yl_move rfl rfl) ?_)))
    refine J.z (yl_move rfl rfl) ?_
    refine J.z (yl_move rfl rfl) ?_
    refine J.z (yl_indexAddr (off' := po + k * 4) rfl rfl rfl Tryz.underlying48 Tryz.sizeOf78 (by omega) (by omega) (by simp)) ?_
    refine J.z (yl_fieldAddr rfl rfl Tryz.underlying78 rfl Tryz.sizeOf76 rfl) ?_
    refine J.z (yl_load rfl rfl Tryz.isAgg76 (Blk.imm hpb) (row_fcell pcC_len hpd hpget 3 (by decide))) ?_
    refine J.eqv 55 rfl (show _ = .slice p3 q.subs.length c3 from hqsv) ?_
    refine J.z (yl_lenSlice rfl rfl Tryz.underlying76) ?_
    refine J.z (yl_lss rfl rfl rfl) ?_
    refine J.z (yl_move rfl rfl) ?_
    refine J.split 58 rfl (fun hg99 => ?_) (fun hg99 => ?_)
    ·
     have hg99p := of_decide_eq_true hg99
     refine J.opG 8 58 true _ rfl rfl rfl hg99 (op_yld (yl_move rfl rfl) rfl rfl ?_)
     refine J.opG 8 58 true _ rfl rfl rfl hg99 (op_yld (yl_lss rfl rfl rfl) rfl rfl ?_)
     refine J.z (yl_pick1 rfl rfl hg99 rfl) ?_
     refine J.nil (Ej.seq (Cj.cond rfl (fun hc100 => ?_) (fun hc100 => ?_)))
     ·
      have hc100p := of_decide_eq_true hc100
      refine Cj.skip (Ej.seq (Cj.seq (Cj.block (Cj.seq ?_))))
      have hjlt : j < q.subs.length := by omega
      have hjlt2 : j < 6 := by omega
      obtain ⟨x, hxget⟩ : ∃ x, q.subs[j]? = some x := ⟨_, List.getElem?_eq_getElem hjlt⟩
      obtain ⟨xb, xo, xcs, xty, xfr, xsp, rfl, hxb, hxd⟩ := hqp (ne_nil_of hjlt)
      have hxi := hqx x (List.mem_of_getElem? hxget)
      obtain ⟨lp, lc, hxv, hlc, hlp⟩ := id hxi
      rw [hxv] at hxi
      have hml := Ke.made_len x.l
      refine Cj.region (J.z (yl_move rfl rfl) ?_)
      refine J.z (yl_move rfl rfl) ?_
      refine J.z (yl_indexAddr (off' := po + k * 4) rfl rfl rfl Tryz.underlying48 Tryz.sizeOf78 (by omega) (by omega) (by simp)) ?_
      refine J.z (yl_fieldAddr rfl rfl Tryz.underlying78 rfl Tryz.sizeOf76 rfl) ?_
      refine J.z (yl_load rfl rfl Tryz.isAgg76 (Blk.imm hpb) (row_fcell pcC_len hpd hpget 3 (by decide))) ?_
      refine J.eqv 68 rfl (show _ = .slice (some ⟨xb, xo, none⟩) q.subs.length c3 from hqsv) ?_
      refine J.z (yl_move rfl rfl) ?_
      refine J.z (yl_indexAddr (off' := xo + j) rfl rfl rfl Tryz.underlying76 Tryz.sizeOf22 (by omega) (by omega) (by simp)) ?_
      refine J.z (yl_load rfl rfl Tryz.isAgg22 (Blk.imm hxb) (xs_at hxd hxget)) ?_
      refine J.eqv 71 rfl (show _ = .slice lp x.l.length lc from hxv) ?_
      refine J.z (yl_assign rfl rfl) ?_
      refine J.nil (Ej.seq (Cj.seq (Cj.drawSel [0, 1, 2, 3] [] 9 (by kernel_rfl) ?_)))
      have hpb_11 := hpb
      have hxb_11 := hxb
      refine JA.fix ⟨(HSub.c 0 rfl (HSub.c 1 rfl (HSub.c 2 rfl (HSub.c 3 rfl HSub.n)))), CSub.n, (Le.refl _)⟩ (fun fx101 => ?_)
      refine JA.tk 0 rfl fx101 (yl_move rfl rfl) ?_
      refine JA.tk 1 rfl fx101 (yl_lenSlice rfl rfl Tryz.underlying22) ?_
      refine JA.tk 2 rfl fx101 (yl_rem rfl rfl rfl (by decide)) ?_
      refine JA.eqv 74 rfl (show _ = i64 ((x.l.length % 5 : Nat) : Int) from rfl) ?_
      refine JA.tk 3 rfl fx101 (yl_index rfl rfl rfl Tryz.underlying9 (by omega) (at_mod rfl (by decide) _)) ?_
      refine JA.tk 4 rfl fx101 (yl_move rfl rfl) ?_
      refine JA.all [5, 7] (by kernel_rfl) (by simp) ?_
      intro i hi
      simp only [List.mem_cons, List.not_mem_nil, or_false] at hi
      rcases hi with rfl | rfl
      ·
       refine ⟨_, rfl, rfl, ?_⟩
       refine op_pure rfl rfl rfl rfl rfl (Made_ok x.l _ _ hxi) ?_
       refine ⟨⟨(Le.refl _), (HSub.c 0 rfl (HSub.c 1 rfl (HSub.c 2 rfl (HSub.c 3 rfl HSub.n)))), CSub.n⟩, ?_⟩
       refine JA.fix ⟨(HSub.c 0 rfl (HSub.c 1 rfl (HSub.c 2 rfl (HSub.c 3 rfl HSub.n)))), CSub.n, (Le.refl _)⟩ (fun fx102 => ?_)
       refine JA.tk 6 rfl fx102 (yl_buildS (pl := #[(0, 1), (1, 1)]) rfl rfl Tryz.zeroValue60 rfl Tryz.underlying60 (fun w => by simp [Tryz.sizeOf5, Tryz.sizeOf9]) (LBld.part rfl rfl rfl (LSpl.c LSpl.z) (LBld.part rfl rfl rfl (LSpl.s (LSpl.c LSpl.z)) LBld.none))) ?_
       refine JA.step 7 (by kernel_rfl) rfl rfl (op_alloc rfl rfl rfl Tryz.zeroValue60 rfl ?_)
       intro b103 hb103
       refine ⟨⟨(Le.refl _), (HSub.c 1 rfl (HSub.c 2 rfl (HSub.c 3 rfl (HSub.c 4 rfl HSub.n)))), CSub.n⟩, ?_⟩
       refine JA.step 8 (by kernel_rfl) rfl rfl (op_store 0 rfl rfl rfl rfl rfl rfl Tryz.sizeOf60 rfl rfl (LSpl.c (LSpl.c LSpl.z)) LSet.z ?_)
       refine ⟨⟨(Le.refl _), (HSub.c 1 rfl (HSub.c 2 rfl (HSub.c 3 rfl (HSub.c 4 rfl HSub.n)))), CSub.n⟩, ?_⟩
       refine JA.done (by kernel_rfl) ?_
       refine Ej.seq (Cj.seq (Cj.seq (Cj.region (J.z (yl_fieldAddr (off' := 0) rfl rfl Tryz.underlying58 rfl Tryz.sizeOf9 rfl) ?_))))
       refine J.z (yl_load rfl rfl Tryz.isAgg9 (Blk.at 1 rfl) rfl) ?_
       refine J.z (yl_eqlStr rfl rfl rfl) ?_
       refine J.z (yl_move rfl rfl) ?_
       refine J.split 82 rfl (fun hg104 => ?_) (fun hg104 => ?_)
       ·
        have hg104p := eq_of_beq hg104
        refine J.opG 3 82 true _ rfl rfl rfl hg104 (op_yld (yl_move rfl rfl) rfl rfl ?_)
        refine J.opG 3 82 true _ rfl rfl rfl hg104 (op_yld (yl_lenSlice rfl rfl Tryz.underlying22) rfl rfl ?_)
        refine J.opG 3 82 true _ rfl rfl rfl hg104 (op_yld (yl_gtr rfl rfl rfl) rfl rfl ?_)
        refine J.z (yl_pick1 rfl rfl hg104 rfl) ?_
        refine J.z (yl_move rfl rfl) ?_
        refine J.split 87 rfl (fun hg105 => ?_) (fun hg105 => ?_)
        ·
         have hg105p := of_decide_eq_true hg105
         have hl2 : 1 < x.l.length := by omega
         obtain ⟨x0, hx0⟩ : ∃ a, x.l[0]? = some a := ⟨_, List.getElem?_eq_getElem (by omega)⟩
         obtain ⟨x1, hx1⟩ : ∃ a, x.l[1]? = some a := ⟨_, List.getElem?_eq_getElem (by omega)⟩
         obtain ⟨lb, lo, lcs, lty, lfr, lsp, rfl, hlb, hld⟩ := hlp (ne_nil_of hl2)
         refine J.opG 8 87 true _ rfl rfl rfl hg105 (op_yld (yl_move rfl rfl) rfl rfl ?_)
         refine J.opG 8 87 true _ rfl rfl rfl hg105 (op_yld (yl_indexAddr (off' := lo + 0) rfl rfl rfl Tryz.underlying22 Tryz.sizeOf3 (by omega) (by omega) (by simp)) rfl rfl ?_)
         refine J.opG 8 87 true _ rfl rfl rfl hg105 (op_yld (yl_load rfl rfl Tryz.isAgg3 (Blk.imm hlb) (int_from hld hx0)) rfl rfl ?_)
         refine J.opG 8 87 true _ rfl rfl rfl hg105 (op_yld (yl_rem rfl rfl rfl (by decide)) rfl rfl ?_)
         refine J.opG 8 87 true _ rfl rfl rfl hg105 (op_yld (yl_gtr rfl rfl rfl) rfl rfl ?_)
         refine J.z (yl_pick1 rfl rfl hg105 rfl) ?_
         refine J.nil (Ej.seq (Cj.cond rfl (fun hc106 => ?_) (fun hc106 => ?_)))
         ·
          have hc106p := of_decide_eq_true hc106
          have hnl := numb_len2 [toU8 x0, toU8 x1, 3, toU8 (x.l.length : Int), 0, 0, 0, 0, 0, 0, 0, 0] rfl (toU8 x1) (toU8 (j : Int)) 0 (toU8 x0)
          refine Cj.drawSel [1, 2, 3, 4] [] 26 (by kernel_rfl) ?_
          have hpb_13 := hpb
          have hxb_13 := hxb
          have hlb_13 := hlb
          refine JA.fix ⟨(HSub.c 1 rfl (HSub.c 2 rfl (HSub.c 3 rfl (HSub.c 4 rfl HSub.n)))), CSub.n, (Le.refl _)⟩ (fun fx107 => ?_)
          refine JA.tk 0 rfl fx107 (yl_move rfl rfl) ?_
          refine JA.tk 1 rfl fx107 (yl_indexAddr (off' := lo + 0) rfl rfl rfl Tryz.underlying22 Tryz.sizeOf3 (by omega) (by omega) (by simp)) ?_
          refine JA.tk 2 rfl fx107 (yl_load rfl rfl Tryz.isAgg3 (Blk.immC hlb_13) (int_from hld hx0)) ?_
          refine JA.tk 3 rfl fx107 (yl_convInt rfl rfl Tryz.underlying3 Tryz.underlying5) ?_
          refine JA.eqv 97 rfl (show _ = u8 (toU8 x0) from (congrArg (Value.int .u8) (conv_u8 x0))) ?_
          refine JA.tk 4 rfl fx107 (yl_move rfl rfl) ?_
          refine JA.tk 5 rfl fx107 (yl_indexAddr (off' := lo + 1) rfl rfl rfl Tryz.underlying22 Tryz.sizeOf3 (by omega) (by omega) (by simp)) ?_
          refine JA.tk 6 rfl fx107 (yl_load rfl rfl Tryz.isAgg3 (Blk.immC hlb_13) (int_from hld hx1)) ?_
          refine JA.tk 7 rfl fx107 (yl_convInt rfl rfl Tryz.underlying3 Tryz.underlying5) ?_
          refine JA.eqv 101 rfl (show _ = u8 (toU8 x1) from (congrArg (Value.int .u8) (conv_u8 x1))) ?_
          refine JA.tk 8 rfl fx107 (yl_move rfl rfl) ?_
          refine JA.tk 9 rfl fx107 (yl_lenSlice rfl rfl Tryz.underlying22) ?_
          refine JA.tk 10 rfl fx107 (yl_convInt rfl rfl Tryz.underlying3 Tryz.underlying5) ?_
          refine JA.eqv 104 rfl (show _ = u8 (toU8 (x.l.length : Int)) from (congrArg (Value.int .u8) (conv_u8 (x.l.length : Int)))) ?_
          refine JA.tk 11 rfl fx107 (yl_buildA (zs := [(.int .u8 0), (.int .u8 0), (.int .u8 0), (.int .u8 0), (.int .u8 0), (.int .u8 0), (.int .u8 0), (.int .u8 0), (.int .u8 0), (.int .u8 0), (.int .u8 0), (.int .u8 0)]) rfl rfl Tryz.zeroValue40 rfl Tryz.underlying40 Tryz.sizeOf5 rfl) ?_
          refine JA.tk 12 rfl fx107 (yl_move rfl rfl) ?_
          refine JA.tk 13 rfl fx107 (yl_indexAddr (off' := lo + 1) rfl rfl rfl Tryz.underlying22 Tryz.sizeOf3 (by omega) (by omega) (by simp)) ?_
          refine JA.tk 14 rfl fx107 (yl_load rfl rfl Tryz.isAgg3 (Blk.immC hlb_13) (int_from hld hx1)) ?_
          refine JA.tk 15 rfl fx107 (yl_convInt rfl rfl Tryz.underlying3 Tryz.underlying5) ?_
          refine JA.eqv 109 rfl (show _ = u8 (toU8 x1) from (congrArg (Value.int .u8) (conv_u8 x1))) ?_
          refine JA.tk 16 rfl fx107 (yl_move rfl rfl) ?_
          refine JA.tk 17 rfl fx107 (yl_convInt rfl rfl Tryz.underlying3 Tryz.underlying5) ?_
          refine JA.eqv 111 rfl (show _ = u8 (toU8 (j : Int)) from (congrArg (Value.int .u8) (conv_u8 (j : Int)))) ?_
          refine JA.tk 18 rfl fx107 (yl_move rfl rfl) ?_
          refine JA.tk 19 rfl fx107 (yl_indexAddr (off' := lo + 0) rfl rfl rfl Tryz.underlying22 Tryz.sizeOf3 (by omega) (by omega) (by simp)) ?_
          refine JA.tk 20 rfl fx107 (yl_load rfl rfl Tryz.isAgg3 (Blk.immC hlb_13) (int_from hld hx0)) ?_
          refine JA.tk 21 rfl fx107 (yl_convInt rfl rfl Tryz.underlying3 Tryz.underlying5) ?_
          refine JA.eqv 115 rfl (show _ = u8 (toU8 x0) from (congrArg (Value.int .u8) (conv_u8 x0))) ?_
          refine JA.tk 22 rfl fx107 (yl_buildA (zs := [(.int .u8 0), (.int .u8 0), (.int .u8 0), (.int .u8 0)]) rfl rfl Tryz.zeroValue41 rfl Tryz.underlying41 Tryz.sizeOf5 rfl) ?_
          refine JA.step 23 (by kernel_rfl) rfl rfl (op_pure rfl rfl rfl rfl rfl (Number_ok [toU8 x0, toU8 x1, 3, toU8 (x.l.length : Int), 0, 0, 0, 0, 0, 0, 0, 0] rfl (toU8 x1) (toU8 (j : Int)) 0 (toU8 x0) _) ?_)
          refine ⟨⟨(Le.refl _), (HSub.c 1 rfl (HSub.c 2 rfl (HSub.c 3 rfl (HSub.c 4 rfl HSub.n)))), CSub.n⟩, ?_⟩
          refine JA.fix ⟨(HSub.c 1 rfl (HSub.c 2 rfl (HSub.c 3 rfl (HSub.c 4 rfl HSub.n)))), CSub.n, (Le.refl _)⟩ (fun fx108 => ?_)
          refine JA.tk 24 rfl fx108 (yl_fieldAddr (off' := 1) rfl rfl Tryz.underlying60 rfl Tryz.sizeOf9 rfl) ?_
          refine JA.step 25 (by kernel_rfl) rfl rfl (op_store 0 rfl rfl rfl rfl rfl rfl Tryz.sizeOf9 rfl rfl (LSpl.s (LSpl.c LSpl.z)) LSet.z ?_)
          refine ⟨⟨(Le.refl _), (HSub.c 1 rfl (HSub.c 2 rfl (HSub.c 3 rfl (HSub.c 4 rfl HSub.n)))), CSub.n⟩, ?_⟩
          refine JA.done (by kernel_rfl) ?_
          refine Ej.seq (Cj.region (J.z (yl_fieldAddr (off' := 3) rfl rfl Tryz.underlying58 rfl Tryz.sizeOf56 rfl) ?_))
          refine J.z (yl_load rfl rfl Tryz.isAgg56 (Blk.at 1 rfl) rfl) ?_
          refine J.z (yl_loadAgg rfl rfl Tryz.isAgg60 Tryz.sizeOf60 (Blk.at 0 rfl) rfl rfl) ?_
          refine J.op rfl (op_buildSlice rfl rfl rfl Tryz.underlying56 Tryz.sizeOf60 Tryz.zeroValue60 rfl rfl rfl rfl (LCat.agg rfl LCat.none) ?_)
          intro b109 hb109
          refine J.op rfl (op_append (by' := 23) ([_, _, _, _, _, _] ++ gH _ _ _) rfl rfl rfl rfl rfl Tryz.underlying56 (.inr ⟨_, Tryz.underlying56⟩) (by kernel_rfl) Tryz.sizeOf60 Tryz.zeroValue60 rfl hh rfl (Src.slice (Blk.at 0 rfl) rfl rfl rfl) (by omega) ?_)
          intro g110 hg110
          refine J.z (yl_fieldAddr (off' := 3) rfl rfl Tryz.underlying58 rfl Tryz.sizeOf56 rfl) ?_
          refine J.op rfl (op_store 2 rfl rfl rfl rfl (gV_cells _ _) (gV_one _ _) Tryz.sizeOf56 rfl rfl (LSpl.s (LSpl.s (LSpl.s (LSpl.c LSpl.z)))) (LSet.s (LSet.s LSet.z)) ?_)
          refine J.nil (Ej.blkNormal (Ej.seq (Cj.region (J.z (yl_move rfl rfl) ?_))))
          refine J.z (yl_add rfl rfl rfl (w64 (by omega))) ?_
          refine J.z (yl_assign rfl rfl) ?_
          refine J.nil (Ej.keep (Keeps.d (Keeps.d (Keeps.k (Keeps.k (Keeps.k (Keeps.k Keeps.r)))))) ?_)
          refine Ej.round (j + 1, ss ++ [⟨(([97, 97, 98, 99, 122] : List UInt8).getD (x.l.length % 5) 0), (Ke.numb [toU8 x0, toU8 x1, 3, toU8 (x.l.length : Int), 0, 0, 0, 0, 0, 0, 0, 0] (toU8 x1) (toU8 (j : Int)) 0 (toU8 x0))⟩], g110) ⟨by dsimp only; omega, by dsimp only; omega, by dsimp only; rw [List.length_append, hsl]; rfl, by dsimp only; rw [texts_one]; omega, by dsimp only; rw [flat_one]; exact hg110⟩ (by dsimp only; omega) ⟨rfl, rfl, rfl, rfl, rfl, rfl, rfl, trivial⟩ rfl (by dsimp only; rw [flat_one]; rfl)
         ·
          have hc106p := of_decide_eq_false hc106
          refine Cj.skip (Ej.seq (Cj.region (J.z (yl_fieldAddr (off' := 3) rfl rfl Tryz.underlying58 rfl Tryz.sizeOf56 rfl) ?_)))
          refine J.z (yl_load rfl rfl Tryz.isAgg56 (Blk.at 1 rfl) rfl) ?_
          refine J.z (yl_loadAgg rfl rfl Tryz.isAgg60 Tryz.sizeOf60 (Blk.at 0 rfl) rfl rfl) ?_
          refine J.op rfl (op_buildSlice rfl rfl rfl Tryz.underlying56 Tryz.sizeOf60 Tryz.zeroValue60 rfl rfl rfl rfl (LCat.agg rfl LCat.none) ?_)
          intro b111 hb111
          refine J.op rfl (op_append (by' := 23) ([_, _, _, _, _, _] ++ gH _ _ _) rfl rfl rfl rfl rfl Tryz.underlying56 (.inr ⟨_, Tryz.underlying56⟩) (by kernel_rfl) Tryz.sizeOf60 Tryz.zeroValue60 rfl hh rfl (Src.slice (Blk.at 0 rfl) rfl rfl rfl) (by omega) ?_)
          intro g112 hg112
          refine J.z (yl_fieldAddr (off' := 3) rfl rfl Tryz.underlying58 rfl Tryz.sizeOf56 rfl) ?_
          refine J.op rfl (op_store 2 rfl rfl rfl rfl (gV_cells _ _) (gV_one _ _) Tryz.sizeOf56 rfl rfl (LSpl.s (LSpl.s (LSpl.s (LSpl.c LSpl.z)))) (LSet.s (LSet.s LSet.z)) ?_)
          refine J.nil (Ej.blkNormal (Ej.seq (Cj.region (J.z (yl_move rfl rfl) ?_))))
          refine J.z (yl_add rfl rfl rfl (w64 (by omega))) ?_
          refine J.z (yl_assign rfl rfl) ?_
          refine J.nil (Ej.keep (Keeps.d (Keeps.d (Keeps.k (Keeps.k (Keeps.k (Keeps.k Keeps.r)))))) ?_)
          refine Ej.round (j + 1, ss ++ [⟨(([97, 97, 98, 99, 122] : List UInt8).getD (x.l.length % 5) 0), (Ke.made x.l)⟩], g112) ⟨by dsimp only; omega, by dsimp only; omega, by dsimp only; rw [List.length_append, hsl]; rfl, by dsimp only; rw [texts_one]; omega, by dsimp only; rw [flat_one]; exact hg112⟩ (by dsimp only; omega) ⟨rfl, rfl, rfl, rfl, rfl, rfl, rfl, trivial⟩ rfl (by dsimp only; rw [flat_one]; rfl)
        ·
         have hg105p := of_decide_eq_false hg105
         refine J.skip 8 87 88 true _ rfl rfl rfl hg105 rfl rfl ?_
         refine J.skip 8 87 89 true _ rfl rfl rfl hg105 rfl rfl ?_
         refine J.skip 8 87 90 true _ rfl rfl rfl hg105 rfl rfl ?_
         refine J.skip 8 87 91 true _ rfl rfl rfl hg105 rfl rfl ?_
         refine J.skip 8 87 92 true _ rfl rfl rfl hg105 rfl rfl ?_
         refine J.z (yl_pick0 rfl rfl hg105 rfl) ?_
         refine J.nil (Ej.seq (Cj.cond rfl (fun hc113 => Bool.noConfusion (Eq.trans (Eq.symm rfl) hc113)) (fun hc113 => ?_)))
         refine Cj.skip (Ej.seq (Cj.region (J.z (yl_fieldAddr (off' := 3) rfl rfl Tryz.underlying58 rfl Tryz.sizeOf56 rfl) ?_)))
         refine J.z (yl_load rfl rfl Tryz.isAgg56 (Blk.at 1 rfl) rfl) ?_
         refine J.z (yl_loadAgg rfl rfl Tryz.isAgg60 Tryz.sizeOf60 (Blk.at 0 rfl) rfl rfl) ?_
         refine J.op rfl (op_buildSlice rfl rfl rfl Tryz.underlying56 Tryz.sizeOf60 Tryz.zeroValue60 rfl rfl rfl rfl (LCat.agg rfl LCat.none) ?_)
         intro b114 hb114
         refine J.op rfl (op_append (by' := 23) ([_, _, _, _, _, _] ++ gH _ _ _) rfl rfl rfl rfl rfl Tryz.underlying56 (.inr ⟨_, Tryz.underlying56⟩) (by kernel_rfl) Tryz.sizeOf60 Tryz.zeroValue60 rfl hh rfl (Src.slice (Blk.at 0 rfl) rfl rfl rfl) (by omega) ?_)
         intro g115 hg115
         refine J.z (yl_fieldAddr (off' := 3) rfl rfl Tryz.underlying58 rfl Tryz.sizeOf56 rfl) ?_
         refine J.op rfl (op_store 2 rfl rfl rfl rfl (gV_cells _ _) (gV_one _ _) Tryz.sizeOf56 rfl rfl (LSpl.s (LSpl.s (LSpl.s (LSpl.c LSpl.z)))) (LSet.s (LSet.s LSet.z)) ?_)
         refine J.nil (Ej.blkNormal (Ej.seq (Cj.region (J.z (yl_move rfl rfl) ?_))))
         refine J.z (yl_add rfl rfl rfl (w64 (by omega))) ?_
         refine J.z (yl_assign rfl rfl) ?_
         refine J.nil (Ej.keep (Keeps.d (Keeps.d (Keeps.k (Keeps.k (Keeps.k (Keeps.k Keeps.r)))))) ?_)
         refine Ej.round (j + 1, ss ++ [⟨(([97, 97, 98, 99, 122] : List UInt8).getD (x.l.length % 5) 0), (Ke.made x.l)⟩], g115) ⟨by dsimp only; omega, by dsimp only; omega, by dsimp only; rw [List.length_append, hsl]; rfl, by dsimp only; rw [texts_one]; omega, by dsimp only; rw [flat_one]; exact hg115⟩ (by dsimp only; omega) ⟨rfl, rfl, rfl, rfl, rfl, rfl, rfl, trivial⟩ rfl (by dsimp only; rw [flat_one]; rfl)
       ·
        have hg104p := ne_of_beq_false hg104
        refine J.skip 3 82 83 true _ rfl rfl rfl hg104 rfl rfl ?_
        refine J.skip 3 82 84 true _ rfl rfl rfl hg104 rfl rfl ?_
        refine J.skip 3 82 85 true _ rfl rfl rfl hg104 rfl rfl ?_
        refine J.z (yl_pick0 rfl rfl hg104 rfl) ?_
        refine J.z (yl_move rfl rfl) ?_
        refine J.skip 8 87 88 true _ rfl rfl rfl rfl rfl rfl ?_
        refine J.skip 8 87 89 true _ rfl rfl rfl rfl rfl rfl ?_
        refine J.skip 8 87 90 true _ rfl rfl rfl rfl rfl rfl ?_
        refine J.skip 8 87 91 true _ rfl rfl rfl rfl rfl rfl ?_
        refine J.skip 8 87 92 true _ rfl rfl rfl rfl rfl rfl ?_
        refine J.z (yl_pick0 rfl rfl rfl rfl) ?_
        refine J.nil (Ej.seq (Cj.cond rfl (fun hc116 => Bool.noConfusion (Eq.trans (Eq.symm rfl) hc116)) (fun hc116 => ?_)))
        refine Cj.skip (Ej.seq (Cj.region (J.z (yl_fieldAddr (off' := 3) rfl rfl Tryz.underlying58 rfl Tryz.sizeOf56 rfl) ?_)))
        refine J.z (yl_load rfl rfl Tryz.isAgg56 (Blk.at 1 rfl) rfl) ?_
        refine J.z (yl_loadAgg rfl rfl Tryz.isAgg60 Tryz.sizeOf60 (Blk.at 0 rfl) rfl rfl) ?_
        refine J.op rfl (op_buildSlice rfl rfl rfl Tryz.underlying56 Tryz.sizeOf60 Tryz.zeroValue60 rfl rfl rfl rfl (LCat.agg rfl LCat.none) ?_)
        intro b117 hb117
        refine J.op rfl (op_append (by' := 23) ([_, _, _, _, _, _] ++ gH _ _ _) rfl rfl rfl rfl rfl Tryz.underlying56 (.inr ⟨_, Tryz.underlying56⟩) (by kernel_rfl) Tryz.sizeOf60 Tryz.zeroValue60 rfl hh rfl (Src.slice (Blk.at 0 rfl) rfl rfl rfl) (by omega) ?_)
        intro g118 hg118
        refine J.z (yl_fieldAddr (off' := 3) rfl rfl Tryz.underlying58 rfl Tryz.sizeOf56 rfl) ?_
        refine J.op rfl (op_store 2 rfl rfl rfl rfl (gV_cells _ _) (gV_one _ _) Tryz.sizeOf56 rfl rfl (LSpl.s (LSpl.s (LSpl.s (LSpl.c LSpl.z)))) (LSet.s (LSet.s LSet.z)) ?_)
        refine J.nil (Ej.blkNormal (Ej.seq (Cj.region (J.z (yl_move rfl rfl) ?_))))
        refine J.z (yl_add rfl rfl rfl (w64 (by omega))) ?_
        refine J.z (yl_assign rfl rfl) ?_
        refine J.nil (Ej.keep (Keeps.d (Keeps.d (Keeps.k (Keeps.k (Keeps.k (Keeps.k Keeps.r)))))) ?_)
        refine Ej.round (j + 1, ss ++ [⟨(([97, 97, 98, 99, 122] : List UInt8).getD (x.l.length % 5) 0), (Ke.made x.l)⟩], g118) ⟨by dsimp only; omega, by dsimp only; omega, by dsimp only; rw [List.length_append, hsl]; rfl, by dsimp only; rw [texts_one]; omega, by dsimp only; rw [flat_one]; exact hg118⟩ (by dsimp only; omega) ⟨rfl, rfl, rfl, rfl, rfl, rfl, rfl, trivial⟩ rfl (by dsimp only; rw [flat_one]; rfl)
      ·
       refine ⟨_, rfl, rfl, ?_⟩
       refine op_alloc rfl rfl rfl Tryz.zeroValue60 rfl ?_
       intro b119 hb119
       refine ⟨⟨(Le.refl _), (HSub.c 1 rfl (HSub.c 2 rfl (HSub.c 3 rfl (HSub.c 4 rfl HSub.n)))), CSub.n⟩, ?_⟩
       refine JA.step 5 (by kernel_rfl) rfl rfl (op_pure rfl rfl rfl rfl rfl (Made_ok x.l _ _ hxi) ?_)
       refine ⟨⟨(Le.refl _), (HSub.c 1 rfl (HSub.c 2 rfl (HSub.c 3 rfl (HSub.c 4 rfl HSub.n)))), CSub.n⟩, ?_⟩
       refine JA.fix ⟨(HSub.c 1 rfl (HSub.c 2 rfl (HSub.c 3 rfl (HSub.c 4 rfl HSub.n)))), CSub.n, (Le.refl _)⟩ (fun fx120 => ?_)
       refine JA.tk 6 rfl fx120 (yl_buildS (pl := #[(0, 1), (1, 1)]) rfl rfl Tryz.zeroValue60 rfl Tryz.underlying60 (fun w => by simp [Tryz.sizeOf5, Tryz.sizeOf9]) (LBld.part rfl rfl rfl (LSpl.c LSpl.z) (LBld.part rfl rfl rfl (LSpl.s (LSpl.c LSpl.z)) LBld.none))) ?_
       refine JA.step 8 (by kernel_rfl) rfl rfl (op_store 0 rfl rfl rfl rfl rfl rfl Tryz.sizeOf60 rfl rfl (LSpl.c (LSpl.c LSpl.z)) LSet.z ?_)
       refine ⟨⟨(Le.refl _), (HSub.c 1 rfl (HSub.c 2 rfl (HSub.c 3 rfl (HSub.c 4 rfl HSub.n)))), CSub.n⟩, ?_⟩
       refine JA.done (by kernel_rfl) ?_
       refine Ej.seq (Cj.seq (Cj.seq (Cj.region (J.z (yl_fieldAddr (off' := 0) rfl rfl Tryz.underlying58 rfl Tryz.sizeOf9 rfl) ?_))))
       refine J.z (yl_load rfl rfl Tryz.isAgg9 (Blk.at 1 rfl) rfl) ?_
       refine J.z (yl_eqlStr rfl rfl rfl) ?_
       refine J.z (yl_move rfl rfl) ?_
       refine J.split 82 rfl (fun hg121 => ?_) (fun hg121 => ?_)
       ·
        have hg121p := eq_of_beq hg121
        refine J.opG 3 82 true _ rfl rfl rfl hg121 (op_yld (yl_move rfl rfl) rfl rfl ?_)
        refine J.opG 3 82 true _ rfl rfl rfl hg121 (op_yld (yl_lenSlice rfl rfl Tryz.underlying22) rfl rfl ?_)
        refine J.opG 3 82 true _ rfl rfl rfl hg121 (op_yld (yl_gtr rfl rfl rfl) rfl rfl ?_)
        refine J.z (yl_pick1 rfl rfl hg121 rfl) ?_
        refine J.z (yl_move rfl rfl) ?_
        refine J.split 87 rfl (fun hg122 => ?_) (fun hg122 => ?_)
        ·
         have hg122p := of_decide_eq_true hg122
         have hl2 : 1 < x.l.length := by omega
         obtain ⟨x0, hx0⟩ : ∃ a, x.l[0]? = some a := ⟨_, List.getElem?_eq_getElem (by omega)⟩
         obtain ⟨x1, hx1⟩ : ∃ a, x.l[1]? = some a := ⟨_, List.getElem?_eq_getElem (by omega)⟩
         obtain ⟨lb, lo, lcs, lty, lfr, lsp, rfl, hlb, hld⟩ := hlp (ne_nil_of hl2)
         refine J.opG 8 87 true _ rfl rfl rfl hg122 (op_yld (yl_move rfl rfl) rfl rfl ?_)
         refine J.opG 8 87 true _ rfl rfl rfl hg122 (op_yld (yl_indexAddr (off' := lo + 0) rfl rfl rfl Tryz.underlying22 Tryz.sizeOf3 (by omega) (by omega) (by simp)) rfl rfl ?_)
         refine J.opG 8 87 true _ rfl rfl rfl hg122 (op_yld (yl_load rfl rfl Tryz.isAgg3 (Blk.imm hlb) (int_from hld hx0)) rfl rfl ?_)
         refine J.opG 8 87 true _ rfl rfl rfl hg122 (op_yld (yl_rem rfl rfl rfl (by decide)) rfl rfl ?_)
         refine J.opG 8 87 true _ rfl rfl rfl hg122 (op_yld (yl_gtr rfl rfl rfl) rfl rfl ?_)
         refine J.z (yl_pick1 rfl rfl hg122 rfl) ?_
         refine J.nil (Ej.seq (Cj.cond rfl (fun hc123 => ?_) (fun hc123 => ?_)))
         ·
          have hc123p := of_decide_eq_true hc123
          have hnl := numb_len2 [toU8 x0, toU8 x1, 3, toU8 (x.l.length : Int), 0, 0, 0, 0, 0, 0, 0, 0] rfl (toU8 x1) (toU8 (j : Int)) 0 (toU8 x0)
          refine Cj.drawSel [1, 2, 3, 4] [] 26 (by kernel_rfl) ?_
          have hpb_13 := hpb
          have hxb_13 := hxb
          have hlb_13 := hlb
          refine JA.fix ⟨(HSub.c 1 rfl (HSub.c 2 rfl (HSub.c 3 rfl (HSub.c 4 rfl HSub.n)))), CSub.n, (Le.refl _)⟩ (fun fx124 => ?_)
          refine JA.tk 0 rfl fx124 (yl_move rfl rfl) ?_
          refine JA.tk 1 rfl fx124 (yl_indexAddr (off' := lo + 0) rfl rfl rfl Tryz.underlying22 Tryz.sizeOf3 (by omega) (by omega) (by simp)) ?_
          refine JA.tk 2 rfl fx124 (yl_load rfl rfl Tryz.isAgg3 (Blk.immC hlb_13) (int_from hld hx0)) ?_
          refine JA.tk 3 rfl fx124 (yl_convInt rfl rfl Tryz.underlying3 Tryz.underlying5) ?_
          refine JA.eqv 97 rfl (show _ = u8 (toU8 x0) from (congrArg (Value.int .u8) (conv_u8 x0))) ?_
          refine JA.tk 4 rfl fx124 (yl_move rfl rfl) ?_
          refine JA.tk 5 rfl fx124 (yl_indexAddr (off' := lo + 1) rfl rfl rfl Tryz.underlying22 Tryz.sizeOf3 (by omega) (by omega) (by simp)) ?_
          refine JA.tk 6 rfl fx124 (yl_load rfl rfl Tryz.isAgg3 (Blk.immC hlb_13) (int_from hld hx1)) ?_
          refine JA.tk 7 rfl fx124 (yl_convInt rfl rfl Tryz.underlying3 Tryz.underlying5) ?_
          refine JA.eqv 101 rfl (show _ = u8 (toU8 x1) from (congrArg (Value.int .u8) (conv_u8 x1))) ?_
          refine JA.tk 8 rfl fx124 (yl_move rfl rfl) ?_
          refine JA.tk 9 rfl fx124 (yl_lenSlice rfl rfl Tryz.underlying22) ?_
          refine JA.tk 10 rfl fx124 (yl_convInt rfl rfl Tryz.underlying3 Tryz.underlying5) ?_
          refine JA.eqv 104 rfl (show _ = u8 (toU8 (x.l.length : Int)) from (congrArg (Value.int .u8) (conv_u8 (x.l.length : Int)))) ?_
          refine JA.tk 11 rfl fx124 (yl_buildA (zs := [(.int .u8 0), (.int .u8 0), (.int .u8 0), (.int .u8 0), (.int .u8 0), (.int .u8 0), (.int .u8 0), (.int .u8 0), (.int .u8 0), (.int .u8 0), (.int .u8 0), (.int .u8 0)]) rfl rfl Tryz.zeroValue40 rfl Tryz.underlying40 Tryz.sizeOf5 rfl) ?_
          refine JA.tk 12 rfl fx124 (yl_move rfl rfl) ?_
          refine JA.tk 13 rfl fx124 (yl_indexAddr (off' := lo + 1) rfl rfl rfl Tryz.underlying22 Tryz.sizeOf3 (by omega) (by omega) (by simp)) ?_
          refine JA.tk 14 rfl fx124 (yl_load rfl rfl Tryz.isAgg3 (Blk.immC hlb_13) (int_from hld hx1)) ?_
          refine JA.tk 15 rfl fx124 (yl_convInt rfl rfl Tryz.underlying3 Tryz.underlying5) ?_
          refine JA.eqv 109 rfl (show _ = u8 (toU8 x1) from (congrArg (Value.int .u8) (conv_u8 x1))) ?_
          refine JA.tk 16 rfl fx124 (yl_move rfl rfl) ?_
          refine JA.tk 17 rfl fx124 (yl_convInt rfl rfl Tryz.underlying3 Tryz.underlying5) ?_
          refine JA.eqv 111 rfl (show _ = u8 (toU8 (j : Int)) from (congrArg (Value.int .u8) (conv_u8 (j : Int)))) ?_
          refine JA.tk 18 rfl fx124 (yl_move rfl rfl) ?_
          refine JA.tk 19 rfl fx124 (yl_indexAddr (off' := lo + 0) rfl rfl rfl Tryz.underlying22 Tryz.sizeOf3 (by omega) (by omega) (by simp)) ?_
          refine JA.tk 20 rfl fx124 (yl_load rfl rfl Tryz.isAgg3 (Blk.immC hlb_13) (int_from hld hx0)) ?_
          refine JA.tk 21 rfl fx124 (yl_convInt rfl rfl Tryz.underlying3 Tryz.underlying5) ?_
          refine JA.eqv 115 rfl (show _ = u8 (toU8 x0) from (congrArg (Value.int .u8) (conv_u8 x0))) ?_
          refine JA.tk 22 rfl fx124 (yl_buildA (zs := [(.int .u8 0), (.int .u8 0), (.int .u8 0), (.int .u8 0)]) rfl rfl Tryz.zeroValue41 rfl Tryz.underlying41 Tryz.sizeOf5 rfl) ?_
          refine JA.step 23 (by kernel_rfl) rfl rfl (op_pure rfl rfl rfl rfl rfl (Number_ok [toU8 x0, toU8 x1, 3, toU8 (x.l.length : Int), 0, 0, 0, 0, 0, 0, 0, 0] rfl (toU8 x1) (toU8 (j : Int)) 0 (toU8 x0) _) ?_)
          refine ⟨⟨(Le.refl _), (HSub.c 1 rfl (HSub.c 2 rfl (HSub.c 3 rfl (HSub.c 4 rfl HSub.n)))), CSub.n⟩, ?_⟩
          refine JA.fix ⟨(HSub.c 1 rfl (HSub.c 2 rfl (HSub.c 3 rfl (HSub.c 4 rfl HSub.n)))), CSub.n, (Le.refl _)⟩ (fun fx125 => ?_)
          refine JA.tk 24 rfl fx125 (yl_fieldAddr (off' := 1) rfl rfl Tryz.underlying60 rfl Tryz.sizeOf9 rfl) ?_
          refine JA.step 25 (by kernel_rfl) rfl rfl (op_store 0 rfl rfl rfl rfl rfl rfl Tryz.sizeOf9 rfl rfl (LSpl.s (LSpl.c LSpl.z)) LSet.z ?_)
          refine ⟨⟨(Le.refl _), (HSub.c 1 rfl (HSub.c 2 rfl (HSub.c 3 rfl (HSub.c 4 rfl HSub.n)))), CSub.n⟩, ?_⟩
          refine JA.done (by kernel_rfl) ?_
          refine Ej.seq (Cj.region (J.z (yl_fieldAddr (off' := 3) rfl rfl Tryz.underlying58 rfl Tryz.sizeOf56 rfl) ?_))
          refine J.z (yl_load rfl rfl Tryz.isAgg56 (Blk.at 1 rfl) rfl) ?_
          refine J.z (yl_loadAgg rfl rfl Tryz.isAgg60 Tryz.sizeOf60 (Blk.at 0 rfl) rfl rfl) ?_
          refine J.op rfl (op_buildSlice rfl rfl rfl Tryz.underlying56 Tryz.sizeOf60 Tryz.zeroValue60 rfl rfl rfl rfl (LCat.agg rfl LCat.none) ?_)
          intro b126 hb126
          refine J.op rfl (op_append (by' := 23) ([_, _, _, _, _, _] ++ gH _ _ _) rfl rfl rfl rfl rfl Tryz.underlying56 (.inr ⟨_, Tryz.underlying56⟩) (by kernel_rfl) Tryz.sizeOf60 Tryz.zeroValue60 rfl hh rfl (Src.slice (Blk.at 0 rfl) rfl rfl rfl) (by omega) ?_)
          intro g127 hg127
          refine J.z (yl_fieldAddr (off' := 3) rfl rfl Tryz.underlying58 rfl Tryz.sizeOf56 rfl) ?_
          refine J.op rfl (op_store 2 rfl rfl rfl rfl (gV_cells _ _) (gV_one _ _) Tryz.sizeOf56 rfl rfl (LSpl.s (LSpl.s (LSpl.s (LSpl.c LSpl.z)))) (LSet.s (LSet.s LSet.z)) ?_)
          refine J.nil (Ej.blkNormal (Ej.seq (Cj.region (J.z (yl_move rfl rfl) ?_))))
          refine J.z (yl_add rfl rfl rfl (w64 (by omega))) ?_
          refine J.z (yl_assign rfl rfl) ?_
          refine J.nil (Ej.keep (Keeps.d (Keeps.d (Keeps.k (Keeps.k (Keeps.k (Keeps.k Keeps.r)))))) ?_)
          refine Ej.round (j + 1, ss ++ [⟨(([97, 97, 98, 99, 122] : List UInt8).getD (x.l.length % 5) 0), (Ke.numb [toU8 x0, toU8 x1, 3, toU8 (x.l.length : Int), 0, 0, 0, 0, 0, 0, 0, 0] (toU8 x1) (toU8 (j : Int)) 0 (toU8 x0))⟩], g127) ⟨by dsimp only; omega, by dsimp only; omega, by dsimp only; rw [List.length_append, hsl]; rfl, by dsimp only; rw [texts_one]; omega, by dsimp only; rw [flat_one]; exact hg127⟩ (by dsimp only; omega) ⟨rfl, rfl, rfl, rfl, rfl, rfl, rfl, trivial⟩ rfl (by dsimp only; rw [flat_one]; rfl)
         ·
          have hc123p := of_decide_eq_false hc123
          refine Cj.skip (Ej.seq (Cj.region (J.z (yl_fieldAddr (off' := 3) rfl rfl Tryz.underlying58 rfl Tryz.sizeOf56 rfl) ?_)))
          refine J.z (yl_load rfl rfl Tryz.isAgg56 (Blk.at 1 rfl) rfl) ?_
          refine J.z (yl_loadAgg rfl rfl Tryz.isAgg60 Tryz.sizeOf60 (Blk.at 0 rfl) rfl rfl) ?_
          refine J.op rfl (op_buildSlice rfl rfl rfl Tryz.underlying56 Tryz.sizeOf60 Tryz.zeroValue60 rfl rfl rfl rfl (LCat.agg rfl LCat.none) ?_)
          intro b128 hb128
          refine J.op rfl (op_append (by' := 23) ([_, _, _, _, _, _] ++ gH _ _ _) rfl rfl rfl rfl rfl Tryz.underlying56 (.inr ⟨_, Tryz.underlying56⟩) (by kernel_rfl) Tryz.sizeOf60 Tryz.zeroValue60 rfl hh rfl (Src.slice (Blk.at 0 rfl) rfl rfl rfl) (by omega) ?_)
          intro g129 hg129
          refine J.z (yl_fieldAddr (off' := 3) rfl rfl Tryz.underlying58 rfl Tryz.sizeOf56 rfl) ?_
          refine J.op rfl (op_store 2 rfl rfl rfl rfl (gV_cells _ _) (gV_one _ _) Tryz.sizeOf56 rfl rfl (LSpl.s (LSpl.s (LSpl.s (LSpl.c LSpl.z)))) (LSet.s (LSet.s LSet.z)) ?_)
          refine J.nil (Ej.blkNormal (Ej.seq (Cj.region (J.z (yl_move rfl rfl) ?_))))
          refine J.z (yl_add rfl rfl rfl (w64 (by omega))) ?_
          refine J.z (yl_assign rfl rfl) ?_
          refine J.nil (Ej.keep (Keeps.d (Keeps.d (Keeps.k (Keeps.k (Keeps.k (Keeps.k Keeps.r)))))) ?_)
          refine Ej.round (j + 1, ss ++ [⟨(([97, 97, 98, 99, 122] : List UInt8).getD (x.l.length % 5) 0), (Ke.made x.l)⟩], g129) ⟨by dsimp only; omega, by dsimp only; omega, by dsimp only; rw [List.length_append, hsl]; rfl, by dsimp only; rw [texts_one]; omega, by dsimp only; rw [flat_one]; exact hg129⟩ (by dsimp only; omega) ⟨rfl, rfl, rfl, rfl, rfl, rfl, rfl, trivial⟩ rfl (by dsimp only; rw [flat_one]; rfl)
        ·
         have hg122p := of_decide_eq_false hg122
         refine J.skip 8 87 88 true _ rfl rfl rfl hg122 rfl rfl ?_
         refine J.skip 8 87 89 true _ rfl rfl rfl hg122 rfl rfl ?_
         refine J.skip 8 87 90 true _ rfl rfl rfl hg122 rfl rfl ?_
         refine J.skip 8 87 91 true _ rfl rfl rfl hg122 rfl rfl ?_
         refine J.skip 8 87 92 true _ rfl rfl rfl hg122 rfl rfl ?_
         refine J.z (yl_pick0 rfl rfl hg122 rfl) ?_
         refine J.nil (Ej.seq (Cj.cond rfl (fun hc130 => Bool.noConfusion (Eq.trans (Eq.symm rfl) hc130)) (fun hc130 => ?_)))
         refine Cj.skip (Ej.seq (Cj.region (J.z (yl_fieldAddr (off' := 3) rfl rfl Tryz.underlying58 rfl Tryz.sizeOf56 rfl) ?_)))
         refine J.z (yl_load rfl rfl Tryz.isAgg56 (Blk.at 1 rfl) rfl) ?_
         refine J.z (yl_loadAgg rfl rfl Tryz.isAgg60 Tryz.sizeOf60 (Blk.at 0 rfl) rfl rfl) ?_
         refine J.op rfl (op_buildSlice rfl rfl rfl Tryz.underlying56 Tryz.sizeOf60 Tryz.zeroValue60 rfl rfl rfl rfl (LCat.agg rfl LCat.none) ?_)
         intro b131 hb131
         refine J.op rfl (op_append (by' := 23) ([_, _, _, _, _, _] ++ gH _ _ _) rfl rfl rfl rfl rfl Tryz.underlying56 (.inr ⟨_, Tryz.underlying56⟩) (by kernel_rfl) Tryz.sizeOf60 Tryz.zeroValue60 rfl hh rfl (Src.slice (Blk.at 0 rfl) rfl rfl rfl) (by omega) ?_)
         intro g132 hg132
         refine J.z (yl_fieldAddr (off' := 3) rfl rfl Tryz.underlying58 rfl Tryz.sizeOf56 rfl) ?_
         refine J.op rfl (op_store 2 rfl rfl rfl rfl (gV_cells _ _) (gV_one _ _) Tryz.sizeOf56 rfl rfl (LSpl.s (LSpl.s (LSpl.s (LSpl.c LSpl.z)))) (LSet.s (LSet.s LSet.z)) ?_)
         refine J.nil (Ej.blkNormal (Ej.seq (Cj.region (J.z (yl_move rfl rfl) ?_))))
         refine J.z (yl_add rfl rfl rfl (w64 (by omega))) ?_
         refine J.z (yl_assign rfl rfl) ?_
         refine J.nil (Ej.keep (Keeps.d (Keeps.d (Keeps.k (Keeps.k (Keeps.k (Keeps.k Keeps.r)))))) ?_)
         refine Ej.round (j + 1, ss ++ [⟨(([97, 97, 98, 99, 122] : List UInt8).getD (x.l.length % 5) 0), (Ke.made x.l)⟩], g132) ⟨by dsimp only; omega, by dsimp only; omega, by dsimp only; rw [List.length_append, hsl]; rfl, by dsimp only; rw [texts_one]; omega, by dsimp only; rw [flat_one]; exact hg132⟩ (by dsimp only; omega) ⟨rfl, rfl, rfl, rfl, rfl, rfl, rfl, trivial⟩ rfl (by dsimp only; rw [flat_one]; rfl)
       ·
        have hg121p := ne_of_beq_false hg121
        refine J.skip 3 82 83 true _ rfl rfl rfl hg121 rfl rfl ?_
        refine J.skip 3 82 84 true _ rfl rfl rfl hg121 rfl rfl ?_
        refine J.skip 3 82 85 true _ rfl rfl rfl hg121 rfl rfl ?_
        refine J.z (yl_pick0 rfl rfl hg121 rfl) ?_
        refine J.z (yl_move rfl rfl) ?_
        refine J.skip 8 87 88 true _ rfl rfl rfl rfl rfl rfl ?_
        refine J.skip 8 87 89 true _ rfl rfl rfl rfl rfl rfl ?_
        refine J.skip 8 87 90 true _ rfl rfl rfl rfl rfl rfl ?_
        refine J.skip 8 87 91 true _ rfl rfl rfl rfl rfl rfl ?_
        refine J.skip 8 87 92 true _ rfl rfl rfl rfl rfl rfl ?_
        refine J.z (yl_pick0 rfl rfl rfl rfl) ?_
        refine J.nil (Ej.seq (Cj.cond rfl (fun hc133 => Bool.noConfusion (Eq.trans (Eq.symm rfl) hc133)) (fun hc133 => ?_)))
        refine Cj.skip (Ej.seq (Cj.region (J.z (yl_fieldAddr (off' := 3) rfl rfl Tryz.underlying58 rfl Tryz.sizeOf56 rfl) ?_)))
        refine J.z (yl_load rfl rfl Tryz.isAgg56 (Blk.at 1 rfl) rfl) ?_
        refine J.z (yl_loadAgg rfl rfl Tryz.isAgg60 Tryz.sizeOf60 (Blk.at 0 rfl) rfl rfl) ?_
        refine J.op rfl (op_buildSlice rfl rfl rfl Tryz.underlying56 Tryz.sizeOf60 Tryz.zeroValue60 rfl rfl rfl rfl (LCat.agg rfl LCat.none) ?_)
        intro b134 hb134
        refine J.op rfl (op_append (by' := 23) ([_, _, _, _, _, _] ++ gH _ _ _) rfl rfl rfl rfl rfl Tryz.underlying56 (.inr ⟨_, Tryz.underlying56⟩) (by kernel_rfl) Tryz.sizeOf60 Tryz.zeroValue60 rfl hh rfl (Src.slice (Blk.at 0 rfl) rfl rfl rfl) (by omega) ?_)
        intro g135 hg135
        refine J.z (yl_fieldAddr (off' := 3) rfl rfl Tryz.underlying58 rfl Tryz.sizeOf56 rfl) ?_
        refine J.op rfl (op_store 2 rfl rfl rfl rfl (gV_cells _ _) (gV_one _ _) Tryz.sizeOf56 rfl rfl (LSpl.s (LSpl.s (LSpl.s (LSpl.c LSpl.z)))) (LSet.s (LSet.s LSet.z)) ?_)
        refine J.nil (Ej.blkNormal (Ej.seq (Cj.region (J.z (yl_move rfl rfl) ?_))))
        refine J.z (yl_add rfl rfl rfl (w64 (by omega))) ?_
        refine J.z (yl_assign rfl rfl) ?_
        refine J.nil (Ej.keep (Keeps.d (Keeps.d (Keeps.k (Keeps.k (Keeps.k (Keeps.k Keeps.r)))))) ?_)
        refine Ej.round (j + 1, ss ++ [⟨(([97, 97, 98, 99, 122] : List UInt8).getD (x.l.length % 5) 0), (Ke.made x.l)⟩], g135) ⟨by dsimp only; omega, by dsimp only; omega, by dsimp only; rw [List.length_append, hsl]; rfl, by dsimp only; rw [texts_one]; omega, by dsimp only; rw [flat_one]; exact hg135⟩ (by dsimp only; omega) ⟨rfl, rfl, rfl, rfl, rfl, rfl, rfl, trivial⟩ rfl (by dsimp only; rw [flat_one]; rfl)
     ·
      have hc100p := of_decide_eq_false hc100
      refine Cj.exit (Ej.seqExit (Ej.loopExit (Ej.blkExit (Ej.seq (Cj.perm (H' := gH _ _ _ ++ ([_, _, _, _] ++ gH _ _ _)) (perm_last [_, _, _, _] _ _) ?_)))))
      refine Cj.keepR subC_len (by decide) hh hsl.symm (fun I8 hle8 hss => ?_)
      have hIJ := hIJ.mono hle8
      have hG := hG.mono hle8
      have hpb := hle8 _ _ hpb
      
      refine Cj.region (J.z (yl_fieldAddr (off' := 2) rfl rfl Tryz.underlying51 rfl Tryz.sizeOf49 rfl) ?_)
      refine J.z (yl_load rfl rfl Tryz.isAgg49 (Blk.at 1 rfl) rfl) ?_
      refine J.z (yl_loadAgg rfl rfl Tryz.isAgg58 Tryz.sizeOf58 (Blk.at 0 rfl) rfl rfl) ?_
      refine J.op rfl (op_buildSlice rfl rfl rfl Tryz.underlying49 Tryz.sizeOf58 Tryz.zeroValue58 rfl rfl rfl rfl (LCat.agg rfl LCat.none) ?_)
      intro b136 hb136
      refine J.op rfl (op_append (by' := 71) [_, _, _, _, _] rfl rfl rfl rfl rfl Tryz.underlying49 (.inr ⟨_, Tryz.underlying49⟩) (by kernel_rfl) Tryz.sizeOf58 Tryz.zeroValue58 rfl hg rfl (Src.slice (Blk.at 0 rfl) rfl rfl (by show [str (tagsL.getD (q.tag.toNat % 6) []), str [(([32, 48, 49, 52, 32, 50, 51] : List UInt8).getD (q.i0.toNat % 7) 0), (([32, 48, 49, 52, 57, 97, 51] : List UInt8).getD (q.i1.toNat % 7) 0)], str [], gV j h].all Value.oneCell' = true; simp only [List.all_cons, List.all_nil, gV_one', Bool.and_true]; rfl)) (by omega) ?_)
      intro g137 hg137
      refine J.z (yl_fieldAddr (off' := 2) rfl rfl Tryz.underlying51 rfl Tryz.sizeOf49 rfl) ?_
      refine J.op rfl (op_store 2 rfl rfl rfl rfl (gV_cells _ _) (gV_one _ _) Tryz.sizeOf49 rfl rfl (LSpl.s (LSpl.s (LSpl.c LSpl.z))) (LSet.s (LSet.s LSet.z)) ?_)
      refine J.nil (Ej.blkNormal (Ej.seq (Cj.region (J.z (yl_move rfl rfl) ?_))))
      refine J.z (yl_add rfl rfl rfl (w64 (by omega))) ?_
      refine J.z (yl_assign rfl rfl) ?_
      refine J.nil (Ej.keep (Keeps.d (Keeps.d (Keeps.k (Keeps.k (Keeps.k Keeps.r))))) ?_)
      refine Ej.round (k + 1, _, fs ++ [(⟨(tagsL.getD (q.tag.toNat % 6) []), [(([32, 48, 49, 52, 32, 50, 51] : List UInt8).getD (q.i0.toNat % 7) 0), (([32, 48, 49, 52, 57, 97, 51] : List UInt8).getD (q.i1.toNat % 7) 0)], [], gV j h, ss⟩ : Ke.Fld)], g137) ⟨by dsimp only; omega, by dsimp only; omega, hIJ, by dsimp only; rw [List.length_append, hfl]; rfl, GoodS.add hG hss ⟨by dsimp only; omega, by dsimp only; omega, Nat.le_refl 2⟩, by dsimp only; rw [flat_one]; exact hg137⟩ (by dsimp only; omega) ⟨rfl, rfl, rfl, rfl, rfl, trivial⟩ rfl (by dsimp only; rw [flat_one]; rfl)
    ·
     have hg99p := of_decide_eq_false hg99
     refine J.skip 8 58 59 true _ rfl rfl rfl hg99 rfl rfl ?_
     refine J.skip 8 58 60 true _ rfl rfl rfl hg99 rfl rfl ?_
     refine J.z (yl_pick0 rfl rfl hg99 rfl) ?_
     refine J.nil (Ej.seq (Cj.cond rfl (fun hc138 => Bool.noConfusion (Eq.trans (Eq.symm rfl) hc138)) (fun hc138 => ?_)))
     refine Cj.exit (Ej.seqExit (Ej.loopExit (Ej.blkExit (Ej.seq (Cj.perm (H' := gH _ _ _ ++ ([_, _, _, _] ++ gH _ _ _)) (perm_last [_, _, _, _] _ _) ?_)))))
     refine Cj.keepR subC_len (by decide) hh hsl.symm (fun I8 hle8 hss => ?_)
     have hIJ := hIJ.mono hle8
     have hG := hG.mono hle8
     have hpb := hle8 _ _ hpb
     
     refine Cj.region (J.z (yl_fieldAddr (off' := 2) rfl rfl Tryz.underlying51 rfl Tryz.sizeOf49 rfl) ?_)
     refine J.z (yl_load rfl rfl Tryz.isAgg49 (Blk.at 1 rfl) rfl) ?_
     refine J.z (yl_loadAgg rfl rfl Tryz.isAgg58 Tryz.sizeOf58 (Blk.at 0 rfl) rfl rfl) ?_
     refine J.op rfl (op_buildSlice rfl rfl rfl Tryz.underlying49 Tryz.sizeOf58 Tryz.zeroValue58 rfl rfl rfl rfl (LCat.agg rfl LCat.none) ?_)
     intro b139 hb139
     refine J.op rfl (op_append (by' := 71) [_, _, _, _, _] rfl rfl rfl rfl rfl Tryz.underlying49 (.inr ⟨_, Tryz.underlying49⟩) (by kernel_rfl) Tryz.sizeOf58 Tryz.zeroValue58 rfl hg rfl (Src.slice (Blk.at 0 rfl) rfl rfl (by show [str (tagsL.getD (q.tag.toNat % 6) []), str [(([32, 48, 49, 52, 32, 50, 51] : List UInt8).getD (q.i0.toNat % 7) 0), (([32, 48, 49, 52, 57, 97, 51] : List UInt8).getD (q.i1.toNat % 7) 0)], str [], gV j h].all Value.oneCell' = true; simp only [List.all_cons, List.all_nil, gV_one', Bool.and_true]; rfl)) (by omega) ?_)
     intro g140 hg140
     refine J.z (yl_fieldAddr (off' := 2) rfl rfl Tryz.underlying51 rfl Tryz.sizeOf49 rfl) ?_
     refine J.op rfl (op_store 2 rfl rfl rfl rfl (gV_cells _ _) (gV_one _ _) Tryz.sizeOf49 rfl rfl (LSpl.s (LSpl.s (LSpl.c LSpl.z))) (LSet.s (LSet.s LSet.z)) ?_)
     refine J.nil (Ej.blkNormal (Ej.seq (Cj.region (J.z (yl_move rfl rfl) ?_))))
     refine J.z (yl_add rfl rfl rfl (w64 (by omega))) ?_
     refine J.z (yl_assign rfl rfl) ?_
     refine J.nil (Ej.keep (Keeps.d (Keeps.d (Keeps.k (Keeps.k (Keeps.k Keeps.r))))) ?_)
     refine Ej.round (k + 1, _, fs ++ [(⟨(tagsL.getD (q.tag.toNat % 6) []), [(([32, 48, 49, 52, 32, 50, 51] : List UInt8).getD (q.i0.toNat % 7) 0), (([32, 48, 49, 52, 57, 97, 51] : List UInt8).getD (q.i1.toNat % 7) 0)], [], gV j h, ss⟩ : Ke.Fld)], g140) ⟨by dsimp only; omega, by dsimp only; omega, hIJ, by dsimp only; rw [List.length_append, hfl]; rfl, GoodS.add hG hss ⟨by dsimp only; omega, by dsimp only; omega, Nat.le_refl 2⟩, by dsimp only; rw [flat_one]; exact hg140⟩ (by dsimp only; omega) ⟨rfl, rfl, rfl, rfl, rfl, trivial⟩ rfl (by dsimp only; rw [flat_one]; rfl)
  ·
   have hc5p := of_decide_eq_false hc5
   refine Cj.exit (Ej.seqExit (Ej.loopExit (Ej.blkExit (Ej.seq (Cj.seq (Cj.region (J.z (yl_loadAgg rfl rfl Tryz.isAgg51 Tryz.sizeOf51 (Blk.at 0 rfl) rfl rfl) ?_)))))))
   refine J.op rfl (op_store 2 rfl rfl rfl rfl rfl (by show [u8 97, u8 109, gV k g].all Value.oneCell' = true; simp only [List.all_cons, List.all_nil, gV_one', Bool.and_true]; rfl) Tryz.sizeOf51 rfl rfl (LSpl.c (LSpl.c (LSpl.c LSpl.z))) (LSet.s (LSet.s LSet.z)) ?_)
   refine J.nil (Ej.seq (Cj.ret (Ej.perm (H' := gH _ _ _ ++ [_, _, _]) List.perm_append_comm ?_)))
   refine Ej.keepR fldC_len (by decide) hg hfl.symm (fun I9 hle9 hfs => ?_)
   refine Ej.retC (Keeps.d (Keeps.d (Keeps.d Keeps.n))) rfl rfl rfl (Blk.at 2 rfl) Tryz.isAgg51 Tryz.sizeOf51 rfl ?_
   exact ⟨fs, _, rfl, ⟨hfs, fun f hf => ((hG f hf).1.mono hle9)⟩, ⟨by omega, fun f hf => (hG f hf).2⟩, rfl⟩
 ·
  have hg4p := of_decide_eq_false hg4
  refine J.skip 4 16 17 true _ rfl rfl rfl hg4 rfl rfl ?_
  refine J.skip 4 16 18 true _ rfl rfl rfl hg4 rfl rfl ?_
  refine J.z (yl_pick0 rfl rfl hg4 rfl) ?_
  refine J.nil (Ej.seq (Cj.cond rfl (fun hc141 => Bool.noConfusion (Eq.trans (Eq.symm rfl) hc141)) (fun hc141 => ?_)))
  refine Cj.exit (Ej.seqExit (Ej.loopExit (Ej.blkExit (Ej.seq (Cj.seq (Cj.region (J.z (yl_loadAgg rfl rfl Tryz.isAgg51 Tryz.sizeOf51 (Blk.at 0 rfl) rfl rfl) ?_)))))))
  refine J.op rfl (op_store 2 rfl rfl rfl rfl rfl (by show [u8 97, u8 109, gV k g].all Value.oneCell' = true; simp only [List.all_cons, List.all_nil, gV_one', Bool.and_true]; rfl) Tryz.sizeOf51 rfl rfl (LSpl.c (LSpl.c (LSpl.c LSpl.z))) (LSet.s (LSet.s LSet.z)) ?_)
  refine J.nil (Ej.seq (Cj.ret (Ej.perm (H' := gH _ _ _ ++ [_, _, _]) List.perm_append_comm ?_)))
  refine Ej.keepR fldC_len (by decide) hg hfl.symm (fun I9 hle9 hfs => ?_)
  refine Ej.retC (Keeps.d (Keeps.d (Keeps.d Keeps.n))) rfl rfl rfl (Blk.at 2 rfl) Tryz.isAgg51 Tryz.sizeOf51 rfl ?_
  exact ⟨fs, _, rfl, ⟨hfs, fun f hf => ((hG f hf).1.mono hle9)⟩, ⟨by omega, fun f hf => (hG f hf).2⟩, rfl⟩

end Go.Proofs.YtnogdccoekfnoaaGreatDoor
