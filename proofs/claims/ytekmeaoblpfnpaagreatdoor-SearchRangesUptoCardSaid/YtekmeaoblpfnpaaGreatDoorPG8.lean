/-
  Own texts on the laws of the seat, joined: the logic, and contracts of functions. Conditions: none.
-/
import Derived.Test.YtekmeaoblpfnpaaGreatDoorPG7
import Derived.Shelf.SlLaysF0
import Derived.Ground.SlsfProg
import Derived.Shelf.GgSortFunc.InsertionK
import Derived.Shelf.SlSortCmp.WholeK
import Derived.Shelf.SlSortCmp.NoneTotal
set_option maxRecDepth 100000
set_option maxHeartbeats 40000000
section
namespace Go.Proofs.YtekmeaoblpfnpaaGreatDoor
open _root_.Go.Proofs.Tryz
open Go Go.Sx
attribute [local instance] yesDR
def orR (r s : Int) : Int := if r ≠ 0 then r else s
section
open Go.Shelf Go.RowKit Go.Lib
theorem or2_ok (b : Nat) (r0 r1 : Int) (w : World) (h0 : w.cell? ⟨b, 0, none⟩ = some (.int .i64 r0)) (h1 : w.cell? ⟨b, 1, none⟩ = some (.int .i64 r1)) :
    Calls Tryz.prog 57 #[.slice (some ⟨b, 0, none⟩) 2 2] w fun e w' => e = .returned (.int .i64 (orR r0 r1)) ∧ w' = w := by
  go_enter func57, Tryz.ntmps57
  go_wp2
  refine wp_loop_rounds 3 ?_
  rw [rounds_succ]
  go_wp2
  · have hr : (r0 != 0) = true := by assumption
    have hc : orR r0 r1 = r0 := if_pos (by simpa using hr)
    go_ret
    exact ⟨by rw [hc]; rfl, rfl⟩
  have hr : (r0 != 0) = false := by assumption
  have hc : orR r0 r1 = r1 := if_neg (by simpa using hr)
  rw [rounds_succ]
  go_wp2
  · go_ret
    exact ⟨by rw [hc]; rfl, rfl⟩
  have hs : (r1 != 0) = false := by assumption
  have hs1 : r1 = 0 := by simpa using hs
  rw [rounds_succ]
  go_wp2
  go_ret
  exact ⟨by rw [hc, hs1]; rfl, rfl⟩
end
def cmpS (a b : List UInt8) : Int := if a < b then -1 else if b < a then 1 else 0
theorem str_gt {a b : List UInt8} (h : ¬ a < b) {t : Bool} (ht : (!(decide (a < b) || a == b)) = t) : if t then b < a else ¬ b < a := by
  rw [decide_eq_false h, Bool.false_or] at ht
  subst ht
  by_cases he : a = b
  · subst he; simp
  have hb : (a == b) = false := by simpa using he
  rw [hb]
  simp only [Bool.not_false, if_true]
  exact Std.lt_of_le_of_ne (Std.not_lt.1 h) (Ne.symm he)
theorem cmpOr_ok (b : Nat) (r0 r1 : Int) (I : Heap) : Ctr Tryz.prog 57 [.slice (some ⟨b, 0, none⟩) 2 2] I [(b, cel 3 [i64 r0, i64 r1])] (fun e I' H' => e = .returned (i64 (orR r0 r1)) ∧ I' = I ∧ H' = [(b, cel 3 [i64 r0, i64 r1])]) :=
  Ctr.same ⟨_, func57, by decide, rfl⟩ fun w hw => by
    have hb := hw.2.1 _ (.head _)
    refine or2_ok b r0 r1 w ?_ ?_ <;> simp [World.cell?, hb, cel]
theorem ceq_ok (x y : Int) (I : Heap) : Ctr Tryz.prog 59 [i64 x, i64 y] I [] (fun e I' H' => e = .returned (i64 (Lib.compareInt x y)) ∧ I' = I ∧ H' = []) :=
  Ctr.same ⟨_, func59, by decide, rfl⟩ fun w _ => Tryz.cmp_Compare_int x y w
theorem compareD_ok (x0 x1 y0 y1 : Int) (I : Heap) : Ctr Tryz.prog 78 [.agg #[i64 x0, i64 x1], .agg #[i64 y0, i64 y1]] I [] (fun e _ H' => e = .returned (i64 (orR (Lib.compareInt x0 y0) (Lib.compareInt x1 y1))) ∧ H' = []) := by
 refine Ctr.ob func78 ?_
 intro w0 hw0
 refine Cj.sr (J.op rfl (op_box rfl rfl rfl rfl rfl ?_))
 intro b1 hb1
 refine J.op rfl (op_box rfl rfl rfl rfl rfl ?_)
 intro b2 hb2
 refine J.as ?_
 refine J.nss (Cj.drawSel [0, 1] [] 13 (by kernel_rfl) ?_)
 refine JA.fix ⟨(HSub.c 0 rfl (HSub.c 1 rfl HSub.n)), CSub.n, (Le.refl _)⟩ (fun fx3 => ?_)
 refine JA.tk 0 rfl fx3 (q1 (off' := 0) underlying54 sizeOf3) ?_
 refine JA.tk 1 rfl fx3 (yl_load rfl rfl isAgg3 (Blk.atC 1 rfl) rfl) ?_
 refine JA.tk 2 rfl fx3 (q1 (off' := 0) underlying54 sizeOf3) ?_
 refine JA.tk 3 rfl fx3 (yl_load rfl rfl isAgg3 (Blk.atC 0 rfl) rfl) ?_
 refine JA.tk 5 rfl fx3 (q1 (off' := 1) underlying54 sizeOf3) ?_
 refine JA.tk 6 rfl fx3 (yl_load rfl rfl isAgg3 (Blk.atC 1 rfl) rfl) ?_
 refine JA.tk 7 rfl fx3 (q1 (off' := 1) underlying54 sizeOf3) ?_
 refine JA.tk 8 rfl fx3 (yl_load rfl rfl isAgg3 (Blk.atC 0 rfl) rfl) ?_
 refine q0 4 rfl (op_call (H1 := []) rfl rfl rfl rfl rfl (ceq_ok x0 y0 _) ?_ (fun _ _ _ _ h => by cases h.1) (fun _ _ h => by cases h.1))
 intro v4 I5 H6 hle7 hp8
 obtain ⟨h, rfl, rfl⟩ := hp8; cases h
 refine ⟨⟨(Le.trans (Le.refl _) hle7), (HSub.c 0 rfl (HSub.c 1 rfl HSub.n)), CSub.n⟩, ?_⟩
 refine q0 9 rfl (op_call (H1 := []) rfl rfl rfl rfl rfl (ceq_ok x1 y1 _) ?_ (fun _ _ _ _ h => by cases h.1) (fun _ _ h => by cases h.1))
 intro v9 I10 H11 hle12 hp13
 obtain ⟨h, rfl, rfl⟩ := hp13; cases h
 refine ⟨⟨(Le.trans (Le.trans (Le.refl _) hle7) hle12), (HSub.c 0 rfl (HSub.c 1 rfl HSub.n)), CSub.n⟩, ?_⟩
 refine q0 10 rfl (q3 underlying23 sizeOf3 zeroValue3 (LCat.one rfl (LCat.one rfl LCat.none)) ?_)
 intro b14 hb14
 refine ⟨⟨(Le.trans (Le.trans (Le.refl _) hle7) hle12), (HSub.c 1 rfl (HSub.c 2 rfl HSub.n)), CSub.n⟩, ?_⟩
 refine JA.pull Pull.z ?_
 refine q0 11 rfl (op_call (H1 := [_]) rfl rfl rfl rfl rfl (cmpOr_ok _ (Lib.compareInt x0 y0) (Lib.compareInt x1 y1) _) ?_ (fun _ _ _ _ h => by cases h.1) (fun _ _ h => by cases h.1))
 intro v15 I16 H17 hle18 hp19
 obtain ⟨h, rfl, rfl⟩ := hp19; cases h
 refine ⟨⟨(Le.trans (Le.trans (Le.trans (Le.refl _) hle7) hle12) hle18), (HSub.c 1 rfl (HSub.c 2 rfl HSub.n)), CSub.n⟩, ?_⟩
 refine JA.fix ⟨(HSub.c 1 rfl (HSub.c 2 rfl HSub.n)), CSub.n, (Le.trans (Le.trans (Le.trans (Le.refl _) hle7) hle12) hle18)⟩ (fun fx20 => ?_)
 refine JA.tk 12 rfl fx20 (yl_assign rfl rfl) ?_
 refine JA.done (by kernel_rfl) ?_
 refine Ej.seq (Cj.ret (Ej.bare ?_))
 refine Ej.ret1 rfl rfl rfl ?_
 exact ⟨rfl, rfl⟩
theorem isNaNS_ok (s : List UInt8) (I : Heap) : Ctr Tryz.prog 263 [str s] I [] (fun e I' H' => e = .returned (.bool false) ∧ I' = I ∧ H' = []) := by
 refine Ctr.ob func263 ?_
 intro w0 hw0
 refine Cj.sr (J.as ?_)
 refine J.nssr (J.z q2 ?_)
 refine J.z q2 ?_
 refine J.z (yl_neqStr rfl rfl rfl) ?_
 refine J.as ?_
 refine J.ns (Cj.ret (Ej.ret1 rfl rfl rfl ?_))
 exact ⟨by rw [bne_self_eq_false], rfl, rfl⟩
theorem compareS_ok (a b : List UInt8) (I : Heap) : Ctr Tryz.prog 221 [str a, str b] I [] (fun e I' H' => e = .returned (i64 (cmpS a b)) ∧ I' = I ∧ H' = []) := by
 refine Ctr.ob func221 ?_
 intro w0 hw0
 refine Cj.sr (J.as ?_)
 refine J.nssr (J.z q2 ?_)
 refine J.op rfl (op_call (H1 := []) rfl rfl rfl rfl rfl (isNaNS_ok a _) ?_ (fun _ _ _ _ h => by cases h.1) (fun _ _ h => by cases h.1))
 intro v1 I2 H3 hle4 hp5
 obtain ⟨h, rfl, rfl⟩ := hp5; cases h
 refine J.as ?_
 refine J.nssr (J.z q2 ?_)
 refine J.op rfl (op_call (H1 := []) rfl rfl rfl rfl rfl (isNaNS_ok b _) ?_ (fun _ _ _ _ h => by cases h.1) (fun _ _ h => by cases h.1))
 intro v6 I7 H8 hle9 hp10
 obtain ⟨h, rfl, rfl⟩ := hp10; cases h
 refine J.as ?_
 refine J.nsss (Cj.region (J.z q2 ?_))
 refine J.c0 (fun hc11 => ?_)
 refine Cj.skip (Ej.seq (Cj.seq (Cj.sr (J.z q2 ?_))))
 refine J.c0 (fun hc12 => ?_)
 refine Cj.skip (Ej.seq (Cj.seq (Cj.sr (J.z q2 ?_))))
 refine J.z q2 ?_
 refine J.z (yl_lssStr rfl rfl rfl) ?_
 refine J.cd (fun hc13 => ?_) (fun hc13 => ?_)
 ·
  have hc16p := of_decide_eq_true hc13
  refine Cj.sr (J.as ?_)
  refine J.ns (Cj.ret (Ej.seqRet (Ej.ret1 rfl rfl rfl ?_)))
  rw [cmpS, if_pos hc16p]
  exact ⟨rfl, rfl, rfl⟩
 have hc16p := of_decide_eq_false hc13
 refine Cj.skip (Ej.seq (Cj.seq (Cj.sr (J.z q2 ?_))))
 refine J.z q2 ?_
 refine J.z (yl_gtrStr rfl rfl rfl) ?_
 refine J.cd (fun hc14 => ?_) (fun hc14 => ?_)
 ·
  refine Cj.sr (J.as ?_)
  refine J.ns (Cj.ret (Ej.seqRet (Ej.ret1 rfl rfl rfl ?_)))
  rw [cmpS, if_neg hc16p, if_pos (by have h := str_gt hc16p hc14; simpa using h)]
  exact ⟨rfl, rfl, rfl⟩
 refine Cj.skip (Ej.seq (Cj.sr (J.as ?_)))
 refine J.ns (Cj.ret (Ej.ret1 rfl rfl rfl ?_))
 rw [cmpS, if_neg hc16p, if_neg (by have h := str_gt hc16p hc14; simpa using h)]
 exact ⟨rfl, rfl, rfl⟩
theorem scan1D_ok (a b : List UInt8) (n m : Int) (I : Heap) : Ctr Tryz.prog 220 [.agg #[str a, i64 n], .agg #[str b, i64 m]] I [] (fun e _ H' => e = .returned (i64 (cmpS a b)) ∧ H' = []) := by
 refine Ctr.ob func220 ?_
 intro w0 hw0
 refine Cj.sr (J.op rfl (op_box rfl rfl rfl rfl rfl ?_))
 intro b1 hb1
 refine J.op rfl (op_box rfl rfl rfl rfl rfl ?_)
 intro b2 hb2
 refine J.as ?_
 refine J.nssr (J.z (q1 (off' := 0) underlying268 sizeOf9) ?_)
 refine J.z (yl_load rfl rfl isAgg9 (Blk.at 1 rfl) rfl) ?_
 refine J.z (q1 (off' := 0) underlying268 sizeOf9) ?_
 refine J.z (yl_load rfl rfl isAgg9 (Blk.at 0 rfl) rfl) ?_
 refine J.op rfl (op_call (H1 := []) rfl rfl rfl rfl rfl (compareS_ok a b _) ?_ (fun _ _ _ _ h => by cases h.1) (fun _ _ h => by cases h.1))
 intro v3 I4 H5 hle6 hp7
 obtain ⟨h, rfl, rfl⟩ := hp7; cases h
 refine J.as ?_
 refine J.ns (Cj.ret (Ej.bare ?_))
 refine Ej.ret1 rfl rfl rfl ?_
 exact ⟨rfl, rfl⟩
theorem compareR_ok (x0 x1 y0 y1 : Int) (w : World) : Calls Tryz.prog 78 #[.agg #[i64 x0, i64 x1], .agg #[i64 y0, i64 y1]] w fun e w' => e = .returned (i64 (orR (Lib.compareInt x0 y0) (Lib.compareInt x1 y1))) ∧ ∃ q os', w' = Sort.grow (w.drewN q) os' :=
  Ctr.grows (compareD_ok x0 x1 y0 y1 _) (fun _ _ _ h => h.1) w
theorem scan1_ok (a b : List UInt8) (n m : Int) (w : World) : Calls Tryz.prog 220 #[.agg #[str a, i64 n], .agg #[str b, i64 m]] w fun e w' => e = .returned (i64 (cmpS a b)) ∧ ∃ q os', w' = Sort.grow (w.drewN q) os' :=
  Ctr.grows (scan1D_ok a b n m _) (fun _ _ _ h => h.1) w
end Go.Proofs.YtekmeaoblpfnpaaGreatDoor
end
section
namespace Go.Proofs
open _root_.Go.Proofs.Tryz
open Go.Shelf
def Tryz.sortF_ren : Go.Shelf.Ren := ⟨fun | 6 => 77 | 15 => 108 | 14 => 134 | 28 => 170 | 29 => 171 | 20 => 185 | 21 => 186 | 22 => 187 | 23 => 188 | 24 => 189 | 25 => 190 | 26 => 191 | 27 => 192 | 46 => 235 | 47 => 224 | 48 => 225 | 49 => 236 | 50 => 237 | 57 => 267 | n => n, fun | 22 => 36 | 24 => 54 | 25 => 149 | 3 => 3 | 39 => 188 | 0 => 0 | 53 => 238 | 55 => 240 | 4 => 4 | 46 => 232 | 45 => 231 | 50 => 168 | 5 => 5 | 9 => 9 | 66 => 272 | 70 => 276 | 76 => 324 | 77 => 325 | n => n, fun | n => n⟩
theorem Tryz.sortF : Go.Proofs.SlLaysF0.n6 Tryz.prog Tryz.sortF_ren := {
  mixed := by kernel_rfl
  f6 := ⟨Tryz.f77.name, by decide, func77.trans (congrArg some (by kernel_rfl))⟩
  f14 := ⟨Tryz.f134.name, by decide, func134.trans (congrArg some (by kernel_rfl))⟩
  f15 := func108.trans (congrArg some (by kernel_rfl))
  f20 := ⟨Tryz.f185.name, by decide, func185.trans (congrArg some (by kernel_rfl))⟩
  f21 := ⟨Tryz.f186.name, by decide, func186.trans (congrArg some (by kernel_rfl))⟩
  f22 := ⟨Tryz.f187.name, by decide, func187.trans (congrArg some (by kernel_rfl))⟩
  f23 := ⟨Tryz.f188.name, by decide, func188.trans (congrArg some (by kernel_rfl))⟩
  f24 := ⟨Tryz.f189.name, by decide, func189.trans (congrArg some (by kernel_rfl))⟩
  f25 := ⟨Tryz.f190.name, by decide, func190.trans (congrArg some (by kernel_rfl))⟩
  f26 := ⟨Tryz.f191.name, by decide, func191.trans (congrArg some (by kernel_rfl))⟩
  f27 := ⟨Tryz.f192.name, by decide, func192.trans (congrArg some (by kernel_rfl))⟩
  f28 := func170.trans (congrArg some (by kernel_rfl))
  f29 := func171.trans (congrArg some (by kernel_rfl))
  f46 := ⟨Tryz.f235.name, by decide, func235.trans (congrArg some (by kernel_rfl))⟩
  f47 := func224.trans (congrArg some (by kernel_rfl))
  f48 := func225.trans (congrArg some (by kernel_rfl))
  f49 := ⟨Tryz.f236.name, by decide, func236.trans (congrArg some (by kernel_rfl))⟩
  f50 := ⟨Tryz.f237.name, by decide, func237.trans (congrArg some (by kernel_rfl))⟩
  f57 := ⟨Tryz.f267.name, by decide, func267.trans (congrArg some (by kernel_rfl))⟩
  t0 := underlying0
  a0 := isAgg0
  z0 := sizeOf0
  v0 := zeroValue0
  t3 := underlying3
  a3 := isAgg3
  z3 := sizeOf3
  v3 := zeroValue3
  t4 := underlying4
  a4 := isAgg4
  z4 := sizeOf4
  v4 := zeroValue4
  t5 := underlying5
  a5 := isAgg5
  z5 := sizeOf5
  v5 := zeroValue5
  t9 := underlying9
  a9 := isAgg9
  z9 := sizeOf9
  v9 := zeroValue9
  t22 := underlying36
  a22 := isAgg36
  z22 := sizeOf36
  v22 := zeroValue36
  t25 := underlying149
  a25 := isAgg149
  z25 := sizeOf149
  v25 := zeroValue149
  t39 := underlying188
  a39 := isAgg188
  z39 := sizeOf188
  v39 := zeroValue188
  t45 := underlying231
  a45 := isAgg231
  z45 := sizeOf231
  v45 := zeroValue231
  t46 := underlying232
  a46 := isAgg232
  z46 := sizeOf232
  v46 := zeroValue232
  t50 := underlying168
  a50 := isAgg168
  z50 := sizeOf168
  v50 := zeroValue168
  t53 := underlying238
  a53 := isAgg238
  z53 := sizeOf238
  v53 := zeroValue238
  t55 := underlying240
  a55 := isAgg240
  z55 := sizeOf240
  v55 := zeroValue240
  t66 := underlying272
  a66 := isAgg272
  z66 := sizeOf272
  v66 := zeroValue272
  t70 := underlying276
  a70 := isAgg276
  z70 := sizeOf276
  v70 := zeroValue276
  t76 := underlying324
  a76 := isAgg324
  z76 := sizeOf324
  v76 := zeroValue324
  t77 := underlying325
  a77 := isAgg325
  z77 := sizeOf325
  v77 := zeroValue325 }
def Tryz.sortL_ren : Go.Shelf.Ren := ⟨fun | 6 => 219 | 15 => 108 | 14 => 262 | 28 => 170 | 29 => 171 | 20 => 290 | 21 => 291 | 22 => 292 | 23 => 293 | 24 => 294 | 25 => 295 | 26 => 296 | 27 => 297 | 46 => 312 | 47 => 224 | 48 => 225 | 49 => 313 | 50 => 314 | 57 => 329 | n => n, fun | 22 => 228 | 24 => 268 | 25 => 270 | 3 => 3 | 39 => 188 | 0 => 0 | 53 => 238 | 55 => 240 | 4 => 4 | 46 => 232 | 45 => 231 | 50 => 168 | 5 => 5 | 9 => 9 | 66 => 272 | 70 => 276 | 76 => 324 | 77 => 325 | n => n, fun | n => n⟩
theorem Tryz.sortL : Go.Proofs.SlLaysF0.n6 Tryz.prog Tryz.sortL_ren := {
  mixed := by kernel_rfl
  f6 := ⟨Tryz.f219.name, by decide, func219.trans (congrArg some (by kernel_rfl))⟩
  f14 := ⟨Tryz.f262.name, by decide, func262.trans (congrArg some (by kernel_rfl))⟩
  f15 := func108.trans (congrArg some (by kernel_rfl))
  f20 := ⟨Tryz.f290.name, by decide, func290.trans (congrArg some (by kernel_rfl))⟩
  f21 := ⟨Tryz.f291.name, by decide, func291.trans (congrArg some (by kernel_rfl))⟩
  f22 := ⟨Tryz.f292.name, by decide, func292.trans (congrArg some (by kernel_rfl))⟩
  f23 := ⟨Tryz.f293.name, by decide, func293.trans (congrArg some (by kernel_rfl))⟩
  f24 := ⟨Tryz.f294.name, by decide, func294.trans (congrArg some (by kernel_rfl))⟩
  f25 := ⟨Tryz.f295.name, by decide, func295.trans (congrArg some (by kernel_rfl))⟩
  f26 := ⟨Tryz.f296.name, by decide, func296.trans (congrArg some (by kernel_rfl))⟩
  f27 := ⟨Tryz.f297.name, by decide, func297.trans (congrArg some (by kernel_rfl))⟩
  f28 := func170.trans (congrArg some (by kernel_rfl))
  f29 := func171.trans (congrArg some (by kernel_rfl))
  f46 := ⟨Tryz.f312.name, by decide, func312.trans (congrArg some (by kernel_rfl))⟩
  f47 := func224.trans (congrArg some (by kernel_rfl))
  f48 := func225.trans (congrArg some (by kernel_rfl))
  f49 := ⟨Tryz.f313.name, by decide, func313.trans (congrArg some (by kernel_rfl))⟩
  f50 := ⟨Tryz.f314.name, by decide, func314.trans (congrArg some (by kernel_rfl))⟩
  f57 := ⟨Tryz.f329.name, by decide, func329.trans (congrArg some (by kernel_rfl))⟩
  t0 := underlying0
  a0 := isAgg0
  z0 := sizeOf0
  v0 := zeroValue0
  t3 := underlying3
  a3 := isAgg3
  z3 := sizeOf3
  v3 := zeroValue3
  t4 := underlying4
  a4 := isAgg4
  z4 := sizeOf4
  v4 := zeroValue4
  t5 := underlying5
  a5 := isAgg5
  z5 := sizeOf5
  v5 := zeroValue5
  t9 := underlying9
  a9 := isAgg9
  z9 := sizeOf9
  v9 := zeroValue9
  t22 := underlying228
  a22 := isAgg228
  z22 := sizeOf228
  v22 := zeroValue228
  t25 := underlying270
  a25 := isAgg270
  z25 := sizeOf270
  v25 := zeroValue270
  t39 := underlying188
  a39 := isAgg188
  z39 := sizeOf188
  v39 := zeroValue188
  t45 := underlying231
  a45 := isAgg231
  z45 := sizeOf231
  v45 := zeroValue231
  t46 := underlying232
  a46 := isAgg232
  z46 := sizeOf232
  v46 := zeroValue232
  t50 := underlying168
  a50 := isAgg168
  z50 := sizeOf168
  v50 := zeroValue168
  t53 := underlying238
  a53 := isAgg238
  z53 := sizeOf238
  v53 := zeroValue238
  t55 := underlying240
  a55 := isAgg240
  z55 := sizeOf240
  v55 := zeroValue240
  t66 := underlying272
  a66 := isAgg272
  z66 := sizeOf272
  v66 := zeroValue272
  t70 := underlying276
  a70 := isAgg276
  z70 := sizeOf276
  v70 := zeroValue276
  t76 := underlying324
  a76 := isAgg324
  z76 := sizeOf324
  v76 := zeroValue324
  t77 := underlying325
  a77 := isAgg325
  z77 := sizeOf325
  v77 := zeroValue325 }
def Tryz.sortR_ren : Go.Shelf.Ren := ⟨fun | 6 => 55 | 15 => 108 | 14 => 107 | 28 => 170 | 29 => 171 | 20 => 162 | 21 => 163 | 22 => 164 | 23 => 165 | 24 => 166 | 25 => 167 | 26 => 168 | 27 => 169 | 46 => 223 | 47 => 224 | 48 => 225 | 49 => 226 | 50 => 227 | 57 => 264 | n => n, fun | 22 => 118 | 24 => 123 | 25 => 128 | 3 => 3 | 39 => 188 | 0 => 0 | 53 => 238 | 55 => 240 | 4 => 4 | 46 => 232 | 45 => 231 | 50 => 168 | 5 => 5 | 9 => 9 | 66 => 272 | 70 => 276 | 76 => 324 | 77 => 325 | n => n, fun | n => n⟩
theorem Tryz.sortR : Go.Proofs.SlLaysF0.n6 Tryz.prog Tryz.sortR_ren := {
  mixed := by kernel_rfl
  f6 := ⟨Tryz.f55.name, by decide, func55.trans (congrArg some (by kernel_rfl))⟩
  f14 := ⟨Tryz.f107.name, by decide, func107.trans (congrArg some (by kernel_rfl))⟩
  f15 := func108.trans (congrArg some (by kernel_rfl))
  f20 := ⟨Tryz.f162.name, by decide, func162.trans (congrArg some (by kernel_rfl))⟩
  f21 := ⟨Tryz.f163.name, by decide, func163.trans (congrArg some (by kernel_rfl))⟩
  f22 := ⟨Tryz.f164.name, by decide, func164.trans (congrArg some (by kernel_rfl))⟩
  f23 := ⟨Tryz.f165.name, by decide, func165.trans (congrArg some (by kernel_rfl))⟩
  f24 := ⟨Tryz.f166.name, by decide, func166.trans (congrArg some (by kernel_rfl))⟩
  f25 := ⟨Tryz.f167.name, by decide, func167.trans (congrArg some (by kernel_rfl))⟩
  f26 := ⟨Tryz.f168.name, by decide, func168.trans (congrArg some (by kernel_rfl))⟩
  f27 := ⟨Tryz.f169.name, by decide, func169.trans (congrArg some (by kernel_rfl))⟩
  f28 := func170.trans (congrArg some (by kernel_rfl))
  f29 := func171.trans (congrArg some (by kernel_rfl))
  f46 := ⟨Tryz.f223.name, by decide, func223.trans (congrArg some (by kernel_rfl))⟩
  f47 := func224.trans (congrArg some (by kernel_rfl))
  f48 := func225.trans (congrArg some (by kernel_rfl))
  f49 := ⟨Tryz.f226.name, by decide, func226.trans (congrArg some (by kernel_rfl))⟩
  f50 := ⟨Tryz.f227.name, by decide, func227.trans (congrArg some (by kernel_rfl))⟩
  f57 := ⟨Tryz.f264.name, by decide, func264.trans (congrArg some (by kernel_rfl))⟩
  t0 := underlying0
  a0 := isAgg0
  z0 := sizeOf0
  v0 := zeroValue0
  t3 := underlying3
  a3 := isAgg3
  z3 := sizeOf3
  v3 := zeroValue3
  t4 := underlying4
  a4 := isAgg4
  z4 := sizeOf4
  v4 := zeroValue4
  t5 := underlying5
  a5 := isAgg5
  z5 := sizeOf5
  v5 := zeroValue5
  t9 := underlying9
  a9 := isAgg9
  z9 := sizeOf9
  v9 := zeroValue9
  t22 := underlying118
  a22 := isAgg118
  z22 := sizeOf118
  v22 := zeroValue118
  t25 := underlying128
  a25 := isAgg128
  z25 := sizeOf128
  v25 := zeroValue128
  t39 := underlying188
  a39 := isAgg188
  z39 := sizeOf188
  v39 := zeroValue188
  t45 := underlying231
  a45 := isAgg231
  z45 := sizeOf231
  v45 := zeroValue231
  t46 := underlying232
  a46 := isAgg232
  z46 := sizeOf232
  v46 := zeroValue232
  t50 := underlying168
  a50 := isAgg168
  z50 := sizeOf168
  v50 := zeroValue168
  t53 := underlying238
  a53 := isAgg238
  z53 := sizeOf238
  v53 := zeroValue238
  t55 := underlying240
  a55 := isAgg240
  z55 := sizeOf240
  v55 := zeroValue240
  t66 := underlying272
  a66 := isAgg272
  z66 := sizeOf272
  v66 := zeroValue272
  t70 := underlying276
  a70 := isAgg276
  z70 := sizeOf276
  v70 := zeroValue276
  t76 := underlying324
  a76 := isAgg324
  z76 := sizeOf324
  v76 := zeroValue324
  t77 := underlying325
  a77 := isAgg325
  z77 := sizeOf325
  v77 := zeroValue325 }
end Go.Proofs
end
section
namespace Go.Sx
open Go Go.Sort Go.Proofs
theorem row_holdsV {w : World} {b : Nat} {T : TypeId} {vs sp : List Value} (h : w.heap[b]? = some (cel T (vs ++ sp))) : Holds id w b 0 vs.toArray := fun j hj => by
  have hj' : j < vs.length := by simpa using hj
  have h1 : (vs ++ sp)[j]? = some vs[j] := by rw [List.getElem?_append_left hj']; exact List.getElem?_eq_getElem hj'
  have h2 : vs.toArray[j]! = vs[j] := by rw [getElem!_pos _ j hj]; simp
  refine ⟨?_, ?_⟩
  · rw [h2]
    simp only [World.cell?, h, cel, Nat.zero_add]
    simpa using h1
  simp only [World.frozen?, h, cel]; simp
theorem row_putV {vs vs' sp : List Value} (hl : vs'.length = vs.length) : putCells id 0 vs'.toArray (vs ++ sp).toArray = (vs' ++ sp).toArray := by
  apply Array.ext_getElem?
  intro k
  simp only [putCells, Array.getElem?_mapIdx, List.getElem?_toArray, List.size_toArray, Nat.zero_le, true_and, Nat.zero_add, Nat.sub_zero]
  rcases Nat.lt_or_ge k vs.length with h | h
  · have h1 : (vs ++ sp)[k]? = some vs[k] := by rw [List.getElem?_append_left h]; exact List.getElem?_eq_getElem h
    have h2 : (vs' ++ sp)[k]? = some (vs'[k]'(by omega)) := by rw [List.getElem?_append_left (by omega)]; exact List.getElem?_eq_getElem _
    have h3 : vs'.toArray[k]! = vs'[k]'(by omega) := by rw [getElem!_pos _ k (by simpa using (by omega : k < vs'.length))]; simp
    rw [h1, h2, Option.map_some, if_pos (by omega), h3]
    rfl
  rw [List.getElem?_append_right h, List.getElem?_append_right (by omega), hl]
  cases sp[k - vs.length]? with
  | none => rfl
  | some v => rw [Option.map_some, if_neg (by omega)]
theorem St.rowV {w : World} {I : Heap} {b : Nat} {T : TypeId} {vs vs' sp : List Value} (n : Nat) (os : Array Obj) (hr : Ready I [(b, cel T (vs ++ sp))] w) (hl : vs'.length = vs.length) :
    St w [b] I I [(b, cel T (vs' ++ sp))] (grow (putRow id (Sort.ahead w n) b 0 vs'.toArray) os) := by
  obtain ⟨r1, r2, r3, r4⟩ := hr
  have hb := r2 _ (List.mem_singleton.2 rfl)
  have hlt : ∀ {c : Nat} {o' : Obj}, w.heap[c]? = some o' → c < w.heap.size := fun {c o'} hc => by
    rcases Nat.lt_or_ge c w.heap.size with h' | h'
    · exact h'
    simp [Array.getElem?_eq_none h'] at hc
  have hsz : (putRow id (Sort.ahead w n) b 0 vs'.toArray).heap.size = w.heap.size := by simp [putRow, mapBlock, Sort.ahead]
  have hother : ∀ c, c < w.heap.size → c ≠ b → (grow (putRow id (Sort.ahead w n) b 0 vs'.toArray) os).heap[c]? = w.heap[c]? := fun c hc hne => by
    simp only [grow]
    rw [Array.getElem?_append_left (by omega)]
    simp only [putRow, mapBlock, Sort.ahead, Array.getElem?_modify, if_neg (Ne.symm hne)]
  have hown : (grow (putRow id (Sort.ahead w n) b 0 vs'.toArray) os).heap[b]? = some (cel T (vs' ++ sp)) := by
    have hbl := hlt hb
    simp only [grow]
    rw [Array.getElem?_append_left (by omega)]
    simp only [putRow, mapBlock, Sort.ahead, Array.getElem?_modify, if_true]
    rw [hb]
    simp only [Option.map_some, onCells, cel]
    rw [row_putV hl]
  refine ⟨rfl, rfl, rfl, ?_, ?_, ?_, ?_, by simp, ?_, ?_, fun _ _ => rfl, Le.refl _, noDr⟩
  · simp only [grow, Array.size_append]; omega
  · intro c hc hd
    exact hother c hc (by simpa using hd)
  · intro c o hc
    have h1 := r1 c o hc
    refine (hother c (hlt h1) ?_).trans h1
    rintro rfl
    have := r4 _ (List.mem_singleton.2 rfl)
    rw [this] at hc; cases hc
  · intro p hp
    rw [List.mem_singleton.1 hp]; exact hown
  · intro p hp
    rw [List.mem_singleton.1 hp]; exact r4 (b, cel T (vs ++ sp)) (List.mem_singleton.2 rfl)
  intro p hp
  rw [List.mem_singleton.1 hp]; exact .inl (.head _)
section
variable {α : Type} [Inhabited α] {enc : α → List Value} {k : Nat}
theorem flatK_list (hk : ∀ x, (enc x).length = k) (l : List α) : flatK enc k l.toArray = (l.flatMap enc).toArray := by
  refine ext_get! (by simp [flat_len hk]) fun t ht => ?_
  have ht' : t < l.length * k := by simpa using ht
  have h0 : 0 < k := by
    rcases Nat.eq_zero_or_pos k with e | e
    · subst e; simp at ht'
    exact e
  have hd : t / k < l.length := (Nat.div_lt_iff_lt_mul h0).2 ht'
  have hm : t % k < k := Nat.mod_lt _ h0
  rw [get_flatK _ _ _ _ (by simpa using ht')]
  have h1 : l.toArray[t / k]! = l[t / k] := by rw [getElem!_pos _ _ (by simpa using hd)]; simp
  have h2 : l[t / k]? = some l[t / k] := List.getElem?_eq_getElem hd
  have h3 := row_cell hk (sp := []) h2 (t % k) hm
  rw [List.append_nil, Nat.mul_comm, Nat.div_add_mod] at h3
  have h4 : t < (l.flatMap enc).length := by rw [flat_len hk]; exact ht'
  rw [h1, getElem!_pos _ t (by simpa using h4), List.getElem_toArray, getElem!_pos _ _ (by rw [hk]; exact hm)]
  rw [List.getElem?_eq_getElem h4, List.getElem?_eq_getElem (by rw [hk]; exact hm)] at h3
  exact (Option.some.inj h3).symm
theorem perm_in {l : List α} {d' : Array α} (h : PermIn 0 l.length l.toArray d') : d'.toList.Perm l := by
  obtain ⟨h1, _, h3⟩ := h
  have h4 : d'.size = l.length := by rw [h1]; simp
  rw [← h4] at h3
  simp only [Array.extract_size] at h3
  rw [h4] at h3
  have h5 : l.toArray.extract 0 l.length = l.toArray := by
    have := Array.extract_size (xs := l.toArray)
    rwa [List.size_toArray] at this
  rw [h5] at h3
  simpa using h3
theorem sorted_in {lt : α → α → Bool} {d' : Array α} (h : SortedIn lt 0 d'.size d') : d'.toList.Pairwise fun x y => lt y x = false := by
  rw [List.pairwise_iff_getElem]
  intro i j hi hj hij
  have hi' : i < d'.size := by simpa using hi
  have hj' : j < d'.size := by simpa using hj
  have := h i j (Nat.zero_le _) hij hj'
  rw [getElem!_pos d' i hi', getElem!_pos d' j hj'] at this
  simpa using this
end
end Go.Sx
end
section
namespace Go.Proofs.YtekmeaoblpfnpaaGreatDoor
open Go Go.Shelf Go.RowKit Go.Lib Go.Sort
abbrev recC (x : Ix.Rec) : List Value := [.int .i64 x.1, .int .i64 x.2]
theorem recC_len (x : Ix.Rec) : (recC x).length = 2 := rfl
abbrev lineC (x : List UInt8 × Int) : List Value := [Sx.str x.1, .int .i64 x.2]
theorem lineC_len (x : List UInt8 × Int) : (lineC x).length = 2 := rfl
def cmpRec (x y : Ix.Rec) : Int := orR (compareInt x.1 y.1) (compareInt x.2 y.2)
def cmpLine (x y : List UInt8 × Int) : Int := cmpS x.1 y.1
theorem cmpRec_lt (x y : Ix.Rec) : ltOf cmpRec x y = Ix.lessR x y := by
  rw [Bool.eq_iff_iff, Ix.lessR_iff]
  unfold ltOf cmpRec orR compareInt
  rw [decide_eq_true_eq]
  repeat (first | omega | split)
theorem cmpRec_swo : SWO (ltOf cmpRec) where
  irrefl x := by rw [cmpRec_lt]; exact Ix.lessR_irr x
  trans x y z h1 h2 := by rw [cmpRec_lt] at *; exact Ix.lessR_trans h1 h2
  ntrans x y z h1 h2 := by
    rw [cmpRec_lt, Bool.eq_false_iff, Ne, Ix.lessR_iff] at *
    omega
theorem cmpLine_lt (x y : List UInt8 × Int) : ltOf cmpLine x y = decide (x.1 < y.1) := by
  unfold ltOf cmpLine cmpS
  rw [decide_eq_decide]
  by_cases h : x.1 < y.1
  · rw [if_pos h]; simp [h]
  rw [if_neg h]
  by_cases h2 : y.1 < x.1
  · rw [if_pos h2]; simp [h]
  rw [if_neg h2]; simp [h]
theorem cmpLine_swo : SWO (ltOf cmpLine) where
  irrefl x := by rw [cmpLine_lt]; exact decide_eq_false (List.lt_irrefl _)
  trans x y z h1 h2 := by
    rw [cmpLine_lt] at *
    exact decide_eq_true (List.lt_trans (of_decide_eq_true h1) (of_decide_eq_true h2))
  ntrans x y z h1 h2 := by
    rw [cmpLine_lt] at *
    have g1 := List.not_lt.1 (of_decide_eq_false h1)
    have g2 := List.not_lt.1 (of_decide_eq_false h2)
    exact decide_eq_false (List.not_lt.2 (List.le_trans g2 g1))
theorem SortRec_ok {base : Nat} (l : List Ix.Rec) (g : Sx.Gs) (hg : Sx.gOk base 2 l.length (l.flatMap recC) g) (hl : l.length ≤ 100000000000000) (I : Sx.Heap) : Sx.Ctr Tryz.prog 77 [Sx.gV l.length g, .func (.func 78) #[] #[]] I (Sx.gH 54 (l.flatMap recC) g)
    (fun e _I' H' => ∃ l' : List Ix.Rec, l'.Perm l ∧ l'.Pairwise (fun p q => Ix.lessR q p = false) ∧ e = .returned (.tuple #[]) ∧ H' = Sx.gH 54 (l'.flatMap recC) g) := by
  cases g with
  | none =>
    obtain ⟨h1, h2⟩ := hg
    have h0 : l = [] := List.length_eq_zero_iff.1 h1
    subst h0
    exact (Sx.Pure.of_same (Sx.Enters.of Tryz.func77 (by decide) rfl) (fun w _ => AnyF.slices_SortFunc_none Tryz.sortF none 0 (.func (.func 78) #[] #[]) w)).mono fun e I' H' _ ⟨h1, _, h3⟩ => ⟨[], List.Perm.refl _, List.Pairwise.nil, h1, h3⟩
  | some q =>
    obtain ⟨b, c, sp⟩ := q
    refine ⟨Sx.Enters.of Tryz.func77 (by decide) rfl, fun w hw => ?_⟩
    have hb := hw.2.1 _ (.head _)
    have hlt : b < w.heap.size := by
      rcases Nat.lt_or_ge b w.heap.size with h | h
      · exact h
      rw [Array.getElem?_eq_none h] at hb; cases hb
    have eg : ∀ args w, (callFunc 78 args).run Tryz.prog w = .ok (.enter 78 args) w := enters_of Tryz.func78 (by kernel_rfl) rfl
    have hH : HoldsK recC 2 w b 0 l.toArray := by
      unfold HoldsK
      rw [Sx.flatK_list recC_len]
      exact Sx.row_holdsV hb
    have hcmp : CmpLays Tryz.prog 78 #[] recC 2 cmpRec b 0 l.toArray.size w := fun m os dk _ x y => compareR_ok x.1 x.2 y.1 y.2 _
    have hcon := AnyQ.slices_SortFunc Tryz.sortF 2 Tryz.isAgg54 Tryz.sizeOf54 recC recC_len (fun x v hv => by
      simp only [List.mem_cons, List.not_mem_nil, or_false] at hv
      rcases hv with rfl | rfl <;> rfl) cmpRec cmpRec_swo 78 #[] b 0 c l.toArray w eg hcmp hH hlt (by simp; omega)
    refine hcon.mono fun e w' ⟨h1, d', n, os, h2, h3, h4⟩ => ?_
    rw [List.size_toArray] at h2 h3
    have hp := Sx.perm_in h2
    have hds : d'.size = l.length := by have := hp.length_eq; simpa using this
    rw [← hds] at h3
    refine ⟨I, _, ?_, d'.toList, hp, (Sx.sorted_in h3).imp fun h => ?_, h1, rfl⟩
    · rw [h4]
      unfold sortWorldK putRowK
      rw [show d' = d'.toList.toArray from (Array.toArray_toList (xs := d')).symm, Sx.flatK_list recC_len]
      exact Sx.St.rowV n os hw (by rw [Sx.flat_len recC_len, Sx.flat_len recC_len, hp.length_eq])
    rw [cmpRec_lt] at h
    exact h
theorem SortLine_ok {base : Nat} (l : List (List UInt8 × Int)) (g : Sx.Gs) (hg : Sx.gOk base 2 l.length (l.flatMap lineC) g) (hl : l.length ≤ 100000000000000) (I : Sx.Heap) : Sx.Ctr Tryz.prog 219 [Sx.gV l.length g, .func (.func 220) #[] #[]] I (Sx.gH 268 (l.flatMap lineC) g)
    (fun e _I' H' => ∃ l' : List (List UInt8 × Int), l'.Perm l ∧ l'.Pairwise (fun p q => ¬ q.1 < p.1) ∧ e = .returned (.tuple #[]) ∧ H' = Sx.gH 268 (l'.flatMap lineC) g) := by
  cases g with
  | none =>
    obtain ⟨h1, h2⟩ := hg
    have h0 : l = [] := List.length_eq_zero_iff.1 h1
    subst h0
    exact (Sx.Pure.of_same (Sx.Enters.of Tryz.func219 (by decide) rfl) (fun w _ => AnyF.slices_SortFunc_none Tryz.sortL none 0 (.func (.func 220) #[] #[]) w)).mono fun e I' H' _ ⟨h1, _, h3⟩ => ⟨[], List.Perm.refl _, List.Pairwise.nil, h1, h3⟩
  | some q =>
    obtain ⟨b, c, sp⟩ := q
    refine ⟨Sx.Enters.of Tryz.func219 (by decide) rfl, fun w hw => ?_⟩
    have hb := hw.2.1 _ (.head _)
    have hlt : b < w.heap.size := by
      rcases Nat.lt_or_ge b w.heap.size with h | h
      · exact h
      rw [Array.getElem?_eq_none h] at hb; cases hb
    have eg : ∀ args w, (callFunc 220 args).run Tryz.prog w = .ok (.enter 220 args) w := enters_of Tryz.func220 (by kernel_rfl) rfl
    have hH : HoldsK lineC 2 w b 0 l.toArray := by
      unfold HoldsK
      rw [Sx.flatK_list lineC_len]
      exact Sx.row_holdsV hb
    have hcmp : CmpLays Tryz.prog 220 #[] lineC 2 cmpLine b 0 l.toArray.size w := fun m os dk _ x y => scan1_ok x.1 y.1 x.2 y.2 _
    have hcon := AnyQ.slices_SortFunc Tryz.sortL 2 Tryz.isAgg268 Tryz.sizeOf268 lineC lineC_len (fun x v hv => by
      simp only [List.mem_cons, List.not_mem_nil, or_false] at hv
      rcases hv with rfl | rfl <;> rfl) cmpLine cmpLine_swo 220 #[] b 0 c l.toArray w eg hcmp hH hlt (by simp; omega)
    refine hcon.mono fun e w' ⟨h1, d', n, os, h2, h3, h4⟩ => ?_
    rw [List.size_toArray] at h2 h3
    have hp := Sx.perm_in h2
    have hds : d'.size = l.length := by have := hp.length_eq; simpa using this
    rw [← hds] at h3
    refine ⟨I, _, ?_, d'.toList, hp, (Sx.sorted_in h3).imp fun h => ?_, h1, rfl⟩
    · rw [h4]
      unfold sortWorldK putRowK
      rw [show d' = d'.toList.toArray from (Array.toArray_toList (xs := d')).symm, Sx.flatK_list lineC_len]
      exact Sx.St.rowV n os hw (by rw [Sx.flat_len lineC_len, Sx.flat_len lineC_len, hp.length_eq])
    rw [cmpLine_lt] at h
    exact of_decide_eq_false h
end Go.Proofs.YtekmeaoblpfnpaaGreatDoor
end
section
set_option maxHeartbeats 40000000
namespace Go.Proofs.YtekmeaoblpfnpaaGreatDoor
open _root_.Go.Proofs.Tryz
open Go Go.Sx
def ixH (ib : Nat) : Option Ist → HL
  | none => [(ib, cel 114 [.map none, .map none, .map none])]
  | some s => istH ib s
def IxOk (I : Heap) : Option Ist → Ix.Ix → Prop
  | none, L => L = []
  | some s, L => IstOk I s L
theorem IxOk.mono {I I' : Heap} {o : Option Ist} {L : Ix.Ix} (h : IxOk I o L) (hle : Le I I') : IxOk I' o L := by
  cases o with
  | none => exact h
  | some s => exact IstOk.mono h hle
theorem IxOk.srt {I : Heap} {o : Option Ist} {L : Ix.Ix} (h : IxOk I o L) : Ix.Srt L := by
  cases o with
  | none => rw [show L = [] from h]; exact List.Pairwise.nil
  | some s => exact IstOk.srt h
theorem IxOk.big {I : Heap} {o : Option Ist} {L : Ix.Ix} (h : IxOk I o L) : L.length ≤ 100000 := by
  cases o with
  | none => rw [show L = [] from h]; exact Nat.zero_le _
  | some s => exact IstOk.big h
theorem Put_ok (ib : Nat) (o : Option Ist) (L : Ix.Ix) (e0 : Ent) (I : Heap) (hok : IxOk I o L) (hbig : L.length < 100000) (hek : EOK e0.fs) (hrec : RecS I e0.fs e0.v) : Ctr Tryz.prog 50 [ptr ib 0, .agg (entC e0).toArray] I (ixH ib o)
    (fun e I' H' => ∃ o', e = .returned (.tuple #[]) ∧ IxOk I' o' (Ix.rput e0.t (Ix.vals e0.fs) L) ∧ H' = ixH ib o') := by
  cases o with
  | none =>
    have hL : L = [] := hok
    subst hL
    exact (Put_none ib e0 I hek hrec).mono fun e I' H' _ ⟨s', h1, h2, h3⟩ => ⟨some s', h1, h2, h3⟩
  | some s => exact (Put_some ib s L e0 I hok hbig hek hrec).mono fun e I' H' _ ⟨s', h1, h2, h3⟩ => ⟨some s', h1, h2, h3⟩
theorem Drop_ok (ib : Nat) (o : Option Ist) (L : Ix.Ix) (t : Ix.Rec) (I : Heap) (hok : IxOk I o L) : Ctr Tryz.prog 43 [ptr ib 0, kvR t] I (ixH ib o)
    (fun e I' H' => ∃ o', e = .returned (.tuple #[]) ∧ IxOk I' o' (Ix.rdrop t L) ∧ H' = ixH ib o') := by
  cases o with
  | none =>
    have hL : L = [] := hok
    subst hL
    exact (Drop_none ib t I).mono fun e I' H' _ ⟨h1, h3⟩ => ⟨none, h1, rfl, h3⟩
  | some s => exact (Drop_some ib s L t I hok).mono fun e I' H' _ ⟨s', h1, h2, h3⟩ => ⟨some s', h1, h2, h3⟩
def IxP (I : Heap) (ib : Nat) (L : Ix.Ix) : Prop := ∃ o, IxOk I o L ∧ ∀ p ∈ ixH ib o, I p.1 = some p.2
theorem IxP.mono {I I' : Heap} {ib : Nat} {L : Ix.Ix} (h : IxP I ib L) (hle : Le I I') : IxP I' ib L := let ⟨o, h1, h2⟩ := h; ⟨o, h1.mono hle, fun p hp => hle _ _ (h2 p hp)⟩
theorem IxP.srt {I : Heap} {ib : Nat} {L : Ix.Ix} (h : IxP I ib L) : Ix.Srt L := let ⟨_, h1, _⟩ := h; h1.srt
theorem IxP.big {I : Heap} {ib : Nat} {L : Ix.Ix} (h : IxP I ib L) : L.length ≤ 100000 := let ⟨_, h1, _⟩ := h; h1.big
def SetP (I : Heap) (mv : Option Nat) (f : Ix.Pl → Ix.Rec → Nat) : Prop := (mv = none ∧ ∀ p t, f p t = 0) ∨ ∃ b l c N, mv = some b ∧ NestS l c N f ∧ ∀ q ∈ setH b l c N, I q.1 = some q.2
theorem SetP.mono {I I' : Heap} {mv : Option Nat} {f : Ix.Pl → Ix.Rec → Nat} (h : SetP I mv f) (hle : Le I I') : SetP I' mv f := by
  rcases h with h | ⟨b, l, c, N, h1, h2, h3⟩
  · exact .inl h
  exact .inr ⟨b, l, c, N, h1, h2, fun q hq => hle _ _ (h3 q hq)⟩
def ValP (I : Heap) (mv : Option Nat) (L : Ix.Ix) : Prop := (mv = none ∧ L = []) ∨ ∃ b l c, mv = some b ∧ MS l c ∧ ValMap I l L ∧ I b = some (mobj kvR l c)
theorem ValP.mono {I I' : Heap} {mv : Option Nat} {L : Ix.Ix} (h : ValP I mv L) (hle : Le I I') : ValP I' mv L := by
  rcases h with h | ⟨b, l, c, h1, h2, h3, h4⟩
  · exact .inl h
  exact .inr ⟨b, l, c, h1, h2, h3.mono hle, hle _ _ h4⟩
theorem IxP.parts {I : Heap} {ib : Nat} {L : Ix.Ix} (h : IxP I ib L) : ∃ vm wm km, I ib = some (cel 114 [.map vm, .map wm, .map km]) ∧ ValP I vm L ∧ SetP I wm (Ix.cnt Ix.plW L) ∧ SetP I km (Ix.cnt Ix.plK L) := by
  obtain ⟨o, h1, h2⟩ := h
  cases o with
  | none =>
    have hL : L = [] := h1
    subst hL
    exact ⟨none, none, none, h2 _ (.head _), .inl ⟨rfl, rfl⟩, .inl ⟨rfl, fun _ _ => rfl⟩, .inl ⟨rfl, fun _ _ => rfl⟩⟩
  | some s =>
    have hs : IstOk I s L := h1
    refine ⟨some s.vb, some s.wb, some s.kb, h2 (ib, _) (.tail _ (.head _)), .inr ⟨s.vb, s.lv, s.cv, rfl, hs.vms, hs.vals, h2 (s.vb, _) (.head _)⟩, .inr ⟨s.wb, s.lw, s.cw, s.Nw, rfl, hs.nw, fun q hq => h2 q ?_⟩, .inr ⟨s.kb, s.lk, s.ck, s.Nk, rfl, hs.nk, fun q hq => h2 q ?_⟩⟩
    · exact .tail _ (.tail _ (List.mem_append_left _ hq))
    exact .tail _ (.tail _ (List.mem_append_right _ hq))
theorem sub_lenG {α : Type} [BEq α] [LawfulBEq α] {l m : List α} (hl : l.Nodup) (h : ∀ x ∈ l, x ∈ m) : l.length ≤ m.length := by
  induction l generalizing m with
  | nil => simp
  | cons a r ih =>
    rw [List.nodup_cons] at hl
    have hm := h a (.head _)
    have := ih (m := m.erase a) hl.2 fun x hx => by
      have hne : x ≠ a := fun e => hl.1 (e ▸ hx)
      exact (List.mem_erase_of_ne hne).2 (h x (.tail _ hx))
    rw [List.length_erase_of_mem hm] at this
    have h0 : 0 < m.length := List.length_pos_of_mem hm
    rw [List.length_cons]; omega
theorem pair_le {L : Ix.Ix} {m : ML Ix.Rec} {k : Nat} {f : Ix.Rec → Nat} (hm : MS m k) (hv : ∀ t, mget m t = cv (f t)) (_hs : Ix.Srt L) (hf : ∀ t, f t ≠ 0 → ∃ e ∈ L, e.1 = t) : m.length ≤ L.length := by
  have h1 : (m.map (·.1)).length ≤ (L.map (·.1)).length := by
    refine sub_lenG hm.1 fun t ht => ?_
    have h2 : mget m t ≠ none := fun h => mget_none.1 h ht
    rw [hv] at h2
    have h3 : f t ≠ 0 := fun h => h2 (by rw [h]; rfl)
    obtain ⟨e, he, rfl⟩ := hf t h3
    exact List.mem_map_of_mem he
  rw [List.length_map, List.length_map] at h1
  exact h1
structure TA where
  vis : ML Ix.Rec
  rest : ML Ix.Rec
  g : Gs
theorem titles_end {m : ML Ix.Rec} {k : Nat} {f : Ix.Rec → Nat} (hm : MS m k) (hv : ∀ t, mget m t = cv (f t)) {vis : ML Ix.Rec} (hp : vis.Perm m) {l' : List Ix.Rec} (hpl : l'.Perm (vis.map Prod.fst)) (ho : l'.Pairwise fun p q => Ix.lessR q p = false) : (l'.Pairwise fun a b => Ix.lessR a b = true) ∧ ∀ t, t ∈ l' ↔ f t ≠ 0 := by
  have hnd : l'.Nodup := hpl.nodup_iff.2 ((hp.map _).nodup_iff.2 hm.1)
  refine ⟨?_, fun t => ?_⟩
  · refine (List.pairwise_and_iff.2 ⟨ho, List.nodup_iff_pairwise_ne.1 hnd⟩).imp fun {a b} ⟨h1, h2⟩ => ?_
    rcases Ix.lessR_tri a b with h | h | h
    · exact h
    · exact absurd h h2
    rw [h] at h1; cases h1
  rw [hpl.mem_iff, (hp.map _).mem_iff]
  constructor
  · intro h
    have h2 : mget m t ≠ none := fun g => mget_none.1 g h
    rw [hv] at h2
    exact fun g => h2 (by rw [g]; rfl)
  intro h
  refine Classical.byContradiction fun g => ?_
  have := mget_none.2 g
  rw [hv, cv_pos h] at this; cases this
theorem len_map (vis : ML Ix.Rec) (g : Gs) : gV (vis.map Prod.fst).length g = gV vis.length g := by rw [List.length_map]
theorem gOk_zero {base sz n : Nat} {xs : List Value} {g : Gs} (h : gOk base sz n xs g) : gOk 0 sz n xs g := by
  cases g with
  | none => exact h
  | some q => exact ⟨Nat.zero_le _, h.2⟩
theorem gOk_re {base : Nat} {l l' : List Ix.Rec} {g : Gs} (h : gOk base 2 l.length (l.flatMap recC) g) (he : l'.length = l.length) : gOk base 2 l'.length (l'.flatMap recC) g := by
  rw [he]
  exact gOk_len h (by rw [flat_len recC_len, flat_len recC_len, he])
theorem titles_hit (b : Nat) (l : ML Ix.Pl) (c : Nat) (p : Ix.Pl) (mb : Nat) (m : ML Ix.Rec) (k : Nat) (f : Ix.Rec → Nat) (hm : mget l p = some (.map (some mb))) (hms : MS m k) (hmv : ∀ t, mget m t = cv (f t)) (hml : m.length ≤ 100000) (I : Heap) (hb : I b = some (mobj kvP l c)) (hmb : I mb = some (mobj kvR m k)) : Ctr Tryz.prog 79 [.map (some b), kvP p] I []
    (fun e _ H' => ∃ (ts : List Ix.Rec) (g : Gs), (ts.Pairwise fun a b => Ix.lessR a b = true) ∧ (∀ t, t ∈ ts ↔ f t ≠ 0) ∧ gOk 0 2 ts.length (ts.flatMap recC) g ∧ e = .returned (gV ts.length g) ∧ H' = gH 54 (ts.flatMap recC) g) := by
 refine xob func79 fun w0 hw0 => ?_
 refine axn 3 ?_
 intro b1 hb1
 refine axn 13 ?_
 refine J.z (yl_lookup1 (kv := kvP) (l := l) (a := p) rfl rfl rfl rfl underlying112 keyP zeroValue213 (Blk.imm hb)) ?_
 refine J.ev 9 (.map (some mb)) rfl (by rw [hm]; rfl) ?_
 refine J.op rfl (op_rangeMap (kv := kvR) (l := m) rfl rfl rfl rfl underlying213 (Blk.imm hmb) ?_)
 intro b2 hb2
 refine axn 3 ?_
 refine Cj.keep (Keeps.k (Keeps.d Keeps.n)) ?_
 refine Cj.loop (ι := TA) (fun y => (y.vis ++ y.rest).Perm m ∧ gOk w0.heap.size 2 y.vis.length ((y.vis.map Prod.fst).flatMap recC) y.g) (fun y => y.rest.length) (fun y => [(5, gV y.vis.length y.g), (10, ptr b2 0)]) (fun y => _) (fun y => (b2, mit mb k y.vis k) :: gH 54 ((y.vis.map Prod.fst).flatMap recC) y.g) ⟨[], m, none⟩ ⟨.refl _, rfl, rfl⟩ ⟨rfl, rfl, trivial⟩ rfl rfl ?_
 rintro ⟨vis, rest, g⟩ ⟨hp, hg⟩
 dsimp only at hp hg ⊢
 have hpl0 := hp.length_eq
 rw [List.length_append] at hpl0
 refine axn 2 ?_
 refine J.op rfl (op_nextMap (kv := kvR) (l := m) 0 rfl rfl rfl rfl rfl (Blk.imm hmb) hms.2.2 (Nat.le_refl _) hms.2.1 hp ?_ ?_)
 ·
  rintro x rest2 H9 hrx hpx ⟨-, hset⟩; simp only [List.set_cons_zero] at hset; subst hset
  refine axn 10 ?_
  refine J.z (yl_entry (kv := kvR) (l := m) rfl rfl (Blk.at 0 rfl) (Blk.imm hmb) (hpx.mem_iff.1 (List.mem_append_left _ (List.mem_append_right _ (.head _)))) hms.2.1) ?_
  refine axn 2 ?_
  intro b4 hb4
  refine axn 7 ?_
  intro b5 hb5
  refine xap 15 [_, _, _] hg ?_
  intro g6 hg6
  refine axn 3 ?_
  refine Ej.keep (Keeps.d (Keeps.d (Keeps.k Keeps.r))) ?_
  refine Ej.round ⟨vis ++ [x], rest2, g6⟩ ⟨hpx, by dsimp only; rw [List.length_append, List.map_append, List.flatMap_append]; exact hg6⟩ (by have h := hrx.length_eq; simp only [List.length_cons] at h; dsimp only; omega) ⟨by dsimp only; rw [List.length_append]; rfl, rfl, trivial⟩ rfl (by dsimp only; rw [List.map_append, List.flatMap_append]; rfl)
 intro hend
 refine axn 11 ?_
 have hpv : vis.Perm m := by rw [hend, List.append_nil] at hp; exact hp
 have hg2 : gOk w0.heap.size 2 (vis.map Prod.fst).length ((vis.map Prod.fst).flatMap recC) g := by rw [List.length_map]; exact hg
 refine axn 2 ?_
 refine J.ev 19 (gV (vis.map Prod.fst).length g) rfl ((len_map vis g).symm) ?_
 refine xcr [_] (SortRec_ok (vis.map Prod.fst) g hg2 (by rw [List.length_map]; omega) _) ?_
 rintro v9 I9 H9 hle9 ⟨ts, hpp, hpo, h, rfl⟩; cases h
 obtain ⟨hsrt, hmem⟩ := titles_end hms hmv hpv hpp hpo
 have htl : vis.length = ts.length := by rw [hpp.length_eq, List.length_map]
 refine axn 9 ?_
 refine Ej.keep (H' := gH 54 (ts.flatMap recC) g) (List.sublist_append_right [_] _) ?_
 refine axe ?_
 rw [htl]
 exact ⟨ts, g, hsrt, hmem, gOk_zero (gOk_re hg2 hpp.length_eq), rfl, rfl⟩
theorem titles_nil (p : Ix.Pl) (f : Ix.Rec → Nat) (hz : ∀ t, f t = 0) (I : Heap) : Ctr Tryz.prog 79 [.map none, kvP p] I []
    (fun e _ H' => ∃ (ts : List Ix.Rec) (g : Gs), (ts.Pairwise fun a b => Ix.lessR a b = true) ∧ (∀ t, t ∈ ts ↔ f t ≠ 0) ∧ gOk 0 2 ts.length (ts.flatMap recC) g ∧ e = .returned (gV ts.length g) ∧ H' = gH 54 (ts.flatMap recC) g) := by
 refine xob func79 fun w0 hw0 => ?_
 refine axn 3 ?_
 intro b1 hb1
 refine axn 13 ?_
 refine J.z (yl_lookupNil1 (kv := kvP) (a := p) rfl rfl rfl rfl underlying112 keyP zeroValue213) ?_
 refine J.op rfl (op_rangeNil rfl rfl rfl rfl underlying213 ?_)
 intro b2 hb2
 refine axn 3 ?_
 refine Cj.rounds 1 ?_
 refine Rj.succ ?_
 refine axn 2 ?_
 refine J.op rfl (op_nextNil 0 rfl rfl rfl rfl rfl ?_)
 refine xcr [_, _] (SortRec_ok (base := 0) [] none ⟨rfl, rfl⟩ (by decide) _) ?_
 rintro v9 I9 H9 hle9 ⟨ts, hpp, hpo, h, rfl⟩; cases h
 have hts := hpp.eq_nil
 subst hts
 refine axr ?_
 exact ⟨[], none, List.Pairwise.nil, fun t => ⟨fun h => (by cases h), fun h => absurd (hz t) h⟩, ⟨rfl, rfl⟩, rfl, rfl⟩
theorem titles_miss (b : Nat) (l : ML Ix.Pl) (c : Nat) (p : Ix.Pl) (f : Ix.Rec → Nat) (hm : mget l p = none) (hz : ∀ t, f t = 0) (I : Heap) (hb : I b = some (mobj kvP l c)) : Ctr Tryz.prog 79 [.map (some b), kvP p] I []
    (fun e _ H' => ∃ (ts : List Ix.Rec) (g : Gs), (ts.Pairwise fun a b => Ix.lessR a b = true) ∧ (∀ t, t ∈ ts ↔ f t ≠ 0) ∧ gOk 0 2 ts.length (ts.flatMap recC) g ∧ e = .returned (gV ts.length g) ∧ H' = gH 54 (ts.flatMap recC) g) := by
 refine xob func79 fun w0 hw0 => ?_
 refine axn 3 ?_
 intro b1 hb1
 refine axn 13 ?_
 refine J.z (yl_lookup1 (kv := kvP) (l := l) (a := p) rfl rfl rfl rfl underlying112 keyP zeroValue213 (Blk.imm hb)) ?_
 refine J.ev 9 (.map none) rfl (by rw [hm]; rfl) ?_
 refine J.op rfl (op_rangeNil rfl rfl rfl rfl underlying213 ?_)
 intro b2 hb2
 refine axn 3 ?_
 refine Cj.rounds 1 ?_
 refine Rj.succ ?_
 refine axn 2 ?_
 refine J.op rfl (op_nextNil 0 rfl rfl rfl rfl rfl ?_)
 refine xcr [_, _] (SortRec_ok (base := 0) [] none ⟨rfl, rfl⟩ (by decide) _) ?_
 rintro v9 I9 H9 hle9 ⟨ts, hpp, hpo, h, rfl⟩; cases h
 have hts := hpp.eq_nil
 subst hts
 refine axr ?_
 exact ⟨[], none, List.Pairwise.nil, fun t => ⟨fun h => (by cases h), fun h => absurd (hz t) h⟩, ⟨rfl, rfl⟩, rfl, rfl⟩
theorem titles_ok (mv : Option Nat) (fc : Ix.Pl → Ix.Rec → Nat) (L : Ix.Ix) (p : Ix.Pl) (I : Heap) (h : SetP I mv fc) (hs : Ix.Srt L) (hL : L.length ≤ 100000) (hf : ∀ t, fc p t ≠ 0 → ∃ e ∈ L, e.1 = t) : Ctr Tryz.prog 79 [.map mv, kvP p] I []
    (fun e _ H' => ∃ (ts : List Ix.Rec) (g : Gs), (ts.Pairwise fun a b => Ix.lessR a b = true) ∧ (∀ t, t ∈ ts ↔ fc p t ≠ 0) ∧ gOk 0 2 ts.length (ts.flatMap recC) g ∧ e = .returned (gV ts.length g) ∧ H' = gH 54 (ts.flatMap recC) g) := by
  rcases h with ⟨rfl, hz⟩ | ⟨b, l, c, N, rfl, hN, hI⟩
  · exact titles_nil p (fc p) (hz p) I
  rcases hN.find p with ⟨hno, hmg, hz⟩ | ⟨A, ib, m, k, B, rfl, hmg, hms, hne, hmv, hA, hB⟩
  · exact titles_miss b l c p (fc p) hmg hz I (hI (b, _) (.head _))
  exact titles_hit b l c p ib m k (fc p) hmg hms hmv (Nat.le_trans (pair_le hms hmv hs hf) hL) I (hI (b, _) (.head _)) (hI (ib, mobj kvR m k) (.tail _ (List.mem_map.2 ⟨(p, ib, m, k), by simp, rfl⟩)))
theorem cnt_in {pl : List Ix.V → List Ix.Pl} {L : Ix.Ix} (h : Ix.Srt L) (p : Ix.Pl) (t : Ix.Rec) (hc : Ix.cnt pl L p t ≠ 0) : ∃ e ∈ L, e.1 = t := by
  unfold Ix.cnt at hc
  cases hg : Ix.rget L t with
  | none => rw [hg] at hc; exact absurd rfl hc
  | some vs => exact ⟨_, (Ix.rget_iff h).1 hg, rfl⟩
end Go.Proofs.YtekmeaoblpfnpaaGreatDoor
end
section
namespace Go.Sx
open Go
section
variable {cx : Cx} {Q : Qt} {o : Oper} {e : Env} {I : Heap} {H : HL} {C : Ct} {S : World → Prop}
theorem op_clear {x : Operand} {T E b off n c sz t : Nat} {cs : List Value} {z : Value} (i : Nat) (ho : o.op = .call ⟨.builtin .clear, #[x], #[T]⟩) (hd : o.dst = none) (hx : ev e x = some (.slice (some ⟨b, off, none⟩) n c)) (hn : 0 < n) (hu : cx.P.underlying T = some (.slice E)) (hz : ∀ w, (zeroValue E).run cx.P w = .ok z w)
    (hzs : z.cells.size = sz) (hz0 : 0 < sz) (hz1 : z.cells.toList.all Value.oneCell' = true) (hH : H[i]? = some (b, cel t cs)) (hlen : off + n * sz ≤ cs.length) (k : ∀ vs H', vs.length = n * sz → LSet H i (b, cel t (cs.take off ++ vs ++ cs.drop (off + n * sz))) H' → C e I H') : OpJ cx Q o e I H C := by
  intro K hK a w ha hs
  unfold Oper.wp
  have hb := hs.own _ (List.mem_of_getElem? hH)
  have hl : (Builtin.zeroCells z.cells n).toList.length = n * sz := by simp [Builtin.zeroCells, hzs]
  have hone : ∀ v ∈ (Builtin.zeroCells z.cells n).toList, v.oneCell' = true := fun v hv => by
    simp only [Builtin.zeroCells, Array.toList_map, List.mem_map] at hv
    obtain ⟨j, hj, rfl⟩ := hv
    have hjl : j % z.cells.size < z.cells.size := Nat.mod_lt _ (by omega)
    rw [getElem!_pos z.cells _ hjl]
    exact List.all_eq_true.1 hz1 _ (by simp)
  have hspl : LSpl cs (off + 0) (Builtin.zeroCells z.cells n).toList (cs.take off ++ (Builtin.zeroCells z.cells n).toList ++ cs.drop (off + n * sz)) := ⟨by rw [hl]; omega, by rw [hl, Nat.add_zero]⟩
  have hst := run_storeCells (P := cx.P) (t := t) (Builtin.zeroCells z.cells n).toList 0 w cs hb (.inl rfl) (by rw [hl]; omega) hone _ hspl
  obtain ⟨n, rfl⟩ : ∃ m, n = m + 1 := ⟨n - 1, by omega⟩
  have : (execOp a.eval o).run cx.P w = .ok (.value (.tuple #[])) (World.block w b (cel t (cs.take off ++ (Builtin.zeroCells z.cells (n + 1)).toList ++ cs.drop (off + (n + 1) * sz)))) := by
    simp only [execOp, ho, resolve, invoke, builtin, Builtin.clear_, Sem.run_bind, Sem.run_pure, Result.andThen_ok]
    simp [ha.eval hx, run_underlying hu, hz, hst, cel, List.append_assoc]
  rw [this]
  simp only [Oper.upon, hd]
  have hset : LSet H i (b, cel t (cs.take off ++ (Builtin.zeroCells z.cells (n + 1)).toList ++ cs.drop (off + (n + 1) * sz))) (H.set i (b, cel t (cs.take off ++ (Builtin.zeroCells z.cells (n + 1)).toList ++ cs.drop (off + (n + 1) * sz)))) := ⟨(List.getElem?_eq_some_iff.1 hH).1, rfl⟩
  exact hK _ _ _ (k _ _ hl hset) _ _ ha.putNone (hs.block hH hset)
theorem yl_slice3 {x y z : Operand} {T E n c sz k m : Nat} {a : Option Addr} {kl kh : IntKind} (ho : o.op = .slice T x none (some y) (some z)) (hx : ev e x = some (.slice a n c)) (hy : ev e y = some (.int kl (k : Int))) (hz : ev e z = some (.int kh (m : Int))) (hu : cx.P.underlying T = some (.slice E)) (hsz : ∀ w, (sizeOf E).run cx.P w = .ok sz w) (hkm : k ≤ m) (hmc : m ≤ c) :
    Yld cx o e S (.slice a k m) := by
  intro w0 w ha _
  have h1 : (k : Int) ≤ m := by omega
  have h2 : (m : Int) ≤ c := by omega
  cases a with
  | none => simp [execOp, ho, ha.eval hx, ha.eval hy, ha.eval hz, Instr.sliceAt, Instr.slice, run_underlying hu, Instr.sliceBounds, run_sliceBound, h1, h2, hsz]
  | some q => simp [execOp, ho, ha.eval hx, ha.eval hy, ha.eval hz, Instr.sliceAt, Instr.slice, run_underlying hu, Instr.sliceBounds, run_sliceBound, h1, h2, hsz, Addr.add]
end
def OwnR {α : Type} (T : TypeId) (f : α → List Value) (l : List α) (v : Value) (H : HL) : Prop := (l = [] ∧ v = .slice none 0 0 ∧ H = []) ∨ ∃ b c sp, v = .slice (some ⟨b, 0, none⟩) l.length c ∧ l.length ≤ c ∧ H = [(b, cel T (l.flatMap f ++ sp))]
theorem OwnR.of_g {α : Type} {T : TypeId} {f : α → List Value} {sz base n : Nat} {l : List α} {g : Gs} (hf : ∀ x, (f x).length = sz) (hpos : 0 < sz) (hn : n = l.length) (hg : gOk base sz n (l.flatMap f) g) : OwnR T f l (gV n g) (gH T (l.flatMap f) g) := by
  subst hn
  cases g with
  | none =>
    obtain ⟨h1, h2⟩ := hg
    exact .inl ⟨List.length_eq_zero_iff.1 h1, by rw [h1]; rfl, rfl⟩
  | some q =>
    obtain ⟨b, c, sp⟩ := q
    obtain ⟨h1, h2, h3⟩ := hg
    have hc : l.length ≤ c := by
      rw [flat_len hf] at h3
      exact Nat.le_of_mul_le_mul_right (by omega : l.length * sz ≤ c * sz) hpos
    exact .inr ⟨b, c, sp, rfl, hc, rfl⟩
section
variable {cx : Cx} {Q : Qt} {e : Env} {I : Heap} {R H1 : HL} {T : TypeId} {α : Type} {l : List α} {f : α → List Value} {v : Value}
theorem own_cases {X : Heap → HL → Prop} {base : Nat} (h : OwnR T f l v H1) (hb : ∀ p ∈ H1, base ≤ p.1) (hp : ∀ b o, base ≤ b → (∀ I', Le I I' → I' b = some o → X I' R) → X I ((b, o) :: R)) (k : ∀ I', Le I I' → RowT T f I' l v → X I' R) : X I (H1 ++ R) := by
  rcases h with ⟨rfl, rfl, rfl⟩ | ⟨b, c, sp, rfl, hc, rfl⟩
  · exact k I (Le.refl _) RowT.nil
  exact hp b _ (hb _ (.head _)) fun I' hle hI => k I' hle ⟨_, c, rfl, hc, fun _ => ⟨b, sp, rfl, hI⟩⟩
theorem J.keepO {ops : Array Oper} {r : List Oper} (h : OwnR T f l v H1) (hb : ∀ p ∈ H1, cx.w0.heap.size ≤ p.1) (k : ∀ I', Le I I' → RowT T f I' l v → J cx Q ops r e I' R) : J cx Q ops r e I (H1 ++ R) := own_cases (X := fun I H => J cx Q ops r e I H) h hb (fun _ _ hb k => J.persist hb k) k
end
end Go.Sx
end
section
namespace Go.Sx
open Go
section
variable {cx : Cx} {Q : Qt} {e : Env} {I : Heap} {H : HL} {o : Oper} {C : Ct}
end
theorem row_spl {α : Type} {f : α → List Value} {n : Nat} (hf : ∀ x, (f x).length = n) {sp : List Value} {x : α} : ∀ {l : List α} {i : Nat}, i < l.length → LSpl (l.flatMap f ++ sp) (i * n) (f x) ((l.set i x).flatMap f ++ sp)
  | [], _, h => by simp at h
  | a :: r, 0, _ => by
    refine ⟨by rw [Nat.zero_mul, hf, List.flatMap_cons, List.length_append, List.length_append, hf]; omega, ?_⟩
    rw [Nat.zero_mul, List.take_zero, List.nil_append, Nat.zero_add, List.set_cons_zero, List.flatMap_cons, List.flatMap_cons, List.append_assoc, List.append_assoc, hf, ← hf a, List.drop_left]
  | a :: r, i + 1, h => by
    obtain ⟨h1, h2⟩ := row_spl hf (sp := sp) (x := x) (l := r) (i := i) (by simpa using h)
    have ha := hf a
    refine ⟨by rw [List.flatMap_cons, List.append_assoc, List.length_append, ha, Nat.add_mul]; omega, ?_⟩
    rw [List.set_cons_succ, List.flatMap_cons, List.append_assoc, h2, List.flatMap_cons, List.append_assoc (f a), show (i + 1) * n = (f a).length + i * n by rw [ha, Nat.add_mul]; omega, List.take_length_add_append, Nat.add_assoc, List.drop_length_add_append]
    simp only [List.append_assoc]
end Go.Sx
end
section
set_option maxHeartbeats 40000000
namespace Go.Proofs.YtekmeaoblpfnpaaGreatDoor
open _root_.Go.Proofs.Tryz
open Go Go.Sx
theorem within_short {w l : Ke.Row} (h : l.length < w.length) : Ix.within w l = false := by
  rw [Bool.eq_false_iff, Ne, Ix.within_iff]
  exact fun g => by have := g.length_le; omega
theorem within_pre {w l : Ke.Row} (h : l.take w.length = w) : Ix.within w l = true := by
  rw [Ix.within_iff]
  exact (List.prefix_iff_eq_take.2 h.symm).isInfix
theorem within_step {w l : Ke.Row} {k : Nat} (hk : k + w.length ≤ l.length) (h : ¬ (l.drop k).take w.length = w) : Ix.within w (l.drop k) = Ix.within w (l.drop (k + 1)) := by
  rcases Nat.lt_or_ge k l.length with hlt | hge
  · rw [← List.getElem_cons_drop hlt] at h ⊢
    conv => lhs; unfold Ix.within
    have : w.isPrefixOf (l[k] :: l.drop (k + 1)) = false := by
      rw [Bool.eq_false_iff, Ne, List.isPrefixOf_iff_prefix, List.prefix_iff_eq_take]
      exact fun e => h e.symm
    rw [this, Bool.false_or]
  have hw : w = [] := List.length_eq_zero_iff.1 (by omega)
  subst hw
  exact absurd rfl h
theorem take_eq {a b : List (List UInt8)} {k : Nat} {x y : List UInt8} (h : a.take k = b.take k) (hx : a[k]? = some x) (hy : b[k]? = some y) (he : x = y) : a.take (k + 1) = b.take (k + 1) := by
  obtain ⟨h1, e1⟩ := List.getElem?_eq_some_iff.1 hx
  obtain ⟨h2, e2⟩ := List.getElem?_eq_some_iff.1 hy
  rw [List.take_succ_eq_append_getElem h1, List.take_succ_eq_append_getElem h2, h, e1, e2, he]
theorem strP_cut {I : Heap} {l : List (List UInt8)} {a : Option Addr} {n c : Nat} (h : StrP I l (.slice a n c)) {j k : Nat} (hj : j ≤ k) (hk : k ≤ l.length) : StrP I ((l.drop j).take (k - j)) (.slice (cutA a c j 1) (k - j) (c - j)) :=
  strC_row.2 (RowS.cut (f := fun s => [str s]) (sz := 1) (fun _ => rfl) (strC_row.1 h) hj hk)
theorem EqualP_ok (a b : List (List UInt8)) (va vb : Value) (I : Heap) (ha : StrP I a va) (hb : StrP I b vb) (hal : a.length ≤ 100000000000000) : Pure Tryz.prog 136 [va, vb] I (.bool (decide (a = b))) := by
 refine Ctr.toPure ?_
 obtain ⟨p1, c1, rfl, hc1, hp1⟩ := ha
 obtain ⟨p2, c2, rfl, hc2, hp2⟩ := hb
 refine xob func136 fun w0 hw0 => ?_
 refine axc (fun hc10 hc10p => ?_) (fun hc10 hc10p => ?_)
 ·
  refine axe ?_
  rw [decide_eq_false (fun e => hc10p (by rw [e]))]
  exact ⟨rfl, rfl⟩
 have hlen : a.length = b.length := by have h := hc10p; omega
 refine axn 11 ?_
 refine Cj.loop (ι := Nat) (fun j => j ≤ a.length ∧ a.take j = b.take j) (fun j => a.length - j) (fun j => [(0, .slice p1 a.length c1), (1, .slice p2 b.length c2), (12, i64 (a.length : Int)), (13, i64 (j : Int))]) (fun j => I) (fun j => []) 0 ⟨Nat.zero_le _, rfl⟩ ⟨rfl, rfl, rfl, rfl, trivial⟩ rfl rfl ?_
 rintro j ⟨hj, hall⟩
 refine axc (fun hc14 hc14p => ?_) (fun hc14 hc14p => ?_)
 ·
  have hlt : j < a.length := by omega
  obtain ⟨x, hx⟩ : ∃ x, a[j]? = some x := ⟨_, List.getElem?_eq_getElem hlt⟩
  obtain ⟨y, hy⟩ : ∃ y, b[j]? = some y := ⟨_, List.getElem?_eq_getElem (by omega)⟩
  obtain ⟨fa, oa, acs, aty, afr, asp, rfl, hfa, had⟩ := hp1 (ne_nil_of hlt)
  obtain ⟨fb, ob, bcs, bty, bfr, bsp, rfl, hfb, hbd⟩ := hp2 (ne_nil_of (by omega : j < b.length))
  refine axn 11 ?_
  refine Cj.drawSel [] [] 9 (by kernel_rfl) ?_
  refine xix (oa + j) ?_
  refine JA.zt 3 rfl (yl_load rfl rfl isAgg9 (Blk.immC hfa) (str_from had hx)) ?_
  refine xix (ob + j) ?_
  refine JA.zt 7 rfl (yl_load rfl rfl isAgg9 (Blk.immC hfb) (str_from hbd hy)) ?_
  refine axc (fun hc24 hc24p => ?_) (fun hc24 hc24p => ?_)
  ·
   have hxy : x ≠ y := hc24p
   refine axe ?_
   rw [decide_eq_false (fun e => hxy (by rw [e, hy] at hx; exact (Option.some.inj hx).symm))]
   exact ⟨rfl, rfl⟩
  have hxy : x = y := hc24p
  refine axn 7 ?_
  refine Ej.round (j + 1) ⟨by omega, take_eq hall hx hy hxy⟩ (by omega) ⟨rfl, rfl, rfl, rfl, trivial⟩ rfl rfl
 refine axe ?_
 rw [List.take_of_length_le (by omega : a.length ≤ j), List.take_of_length_le (by omega : b.length ≤ j)] at hall
 rw [decide_eq_true hall]
 exact ⟨rfl, rfl⟩
theorem contains_ok (a b : List (List UInt8)) (va vb : Value) (I : Heap) (ha : StrP I a va) (hb : StrP I b vb) (hal : a.length ≤ 100000000000000) (hbl : b.length ≤ 100000000000000) : Pure Tryz.prog 84 [va, vb] I (.bool (Ix.within b a)) := by
 refine Ctr.toPure ?_
 obtain ⟨p1, c1, rfl, hc1, -⟩ := id ha
 obtain ⟨p2, c2, rfl, hc2, -⟩ := id hb
 refine xob func84 fun w0 hw0 => ?_
 refine axn 12 ?_
 refine Cj.loop (ι := Nat) (fun k => k ≤ a.length + 1 ∧ (0 < k → 0 < b.length) ∧ Ix.within b (a.drop k) = Ix.within b a) (fun k => a.length + 1 - k) (fun k => [(0, .slice p1 a.length c1), (1, .slice p2 b.length c2), (5, i64 (k : Int))]) (fun k => I) (fun k => []) 0 ⟨Nat.zero_le _, fun h => absurd h (Nat.lt_irrefl 0), rfl⟩ ⟨rfl, rfl, rfl, trivial⟩ rfl rfl ?_
 rintro k ⟨hk, hb0, hw⟩
 refine axc (fun hc12 hc12p => ?_) (fun hc12 hc12p => ?_)
 ·
  have hkl : k + b.length ≤ a.length := by omega
  refine axn 12 ?_
  refine J.z (yl_slice2 (j := k) (k := (k + b.length)) rfl rfl rfl rfl underlying69 sizeOf9 rfl (by omega) (by omega)) ?_
  refine xpu (EqualP_ok _ b _ _ _ (strP_cut ha (Nat.le_add_right k b.length) hkl) hb (by rw [List.length_take, List.length_drop]; omega)) ?_
  refine ax0 (fun hc23 => ?_) (fun hc23 => ?_)
  ·
   have heq := of_decide_eq_true hc23
   rw [Nat.add_sub_cancel_left] at heq
   refine axe ?_
   rw [← hw, within_pre heq]
   exact ⟨rfl, rfl⟩
  have hne := of_decide_eq_false hc23
  rw [Nat.add_sub_cancel_left] at hne
  refine axn 8 ?_
  refine Ej.round (k + 1) ⟨by omega, fun _ => List.length_pos_iff.2 (fun e => hne (by rw [e]; rfl)), by rw [← hw, within_step hkl hne]⟩ (by omega) ⟨rfl, rfl, rfl, trivial⟩ rfl rfl
 refine axe ?_
 rw [← hw, within_short (by rw [List.length_drop]; rcases Nat.eq_zero_or_pos k with h | h <;> (first | omega | (have := hb0 h; omega)))]
 exact ⟨rfl, rfl⟩
theorem IndexFuncV_ok (l : List VW) (v : Value) (pq : VW → Bool) (g : Nat) (cap : List Value) (hl : l.length ≤ 100000000000000) (I : Heap) (hr : RowS vwC I l v) (_hw : ∀ x ∈ l, StrS 9 I x.1.ws x.2) (hcl : ∀ x ∈ l, Pure Tryz.prog g (.agg (vwC x).toArray :: cap) I (.bool (pq x))) : Pure Tryz.prog 73 [v, .func (.func g) #[] cap.toArray] I (i64 (idxI pq l)) := by
 refine Ctr.toPure ?_
 obtain ⟨p, c, rfl, hc, hp⟩ := hr
 refine xob func73 fun w0 hw0 => ?_
 refine axn 14 ?_
 refine Cj.loop (ι := Nat) (fun j => j ≤ l.length ∧ ∀ x ∈ l.take j, pq x = false) (fun j => l.length - j) (fun j => [(0, .slice p l.length c), (1, .func (.func g) #[] cap.toArray), (7, i64 (l.length : Int)), (8, i64 (j : Int))]) (fun j => I) (fun j => []) 0 ⟨Nat.zero_le _, fun g hg => by simp at hg⟩ ⟨rfl, rfl, rfl, rfl, trivial⟩ rfl rfl ?_
 rintro j ⟨hj, hall⟩
 refine axc (fun hc1 hc1p => ?_) (fun hc1 hc1p => ?_)
 ·
  have hlt : j < l.length := by omega
  obtain ⟨x, hget⟩ : ∃ x, l[j]? = some x := ⟨_, List.getElem?_eq_getElem hlt⟩
  obtain ⟨fb, fo, fcs, fty, ffr, sp, rfl, hfb, hfd⟩ := hp (ne_nil_of hlt)
  refine xix (fo + j * 3) ?_
  refine J.z (yl_loadAgg rfl rfl isAgg142 sizeOf142 (Blk.imm hfb) (row_from vwC_len hfd hget) rfl) ?_
  refine xpu (hcl x (List.mem_of_getElem? hget)) ?_
  refine ax0 (fun hc2 => ?_) (fun hc2 => ?_)
  ·
   have ht : pq x = true := hc2
   refine axe ?_
   rw [idxI_at hall hget ht]
   exact ⟨rfl, rfl⟩
  have hnt : pq x = false := hc2
  refine axn 7 ?_
  refine Ej.round (j + 1) ⟨by omega, false_next hall hget hnt⟩ (by omega) ⟨rfl, rfl, rfl, rfl, trivial⟩ rfl rfl
 have hfull : l.take j = l := List.take_of_length_le (by omega)
 rw [hfull] at hall
 refine axe ?_
 rw [idxI_none hall]
 exact ⟨rfl, rfl⟩
theorem IndexFuncR_ok (l : List Ix.Rec) (v : Value) (pq : Ix.Rec → Bool) (g : Nat) (cap : List Value) (hl : l.length ≤ 100000000000000) (I : Heap) (hr : RowS recC I l v) (hcl : ∀ x ∈ l, Pure Tryz.prog g (kvR x :: cap) I (.bool (pq x))) : Pure Tryz.prog 135 [v, .func (.func g) #[] cap.toArray] I (i64 (idxI pq l)) := by
 refine Ctr.toPure ?_
 obtain ⟨p, c, rfl, hc, hp⟩ := hr
 refine xob func135 fun w0 hw0 => ?_
 refine axn 14 ?_
 refine Cj.loop (ι := Nat) (fun j => j ≤ l.length ∧ ∀ x ∈ l.take j, pq x = false) (fun j => l.length - j) (fun j => [(0, .slice p l.length c), (1, .func (.func g) #[] cap.toArray), (7, i64 (l.length : Int)), (8, i64 (j : Int))]) (fun j => I) (fun j => []) 0 ⟨Nat.zero_le _, fun g hg => by simp at hg⟩ ⟨rfl, rfl, rfl, rfl, trivial⟩ rfl rfl ?_
 rintro j ⟨hj, hall⟩
 refine axc (fun hc1 hc1p => ?_) (fun hc1 hc1p => ?_)
 ·
  have hlt : j < l.length := by omega
  obtain ⟨x, hget⟩ : ∃ x, l[j]? = some x := ⟨_, List.getElem?_eq_getElem hlt⟩
  obtain ⟨fb, fo, fcs, fty, ffr, sp, rfl, hfb, hfd⟩ := hp (ne_nil_of hlt)
  refine xix (fo + j * 2) ?_
  refine J.z (yl_loadAgg rfl rfl isAgg54 sizeOf54 (Blk.imm hfb) (row_from recC_len hfd hget) rfl) ?_
  refine xpu (hcl x (List.mem_of_getElem? hget)) ?_
  refine ax0 (fun hc2 => ?_) (fun hc2 => ?_)
  ·
   have ht : pq x = true := hc2
   refine axe ?_
   rw [idxI_at hall hget ht]
   exact ⟨rfl, rfl⟩
  have hnt : pq x = false := hc2
  refine axn 7 ?_
  refine Ej.round (j + 1) ⟨by omega, false_next hall hget hnt⟩ (by omega) ⟨rfl, rfl, rfl, rfl, trivial⟩ rfl rfl
 have hfull : l.take j = l := List.take_of_length_le (by omega)
 rw [hfull] at hall
 refine axe ?_
 rw [idxI_none hall]
 exact ⟨rfl, rfl⟩
theorem IndexFuncR_own (b c : Nat) (sp : List Value) (l : List Ix.Rec) (hc : l.length ≤ c) (pq : Ix.Rec → Bool) (g : Nat) (cap : List Value) (hl : l.length ≤ 100000000000000) (I : Heap) (hcl : ∀ J, Le I J → ∀ x ∈ l, Pure Tryz.prog g (kvR x :: cap) J (.bool (pq x))) :
    Ctr Tryz.prog 135 [.slice (some ⟨b, 0, none⟩) l.length c, .func (.func g) #[] cap.toArray] I [(b, cel 54 (l.flatMap recC ++ sp))] (fun e _ H' => e = .returned (i64 (idxI pq l)) ∧ H' = [(b, cel 54 (l.flatMap recC ++ sp))]) := by
  refine Ctr.withReady (Enters.of func135 (by decide) rfl) fun hn hd => ?_
  have hr : RowS recC (hputs [(b, cel 54 (l.flatMap recC ++ sp))] I) l (.slice (some ⟨b, 0, none⟩) l.length c) := RowS.of hc (hputs_at hn _ (.head _))
  refine (Ctr.borrow (IndexFuncR_ok l _ pq g cap hl _ hr (hcl _ (hputs_le hd)))).mono fun e I' H' _ ⟨J, M, ⟨h1, _, h3⟩, h4, _⟩ => ⟨h1, ?_⟩
  rw [h4, h3, List.append_nil]
theorem any_idx {α : Type} (p : α → Bool) (l : List α) : decide (0 ≤ idxI p l) = l.any p := by
  rcases idxI_cases p l with ⟨h1, h2⟩ | ⟨k, x, h1, h2, h3⟩
  · rw [h1]
    have : l.any p = false := by
      rw [Bool.eq_false_iff, Ne, List.any_eq_true]
      rintro ⟨y, hy, hp⟩
      exact absurd hp (by simpa using List.find?_eq_none.1 h2 y hy)
    rw [this]; rfl
  rw [h1]
  have : l.any p = true := List.any_eq_true.2 ⟨x, List.mem_of_getElem? h2, by have := List.find?_some h3; exact this⟩
  rw [this]; exact decide_eq_true (by omega)
theorem ContainsFuncV_ok (l : List VW) (v : Value) (pq : VW → Bool) (g : Nat) (cap : List Value) (hl : l.length ≤ 100000000000000) (I : Heap) (hr : RowS vwC I l v) (hw : ∀ x ∈ l, StrS 9 I x.1.ws x.2) (hcl : ∀ x ∈ l, Pure Tryz.prog g (.agg (vwC x).toArray :: cap) I (.bool (pq x))) : Pure Tryz.prog 82 [v, .func (.func g) #[] cap.toArray] I (.bool (l.any pq)) := by
 refine Ctr.toPure ?_
 refine xob func82 fun w0 hw0 => ?_
 refine xpu (IndexFuncV_ok l v pq g cap hl _ hr hw hcl) ?_
 refine axe ?_
 rw [← any_idx]
 exact ⟨rfl, rfl⟩
theorem sort1_ok (x : VW) (p : Option Addr) (n c : Nat) (_hx : x.2 = .slice p n c) (I : Heap) : Pure Tryz.prog 74 [.agg (vwC x).toArray] I (.bool (decide (x.1.name = Ix.nTitle))) := by
 refine Ctr.toPure ?_
 refine xob func74 fun w0 hw0 => ?_
 refine axn 3 ?_
 intro b1 hb1
 refine axn 8 ?_
 refine J.ev 5 (.bool (decide (x.1.name = Ix.nTitle))) rfl (congrArg Value.bool (by rw [Bool.eq_iff_iff, beq_iff_eq, decide_eq_true_eq]; exact Iff.rfl)) ?_
 refine axr ?_
 exact ⟨rfl, rfl⟩
theorem phrase11_ok (x : VW) (nb lb : Nat) (n : List UInt8) (w : List (List UInt8)) (wv : Value) (I : Heap) (hx : StrS 9 I x.1.ws x.2) (hxl : x.1.ws.length ≤ 10000000) (hwl : w.length ≤ 1000000000) (hw : StrS 9 I w wv) (hnb : I nb = some (cel 9 [str n])) (hlb : I lb = some (cel 69 [wv])) : Pure Tryz.prog 83 [.agg (vwC x).toArray, ptr nb 0, ptr lb 0] I (.bool (decide (x.1.name = n) && Ix.within w x.1.ws)) := by
 refine Ctr.toPure ?_
 refine xob func83 fun w0 hw0 => ?_
 refine axn 3 ?_
 intro b1 hb1
 refine axg (fun hg2 hg2p => ?_) (fun hg2 hg2p => ?_)
 ·
  refine xpu (contains_ok x.1.ws w _ _ _ (StrP.of hx) (StrP.of hw) (by omega) (by omega)) ?_
  refine axr ?_
  rw [decide_eq_true (eq_of_beq hg2 : x.1.name = n), Bool.true_and]
  exact ⟨rfl, rfl⟩
 refine axr ?_
 rw [decide_eq_false (ne_of_beq_false hg2 : x.1.name ≠ n)]
 exact ⟨rfl, rfl⟩
theorem map_any {α β : Type} (f : α → β) (p : β → Bool) (l : List α) : (l.map f).any p = l.any fun x => p (f x) := by rw [List.any_map]; rfl
theorem hasW_any {I : Heap} {xs : List VW} {vs : List Ix.V} (h : ValsX I xs vs) (n : List UInt8) (w : Ke.Row) : xs.any (fun x => decide (x.1.name = n) && Ix.within w x.1.ws) = Ix.hasW n w vs := by
  unfold Ix.hasW
  rw [← h.1, map_any]
def lacks (L : Ix.Ix) (n : List UInt8) (w : Ke.Row) (t : Ix.Rec) : Bool := !Ix.hasW n w ((Ix.rget L t).getD [])
theorem phrase1_some (xb nb lb ib : Nat) (mb : Nat) (m : ML Ix.Rec) (k : Nat) (wm km : Option Nat) (L : Ix.Ix) (n : List UInt8) (w : List (List UInt8)) (wv : Value) (t : Ix.Rec) (I : Heap) (_hs : Ix.Srt L) (hvk : VOK ((Ix.rget L t).getD [])) (hwl : w.length ≤ 1000000000) (hw : StrS 9 I w wv) (hxb : I xb = some (cel 26 [ptr ib 0])) (hnb : I nb = some (cel 9 [str n])) (hlb : I lb = some (cel 69 [wv])) (hib : I ib = some (cel 114 [.map (some mb), .map wm, .map km])) (hmb : I mb = some (mobj kvR m k)) (_hms : MS m k) (hmv : ValMap I m L) : Pure Tryz.prog 81 [kvR t, ptr xb 0, ptr nb 0, ptr lb 0] I (.bool (lacks L n w t)) := by
 refine Ctr.toPure ?_
 obtain ⟨vv, hvv, xs, hrow, hX⟩ := hmv.at t
 have hxl := hX.len
 have hv1 := hvk.1
 refine xob func81 fun w0 hw0 => ?_
 refine axn 3 ?_
 intro b1 hb1
 refine axn 4 ?_
 refine Cj.drawSel [0] [] 10 (by kernel_rfl) ?_
 have hxb_1 := hxb
 have hib_1 := hib
 have hmb_1 := hmb
 refine axn 5 ?_
 refine JA.zt 5 rfl (yl_lookup1 (kv := kvR) (l := m) (a := t) rfl rfl rfl rfl underlying110 keyR zeroValue140 (Blk.immC hmb_1)) ?_
 refine JA.ev 11 vv rfl hvv ?_
 refine xpu (ContainsFuncV_ok xs _ (fun x => decide (x.1.name = n) && Ix.within w x.1.ws) _ [ptr nb 0, ptr lb 0] (by omega) _ hrow.row hX.2 (fun x hx => phrase11_ok x nb lb n w wv _ (hX.2 x hx) (hvk.2 _ (hX.1 ▸ List.mem_map_of_mem hx)) hwl hw hnb hlb)) ?_
 refine axr ?_
 rw [hasW_any hX]
 exact ⟨rfl, rfl⟩
theorem phrase1_none (xb nb lb ib : Nat)  (wm km : Option Nat) (L : Ix.Ix) (n : List UInt8) (w : List (List UInt8)) (wv : Value) (t : Ix.Rec) (I : Heap) (hs : Ix.Srt L) (hvk : VOK ((Ix.rget L t).getD [])) (hwl : w.length ≤ 1000000000) (hw : StrS 9 I w wv) (hxb : I xb = some (cel 26 [ptr ib 0])) (hnb : I nb = some (cel 9 [str n])) (hlb : I lb = some (cel 69 [wv])) (hib : I ib = some (cel 114 [.map none, .map wm, .map km])) (hL : L = []) : Pure Tryz.prog 81 [kvR t, ptr xb 0, ptr nb 0, ptr lb 0] I (.bool (lacks L n w t)) := by
 refine Ctr.toPure ?_
 subst hL
 obtain ⟨xs, hrow, hX⟩ := ValsS.nil I
 have hxl := hX.len
 rw [List.length_nil] at hxl
 have hv1 := hvk.1
 refine xob func81 fun w0 hw0 => ?_
 refine axn 3 ?_
 intro b1 hb1
 refine axn 4 ?_
 refine Cj.drawSel [0] [] 10 (by kernel_rfl) ?_
 have hxb_1 := hxb
 have hib_1 := hib
 refine axn 5 ?_
 refine JA.zt 5 rfl (yl_lookupNil1 (kv := kvR) (a := t) rfl rfl rfl rfl underlying110 keyR zeroValue140) ?_
 refine xpu (ContainsFuncV_ok xs _ (fun x => decide (x.1.name = n) && Ix.within w x.1.ws) _ [ptr nb 0, ptr lb 0] (by omega) _ hrow.row hX.2 (fun x hx => phrase11_ok x nb lb n w wv _ (hX.2 x hx) (hvk.2 _ (hX.1 ▸ List.mem_map_of_mem hx)) hwl hw hnb hlb)) ?_
 refine axr ?_
 rw [hasW_any hX]
 exact ⟨rfl, rfl⟩
structure DL where
  i : Nat
  j : Nat
  zs : List Ix.Rec
theorem del_first {ts : List Ix.Rec} {pq : Ix.Rec → Bool} {k : Nat} {x : Ix.Rec} (hx : ts[k]? = some x) (hp : pq x = true) (h : ∀ y ∈ ts.take k, pq y = false) : (ts.take (k + 1)).filter (fun t => !pq t) = ts.take k := by
  rw [take_one hx, List.filter_append, List.filter_eq_self.2 (fun y hy => by simp [h y hy])]
  simp [hp]
theorem del_skip {ts zs : List Ix.Rec} {pq : Ix.Rec → Bool} {i j : Nat} {x : Ix.Rec} (h : zs.take i = (ts.take j).filter (fun t => !pq t)) (hx : ts[j]? = some x) (hp : pq x = true) : zs.take i = (ts.take (j + 1)).filter (fun t => !pq t) := by
  rw [take_one hx, List.filter_append, ← h]
  simp [hp]
theorem del_keep {ts zs : List Ix.Rec} {pq : Ix.Rec → Bool} {i j : Nat} {x : Ix.Rec} (hij : i < j) (h : zs.take i = (ts.take j).filter (fun t => !pq t)) (_hd : zs.drop j = ts.drop j) (hx : ts[j]? = some x) (hp : pq x = false) (hl : zs.length = ts.length) : (zs.set i x).take (i + 1) = (ts.take (j + 1)).filter (fun t => !pq t) := by
  have hj : j < ts.length := (List.getElem?_eq_some_iff.1 hx).1
  rw [take_one hx, List.filter_append, ← h, List.take_succ_eq_append_getElem (by rw [List.length_set]; omega), List.take_set_of_le (Nat.le_refl i)]
  simp [hp]
theorem keep_all {ts : List Ix.Rec} {pq : Ix.Rec → Bool} (h : ts.find? pq = none) : (ts.filter fun t => !pq t) = ts := by
  rw [List.find?_eq_none] at h
  exact List.filter_eq_self.2 fun y hy => by simp [h y hy]
theorem clr_take {zs : List Ix.Rec} {n i : Nat} {sp : List Value} (_ : zs.length = n) (hi : i ≤ zs.length) : (zs.flatMap recC ++ sp).take (0 + i * 2) = (zs.take i).flatMap recC := by
  have h1 : zs.flatMap recC = (zs.take i).flatMap recC ++ (zs.drop i).flatMap recC := by rw [← List.flatMap_append, List.take_append_drop]
  have h2 : ((zs.take i).flatMap recC).length = 0 + i * 2 := by rw [flat_len recC_len, List.length_take, Nat.min_eq_left hi]; omega
  rw [h1, List.append_assoc, ← h2, List.take_left]
theorem idx_before {pq : Ix.Rec → Bool} : ∀ {l : List Ix.Rec} {k : Nat}, idxI pq l = (k : Int) → ∀ y ∈ l.take k, pq y = false := fun {l k} h => by
  unfold idxI at h
  cases hf : l.findIdx? pq with
  | none => rw [hf] at h; simp only at h; omega
  | some j =>
    rw [hf] at h
    have hj : j = k := by simp only at h; omega
    subst hj
    obtain ⟨h1, h2, h3⟩ := List.findIdx?_eq_some_iff_getElem.1 hf
    intro y hy
    obtain ⟨i, hi, rfl⟩ := List.mem_iff_getElem.1 hy
    have hi' : i < j := by rw [List.length_take] at hi; omega
    have := h3 i hi'
    rw [List.getElem_take]
    simpa using this
theorem DeleteR_some {base : Nat} (b c : Nat) (sp : List Value) (ts : List Ix.Rec) (hg : gOk base 2 ts.length (ts.flatMap recC) (some (b, c, sp))) (pq : Ix.Rec → Bool) (g : Nat) (cap : List Value) (hl : ts.length ≤ 100000000000000) (I : Heap) (hcl : ∀ J, Le I J → ∀ x ∈ ts, Pure Tryz.prog g (kvR x :: cap) J (.bool (pq x))) : Ctr Tryz.prog 80 [.slice (some ⟨b, 0, none⟩) ts.length c, .func (.func g) #[] cap.toArray] I [(b, cel 54 (ts.flatMap recC ++ sp))]
    (fun e _ H' => ∃ g' : Gs, gOk 0 2 (ts.filter fun t => !pq t).length ((ts.filter fun t => !pq t).flatMap recC) g' ∧ e = .returned (gV (ts.filter fun t => !pq t).length g') ∧ H' = gH 54 ((ts.filter fun t => !pq t).flatMap recC) g') := by
 have hc : ts.length ≤ c := by
   obtain ⟨_, h2, h3⟩ := hg
   rw [flat_len recC_len] at h3; omega
 obtain ⟨-, hgl2, hgl3⟩ := id hg
 refine xob func80 fun w0 hw0 => ?_
 refine axn 9 ?_
 refine J.pull Pull.z ?_
 refine xca (IndexFuncR_own b c sp ts hc pq g cap hl _ hcl) ?_
 intro v1 I2 H3 hle4 hp5
 have hcl := fun J9 h9 => hcl J9 (Le.trans hle4 h9)
 obtain ⟨h, rfl⟩ := hp5; cases h
 refine axc (fun hc6 hc6p => ?_) (fun hc6 hc6p => ?_)
 ·
  have hnone : ts.find? pq = none := by
   rcases idxI_cases pq ts with h | ⟨k, x, h1, -, -⟩
   · exact h.2
   have h9 := eq_of_beq hc6; rw [h1] at h9; omega
  refine axe ?_
  rw [keep_all hnone]
  exact ⟨some (b, c, sp), gOk_zero hg, rfl, rfl⟩
 obtain ⟨k, x0, hkk, hget0, hfind⟩ := (idxI_cases pq ts).resolve_left (fun h => by have h9 := ne_of_beq_false hc6; exact h9 h.1)
 have hbef := idx_before hkk
 have hp0 : pq x0 = true := by have := List.find?_some hfind; exact this
 have hklt := (List.getElem?_eq_some_iff.1 hget0).1
 rw [hkk]
 refine axn 11 ?_
 refine Cj.loop (ι := DL) (fun y => y.i < y.j ∧ y.j ≤ ts.length ∧ y.zs.length = ts.length ∧ y.zs.take y.i = (ts.take y.j).filter (fun t => !pq t) ∧ y.zs.drop y.j = ts.drop y.j) (fun y => ts.length - y.j) (fun y => [(0, .slice (some ⟨b, 0, none⟩) ts.length c), (1, .func (.func g) #[] cap.toArray), (5, i64 (y.i : Int)), (6, i64 (y.j : Int))]) (fun y => _) (fun y => [(b, cel 54 (y.zs.flatMap recC ++ sp))]) ⟨k, k + 1, ts⟩ ⟨Nat.lt_succ_self k, by dsimp only; omega, rfl, by dsimp only; exact (del_first hget0 hp0 hbef).symm, rfl⟩ ⟨rfl, rfl, rfl, rfl, trivial⟩ rfl rfl ?_
 rintro ⟨i, j, zs⟩ ⟨hij, hj, hzl, htk, hdr⟩
 dsimp only at hij hj hzl htk hdr ⊢
 refine axc (fun hc7 hc7p => ?_) (fun hc7 hc7p => ?_)
 ·
  have hlt : j < ts.length := by omega
  obtain ⟨x, hget⟩ : ∃ x, ts[j]? = some x := ⟨_, List.getElem?_eq_getElem hlt⟩
  have hzget : zs[j]? = some x := by rw [← hget, ← Nat.add_zero j, ← List.getElem?_drop, ← List.getElem?_drop, hdr]
  refine xix (0 + j * 2) ?_
  refine J.z (yl_loadAgg rfl rfl isAgg54 sizeOf54 (Blk.at 0 rfl) (row_from recC_len (o := 0) rfl hzget) rfl) ?_
  refine axn 1 ?_
  intro b8 hb8
  refine xpu (hcl _ (Le.refl _) x (List.mem_of_getElem? hget)) ?_
  refine ax0 (fun hc9 => ?_) (fun hc9 => ?_)
  ·
   have hnd : pq x = false := by have h := hc9; simpa using h
   refine xix (i * 2) ?_
   refine J.op rfl (op_store 1 rfl rfl rfl rfl rfl rfl sizeOf54 rfl rfl (row_spl (x := x) recC_len (by omega)) (LSet.s LSet.z) ?_)
   refine axn 14 ?_
   refine Ej.keep (Keeps.d (Keeps.k Keeps.n)) ?_
   refine Ej.round ⟨i + 1, j + 1, zs.set i x⟩ ⟨by dsimp only; omega, by dsimp only; omega, by dsimp only; rw [List.length_set]; exact hzl, by dsimp only; exact del_keep hij htk hdr hget hnd hzl, by dsimp only; rw [List.drop_set_of_lt (by omega), ← List.drop_drop, hdr, List.drop_drop]⟩ (by dsimp only; omega) ⟨rfl, rfl, rfl, rfl, trivial⟩ rfl rfl
  have hnd : pq x = true := by have h := hc9; simpa using h
  refine axn 8 ?_
  refine Ej.keep (Keeps.d (Keeps.k Keeps.n)) ?_
  refine Ej.round ⟨i, j + 1, zs⟩ ⟨by dsimp only; omega, by dsimp only; omega, hzl, by dsimp only; exact del_skip htk hget hnd, by dsimp only; rw [← List.drop_drop, hdr, List.drop_drop]⟩ (by dsimp only; omega) ⟨rfl, rfl, rfl, rfl, trivial⟩ rfl rfl
 refine axn 9 ?_
 refine J.z (yl_slice1 (j := i) rfl rfl rfl underlying36 sizeOf54 rfl (by omega) (by omega)) ?_
 refine J.ev 38 (.slice (some ⟨b, 0 + i * 2, none⟩) (ts.length - i) (c - i)) rfl (by unfold cutA; rw [if_neg (by omega), Option.map_some, Addr.add_lit]) ?_
 refine J.op rfl (op_clear (sz := 2) 0 rfl rfl rfl (by omega) underlying36 zeroValue54 rfl (by decide) rfl rfl (by rw [List.length_append, flat_len recC_len, hzl]; omega) ?_)
 rintro zvs H9 hzl9 ⟨-, hset⟩
 simp only [List.set_cons_zero] at hset
 subst hset
 refine axn 3 ?_
 have hzv := hzl9
 refine axn 3 ?_
 refine J.z (yl_slice0 (k := i) rfl rfl rfl underlying36 sizeOf54 rfl (by omega)) ?_
 refine axe ?_
 have htf : (ts.filter fun t => !pq t) = zs.take i := by rw [htk, List.take_of_length_le (by omega : ts.length ≤ j)]
 have hil : (zs.take i).length = i := by rw [List.length_take]; omega
 rw [htf, hil]
 refine ⟨some (b, c, zvs ++ (zs.flatMap recC ++ sp).drop (0 + i * 2 + (ts.length - i) * 2)), ⟨Nat.zero_le _, by rw [flat_len recC_len, hil], ?_⟩, rfl, ?_⟩
 · rw [flat_len recC_len, hil, List.length_append, hzv, List.length_drop, List.length_append, flat_len recC_len, hzl]; omega
 show [_] = [_]
 rw [clr_take hzl (by omega : i ≤ zs.length), List.append_assoc]
end Go.Proofs.YtekmeaoblpfnpaaGreatDoor
end
section
set_option maxHeartbeats 40000000
namespace Go.Proofs.YtekmeaoblpfnpaaGreatDoor
open _root_.Go.Proofs.Tryz
open Go Go.Sx
abbrev OwnT (l : List Ix.Rec) (v : Value) (H : HL) : Prop := OwnR 54 recC l v H
theorem own_g {base n : Nat} {l : List Ix.Rec} {g : Gs} (hn : n = l.length) (hg : gOk base 2 n (l.flatMap recC) g) : OwnT l (gV n g) (gH 54 (l.flatMap recC) g) := OwnR.of_g recC_len (by decide) hn hg
theorem own_nil : OwnT [] (.slice none 0 0) [] := .inl ⟨rfl, rfl, rfl⟩
theorem word_no {L : Ix.Ix} {n s : List UInt8} (h : (Ke.words s).length ≠ 1) : Ix.word L n s = [] := if_neg h
theorem word_one {L : Ix.Ix} {n s w : List UInt8} (h : Ke.words s = [w]) : Ix.word L n s = Ix.phrase L n [w] := by
  unfold Ix.word; rw [h]; rfl
theorem one_of {l : Ke.Row} {w : List UInt8} (h : l.length = 1) (hw : l[0]? = some w) : l = [w] := by
  match l, h with
  | [a], _ => simp at hw; rw [hw]
theorem phrase_cut {L : Ix.Ix} (hs : Ix.Srt L) (n x : List UInt8) (w : Ke.Row) : (Ix.phrase L n [x]).filter (fun t => !lacks L n (x :: w) t) = Ix.phrase L n (x :: w) :=
  Ix.phrase_of n x w _ hs fun t vs hg => by unfold lacks; rw [hg, Bool.not_not]; rfl
theorem sortOf_at {L : Ix.Ix} {t : Ix.Rec} : Ix.sortOf L t = match ((Ix.rget L t).getD []).find? fun v => decide (v.name = Ix.nTitle) with
    | none => []
    | some v => v.key := by
  unfold Ix.sortOf
  cases Ix.rget L t with
  | none => rfl
  | some vs => rfl
theorem find_map {α β : Type} (f : α → β) (p : β → Bool) (l : List α) : (l.map f).find? p = (l.find? fun x => p (f x)).map f := by
  induction l with
  | nil => rfl
  | cons a r ih =>
    rw [List.map_cons, List.find?_cons, List.find?_cons]
    cases p (f a) with
    | true => rfl
    | false => exact ih
theorem ixp_parts {I : Heap} {ib : Nat} {L : Ix.Ix} (h : IxP I ib L) (t : Ix.Rec) : VOK ((Ix.rget L t).getD []) := by
  obtain ⟨o, h1, _⟩ := h
  cases o with
  | none => rw [show L = [] from h1]; exact ⟨Nat.zero_le _, fun _ h => by cases h⟩
  | some s => exact rget_vok (IstOk.srt h1) (IstOk.vok h1) t
theorem keyOf_ok (n s : List UInt8) (hs : s.length ≤ 100000000) (I : Heap) : Pure Tryz.prog 85 [str n, str s] I (str (Ix.keyOf n s)) := by
 refine Ctr.toPure ?_
 have hil := isbn_len s
 refine xob func85 fun w0 hw0 => ?_
 refine xpu (Isbn_ok s hs _) ?_
 refine axh (fun hg1 => ?_) (fun hg1 => ?_)
 ·
  refine axc (fun hc2 hc2p => ?_) (fun hc2 hc2p => ?_)
  ·
   have hk : Ix.keyOf n s = Ke.sortKey (Ke.isbn s).1 0 := if_pos ⟨hg1, eq_of_beq hc2⟩
   refine xpu (Sort_ok (Ke.isbn s).1 0 (by omega) _) ?_
   refine axe ?_
   rw [hk]
   exact ⟨rfl, rfl⟩
  have hk : Ix.keyOf n s = Ke.sortKey s 0 := if_neg (fun g => ne_of_beq_false hc2 g.2)
  refine xpu (Sort_ok s 0 hs _) ?_
  refine axe ?_
  rw [hk]
  exact ⟨rfl, rfl⟩
 have hk : Ix.keyOf n s = Ke.sortKey s 0 := if_neg (fun g => Bool.noConfusion (g.1.symm.trans hg1))
 refine xpu (Sort_ok s 0 hs _) ?_
 refine axe ?_
 rw [hk]
 exact ⟨rfl, rfl⟩
theorem Word_ok (ib : Nat) (L : Ix.Ix) (n s : List UInt8) (hs : s.length ≤ 100000000) (I : Heap) (hx : IxP I ib L) : Ctr Tryz.prog 32 [ptr ib 0, str n, str s] I [] (fun e _ H' => ∃ v, e = .returned v ∧ OwnT (Ix.word L n s) v H') := by
 have hsrt := hx.srt
 have hbig := hx.big
 obtain ⟨vm, wm, km, hib, hV, hW, hK⟩ := hx.parts
 have hwl := (Ke.words_len s).1
 refine xob func32 fun w0 hw0 => ?_
 refine xca (Words_ok s (by omega) _) ?_
 intro v1 I2 H3 hle4 hp5
 have hib := hle4 _ _ hib
 have hW := hW.mono hle4
 obtain ⟨wv, h, hw, rfl⟩ := hp5; cases h
 obtain ⟨wp, wc, rfl⟩ := StrS_sl hw
 refine axc (fun hc6 hc6p => ?_) (fun hc6 hc6p => ?_)
 ·
  have hne1 : (Ke.words s).length ≠ 1 := by have h := bne_iff_ne.1 hc6; omega
  refine axn 7 ?_
  rw [word_no hne1]
  refine axr ?_
  exact ⟨_, rfl, own_nil⟩
 have hl1 : (Ke.words s).length = 1 := by have h := bne_f hc6; omega
 obtain ⟨w1, hget⟩ : ∃ w, (Ke.words s)[0]? = some w := ⟨_, List.getElem?_eq_getElem (by omega)⟩
 have hw1 := one_of hl1 hget
 obtain ⟨wb, wc1, wsp, hwe, hwb⟩ := hw.some (ne_nil_of (by omega : 0 < (Ke.words s).length))
 cases hwe
 refine axn 3 ?_
 refine Cj.drawSel [] [] 11 (by kernel_rfl) ?_
 have hib_4 := hib
 have hwb_4 := hwb
 refine xix 0 ?_
 refine JA.zt 7 rfl (yl_load rfl rfl isAgg9 (Blk.immC hwb_4) (str_get hget)) ?_
 refine JA.fix fxA (fun fx7 => ?_)
 refine JA.tk 8 rfl fx7 (yl_buildS (pl := #[(0, 1), (1, 1)]) rfl rfl zeroValue152 rfl underlying152 (fun w => by simp [sizeOf9]) (LBld.part rfl rfl rfl (LSpl.c LSpl.z) (LBld.part rfl rfl rfl (LSpl.s (LSpl.c LSpl.z)) LBld.none))) ?_
 refine xca (titles_ok wm _ L (n, w1) _ hW hsrt hbig (cnt_in hsrt _)) ?_
 intro v8 I9 H10 hle11 hp12
 have hib := hle11 _ _ hib
 have hW := hW.mono hle11
 have hw := hw.mono hle11
 obtain ⟨ts, g, hpw, hmem, hg, h, rfl⟩ := hp12; cases h
 refine axn 5 ?_
 have hts := Ix.titles_word hsrt hpw hmem
 rw [word_one hw1]
 subst hts
 refine Ej.keep (H' := gH _ _ g) (List.sublist_append_left _ _) ?_
 refine axe ?_
 exact ⟨_, rfl, own_g rfl hg⟩
theorem Key_ok (ib : Nat) (L : Ix.Ix) (n s : List UInt8) (hs : s.length ≤ 100000000) (I : Heap) (hx : IxP I ib L) : Ctr Tryz.prog 34 [ptr ib 0, str n, str s] I [] (fun e _ H' => ∃ v, e = .returned v ∧ OwnT (Ix.withK L n (Ix.keyOf n s)) v H') := by
 have hsrt := hx.srt
 have hbig := hx.big
 obtain ⟨vm, wm, km, hib, hV, hW, hK⟩ := hx.parts
 refine xob func34 fun w0 hw0 => ?_
 refine axn 16 ?_
 refine Cj.drawSel [] [] 11 (by kernel_rfl) ?_
 have hib_3 := hib
 refine xpu (keyOf_ok n s hs _) ?_
 refine ⟨fx0, ?_⟩
 refine JA.fix fxA (fun fx3 => ?_)
 refine JA.tk 8 rfl fx3 (yl_buildS (pl := #[(0, 1), (1, 1)]) rfl rfl zeroValue152 rfl underlying152 (fun w => by simp [sizeOf9]) (LBld.part rfl rfl rfl (LSpl.c LSpl.z) (LBld.part rfl rfl rfl (LSpl.s (LSpl.c LSpl.z)) LBld.none))) ?_
 refine xca (titles_ok km _ L (n, Ix.keyOf n s) _ hK hsrt hbig (cnt_in hsrt _)) ?_
 intro v4 I5 H6 hle7 hp8
 have hib := hle7 _ _ hib
 have hK := hK.mono hle7
 obtain ⟨ts, g, hpw, hmem, hg, h, rfl⟩ := hp8; cases h
 refine axn 5 ?_
 have hts := Ix.titles_key hsrt hpw hmem
 subst hts
 refine Ej.keep (H' := gH _ _ g) (List.sublist_append_left _ _) ?_
 refine axe ?_
 exact ⟨_, rfl, own_g rfl hg⟩
theorem DeleteR_none (pq : Ix.Rec → Bool) (g : Nat) (cap : List Value) (I : Heap) : Ctr Tryz.prog 80 [.slice none 0 0, .func (.func g) #[] cap.toArray] I [] (fun e _ H' => e = .returned (.slice none 0 0) ∧ H' = []) := by
 refine xob func80 fun w0 hw0 => ?_
 refine xpu (IndexFuncR_ok [] _ pq g cap (by decide) _ RowS.nil (fun x hx => by cases hx)) ?_
 refine J.ev 10 (i64 (-1)) rfl rfl ?_
 refine axe ?_
 exact ⟨rfl, rfl⟩
theorem phrase1_ok (xb nb lb ib : Nat) (vm wm km : Option Nat) (L : Ix.Ix) (n : List UInt8) (w : List (List UInt8)) (wv : Value) (t : Ix.Rec) (I : Heap) (hs : Ix.Srt L) (hvk : VOK ((Ix.rget L t).getD [])) (hwl : w.length ≤ 1000000000) (hw : StrS 9 I w wv) (hxb : I xb = some (cel 26 [ptr ib 0])) (hnb : I nb = some (cel 9 [str n])) (hlb : I lb = some (cel 69 [wv])) (hib : I ib = some (cel 114 [.map vm, .map wm, .map km])) (hV : ValP I vm L) : Pure Tryz.prog 81 [kvR t, ptr xb 0, ptr nb 0, ptr lb 0] I (.bool (lacks L n w t)) := by
  rcases hV with ⟨rfl, hL⟩ | ⟨b, l, c, rfl, hms, hvm, hb⟩
  · exact phrase1_none xb nb lb ib wm km L n w wv t I hs hvk hwl hw hxb hnb hlb hib hL
  exact phrase1_some xb nb lb ib b l c wm km L n w wv t I hs hvk hwl hw hxb hnb hlb hib hb hms hvm
theorem DeleteR_ok {base : Nat} (ts : List Ix.Rec) (g : Gs) (hg : gOk base 2 ts.length (ts.flatMap recC) g) (pq : Ix.Rec → Bool) (f : Nat) (cap : List Value) (hl : ts.length ≤ 100000000000000) (I : Heap) (hcl : ∀ J, Le I J → ∀ x ∈ ts, Pure Tryz.prog f (kvR x :: cap) J (.bool (pq x))) : Ctr Tryz.prog 80 [gV ts.length g, .func (.func f) #[] cap.toArray] I (gH 54 (ts.flatMap recC) g)
    (fun e _ H' => ∃ g' : Gs, gOk 0 2 (ts.filter fun t => !pq t).length ((ts.filter fun t => !pq t).flatMap recC) g' ∧ e = .returned (gV (ts.filter fun t => !pq t).length g') ∧ H' = gH 54 ((ts.filter fun t => !pq t).flatMap recC) g') := by
  cases g with
  | none =>
    have h0 : ts = [] := List.length_eq_zero_iff.1 hg.1
    subst h0
    exact (DeleteR_none pq f cap I).mono fun e I' H' _ ⟨h1, h2⟩ => ⟨none, ⟨rfl, rfl⟩, h1, h2⟩
  | some q =>
    obtain ⟨b, c, sp⟩ := q
    exact DeleteR_some b c sp ts hg pq f cap hl I hcl
theorem phr_len {L : Ix.Ix} (_hs : Ix.Srt L) (hL : L.length ≤ 100000) (n : List UInt8) (w : Ke.Row) : (Ix.phrase L n w).length ≤ 100000000000000 := by
  unfold Ix.phrase
  split
  · simp
  rw [List.length_map]
  have := List.length_filter_le (fun e : Ix.Rec × List Ix.V => Ix.hasW n w e.2) L
  omega
theorem PhraseG_ok (ib : Nat) (L : Ix.Ix) (n s : List UInt8) (hs : s.length ≤ 100000000) (I : Heap) (hx : IxP I ib L) : Ctr Tryz.prog 33 [ptr ib 0, str n, str s] I [] (fun e _ H' => ∃ g, gOk 0 2 (Ix.phrase L n (Ke.words s)).length ((Ix.phrase L n (Ke.words s)).flatMap recC) g ∧ e = .returned (gV (Ix.phrase L n (Ke.words s)).length g) ∧ H' = gH 54 ((Ix.phrase L n (Ke.words s)).flatMap recC) g) := by
 have hsrt := hx.srt
 have hbig := hx.big
 obtain ⟨vm, wm, km, hib, hV, hW, hK⟩ := hx.parts
 have hvok := fun t => ixp_parts hx t
 have hwl := (Ke.words_len s).1
 refine xob func33 fun w0 hw0 => ?_
 refine axn 3 ?_
 intro b1 hb1
 refine axn 1 ?_
 intro b2 hb2
 refine axn 4 ?_
 refine Cj.pull (Pull.s Pull.z) ?_
 refine Cj.persist hb1 (fun I4 hle3 hb1i => ?_)
 have hib := hle3 _ _ hib
 have hW := hW.mono hle3
 have hV := hV.mono hle3
 refine Cj.persist hb2 (fun I6 hle5 hb2i => ?_)
 have hib := hle5 _ _ hib
 have hW := hW.mono hle5
 have hV := hV.mono hle5
 have hb1i := hle5 _ _ hb1i
 refine xca (Words_ok s (by omega) _) ?_
 intro v7 I8 H9 hle10 hp11
 have hib := hle10 _ _ hib
 have hW := hW.mono hle10
 have hV := hV.mono hle10
 have hb1i := hle10 _ _ hb1i
 have hb2i := hle10 _ _ hb2i
 obtain ⟨wv, h, hw, rfl⟩ := hp11; cases h
 obtain ⟨wp, wc, rfl⟩ := StrS_sl hw
 refine axn 1 ?_
 intro b12 hb12
 refine axn 5 ?_
 refine Cj.persist hb12 (fun I14 hle13 hb12i => ?_)
 have hib := hle13 _ _ hib
 have hW := hW.mono hle13
 have hV := hV.mono hle13
 have hb1i := hle13 _ _ hb1i
 have hb2i := hle13 _ _ hb2i
 have hw := hw.mono hle13
 refine axc (fun hc15 hc15p => ?_) (fun hc15 hc15p => ?_)
 ·
  refine axn 7 ?_
  rw [show Ix.phrase L n (Ke.words s) = [] from if_pos (List.length_eq_zero_iff.1 (by have h := eq_of_beq hc15; omega))]
  refine axr ?_
  exact ⟨none, ⟨rfl, rfl⟩, rfl, rfl⟩
 have hl0 : (Ke.words s).length ≠ 0 := by have h := ne_of_beq_false hc15; omega
 obtain ⟨x, w, hxw⟩ : ∃ x w, Ke.words s = x :: w := by
  cases hc : Ke.words s with
  | nil => rw [hc] at hl0; exact absurd rfl hl0
  | cons a r => exact ⟨a, r, rfl⟩
 have hget : (Ke.words s)[0]? = some x := by rw [hxw]; rfl
 obtain ⟨wb, wc1, wsp, hwe, hwb⟩ := hw.some (ne_nil_of (by omega : 0 < (Ke.words s).length))
 cases hwe
 refine axn 3 ?_
 refine Cj.drawSel [] [] 13 (by kernel_rfl) ?_
 have hib_4 := hib
 have hb1i_4 := hb1i
 have hb2i_4 := hb2i
 have hb12i_4 := hb12i
 have hwb_4 := hwb
 refine axn 6 ?_
 refine JA.fix fxA (fun fx16 => ?_)
 refine JA.tk 6 rfl fx16 (yl_indexAddr (off' := 0) rfl rfl rfl underlying69 sizeOf9 (by decide) (by omega) (by simp)) ?_
 refine JA.tk 7 rfl fx16 (yl_load rfl rfl isAgg9 (Blk.immC hwb_4) (str_get hget)) ?_
 refine JA.tk 8 rfl fx16 (yl_buildS (pl := #[(0, 1), (1, 1)]) rfl rfl zeroValue152 rfl underlying152 (fun w => by simp [sizeOf9]) (LBld.part rfl rfl rfl (LSpl.c LSpl.z) (LBld.part rfl rfl rfl (LSpl.s (LSpl.c LSpl.z)) LBld.none))) ?_
 refine JA.tk 10 rfl fx16 (yl_makeFunc rfl rfl rfl) ?_
 refine q0 9 rfl (op_call (H1 := []) rfl rfl rfl rfl rfl (titles_ok wm _ L (n, x) _ hW hsrt hbig (cnt_in hsrt _)) ?_ (fun _ _ _ _ ⟨_, _, _, _, _, h, _⟩ => by cases h) (fun _ _ ⟨_, _, _, _, _, h, _⟩ => by cases h))
 intro v17 I18 H19 hle20 hp21
 have hib := hle20 _ _ hib
 have hW := hW.mono hle20
 have hV := hV.mono hle20
 have hb1i := hle20 _ _ hb1i
 have hb2i := hle20 _ _ hb2i
 have hw := hw.mono hle20
 have hb12i := hle20 _ _ hb12i
 have hwb := hle20 _ _ hwb
 obtain ⟨ts, g, hpw, hmem, hg, h, rfl⟩ := hp21; cases h
 have hts := Ix.titles_word hsrt hpw hmem
 have hg2 := hg
 refine ⟨⟨(Le.trans (Le.refl _) hle20), HSub.n, CSub.n⟩, ?_⟩
 refine q0 11 rfl (op_callR (H1 := gH 54 (ts.flatMap recC) g) [] (List.append_nil _) rfl rfl rfl rfl rfl (DeleteR_ok ts g hg2 (lacks L n (Ke.words s)) _ [ptr b1 0, ptr b2 0, ptr b12 0] (by rw [hts]; exact phr_len hsrt hbig _ _) _ (fun J9 h9 t _ => phrase1_ok b1 b2 b12 ib vm wm km L n (Ke.words s) _ t J9 hsrt (hvok t) (by omega) (hw.mono h9) (h9 _ _ hb1i) (h9 _ _ hb2i) (h9 _ _ hb12i) (h9 _ _ hib) (hV.mono h9))) ?_ (fun _ _ _ _ ⟨_, _, h, _⟩ => by cases h) (fun _ _ ⟨_, _, h, _⟩ => by cases h))
 rintro v9 I9 H9 hle9 ⟨g9, hg9, h, rfl⟩; cases h
 have hib := hle9 _ _ hib
 have hW := hW.mono hle9
 have hV := hV.mono hle9
 have hb1i := hle9 _ _ hb1i
 have hb2i := hle9 _ _ hb2i
 have hw := hw.mono hle9
 have hb12i := hle9 _ _ hb12i
 have hwb := hle9 _ _ hwb
 refine ⟨⟨(Le.trans (Le.trans (Le.refl _) hle20) hle9), HSub.n, CSub.n⟩, ?_⟩
 refine JA.fix fxA (fun fx22 => ?_)
 refine JA.tk 12 rfl fx22 (yl_assign rfl rfl) ?_
 refine JA.done (by kernel_rfl) ?_
 refine Ej.seq (Cj.ret ?_)
 rw [hts, hxw, phrase_cut hsrt n x w] at *
 refine Ej.ret1 rfl rfl rfl ?_
 exact ⟨g9, hg9, rfl, rfl⟩
theorem Phrase_ok (ib : Nat) (L : Ix.Ix) (n s : List UInt8) (hs : s.length ≤ 100000000) (I : Heap) (hx : IxP I ib L) : Ctr Tryz.prog 33 [ptr ib 0, str n, str s] I [] (fun e _ H' => ∃ v, e = .returned v ∧ OwnT (Ix.phrase L n (Ke.words s)) v H') :=
  (PhraseG_ok ib L n s hs I hx).mono fun _ _ _ _ ⟨_, h1, h2, h3⟩ => ⟨_, h2, by rw [h3]; exact own_g rfl h1⟩
end Go.Proofs.YtekmeaoblpfnpaaGreatDoor
end
