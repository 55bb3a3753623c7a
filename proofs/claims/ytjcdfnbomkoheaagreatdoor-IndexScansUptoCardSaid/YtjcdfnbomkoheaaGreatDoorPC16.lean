/-
  Own texts on the laws of the seat, joined: the logic, and contracts of functions. Conditions: none.
-/
import Derived.Test.YtjcdfnbomkoheaaGreatDoorPC15
import Derived.Test.YtjcdfnbomkoheaaGreatDoorPC7
import Derived.Test.YtjcdfnbomkoheaaGreatDoorPC2
set_option maxRecDepth 100000
set_option maxHeartbeats 4000000
section
namespace Go.Proofs.YtjcdfnbomkoheaaGreatDoor
open _root_.Go.Proofs.Tryz
open Go Go.Sx
def ss2 : List Ke.Sub := [⟨97, [83, 101, 97, 32, 115, 116, 111, 114, 105, 101, 115]⟩]
def ff2 (w : Value) : Ke.Fld := ⟨[50, 52, 53], [49, 48], [], w, ss2⟩
def ss4 : List Ke.Sub := [⟨97, [87, 111, 111, 108, 102, 44, 32, 86, 105, 114, 103, 105, 110, 105, 97]⟩]
def ff4 (w : Value) : Ke.Fld := ⟨[49, 48, 48], [49, 32], [], w, ss4⟩
def ss6 : List Ke.Sub := [⟨97, [83, 101, 97]⟩, ⟨120, [72, 105, 115, 116, 111, 114, 121]⟩]
def ff6 (w : Value) : Ke.Fld := ⟨[54, 53, 48], [32, 48], [], w, ss6⟩
def ss12 : List Ke.Sub := [⟨97, [84, 104, 101, 32, 115, 101, 97, 32, 58]⟩, ⟨98, [97, 32, 115, 116, 111, 114, 121]⟩]
def ff12 (w : Value) : Ke.Fld := ⟨[50, 52, 53], [49, 52], [], w, ss12⟩
def ss14 : List Ke.Sub := [⟨97, [48, 45, 51, 48, 54, 45, 52, 48, 54, 49, 53, 45, 50]⟩]
def ff14 (w : Value) : Ke.Fld := ⟨[48, 50, 48], [32, 32], [], w, ss14⟩
def ss16 : List Ke.Sub := [⟨99, [99, 49, 57, 57, 57, 46]⟩]
def ff16 (w : Value) : Ke.Fld := ⟨[50, 54, 48], [32, 32], [], w, ss16⟩
def fs1 (a b c : Value) : List Ke.Fld := [ff2 a, ff4 b, ff6 c]
def fs2 (a b c : Value) : List Ke.Fld := [ff12 a, ff14 b, ff16 c]
def ns1 : List Ke.Fld := fs1 (.slice none 0 0) (.slice none 0 0) (.slice none 0 0)
def ns2 : List Ke.Fld := fs2 (.slice none 0 0) (.slice none 0 0) (.slice none 0 0)
def LS : Ix.Ix := [((1, 1), Ix.vals ns2), ((2, 1), Ix.vals ns1)]
theorem vals1_n (a b c : Value) : Ix.vals (fs1 a b c) = Ix.vals ns1 := by rw [← vals_nrm]; rfl
theorem vals2_n (a b c : Value) : Ix.vals (fs2 a b c) = Ix.vals ns2 := by rw [← vals_nrm]; rfl
theorem eok1 (a b c : Value) : EOK (fs1 a b c) := ⟨of_decide_eq_true rfl, fun f hf => by
  simp only [fs1, List.mem_cons, List.not_mem_nil, or_false] at hf
  rcases hf with rfl | rfl | rfl <;> exact ⟨of_decide_eq_true rfl, of_decide_eq_true rfl, of_decide_eq_true rfl⟩⟩
theorem eok2 (a b c : Value) : EOK (fs2 a b c) := ⟨of_decide_eq_true rfl, fun f hf => by
  simp only [fs2, List.mem_cons, List.not_mem_nil, or_false] at hf
  rcases hf with rfl | rfl | rfl <;> exact ⟨of_decide_eq_true rfl, of_decide_eq_true rfl, of_decide_eq_true rfl⟩⟩
def fStrs (l : List (List UInt8)) : Fact := ⟨fun v I => StrP I l v, fun _ _ _ h hle => h.mono hle⟩
def fFld (f : Value → Ke.Fld) (ss : List Ke.Sub) : Fact := ⟨fun v I => ∃ w, v = .agg (fldC (f w)).toArray ∧ RowS subC I ss w, fun _ _ _ ⟨w, h1, h2⟩ hle => ⟨w, h1, h2.mono hle⟩⟩
def fRow (fs : Value → Value → Value → List Ke.Fld) : Fact := ⟨fun v I => ∃ a b c, RecS I (fs a b c) v, fun _ _ _ ⟨a, b, c, h⟩ hle => ⟨a, b, c, h.mono hle⟩⟩
def fRcd (fs : Value → Value → Value → List Ke.Fld) : Fact := ⟨fun v I => ∃ w a b c, v = recV 0 0 w ∧ RecS I (fs a b c) w, fun _ _ _ ⟨w, a, b, c, h1, h⟩ hle => ⟨w, a, b, c, h1, h.mono hle⟩⟩
def fEnt (t : Ix.Rec) (fs : Value → Value → Value → List Ke.Fld) : Fact := ⟨fun v I => ∃ w a b c, v = .agg (entC ⟨t, 0, 0, w, fs a b c⟩).toArray ∧ RecS I (fs a b c) w, fun _ _ _ ⟨w, a, b, c, h1, h⟩ hle => ⟨w, a, b, c, h1, h.mono hle⟩⟩
def fEnts : Fact := ⟨fun v I => ∃ es, EntsS I es v ∧ es.length = 2 ∧ (∀ e ∈ es, EOK e.fs) ∧ Ix.rputs (es.map entL) [] = LS, fun _ _ _ ⟨es, h1, h2⟩ hle => ⟨es, h1.mono hle, h2⟩⟩
def fIxp : Fact := ⟨fun v I => ∃ ib, v = ptr ib 0 ∧ IxP I ib LS, fun _ _ _ ⟨ib, h1, h2⟩ hle => ⟨ib, h1, h2.mono hle⟩⟩
def fRecs (l : List Ix.Rec) : Fact := ⟨fun v I => RowS recC I l v, fun _ _ _ h hle => h.mono hle⟩
def fAny : Fact := ⟨fun _ _ => True, fun _ _ _ _ _ => trivial⟩
theorem strP_blk {I : Heap} {b : Nat} {l : List (List UInt8)} (h : I b = some (cel 9 (l.map str))) : StrP I l (.slice (some ⟨b, 0, none⟩) l.length l.length) :=
  strC_row.2 (RowS.of (sp := []) (Nat.le_refl _) (by rw [h, List.append_nil]; congr 1; congr 1; rw [← List.flatMap_singleton' (l.map str), List.flatMap_map]))
theorem one_ge {n b : Nat} {o : Obj} (h : n ≤ b) : ∀ p ∈ [(b, o)], n ≤ p.1 := fun p hp => by rw [List.mem_singleton.1 hp]; exact h
theorem none_ge {n : Nat} : ∀ p ∈ ([] : HL), n ≤ p.1 := fun p hp => by cases hp
theorem ls_eq (a b c x y z w u : Value) : Ix.rputs ([(⟨(2, 1), 0, 0, w, fs1 a b c⟩ : Ent), ⟨(1, 1), 0, 0, u, fs2 x y z⟩].map entL) [] = LS := by
  show Ix.rputs [((2, 1), Ix.vals (fs1 a b c)), ((1, 1), Ix.vals (fs2 x y z))] [] = LS
  rw [vals1_n, vals2_n]
  generalize hv : Ix.vals ns1 = v
  generalize hu : Ix.vals ns2 = u
  have : LS = [((1, 1), u), ((2, 1), v)] := by unfold LS; rw [hv, hu]
  rw [this]; rfl
def flow2 : Nat → Fact
  | 0 => .is (.agg #[i64 2, i64 1])
  | 1 => fStrs (prs ss2)
  | 2 => fFld ff2 ss2
  | 3 => fStrs (prs ss4)
  | 4 => fFld ff4 ss4
  | 5 => fStrs (prs ss6)
  | 6 => fFld ff6 ss6
  | 7 => fRow fs1
  | 8 => fRcd fs1
  | 9 => fEnt (2, 1) fs1
  | 10 => .is (.agg #[i64 1, i64 1])
  | 11 => fStrs (prs ss12)
  | 12 => fFld ff12 ss12
  | 13 => fStrs (prs ss14)
  | 14 => fFld ff14 ss14
  | 15 => fStrs (prs ss16)
  | 16 => fFld ff16 ss16
  | 17 => fRow fs2
  | 18 => fRcd fs2
  | 19 => fEnt (1, 1) fs2
  | 20 => fEnts
  | 21 => fIxp
  | 22 => fIxp
  | _ => fAny
def flow3 : Nat → Fact
  | 0 => .is (.agg #[i64 1, i64 1])
  | 1 => .is (.agg #[i64 2, i64 1])
  | 2 => fRecs [(1, 1), (2, 1)]
  | 3 => .is (.agg #[i64 1, i64 1])
  | 4 => fRecs [(1, 1)]
  | 5 => fRecs [(1, 1), (2, 1)]
  | 6 => fRecs [(1, 1)]
  | _ => fAny
theorem sw1 : Ix.word LS [116, 105, 116, 108, 101] [83, 69, 65] = [(1, 1), (2, 1)] := by decide +kernel
theorem sw2 : Ix.word LS [97, 110, 121] [115, 116, 111, 114, 121] = [(1, 1)] := by decide +kernel
theorem sw3 : Ix.word LS [97, 117, 116, 104, 111, 114] [115, 101, 97] = [] := by decide +kernel
theorem sw4 : Ix.phrase LS [116, 105, 116, 108, 101] (Ke.words [115, 101, 97, 32, 97, 32, 115, 116, 111, 114, 121]) = [(1, 1)] := by decide +kernel
theorem sw5 : Ix.phrase LS [116, 105, 116, 108, 101] (Ke.words [116, 104, 101, 32, 115, 116, 111, 114, 121]) = [] := by decide +kernel
theorem sw6 : Ix.withK LS [116, 105, 116, 108, 101] (Ix.keyOf [116, 105, 116, 108, 101] [83, 101, 97, 58, 32, 97, 32, 115, 116, 111, 114, 121]) = [(1, 1)] := by decide +kernel
theorem sw7 : Ix.withK LS [105, 115, 98, 110] (Ix.keyOf [105, 115, 98, 110] [57, 55, 56, 48, 51, 48, 54, 52, 48, 54, 49, 53, 55]) = [(1, 1)] := by decide +kernel
theorem sw8 : Ix.withK LS [121, 101, 97, 114] (Ix.keyOf [121, 101, 97, 114] [49, 57, 57, 57]) = [(1, 1)] := by decide +kernel
theorem sw9 : (Ix.scan LS [116, 105, 116, 108, 101] [115, 101, 97, 32, 98] 5).map lineI = [([115, 101, 97, 32, 115, 116, 111, 114, 105, 101, 115], 1)] := by decide +kernel
theorem sw10 : Ix.sortOf LS (1, 1) = [115, 101, 97, 32, 97, 32, 115, 116, 111, 114, 121] := by decide +kernel
theorem sanity_ok (I : Heap) : Pure Tryz.prog 13 [] I (.bool true) := by
 refine Ctr.toPure ?_
 refine Ctr.ob func13 ?_
 intro w0 hw0
 refine Cj.sr (J.z q1 ?_)
 refine J.nssr (J.z (yl_buildS (pl := #[(0, 1), (1, 1)]) rfl rfl zeroValue26 rfl underlying26 (fun w => by simp [sizeOf3]) (LBld.part rfl rfl rfl (LSpl.c LSpl.z) (LBld.part rfl rfl rfl (LSpl.s (LSpl.c LSpl.z)) LBld.none))) ?_)
 refine J.z (yl_buildS (pl := #[(0, 1), (1, 1)]) rfl rfl zeroValue26 rfl underlying26 (fun w => by simp [sizeOf3]) (LBld.part rfl rfl rfl (LSpl.c LSpl.z) (LBld.part rfl rfl rfl (LSpl.s (LSpl.c LSpl.z)) LBld.none))) ?_
 refine J.op rfl (op_alloc rfl rfl rfl zeroValue26 rfl ?_)
 intro b1 hb1
 refine J.op rfl (op_alloc rfl rfl rfl zeroValue26 rfl ?_)
 intro b2 hb2
 refine J.op rfl (q18 1 sizeOf26 (LSpl.c (LSpl.c LSpl.z)) (LSet.s LSet.z) ?_)
 refine J.op rfl (q18 0 sizeOf26 (LSpl.c (LSpl.c LSpl.z)) LSet.z ?_)
 refine J.nss (Cj.flow flow2 (by kernel_rfl) (by kernel_rfl) (by kernel_rfl) (fun k o d hk hd e I2 hle hba hdep => ?_) (fun e I2 hle hba hkn => ?_))
 ·
  match k, hk with
  | 0, hk =>
   obtain rfl := Option.some.inj hk
   obtain rfl := Option.some.inj hd
   have ht : eg e 2 = some (ptr b2 0) := (hba 2 (by decide)).trans rfl
   exact ⟨rfl, q2 (yl_loadAgg (vs := [i64 2, i64 1]) rfl ht isAgg26 sizeOf26 (Blk.at 0 rfl) rfl rfl) ⟨_, [], rfl, rfl, none_ge, Le.refl _, fun _ _ _ => rfl⟩⟩
  | 1, hk =>
   obtain rfl := Option.some.inj hk
   obtain rfl := Option.some.inj hd
   exact ⟨rfl, q13 underlying28 sizeOf9 zeroValue9 (LCat.one rfl (LCat.one rfl LCat.none)) (fun b hb => ⟨_, [(b, _)], rfl, rfl, one_ge hb, Le.refl _, fun I3 _ hK => strP_blk (l := prs ss2) (hK _ (.head _))⟩)⟩
  | 2, hk =>
   obtain rfl := Option.some.inj hk
   obtain rfl := Option.some.inj hd
   obtain ⟨va, ha, pa⟩ := hdep 1 (by kernel_rfl) _ _ rfl rfl
   refine ⟨rfl, op_callN (vs := [str [50, 52, 53], str [49, 48], va]) (fst := []) (cap := []) rfl rfl rfl rfl (by simp only [evs, ev, ha]; rfl) (field_ok [50, 52, 53] [49, 48] ss2 va (by decide) _ pa) (fun v I3 H3 hle3 _ hp => ?_) (fun _ _ _ _ ⟨_, h, _⟩ => nomatch h) (fun _ _ ⟨_, h, _⟩ => nomatch h)⟩
   obtain ⟨w, h, hw, rfl⟩ := hp; cases h
   exact ⟨_, [], rfl, rfl, none_ge, hle3, fun I4 hle4 _ => ⟨w, rfl, hw.mono hle4⟩⟩
  | 3, hk =>
   obtain rfl := Option.some.inj hk
   obtain rfl := Option.some.inj hd
   exact ⟨rfl, q13 underlying28 sizeOf9 zeroValue9 (LCat.one rfl (LCat.one rfl LCat.none)) (fun b hb => ⟨_, [(b, _)], rfl, rfl, one_ge hb, Le.refl _, fun I3 _ hK => strP_blk (l := prs ss4) (hK _ (.head _))⟩)⟩
  | 4, hk =>
   obtain rfl := Option.some.inj hk
   obtain rfl := Option.some.inj hd
   obtain ⟨va, ha, pa⟩ := hdep 3 (by kernel_rfl) _ _ rfl rfl
   refine ⟨rfl, op_callN (vs := [str [49, 48, 48], str [49, 32], va]) (fst := []) (cap := []) rfl rfl rfl rfl (by simp only [evs, ev, ha]; rfl) (field_ok [49, 48, 48] [49, 32] ss4 va (by decide) _ pa) (fun v I3 H3 hle3 _ hp => ?_) (fun _ _ _ _ ⟨_, h, _⟩ => nomatch h) (fun _ _ ⟨_, h, _⟩ => nomatch h)⟩
   obtain ⟨w, h, hw, rfl⟩ := hp; cases h
   exact ⟨_, [], rfl, rfl, none_ge, hle3, fun I4 hle4 _ => ⟨w, rfl, hw.mono hle4⟩⟩
  | 5, hk =>
   obtain rfl := Option.some.inj hk
   obtain rfl := Option.some.inj hd
   exact ⟨rfl, q13 underlying28 sizeOf9 zeroValue9 (LCat.one rfl (LCat.one rfl (LCat.one rfl (LCat.one rfl LCat.none)))) (fun b hb => ⟨_, [(b, _)], rfl, rfl, one_ge hb, Le.refl _, fun I3 _ hK => strP_blk (l := prs ss6) (hK _ (.head _))⟩)⟩
  | 6, hk =>
   obtain rfl := Option.some.inj hk
   obtain rfl := Option.some.inj hd
   obtain ⟨va, ha, pa⟩ := hdep 5 (by kernel_rfl) _ _ rfl rfl
   refine ⟨rfl, op_callN (vs := [str [54, 53, 48], str [32, 48], va]) (fst := []) (cap := []) rfl rfl rfl rfl (by simp only [evs, ev, ha]; rfl) (field_ok [54, 53, 48] [32, 48] ss6 va (by decide) _ pa) (fun v I3 H3 hle3 _ hp => ?_) (fun _ _ _ _ ⟨_, h, _⟩ => nomatch h) (fun _ _ ⟨_, h, _⟩ => nomatch h)⟩
   obtain ⟨w, h, hw, rfl⟩ := hp; cases h
   exact ⟨_, [], rfl, rfl, none_ge, hle3, fun I4 hle4 _ => ⟨w, rfl, hw.mono hle4⟩⟩
  | 7, hk =>
   obtain rfl := Option.some.inj hk
   obtain rfl := Option.some.inj hd
   obtain ⟨va, ha, pa⟩ := hdep 2 (by kernel_rfl) _ _ rfl rfl
   obtain ⟨wa, rfl, hwa⟩ := pa
   obtain ⟨vb, hb, pb⟩ := hdep 4 (by kernel_rfl) _ _ rfl rfl
   obtain ⟨wb, rfl, hwb⟩ := pb
   obtain ⟨vc, hc, pc⟩ := hdep 6 (by kernel_rfl) _ _ rfl rfl
   obtain ⟨wc, rfl, hwc⟩ := pc
   refine ⟨rfl, op_buildSlice (vs := [.agg (fldC (ff2 wa)).toArray, .agg (fldC (ff4 wb)).toArray, .agg (fldC (ff6 wc)).toArray]) rfl rfl rfl underlying33 sizeOf31 zeroValue31 rfl (by simp only [List.map, evs, ev, ha, hb, hc]) rfl rfl (LCat.agg rfl (LCat.agg rfl (LCat.agg rfl LCat.none))) (fun b hbb => ⟨_, [(b, _)], rfl, rfl, one_ge hbb, Le.refl _, fun I3 hle3 hK => ⟨wa, wb, wc, RowS.of (l := fs1 wa wb wc) (sp := []) (Nat.le_refl _) (hK _ (.head _)), fun f hf => ?_⟩⟩)⟩
   simp only [fs1, List.mem_cons, List.not_mem_nil, or_false] at hf
   rcases hf with rfl | rfl | rfl
   · exact hwa.mono hle3
   · exact hwb.mono hle3
   exact hwc.mono hle3
  | 8, hk =>
   obtain rfl := Option.some.inj hk
   obtain rfl := Option.some.inj hd
   obtain ⟨va, ha, pa⟩ := hdep 7 (by kernel_rfl) _ _ rfl rfl
   obtain ⟨wa, wb, wc, hw⟩ := pa
   obtain ⟨qp, qc, rfl⟩ := RowS.len hw.1
   exact ⟨rfl, op_yld (yl_buildS (vs := [.slice qp (fs1 wa wb wc).length qc]) (pl := #[(0, 1), (1, 1), (2, 1)]) rfl (by simp only [List.map, evs, ev, ha]) zeroValue35 rfl underlying35 (fun w => by simp [sizeOf33, sizeOf5]) (LBld.part rfl rfl rfl (LSpl.s (LSpl.s (LSpl.c LSpl.z))) LBld.none)) rfl rfl ⟨_, [], rfl, rfl, none_ge, Le.refl _, fun I3 hle3 _ => ⟨_, wa, wb, wc, rfl, hw.mono hle3⟩⟩⟩
  | 9, hk =>
   obtain rfl := Option.some.inj hk
   obtain rfl := Option.some.inj hd
   obtain ⟨va, ha, pa⟩ := hdep 0 (by kernel_rfl) _ _ rfl rfl
   have pa : va = .agg [i64 2, i64 1].toArray := pa
   subst pa
   obtain ⟨vb, hb, pb⟩ := hdep 8 (by kernel_rfl) _ _ rfl rfl
   obtain ⟨w, wa, wb, wc, rfl, hw⟩ := pb
   exact ⟨rfl, op_yld (yl_buildS (vs := [.agg [i64 2, i64 1].toArray, recV 0 0 w]) (pl := #[(0, 2), (2, 3)]) rfl (by simp only [List.map, evs, ev, ha, hb]) zeroValue37 rfl underlying37 (fun w => by simp [sizeOf26, sizeOf35]) (LBld.part rfl rfl rfl (LSpl.c (LSpl.c LSpl.z)) (LBld.part rfl rfl rfl (LSpl.s (LSpl.s (LSpl.c (LSpl.c (LSpl.c LSpl.z))))) LBld.none))) rfl rfl ⟨_, [], rfl, rfl, none_ge, Le.refl _, fun I3 hle3 _ => ⟨w, wa, wb, wc, rfl, hw.mono hle3⟩⟩⟩
  | 10, hk =>
   obtain rfl := Option.some.inj hk
   obtain rfl := Option.some.inj hd
   have ht : eg e 1 = some (ptr b1 0) := (hba 1 (by decide)).trans rfl
   exact ⟨rfl, q2 (yl_loadAgg (vs := [i64 1, i64 1]) rfl ht isAgg26 sizeOf26 (Blk.at 1 rfl) rfl rfl) ⟨_, [], rfl, rfl, none_ge, Le.refl _, fun _ _ _ => rfl⟩⟩
  | 11, hk =>
   obtain rfl := Option.some.inj hk
   obtain rfl := Option.some.inj hd
   exact ⟨rfl, q13 underlying28 sizeOf9 zeroValue9 (LCat.one rfl (LCat.one rfl (LCat.one rfl (LCat.one rfl LCat.none)))) (fun b hb => ⟨_, [(b, _)], rfl, rfl, one_ge hb, Le.refl _, fun I3 _ hK => strP_blk (l := prs ss12) (hK _ (.head _))⟩)⟩
  | 12, hk =>
   obtain rfl := Option.some.inj hk
   obtain rfl := Option.some.inj hd
   obtain ⟨va, ha, pa⟩ := hdep 11 (by kernel_rfl) _ _ rfl rfl
   refine ⟨rfl, op_callN (vs := [str [50, 52, 53], str [49, 52], va]) (fst := []) (cap := []) rfl rfl rfl rfl (by simp only [evs, ev, ha]; rfl) (field_ok [50, 52, 53] [49, 52] ss12 va (by decide) _ pa) (fun v I3 H3 hle3 _ hp => ?_) (fun _ _ _ _ ⟨_, h, _⟩ => nomatch h) (fun _ _ ⟨_, h, _⟩ => nomatch h)⟩
   obtain ⟨w, h, hw, rfl⟩ := hp; cases h
   exact ⟨_, [], rfl, rfl, none_ge, hle3, fun I4 hle4 _ => ⟨w, rfl, hw.mono hle4⟩⟩
  | 13, hk =>
   obtain rfl := Option.some.inj hk
   obtain rfl := Option.some.inj hd
   exact ⟨rfl, q13 underlying28 sizeOf9 zeroValue9 (LCat.one rfl (LCat.one rfl LCat.none)) (fun b hb => ⟨_, [(b, _)], rfl, rfl, one_ge hb, Le.refl _, fun I3 _ hK => strP_blk (l := prs ss14) (hK _ (.head _))⟩)⟩
  | 14, hk =>
   obtain rfl := Option.some.inj hk
   obtain rfl := Option.some.inj hd
   obtain ⟨va, ha, pa⟩ := hdep 13 (by kernel_rfl) _ _ rfl rfl
   refine ⟨rfl, op_callN (vs := [str [48, 50, 48], str [32, 32], va]) (fst := []) (cap := []) rfl rfl rfl rfl (by simp only [evs, ev, ha]; rfl) (field_ok [48, 50, 48] [32, 32] ss14 va (by decide) _ pa) (fun v I3 H3 hle3 _ hp => ?_) (fun _ _ _ _ ⟨_, h, _⟩ => nomatch h) (fun _ _ ⟨_, h, _⟩ => nomatch h)⟩
   obtain ⟨w, h, hw, rfl⟩ := hp; cases h
   exact ⟨_, [], rfl, rfl, none_ge, hle3, fun I4 hle4 _ => ⟨w, rfl, hw.mono hle4⟩⟩
  | 15, hk =>
   obtain rfl := Option.some.inj hk
   obtain rfl := Option.some.inj hd
   exact ⟨rfl, q13 underlying28 sizeOf9 zeroValue9 (LCat.one rfl (LCat.one rfl LCat.none)) (fun b hb => ⟨_, [(b, _)], rfl, rfl, one_ge hb, Le.refl _, fun I3 _ hK => strP_blk (l := prs ss16) (hK _ (.head _))⟩)⟩
  | 16, hk =>
   obtain rfl := Option.some.inj hk
   obtain rfl := Option.some.inj hd
   obtain ⟨va, ha, pa⟩ := hdep 15 (by kernel_rfl) _ _ rfl rfl
   refine ⟨rfl, op_callN (vs := [str [50, 54, 48], str [32, 32], va]) (fst := []) (cap := []) rfl rfl rfl rfl (by simp only [evs, ev, ha]; rfl) (field_ok [50, 54, 48] [32, 32] ss16 va (by decide) _ pa) (fun v I3 H3 hle3 _ hp => ?_) (fun _ _ _ _ ⟨_, h, _⟩ => nomatch h) (fun _ _ ⟨_, h, _⟩ => nomatch h)⟩
   obtain ⟨w, h, hw, rfl⟩ := hp; cases h
   exact ⟨_, [], rfl, rfl, none_ge, hle3, fun I4 hle4 _ => ⟨w, rfl, hw.mono hle4⟩⟩
  | 17, hk =>
   obtain rfl := Option.some.inj hk
   obtain rfl := Option.some.inj hd
   obtain ⟨va, ha, pa⟩ := hdep 12 (by kernel_rfl) _ _ rfl rfl
   obtain ⟨wa, rfl, hwa⟩ := pa
   obtain ⟨vb, hb, pb⟩ := hdep 14 (by kernel_rfl) _ _ rfl rfl
   obtain ⟨wb, rfl, hwb⟩ := pb
   obtain ⟨vc, hc, pc⟩ := hdep 16 (by kernel_rfl) _ _ rfl rfl
   obtain ⟨wc, rfl, hwc⟩ := pc
   refine ⟨rfl, op_buildSlice (vs := [.agg (fldC (ff12 wa)).toArray, .agg (fldC (ff14 wb)).toArray, .agg (fldC (ff16 wc)).toArray]) rfl rfl rfl underlying33 sizeOf31 zeroValue31 rfl (by simp only [List.map, evs, ev, ha, hb, hc]) rfl rfl (LCat.agg rfl (LCat.agg rfl (LCat.agg rfl LCat.none))) (fun b hbb => ⟨_, [(b, _)], rfl, rfl, one_ge hbb, Le.refl _, fun I3 hle3 hK => ⟨wa, wb, wc, RowS.of (l := fs2 wa wb wc) (sp := []) (Nat.le_refl _) (hK _ (.head _)), fun f hf => ?_⟩⟩)⟩
   simp only [fs2, List.mem_cons, List.not_mem_nil, or_false] at hf
   rcases hf with rfl | rfl | rfl
   · exact hwa.mono hle3
   · exact hwb.mono hle3
   exact hwc.mono hle3
  | 18, hk =>
   obtain rfl := Option.some.inj hk
   obtain rfl := Option.some.inj hd
   obtain ⟨va, ha, pa⟩ := hdep 17 (by kernel_rfl) _ _ rfl rfl
   obtain ⟨wa, wb, wc, hw⟩ := pa
   obtain ⟨qp, qc, rfl⟩ := RowS.len hw.1
   exact ⟨rfl, op_yld (yl_buildS (vs := [.slice qp (fs2 wa wb wc).length qc]) (pl := #[(0, 1), (1, 1), (2, 1)]) rfl (by simp only [List.map, evs, ev, ha]) zeroValue35 rfl underlying35 (fun w => by simp [sizeOf33, sizeOf5]) (LBld.part rfl rfl rfl (LSpl.s (LSpl.s (LSpl.c LSpl.z))) LBld.none)) rfl rfl ⟨_, [], rfl, rfl, none_ge, Le.refl _, fun I3 hle3 _ => ⟨_, wa, wb, wc, rfl, hw.mono hle3⟩⟩⟩
  | 19, hk =>
   obtain rfl := Option.some.inj hk
   obtain rfl := Option.some.inj hd
   obtain ⟨va, ha, pa⟩ := hdep 10 (by kernel_rfl) _ _ rfl rfl
   have pa : va = .agg [i64 1, i64 1].toArray := pa
   subst pa
   obtain ⟨vb, hb, pb⟩ := hdep 18 (by kernel_rfl) _ _ rfl rfl
   obtain ⟨w, wa, wb, wc, rfl, hw⟩ := pb
   exact ⟨rfl, op_yld (yl_buildS (vs := [.agg [i64 1, i64 1].toArray, recV 0 0 w]) (pl := #[(0, 2), (2, 3)]) rfl (by simp only [List.map, evs, ev, ha, hb]) zeroValue37 rfl underlying37 (fun w => by simp [sizeOf26, sizeOf35]) (LBld.part rfl rfl rfl (LSpl.c (LSpl.c LSpl.z)) (LBld.part rfl rfl rfl (LSpl.s (LSpl.s (LSpl.c (LSpl.c (LSpl.c LSpl.z))))) LBld.none))) rfl rfl ⟨_, [], rfl, rfl, none_ge, Le.refl _, fun I3 hle3 _ => ⟨w, wa, wb, wc, rfl, hw.mono hle3⟩⟩⟩
  | 20, hk =>
   obtain rfl := Option.some.inj hk
   obtain rfl := Option.some.inj hd
   obtain ⟨va, ha, pa⟩ := hdep 9 (by kernel_rfl) _ _ rfl rfl
   obtain ⟨w, wa, wb, wc, rfl, hw⟩ := pa
   obtain ⟨vb, hb, pb⟩ := hdep 19 (by kernel_rfl) _ _ rfl rfl
   obtain ⟨u, ua, ub, uc, rfl, hu⟩ := pb
   obtain ⟨qp, qc, hq⟩ := RowS.len hw.1
   obtain ⟨rp, rc, hr⟩ := RowS.len hu.1
   refine ⟨rfl, op_buildSlice (vs := [.agg (entC ⟨(2, 1), 0, 0, w, fs1 wa wb wc⟩).toArray, .agg (entC ⟨(1, 1), 0, 0, u, fs2 ua ub uc⟩).toArray]) rfl rfl rfl underlying27 sizeOf37 zeroValue37 rfl (by simp only [List.map, evs, ev, ha, hb]) rfl rfl (LCat.agg rfl (LCat.agg rfl LCat.none)) (fun b hbb => ⟨_, [(b, _)], rfl, rfl, one_ge hbb, Le.refl _, fun I3 hle3 hK => ⟨[⟨(2, 1), 0, 0, w, fs1 wa wb wc⟩, ⟨(1, 1), 0, 0, u, fs2 ua ub uc⟩], ⟨RowS.of (sp := []) (Nat.le_refl _) (hK _ (.head _)), fun x hx => ?_⟩, rfl, fun x hx => ?_, ls_eq _ _ _ _ _ _ _ _⟩⟩)⟩
   · simp only [List.mem_cons, List.not_mem_nil, or_false] at hx
     rcases hx with rfl | rfl
     · exact hw.mono hle3
     exact hu.mono hle3
   simp only [List.mem_cons, List.not_mem_nil, or_false] at hx
   rcases hx with rfl | rfl
   · exact eok1 _ _ _
   exact eok2 _ _ _
  | 21, hk =>
   obtain rfl := Option.some.inj hk
   obtain rfl := Option.some.inj hd
   obtain ⟨va, ha, pa⟩ := hdep 20 (by kernel_rfl) _ _ rfl rfl
   obtain ⟨es, hE, hl, hek, hls⟩ := pa
   refine ⟨rfl, op_callN (vs := [va]) (fst := []) (cap := []) rfl rfl rfl rfl (by simp only [evs, ev, ha]) (Build_ok es va (by omega) hek _ hE) (fun v I3 H3 hle3 hn hp => ?_) (fun _ _ _ _ ⟨_, _, h, _⟩ => nomatch h) (fun _ _ ⟨_, _, h, _⟩ => nomatch h)⟩
   obtain ⟨ib, o, h, hok, rfl⟩ := hp; cases h
   rw [hls] at hok
   exact ⟨_, ixH ib o, rfl, rfl, hn, hle3, fun I4 hle4 hK => ⟨ib, rfl, o, hok.mono hle4, hK⟩⟩
  | 22, hk =>
   obtain rfl := Option.some.inj hk
   obtain rfl := Option.some.inj hd
   obtain ⟨va, ha, pa⟩ := hdep 21 (by kernel_rfl) _ _ rfl rfl
   obtain ⟨ib, rfl, hx⟩ := pa
   exact ⟨rfl, q2 (yl_assign rfl (show ev e (.tmp 29) = some (ptr ib 0) from ha)) ⟨_, [], rfl, rfl, none_ge, Le.refl _, fun I3 hle3 _ => ⟨ib, rfl, hx.mono hle3⟩⟩⟩
  | k + 23, hk => exact absurd hk (by simp)
 obtain ⟨v3, h3, ib, rfl, hx⟩ := hkn 22 _ _ rfl rfl
 refine Ej.weak (e' := [(3, ptr ib 0), (1, ptr b1 0), (2, ptr b2 0)]) ⟨h3, (hba 1 (by decide)).trans rfl, (hba 2 (by decide)).trans rfl, trivial⟩ ?_
 refine Ej.seq (Cj.seq (Cj.flow flow3 (by kernel_rfl) (by kernel_rfl) (by kernel_rfl) (fun k o d hk hd e I2 hle hba hdep => ?_) (fun e I2 hle hba hkn => ?_)))
 ·
  match k, hk with
  | 0, hk =>
   obtain rfl := Option.some.inj hk
   obtain rfl := Option.some.inj hd
   have ht : eg e 1 = some (ptr b1 0) := (hba 1 (by decide)).trans rfl
   exact ⟨rfl, q2 (yl_loadAgg (vs := [i64 1, i64 1]) rfl ht isAgg26 sizeOf26 (Blk.at 1 rfl) rfl rfl) ⟨_, [], rfl, rfl, none_ge, Le.refl _, fun _ _ _ => rfl⟩⟩
  | 1, hk =>
   obtain rfl := Option.some.inj hk
   obtain rfl := Option.some.inj hd
   have ht : eg e 2 = some (ptr b2 0) := (hba 2 (by decide)).trans rfl
   exact ⟨rfl, q2 (yl_loadAgg (vs := [i64 2, i64 1]) rfl ht isAgg26 sizeOf26 (Blk.at 0 rfl) rfl rfl) ⟨_, [], rfl, rfl, none_ge, Le.refl _, fun _ _ _ => rfl⟩⟩
  | 2, hk =>
   obtain rfl := Option.some.inj hk
   obtain rfl := Option.some.inj hd
   obtain ⟨va, ha, pa⟩ := hdep 0 (by kernel_rfl) _ _ rfl rfl
   have pa : va = .agg #[i64 1, i64 1] := pa
   subst pa
   obtain ⟨vb, hb, pb⟩ := hdep 1 (by kernel_rfl) _ _ rfl rfl
   have pb : vb = .agg #[i64 2, i64 1] := pb
   subst pb
   exact ⟨rfl, op_buildSlice (vs := [.agg [i64 1, i64 1].toArray, .agg [i64 2, i64 1].toArray]) rfl rfl rfl underlying44 sizeOf26 zeroValue26 rfl (by simp only [List.map, evs, ev, ha, hb]) rfl rfl (LCat.agg rfl (LCat.agg rfl LCat.none)) (fun b hbb => ⟨_, [(b, _)], rfl, rfl, one_ge hbb, Le.refl _, fun I3 hle3 hK => RowS.of (l := [((1, 1) : Ix.Rec), (2, 1)]) (sp := []) (Nat.le_refl _) (hK _ (.head _))⟩)⟩
  | 3, hk =>
   obtain rfl := Option.some.inj hk
   obtain rfl := Option.some.inj hd
   have ht : eg e 1 = some (ptr b1 0) := (hba 1 (by decide)).trans rfl
   exact ⟨rfl, q2 (yl_loadAgg (vs := [i64 1, i64 1]) rfl ht isAgg26 sizeOf26 (Blk.at 1 rfl) rfl rfl) ⟨_, [], rfl, rfl, none_ge, Le.refl _, fun _ _ _ => rfl⟩⟩
  | 4, hk =>
   obtain rfl := Option.some.inj hk
   obtain rfl := Option.some.inj hd
   obtain ⟨va, ha, pa⟩ := hdep 3 (by kernel_rfl) _ _ rfl rfl
   have pa : va = .agg #[i64 1, i64 1] := pa
   subst pa
   exact ⟨rfl, op_buildSlice (vs := [.agg [i64 1, i64 1].toArray]) rfl rfl rfl underlying44 sizeOf26 zeroValue26 rfl (by simp only [List.map, evs, ev, ha]) rfl rfl (LCat.agg rfl LCat.none) (fun b hbb => ⟨_, [(b, _)], rfl, rfl, one_ge hbb, Le.refl _, fun I3 hle3 hK => RowS.of (l := [((1, 1) : Ix.Rec)]) (sp := []) (Nat.le_refl _) (hK _ (.head _))⟩)⟩
  | 5, hk =>
   obtain rfl := Option.some.inj hk
   obtain rfl := Option.some.inj hd
   obtain ⟨va, ha, pa⟩ := hdep 2 (by kernel_rfl) _ _ rfl rfl
   exact ⟨rfl, q2 (yl_assign rfl (show ev e (.tmp 32) = some va from ha)) ⟨_, [], rfl, rfl, none_ge, Le.refl _, fun I3 hle3 _ => RowS.mono pa hle3⟩⟩
  | 6, hk =>
   obtain rfl := Option.some.inj hk
   obtain rfl := Option.some.inj hd
   obtain ⟨va, ha, pa⟩ := hdep 4 (by kernel_rfl) _ _ rfl rfl
   exact ⟨rfl, q2 (yl_assign rfl (show ev e (.tmp 34) = some va from ha)) ⟨_, [], rfl, rfl, none_ge, Le.refl _, fun I3 hle3 _ => RowS.mono pa hle3⟩⟩
  | k + 7, hk => exact absurd hk (by simp)
 obtain ⟨v4, h4, hv4⟩ := hkn 5 _ _ rfl rfl
 obtain ⟨v5, h5, hv5⟩ := hkn 6 _ _ rfl rfl
 have hv4 : RowS recC I2 [(1, 1), (2, 1)] v4 := hv4
 have hv5 : RowS recC I2 [(1, 1)] v5 := hv5
 have hx := hx.mono hle
 refine Ej.weak (e' := [(3, ptr ib 0), (4, v4), (5, v5), (1, ptr b1 0), (2, ptr b2 0)]) ⟨(hba 3 (by decide)).trans rfl, h4, h5, (hba 1 (by decide)).trans rfl, (hba 2 (by decide)).trans rfl, trivial⟩ ?_
 refine Ej.seq (Cj.sr (J.z q0 ?_))
 refine J.op rfl (op_callN rfl rfl rfl rfl rfl (Word_ok ib LS [116, 105, 116, 108, 101] [83, 69, 65] (by decide) _ hx) ?_ (fun _ _ _ _ ⟨_, h, _⟩ => nomatch h) (fun _ _ ⟨_, h, _⟩ => nomatch h))
 intro v4 I5 H6 hle7 hn3 hp8
 have hx := hx.mono hle7
 have hv4 := hv4.mono hle7
 have hv5 := hv5.mono hle7
 obtain ⟨wa, h, hoa⟩ := hp8; cases h
 refine J.keepO hoa hn3 (fun Ia hlea hra => ?_)
 have hx := hx.mono hlea
 have hv4 := hv4.mono hlea
 have hv5 := hv5.mono hlea
 replace hra := hra.row
 refine J.z q0 ?_
 refine J.op rfl (op_pure rfl rfl rfl rfl rfl (rRecs_ok (Ix.word LS [116, 105, 116, 108, 101] [83, 69, 65]) [(1, 1), (2, 1)] _ _ (by rw [sw1]; decide) _ hra hv4) ?_)
 refine J.eqv 38 rfl (show _ = .bool true from (congrArg Value.bool (decide_eq_true sw1))) ?_
 refine J.z q0 ?_
 refine q12 4 39 true (q2 q0 ?_)
 refine J.opG 4 39 true _ rfl rfl rfl rfl (op_callN rfl rfl rfl rfl rfl (Word_ok ib LS [97, 110, 121] [115, 116, 111, 114, 121] (by decide) _ hx) ?_ (fun _ _ _ _ ⟨_, h, _⟩ => nomatch h) (fun _ _ ⟨_, h, _⟩ => nomatch h))
 intro v10 I11 H12 hle13 hn9 hp14
 have hx := hx.mono hle13
 have hv4 := hv4.mono hle13
 have hv5 := hv5.mono hle13
 have hra := hra.mono hle13
 obtain ⟨wc, h, hoc⟩ := hp14; cases h
 refine J.keepO hoc hn9 (fun Ic hlec hrc => ?_)
 have hx := hx.mono hlec
 have hv4 := hv4.mono hlec
 have hv5 := hv5.mono hlec
 have hra := hra.mono hlec
 replace hrc := hrc.row
 refine q12 4 39 true (q2 q0 ?_)
 refine J.opG 4 39 true _ rfl rfl rfl rfl (op_pure rfl rfl rfl rfl rfl (rRecs_ok (Ix.word LS [97, 110, 121] [115, 116, 111, 114, 121]) [(1, 1)] _ _ (by rw [sw2]; decide) _ hrc hv5) ?_)
 refine J.eqv 43 rfl (show _ = .bool true from (congrArg Value.bool (decide_eq_true sw2))) ?_
 refine J.z (yl_pick1 rfl rfl rfl rfl) ?_
 refine J.z q0 ?_
 refine q12 10 45 true (q2 q0 ?_)
 refine J.opG 10 45 true _ rfl rfl rfl rfl (op_callN rfl rfl rfl rfl rfl (Word_ok ib LS [97, 117, 116, 104, 111, 114] [115, 101, 97] (by decide) _ hx) ?_ (fun _ _ _ _ ⟨_, h, _⟩ => nomatch h) (fun _ _ ⟨_, h, _⟩ => nomatch h))
 intro v16 I17 H18 hle19 hn15 hp20
 have hx := hx.mono hle19
 have hv4 := hv4.mono hle19
 have hv5 := hv5.mono hle19
 have hra := hra.mono hle19
 have hrc := hrc.mono hle19
 obtain ⟨wd, h, hod⟩ := hp20; cases h
 refine J.keepO hod hn15 (fun Id hled hrd => ?_)
 have hx := hx.mono hled
 have hv4 := hv4.mono hled
 have hv5 := hv5.mono hled
 have hra := hra.mono hled
 have hrc := hrc.mono hled
 replace hrd := hrd.row
 obtain ⟨pd, cd, hvd⟩ := RowS.len hrd
 refine J.eqv 47 rfl hvd ?_
 refine q12 10 45 true (q2 (q16 underlying44) ?_)
 refine q12 10 45 true (q2 q20 ?_)
 refine J.eqv 49 rfl (show _ = .bool true from (congrArg Value.bool (by rw [sw3]; rfl))) ?_
 refine J.z (yl_pick1 rfl rfl rfl rfl) ?_
 refine J.z q0 ?_
 refine q12 16 51 true (q2 q0 ?_)
 refine J.opG 16 51 true _ rfl rfl rfl rfl (op_callN rfl rfl rfl rfl rfl (Phrase_ok ib LS [116, 105, 116, 108, 101] [115, 101, 97, 32, 97, 32, 115, 116, 111, 114, 121] (by decide) _ hx) ?_ (fun _ _ _ _ ⟨_, h, _⟩ => nomatch h) (fun _ _ ⟨_, h, _⟩ => nomatch h))
 intro v22 I23 H24 hle25 hn21 hp26
 have hx := hx.mono hle25
 have hv4 := hv4.mono hle25
 have hv5 := hv5.mono hle25
 have hra := hra.mono hle25
 have hrc := hrc.mono hle25
 have hrd := hrd.mono hle25
 obtain ⟨we, h, hoe⟩ := hp26; cases h
 refine J.keepO hoe hn21 (fun Ie hlee hre => ?_)
 have hx := hx.mono hlee
 have hv4 := hv4.mono hlee
 have hv5 := hv5.mono hlee
 have hra := hra.mono hlee
 have hrc := hrc.mono hlee
 have hrd := hrd.mono hlee
 replace hre := hre.row
 refine q12 16 51 true (q2 q0 ?_)
 refine J.opG 16 51 true _ rfl rfl rfl rfl (op_pure rfl rfl rfl rfl rfl (rRecs_ok (Ix.phrase LS [116, 105, 116, 108, 101] (Ke.words [115, 101, 97, 32, 97, 32, 115, 116, 111, 114, 121])) [(1, 1)] _ _ (by rw [sw4]; decide) _ hre hv5) ?_)
 refine J.eqv 55 rfl (show _ = .bool true from (congrArg Value.bool (decide_eq_true sw4))) ?_
 refine J.z (yl_pick1 rfl rfl rfl rfl) ?_
 refine J.z q0 ?_
 refine q12 22 57 true (q2 q0 ?_)
 refine J.opG 22 57 true _ rfl rfl rfl rfl (op_callN rfl rfl rfl rfl rfl (Phrase_ok ib LS [116, 105, 116, 108, 101] [116, 104, 101, 32, 115, 116, 111, 114, 121] (by decide) _ hx) ?_ (fun _ _ _ _ ⟨_, h, _⟩ => nomatch h) (fun _ _ ⟨_, h, _⟩ => nomatch h))
 intro v28 I29 H30 hle31 hn27 hp32
 have hx := hx.mono hle31
 have hv4 := hv4.mono hle31
 have hv5 := hv5.mono hle31
 have hra := hra.mono hle31
 have hrc := hrc.mono hle31
 have hrd := hrd.mono hle31
 have hre := hre.mono hle31
 obtain ⟨wf, h, hof⟩ := hp32; cases h
 refine J.keepO hof hn27 (fun If hlef hrf => ?_)
 have hx := hx.mono hlef
 have hv4 := hv4.mono hlef
 have hv5 := hv5.mono hlef
 have hra := hra.mono hlef
 have hrc := hrc.mono hlef
 have hrd := hrd.mono hlef
 have hre := hre.mono hlef
 replace hrf := hrf.row
 obtain ⟨pf, cf, hvf⟩ := RowS.len hrf
 refine J.eqv 59 rfl hvf ?_
 refine q12 22 57 true (q2 (q16 underlying44) ?_)
 refine q12 22 57 true (q2 q20 ?_)
 refine J.eqv 61 rfl (show _ = .bool true from (congrArg Value.bool (by rw [sw5]; rfl))) ?_
 refine J.z (yl_pick1 rfl rfl rfl rfl) ?_
 refine J.z q0 ?_
 refine q12 28 63 true (q2 q0 ?_)
 refine J.opG 28 63 true _ rfl rfl rfl rfl (op_callN rfl rfl rfl rfl rfl (Key_ok ib LS [116, 105, 116, 108, 101] [83, 101, 97, 58, 32, 97, 32, 115, 116, 111, 114, 121] (by decide) _ hx) ?_ (fun _ _ _ _ ⟨_, h, _⟩ => nomatch h) (fun _ _ ⟨_, h, _⟩ => nomatch h))
 intro v34 I35 H36 hle37 hn33 hp38
 have hx := hx.mono hle37
 have hv4 := hv4.mono hle37
 have hv5 := hv5.mono hle37
 have hra := hra.mono hle37
 have hrc := hrc.mono hle37
 have hrd := hrd.mono hle37
 have hre := hre.mono hle37
 have hrf := hrf.mono hle37
 obtain ⟨wg, h, hog⟩ := hp38; cases h
 refine J.keepO hog hn33 (fun Ig hleg hrg => ?_)
 have hx := hx.mono hleg
 have hv4 := hv4.mono hleg
 have hv5 := hv5.mono hleg
 have hra := hra.mono hleg
 have hrc := hrc.mono hleg
 have hrd := hrd.mono hleg
 have hre := hre.mono hleg
 have hrf := hrf.mono hleg
 replace hrg := hrg.row
 refine q12 28 63 true (q2 q0 ?_)
 refine J.opG 28 63 true _ rfl rfl rfl rfl (op_pure rfl rfl rfl rfl rfl (rRecs_ok (Ix.withK LS [116, 105, 116, 108, 101] (Ix.keyOf [116, 105, 116, 108, 101] [83, 101, 97, 58, 32, 97, 32, 115, 116, 111, 114, 121])) [(1, 1)] _ _ (by rw [sw6]; decide) _ hrg hv5) ?_)
 refine J.eqv 67 rfl (show _ = .bool true from (congrArg Value.bool (decide_eq_true sw6))) ?_
 refine J.z (yl_pick1 rfl rfl rfl rfl) ?_
 refine J.z q0 ?_
 refine q12 34 69 true (q2 q0 ?_)
 refine J.opG 34 69 true _ rfl rfl rfl rfl (op_callN rfl rfl rfl rfl rfl (Key_ok ib LS [105, 115, 98, 110] [57, 55, 56, 48, 51, 48, 54, 52, 48, 54, 49, 53, 55] (by decide) _ hx) ?_ (fun _ _ _ _ ⟨_, h, _⟩ => nomatch h) (fun _ _ ⟨_, h, _⟩ => nomatch h))
 intro v40 I41 H42 hle43 hn39 hp44
 have hx := hx.mono hle43
 have hv4 := hv4.mono hle43
 have hv5 := hv5.mono hle43
 have hra := hra.mono hle43
 have hrc := hrc.mono hle43
 have hrd := hrd.mono hle43
 have hre := hre.mono hle43
 have hrf := hrf.mono hle43
 have hrg := hrg.mono hle43
 obtain ⟨wh, h, hoh⟩ := hp44; cases h
 refine J.keepO hoh hn39 (fun Ih hleh hrh => ?_)
 have hx := hx.mono hleh
 have hv4 := hv4.mono hleh
 have hv5 := hv5.mono hleh
 have hra := hra.mono hleh
 have hrc := hrc.mono hleh
 have hrd := hrd.mono hleh
 have hre := hre.mono hleh
 have hrf := hrf.mono hleh
 have hrg := hrg.mono hleh
 replace hrh := hrh.row
 refine q12 34 69 true (q2 q0 ?_)
 refine J.opG 34 69 true _ rfl rfl rfl rfl (op_pure rfl rfl rfl rfl rfl (rRecs_ok (Ix.withK LS [105, 115, 98, 110] (Ix.keyOf [105, 115, 98, 110] [57, 55, 56, 48, 51, 48, 54, 52, 48, 54, 49, 53, 55])) [(1, 1)] _ _ (by rw [sw7]; decide) _ hrh hv5) ?_)
 refine J.eqv 73 rfl (show _ = .bool true from (congrArg Value.bool (decide_eq_true sw7))) ?_
 refine J.z (yl_pick1 rfl rfl rfl rfl) ?_
 refine J.z q0 ?_
 refine q12 40 75 true (q2 q0 ?_)
 refine J.opG 40 75 true _ rfl rfl rfl rfl (op_callN rfl rfl rfl rfl rfl (Key_ok ib LS [121, 101, 97, 114] [49, 57, 57, 57] (by decide) _ hx) ?_ (fun _ _ _ _ ⟨_, h, _⟩ => nomatch h) (fun _ _ ⟨_, h, _⟩ => nomatch h))
 intro v46 I47 H48 hle49 hn45 hp50
 have hx := hx.mono hle49
 have hv4 := hv4.mono hle49
 have hv5 := hv5.mono hle49
 have hra := hra.mono hle49
 have hrc := hrc.mono hle49
 have hrd := hrd.mono hle49
 have hre := hre.mono hle49
 have hrf := hrf.mono hle49
 have hrg := hrg.mono hle49
 have hrh := hrh.mono hle49
 obtain ⟨wi, h, hoi⟩ := hp50; cases h
 refine J.keepO hoi hn45 (fun Ii hlei hri => ?_)
 have hx := hx.mono hlei
 have hv4 := hv4.mono hlei
 have hv5 := hv5.mono hlei
 have hra := hra.mono hlei
 have hrc := hrc.mono hlei
 have hrd := hrd.mono hlei
 have hre := hre.mono hlei
 have hrf := hrf.mono hlei
 have hrg := hrg.mono hlei
 have hrh := hrh.mono hlei
 replace hri := hri.row
 refine q12 40 75 true (q2 q0 ?_)
 refine J.opG 40 75 true _ rfl rfl rfl rfl (op_pure rfl rfl rfl rfl rfl (rRecs_ok (Ix.withK LS [121, 101, 97, 114] (Ix.keyOf [121, 101, 97, 114] [49, 57, 57, 57])) [(1, 1)] _ _ (by rw [sw8]; decide) _ hri hv5) ?_)
 refine J.eqv 79 rfl (show _ = .bool true from (congrArg Value.bool (decide_eq_true sw8))) ?_
 refine J.z (yl_pick1 rfl rfl rfl rfl) ?_
 refine J.z q0 ?_
 refine q12 46 81 true (q2 q0 ?_)
 refine J.opG 46 81 true _ rfl rfl rfl rfl (op_callN rfl rfl rfl rfl rfl (Scan_ok ib LS [116, 105, 116, 108, 101] [115, 101, 97, 32, 98] (by decide) 5 _ hx) ?_ (fun _ _ _ _ ⟨_, h, _⟩ => nomatch h) (fun _ _ ⟨_, h, _⟩ => nomatch h))
 intro v52 I53 H54 hle55 hn51 hp56
 have hx := hx.mono hle55
 have hv4 := hv4.mono hle55
 have hv5 := hv5.mono hle55
 have hra := hra.mono hle55
 have hrc := hrc.mono hle55
 have hrd := hrd.mono hle55
 have hre := hre.mono hle55
 have hrf := hrf.mono hle55
 have hrg := hrg.mono hle55
 have hrh := hrh.mono hle55
 have hri := hri.mono hle55
 obtain ⟨wj, h, hoj⟩ := hp56; cases h
 refine J.keepO hoj hn51 (fun Ij hlej hrj => ?_)
 have hx := hx.mono hlej
 have hv4 := hv4.mono hlej
 have hv5 := hv5.mono hlej
 have hra := hra.mono hlej
 have hrc := hrc.mono hlej
 have hrd := hrd.mono hlej
 have hre := hre.mono hlej
 have hrf := hrf.mono hlej
 have hrg := hrg.mono hlej
 have hrh := hrh.mono hlej
 have hri := hri.mono hlej
 replace hrj := hrj.row
 refine J.opG 46 81 true _ rfl rfl rfl rfl (op_yld (yl_buildS (pl := #[(0, 1), (1, 1)]) rfl rfl zeroValue57 rfl underlying57 (fun w => by simp [sizeOf3, sizeOf9]) (LBld.part rfl rfl rfl (LSpl.c LSpl.z) (LBld.part rfl rfl rfl (LSpl.s (LSpl.c LSpl.z)) LBld.none))) rfl rfl ?_)
 refine q12 46 81 true (q13 underlying47 sizeOf57 zeroValue57 (LCat.agg rfl LCat.none) ?_)
 intro b57 hb57
 refine J.persist hb57 (fun I59 hle58 hb57i => ?_)
 have hx := hx.mono hle58
 have hv4 := hv4.mono hle58
 have hv5 := hv5.mono hle58
 have hra := hra.mono hle58
 have hrc := hrc.mono hle58
 have hrd := hrd.mono hle58
 have hre := hre.mono hle58
 have hrf := hrf.mono hle58
 have hrg := hrg.mono hle58
 have hrh := hrh.mono hle58
 have hri := hri.mono hle58
 have hrj := hrj.mono hle58
 have hL85 : RowS lineC _ [([115, 101, 97, 32, 115, 116, 111, 114, 105, 101, 115], (1 : Int))] (.slice (some ⟨b57, 0, none⟩) 1 1) := RowS.of (l := [([115, 101, 97, 32, 115, 116, 111, 114, 105, 101, 115], (1 : Int))]) (sp := []) (Nat.le_refl _) hb57i
 refine J.opG 46 81 true _ rfl rfl rfl rfl (op_pure rfl rfl rfl rfl rfl (rLines_ok ((Ix.scan LS [116, 105, 116, 108, 101] [115, 101, 97, 32, 98] 5).map lineI) [([115, 101, 97, 32, 115, 116, 111, 114, 105, 101, 115], (1 : Int))] _ _ (by rw [sw9]; decide) _ hrj hL85) ?_)
 refine J.eqv 86 rfl (show _ = .bool true from (congrArg Value.bool (decide_eq_true sw9))) ?_
 refine J.z (yl_pick1 rfl rfl rfl rfl) ?_
 refine J.z q0 ?_
 refine q12 53 88 true (q2 q0 ?_)
 refine q12 53 88 true (q2 (q14 isAgg26 sizeOf26 (Blk.at 1 rfl)) ?_)
 refine q12 53 88 true (op_pure rfl rfl rfl rfl rfl (Sort_ok' ib LS (1, 1) _ hx) ?_)
 refine q12 53 88 true (q2 (yl_eqlStr rfl rfl rfl) ?_)
 refine J.eqv 92 rfl (show _ = .bool true from (congrArg Value.bool (by rw [sw10]; rfl))) ?_
 refine J.z (yl_pick1 rfl rfl rfl rfl) ?_
 refine J.z q1 ?_
 refine J.ns (Cj.ret (Ej.bare ?_))
 refine q6 ?_
 exact ⟨rfl, rfl⟩
end Go.Proofs.YtjcdfnbomkoheaaGreatDoor
end
section
namespace Ix
open Ke
theorem keyOf_nil (n : Bs) : keyOf n [] = [] := by
  unfold keyOf
  rw [if_neg (fun h => absurd h.1 (by decide +kernel))]
  decide +kernel
theorem keysAll_from {L : Ix} (h : Srt L) (n b : Bs) : keysAll L n b = (keysAll L n []).filter fun k => decide (¬ k < b) := by
  refine inc_eq (keysAll_inc L n b) ((keysAll_inc L n []).filter _) fun k => ?_
  rw [List.mem_filter, keysAll_mem h, keysAll_mem h, decide_eq_true_eq]
  constructor
  · rintro ⟨h1, h2⟩; exact ⟨⟨List.not_lt_nil k, h2⟩, h1⟩
  rintro ⟨⟨_, h2⟩, h1⟩; exact ⟨h1, h2⟩
theorem pg_len (s : Bs) : ∀ (l : Row) (d : Bool), (pg s d l).length ≤ l.length + 1
  | [], d => by cases d <;> simp [pg]
  | x :: r, true => by rw [pg_true]; omega
  | x :: r, false => by
    have h1 := pg_len s r false
    have h2 : pg s true r = r := pg_true s r
    simp only [pg, h2]
    repeat' split
    all_goals simp only [List.length_cons]; omega
theorem put_len (l : Row) (s : Bs) : (put l s).length ≤ l.length + 1 := by
  unfold put
  repeat' split
  all_goals first
    | exact pg_len s l _
    | omega
theorem puts_len : ∀ (xs l : Row), (xs.foldl put l).length ≤ l.length + xs.length
  | [], l => by simp
  | x :: r, l => by
    have h1 := puts_len r (put l x)
    have h2 := put_len l x
    rw [List.foldl_cons, List.length_cons]; omega
theorem ofN_small (f : Fld) (h : f.subs.length ≤ 3) (n : Bs) : (ofN f n).length ≤ 3 := by
  unfold ofN
  repeat' split
  all_goals first
    | (rw [List.length_map]; exact Nat.le_trans (List.length_filterMap_le _ _) h)
    | simp
theorem valsN_small (n : Bs) : ∀ (fs : List Fld), (∀ f ∈ fs, f.subs.length ≤ 3) → (valsN fs n).length ≤ fs.length * 3
  | [], _ => by simp [valsN]
  | f :: r, h => by
    have h1 := valsN_small n r fun x hx => h x (.tail _ hx)
    have h2 := ofN_small f (h f (.head _)) n
    unfold valsN at h1 ⊢
    rw [List.flatMap_cons, List.length_append, List.length_cons]; omega
theorem keysOf_small (n : Bs) (fs : List Fld) (h : ∀ f ∈ fs, f.subs.length ≤ 3) (hl : fs.length ≤ 8) : (keysOf n (vals fs)).length ≤ 24 := by
  have h1 : (keysOf n (vals fs)).length ≤ (valsN fs n).length := by
    unfold keysOf
    refine Nat.le_trans (List.length_filter_le _ _) ?_
    rw [← valsN_eq, List.length_map, List.length_map]
    exact Nat.le_refl _
  have h2 := valsN_small n fs h
  omega
def Few (L : Ix) : Prop := L.length ≤ 20 ∧ ∀ e ∈ L, ∃ a : ActL, e.2 = a.vs
theorem rput_len' (t : Rec) (v : List V) : ∀ L : Ix, (rput t v L).length ≤ L.length + 1
  | [] => by simp [rput]
  | (u, x) :: r => by
    have := rput_len' t v r
    unfold rput
    repeat' split
    all_goals simp only [List.length_cons]; omega
theorem acts_few : ∀ (l : List ActL) {L : Ix} {k : Nat}, Srt L → L.length ≤ k → (∀ e ∈ L, ∃ a : ActL, e.2 = a.vs) → (l.foldl act L).length ≤ k + l.length ∧ ∀ e ∈ l.foldl act L, ∃ a : ActL, e.2 = a.vs
  | [], _, k, _, h1, h2 => ⟨by simpa using h1, h2⟩
  | a :: r, L, k, hs, h1, h2 => by
    have h3 : (act L a).length ≤ k + 1 := by
      unfold act
      split
      · exact Nat.le_trans (List.length_filter_le _ _) (by omega)
      have := rput_len' a.title a.vs L; omega
    have h4 : ∀ e ∈ act L a, ∃ a : ActL, e.2 = a.vs := by
      intro e he
      unfold act at he
      split at he
      · exact h2 e ((rdrop_mem _ _ _).1 he).1
      rcases (rput_mem _ _ hs e).1 he with g | g
      · exact ⟨a, by rw [g]⟩
      exact h2 e g.1
    have := acts_few r (act_srt hs a) h3 h4
    rw [List.foldl_cons, List.length_cons]
    exact ⟨by omega, this.2⟩
theorem play_few (l : List ActL) : Few (play l) := by
  have h := acts_few (l.take 20) (L := []) (k := 0) List.Pairwise.nil (Nat.le_refl _) (fun _ h => by cases h)
  have h2 : (l.take 20).length ≤ 20 := by rw [List.length_take]; exact Nat.min_le_left _ _
  exact ⟨by unfold play; omega, h.2⟩
theorem act_keys (n : Bs) (a : ActL) : (keysOf n a.vs).length ≤ 24 := by
  refine keysOf_small n _ (fun f hf => ?_) ?_
  · unfold ActL.record madeR at hf
    obtain ⟨q, _, rfl⟩ := List.mem_map.1 hf
    exact (fldN_len q).2
  unfold ActL.record madeR
  rw [List.length_map, List.length_take, List.length_take]; omega
theorem keys_few (n : Bs) : ∀ {L : Ix}, (∀ e ∈ L, ∃ a : ActL, e.2 = a.vs) → (L.flatMap fun e => keysOf n e.2).length ≤ L.length * 24
  | [], _ => by simp
  | e :: r, h => by
    have h1 := keys_few n (L := r) fun x hx => h x (.tail _ hx)
    obtain ⟨a, ha⟩ := h e (.head _)
    have h2 := act_keys n a
    rw [List.flatMap_cons, List.length_append, List.length_cons, ha]; omega
theorem keysAll_few {L : Ix} (h : Few L) (n b : Bs) : (keysAll L n b).length ≤ 480 := by
  unfold keysAll
  have h1 := puts_len (((L.flatMap fun e => keysOf n e.2)).filter fun k => decide (¬ k < b)) []
  have h2 := List.length_filter_le (fun k => decide (¬ k < b)) (L.flatMap fun e => keysOf n e.2)
  have h3 := keys_few n h.2
  have h4 := h.1
  rw [List.length_nil] at h1
  omega
theorem scan_whole {L : Ix} (h : Few L) (n : Bs) : scan L n [] 1000 = (keysAll L n []).map fun k => (k, (withK L n k).length) := by
  unfold scan
  rw [keyOf_nil, List.take_of_length_le (by have := keysAll_few h n []; omega)]
theorem line_ok {L : Ix} (h : Srt L) {n k : Bs} (hk : k ∈ keysAll L n []) : k ≠ [] ∧ 1 ≤ (withK L n k).length ∧ (withK L n k).length ≤ L.length := by
  obtain ⟨_, h2⟩ := (keysAll_mem h).1 hk
  obtain ⟨e, he, hp⟩ := (cnt_pos h).1 h2
  obtain ⟨h3, h4⟩ := plK_iff.1 hp
  refine ⟨h3, ?_, ?_⟩
  · unfold withK
    rw [if_neg h3, List.length_map]
    exact List.length_pos_of_mem (List.mem_filter.2 ⟨he, h4⟩)
  unfold withK
  rw [if_neg h3, List.length_map]
  exact List.length_filter_le _ _
theorem scan_line {L : Ix} (hs : Srt L) (h : Few L) {n : Bs} {k : Nat} {y : Bs × Nat} (hy : (scan L n [] 1000)[k]? = some y) : y.1 ≠ [] ∧ 1 ≤ y.2 ∧ y.2 ≤ 20 := by
  rw [scan_whole h, List.getElem?_map] at hy
  obtain ⟨x, hx, rfl⟩ := Option.map_eq_some_iff.1 hy
  have := line_ok hs (List.mem_of_getElem? hx)
  exact ⟨this.1, this.2.1, Nat.le_trans this.2.2 h.1⟩
theorem scan_inc {L : Ix} (h : Few L) {n : Bs} {j k : Nat} {x y : Bs × Nat} (hjk : j < k) (hx : (scan L n [] 1000)[j]? = some x) (hy : (scan L n [] 1000)[k]? = some y) : x.1 < y.1 := by
  rw [scan_whole h, List.getElem?_map] at hx hy
  obtain ⟨a, ha, rfl⟩ := Option.map_eq_some_iff.1 hx
  obtain ⟨b, hb, rfl⟩ := Option.map_eq_some_iff.1 hy
  obtain ⟨hjl, ha⟩ := List.getElem?_eq_some_iff.1 ha
  obtain ⟨hkl, hb⟩ := List.getElem?_eq_some_iff.1 hb
  rw [← ha, ← hb]
  exact List.pairwise_iff_getElem.1 (keysAll_inc L n []) j k hjl hkl hjk
theorem scan_want {L : Ix} (hs : Srt L) (h : Few L) (n s : Bs) (most : Int) : ((scan L n [] 1000).filter fun y => decide (¬ y.1 < keyOf n s)).take most.toNat = scan L n s most := by
  rw [scan_whole h, List.filter_map]
  unfold scan
  rw [keysAll_from hs n (keyOf n s), ← List.map_take]
  rfl
theorem tf_next {α : Type} {p : α → Bool} {l : List α} {k m : Nat} {x : α} (h : l[k]? = some x) : ((l.take (k + 1)).filter p).take m = if p x = true ∧ (((l.take k).filter p).take m).length < m then ((l.take k).filter p).take m ++ [x] else ((l.take k).filter p).take m := by
  rw [List.take_add_one, h, List.filter_append]
  show ((List.filter p (l.take k)) ++ List.filter p [x]).take m = _
  by_cases hp : p x = true
  · rw [show List.filter p [x] = [x] by simp [hp], List.take_append, List.length_take]
    by_cases hm : (List.filter p (l.take k)).length < m
    · rw [if_pos ⟨hp, by omega⟩, List.take_of_length_le (l := [x]) (by simp; omega)]
    rw [if_neg (fun g => by omega), show m - (List.filter p (l.take k)).length = 0 by omega, List.take_zero, List.append_nil]
  rw [show List.filter p [x] = [] by simp [hp], List.append_nil, if_neg (fun g => hp g.1)]
end Ix
end
section
namespace Go.Proofs.YtjcdfnbomkoheaaGreatDoor
open Go.ChangeShapes Go.WideShapes Go.ChangeAt Go.RowKit Go.Sx Go.Lib Go.ChangeMaps Go.WideMaps
section
variable {H : Type} {enc : TypeId × Value → H} {W : World} {base : Nat}
theorem Arg.field {fs : Array Field} {cs : List Value} {ms : List Nat} (h : ∀ (i : Nat) f m', fs[i]? = some f → ms[i]? = some m' → Arg enc W f.type ((cs.drop f.offset).take (Tryz.prog.cellsOf f.type)) m') (i : Nat) {f : Field} {m t o k : Nat}
    (hf : fs[i]? = some f) (hm : ms[i]? = some m) (ht : f.type = t) (ho : f.offset = o) (hc : Tryz.prog.cellsOf t = k) : Arg enc W t ((cs.drop o).take k) m := by
  subst ht ho hc
  exact h i f m hf hm
theorem list4 {α : Type} {l : List α} (h : l.length = 4) : ∃ a b c d, l = [a, b, c, d] := by
  match l, h with
  | [a, b, c, d], _ => exact ⟨a, b, c, d, rfl⟩
theorem list2 {α : Type} {l : List α} (h : l.length = 2) : ∃ a b, l = [a, b] := by
  match l, h with
  | [a, b], _ => exact ⟨a, b, rfl⟩
theorem wf_in64 {n : Int} (h : (Lit.int .i64 n).wf = true) : In64 n := by
  have h1 : (decide (-9223372036854775808 ≤ n) && decide (n ≤ 9223372036854775807)) = true := h
  rw [Bool.and_eq_true, decide_eq_true_eq, decide_eq_true_eq] at h1
  exact h1
theorem Arg.elem {e k : Nat} {cs : List Value} {ms : List Nat} (h : ∀ (i m' : Nat), ms[i]? = some m' → Arg enc W e ((cs.drop (i * 1)).take 1) m') (he : Tryz.prog.underlying e = some (.int .i64)) (hml : ms.length = k) (i : Nat) (hi : i < k) : ∃ z : Int, cs[i]? = some (i64 z) ∧ In64 z := by
  have hm : ms[i]? = some (ms[i]'(by omega)) := List.getElem?_eq_getElem _
  obtain ⟨z, hz, hw, _⟩ := (h i _ hm).int he
  refine ⟨z, ?_, wf_in64 hw⟩
  have := congrArg (fun l => l[0]?) hz
  simpa [List.getElem?_drop] using this
theorem list_four {cs : List Value} (hl : cs.length = 4) (h : ∀ i, i < 4 → ∃ z : Int, cs[i]? = some (i64 z) ∧ In64 z) : ∃ q : Ix.Four, cs = fourC q ∧ FourOk q := by
  match cs, hl with
  | [a, b, c, d], _ =>
    obtain ⟨z0, e0, w0⟩ := h 0 (by decide)
    obtain ⟨z1, e1, w1⟩ := h 1 (by decide)
    obtain ⟨z2, e2, w2⟩ := h 2 (by decide)
    obtain ⟨z3, e3, w3⟩ := h 3 (by decide)
    cases e0; cases e1; cases e2; cases e3
    exact ⟨⟨z0, z1, z2, z3⟩, rfl, ⟨w0, w1, w2, w3⟩⟩
theorem Arg.four {cs : List Value} {m : Nat} (h : Arg enc W 143 cs m) : ∃ q : Ix.Four, cs = fourC q ∧ FourOk q := by
  obtain ⟨hl, ms, hml, _, hf⟩ := h.array Tryz.underlying143
  rw [show Tryz.prog.cellsOf 143 = 4 by kernel_rfl] at hl
  rw [show Tryz.prog.cellsOf 3 = 1 by kernel_rfl] at hf
  exact list_four hl fun i hi => Arg.elem hf Tryz.underlying3 hml i hi
theorem Arg.act {cs : List Value} {m : Nat} (h : Arg enc W 80 cs m) : ∃ x : Act, cs = actC x ∧ RowS fourC (HW W) x.a.fs x.v ∧ ∀ q ∈ x.a.fs, FourOk q := by
  obtain ⟨hl, ms, hml, hms, hf⟩ := h.struct Tryz.underlying80
  rw [show Tryz.prog.cellsOf 80 = 4 by kernel_rfl] at hl
  obtain ⟨a, b, c, d, rfl⟩ := list4 hl
  obtain ⟨m0, m1, m2, m3, rfl⟩ := list4 hml
  have cI : Tryz.prog.cellsOf 3 = 1 := by kernel_rfl
  obtain ⟨b0, h0⟩ := (Arg.field hf (o := 0) 0 rfl rfl rfl rfl (show Tryz.prog.cellsOf 4 = 1 by kernel_rfl)).bool Tryz.underlying4
  obtain ⟨z1, h1, _, _⟩ := (Arg.field hf (o := 1) 1 rfl rfl rfl rfl cI).int Tryz.underlying3
  obtain ⟨z2, h2, _, _⟩ := (Arg.field hf (o := 2) 2 rfl rfl rfl rfl cI).int Tryz.underlying3
  obtain ⟨l, v, h3, hr, _, _, hq⟩ := (Arg.field hf (o := 3) 3 rfl rfl rfl rfl (show Tryz.prog.cellsOf 78 = 1 by kernel_rfl)).row (f := fourC) (size := fun _ => 0) Tryz.underlying78 (show Tryz.prog.cellsOf 143 = 4 by kernel_rfl) (by decide) FourOk fun cs m' _ h => by
    obtain ⟨q, h1, h2⟩ := h.four
    exact ⟨q, h1, Nat.zero_le _, h2⟩
  simp only [List.drop_zero, List.drop_succ_cons, List.take_succ_cons, List.take_zero, List.cons.injEq, and_true] at h0 h1 h2 h3
  subst h0 h1 h2 h3
  exact ⟨⟨⟨b0, z1, z2, l⟩, d⟩, rfl, hr, hq⟩
theorem arg_acts {v : Value} {d : DataW H} {p : List MemPlace} (hval : Value.okWide Tryz.prog W .any base 51 v) (h : DataW.Trod enc Tryz.prog W 0 (fun _ => true) true 51 v d p) (hlt : ∀ x ∈ p, x.block < W.heap.size) :
    ∃ xs : List Act, ActsS (HW W) xs v ∧ ActsOk xs ∧ Again enc W 51 v d p := by
  have hag := again (by kernel_rfl) (of_decide_eq_true (by kernel_rfl)) h hlt
  obtain ⟨a, len, cap, rfl⟩ := okWide_slice Tryz.underlying51 hval
  obtain ⟨xs, v', h1, h2, _, _, h4⟩ := (Arg.of h).row (f := actC) (size := fun _ => 0) Tryz.underlying51 (show Tryz.prog.cellsOf 80 = 4 by kernel_rfl) (by decide) (fun x => RowS fourC (HW W) x.a.fs x.v ∧ ∀ q ∈ x.a.fs, FourOk q) fun cs m' _ h => by
    obtain ⟨x, h1, h2, h3⟩ := h.act
    exact ⟨x, h1, Nat.zero_le _, h2, h3⟩
  obtain rfl : Value.slice a len cap = v' := by simpa [Value.cells] using h1
  exact ⟨xs, ⟨h2, fun x hx => (h4 x hx).1⟩, fun x hx => (h4 x hx).2, hag⟩
end
end Go.Proofs.YtjcdfnbomkoheaaGreatDoor
end
section
namespace Go.Proofs.YtjcdfnbomkoheaaGreatDoor
open Go.ChangeShapes Go.WideShapes Go.ChangeAt Go.RowKit Go.Sx Go.Lib Go.ChangeMaps Go.WideMaps
section
variable {H : Type} {enc : TypeId × Value → H} {W : World} {base : Nat}
theorem Arg.byte {t : TypeId} {cs : List Value} {m : Nat} (ht : Tryz.prog.underlying t = some (.int .u8)) (h : Arg enc W t cs m) : ∃ c : UInt8, cs = [u8 c] ∧ m = 1 := by
  obtain ⟨z, rfl, hw, rfl⟩ := h.int ht
  obtain ⟨c, rfl⟩ := u8_of hw
  exact ⟨c, rfl, rfl⟩
theorem arg_from {v : Value} {d : DataW H} {p : List MemPlace} (hval : Value.okWide Tryz.prog W .any base 53 v) (h : DataW.Trod enc Tryz.prog W 0 (fun _ => true) true 53 v d p) (hlt : ∀ x ∈ p, x.block < W.heap.size) :
    ∃ (s : List UInt8) (m : UInt8), v = .agg #[str s, u8 m] ∧ s.length ≤ Rows.uptoBulk d ∧ Again enc W 53 v d p := by
  have hag := again (by kernel_rfl) (of_decide_eq_true (by kernel_rfl)) h hlt
  obtain ⟨xs, rfl, hx⟩ := okWide_struct Tryz.underlying53 hval
  obtain ⟨hl, ms, hml, hms, hf⟩ := (Arg.of h).struct Tryz.underlying53
  have hxl : xs.toList.length = 2 := by rw [show Tryz.prog.cellsOf 53 = 2 by kernel_rfl] at hx; simpa using hx
  obtain ⟨a, b, hxs⟩ := list2 hxl
  obtain rfl : xs = #[a, b] := by rw [← Array.toArray_toList (xs := xs), hxs]
  obtain ⟨m0, m1, rfl⟩ := list2 hml
  obtain ⟨s, h1, rfl⟩ := (Arg.field hf (o := 0) 0 rfl rfl rfl rfl (show Tryz.prog.cellsOf 9 = 1 by kernel_rfl)).str Tryz.underlying9
  obtain ⟨c, h2, rfl⟩ := (Arg.field hf (o := 1) 1 rfl rfl rfl rfl (show Tryz.prog.cellsOf 5 = 1 by kernel_rfl)).byte Tryz.underlying5
  simp only [Value.cells, List.drop_zero, List.drop_succ_cons, List.take_succ_cons, List.take_zero, List.cons.injEq, and_true] at h1 h2
  subst h1 h2
  simp only [List.sum_cons, List.sum_nil] at hms
  exact ⟨s, c, rfl, by omega, hag⟩
end
end Go.Proofs.YtjcdfnbomkoheaaGreatDoor
end
