/-
  Own texts on the laws of the seat, joined: the logic, and contracts of functions. Conditions: none.
-/
import Derived.Test.YtjcdfnbomkoheaaGreatDoorNmP
import Derived.Test.YtjcdfnbomkoheaaGreatDoorPP1
import Derived.Shelf.Strings.Builder1
import Derived.Shelf.Strings.Builder2
import Derived.Shelf.Strings.OnBuilder
import Derived.Shelf.Strings.Trim
import Derived.Shelf.Small.Utf8
import Derived.Shelf.Small.Bits
import Derived.Shelf.Small.Strs
import Derived.Shelf.Small.Wraps
import Derived.Shelf.Strings.BuilderF
import Derived.Shelf.Strings.BuilderK
import Derived.Shelf.Strings.BuilderRune
import Derived.Shelf.Utf8.RuneCount
import Derived.Shelf.Strings.Builder2Cap
import Derived.Shelf.Strconv.Itoa0
import Derived.Shelf.Strings.Search1
import Derived.Shelf.Strings.Search2
import Derived.Shelf.Strings.Search3
import Derived.Shelf.Strings.Cut
import Derived.Shelf.Strings.Count
import Derived.Shelf.LaysM
import Derived.Shelf.Strings.Shaped
import Derived.Shelf.GgClosure.StringsIndexFunc
import Derived.Ground.GgwProg
import Derived.Shelf.GgClosure.StringsIndexFuncTop
import Derived.Shelf.Strings.Prefix
import Derived.Shelf.Strings.Split
import Derived.Shelf.Unicode.Latin
import Derived.Shelf.Unicode.Decode
import Derived.Shelf.Strings.Runes
import Derived.Shelf.Strings.RuneCount
import Derived.Shelf.Strings.AsciiSet
import Derived.Shelf.Unicode.DecodeSlow
import Derived.Shelf.Unicode.DecodeAny
import Derived.Shelf.Unicode.DecodeLast
import Derived.Shelf.Strings.FieldsFuncAny
import Derived.Shelf.Unicode.CaseLookup
import Derived.Shelf.Unicode.CaseConvert
import Derived.Shelf.Unicode.CaseTo
import Derived.Shelf.Unicode.CaseLaid
import Derived.Shelf.Strings.MapAny
import Derived.Shelf.Strings.CaseAny
import Derived.Shelf.Strings.FuncGrows
import Derived.Shelf.Strings.FieldsFuncGrows
import Derived.Shelf.Strings.BuilderCap
import Derived.Shelf.Strings.MapGrows
import Derived.Shelf.Slices.Equal
import Derived.Ground.Names2Prog
import Derived.Shelf.Slices.SearchI
import Derived.Shelf.Slices.Empties2
import Derived.Lib.Bytealg
import Derived.Lib.Join
import Derived.Lib.SlTrimSet
import Derived.Shelf.Strings.SlTrimAscii
set_option maxRecDepth 100000
set_option maxHeartbeats 4000000
section
namespace Go.Proofs.YtjcdfnbomkoheaaGreatDoor
open _root_.Go.Proofs.Tryz
open Go Go.Sx
def olds : List (List UInt8) := [[32], [], [45], []]
def BSR (I : Heap) (xb : Nat) : Prop := ∃ v1 v2 tr, I xb = some (cel 272 (tab (fun j => if j = 32 then v2 else if j = 45 then v1 else .slice none 0 0) tr)) ∧ BytSl I [] v1 ∧ BytSl I [] v2 ∧ StrSl 9 I [[45], [32]] tr
theorem BSR.mono {I I' : Heap} {xb : Nat} (h : BSR I xb) (hle : Le I I') : BSR I' xb := let ⟨v1, v2, tr, h1, h2, h3, h4⟩ := h; ⟨v1, v2, tr, hle _ _ h1, h2.mono hle, h3.mono hle, h4.mono hle⟩
theorem zero163 : (Value.agg Tryz.zeroCells272).cells = (tab (fun _ => .slice none 0 0) (.slice none 0 0)).toArray := by
  show Tryz.zeroCells272 = _
  kernel_rfl
theorem load_ok (rb T off : Nat) (cs : List Value) (x : Int) (hx : cs[off]? = some (.int .u32 x)) (I : Heap) : Ctr Tryz.prog 194 [ptr rb off] I [(rb, cel T cs)] (fun e _I' H' => e = .returned (.bool (x != 0)) ∧ H' = [(rb, cel T cs)]) :=
  Ctr.of_read (Enters.of func194 (by decide) rfl) hx fun w h => Sync.load_free ⟨rb, off, none⟩ x w h
theorem lock_ok (rb T : Nat) (d sm r o : Value) (I : Heap) : Ctr Tryz.prog 210 [ptr rb 1] I [(rb, cel T [d, .int .i32 0, sm, r, o])] (fun e _I' H' => e = .returned (.tuple #[]) ∧ H' = [(rb, cel T [d, .int .i32 1, sm, r, o])]) :=
  Ctr.of_set (off := 1) (Enters.of func210 (by decide) rfl) rfl fun w h h2 => Sync.lock_free ⟨rb, 1, none⟩ w h h2
theorem unlock_ok (rb T : Nat) (d sm r o : Value) (I : Heap) : CtrD Tryz.prog 211 [ptr rb 1] .returning I [(rb, cel T [d, .int .i32 1, sm, r, o])] (fun u' _I' H' => u' = .returning ∧ H' = [(rb, cel T [d, .int .i32 0, sm, r, o])]) :=
  CtrD.of_set (off := 1) (v := .tuple #[]) (Enters.of func211 (by decide) rfl) rfl fun w h h2 => (Sync.unlock_deferred ⟨rb, 1, none⟩ .returning w h h2).mono fun _ _ _ ⟨g1, g2, g3⟩ => ⟨g1, g2, .inl g3⟩
theorem store_ok (rb T : Nat) (x m sm r o : Value) (I : Heap) : CtrD Tryz.prog 212 [ptr rb 0, .bool true] .returning I [(rb, cel T [x, m, sm, r, o])] (fun u' _I' H' => u' = .returning ∧ H' = [(rb, cel T [.int .u32 1, m, sm, r, o])]) :=
  CtrD.of_set (off := 0) (v := .tuple #[]) (Enters.of func212 (by decide) rfl) rfl fun w h h2 => (Sync.store_deferred ⟨rb, 0, none⟩ x .returning w h h2).mono fun _ _ _ ⟨g1, g2, g3⟩ => ⟨g1, g2, .inr g3⟩
theorem NewReplacer_ok (ob oc : Nat) (I : Heap) : Ctr Tryz.prog 122 [.slice (some ⟨ob, 0, none⟩) 4 oc] I [(ob, cel 9 (olds.map str))]
    (fun e I' H' => ∃ rb osl, e = .returned (ptr rb 0) ∧ H' = [(rb, cel 215 [.int .u32 0, .int .i32 0, .int .u32 0, .nilIface, osl])] ∧ StrSl 9 I' olds osl) := by
 refine Ctr.ob func122 ?_
 intro w0 hw0
 refine Cj.sr (J.z q1 ?_)
 refine J.nsss (Cj.region (J.z q0 ?_))
 refine J.z (q15 tU28) ?_
 refine J.z q53 ?_
 refine J.z q23 ?_
 refine J.c0 (fun hc1 => ?_)
 refine Cj.ks (Cj.sr (J.z q0 ?_))
 refine J.op rfl (op_append (by' := 15) (n := 0) (g := none) (xs := []) [_] rfl rfl rfl rfl rfl tU28 (.inr ⟨_, tU28⟩) (by kernel_rfl) tS9 tZ9 rfl ⟨rfl, rfl⟩ rfl (Src.slice (Blk.at 0 rfl) rfl rfl rfl) (by omega) ?_)
 intro g2 hg2
 refine J.z (yl_buildS (pl := #[(0, 3), (3, 1), (4, 1)]) rfl rfl zeroValue215 rfl tU215 (fun w => by simp [sizeOf211, sizeOf213]) (LBld.part rfl (gV_cells _ _) rfl (LSpl.s (LSpl.s (LSpl.s (LSpl.s (LSpl.c LSpl.z))))) LBld.none)) ?_
 refine J.op rfl (q28 ?_)
 intro b3 hb3
 refine J.z q1 ?_
 refine J.ns (Cj.ret ?_)
 obtain ⟨gb, gc, gsp, rfl, hgb⟩ := hg2.some (by decide)
 refine Ej.pull (Pull.s (Pull.s Pull.z)) ?_
 refine Ej.persist hgb (fun I9 hle9 hgbi => ?_)
 refine Ej.keep (Keeps.k (Keeps.d Keeps.n)) ?_
 refine q6 ?_
 exact ⟨b3, _, rfl, rfl, gb, gc, gsp, rfl, hgbi⟩
theorem build_ok (rb : Nat) (a0 a1 a2 a3 osl : Value) (I : Heap) (ho : StrSl 9 I olds osl) : Ctr Tryz.prog 196 [ptr rb 0] I [(rb, cel 215 [a0, a1, a2, a3, osl])]
    (fun e I' H' => ∃ xb, e = .returned (.iface 273 (ptr xb 0)) ∧ BSR I' xb ∧ H' = [(rb, cel 215 [a0, a1, a2, a3, osl])]) := by
 obtain ⟨ob, oc, osp, rfl, hob⟩ := ho
 rw [show olds.length = 4 from rfl]
 refine Ctr.ob func196 ?_
 intro w0 hw0
 refine Cj.sr (J.z q1 ?_)
 refine J.nssr (J.z q0 ?_)
 refine J.z q8 ?_
 refine J.z (q4 (off' := 4) tU215 tS28) ?_
 refine J.z (q18 tA28) ?_
 refine J.z q1 ?_
 refine J.nsss (Cj.region (J.z q0 ?_))
 refine J.z (q15 tU28) ?_
 refine J.z q23 ?_
 refine J.z q0 ?_
 refine J.sk 3 22 23 (by first | rfl | decide) ?_
 refine J.sk 3 22 24 (by first | rfl | decide) ?_
 refine J.sk 3 22 25 (by first | rfl | decide) ?_
 refine J.sk 3 22 26 (by first | rfl | decide) ?_
 refine J.sk 3 22 27 (by first | rfl | decide) ?_
 refine J.z (yl_pick0 rfl rfl (by first | rfl | decide) rfl) ?_
 refine J.c0 (fun hc1 => ?_)
 refine Cj.ks (Cj.sr (J.z q1 ?_))
 refine J.nsss (Cj.region (J.z q1 ?_))
 refine J.ns (Cj.block (Cj.rounds 3 ?_))
 refine Rj.succ ?_
 refine Cj.seq (Cj.sr (J.z q0 ?_))
 refine J.z q0 ?_
 refine J.z (q15 tU28) ?_
 refine J.z q17 ?_
 refine J.ns (Cj.cond rfl (fun hc2 => ?_) (fun hc2 => Bool.noConfusion (Eq.trans (Eq.symm (by first | rfl | decide)) hc2)))
 refine Cj.ks (Cj.seq (Cj.block (Cj.seq (Cj.sr (J.z q0 ?_)))))
 refine J.z q0 ?_
 refine J.z (q55 (off' := 0) tU28 tS9) ?_
 refine J.z (q9 tA9 (Blk.imm hob)) ?_
 refine J.z (q26 tU9) ?_
 refine J.z q47 ?_
 refine J.ns (Cj.cond rfl (fun hc3 => Bool.noConfusion (Eq.trans (Eq.symm (by first | rfl | decide)) hc3)) (fun hc3 => ?_))
 refine Cj.ks (Cj.sr (J.z q0 ?_))
 refine J.z q0 ?_
 refine J.z q7 ?_
 refine J.z (q55 (off' := 1) tU28 tS9) ?_
 refine J.z (q9 tA9 (Blk.imm hob)) ?_
 refine J.z (q26 tU9) ?_
 refine J.z q47 ?_
 refine J.ns (Cj.cond rfl (fun hc4 => ?_) (fun hc4 => Bool.noConfusion (Eq.trans (Eq.symm (by first | rfl | decide)) hc4)))
 refine Cj.region (J.z q1 ?_)
 refine J.nb (Cj.region (J.z q0 ?_))
 refine J.z q7 ?_
 refine J.z q1 ?_
 refine J.nil (Ej.rounds ?_)
 refine Rj.succ ?_
 refine Cj.seq (Cj.sr (J.z q0 ?_))
 refine J.z q0 ?_
 refine J.z (q15 tU28) ?_
 refine J.z q17 ?_
 refine J.ns (Cj.cond rfl (fun hc5 => ?_) (fun hc5 => Bool.noConfusion (Eq.trans (Eq.symm (by first | rfl | decide)) hc5)))
 refine Cj.ks (Cj.seq (Cj.block (Cj.seq (Cj.sr (J.z q0 ?_)))))
 refine J.z q0 ?_
 refine J.z (q55 (off' := 2) tU28 tS9) ?_
 refine J.z (q9 tA9 (Blk.imm hob)) ?_
 refine J.z (q26 tU9) ?_
 refine J.z q47 ?_
 refine J.ns (Cj.cond rfl (fun hc6 => Bool.noConfusion (Eq.trans (Eq.symm (by first | rfl | decide)) hc6)) (fun hc6 => ?_))
 refine Cj.ks (Cj.sr (J.z q0 ?_))
 refine J.z q0 ?_
 refine J.z q7 ?_
 refine J.z (q55 (off' := 3) tU28 tS9) ?_
 refine J.z (q9 tA9 (Blk.imm hob)) ?_
 refine J.z (q26 tU9) ?_
 refine J.z q47 ?_
 refine J.ns (Cj.cond rfl (fun hc7 => ?_) (fun hc7 => Bool.noConfusion (Eq.trans (Eq.symm (by first | rfl | decide)) hc7)))
 refine Cj.region (J.z q1 ?_)
 refine J.nb (Cj.region (J.z q0 ?_))
 refine J.z q7 ?_
 refine J.z q1 ?_
 refine J.nil (Ej.rounds ?_)
 refine Rj.succ ?_
 refine Cj.seq (Cj.sr (J.z q0 ?_))
 refine J.z q0 ?_
 refine J.z (q15 tU28) ?_
 refine J.z q17 ?_
 refine J.ns (Cj.cond rfl (fun hc8 => Bool.noConfusion (Eq.trans (Eq.symm (by first | rfl | decide)) hc8)) (fun hc8 => ?_))
 refine Cj.exit (Ej.seqExit (Ej.seqExit (Ej.blkExit (Ej.seq (Cj.seq (Cj.sr (J.z q0 ?_)))))))
 refine J.c0 (fun hc9 => ?_)
 refine Cj.ks (Cj.sr (J.z q0 ?_))
 refine J.z (q15 tU28) ?_
 refine J.z (yl_quo rfl rfl rfl (by decide) (by decide)) ?_
 refine J.op rfl (op_makeSlice (n := 0) (c := 2) (by1 := 16) (z := (str [])) rfl rfl rfl rfl rfl tU28 (by kernel_rfl) rfl (by omega) (by omega) (by omega) ?_)
 intro b10 hb10
 refine J.z (yl_buildS (zs := tab (fun _ => .slice none 0 0) (.slice none 0 0)) (cs := tab (fun _ => .slice none 0 0) (.slice (some ⟨b10, 0, none⟩) 0 2)) (pl := #[(0, 256), (256, 1)]) rfl rfl zeroValue272 zero163 tU272 (fun w => by simp []) (LBld.part rfl rfl rfl (tab_spl _ _ _) LBld.none)) ?_
 refine J.op rfl (op_alloc (zs := tab (fun _ => .slice none 0 0) (.slice none 0 0)) rfl rfl rfl zeroValue272 zero163 ?_)
 intro b11 hb11
 refine J.op rfl (op_store 0 rfl rfl rfl rfl rfl (tab_one (fun _ => rfl) rfl) sizeOf272 (tab_len _ _) rfl (LSpl.all (by rw [tab_len, tab_len])) LSet.z ?_)
 refine J.pull Pull.z ?_
 refine J.pull (Pull.s (Pull.s Pull.z)) ?_
 refine J.nsss (Cj.region (J.z q0 ?_))
 refine J.z (q15 tU28) ?_
 refine J.z q49 ?_
 refine J.z q1 ?_
 refine J.ns (Cj.block (Cj.rounds 3 ?_))
 refine Rj.succ ?_
 refine Cj.seq (Cj.sr (J.z q0 ?_))
 refine J.z q34 ?_
 refine J.ns (Cj.cond rfl (fun hc12 => ?_) (fun hc12 => Bool.noConfusion (Eq.trans (Eq.symm (by first | rfl | decide)) hc12)))
 refine Cj.ks (Cj.seq (Cj.block (Cj.sr (J.z q0 ?_))))
 refine J.z q0 ?_
 refine J.z (q55 (off' := 2) tU28 tS9) ?_
 refine J.z (q9 tA9 (Blk.imm hob)) ?_
 refine J.z (yl_index (c := 45) rfl rfl rfl tU9 (by decide) rfl) ?_
 refine J.z q1 ?_
 refine J.nssr (J.z q0 ?_)
 refine J.z q0 ?_
 refine J.z q7 ?_
 refine J.z (q55 (off' := 3) tU28 tS9) ?_
 refine J.z (q9 tA9 (Blk.imm hob)) ?_
 refine J.z q1 ?_
 refine J.nsss (Cj.region (J.z q0 ?_))
 refine J.z (q4 (off' := 0) tU272 tS270) ?_
 refine J.z (q35 (off' := 45) tU270 tS71) ?_
 refine J.z (yl_load rfl rfl tA71 (Blk.at 1 rfl) (tab_at _ _ (by decide))) ?_
 refine J.eqv 116 rfl (show _ = .slice none 0 0 from (by first | rfl | exact if_neg (by decide))) ?_
 refine J.z (yl_eqlSlice _ rfl rfl rfl tU71) ?_
 refine J.c1 (fun hc13 => ?_)
 refine Cj.region (J.z (q4 (off' := 256) tU272 tS28) ?_)
 refine J.z (q37 tA28 (Blk.at 1 rfl) (tab_tr _ _)) ?_
 refine J.z q0 ?_
 refine J.op rfl (q24 tU71 tS5 tZ5 ?_)
 intro b14 hb14
 refine J.z (yl_toStr [45] rfl rfl rfl tU71 tU9 tU5 (Blk.at 0 rfl) rfl) ?_
 refine J.op rfl (q24 tU28 tS9 tZ9 ?_)
 intro b15 hb15
 refine J.op rfl (op_append (by' := 15) (n := 0) (g := some (b10, 2, List.replicate 2 (str []))) (xs := []) [_, _, _, _] rfl rfl rfl rfl rfl tU28 (.inr ⟨_, tU28⟩) (by kernel_rfl) tS9 tZ9 rfl ⟨hb10, rfl, rfl⟩ rfl (Src.slice (Blk.at 0 rfl) rfl rfl rfl) (by omega) ?_)
 intro g16 hg16
 refine J.z (q4 (off' := 256) tU272 tS28) ?_
 refine J.op rfl (op_store1 3 rfl rfl rfl rfl (gV_cells1 _ _) (gV_oneC _ _) tS28 rfl (.inl rfl) (by rw [tab_len]; decide) (by rw [tab_setTr]; exact (LSet.s (LSet.s (LSet.s LSet.z)))) ?_)
 refine J.nsr (J.z q0 ?_)
 refine J.z q0 ?_
 refine J.op rfl (op_toBytes rfl rfl rfl rfl tU9 tU71 tU5 ?_)
 intro b17 c18 sp19 fr20 hb17 hfr20
 refine J.persist hb17 (fun I22 hle21 hb17i => ?_)
 have hob := hle21 _ _ hob
 refine J.z (q4 (off' := 0) tU272 tS270) ?_
 refine J.z (q35 (off' := 45) tU270 tS71) ?_
 refine J.op rfl (op_store1 3 rfl rfl rfl rfl rfl rfl tS71 rfl (.inl rfl) (by rw [tab_len]; decide) (by rw [tab_set _ _ _ (by decide)]; exact (LSet.s (LSet.s (LSet.s LSet.z)))) ?_)
 refine J.nb (Cj.region (J.z q0 ?_))
 refine J.z q49 ?_
 refine J.z q1 ?_
 refine J.nil (Ej.rounds ?_)
 refine Rj.succ ?_
 refine Cj.seq (Cj.sr (J.z q0 ?_))
 refine J.z q34 ?_
 refine J.ns (Cj.cond rfl (fun hc23 => ?_) (fun hc23 => Bool.noConfusion (Eq.trans (Eq.symm (by first | rfl | decide)) hc23)))
 refine Cj.ks (Cj.seq (Cj.block (Cj.sr (J.z q0 ?_))))
 refine J.z q0 ?_
 refine J.z (q55 (off' := 0) tU28 tS9) ?_
 refine J.z (q9 tA9 (Blk.imm hob)) ?_
 refine J.z (yl_index (c := 32) rfl rfl rfl tU9 (by decide) rfl) ?_
 refine J.z q1 ?_
 refine J.nssr (J.z q0 ?_)
 refine J.z q0 ?_
 refine J.z q7 ?_
 refine J.z (q55 (off' := 1) tU28 tS9) ?_
 refine J.z (q9 tA9 (Blk.imm hob)) ?_
 refine J.z q1 ?_
 refine J.nsss (Cj.region (J.z q0 ?_))
 refine J.z (q4 (off' := 0) tU272 tS270) ?_
 refine J.z (q35 (off' := 32) tU270 tS71) ?_
 refine J.z (yl_load rfl rfl tA71 (Blk.at 3 rfl) (tab_at _ _ (by decide))) ?_
 refine J.eqv 116 rfl (show _ = .slice none 0 0 from (by first | rfl | exact if_neg (by decide))) ?_
 refine J.z (yl_eqlSlice _ rfl rfl rfl tU71) ?_
 refine J.c1 (fun hc24 => ?_)
 refine Cj.region (J.z (q4 (off' := 256) tU272 tS28) ?_)
 refine J.z (q37 tA28 (Blk.at 3 rfl) (tab_tr _ _)) ?_
 refine J.z q0 ?_
 refine J.op rfl (q24 tU71 tS5 tZ5 ?_)
 intro b25 hb25
 refine J.z (yl_toStr [32] rfl rfl rfl tU71 tU9 tU5 (Blk.at 0 rfl) rfl) ?_
 refine J.op rfl (q24 tU28 tS9 tZ9 ?_)
 intro b26 hb26
 refine J.op rfl (op_append (by' := 15) [_, _, _, _, _, _] rfl rfl rfl rfl rfl tU28 (.inr ⟨_, tU28⟩) (by kernel_rfl) tS9 tZ9 rfl hg16 rfl (Src.slice (Blk.at 0 rfl) rfl rfl rfl) (by omega) ?_)
 intro g27 hg27
 refine J.z (q4 (off' := 256) tU272 tS28) ?_
 refine J.op rfl (op_store1 5 rfl rfl rfl rfl (gV_cells1 _ _) (gV_oneC _ _) tS28 rfl (.inl rfl) (by rw [tab_len]; decide) (by rw [tab_setTr]; exact (LSet.s (LSet.s (LSet.s (LSet.s (LSet.s LSet.z)))))) ?_)
 refine J.nsr (J.z q0 ?_)
 refine J.z q0 ?_
 refine J.op rfl (op_toBytes rfl rfl rfl rfl tU9 tU71 tU5 ?_)
 intro b28 c29 sp30 fr31 hb28 hfr31
 refine J.persist hb28 (fun I33 hle32 hb28i => ?_)
 have hb17i := hle32 _ _ hb17i
 refine J.z (q4 (off' := 0) tU272 tS270) ?_
 refine J.z (q35 (off' := 32) tU270 tS71) ?_
 refine J.op rfl (op_store1 5 rfl rfl rfl rfl rfl rfl tS71 rfl (.inl rfl) (by rw [tab_len]; decide) (by rw [tab_set _ _ _ (by decide)]; exact (LSet.s (LSet.s (LSet.s (LSet.s (LSet.s LSet.z)))))) ?_)
 refine J.nb (Cj.region (J.z q0 ?_))
 refine J.z q49 ?_
 refine J.z q1 ?_
 refine J.nil (Ej.rounds ?_)
 refine Rj.succ ?_
 refine Cj.seq (Cj.sr (J.z q0 ?_))
 refine J.z q34 ?_
 refine J.ns (Cj.cond rfl (fun hc34 => Bool.noConfusion (Eq.trans (Eq.symm (by first | rfl | decide)) hc34)) (fun hc34 => ?_))
 refine Cj.exit (Ej.seqExit (Ej.seqExit (Ej.blkExit (Ej.seq (Cj.sr (J.z (yl_makeIface rfl rfl underlying273 rfl) ?_))))))
 refine J.z q1 ?_
 refine J.ns (Cj.ret ?_)
 obtain ⟨gb, gc, gsp, rfl, hgb⟩ := hg27.some (by decide)
 refine Ej.pull (Pull.s (Pull.s (Pull.s (Pull.s (Pull.s (Pull.s Pull.z)))))) ?_
 refine Ej.persist hgb (fun I9 hle9 hgbi => ?_)
 refine Ej.pull (Pull.s (Pull.s (Pull.s (Pull.s (Pull.s Pull.z))))) ?_
 refine Ej.persist hb11 (fun I8 hle8 hxbi => ?_)
 refine Ej.keep (Keeps.d (Keeps.d (Keeps.d (Keeps.d (Keeps.k Keeps.n))))) ?_
 refine q6 ?_
 exact ⟨b11, rfl, ⟨_, _, _, hxbi, ⟨b17, _, _, _, rfl, hle8 _ _ (hle9 _ _ hb17i)⟩, ⟨b28, _, _, _, rfl, hle8 _ _ (hle9 _ _ hb28i)⟩, gb, gc, gsp, rfl, hle8 _ _ hgbi⟩, rfl⟩
def RepH (rb : Nat) (d m sm r o : Value) : HL := [(rb, cel 215 [d, m, sm, r, o])]
def Rep1 (I : Heap) (rb : Nat) (d m : Value) (H : HL) : Prop := ∃ xb, BSR I xb ∧ H = RepH rb d m (.int .u32 0) (.iface 273 (ptr xb 0)) (.slice none 0 0)
theorem buildOnce_ok (rb : Nat) (d m osl : Value) (I : Heap) (ho : StrSl 9 I olds osl) : Ctr Tryz.prog 164 [ptr rb 0] I (RepH rb d m (.int .u32 0) .nilIface osl)
    (fun e I' H' => e = .returned (.tuple #[]) ∧ Rep1 I' rb d m H') := by
 refine Ctr.ob func164 ?_
 intro w0 hw0
 refine Cj.sr (J.z q0 ?_)
 refine J.z q0 ?_
 refine J.pull Pull.z ?_
 refine J.op rfl (q36 (H1 := [_]) rfl rfl rfl rfl rfl (build_ok rb _ _ _ _ osl _ ho) ?_)
 intro v1 I2 H3 hle4 hp5
 obtain ⟨xb, h, hbs, rfl⟩ := hp5; cases h
 refine J.z q8 ?_
 refine J.z (q4 (off' := 3) tU215 sizeOf213) ?_
 refine J.op rfl (q21 0 sizeOf213 (LSpl.s (LSpl.s (LSpl.s (LSpl.c LSpl.z)))) LSet.z ?_)
 refine J.nsr (J.z q0 ?_)
 refine J.z q8 ?_
 refine J.z (q4 (off' := 4) tU215 tS28) ?_
 refine J.op rfl (q21 0 tS28 (LSpl.s (LSpl.s (LSpl.s (LSpl.s (LSpl.c LSpl.z))))) LSet.z ?_)
 refine J.nil (q39 ?_)
 exact ⟨rfl, xb, hbs, rfl⟩
theorem doSlow_ok (rb : Nat) (osl : Value) (I : Heap) (ho : StrSl 9 I olds osl) : Ctr Tryz.prog 195 [ptr rb 0, .func (.func 164) #[ptr rb 0] #[]] I (RepH rb (.int .u32 0) (.int .i32 0) (.int .u32 0) .nilIface osl)
    (fun e I' H' => e = .returned (.tuple #[]) ∧ Rep1 I' rb (.int .u32 1) (.int .i32 0) H') := by
 refine Ctr.of_bodyD func195 rfl (by decide) (Nat.le_of_ble_eq_true rfl) ?_
 intro w0 hw0
 refine Cj.sr (J.z q0 ?_)
 refine J.z q8 ?_
 refine J.z (q4 (off' := 1) tU211 sizeOf209) ?_
 refine J.pull Pull.z ?_
 refine J.op rfl (op_call (H1 := [_]) rfl rfl rfl rfl rfl (lock_ok rb 215 _ _ _ _ _) ?_ (fun _ _ _ _ h => by cases h.1) (fun _ _ h => by cases h.1))
 intro v1 I2 H3 hle4 hp5
 have ho := ho.mono hle4
 obtain ⟨h, rfl⟩ := hp5; cases h
 refine J.nssr (J.z q0 ?_)
 refine J.z q8 ?_
 refine J.z (q4 (off' := 1) tU211 sizeOf209) ?_
 refine J.defer rfl rfl rfl rfl rfl ?_
 refine J.nssr (J.z q0 ?_)
 refine J.z q8 ?_
 refine J.z (q4 (off' := 0) tU211 sizeOf205) ?_
 refine J.pull Pull.z ?_
 refine J.op rfl (op_call (H1 := [_]) rfl rfl rfl rfl rfl (load_ok rb 215 0 _ 0 rfl _) ?_ (fun _ _ _ _ h => by cases h.1) (fun _ _ h => by cases h.1))
 intro v6 I7 H8 hle9 hp10
 have ho := ho.mono hle9
 obtain ⟨h, rfl⟩ := hp10; cases h
 refine J.z q50 ?_
 refine J.ns (Cj.cond rfl (fun hc11 => ?_) (fun hc11 => Bool.noConfusion (Eq.trans (Eq.symm (congrArg not rfl)) hc11)))
 refine Cj.sr (J.z q0 ?_)
 refine J.z q8 ?_
 refine J.z (q4 (off' := 0) tU211 sizeOf205) ?_
 refine J.defer rfl rfl rfl rfl rfl ?_
 refine J.nsr (J.z q0 ?_)
 refine J.pull Pull.z ?_
 refine J.op rfl (op_call (H1 := [_]) rfl rfl rfl rfl rfl (buildOnce_ok rb _ _ osl _ ho) ?_ (fun _ _ _ _ h => by cases h.1) (fun _ _ h => by cases h.1))
 intro v12 I13 H14 hle15 hp16
 obtain ⟨h, xb, hbs, rfl⟩ := hp16; cases h
 refine J.nil (Ej.leave2 (H1 := [_]) (R1 := []) rfl (store_ok rb 215 _ _ _ _ _ _) (fun _ => unlock_ok rb 215 _ _ _ _ _) (fun I9 hle9 => ResJ.none rfl ?_))
 exact ⟨rfl, xb, hbs.mono hle9, rfl⟩
theorem Do_ok (rb : Nat) (osl : Value) (I : Heap) (ho : StrSl 9 I olds osl) : Ctr Tryz.prog 163 [ptr rb 0, .func (.func 164) #[ptr rb 0] #[]] I (RepH rb (.int .u32 0) (.int .i32 0) (.int .u32 0) .nilIface osl)
    (fun e I' H' => e = .returned (.tuple #[]) ∧ Rep1 I' rb (.int .u32 1) (.int .i32 0) H') := by
 refine Ctr.ob func163 ?_
 intro w0 hw0
 refine Cj.sr (J.z q0 ?_)
 refine J.z q8 ?_
 refine J.z (q4 (off' := 0) tU211 sizeOf205) ?_
 refine J.pull Pull.z ?_
 refine J.op rfl (op_call (H1 := [_]) rfl rfl rfl rfl rfl (load_ok rb 215 0 _ 0 rfl _) ?_ (fun _ _ _ _ h => by cases h.1) (fun _ _ h => by cases h.1))
 intro v1 I2 H3 hle4 hp5
 have ho := ho.mono hle4
 obtain ⟨h, rfl⟩ := hp5; cases h
 refine J.z q50 ?_
 refine J.ns (Cj.cond rfl (fun hc6 => ?_) (fun hc6 => Bool.noConfusion (Eq.trans (Eq.symm (congrArg not rfl)) hc6)))
 refine Cj.region (J.z q0 ?_)
 refine J.z q0 ?_
 refine J.pull Pull.z ?_
 refine J.op rfl (op_call (H1 := [_]) rfl rfl rfl rfl rfl (doSlow_ok rb osl _ ho) ?_ (fun _ _ _ _ h => by cases h.1) (fun _ _ h => by cases h.1))
 intro v7 I8 H9 hle10 hp11
 obtain ⟨h, xb, hbs, rfl⟩ := hp11; cases h
 refine J.nil (q39 ?_)
 exact ⟨rfl, xb, hbs, rfl⟩
end Go.Proofs.YtjcdfnbomkoheaaGreatDoor
end
section
namespace Go.Proofs
open _root_.Go.Proofs.Tryz
open Go.Shelf
def Tryz.lays158_ren : Go.Shelf.Ren := ⟨fun | 158 => 121 | 165 => 159 | 166 => 109 | 167 => 160 | 169 => 111 | 230 => 161 | 203 => 162 | 240 => 154 | 241 => 188 | 197 => 189 | 118 => 190 | 168 => 191 | 270 => 192 | 262 => 193 | 276 => 184 | 277 => 205 | 260 => 206 | 242 => 207 | 313 => 208 | 278 => 217 | 274 => 218 | 275 => 219 | n => n, fun | 9 => 9 | 4 => 4 | 3 => 3 | 5 => 5 | 72 => 154 | 0 => 0 | 76 => 158 | 75 => 157 | 107 => 200 | 70 => 152 | 20 => 20 | 37 => 71 | 127 => 191 | 21 => 21 | 105 => 239 | 164 => 236 | 162 => 258 | 203 => 256 | 119 => 267 | 46 => 135 | 139 => 276 | 138 => 275 | 51 => 177 | 160 => 277 | 208 => 297 | 206 => 295 | 80 => 161 | n => n, fun | 13 => 1 | 3 => 2 | 4 => 3 | n => n⟩
theorem Tryz.lays158 : Go.Proofs.Lays.n158 Tryz.prog Tryz.lays158_ren := {
  mixed := by kernel_rfl
  f118 := func190.trans (congrArg some (by kernel_rfl))
  f158 := func121.trans (congrArg some (by kernel_rfl))
  f165 := func159.trans (congrArg some (by kernel_rfl))
  f166 := func109.trans (congrArg some (by kernel_rfl))
  f167 := func160.trans (congrArg some (by kernel_rfl))
  f168 := func191.trans (congrArg some (by kernel_rfl))
  f169 := func111.trans (congrArg some (by kernel_rfl))
  f197 := func189.trans (congrArg some (by kernel_rfl))
  f203 := func162.trans (congrArg some (by kernel_rfl))
  f230 := func161.trans (congrArg some (by kernel_rfl))
  f240 := func154.trans (congrArg some (by kernel_rfl))
  f241 := func188.trans (congrArg some (by kernel_rfl))
  f242 := func207.trans (congrArg some (by kernel_rfl))
  f260 := func206.trans (congrArg some (by kernel_rfl))
  f262 := func193.trans (congrArg some (by kernel_rfl))
  f270 := func192.trans (congrArg some (by kernel_rfl))
  f274 := func218.trans (congrArg some (by kernel_rfl))
  f275 := func219.trans (congrArg some (by kernel_rfl))
  f276 := func184.trans (congrArg some (by kernel_rfl))
  f277 := func205.trans (congrArg some (by kernel_rfl))
  f278 := func217.trans (congrArg some (by kernel_rfl))
  f313 := func208.trans (congrArg some (by kernel_rfl))
  t0 := underlying0
  a0 := isAgg0
  z0 := sizeOf0
  v0 := zeroValue0
  t3 := underlying3
  a3 := isAgg3
  z3 := sizeOf3
  v3 := zeroValue3
  t4 := underlying4
  a4 := isAgg4
  z4 := sizeOf4
  v4 := zeroValue4
  t5 := underlying5
  a5 := isAgg5
  z5 := sizeOf5
  v5 := zeroValue5
  t9 := underlying9
  a9 := isAgg9
  z9 := sizeOf9
  v9 := zeroValue9
  t20 := underlying20
  a20 := isAgg20
  z20 := sizeOf20
  v20 := zeroValue20
  t21 := underlying21
  a21 := isAgg21
  z21 := sizeOf21
  v21 := zeroValue21
  t37 := underlying71
  a37 := isAgg71
  z37 := sizeOf71
  v37 := zeroValue71
  t46 := underlying135
  a46 := isAgg135
  z46 := sizeOf135
  v46 := zeroValue135
  t51 := underlying177
  a51 := isAgg177
  z51 := sizeOf177
  v51 := zeroValue177
  t70 := underlying152
  a70 := isAgg152
  z70 := sizeOf152
  v70 := zeroValue152
  t72 := underlying154
  a72 := isAgg154
  z72 := sizeOf154
  v72 := zeroValue154
  t75 := underlying157
  a75 := isAgg157
  z75 := sizeOf157
  v75 := zeroValue157
  t76 := underlying158
  a76 := isAgg158
  z76 := sizeOf158
  v76 := zeroValue158
  t105 := underlying239
  a105 := isAgg239
  z105 := sizeOf239
  v105 := zeroValue239
  t107 := underlying200
  a107 := isAgg200
  z107 := sizeOf200
  v107 := zeroValue200
  t119 := underlying267
  a119 := isAgg267
  z119 := sizeOf267
  t127 := underlying191
  a127 := isAgg191
  z127 := sizeOf191
  v127 := zeroValue191
  t138 := underlying275
  a138 := isAgg275
  z138 := sizeOf275
  v138 := zeroValue275
  t139 := underlying276
  a139 := isAgg276
  z139 := sizeOf276
  v139 := zeroValue276
  t160 := underlying277
  a160 := isAgg277
  z160 := sizeOf277
  v160 := zeroValue277
  t162 := underlying258
  a162 := isAgg258
  z162 := sizeOf258
  v162 := zeroValue258
  t164 := underlying236
  a164 := isAgg236
  z164 := sizeOf236
  v164 := zeroValue236
  t203 := underlying256
  a203 := isAgg256
  z203 := sizeOf256
  v203 := zeroValue256
  t206 := underlying295
  a206 := isAgg295
  z206 := sizeOf295
  v206 := zeroValue295
  t208 := underlying297
  a208 := isAgg297
  z208 := sizeOf297
  v208 := zeroValue297
  g3 := by kernel_rfl
  g4 := by kernel_rfl
  g13 := by kernel_rfl }
theorem Tryz.Builder_Extra_158 : Builder.Extra Tryz.prog Tryz.lays158_ren := {
  sizeBuilder := by kernel_rfl
  liesBuilder := by kernel_rfl
  t5 := underlying5
  a5 := isAgg5
  z5 := sizeOf5
  v5 := zeroValue5
  infoByte := by kernel_rfl
  cellsByte := by kernel_rfl
  sizeByte := by kernel_rfl
  neB5 := by decide }
open Go.RowKit in
theorem Tryz.strings_ToUpper_ascii (s : ByteArray) (w : World) (hs : s.size ≤ 140737488355328) (hascii : ∀ (j : Nat) (b : UInt8), s.data.toList[j]? = some b → b.toNat < 128) :
    Calls Tryz.prog 121 #[.string s] w fun e w' => e = .returned (.string ⟨(Lib.toUpperA s.data.toList).toArray⟩) ∧ Below w.heap.size w w' := Any.strings_ToUpper_ascii Tryz.lays158 Tryz.Builder_Extra_158 s w hs hascii
def Tryz.lays156_ren : Go.Shelf.Ren := ⟨fun | 156 => 128 | 165 => 159 | 166 => 109 | 169 => 111 | 240 => 154 | 241 => 188 | 276 => 184 | 277 => 205 | n => n, fun | 31 => 28 | 9 => 9 | 3 => 3 | 4 => 4 | 0 => 0 | 20 => 20 | 72 => 154 | 76 => 158 | 70 => 152 | 37 => 71 | 75 => 157 | 127 => 191 | 164 => 236 | 5 => 5 | 80 => 161 | n => n, fun | n => n⟩
theorem Tryz.lays156 : Go.Proofs.Lays.n156 Tryz.prog Tryz.lays156_ren := {
  mixed := by kernel_rfl
  f156 := func128.trans (congrArg some (by kernel_rfl))
  f165 := func159.trans (congrArg some (by kernel_rfl))
  f166 := func109.trans (congrArg some (by kernel_rfl))
  f169 := func111.trans (congrArg some (by kernel_rfl))
  f240 := func154.trans (congrArg some (by kernel_rfl))
  f241 := func188.trans (congrArg some (by kernel_rfl))
  f276 := func184.trans (congrArg some (by kernel_rfl))
  f277 := func205.trans (congrArg some (by kernel_rfl))
  t0 := underlying0
  a0 := isAgg0
  z0 := sizeOf0
  v0 := zeroValue0
  t3 := underlying3
  a3 := isAgg3
  z3 := sizeOf3
  v3 := zeroValue3
  t4 := underlying4
  a4 := isAgg4
  z4 := sizeOf4
  v4 := zeroValue4
  t9 := underlying9
  a9 := isAgg9
  z9 := sizeOf9
  v9 := zeroValue9
  t20 := underlying20
  a20 := isAgg20
  z20 := sizeOf20
  v20 := zeroValue20
  t31 := underlying28
  a31 := isAgg28
  z31 := sizeOf28
  v31 := zeroValue28
  t37 := underlying71
  a37 := isAgg71
  z37 := sizeOf71
  v37 := zeroValue71
  t70 := underlying152
  a70 := isAgg152
  z70 := sizeOf152
  v70 := zeroValue152
  t72 := underlying154
  a72 := isAgg154
  z72 := sizeOf154
  v72 := zeroValue154
  t75 := underlying157
  a75 := isAgg157
  z75 := sizeOf157
  v75 := zeroValue157
  t76 := underlying158
  a76 := isAgg158
  z76 := sizeOf158
  v76 := zeroValue158
  t127 := underlying191
  a127 := isAgg191
  z127 := sizeOf191
  v127 := zeroValue191
  t164 := underlying236
  a164 := isAgg236
  z164 := sizeOf236
  v164 := zeroValue236 }
theorem Tryz.Builder_Extra_156 : Builder.Extra Tryz.prog Tryz.lays156_ren := {
  sizeBuilder := by kernel_rfl
  liesBuilder := by kernel_rfl
  t5 := underlying5
  a5 := isAgg5
  z5 := sizeOf5
  v5 := zeroValue5
  infoByte := by kernel_rfl
  cellsByte := by kernel_rfl
  sizeByte := by kernel_rfl
  neB5 := by decide }
open Go.RowKit in
theorem Tryz.strings_Join_none (a : Option Addr) (c : Nat) (sep : ByteArray) (w : World) :
    Calls Tryz.prog 128 #[.slice a 0 c, .string sep] w fun e w' => e = .returned (.string ⟨#[]⟩) ∧ w' = w := Any.strings_Join_none Tryz.lays156 Tryz.Builder_Extra_156 a c sep w
open Go.RowKit in
theorem Tryz.strings_Join (bk o c : Nat) (xs : List ByteArray) (sep : ByteArray) (w : World) (hcells : ∀ (j : Nat) x, xs[j]? = some x → w.cell? ⟨bk, o + j, none⟩ = some (.string x)) (hbk : bk < w.heap.size) (hN : xs.length ≤ 140737488355328) (hcap : xs.length ≤ c) (hlen : (Lib.join (xs.map (·.data.toList)) sep.data.toList).length ≤ 140737488355328) :
    Calls Tryz.prog 128 #[.slice (some ⟨bk, o, none⟩) xs.length c, .string sep] w fun e w' => e = .returned (.string ⟨(Lib.join (xs.map (·.data.toList)) sep.data.toList).toArray⟩) ∧ Below w.heap.size w w' := Any.strings_Join Tryz.lays156 Tryz.Builder_Extra_156 bk o c xs sep w hcells hbk hN hcap hlen
def Tryz.lays161_ren : Go.Shelf.Ren := ⟨fun | 161 => 127 | 231 => 166 | 227 => 167 | 233 => 168 | 235 => 169 | 228 => 200 | 197 => 189 | 151 => 120 | 260 => 206 | 152 => 158 | 137 => 151 | 119 => 185 | 224 => 186 | 225 => 187 | 217 => 182 | 266 => 203 | n => n, fun | 9 => 9 | 4 => 4 | 3 => 3 | 5 => 5 | 117 => 220 | 116 => 219 | 0 => 0 | 124 => 223 | 105 => 239 | 21 => 21 | 119 => 267 | 46 => 135 | 139 => 276 | 138 => 275 | n => n, fun | 3 => 2 | 4 => 3 | n => n⟩
theorem Tryz.lays161 : Go.Proofs.Lays.n161 Tryz.prog Tryz.lays161_ren := {
  mixed := by kernel_rfl
  f119 := func185.trans (congrArg some (by kernel_rfl))
  f137 := func151.trans (congrArg some (by kernel_rfl))
  f151 := func120.trans (congrArg some (by kernel_rfl))
  f152 := func158.trans (congrArg some (by kernel_rfl))
  f161 := func127.trans (congrArg some (by kernel_rfl))
  f197 := func189.trans (congrArg some (by kernel_rfl))
  f217 := func182.trans (congrArg some (by kernel_rfl))
  f224 := func186.trans (congrArg some (by kernel_rfl))
  f225 := func187.trans (congrArg some (by kernel_rfl))
  f227 := func167.trans (congrArg some (by kernel_rfl))
  f228 := func200.trans (congrArg some (by kernel_rfl))
  f231 := func166.trans (congrArg some (by kernel_rfl))
  f233 := func168.trans (congrArg some (by kernel_rfl))
  f235 := func169.trans (congrArg some (by kernel_rfl))
  f260 := func206.trans (congrArg some (by kernel_rfl))
  f266 := func203.trans (congrArg some (by kernel_rfl))
  t0 := underlying0
  a0 := isAgg0
  z0 := sizeOf0
  v0 := zeroValue0
  t3 := underlying3
  a3 := isAgg3
  z3 := sizeOf3
  v3 := zeroValue3
  t4 := underlying4
  a4 := isAgg4
  z4 := sizeOf4
  v4 := zeroValue4
  t5 := underlying5
  a5 := isAgg5
  z5 := sizeOf5
  v5 := zeroValue5
  t9 := underlying9
  a9 := isAgg9
  z9 := sizeOf9
  v9 := zeroValue9
  t21 := underlying21
  a21 := isAgg21
  z21 := sizeOf21
  v21 := zeroValue21
  t46 := underlying135
  a46 := isAgg135
  z46 := sizeOf135
  v46 := zeroValue135
  t105 := underlying239
  a105 := isAgg239
  z105 := sizeOf239
  v105 := zeroValue239
  t116 := underlying219
  a116 := isAgg219
  z116 := sizeOf219
  t117 := underlying220
  a117 := isAgg220
  z117 := sizeOf220
  v117 := zeroValue220
  t119 := underlying267
  a119 := isAgg267
  z119 := sizeOf267
  t124 := underlying223
  a124 := isAgg223
  z124 := sizeOf223
  v124 := zeroValue223
  t138 := underlying275
  a138 := isAgg275
  z138 := sizeOf275
  v138 := zeroValue275
  t139 := underlying276
  a139 := isAgg276
  z139 := sizeOf276
  v139 := zeroValue276
  g3 := by kernel_rfl
  g4 := by kernel_rfl }
open Go.RowKit in
theorem Tryz.strings_TrimLeft_one (s : ByteArray) (c : UInt8) (hc : c.toNat < 128) (w : World) :
    Calls Tryz.prog 127 #[.string s, .string ⟨#[c]⟩] w fun e w' => e = .returned (.string ⟨(Lib.trimLeftB s.data.toList c).toArray⟩) ∧ w' = w := Any.strings_TrimLeft_one Tryz.lays161 s c hc w
def Tryz.lays160_ren : Go.Shelf.Ren := ⟨fun | 160 => 165 | 232 => 197 | 231 => 166 | 227 => 167 | 234 => 198 | 233 => 168 | 236 => 199 | 235 => 169 | 228 => 200 | 271 => 215 | 151 => 120 | 197 => 189 | 120 => 226 | 152 => 158 | 260 => 206 | 137 => 151 | 119 => 185 | 224 => 186 | 225 => 187 | 217 => 182 | 266 => 203 | n => n, fun | 9 => 9 | 4 => 4 | 3 => 3 | 5 => 5 | 117 => 220 | 116 => 219 | 0 => 0 | 124 => 223 | 21 => 21 | 105 => 239 | 46 => 135 | 119 => 267 | 139 => 276 | 138 => 275 | n => n, fun | 3 => 2 | 4 => 3 | n => n⟩
theorem Tryz.lays160 : Go.Proofs.Lays.n160 Tryz.prog Tryz.lays160_ren := {
  mixed := by kernel_rfl
  f119 := func185.trans (congrArg some (by kernel_rfl))
  f120 := func226.trans (congrArg some (by kernel_rfl))
  f137 := func151.trans (congrArg some (by kernel_rfl))
  f151 := func120.trans (congrArg some (by kernel_rfl))
  f152 := func158.trans (congrArg some (by kernel_rfl))
  f160 := func165.trans (congrArg some (by kernel_rfl))
  f197 := func189.trans (congrArg some (by kernel_rfl))
  f217 := func182.trans (congrArg some (by kernel_rfl))
  f224 := func186.trans (congrArg some (by kernel_rfl))
  f225 := func187.trans (congrArg some (by kernel_rfl))
  f227 := func167.trans (congrArg some (by kernel_rfl))
  f228 := func200.trans (congrArg some (by kernel_rfl))
  f231 := func166.trans (congrArg some (by kernel_rfl))
  f232 := func197.trans (congrArg some (by kernel_rfl))
  f233 := func168.trans (congrArg some (by kernel_rfl))
  f234 := func198.trans (congrArg some (by kernel_rfl))
  f235 := func169.trans (congrArg some (by kernel_rfl))
  f236 := func199.trans (congrArg some (by kernel_rfl))
  f260 := func206.trans (congrArg some (by kernel_rfl))
  f266 := func203.trans (congrArg some (by kernel_rfl))
  f271 := func215.trans (congrArg some (by kernel_rfl))
  t0 := underlying0
  a0 := isAgg0
  z0 := sizeOf0
  v0 := zeroValue0
  t3 := underlying3
  a3 := isAgg3
  z3 := sizeOf3
  v3 := zeroValue3
  t4 := underlying4
  a4 := isAgg4
  z4 := sizeOf4
  v4 := zeroValue4
  t5 := underlying5
  a5 := isAgg5
  z5 := sizeOf5
  v5 := zeroValue5
  t9 := underlying9
  a9 := isAgg9
  z9 := sizeOf9
  v9 := zeroValue9
  t21 := underlying21
  a21 := isAgg21
  z21 := sizeOf21
  v21 := zeroValue21
  t46 := underlying135
  a46 := isAgg135
  z46 := sizeOf135
  v46 := zeroValue135
  t105 := underlying239
  a105 := isAgg239
  z105 := sizeOf239
  v105 := zeroValue239
  t116 := underlying219
  a116 := isAgg219
  z116 := sizeOf219
  t117 := underlying220
  a117 := isAgg220
  z117 := sizeOf220
  v117 := zeroValue220
  t119 := underlying267
  a119 := isAgg267
  z119 := sizeOf267
  t124 := underlying223
  a124 := isAgg223
  z124 := sizeOf223
  v124 := zeroValue223
  t138 := underlying275
  a138 := isAgg275
  z138 := sizeOf275
  v138 := zeroValue275
  t139 := underlying276
  a139 := isAgg276
  z139 := sizeOf276
  v139 := zeroValue276
  g3 := by kernel_rfl
  g4 := by kernel_rfl }
def Tryz.lays119_ren : Go.Shelf.Ren := ⟨fun | 119 => 185 | n => n, fun | 21 => 21 | 4 => 4 | n => n, fun | n => n⟩
theorem Tryz.lays119 : Go.Proofs.Lays.n119 Tryz.prog Tryz.lays119_ren := {
  mixed := by kernel_rfl
  f119 := func185.trans (congrArg some (by kernel_rfl))
  t4 := underlying4
  a4 := isAgg4
  z4 := sizeOf4
  v4 := zeroValue4
  t21 := underlying21
  a21 := isAgg21
  z21 := sizeOf21
  v21 := zeroValue21 }
theorem Tryz.utf8_ValidRune (r : Int) (w : World) :
    Calls Tryz.prog 185 #[.int .i32 r] w fun e w' => e = .returned (.bool (Lib.validRune r)) ∧ w' = w := Any.utf8_ValidRune Tryz.lays119 r w
def Tryz.lays137_ren : Go.Shelf.Ren := ⟨fun | 137 => 151 | 217 => 182 | 266 => 203 | n => n, fun | 9 => 9 | 5 => 5 | 3 => 3 | n => n, fun | n => n⟩
theorem Tryz.lays137 : Go.Proofs.Lays.n137 Tryz.prog Tryz.lays137_ren := {
  mixed := by kernel_rfl
  f137 := func151.trans (congrArg some (by kernel_rfl))
  f217 := func182.trans (congrArg some (by kernel_rfl))
  f266 := func203.trans (congrArg some (by kernel_rfl))
  t3 := underlying3
  a3 := isAgg3
  z3 := sizeOf3
  v3 := zeroValue3
  t5 := underlying5
  a5 := isAgg5
  z5 := sizeOf5
  v5 := zeroValue5
  t9 := underlying9
  a9 := isAgg9
  z9 := sizeOf9
  v9 := zeroValue9 }
open Go.RowKit in
theorem Tryz.strings_IndexByte (s : ByteArray) (c : Int) (w : World) :
    Calls Tryz.prog 151 #[.string s, .int .u8 c] w fun e w' => e = .returned (.int .i64 (Lib.indexByte s.data.toList c.toNat.toUInt8)) ∧ w' = w := Any.strings_IndexByte Tryz.lays137 s c w
def Tryz.lays122_ren : Go.Shelf.Ren := ⟨fun | 122 => 99 | 215 => 147 | n => n, fun | 3 => 3 | 4 => 4 | n => n, fun | n => n⟩
theorem Tryz.lays122 : Go.Proofs.Lays.n122 Tryz.prog Tryz.lays122_ren := {
  mixed := by kernel_rfl
  f122 := func99.trans (congrArg some (by kernel_rfl))
  f215 := func147.trans (congrArg some (by kernel_rfl))
  t3 := underlying3
  a3 := isAgg3
  z3 := sizeOf3
  v3 := zeroValue3
  t4 := underlying4
  a4 := isAgg4
  z4 := sizeOf4
  v4 := zeroValue4 }
open Go.RowKit in
theorem Tryz.cmp_Compare_int (x y : Int) (w : World) :
    Calls Tryz.prog 99 #[.int .i64 x, .int .i64 y] w fun e w' => e = .returned (.int .i64 (Lib.compareInt x y)) ∧ w' = w := Any.cmp_Compare_int Tryz.lays122 x y w
def Tryz.lays219_ren : Go.Shelf.Ren := ⟨fun | 219 => 216 | 217 => 182 | 225 => 187 | 224 => 186 | 267 => 227 | 266 => 203 | 314 => 237 | n => n, fun | 9 => 9 | 3 => 3 | 4 => 4 | 5 => 5 | 46 => 135 | 146 => 307 | 51 => 177 | n => n, fun | 1 => 0 | n => n⟩
theorem Tryz.lays219 : Go.Proofs.Lays.n219 Tryz.prog Tryz.lays219_ren := {
  mixed := by kernel_rfl
  f217 := func182.trans (congrArg some (by kernel_rfl))
  f219 := func216.trans (congrArg some (by kernel_rfl))
  f224 := func186.trans (congrArg some (by kernel_rfl))
  f225 := func187.trans (congrArg some (by kernel_rfl))
  f266 := func203.trans (congrArg some (by kernel_rfl))
  f267 := func227.trans (congrArg some (by kernel_rfl))
  f314 := func237.trans (congrArg some (by kernel_rfl))
  t3 := underlying3
  a3 := isAgg3
  z3 := sizeOf3
  v3 := zeroValue3
  t4 := underlying4
  a4 := isAgg4
  z4 := sizeOf4
  v4 := zeroValue4
  t5 := underlying5
  a5 := isAgg5
  z5 := sizeOf5
  v5 := zeroValue5
  t9 := underlying9
  a9 := isAgg9
  z9 := sizeOf9
  v9 := zeroValue9
  t46 := underlying135
  a46 := isAgg135
  z46 := sizeOf135
  v46 := zeroValue135
  t51 := underlying177
  a51 := isAgg177
  z51 := sizeOf177
  v51 := zeroValue177
  t146 := underlying307
  a146 := isAgg307
  z146 := sizeOf307
  v146 := zeroValue307
  g1 := by kernel_rfl }
open Go.RowKit Go.Lib in
theorem Tryz.stringslite_Index_one (s : ByteArray) (c : UInt8) (w : World) :
    Calls Tryz.prog 216 #[.string s, .string ⟨#[c]⟩] w fun e w' => e = .returned (.int .i64 (Lib.indexByte s.data.toList c)) ∧ w' = w := Any.stringslite_Index_one Tryz.lays219 s c w
def Tryz.lays138_ren : Go.Shelf.Ren := ⟨fun | 138 => 271 | 195 => 272 | 218 => 273 | 143 => 274 | 219 => 216 | 217 => 182 | 225 => 187 | 224 => 186 | 267 => 227 | 266 => 203 | 314 => 237 | n => n, fun | 9 => 9 | 3 => 3 | 4 => 4 | 5 => 5 | 0 => 0 | 46 => 135 | 146 => 307 | 51 => 177 | n => n, fun | 1 => 0 | n => n⟩
theorem Tryz.lays138 : Go.Proofs.Lays.n138 Tryz.prog Tryz.lays138_ren := {
  mixed := by kernel_rfl
  f138 := func271.trans (congrArg some (by kernel_rfl))
  f143 := func274.trans (congrArg some (by kernel_rfl))
  f195 := func272.trans (congrArg some (by kernel_rfl))
  f217 := func182.trans (congrArg some (by kernel_rfl))
  f218 := func273.trans (congrArg some (by kernel_rfl))
  f219 := func216.trans (congrArg some (by kernel_rfl))
  f224 := func186.trans (congrArg some (by kernel_rfl))
  f225 := func187.trans (congrArg some (by kernel_rfl))
  f266 := func203.trans (congrArg some (by kernel_rfl))
  f267 := func227.trans (congrArg some (by kernel_rfl))
  f314 := func237.trans (congrArg some (by kernel_rfl))
  t0 := underlying0
  a0 := isAgg0
  z0 := sizeOf0
  v0 := zeroValue0
  t3 := underlying3
  a3 := isAgg3
  z3 := sizeOf3
  v3 := zeroValue3
  t4 := underlying4
  a4 := isAgg4
  z4 := sizeOf4
  v4 := zeroValue4
  t5 := underlying5
  a5 := isAgg5
  z5 := sizeOf5
  v5 := zeroValue5
  t9 := underlying9
  a9 := isAgg9
  z9 := sizeOf9
  v9 := zeroValue9
  t46 := underlying135
  a46 := isAgg135
  z46 := sizeOf135
  v46 := zeroValue135
  t51 := underlying177
  a51 := isAgg177
  z51 := sizeOf177
  v51 := zeroValue177
  t146 := underlying307
  a146 := isAgg307
  z146 := sizeOf307
  v146 := zeroValue307
  g1 := by kernel_rfl }
open Go.RowKit Go.Lib in
theorem Tryz.strings_Count_one (s : ByteArray) (c : UInt8) (w : World) :
    Calls Tryz.prog 271 #[.string s, .string ⟨#[c]⟩] w fun e w' => e = .returned (.int .i64 (Lib.countByte s.data.toList c)) ∧ w' = w := Any.strings_Count_one Tryz.lays138 s c w
def Tryz.lays151_ren : Go.Shelf.Ren := ⟨fun | 151 => 120 | 152 => 158 | 137 => 151 | 119 => 185 | 224 => 186 | 225 => 187 | 217 => 182 | 266 => 203 | n => n, fun | 9 => 9 | 21 => 21 | 4 => 4 | 3 => 3 | 5 => 5 | 0 => 0 | 46 => 135 | n => n, fun | n => n⟩
theorem Tryz.lays151 : Go.Proofs.Lays.n151 Tryz.prog Tryz.lays151_ren := {
  mixed := by kernel_rfl
  f119 := func185.trans (congrArg some (by kernel_rfl))
  f137 := func151.trans (congrArg some (by kernel_rfl))
  f151 := func120.trans (congrArg some (by kernel_rfl))
  f152 := func158.trans (congrArg some (by kernel_rfl))
  f217 := func182.trans (congrArg some (by kernel_rfl))
  f224 := func186.trans (congrArg some (by kernel_rfl))
  f225 := func187.trans (congrArg some (by kernel_rfl))
  f266 := func203.trans (congrArg some (by kernel_rfl))
  t0 := underlying0
  a0 := isAgg0
  z0 := sizeOf0
  v0 := zeroValue0
  t3 := underlying3
  a3 := isAgg3
  z3 := sizeOf3
  v3 := zeroValue3
  t4 := underlying4
  a4 := isAgg4
  z4 := sizeOf4
  v4 := zeroValue4
  t5 := underlying5
  a5 := isAgg5
  z5 := sizeOf5
  v5 := zeroValue5
  t9 := underlying9
  a9 := isAgg9
  z9 := sizeOf9
  v9 := zeroValue9
  t21 := underlying21
  a21 := isAgg21
  z21 := sizeOf21
  v21 := zeroValue21
  t46 := underlying135
  a46 := isAgg135
  z46 := sizeOf135
  v46 := zeroValue135 }
open Go.RowKit Go.Lib in
theorem Tryz.strings_ContainsRune_ascii (s : ByteArray) (r : Int) (w : World) (h0 : 0 ≤ r) (h1 : r < 128) :
    Calls Tryz.prog 120 #[.string s, .int .i32 r] w fun e w' => e = .returned (.bool (decide (0 ≤ Lib.indexByte s.data.toList r.toNat.toUInt8))) ∧ w' = w := Any.strings_ContainsRune_ascii Tryz.lays151 s r w h0 h1
def Tryz.lays229_ren : Go.Shelf.Ren := ⟨fun | 229 => 178 | n => n, fun | 9 => 9 | 40 => 165 | 31 => 28 | 152 => 251 | 3 => 3 | 0 => 0 | 4 => 4 | 21 => 21 | 154 => 253 | n => n, fun | n => n⟩
theorem Tryz.lays229 : Go.Proofs.Lays.n229 Tryz.prog Tryz.lays229_ren := {
  mixed := by kernel_rfl
  f229 := func178.trans (congrArg some (by kernel_rfl))
  t0 := underlying0
  a0 := isAgg0
  z0 := sizeOf0
  v0 := zeroValue0
  t3 := underlying3
  a3 := isAgg3
  z3 := sizeOf3
  v3 := zeroValue3
  t4 := underlying4
  a4 := isAgg4
  z4 := sizeOf4
  v4 := zeroValue4
  t9 := underlying9
  a9 := isAgg9
  z9 := sizeOf9
  v9 := zeroValue9
  t21 := underlying21
  a21 := isAgg21
  z21 := sizeOf21
  v21 := zeroValue21
  t31 := underlying28
  a31 := isAgg28
  z31 := sizeOf28
  v31 := zeroValue28
  t40 := underlying165
  a40 := isAgg165
  z40 := sizeOf165
  v40 := zeroValue165
  t152 := underlying251
  a152 := isAgg251
  z152 := sizeOf251
  v152 := zeroValue251
  t154 := underlying253
  a154 := isAgg253
  z154 := sizeOf253
  v154 := zeroValue253 }
open Go.RowKit Go.Lib in
theorem Tryz.strings_FieldsFunc_grows (g : Nat) (lb : Array Value) (eg : ∀ args w, (callFunc g args).run Tryz.prog w = .ok (.enter g args) w) (p : Nat → Bool) (s : ByteArray) (w : World) (hs : s.size ≤ 4294967296) (hp : PredGrows Tryz.prog g lb p w) :
    Calls Tryz.prog 178 #[.string s, .func (.func g) #[] lb] w fun e w' => ∃ A, e = .returned (.slice (some ⟨A, 0, none⟩) (Lib.goFieldsP p s).length (Lib.goFieldsP p s).length) ∧ w.heap.size ≤ A ∧
      w'.ownsRow w.heap.size 9 1 (.slice (some ⟨A, 0, none⟩) (Lib.goFieldsP p s).length (Lib.goFieldsP p s).length) (Lib.goFieldsP p s).length ((Lib.goFieldsP p s).map Value.string) ∧ Below w.heap.size w w' := Any.strings_FieldsFunc_grows Tryz.lays229 g lb eg p s w hs hp (by kernel_rfl) (by kernel_rfl)
end Go.Proofs
end
section
namespace Go.Proofs.YtjcdfnbomkoheaaGreatDoor
open _root_.Go.Proofs.Tryz
open Go Go.Sx
theorem yl_sliceFromAny {cx : Cx} {o : Oper} {e : Env} {S : World → Prop} {x y : Operand} {T E b off n c sz j : Nat} {kl : IntKind} (ho : o.op = .slice T x (some y) none none) (hx : ev e x = some (.slice (some ⟨b, off, Option.none⟩) n c)) (hy : ev e y = some (.int kl (j : Int))) (hu : cx.P.underlying T = some (.slice E)) (hsz : ∀ w, (sizeOf E).run cx.P w = .ok sz w) (hj : j ≤ n) (hc : j ≤ c) :
    Yld cx o e S (.slice (some ⟨b, if c = j then off else off + j * sz, none⟩) (n - j) (c - j)) := by
  by_cases h : c = j
  · intro a w ha _
    have h1 : (j : Int) ≤ n := by omega
    simp [execOp, ho, ha.eval hx, ha.eval hy, Instr.sliceAt, Instr.slice, run_underlying hu, Instr.sliceBounds, run_sliceBound, h1, hsz, h]
  rw [if_neg h]
  exact yl_sliceFrom ho hx hy hu hsz hj (by omega)
theorem LSpl.none {α : Type} {l : List α} {i : Nat} (h : i ≤ l.length) : LSpl l i [] l := ⟨by simpa using h, by simp⟩
theorem Count_ok (s : List UInt8) (c : UInt8) (I : Heap) : Pure Tryz.prog 271 [str s, str [c]] I (i64 (s.count c)) :=
  Pure.of_same (Enters.of func271 (by decide) rfl) fun w _ => by
    have h := Tryz.strings_Count_one ⟨s.toArray⟩ c w
    rw [ba_list] at h
    exact h
theorem bsReplace_ok (xb : Nat) (s : List UInt8) (hs : s.length ≤ 1000000000) (I : Heap) (hb : BSR I xb) : Pure Tryz.prog 269 [ptr xb 0, str s] I (str (Ke.rep s)) := by
 obtain ⟨v1, v2, tr, hxb, ⟨l1, c1, sp1, fr1, rfl, hv1⟩, ⟨l2, c2, sp2, fr2, rfl, hv2⟩, tb, tc, tsp, rfl, htb⟩ := hb
 rw [show ([[45], [32]] : List (List UInt8)).length = 2 from rfl, show ([] : List UInt8).length = 0 from rfl] at hxb
 have hec := Ke.rep_cnt s
 have hcc := Ke.cnt_counts s
 have hcl : Ke.cnt s ≤ s.length := List.countP_le_length
 refine Ctr.ob func269 ?_
 intro w0 hw0
 refine Cj.sr (J.z q1 ?_)
 refine J.nssr (J.z q0 ?_)
 refine J.z (q26 tU9) ?_
 refine J.z q1 ?_
 refine J.nssr (J.z q1 ?_)
 refine J.nsss (Cj.region (J.z q0 ?_))
 refine J.z q8 ?_
 refine J.z (q4 (off' := 256) tU272 tS28) ?_
 refine J.z (q37 tA28 (Blk.imm hxb) (tab_tr _ _)) ?_
 refine J.z (q15 tU28) ?_
 refine J.z (yl_mul rfl rfl rfl (w64 (by omega))) ?_
 refine J.z q0 ?_
 refine J.z (q26 tU9) ?_
 refine J.z q38 ?_
 refine J.cd (fun hc1 => ?_) (fun hc1 => ?_)
 ·
  have hc1p := odt hc1
  refine Cj.sr (J.z q0 ?_)
  refine J.z q8 ?_
  refine J.z (q4 (off' := 256) tU272 tS28) ?_
  refine J.z (q37 tA28 (Blk.imm hxb) (tab_tr _ _)) ?_
  refine J.z (q15 tU28) ?_
  refine J.z q0 ?_
  refine J.ns (Cj.block (Cj.rounds 3 ?_))
  refine Rj.succ ?_
  refine Cj.sr (J.z q17 ?_)
  refine J.nss (Cj.cond rfl (fun hc2 => ?_) (fun hc2 => Bool.noConfusion (Eq.trans (Eq.symm (by first | rfl | decide)) hc2)))
  refine Cj.ks (Cj.seq (Cj.block (Cj.sr (J.z (q55 (off' := 0) tU28 tS9) ?_))))
  refine J.z (q9 tA9 (Blk.imm htb)) ?_
  refine J.z q1 ?_
  refine J.nssr (J.z q0 ?_)
  refine J.z q0 ?_
  refine J.op rfl (op_pure rfl rfl rfl rfl rfl (Count_ok s 45 _) ?_)
  refine J.z q1 ?_
  refine J.nssr (J.z q0 ?_)
  refine J.z q47 ?_
  refine J.cd (fun hc3 => ?_) (fun hc3 => ?_)
  ·
   have hc3p := bne_iff_ne.1 hc3
   refine Cj.seq (Cj.drawSel [] [] 14 (by kernel_rfl) ?_)
   refine JA.fix fx1 (fun fx4 => ?_)
   refine JA.tk 0 rfl fx4 q0 ?_
   refine JA.tk 1 rfl fx4 q0 ?_
   refine JA.tk 2 rfl fx4 q0 ?_
   refine JA.tk 3 rfl fx4 q0 ?_
   refine JA.tk 4 rfl fx4 (yl_index (c := 45) rfl rfl rfl tU9 (by decide) rfl) ?_
   refine JA.tk 5 rfl fx4 q8 ?_
   refine JA.tk 6 rfl fx4 (q4 (off' := 0) tU272 tS270) ?_
   refine JA.tk 7 rfl fx4 (q35 (off' := 45) tU270 tS71) ?_
   refine JA.tk 8 rfl fx4 (yl_load rfl rfl tA71 (Blk.immC hxb) (tab_at _ _ (by decide))) ?_
   refine JA.eqv 49 rfl (show _ = .slice (some ⟨l1, 0, none⟩) 0 c1 from rfl) ?_
   refine JA.tk 9 rfl fx4 (q15 tU71) ?_
   refine JA.tk 10 rfl fx4 q49 ?_
   refine JA.tk 11 rfl fx4 (yl_mul rfl rfl rfl (w64 (by omega))) ?_
   refine JA.tk 12 rfl fx4 q7 ?_
   refine JA.tk 13 rfl fx4 q1 ?_
   refine q14 ?_
   refine Ej.seq (Cj.region (J.z q1 ?_))
   refine J.nb (Cj.region (J.z q7 ?_))
   refine J.z q0 ?_
   refine J.nil (Ej.rounds ?_)
   refine Rj.succ ?_
   refine Cj.sr (J.z q17 ?_)
   refine J.nss (Cj.cond rfl (fun hc5 => ?_) (fun hc5 => Bool.noConfusion (Eq.trans (Eq.symm (by first | rfl | decide)) hc5)))
   refine Cj.ks (Cj.seq (Cj.block (Cj.sr (J.z (q55 (off' := 1) tU28 tS9) ?_))))
   refine J.z (q9 tA9 (Blk.imm htb)) ?_
   refine J.z q1 ?_
   refine J.nssr (J.z q0 ?_)
   refine J.z q0 ?_
   refine J.op rfl (op_pure rfl rfl rfl rfl rfl (Count_ok s 32 _) ?_)
   refine J.z q1 ?_
   refine J.nssr (J.z q0 ?_)
   refine J.z q47 ?_
   refine J.cd (fun hc6 => ?_) (fun hc6 => ?_)
   ·
    have hc6p := bne_iff_ne.1 hc6
    refine Cj.seq (Cj.drawSel [] [] 14 (by kernel_rfl) ?_)
    refine JA.fix fx1 (fun fx7 => ?_)
    refine JA.tk 0 rfl fx7 q0 ?_
    refine JA.tk 1 rfl fx7 q0 ?_
    refine JA.tk 2 rfl fx7 q0 ?_
    refine JA.tk 3 rfl fx7 q0 ?_
    refine JA.tk 4 rfl fx7 (yl_index (c := 32) rfl rfl rfl tU9 (by decide) rfl) ?_
    refine JA.tk 5 rfl fx7 q8 ?_
    refine JA.tk 6 rfl fx7 (q4 (off' := 0) tU272 tS270) ?_
    refine JA.tk 7 rfl fx7 (q35 (off' := 32) tU270 tS71) ?_
    refine JA.tk 8 rfl fx7 (yl_load rfl rfl tA71 (Blk.immC hxb) (tab_at _ _ (by decide))) ?_
    refine JA.eqv 49 rfl (show _ = .slice (some ⟨l2, 0, none⟩) 0 c2 from rfl) ?_
    refine JA.tk 9 rfl fx7 (q15 tU71) ?_
    refine JA.tk 10 rfl fx7 q49 ?_
    refine JA.tk 11 rfl fx7 (yl_mul rfl rfl rfl (w64 (by omega))) ?_
    refine JA.tk 12 rfl fx7 q7 ?_
    refine JA.tk 13 rfl fx7 q1 ?_
    refine q14 ?_
    refine Ej.seq (Cj.region (J.z q1 ?_))
    refine J.nb (Cj.region (J.z q7 ?_))
    refine J.z q0 ?_
    refine J.nil (Ej.rounds ?_)
    refine Rj.succ ?_
    refine Cj.sr (J.z q17 ?_)
    refine J.nss (Cj.cond rfl (fun hc8 => Bool.noConfusion (Eq.trans (Eq.symm (by first | rfl | decide)) hc8)) (fun hc8 => ?_))
    refine Cj.exit (Ej.seqExit (Ej.seqExit (Ej.blkExit (Ej.seq (Cj.seq (Cj.sr (J.z q0 ?_)))))))
    refine J.z q50 ?_
    refine J.ns (Cj.cond rfl (fun hc9 => Bool.noConfusion (Eq.trans (Eq.symm (congrArg not rfl)) hc9)) (fun hc9 => ?_))
    refine Cj.ks (Cj.sr (J.z q0 ?_))
    refine J.op rfl (op_makeSlice (n := (Ke.rep s).length) (c := (Ke.rep s).length) (by1 := 1) (z := (.int .u8 0)) rfl rfl rfl (by first | exact congrArg (fun z => some (Value.int .i64 z)) (by omega) | (rw [htk0]; exact congrArg (fun z => some (Value.int .i64 z)) (by omega))) (by first | exact congrArg (fun z => some (Value.int .i64 z)) (by omega) | (rw [htk0]; exact congrArg (fun z => some (Value.int .i64 z)) (by omega))) tU71 (by kernel_rfl) rfl (by omega) (by omega) (by omega) ?_)
    intro b10 hb10
    refine J.z q1 ?_
    refine J.nssr (J.z q1 ?_)
    refine J.nsss (Cj.region (J.z q1 ?_))
    refine J.ns (Cj.block (Cj.loop (ι := Nat) (fun j => j ≤ s.length) (fun j => s.length - j) (fun j => [(0, ptr xb 0), (1, str s), (12, .slice (some ⟨b10, 0, none⟩) (Ke.rep s).length (Ke.rep s).length), (13, i64 ((Ke.rep (s.take j)).length : Int)), (14, i64 (j : Int))]) (fun j => I) (fun j => [(b10, cel 5 (buf (Ke.rep (s.take j)) (Ke.rep s).length))]) 0 (Nat.zero_le _) ⟨rfl, rfl, rfl, rfl, rfl, trivial⟩ rfl (by rw [List.take_zero]; exact congrArg (fun l => [(_, cel 5 l)]) (buf_nil _)) ?_))
    intro j hj
    have hej := Ke.rep_part s j
    refine Cj.seq (Cj.sr (J.z q0 ?_))
    refine J.z q0 ?_
    refine J.z (q26 tU9) ?_
    refine J.z q17 ?_
    refine J.cd (fun hc11 => ?_) (fun hc11 => ?_)
    ·
     have hc11p := odt hc11
     have hlt : j < s.length := by omega
     obtain ⟨c, hget⟩ : ∃ c, s[j]? = some c := ⟨_, lgg hlt⟩
     have hx2 := Ke.rep_next hget
     have hej2 := Ke.rep_part s (j + 1)
     refine Cj.ks (Cj.seq (Cj.block (Cj.sr (J.z q0 ?_))))
     refine J.z q0 ?_
     refine J.z (q42 tU9 hget) ?_
     refine J.z q1 ?_
     refine J.nssr ?_
     rcases Ke.three c with rfl | rfl | hno
     ·
      have hx3 : Ke.rep (s.take (j + 1)) = Ke.rep (s.take j) ++ [] := hx2.trans (by simp)
      have hl3 : (Ke.rep (s.take (j + 1))).length = (Ke.rep (s.take j)).length + 0 := by rw [hx3, List.length_append]; rfl
      refine J.z q0 ?_
      refine J.z q0 ?_
      refine J.z q8 ?_
      refine J.z (q4 (off' := 0) tU272 tS270) ?_
      refine J.z (q35 (off' := 45) tU270 tS71) ?_
      refine J.z (yl_load rfl rfl tA71 (Blk.imm hxb) (tab_at _ _ (by decide))) ?_
      refine J.eqv 100 rfl (show _ = .slice (some ⟨l1, 0, none⟩) 0 c1 from rfl) ?_
      refine J.z (yl_neqSlice _ rfl rfl rfl tU71) ?_
      refine J.c1 (fun hc12 => ?_)
      refine Cj.drawSel [] [] 13 (by kernel_rfl) ?_
      refine JA.fix fx1 (fun fx13 => ?_)
      refine JA.tk 0 rfl fx13 q0 ?_
      refine JA.tk 1 rfl fx13 q0 ?_
      refine JA.tk 2 rfl fx13 q0 ?_
      refine JA.tk 3 rfl fx13 (yl_sliceFromAny rfl rfl rfl tU71 tS5 (by omega) (by omega)) ?_
      refine JA.tk 4 rfl fx13 q0 ?_
      refine JA.tk 5 rfl fx13 q0 ?_
      refine JA.tk 6 rfl fx13 q8 ?_
      refine JA.tk 7 rfl fx13 (q4 (off' := 0) tU272 tS270) ?_
      refine JA.tk 8 rfl fx13 (q35 (off' := 45) tU270 tS71) ?_
      refine JA.tk 9 rfl fx13 (yl_load rfl rfl tA71 (Blk.immC hxb) (tab_at _ _ (by decide))) ?_
      refine JA.eqv 111 rfl (show _ = .slice (some ⟨l1, 0, none⟩) 0 c1 from rfl) ?_
      refine q13 10 rfl (op_copy (m := 0) 0 rfl rfl rfl rfl rfl tU71 tS5 (Src.slice (ys := []) (Blk.imm hv1) rfl rfl rfl) (by omega) rfl (LSpl.none (by rw [buf_len hej]; split <;> omega)) LSet.z ?_)
      refine ⟨fx0, ?_⟩
      refine JA.fix fx1 (fun fx14 => ?_)
      refine JA.tk 11 rfl fx14 q7 ?_
      refine JA.tk 12 rfl fx14 q1 ?_
      refine q14 ?_
      refine Ej.blkNormal (Ej.seq (Cj.region (J.z q0 ?_)))
      refine J.z q7 ?_
      refine J.z q1 ?_
      refine J.nil (Ej.round (j + 1) (by omega) (by omega) ⟨rfl, rfl, rfl, by rw [hl3]; rfl, rfl, trivial⟩ rfl (by rw [hx3]; first | rfl | simp))
     ·
      have hx3 : Ke.rep (s.take (j + 1)) = Ke.rep (s.take j) ++ [] := hx2.trans (by simp)
      have hl3 : (Ke.rep (s.take (j + 1))).length = (Ke.rep (s.take j)).length + 0 := by rw [hx3, List.length_append]; rfl
      refine J.z q0 ?_
      refine J.z q0 ?_
      refine J.z q8 ?_
      refine J.z (q4 (off' := 0) tU272 tS270) ?_
      refine J.z (q35 (off' := 32) tU270 tS71) ?_
      refine J.z (yl_load rfl rfl tA71 (Blk.imm hxb) (tab_at _ _ (by decide))) ?_
      refine J.eqv 100 rfl (show _ = .slice (some ⟨l2, 0, none⟩) 0 c2 from rfl) ?_
      refine J.z (yl_neqSlice _ rfl rfl rfl tU71) ?_
      refine J.c1 (fun hc15 => ?_)
      refine Cj.drawSel [] [] 13 (by kernel_rfl) ?_
      refine JA.fix fx1 (fun fx16 => ?_)
      refine JA.tk 0 rfl fx16 q0 ?_
      refine JA.tk 1 rfl fx16 q0 ?_
      refine JA.tk 2 rfl fx16 q0 ?_
      refine JA.tk 3 rfl fx16 (yl_sliceFromAny rfl rfl rfl tU71 tS5 (by omega) (by omega)) ?_
      refine JA.tk 4 rfl fx16 q0 ?_
      refine JA.tk 5 rfl fx16 q0 ?_
      refine JA.tk 6 rfl fx16 q8 ?_
      refine JA.tk 7 rfl fx16 (q4 (off' := 0) tU272 tS270) ?_
      refine JA.tk 8 rfl fx16 (q35 (off' := 32) tU270 tS71) ?_
      refine JA.tk 9 rfl fx16 (yl_load rfl rfl tA71 (Blk.immC hxb) (tab_at _ _ (by decide))) ?_
      refine JA.eqv 111 rfl (show _ = .slice (some ⟨l2, 0, none⟩) 0 c2 from rfl) ?_
      refine q13 10 rfl (op_copy (m := 0) 0 rfl rfl rfl rfl rfl tU71 tS5 (Src.slice (ys := []) (Blk.imm hv2) rfl rfl rfl) (by omega) rfl (LSpl.none (by rw [buf_len hej]; split <;> omega)) LSet.z ?_)
      refine ⟨fx0, ?_⟩
      refine JA.fix fx1 (fun fx17 => ?_)
      refine JA.tk 11 rfl fx17 q7 ?_
      refine JA.tk 12 rfl fx17 q1 ?_
      refine q14 ?_
      refine Ej.blkNormal (Ej.seq (Cj.region (J.z q0 ?_)))
      refine J.z q7 ?_
      refine J.z q1 ?_
      refine J.nil (Ej.round (j + 1) (by omega) (by omega) ⟨rfl, rfl, rfl, by rw [hl3]; rfl, rfl, trivial⟩ rfl (by rw [hx3]; first | rfl | simp))
     have hx3 : Ke.rep (s.take (j + 1)) = Ke.rep (s.take j) ++ [c] := hx2.trans (by simp [hno])
     have hl3 : (Ke.rep (s.take (j + 1))).length = (Ke.rep (s.take j)).length + 1 := by rw [hx3, List.length_append]; rfl
     have hc256 : c.toNat < 256 := c.toNat_lt
     have hn34 : ¬ c.toNat = 45 := fun h => hno (.inr (UInt8.toNat_inj.1 h))
     have hn92 : ¬ c.toNat = 32 := fun h => hno (.inl (UInt8.toNat_inj.1 h))
     refine J.z q0 ?_
     refine J.z q0 ?_
     refine J.z q8 ?_
     refine J.z (q4 (off' := 0) tU272 tS270) ?_
     refine J.z (yl_indexArr (off' := c.toNat) rfl rfl rfl tU270 tS71 (by omega) (by omega) (by simp)) ?_
     refine J.z (q37 tA71 (Blk.imm hxb) (tab_at _ _ hc256)) ?_
     refine J.eqv 100 rfl (show _ = .slice none 0 0 from (by rw [if_neg hn92, if_neg hn34])) ?_
     refine J.z (yl_neqSlice _ rfl rfl rfl tU71) ?_
     refine J.c0 (fun hc18 => ?_)
     refine Cj.sr (J.z q0 ?_)
     refine J.z q0 ?_
     refine J.z q0 ?_
     refine J.z (q19 (off' := (Ke.rep (s.take j)).length) tU71 tS5) ?_
     refine J.op rfl (op_store1 0 rfl rfl rfl rfl rfl rfl tS5 rfl (.inl rfl) (by rw [buf_len hej]; omega) (by rw [buf_set _ (by omega)]; exact LSet.z) ?_)
     refine J.nsr (J.z q0 ?_)
     refine J.z q7 ?_
     refine J.z q1 ?_
     refine J.nb (Cj.region (J.z q0 ?_))
     refine J.z q7 ?_
     refine J.z q1 ?_
     refine J.nil (Ej.round (j + 1) (by omega) (by omega) ⟨rfl, rfl, rfl, by rw [hl3]; rfl, rfl, trivial⟩ rfl (by rw [hx3]; first | rfl | simp))
    have hc11p := odf hc11
    have htk : s.take j = s := List.take_of_length_le (by omega)
    refine Cj.xl (Cj.sr (J.z q0 ?_))
    refine J.z (yl_toStr (Ke.rep s) rfl rfl rfl tU71 tU9 tU5 (Blk.at 0 rfl) (by rw [htk, buf_full rfl, List.append_nil]; exact List.take_of_length_le (by rw [List.drop_zero, bcs_len]; exact Nat.le_refl _))) ?_
    refine J.z q1 ?_
    refine J.ns (Cj.ret (Ej.bare ?_))
    refine q6 ?_
    exact ⟨rfl, rfl, rfl⟩
   have hc6p := bne_f hc6
   refine Cj.kb (Cj.region (J.z q7 ?_))
   refine J.z q0 ?_
   refine J.nil (Ej.rounds ?_)
   refine Rj.succ ?_
   refine Cj.sr (J.z q17 ?_)
   refine J.nss (Cj.cond rfl (fun hc19 => Bool.noConfusion (Eq.trans (Eq.symm (by first | rfl | decide)) hc19)) (fun hc19 => ?_))
   refine Cj.exit (Ej.seqExit (Ej.seqExit (Ej.blkExit (Ej.seq (Cj.seq (Cj.sr (J.z q0 ?_)))))))
   refine J.z q50 ?_
   refine J.ns (Cj.cond rfl (fun hc20 => Bool.noConfusion (Eq.trans (Eq.symm (congrArg not rfl)) hc20)) (fun hc20 => ?_))
   refine Cj.ks (Cj.sr (J.z q0 ?_))
   refine J.op rfl (op_makeSlice (n := (Ke.rep s).length) (c := (Ke.rep s).length) (by1 := 1) (z := (.int .u8 0)) rfl rfl rfl (by first | exact congrArg (fun z => some (Value.int .i64 z)) (by omega) | (rw [htk0]; exact congrArg (fun z => some (Value.int .i64 z)) (by omega))) (by first | exact congrArg (fun z => some (Value.int .i64 z)) (by omega) | (rw [htk0]; exact congrArg (fun z => some (Value.int .i64 z)) (by omega))) tU71 (by kernel_rfl) rfl (by omega) (by omega) (by omega) ?_)
   intro b21 hb21
   refine J.z q1 ?_
   refine J.nssr (J.z q1 ?_)
   refine J.nsss (Cj.region (J.z q1 ?_))
   refine J.ns (Cj.block (Cj.loop (ι := Nat) (fun j => j ≤ s.length) (fun j => s.length - j) (fun j => [(0, ptr xb 0), (1, str s), (12, .slice (some ⟨b21, 0, none⟩) (Ke.rep s).length (Ke.rep s).length), (13, i64 ((Ke.rep (s.take j)).length : Int)), (14, i64 (j : Int))]) (fun j => I) (fun j => [(b21, cel 5 (buf (Ke.rep (s.take j)) (Ke.rep s).length))]) 0 (Nat.zero_le _) ⟨rfl, rfl, rfl, rfl, rfl, trivial⟩ rfl (by rw [List.take_zero]; exact congrArg (fun l => [(_, cel 5 l)]) (buf_nil _)) ?_))
   intro j hj
   have hej := Ke.rep_part s j
   refine Cj.seq (Cj.sr (J.z q0 ?_))
   refine J.z q0 ?_
   refine J.z (q26 tU9) ?_
   refine J.z q17 ?_
   refine J.cd (fun hc22 => ?_) (fun hc22 => ?_)
   ·
    have hc22p := odt hc22
    have hlt : j < s.length := by omega
    obtain ⟨c, hget⟩ : ∃ c, s[j]? = some c := ⟨_, lgg hlt⟩
    have hx2 := Ke.rep_next hget
    have hej2 := Ke.rep_part s (j + 1)
    refine Cj.ks (Cj.seq (Cj.block (Cj.sr (J.z q0 ?_))))
    refine J.z q0 ?_
    refine J.z (q42 tU9 hget) ?_
    refine J.z q1 ?_
    refine J.nssr ?_
    rcases Ke.three c with rfl | rfl | hno
    ·
     have hx3 : Ke.rep (s.take (j + 1)) = Ke.rep (s.take j) ++ [] := hx2.trans (by simp)
     have hl3 : (Ke.rep (s.take (j + 1))).length = (Ke.rep (s.take j)).length + 0 := by rw [hx3, List.length_append]; rfl
     refine J.z q0 ?_
     refine J.z q0 ?_
     refine J.z q8 ?_
     refine J.z (q4 (off' := 0) tU272 tS270) ?_
     refine J.z (q35 (off' := 45) tU270 tS71) ?_
     refine J.z (yl_load rfl rfl tA71 (Blk.imm hxb) (tab_at _ _ (by decide))) ?_
     refine J.eqv 100 rfl (show _ = .slice (some ⟨l1, 0, none⟩) 0 c1 from rfl) ?_
     refine J.z (yl_neqSlice _ rfl rfl rfl tU71) ?_
     refine J.c1 (fun hc23 => ?_)
     refine Cj.drawSel [] [] 13 (by kernel_rfl) ?_
     refine JA.fix fx1 (fun fx24 => ?_)
     refine JA.tk 0 rfl fx24 q0 ?_
     refine JA.tk 1 rfl fx24 q0 ?_
     refine JA.tk 2 rfl fx24 q0 ?_
     refine JA.tk 3 rfl fx24 (yl_sliceFromAny rfl rfl rfl tU71 tS5 (by omega) (by omega)) ?_
     refine JA.tk 4 rfl fx24 q0 ?_
     refine JA.tk 5 rfl fx24 q0 ?_
     refine JA.tk 6 rfl fx24 q8 ?_
     refine JA.tk 7 rfl fx24 (q4 (off' := 0) tU272 tS270) ?_
     refine JA.tk 8 rfl fx24 (q35 (off' := 45) tU270 tS71) ?_
     refine JA.tk 9 rfl fx24 (yl_load rfl rfl tA71 (Blk.immC hxb) (tab_at _ _ (by decide))) ?_
     refine JA.eqv 111 rfl (show _ = .slice (some ⟨l1, 0, none⟩) 0 c1 from rfl) ?_
     refine q13 10 rfl (op_copy (m := 0) 0 rfl rfl rfl rfl rfl tU71 tS5 (Src.slice (ys := []) (Blk.imm hv1) rfl rfl rfl) (by omega) rfl (LSpl.none (by rw [buf_len hej]; split <;> omega)) LSet.z ?_)
     refine ⟨fx0, ?_⟩
     refine JA.fix fx1 (fun fx25 => ?_)
     refine JA.tk 11 rfl fx25 q7 ?_
     refine JA.tk 12 rfl fx25 q1 ?_
     refine q14 ?_
     refine Ej.blkNormal (Ej.seq (Cj.region (J.z q0 ?_)))
     refine J.z q7 ?_
     refine J.z q1 ?_
     refine J.nil (Ej.round (j + 1) (by omega) (by omega) ⟨rfl, rfl, rfl, by rw [hl3]; rfl, rfl, trivial⟩ rfl (by rw [hx3]; first | rfl | simp))
    ·
     have hx3 : Ke.rep (s.take (j + 1)) = Ke.rep (s.take j) ++ [] := hx2.trans (by simp)
     have hl3 : (Ke.rep (s.take (j + 1))).length = (Ke.rep (s.take j)).length + 0 := by rw [hx3, List.length_append]; rfl
     refine J.z q0 ?_
     refine J.z q0 ?_
     refine J.z q8 ?_
     refine J.z (q4 (off' := 0) tU272 tS270) ?_
     refine J.z (q35 (off' := 32) tU270 tS71) ?_
     refine J.z (yl_load rfl rfl tA71 (Blk.imm hxb) (tab_at _ _ (by decide))) ?_
     refine J.eqv 100 rfl (show _ = .slice (some ⟨l2, 0, none⟩) 0 c2 from rfl) ?_
     refine J.z (yl_neqSlice _ rfl rfl rfl tU71) ?_
     refine J.c1 (fun hc26 => ?_)
     refine Cj.drawSel [] [] 13 (by kernel_rfl) ?_
     refine JA.fix fx1 (fun fx27 => ?_)
     refine JA.tk 0 rfl fx27 q0 ?_
     refine JA.tk 1 rfl fx27 q0 ?_
     refine JA.tk 2 rfl fx27 q0 ?_
     refine JA.tk 3 rfl fx27 (yl_sliceFromAny rfl rfl rfl tU71 tS5 (by omega) (by omega)) ?_
     refine JA.tk 4 rfl fx27 q0 ?_
     refine JA.tk 5 rfl fx27 q0 ?_
     refine JA.tk 6 rfl fx27 q8 ?_
     refine JA.tk 7 rfl fx27 (q4 (off' := 0) tU272 tS270) ?_
     refine JA.tk 8 rfl fx27 (q35 (off' := 32) tU270 tS71) ?_
     refine JA.tk 9 rfl fx27 (yl_load rfl rfl tA71 (Blk.immC hxb) (tab_at _ _ (by decide))) ?_
     refine JA.eqv 111 rfl (show _ = .slice (some ⟨l2, 0, none⟩) 0 c2 from rfl) ?_
     refine q13 10 rfl (op_copy (m := 0) 0 rfl rfl rfl rfl rfl tU71 tS5 (Src.slice (ys := []) (Blk.imm hv2) rfl rfl rfl) (by omega) rfl (LSpl.none (by rw [buf_len hej]; split <;> omega)) LSet.z ?_)
     refine ⟨fx0, ?_⟩
     refine JA.fix fx1 (fun fx28 => ?_)
     refine JA.tk 11 rfl fx28 q7 ?_
     refine JA.tk 12 rfl fx28 q1 ?_
     refine q14 ?_
     refine Ej.blkNormal (Ej.seq (Cj.region (J.z q0 ?_)))
     refine J.z q7 ?_
     refine J.z q1 ?_
     refine J.nil (Ej.round (j + 1) (by omega) (by omega) ⟨rfl, rfl, rfl, by rw [hl3]; rfl, rfl, trivial⟩ rfl (by rw [hx3]; first | rfl | simp))
    have hx3 : Ke.rep (s.take (j + 1)) = Ke.rep (s.take j) ++ [c] := hx2.trans (by simp [hno])
    have hl3 : (Ke.rep (s.take (j + 1))).length = (Ke.rep (s.take j)).length + 1 := by rw [hx3, List.length_append]; rfl
    have hc256 : c.toNat < 256 := c.toNat_lt
    have hn34 : ¬ c.toNat = 45 := fun h => hno (.inr (UInt8.toNat_inj.1 h))
    have hn92 : ¬ c.toNat = 32 := fun h => hno (.inl (UInt8.toNat_inj.1 h))
    refine J.z q0 ?_
    refine J.z q0 ?_
    refine J.z q8 ?_
    refine J.z (q4 (off' := 0) tU272 tS270) ?_
    refine J.z (yl_indexArr (off' := c.toNat) rfl rfl rfl tU270 tS71 (by omega) (by omega) (by simp)) ?_
    refine J.z (q37 tA71 (Blk.imm hxb) (tab_at _ _ hc256)) ?_
    refine J.eqv 100 rfl (show _ = .slice none 0 0 from (by rw [if_neg hn92, if_neg hn34])) ?_
    refine J.z (yl_neqSlice _ rfl rfl rfl tU71) ?_
    refine J.c0 (fun hc29 => ?_)
    refine Cj.sr (J.z q0 ?_)
    refine J.z q0 ?_
    refine J.z q0 ?_
    refine J.z (q19 (off' := (Ke.rep (s.take j)).length) tU71 tS5) ?_
    refine J.op rfl (op_store1 0 rfl rfl rfl rfl rfl rfl tS5 rfl (.inl rfl) (by rw [buf_len hej]; omega) (by rw [buf_set _ (by omega)]; exact LSet.z) ?_)
    refine J.nsr (J.z q0 ?_)
    refine J.z q7 ?_
    refine J.z q1 ?_
    refine J.nb (Cj.region (J.z q0 ?_))
    refine J.z q7 ?_
    refine J.z q1 ?_
    refine J.nil (Ej.round (j + 1) (by omega) (by omega) ⟨rfl, rfl, rfl, by rw [hl3]; rfl, rfl, trivial⟩ rfl (by rw [hx3]; first | rfl | simp))
   have hc22p := odf hc22
   have htk : s.take j = s := List.take_of_length_le (by omega)
   refine Cj.xl (Cj.sr (J.z q0 ?_))
   refine J.z (yl_toStr (Ke.rep s) rfl rfl rfl tU71 tU9 tU5 (Blk.at 0 rfl) (by rw [htk, buf_full rfl, List.append_nil]; exact List.take_of_length_le (by rw [List.drop_zero, bcs_len]; exact Nat.le_refl _))) ?_
   refine J.z q1 ?_
   refine J.ns (Cj.ret (Ej.bare ?_))
   refine q6 ?_
   exact ⟨rfl, rfl, rfl⟩
  have hc3p := bne_f hc3
  refine Cj.kb (Cj.region (J.z q7 ?_))
  refine J.z q0 ?_
  refine J.nil (Ej.rounds ?_)
  refine Rj.succ ?_
  refine Cj.sr (J.z q17 ?_)
  refine J.nss (Cj.cond rfl (fun hc30 => ?_) (fun hc30 => Bool.noConfusion (Eq.trans (Eq.symm (by first | rfl | decide)) hc30)))
  refine Cj.ks (Cj.seq (Cj.block (Cj.sr (J.z (q55 (off' := 1) tU28 tS9) ?_))))
  refine J.z (q9 tA9 (Blk.imm htb)) ?_
  refine J.z q1 ?_
  refine J.nssr (J.z q0 ?_)
  refine J.z q0 ?_
  refine J.op rfl (op_pure rfl rfl rfl rfl rfl (Count_ok s 32 _) ?_)
  refine J.z q1 ?_
  refine J.nssr (J.z q0 ?_)
  refine J.z q47 ?_
  refine J.cd (fun hc31 => ?_) (fun hc31 => ?_)
  ·
   have hc31p := bne_iff_ne.1 hc31
   refine Cj.seq (Cj.drawSel [] [] 14 (by kernel_rfl) ?_)
   refine JA.fix fx1 (fun fx32 => ?_)
   refine JA.tk 0 rfl fx32 q0 ?_
   refine JA.tk 1 rfl fx32 q0 ?_
   refine JA.tk 2 rfl fx32 q0 ?_
   refine JA.tk 3 rfl fx32 q0 ?_
   refine JA.tk 4 rfl fx32 (yl_index (c := 32) rfl rfl rfl tU9 (by decide) rfl) ?_
   refine JA.tk 5 rfl fx32 q8 ?_
   refine JA.tk 6 rfl fx32 (q4 (off' := 0) tU272 tS270) ?_
   refine JA.tk 7 rfl fx32 (q35 (off' := 32) tU270 tS71) ?_
   refine JA.tk 8 rfl fx32 (yl_load rfl rfl tA71 (Blk.immC hxb) (tab_at _ _ (by decide))) ?_
   refine JA.eqv 49 rfl (show _ = .slice (some ⟨l2, 0, none⟩) 0 c2 from rfl) ?_
   refine JA.tk 9 rfl fx32 (q15 tU71) ?_
   refine JA.tk 10 rfl fx32 q49 ?_
   refine JA.tk 11 rfl fx32 (yl_mul rfl rfl rfl (w64 (by omega))) ?_
   refine JA.tk 12 rfl fx32 q7 ?_
   refine JA.tk 13 rfl fx32 q1 ?_
   refine q14 ?_
   refine Ej.seq (Cj.region (J.z q1 ?_))
   refine J.nb (Cj.region (J.z q7 ?_))
   refine J.z q0 ?_
   refine J.nil (Ej.rounds ?_)
   refine Rj.succ ?_
   refine Cj.sr (J.z q17 ?_)
   refine J.nss (Cj.cond rfl (fun hc33 => Bool.noConfusion (Eq.trans (Eq.symm (by first | rfl | decide)) hc33)) (fun hc33 => ?_))
   refine Cj.exit (Ej.seqExit (Ej.seqExit (Ej.blkExit (Ej.seq (Cj.seq (Cj.sr (J.z q0 ?_)))))))
   refine J.z q50 ?_
   refine J.ns (Cj.cond rfl (fun hc34 => Bool.noConfusion (Eq.trans (Eq.symm (congrArg not rfl)) hc34)) (fun hc34 => ?_))
   refine Cj.ks (Cj.sr (J.z q0 ?_))
   refine J.op rfl (op_makeSlice (n := (Ke.rep s).length) (c := (Ke.rep s).length) (by1 := 1) (z := (.int .u8 0)) rfl rfl rfl (by first | exact congrArg (fun z => some (Value.int .i64 z)) (by omega) | (rw [htk0]; exact congrArg (fun z => some (Value.int .i64 z)) (by omega))) (by first | exact congrArg (fun z => some (Value.int .i64 z)) (by omega) | (rw [htk0]; exact congrArg (fun z => some (Value.int .i64 z)) (by omega))) tU71 (by kernel_rfl) rfl (by omega) (by omega) (by omega) ?_)
   intro b35 hb35
   refine J.z q1 ?_
   refine J.nssr (J.z q1 ?_)
   refine J.nsss (Cj.region (J.z q1 ?_))
   refine J.ns (Cj.block (Cj.loop (ι := Nat) (fun j => j ≤ s.length) (fun j => s.length - j) (fun j => [(0, ptr xb 0), (1, str s), (12, .slice (some ⟨b35, 0, none⟩) (Ke.rep s).length (Ke.rep s).length), (13, i64 ((Ke.rep (s.take j)).length : Int)), (14, i64 (j : Int))]) (fun j => I) (fun j => [(b35, cel 5 (buf (Ke.rep (s.take j)) (Ke.rep s).length))]) 0 (Nat.zero_le _) ⟨rfl, rfl, rfl, rfl, rfl, trivial⟩ rfl (by rw [List.take_zero]; exact congrArg (fun l => [(_, cel 5 l)]) (buf_nil _)) ?_))
   intro j hj
   have hej := Ke.rep_part s j
   refine Cj.seq (Cj.sr (J.z q0 ?_))
   refine J.z q0 ?_
   refine J.z (q26 tU9) ?_
   refine J.z q17 ?_
   refine J.cd (fun hc36 => ?_) (fun hc36 => ?_)
   ·
    have hc36p := odt hc36
    have hlt : j < s.length := by omega
    obtain ⟨c, hget⟩ : ∃ c, s[j]? = some c := ⟨_, lgg hlt⟩
    have hx2 := Ke.rep_next hget
    have hej2 := Ke.rep_part s (j + 1)
    refine Cj.ks (Cj.seq (Cj.block (Cj.sr (J.z q0 ?_))))
    refine J.z q0 ?_
    refine J.z (q42 tU9 hget) ?_
    refine J.z q1 ?_
    refine J.nssr ?_
    rcases Ke.three c with rfl | rfl | hno
    ·
     have hx3 : Ke.rep (s.take (j + 1)) = Ke.rep (s.take j) ++ [] := hx2.trans (by simp)
     have hl3 : (Ke.rep (s.take (j + 1))).length = (Ke.rep (s.take j)).length + 0 := by rw [hx3, List.length_append]; rfl
     refine J.z q0 ?_
     refine J.z q0 ?_
     refine J.z q8 ?_
     refine J.z (q4 (off' := 0) tU272 tS270) ?_
     refine J.z (q35 (off' := 45) tU270 tS71) ?_
     refine J.z (yl_load rfl rfl tA71 (Blk.imm hxb) (tab_at _ _ (by decide))) ?_
     refine J.eqv 100 rfl (show _ = .slice (some ⟨l1, 0, none⟩) 0 c1 from rfl) ?_
     refine J.z (yl_neqSlice _ rfl rfl rfl tU71) ?_
     refine J.c1 (fun hc37 => ?_)
     refine Cj.drawSel [] [] 13 (by kernel_rfl) ?_
     refine JA.fix fx1 (fun fx38 => ?_)
     refine JA.tk 0 rfl fx38 q0 ?_
     refine JA.tk 1 rfl fx38 q0 ?_
     refine JA.tk 2 rfl fx38 q0 ?_
     refine JA.tk 3 rfl fx38 (yl_sliceFromAny rfl rfl rfl tU71 tS5 (by omega) (by omega)) ?_
     refine JA.tk 4 rfl fx38 q0 ?_
     refine JA.tk 5 rfl fx38 q0 ?_
     refine JA.tk 6 rfl fx38 q8 ?_
     refine JA.tk 7 rfl fx38 (q4 (off' := 0) tU272 tS270) ?_
     refine JA.tk 8 rfl fx38 (q35 (off' := 45) tU270 tS71) ?_
     refine JA.tk 9 rfl fx38 (yl_load rfl rfl tA71 (Blk.immC hxb) (tab_at _ _ (by decide))) ?_
     refine JA.eqv 111 rfl (show _ = .slice (some ⟨l1, 0, none⟩) 0 c1 from rfl) ?_
     refine q13 10 rfl (op_copy (m := 0) 0 rfl rfl rfl rfl rfl tU71 tS5 (Src.slice (ys := []) (Blk.imm hv1) rfl rfl rfl) (by omega) rfl (LSpl.none (by rw [buf_len hej]; split <;> omega)) LSet.z ?_)
     refine ⟨fx0, ?_⟩
     refine JA.fix fx1 (fun fx39 => ?_)
     refine JA.tk 11 rfl fx39 q7 ?_
     refine JA.tk 12 rfl fx39 q1 ?_
     refine q14 ?_
     refine Ej.blkNormal (Ej.seq (Cj.region (J.z q0 ?_)))
     refine J.z q7 ?_
     refine J.z q1 ?_
     refine J.nil (Ej.round (j + 1) (by omega) (by omega) ⟨rfl, rfl, rfl, by rw [hl3]; rfl, rfl, trivial⟩ rfl (by rw [hx3]; first | rfl | simp))
    ·
     have hx3 : Ke.rep (s.take (j + 1)) = Ke.rep (s.take j) ++ [] := hx2.trans (by simp)
     have hl3 : (Ke.rep (s.take (j + 1))).length = (Ke.rep (s.take j)).length + 0 := by rw [hx3, List.length_append]; rfl
     refine J.z q0 ?_
     refine J.z q0 ?_
     refine J.z q8 ?_
     refine J.z (q4 (off' := 0) tU272 tS270) ?_
     refine J.z (q35 (off' := 32) tU270 tS71) ?_
     refine J.z (yl_load rfl rfl tA71 (Blk.imm hxb) (tab_at _ _ (by decide))) ?_
     refine J.eqv 100 rfl (show _ = .slice (some ⟨l2, 0, none⟩) 0 c2 from rfl) ?_
     refine J.z (yl_neqSlice _ rfl rfl rfl tU71) ?_
     refine J.c1 (fun hc40 => ?_)
     refine Cj.drawSel [] [] 13 (by kernel_rfl) ?_
     refine JA.fix fx1 (fun fx41 => ?_)
     refine JA.tk 0 rfl fx41 q0 ?_
     refine JA.tk 1 rfl fx41 q0 ?_
     refine JA.tk 2 rfl fx41 q0 ?_
     refine JA.tk 3 rfl fx41 (yl_sliceFromAny rfl rfl rfl tU71 tS5 (by omega) (by omega)) ?_
     refine JA.tk 4 rfl fx41 q0 ?_
     refine JA.tk 5 rfl fx41 q0 ?_
     refine JA.tk 6 rfl fx41 q8 ?_
     refine JA.tk 7 rfl fx41 (q4 (off' := 0) tU272 tS270) ?_
     refine JA.tk 8 rfl fx41 (q35 (off' := 32) tU270 tS71) ?_
     refine JA.tk 9 rfl fx41 (yl_load rfl rfl tA71 (Blk.immC hxb) (tab_at _ _ (by decide))) ?_
     refine JA.eqv 111 rfl (show _ = .slice (some ⟨l2, 0, none⟩) 0 c2 from rfl) ?_
     refine q13 10 rfl (op_copy (m := 0) 0 rfl rfl rfl rfl rfl tU71 tS5 (Src.slice (ys := []) (Blk.imm hv2) rfl rfl rfl) (by omega) rfl (LSpl.none (by rw [buf_len hej]; split <;> omega)) LSet.z ?_)
     refine ⟨fx0, ?_⟩
     refine JA.fix fx1 (fun fx42 => ?_)
     refine JA.tk 11 rfl fx42 q7 ?_
     refine JA.tk 12 rfl fx42 q1 ?_
     refine q14 ?_
     refine Ej.blkNormal (Ej.seq (Cj.region (J.z q0 ?_)))
     refine J.z q7 ?_
     refine J.z q1 ?_
     refine J.nil (Ej.round (j + 1) (by omega) (by omega) ⟨rfl, rfl, rfl, by rw [hl3]; rfl, rfl, trivial⟩ rfl (by rw [hx3]; first | rfl | simp))
    have hx3 : Ke.rep (s.take (j + 1)) = Ke.rep (s.take j) ++ [c] := hx2.trans (by simp [hno])
    have hl3 : (Ke.rep (s.take (j + 1))).length = (Ke.rep (s.take j)).length + 1 := by rw [hx3, List.length_append]; rfl
    have hc256 : c.toNat < 256 := c.toNat_lt
    have hn34 : ¬ c.toNat = 45 := fun h => hno (.inr (UInt8.toNat_inj.1 h))
    have hn92 : ¬ c.toNat = 32 := fun h => hno (.inl (UInt8.toNat_inj.1 h))
    refine J.z q0 ?_
    refine J.z q0 ?_
    refine J.z q8 ?_
    refine J.z (q4 (off' := 0) tU272 tS270) ?_
    refine J.z (yl_indexArr (off' := c.toNat) rfl rfl rfl tU270 tS71 (by omega) (by omega) (by simp)) ?_
    refine J.z (q37 tA71 (Blk.imm hxb) (tab_at _ _ hc256)) ?_
    refine J.eqv 100 rfl (show _ = .slice none 0 0 from (by rw [if_neg hn92, if_neg hn34])) ?_
    refine J.z (yl_neqSlice _ rfl rfl rfl tU71) ?_
    refine J.c0 (fun hc43 => ?_)
    refine Cj.sr (J.z q0 ?_)
    refine J.z q0 ?_
    refine J.z q0 ?_
    refine J.z (q19 (off' := (Ke.rep (s.take j)).length) tU71 tS5) ?_
    refine J.op rfl (op_store1 0 rfl rfl rfl rfl rfl rfl tS5 rfl (.inl rfl) (by rw [buf_len hej]; omega) (by rw [buf_set _ (by omega)]; exact LSet.z) ?_)
    refine J.nsr (J.z q0 ?_)
    refine J.z q7 ?_
    refine J.z q1 ?_
    refine J.nb (Cj.region (J.z q0 ?_))
    refine J.z q7 ?_
    refine J.z q1 ?_
    refine J.nil (Ej.round (j + 1) (by omega) (by omega) ⟨rfl, rfl, rfl, by rw [hl3]; rfl, rfl, trivial⟩ rfl (by rw [hx3]; first | rfl | simp))
   have hc36p := odf hc36
   have htk : s.take j = s := List.take_of_length_le (by omega)
   refine Cj.xl (Cj.sr (J.z q0 ?_))
   refine J.z (yl_toStr (Ke.rep s) rfl rfl rfl tU71 tU9 tU5 (Blk.at 0 rfl) (by rw [htk, buf_full rfl, List.append_nil]; exact List.take_of_length_le (by rw [List.drop_zero, bcs_len]; exact Nat.le_refl _))) ?_
   refine J.z q1 ?_
   refine J.ns (Cj.ret (Ej.bare ?_))
   refine q6 ?_
   exact ⟨rfl, rfl, rfl⟩
  have hc31p := bne_f hc31
  refine Cj.kb (Cj.region (J.z q7 ?_))
  refine J.z q0 ?_
  refine J.nil (Ej.rounds ?_)
  refine Rj.succ ?_
  refine Cj.sr (J.z q17 ?_)
  refine J.nss (Cj.cond rfl (fun hc44 => Bool.noConfusion (Eq.trans (Eq.symm (by first | rfl | decide)) hc44)) (fun hc44 => ?_))
  refine Cj.exit (Ej.seqExit (Ej.seqExit (Ej.blkExit (Ej.seq (Cj.seq (Cj.sr (J.z q0 ?_)))))))
  refine J.z q50 ?_
  refine J.ns (Cj.cond rfl (fun hc45 => ?_) (fun hc45 => Bool.noConfusion (Eq.trans (Eq.symm (congrArg not rfl)) hc45)))
  refine Cj.sr (J.z q0 ?_)
  refine J.z q1 ?_
  refine J.ns (Cj.rs (Ej.bare ?_))
  refine q6 ?_
  have hz : Ke.cnt s = 0 := by omega
  rw [Ke.rep_id s hz]
  exact ⟨rfl, rfl, rfl⟩
 have hc1p := odf hc1
 refine Cj.sr (J.z q1 ?_)
 refine J.ns (Cj.block (Cj.loop (ι := Nat) (fun j => j ≤ s.length) (fun j => s.length - j) (fun j => [(0, ptr xb 0), (1, str s), (5, i64 ((s.length : Int) - (Ke.cnt (s.take j) : Int))), (6, .bool (decide (0 < Ke.cnt (s.take j)))), (10, i64 (j : Int))]) (fun j => I) (fun j => []) 0 (Nat.zero_le _) ⟨rfl, rfl, rfl, rfl, rfl, trivial⟩ rfl rfl ?_))
 intro j hj
 have hcj : Ke.cnt (s.take j) ≤ s.length := nlt List.countP_le_length (by simp; omega)
 refine Cj.seq (Cj.sr (J.z q0 ?_))
 refine J.z q0 ?_
 refine J.z (q26 tU9) ?_
 refine J.z q17 ?_
 refine J.cd (fun hc46 => ?_) (fun hc46 => ?_)
 ·
  have hc46p := odt hc46
  have hlt : j < s.length := by omega
  obtain ⟨c, hget⟩ : ∃ c, s[j]? = some c := ⟨_, lgg hlt⟩
  refine Cj.ks (Cj.seq (Cj.block (Cj.sr (J.z q0 ?_))))
  refine J.z q0 ?_
  refine J.z (q42 tU9 hget) ?_
  refine J.z q1 ?_
  refine J.nssr ?_
  rcases Ke.three c with rfl | rfl | hno
  ·
   have hcn : Ke.cnt (s.take (j + 1)) = Ke.cnt (s.take j) + 1 := by rw [Ke.cnt_next hget]; simp
   refine J.z q0 ?_
   refine J.z q0 ?_
   refine J.z q8 ?_
   refine J.z (q4 (off' := 0) tU272 tS270) ?_
   refine J.z (q35 (off' := 45) tU270 tS71) ?_
   refine J.z (yl_load rfl rfl tA71 (Blk.imm hxb) (tab_at _ _ (by decide))) ?_
   refine J.eqv 69 rfl (show _ = .slice (some ⟨l1, 0, none⟩) 0 c1 from rfl) ?_
   refine J.z (yl_neqSlice _ rfl rfl rfl tU71) ?_
   refine J.c1 (fun hc47 => ?_)
   refine Cj.sr (J.z q0 ?_)
   refine J.z q0 ?_
   refine J.z q0 ?_
   refine J.z q8 ?_
   refine J.z (q4 (off' := 0) tU272 tS270) ?_
   refine J.z (q35 (off' := 45) tU270 tS71) ?_
   refine J.z (yl_load rfl rfl tA71 (Blk.imm hxb) (tab_at _ _ (by decide))) ?_
   refine J.eqv 77 rfl (show _ = .slice (some ⟨l1, 0, none⟩) 0 c1 from rfl) ?_
   refine J.z (q15 tU71) ?_
   refine J.z q49 ?_
   refine J.z q7 ?_
   refine J.z q1 ?_
   refine J.nsr (J.z q1 ?_)
   refine J.nb (Cj.region (J.z q0 ?_))
   refine J.z q7 ?_
   refine J.z q1 ?_
   refine J.nil (Ej.round (j + 1) (by omega) (by omega) ⟨rfl, rfl, (congrArg (fun z => some (Value.int .i64 z)) (by omega)), (congrArg (fun z => some (Value.bool z)) (by simp [hcn])), rfl, trivial⟩ rfl rfl)
  ·
   have hcn : Ke.cnt (s.take (j + 1)) = Ke.cnt (s.take j) + 1 := by rw [Ke.cnt_next hget]; simp
   refine J.z q0 ?_
   refine J.z q0 ?_
   refine J.z q8 ?_
   refine J.z (q4 (off' := 0) tU272 tS270) ?_
   refine J.z (q35 (off' := 32) tU270 tS71) ?_
   refine J.z (yl_load rfl rfl tA71 (Blk.imm hxb) (tab_at _ _ (by decide))) ?_
   refine J.eqv 69 rfl (show _ = .slice (some ⟨l2, 0, none⟩) 0 c2 from rfl) ?_
   refine J.z (yl_neqSlice _ rfl rfl rfl tU71) ?_
   refine J.c1 (fun hc48 => ?_)
   refine Cj.sr (J.z q0 ?_)
   refine J.z q0 ?_
   refine J.z q0 ?_
   refine J.z q8 ?_
   refine J.z (q4 (off' := 0) tU272 tS270) ?_
   refine J.z (q35 (off' := 32) tU270 tS71) ?_
   refine J.z (yl_load rfl rfl tA71 (Blk.imm hxb) (tab_at _ _ (by decide))) ?_
   refine J.eqv 77 rfl (show _ = .slice (some ⟨l2, 0, none⟩) 0 c2 from rfl) ?_
   refine J.z (q15 tU71) ?_
   refine J.z q49 ?_
   refine J.z q7 ?_
   refine J.z q1 ?_
   refine J.nsr (J.z q1 ?_)
   refine J.nb (Cj.region (J.z q0 ?_))
   refine J.z q7 ?_
   refine J.z q1 ?_
   refine J.nil (Ej.round (j + 1) (by omega) (by omega) ⟨rfl, rfl, (congrArg (fun z => some (Value.int .i64 z)) (by omega)), (congrArg (fun z => some (Value.bool z)) (by simp [hcn])), rfl, trivial⟩ rfl rfl)
  have hcn : Ke.cnt (s.take (j + 1)) = Ke.cnt (s.take j) := by rw [Ke.cnt_next hget]; simp [hno]
  have hc256 : c.toNat < 256 := c.toNat_lt
  have hn34 : ¬ c.toNat = 45 := fun h => hno (.inr (UInt8.toNat_inj.1 h))
  have hn92 : ¬ c.toNat = 32 := fun h => hno (.inl (UInt8.toNat_inj.1 h))
  refine J.z q0 ?_
  refine J.z q0 ?_
  refine J.z q8 ?_
  refine J.z (q4 (off' := 0) tU272 tS270) ?_
  refine J.z (yl_indexArr (off' := c.toNat) rfl rfl rfl tU270 tS71 (by omega) (by omega) (by simp)) ?_
  refine J.z (q37 tA71 (Blk.imm hxb) (tab_at _ _ hc256)) ?_
  refine J.eqv 69 rfl (show _ = .slice none 0 0 from (by rw [if_neg hn92, if_neg hn34])) ?_
  refine J.z (yl_neqSlice _ rfl rfl rfl tU71) ?_
  refine J.c0 (fun hc49 => ?_)
  refine Cj.kb (Cj.region (J.z q0 ?_))
  refine J.z q7 ?_
  refine J.z q1 ?_
  refine J.nil (Ej.round (j + 1) (by omega) (by omega) ⟨rfl, rfl, (congrArg (fun z => some (Value.int .i64 z)) (by omega)), (congrArg (fun z => some (Value.bool z)) (by rw [hcn])), rfl, trivial⟩ rfl rfl)
 have hc46p := odf hc46
 have htk0 : s.take j = s := List.take_of_length_le (by omega)
 refine Cj.xl (Cj.seq (Cj.sr (J.z q0 ?_)))
 refine J.z q50 ?_
 refine J.cd (fun hc50 => ?_) (fun hc50 => ?_)
 ·
  have hz : Ke.cnt s = 0 := by have h := hc50; simp at h; rw [htk0] at h; exact h
  refine Cj.sr (J.z q0 ?_)
  refine J.z q1 ?_
  refine J.ns (Cj.rs (Ej.bare ?_))
  refine q6 ?_
  rw [Ke.rep_id s hz]
  exact ⟨rfl, rfl, rfl⟩
 refine Cj.ks (Cj.sr (J.z q0 ?_))
 refine J.op rfl (op_makeSlice (n := (Ke.rep s).length) (c := (Ke.rep s).length) (by1 := 1) (z := (.int .u8 0)) rfl rfl rfl (by first | exact congrArg (fun z => some (Value.int .i64 z)) (by omega) | (rw [htk0]; exact congrArg (fun z => some (Value.int .i64 z)) (by omega))) (by first | exact congrArg (fun z => some (Value.int .i64 z)) (by omega) | (rw [htk0]; exact congrArg (fun z => some (Value.int .i64 z)) (by omega))) tU71 (by kernel_rfl) rfl (by omega) (by omega) (by omega) ?_)
 intro b51 hb51
 refine J.z q1 ?_
 refine J.nssr (J.z q1 ?_)
 refine J.nsss (Cj.region (J.z q1 ?_))
 refine J.ns (Cj.block (Cj.loop (ι := Nat) (fun j => j ≤ s.length) (fun j => s.length - j) (fun j => [(0, ptr xb 0), (1, str s), (12, .slice (some ⟨b51, 0, none⟩) (Ke.rep s).length (Ke.rep s).length), (13, i64 ((Ke.rep (s.take j)).length : Int)), (14, i64 (j : Int))]) (fun j => I) (fun j => [(b51, cel 5 (buf (Ke.rep (s.take j)) (Ke.rep s).length))]) 0 (Nat.zero_le _) ⟨rfl, rfl, rfl, rfl, rfl, trivial⟩ rfl (by rw [List.take_zero]; exact congrArg (fun l => [(_, cel 5 l)]) (buf_nil _)) ?_))
 intro j hj
 have hej := Ke.rep_part s j
 refine Cj.seq (Cj.sr (J.z q0 ?_))
 refine J.z q0 ?_
 refine J.z (q26 tU9) ?_
 refine J.z q17 ?_
 refine J.cd (fun hc52 => ?_) (fun hc52 => ?_)
 ·
  have hc52p := odt hc52
  have hlt : j < s.length := by omega
  obtain ⟨c, hget⟩ : ∃ c, s[j]? = some c := ⟨_, lgg hlt⟩
  have hx2 := Ke.rep_next hget
  have hej2 := Ke.rep_part s (j + 1)
  refine Cj.ks (Cj.seq (Cj.block (Cj.sr (J.z q0 ?_))))
  refine J.z q0 ?_
  refine J.z (q42 tU9 hget) ?_
  refine J.z q1 ?_
  refine J.nssr ?_
  rcases Ke.three c with rfl | rfl | hno
  ·
   have hx3 : Ke.rep (s.take (j + 1)) = Ke.rep (s.take j) ++ [] := hx2.trans (by simp)
   have hl3 : (Ke.rep (s.take (j + 1))).length = (Ke.rep (s.take j)).length + 0 := by rw [hx3, List.length_append]; rfl
   refine J.z q0 ?_
   refine J.z q0 ?_
   refine J.z q8 ?_
   refine J.z (q4 (off' := 0) tU272 tS270) ?_
   refine J.z (q35 (off' := 45) tU270 tS71) ?_
   refine J.z (yl_load rfl rfl tA71 (Blk.imm hxb) (tab_at _ _ (by decide))) ?_
   refine J.eqv 100 rfl (show _ = .slice (some ⟨l1, 0, none⟩) 0 c1 from rfl) ?_
   refine J.z (yl_neqSlice _ rfl rfl rfl tU71) ?_
   refine J.c1 (fun hc53 => ?_)
   refine Cj.drawSel [] [] 13 (by kernel_rfl) ?_
   refine JA.fix fx1 (fun fx54 => ?_)
   refine JA.tk 0 rfl fx54 q0 ?_
   refine JA.tk 1 rfl fx54 q0 ?_
   refine JA.tk 2 rfl fx54 q0 ?_
   refine JA.tk 3 rfl fx54 (yl_sliceFromAny rfl rfl rfl tU71 tS5 (by omega) (by omega)) ?_
   refine JA.tk 4 rfl fx54 q0 ?_
   refine JA.tk 5 rfl fx54 q0 ?_
   refine JA.tk 6 rfl fx54 q8 ?_
   refine JA.tk 7 rfl fx54 (q4 (off' := 0) tU272 tS270) ?_
   refine JA.tk 8 rfl fx54 (q35 (off' := 45) tU270 tS71) ?_
   refine JA.tk 9 rfl fx54 (yl_load rfl rfl tA71 (Blk.immC hxb) (tab_at _ _ (by decide))) ?_
   refine JA.eqv 111 rfl (show _ = .slice (some ⟨l1, 0, none⟩) 0 c1 from rfl) ?_
   refine q13 10 rfl (op_copy (m := 0) 0 rfl rfl rfl rfl rfl tU71 tS5 (Src.slice (ys := []) (Blk.imm hv1) rfl rfl rfl) (by omega) rfl (LSpl.none (by rw [buf_len hej]; split <;> omega)) LSet.z ?_)
   refine ⟨fx0, ?_⟩
   refine JA.fix fx1 (fun fx55 => ?_)
   refine JA.tk 11 rfl fx55 q7 ?_
   refine JA.tk 12 rfl fx55 q1 ?_
   refine q14 ?_
   refine Ej.blkNormal (Ej.seq (Cj.region (J.z q0 ?_)))
   refine J.z q7 ?_
   refine J.z q1 ?_
   refine J.nil (Ej.round (j + 1) (by omega) (by omega) ⟨rfl, rfl, rfl, by rw [hl3]; rfl, rfl, trivial⟩ rfl (by rw [hx3]; first | rfl | simp))
  ·
   have hx3 : Ke.rep (s.take (j + 1)) = Ke.rep (s.take j) ++ [] := hx2.trans (by simp)
   have hl3 : (Ke.rep (s.take (j + 1))).length = (Ke.rep (s.take j)).length + 0 := by rw [hx3, List.length_append]; rfl
   refine J.z q0 ?_
   refine J.z q0 ?_
   refine J.z q8 ?_
   refine J.z (q4 (off' := 0) tU272 tS270) ?_
   refine J.z (q35 (off' := 32) tU270 tS71) ?_
   refine J.z (yl_load rfl rfl tA71 (Blk.imm hxb) (tab_at _ _ (by decide))) ?_
   refine J.eqv 100 rfl (show _ = .slice (some ⟨l2, 0, none⟩) 0 c2 from rfl) ?_
   refine J.z (yl_neqSlice _ rfl rfl rfl tU71) ?_
   refine J.c1 (fun hc56 => ?_)
   refine Cj.drawSel [] [] 13 (by kernel_rfl) ?_
   refine JA.fix fx1 (fun fx57 => ?_)
   refine JA.tk 0 rfl fx57 q0 ?_
   refine JA.tk 1 rfl fx57 q0 ?_
   refine JA.tk 2 rfl fx57 q0 ?_
   refine JA.tk 3 rfl fx57 (yl_sliceFromAny rfl rfl rfl tU71 tS5 (by omega) (by omega)) ?_
   refine JA.tk 4 rfl fx57 q0 ?_
   refine JA.tk 5 rfl fx57 q0 ?_
   refine JA.tk 6 rfl fx57 q8 ?_
   refine JA.tk 7 rfl fx57 (q4 (off' := 0) tU272 tS270) ?_
   refine JA.tk 8 rfl fx57 (q35 (off' := 32) tU270 tS71) ?_
   refine JA.tk 9 rfl fx57 (yl_load rfl rfl tA71 (Blk.immC hxb) (tab_at _ _ (by decide))) ?_
   refine JA.eqv 111 rfl (show _ = .slice (some ⟨l2, 0, none⟩) 0 c2 from rfl) ?_
   refine q13 10 rfl (op_copy (m := 0) 0 rfl rfl rfl rfl rfl tU71 tS5 (Src.slice (ys := []) (Blk.imm hv2) rfl rfl rfl) (by omega) rfl (LSpl.none (by rw [buf_len hej]; split <;> omega)) LSet.z ?_)
   refine ⟨fx0, ?_⟩
   refine JA.fix fx1 (fun fx58 => ?_)
   refine JA.tk 11 rfl fx58 q7 ?_
   refine JA.tk 12 rfl fx58 q1 ?_
   refine q14 ?_
   refine Ej.blkNormal (Ej.seq (Cj.region (J.z q0 ?_)))
   refine J.z q7 ?_
   refine J.z q1 ?_
   refine J.nil (Ej.round (j + 1) (by omega) (by omega) ⟨rfl, rfl, rfl, by rw [hl3]; rfl, rfl, trivial⟩ rfl (by rw [hx3]; first | rfl | simp))
  have hx3 : Ke.rep (s.take (j + 1)) = Ke.rep (s.take j) ++ [c] := hx2.trans (by simp [hno])
  have hl3 : (Ke.rep (s.take (j + 1))).length = (Ke.rep (s.take j)).length + 1 := by rw [hx3, List.length_append]; rfl
  have hc256 : c.toNat < 256 := c.toNat_lt
  have hn34 : ¬ c.toNat = 45 := fun h => hno (.inr (UInt8.toNat_inj.1 h))
  have hn92 : ¬ c.toNat = 32 := fun h => hno (.inl (UInt8.toNat_inj.1 h))
  refine J.z q0 ?_
  refine J.z q0 ?_
  refine J.z q8 ?_
  refine J.z (q4 (off' := 0) tU272 tS270) ?_
  refine J.z (yl_indexArr (off' := c.toNat) rfl rfl rfl tU270 tS71 (by omega) (by omega) (by simp)) ?_
  refine J.z (q37 tA71 (Blk.imm hxb) (tab_at _ _ hc256)) ?_
  refine J.eqv 100 rfl (show _ = .slice none 0 0 from (by rw [if_neg hn92, if_neg hn34])) ?_
  refine J.z (yl_neqSlice _ rfl rfl rfl tU71) ?_
  refine J.c0 (fun hc59 => ?_)
  refine Cj.sr (J.z q0 ?_)
  refine J.z q0 ?_
  refine J.z q0 ?_
  refine J.z (q19 (off' := (Ke.rep (s.take j)).length) tU71 tS5) ?_
  refine J.op rfl (op_store1 0 rfl rfl rfl rfl rfl rfl tS5 rfl (.inl rfl) (by rw [buf_len hej]; omega) (by rw [buf_set _ (by omega)]; exact LSet.z) ?_)
  refine J.nsr (J.z q0 ?_)
  refine J.z q7 ?_
  refine J.z q1 ?_
  refine J.nb (Cj.region (J.z q0 ?_))
  refine J.z q7 ?_
  refine J.z q1 ?_
  refine J.nil (Ej.round (j + 1) (by omega) (by omega) ⟨rfl, rfl, rfl, by rw [hl3]; rfl, rfl, trivial⟩ rfl (by rw [hx3]; first | rfl | simp))
 have hc52p := odf hc52
 have htk : s.take j = s := List.take_of_length_le (by omega)
 refine Cj.xl (Cj.sr (J.z q0 ?_))
 refine J.z (yl_toStr (Ke.rep s) rfl rfl rfl tU71 tU9 tU5 (Blk.at 0 rfl) (by rw [htk, buf_full rfl, List.append_nil]; exact List.take_of_length_le (by rw [List.drop_zero, bcs_len]; exact Nat.le_refl _))) ?_
 refine J.z q1 ?_
 refine J.ns (Cj.ret (Ej.bare ?_))
 refine q6 ?_
 exact ⟨rfl, rfl, rfl⟩
theorem Replace_ok (rb : Nat) (osl : Value) (s : List UInt8) (hs : s.length ≤ 1000000000) (I : Heap) (ho : StrSl 9 I olds osl) : Ctr Tryz.prog 123 [ptr rb 0, str s] I (RepH rb (.int .u32 0) (.int .i32 0) (.int .u32 0) .nilIface osl)
    (fun e _I' H' => e = .returned (str (Ke.rep s)) ∧ H' = []) := by
 refine Ctr.ob func123 ?_
 intro w0 hw0
 refine Cj.sr (J.z q1 ?_)
 refine J.nssr (J.z q0 ?_)
 refine J.z q8 ?_
 refine J.z (q4 (off' := 0) tU215 sizeOf211) ?_
 refine J.z q0 ?_
 refine J.z (yl_makeFunc rfl rfl rfl) ?_
 refine J.pull Pull.z ?_
 refine J.op rfl (op_call (H1 := [_]) rfl rfl rfl rfl rfl (Do_ok rb osl _ ho) ?_ (fun _ _ _ _ h => by cases h.1) (fun _ _ h => by cases h.1))
 intro v1 I2 H3 hle4 hp5
 obtain ⟨h, xb, hbs, rfl⟩ := hp5; cases h
 refine J.nssr (J.z q0 ?_)
 refine J.z q8 ?_
 refine J.z (q4 (off' := 3) tU215 sizeOf213) ?_
 refine J.z (q18 isAgg213) ?_
 refine J.z q0 ?_
 refine J.op rfl (op_invoke (H1 := []) (T := 273) rfl rfl rfl rfl rfl (by kernel_rfl) underlying273 (bsReplace_ok xb s hs _ hbs) ?_ (fun _ _ _ _ h => by cases h.1) (fun _ _ h => by cases h.1))
 rintro v9 I9 H9 hle9 ⟨h, rfl, rfl⟩; cases h
 refine J.z q1 ?_
 refine J.ns (Cj.ret (Ej.bare ?_))
 refine q6 ?_
 exact ⟨rfl, rfl⟩
end Go.Proofs.YtjcdfnbomkoheaaGreatDoor
end
section
namespace Ke
open Go Go.Sx
def mtabF : Nat → List (Nat × Bs) → ML Int
  | _, [] => []
  | i, (c, s) :: r => ((c : Int), Go.Sx.str s, i) :: mtabF (i + 1) r
def mtab (l : List (Nat × Bs)) : ML Int := mtabF 0 l
theorem cc (c d : Nat) : ((c : Int) == (d : Int)) = (c == d) := by rw [Bool.eq_iff_iff, beq_iff_eq, beq_iff_eq]; omega
theorem mget_tab : ∀ (l : List (Nat × Bs)) (i c : Nat), mget (mtabF i l) (c : Int) = (l.lookup c).map Go.Sx.str
  | [], _, _ => rfl
  | (d, s) :: r, i, c => by
    simp only [mtabF, mget, cc, List.lookup_cons]
    by_cases h : c = d
    · subst h; simp
    have : (c == d) = false := by simpa using h
    rw [this]
    simp only [Bool.false_eq_true, if_false]
    exact mget_tab r (i + 1) c
theorem mset_tab : ∀ (l : List (Nat × Bs)) (i c : Nat) (s : Bs), c ∉ l.map (·.1) → mset (mtabF i l) (c : Int) (Go.Sx.str s) (i + l.length) = mtabF i (l ++ [(c, s)])
  | [], _, _, _, _ => rfl
  | (d, t) :: r, i, c, s, h => by
    simp only [List.map_cons, List.mem_cons, not_or] at h
    have : (c == d) = false := by simpa using h.1
    simp only [mtabF, mset, cc, this, List.cons_append, List.length_cons]
    simp only [Bool.false_eq_true, if_false]
    rw [← mset_tab r (i + 1) c s h.2, show i + 1 + r.length = i + (r.length + 1) by omega]
theorem lookup_none : ∀ {l : List (Nat × Bs)} {c : Nat}, c ∉ l.map (·.1) → l.lookup c = none
  | [], _, _ => rfl
  | (d, t) :: r, c, h => by
    simp only [List.map_cons, List.mem_cons, not_or] at h
    have : (c == d) = false := by simpa using h.1
    rw [List.lookup_cons, this]; exact lookup_none h.2
theorem mset_new {l : List (Nat × Bs)} {c : Nat} {s : Bs} (h : c ∉ l.map (·.1)) : mset (mtab l) (c : Int) (Go.Sx.str s) l.length = mtab (l ++ [(c, s)]) ∧ mclk (mtab l) (c : Int) l.length = (l ++ [(c, s)]).length := by
  refine ⟨by have := mset_tab l 0 c s h; rwa [Nat.zero_add] at this, ?_⟩
  unfold mclk mtab
  rw [mget_tab, lookup_none h]
  simp
def prows : List Bs := rows.map fun p => p.1 ++ 32 :: p.2
theorem rowTab_app : ∀ (x y : List (Bs × Bs)), rowTab (x ++ y) = rowTab x ++ rowTab y
  | [], _ => rfl
  | (a, b) :: r, y => by simp only [List.cons_append, rowTab, rowTab_app r y, List.append_assoc]
theorem rowTab_next {k : Nat} {a b : Bs} (h : rows[k]? = some (a, b)) : rowTab (rows.take (k + 1)) = rowTab (rows.take k) ++ (runes b).map (·, a) := by
  obtain ⟨hlt, hg⟩ := List.getElem?_eq_some_iff.1 h
  rw [List.take_succ_eq_append_getElem hlt, hg, rowTab_app]
  simp [rowTab]
theorem fresh {k c : Nat} {a b : Bs} {x y : List Nat} (h : rows[k]? = some (a, b)) (hr : runes b = x ++ c :: y) : c ∉ (rowTab (rows.take k) ++ x.map (·, a)).map (·.1) := by
  have hn := tab_nodup
  have e : rows = rows.take k ++ (a, b) :: rows.drop (k + 1) := by
    obtain ⟨hlt, hg⟩ := List.getElem?_eq_some_iff.1 h
    rw [← hg, ← List.drop_eq_getElem_cons hlt, List.take_append_drop]
  rw [← tab_eq, e, rowTab_app] at hn
  simp only [rowTab, hr, List.map_append, List.map_cons] at hn
  have e2 : (rowTab (rows.take k)).map (·.1) ++ ((x.map (·, a)).map (·.1) ++ c :: (y.map (·, a)).map (·.1) ++ (rowTab (rows.drop (k + 1))).map (·.1)) = ((rowTab (rows.take k)).map (·.1) ++ (x.map (·, a)).map (·.1)) ++ c :: ((y.map (·, a)).map (·.1) ++ (rowTab (rows.drop (k + 1))).map (·.1)) := by simp
  rw [e2, List.nodup_append] at hn
  intro hc
  rw [List.map_append] at hc
  exact hn.2.2 c hc c (.head _) rfl
theorem row_parts : ∀ p ∈ rows, p.1.all (fun c => decide (c ≠ 32)) = true ∧ p.1.length ≤ 10 ∧ p.2.length ≤ 100 := by decide +kernel
def cutAt (c : UInt8) : Bs → Bs × Bs × Bool
  | [] => ([], [], false)
  | d :: r => if d = c then ([], r, true) else (d :: (cutAt c r).1, (cutAt c r).2)
theorem cutAt_row : ∀ {a b : Bs} {c : UInt8}, a.all (fun d => decide (d ≠ c)) = true → cutAt c (a ++ c :: b) = (a, b, true)
  | [], b, c, _ => by simp [cutAt]
  | d :: r, b, c, h => by
    rw [List.all_cons, Bool.and_eq_true] at h
    have h1 : d ≠ c := of_decide_eq_true h.1
    simp only [List.cons_append, cutAt, if_neg h1, cutAt_row h.2]
theorem cut_index : ∀ (c : UInt8) (s : Bs), (Go.Lib.indexByte s c = -1 ∧ cutAt c s = (s, [], false)) ∨ ∃ n : Nat, Go.Lib.indexByte s c = n ∧ n < s.length ∧ cutAt c s = (s.take n, s.drop (n + 1), true)
  | c, [] => .inl ⟨rfl, rfl⟩
  | c, d :: r => by
    unfold Go.Lib.indexByte
    by_cases hd : d = c
    · subst hd
      exact .inr ⟨0, by simp, by simp, by simp [cutAt]⟩
    have hb : (d == c) = false := by simpa using hd
    rw [hb]
    rcases cut_index c r with ⟨h1, h2⟩ | ⟨n, g1, g2, g3⟩
    · rw [h1]
      exact .inl ⟨by simp, by simp [cutAt, hd, h2]⟩
    rw [g1]
    have hn : ((n : Int) == -1) = false := by
      rw [beq_eq_false_iff_ne]; omega
    rw [hn]
    exact .inr ⟨n + 1, by simp, by simp; omega, by simp [cutAt, hd, g3]⟩
theorem runes_split {b : Bs} {i : Nat} {x : List Nat} (h : runes b = x ++ runes (b.drop i)) (hi : i < b.length) : runes b = x ++ (Go.Utf8.decode ⟨b.toArray⟩ i).1 :: runes (b.drop (i + (Go.Utf8.decode ⟨b.toArray⟩ i).2)) := by
  rw [h, runes_at hi]
theorem runes_split' {b : Bs} {i : Nat} {x : List Nat} (h : runes b = x ++ runes (b.drop i)) (hi : i < b.length) : runes b = (x ++ [(Go.Utf8.decode ⟨b.toArray⟩ i).1]) ++ runes (b.drop (i + (Go.Utf8.decode ⟨b.toArray⟩ i).2)) := by
  rw [runes_split h hi]; simp
theorem runes_done {b : Bs} {i : Nat} {x : List Nat} (h : runes b = x ++ runes (b.drop i)) (hi : ¬ i < b.length) : runes b = x := by
  rw [h, runes_end (by omega), List.append_nil]
end Ke
end
section
namespace Go.Proofs.YtjcdfnbomkoheaaGreatDoor
open _root_.Go.Proofs.Tryz
open Go Go.Sx
def Tab (I : Heap) (b : Nat) : Prop := I b = some (mobj (fun a : Int => Value.int .i32 a) (Ke.mtab Ke.tab) 207)
theorem Tab.mono {I I' : Heap} {b : Nat} (h : Tab I b) (hle : Le I I') : Tab I' b := hle _ _ h
theorem and_t {a b : Prop} [Decidable a] [Decidable b] (h : (decide a && decide b) = true) : a ∧ b := by simpa using h
theorem and_f {a b : Prop} [Decidable a] [Decidable b] (h : (decide a && decide b) = false) : ¬ (a ∧ b) := fun g => by simp [g.1, g.2] at h
theorem between_ok (c a b : Int) (I : Heap) : Pure Tryz.prog 153 [.int .i32 c, .int .i32 a, .int .i32 b] I (.bool (decide (a ≤ c) && decide (c ≤ b))) := by
 refine Ctr.ob func153 ?_
 intro w0 hw0
 refine Cj.sr (J.z q1 ?_)
 refine J.nssr (J.z q0 ?_)
 refine J.z q0 ?_
 refine J.z q34 ?_
 refine J.z q0 ?_
 refine q16 10 (fun hg1 => ?_) (fun hg1 => ?_)
 ·
  refine q5 3 10 true hg1 (q2 q0 ?_)
  refine q5 3 10 true hg1 (q2 q0 ?_)
  refine q5 3 10 true hg1 (q2 q38 ?_)
  refine J.z (q11 hg1) ?_
  refine J.z q1 ?_
  refine J.ns (Cj.ret (q6 ?_))
  refine ⟨?_, rfl, rfl⟩
  have h := hg1
  first | (simp_all; done) | (simp_all; omega)
 refine q3 3 10 11 true hg1 ?_
 refine q3 3 10 12 true hg1 ?_
 refine q3 3 10 13 true hg1 ?_
 refine J.z (q10 hg1) ?_
 refine J.z q1 ?_
 refine J.ns (Cj.ret (q6 ?_))
 refine ⟨?_, rfl, rfl⟩
 have h := hg1
 first | (simp_all; done) | (simp_all; omega)
theorem fold_ok (c b : Nat) (hc : c ≤ 1114111) (I : Heap) (hT : Tab I b) : Pure Tryz.prog 108 [.int .i32 (c : Int), .map (some b)] I (str (Ke.char c)) := by
 have hm : mget (Ke.mtab Ke.tab) (c : Int) = (Ke.tab.lookup c).map str := Ke.mget_tab _ 0 c
 refine Ctr.ob func108 ?_
 intro w0 hw0
 refine Cj.sr (J.z q1 ?_)
 refine J.nss (Cj.block (Cj.seq (Cj.sr (J.z q0 ?_))))
 refine J.op rfl (op_pure rfl rfl rfl rfl rfl (between_ok _ _ _ _) ?_)
 refine J.z q1 ?_
 refine J.cd (fun hc1 => ?_) (fun hc1 => ?_)
 ·
  have c7x1 := and_t hc1
  refine Cj.ks (Cj.cond rfl (fun hc2 => ?_) (fun hc2 => Bool.noConfusion (Eq.trans (Eq.symm hc1) hc2)))
  refine Cj.sr (J.z q0 ?_)
  refine J.z (yl_runeStr rfl rfl tU21 tU9) ?_
  refine J.z q1 ?_
  refine J.ns (Cj.ret (Ej.blkRet (Ej.seqRet (q6 ?_))))
  refine ⟨?_, rfl, rfl⟩
  refine congrArg (fun l => Ending.returned (str l)) ?_
  unfold Ke.char
  rw [if_pos (by omega)]; exact Ke.enc_encode (by unfold Ke.okc; omega)
 have c7x2 := and_f hc1
 refine Cj.region (J.z q0 ?_)
 refine J.op rfl (op_pure rfl rfl rfl rfl rfl (between_ok _ _ _ _) ?_)
 refine J.z q1 ?_
 refine J.cd (fun hc3 => ?_) (fun hc3 => ?_)
 ·
  have c7x3 := and_t hc3
  refine Cj.sr (J.z q0 ?_)
  refine J.z (yl_runeStr rfl rfl tU21 tU9) ?_
  refine J.z q1 ?_
  refine J.ns (Cj.ret (Ej.blkRet (Ej.seqRet (q6 ?_))))
  refine ⟨?_, rfl, rfl⟩
  refine congrArg (fun l => Ending.returned (str l)) ?_
  unfold Ke.char
  rw [if_pos (by omega)]; exact Ke.enc_encode (by unfold Ke.okc; omega)
 have c7x4 := and_f hc3
 refine Cj.sr (J.z q0 ?_)
 refine J.op rfl (op_pure rfl rfl rfl rfl rfl (between_ok _ _ _ _) ?_)
 refine J.z q1 ?_
 refine J.cd (fun hc4 => ?_) (fun hc4 => ?_)
 ·
  have c14x5 := and_t hc4
  refine Cj.sr (J.z q0 ?_)
  refine J.z (yl_add rfl rfl rfl (i32w (by omega))) ?_
  refine J.z (yl_runeStr rfl rfl tU21 tU9) ?_
  refine J.z q1 ?_
  refine J.ns (Cj.ret (Ej.blkRet (Ej.seqRet (q6 ?_))))
  refine ⟨?_, rfl, rfl⟩
  refine congrArg (fun l => Ending.returned (str l)) ?_
  unfold Ke.char
  rw [if_neg (by omega), if_pos (by omega)]; exact (congrArg (fun n : Int => (Utf8.encode n).data.toList) (by omega)).trans (Ke.enc_encode (c := c + 32) (by unfold Ke.okc; omega))
 have c14x6 := and_f hc4
 refine Cj.sr (J.z q0 ?_)
 refine J.z q17 ?_
 refine J.z q1 ?_
 refine J.cd (fun hc5 => ?_) (fun hc5 => ?_)
 ·
  have hc5p := odt hc5
  have c20x7 := odt hc5
  refine Cj.sr (J.z q1 ?_)
  refine J.ns (Cj.ret (Ej.blkRet (Ej.seqRet (q6 ?_))))
  refine ⟨?_, rfl, rfl⟩
  refine congrArg (fun l => Ending.returned (str l)) ?_
  unfold Ke.char
  rw [if_neg (by omega), if_neg (by omega), if_pos (by omega)]
 have hc5p := odf hc5
 have c20x8 := odf hc5
 refine Cj.seq (Cj.sr (J.z q0 ?_))
 refine J.op rfl (op_pure rfl rfl rfl rfl rfl (between_ok _ _ _ _) ?_)
 refine J.z q1 ?_
 refine J.cd (fun hc6 => ?_) (fun hc6 => ?_)
 ·
  have c23x9 := and_t hc6
  refine Cj.ks (Cj.cond rfl (fun hc7 => ?_) (fun hc7 => Bool.noConfusion (Eq.trans (Eq.symm hc6) hc7)))
  refine Cj.sr (J.z q1 ?_)
  refine J.ns (Cj.ret (Ej.blkRet (Ej.seqRet (q6 ?_))))
  refine ⟨?_, rfl, rfl⟩
  refine congrArg (fun l => Ending.returned (str l)) ?_
  unfold Ke.char
  rw [if_neg (by omega), if_neg (by omega), if_neg (by omega), if_pos (by omega)]
 have c23x10 := and_f hc6
 refine Cj.region (J.z q0 ?_)
 refine J.op rfl (op_pure rfl rfl rfl rfl rfl (between_ok _ _ _ _) ?_)
 refine J.z q1 ?_
 refine J.cd (fun hc8 => ?_) (fun hc8 => ?_)
 ·
  have c23x11 := and_t hc8
  refine Cj.sr (J.z q1 ?_)
  refine J.ns (Cj.ret (Ej.blkRet (Ej.seqRet (q6 ?_))))
  refine ⟨?_, rfl, rfl⟩
  refine congrArg (fun l => Ending.returned (str l)) ?_
  unfold Ke.char
  rw [if_neg (by omega), if_neg (by omega), if_neg (by omega), if_pos (by omega)]
 have c23x12 := and_f hc8
 refine Cj.kb (Cj.seq (Cj.sr (J.z q0 ?_)))
 refine J.z q0 ?_
 refine J.z (yl_lookup2 (kv := fun a : Int => Value.int .i32 a) (l := Ke.mtab Ke.tab) (a := (c : Int)) rfl rfl rfl rfl underlying150 (KeyK.int tU21) tZ9 (Blk.imm hT)) ?_
 refine J.z q0 ?_
 refine J.z q25 ?_
 refine J.z q25 ?_
 refine J.z q1 ?_
 refine J.z q1 ?_
 refine J.nssr (J.z q0 ?_)
 refine J.cd (fun hc9 => ?_) (fun hc9 => ?_)
 ·
  obtain ⟨x, hx⟩ := Option.isSome_iff_exists.1 (show (Ke.tab.lookup c).isSome = true by have h := hc9; rw [hm] at h; simpa using h)
  refine Cj.eqv 5 rfl (show _ = str x from (by rw [hm, hx]; rfl)) ?_
  refine Cj.sr (J.z q0 ?_)
  refine J.z q1 ?_
  refine J.ns (Cj.rs (q6 ?_))
  refine ⟨?_, rfl, rfl⟩
  refine congrArg (fun l => Ending.returned (str l)) ?_
  unfold Ke.char
  rw [if_neg (by omega), if_neg (by omega), if_neg (by omega), if_neg (by omega), hx]
 have hx : Ke.tab.lookup c = none := by have h := hc9; rw [hm] at h; simpa using h
 refine Cj.ks (Cj.seq (Cj.block (Cj.sr (J.z q0 ?_))))
 refine J.z q23 ?_
 refine J.z q1 ?_
 refine J.cd (fun hc10 => ?_) (fun hc10 => ?_)
 ·
  have hc10p := ebq hc10
  have c36x13 := ebq hc10
  refine Cj.sr (J.z q1 ?_)
  refine J.ns (Cj.ret (Ej.blkRet (Ej.seqRet (q6 ?_))))
  refine ⟨?_, rfl, rfl⟩
  refine congrArg (fun l => Ending.returned (str l)) ?_
  unfold Ke.char
  rw [if_neg (by omega), if_neg (by omega), if_neg (by omega), if_neg (by omega), hx]
  simp only
  rw [if_pos (by omega)]; rfl
 have hc10p := nbf hc10
 have c36x14 := nbf hc10
 refine Cj.seq (Cj.sr (J.z q0 ?_))
 refine J.op rfl (op_pure rfl rfl rfl rfl rfl (between_ok _ _ _ _) ?_)
 refine J.z q1 ?_
 refine J.cd (fun hc11 => ?_) (fun hc11 => ?_)
 ·
  have c39x15 := and_t hc11
  refine Cj.ks (Cj.cond rfl (fun hc12 => ?_) (fun hc12 => Bool.noConfusion (Eq.trans (Eq.symm hc11) hc12)))
  refine Cj.sr (J.z q0 ?_)
  refine J.z (yl_runeStr rfl rfl tU21 tU9) ?_
  refine J.z q1 ?_
  refine J.ns (Cj.ret (Ej.blkRet (Ej.seqRet (q6 ?_))))
  refine ⟨?_, rfl, rfl⟩
  refine congrArg (fun l => Ending.returned (str l)) ?_
  unfold Ke.char
  rw [if_neg (by omega), if_neg (by omega), if_neg (by omega), if_neg (by omega), hx]
  simp only
  rw [if_neg (by omega), if_pos (by omega)]; exact Ke.enc_encode (by unfold Ke.okc; omega)
 have c39x16 := and_f hc11
 refine Cj.region (J.z q0 ?_)
 refine J.op rfl (op_pure rfl rfl rfl rfl rfl (between_ok _ _ _ _) ?_)
 refine J.z q1 ?_
 refine J.cd (fun hc13 => ?_) (fun hc13 => ?_)
 ·
  have c39x17 := and_t hc13
  refine Cj.sr (J.z q0 ?_)
  refine J.z (yl_runeStr rfl rfl tU21 tU9) ?_
  refine J.z q1 ?_
  refine J.ns (Cj.ret (Ej.blkRet (Ej.seqRet (q6 ?_))))
  refine ⟨?_, rfl, rfl⟩
  refine congrArg (fun l => Ending.returned (str l)) ?_
  unfold Ke.char
  rw [if_neg (by omega), if_neg (by omega), if_neg (by omega), if_neg (by omega), hx]
  simp only
  rw [if_neg (by omega), if_pos (by omega)]; exact Ke.enc_encode (by unfold Ke.okc; omega)
 have c39x18 := and_f hc13
 refine Cj.seq (Cj.sr (J.z q0 ?_))
 refine J.op rfl (op_pure rfl rfl rfl rfl rfl (between_ok _ _ _ _) ?_)
 refine J.z q0 ?_
 refine q16 49 (fun hg14 => ?_) (fun hg14 => ?_)
 ·
  have c49x19 := and_t hg14
  refine q5 2 49 true hg14 (q2 q0 ?_)
  refine q5 2 49 true hg14 (q2 q47 ?_)
  refine J.z (q11 hg14) ?_
  refine J.z q1 ?_
  refine J.cd (fun hc15 => ?_) (fun hc15 => ?_)
  ·
   have hc15p := bne_iff_ne.1 hc15
   have c46x20 : (c : Int) ≠ 930 := by have h := hc15; simpa using h
   refine Cj.ks (Cj.cond rfl (fun hc16 => ?_) (fun hc16 => Bool.noConfusion (Eq.trans (Eq.symm hc15) hc16)))
   refine Cj.sr (J.z q0 ?_)
   refine J.z (yl_add rfl rfl rfl (i32w (by omega))) ?_
   refine J.z (yl_runeStr rfl rfl tU21 tU9) ?_
   refine J.z q1 ?_
   refine J.ns (Cj.ret (Ej.blkRet (Ej.seqRet (q6 ?_))))
   refine ⟨?_, rfl, rfl⟩
   refine congrArg (fun l => Ending.returned (str l)) ?_
   unfold Ke.char
   rw [if_neg (by omega), if_neg (by omega), if_neg (by omega), if_neg (by omega), hx]
   simp only
   rw [if_neg (by omega), if_neg (by omega), if_pos (by omega)]; exact (congrArg (fun n : Int => (Utf8.encode n).data.toList) (by omega)).trans (Ke.enc_encode (c := c + 32) (by unfold Ke.okc; omega))
  have hc15p := bne_f hc15
  have c46x21 : ¬ (c : Int) ≠ 930 := by have h := hc15; simpa using h
  refine Cj.region (J.z q0 ?_)
  refine J.op rfl (op_pure rfl rfl rfl rfl rfl (between_ok _ _ _ _) ?_)
  refine J.z q1 ?_
  refine J.cd (fun hc17 => ?_) (fun hc17 => ?_)
  ·
   have c46x22 := and_t hc17
   refine Cj.sr (J.z q0 ?_)
   refine J.z (yl_add rfl rfl rfl (i32w (by omega))) ?_
   refine J.z (yl_runeStr rfl rfl tU21 tU9) ?_
   refine J.z q1 ?_
   refine J.ns (Cj.ret (Ej.blkRet (Ej.seqRet (q6 ?_))))
   refine ⟨?_, rfl, rfl⟩
   refine congrArg (fun l => Ending.returned (str l)) ?_
   unfold Ke.char
   rw [if_neg (by omega), if_neg (by omega), if_neg (by omega), if_neg (by omega), hx]
   simp only
   rw [if_neg (by omega), if_neg (by omega), if_pos (by omega)]; exact (congrArg (fun n : Int => (Utf8.encode n).data.toList) (by omega)).trans (Ke.enc_encode (c := c + 32) (by unfold Ke.okc; omega))
  have c46x23 := and_f hc17
  refine Cj.kb (Cj.sr (J.z q1 ?_))
  refine J.ns (Cj.ret (q6 ?_))
  refine ⟨?_, rfl, rfl⟩
  refine congrArg (fun l => Ending.returned (str l)) ?_
  unfold Ke.char
  rw [if_neg (by omega), if_neg (by omega), if_neg (by omega), if_neg (by omega), hx]
  simp only
  rw [if_neg (by omega), if_neg (by omega), if_neg (by omega)]
 have c49x24 := and_f hg14
 refine q3 2 49 50 true hg14 ?_
 refine q3 2 49 51 true hg14 ?_
 refine J.z (q10 hg14) ?_
 refine J.z q1 ?_
 refine J.c0 (fun hc18 => ?_)
 refine Cj.region (J.z q0 ?_)
 refine J.op rfl (op_pure rfl rfl rfl rfl rfl (between_ok _ _ _ _) ?_)
 refine J.z q1 ?_
 refine J.cd (fun hc19 => ?_) (fun hc19 => ?_)
 ·
  have c46x25 := and_t hc19
  refine Cj.sr (J.z q0 ?_)
  refine J.z (yl_add rfl rfl rfl (i32w (by omega))) ?_
  refine J.z (yl_runeStr rfl rfl tU21 tU9) ?_
  refine J.z q1 ?_
  refine J.ns (Cj.ret (Ej.blkRet (Ej.seqRet (q6 ?_))))
  refine ⟨?_, rfl, rfl⟩
  refine congrArg (fun l => Ending.returned (str l)) ?_
  unfold Ke.char
  rw [if_neg (by omega), if_neg (by omega), if_neg (by omega), if_neg (by omega), hx]
  simp only
  rw [if_neg (by omega), if_neg (by omega), if_pos (by omega)]; exact (congrArg (fun n : Int => (Utf8.encode n).data.toList) (by omega)).trans (Ke.enc_encode (c := c + 32) (by unfold Ke.okc; omega))
 have c46x26 := and_f hc19
 refine Cj.kb (Cj.sr (J.z q1 ?_))
 refine J.ns (Cj.ret (q6 ?_))
 refine ⟨?_, rfl, rfl⟩
 refine congrArg (fun l => Ending.returned (str l)) ?_
 unfold Ke.char
 rw [if_neg (by omega), if_neg (by omega), if_neg (by omega), if_neg (by omega), hx]
 simp only
 rw [if_neg (by omega), if_neg (by omega), if_neg (by omega)]
theorem Index1_ok (s : List UInt8) (c : UInt8) (I : Heap) : Pure Tryz.prog 216 [str s, str [c]] I (i64 (Lib.indexByte s c)) :=
  Pure.of_same (Enters.of func216 (by decide) rfl) fun w _ => by
    have h := Tryz.stringslite_Index_one ⟨s.toArray⟩ c w
    rw [ba_list] at h
    exact h
theorem sCut_ok (s : List UInt8) (c : UInt8) (hs : s.length ≤ 1000000000) (I : Heap) : Pure Tryz.prog 204 [str s, str [c]] I (.tuple #[str (Ke.cutAt c s).1, str (Ke.cutAt c s).2.1, .bool (Ke.cutAt c s).2.2]) := by
 refine Ctr.ob func204 ?_
 intro w0 hw0
 refine Cj.sr (J.z q1 ?_)
 refine J.z q1 ?_
 refine J.z q1 ?_
 refine J.nsss (Cj.region (J.z q0 ?_))
 refine J.z q0 ?_
 refine J.op rfl (op_pure rfl rfl rfl rfl rfl (Index1_ok s c _) ?_)
 refine J.z q1 ?_
 refine J.nssr (J.z q0 ?_)
 refine J.z q34 ?_
 refine J.cd (fun hc1 => ?_) (fun hc1 => ?_)
 ·
  have hc1p := odt hc1
  obtain ⟨n, g1, g2, g3⟩ := (Ke.cut_index c s).resolve_left (fun h => by have := odt hc1; omega)
  refine Cj.eqv 7 rfl (show _ = i64 (n : Int) from congrArg i64 g1) ?_
  refine Cj.seq (Cj.drawSel [] [] 12 (by kernel_rfl) ?_)
  refine JA.fix fx1 (fun fx2 => ?_)
  refine JA.tk 0 rfl fx2 q0 ?_
  refine JA.tk 1 rfl fx2 q0 ?_
  refine JA.tk 2 rfl fx2 (q54 (p := 0) (q := n) tU9) ?_
  refine JA.eqv 15 rfl (show _ = str (s.take n) from (by rw [List.drop_zero])) ?_
  refine JA.tk 3 rfl fx2 q0 ?_
  refine JA.tk 4 rfl fx2 q0 ?_
  refine JA.tk 5 rfl fx2 q0 ?_
  refine JA.tk 6 rfl fx2 (q26 tU9) ?_
  refine JA.tk 7 rfl fx2 (yl_add rfl rfl rfl (w64 (by simp only [List.length_cons, List.length_nil]; omega))) ?_
  refine JA.tk 8 rfl fx2 (yl_sliceStr (p := n + 1) (q := s.length) rfl rfl tU9 ⟨_, rfl⟩ rfl (by omega) (by omega)) ?_
  refine JA.eqv 21 rfl (show _ = str (s.drop (n + 1)) from (by rw [List.take_length])) ?_
  refine JA.tk 9 rfl fx2 q1 ?_
  refine JA.tk 10 rfl fx2 q1 ?_
  refine JA.tk 11 rfl fx2 q1 ?_
  refine q14 ?_
  refine Ej.seq (Cj.rs (Ej.ret3 rfl rfl rfl rfl rfl ?_))
  refine ⟨?_, rfl, rfl⟩
  rw [g3]
 have hc1p := odf hc1
 have g := (Ke.cut_index c s).resolve_right (fun ⟨n, h, _⟩ => by have := odf hc1; omega)
 refine Cj.ks (Cj.sr (J.z q0 ?_))
 refine J.z q1 ?_
 refine J.z q1 ?_
 refine J.z q1 ?_
 refine J.ns (Cj.ret (Ej.ret3 rfl rfl rfl rfl rfl ?_))
 refine ⟨?_, rfl, rfl⟩
 rw [g.2]; rfl
theorem Cut_ok (s : List UInt8) (c : UInt8) (hs : s.length ≤ 1000000000) (I : Heap) : Pure Tryz.prog 183 [str s, str [c]] I (.tuple #[str (Ke.cutAt c s).1, str (Ke.cutAt c s).2.1, .bool (Ke.cutAt c s).2.2]) := by
 refine Ctr.ob func183 ?_
 intro w0 hw0
 refine Cj.sr (J.z q1 ?_)
 refine J.z q1 ?_
 refine J.z q1 ?_
 refine J.nssr (J.z q0 ?_)
 refine J.z q0 ?_
 refine J.op rfl (op_pure rfl rfl rfl rfl rfl (sCut_ok s c hs _) ?_)
 refine J.z q25 ?_
 refine J.z q25 ?_
 refine J.z q25 ?_
 refine J.z q1 ?_
 refine J.z q1 ?_
 refine J.z q1 ?_
 refine J.ns (Cj.ret (Ej.ret3 rfl rfl rfl rfl rfl ?_))
 exact ⟨rfl, rfl, rfl⟩
theorem alphabet_ok (rb rc : Nat) (I : Heap) (hrb : I rb = some (cel 9 (Ke.prows.map str))) : Ctr Tryz.prog 152 [.slice (some ⟨rb, 0, none⟩) 31 rc] I []
    (fun e _I' H' => ∃ tb, e = .returned (.map (some tb)) ∧ H' = [(tb, mobj (fun a : Int => Value.int .i32 a) (Ke.mtab Ke.tab) 207)]) := by
 refine Ctr.ob func152 ?_
 intro w0 hw0
 refine Cj.sr (J.z q1 ?_)
 refine J.nssr (J.op rfl (op_makeMap rfl rfl rfl ?_))
 intro b1 hb1
 refine J.z q1 ?_
 refine J.nsss (Cj.region (J.z q0 ?_))
 refine J.z (q15 tU28) ?_
 refine J.z q0 ?_
 refine J.ns (Cj.block (Cj.loop (ι := Nat) (fun k => k ≤ 31) (fun k => 31 - k) (fun k => [(3, .map (some b1)), (12, .slice (some ⟨rb, 0, none⟩) 31 rc), (13, .int .i64 ((31 : Nat) : Int)), (14, i64 (k : Int))]) (fun k => _) (fun k => [(b1, mobj (fun a : Int => Value.int .i32 a) (Ke.mtab (Ke.rowTab (Ke.rows.take k))) (Ke.rowTab (Ke.rows.take k)).length)]) 0 (Nat.zero_le _) ⟨rfl, rfl, rfl, rfl, trivial⟩ rfl rfl ?_))
 intro k hk
 refine Cj.sr (J.z q17 ?_)
 refine J.nss (Cj.cond rfl (fun hc2 => ?_) (fun hc2 => ?_))
 ·
  have hc2p := odt hc2
  have hlt : k < 31 := by have := odt hc2; omega
  obtain ⟨⟨a, b⟩, hget⟩ : ∃ p, Ke.rows[k]? = some p := ⟨_, lgg (show k < Ke.rows.length from hlt)⟩
  obtain ⟨ha, hal, hbl⟩ := Ke.row_parts _ (lmg hget)
  have hpg : (Ke.prows.map str)[k]? = some (str (a ++ 32 :: b)) := by simp [Ke.prows, hget]
  refine Cj.ks (Cj.seq (Cj.block (Cj.sr (J.z (q19 (off' := k) tU28 tS9) ?_))))
  refine J.z (q37 tA9 (Blk.imm hrb) hpg) ?_
  refine J.z q1 ?_
  refine J.nssr (J.z q0 ?_)
  refine J.op rfl (op_pure rfl rfl rfl rfl rfl (Cut_ok (a ++ 32 :: b) 32 (by dsimp only at hal hbl; simp; omega) _) ?_)
  refine J.eqv 20 rfl (show _ = .tuple #[str a, str b, .bool true] from (by rw [Ke.cutAt_row ha])) ?_
  refine J.z q0 ?_
  refine J.z q25 ?_
  refine J.z q25 ?_
  refine J.z q25 ?_
  refine J.z q1 ?_
  refine J.z q1 ?_
  refine J.z q1 ?_
  refine J.nssr (J.z q0 ?_)
  refine J.op rfl (op_range rfl rfl rfl rfl tU9 ?_)
  intro b3 hb3
  refine J.ns (Cj.block (Cj.loop (ι := Nat × List Nat) (fun j => j.1 ≤ b.length ∧ Ke.runes b = j.2 ++ Ke.runes (b.drop j.1)) (fun j => b.length - j.1) (fun j => [(3, .map (some b1)), (6, str a), (12, .slice (some ⟨rb, 0, none⟩) 31 rc), (13, .int .i64 ((31 : Nat) : Int)), (14, i64 (k : Int)), (25, ptr b3 0)]) (fun j => _) (fun j => [(b3, .stringIter ⟨b.toArray⟩ j.1), (b1, mobj (fun a : Int => Value.int .i32 a) (Ke.mtab (Ke.rowTab (Ke.rows.take k) ++ j.2.map (·, a))) (Ke.rowTab (Ke.rows.take k) ++ j.2.map (·, a)).length)]) (0, []) ⟨Nat.zero_le _, rfl⟩ ⟨rfl, rfl, rfl, rfl, rfl, rfl, trivial⟩ rfl (by simp) ?_))
  rintro ⟨i, x⟩ ⟨hi, hx⟩
  dsimp only at hi hx ⊢
  rcases Nat.lt_or_ge i b.length with hp | hp
  ·
   have hw := Ke.decode_width b hp
   have hfr := Ke.fresh hget (Ke.runes_split hx hp)
   refine Cj.sr (J.op rfl (op_next 0 rfl rfl rfl rfl rfl (by rw [size_mk]; omega) LSet.z ?_))
   refine J.z q25 ?_
   refine J.nss (Cj.cond rfl (fun hc4 => ?_) (fun hc4 => Bool.noConfusion (Eq.trans (Eq.symm rfl) hc4)))
   refine Cj.ks (Cj.block (Cj.sr (J.z q25 ?_)))
   refine J.z q1 ?_
   refine J.nsr (J.z q0 ?_)
   refine J.z q0 ?_
   refine J.z q0 ?_
   refine J.op rfl (op_insert (kv := fun a : Int => Value.int .i32 a) (a := ((Utf8.decode ⟨b.toArray⟩ i).1 : Int)) 1 (.inr rfl) rfl rfl rfl rfl rfl underlying150 (KeyK.int tU21) rfl (LSet.s LSet.z) ?_)
   rw [(Ke.mset_new (s := a) hfr).1, (Ke.mset_new (s := a) hfr).2]
   refine J.nil (Ej.blkNormal (Ej.round (i + (Utf8.decode ⟨b.toArray⟩ i).2, x ++ [(Utf8.decode ⟨b.toArray⟩ i).1]) ⟨hw.2, Ke.runes_split' hx hp⟩ (by dsimp only; omega) ⟨rfl, rfl, rfl, rfl, rfl, rfl, trivial⟩ rfl (by simp only [List.map_append, List.map_cons, List.map_nil, List.append_assoc])))
   
  refine Cj.sr (J.op rfl (op_nextEnd 0 rfl rfl rfl rfl rfl (by rw [size_mk]; omega) ?_))
  refine J.z q25 ?_
  refine J.nss (Cj.cond rfl (fun hc5 => Bool.noConfusion (Eq.trans (Eq.symm rfl) hc5)) (fun hc5 => ?_))
  refine Cj.exit (Ej.seqExit (Ej.loopExit (Ej.blkExit (Ej.blkNormal (Ej.seq (Cj.region (J.z q7 ?_)))))))
  refine J.z q0 ?_
  refine J.nil (Ej.keep (Keeps.d (Keeps.k Keeps.n)) ?_)
  refine Ej.round (k + 1) (by omega) (by omega) ⟨rfl, rfl, rfl, rfl, trivial⟩ rfl (by rw [Ke.rowTab_next hget, Ke.runes_done hx (by omega)])
 have hc2p := odf hc2
 refine Cj.xl (Cj.sr (J.z q0 ?_))
 refine J.z q1 ?_
 refine J.ns (Cj.ret ?_)
 obtain rfl : k = 31 := by omega
 refine q6 ?_
 have he : Ke.rowTab (Ke.rows.take 31) = Ke.tab := by rw [List.take_of_length_le (by decide)]; exact Ke.tab_eq
 refine ⟨b1, rfl, ?_⟩
 rw [he]; rfl
theorem prows_eq : cel 9 (Ke.prows.map str) = cel 9 [str [97, 32, 195, 160, 195, 161, 195, 162, 195, 163, 195, 164, 195, 165, 196, 129, 196, 131, 196, 133, 195, 128, 195, 129, 195, 130, 195, 131, 195, 132, 195, 133, 196, 128, 196, 130, 196, 132], str [99, 32, 195, 167, 196, 135, 196, 137, 196, 139, 196, 141, 195, 135, 196, 134, 196, 136, 196, 138, 196, 140], str [100, 32, 196, 143, 196, 145, 195, 176, 196, 142, 196, 144, 195, 144], str [101, 32, 195, 168, 195, 169, 195, 170, 195, 171, 196, 147, 196, 149, 196, 151, 196, 153, 196, 155, 195, 136, 195, 137, 195, 138, 195, 139, 196, 146, 196, 148, 196, 150, 196, 152, 196, 154], str [103, 32, 196, 157, 196, 159, 196, 161, 196, 163, 196, 156, 196, 158, 196, 160, 196, 162], str [104, 32, 196, 165, 196, 167, 196, 164, 196, 166], str [105, 32, 195, 172, 195, 173, 195, 174, 195, 175, 196, 169, 196, 171, 196, 173, 196, 175, 196, 177, 195, 140, 195, 141, 195, 142, 195, 143, 196, 168, 196, 170, 196, 172, 196, 174, 196, 176], str [106, 32, 196, 181, 196, 180], str [107, 32, 196, 183, 196, 182], str [108, 32, 196, 186, 196, 188, 196, 190, 197, 130, 196, 185, 196, 187, 196, 189, 197, 129], str [110, 32, 195, 177, 197, 132, 197, 134, 197, 136, 195, 145, 197, 131, 197, 133, 197, 135], str [111, 32, 195, 178, 195, 179, 195, 180, 195, 181, 195, 182, 195, 184, 197, 141, 197, 143, 197, 145, 198, 161, 195, 146, 195, 147, 195, 148, 195, 149, 195, 150, 195, 152, 197, 140, 197, 142, 197, 144, 198, 160], str [114, 32, 197, 149, 197, 151, 197, 153, 197, 148, 197, 150, 197, 152], str [115, 32, 197, 155, 197, 157, 197, 159, 197, 161, 197, 154, 197, 156, 197, 158, 197, 160], str [116, 32, 197, 163, 197, 165, 197, 167, 197, 162, 197, 164, 197, 166], str [117, 32, 195, 185, 195, 186, 195, 187, 195, 188, 197, 169, 197, 171, 197, 173, 197, 175, 197, 177, 197, 179, 198, 176, 195, 153, 195, 154, 195, 155, 195, 156, 197, 168, 197, 170, 197, 172, 197, 174, 197, 176, 197, 178, 198, 175], str [119, 32, 197, 181, 197, 180], str [121, 32, 195, 189, 195, 191, 197, 183, 195, 157, 197, 184, 197, 182], str [122, 32, 197, 186, 197, 188, 197, 190, 197, 185, 197, 187, 197, 189], str [97, 101, 32, 195, 166, 195, 134], str [111, 101, 32, 197, 147, 197, 146], str [115, 115, 32, 195, 159], str [116, 104, 32, 195, 190, 195, 158], str [206, 177, 32, 206, 172, 206, 134], str [206, 181, 32, 206, 173, 206, 136], str [206, 183, 32, 206, 174, 206, 137], str [206, 185, 32, 206, 175, 207, 138, 206, 144, 206, 138, 206, 170], str [206, 191, 32, 207, 140, 206, 140], str [207, 133, 32, 207, 141, 207, 139, 206, 176, 206, 142, 206, 171], str [207, 137, 32, 207, 142, 206, 143], str [208, 181, 32, 209, 145, 208, 129]] := by kernel_rfl
theorem letters_ok (I : Heap) : Ctr Tryz.prog 107 [] I [] (fun e _I' H' => ∃ tb, e = .returned (.map (some tb)) ∧ H' = [(tb, mobj (fun a : Int => Value.int .i32 a) (Ke.mtab Ke.tab) 207)]) := by
 refine Ctr.ob func107 ?_
 intro w0 hw0
 refine Cj.sr (J.z q1 ?_)
 refine J.nssr (J.op rfl (op_buildSlice rfl rfl rfl tU28 tS9 tZ9 rfl rfl rfl rfl (LCat.one rfl (LCat.one rfl (LCat.one rfl (LCat.one rfl (LCat.one rfl (LCat.one rfl (LCat.one rfl (LCat.one rfl (LCat.one rfl (LCat.one rfl (LCat.one rfl (LCat.one rfl (LCat.one rfl (LCat.one rfl (LCat.one rfl (LCat.one rfl (LCat.one rfl (LCat.one rfl (LCat.one rfl (LCat.one rfl (LCat.one rfl (LCat.one rfl (LCat.one rfl (LCat.one rfl (LCat.one rfl (LCat.one rfl (LCat.one rfl (LCat.one rfl (LCat.one rfl (LCat.one rfl (LCat.one rfl LCat.none))))))))))))))))))))))))))))))) ?_))
 intro b1 hb1
 refine J.persist hb1 (fun I3 hle2 hb1i => ?_)
 refine J.op rfl (q36 (H1 := []) rfl rfl rfl rfl rfl (alphabet_ok b1 _ _ (by rw [prows_eq]; exact hb1i)) ?_)
 intro v4 I5 H6 hle7 hp8
 obtain ⟨tb, h, rfl⟩ := hp8; cases h
 refine J.z q1 ?_
 refine J.ns (Cj.ret (q6 ?_))
 exact ⟨tb, rfl, rfl⟩
end Go.Proofs.YtjcdfnbomkoheaaGreatDoor
end
section
namespace Ke
theorem enc_len (c : Nat) : (enc c).length ≤ 4 := by unfold enc; split <;> (try split) <;> (try split) <;> simp
theorem tab_len : tab.all (fun p => decide (p.2.length ≤ 4)) = true := by decide +kernel
theorem mem_lookup : ∀ {l : List (Nat × Bs)} {c : Nat} {s : Bs}, l.lookup c = some s → ∃ p ∈ l, p.2 = s
  | [], _, _, h => by cases h
  | (a, b) :: r, c, s, h => by
    rw [List.lookup_cons] at h
    split at h
    · cases h; exact ⟨_, .head _, rfl⟩
    obtain ⟨p, h1, h2⟩ := mem_lookup h
    exact ⟨p, .tail _ h1, h2⟩
theorem char_len (c : Nat) : (char c).length ≤ 4 := by
  unfold char
  split
  · exact enc_len c
  split
  · exact enc_len _
  split
  · simp
  split
  · simp
  split
  · rename_i s hs
    obtain ⟨p, h1, rfl⟩ := mem_lookup hs
    exact of_decide_eq_true (List.all_eq_true.1 tab_len p h1)
  split
  · exact enc_len _
  split
  · exact enc_len _
  split
  · exact enc_len _
  simp
theorem wf_end (w : Bs) : wf w [] = if w = [] then [] else [w] := rfl
theorem wf_in {c : Nat} (h : char c ≠ [32]) (w : Bs) (r : List Nat) : wf w (c :: r) = wf (w ++ char c) r := by
  show (if char c = [32] then _ else _) = _
  rw [if_neg h]
theorem wf_out {c : Nat} (h : char c = [32]) {w : Bs} (hw : w ≠ []) (r : List Nat) : wf w (c :: r) = w :: wf [] r := by
  show (if char c = [32] then (if w = [] then _ else _) else _) = _
  rw [if_pos h, if_neg hw]
theorem wf_out0 {c : Nat} (h : char c = [32]) (r : List Nat) : wf [] (c :: r) = wf [] r := by
  show (if char c = [32] then (if ([] : Bs) = [] then _ else _) else _) = _
  rw [if_pos h, if_pos rfl]
theorem drop_at {α : Type} {l : List α} {k : Nat} {x : α} {r : List α} (h : l.drop k = x :: r) : l[k]? = some x ∧ l.drop (k + 1) = r := by
  have h1 := congrArg List.head? h
  have h2 := congrArg List.tail h
  rw [List.head?_drop] at h1
  rw [List.tail_drop] at h2
  exact ⟨h1, h2⟩
structure WInv (s : Bs) (i k : Nat) (w : Bs) : Prop where
  le : i ≤ s.length
  wl : w.length ≤ 4 * i
  kl : k ≤ (words s).length
  eq : (words s).drop k = wf w (runes (s.drop i))
theorem WInv.start (s : Bs) : WInv s 0 0 [] := ⟨Nat.zero_le _, Nat.zero_le _, Nat.zero_le _, rfl⟩
theorem WInv.in {s : Bs} {i k : Nat} {w : Bs} (h : WInv s i k w) (hi : i < s.length) (hc : char (Go.Utf8.decode ⟨s.toArray⟩ i).1 ≠ [32]) : WInv s (i + (Go.Utf8.decode ⟨s.toArray⟩ i).2) k (w ++ char (Go.Utf8.decode ⟨s.toArray⟩ i).1) := by
  obtain ⟨h1, h2⟩ := decode_width s hi
  refine ⟨h2, ?_, h.kl, by rw [h.eq, runes_at hi, wf_in hc]⟩
  have := char_len (Go.Utf8.decode ⟨s.toArray⟩ i).1
  have := h.wl
  rw [List.length_append]; omega
theorem WInv.out0 {s : Bs} {i k : Nat} (h : WInv s i k []) (hi : i < s.length) (hc : char (Go.Utf8.decode ⟨s.toArray⟩ i).1 = [32]) : WInv s (i + (Go.Utf8.decode ⟨s.toArray⟩ i).2) k [] := by
  obtain ⟨h1, h2⟩ := decode_width s hi
  exact ⟨h2, by simp, h.kl, by rw [h.eq, runes_at hi, wf_out0 hc]⟩
theorem WInv.out {s : Bs} {i k : Nat} {w : Bs} (h : WInv s i k w) (hi : i < s.length) (hc : char (Go.Utf8.decode ⟨s.toArray⟩ i).1 = [32]) (hw : w ≠ []) : (words s)[k]? = some w ∧ WInv s (i + (Go.Utf8.decode ⟨s.toArray⟩ i).2) (k + 1) [] := by
  obtain ⟨h1, h2⟩ := decode_width s hi
  have he := h.eq
  rw [runes_at hi, wf_out hc hw] at he
  obtain ⟨g1, g2⟩ := drop_at he
  exact ⟨g1, h2, by simp, (List.getElem?_eq_some_iff.1 g1).1, g2⟩
theorem WInv.last {s : Bs} {i k : Nat} {w : Bs} (h : WInv s i k w) (hi : ¬ i < s.length) (hw : w ≠ []) : (words s)[k]? = some w ∧ k + 1 = (words s).length := by
  have he := h.eq
  rw [runes_end (by omega), wf_end, if_neg hw] at he
  obtain ⟨g1, g2⟩ := drop_at he
  have := congrArg List.length g2
  have := (List.getElem?_eq_some_iff.1 g1).1
  simp at *
  exact ⟨g1, by omega⟩
theorem WInv.end0 {s : Bs} {i k : Nat} (h : WInv s i k []) (hi : ¬ i < s.length) : k = (words s).length := by
  have he := h.eq
  have := h.kl
  rw [runes_end (by omega), wf_end, if_pos rfl] at he
  have := congrArg List.length he
  simp at this
  omega
def total : List Bs → Nat
  | [] => 0
  | a :: r => a.length + total r
theorem wf_len : ∀ (r : List Nat) (w : Bs), (wf w r).length ≤ r.length + 1 ∧ total (wf w r) ≤ w.length + 4 * r.length
  | [], w => by
    unfold wf
    split
    · exact ⟨by simp, by simp [total]⟩
    exact ⟨by simp, by simp [total]⟩
  | c :: r, w => by
    unfold wf
    have h0 := wf_len r []
    split
    · split
      · simp only [List.length_cons, List.length_nil] at *; omega
      simp only [List.length_cons, List.length_nil, total] at *; omega
    have h1 := wf_len r (w ++ char c)
    have h2 := char_len c
    simp only [List.length_cons, List.length_append] at *; omega
theorem join_len : ∀ l : List Bs, (join l).length ≤ total l + l.length
  | [] => by simp [join]
  | [a] => by simp [join, total]
  | a :: b :: r => by
    have := join_len (b :: r)
    simp only [join, total, List.length_append, List.length_cons, List.length_nil] at *
    omega
theorem words_len (s : Bs) : (words s).length ≤ s.length + 1 ∧ (join (words s)).length ≤ 5 * s.length + 1 := by
  have h1 := wf_len (runes s) []
  have h2 := join_len (words s)
  have h3 := runes_len s.length s
  unfold words at *
  unfold runes at *
  simp only [List.length_nil] at h1
  omega
theorem words_each (s : Bs) : ∀ w ∈ words s, w.length ≤ 4 * s.length := by
  have h : ∀ (l : List Bs), ∀ w ∈ l, w.length ≤ total l := by
    intro l
    induction l with
    | nil => intro w hw; cases hw
    | cons a r ih =>
      intro w hw
      rcases List.mem_cons.1 hw with rfl | hw
      · simp [total]
      have := ih w hw; simp only [total]; omega
  intro w hw
  have h1 := (wf_len (runes s) []).2
  have h3 := runes_len s.length s
  have h4 := h _ w hw
  unfold words runes at *
  simp only [List.length_nil] at h1
  omega
theorem join_lib : ∀ l : List Bs, Go.Lib.join l [32] = join l
  | [] => rfl
  | [a] => Go.Lib.join_one a [32]
  | a :: b :: r => by
    have h := join_lib (b :: r)
    rw [Go.Lib.join_cons] at h ⊢
    show a ++ Go.Lib.joinTail [32] (b :: r) = a ++ [32] ++ join (b :: r)
    rw [← h]
    simp [Go.Lib.joinTail]
def tens : Bs := [48, 49, 50, 51, 52, 53, 54, 55, 56, 57]
theorem tens_digit (c : UInt8) : tens.contains c = digit c := by
  have h : ∀ n < 256, tens.contains (UInt8.ofNat n) = digit (UInt8.ofNat n) := by decide +kernel
  have := h c.toNat c.toNat_lt
  rwa [UInt8.ofNat_toNat] at this
theorem drop_keeps {p : UInt8 → Bool} {c : UInt8} : ∀ {l : Bs}, c ∈ l → p c = false → c ∈ l.dropWhile p
  | [], h, _ => by cases h
  | d :: r, h, hp => by
    rw [List.dropWhile_cons]
    split
    · rename_i hd
      rcases List.mem_cons.1 h with rfl | h
      · rw [hp] at hd; cases hd
      exact drop_keeps h hp
    exact h
theorem drop_all {p : UInt8 → Bool} : ∀ {l : Bs}, (∀ c ∈ l, p c = true) → l.dropWhile p = []
  | [], _ => rfl
  | d :: r, h => by rw [List.dropWhile_cons_of_pos (h d (.head _))]; exact drop_all fun c hc => h c (.tail _ hc)
theorem trim_digits (s : Bs) : (Go.Lib.trimS s tens == []) = digits s := by
  unfold Go.Lib.trimS Go.Lib.trimLeftS Go.Lib.trimRightS digits
  cases hd : s.all digit with
  | true =>
    have h : ∀ c ∈ s.reverse, tens.contains c = true := fun c hc => by rw [tens_digit]; exact List.all_eq_true.1 hd c (List.mem_reverse.1 hc)
    rw [drop_all h]; rfl
  | false =>
    obtain ⟨c, hc, hn⟩ : ∃ c ∈ s, digit c = false := by
      have := List.all_eq_false.1 hd
      obtain ⟨c, hc, hn⟩ := this
      exact ⟨c, hc, by simpa using hn⟩
    have h1 : tens.contains c = false := by rw [tens_digit]; exact hn
    have h2 := drop_keeps (p := (tens.contains ·)) (List.mem_reverse.2 (drop_keeps (p := (tens.contains ·)) (List.mem_reverse.2 hc) h1)) h1
    rw [beq_eq_false_iff_ne]
    intro he
    rw [he] at h2; cases h2
theorem dropLast_take (w : Bs) : w.take (w.length - 1) = w.dropLast := by rw [List.dropLast_eq_take]
theorem strip_len (w : Bs) : (strip w).length ≤ w.length + 1 := by
  unfold strip
  have h : ∀ (l : Bs) (p : UInt8 → Bool), (l.dropWhile p).length ≤ l.length := by
    intro l p
    induction l with
    | nil => simp
    | cons a r ih => rw [List.dropWhile_cons]; split <;> simp only [List.length_cons] <;> omega
  have := h w.dropLast (· == 48)
  rw [List.length_append, List.length_drop]
  rw [List.length_dropLast] at this
  omega
theorem sortWord_len (w : Bs) : (sortWord w).length ≤ w.length + 3 := by
  have h := strip_len w
  unfold sortWord
  split
  · unfold number
    simp only [List.length_append, List.length_cons, List.length_nil]
    omega
  omega
theorem sort_len (s : Bs) : (join ((words s).map sortWord)).length ≤ 8 * s.length + 4 := by
  have h1 := wf_len (runes s) []
  have h3 := runes_len s.length s
  have h2 := join_len ((words s).map sortWord)
  have h4 : ∀ l : List Bs, total (l.map sortWord) ≤ total l + 3 * l.length := by
    intro l
    induction l with
    | nil => simp [total]
    | cons a r ih =>
      have := sortWord_len a
      simp only [List.map_cons, total, List.length_cons]; omega
  have h5 := h4 (words s)
  rw [List.length_map] at h2
  unfold words runes at *
  simp only [List.length_nil] at h1
  omega
end Ke
end
section
namespace Go.Proofs.YtjcdfnbomkoheaaGreatDoor
open Go Go.Sx
theorem Len_bld (b : Nat) (l : List UInt8) (p : Bool) (g : Gs) (hg : gOk 0 1 l.length (bcs l) g) (I : Heap) : Ctr Tryz.prog 110 [ptr b 0] I (BldH b l p g) (fun e _I' H' => e = .returned (i64 l.length) ∧ H' = BldH b l p g) :=
  (Ctr.frame (gH 5 (bcs l) g) (Len_ok b _ l.length g hg I)).mono fun _ _ _ _ ⟨H1, h1, h2, h3⟩ => ⟨h2, by rw [h1, h3]; rfl⟩
theorem Reset_bld (b : Nat) (x y : Value) (R : HL) (I : Heap) : Ctr Tryz.prog 112 [ptr b 0] I ((b, cel 154 [x, y]) :: R) (fun e _I' H' => e = .returned (.tuple #[]) ∧ H' = BldH b [] false none) :=
  (Ctr.frame R (Reset_ok b x y I)).drop fun _ _ _ ⟨H1, h1, h2, h3⟩ => ⟨_, by rw [h1, h3]; exact List.sublist_append_left _ _, h2, rfl⟩
structure WSt where
  i : Nat
  w : List UInt8
  p : Bool
  g : Gs
  k : Nat
  I : Heap
  H : HL
theorem words1_ok (sb : Nat) (s : List UInt8) (hs : s.length ≤ 1000000000) (I : Heap) (hsb : I sb = some (cel 9 [str s])) : Gen Tryz.prog 106 [] [ptr sb 0] I ((Ke.words s).map fun w => [str w]) := by
 refine ⟨Enters.of Tryz.func106 (by decide) rfl, fun l Y Z hmono hYS H hY0 => ?_⟩
 refine Ctr.ob Tryz.func106 ?_
 intro w0 hw0
 refine Cj.sr (J.op rfl (q44 rfl rfl rfl rfl rfl (letters_ok _) ?_))
 intro v2 I3 H4 hle5 hn1 hp6
 have hsb := hle5 _ _ hsb
 obtain ⟨tb, h, rfl⟩ := hp6; cases h
 have hY0 := hmono _ _ _ _ hle5 hY0
 refine J.persist (hn1 _ (.head _)) (fun I9 hle9 hT => ?_)
 have hsb := hle9 _ _ hsb
 have hY0 := hmono _ _ _ _ hle9 hY0
 refine J.z q1 ?_
 refine J.nssr (J.op rfl (q46 Tryz.zeroValue154 ?_))
 intro b7 hb7
 refine J.nsss (Cj.region (J.z (q9 tA9 (Blk.imm hsb)) ?_))
 refine J.op rfl (op_range rfl rfl rfl rfl tU9 ?_)
 intro b8 hb8
 refine J.ns (Cj.block (Cj.loop (ι := WSt) (fun j => Ke.WInv s j.i j.k j.w ∧ gOk 0 1 j.w.length (bcs j.w) j.g ∧ (Tab j.I tb ∧ j.I sb = some (cel 9 [str s])) ∧ Y j.k j.I j.H) (fun j => s.length - j.i) (fun j => [(0, .func (.yield l) #[] #[]), (3, .map (some tb)), (4, ptr b7 0), (10, ptr b8 0)]) (fun j => j.I) (fun j => (b8, .stringIter ⟨s.toArray⟩ j.i) :: (BldH b7 j.w j.p j.g ++ j.H)) ⟨0, [], false, none, 0, _, H⟩ ⟨Ke.WInv.start s, ⟨rfl, rfl⟩, ⟨hT, hsb⟩, hY0⟩ ⟨rfl, rfl, rfl, rfl, trivial⟩ rfl rfl ?_))
 rintro ⟨i, w, p, g, k, I, H⟩ ⟨hw, hg, ⟨hT, hsb⟩, hY⟩
 dsimp only at hw hg hT hsb hY ⊢
 have hwl := hw.wl
 have hwi := hw.le
 rcases Nat.lt_or_ge i s.length with hp | hp
 ·
  have hd := Ke.decode_width s hp
  have hdl := Ke.decode_le s i
  refine Cj.sr (J.op rfl (op_next 0 rfl rfl rfl rfl rfl (by rw [size_mk]; omega) LSet.z ?_))
  refine J.z q25 ?_
  refine J.nss (Cj.cond rfl (fun hc9 => ?_) (fun hc9 => Bool.noConfusion (Eq.trans (Eq.symm rfl) hc9)))
  refine Cj.ks (Cj.block (Cj.sr (J.z q25 ?_)))
  refine J.z q1 ?_
  refine J.nssr (J.z q0 ?_)
  refine J.z q0 ?_
  refine J.op rfl (op_pure rfl rfl rfl rfl rfl (fold_ok _ tb hdl _ hT) ?_)
  refine J.z q1 ?_
  refine J.nsss (Cj.region (J.z q0 ?_))
  refine J.z (yl_neqStr rfl rfl rfl) ?_
  refine J.cd (fun hc10 => ?_) (fun hc10 => ?_)
  ·
   have hc10p := bne_iff_ne.1 hc10
   have hc : Ke.char (Utf8.decode ⟨s.toArray⟩ i).1 ≠ [32] := bne_iff_ne.1 hc10
   refine Cj.sr (J.z q0 ?_)
   refine J.perm (H' := BldH _ _ _ _ ++ (_ :: _)) List.perm_middle ?_
   refine J.op rfl (op_call (H1 := BldH _ _ _ _) (R := _ :: _) rfl rfl rfl rfl rfl (WriteString_ok _ w (Ke.char (Utf8.decode ⟨s.toArray⟩ i).1) p g hg (by omega) (by have := Ke.char_len (Utf8.decode ⟨s.toArray⟩ i).1; omega) _) ?_ (fun _ _ _ _ h => by cases h.1) (fun _ _ h => by cases h.1))
   intro v11 I12 H13 hle14 hp15
   have hsb := hle14 _ _ hsb
   have hT := hT.mono hle14
   obtain ⟨h, g2, hg2, rfl⟩ := hp15; cases h
   have hY := hmono _ _ _ _ hle14 hY
   refine J.perm (H' := _ :: (_ ++ _)) List.perm_middle.symm ?_
   refine J.ns (Cj.exit (Ej.seqExit (Ej.blkExit (Ej.round ⟨i + (Utf8.decode ⟨s.toArray⟩ i).2, w ++ Ke.char (Utf8.decode ⟨s.toArray⟩ i).1, true, g2, k, _, H⟩ ⟨hw.in hp hc, hg2, ⟨hT, hsb⟩, hY⟩ (by dsimp only; omega) ⟨rfl, rfl, rfl, rfl, trivial⟩ rfl rfl))))
  have hc10p := bne_f hc10
  have hc : Ke.char (Utf8.decode ⟨s.toArray⟩ i).1 = [32] := by have h := hc10; simpa using h
  refine Cj.ks (Cj.seq (Cj.sr (J.perm (H' := BldH _ _ _ _ ++ (_ :: _)) List.perm_middle ?_)))
  refine J.op rfl (op_call (H1 := BldH _ _ _ _) (R := _ :: _) rfl rfl rfl rfl rfl (Len_bld _ w p g hg _) ?_ (fun _ _ _ _ h => by cases h.1) (fun _ _ h => by cases h.1))
  intro v16 I17 H18 hle19 hp20
  have hsb := hle19 _ _ hsb
  have hT := hT.mono hle19
  obtain ⟨h, rfl⟩ := hp20; cases h
  have hY := hmono _ _ _ _ hle19 hY
  refine J.perm (H' := _ :: (_ ++ _)) List.perm_middle.symm ?_
  refine J.z (yl_gtr rfl rfl rfl) ?_
  refine J.z q0 ?_
  refine q16 23 (fun hg21 => ?_) (fun hg21 => ?_)
  ·
   have hwn : w ≠ [] := fun h => by have := odt hg21; rw [h] at this; simp at this
   refine q5 2 23 true hg21 (q2 q0 ?_)
   refine J.perm (H' := BldH _ _ _ _ ++ (_ :: _)) List.perm_middle ?_
   refine J.opG 2 23 true _ rfl rfl rfl hg21 (op_call (H1 := BldH _ _ _ _) (R := _ :: _) rfl rfl rfl rfl rfl (String_ok _ w p g hg (fun h => absurd h hwn) (by omega) _) ?_ (fun _ _ _ _ h => by cases h.1) (fun _ _ h => by cases h.1))
   intro v22 I23 H24 hle25 hp26
   have hsb := hle25 _ _ hsb
   have hT := hT.mono hle25
   obtain ⟨h, y0, z0, rfl⟩ := hp26; cases h
   have hY := hmono _ _ _ _ hle25 hY
   refine J.perm (H' := _ :: (_ ++ _)) List.perm_middle.symm ?_
   refine J.yieldG [_, _] 2 23 true _ rfl rfl rfl hg21 rfl rfl rfl rfl rfl (hYS k [str w] (by rw [List.getElem?_map, (hw.out hp hc hwn).1]; rfl) _ H hY) ?_ (fun _ _ _ h => by rcases h with ⟨h, _⟩ | ⟨h, _⟩ <;> cases h) (fun _ _ h => by rcases h with ⟨h, _⟩ | ⟨h, _⟩ <;> cases h)
   intro v3 I3 H3 hle3 hp3
   have hsb := hle3 _ _ hsb
   have hT := hT.mono hle3
   obtain ⟨t3, h3, hYZ⟩ : ∃ t : Bool, v3 = .bool t ∧ ((t = true ∧ Y (k + 1) I3 H3) ∨ (t = false ∧ Z I3 H3)) := by
     rcases hp3 with ⟨h, h2⟩ | ⟨h, h2⟩
     · cases h; exact ⟨true, rfl, .inl ⟨rfl, h2⟩⟩
     cases h; exact ⟨false, rfl, .inr ⟨rfl, h2⟩⟩
   subst h3
   refine q5 2 23 true hg21 (q2 q50 ?_)
   refine J.z (q11 hg21) ?_
   refine J.cd (fun hc27 => ?_) (fun hc27 => ?_)
   ·
    have hZ3 : Z I3 H3 := by
      rcases hYZ with ⟨rfl, _⟩ | ⟨_, h⟩
      · exact Bool.noConfusion hc27
      exact h
    refine Cj.rs (Ej.blkRet (Ej.loopRet (Ej.blkRet (Ej.seqRet (Ej.keep (H' := H3) (List.Sublist.cons _ (List.Sublist.cons _ (List.Sublist.refl _))) ?_)))))
    exact Ej.ret0 rfl rfl ⟨rfl, .inr hZ3⟩
   have hY3 : Y (k + 1) I3 H3 := by
     rcases hYZ with ⟨_, h⟩ | ⟨rfl, _⟩
     · exact h
     exact Bool.noConfusion hc27
   refine Cj.ks (Cj.region (J.perm (H' := [_] ++ (_ :: _)) List.perm_middle ?_))
   refine J.op rfl (op_call (H1 := [_]) (R := _ :: _) rfl rfl rfl rfl rfl (Reset_bld _ _ _ _ _) ?_ (fun _ _ _ _ h => by cases h.1) (fun _ _ h => by cases h.1))
   intro v28 I29 H30 hle31 hp32
   have hsb := hle31 _ _ hsb
   have hT := hT.mono hle31
   obtain ⟨h, rfl⟩ := hp32; cases h
   have hY3 := hmono _ _ _ _ hle31 hY3
   refine J.perm (H' := _ :: (_ ++ _)) List.perm_middle.symm ?_
   refine J.nil (Ej.blkNormal (Ej.round ⟨i + (Utf8.decode ⟨s.toArray⟩ i).2, [], false, none, k + 1, _, H3⟩ ⟨(hw.out hp hc hwn).2, ⟨rfl, rfl⟩, ⟨hT, hsb⟩, hY3⟩ (by dsimp only; omega) ⟨rfl, rfl, rfl, rfl, trivial⟩ rfl rfl))
  obtain rfl : w = [] := List.length_eq_zero_iff.1 (by have := odf hg21; omega)
  refine q3 2 23 24 true hg21 ?_
  refine q3 2 23 25 true hg21 ?_
  refine q3 2 23 26 true hg21 ?_
  refine q3 2 23 27 true hg21 ?_
  refine J.z (q10 hg21) ?_
  refine J.c0 (fun hc33 => ?_)
  refine Cj.ks (Cj.region (J.perm (H' := BldH _ _ _ _ ++ (_ :: _)) List.perm_middle ?_))
  refine J.op rfl (op_call (H1 := BldH _ _ _ _) (R := _ :: _) rfl rfl rfl rfl rfl (Reset_bld _ _ _ _ _) ?_ (fun _ _ _ _ h => by cases h.1) (fun _ _ h => by cases h.1))
  intro v34 I35 H36 hle37 hp38
  have hsb := hle37 _ _ hsb
  have hT := hT.mono hle37
  obtain ⟨h, rfl⟩ := hp38; cases h
  have hY := hmono _ _ _ _ hle37 hY
  refine J.perm (H' := _ :: (_ ++ _)) List.perm_middle.symm ?_
  refine J.nil (Ej.blkNormal (Ej.round ⟨i + (Utf8.decode ⟨s.toArray⟩ i).2, [], false, none, k, _, H⟩ ⟨hw.out0 hp hc, ⟨rfl, rfl⟩, ⟨hT, hsb⟩, hY⟩ (by dsimp only; omega) ⟨rfl, rfl, rfl, rfl, trivial⟩ rfl rfl))
  
 refine Cj.sr (J.op rfl (op_nextEnd 0 rfl rfl rfl rfl rfl (by rw [size_mk]; omega) ?_))
 refine J.z q25 ?_
 refine J.nss (Cj.cond rfl (fun hc39 => Bool.noConfusion (Eq.trans (Eq.symm rfl) hc39)) (fun hc39 => ?_))
 refine Cj.xl (Cj.sr (J.perm (H' := BldH _ _ _ _ ++ (_ :: _)) List.perm_middle ?_))
 refine J.op rfl (op_call (H1 := BldH _ _ _ _) (R := _ :: _) rfl rfl rfl rfl rfl (Len_bld _ w p g hg _) ?_ (fun _ _ _ _ h => by cases h.1) (fun _ _ h => by cases h.1))
 intro v40 I41 H42 hle43 hp44
 obtain ⟨h, rfl⟩ := hp44; cases h
 have hY := hmono _ _ _ _ hle43 hY
 refine J.perm (H' := _ :: (_ ++ _)) List.perm_middle.symm ?_
 refine J.z (yl_gtr rfl rfl rfl) ?_
 refine J.cd (fun hc45 => ?_) (fun hc45 => ?_)
 ·
  have hc45p := odt hc45
  have hwn : w ≠ [] := fun h => by have := odt hc45; rw [h] at this; simp at this
  refine Cj.region (J.z q0 ?_)
  refine J.perm (H' := BldH _ _ _ _ ++ (_ :: _)) List.perm_middle ?_
  refine J.op rfl (op_call (H1 := BldH _ _ _ _) (R := _ :: _) rfl rfl rfl rfl rfl (String_ok _ w p g hg (fun h => absurd h hwn) (by omega) _) ?_ (fun _ _ _ _ h => by cases h.1) (fun _ _ h => by cases h.1))
  intro v46 I47 H48 hle49 hp50
  obtain ⟨h, y0, z0, rfl⟩ := hp50; cases h
  have hY := hmono _ _ _ _ hle49 hY
  refine J.perm (H' := _ :: (_ ++ _)) List.perm_middle.symm ?_
  refine J.yield [_, _] rfl rfl rfl rfl rfl rfl (hYS k [str w] (by rw [List.getElem?_map, (hw.last (by omega) hwn).1]; rfl) _ H hY) ?_ (fun _ _ _ h => by rcases h with ⟨h, _⟩ | ⟨h, _⟩ <;> cases h) (fun _ _ h => by rcases h with ⟨h, _⟩ | ⟨h, _⟩ <;> cases h)
  intro v3 I3 H3 hle3 hp3
  refine J.nil (Ej.keep (H' := H3) (List.Sublist.cons _ (List.Sublist.cons _ (List.Sublist.refl _))) ?_)
  refine q39 ⟨rfl, ?_⟩
  rcases hp3 with ⟨_, h2⟩ | ⟨_, h2⟩
  · refine .inl ?_
    rw [List.length_map, ← (hw.last (by omega) hwn).2]; exact h2
  exact .inr h2
 have hc45p := odf hc45
 obtain rfl : w = [] := List.length_eq_zero_iff.1 (by have := odf hc45; omega)
 refine Cj.skip (Ej.keep (H' := H) (List.Sublist.cons _ (List.sublist_append_right _ _)) ?_)
 refine q39 ⟨rfl, .inl ?_⟩
 rw [List.length_map, ← hw.end0 (by omega)]; exact hY
end Go.Proofs.YtjcdfnbomkoheaaGreatDoor
end
section
namespace Go.Proofs.YtjcdfnbomkoheaaGreatDoor
open _root_.Go.Proofs.Tryz
open Go Go.Sx
theorem Join_ok (l : List (List UInt8)) (v : Value) (hl : l.length ≤ 1000000000000) (hj : (Ke.join l).length ≤ 1000000000000) (I : Heap) (hv : StrS 9 I l v) : Pure Tryz.prog 128 [v, str [32]] I (str (Ke.join l)) := by
  rcases hv with ⟨rfl, rfl⟩ | ⟨b, c, sp, rfl, hc, hb⟩
  · exact Pure.of_same (Enters.of func128 (by decide) rfl) fun w _ => (Tryz.strings_Join_none none 0 ⟨#[32]⟩ w).mono fun e w' ⟨h1, h2⟩ => ⟨by rw [h1]; rfl, h2⟩
  refine Pure.of_below (Enters.of func128 (by decide) rfl) fun w hw => ?_
  have hbw := hw.1 _ _ hb
  have hblt : b < w.heap.size := by
    rcases Nat.lt_or_ge b w.heap.size with h' | h'
    · exact h'
    simp [Array.getElem?_eq_none h'] at hbw
  have hmap : (l.map fun x => (⟨x.toArray⟩ : ByteArray)).map (fun x => x.data.toList) = l := by
    rw [List.map_map]; exact (List.map_congr_left fun x _ => by simp).trans (List.map_id l)
  have hjoin : Lib.join l [32] = Ke.join l := Ke.join_lib l
  have h := Tryz.strings_Join b 0 c (l.map fun x => ⟨x.toArray⟩) ⟨#[32]⟩ w (fun j x hx => by
    rw [List.getElem?_map] at hx
    cases hj : l[j]? with
    | none => rw [hj] at hx; cases hx
    | some y =>
      rw [hj] at hx; cases hx
      rw [Nat.zero_add]
      exact cell_of_heap hbw (str_get hj)) hblt (by simp; omega) (by simpa using hc) (by rw [hmap, show (⟨#[32]⟩ : ByteArray).data.toList = [32] from rfl, hjoin]; omega)
  rw [hmap, show (⟨#[32]⟩ : ByteArray).data.toList = [32] from rfl, hjoin, List.length_map] at h
  exact h
theorem words_ok (s : List UInt8) (I : Heap) : Ctr Tryz.prog 81 [str s] I [] (fun e _I' H' => ∃ b, e = .returned (.func (.func 106) #[] #[ptr b 0]) ∧ H' = [(b, cel 9 [str s])]) := by
 refine Ctr.ob func81 ?_
 intro w0 hw0
 refine Cj.sr (J.op rfl (q28 ?_))
 intro b1 hb1
 refine J.z q1 ?_
 refine J.nssr (J.z (yl_makeFunc rfl rfl rfl) ?_)
 refine J.z q1 ?_
 refine J.ns (Cj.ret (q6 ?_))
 exact ⟨b1, rfl, rfl⟩
theorem take_next {l : List (List UInt8)} {k : Nat} {x : List UInt8} (h : l[k]? = some x) : (l.take (k + 1)).map str = (l.take k).map str ++ [str x] := by
  obtain ⟨hlt, hg⟩ := List.getElem?_eq_some_iff.1 h
  rw [List.take_succ_eq_append_getElem hlt, hg, List.map_append]; rfl
theorem AppendSeq_ok (ws : List (List UInt8)) (f : Nat) (fst cap : List Value) (I : Heap) (hl : ws.length ≤ 1000000000000) (hgen : Gen Tryz.prog f fst cap I (ws.map fun w => [str w])) : Ctr Tryz.prog 105 [.slice none 0 0, .func (.func f) fst.toArray cap.toArray] I []
    (fun e _I' H' => ∃ g, gOk 0 1 ws.length (ws.map str) g ∧ e = .returned (gV ws.length g) ∧ H' = gH 9 (ws.map str) g) := by
 refine Ctr.of_bodyM func105 rfl (by decide) (Nat.le_of_ble_eq_true rfl) ?_
 intro w0 hw0
 refine Cj.sr (J.op rfl (q28 ?_))
 intro b1 hb1
 refine J.z q1 ?_
 refine J.nsss (Cj.region (J.z q0 ?_))
 refine J.ns (Cj.block (Cj.rangeFunc (ps := [7]) (H1 := [_]) (R := []) (ws.map fun w => [str w]) (fun k I' H' => k ≤ ws.length ∧ ∃ g, gOk 0 1 k ((ws.take k).map str) g ∧ H' = (b1, cel 28 [gV k g]) :: gH 9 ((ws.take k).map str) g) (fun _ _ _ => False) rfl (one_blt rfl) (seq1 _ _) rfl hgen (fun _ _ _ _ _ h => h) ⟨Nat.zero_le _, none, ⟨rfl, rfl⟩, rfl⟩ ?_ ?_ ?_))
 ·
  intro l r k args I1 Hk w1 hk hle hY
  obtain ⟨x, hx, rfl⟩ := seq1_at hk
  obtain ⟨hkl, g, hg, rfl⟩ := hY
  have hlt := (List.getElem?_eq_some_iff.1 hx).1
  refine Cj.region (J.z q1 ?_)
  refine J.nil (Ej.asg ?_)
  refine Cj.block (Cj.region (J.z (q9 tA28 (Blk.at 1 rfl)) ?_))
  refine J.z q0 ?_
  refine J.op rfl (q24 tU28 tS9 tZ9 ?_)
  intro b2 hb2
  refine J.op rfl (op_appendB 0 (Nat.zero_le _) (by' := 15) [_, _, _] rfl rfl rfl rfl rfl tU28 (.inr ⟨_, tU28⟩) (by kernel_rfl) tS9 tZ9 rfl hg rfl (Src.slice (Blk.at 0 rfl) rfl rfl rfl) (by omega) ?_)
  intro g3 hg3
  refine J.op rfl (op_store 2 rfl rfl rfl rfl (gV_cells _ _) (gV_one _ _) tS28 rfl rfl (LSpl.c LSpl.z) (LSet.s (LSet.s LSet.z)) ?_)
  refine J.nil (Ej.blkNormal (Ej.pull (Pull.s Pull.z) ?_))
  refine Ej.keep (Keeps.k (Keeps.d (Keeps.k Keeps.r))) ?_
  exact Ej.rdNormal ⟨hlt, _, by rw [take_next hx]; exact hg3, by rw [take_next hx]; rfl⟩
 ·
  intro mb4 I2 H2 hle hY
  rw [List.length_map] at hY
  obtain ⟨hkl, g, hg, rfl⟩ := hY
  rw [List.take_length] at hg
  rw [List.take_length]
  refine Ej.blkNormal (Ej.seq (Cj.sr (J.z (q9 tA28 (Blk.at 1 rfl)) ?_)))
  refine J.z q1 ?_
  refine J.ns (Cj.ret (Ej.leaveM (.inl rfl) ?_))
  refine LvJ.mark 0 rfl LSet.z ?_
  refine LvJ.keep (Keeps.d (Keeps.d Keeps.r)) ?_
  exact LvJ.ret1 rfl rfl ⟨g, hg, rfl, List.append_nil _⟩
 exact fun _ _ _ _ _ hZ => hZ.elim
theorem Collect_ok (ws : List (List UInt8)) (f : Nat) (fst cap : List Value) (I : Heap) (hl : ws.length ≤ 1000000000000) (hgen : Gen Tryz.prog f fst cap I (ws.map fun w => [str w])) : Ctr Tryz.prog 80 [.func (.func f) fst.toArray cap.toArray] I []
    (fun e _I' H' => ∃ g, gOk 0 1 ws.length (ws.map str) g ∧ e = .returned (gV ws.length g) ∧ H' = gH 9 (ws.map str) g) := by
 refine Ctr.ob func80 ?_
 intro w0 hw0
 refine Cj.sr (J.z q1 ?_)
 refine J.nssr (J.z q0 ?_)
 refine J.op rfl (op_call (H1 := []) rfl rfl rfl rfl rfl (AppendSeq_ok ws f fst cap _ hl hgen) ?_ (fun _ _ _ _ ⟨_, _, h, _⟩ => nomatch h) (fun _ _ ⟨_, _, h, _⟩ => nomatch h))
 intro v1 I2 H3 hle4 hp5
 obtain ⟨g, hg, h, rfl⟩ := hp5; cases h
 refine J.z q1 ?_
 refine J.ns (Cj.ret (q6 ?_))
 exact ⟨g, hg, rfl, List.append_nil _⟩
theorem Words_ok (s : List UInt8) (hs : s.length ≤ 1000000000) (I : Heap) : Ctr Tryz.prog 45 [str s] I [] (fun e I' H' => ∃ v, e = .returned v ∧ StrS 9 I' (Ke.words s) v ∧ H' = []) := by
 have hwl := Ke.words_len s
 refine Ctr.ob func45 ?_
 intro w0 hw0
 refine Cj.sr (J.z q1 ?_)
 refine J.nssr (J.z q0 ?_)
 refine J.op rfl (q44 rfl rfl rfl rfl rfl (words_ok s _) ?_)
 intro v2 I3 H4 hle5 hn1 hp6
 obtain ⟨sb, h, rfl⟩ := hp6; cases h
 refine J.persist (hn1 _ (.head _)) (fun I9 hle9 hsb => ?_)
 refine J.op rfl (q57 rfl rfl rfl rfl rfl (Collect_ok (Ke.words s) _ [] [ptr sb 0] _ (by omega) (words1_ok sb s hs _ hsb)) ?_)
 intro v8 I9 H10 hle11 hn7 hp12
 obtain ⟨g, hg, h, rfl⟩ := hp12; cases h
 refine J.keepS (hg.base hn7) (fun I8 hle8 hv => ?_)
 refine J.z q1 ?_
 refine J.ns (Cj.ret (q6 ?_))
 exact ⟨_, rfl, hv, rfl⟩
theorem ascii_of_all {l : List UInt8} (h : l.all (fun b => decide (b.toNat < 128)) = true) : ∀ (j : Nat) b, (⟨l.toArray⟩ : ByteArray).data.toList[j]? = some b → b.toNat < 128 := fun j b hb => by
  rw [ba_list] at hb
  exact odt (List.all_eq_true.1 h b (lmg hb))
theorem Trim_ok (s : List UInt8) (hs : s.length ≤ 1000000000000) (I : Heap) : Pure Tryz.prog 165 [str s, str Ke.tens] I (str (Lib.trimS s Ke.tens)) :=
  Pure.of_below (Enters.of func165 (by decide) rfl) fun w _ => by
    have h := Any.strings_Trim_laid Tryz.lays160 (by kernel_rfl) ⟨s.toArray⟩ ⟨Ke.tens.toArray⟩ w (by rw [size_mk]; omega) (by decide) (ascii_of_all (by decide))
    rw [ba_list, ba_list] at h
    exact h
theorem TrimLeft0_ok (s : List UInt8) (I : Heap) : Pure Tryz.prog 127 [str s, str [48]] I (str (s.dropWhile (· == 48))) :=
  Pure.of_same (Enters.of func127 (by decide) rfl) fun w _ => by
    have h := Tryz.strings_TrimLeft_one ⟨s.toArray⟩ 48 (by decide) w
    rw [ba_list] at h
    exact h
theorem perm_back2 {a b : Nat × Obj} {G : HL} : (G ++ [a, b]).Perm (a :: (b :: G ++ [])) := by
  rw [List.append_nil]; exact List.perm_append_comm
theorem conv8 {n : Nat} (h : n < 256) : IntKind.u8.wrap (n : Int) = ((UInt8.ofNat n).toNat : Int) := by
  rw [show (UInt8.ofNat n).toNat = n by simp; omega]
  simp [IntKind.wrap, IntKind.bits, IntKind.signed]; omega
theorem take_nextM {f : List UInt8 → List UInt8} {l : List (List UInt8)} {k : Nat} {x : List UInt8} (h : l[k]? = some x) : ((l.take (k + 1)).map f).map str = ((l.take k).map f).map str ++ [str (f x)] := by
  obtain ⟨hlt, hg⟩ := List.getElem?_eq_some_iff.1 h
  rw [List.take_succ_eq_append_getElem hlt, hg, List.map_append, List.map_append]; rfl
theorem isDigits_ok (s : List UInt8) (hs : s.length ≤ 1000000000000) (I : Heap) : Pure Tryz.prog 126 [str s] I (.bool (Ke.digits s)) := by
 refine Ctr.ob func126 ?_
 intro w0 hw0
 refine Cj.sr (J.z q1 ?_)
 refine J.nssr (J.z q0 ?_)
 refine J.op rfl (op_pure rfl rfl rfl rfl rfl (Trim_ok s hs _) ?_)
 refine J.z q31 ?_
 refine J.z q1 ?_
 refine J.ns (Cj.ret (q6 ?_))
 exact ⟨congrArg (fun b => Ending.returned (.bool b)) (Ke.trim_digits s), rfl, rfl⟩
theorem Sort_ok (s : List UInt8) (skip : Int) (hs : s.length ≤ 100000000) (I : Heap) : Pure Tryz.prog 87 [str s, i64 skip] I (str (Ke.sortKey s skip)) := by
 refine Ctr.toPure ?_
 have hcl : (Ke.cut s skip).length ≤ s.length := by unfold Ke.cut; simp
 have hwl := Ke.words_len (Ke.cut s skip)
 have hjl := Ke.sort_len (Ke.cut s skip)
 refine Ctr.of_bodyM func87 rfl (by decide) (Nat.le_of_ble_eq_true rfl) ?_
 intro w0 hw0
 refine Cj.sr (J.z q1 ?_)
 refine J.nssr (J.z q0 ?_)
 refine J.z q0 ?_
 refine J.z (yl_max2 rfl rfl rfl) ?_
 refine J.z q0 ?_
 refine J.z (q26 tU9) ?_
 refine J.z (yl_min2 rfl rfl rfl) ?_
 refine J.eqv 13 rfl (show _ = i64 (((min (max skip 0) (s.length : Int)).toNat : Nat) : Int) from (congrArg i64 (by omega))) ?_
 refine J.z (yl_sliceStr (p := (min (max skip 0) (s.length : Int)).toNat) (q := s.length) rfl rfl tU9 ⟨_, rfl⟩ rfl (by omega) (by omega)) ?_
 refine J.eqv 14 rfl (show _ = str (Ke.cut s skip) from (by rw [List.take_length]; rfl)) ?_
 refine J.z q1 ?_
 refine J.nssr (J.op rfl (q46 zeroValue28 ?_))
 intro b1 hb1
 refine J.nsss (Cj.region (J.z q0 ?_))
 refine J.op rfl (q44 rfl rfl rfl rfl rfl (words_ok (Ke.cut s skip) _) ?_)
 intro v3 I4 H5 hle6 hn2 hp7
 obtain ⟨sb, h, rfl⟩ := hp7; cases h
 refine J.persist (hn2 _ (.head _)) (fun I9 hle9 hsb => ?_)
 refine J.ns (Cj.block (Cj.rangeFunc (ps := [17]) (H1 := [_]) (R := []) ((Ke.words (Ke.cut s skip)).map fun w => [str w]) (fun k I' H' => k ≤ (Ke.words (Ke.cut s skip)).length ∧ ∃ g, gOk 0 1 k ((((Ke.words (Ke.cut s skip)).take k).map Ke.sortWord).map str) g ∧ H' = (b1, cel 28 [gV k g]) :: gH 9 ((((Ke.words (Ke.cut s skip)).take k).map Ke.sortWord).map str) g) (fun _ _ _ => False) rfl (one_blt rfl) (seq1 _ _) rfl (words1_ok sb _ (by omega) _ hsb) (fun _ _ _ _ _ h => h) ⟨Nat.zero_le _, none, ⟨rfl, rfl⟩, rfl⟩ ?_ ?_ ?_))
 ·
  intro l r k args I1 Hk w1 hk hle hY
  obtain ⟨x, hx, rfl⟩ := seq1_at hk
  obtain ⟨hkl, g, hg, rfl⟩ := hY
  have hlt := (List.getElem?_eq_some_iff.1 hx).1
  have hxm := lmg hx
  have hxl := Ke.words_each _ x hxm
  have hxn : 0 < x.length := List.length_pos_iff.2 (Ke.words_ne _ _ x hxm)
  have hsl := Ke.strip_len x
  refine Cj.region (J.z q1 ?_)
  refine J.nil (Ej.asg ?_)
  refine Cj.block (Cj.seq (Cj.sr (J.z q0 ?_)))
  refine J.op rfl (op_pure rfl rfl rfl rfl rfl (isDigits_ok x (by omega) _) ?_)
  refine J.cd (fun hc8 => ?_) (fun hc8 => ?_)
  ·
   have hdg : Ke.digits x = true := hc8
   have hsw : Ke.sortWord x = Ke.number x := by unfold Ke.sortWord; rw [hdg]; rfl
   refine Cj.seq (Cj.drawSel [] [] 13 (by kernel_rfl) ?_)
   refine JA.fix fx1 (fun fx9 => ?_)
   refine JA.tk 0 rfl fx9 q0 ?_
   refine JA.tk 1 rfl fx9 q0 ?_
   refine JA.tk 2 rfl fx9 (q26 tU9) ?_
   refine JA.tk 3 rfl fx9 q49 ?_
   refine JA.eqv 23 rfl (show _ = i64 ((x.length - 1 : Nat) : Int) from (congrArg i64 (by omega))) ?_
   refine JA.tk 4 rfl fx9 (q54 (p := 0) (q := x.length - 1) tU9) ?_
   refine JA.eqv 24 rfl (show _ = str (x.take (x.length - 1)) from (by rw [List.drop_zero])) ?_
   refine JA.tk 6 rfl fx9 q0 ?_
   refine JA.tk 7 rfl fx9 q0 ?_
   refine JA.tk 8 rfl fx9 (q26 tU9) ?_
   refine JA.tk 9 rfl fx9 q49 ?_
   refine JA.eqv 29 rfl (show _ = i64 ((x.length - 1 : Nat) : Int) from (congrArg i64 (by omega))) ?_
   refine JA.tk 10 rfl fx9 (yl_sliceStr (p := x.length - 1) (q := x.length) rfl rfl tU9 ⟨_, rfl⟩ rfl (by omega) (by omega)) ?_
   refine JA.eqv 30 rfl (show _ = str (x.drop (x.length - 1)) from (by rw [List.take_length])) ?_
   refine q13 5 rfl (op_pure rfl rfl rfl rfl rfl (TrimLeft0_ok (x.take (x.length - 1)) _) ?_)
   refine ⟨fx0, ?_⟩
   refine JA.fix fx1 (fun fx10 => ?_)
   refine JA.tk 11 rfl fx10 (yl_cat rfl rfl rfl (by rw [Ke.dropLast_take]; have := hsl; unfold Ke.strip at this; rw [List.length_append] at this; omega)) ?_
   refine JA.eqv 31 rfl (show _ = str (Ke.strip x) from (by rw [Ke.dropLast_take]; rfl)) ?_
   refine JA.tk 12 rfl fx10 q1 ?_
   refine q14 ?_
   refine Ej.seq (Cj.sr (J.z q0 ?_))
   refine J.z (q26 tU9) ?_
   refine J.z (yl_min2 rfl rfl rfl) ?_
   refine J.eqv 34 rfl (show _ = i64 ((min (Ke.strip x).length 99 : Nat) : Int) from (congrArg i64 (by split <;> omega))) ?_
   refine J.z q1 ?_
   refine J.nsr (J.z q0 ?_)
   refine J.z (yl_quo rfl rfl rfl (by decide) (w64 (by show _ ≤ ((min (Ke.strip x).length 99 / 10 : Nat) : Int) ∧ ((min (Ke.strip x).length 99 / 10 : Nat) : Int) ≤ _; omega))) ?_
   refine J.eqv 36 rfl (show _ = i64 ((min (Ke.strip x).length 99 / 10 : Nat) : Int) from rfl) ?_
   refine J.z q7 ?_
   refine J.eqv 37 rfl (show _ = i64 ((48 + min (Ke.strip x).length 99 / 10 : Nat) : Int) from (congrArg i64 (by omega))) ?_
   refine J.z (yl_convInt rfl rfl tU3 tU5) ?_
   refine J.eqv 38 rfl (show _ = u8 (UInt8.ofNat (48 + min (Ke.strip x).length 99 / 10)) from (congrArg (Value.int .u8) (conv8 (by omega)))) ?_
   refine J.z q0 ?_
   refine J.z q53 ?_
   refine J.eqv 40 rfl (show _ = i64 ((min (Ke.strip x).length 99 % 10 : Nat) : Int) from rfl) ?_
   refine J.z q7 ?_
   refine J.eqv 41 rfl (show _ = i64 ((48 + min (Ke.strip x).length 99 % 10 : Nat) : Int) from (congrArg i64 (by omega))) ?_
   refine J.z (yl_convInt rfl rfl tU3 tU5) ?_
   refine J.eqv 42 rfl (show _ = u8 (UInt8.ofNat (48 + min (Ke.strip x).length 99 % 10)) from (congrArg (Value.int .u8) (conv8 (by omega)))) ?_
   refine J.op rfl (op_buildSlice rfl rfl rfl tU71 tS5 tZ5 rfl rfl rfl rfl (LCat.one rfl (LCat.one rfl LCat.none)) ?_)
   intro b11 hb11
   refine J.z (yl_toStr [UInt8.ofNat (48 + min (Ke.strip x).length 99 / 10), UInt8.ofNat (48 + min (Ke.strip x).length 99 % 10)] rfl rfl rfl tU71 tU9 tU5 (Blk.at 0 rfl) rfl) ?_
   refine J.z q0 ?_
   refine J.z (yl_cat rfl rfl rfl (by first | omega | (simp only [List.length_append]; omega) | (simp; omega))) ?_
   refine J.eqv 46 rfl (show _ = str (Ke.number x) from rfl) ?_
   refine J.z q1 ?_
   refine J.nsr (J.z (q9 tA28 (Blk.at 2 rfl)) ?_)
   refine J.z q0 ?_
   refine J.op rfl (q24 tU28 tS9 tZ9 ?_)
   intro b12 hb12
   refine J.op rfl (op_appendB 0 (Nat.zero_le _) (by' := 15) [_, _, _, _] rfl rfl rfl rfl rfl tU28 (.inr ⟨_, tU28⟩) (by kernel_rfl) tS9 tZ9 rfl hg rfl (Src.slice (Blk.at 0 rfl) rfl rfl rfl) (by omega) ?_)
   intro g13 hg13
   refine J.op rfl (op_store 3 rfl rfl rfl rfl (gV_cells _ _) (gV_one _ _) tS28 rfl rfl (LSpl.c LSpl.z) (LSet.s (LSet.s (LSet.s LSet.z))) ?_)
   refine J.nil (Ej.blkNormal (Ej.pull (Pull.s (Pull.s Pull.z)) ?_))
   refine Ej.keep (Keeps.k (Keeps.d (Keeps.d (Keeps.k Keeps.r)))) ?_
   exact Ej.rdNormal ⟨hlt, _, by rw [take_nextM hx, hsw]; exact hg13, by rw [take_nextM hx, hsw]; rfl⟩
  have hdg : Ke.digits x = false := hc8
  have hsw : Ke.sortWord x = x := by unfold Ke.sortWord; rw [hdg]; rfl
  refine Cj.ks (Cj.region (J.z (q9 tA28 (Blk.at 1 rfl)) ?_))
  refine J.z q0 ?_
  refine J.op rfl (q24 tU28 tS9 tZ9 ?_)
  intro b14 hb14
  refine J.op rfl (op_appendB 0 (Nat.zero_le _) (by' := 15) [_, _, _] rfl rfl rfl rfl rfl tU28 (.inr ⟨_, tU28⟩) (by kernel_rfl) tS9 tZ9 rfl hg rfl (Src.slice (Blk.at 0 rfl) rfl rfl rfl) (by omega) ?_)
  intro g15 hg15
  refine J.op rfl (op_store 2 rfl rfl rfl rfl (gV_cells _ _) (gV_one _ _) tS28 rfl rfl (LSpl.c LSpl.z) (LSet.s (LSet.s LSet.z)) ?_)
  refine J.nil (Ej.blkNormal (Ej.pull (Pull.s Pull.z) ?_))
  refine Ej.keep (Keeps.k (Keeps.d (Keeps.k Keeps.r))) ?_
  exact Ej.rdNormal ⟨hlt, _, by rw [take_nextM hx, hsw]; exact hg15, by rw [take_nextM hx, hsw]; rfl⟩
 ·
  intro mb16 I2 H2 hle hY
  rw [List.length_map] at hY
  obtain ⟨hkl, g, hg, rfl⟩ := hY
  rw [List.take_length] at hg
  rw [show (Ke.words (Ke.cut s skip)).take (Ke.words (Ke.cut s skip)).length = Ke.words (Ke.cut s skip) from List.take_length]
  refine Ej.blkNormal (Ej.seq (Cj.seq (Cj.isNew rfl (fun hnew => ?_))))
  refine Cj.perm (H' := gH _ _ _ ++ [_, _]) perm_back2 ?_
  refine Cj.keepS (hg.base (fun p hp => hnew p (.tail _ (.tail _ (List.mem_append_left _ hp))))) (fun I8 hle8 hv => ?_)
  refine Cj.region (J.z (q9 tA28 (Blk.at 1 rfl)) ?_)
  refine J.op rfl (op_pure rfl rfl rfl rfl rfl (Join_ok ((Ke.words (Ke.cut s skip)).map Ke.sortWord) _ (by rw [List.length_map]; omega) (by omega) _ hv) ?_)
  refine J.z q1 ?_
  refine J.ns (Cj.ret (Ej.leaveM (.inl rfl) ?_))
  refine LvJ.mark 0 rfl LSet.z ?_
  refine LvJ.keep (List.nil_sublist _) ?_
  exact LvJ.ret1 rfl rfl ⟨rfl, rfl⟩
 exact fun _ _ _ _ _ hZ => hZ.elim
theorem validRune_is (r : Int) (h : Lib.validRune r = true) : Utf8.valid r = true := by
  unfold Lib.validRune at h; unfold Utf8.valid; simp at h ⊢; omega
theorem ValidRune_ok (r : Int) (I : Heap) : ∃ b, Pure Tryz.prog 185 [.int .i32 r] I (.bool b) ∧ (b = true → Utf8.valid r = true) :=
  ⟨_, Pure.of_same (Enters.of func185 (by decide) rfl) fun w _ => Tryz.utf8_ValidRune r w, validRune_is r⟩
theorem IndexByte_ok (l : List UInt8) (c : UInt8) (I : Heap) : Pure Tryz.prog 151 [str l, u8 c] I (i64 (Lib.indexByte l c)) :=
  Pure.of_same (Enters.of func151 (by decide) rfl) fun w _ => by
    have h := Tryz.strings_IndexByte ⟨l.toArray⟩ c.toNat w
    have e : ((c.toNat : Int)).toNat.toUInt8 = c := by simp
    rw [ba_list, e] at h
    exact h
theorem indexByte_none {l : List UInt8} {c : UInt8} (h : ∀ d ∈ l, d.toNat < 128) (hc : 128 ≤ c.toNat) : Lib.indexByte l c = -1 := by
  induction l with
  | nil => rfl
  | cons d l ih =>
    have hd := h d (.head _)
    have hn : (d == c) = false := by rw [beq_eq_false_iff_ne]; intro e; subst e; omega
    rw [Lib.indexByte, hn, ih fun x hx => h x (.tail _ hx)]; rfl
theorem enc_last {r : Int} (hv : Utf8.valid r = true) (h128 : 128 ≤ r) : 2 ≤ (Utf8.encode r).data.toList.length ∧ (Utf8.encode r).data.toList.length ≤ 4 ∧ ∃ c, (Utf8.encode r).data.toList[(Utf8.encode r).data.toList.length - 1]? = some c ∧ 128 ≤ c.toNat := by
  obtain ⟨h1, h2, h3⟩ := encode_facts r hv h128
  have hs : (Utf8.encode r).data.toList.length = (Utf8.encode r).size := rfl
  rw [hs]
  have hlt : (Utf8.encode r).size - 1 < (Utf8.encode r).size := by omega
  exact ⟨h1, h2, _, Lib.data_getElem? (Utf8.encode r) _ hlt, h3 hlt⟩
theorem dec_ascii {l : List UInt8} {i : Nat} {c : UInt8} (h : l[i]? = some c) (hc : c.toNat < 128) : Utf8.decode ⟨l.toArray⟩ i = (c.toNat, 1) := by
  obtain ⟨hlt, hg⟩ := List.getElem?_eq_some_iff.1 h
  have hs : i < (⟨l.toArray⟩ : ByteArray).size := by rw [size_mk]; exact hlt
  have he : (⟨l.toArray⟩ : ByteArray)[i]'hs = c := by simp [ByteArray.getElem_eq_getElem_data, hg]
  rw [decode_ascii _ _ hs (by rw [he]; exact hc), he]
theorem IndexRune_high (ch : List UInt8) (hch : ∀ c ∈ ch, c.toNat < 128) (h4 : 4 ≤ ch.length) (hlen : ch.length ≤ 1000000) (r : Int) (h128 : 128 ≤ r) (hr : r ≤ 2147483647) (I : Heap) : Pure Tryz.prog 158 [str ch, .int .i32 r] I (i64 (-1)) := by
 refine Ctr.toPure ?_
 obtain ⟨bv, hval⟩ := ValidRune_ok r I
 refine Ctr.ob func158 ?_
 intro w0 hw0
 refine Cj.sr (J.z q1 ?_)
 refine J.ns (Cj.block (Cj.sr (J.z q0 ?_)))
 refine J.z q38 ?_
 refine J.z q0 ?_
 refine J.opG 2 163 true _ rfl rfl rfl (decide_eq_true (by omega)) (q2 q0 ?_)
 refine J.opG 2 163 true _ rfl rfl rfl (decide_eq_true (by omega)) (q2 q17 ?_)
 refine J.z (yl_pick1 rfl rfl (decide_eq_true (by omega)) rfl) ?_
 refine J.z q1 ?_
 refine J.ns (Cj.cond rfl (fun hc1 => Bool.noConfusion (Eq.trans (Eq.symm (decide_eq_false (by omega))) hc1)) (fun hc1 => ?_))
 refine Cj.sr (J.z q0 ?_)
 refine J.z q23 ?_
 refine J.z q1 ?_
 refine J.cd (fun hc2 => ?_) (fun hc2 => ?_)
 ·
  have hc2p := ebq hc2
  refine Cj.seq (Cj.sr (J.z q0 ?_))
  refine J.op rfl (op_range rfl rfl rfl rfl tU9 ?_)
  intro b3 hb3
  refine J.ns (Cj.block (Cj.loop (ι := Nat) (fun i => True) (fun i => ch.length - i) (fun i => [(0, str ch), (1, .int .i32 r), (174, str ch), (175, ptr b3 0)]) (fun i => I) (fun i => [(b3, .stringIter ⟨ch.toArray⟩ i)]) 0 trivial ⟨rfl, rfl, rfl, rfl, trivial⟩ rfl rfl ?_))
  rintro i -
  rcases Nat.lt_or_ge i ch.length with hp | hp
  ·
   obtain ⟨c, hget⟩ : ∃ c, ch[i]? = some c := ⟨_, lgg hp⟩
   have hdec := dec_ascii hget (hch c (lmg hget))
   refine Cj.sr (J.op rfl (op_next 0 rfl rfl rfl rfl rfl (by rw [size_mk]; omega) LSet.z ?_))
   refine J.z q25 ?_
   refine J.nss (Cj.cond rfl (fun hc4 => ?_) (fun hc4 => Bool.noConfusion (Eq.trans (Eq.symm rfl) hc4)))
   refine Cj.ks (Cj.block (Cj.sr (J.z q25 ?_)))
   refine J.z q25 ?_
   refine J.z q1 ?_
   refine J.z q1 ?_
   refine J.nssr (J.z q0 ?_)
   refine J.z q23 ?_
   refine J.ns (Cj.cond rfl (fun hc5 => Bool.noConfusion (Eq.trans (Eq.symm (beq_eq_false_iff_ne.2 (by rw [hdec]; dsimp only; have := hch c (lmg hget); omega))) hc5)) (fun hc5 => ?_))
   refine Cj.skip (Ej.blkNormal (Ej.round (i + (Utf8.decode ⟨ch.toArray⟩ i).2) trivial (by rw [hdec]; dsimp only; omega) ⟨rfl, rfl, rfl, rfl, trivial⟩ rfl rfl))
   
  refine Cj.sr (J.op rfl (op_nextEnd 0 rfl rfl rfl rfl rfl (by rw [size_mk]; omega) ?_))
  refine J.z q25 ?_
  refine J.nss (Cj.cond rfl (fun hc6 => Bool.noConfusion (Eq.trans (Eq.symm rfl) hc6)) (fun hc6 => ?_))
  refine Cj.xl (Cj.sr (J.z q1 ?_))
  refine J.ns (Cj.ret (Ej.blkRet (Ej.bare ?_)))
  refine q6 ?_
  exact ⟨rfl, rfl⟩
 have hc2p := nbf hc2
 refine Cj.sr (J.z q0 ?_)
 refine J.op rfl (op_pure rfl rfl rfl rfl rfl (hval.1) ?_)
 refine J.z q50 ?_
 refine J.z q1 ?_
 refine J.cd (fun hc7 => ?_) (fun hc7 => ?_)
 ·
  refine Cj.sr (J.z q1 ?_)
  refine J.ns (Cj.ret (Ej.blkRet (q6 ?_)))
  exact ⟨rfl, rfl⟩
 have hvr : Utf8.valid r = true := hval.2 (by simpa using hc7)
 obtain ⟨hl2, hl4, c2, hget2, hc2⟩ := enc_last hvr h128
 obtain ⟨c1, hget1⟩ : ∃ c, ch[(Utf8.encode r).data.toList.length - 1]? = some c := ⟨_, lgg (by omega)⟩
 have hc1 := hch c1 (lmg hget1)
 have hne : (c1.toNat : Int) ≠ c2.toNat := by omega
 have hcut : ∀ d ∈ (ch.take ch.length).drop ((Utf8.encode r).data.toList.length - 1 + 1), d.toNat < 128 := fun d hd => hch d (List.mem_of_mem_take (List.mem_of_mem_drop hd))
 refine Cj.scope ?_
 refine Cj.sr (J.z q0 ?_)
 refine J.z (yl_runeStr rfl rfl tU21 tU9) ?_
 refine J.z q1 ?_
 refine J.nssr (J.z q0 ?_)
 refine J.z (q26 tU9) ?_
 refine J.z q49 ?_
 refine J.z q1 ?_
 refine J.nssr (J.z q0 ?_)
 refine J.z q1 ?_
 refine J.nssr (J.z q1 ?_)
 refine J.nss (Cj.block (Cj.loop (ι := Unit) (fun i => True) (fun i => 0) (fun i => [(0, str ch), (7, str (Utf8.encode r).data.toList), (8, i64 ((Utf8.encode r).data.toList.length - 1 : Int)), (9, i64 ((Utf8.encode r).data.toList.length - 1 : Int))]) (fun i => I) (fun i => []) () trivial ⟨rfl, rfl, rfl, rfl, trivial⟩ rfl rfl ?_))
 rintro _ -
 refine Cj.seq (Cj.sr (J.z q0 ?_))
 refine J.z q0 ?_
 refine J.z (q26 tU9) ?_
 refine J.z q17 ?_
 refine J.ns (Cj.cond rfl (fun hc8 => ?_) (fun hc8 => Bool.noConfusion (Eq.trans (Eq.symm (decide_eq_true (by omega))) hc8)))
 refine Cj.ks (Cj.block (Cj.scope ?_))
 refine Cj.seq (Cj.seq (Cj.drawSel [] [] 7 (by kernel_rfl) ?_))
 refine JA.fix fx1 (fun fx9 => ?_)
 refine JA.tk 0 rfl fx9 q0 ?_
 refine JA.tk 1 rfl fx9 q0 ?_
 refine JA.tk 2 rfl fx9 (yl_index rfl rfl rfl tU9 (by omega) (by rw [show ((((Utf8.encode r).data.toList.length : Int) - 1).toNat) = (Utf8.encode r).data.toList.length - 1 by omega]; exact hget1)) ?_
 refine JA.tk 3 rfl fx9 q0 ?_
 refine JA.tk 4 rfl fx9 q0 ?_
 refine JA.tk 5 rfl fx9 (yl_index rfl rfl rfl tU9 (by omega) (by rw [show ((((Utf8.encode r).data.toList.length : Int) - 1).toNat) = (Utf8.encode r).data.toList.length - 1 by omega]; exact hget2)) ?_
 refine JA.tk 6 rfl fx9 q47 ?_
 refine q14 ?_
 refine Ej.seq (Cj.cond rfl (fun hc10 => ?_) (fun hc10 => Bool.noConfusion (Eq.trans (Eq.symm (bne_iff_ne.2 hne)) hc10)))
 refine Cj.seq (Cj.drawSel [] [] 9 (by kernel_rfl) ?_)
 refine JA.fix fx1 (fun fx11 => ?_)
 refine JA.tk 0 rfl fx11 q0 ?_
 refine JA.tk 1 rfl fx11 q0 ?_
 refine JA.tk 2 rfl fx11 q7 ?_
 refine JA.eqv 36 rfl (show _ = i64 ((Utf8.encode r).data.toList.length - 1 + 1 : Nat) from (by congr 1; omega)) ?_
 refine JA.tk 3 rfl fx11 (yl_sliceStr (p := (Utf8.encode r).data.toList.length - 1 + 1) (q := ch.length) rfl rfl tU9 ⟨_, rfl⟩ rfl (by omega) (by omega)) ?_
 refine JA.tk 4 rfl fx11 q0 ?_
 refine JA.tk 5 rfl fx11 q0 ?_
 refine JA.tk 6 rfl fx11 (yl_index rfl rfl rfl tU9 (by omega) (by rw [show ((((Utf8.encode r).data.toList.length : Int) - 1).toNat) = (Utf8.encode r).data.toList.length - 1 by omega]; exact hget2)) ?_
 refine q13 7 rfl (op_pure rfl rfl rfl rfl rfl (IndexByte_ok _ _ _) ?_)
 refine ⟨fx0, ?_⟩
 refine JA.eqv 41 rfl (show _ = i64 (-1) from (by rw [indexByte_none hcut hc2])) ?_
 refine JA.fix fx1 (fun fx12 => ?_)
 refine JA.tk 8 rfl fx12 q1 ?_
 refine q14 ?_
 refine Ej.seq (Cj.seq (Cj.sr (J.z q0 ?_)))
 refine J.z q17 ?_
 refine J.ns (Cj.cond rfl (fun hc13 => ?_) (fun hc13 => Bool.noConfusion (Eq.trans (Eq.symm (decide_eq_true (by omega))) hc13)))
 refine Cj.sr (J.z q1 ?_)
 refine J.ns (Cj.rs (Ej.seqRet (Ej.scRet ?_)))
 refine Ej.blkRet (Ej.loopRet (Ej.blkRet (Ej.seqRet (Ej.scRet ?_))))
 refine Ej.blkRet (q6 ?_)
 exact ⟨rfl, rfl⟩
theorem ContainsRune_high (ch : List UInt8) (hch : ∀ c ∈ ch, c.toNat < 128) (h4 : 4 ≤ ch.length) (hlen : ch.length ≤ 1000000) (r : Int) (h128 : 128 ≤ r) (hr : r ≤ 2147483647) (I : Heap) : Pure Tryz.prog 120 [str ch, .int .i32 r] I (.bool false) := by
 refine Ctr.ob func120 ?_
 intro w0 hw0
 refine Cj.sr (J.z q1 ?_)
 refine J.nssr (J.z q0 ?_)
 refine J.z q0 ?_
 refine J.op rfl (op_pure rfl rfl rfl rfl rfl (IndexRune_high ch hch h4 hlen r h128 hr _) ?_)
 refine J.z q34 ?_
 refine J.z q1 ?_
 refine J.ns (Cj.ret (q6 ?_))
 exact ⟨rfl, rfl, rfl⟩
def bset : List UInt8 := [48, 49, 50, 51, 52, 53, 54, 55, 56, 57, 88, 120, 32, 45]
theorem bset_okb (c : UInt8) : decide (0 ≤ Lib.indexByte bset c) = Ke.okb c := by
  have h : ∀ n < 256, decide (0 ≤ Lib.indexByte bset (UInt8.ofNat n)) = Ke.okb (UInt8.ofNat n) := by decide +kernel
  have := h c.toNat c.toNat_lt
  rwa [UInt8.ofNat_toNat] at this
def okr (r : Nat) : Bool := decide (r < 128) && Ke.okb (UInt8.ofNat r)
theorem ContainsSet_ok (r : Nat) (hr : r ≤ 1114111) (I : Heap) : Pure Tryz.prog 120 [str bset, .int .i32 (r : Int)] I (.bool (okr r)) := by
  rcases Nat.lt_or_ge r 128 with h | h
  · refine Pure.of_same (Enters.of func120 (by decide) rfl) fun w _ => ?_
    have h1 := Tryz.strings_ContainsRune_ascii ⟨bset.toArray⟩ (r : Int) w (by omega) (by omega)
    have e : ((r : Int)).toNat.toUInt8 = UInt8.ofNat r := rfl
    rw [ba_list, e, bset_okb] at h1
    have e2 : okr r = Ke.okb (UInt8.ofNat r) := by simp [okr, h]
    rw [e2]; exact h1
  have e2 : okr r = false := by simp [okr]; omega
  rw [e2]
  exact ContainsRune_high bset (by decide) (by decide) (by decide) (r : Int) (by omega) (by omega) I
theorem Isbn1_ok (r : Nat) (hr : r ≤ 1114111) (I : Heap) : Pure Tryz.prog 119 [.int .i32 (r : Int)] I (.bool (!okr r)) := by
 refine Ctr.ob func119 ?_
 intro w0 hw0
 refine Cj.sr (J.z q1 ?_)
 refine J.nssr (J.z q0 ?_)
 refine J.op rfl (op_pure rfl rfl rfl rfl rfl (ContainsSet_ok r hr _) ?_)
 refine J.z q50 ?_
 refine J.z q1 ?_
 refine J.ns (Cj.ret (q6 ?_))
 exact ⟨rfl, rfl, rfl⟩
theorem dec_big {l : List UInt8} {i : Nat} {c : UInt8} (h : l[i]? = some c) (hc : 128 ≤ c.toNat) : 128 ≤ (Utf8.decode ⟨l.toArray⟩ i).1 := by
  have h1 : Lib.decodeL (l.drop i) = Utf8.decode ⟨l.toArray⟩ i := Lib.decodeL_drop ⟨l.toArray⟩ i
  rw [← h1, drop_cons h, Lib.decodeL_N]
  simp only [List.getD_cons_zero]
  unfold Lib.decodeN
  rw [if_neg (by omega)]
  split
  · split
    · assumption
    decide
  split
  · split
    · rename_i h2; exact nlt (by decide) h2.1
    decide
  split
  · split
    · rename_i h2; exact nlt (by decide) h2.1
    decide
  decide
theorem rune_ok {l : List UInt8} {i : Nat} {c : UInt8} (h : l[i]? = some c) (hok : okr (Utf8.decode ⟨l.toArray⟩ i).1 = true) : Ke.okb c = true ∧ (Utf8.decode ⟨l.toArray⟩ i).2 = 1 := by
  rcases Nat.lt_or_ge c.toNat 128 with hc | hc
  · rw [dec_ascii h hc] at hok ⊢
    simp only [okr, Bool.and_eq_true, UInt8.ofNat_toNat] at hok
    exact ⟨hok.2, rfl⟩
  have := dec_big h hc
  simp only [okr, Bool.and_eq_true, decide_eq_true_eq] at hok
  omega
theorem rune_bad {l : List UInt8} {i : Nat} {c : UInt8} (h : l[i]? = some c) (hok : okr (Utf8.decode ⟨l.toArray⟩ i).1 = false) : Ke.okb c = false := by
  rcases Nat.lt_or_ge c.toNat 128 with hc | hc
  · rw [dec_ascii h hc] at hok
    simpa [okr, hc] using hok
  have h1 : ∀ n < 256, 128 ≤ n → Ke.okb (UInt8.ofNat n) = false := by decide +kernel
  have := h1 c.toNat c.toNat_lt hc
  rwa [UInt8.ofNat_toNat] at this
theorem all_next {l : List UInt8} {i : Nat} {c : UInt8} (h : (l.take i).all Ke.okb = true) (hc : l[i]? = some c) (hok : Ke.okb c = true) : (l.take (i + 1)).all Ke.okb = true := by
  obtain ⟨hlt, hg⟩ := List.getElem?_eq_some_iff.1 hc
  rw [List.take_succ_eq_append_getElem hlt, hg, List.all_append, h]
  simp [hok]
theorem take_while {l : List UInt8} : ∀ {i : Nat} {c : UInt8}, (l.take i).all Ke.okb = true → l[i]? = some c → Ke.okb c = false → l.takeWhile Ke.okb = l.take i := by
  induction l with
  | nil => intro i c _ h; simp at h
  | cons a r ih =>
    intro i c h hc hok
    cases i with
    | zero => simp at hc; subst hc; rw [List.takeWhile_cons_of_neg (by simp [hok])]; rfl
    | succ i =>
      simp only [List.take_succ_cons, List.all_cons, Bool.and_eq_true] at h
      rw [List.takeWhile_cons_of_pos h.1, ih h.2 (by simpa using hc) hok, List.take_succ_cons]
theorem take_while_all {l : List UInt8} (h : l.all Ke.okb = true) : l.takeWhile Ke.okb = l := by
  induction l with
  | nil => rfl
  | cons a r ih =>
    rw [List.all_cons, Bool.and_eq_true] at h
    rw [List.takeWhile_cons_of_pos h.1, ih h.2]
def endsAt (s : List UInt8) (n : Int) : Prop := (n = -1 ∧ s.takeWhile Ke.okb = s) ∨ ∃ k : Nat, n = k ∧ k ≤ s.length ∧ s.takeWhile Ke.okb = s.take k
theorem indexFunc_ok (s : List UInt8) (I : Heap) : Ctr Tryz.prog 157 [str s, .func (.func 119) #[] #[], .bool true] I [] (fun e _I' H' => ∃ n, e = .returned (i64 n) ∧ endsAt s n ∧ H' = []) := by
 refine Ctr.ob func157 ?_
 intro w0 hw0
 refine Cj.sr (J.z q1 ?_)
 refine J.nsss (Cj.region (J.z q0 ?_))
 refine J.op rfl (op_range rfl rfl rfl rfl tU9 ?_)
 intro b1 hb1
 refine J.ns (Cj.block (Cj.loop (ι := Nat) (fun i => i ≤ s.length ∧ (s.take i).all Ke.okb = true) (fun i => s.length - i) (fun i => [(1, .func (.func 119) #[] #[]), (2, .bool true), (10, ptr b1 0)]) (fun i => I) (fun i => [(b1, .stringIter ⟨s.toArray⟩ i)]) 0 ⟨Nat.zero_le _, rfl⟩ ⟨rfl, rfl, rfl, trivial⟩ rfl rfl ?_))
 rintro i ⟨hi, hall⟩
 rcases Nat.lt_or_ge i s.length with hp | hp
 ·
  have hd := Ke.decode_width s hp
  have hdl := Ke.decode_le s i
  obtain ⟨c, hget⟩ : ∃ c, s[i]? = some c := ⟨_, lgg hp⟩
  refine Cj.sr (J.op rfl (op_next 0 rfl rfl rfl rfl rfl (by rw [size_mk]; omega) LSet.z ?_))
  refine J.z q25 ?_
  refine J.nss (Cj.cond rfl (fun hc2 => ?_) (fun hc2 => Bool.noConfusion (Eq.trans (Eq.symm rfl) hc2)))
  refine Cj.ks (Cj.block (Cj.sr (J.z q25 ?_)))
  refine J.z q25 ?_
  refine J.z q1 ?_
  refine J.z q1 ?_
  refine J.nssr (J.z q0 ?_)
  refine J.z q0 ?_
  refine J.op rfl (op_pure rfl rfl rfl rfl rfl (Isbn1_ok _ hdl _) ?_)
  refine J.z q0 ?_
  refine J.z (yl_eqlBool rfl rfl rfl tU4) ?_
  refine J.cd (fun hc3 => ?_) (fun hc3 => ?_)
  ·
   have hok : okr (Utf8.decode ⟨s.toArray⟩ i).1 = false := by have h := hc3; simpa using h
   refine Cj.sr (J.z q0 ?_)
   refine J.z q1 ?_
   refine J.ns (Cj.ret (Ej.blkRet (Ej.loopRet (Ej.blkRet (Ej.seqRet (Ej.bare ?_))))))
   refine q6 ?_
   exact ⟨_, rfl, .inr ⟨i, rfl, hi, take_while hall hget (rune_bad hget hok)⟩, rfl⟩
  have hok : okr (Utf8.decode ⟨s.toArray⟩ i).1 = true := by have h := hc3; simpa using h
  refine Cj.skip (Ej.blkNormal (Ej.round (i + (Utf8.decode ⟨s.toArray⟩ i).2) ⟨hd.2, by rw [(rune_ok hget hok).2]; exact all_next hall hget (rune_ok hget hok).1⟩ (by omega) ⟨rfl, rfl, rfl, trivial⟩ rfl rfl))
  
 refine Cj.sr (J.op rfl (op_nextEnd 0 rfl rfl rfl rfl rfl (by rw [size_mk]; omega) ?_))
 refine J.z q25 ?_
 refine J.nss (Cj.cond rfl (fun hc4 => Bool.noConfusion (Eq.trans (Eq.symm rfl) hc4)) (fun hc4 => ?_))
 refine Cj.xl (Cj.sr (J.z q1 ?_))
 refine J.ns (Cj.ret (Ej.bare ?_))
 refine q6 ?_
 exact ⟨_, rfl, .inl ⟨rfl, take_while_all (by rw [List.take_of_length_le (by omega)] at hall; exact hall)⟩, rfl⟩
theorem IndexFunc_ok (s : List UInt8) (I : Heap) : Ctr Tryz.prog 118 [str s, .func (.func 119) #[] #[]] I [] (fun e _I' H' => ∃ n, e = .returned (i64 n) ∧ endsAt s n ∧ H' = []) := by
 refine Ctr.ob func118 ?_
 intro w0 hw0
 refine Cj.sr (J.z q1 ?_)
 refine J.nssr (J.z q0 ?_)
 refine J.z q0 ?_
 refine J.op rfl (q36 (H1 := []) rfl rfl rfl rfl rfl (indexFunc_ok s _) ?_)
 intro v1 I2 H3 hle4 hp5
 obtain ⟨n, h, hn, rfl⟩ := hp5; cases h
 refine J.z q1 ?_
 refine J.ns (Cj.ret (q6 ?_))
 exact ⟨_, rfl, hn, rfl⟩
end Go.Proofs.YtjcdfnbomkoheaaGreatDoor
end
