/-
  Own texts on the laws of match, joined: the logic, and contracts of functions. Conditions: none.
-/
import Derived.Test.YtadnofaleepkmaaGreatDoorPA2
import Derived.Shelf.Strings.Builder1
import Derived.Shelf.Strings.Builder2
import Derived.Shelf.Strings.OnBuilder
import Derived.Shelf.Strings.Trim
import Derived.Shelf.Small.Utf8
import Derived.Shelf.Small.Bits
import Derived.Shelf.Small.Strs
import Derived.Shelf.Small.Wraps
import Derived.Shelf.Strings.BuilderF
import Derived.Shelf.Strings.BuilderK
import Derived.Shelf.Strings.BuilderRune
import Derived.Shelf.Utf8.RuneCount
import Derived.Shelf.Strings.Builder2Cap
import Derived.Shelf.Strconv.Itoa0
import Derived.Shelf.Strings.Search1
import Derived.Shelf.Strings.Search2
import Derived.Shelf.Strings.Search3
import Derived.Shelf.Strings.Cut
import Derived.Shelf.Strings.Count
import Derived.Shelf.LaysM
import Derived.Shelf.Strings.Shaped
import Derived.Shelf.Sort.Plain
import Derived.Shelf.GgClosure.StringsIndexFunc
import Derived.Ground.GgwProg
import Derived.Shelf.GgClosure.StringsIndexFuncTop
import Derived.Shelf.Strings.Prefix
import Derived.Shelf.Strings.Split
import Derived.Shelf.Unicode.Latin
import Derived.Shelf.Unicode.Decode
import Derived.Shelf.Strings.Runes
import Derived.Shelf.Strings.RuneCount
import Derived.Shelf.Strings.AsciiSet
import Derived.Shelf.Unicode.DecodeSlow
import Derived.Shelf.Unicode.DecodeAny
import Derived.Shelf.Unicode.DecodeLast
import Derived.Shelf.Unicode.CaseLookup
import Derived.Shelf.Unicode.CaseConvert
import Derived.Shelf.Unicode.CaseTo
import Derived.Shelf.Unicode.CaseLaid
import Derived.Shelf.Strings.MapAny
import Derived.Shelf.Strings.CaseAny
import Derived.Shelf.Strings.BuilderCap
import Derived.Shelf.Strings.MapGrows
import Derived.Shelf.Slices.Equal
import Derived.Shelf.Slices.CompactS
import Derived.Ground.Names2Prog
import Derived.Shelf.Slices.SearchI
import Derived.Shelf.Slices.Cells
import Derived.Shelf.Slices.In.SortNone
import Derived.Shelf.Slices.Empties2
import Derived.Test.YtadnofaleepkmaaGreatDoorProg
section
namespace Go.Proofs.YtadnofaleepkmaaGreatDoor
open Go Go.Sx
def olds : List (List UInt8) := [[32], [], [45], []]
/-- What build lays: the table of the two replaced letters. -/
def BSR (I : Heap) (xb : Nat) : Prop := ∃ v1 v2 tr, I xb = some (cel 225 (tab (fun j => if j = 32 then v2 else if j = 45 then v1 else .slice none 0 0) tr)) ∧ BytSl I [] v1 ∧ BytSl I [] v2 ∧ StrSl 9 I [[45], [32]] tr
theorem BSR.mono {I I' : Heap} {xb : Nat} (h : BSR I xb) (hle : Le I I') : BSR I' xb := let ⟨v1, v2, tr, h1, h2, h3, h4⟩ := h; ⟨v1, v2, tr, hle _ _ h1, h2.mono hle, h3.mono hle, h4.mono hle⟩
theorem zero163 : (Value.agg Tryz.zeroCells225).cells = (tab (fun _ => .slice none 0 0) (.slice none 0 0)).toArray := by
  show Tryz.zeroCells225 = _
  kernel_rfl
theorem load_ok (rb T off : Nat) (cs : List Value) (x : Int) (hx : cs[off]? = some (.int .u32 x)) (I : Heap) : Ctr Tryz.prog 151 [ptr rb off] I [(rb, cel T cs)] (fun e _I' H' => e = .returned (.bool (x != 0)) ∧ H' = [(rb, cel T cs)]) :=
  Ctr.of_read (Enters.of Tryz.func151 (by decide) rfl) hx fun w h => Sync.load_free ⟨rb, off, none⟩ x w h
theorem lock_ok (rb T : Nat) (d sm r o : Value) (I : Heap) : Ctr Tryz.prog 173 [ptr rb 1] I [(rb, cel T [d, .int .i32 0, sm, r, o])] (fun e _I' H' => e = .returned (.tuple #[]) ∧ H' = [(rb, cel T [d, .int .i32 1, sm, r, o])]) :=
  Ctr.of_set (off := 1) (Enters.of Tryz.func173 (by decide) rfl) rfl fun w h h2 => Sync.lock_free ⟨rb, 1, none⟩ w h h2
theorem unlock_ok (rb T : Nat) (d sm r o : Value) (I : Heap) : CtrD Tryz.prog 174 [ptr rb 1] .returning I [(rb, cel T [d, .int .i32 1, sm, r, o])] (fun u' _I' H' => u' = .returning ∧ H' = [(rb, cel T [d, .int .i32 0, sm, r, o])]) :=
  CtrD.of_set (off := 1) (v := .tuple #[]) (Enters.of Tryz.func174 (by decide) rfl) rfl fun w h h2 => (Sync.unlock_deferred ⟨rb, 1, none⟩ .returning w h h2).mono fun _ _ _ ⟨g1, g2, g3⟩ => ⟨g1, g2, .inl g3⟩
theorem store_ok (rb T : Nat) (x m sm r o : Value) (I : Heap) : CtrD Tryz.prog 175 [ptr rb 0, .bool true] .returning I [(rb, cel T [x, m, sm, r, o])] (fun u' _I' H' => u' = .returning ∧ H' = [(rb, cel T [.int .u32 1, m, sm, r, o])]) :=
  CtrD.of_set (off := 0) (v := .tuple #[]) (Enters.of Tryz.func175 (by decide) rfl) rfl fun w h h2 => (Sync.store_deferred ⟨rb, 0, none⟩ x .returning w h h2).mono fun _ _ _ ⟨g1, g2, g3⟩ => ⟨g1, g2, .inr g3⟩
set_option maxRecDepth 20000 in
theorem NewReplacer_ok (ob oc : Nat) (I : Heap) : Ctr Tryz.prog 71 [.slice (some ⟨ob, 0, none⟩) 4 oc] I [(ob, cel 9 (olds.map str))]
    (fun e I' H' => ∃ rb osl, e = .returned (ptr rb 0) ∧ H' = [(rb, cel 152 [.int .u32 0, .int .i32 0, .int .u32 0, .nilIface, osl])] ∧ StrSl 9 I' olds osl) := by
 refine Ctr.of_body Tryz.func71 rfl (by decide) (Nat.le_of_ble_eq_true rfl) ?_
 intro w0 hw0
 refine Cj.seq (Cj.region (J.z (yl_assign rfl rfl) ?_))
 refine J.nil (Ej.seq (Cj.seq (Cj.seq (Cj.region (J.z (yl_move rfl rfl) ?_)))))
 refine J.z (yl_lenSlice rfl rfl Tryz.underlying31) ?_
 refine J.z (yl_rem rfl rfl rfl (by decide)) ?_
 refine J.z (yl_eql rfl rfl rfl) ?_
 refine J.nil (Ej.seq (Cj.cond rfl (fun hc1 => Bool.noConfusion (Eq.trans (Eq.symm rfl) hc1)) (fun hc1 => ?_)))
 refine Cj.skip (Ej.seq (Cj.seq (Cj.region (J.z (yl_move rfl rfl) ?_))))
 refine J.op rfl (op_append (by' := 15) (n := 0) (g := none) (xs := []) [_] rfl rfl rfl rfl rfl Tryz.underlying31 (.inr ⟨_, Tryz.underlying31⟩) (by kernel_rfl) Tryz.sizeOf9 Tryz.zeroValue9 rfl ⟨rfl, rfl⟩ rfl (Src.slice (Blk.at 0 rfl) rfl rfl rfl) (by omega) ?_)
 intro g2 hg2
 refine J.z (yl_buildS (pl := #[(0, 3), (3, 1), (4, 1)]) rfl rfl Tryz.zeroValue152 rfl Tryz.underlying152 (fun w => by simp [Tryz.sizeOf148, Tryz.sizeOf150, Tryz.sizeOf31]) (LBld.part rfl (gV_cells _ _) rfl (LSpl.s (LSpl.s (LSpl.s (LSpl.s (LSpl.c LSpl.z))))) LBld.none)) ?_
 refine J.op rfl (op_box rfl rfl rfl rfl rfl ?_)
 intro b3 hb3
 refine J.z (yl_assign rfl rfl) ?_
 refine J.nil (Ej.seq (Cj.ret ?_))
 obtain ⟨gb, gc, gsp, rfl, hgb⟩ := hg2.some (by decide)
 refine Ej.pull (Pull.s (Pull.s Pull.z)) ?_
 refine Ej.persist hgb (fun I9 hle9 hgbi => ?_)
 refine Ej.keep (Keeps.k (Keeps.d Keeps.n)) ?_
 refine Ej.ret1 rfl rfl rfl ?_
 exact ⟨b3, _, rfl, rfl, gb, gc, gsp, rfl, hgbi⟩
set_option maxRecDepth 20000 in
theorem build_ok (rb : Nat) (a0 a1 a2 a3 osl : Value) (I : Heap) (ho : StrSl 9 I olds osl) : Ctr Tryz.prog 153 [ptr rb 0] I [(rb, cel 152 [a0, a1, a2, a3, osl])]
    (fun e I' H' => ∃ xb, e = .returned (.iface 226 (ptr xb 0)) ∧ BSR I' xb ∧ H' = [(rb, cel 152 [a0, a1, a2, a3, osl])]) := by
 obtain ⟨ob, oc, osp, rfl, hob⟩ := ho
 rw [show olds.length = 4 from rfl]
 refine Ctr.of_body Tryz.func153 rfl (by decide) (Nat.le_of_ble_eq_true rfl) ?_
 intro w0 hw0
 refine Cj.seq (Cj.region (J.z (yl_assign rfl rfl) ?_))
 refine J.nil (Ej.seq (Cj.seq (Cj.region (J.z (yl_move rfl rfl) ?_))))
 refine J.z (yl_nilCheck rfl rfl) ?_
 refine J.z (yl_fieldAddr (off' := 4) rfl rfl Tryz.underlying152 rfl Tryz.sizeOf31 rfl) ?_
 refine J.z (yl_load rfl rfl Tryz.isAgg31 (Blk.at 0 rfl) rfl) ?_
 refine J.z (yl_assign rfl rfl) ?_
 refine J.nil (Ej.seq (Cj.seq (Cj.seq (Cj.region (J.z (yl_move rfl rfl) ?_)))))
 refine J.z (yl_lenSlice rfl rfl Tryz.underlying31) ?_
 refine J.z (yl_eql rfl rfl rfl) ?_
 refine J.z (yl_move rfl rfl) ?_
 refine J.skip 3 22 23 true _ rfl rfl rfl (by first | rfl | decide) rfl rfl ?_
 refine J.skip 3 22 24 true _ rfl rfl rfl (by first | rfl | decide) rfl rfl ?_
 refine J.skip 3 22 25 true _ rfl rfl rfl (by first | rfl | decide) rfl rfl ?_
 refine J.skip 3 22 26 true _ rfl rfl rfl (by first | rfl | decide) rfl rfl ?_
 refine J.skip 3 22 27 true _ rfl rfl rfl (by first | rfl | decide) rfl rfl ?_
 refine J.z (yl_pick0 rfl rfl (by first | rfl | decide) rfl) ?_
 refine J.nil (Ej.seq (Cj.cond rfl (fun hc1 => Bool.noConfusion (Eq.trans (Eq.symm rfl) hc1)) (fun hc1 => ?_)))
 refine Cj.skip (Ej.seq (Cj.seq (Cj.region (J.z (yl_assign rfl rfl) ?_))))
 refine J.nil (Ej.seq (Cj.seq (Cj.seq (Cj.region (J.z (yl_assign rfl rfl) ?_)))))
 refine J.nil (Ej.seq (Cj.block (Cj.rounds 3 ?_)))
 refine Rj.succ ?_
 refine Cj.seq (Cj.seq (Cj.region (J.z (yl_move rfl rfl) ?_)))
 refine J.z (yl_move rfl rfl) ?_
 refine J.z (yl_lenSlice rfl rfl Tryz.underlying31) ?_
 refine J.z (yl_lss rfl rfl rfl) ?_
 refine J.nil (Ej.seq (Cj.cond rfl (fun hc2 => ?_) (fun hc2 => Bool.noConfusion (Eq.trans (Eq.symm (by first | rfl | decide)) hc2))))
 refine Cj.skip (Ej.seq (Cj.seq (Cj.block (Cj.seq (Cj.seq (Cj.region (J.z (yl_move rfl rfl) ?_)))))))
 refine J.z (yl_move rfl rfl) ?_
 refine J.z (yl_indexAddr (off' := 0) rfl rfl rfl Tryz.underlying31 Tryz.sizeOf9 (by decide) (by decide) (by decide)) ?_
 refine J.z (yl_load rfl rfl Tryz.isAgg9 (Blk.imm hob) rfl) ?_
 refine J.z (yl_lenStr rfl rfl Tryz.underlying9) ?_
 refine J.z (yl_neq rfl rfl rfl) ?_
 refine J.nil (Ej.seq (Cj.cond rfl (fun hc3 => Bool.noConfusion (Eq.trans (Eq.symm (by first | rfl | decide)) hc3)) (fun hc3 => ?_)))
 refine Cj.skip (Ej.seq (Cj.seq (Cj.region (J.z (yl_move rfl rfl) ?_))))
 refine J.z (yl_move rfl rfl) ?_
 refine J.z (yl_add rfl rfl rfl (w64 (by omega))) ?_
 refine J.z (yl_indexAddr (off' := 1) rfl rfl rfl Tryz.underlying31 Tryz.sizeOf9 (by decide) (by decide) (by decide)) ?_
 refine J.z (yl_load rfl rfl Tryz.isAgg9 (Blk.imm hob) rfl) ?_
 refine J.z (yl_lenStr rfl rfl Tryz.underlying9) ?_
 refine J.z (yl_neq rfl rfl rfl) ?_
 refine J.nil (Ej.seq (Cj.cond rfl (fun hc4 => ?_) (fun hc4 => Bool.noConfusion (Eq.trans (Eq.symm (by first | rfl | decide)) hc4))))
 refine Cj.region (J.z (yl_assign rfl rfl) ?_)
 refine J.nil (Ej.blkNormal (Ej.seq (Cj.region (J.z (yl_move rfl rfl) ?_))))
 refine J.z (yl_add rfl rfl rfl (w64 (by omega))) ?_
 refine J.z (yl_assign rfl rfl) ?_
 refine J.nil (Ej.rounds ?_)
 refine Rj.succ ?_
 refine Cj.seq (Cj.seq (Cj.region (J.z (yl_move rfl rfl) ?_)))
 refine J.z (yl_move rfl rfl) ?_
 refine J.z (yl_lenSlice rfl rfl Tryz.underlying31) ?_
 refine J.z (yl_lss rfl rfl rfl) ?_
 refine J.nil (Ej.seq (Cj.cond rfl (fun hc5 => ?_) (fun hc5 => Bool.noConfusion (Eq.trans (Eq.symm (by first | rfl | decide)) hc5))))
 refine Cj.skip (Ej.seq (Cj.seq (Cj.block (Cj.seq (Cj.seq (Cj.region (J.z (yl_move rfl rfl) ?_)))))))
 refine J.z (yl_move rfl rfl) ?_
 refine J.z (yl_indexAddr (off' := 2) rfl rfl rfl Tryz.underlying31 Tryz.sizeOf9 (by decide) (by decide) (by decide)) ?_
 refine J.z (yl_load rfl rfl Tryz.isAgg9 (Blk.imm hob) rfl) ?_
 refine J.z (yl_lenStr rfl rfl Tryz.underlying9) ?_
 refine J.z (yl_neq rfl rfl rfl) ?_
 refine J.nil (Ej.seq (Cj.cond rfl (fun hc6 => Bool.noConfusion (Eq.trans (Eq.symm (by first | rfl | decide)) hc6)) (fun hc6 => ?_)))
 refine Cj.skip (Ej.seq (Cj.seq (Cj.region (J.z (yl_move rfl rfl) ?_))))
 refine J.z (yl_move rfl rfl) ?_
 refine J.z (yl_add rfl rfl rfl (w64 (by omega))) ?_
 refine J.z (yl_indexAddr (off' := 3) rfl rfl rfl Tryz.underlying31 Tryz.sizeOf9 (by decide) (by decide) (by decide)) ?_
 refine J.z (yl_load rfl rfl Tryz.isAgg9 (Blk.imm hob) rfl) ?_
 refine J.z (yl_lenStr rfl rfl Tryz.underlying9) ?_
 refine J.z (yl_neq rfl rfl rfl) ?_
 refine J.nil (Ej.seq (Cj.cond rfl (fun hc7 => ?_) (fun hc7 => Bool.noConfusion (Eq.trans (Eq.symm (by first | rfl | decide)) hc7))))
 refine Cj.region (J.z (yl_assign rfl rfl) ?_)
 refine J.nil (Ej.blkNormal (Ej.seq (Cj.region (J.z (yl_move rfl rfl) ?_))))
 refine J.z (yl_add rfl rfl rfl (w64 (by omega))) ?_
 refine J.z (yl_assign rfl rfl) ?_
 refine J.nil (Ej.rounds ?_)
 refine Rj.succ ?_
 refine Cj.seq (Cj.seq (Cj.region (J.z (yl_move rfl rfl) ?_)))
 refine J.z (yl_move rfl rfl) ?_
 refine J.z (yl_lenSlice rfl rfl Tryz.underlying31) ?_
 refine J.z (yl_lss rfl rfl rfl) ?_
 refine J.nil (Ej.seq (Cj.cond rfl (fun hc8 => Bool.noConfusion (Eq.trans (Eq.symm (by first | rfl | decide)) hc8)) (fun hc8 => ?_)))
 refine Cj.exit (Ej.seqExit (Ej.seqExit (Ej.blkExit (Ej.seq (Cj.seq (Cj.seq (Cj.region (J.z (yl_move rfl rfl) ?_))))))))
 refine J.nil (Ej.seq (Cj.cond rfl (fun hc9 => Bool.noConfusion (Eq.trans (Eq.symm rfl) hc9)) (fun hc9 => ?_)))
 refine Cj.skip (Ej.seq (Cj.seq (Cj.region (J.z (yl_move rfl rfl) ?_))))
 refine J.z (yl_lenSlice rfl rfl Tryz.underlying31) ?_
 refine J.z (yl_quo rfl rfl rfl (by decide) (by decide)) ?_
 refine J.op rfl (op_makeSlice (n := 0) (c := 2) (by1 := 16) (z := (str [])) rfl rfl rfl rfl rfl Tryz.underlying31 (by kernel_rfl) rfl (by omega) (by omega) (by omega) ?_)
 intro b10 hb10
 refine J.z (yl_buildS (zs := tab (fun _ => .slice none 0 0) (.slice none 0 0)) (cs := tab (fun _ => .slice none 0 0) (.slice (some ⟨b10, 0, none⟩) 0 2)) (pl := #[(0, 256), (256, 1)]) rfl rfl Tryz.zeroValue225 zero163 Tryz.underlying225 (fun w => by simp [Tryz.sizeOf223, Tryz.sizeOf31]) (LBld.part rfl rfl rfl (tab_spl _ _ _) LBld.none)) ?_
 refine J.op rfl (op_alloc (zs := tab (fun _ => .slice none 0 0) (.slice none 0 0)) rfl rfl rfl Tryz.zeroValue225 zero163 ?_)
 intro b11 hb11
 refine J.op rfl (op_store 0 rfl rfl rfl rfl rfl (tab_one (fun _ => rfl) rfl) Tryz.sizeOf225 (tab_len _ _) rfl (LSpl.all (by rw [tab_len, tab_len])) LSet.z ?_)
 refine J.pull Pull.z ?_
 refine J.pull (Pull.s (Pull.s Pull.z)) ?_
 refine J.nil (Ej.seq (Cj.seq (Cj.seq (Cj.region (J.z (yl_move rfl rfl) ?_)))))
 refine J.z (yl_lenSlice rfl rfl Tryz.underlying31) ?_
 refine J.z (yl_sub rfl rfl rfl (w64 (by omega))) ?_
 refine J.z (yl_assign rfl rfl) ?_
 refine J.nil (Ej.seq (Cj.block (Cj.rounds 3 ?_)))
 refine Rj.succ ?_
 refine Cj.seq (Cj.seq (Cj.region (J.z (yl_move rfl rfl) ?_)))
 refine J.z (yl_geq rfl rfl rfl) ?_
 refine J.nil (Ej.seq (Cj.cond rfl (fun hc12 => ?_) (fun hc12 => Bool.noConfusion (Eq.trans (Eq.symm (by first | rfl | decide)) hc12))))
 refine Cj.skip (Ej.seq (Cj.seq (Cj.block (Cj.seq (Cj.region (J.z (yl_move rfl rfl) ?_))))))
 refine J.z (yl_move rfl rfl) ?_
 refine J.z (yl_indexAddr (off' := 2) rfl rfl rfl Tryz.underlying31 Tryz.sizeOf9 (by decide) (by decide) (by decide)) ?_
 refine J.z (yl_load rfl rfl Tryz.isAgg9 (Blk.imm hob) rfl) ?_
 refine J.z (yl_index (c := 45) rfl rfl rfl Tryz.underlying9 (by decide) rfl) ?_
 refine J.z (yl_assign rfl rfl) ?_
 refine J.nil (Ej.seq (Cj.seq (Cj.region (J.z (yl_move rfl rfl) ?_))))
 refine J.z (yl_move rfl rfl) ?_
 refine J.z (yl_add rfl rfl rfl (w64 (by omega))) ?_
 refine J.z (yl_indexAddr (off' := 3) rfl rfl rfl Tryz.underlying31 Tryz.sizeOf9 (by decide) (by decide) (by decide)) ?_
 refine J.z (yl_load rfl rfl Tryz.isAgg9 (Blk.imm hob) rfl) ?_
 refine J.z (yl_assign rfl rfl) ?_
 refine J.nil (Ej.seq (Cj.seq (Cj.seq (Cj.region (J.z (yl_move rfl rfl) ?_)))))
 refine J.z (yl_fieldAddr (off' := 0) rfl rfl Tryz.underlying225 rfl Tryz.sizeOf223 rfl) ?_
 refine J.z (yl_indexArr (off' := 45) rfl rfl rfl Tryz.underlying223 Tryz.sizeOf86 (by decide) (by decide) (by decide)) ?_
 refine J.z (yl_load rfl rfl Tryz.isAgg86 (Blk.at 1 rfl) (tab_at _ _ (by decide))) ?_
 refine J.eqv 116 rfl (show _ = .slice none 0 0 from (by first | rfl | exact if_neg (by decide))) ?_
 refine J.z (yl_eqlSlice _ rfl rfl rfl Tryz.underlying86) ?_
 refine J.nil (Ej.seq (Cj.cond rfl (fun hc13 => ?_) (fun hc13 => Bool.noConfusion (Eq.trans (Eq.symm rfl) hc13))))
 refine Cj.region (J.z (yl_fieldAddr (off' := 256) rfl rfl Tryz.underlying225 rfl Tryz.sizeOf31 rfl) ?_)
 refine J.z (yl_load rfl rfl Tryz.isAgg31 (Blk.at 1 rfl) (tab_tr _ _)) ?_
 refine J.z (yl_move rfl rfl) ?_
 refine J.op rfl (op_buildSlice rfl rfl rfl Tryz.underlying86 Tryz.sizeOf5 Tryz.zeroValue5 rfl rfl rfl rfl (LCat.one rfl LCat.none) ?_)
 intro b14 hb14
 refine J.z (yl_toStr [45] rfl rfl rfl Tryz.underlying86 Tryz.underlying9 Tryz.underlying5 (Blk.at 0 rfl) rfl) ?_
 refine J.op rfl (op_buildSlice rfl rfl rfl Tryz.underlying31 Tryz.sizeOf9 Tryz.zeroValue9 rfl rfl rfl rfl (LCat.one rfl LCat.none) ?_)
 intro b15 hb15
 refine J.op rfl (op_append (by' := 15) (n := 0) (g := some (b10, 2, List.replicate 2 (str []))) (xs := []) [_, _, _, _] rfl rfl rfl rfl rfl Tryz.underlying31 (.inr ⟨_, Tryz.underlying31⟩) (by kernel_rfl) Tryz.sizeOf9 Tryz.zeroValue9 rfl ⟨hb10, rfl, rfl⟩ rfl (Src.slice (Blk.at 0 rfl) rfl rfl rfl) (by omega) ?_)
 intro g16 hg16
 refine J.z (yl_fieldAddr (off' := 256) rfl rfl Tryz.underlying225 rfl Tryz.sizeOf31 rfl) ?_
 refine J.op rfl (op_store1 3 rfl rfl rfl rfl (gV_cells1 _ _) (gV_oneC _ _) Tryz.sizeOf31 rfl (.inl rfl) (by rw [tab_len]; decide) (by rw [tab_setTr]; exact (LSet.s (LSet.s (LSet.s LSet.z)))) ?_)
 refine J.nil (Ej.seq (Cj.region (J.z (yl_move rfl rfl) ?_)))
 refine J.z (yl_move rfl rfl) ?_
 refine J.op rfl (op_toBytes rfl rfl rfl rfl Tryz.underlying9 Tryz.underlying86 Tryz.underlying5 ?_)
 intro b17 c18 sp19 fr20 hb17 hfr20
 refine J.persist hb17 (fun I22 hle21 hb17i => ?_)
 have hob := hle21 _ _ hob
 refine J.z (yl_fieldAddr (off' := 0) rfl rfl Tryz.underlying225 rfl Tryz.sizeOf223 rfl) ?_
 refine J.z (yl_indexArr (off' := 45) rfl rfl rfl Tryz.underlying223 Tryz.sizeOf86 (by decide) (by decide) (by decide)) ?_
 refine J.op rfl (op_store1 3 rfl rfl rfl rfl rfl rfl Tryz.sizeOf86 rfl (.inl rfl) (by rw [tab_len]; decide) (by rw [tab_set _ _ _ (by decide)]; exact (LSet.s (LSet.s (LSet.s LSet.z)))) ?_)
 refine J.nil (Ej.blkNormal (Ej.seq (Cj.region (J.z (yl_move rfl rfl) ?_))))
 refine J.z (yl_sub rfl rfl rfl (w64 (by omega))) ?_
 refine J.z (yl_assign rfl rfl) ?_
 refine J.nil (Ej.rounds ?_)
 refine Rj.succ ?_
 refine Cj.seq (Cj.seq (Cj.region (J.z (yl_move rfl rfl) ?_)))
 refine J.z (yl_geq rfl rfl rfl) ?_
 refine J.nil (Ej.seq (Cj.cond rfl (fun hc23 => ?_) (fun hc23 => Bool.noConfusion (Eq.trans (Eq.symm (by first | rfl | decide)) hc23))))
 refine Cj.skip (Ej.seq (Cj.seq (Cj.block (Cj.seq (Cj.region (J.z (yl_move rfl rfl) ?_))))))
 refine J.z (yl_move rfl rfl) ?_
 refine J.z (yl_indexAddr (off' := 0) rfl rfl rfl Tryz.underlying31 Tryz.sizeOf9 (by decide) (by decide) (by decide)) ?_
 refine J.z (yl_load rfl rfl Tryz.isAgg9 (Blk.imm hob) rfl) ?_
 refine J.z (yl_index (c := 32) rfl rfl rfl Tryz.underlying9 (by decide) rfl) ?_
 refine J.z (yl_assign rfl rfl) ?_
 refine J.nil (Ej.seq (Cj.seq (Cj.region (J.z (yl_move rfl rfl) ?_))))
 refine J.z (yl_move rfl rfl) ?_
 refine J.z (yl_add rfl rfl rfl (w64 (by omega))) ?_
 refine J.z (yl_indexAddr (off' := 1) rfl rfl rfl Tryz.underlying31 Tryz.sizeOf9 (by decide) (by decide) (by decide)) ?_
 refine J.z (yl_load rfl rfl Tryz.isAgg9 (Blk.imm hob) rfl) ?_
 refine J.z (yl_assign rfl rfl) ?_
 refine J.nil (Ej.seq (Cj.seq (Cj.seq (Cj.region (J.z (yl_move rfl rfl) ?_)))))
 refine J.z (yl_fieldAddr (off' := 0) rfl rfl Tryz.underlying225 rfl Tryz.sizeOf223 rfl) ?_
 refine J.z (yl_indexArr (off' := 32) rfl rfl rfl Tryz.underlying223 Tryz.sizeOf86 (by decide) (by decide) (by decide)) ?_
 refine J.z (yl_load rfl rfl Tryz.isAgg86 (Blk.at 3 rfl) (tab_at _ _ (by decide))) ?_
 refine J.eqv 116 rfl (show _ = .slice none 0 0 from (by first | rfl | exact if_neg (by decide))) ?_
 refine J.z (yl_eqlSlice _ rfl rfl rfl Tryz.underlying86) ?_
 refine J.nil (Ej.seq (Cj.cond rfl (fun hc24 => ?_) (fun hc24 => Bool.noConfusion (Eq.trans (Eq.symm rfl) hc24))))
 refine Cj.region (J.z (yl_fieldAddr (off' := 256) rfl rfl Tryz.underlying225 rfl Tryz.sizeOf31 rfl) ?_)
 refine J.z (yl_load rfl rfl Tryz.isAgg31 (Blk.at 3 rfl) (tab_tr _ _)) ?_
 refine J.z (yl_move rfl rfl) ?_
 refine J.op rfl (op_buildSlice rfl rfl rfl Tryz.underlying86 Tryz.sizeOf5 Tryz.zeroValue5 rfl rfl rfl rfl (LCat.one rfl LCat.none) ?_)
 intro b25 hb25
 refine J.z (yl_toStr [32] rfl rfl rfl Tryz.underlying86 Tryz.underlying9 Tryz.underlying5 (Blk.at 0 rfl) rfl) ?_
 refine J.op rfl (op_buildSlice rfl rfl rfl Tryz.underlying31 Tryz.sizeOf9 Tryz.zeroValue9 rfl rfl rfl rfl (LCat.one rfl LCat.none) ?_)
 intro b26 hb26
 refine J.op rfl (op_append (by' := 15) [_, _, _, _, _, _] rfl rfl rfl rfl rfl Tryz.underlying31 (.inr ⟨_, Tryz.underlying31⟩) (by kernel_rfl) Tryz.sizeOf9 Tryz.zeroValue9 rfl hg16 rfl (Src.slice (Blk.at 0 rfl) rfl rfl rfl) (by omega) ?_)
 intro g27 hg27
 refine J.z (yl_fieldAddr (off' := 256) rfl rfl Tryz.underlying225 rfl Tryz.sizeOf31 rfl) ?_
 refine J.op rfl (op_store1 5 rfl rfl rfl rfl (gV_cells1 _ _) (gV_oneC _ _) Tryz.sizeOf31 rfl (.inl rfl) (by rw [tab_len]; decide) (by rw [tab_setTr]; exact (LSet.s (LSet.s (LSet.s (LSet.s (LSet.s LSet.z)))))) ?_)
 refine J.nil (Ej.seq (Cj.region (J.z (yl_move rfl rfl) ?_)))
 refine J.z (yl_move rfl rfl) ?_
 refine J.op rfl (op_toBytes rfl rfl rfl rfl Tryz.underlying9 Tryz.underlying86 Tryz.underlying5 ?_)
 intro b28 c29 sp30 fr31 hb28 hfr31
 refine J.persist hb28 (fun I33 hle32 hb28i => ?_)
 have hob := hle32 _ _ hob
 have hb17i := hle32 _ _ hb17i
 refine J.z (yl_fieldAddr (off' := 0) rfl rfl Tryz.underlying225 rfl Tryz.sizeOf223 rfl) ?_
 refine J.z (yl_indexArr (off' := 32) rfl rfl rfl Tryz.underlying223 Tryz.sizeOf86 (by decide) (by decide) (by decide)) ?_
 refine J.op rfl (op_store1 5 rfl rfl rfl rfl rfl rfl Tryz.sizeOf86 rfl (.inl rfl) (by rw [tab_len]; decide) (by rw [tab_set _ _ _ (by decide)]; exact (LSet.s (LSet.s (LSet.s (LSet.s (LSet.s LSet.z)))))) ?_)
 refine J.nil (Ej.blkNormal (Ej.seq (Cj.region (J.z (yl_move rfl rfl) ?_))))
 refine J.z (yl_sub rfl rfl rfl (w64 (by omega))) ?_
 refine J.z (yl_assign rfl rfl) ?_
 refine J.nil (Ej.rounds ?_)
 refine Rj.succ ?_
 refine Cj.seq (Cj.seq (Cj.region (J.z (yl_move rfl rfl) ?_)))
 refine J.z (yl_geq rfl rfl rfl) ?_
 refine J.nil (Ej.seq (Cj.cond rfl (fun hc34 => Bool.noConfusion (Eq.trans (Eq.symm (by first | rfl | decide)) hc34)) (fun hc34 => ?_)))
 refine Cj.exit (Ej.seqExit (Ej.seqExit (Ej.blkExit (Ej.seq (Cj.seq (Cj.region (J.z (yl_makeIface rfl rfl Tryz.underlying226 rfl) ?_)))))))
 refine J.z (yl_assign rfl rfl) ?_
 refine J.nil (Ej.seq (Cj.ret ?_))
 obtain ⟨gb, gc, gsp, rfl, hgb⟩ := hg27.some (by decide)
 refine Ej.pull (Pull.s (Pull.s (Pull.s (Pull.s (Pull.s (Pull.s Pull.z)))))) ?_
 refine Ej.persist hgb (fun I9 hle9 hgbi => ?_)
 refine Ej.pull (Pull.s (Pull.s (Pull.s (Pull.s (Pull.s Pull.z))))) ?_
 refine Ej.persist hb11 (fun I8 hle8 hxbi => ?_)
 refine Ej.keep (Keeps.d (Keeps.d (Keeps.d (Keeps.d (Keeps.k Keeps.n))))) ?_
 refine Ej.ret1 rfl rfl rfl ?_
 exact ⟨b11, rfl, ⟨_, _, _, hxbi, ⟨b17, _, _, _, rfl, hle8 _ _ (hle9 _ _ hb17i)⟩, ⟨b28, _, _, _, rfl, hle8 _ _ (hle9 _ _ hb28i)⟩, gb, gc, gsp, rfl, hle8 _ _ hgbi⟩, rfl⟩
def RepH (rb : Nat) (d m sm r o : Value) : HL := [(rb, cel 152 [d, m, sm, r, o])]
/-- The replacer behind its first use. -/
def Rep1 (I : Heap) (rb : Nat) (d m : Value) (H : HL) : Prop := ∃ xb, BSR I xb ∧ H = RepH rb d m (.int .u32 0) (.iface 226 (ptr xb 0)) (.slice none 0 0)
set_option maxRecDepth 20000 in
theorem buildOnce_ok (rb : Nat) (d m osl : Value) (I : Heap) (ho : StrSl 9 I olds osl) : Ctr Tryz.prog 108 [ptr rb 0] I (RepH rb d m (.int .u32 0) .nilIface osl)
    (fun e I' H' => e = .returned (.tuple #[]) ∧ Rep1 I' rb d m H') := by
 refine Ctr.of_body Tryz.func108 rfl (by decide) (Nat.le_of_ble_eq_true rfl) ?_
 intro w0 hw0
 refine Cj.seq (Cj.region (J.z (yl_move rfl rfl) ?_))
 refine J.z (yl_move rfl rfl) ?_
 refine J.pull Pull.z ?_
 refine J.op rfl (op_call (H1 := [_]) rfl rfl rfl rfl rfl (build_ok rb _ _ _ _ osl _ ho) ?_ (fun _ _ _ _ h => by obtain ⟨_, h, _⟩ := h; cases h) (fun _ _ h => by obtain ⟨_, h, _⟩ := h; cases h))
 intro v1 I2 H3 hle4 hp5
 obtain ⟨xb, h, hbs, rfl⟩ := hp5; cases h
 refine J.z (yl_nilCheck rfl rfl) ?_
 refine J.z (yl_fieldAddr (off' := 3) rfl rfl Tryz.underlying152 rfl Tryz.sizeOf150 rfl) ?_
 refine J.op rfl (op_store 0 rfl rfl rfl rfl rfl rfl Tryz.sizeOf150 rfl rfl (LSpl.s (LSpl.s (LSpl.s (LSpl.c LSpl.z)))) LSet.z ?_)
 refine J.nil (Ej.seq (Cj.region (J.z (yl_move rfl rfl) ?_)))
 refine J.z (yl_nilCheck rfl rfl) ?_
 refine J.z (yl_fieldAddr (off' := 4) rfl rfl Tryz.underlying152 rfl Tryz.sizeOf31 rfl) ?_
 refine J.op rfl (op_store 0 rfl rfl rfl rfl rfl rfl Tryz.sizeOf31 rfl rfl (LSpl.s (LSpl.s (LSpl.s (LSpl.s (LSpl.c LSpl.z))))) LSet.z ?_)
 refine J.nil (Ej.end0 rfl rfl ?_)
 exact ⟨rfl, xb, hbs, rfl⟩
set_option maxRecDepth 20000 in
theorem doSlow_ok (rb : Nat) (osl : Value) (I : Heap) (ho : StrSl 9 I olds osl) : Ctr Tryz.prog 152 [ptr rb 0, .func (.func 108) #[ptr rb 0] #[]] I (RepH rb (.int .u32 0) (.int .i32 0) (.int .u32 0) .nilIface osl)
    (fun e I' H' => e = .returned (.tuple #[]) ∧ Rep1 I' rb (.int .u32 1) (.int .i32 0) H') := by
 refine Ctr.of_bodyD Tryz.func152 rfl (by decide) (Nat.le_of_ble_eq_true rfl) ?_
 intro w0 hw0
 refine Cj.seq (Cj.region (J.z (yl_move rfl rfl) ?_))
 refine J.z (yl_nilCheck rfl rfl) ?_
 refine J.z (yl_fieldAddr (off' := 1) rfl rfl Tryz.underlying148 rfl Tryz.sizeOf146 rfl) ?_
 refine J.pull Pull.z ?_
 refine J.op rfl (op_call (H1 := [_]) rfl rfl rfl rfl rfl (lock_ok rb 152 _ _ _ _ _) ?_ (fun _ _ _ _ h => by cases h.1) (fun _ _ h => by cases h.1))
 intro v1 I2 H3 hle4 hp5
 have ho := ho.mono hle4
 obtain ⟨h, rfl⟩ := hp5; cases h
 refine J.nil (Ej.seq (Cj.seq (Cj.region (J.z (yl_move rfl rfl) ?_))))
 refine J.z (yl_nilCheck rfl rfl) ?_
 refine J.z (yl_fieldAddr (off' := 1) rfl rfl Tryz.underlying148 rfl Tryz.sizeOf146 rfl) ?_
 refine J.defer rfl rfl rfl rfl rfl ?_
 refine J.nil (Ej.seq (Cj.seq (Cj.region (J.z (yl_move rfl rfl) ?_))))
 refine J.z (yl_nilCheck rfl rfl) ?_
 refine J.z (yl_fieldAddr (off' := 0) rfl rfl Tryz.underlying148 rfl Tryz.sizeOf142 rfl) ?_
 refine J.pull Pull.z ?_
 refine J.op rfl (op_call (H1 := [_]) rfl rfl rfl rfl rfl (load_ok rb 152 0 _ 0 rfl _) ?_ (fun _ _ _ _ h => by cases h.1) (fun _ _ h => by cases h.1))
 intro v6 I7 H8 hle9 hp10
 have ho := ho.mono hle9
 obtain ⟨h, rfl⟩ := hp10; cases h
 refine J.z (yl_not rfl rfl) ?_
 refine J.nil (Ej.seq (Cj.cond rfl (fun hc11 => ?_) (fun hc11 => Bool.noConfusion (Eq.trans (Eq.symm (congrArg not rfl)) hc11))))
 refine Cj.seq (Cj.region (J.z (yl_move rfl rfl) ?_))
 refine J.z (yl_nilCheck rfl rfl) ?_
 refine J.z (yl_fieldAddr (off' := 0) rfl rfl Tryz.underlying148 rfl Tryz.sizeOf142 rfl) ?_
 refine J.defer rfl rfl rfl rfl rfl ?_
 refine J.nil (Ej.seq (Cj.region (J.z (yl_move rfl rfl) ?_)))
 refine J.pull Pull.z ?_
 refine J.op rfl (op_call (H1 := [_]) rfl rfl rfl rfl rfl (buildOnce_ok rb _ _ osl _ ho) ?_ (fun _ _ _ _ h => by cases h.1) (fun _ _ h => by cases h.1))
 intro v12 I13 H14 hle15 hp16
 have ho := ho.mono hle15
 obtain ⟨h, xb, hbs, rfl⟩ := hp16; cases h
 refine J.nil (Ej.leave2 (H1 := [_]) (R1 := []) rfl (store_ok rb 152 _ _ _ _ _ _) (fun _ => unlock_ok rb 152 _ _ _ _ _) (fun I9 hle9 => ResJ.none rfl ?_))
 exact ⟨rfl, xb, hbs.mono hle9, rfl⟩
set_option maxRecDepth 20000 in
theorem Do_ok (rb : Nat) (osl : Value) (I : Heap) (ho : StrSl 9 I olds osl) : Ctr Tryz.prog 107 [ptr rb 0, .func (.func 108) #[ptr rb 0] #[]] I (RepH rb (.int .u32 0) (.int .i32 0) (.int .u32 0) .nilIface osl)
    (fun e I' H' => e = .returned (.tuple #[]) ∧ Rep1 I' rb (.int .u32 1) (.int .i32 0) H') := by
 refine Ctr.of_body Tryz.func107 rfl (by decide) (Nat.le_of_ble_eq_true rfl) ?_
 intro w0 hw0
 refine Cj.seq (Cj.region (J.z (yl_move rfl rfl) ?_))
 refine J.z (yl_nilCheck rfl rfl) ?_
 refine J.z (yl_fieldAddr (off' := 0) rfl rfl Tryz.underlying148 rfl Tryz.sizeOf142 rfl) ?_
 refine J.pull Pull.z ?_
 refine J.op rfl (op_call (H1 := [_]) rfl rfl rfl rfl rfl (load_ok rb 152 0 _ 0 rfl _) ?_ (fun _ _ _ _ h => by cases h.1) (fun _ _ h => by cases h.1))
 intro v1 I2 H3 hle4 hp5
 have ho := ho.mono hle4
 obtain ⟨h, rfl⟩ := hp5; cases h
 refine J.z (yl_not rfl rfl) ?_
 refine J.nil (Ej.seq (Cj.cond rfl (fun hc6 => ?_) (fun hc6 => Bool.noConfusion (Eq.trans (Eq.symm (congrArg not rfl)) hc6))))
 refine Cj.region (J.z (yl_move rfl rfl) ?_)
 refine J.z (yl_move rfl rfl) ?_
 refine J.pull Pull.z ?_
 refine J.op rfl (op_call (H1 := [_]) rfl rfl rfl rfl rfl (doSlow_ok rb osl _ ho) ?_ (fun _ _ _ _ h => by cases h.1) (fun _ _ h => by cases h.1))
 intro v7 I8 H9 hle10 hp11
 have ho := ho.mono hle10
 obtain ⟨h, xb, hbs, rfl⟩ := hp11; cases h
 refine J.nil (Ej.end0 rfl rfl ?_)
 exact ⟨rfl, xb, hbs, rfl⟩
end Go.Proofs.YtadnofaleepkmaaGreatDoor
end
section
namespace Go.Proofs
open Go.Shelf
def Tryz.lays158_ren : Go.Shelf.Ren := ⟨fun | 158 => 70 | 165 => 103 | 166 => 82 | 167 => 104 | 169 => 84 | 230 => 105 | 203 => 106 | 240 => 112 | 241 => 145 | 197 => 146 | 118 => 147 | 168 => 148 | 270 => 149 | 262 => 150 | 276 => 156 | 277 => 168 | 260 => 169 | 242 => 170 | 313 => 171 | 278 => 182 | 274 => 183 | 275 => 184 | n => n, fun | 9 => 9 | 4 => 4 | 3 => 3 | 5 => 5 | 72 => 116 | 0 => 0 | 76 => 120 | 75 => 119 | 107 => 136 | 70 => 114 | 20 => 20 | 37 => 86 | 127 => 156 | 21 => 21 | 105 => 187 | 164 => 196 | 162 => 211 | 203 => 209 | 119 => 220 | 46 => 126 | 139 => 233 | 138 => 232 | 51 => 140 | 160 => 234 | 208 => 254 | 206 => 252 | 80 => 123 | n => n, fun | 13 => 1 | 3 => 2 | 4 => 3 | n => n⟩
theorem Tryz.lays158 : Go.Proofs.Lays.n158 Tryz.prog Tryz.lays158_ren := {
  mixed := by kernel_rfl
  f118 := Tryz.func147.trans (congrArg some (by kernel_rfl))
  f158 := Tryz.func70.trans (congrArg some (by kernel_rfl))
  f165 := Tryz.func103.trans (congrArg some (by kernel_rfl))
  f166 := Tryz.func82.trans (congrArg some (by kernel_rfl))
  f167 := Tryz.func104.trans (congrArg some (by kernel_rfl))
  f168 := Tryz.func148.trans (congrArg some (by kernel_rfl))
  f169 := Tryz.func84.trans (congrArg some (by kernel_rfl))
  f197 := Tryz.func146.trans (congrArg some (by kernel_rfl))
  f203 := Tryz.func106.trans (congrArg some (by kernel_rfl))
  f230 := Tryz.func105.trans (congrArg some (by kernel_rfl))
  f240 := Tryz.func112.trans (congrArg some (by kernel_rfl))
  f241 := Tryz.func145.trans (congrArg some (by kernel_rfl))
  f242 := Tryz.func170.trans (congrArg some (by kernel_rfl))
  f260 := Tryz.func169.trans (congrArg some (by kernel_rfl))
  f262 := Tryz.func150.trans (congrArg some (by kernel_rfl))
  f270 := Tryz.func149.trans (congrArg some (by kernel_rfl))
  f274 := Tryz.func183.trans (congrArg some (by kernel_rfl))
  f275 := Tryz.func184.trans (congrArg some (by kernel_rfl))
  f276 := Tryz.func156.trans (congrArg some (by kernel_rfl))
  f277 := Tryz.func168.trans (congrArg some (by kernel_rfl))
  f278 := Tryz.func182.trans (congrArg some (by kernel_rfl))
  f313 := Tryz.func171.trans (congrArg some (by kernel_rfl))
  t0 := Tryz.underlying0
  a0 := Tryz.isAgg0
  z0 := Tryz.sizeOf0
  v0 := Tryz.zeroValue0
  t3 := Tryz.underlying3
  a3 := Tryz.isAgg3
  z3 := Tryz.sizeOf3
  v3 := Tryz.zeroValue3
  t4 := Tryz.underlying4
  a4 := Tryz.isAgg4
  z4 := Tryz.sizeOf4
  v4 := Tryz.zeroValue4
  t5 := Tryz.underlying5
  a5 := Tryz.isAgg5
  z5 := Tryz.sizeOf5
  v5 := Tryz.zeroValue5
  t9 := Tryz.underlying9
  a9 := Tryz.isAgg9
  z9 := Tryz.sizeOf9
  v9 := Tryz.zeroValue9
  t20 := Tryz.underlying20
  a20 := Tryz.isAgg20
  z20 := Tryz.sizeOf20
  v20 := Tryz.zeroValue20
  t21 := Tryz.underlying21
  a21 := Tryz.isAgg21
  z21 := Tryz.sizeOf21
  v21 := Tryz.zeroValue21
  t37 := Tryz.underlying86
  a37 := Tryz.isAgg86
  z37 := Tryz.sizeOf86
  v37 := Tryz.zeroValue86
  t46 := Tryz.underlying126
  a46 := Tryz.isAgg126
  z46 := Tryz.sizeOf126
  v46 := Tryz.zeroValue126
  t51 := Tryz.underlying140
  a51 := Tryz.isAgg140
  z51 := Tryz.sizeOf140
  v51 := Tryz.zeroValue140
  t70 := Tryz.underlying114
  a70 := Tryz.isAgg114
  z70 := Tryz.sizeOf114
  v70 := Tryz.zeroValue114
  t72 := Tryz.underlying116
  a72 := Tryz.isAgg116
  z72 := Tryz.sizeOf116
  v72 := Tryz.zeroValue116
  t75 := Tryz.underlying119
  a75 := Tryz.isAgg119
  z75 := Tryz.sizeOf119
  v75 := Tryz.zeroValue119
  t76 := Tryz.underlying120
  a76 := Tryz.isAgg120
  z76 := Tryz.sizeOf120
  v76 := Tryz.zeroValue120
  t105 := Tryz.underlying187
  a105 := Tryz.isAgg187
  z105 := Tryz.sizeOf187
  v105 := Tryz.zeroValue187
  t107 := Tryz.underlying136
  a107 := Tryz.isAgg136
  z107 := Tryz.sizeOf136
  v107 := Tryz.zeroValue136
  t119 := Tryz.underlying220
  a119 := Tryz.isAgg220
  z119 := Tryz.sizeOf220
  t127 := Tryz.underlying156
  a127 := Tryz.isAgg156
  z127 := Tryz.sizeOf156
  v127 := Tryz.zeroValue156
  t138 := Tryz.underlying232
  a138 := Tryz.isAgg232
  z138 := Tryz.sizeOf232
  v138 := Tryz.zeroValue232
  t139 := Tryz.underlying233
  a139 := Tryz.isAgg233
  z139 := Tryz.sizeOf233
  v139 := Tryz.zeroValue233
  t160 := Tryz.underlying234
  a160 := Tryz.isAgg234
  z160 := Tryz.sizeOf234
  v160 := Tryz.zeroValue234
  t162 := Tryz.underlying211
  a162 := Tryz.isAgg211
  z162 := Tryz.sizeOf211
  v162 := Tryz.zeroValue211
  t164 := Tryz.underlying196
  a164 := Tryz.isAgg196
  z164 := Tryz.sizeOf196
  v164 := Tryz.zeroValue196
  t203 := Tryz.underlying209
  a203 := Tryz.isAgg209
  z203 := Tryz.sizeOf209
  v203 := Tryz.zeroValue209
  t206 := Tryz.underlying252
  a206 := Tryz.isAgg252
  z206 := Tryz.sizeOf252
  v206 := Tryz.zeroValue252
  t208 := Tryz.underlying254
  a208 := Tryz.isAgg254
  z208 := Tryz.sizeOf254
  v208 := Tryz.zeroValue254
  g3 := by kernel_rfl
  g4 := by kernel_rfl
  g13 := by kernel_rfl }
theorem Tryz.Builder_Extra_158 : Builder.Extra Tryz.prog Tryz.lays158_ren := {
  sizeBuilder := by kernel_rfl
  liesBuilder := by kernel_rfl
  t5 := Tryz.underlying5
  a5 := Tryz.isAgg5
  z5 := Tryz.sizeOf5
  v5 := Tryz.zeroValue5
  infoByte := by kernel_rfl
  cellsByte := by kernel_rfl
  sizeByte := by kernel_rfl
  neB5 := by decide }
open Go.RowKit in
/-- strings.ToUpper: "ToUpper returns s with all Unicode letters mapped to their upper case.": ON ASCII TEXT OF AT MOST 2^47 BYTES. Below the heap's end the world is as it was: where a letter turns, the call makes a builder and its buffer. (LAID: no walk: one application.) -/
theorem Tryz.strings_ToUpper_ascii (s : ByteArray) (w : World) (hs : s.size ≤ 140737488355328) (hascii : ∀ (j : Nat) (b : UInt8), s.data.toList[j]? = some b → b.toNat < 128) :
    Calls Tryz.prog 70 #[.string s] w fun e w' => e = .returned (.string ⟨(Lib.toUpperA s.data.toList).toArray⟩) ∧ Below w.heap.size w w' := Any.strings_ToUpper_ascii Tryz.lays158 Tryz.Builder_Extra_158 s w hs hascii
def Tryz.lays156_ren : Go.Shelf.Ren := ⟨fun | 156 => 78 | 165 => 103 | 166 => 82 | 169 => 84 | 240 => 112 | 241 => 145 | 276 => 156 | 277 => 168 | n => n, fun | 31 => 31 | 9 => 9 | 3 => 3 | 4 => 4 | 0 => 0 | 20 => 20 | 72 => 116 | 76 => 120 | 70 => 114 | 37 => 86 | 75 => 119 | 127 => 156 | 164 => 196 | 5 => 5 | 80 => 123 | n => n, fun | n => n⟩
theorem Tryz.lays156 : Go.Proofs.Lays.n156 Tryz.prog Tryz.lays156_ren := {
  mixed := by kernel_rfl
  f156 := Tryz.func78.trans (congrArg some (by kernel_rfl))
  f165 := Tryz.func103.trans (congrArg some (by kernel_rfl))
  f166 := Tryz.func82.trans (congrArg some (by kernel_rfl))
  f169 := Tryz.func84.trans (congrArg some (by kernel_rfl))
  f240 := Tryz.func112.trans (congrArg some (by kernel_rfl))
  f241 := Tryz.func145.trans (congrArg some (by kernel_rfl))
  f276 := Tryz.func156.trans (congrArg some (by kernel_rfl))
  f277 := Tryz.func168.trans (congrArg some (by kernel_rfl))
  t0 := Tryz.underlying0
  a0 := Tryz.isAgg0
  z0 := Tryz.sizeOf0
  v0 := Tryz.zeroValue0
  t3 := Tryz.underlying3
  a3 := Tryz.isAgg3
  z3 := Tryz.sizeOf3
  v3 := Tryz.zeroValue3
  t4 := Tryz.underlying4
  a4 := Tryz.isAgg4
  z4 := Tryz.sizeOf4
  v4 := Tryz.zeroValue4
  t9 := Tryz.underlying9
  a9 := Tryz.isAgg9
  z9 := Tryz.sizeOf9
  v9 := Tryz.zeroValue9
  t20 := Tryz.underlying20
  a20 := Tryz.isAgg20
  z20 := Tryz.sizeOf20
  v20 := Tryz.zeroValue20
  t31 := Tryz.underlying31
  a31 := Tryz.isAgg31
  z31 := Tryz.sizeOf31
  v31 := Tryz.zeroValue31
  t37 := Tryz.underlying86
  a37 := Tryz.isAgg86
  z37 := Tryz.sizeOf86
  v37 := Tryz.zeroValue86
  t70 := Tryz.underlying114
  a70 := Tryz.isAgg114
  z70 := Tryz.sizeOf114
  v70 := Tryz.zeroValue114
  t72 := Tryz.underlying116
  a72 := Tryz.isAgg116
  z72 := Tryz.sizeOf116
  v72 := Tryz.zeroValue116
  t75 := Tryz.underlying119
  a75 := Tryz.isAgg119
  z75 := Tryz.sizeOf119
  v75 := Tryz.zeroValue119
  t76 := Tryz.underlying120
  a76 := Tryz.isAgg120
  z76 := Tryz.sizeOf120
  v76 := Tryz.zeroValue120
  t127 := Tryz.underlying156
  a127 := Tryz.isAgg156
  z127 := Tryz.sizeOf156
  v127 := Tryz.zeroValue156
  t164 := Tryz.underlying196
  a164 := Tryz.isAgg196
  z164 := Tryz.sizeOf196
  v164 := Tryz.zeroValue196 }
theorem Tryz.Builder_Extra_156 : Builder.Extra Tryz.prog Tryz.lays156_ren := {
  sizeBuilder := by kernel_rfl
  liesBuilder := by kernel_rfl
  t5 := Tryz.underlying5
  a5 := Tryz.isAgg5
  z5 := Tryz.sizeOf5
  v5 := Tryz.zeroValue5
  infoByte := by kernel_rfl
  cellsByte := by kernel_rfl
  sizeByte := by kernel_rfl
  neB5 := by decide }
open Go.RowKit in
/-- No element: the empty string; the world is as it was. (Whatever the slice's address and capacity: a nil slice too.) (LAID: no walk: one application.) -/
theorem Tryz.strings_Join_none (a : Option Addr) (c : Nat) (sep : ByteArray) (w : World) :
    Calls Tryz.prog 78 #[.slice a 0 c, .string sep] w fun e w' => e = .returned (.string ⟨#[]⟩) ∧ w' = w := Any.strings_Join_none Tryz.lays156 Tryz.Builder_Extra_156 a c sep w
open Go.RowKit in
/-- strings.Join: "Join concatenates the elements of its first argument to create a single string. The separator string sep is placed between elements in the resulting string.": HOWEVER MANY ELEMENTS. Below the heap's end the world is as it was. (LAID: no walk: one application.) -/
theorem Tryz.strings_Join (bk o c : Nat) (xs : List ByteArray) (sep : ByteArray) (w : World) (hcells : ∀ (j : Nat) x, xs[j]? = some x → w.cell? ⟨bk, o + j, none⟩ = some (.string x)) (hbk : bk < w.heap.size) (hN : xs.length ≤ 140737488355328) (hcap : xs.length ≤ c) (hlen : (Lib.join (xs.map (·.data.toList)) sep.data.toList).length ≤ 140737488355328) :
    Calls Tryz.prog 78 #[.slice (some ⟨bk, o, none⟩) xs.length c, .string sep] w fun e w' => e = .returned (.string ⟨(Lib.join (xs.map (·.data.toList)) sep.data.toList).toArray⟩) ∧ Below w.heap.size w w' := Any.strings_Join Tryz.lays156 Tryz.Builder_Extra_156 bk o c xs sep w hcells hbk hN hcap hlen
def Tryz.lays161_ren : Go.Shelf.Ren := ⟨fun | 161 => 90 | 231 => 125 | 227 => 127 | 233 => 128 | 235 => 130 | 228 => 163 | 197 => 146 | 151 => 69 | 260 => 169 | 152 => 102 | 137 => 77 | 119 => 142 | 224 => 143 | 225 => 144 | 217 => 109 | 266 => 154 | n => n, fun | 9 => 9 | 4 => 4 | 3 => 3 | 5 => 5 | 117 => 175 | 116 => 174 | 0 => 0 | 124 => 178 | 105 => 187 | 21 => 21 | 119 => 220 | 46 => 126 | 139 => 233 | 138 => 232 | n => n, fun | 3 => 2 | 4 => 3 | n => n⟩
theorem Tryz.lays161 : Go.Proofs.Lays.n161 Tryz.prog Tryz.lays161_ren := {
  mixed := by kernel_rfl
  f119 := Tryz.func142.trans (congrArg some (by kernel_rfl))
  f137 := Tryz.func77.trans (congrArg some (by kernel_rfl))
  f151 := Tryz.func69.trans (congrArg some (by kernel_rfl))
  f152 := Tryz.func102.trans (congrArg some (by kernel_rfl))
  f161 := Tryz.func90.trans (congrArg some (by kernel_rfl))
  f197 := Tryz.func146.trans (congrArg some (by kernel_rfl))
  f217 := Tryz.func109.trans (congrArg some (by kernel_rfl))
  f224 := Tryz.func143.trans (congrArg some (by kernel_rfl))
  f225 := Tryz.func144.trans (congrArg some (by kernel_rfl))
  f227 := Tryz.func127.trans (congrArg some (by kernel_rfl))
  f228 := Tryz.func163.trans (congrArg some (by kernel_rfl))
  f231 := Tryz.func125.trans (congrArg some (by kernel_rfl))
  f233 := Tryz.func128.trans (congrArg some (by kernel_rfl))
  f235 := Tryz.func130.trans (congrArg some (by kernel_rfl))
  f260 := Tryz.func169.trans (congrArg some (by kernel_rfl))
  f266 := Tryz.func154.trans (congrArg some (by kernel_rfl))
  t0 := Tryz.underlying0
  a0 := Tryz.isAgg0
  z0 := Tryz.sizeOf0
  v0 := Tryz.zeroValue0
  t3 := Tryz.underlying3
  a3 := Tryz.isAgg3
  z3 := Tryz.sizeOf3
  v3 := Tryz.zeroValue3
  t4 := Tryz.underlying4
  a4 := Tryz.isAgg4
  z4 := Tryz.sizeOf4
  v4 := Tryz.zeroValue4
  t5 := Tryz.underlying5
  a5 := Tryz.isAgg5
  z5 := Tryz.sizeOf5
  v5 := Tryz.zeroValue5
  t9 := Tryz.underlying9
  a9 := Tryz.isAgg9
  z9 := Tryz.sizeOf9
  v9 := Tryz.zeroValue9
  t21 := Tryz.underlying21
  a21 := Tryz.isAgg21
  z21 := Tryz.sizeOf21
  v21 := Tryz.zeroValue21
  t46 := Tryz.underlying126
  a46 := Tryz.isAgg126
  z46 := Tryz.sizeOf126
  v46 := Tryz.zeroValue126
  t105 := Tryz.underlying187
  a105 := Tryz.isAgg187
  z105 := Tryz.sizeOf187
  v105 := Tryz.zeroValue187
  t116 := Tryz.underlying174
  a116 := Tryz.isAgg174
  z116 := Tryz.sizeOf174
  t117 := Tryz.underlying175
  a117 := Tryz.isAgg175
  z117 := Tryz.sizeOf175
  v117 := Tryz.zeroValue175
  t119 := Tryz.underlying220
  a119 := Tryz.isAgg220
  z119 := Tryz.sizeOf220
  t124 := Tryz.underlying178
  a124 := Tryz.isAgg178
  z124 := Tryz.sizeOf178
  v124 := Tryz.zeroValue178
  t138 := Tryz.underlying232
  a138 := Tryz.isAgg232
  z138 := Tryz.sizeOf232
  v138 := Tryz.zeroValue232
  t139 := Tryz.underlying233
  a139 := Tryz.isAgg233
  z139 := Tryz.sizeOf233
  v139 := Tryz.zeroValue233
  g3 := by kernel_rfl
  g4 := by kernel_rfl }
open Go.RowKit in
/-- strings.TrimLeft: "TrimLeft returns a slice of the string s with all leading Unicode code points contained in cutset removed.": AT A cutset OF ONE ASCII BYTE. The world is as it was. (LAID: no walk: one application.) -/
theorem Tryz.strings_TrimLeft_one (s : ByteArray) (c : UInt8) (hc : c.toNat < 128) (w : World) :
    Calls Tryz.prog 90 #[.string s, .string ⟨#[c]⟩] w fun e w' => e = .returned (.string ⟨(Lib.trimLeftB s.data.toList c).toArray⟩) ∧ w' = w := Any.strings_TrimLeft_one Tryz.lays161 s c hc w
def Tryz.lays160_ren : Go.Shelf.Ren := ⟨fun | 160 => 89 | 232 => 126 | 231 => 125 | 227 => 127 | 234 => 129 | 233 => 128 | 236 => 131 | 235 => 130 | 228 => 163 | 271 => 164 | 151 => 69 | 197 => 146 | 120 => 180 | 152 => 102 | 260 => 169 | 137 => 77 | 119 => 142 | 224 => 143 | 225 => 144 | 217 => 109 | 266 => 154 | n => n, fun | 9 => 9 | 4 => 4 | 3 => 3 | 5 => 5 | 117 => 175 | 116 => 174 | 0 => 0 | 124 => 178 | 21 => 21 | 105 => 187 | 46 => 126 | 119 => 220 | 139 => 233 | 138 => 232 | n => n, fun | 3 => 2 | 4 => 3 | n => n⟩
theorem Tryz.lays160 : Go.Proofs.Lays.n160 Tryz.prog Tryz.lays160_ren := {
  mixed := by kernel_rfl
  f119 := Tryz.func142.trans (congrArg some (by kernel_rfl))
  f120 := Tryz.func180.trans (congrArg some (by kernel_rfl))
  f137 := Tryz.func77.trans (congrArg some (by kernel_rfl))
  f151 := Tryz.func69.trans (congrArg some (by kernel_rfl))
  f152 := Tryz.func102.trans (congrArg some (by kernel_rfl))
  f160 := Tryz.func89.trans (congrArg some (by kernel_rfl))
  f197 := Tryz.func146.trans (congrArg some (by kernel_rfl))
  f217 := Tryz.func109.trans (congrArg some (by kernel_rfl))
  f224 := Tryz.func143.trans (congrArg some (by kernel_rfl))
  f225 := Tryz.func144.trans (congrArg some (by kernel_rfl))
  f227 := Tryz.func127.trans (congrArg some (by kernel_rfl))
  f228 := Tryz.func163.trans (congrArg some (by kernel_rfl))
  f231 := Tryz.func125.trans (congrArg some (by kernel_rfl))
  f232 := Tryz.func126.trans (congrArg some (by kernel_rfl))
  f233 := Tryz.func128.trans (congrArg some (by kernel_rfl))
  f234 := Tryz.func129.trans (congrArg some (by kernel_rfl))
  f235 := Tryz.func130.trans (congrArg some (by kernel_rfl))
  f236 := Tryz.func131.trans (congrArg some (by kernel_rfl))
  f260 := Tryz.func169.trans (congrArg some (by kernel_rfl))
  f266 := Tryz.func154.trans (congrArg some (by kernel_rfl))
  f271 := Tryz.func164.trans (congrArg some (by kernel_rfl))
  t0 := Tryz.underlying0
  a0 := Tryz.isAgg0
  z0 := Tryz.sizeOf0
  v0 := Tryz.zeroValue0
  t3 := Tryz.underlying3
  a3 := Tryz.isAgg3
  z3 := Tryz.sizeOf3
  v3 := Tryz.zeroValue3
  t4 := Tryz.underlying4
  a4 := Tryz.isAgg4
  z4 := Tryz.sizeOf4
  v4 := Tryz.zeroValue4
  t5 := Tryz.underlying5
  a5 := Tryz.isAgg5
  z5 := Tryz.sizeOf5
  v5 := Tryz.zeroValue5
  t9 := Tryz.underlying9
  a9 := Tryz.isAgg9
  z9 := Tryz.sizeOf9
  v9 := Tryz.zeroValue9
  t21 := Tryz.underlying21
  a21 := Tryz.isAgg21
  z21 := Tryz.sizeOf21
  v21 := Tryz.zeroValue21
  t46 := Tryz.underlying126
  a46 := Tryz.isAgg126
  z46 := Tryz.sizeOf126
  v46 := Tryz.zeroValue126
  t105 := Tryz.underlying187
  a105 := Tryz.isAgg187
  z105 := Tryz.sizeOf187
  v105 := Tryz.zeroValue187
  t116 := Tryz.underlying174
  a116 := Tryz.isAgg174
  z116 := Tryz.sizeOf174
  t117 := Tryz.underlying175
  a117 := Tryz.isAgg175
  z117 := Tryz.sizeOf175
  v117 := Tryz.zeroValue175
  t119 := Tryz.underlying220
  a119 := Tryz.isAgg220
  z119 := Tryz.sizeOf220
  t124 := Tryz.underlying178
  a124 := Tryz.isAgg178
  z124 := Tryz.sizeOf178
  v124 := Tryz.zeroValue178
  t138 := Tryz.underlying232
  a138 := Tryz.isAgg232
  z138 := Tryz.sizeOf232
  v138 := Tryz.zeroValue232
  t139 := Tryz.underlying233
  a139 := Tryz.isAgg233
  z139 := Tryz.sizeOf233
  v139 := Tryz.zeroValue233
  g3 := by kernel_rfl
  g4 := by kernel_rfl }
def Tryz.lays119_ren : Go.Shelf.Ren := ⟨fun | 119 => 142 | n => n, fun | 21 => 21 | 4 => 4 | n => n, fun | n => n⟩
theorem Tryz.lays119 : Go.Proofs.Lays.n119 Tryz.prog Tryz.lays119_ren := {
  mixed := by kernel_rfl
  f119 := Tryz.func142.trans (congrArg some (by kernel_rfl))
  t4 := Tryz.underlying4
  a4 := Tryz.isAgg4
  z4 := Tryz.sizeOf4
  v4 := Tryz.zeroValue4
  t21 := Tryz.underlying21
  a21 := Tryz.isAgg21
  z21 := Tryz.sizeOf21
  v21 := Tryz.zeroValue21 }
/-- utf8.ValidRune: "ValidRune reports whether r can be legally encoded as UTF-8. Code points that are out of range or a surrogate half are illegal.": IT RETURNS 'Lib.validRune r'; the world is as it was. (LAID: no walk: one application.) -/
theorem Tryz.utf8_ValidRune (r : Int) (w : World) :
    Calls Tryz.prog 142 #[.int .i32 r] w fun e w' => e = .returned (.bool (Lib.validRune r)) ∧ w' = w := Any.utf8_ValidRune Tryz.lays119 r w
def Tryz.lays137_ren : Go.Shelf.Ren := ⟨fun | 137 => 77 | 217 => 109 | 266 => 154 | n => n, fun | 9 => 9 | 5 => 5 | 3 => 3 | n => n, fun | n => n⟩
theorem Tryz.lays137 : Go.Proofs.Lays.n137 Tryz.prog Tryz.lays137_ren := {
  mixed := by kernel_rfl
  f137 := Tryz.func77.trans (congrArg some (by kernel_rfl))
  f217 := Tryz.func109.trans (congrArg some (by kernel_rfl))
  f266 := Tryz.func154.trans (congrArg some (by kernel_rfl))
  t3 := Tryz.underlying3
  a3 := Tryz.isAgg3
  z3 := Tryz.sizeOf3
  v3 := Tryz.zeroValue3
  t5 := Tryz.underlying5
  a5 := Tryz.isAgg5
  z5 := Tryz.sizeOf5
  v5 := Tryz.zeroValue5
  t9 := Tryz.underlying9
  a9 := Tryz.isAgg9
  z9 := Tryz.sizeOf9
  v9 := Tryz.zeroValue9 }
open Go.RowKit in
/-- strings.IndexByte: "IndexByte returns the index of the first instance of c in s, or -1 if c is not present in s.": IT RETURNS 'Lib.indexByte s c'; the world is as it was. (LAID: no walk: one application.) -/
theorem Tryz.strings_IndexByte (s : ByteArray) (c : Int) (w : World) :
    Calls Tryz.prog 77 #[.string s, .int .u8 c] w fun e w' => e = .returned (.int .i64 (Lib.indexByte s.data.toList c.toNat.toUInt8)) ∧ w' = w := Any.strings_IndexByte Tryz.lays137 s c w
def Tryz.lays122_ren : Go.Shelf.Ren := ⟨fun | 122 => 92 | 215 => 140 | n => n, fun | 3 => 3 | 4 => 4 | n => n, fun | n => n⟩
theorem Tryz.lays122 : Go.Proofs.Lays.n122 Tryz.prog Tryz.lays122_ren := {
  mixed := by kernel_rfl
  f122 := Tryz.func92.trans (congrArg some (by kernel_rfl))
  f215 := Tryz.func140.trans (congrArg some (by kernel_rfl))
  t3 := Tryz.underlying3
  a3 := Tryz.isAgg3
  z3 := Tryz.sizeOf3
  v3 := Tryz.zeroValue3
  t4 := Tryz.underlying4
  a4 := Tryz.isAgg4
  z4 := Tryz.sizeOf4
  v4 := Tryz.zeroValue4 }
open Go.RowKit in
/-- cmp.Compare at int: "Compare returns -1 if x is less than y, 0 if x equals y, +1 if x is greater than y.": IT RETURNS 'Lib.compareInt x y'; the world is as it was. (LAID: no walk: one application.) -/
theorem Tryz.cmp_Compare_int (x y : Int) (w : World) :
    Calls Tryz.prog 92 #[.int .i64 x, .int .i64 y] w fun e w' => e = .returned (.int .i64 (Lib.compareInt x y)) ∧ w' = w := Any.cmp_Compare_int Tryz.lays122 x y w
def Tryz.lays219_ren : Go.Shelf.Ren := ⟨fun | 219 => 191 | 217 => 109 | 225 => 144 | 224 => 143 | 267 => 202 | 266 => 154 | 314 => 211 | n => n, fun | 9 => 9 | 3 => 3 | 4 => 4 | 5 => 5 | 46 => 126 | 146 => 267 | 51 => 140 | n => n, fun | 1 => 0 | n => n⟩
theorem Tryz.lays219 : Go.Proofs.Lays.n219 Tryz.prog Tryz.lays219_ren := {
  mixed := by kernel_rfl
  f217 := Tryz.func109.trans (congrArg some (by kernel_rfl))
  f219 := Tryz.func191.trans (congrArg some (by kernel_rfl))
  f224 := Tryz.func143.trans (congrArg some (by kernel_rfl))
  f225 := Tryz.func144.trans (congrArg some (by kernel_rfl))
  f266 := Tryz.func154.trans (congrArg some (by kernel_rfl))
  f267 := Tryz.func202.trans (congrArg some (by kernel_rfl))
  f314 := Tryz.func211.trans (congrArg some (by kernel_rfl))
  t3 := Tryz.underlying3
  a3 := Tryz.isAgg3
  z3 := Tryz.sizeOf3
  v3 := Tryz.zeroValue3
  t4 := Tryz.underlying4
  a4 := Tryz.isAgg4
  z4 := Tryz.sizeOf4
  v4 := Tryz.zeroValue4
  t5 := Tryz.underlying5
  a5 := Tryz.isAgg5
  z5 := Tryz.sizeOf5
  v5 := Tryz.zeroValue5
  t9 := Tryz.underlying9
  a9 := Tryz.isAgg9
  z9 := Tryz.sizeOf9
  v9 := Tryz.zeroValue9
  t46 := Tryz.underlying126
  a46 := Tryz.isAgg126
  z46 := Tryz.sizeOf126
  v46 := Tryz.zeroValue126
  t51 := Tryz.underlying140
  a51 := Tryz.isAgg140
  z51 := Tryz.sizeOf140
  v51 := Tryz.zeroValue140
  t146 := Tryz.underlying267
  a146 := Tryz.isAgg267
  z146 := Tryz.sizeOf267
  v146 := Tryz.zeroValue267
  g1 := by kernel_rfl }
open Go.RowKit Go.Lib in
/-- internal/stringslite.Index (what strings.Index calls) AT A substr OF ONE BYTE c: IT RETURNS 'Lib.indexByte s c'; the world is as it was. (LAID: no walk: one application.) -/
theorem Tryz.stringslite_Index_one (s : ByteArray) (c : UInt8) (w : World) :
    Calls Tryz.prog 191 #[.string s, .string ⟨#[c]⟩] w fun e w' => e = .returned (.int .i64 (Lib.indexByte s.data.toList c)) ∧ w' = w := Any.stringslite_Index_one Tryz.lays219 s c w
def Tryz.lays138_ren : Go.Shelf.Ren := ⟨fun | 138 => 238 | 195 => 239 | 218 => 240 | 143 => 241 | 219 => 191 | 217 => 109 | 225 => 144 | 224 => 143 | 267 => 202 | 266 => 154 | 314 => 211 | n => n, fun | 9 => 9 | 3 => 3 | 4 => 4 | 5 => 5 | 0 => 0 | 46 => 126 | 146 => 267 | 51 => 140 | n => n, fun | 1 => 0 | n => n⟩
theorem Tryz.lays138 : Go.Proofs.Lays.n138 Tryz.prog Tryz.lays138_ren := {
  mixed := by kernel_rfl
  f138 := Tryz.func238.trans (congrArg some (by kernel_rfl))
  f143 := Tryz.func241.trans (congrArg some (by kernel_rfl))
  f195 := Tryz.func239.trans (congrArg some (by kernel_rfl))
  f217 := Tryz.func109.trans (congrArg some (by kernel_rfl))
  f218 := Tryz.func240.trans (congrArg some (by kernel_rfl))
  f219 := Tryz.func191.trans (congrArg some (by kernel_rfl))
  f224 := Tryz.func143.trans (congrArg some (by kernel_rfl))
  f225 := Tryz.func144.trans (congrArg some (by kernel_rfl))
  f266 := Tryz.func154.trans (congrArg some (by kernel_rfl))
  f267 := Tryz.func202.trans (congrArg some (by kernel_rfl))
  f314 := Tryz.func211.trans (congrArg some (by kernel_rfl))
  t0 := Tryz.underlying0
  a0 := Tryz.isAgg0
  z0 := Tryz.sizeOf0
  v0 := Tryz.zeroValue0
  t3 := Tryz.underlying3
  a3 := Tryz.isAgg3
  z3 := Tryz.sizeOf3
  v3 := Tryz.zeroValue3
  t4 := Tryz.underlying4
  a4 := Tryz.isAgg4
  z4 := Tryz.sizeOf4
  v4 := Tryz.zeroValue4
  t5 := Tryz.underlying5
  a5 := Tryz.isAgg5
  z5 := Tryz.sizeOf5
  v5 := Tryz.zeroValue5
  t9 := Tryz.underlying9
  a9 := Tryz.isAgg9
  z9 := Tryz.sizeOf9
  v9 := Tryz.zeroValue9
  t46 := Tryz.underlying126
  a46 := Tryz.isAgg126
  z46 := Tryz.sizeOf126
  v46 := Tryz.zeroValue126
  t51 := Tryz.underlying140
  a51 := Tryz.isAgg140
  z51 := Tryz.sizeOf140
  v51 := Tryz.zeroValue140
  t146 := Tryz.underlying267
  a146 := Tryz.isAgg267
  z146 := Tryz.sizeOf267
  v146 := Tryz.zeroValue267
  g1 := by kernel_rfl }
open Go.RowKit Go.Lib in
/-- strings.Count AT A substr OF ONE BYTE ('hp'): "Count counts the number of non-overlapping instances of substr in s.": IT RETURNS 'Lib.countByte s (that byte)'; the world is as it was. ✋ NO CONTRACT HERE YET at an empty substr (utf8.RuneCountInString) or at a longer one (a loop over strings.Index). (LAID: no walk: one application.) -/
theorem Tryz.strings_Count_one (s : ByteArray) (c : UInt8) (w : World) :
    Calls Tryz.prog 238 #[.string s, .string ⟨#[c]⟩] w fun e w' => e = .returned (.int .i64 (Lib.countByte s.data.toList c)) ∧ w' = w := Any.strings_Count_one Tryz.lays138 s c w
def Tryz.lays190_ren : Go.Shelf.Ren := ⟨fun | 190 => 45 | 125 => 87 | 258 => 86 | 128 => 122 | 129 => 123 | 302 => 113 | 303 => 114 | 304 => 115 | 305 => 116 | 306 => 117 | 307 => 118 | 308 => 119 | 309 => 120 | 310 => 121 | 333 => 157 | 329 => 158 | 330 => 159 | 334 => 160 | 335 => 161 | 336 => 162 | 344 => 179 | n => n, fun | 31 => 31 | 9 => 9 | 3 => 3 | 46 => 126 | 0 => 0 | 51 => 140 | 53 => 168 | 4 => 4 | 183 => 159 | 182 => 158 | 131 => 164 | 5 => 5 | 218 => 198 | 222 => 202 | 228 => 227 | 229 => 228 | n => n, fun | n => n⟩
theorem Tryz.lays190 : Go.Proofs.Lays.n190 Tryz.prog Tryz.lays190_ren := {
  mixed := by kernel_rfl
  f125 := Tryz.func87.trans (congrArg some (by kernel_rfl))
  f128 := Tryz.func122.trans (congrArg some (by kernel_rfl))
  f129 := Tryz.func123.trans (congrArg some (by kernel_rfl))
  f190 := Tryz.func45.trans (congrArg some (by kernel_rfl))
  f258 := Tryz.func86.trans (congrArg some (by kernel_rfl))
  f302 := Tryz.func113.trans (congrArg some (by kernel_rfl))
  f303 := Tryz.func114.trans (congrArg some (by kernel_rfl))
  f304 := Tryz.func115.trans (congrArg some (by kernel_rfl))
  f305 := Tryz.func116.trans (congrArg some (by kernel_rfl))
  f306 := Tryz.func117.trans (congrArg some (by kernel_rfl))
  f307 := Tryz.func118.trans (congrArg some (by kernel_rfl))
  f308 := Tryz.func119.trans (congrArg some (by kernel_rfl))
  f309 := Tryz.func120.trans (congrArg some (by kernel_rfl))
  f310 := Tryz.func121.trans (congrArg some (by kernel_rfl))
  f329 := Tryz.func158.trans (congrArg some (by kernel_rfl))
  f330 := Tryz.func159.trans (congrArg some (by kernel_rfl))
  f333 := Tryz.func157.trans (congrArg some (by kernel_rfl))
  f334 := Tryz.func160.trans (congrArg some (by kernel_rfl))
  f335 := Tryz.func161.trans (congrArg some (by kernel_rfl))
  f336 := Tryz.func162.trans (congrArg some (by kernel_rfl))
  f344 := Tryz.func179.trans (congrArg some (by kernel_rfl))
  t0 := Tryz.underlying0
  a0 := Tryz.isAgg0
  z0 := Tryz.sizeOf0
  v0 := Tryz.zeroValue0
  t3 := Tryz.underlying3
  a3 := Tryz.isAgg3
  z3 := Tryz.sizeOf3
  v3 := Tryz.zeroValue3
  t4 := Tryz.underlying4
  a4 := Tryz.isAgg4
  z4 := Tryz.sizeOf4
  v4 := Tryz.zeroValue4
  t5 := Tryz.underlying5
  a5 := Tryz.isAgg5
  z5 := Tryz.sizeOf5
  v5 := Tryz.zeroValue5
  t9 := Tryz.underlying9
  a9 := Tryz.isAgg9
  z9 := Tryz.sizeOf9
  v9 := Tryz.zeroValue9
  t31 := Tryz.underlying31
  a31 := Tryz.isAgg31
  z31 := Tryz.sizeOf31
  v31 := Tryz.zeroValue31
  t46 := Tryz.underlying126
  a46 := Tryz.isAgg126
  z46 := Tryz.sizeOf126
  v46 := Tryz.zeroValue126
  t51 := Tryz.underlying140
  a51 := Tryz.isAgg140
  z51 := Tryz.sizeOf140
  v51 := Tryz.zeroValue140
  t53 := Tryz.underlying168
  a53 := Tryz.isAgg168
  z53 := Tryz.sizeOf168
  v53 := Tryz.zeroValue168
  t131 := Tryz.underlying164
  a131 := Tryz.isAgg164
  z131 := Tryz.sizeOf164
  v131 := Tryz.zeroValue164
  t182 := Tryz.underlying158
  a182 := Tryz.isAgg158
  z182 := Tryz.sizeOf158
  v182 := Tryz.zeroValue158
  t183 := Tryz.underlying159
  a183 := Tryz.isAgg159
  z183 := Tryz.sizeOf159
  v183 := Tryz.zeroValue159
  t218 := Tryz.underlying198
  a218 := Tryz.isAgg198
  z218 := Tryz.sizeOf198
  v218 := Tryz.zeroValue198
  t222 := Tryz.underlying202
  a222 := Tryz.isAgg202
  z222 := Tryz.sizeOf202
  v222 := Tryz.zeroValue202
  t228 := Tryz.underlying227
  a228 := Tryz.isAgg227
  z228 := Tryz.sizeOf227
  v228 := Tryz.zeroValue227
  t229 := Tryz.underlying228
  a229 := Tryz.isAgg228
  z229 := Tryz.sizeOf228
  v229 := Tryz.zeroValue228 }
open Go.Sort Go.RowKit in
theorem Tryz.slices_Sort_string (blk off cap : Nat) (ss : List (List UInt8)) (w : World) (hH : Holds encStr w blk off ss.toArray) (hblk : blk < w.heap.size) (hsz : ss.length < 4611686018427387904) :
    Calls Tryz.prog 45 #[.slice (some ⟨blk, off, none⟩) ss.length cap] w fun e w' =>
      e = .returned (.tuple #[]) ∧ ∃ n os, w' = grow (putRow encStr (Sort.ahead w n) blk off (ss.mergeSort fun x y => decide (x ≤ y)).toArray) os := Any.slices_Sort_string Tryz.lays190 blk off cap ss w hH hblk hsz
def Tryz.lays151_ren : Go.Shelf.Ren := ⟨fun | 151 => 69 | 152 => 102 | 137 => 77 | 119 => 142 | 224 => 143 | 225 => 144 | 217 => 109 | 266 => 154 | n => n, fun | 9 => 9 | 21 => 21 | 4 => 4 | 3 => 3 | 5 => 5 | 0 => 0 | 46 => 126 | n => n, fun | n => n⟩
theorem Tryz.lays151 : Go.Proofs.Lays.n151 Tryz.prog Tryz.lays151_ren := {
  mixed := by kernel_rfl
  f119 := Tryz.func142.trans (congrArg some (by kernel_rfl))
  f137 := Tryz.func77.trans (congrArg some (by kernel_rfl))
  f151 := Tryz.func69.trans (congrArg some (by kernel_rfl))
  f152 := Tryz.func102.trans (congrArg some (by kernel_rfl))
  f217 := Tryz.func109.trans (congrArg some (by kernel_rfl))
  f224 := Tryz.func143.trans (congrArg some (by kernel_rfl))
  f225 := Tryz.func144.trans (congrArg some (by kernel_rfl))
  f266 := Tryz.func154.trans (congrArg some (by kernel_rfl))
  t0 := Tryz.underlying0
  a0 := Tryz.isAgg0
  z0 := Tryz.sizeOf0
  v0 := Tryz.zeroValue0
  t3 := Tryz.underlying3
  a3 := Tryz.isAgg3
  z3 := Tryz.sizeOf3
  v3 := Tryz.zeroValue3
  t4 := Tryz.underlying4
  a4 := Tryz.isAgg4
  z4 := Tryz.sizeOf4
  v4 := Tryz.zeroValue4
  t5 := Tryz.underlying5
  a5 := Tryz.isAgg5
  z5 := Tryz.sizeOf5
  v5 := Tryz.zeroValue5
  t9 := Tryz.underlying9
  a9 := Tryz.isAgg9
  z9 := Tryz.sizeOf9
  v9 := Tryz.zeroValue9
  t21 := Tryz.underlying21
  a21 := Tryz.isAgg21
  z21 := Tryz.sizeOf21
  v21 := Tryz.zeroValue21
  t46 := Tryz.underlying126
  a46 := Tryz.isAgg126
  z46 := Tryz.sizeOf126
  v46 := Tryz.zeroValue126 }
open Go.RowKit Go.Lib in
theorem Tryz.strings_ContainsRune_ascii (s : ByteArray) (r : Int) (w : World) (h0 : 0 ≤ r) (h1 : r < 128) :
    Calls Tryz.prog 69 #[.string s, .int .i32 r] w fun e w' => e = .returned (.bool (decide (0 ≤ Lib.indexByte s.data.toList r.toNat.toUInt8))) ∧ w' = w := Any.strings_ContainsRune_ascii Tryz.lays151 s r w h0 h1
def Tryz.lays193_ren : Go.Shelf.Ren := ⟨fun | 193 => 59 | n => n, fun | 31 => 31 | 9 => 9 | 4 => 4 | 3 => 3 | 0 => 0 | n => n, fun | n => n⟩
theorem Tryz.lays193 : Go.Proofs.Lays.n193 Tryz.prog Tryz.lays193_ren := {
  mixed := by kernel_rfl
  f193 := Tryz.func59.trans (congrArg some (by kernel_rfl))
  t0 := Tryz.underlying0
  a0 := Tryz.isAgg0
  z0 := Tryz.sizeOf0
  v0 := Tryz.zeroValue0
  t3 := Tryz.underlying3
  a3 := Tryz.isAgg3
  z3 := Tryz.sizeOf3
  v3 := Tryz.zeroValue3
  t4 := Tryz.underlying4
  a4 := Tryz.isAgg4
  z4 := Tryz.sizeOf4
  v4 := Tryz.zeroValue4
  t9 := Tryz.underlying9
  a9 := Tryz.isAgg9
  z9 := Tryz.sizeOf9
  v9 := Tryz.zeroValue9
  t31 := Tryz.underlying31
  a31 := Tryz.isAgg31
  z31 := Tryz.sizeOf31
  v31 := Tryz.zeroValue31 }
open Go.RowKit Go.Lib in
/-- slices.Equal at []string: "Equal reports whether two slices are equal: the same length and all elements equal. If the lengths are different, Equal returns false. Otherwise, the elements are compared in increasing index order, and the comparison stops at the first unequal pair. Empty and nil slices are considered equal.": IT RETURNS WHETHER THE TWO LISTS OF ELEMENTS ARE ONE; the world is as it was but for the count of draws (the test 's1[i] != s2[i]' has two reads, whose order the model draws, once a round). 'xs', 'ys': what the cells behind the two addresses hold (the spare capacity too, if you have it); 'xs.take n', 'ys.take m': the elements. THE TWO SLICES MAY OVERLAP. (LAID: no walk: one application.) -/
theorem Tryz.slices_Equal_string (b1 o1 n c b2 o2 m d : Nat) (xs ys : List ByteArray) (w : World) (hx : n ≤ xs.length) (hy : m ≤ ys.length) (hbig : n ≤ 9223372036854775807) (hbig2 : m ≤ 9223372036854775807) (hc1 : ∀ j, j < xs.length → w.cell? ⟨b1, o1 + j, none⟩ = some (.string (xs.getD j ByteArray.empty))) (hc2 : ∀ j, j < ys.length → w.cell? ⟨b2, o2 + j, none⟩ = some (.string (ys.getD j ByteArray.empty))) :
    Calls Tryz.prog 59 #[.slice (some ⟨b1, o1, none⟩) n c, .slice (some ⟨b2, o2, none⟩) m d] w fun e w' => e = .returned (.bool (decide (xs.take n = ys.take m))) ∧ ∃ q, w' = w.drewN q := Any.slices_Equal_string Tryz.lays193 b1 o1 n c b2 o2 m d xs ys w hx hy hbig hbig2 hc1 hc2
open Go.RowKit Go.Lib in
/-- The same where the first is of length 0 (a nil one too): no cell is asked for. (LAID: no walk: one application.) -/
theorem Tryz.slices_Equal_string_empty (a1 a2 : Option Addr) (c m d : Nat) (w : World) (hbig2 : m ≤ 9223372036854775807) :
    Calls Tryz.prog 59 #[.slice a1 0 c, .slice a2 m d] w fun e w' => e = .returned (.bool (decide (m = 0))) ∧ w' = w := Any.slices_Equal_string_empty Tryz.lays193 a1 a2 c m d w hbig2
def Tryz.lays194_ren : Go.Shelf.Ren := ⟨fun | 194 => 46 | n => n, fun | 31 => 31 | 9 => 9 | 3 => 3 | 4 => 4 | 0 => 0 | n => n, fun | n => n⟩
theorem Tryz.lays194 : Go.Proofs.Lays.n194 Tryz.prog Tryz.lays194_ren := {
  mixed := by kernel_rfl
  f194 := Tryz.func46.trans (congrArg some (by kernel_rfl))
  t0 := Tryz.underlying0
  a0 := Tryz.isAgg0
  z0 := Tryz.sizeOf0
  v0 := Tryz.zeroValue0
  t3 := Tryz.underlying3
  a3 := Tryz.isAgg3
  z3 := Tryz.sizeOf3
  v3 := Tryz.zeroValue3
  t4 := Tryz.underlying4
  a4 := Tryz.isAgg4
  z4 := Tryz.sizeOf4
  v4 := Tryz.zeroValue4
  t9 := Tryz.underlying9
  a9 := Tryz.isAgg9
  z9 := Tryz.sizeOf9
  v9 := Tryz.zeroValue9
  t31 := Tryz.underlying31
  a31 := Tryz.isAgg31
  z31 := Tryz.sizeOf31
  v31 := Tryz.zeroValue31 }
open Go.RowKit Go.Lib Go.Sort in
/-- slices.Compact at []string: "Compact replaces consecutive runs of equal elements with a single copy. This is like the uniq command found on Unix. Compact modifies the contents of the slice s and returns the modified slice, which may have a smaller length. Compact zeroes the elements between the new length and the original length. The result preserves the nilness of s.": IT RETURNS THE SLICE CUT TO 'Lib.compact zs'; ITS CELLS HOLD 'Lib.compact zs', THEN ZERO VALUES up to the old length; all else is as it was, but for the count of draws. IN THE WORDS OF slices.Sort's CONTRACT ('Holds', 'putRow'): so the everyday 'slices.Sort(xs); xs = slices.Compact(xs)' goes from the one contract to the other. It asks 'zs.length ≤ cap' (every slice's: the reslicing 's[:k]' looks at it). Length 0, nil: '.._empty'. (LAID: no walk: one application.) -/
theorem Tryz.slices_Compact_string (blk off cap : Nat) (zs : List (List UInt8)) (w : World) (hH : Holds encStr w blk off zs.toArray) (hsz : zs.length ≤ 9223372036854775807) (hcap : zs.length ≤ cap) :
    Calls Tryz.prog 46 #[.slice (some ⟨blk, off, none⟩) zs.length cap] w fun e w' => e = .returned (.slice (some ⟨blk, off, none⟩) (Lib.compact zs).length cap) ∧ ∃ q, w' = putRow encStr (Sort.ahead w q) blk off (Lib.compact zs ++ List.replicate (zs.length - (Lib.compact zs).length) []).toArray := Any.slices_Compact_string Tryz.lays194 blk off cap zs w hH hsz hcap
open Go.RowKit Go.Lib Go.Sort in
/-- The same at a slice of length 0, a nil one too: it comes back as it is. (LAID: no walk: one application.) -/
theorem Tryz.slices_Compact_string_empty (a : Option Addr) (cap : Nat) (w : World) :
    Calls Tryz.prog 46 #[.slice a 0 cap] w fun e w' => e = .returned (.slice a 0 cap) ∧ w' = w := Any.slices_Compact_string_empty Tryz.lays194 a cap w
open Go.RowKit Go.Sort in
/-- .. and plain. (LAID: no walk: one application.) -/
theorem Tryz.slices_Sort_string_none (p : Option Addr) (cap : Nat) (w : World) :
    Calls Tryz.prog 45 #[.slice p 0 cap] w fun e w' => e = .returned (.tuple #[]) ∧ w' = w := Any.slices_Sort_string_none Tryz.lays190 p cap w
open Go.RowKit Go.Lib in
theorem Tryz.slices_Equal_string_lens (a1 a2 : Option Addr) (n c m d : Nat) (w : World) (hnm : n ≠ m) :
    Calls Tryz.prog 59 #[.slice a1 n c, .slice a2 m d] w fun e w' => e = .returned (.bool false) ∧ w' = w := Any.slices_Equal_string_lens Tryz.lays193 a1 a2 n c m d w hnm
end Go.Proofs
end
