/-
  Contracts of strings.Replacer as the program's keys.Isbn uses it: NewReplacer, build; sync.Once. Own text, printed by a program. Conditions: none.
-/
import Derived.Test.YtnogdccoekfnoaaGreatDoorSync
import Derived.Test.YtnogdccoekfnoaaGreatDoorSxText
import Derived.Test.YtnogdccoekfnoaaGreatDoorKeRepl
namespace Go.Proofs.YtnogdccoekfnoaaGreatDoor
open Go Go.Sx
def olds : List (List UInt8) := [[32], [], [45], []]
/-- What build lays: the table of the two replaced letters. -/
def BSR (I : Heap) (xb : Nat) : Prop := ∃ v1 v2 tr, I xb = some (cel 186 (tab (fun j => if j = 32 then v2 else if j = 45 then v1 else .slice none 0 0) tr)) ∧ BytSl I [] v1 ∧ BytSl I [] v2 ∧ StrSl 9 I [[45], [32]] tr
theorem BSR.mono {I I' : Heap} {xb : Nat} (h : BSR I xb) (hle : Le I I') : BSR I' xb := let ⟨v1, v2, tr, h1, h2, h3, h4⟩ := h; ⟨v1, v2, tr, hle _ _ h1, h2.mono hle, h3.mono hle, h4.mono hle⟩
def nilS : Value := .slice none 0 0
theorem zero163 : (Value.agg Tryz.zeroCells186).cells = (tab (fun _ => .slice none 0 0) (.slice none 0 0)).toArray := by
  show Tryz.zeroCells186 = _
  kernel_rfl
theorem load_ok (rb T off : Nat) (cs : List Value) (x : Int) (hx : cs[off]? = some (.int .u32 x)) (I : Heap) : Ctr Tryz.prog 102 [ptr rb off] I [(rb, cel T cs)] (fun e _I' H' => e = .returned (.bool (x != 0)) ∧ H' = [(rb, cel T cs)]) :=
  Ctr.of_read (Enters.of Tryz.func102 (by decide) rfl) hx fun w h => Sync.load_free ⟨rb, off, none⟩ x w h
theorem lock_ok (rb T : Nat) (d sm r o : Value) (I : Heap) : Ctr Tryz.prog 125 [ptr rb 1] I [(rb, cel T [d, .int .i32 0, sm, r, o])] (fun e _I' H' => e = .returned (.tuple #[]) ∧ H' = [(rb, cel T [d, .int .i32 1, sm, r, o])]) :=
  Ctr.of_set (off := 1) (Enters.of Tryz.func125 (by decide) rfl) rfl fun w h h2 => Sync.lock_free ⟨rb, 1, none⟩ w h h2
theorem unlock_ok (rb T : Nat) (d sm r o : Value) (I : Heap) : CtrD Tryz.prog 126 [ptr rb 1] .returning I [(rb, cel T [d, .int .i32 1, sm, r, o])] (fun u' _I' H' => u' = .returning ∧ H' = [(rb, cel T [d, .int .i32 0, sm, r, o])]) :=
  CtrD.of_set (off := 1) (v := .tuple #[]) (Enters.of Tryz.func126 (by decide) rfl) rfl fun w h h2 => (Sync.unlock_deferred ⟨rb, 1, none⟩ .returning w h h2).mono fun _ _ _ ⟨g1, g2, g3⟩ => ⟨g1, g2, .inl g3⟩
theorem store_ok (rb T : Nat) (x m sm r o : Value) (I : Heap) : CtrD Tryz.prog 127 [ptr rb 0, .bool true] .returning I [(rb, cel T [x, m, sm, r, o])] (fun u' _I' H' => u' = .returning ∧ H' = [(rb, cel T [.int .u32 1, m, sm, r, o])]) :=
  CtrD.of_set (off := 0) (v := .tuple #[]) (Enters.of Tryz.func127 (by decide) rfl) rfl fun w h h2 => (Sync.store_deferred ⟨rb, 0, none⟩ x .returning w h h2).mono fun _ _ _ ⟨g1, g2, g3⟩ => ⟨g1, g2, .inr g3⟩
set_option maxRecDepth 20000 in
theorem NewReplacer_ok (ob oc : Nat) (I : Heap) : Ctr Tryz.prog 46 [.slice (some ⟨ob, 0, none⟩) 4 oc] I [(ob, cel 9 (olds.map str))]
    (fun e I' H' => ∃ rb osl, e = .returned (ptr rb 0) ∧ H' = [(rb, cel 127 [.int .u32 0, .int .i32 0, .int .u32 0, .nilIface, osl])] ∧ StrSl 9 I' olds osl) := by
 refine Ctr.of_body Tryz.func46 rfl (by decide) (Nat.le_of_ble_eq_true rfl) ?_
 intro w0 hw0
 refine Cj.seq (Cj.region (J.z (yl_assign rfl rfl) ?_))
 refine J.nil (Ej.seq (Cj.seq (Cj.seq (Cj.region (J.z (yl_move rfl rfl) ?_)))))
 refine J.z (yl_lenSlice rfl rfl Tryz.underlying27) ?_
 refine J.z (yl_rem rfl rfl rfl (by decide)) ?_
 refine J.z (yl_eql rfl rfl rfl) ?_
 refine J.nil (Ej.seq (Cj.cond rfl (fun hc1 => Bool.noConfusion (Eq.trans (Eq.symm rfl) hc1)) (fun hc1 => ?_)))
 refine Cj.skip (Ej.seq (Cj.seq (Cj.region (J.z (yl_move rfl rfl) ?_))))
 refine J.op rfl (op_append (by' := 15) (n := 0) (g := none) (xs := []) [_] rfl rfl rfl rfl rfl Tryz.underlying27 (.inr ⟨_, Tryz.underlying27⟩) (by kernel_rfl) Tryz.sizeOf9 Tryz.zeroValue9 rfl ⟨rfl, rfl⟩ rfl (Src.slice (Blk.at 0 rfl) rfl rfl rfl) (by omega) ?_)
 intro g2 hg2
 refine J.z (yl_buildS (pl := #[(0, 3), (3, 1), (4, 1)]) rfl rfl Tryz.zeroValue127 rfl Tryz.underlying127 (fun w => by simp [Tryz.sizeOf123, Tryz.sizeOf125, Tryz.sizeOf27]) (LBld.part rfl (gV_cells _ _) rfl (LSpl.s (LSpl.s (LSpl.s (LSpl.s (LSpl.c LSpl.z))))) LBld.none)) ?_
 refine J.op rfl (op_box rfl rfl rfl rfl rfl ?_)
 intro b3 hb3
 refine J.z (yl_assign rfl rfl) ?_
 refine J.nil (Ej.seq (Cj.ret ?_))
 obtain ⟨gb, gc, gsp, rfl, hgb⟩ := hg2.some (by decide)
 refine Ej.pull (Pull.s (Pull.s Pull.z)) ?_
 refine Ej.persist hgb (fun I9 hle9 hgbi => ?_)
 refine Ej.keep (Keeps.k (Keeps.d Keeps.n)) ?_
 refine Ej.ret1 rfl rfl rfl ?_
 exact ⟨b3, _, rfl, rfl, gb, gc, gsp, rfl, hgbi⟩

set_option maxRecDepth 20000 in
theorem build_ok (rb : Nat) (a0 a1 a2 a3 osl : Value) (I : Heap) (ho : StrSl 9 I olds osl) : Ctr Tryz.prog 104 [ptr rb 0] I [(rb, cel 127 [a0, a1, a2, a3, osl])]
    (fun e I' H' => ∃ xb, e = .returned (.iface 187 (ptr xb 0)) ∧ BSR I' xb ∧ H' = [(rb, cel 127 [a0, a1, a2, a3, osl])]) := by
 obtain ⟨ob, oc, osp, rfl, hob⟩ := ho
 rw [show olds.length = 4 from rfl]
 refine Ctr.of_body Tryz.func104 rfl (by decide) (Nat.le_of_ble_eq_true rfl) ?_
 intro w0 hw0
 refine Cj.seq (Cj.region (J.z (yl_assign rfl rfl) ?_))
 refine J.nil (Ej.seq (Cj.seq (Cj.region (J.z (yl_move rfl rfl) ?_))))
 refine J.z (yl_nilCheck rfl rfl) ?_
 refine J.z (yl_fieldAddr (off' := 4) rfl rfl Tryz.underlying127 rfl Tryz.sizeOf27 rfl) ?_
 refine J.z (yl_load rfl rfl Tryz.isAgg27 (Blk.at 0 rfl) rfl) ?_
 refine J.z (yl_assign rfl rfl) ?_
 refine J.nil (Ej.seq (Cj.seq (Cj.seq (Cj.region (J.z (yl_move rfl rfl) ?_)))))
 refine J.z (yl_lenSlice rfl rfl Tryz.underlying27) ?_
 refine J.z (yl_eql rfl rfl rfl) ?_
 refine J.z (yl_move rfl rfl) ?_
 refine J.skip 3 22 23 true _ rfl rfl rfl (by first | rfl | decide) rfl rfl ?_
 refine J.skip 3 22 24 true _ rfl rfl rfl (by first | rfl | decide) rfl rfl ?_
 refine J.skip 3 22 25 true _ rfl rfl rfl (by first | rfl | decide) rfl rfl ?_
 refine J.skip 3 22 26 true _ rfl rfl rfl (by first | rfl | decide) rfl rfl ?_
 refine J.skip 3 22 27 true _ rfl rfl rfl (by first | rfl | decide) rfl rfl ?_
 refine J.z (yl_pick0 rfl rfl (by first | rfl | decide) rfl) ?_
 refine J.nil (Ej.seq (Cj.cond rfl (fun hc1 => Bool.noConfusion (Eq.trans (Eq.symm rfl) hc1)) (fun hc1 => ?_)))
 refine Cj.skip (Ej.seq (Cj.seq (Cj.region (J.z (yl_assign rfl rfl) ?_))))
 refine J.nil (Ej.seq (Cj.seq (Cj.seq (Cj.region (J.z (yl_assign rfl rfl) ?_)))))
 refine J.nil (Ej.seq (Cj.block (Cj.rounds 3 ?_)))
 refine Rj.succ ?_
 refine Cj.seq (Cj.seq (Cj.region (J.z (yl_move rfl rfl) ?_)))
 refine J.z (yl_move rfl rfl) ?_
 refine J.z (yl_lenSlice rfl rfl Tryz.underlying27) ?_
 refine J.z (yl_lss rfl rfl rfl) ?_
 refine J.nil (Ej.seq (Cj.cond rfl (fun hc2 => ?_) (fun hc2 => Bool.noConfusion (Eq.trans (Eq.symm (by first | rfl | decide)) hc2))))
 refine Cj.skip (Ej.seq (Cj.seq (Cj.block (Cj.seq (Cj.seq (Cj.region (J.z (yl_move rfl rfl) ?_)))))))
 refine J.z (yl_move rfl rfl) ?_
 refine J.z (yl_indexAddr (off' := 0) rfl rfl rfl Tryz.underlying27 Tryz.sizeOf9 (by decide) (by decide) (by decide)) ?_
 refine J.z (yl_load rfl rfl Tryz.isAgg9 (Blk.imm hob) rfl) ?_
 refine J.z (yl_lenStr rfl rfl Tryz.underlying9) ?_
 refine J.z (yl_neq rfl rfl rfl) ?_
 refine J.nil (Ej.seq (Cj.cond rfl (fun hc3 => Bool.noConfusion (Eq.trans (Eq.symm (by first | rfl | decide)) hc3)) (fun hc3 => ?_)))
 refine Cj.skip (Ej.seq (Cj.seq (Cj.region (J.z (yl_move rfl rfl) ?_))))
 refine J.z (yl_move rfl rfl) ?_
 refine J.z (yl_add rfl rfl rfl (w64 (by omega))) ?_
 refine J.z (yl_indexAddr (off' := 1) rfl rfl rfl Tryz.underlying27 Tryz.sizeOf9 (by decide) (by decide) (by decide)) ?_
 refine J.z (yl_load rfl rfl Tryz.isAgg9 (Blk.imm hob) rfl) ?_
 refine J.z (yl_lenStr rfl rfl Tryz.underlying9) ?_
 refine J.z (yl_neq rfl rfl rfl) ?_
 refine J.nil (Ej.seq (Cj.cond rfl (fun hc4 => ?_) (fun hc4 => Bool.noConfusion (Eq.trans (Eq.symm (by first | rfl | decide)) hc4))))
 refine Cj.region (J.z (yl_assign rfl rfl) ?_)
 refine J.nil (Ej.blkNormal (Ej.seq (Cj.region (J.z (yl_move rfl rfl) ?_))))
 refine J.z (yl_add rfl rfl rfl (w64 (by omega))) ?_
 refine J.z (yl_assign rfl rfl) ?_
 refine J.nil (Ej.rounds ?_)
 refine Rj.succ ?_
 refine Cj.seq (Cj.seq (Cj.region (J.z (yl_move rfl rfl) ?_)))
 refine J.z (yl_move rfl rfl) ?_
 refine J.z (yl_lenSlice rfl rfl Tryz.underlying27) ?_
 refine J.z (yl_lss rfl rfl rfl) ?_
 refine J.nil (Ej.seq (Cj.cond rfl (fun hc5 => ?_) (fun hc5 => Bool.noConfusion (Eq.trans (Eq.symm (by first | rfl | decide)) hc5))))
 refine Cj.skip (Ej.seq (Cj.seq (Cj.block (Cj.seq (Cj.seq (Cj.region (J.z (yl_move rfl rfl) ?_)))))))
 refine J.z (yl_move rfl rfl) ?_
 refine J.z (yl_indexAddr (off' := 2) rfl rfl rfl Tryz.underlying27 Tryz.sizeOf9 (by decide) (by decide) (by decide)) ?_
 refine J.z (yl_load rfl rfl Tryz.isAgg9 (Blk.imm hob) rfl) ?_
 refine J.z (yl_lenStr rfl rfl Tryz.underlying9) ?_
 refine J.z (yl_neq rfl rfl rfl) ?_
 refine J.nil (Ej.seq (Cj.cond rfl (fun hc6 => Bool.noConfusion (Eq.trans (Eq.symm (by first | rfl | decide)) hc6)) (fun hc6 => ?_)))
 refine Cj.skip (Ej.seq (Cj.seq (Cj.region (J.z (yl_move rfl rfl) ?_))))
 refine J.z (yl_move rfl rfl) ?_
 refine J.z (yl_add rfl rfl rfl (w64 (by omega))) ?_
 refine J.z (yl_indexAddr (off' := 3) rfl rfl rfl Tryz.underlying27 Tryz.sizeOf9 (by decide) (by decide) (by decide)) ?_
 refine J.z (yl_load rfl rfl Tryz.isAgg9 (Blk.imm hob) rfl) ?_
 refine J.z (yl_lenStr rfl rfl Tryz.underlying9) ?_
 refine J.z (yl_neq rfl rfl rfl) ?_
 refine J.nil (Ej.seq (Cj.cond rfl (fun hc7 => ?_) (fun hc7 => Bool.noConfusion (Eq.trans (Eq.symm (by first | rfl | decide)) hc7))))
 refine Cj.region (J.z (yl_assign rfl rfl) ?_)
 refine J.nil (Ej.blkNormal (Ej.seq (Cj.region (J.z (yl_move rfl rfl) ?_))))
 refine J.z (yl_add rfl rfl rfl (w64 (by omega))) ?_
 refine J.z (yl_assign rfl rfl) ?_
 refine J.nil (Ej.rounds ?_)
 refine Rj.succ ?_
 refine Cj.seq (Cj.seq (Cj.region (J.z (yl_move rfl rfl) ?_)))
 refine J.z (yl_move rfl rfl) ?_
 refine J.z (yl_lenSlice rfl rfl Tryz.underlying27) ?_
 refine J.z (yl_lss rfl rfl rfl) ?_
 refine J.nil (Ej.seq (Cj.cond rfl (fun hc8 => Bool.noConfusion (Eq.trans (Eq.symm (by first | rfl | decide)) hc8)) (fun hc8 => ?_)))
 refine Cj.exit (Ej.seqExit (Ej.seqExit (Ej.blkExit (Ej.seq (Cj.seq (Cj.seq (Cj.region (J.z (yl_move rfl rfl) ?_))))))))
 refine J.nil (Ej.seq (Cj.cond rfl (fun hc9 => Bool.noConfusion (Eq.trans (Eq.symm rfl) hc9)) (fun hc9 => ?_)))
 refine Cj.skip (Ej.seq (Cj.seq (Cj.region (J.z (yl_move rfl rfl) ?_))))
 refine J.z (yl_lenSlice rfl rfl Tryz.underlying27) ?_
 refine J.z (yl_quo rfl rfl rfl (by decide) (by decide)) ?_
 refine J.op rfl (op_makeSlice (n := 0) (c := 2) (by1 := 16) (z := (str [])) rfl rfl rfl rfl rfl Tryz.underlying27 (by kernel_rfl) rfl (by omega) (by omega) (by omega) ?_)
 intro b10 hb10
 refine J.z (yl_buildS (zs := tab (fun _ => .slice none 0 0) (.slice none 0 0)) (cs := tab (fun _ => .slice none 0 0) (.slice (some ⟨b10, 0, none⟩) 0 2)) (pl := #[(0, 256), (256, 1)]) rfl rfl Tryz.zeroValue186 zero163 Tryz.underlying186 (fun w => by simp [Tryz.sizeOf184, Tryz.sizeOf27]) (LBld.part rfl rfl rfl (tab_spl _ _ _) LBld.none)) ?_
 refine J.op rfl (op_alloc (zs := tab (fun _ => .slice none 0 0) (.slice none 0 0)) rfl rfl rfl Tryz.zeroValue186 zero163 ?_)
 intro b11 hb11
 refine J.op rfl (op_store 0 rfl rfl rfl rfl rfl (tab_one (fun _ => rfl) rfl) Tryz.sizeOf186 (tab_len _ _) rfl (LSpl.all (by rw [tab_len, tab_len])) LSet.z ?_)
 refine J.pull Pull.z ?_
 refine J.pull (Pull.s (Pull.s Pull.z)) ?_
 refine J.nil (Ej.seq (Cj.seq (Cj.seq (Cj.region (J.z (yl_move rfl rfl) ?_)))))
 refine J.z (yl_lenSlice rfl rfl Tryz.underlying27) ?_
 refine J.z (yl_sub rfl rfl rfl (w64 (by omega))) ?_
 refine J.z (yl_assign rfl rfl) ?_
 refine J.nil (Ej.seq (Cj.block (Cj.rounds 3 ?_)))
 refine Rj.succ ?_
 refine Cj.seq (Cj.seq (Cj.region (J.z (yl_move rfl rfl) ?_)))
 refine J.z (yl_geq rfl rfl rfl) ?_
 refine J.nil (Ej.seq (Cj.cond rfl (fun hc12 => ?_) (fun hc12 => Bool.noConfusion (Eq.trans (Eq.symm (by first | rfl | decide)) hc12))))
 refine Cj.skip (Ej.seq (Cj.seq (Cj.block (Cj.seq (Cj.region (J.z (yl_move rfl rfl) ?_))))))
 refine J.z (yl_move rfl rfl) ?_
 refine J.z (yl_indexAddr (off' := 2) rfl rfl rfl Tryz.underlying27 Tryz.sizeOf9 (by decide) (by decide) (by decide)) ?_
 refine J.z (yl_load rfl rfl Tryz.isAgg9 (Blk.imm hob) rfl) ?_
 refine J.z (yl_index (c := 45) rfl rfl rfl Tryz.underlying9 (by decide) rfl) ?_
 refine J.z (yl_assign rfl rfl) ?_
 refine J.nil (Ej.seq (Cj.seq (Cj.region (J.z (yl_move rfl rfl) ?_))))
 refine J.z (yl_move rfl rfl) ?_
 refine J.z (yl_add rfl rfl rfl (w64 (by omega))) ?_
 refine J.z (yl_indexAddr (off' := 3) rfl rfl rfl Tryz.underlying27 Tryz.sizeOf9 (by decide) (by decide) (by decide)) ?_
 refine J.z (yl_load rfl rfl Tryz.isAgg9 (Blk.imm hob) rfl) ?_
 refine J.z (yl_assign rfl rfl) ?_
 refine J.nil (Ej.seq (Cj.seq (Cj.seq (Cj.region (J.z (yl_move rfl rfl) ?_)))))
 refine J.z (yl_fieldAddr (off' := 0) rfl rfl Tryz.underlying186 rfl Tryz.sizeOf184 rfl) ?_
 refine J.z (yl_indexArr (off' := 45) rfl rfl rfl Tryz.underlying184 Tryz.sizeOf46 (by decide) (by decide) (by decide)) ?_
 refine J.z (yl_load rfl rfl Tryz.isAgg46 (Blk.at 1 rfl) (tab_at _ _ (by decide))) ?_
 refine J.eqv 116 rfl (show _ = .slice none 0 0 from (by first | rfl | exact if_neg (by decide))) ?_
 refine J.z (yl_eqlSlice _ rfl rfl rfl Tryz.underlying46) ?_
 refine J.nil (Ej.seq (Cj.cond rfl (fun hc13 => ?_) (fun hc13 => Bool.noConfusion (Eq.trans (Eq.symm rfl) hc13))))
 refine Cj.region (J.z (yl_fieldAddr (off' := 256) rfl rfl Tryz.underlying186 rfl Tryz.sizeOf27 rfl) ?_)
 refine J.z (yl_load rfl rfl Tryz.isAgg27 (Blk.at 1 rfl) (tab_tr _ _)) ?_
 refine J.z (yl_move rfl rfl) ?_
 refine J.op rfl (op_buildSlice rfl rfl rfl Tryz.underlying46 Tryz.sizeOf5 Tryz.zeroValue5 rfl rfl rfl rfl (LCat.one rfl LCat.none) ?_)
 intro b14 hb14
 refine J.z (yl_toStr [45] rfl rfl rfl Tryz.underlying46 Tryz.underlying9 Tryz.underlying5 (Blk.at 0 rfl) rfl) ?_
 refine J.op rfl (op_buildSlice rfl rfl rfl Tryz.underlying27 Tryz.sizeOf9 Tryz.zeroValue9 rfl rfl rfl rfl (LCat.one rfl LCat.none) ?_)
 intro b15 hb15
 refine J.op rfl (op_append (by' := 15) (n := 0) (g := some (b10, 2, List.replicate 2 (str []))) (xs := []) [_, _, _, _] rfl rfl rfl rfl rfl Tryz.underlying27 (.inr ⟨_, Tryz.underlying27⟩) (by kernel_rfl) Tryz.sizeOf9 Tryz.zeroValue9 rfl ⟨hb10, rfl, rfl⟩ rfl (Src.slice (Blk.at 0 rfl) rfl rfl rfl) (by omega) ?_)
 intro g16 hg16
 refine J.z (yl_fieldAddr (off' := 256) rfl rfl Tryz.underlying186 rfl Tryz.sizeOf27 rfl) ?_
 refine J.op rfl (op_store1 3 rfl rfl rfl rfl (gV_cells1 _ _) (gV_oneC _ _) Tryz.sizeOf27 rfl (.inl rfl) (by rw [tab_len]; decide) (by rw [tab_setTr]; exact (LSet.s (LSet.s (LSet.s LSet.z)))) ?_)
 refine J.nil (Ej.seq (Cj.region (J.z (yl_move rfl rfl) ?_)))
 refine J.z (yl_move rfl rfl) ?_
 refine J.op rfl (op_toBytes rfl rfl rfl rfl Tryz.underlying9 Tryz.underlying46 Tryz.underlying5 ?_)
 intro b17 c18 sp19 fr20 hb17 hfr20
 refine J.persist hb17 (fun I22 hle21 hb17i => ?_)
 have hob := hle21 _ _ hob
 refine J.z (yl_fieldAddr (off' := 0) rfl rfl Tryz.underlying186 rfl Tryz.sizeOf184 rfl) ?_
 refine J.z (yl_indexArr (off' := 45) rfl rfl rfl Tryz.underlying184 Tryz.sizeOf46 (by decide) (by decide) (by decide)) ?_
 refine J.op rfl (op_store1 3 rfl rfl rfl rfl rfl rfl Tryz.sizeOf46 rfl (.inl rfl) (by rw [tab_len]; decide) (by rw [tab_set _ _ _ (by decide)]; exact (LSet.s (LSet.s (LSet.s LSet.z)))) ?_)
 refine J.nil (Ej.blkNormal (Ej.seq (Cj.region (J.z (yl_move rfl rfl) ?_))))
 refine J.z (yl_sub rfl rfl rfl (w64 (by omega))) ?_
 refine J.z (yl_assign rfl rfl) ?_
 refine J.nil (Ej.rounds ?_)
 refine Rj.succ ?_
 refine Cj.seq (Cj.seq (Cj.region (J.z (yl_move rfl rfl) ?_)))
 refine J.z (yl_geq rfl rfl rfl) ?_
 refine J.nil (Ej.seq (Cj.cond rfl (fun hc23 => ?_) (fun hc23 => Bool.noConfusion (Eq.trans (Eq.symm (by first | rfl | decide)) hc23))))
 refine Cj.skip (Ej.seq (Cj.seq (Cj.block (Cj.seq (Cj.region (J.z (yl_move rfl rfl) ?_))))))
 refine J.z (yl_move rfl rfl) ?_
 refine J.z (yl_indexAddr (off' := 0) rfl rfl rfl Tryz.underlying27 Tryz.sizeOf9 (by decide) (by decide) (by decide)) ?_
 refine J.z (yl_load rfl rfl Tryz.isAgg9 (Blk.imm hob) rfl) ?_
 refine J.z (yl_index (c := 32) rfl rfl rfl Tryz.underlying9 (by decide) rfl) ?_
 refine J.z (yl_assign rfl rfl) ?_
 refine J.nil (Ej.seq (Cj.seq (Cj.region (J.z (yl_move rfl rfl) ?_))))
 refine J.z (yl_move rfl rfl) ?_
 refine J.z (yl_add rfl rfl rfl (w64 (by omega))) ?_
 refine J.z (yl_indexAddr (off' := 1) rfl rfl rfl Tryz.underlying27 Tryz.sizeOf9 (by decide) (by decide) (by decide)) ?_
 refine J.z (yl_load rfl rfl Tryz.isAgg9 (Blk.imm hob) rfl) ?_
 refine J.z (yl_assign rfl rfl) ?_
 refine J.nil (Ej.seq (Cj.seq (Cj.seq (Cj.region (J.z (yl_move rfl rfl) ?_)))))
 refine J.z (yl_fieldAddr (off' := 0) rfl rfl Tryz.underlying186 rfl Tryz.sizeOf184 rfl) ?_
 refine J.z (yl_indexArr (off' := 32) rfl rfl rfl Tryz.underlying184 Tryz.sizeOf46 (by decide) (by decide) (by decide)) ?_
 refine J.z (yl_load rfl rfl Tryz.isAgg46 (Blk.at 3 rfl) (tab_at _ _ (by decide))) ?_
 refine J.eqv 116 rfl (show _ = .slice none 0 0 from (by first | rfl | exact if_neg (by decide))) ?_
 refine J.z (yl_eqlSlice _ rfl rfl rfl Tryz.underlying46) ?_
 refine J.nil (Ej.seq (Cj.cond rfl (fun hc24 => ?_) (fun hc24 => Bool.noConfusion (Eq.trans (Eq.symm rfl) hc24))))
 refine Cj.region (J.z (yl_fieldAddr (off' := 256) rfl rfl Tryz.underlying186 rfl Tryz.sizeOf27 rfl) ?_)
 refine J.z (yl_load rfl rfl Tryz.isAgg27 (Blk.at 3 rfl) (tab_tr _ _)) ?_
 refine J.z (yl_move rfl rfl) ?_
 refine J.op rfl (op_buildSlice rfl rfl rfl Tryz.underlying46 Tryz.sizeOf5 Tryz.zeroValue5 rfl rfl rfl rfl (LCat.one rfl LCat.none) ?_)
 intro b25 hb25
 refine J.z (yl_toStr [32] rfl rfl rfl Tryz.underlying46 Tryz.underlying9 Tryz.underlying5 (Blk.at 0 rfl) rfl) ?_
 refine J.op rfl (op_buildSlice rfl rfl rfl Tryz.underlying27 Tryz.sizeOf9 Tryz.zeroValue9 rfl rfl rfl rfl (LCat.one rfl LCat.none) ?_)
 intro b26 hb26
 refine J.op rfl (op_append (by' := 15) [_, _, _, _, _, _] rfl rfl rfl rfl rfl Tryz.underlying27 (.inr ⟨_, Tryz.underlying27⟩) (by kernel_rfl) Tryz.sizeOf9 Tryz.zeroValue9 rfl hg16 rfl (Src.slice (Blk.at 0 rfl) rfl rfl rfl) (by omega) ?_)
 intro g27 hg27
 refine J.z (yl_fieldAddr (off' := 256) rfl rfl Tryz.underlying186 rfl Tryz.sizeOf27 rfl) ?_
 refine J.op rfl (op_store1 5 rfl rfl rfl rfl (gV_cells1 _ _) (gV_oneC _ _) Tryz.sizeOf27 rfl (.inl rfl) (by rw [tab_len]; decide) (by rw [tab_setTr]; exact (LSet.s (LSet.s (LSet.s (LSet.s (LSet.s LSet.z)))))) ?_)
 refine J.nil (Ej.seq (Cj.region (J.z (yl_move rfl rfl) ?_)))
 refine J.z (yl_move rfl rfl) ?_
 refine J.op rfl (op_toBytes rfl rfl rfl rfl Tryz.underlying9 Tryz.underlying46 Tryz.underlying5 ?_)
 intro b28 c29 sp30 fr31 hb28 hfr31
 refine J.persist hb28 (fun I33 hle32 hb28i => ?_)
 have hob := hle32 _ _ hob
 have hb17i := hle32 _ _ hb17i
 refine J.z (yl_fieldAddr (off' := 0) rfl rfl Tryz.underlying186 rfl Tryz.sizeOf184 rfl) ?_
 refine J.z (yl_indexArr (off' := 32) rfl rfl rfl Tryz.underlying184 Tryz.sizeOf46 (by decide) (by decide) (by decide)) ?_
 refine J.op rfl (op_store1 5 rfl rfl rfl rfl rfl rfl Tryz.sizeOf46 rfl (.inl rfl) (by rw [tab_len]; decide) (by rw [tab_set _ _ _ (by decide)]; exact (LSet.s (LSet.s (LSet.s (LSet.s (LSet.s LSet.z)))))) ?_)
 refine J.nil (Ej.blkNormal (Ej.seq (Cj.region (J.z (yl_move rfl rfl) ?_))))
 refine J.z (yl_sub rfl rfl rfl (w64 (by omega))) ?_
 refine J.z (yl_assign rfl rfl) ?_
 refine J.nil (Ej.rounds ?_)
 refine Rj.succ ?_
 refine Cj.seq (Cj.seq (Cj.region (J.z (yl_move rfl rfl) ?_)))
 refine J.z (yl_geq rfl rfl rfl) ?_
 refine J.nil (Ej.seq (Cj.cond rfl (fun hc34 => Bool.noConfusion (Eq.trans (Eq.symm (by first | rfl | decide)) hc34)) (fun hc34 => ?_)))
 refine Cj.exit (Ej.seqExit (Ej.seqExit (Ej.blkExit (Ej.seq (Cj.seq (Cj.region (J.z (yl_makeIface rfl rfl Tryz.underlying187 rfl) ?_)))))))
 refine J.z (yl_assign rfl rfl) ?_
 refine J.nil (Ej.seq (Cj.ret ?_))
 obtain ⟨gb, gc, gsp, rfl, hgb⟩ := hg27.some (by decide)
 refine Ej.pull (Pull.s (Pull.s (Pull.s (Pull.s (Pull.s (Pull.s Pull.z)))))) ?_
 refine Ej.persist hgb (fun I9 hle9 hgbi => ?_)
 refine Ej.pull (Pull.s (Pull.s (Pull.s (Pull.s (Pull.s Pull.z))))) ?_
 refine Ej.persist hb11 (fun I8 hle8 hxbi => ?_)
 refine Ej.keep (Keeps.d (Keeps.d (Keeps.d (Keeps.d (Keeps.k Keeps.n))))) ?_
 refine Ej.ret1 rfl rfl rfl ?_
 exact ⟨b11, rfl, ⟨_, _, _, hxbi, ⟨b17, _, _, _, rfl, hle8 _ _ (hle9 _ _ hb17i)⟩, ⟨b28, _, _, _, rfl, hle8 _ _ (hle9 _ _ hb28i)⟩, gb, gc, gsp, rfl, hle8 _ _ hgbi⟩, rfl⟩

def RepH (rb : Nat) (d m sm r o : Value) : HL := [(rb, cel 127 [d, m, sm, r, o])]
/-- The replacer behind its first use. -/
def Rep1 (I : Heap) (rb : Nat) (d m : Value) (H : HL) : Prop := ∃ xb, BSR I xb ∧ H = RepH rb d m (.int .u32 0) (.iface 187 (ptr xb 0)) (.slice none 0 0)

set_option maxRecDepth 20000 in
theorem buildOnce_ok (rb : Nat) (d m osl : Value) (I : Heap) (ho : StrSl 9 I olds osl) : Ctr Tryz.prog 78 [ptr rb 0] I (RepH rb d m (.int .u32 0) .nilIface osl)
    (fun e I' H' => e = .returned (.tuple #[]) ∧ Rep1 I' rb d m H') := by
 refine Ctr.of_body Tryz.func78 rfl (by decide) (Nat.le_of_ble_eq_true rfl) ?_
 intro w0 hw0
 refine Cj.seq (Cj.region (J.z (yl_move rfl rfl) ?_))
 refine J.z (yl_move rfl rfl) ?_
 refine J.pull Pull.z ?_
 refine J.op rfl (op_call (H1 := [_]) rfl rfl rfl rfl rfl (build_ok rb _ _ _ _ osl _ ho) ?_ (fun _ _ _ _ h => by obtain ⟨_, h, _⟩ := h; cases h) (fun _ _ h => by obtain ⟨_, h, _⟩ := h; cases h))
 intro v1 I2 H3 hle4 hp5
 obtain ⟨xb, h, hbs, rfl⟩ := hp5; cases h
 refine J.z (yl_nilCheck rfl rfl) ?_
 refine J.z (yl_fieldAddr (off' := 3) rfl rfl Tryz.underlying127 rfl Tryz.sizeOf125 rfl) ?_
 refine J.op rfl (op_store 0 rfl rfl rfl rfl rfl rfl Tryz.sizeOf125 rfl rfl (LSpl.s (LSpl.s (LSpl.s (LSpl.c LSpl.z)))) LSet.z ?_)
 refine J.nil (Ej.seq (Cj.region (J.z (yl_move rfl rfl) ?_)))
 refine J.z (yl_nilCheck rfl rfl) ?_
 refine J.z (yl_fieldAddr (off' := 4) rfl rfl Tryz.underlying127 rfl Tryz.sizeOf27 rfl) ?_
 refine J.op rfl (op_store 0 rfl rfl rfl rfl rfl rfl Tryz.sizeOf27 rfl rfl (LSpl.s (LSpl.s (LSpl.s (LSpl.s (LSpl.c LSpl.z))))) LSet.z ?_)
 refine J.nil (Ej.end0 rfl rfl ?_)
 exact ⟨rfl, xb, hbs, rfl⟩

set_option maxRecDepth 20000 in
theorem doSlow_ok (rb : Nat) (osl : Value) (I : Heap) (ho : StrSl 9 I olds osl) : Ctr Tryz.prog 103 [ptr rb 0, .func (.func 78) #[ptr rb 0] #[]] I (RepH rb (.int .u32 0) (.int .i32 0) (.int .u32 0) .nilIface osl)
    (fun e I' H' => e = .returned (.tuple #[]) ∧ Rep1 I' rb (.int .u32 1) (.int .i32 0) H') := by
 refine Ctr.of_bodyD Tryz.func103 rfl (by decide) (Nat.le_of_ble_eq_true rfl) ?_
 intro w0 hw0
 refine Cj.seq (Cj.region (J.z (yl_move rfl rfl) ?_))
 refine J.z (yl_nilCheck rfl rfl) ?_
 refine J.z (yl_fieldAddr (off' := 1) rfl rfl Tryz.underlying123 rfl Tryz.sizeOf121 rfl) ?_
 refine J.pull Pull.z ?_
 refine J.op rfl (op_call (H1 := [_]) rfl rfl rfl rfl rfl (lock_ok rb 127 _ _ _ _ _) ?_ (fun _ _ _ _ h => by cases h.1) (fun _ _ h => by cases h.1))
 intro v1 I2 H3 hle4 hp5
 have ho := ho.mono hle4
 obtain ⟨h, rfl⟩ := hp5; cases h
 refine J.nil (Ej.seq (Cj.seq (Cj.region (J.z (yl_move rfl rfl) ?_))))
 refine J.z (yl_nilCheck rfl rfl) ?_
 refine J.z (yl_fieldAddr (off' := 1) rfl rfl Tryz.underlying123 rfl Tryz.sizeOf121 rfl) ?_
 refine J.defer rfl rfl rfl rfl rfl ?_
 refine J.nil (Ej.seq (Cj.seq (Cj.region (J.z (yl_move rfl rfl) ?_))))
 refine J.z (yl_nilCheck rfl rfl) ?_
 refine J.z (yl_fieldAddr (off' := 0) rfl rfl Tryz.underlying123 rfl Tryz.sizeOf117 rfl) ?_
 refine J.pull Pull.z ?_
 refine J.op rfl (op_call (H1 := [_]) rfl rfl rfl rfl rfl (load_ok rb 127 0 _ 0 rfl _) ?_ (fun _ _ _ _ h => by cases h.1) (fun _ _ h => by cases h.1))
 intro v6 I7 H8 hle9 hp10
 have ho := ho.mono hle9
 obtain ⟨h, rfl⟩ := hp10; cases h
 refine J.z (yl_not rfl rfl) ?_
 refine J.nil (Ej.seq (Cj.cond rfl (fun hc11 => ?_) (fun hc11 => Bool.noConfusion (Eq.trans (Eq.symm (congrArg not rfl)) hc11))))
 refine Cj.seq (Cj.region (J.z (yl_move rfl rfl) ?_))
 refine J.z (yl_nilCheck rfl rfl) ?_
 refine J.z (yl_fieldAddr (off' := 0) rfl rfl Tryz.underlying123 rfl Tryz.sizeOf117 rfl) ?_
 refine J.defer rfl rfl rfl rfl rfl ?_
 refine J.nil (Ej.seq (Cj.region (J.z (yl_move rfl rfl) ?_)))
 refine J.pull Pull.z ?_
 refine J.op rfl (op_call (H1 := [_]) rfl rfl rfl rfl rfl (buildOnce_ok rb _ _ osl _ ho) ?_ (fun _ _ _ _ h => by cases h.1) (fun _ _ h => by cases h.1))
 intro v12 I13 H14 hle15 hp16
 have ho := ho.mono hle15
 obtain ⟨h, xb, hbs, rfl⟩ := hp16; cases h
 refine J.nil (Ej.leave2 (H1 := [_]) (R1 := []) rfl (store_ok rb 127 _ _ _ _ _ _) (fun _ => unlock_ok rb 127 _ _ _ _ _) (fun I9 hle9 => ResJ.none rfl ?_))
 exact ⟨rfl, xb, hbs.mono hle9, rfl⟩

set_option maxRecDepth 20000 in
theorem Do_ok (rb : Nat) (osl : Value) (I : Heap) (ho : StrSl 9 I olds osl) : Ctr Tryz.prog 77 [ptr rb 0, .func (.func 78) #[ptr rb 0] #[]] I (RepH rb (.int .u32 0) (.int .i32 0) (.int .u32 0) .nilIface osl)
    (fun e I' H' => e = .returned (.tuple #[]) ∧ Rep1 I' rb (.int .u32 1) (.int .i32 0) H') := by
 refine Ctr.of_body Tryz.func77 rfl (by decide) (Nat.le_of_ble_eq_true rfl) ?_
 intro w0 hw0
 refine Cj.seq (Cj.region (J.z (yl_move rfl rfl) ?_))
 refine J.z (yl_nilCheck rfl rfl) ?_
 refine J.z (yl_fieldAddr (off' := 0) rfl rfl Tryz.underlying123 rfl Tryz.sizeOf117 rfl) ?_
 refine J.pull Pull.z ?_
 refine J.op rfl (op_call (H1 := [_]) rfl rfl rfl rfl rfl (load_ok rb 127 0 _ 0 rfl _) ?_ (fun _ _ _ _ h => by cases h.1) (fun _ _ h => by cases h.1))
 intro v1 I2 H3 hle4 hp5
 have ho := ho.mono hle4
 obtain ⟨h, rfl⟩ := hp5; cases h
 refine J.z (yl_not rfl rfl) ?_
 refine J.nil (Ej.seq (Cj.cond rfl (fun hc6 => ?_) (fun hc6 => Bool.noConfusion (Eq.trans (Eq.symm (congrArg not rfl)) hc6))))
 refine Cj.region (J.z (yl_move rfl rfl) ?_)
 refine J.z (yl_move rfl rfl) ?_
 refine J.pull Pull.z ?_
 refine J.op rfl (op_call (H1 := [_]) rfl rfl rfl rfl rfl (doSlow_ok rb osl _ ho) ?_ (fun _ _ _ _ h => by cases h.1) (fun _ _ h => by cases h.1))
 intro v7 I8 H9 hle10 hp11
 have ho := ho.mono hle10
 obtain ⟨h, xb, hbs, rfl⟩ := hp11; cases h
 refine J.nil (Ej.end0 rfl rfl ?_)
 exact ⟨rfl, xb, hbs, rfl⟩

end Go.Proofs.YtnogdccoekfnoaaGreatDoor
