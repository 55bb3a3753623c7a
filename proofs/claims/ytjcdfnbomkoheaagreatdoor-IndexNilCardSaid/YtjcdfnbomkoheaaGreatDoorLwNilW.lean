/-
  The law IndexNil. Own text, printed by a program. Conditions: none.
-/
import Derived.Test.YtjcdfnbomkoheaaGreatDoorPW13
import Derived.Test.YtjcdfnbomkoheaaGreatDoorPW12
namespace Go.Proofs.YtjcdfnbomkoheaaGreatDoor
open Go Go.Sx
theorem word_e (n s : List UInt8) : Ix.word [] n s = [] := by
  unfold Ix.word Ix.phrase
  repeat' split
  all_goals rfl
theorem scan_e (n s : List UInt8) (m : Int) : Ix.scan [] n s m = [] := by simp [Ix.scan, Ix.keysAll]
theorem zputs_len (es : List Ent) : (Ix.rputs (es.map entL) []).length ≤ es.length := by
  have h : ∀ (L l : Ix.Ix), (Ix.rputs L l).length ≤ l.length + L.length := by
    intro L
    induction L with
    | nil => intro l; exact Nat.le_refl _
    | cons a r ih =>
      intro l
      have h1 := ih (Ix.rput a.1 a.2 l)
      have h2 := Ix.rput_len' a.1 a.2 l
      have h3 : Ix.rputs (a :: r) l = Ix.rputs r (Ix.rput a.1 a.2 l) := rfl
      rw [h3, List.length_cons]; omega
  have := h (es.map entL) []
  rw [List.length_map, List.length_nil] at this; omega
set_option maxRecDepth 20000 in
set_option maxHeartbeats 1000000 in
theorem IndexNil_ok (xs : List Act) (v : Value) (hao : ActsOk xs) (n : UInt8) (I : Heap) (hA : ActsS I xs v) : Pure Tryz.prog 12 [v, u8 n] I (.bool true) := by
 refine Ctr.toPure ?_
 refine Ctr.of_body Tryz.func12 rfl (by decide) (Nat.le_of_ble_eq_true rfl) ?_
 intro w0 hw0
 refine Cj.seq (Cj.region (J.z (yl_assign rfl rfl) ?_))
 refine J.nil (Ej.seq (Cj.seq (Cj.region (J.op rfl (op_pure rfl rfl rfl rfl rfl (sanity_ok _) ?_)))))
 refine J.z (yl_assign rfl rfl) ?_
 refine J.nil (Ej.seq (Cj.seq (Cj.region (J.z (yl_assign rfl rfl) ?_))))
 refine J.nil (Ej.seq (Cj.seq (Cj.region (J.z (yl_move rfl rfl) ?_))))
 refine J.z (yl_buildS (pl := #[(0, 1), (1, 1)]) rfl rfl Tryz.zeroValue26 rfl Tryz.underlying26 (fun w => by simp [Tryz.sizeOf3]) LBld.none) ?_
 refine J.op rfl (op_pure rfl rfl rfl rfl rfl (Drop_nil (0, 0) _) ?_)
 refine J.nil (Ej.seq (Cj.seq (Cj.region (J.z (yl_buildS (pl := #[(0, 1), (1, 1), (2, 1)]) rfl rfl Tryz.zeroValue89 rfl Tryz.underlying89 (fun w => by simp [Tryz.sizeOf85, Tryz.sizeOf87]) LBld.none) ?_))))
 refine J.op rfl (op_box rfl rfl rfl rfl rfl ?_)
 intro b1 hb1
 refine J.z (yl_assign rfl rfl) ?_
 refine J.nil (Ej.seq (Cj.seq (Cj.known (fun I9 hI9 hd9 hn9 hs9 => ?_))))
 subst hI9
 replace hs9 : ∀ p ∈ ixH b1 none, w0.heap.size ≤ p.1 := fun p hp => (hs9 p hp).resolve_left (by simp)
 have hA9 := hA
 refine Cj.perm (H' := ixH b1 none ++ []) (.of_eq (List.append_nil _)) ?_
 refine Cj.persists (ixH b1 none) hs9 (fun Iz hl9 hK9 => ?_)
 have hA := hA.mono hl9
 have hx0 : IxP Iz b1 [] := ⟨none, rfl, hK9⟩
 refine Cj.region (J.z (yl_move rfl rfl) ?_)
 refine J.op rfl (op_callN rfl rfl rfl rfl rfl (Titles_ok b1 [] _ hx0) ?_ (fun _ _ _ _ h => by obtain ⟨_, _, h, _⟩ := h; cases h) (fun _ _ h => by obtain ⟨_, _, h, _⟩ := h; cases h))
 intro v3 I4 H5 hle6 hn2 hp7
 have hA := hA.mono hle6
 have hl9 := hl9.mono hle6
 have hK9 := fun p hp => hle6 _ _ (hK9 p hp)
 have hx0 := hx0.mono hle6
 obtain ⟨ga, hga, h, rfl⟩ := hp7; cases h
 refine J.keepR recC_len (by decide) (hga.base hn2) (by simp) (fun Ia hlea hra => ?_)
 have hA := hA.mono hlea
 have hl9 := hl9.mono hlea
 have hK9 := fun p hp => hlea _ _ (hK9 p hp)
 have hx0 := hx0.mono hlea
 obtain ⟨pa, ca, hea⟩ := RowS.len hra
 refine J.eqv 18 rfl hea ?_
 refine J.z (yl_lenSlice rfl rfl Tryz.underlying44) ?_
 refine J.z (yl_move rfl rfl) ?_
 refine J.z (yl_move rfl rfl) ?_
 refine J.op rfl (op_pure rfl rfl rfl rfl rfl (name_ok n _) ?_)
 refine J.op rfl (op_callN rfl rfl rfl rfl rfl (Word_ok b1 [] (nameN n) [97] (by decide) _ hx0) ?_ (fun _ _ _ _ h => by obtain ⟨_, h, _⟩ := h; cases h) (fun _ _ h => by obtain ⟨_, h, _⟩ := h; cases h))
 intro v9 I10 H11 hle12 hn8 hp13
 have hA := hA.mono hle12
 have hl9 := hl9.mono hle12
 have hK9 := fun p hp => hle12 _ _ (hK9 p hp)
 have hx0 := hx0.mono hle12
 have hra := hra.mono hle12
 obtain ⟨wb, h, hob⟩ := hp13; cases h
 refine J.keepO hob hn8 (fun Ib hleb hrb => ?_)
 have hA := hA.mono hleb
 have hl9 := hl9.mono hleb
 have hK9 := fun p hp => hleb _ _ (hK9 p hp)
 have hx0 := hx0.mono hleb
 have hra := hra.mono hleb
 replace hrb := hrb.row
 rw [word_e] at hrb
 obtain ⟨pb, cb, heb⟩ := RowS.len hrb
 refine J.eqv 23 rfl heb ?_
 refine J.z (yl_lenSlice rfl rfl Tryz.underlying44) ?_
 refine J.z (yl_add rfl rfl rfl (w64 (by simp))) ?_
 refine J.z (yl_move rfl rfl) ?_
 refine J.z (yl_move rfl rfl) ?_
 refine J.op rfl (op_pure rfl rfl rfl rfl rfl (name_ok n _) ?_)
 refine J.op rfl (op_callN rfl rfl rfl rfl rfl (Scan_ok b1 [] (nameN n) [] (by decide) 5 _ hx0) ?_ (fun _ _ _ _ h => by obtain ⟨_, h, _⟩ := h; cases h) (fun _ _ h => by obtain ⟨_, h, _⟩ := h; cases h))
 intro v15 I16 H17 hle18 hn14 hp19
 have hA := hA.mono hle18
 have hl9 := hl9.mono hle18
 have hK9 := fun p hp => hle18 _ _ (hK9 p hp)
 have hx0 := hx0.mono hle18
 have hra := hra.mono hle18
 have hrb := hrb.mono hle18
 obtain ⟨wc, h, hoc⟩ := hp19; cases h
 refine J.keepO hoc hn14 (fun Ic hlec hrc => ?_)
 have hA := hA.mono hlec
 have hl9 := hl9.mono hlec
 have hK9 := fun p hp => hlec _ _ (hK9 p hp)
 have hx0 := hx0.mono hlec
 have hra := hra.mono hlec
 have hrb := hrb.mono hlec
 replace hrc := hrc.row
 rw [scan_e] at hrc
 obtain ⟨pc, cc, hec⟩ := RowS.len hrc
 refine J.eqv 29 rfl hec ?_
 refine J.z (yl_lenSlice rfl rfl Tryz.underlying47) ?_
 refine J.z (yl_add rfl rfl rfl (w64 (by simp))) ?_
 refine J.z (yl_eql rfl rfl rfl) ?_
 refine J.eqv 32 rfl (show _ = .bool true from (congrArg Value.bool (by first | rfl | decide | simp))) ?_
 refine J.z (yl_move rfl rfl) ?_
 refine J.opG 16 33 true _ rfl rfl rfl rfl (op_yld (yl_move rfl rfl) rfl rfl ?_)
 refine J.opG 16 33 true _ rfl rfl rfl rfl (op_yld (yl_buildS (pl := #[(0, 1), (1, 1)]) rfl rfl Tryz.zeroValue26 rfl Tryz.underlying26 (fun w => by simp [Tryz.sizeOf3]) LBld.none) rfl rfl ?_)
 refine J.opG 16 33 true _ rfl rfl rfl rfl (op_pure rfl rfl rfl rfl rfl (Sort_ok' b1 [] (0, 0) _ hx0) ?_)
 refine J.opG 16 33 true _ rfl rfl rfl rfl (op_yld (yl_eqlStr rfl rfl rfl) rfl rfl ?_)
 refine J.eqv 37 rfl (show _ = .bool true from (congrArg Value.bool (by first | rfl | decide | simp))) ?_
 refine J.z (yl_pick1 rfl rfl rfl rfl) ?_
 refine J.z (yl_assign rfl rfl) ?_
 refine J.nil (Ej.seq (Cj.seq (Cj.seq (Cj.thaw (ixH b1 none) hn9 hK9 hs9 (fun p hp => hw0.dom (hs9 p hp)) ?_))))
 have hle9 := le_hless hd9 hl9
 refine Cj.perm (H' := ixH b1 none) (.of_eq (List.append_nil _).symm) ?_
 have hA := hA9.mono hle9
 clear hl9 hK9
 refine Cj.region (J.z (yl_move rfl rfl) ?_)
 refine J.op rfl (op_call (H1 := []) rfl rfl rfl rfl rfl (Entries_ok xs _ hao _ hA) ?_ (fun _ _ _ _ h => by obtain ⟨_, _, h, _⟩ := h; cases h) (fun _ _ h => by obtain ⟨_, _, h, _⟩ := h; cases h))
 intro v20 I21 H22 hle23 hp24
 have hA := hA.mono hle23
 obtain ⟨es, w, h, hE, hL, hek, hel, rfl⟩ := hp24; cases h
 obtain ⟨pe, ce, hee⟩ := RowS.len hE.1
 refine J.eqv 40 rfl hee ?_
 rw [hee] at hE
 refine J.z (yl_lenSlice rfl rfl Tryz.underlying27) ?_
 refine J.z (yl_move rfl rfl) ?_
 refine J.nil (Ej.seq (Cj.block (Cj.keep Keeps.r ?_)))
 refine Cj.loop (ι := Nat × Heap × Option Ist) (fun y => y.1 ≤ es.length ∧ Le I21 y.2.1 ∧ IxOk y.2.1 y.2.2 (Ix.rputs ((es.take y.1).map entL) [])) (fun y => es.length - y.1) (fun y => [(0, v), (1, u8 n), (5, .bool true), (6, .pointer none), (7, ptr b1 0), (8, .bool true), (40, .slice pe es.length ce), (41, i64 (es.length : Int)), (42, i64 (y.1 : Int))]) (fun y => y.2.1) (fun y => ixH b1 y.2.2) (0, _, none) ⟨Nat.zero_le _, Le.refl _, rfl⟩ ⟨rfl, rfl, rfl, rfl, rfl, rfl, rfl, rfl, rfl, trivial⟩ rfl rfl ?_
 rintro ⟨k, J1, o⟩ ⟨hk, hIJ, hok⟩
 dsimp only at hk hIJ hok ⊢
 have hE := hE.mono hIJ
 have hA := hA.mono hIJ
 refine Cj.seq (Cj.region (J.z (yl_lss rfl rfl rfl) ?_))
 refine J.nil (Ej.seq (Cj.seq (Cj.cond rfl (fun hc25 => ?_) (fun hc25 => ?_))))
 ·
  have hc25p := of_decide_eq_true hc25
  refine Cj.skip (Ej.seq (Cj.seq (Cj.block (Cj.seq ?_))))
  have hlt : k < es.length := by omega
  obtain ⟨e0, hget⟩ : ∃ x, es[k]? = some x := ⟨_, List.getElem?_eq_getElem hlt⟩
  have hek0 := hek e0 (List.mem_of_getElem? hget)
  have hpl := zputs_len (es.take k)
  rw [List.length_take] at hpl
  obtain ⟨p1, c1, hpe, hc1, hp⟩ := id hE.1
  cases hpe
  obtain ⟨eb, eo, ecs, ety, efr, esp, rfl, heb, hed⟩ := hp (ne_nil_of hlt)
  have hrec := hE.2 e0 (List.mem_of_getElem? hget)
  obtain ⟨vp0, vc0, hev, -, -⟩ := id hrec.1
  refine Cj.region (J.z (yl_indexAddr (off' := eo + k * 5) rfl rfl rfl Tryz.underlying27 Tryz.sizeOf37 (by omega) (by omega) (by simp)) ?_)
  refine J.z (yl_loadAgg rfl rfl Tryz.isAgg37 Tryz.sizeOf37 (Blk.imm heb) (row_from entC_len hed hget) rfl) ?_
  refine J.op rfl (op_alloc rfl rfl rfl Tryz.zeroValue37 rfl ?_)
  intro b26 hb26
  refine J.op rfl (op_store 0 rfl rfl rfl rfl rfl (ent_one hev) Tryz.sizeOf37 rfl rfl (LSpl.c (LSpl.c (LSpl.c (LSpl.c (LSpl.c LSpl.z))))) LSet.z ?_)
  refine J.nil (Ej.seq (Cj.seq (Cj.region (J.z (yl_move rfl rfl) ?_))))
  refine J.z (yl_loadAgg rfl rfl Tryz.isAgg37 Tryz.sizeOf37 (Blk.at 0 rfl) rfl rfl) ?_
  refine J.op rfl (op_pure rfl rfl rfl rfl rfl (Put_nil _ (entC e0) rfl rfl _) ?_)
  refine J.nil (Ej.seq (Cj.region (J.z (yl_move rfl rfl) ?_)))
  refine J.z (yl_loadAgg rfl rfl Tryz.isAgg37 Tryz.sizeOf37 (Blk.at 0 rfl) rfl rfl) ?_
  refine J.op rfl (op_callR (H1 := ixH _ _) [_] rfl rfl rfl rfl rfl rfl (Put_ok b1 o _ e0 _ hok (by omega) hek0 hrec) ?_ (fun _ _ _ _ h => by obtain ⟨_, h, _⟩ := h; cases h) (fun _ _ h => by obtain ⟨_, h, _⟩ := h; cases h))
  intro v27 I28 H29 hle30 hp31
  have hIJ := hIJ.mono hle30
  have hE := hE.mono hle30
  have hok := hok.mono hle30
  have hA := hA.mono hle30
  have heb := hle30 _ _ heb
  have hrec := hrec.mono hle30
  obtain ⟨o1, h, hok1, rfl⟩ := hp31; cases h
  refine J.nil (Ej.blkNormal (Ej.seq (Cj.region (J.z (yl_add rfl rfl rfl (w64 (by omega))) ?_))))
  refine J.z (yl_move rfl rfl) ?_
  refine J.nil (Ej.keep (Keeps.d Keeps.r) ?_)
  refine Ej.round (k + 1, _, o1) ⟨by dsimp only; omega, hIJ, by dsimp only; rw [rputs_next hget]; exact hok1⟩ (by dsimp only; omega) ⟨rfl, rfl, rfl, rfl, rfl, rfl, rfl, rfl, rfl, trivial⟩ rfl rfl
 ·
  have hc25p := of_decide_eq_false hc25
  refine Cj.exit (Ej.seqExit (Ej.loopExit (Ej.blkExit (Ej.seq (Cj.seq (Cj.seq (Cj.region (J.z (yl_move rfl rfl) ?_))))))))
  refine J.op rfl (op_pure rfl rfl rfl rfl rfl (Titles_nil _) ?_)
  refine J.z (yl_lenSlice rfl rfl Tryz.underlying44) ?_
  refine J.z (yl_move rfl rfl) ?_
  refine J.z (yl_move rfl rfl) ?_
  refine J.op rfl (op_pure rfl rfl rfl rfl rfl (name_ok n _) ?_)
  refine J.op rfl (op_pure rfl rfl rfl rfl rfl (Ctr.toPure (Word_nil (nameN n) [115, 101, 97] (by decide) _)) ?_)
  refine J.z (yl_lenSlice rfl rfl Tryz.underlying44) ?_
  refine J.z (yl_add rfl rfl rfl (w64 (by omega))) ?_
  refine J.z (yl_move rfl rfl) ?_
  refine J.z (yl_move rfl rfl) ?_
  refine J.op rfl (op_pure rfl rfl rfl rfl rfl (name_ok n _) ?_)
  refine J.op rfl (op_pure rfl rfl rfl rfl rfl (Ctr.toPure (Phrase_nil (nameN n) [115, 101, 97] (by decide) _)) ?_)
  refine J.z (yl_lenSlice rfl rfl Tryz.underlying44) ?_
  refine J.z (yl_add rfl rfl rfl (w64 (by omega))) ?_
  refine J.z (yl_move rfl rfl) ?_
  refine J.z (yl_move rfl rfl) ?_
  refine J.op rfl (op_pure rfl rfl rfl rfl rfl (name_ok n _) ?_)
  refine J.op rfl (op_pure rfl rfl rfl rfl rfl (Ctr.toPure (Key_nil (nameN n) [115, 101, 97] _)) ?_)
  refine J.z (yl_lenSlice rfl rfl Tryz.underlying44) ?_
  refine J.z (yl_add rfl rfl rfl (w64 (by omega))) ?_
  refine J.z (yl_move rfl rfl) ?_
  refine J.z (yl_move rfl rfl) ?_
  refine J.op rfl (op_pure rfl rfl rfl rfl rfl (name_ok n _) ?_)
  refine J.op rfl (op_pure rfl rfl rfl rfl rfl (Ctr.toPure (Scan_nil (nameN n) [] 5 _)) ?_)
  refine J.z (yl_lenSlice rfl rfl Tryz.underlying47) ?_
  refine J.z (yl_add rfl rfl rfl (w64 (by omega))) ?_
  refine J.z (yl_neq rfl rfl rfl) ?_
  refine J.eqv 80 rfl (show _ = .bool false from (congrArg Value.bool (by first | rfl | decide | simp))) ?_
  refine J.z (yl_move rfl rfl) ?_
  refine J.opG 28 81 false _ rfl rfl rfl rfl (op_yld (yl_move rfl rfl) rfl rfl ?_)
  refine J.opG 28 81 false _ rfl rfl rfl rfl (op_yld (yl_buildS (pl := #[(0, 1), (1, 1)]) rfl rfl Tryz.zeroValue26 rfl Tryz.underlying26 (fun w => by simp [Tryz.sizeOf3]) LBld.none) rfl rfl ?_)
  refine J.opG 28 81 false _ rfl rfl rfl rfl (op_pure rfl rfl rfl rfl rfl (Sort_nil (0, 0) _) ?_)
  refine J.opG 28 81 false _ rfl rfl rfl rfl (op_yld (yl_neqStr rfl rfl rfl) rfl rfl ?_)
  refine J.eqv 85 rfl (show _ = .bool false from (congrArg Value.bool (by first | rfl | decide | simp))) ?_
  refine J.z (yl_pick0 rfl rfl rfl rfl) ?_
  refine J.nil (Ej.seq (Cj.cond rfl (fun hc32 => Bool.noConfusion (Eq.trans (Eq.symm rfl) hc32)) (fun hc32 => ?_)))
  refine Cj.skip (Ej.seq (Cj.seq (Cj.known (fun I9 hI9 hd9 hn9 hs9 => ?_))))
  subst hI9
  replace hs9 : ∀ p ∈ ixH b1 o, w0.heap.size ≤ p.1 := fun p hp => (hs9 p hp).resolve_left (by simp)
  have hfull : es.take k = es := List.take_of_length_le (by omega)
  rw [hfull, hL] at hok
  refine Cj.perm (H' := ixH b1 o ++ []) (.of_eq (List.append_nil _)) ?_
  refine Cj.persists (ixH b1 o) hs9 (fun If hlf hKf => ?_)
  have hIJ := hIJ.mono hlf
  have hE := hE.mono hlf
  have hok := hok.mono hlf
  have hA := hA.mono hlf
  have hx : IxP If b1 (Ix.rputs (Ix.ents (acts xs)) []) := ⟨o, hok, hKf⟩
  clear hok hKf
  refine Cj.region (J.z (yl_move rfl rfl) ?_)
  refine J.z (yl_move rfl rfl) ?_
  refine J.opG 1 88 true _ rfl rfl rfl rfl (op_yld (yl_move rfl rfl) rfl rfl ?_)
  refine J.z (yl_pick1 rfl rfl rfl rfl) ?_
  refine J.z (yl_move rfl rfl) ?_
  refine J.opG 4 91 true _ rfl rfl rfl rfl (op_yld (yl_move rfl rfl) rfl rfl ?_)
  refine J.opG 4 91 true _ rfl rfl rfl rfl (op_yld (yl_move rfl rfl) rfl rfl ?_)
  refine J.opG 4 91 true _ rfl rfl rfl rfl (op_pure rfl rfl rfl rfl rfl (name_ok n _) ?_)
  refine J.opG 4 91 true _ rfl rfl rfl rfl (op_callN rfl rfl rfl rfl rfl (Scan_ok b1 (Ix.rputs (Ix.ents (acts xs)) []) (nameN n) [] (by decide) 1000 _ hx) ?_ (fun _ _ _ _ h => by obtain ⟨_, h, _⟩ := h; cases h) (fun _ _ h => by obtain ⟨_, h, _⟩ := h; cases h))
  intro v34 I35 H36 hle37 hn33 hp38
  have hIJ := hIJ.mono hle37
  have hE := hE.mono hle37
  have hA := hA.mono hle37
  have hx := hx.mono hle37
  obtain ⟨wf, h, hof⟩ := hp38; cases h
  refine J.keepO hof hn33 (fun If hlef hrf => ?_)
  have hIJ := hIJ.mono hlef
  have hE := hE.mono hlef
  have hA := hA.mono hlef
  have hx := hx.mono hlef
  replace hrf := hrf.row
  refine J.opG 4 91 true _ rfl rfl rfl rfl (op_yld (yl_move rfl rfl) rfl rfl ?_)
  refine J.opG 4 91 true _ rfl rfl rfl rfl (op_call (H1 := []) rfl rfl rfl rfl rfl (Entries_ok xs _ hao _ hA) ?_ (fun _ _ _ _ h => by obtain ⟨_, _, h, _⟩ := h; cases h) (fun _ _ h => by obtain ⟨_, _, h, _⟩ := h; cases h))
  intro v39 I40 H41 hle42 hp43
  have hIJ := hIJ.mono hle42
  have hE := hE.mono hle42
  have hA := hA.mono hle42
  have hx := hx.mono hle42
  have hrf := hrf.mono hle42
  obtain ⟨es2, w2, h, hE2, hL2, hek2, hel2, rfl⟩ := hp43; cases h
  refine J.opG 4 91 true _ rfl rfl rfl rfl (op_callN rfl rfl rfl rfl rfl (Build_ok (es2) _ (by omega) hek2 _ hE2) ?_ (fun _ _ _ _ h => by obtain ⟨_, _, h, _⟩ := h; cases h) (fun _ _ h => by obtain ⟨_, _, h, _⟩ := h; cases h))
  intro v45 I46 H47 hle48 hn44 hp49
  have hIJ := hIJ.mono hle48
  have hE := hE.mono hle48
  have hA := hA.mono hle48
  have hx := hx.mono hle48
  have hrf := hrf.mono hle48
  have hE2 := hE2.mono hle48
  obtain ⟨ib2, o2, h, hok, rfl⟩ := hp49; cases h
  refine J.persists (ixH ib2 o2) hn44 (fun Ip2 hlep hK => ?_)
  have hIJ := hIJ.mono hlep
  have hE := hE.mono hlep
  have hA := hA.mono hlep
  have hx := hx.mono hlep
  have hrf := hrf.mono hlep
  have hE2 := hE2.mono hlep
  have hx2 : IxP Ip2 ib2 (Ix.rputs ((es2).map entL) []) := ⟨o2, hok.mono hlep, hK⟩
  clear hok hK
  rw [hL2] at hx2
  refine J.opG 4 91 true _ rfl rfl rfl rfl (op_yld (yl_move rfl rfl) rfl rfl ?_)
  refine J.opG 4 91 true _ rfl rfl rfl rfl (op_pure rfl rfl rfl rfl rfl (name_ok n _) ?_)
  refine J.opG 4 91 true _ rfl rfl rfl rfl (op_callN rfl rfl rfl rfl rfl (Scan_ok ib2 (Ix.rputs (Ix.ents (acts xs)) []) (nameN n) [] (by decide) 1000 _ hx2) ?_ (fun _ _ _ _ h => by obtain ⟨_, h, _⟩ := h; cases h) (fun _ _ h => by obtain ⟨_, h, _⟩ := h; cases h))
  intro v51 I52 H53 hle54 hn50 hp55
  have hIJ := hIJ.mono hle54
  have hE := hE.mono hle54
  have hA := hA.mono hle54
  have hx := hx.mono hle54
  have hrf := hrf.mono hle54
  have hE2 := hE2.mono hle54
  have hx2 := hx2.mono hle54
  obtain ⟨wg, h, hog⟩ := hp55; cases h
  refine J.keepO hog hn50 (fun Ig hleg hrg => ?_)
  have hIJ := hIJ.mono hleg
  have hE := hE.mono hleg
  have hA := hA.mono hleg
  have hx := hx.mono hleg
  have hrf := hrf.mono hleg
  have hE2 := hE2.mono hleg
  have hx2 := hx2.mono hleg
  replace hrg := hrg.row
  refine J.opG 4 91 true _ rfl rfl rfl rfl (op_pure rfl rfl rfl rfl rfl (rLines_ok ((Ix.scan (Ix.rputs (Ix.ents (acts xs)) []) (nameN n) [] 1000).map lineI) ((Ix.scan (Ix.rputs (Ix.ents (acts xs)) []) (nameN n) [] 1000).map lineI) _ _ (by have := scan_small (Ix.rputs (Ix.ents (acts xs)) []) (nameN n) [] 1000; omega) _ hrf hrg) ?_)
  refine J.eqv 102 rfl (show _ = .bool true from (congrArg Value.bool (decide_eq_true rfl))) ?_
  refine J.z (yl_pick1 rfl rfl rfl rfl) ?_
  refine J.z (yl_assign rfl rfl) ?_
  refine J.nil (Ej.seq (Cj.ret (Ej.ret1 rfl rfl rfl ?_)))
  exact ⟨rfl, rfl⟩
end Go.Proofs.YtjcdfnbomkoheaaGreatDoor
