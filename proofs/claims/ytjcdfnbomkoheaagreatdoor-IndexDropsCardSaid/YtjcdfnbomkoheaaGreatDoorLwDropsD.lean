/-
  The law IndexDrops. Own text, printed by a program. Conditions: none.
-/
import Derived.Test.YtjcdfnbomkoheaaGreatDoorPD13
import Derived.Test.YtjcdfnbomkoheaaGreatDoorPD12
set_option maxRecDepth 100000
set_option maxHeartbeats 4000000
namespace Go.Proofs.YtjcdfnbomkoheaaGreatDoor
open _root_.Go.Proofs.Tryz
open Go Go.Sx
theorem entsS_one {I : Heap} {es : List Ent} {v : Value} (h : EntsS I es v) : ∀ e ∈ es, (entC e).all Value.oneCell' = true := fun e he => by
  obtain ⟨p, c, hv⟩ := RowS.len (h.2 e he).1
  exact ent_one hv
abbrev ent1 (k l : UInt8) (pv : Option Addr) (cv : Nat) (fs : List Ke.Fld) : Ent := ⟨((1099511627776, 1) : Ix.Rec), k, l, .slice pv fs.length cv, fs⟩
theorem drop_none {L : Ix.Ix} {t : Ix.Rec} (h : ∀ e ∈ L, e.1 ≠ t) : Ix.rdrop t L = L := List.filter_eq_self.2 fun e he => by simpa using h e he
theorem sort_none {L : Ix.Ix} {t : Ix.Rec} (h : ∀ e ∈ L, e.1 ≠ t) : Ix.sortOf L t = [] := by
  unfold Ix.sortOf
  rw [Ix.rget_none.2 h]
theorem no_next {P : List Ix.Rec} {i : Nat} {x t : Ix.Rec} (h : ∀ y ∈ P.take i, y ≠ t) (hx : P[i]? = some x) (hn : x ≠ t) : ∀ y ∈ P.take (i + 1), y ≠ t := by
  intro y hy
  rw [List.take_add_one, hx] at hy
  rcases List.mem_append.1 hy with g | g
  · exact h y g
  rw [show y = x by simpa using g]; exact hn
theorem th_next {P : List Ix.Rec} {i : Nat} {x t : Ix.Rec} {b : Bool} (h : b = decide (t ∈ P.take i)) (hx : P[i]? = some x) : (b || x == t) = decide (t ∈ P.take (i + 1)) := by
  rw [List.take_add_one, hx, h, Bool.eq_iff_iff, Bool.or_eq_true, decide_eq_true_eq, decide_eq_true_eq, List.mem_append, beq_iff_eq]
  simp [eq_comm]
theorem IndexDrops_ok (xs : List Act) (v : Value) (hao : ActsOk xs) (x : Act) (hxo : ∀ q ∈ x.a.fs, FourOk q) (n : UInt8) (I : Heap) (hA : ActsS I xs v) (hxv : RowS fourC I x.a.fs x.v) : Pure Tryz.prog 11 [v, .agg (actC x).toArray, u8 n] I (.bool true) := by
 refine Ctr.toPure ?_
 have hsrt := Ix.play_srt (acts xs)
 have hfew := Ix.play_few (acts xs)
 refine Ctr.ob func11 ?_
 intro w0 hw0
 refine Cj.sr (J.op rfl (q17 ?_))
 intro b1 hb1
 refine J.z q1 ?_
 refine J.nss (Cj.persist hb1 (fun I3 hle2 hb1i => ?_))
 have hA := hA.mono hle2
 have hxv := hxv.mono hle2
 refine Cj.region (J.op rfl (op_pure rfl rfl rfl rfl rfl (sanity_ok _) ?_))
 refine J.z q1 ?_
 refine J.nssr (J.z q0 ?_)
 refine J.op rfl (op_call (H1 := []) rfl rfl rfl rfl rfl (play_ok xs _ hao _ hA) ?_ (fun _ _ _ _ ⟨_, _, h, _⟩ => nomatch h) (fun _ _ ⟨_, _, h, _⟩ => nomatch h))
 intro v4 I5 H6 hle7 hp8
 have hA := hA.mono hle7
 have hxv := hxv.mono hle7
 have hb1i := hle7 _ _ hb1i
 obtain ⟨ib, o, h, hox, rfl⟩ := hp8; cases h
 refine J.perm (H' := ixH ib o) (.of_eq (List.append_nil _).symm) ?_
 refine J.z q0 ?_
 refine J.op rfl (op_callN rfl rfl rfl rfl rfl (play_ok xs _ hao _ hA) ?_ (fun _ _ _ _ ⟨_, _, h, _⟩ => nomatch h) (fun _ _ ⟨_, _, h, _⟩ => nomatch h))
 intro v10 I11 H12 hle13 hn9 hp14
 have hA := hA.mono hle13
 have hxv := hxv.mono hle13
 have hb1i := hle13 _ _ hb1i
 have hox := hox.mono hle13
 obtain ⟨ib2, o2, h, hok, rfl⟩ := hp14; cases h
 refine J.persists (ixH ib2 o2) hn9 (fun Ip2 hlep hK => ?_)
 have hA := hA.mono hlep
 have hxv := hxv.mono hlep
 have hb1i := hlep _ _ hb1i
 have hox := hox.mono hlep
 have hx2 : IxP Ip2 ib2 (Ix.play (acts xs)) := ⟨o2, hok.mono hlep, hK⟩
 clear hok hK
 refine J.z q1 ?_
 refine J.z q1 ?_
 refine J.nssr (J.z (q7 isAgg80 sizeOf80 (Blk.imm hb1i)) ?_)
 refine J.op rfl (op_call (H1 := []) rfl rfl rfl rfl rfl (Entry_ok x hxo _ hxv) ?_ (fun _ _ _ _ ⟨_, h, _⟩ => nomatch h) (fun _ _ ⟨_, h, _⟩ => nomatch h))
 intro v15 I16 H17 hle18 hp19
 have hA := hA.mono hle18
 have hxv := hxv.mono hle18
 have hb1i := hle18 _ _ hb1i
 have hox := hox.mono hle18
 have hx2 := hx2.mono hle18
 obtain ⟨⟨t0, k0, l0, v0, fs0⟩, h, he0, rfl⟩ := hp19; cases h
 obtain ⟨pv, cv, hev⟩ := RowS.len he0.r.1
 dsimp only at hev
 subst hev
 have hrec := he0.r
 have hek1 := he0.eok
 dsimp only at hrec hek1
 refine J.op rfl (op_alloc rfl rfl rfl zeroValue37 rfl ?_)
 intro b20 hb20
 refine J.op rfl (q12 0 sizeOf37 (LSpl.c (LSpl.c (LSpl.c (LSpl.c (LSpl.c LSpl.z))))) LSet.z ?_)
 refine J.nssr (J.z (yl_buildS (pl := #[(0, 1), (1, 1)]) rfl rfl zeroValue26 rfl underlying26 (fun w => by simp [sizeOf3]) (LBld.part rfl rfl rfl (LSpl.c LSpl.z) (LBld.part rfl rfl rfl (LSpl.s (LSpl.c LSpl.z)) LBld.none))) ?_)
 refine J.z (q2 (off' := 0) underlying37 sizeOf26) ?_
 refine J.op rfl (q12 0 sizeOf26 (LSpl.c (LSpl.c LSpl.z)) LSet.z ?_)
 refine J.nsss (Cj.persist hb20 (fun I22 hle21 hb20i => ?_))
 have hA := hA.mono hle21
 have hxv := hxv.mono hle21
 have hb1i := hle21 _ _ hb1i
 have hox := hox.mono hle21
 have hx2 := hx2.mono hle21
 have hrec := hrec.mono hle21
 have he1 : _ = some (cel 37 (entC (ent1 k0 l0 pv cv fs0))) := hb20i
 refine Cj.region (J.z q0 ?_)
 refine J.op rfl (op_callN rfl rfl rfl rfl rfl (Titles_ok ib2 (Ix.play (acts xs)) _ hx2) ?_ (fun _ _ _ _ ⟨_, _, h, _⟩ => nomatch h) (fun _ _ ⟨_, _, h, _⟩ => nomatch h))
 intro v24 I25 H26 hle27 hn23 hp28
 have hA := hA.mono hle27
 have hxv := hxv.mono hle27
 have hb1i := hle27 _ _ hb1i
 have hox := hox.mono hle27
 have hx2 := hx2.mono hle27
 have hrec := hrec.mono hle27
 have he1 := hle27 _ _ he1
 obtain ⟨ga, hga, h, rfl⟩ := hp28; cases h
 refine J.keepR recC_len (by decide) (hga.base hn23) (by simp) (fun Ia hlea hra => ?_)
 have hA := hA.mono hlea
 have hxv := hxv.mono hlea
 have hb1i := hlea _ _ hb1i
 have hox := hox.mono hlea
 have hx2 := hx2.mono hlea
 have hrec := hrec.mono hlea
 have he1 := hlea _ _ he1
 obtain ⟨pa, ca, hea⟩ := RowS.len hra
 refine J.eqv 26 rfl hea ?_
 rw [hea] at hra
 refine J.z (q8 underlying44) ?_
 refine J.z q0 ?_
 refine J.ns (Cj.block (Cj.keep Keeps.r ?_))
 refine Cj.loop (ι := Nat) (fun y => y ≤ ((Ix.play (acts xs)).map Prod.fst).length ∧ ∀ z ∈ ((Ix.play (acts xs)).map Prod.fst).take y, z ≠ ((1099511627776, 1) : Ix.Rec)) (fun y => ((Ix.play (acts xs)).map Prod.fst).length - y) (fun y => [(0, v), (2, u8 n), (7, .bool true), (8, ptr ib 0), (9, ptr ib2 0), (10, ptr b20 0), (26, .slice pa ((Ix.play (acts xs)).map Prod.fst).length ca), (27, i64 (((Ix.play (acts xs)).map Prod.fst).length : Int)), (28, i64 (y : Int))]) (fun y => _) (fun y => ixH ib o) 0 ⟨Nat.zero_le _, fun z h => by cases h⟩ ⟨rfl, rfl, rfl, rfl, rfl, rfl, rfl, rfl, rfl, trivial⟩ rfl rfl ?_
 rintro y ⟨hyk, hno⟩
 have hTL : ((Ix.play (acts xs)).map Prod.fst).length ≤ 20 := by rw [List.length_map]; exact hfew.1
 refine Cj.sr (J.z q13 ?_)
 refine J.nss (Cj.cond rfl (fun hc29 => ?_) (fun hc29 => ?_))
 ·
  have hc29p := of_decide_eq_true hc29
  refine Cj.skip (Ej.seq (Cj.seq (Cj.block (Cj.seq ?_))))
  have hlt : y < ((Ix.play (acts xs)).map Prod.fst).length := by omega
  obtain ⟨z, hget⟩ : ∃ x, ((Ix.play (acts xs)).map Prod.fst)[y]? = some x := ⟨_, List.getElem?_eq_getElem hlt⟩
  obtain ⟨p1, c1, hpe, hc1, hp⟩ := id hra
  cases hpe
  obtain ⟨ab, ao, acs, aty, afr, asp, rfl, hab, had⟩ := hp (ne_nil_of hlt)
  refine Cj.region (J.z (q18 (off' := ao + y * 2) underlying44 sizeOf26) ?_)
  refine J.z (yl_loadAgg rfl rfl isAgg26 sizeOf26 (Blk.imm hab) (row_from recC_len had hget) rfl) ?_
  refine J.op rfl (op_alloc rfl rfl rfl zeroValue26 rfl ?_)
  intro b30 hb30
  refine J.op rfl (q12 0 sizeOf26 (LSpl.c (LSpl.c LSpl.z)) LSet.z ?_)
  refine J.nssr (J.z (q7 isAgg26 sizeOf26 (Blk.at 0 rfl)) ?_)
  refine J.z (q2 (off' := 0) underlying37 sizeOf26) ?_
  refine J.z (q7 isAgg26 sizeOf26 (Blk.imm he1)) ?_
  refine J.z (yl_eqlK (kv := recA) (a := z) (b := ((1099511627776, 1) : Ix.Rec)) rfl rfl rfl rfl rfl eqRec (by kernel_rfl)) ?_
  refine J.cd (fun hc31 => ?_) (fun hc31 => ?_)
  ·
   have hc31p := eq_of_beq hc31
   refine Cj.sr (J.z q0 ?_)
   refine J.z q1 ?_
   refine J.ns (Cj.ret (Ej.blkRet (Ej.seqRet (Ej.loopRet (Ej.blkRet (Ej.seqRet (Ej.bare ?_)))))))
   refine q6 ?_
   exact ⟨rfl, rfl⟩
  have hc31p := ne_of_beq_false hc31
  have hne : z ≠ ((1099511627776, 1) : Ix.Rec) := fun h => by have g := hc31; rw [h] at g; simp at g
  refine Cj.skip (Ej.blkNormal (Ej.seq (Cj.region (J.z (yl_add rfl rfl rfl (w64 (by omega))) ?_))))
  refine J.z q0 ?_
  refine J.nil (Ej.keep (Keeps.d Keeps.r) ?_)
  refine Ej.round (y + 1) ⟨by omega, no_next hno hget hne⟩ (by omega) ⟨rfl, rfl, rfl, rfl, rfl, rfl, rfl, rfl, rfl, trivial⟩ rfl rfl
 have hc29p := of_decide_eq_false hc29
 refine Cj.exit (Ej.seqExit (Ej.loopExit (Ej.blkExit (Ej.seq (Cj.seq ?_)))))
 have hfull : ((Ix.play (acts xs)).map Prod.fst).take y = ((Ix.play (acts xs)).map Prod.fst) := List.take_of_length_le (by omega)
 rw [hfull] at hno
 have hno2 : ∀ e ∈ (Ix.play (acts xs)), e.1 ≠ ((1099511627776, 1) : Ix.Rec) := fun e he => hno e.1 (List.mem_map_of_mem he)
 have hLP : Ix.rput ((1099511627776, 1) : Ix.Rec) (Ix.vals fs0) (Ix.rput ((1099511627776, 1) : Ix.Rec) (Ix.vals fs0) (Ix.play (acts xs))) = (Ix.rput ((1099511627776, 1) : Ix.Rec) (Ix.vals fs0) (Ix.play (acts xs))) := Ix.put_put hsrt _ _
 have hPl := Ix.rput_len' ((1099511627776, 1) : Ix.Rec) (Ix.vals fs0) (Ix.play (acts xs))
 have hfl := hfew.1
 refine Cj.region (J.z q0 ?_)
 refine J.z (q7 isAgg37 sizeOf37 (Blk.imm he1)) ?_
 refine J.op rfl (op_callR (H1 := ixH ib o) [] rfl rfl rfl rfl rfl rfl (Put_ok ib o (Ix.play (acts xs)) (ent1 k0 l0 pv cv fs0) _ hox (by omega) hek1 hrec) ?_ (fun _ _ _ _ ⟨_, h, _⟩ => nomatch h) (fun _ _ ⟨_, h, _⟩ => nomatch h))
 intro v32 I33 H34 hle35 hp36
 have hA := hA.mono hle35
 have hxv := hxv.mono hle35
 have hb1i := hle35 _ _ hb1i
 have hox := hox.mono hle35
 have hx2 := hx2.mono hle35
 have hrec := hrec.mono hle35
 have he1 := hle35 _ _ he1
 have hra := hra.mono hle35
 obtain ⟨o1, h, hok1, rfl⟩ := hp36; cases h
 refine J.nssr (J.z q0 ?_)
 refine J.z (q7 isAgg37 sizeOf37 (Blk.imm he1)) ?_
 refine J.op rfl (op_callR (H1 := ixH ib o1) [] rfl rfl rfl rfl rfl rfl (Put_ok ib o1 (Ix.rput ((1099511627776, 1) : Ix.Rec) (Ix.vals fs0) (Ix.play (acts xs))) (ent1 k0 l0 pv cv fs0) _ hok1 (by omega) hek1 hrec) ?_ (fun _ _ _ _ ⟨_, h, _⟩ => nomatch h) (fun _ _ ⟨_, h, _⟩ => nomatch h))
 intro v37 I38 H39 hle40 hp41
 have hA := hA.mono hle40
 have hxv := hxv.mono hle40
 have hb1i := hle40 _ _ hb1i
 have hox := hox.mono hle40
 have hx2 := hx2.mono hle40
 have hrec := hrec.mono hle40
 have he1 := hle40 _ _ he1
 have hra := hra.mono hle40
 have hok1 := hok1.mono hle40
 obtain ⟨o2, h, hok2, rfl⟩ := hp41; cases h
 rw [show Ix.rput (ent1 k0 l0 pv cv fs0).t (Ix.vals (ent1 k0 l0 pv cv fs0).fs) (Ix.rput ((1099511627776, 1) : Ix.Rec) (Ix.vals fs0) (Ix.play (acts xs))) = (Ix.rput ((1099511627776, 1) : Ix.Rec) (Ix.vals fs0) (Ix.play (acts xs))) from hLP] at hok2
 refine J.nssr (J.z q1 ?_)
 refine J.nsss ?_
 have hy2 := hx2
 refine Cj.known (fun I9 hI9 hd9 hn9 hs9 => ?_)
 subst hI9
 replace hs9 : ∀ p ∈ ixH ib o2, w0.heap.size ≤ p.1 := fun p hp => (hs9 p hp).resolve_left (by simp)
 have hok29 := hok2
 have hy29 := hy2
 have he19 := he1
 refine Cj.perm (H' := ixH ib o2 ++ []) (.of_eq (List.append_nil _)) ?_
 refine Cj.persists (ixH ib o2) hs9 (fun Iz hl9 hK9 => ?_)
 have hA := hA.mono hl9
 have hxv := hxv.mono hl9
 have hb1i := hl9 _ _ hb1i
 have hx2 := hx2.mono hl9
 have hrec := hrec.mono hl9
 have he1 := hl9 _ _ he1
 have hra := hra.mono hl9
 have hok2 := hok2.mono hl9
 have hy2 := hy2.mono hl9
 have hx : IxP Iz ib (Ix.rput ((1099511627776, 1) : Ix.Rec) (Ix.vals fs0) (Ix.play (acts xs))) := ⟨o2, hok2, hK9⟩
 refine Cj.region (J.z q0 ?_)
 refine J.op rfl (op_callN rfl rfl rfl rfl rfl (Titles_ok ib (Ix.rput ((1099511627776, 1) : Ix.Rec) (Ix.vals fs0) (Ix.play (acts xs))) _ hx) ?_ (fun _ _ _ _ ⟨_, _, h, _⟩ => nomatch h) (fun _ _ ⟨_, _, h, _⟩ => nomatch h))
 intro v43 I44 H45 hle46 hn42 hp47
 have hA := hA.mono hle46
 have hxv := hxv.mono hle46
 have hb1i := hle46 _ _ hb1i
 have hrec := hrec.mono hle46
 have he1 := hle46 _ _ he1
 have hra := hra.mono hle46
 have hok2 := hok2.mono hle46
 have hy2 := hy2.mono hle46
 have hl9 := hl9.mono hle46
 have hK9 := fun p hp => hle46 _ _ (hK9 p hp)
 have hx := hx.mono hle46
 obtain ⟨gb, hgb, h, rfl⟩ := hp47; cases h
 refine J.keepR recC_len (by decide) (hgb.base hn42) (by simp) (fun Ib hleb hrb => ?_)
 have hA := hA.mono hleb
 have hxv := hxv.mono hleb
 have hb1i := hleb _ _ hb1i
 have hrec := hrec.mono hleb
 have he1 := hleb _ _ he1
 have hra := hra.mono hleb
 have hok2 := hok2.mono hleb
 have hy2 := hy2.mono hleb
 have hl9 := hl9.mono hleb
 have hK9 := fun p hp => hleb _ _ (hK9 p hp)
 have hx := hx.mono hleb
 obtain ⟨pb, cb, heb⟩ := RowS.len hrb
 refine J.eqv 45 rfl heb ?_
 rw [heb] at hrb
 refine J.z (q8 underlying44) ?_
 refine J.z q0 ?_
 refine J.ns (Cj.block (Cj.loop (ι := Nat × Bool) (fun y => y.1 ≤ ((Ix.rput ((1099511627776, 1) : Ix.Rec) (Ix.vals fs0) (Ix.play (acts xs))).map Prod.fst).length ∧ y.2 = decide (((1099511627776, 1) : Ix.Rec) ∈ ((Ix.rput ((1099511627776, 1) : Ix.Rec) (Ix.vals fs0) (Ix.play (acts xs))).map Prod.fst).take y.1)) (fun y => ((Ix.rput ((1099511627776, 1) : Ix.Rec) (Ix.vals fs0) (Ix.play (acts xs))).map Prod.fst).length - y.1) (fun y => [(0, v), (2, u8 n), (7, .bool true), (8, ptr ib 0), (9, ptr ib2 0), (10, ptr b20 0), (13, .bool y.2), (45, .slice pb ((Ix.rput ((1099511627776, 1) : Ix.Rec) (Ix.vals fs0) (Ix.play (acts xs))).map Prod.fst).length cb), (46, i64 (((Ix.rput ((1099511627776, 1) : Ix.Rec) (Ix.vals fs0) (Ix.play (acts xs))).map Prod.fst).length : Int)), (47, i64 (y.1 : Int))]) (fun y => _) (fun y => []) (0, false) ⟨Nat.zero_le _, by simp⟩ ⟨rfl, rfl, rfl, rfl, rfl, rfl, rfl, rfl, rfl, rfl, trivial⟩ rfl rfl ?_))
 rintro ⟨y, th⟩ ⟨hyk, hth⟩
 dsimp only at hyk hth ⊢
 have hTP : ((Ix.rput ((1099511627776, 1) : Ix.Rec) (Ix.vals fs0) (Ix.play (acts xs))).map Prod.fst).length ≤ 21 := by rw [List.length_map]; omega
 refine Cj.sr (J.z q13 ?_)
 refine J.nss (Cj.cond rfl (fun hc48 => ?_) (fun hc48 => ?_))
 ·
  have hc48p := of_decide_eq_true hc48
  refine Cj.skip (Ej.seq (Cj.seq (Cj.block (Cj.seq ?_))))
  have hlt : y < ((Ix.rput ((1099511627776, 1) : Ix.Rec) (Ix.vals fs0) (Ix.play (acts xs))).map Prod.fst).length := by omega
  obtain ⟨z, hget⟩ : ∃ x, ((Ix.rput ((1099511627776, 1) : Ix.Rec) (Ix.vals fs0) (Ix.play (acts xs))).map Prod.fst)[y]? = some x := ⟨_, List.getElem?_eq_getElem hlt⟩
  obtain ⟨p1, c1, hpe, hc1, hp⟩ := id hrb
  cases hpe
  obtain ⟨cb, co, ccs, cty, cfr, csp, rfl, hcb, hcd⟩ := hp (ne_nil_of hlt)
  refine Cj.region (J.z (q18 (off' := co + y * 2) underlying44 sizeOf26) ?_)
  refine J.z (yl_loadAgg rfl rfl isAgg26 sizeOf26 (Blk.imm hcb) (row_from recC_len hcd hget) rfl) ?_
  refine J.op rfl (op_alloc rfl rfl rfl zeroValue26 rfl ?_)
  intro b49 hb49
  refine J.op rfl (q12 0 sizeOf26 (LSpl.c (LSpl.c LSpl.z)) LSet.z ?_)
  refine J.nsr (J.z q0 ?_)
  refine J.z q0 ?_
  refine J.split 52 rfl (fun hg50 => ?_) (fun hg50 => ?_)
  ·
   refine q10 1 52 53 false hg50 ?_
   refine q10 1 52 54 false hg50 ?_
   refine q10 1 52 55 false hg50 ?_
   refine q10 1 52 56 false hg50 ?_
   refine J.z (yl_pick1 rfl rfl hg50 rfl) ?_
   refine J.z q1 ?_
   refine J.nil (Ej.blkNormal (Ej.seq (Cj.region (J.z (yl_add rfl rfl rfl (w64 (by omega))) ?_))))
   refine J.z q0 ?_
   refine J.nil (Ej.keep (Keeps.d Keeps.n) ?_)
   refine Ej.round (y + 1, true) ⟨by dsimp only; omega, by dsimp only; have h := th_next hth hget; rw [show th = true from hg50, Bool.true_or] at h; exact h⟩ (by dsimp only; omega) ⟨rfl, rfl, rfl, rfl, rfl, rfl, rfl, rfl, rfl, rfl, trivial⟩ rfl rfl
  refine q14 1 52 false hg50 (q4 (q7 isAgg26 sizeOf26 (Blk.at 0 rfl)) ?_)
  refine q14 1 52 false hg50 (q4 (q2 (off' := 0) underlying37 sizeOf26) ?_)
  refine q14 1 52 false hg50 (q4 (q7 isAgg26 sizeOf26 (Blk.imm he1)) ?_)
  refine J.opG 1 52 false _ rfl rfl rfl hg50 (op_yld (yl_eqlK (kv := recA) (a := z) (b := ((1099511627776, 1) : Ix.Rec)) rfl rfl rfl rfl rfl eqRec (by kernel_rfl)) rfl rfl ?_)
  refine J.z (yl_pick0 rfl rfl hg50 rfl) ?_
  refine J.z q1 ?_
  refine J.nil (Ej.blkNormal (Ej.seq (Cj.region (J.z (yl_add rfl rfl rfl (w64 (by omega))) ?_))))
  refine J.z q0 ?_
  refine J.nil (Ej.keep (Keeps.d Keeps.n) ?_)
  refine Ej.round (y + 1, z == ((1099511627776, 1) : Ix.Rec)) ⟨by dsimp only; omega, by dsimp only; have h := th_next hth hget; rw [show th = false from hg50, Bool.false_or] at h; exact h⟩ (by dsimp only; omega) ⟨rfl, rfl, rfl, rfl, rfl, rfl, rfl, rfl, rfl, rfl, trivial⟩ rfl rfl
 have hc48p := of_decide_eq_false hc48
 refine Cj.exit (Ej.seqExit (Ej.loopExit (Ej.blkExit (Ej.seq (Cj.seq (Cj.seq ?_))))))
 have hfull2 : ((Ix.rput ((1099511627776, 1) : Ix.Rec) (Ix.vals fs0) (Ix.play (acts xs))).map Prod.fst).take y = ((Ix.rput ((1099511627776, 1) : Ix.Rec) (Ix.vals fs0) (Ix.play (acts xs))).map Prod.fst) := List.take_of_length_le (by omega)
 have hin : ((1099511627776, 1) : Ix.Rec) ∈ ((Ix.rput ((1099511627776, 1) : Ix.Rec) (Ix.vals fs0) (Ix.play (acts xs))).map Prod.fst) := List.mem_map_of_mem ((Ix.rput_mem ((1099511627776, 1) : Ix.Rec) (Ix.vals fs0) hsrt _).2 (.inl rfl))
 have htt : th = true := by rw [hth, hfull2]; exact decide_eq_true hin
 subst htt
 refine Cj.named (fun Is hIs => ?_)
 subst hIs
 refine Cj.drawSel [] [] 24 (by kernel_rfl) ?_
 have hb1i_19 := hb1i
 have he1_19 := he1
 refine JA.join (ι := Heap × List Ent × Value × Gs) (fun y => Le Is y.1 ∧ RowS lineC y.1 ((Ix.scan (Ix.rput ((1099511627776, 1) : Ix.Rec) (Ix.vals fs0) (Ix.play (acts xs))) (nameN n) [] 1000).map lineI) y.2.2.1 ∧ ((∀ e ∈ y.2.1, RecS y.1 e.fs e.v) ∧ ∀ e ∈ y.2.1, EOK e.fs) ∧ y.2.1.map entL = (Ix.play (acts xs)) ∧ y.2.1.length ≤ 20 ∧ Le I9 y.1 ∧ (∀ p ∈ ixH ib o2, y.1 p.1 = some p.2) ∧ RecS y.1 fs0 (.slice pv fs0.length cv) ∧ gOk w0.heap.size 5 (y.2.1.length + 1) (y.2.1.flatMap entC ++ entC (ent1 k0 l0 pv cv fs0)) y.2.2.2) (fun y => [(2, u8 n), (7, .bool true), (8, ptr ib 0), (9, ptr ib2 0), (10, ptr b20 0), (61, .bool false), (65, y.2.2.1), (77, u8 n), (75, gV (y.2.1.length + 1) y.2.2.2)]) (fun y => y.1) (fun y => gH 37 (y.2.1.flatMap entC ++ entC (ent1 k0 l0 pv cv fs0)) y.2.2.2) #[true, true, true, true, true, true, true, true, true, true, true, true, true, true, true, true, true, false, true, false, false, false, false, false] 6 ?_ (fun hshare => ?_)
 ·
  rintro ⟨Jt, es, wc, g⟩ ⟨hleT, hrc, ⟨hRE, hek⟩, hL, hel, hl9, hK9, hrec, hg⟩
  dsimp only at hleT hrc hRE hek hL hel hl9 hK9 hrec hg ⊢
  have hg8 : gOk w0.heap.size 5 (es ++ [(ent1 k0 l0 pv cv fs0)]).length ((es ++ [(ent1 k0 l0 pv cv fs0)]).flatMap entC) g := by rw [List.length_append, List.flatMap_append, show List.flatMap entC [(ent1 k0 l0 pv cv fs0)] = entC (ent1 k0 l0 pv cv fs0) from List.append_nil _]; exact hg
  refine JA.perm (H' := gH 37 ((es ++ [(ent1 k0 l0 pv cv fs0)]).flatMap entC) g ++ []) (.of_eq (by rw [List.flatMap_append, show List.flatMap entC [(ent1 k0 l0 pv cv fs0)] = entC (ent1 k0 l0 pv cv fs0) from List.append_nil _, List.append_nil])) ?_
  refine JA.keepN entC_len (by decide) hg8 rfl (fun I8 hle8 hv => ?_)
  have hrc := hrc.mono hle8
  have hl9 := hl9.mono hle8
  have hK9 := fun p hp => hle8 _ _ (hK9 p hp)
  have hE1 : EntsS I8 (es ++ [(ent1 k0 l0 pv cv fs0)]) (gV (es ++ [(ent1 k0 l0 pv cv fs0)]).length g) := ⟨hv.row, fun e he => (List.mem_append.1 he).elim (fun q => (hRE e q).mono hle8) (fun q => by rw [List.mem_singleton.1 q]; exact hrec.mono hle8)⟩
  have hek9 : ∀ e ∈ es ++ [(ent1 k0 l0 pv cv fs0)], EOK e.fs := fun e he => (List.mem_append.1 he).elim (hek e) (fun q => by rw [List.mem_singleton.1 q]; exact hek1)
  have hput : Ix.rputs ((es ++ [(ent1 k0 l0 pv cv fs0)]).map entL) [] = (Ix.rput ((1099511627776, 1) : Ix.Rec) (Ix.vals fs0) (Ix.play (acts xs))) := by rw [List.map_append, Ix.rputs_app, hL, Ix.rputs_self hsrt]; rfl
  have hel9 : (es ++ [(ent1 k0 l0 pv cv fs0)]).length ≤ 21 := by rw [List.length_append, List.length_singleton]; omega
  refine JA.eqv 75 rfl (show _ = gV (es ++ [(ent1 k0 l0 pv cv fs0)]).length g from by rw [List.length_append]; rfl) ?_
  refine JA.stepG 17 2 61 false _ (by kernel_rfl) rfl rfl rfl rfl rfl (op_callN rfl rfl rfl rfl rfl (Build_ok (es ++ [(ent1 k0 l0 pv cv fs0)]) _ (by omega) hek9 _ hE1) ?_ (fun _ _ _ _ ⟨_, _, h, _⟩ => nomatch h) (fun _ _ ⟨_, _, h, _⟩ => nomatch h))
  intro v52 I53 H54 hle55 hn51 hp56
  have hrc := hrc.mono hle55
  have hl9 := hl9.mono hle55
  have hK9 := fun p hp => hle55 _ _ (hK9 p hp)
  have hE1 := hE1.mono hle55
  obtain ⟨ib9, o9, h, hok9, rfl⟩ := hp56; cases h
  have hn8 := hn51
  rw [hput] at hok9
  refine ⟨⟨(Le.trans (Le.trans hleT hle8) hle55), HSub.n, CSub.n⟩, ?_⟩
  refine JA.persists (ixH ib9 o9) hn8 (fun I7 hle7 hK7 => ?_)
  have hrc := hrc.mono hle7
  have hl9 := hl9.mono hle7
  have hK9 := fun p hp => hle7 _ _ (hK9 p hp)
  have hE1 := hE1.mono hle7
  have hok9 := hok9.mono hle7
  have hx9 : IxP I7 ib9 (Ix.rput ((1099511627776, 1) : Ix.Rec) (Ix.vals fs0) (Ix.play (acts xs))) := ⟨o9, hok9, hK7⟩
  refine JA.stepG 19 2 61 false _ (by kernel_rfl) rfl rfl rfl rfl rfl (op_pure rfl rfl rfl rfl rfl (name_ok n _) ?_)
  refine ⟨⟨(Le.trans (Le.trans (Le.trans hleT hle8) hle55) hle7), HSub.n, CSub.n⟩, ?_⟩
  refine JA.stepG 20 2 61 false _ (by kernel_rfl) rfl rfl rfl rfl rfl (op_callN rfl rfl rfl rfl rfl (Scan_ok ib9 (Ix.rput ((1099511627776, 1) : Ix.Rec) (Ix.vals fs0) (Ix.play (acts xs))) (nameN n) [] (by decide) 1000 _ hx9) ?_ (fun _ _ _ _ ⟨_, h, _⟩ => nomatch h) (fun _ _ ⟨_, h, _⟩ => nomatch h))
  intro v58 I59 H60 hle61 hn57 hp62
  have hrc := hrc.mono hle61
  have hl9 := hl9.mono hle61
  have hK9 := fun p hp => hle61 _ _ (hK9 p hp)
  have hE1 := hE1.mono hle61
  have hx9 := hx9.mono hle61
  obtain ⟨wd, h, hod⟩ := hp62; cases h
  have hnd := hn57
  refine ⟨⟨(Le.trans (Le.trans (Le.trans (Le.trans hleT hle8) hle55) hle7) hle61), HSub.n, CSub.n⟩, ?_⟩
  refine JA.keepO hod hnd (fun Id hled hrd => ?_)
  have hrc := hrc.mono hled
  have hl9 := hl9.mono hled
  have hK9 := fun p hp => hled _ _ (hK9 p hp)
  have hE1 := hE1.mono hled
  have hx9 := hx9.mono hled
  replace hrd := hrd.row
  refine JA.stepG 21 2 61 false _ (by kernel_rfl) rfl rfl rfl rfl rfl (op_pure rfl rfl rfl rfl rfl (rLines_ok ((Ix.scan (Ix.rput ((1099511627776, 1) : Ix.Rec) (Ix.vals fs0) (Ix.play (acts xs))) (nameN n) [] 1000).map lineI) ((Ix.scan (Ix.rput ((1099511627776, 1) : Ix.Rec) (Ix.vals fs0) (Ix.play (acts xs))) (nameN n) [] 1000).map lineI) _ _ (by have := scan_small (Ix.rput ((1099511627776, 1) : Ix.Rec) (Ix.vals fs0) (Ix.play (acts xs))) (nameN n) [] 1000; omega) _ hrc hrd) ?_)
  refine ⟨⟨(Le.trans (Le.trans (Le.trans (Le.trans (Le.trans hleT hle8) hle55) hle7) hle61) hled), HSub.n, CSub.n⟩, ?_⟩
  refine JA.eqv 80 rfl (show _ = .bool true from (congrArg Value.bool (decide_eq_true rfl))) ?_
  refine JA.fix ⟨HSub.n, CSub.n, (Le.trans (Le.trans (Le.trans (Le.trans (Le.trans hleT hle8) hle55) hle7) hle61) hled)⟩ (fun fx63 => ?_)
  refine JA.tkG 22 2 61 false _ rfl fx63 rfl rfl rfl (yl_not rfl rfl) ?_
  refine JA.tk 23 rfl fx63 (yl_pick0 rfl rfl rfl rfl) ?_
  refine JA.done (by kernel_rfl) ?_
  refine Ej.seq (Cj.cond rfl (fun hc64 => Bool.noConfusion (Eq.trans (Eq.symm (congrArg not rfl)) hc64)) (fun hc64 => ?_))
  refine Cj.skip (Ej.seq (Cj.seq (Cj.thaw (ixH ib o2) hn9 hK9 hs9 (fun p hp => hw0.dom (hs9 p hp)) ?_)))
  have hle9 := le_hless hd9 hl9
  refine Cj.perm (H' := ixH ib o2) (.of_eq (List.append_nil _).symm) ?_
  have hok2 := hok29.mono hle9
  have hy2 := hy29.mono hle9
  have he1 := hle9 _ _ he19
  clear hl9 hK9
  refine Cj.region (J.z q0 ?_)
  refine J.z (q2 (off' := 0) underlying37 sizeOf26) ?_
  refine J.z (q7 isAgg26 sizeOf26 (Blk.imm he1)) ?_
  refine J.op rfl (op_callR (H1 := ixH ib o2) [] rfl rfl rfl rfl rfl rfl (Drop_ok ib o2 (Ix.rput ((1099511627776, 1) : Ix.Rec) (Ix.vals fs0) (Ix.play (acts xs))) ((1099511627776, 1) : Ix.Rec) _ hok2) ?_ (fun _ _ _ _ ⟨_, h, _⟩ => nomatch h) (fun _ _ ⟨_, h, _⟩ => nomatch h))
  intro v65 I66 H67 hle68 hp69
  have hok2 := hok2.mono hle68
  have hy2 := hy2.mono hle68
  have he1 := hle68 _ _ he1
  obtain ⟨o3, h, hok3, rfl⟩ := hp69; cases h
  rw [Ix.put_drop hsrt _ _ hno2] at hok3
  refine J.nssr (J.z q0 ?_)
  refine J.z (q2 (off' := 0) underlying37 sizeOf26) ?_
  refine J.z (q7 isAgg26 sizeOf26 (Blk.imm he1)) ?_
  refine J.op rfl (op_callR (H1 := ixH ib o3) [] rfl rfl rfl rfl rfl rfl (Drop_ok ib o3 (Ix.play (acts xs)) ((1099511627776, 1) : Ix.Rec) _ hok3) ?_ (fun _ _ _ _ ⟨_, h, _⟩ => nomatch h) (fun _ _ ⟨_, h, _⟩ => nomatch h))
  intro v70 I71 H72 hle73 hp74
  have hok2 := hok2.mono hle73
  have hy2 := hy2.mono hle73
  have he1 := hle73 _ _ he1
  have hok3 := hok3.mono hle73
  obtain ⟨o4, h, hok4, rfl⟩ := hp74; cases h
  rw [drop_none hno2] at hok4
  refine J.nss (Cj.known (fun I9 hI9 hd9 hn9 hs9 => ?_))
  subst hI9
  replace hs9 : ∀ p ∈ ixH ib o4, w0.heap.size ≤ p.1 := fun p hp => (hs9 p hp).resolve_left (by simp)
  refine Cj.perm (H' := ixH ib o4 ++ []) (.of_eq (List.append_nil _)) ?_
  refine Cj.persists (ixH ib o4) hs9 (fun If hlf hKf => ?_)
  have hy2 := hy2.mono hlf
  have he1 := hlf _ _ he1
  have hok4 := hok4.mono hlf
  have hx : IxP If ib (Ix.play (acts xs)) := ⟨o4, hok4, hKf⟩
  refine Cj.region (J.z q0 ?_)
  refine J.z q0 ?_
  refine q15 1 92 true (q4 q0 ?_)
  refine q15 1 92 true (q4 q0 ?_)
  refine q15 1 92 true (op_pure rfl rfl rfl rfl rfl (name_ok n _) ?_)
  refine J.opG 1 92 true _ rfl rfl rfl rfl (op_callN rfl rfl rfl rfl rfl (Scan_ok ib (Ix.play (acts xs)) (nameN n) [] (by decide) 1000 _ hx) ?_ (fun _ _ _ _ ⟨_, h, _⟩ => nomatch h) (fun _ _ ⟨_, h, _⟩ => nomatch h))
  intro v76 I77 H78 hle79 hn75 hp80
  have hy2 := hy2.mono hle79
  have he1 := hle79 _ _ he1
  have hx := hx.mono hle79
  obtain ⟨we, h, hoe⟩ := hp80; cases h
  refine J.keepO hoe hn75 (fun Ie hlee hre => ?_)
  have hy2 := hy2.mono hlee
  have he1 := hlee _ _ he1
  have hx := hx.mono hlee
  replace hre := hre.row
  refine q15 1 92 true (q4 q0 ?_)
  refine q15 1 92 true (q4 q0 ?_)
  refine q15 1 92 true (op_pure rfl rfl rfl rfl rfl (name_ok n _) ?_)
  refine J.opG 1 92 true _ rfl rfl rfl rfl (op_callN rfl rfl rfl rfl rfl (Scan_ok ib2 (Ix.play (acts xs)) (nameN n) [] (by decide) 1000 _ hy2) ?_ (fun _ _ _ _ ⟨_, h, _⟩ => nomatch h) (fun _ _ ⟨_, h, _⟩ => nomatch h))
  intro v82 I83 H84 hle85 hn81 hp86
  have hy2 := hy2.mono hle85
  have he1 := hle85 _ _ he1
  have hx := hx.mono hle85
  have hre := hre.mono hle85
  obtain ⟨wf, h, hof⟩ := hp86; cases h
  refine J.keepO hof hn81 (fun If hlef hrf => ?_)
  have hy2 := hy2.mono hlef
  have he1 := hlef _ _ he1
  have hx := hx.mono hlef
  have hre := hre.mono hlef
  replace hrf := hrf.row
  refine J.opG 1 92 true _ rfl rfl rfl rfl (op_pure rfl rfl rfl rfl rfl (rLines_ok ((Ix.scan (Ix.play (acts xs)) (nameN n) [] 1000).map lineI) ((Ix.scan (Ix.play (acts xs)) (nameN n) [] 1000).map lineI) _ _ (by have := scan_small (Ix.play (acts xs)) (nameN n) [] 1000; omega) _ hre hrf) ?_)
  refine J.eqv 101 rfl (show _ = .bool true from (congrArg Value.bool (decide_eq_true rfl))) ?_
  refine J.z (yl_pick1 rfl rfl rfl rfl) ?_
  refine J.z q0 ?_
  refine q15 12 103 true (q4 q0 ?_)
  refine J.opG 12 103 true _ rfl rfl rfl rfl (op_callN rfl rfl rfl rfl rfl (Titles_ok ib (Ix.play (acts xs)) _ hx) ?_ (fun _ _ _ _ ⟨_, _, h, _⟩ => nomatch h) (fun _ _ ⟨_, _, h, _⟩ => nomatch h))
  intro v88 I89 H90 hle91 hn87 hp92
  have hy2 := hy2.mono hle91
  have he1 := hle91 _ _ he1
  have hx := hx.mono hle91
  have hre := hre.mono hle91
  have hrf := hrf.mono hle91
  obtain ⟨gg, hgg, h, rfl⟩ := hp92; cases h
  refine J.keepR recC_len (by decide) (hgg.base hn87) (by simp) (fun Ig hleg hrg => ?_)
  have hy2 := hy2.mono hleg
  have he1 := hleg _ _ he1
  have hx := hx.mono hleg
  have hre := hre.mono hleg
  have hrf := hrf.mono hleg
  refine q15 12 103 true (q4 q0 ?_)
  refine J.opG 12 103 true _ rfl rfl rfl rfl (op_callN rfl rfl rfl rfl rfl (Titles_ok ib2 (Ix.play (acts xs)) _ hy2) ?_ (fun _ _ _ _ ⟨_, _, h, _⟩ => nomatch h) (fun _ _ ⟨_, _, h, _⟩ => nomatch h))
  intro v94 I95 H96 hle97 hn93 hp98
  have hy2 := hy2.mono hle97
  have he1 := hle97 _ _ he1
  have hx := hx.mono hle97
  have hre := hre.mono hle97
  have hrf := hrf.mono hle97
  have hrg := hrg.mono hle97
  obtain ⟨gh, hgh, h, rfl⟩ := hp98; cases h
  refine J.keepR recC_len (by decide) (hgh.base hn93) (by simp) (fun Ih hleh hrh => ?_)
  have hy2 := hy2.mono hleh
  have he1 := hleh _ _ he1
  have hx := hx.mono hleh
  have hre := hre.mono hleh
  have hrf := hrf.mono hleh
  have hrg := hrg.mono hleh
  refine J.opG 12 103 true _ rfl rfl rfl rfl (op_pure rfl rfl rfl rfl rfl (rRecs_ok ((Ix.play (acts xs)).map Prod.fst) ((Ix.play (acts xs)).map Prod.fst) _ _ (by rw [List.length_map]; have := hfew.1; omega) _ hrg hrh) ?_)
  refine J.eqv 108 rfl (show _ = .bool true from (congrArg Value.bool (decide_eq_true rfl))) ?_
  refine J.z (yl_pick1 rfl rfl rfl rfl) ?_
  refine J.z q0 ?_
  refine q15 19 110 true (q4 q0 ?_)
  refine q15 19 110 true (q4 (q2 (off' := 0) underlying37 sizeOf26) ?_)
  refine q15 19 110 true (q4 (q7 isAgg26 sizeOf26 (Blk.imm he1)) ?_)
  refine q15 19 110 true (op_pure rfl rfl rfl rfl rfl (Sort_ok' ib (Ix.play (acts xs)) ((1099511627776, 1) : Ix.Rec) _ hx) ?_)
  refine q15 19 110 true (q4 (yl_eqlStr rfl rfl rfl) ?_)
  refine J.eqv 115 rfl (show _ = .bool true from (congrArg Value.bool (by rw [sort_none hno2]; rfl))) ?_
  refine J.z (yl_pick1 rfl rfl rfl rfl) ?_
  refine J.z q1 ?_
  refine J.ns (Cj.ret (q6 ?_))
  exact ⟨rfl, rfl⟩
 refine JA.fix fx1 (fun fx99 => ?_)
 refine JA.tk 0 rfl fx99 q0 ?_
 refine JA.tk 1 rfl fx99 (yl_not rfl rfl) ?_
 refine JA.tk 2 rfl fx99 q0 ?_
 refine JA.tkG 3 2 61 false _ rfl fx99 rfl rfl (congrArg not rfl) q0 ?_
 refine JA.tkG 4 2 61 false _ rfl fx99 rfl rfl (congrArg not rfl) q0 ?_
 refine JA.tkG 8 2 61 false _ rfl fx99 rfl rfl (congrArg not rfl) q0 ?_
 refine JA.tkG 14 2 61 false _ rfl fx99 rfl rfl (congrArg not rfl) (q7 isAgg37 sizeOf37 (Blk.immC he1_19)) ?_
 refine JA.tkG 18 2 61 false _ rfl fx99 rfl rfl (congrArg not rfl) q0 ?_
 refine JA.allG [5, 7, 15] (by kernel_rfl) (by simp) ?_
 intro i hi
 simp only [List.mem_cons, List.not_mem_nil, or_false] at hi
 rcases hi with rfl | rfl | rfl
 ·
  refine ⟨_, rfl, .inr ⟨2, false, 61, rfl, rfl, Eq.trans rfl (congrArg (fun b => some (Value.bool b)) (congrArg not rfl))⟩, ?_⟩
  refine op_pure rfl rfl rfl rfl rfl (name_ok n _) ?_
  refine ⟨fx0, ?_⟩
  refine JA.allG [6, 7, 15] (by kernel_rfl) (by simp) ?_
  intro i hi
  simp only [List.mem_cons, List.not_mem_nil, or_false] at hi
  rcases hi with rfl | rfl | rfl
  ·
   refine ⟨_, rfl, .inr ⟨2, false, 61, rfl, rfl, Eq.trans rfl (congrArg (fun b => some (Value.bool b)) (congrArg not rfl))⟩, ?_⟩
   refine op_callN rfl rfl rfl rfl rfl (Scan_ok ib (Ix.rput ((1099511627776, 1) : Ix.Rec) (Ix.vals fs0) (Ix.play (acts xs))) (nameN n) [] (by decide) 1000 _ hx) ?_ (fun _ _ _ _ ⟨_, h, _⟩ => nomatch h) (fun _ _ ⟨_, h, _⟩ => nomatch h)
   intro v101 I102 H103 hle104 hn100 hp105
   have hA := hA.mono hle104
   have hrec := hrec.mono hle104
   have he1 := hle104 _ _ he1
   have hl9 := hl9.mono hle104
   have hK9 := fun p hp => hle104 _ _ (hK9 p hp)
   have hx := hx.mono hle104
   obtain ⟨wc, h, hoc⟩ := hp105; cases h
   have hnc := hn100
   refine ⟨⟨(Le.trans (Le.refl _) hle104), HSub.n, CSub.n⟩, ?_⟩
   refine JA.keepO hoc hnc (fun Ic hlec hrc => ?_)
   have hA := hA.mono hlec
   have hrec := hrec.mono hlec
   have he1 := hlec _ _ he1
   have hl9 := hl9.mono hlec
   have hK9 := fun p hp => hlec _ _ (hK9 p hp)
   have hx := hx.mono hlec
   replace hrc := hrc.row
   refine JA.allG [7, 9, 15] (by kernel_rfl) (by simp) ?_
   intro i hi
   simp only [List.mem_cons, List.not_mem_nil, or_false] at hi
   rcases hi with rfl | rfl | rfl
   ·
    refine ⟨_, rfl, .inr ⟨2, false, 61, rfl, rfl, Eq.trans rfl (congrArg (fun b => some (Value.bool b)) (congrArg not rfl))⟩, ?_⟩
    refine op_buildSlice0 rfl rfl rfl underlying27 sizeOf37 ?_
    intro b106 hb106
    refine ⟨⟨(Le.trans (Le.trans (Le.refl _) hle104) hlec), HSub.n, CSub.n⟩, ?_⟩
    refine JA.allG [9, 15] (by kernel_rfl) (by simp) ?_
    intro i hi
    simp only [List.mem_cons, List.not_mem_nil, or_false] at hi
    rcases hi with rfl | rfl
    ·
     refine ⟨_, rfl, .inr ⟨2, false, 61, rfl, rfl, Eq.trans rfl (congrArg (fun b => some (Value.bool b)) (congrArg not rfl))⟩, ?_⟩
     refine op_call (H1 := []) rfl rfl rfl rfl rfl (rPlay_ok xs _ hao _ hA) ?_ (fun _ _ _ _ ⟨_, _, _, h, _⟩ => nomatch h) (fun _ _ ⟨_, _, _, h, _⟩ => nomatch h)
     intro v107 I108 H109 hle110 hp111
     have hA := hA.mono hle110
     have hrec := hrec.mono hle110
     have he1 := hle110 _ _ he1
     have hl9 := hl9.mono hle110
     have hK9 := fun p hp => hle110 _ _ (hK9 p hp)
     have hx := hx.mono hle110
     have hrc := hrc.mono hle110
     obtain ⟨rb, es, w, h, hE, hL, hek, hel, rfl⟩ := hp111; cases h
     obtain ⟨pR, cR, rfl⟩ := RowS.len hE.1
     refine ⟨⟨(Le.trans (Le.trans (Le.trans (Le.refl _) hle104) hlec) hle110), HSub.n, CSub.n⟩, ?_⟩
     refine JA.fix ⟨HSub.n, CSub.n, (Le.trans (Le.trans (Le.trans (Le.refl _) hle104) hlec) hle110)⟩ (fun fx112 => ?_)
     refine JA.tkG 10 2 61 false _ rfl fx112 rfl rfl (congrArg not rfl) q5 ?_
     refine JA.tkG 11 2 61 false _ rfl fx112 rfl rfl (congrArg not rfl) (q2 (off' := 0) underlying73 sizeOf27) ?_
     refine JA.allG [12, 15] (by kernel_rfl) (by simp) ?_
     intro i hi
     simp only [List.mem_cons, List.not_mem_nil, or_false] at hi
     rcases hi with rfl | rfl
     ·
      refine ⟨_, rfl, .inr ⟨2, false, 61, rfl, rfl, Eq.trans rfl (congrArg (fun b => some (Value.bool b)) (congrArg not rfl))⟩, ?_⟩
      refine q4 (q3 isAgg27 (Blk.at 0 rfl)) ?_
      refine ⟨⟨(Le.trans (Le.trans (Le.trans (Le.refl _) hle104) hlec) hle110), HSub.n, CSub.n⟩, ?_⟩
      refine JA.allG [13, 15] (by kernel_rfl) (by simp) ?_
      intro i hi
      simp only [List.mem_cons, List.not_mem_nil, or_false] at hi
      rcases hi with rfl | rfl
      ·
       refine ⟨_, rfl, .inr ⟨2, false, 61, rfl, rfl, Eq.trans rfl (congrArg (fun b => some (Value.bool b)) (congrArg not rfl))⟩, ?_⟩
       refine OpJ.pull Pull.z ?_
       refine op_append (by' := 47) (n := 0) (g := some (b106, 0, [])) (xs := []) [_] rfl rfl rfl rfl rfl underlying27 (.inr ⟨_, underlying27⟩) (by kernel_rfl) sizeOf37 zeroValue37 rfl ⟨hb106, rfl, rfl⟩ rfl (Src.row entC_len hE.1 (entsS_one hE)) (by omega) ?_
       intro g113 hg113
       refine ⟨⟨(Le.trans (Le.trans (Le.trans (Le.refl _) hle104) hlec) hle110), HSub.n, CSub.n⟩, ?_⟩
       refine JA.stepG 15 2 61 false _ (by kernel_rfl) rfl rfl rfl rfl (congrArg not rfl) (q9 underlying27 sizeOf37 zeroValue37 (LCat.agg rfl LCat.none) ?_)
       intro b114 hb114
       refine ⟨⟨(Le.trans (Le.trans (Le.trans (Le.refl _) hle104) hlec) hle110), HSub.n, CSub.n⟩, ?_⟩
       refine JA.stepG 16 2 61 false _ (by kernel_rfl) rfl rfl rfl rfl (congrArg not rfl) (op_append (by' := 47) [_, _] rfl rfl rfl rfl rfl underlying27 (.inr ⟨_, underlying27⟩) (by kernel_rfl) sizeOf37 zeroValue37 rfl hg113 rfl (Src.slice (Blk.at 0 rfl) rfl rfl rfl) (by omega) ?_)
       intro g115 hg115
       refine ⟨⟨(Le.trans (Le.trans (Le.trans (Le.refl _) hle104) hlec) hle110), HSub.n, CSub.n⟩, ?_⟩
       refine JA.keep (H' := gH 37 _ g115) (List.sublist_append_right [_, _] _) ?_
       exact hshare (_, es, _, g115) _ _ _ _ _ ⟨(Le.trans (Le.trans (Le.trans (Le.refl _) hle104) hlec) hle110), hrc, ⟨fun e he => hE.2 e he, hek⟩, hL, hel, hl9, hK9, hrec, by have h := hg115; rw [Nat.zero_add, List.nil_append] at h; exact h⟩ (by kernel_rfl) rfl ⟨rfl, rfl, rfl, rfl, rfl, rfl, rfl, rfl, by dsimp only; rw [Nat.zero_add]; rfl, trivial⟩ rfl (by dsimp only; rw [List.nil_append]; rfl)
      refine ⟨_, rfl, .inr ⟨2, false, 61, rfl, rfl, Eq.trans rfl (congrArg (fun b => some (Value.bool b)) (congrArg not rfl))⟩, ?_⟩
      refine q9 underlying27 sizeOf37 zeroValue37 (LCat.agg rfl LCat.none) ?_
      intro b116 hb116
      refine ⟨⟨(Le.trans (Le.trans (Le.trans (Le.refl _) hle104) hlec) hle110), HSub.n, CSub.n⟩, ?_⟩
      refine JA.pull (Pull.s Pull.z) ?_
      refine JA.pull (Pull.s Pull.z) ?_
      refine JA.stepG 13 2 61 false _ (by kernel_rfl) rfl rfl rfl rfl (congrArg not rfl) (op_append (by' := 47) (n := 0) (g := some (b106, 0, [])) (xs := []) [_, _] rfl rfl rfl rfl rfl underlying27 (.inr ⟨_, underlying27⟩) (by kernel_rfl) sizeOf37 zeroValue37 rfl ⟨hb106, rfl, rfl⟩ rfl (Src.row entC_len hE.1 (entsS_one hE)) (by omega) ?_)
      intro g117 hg117
      refine ⟨⟨(Le.trans (Le.trans (Le.trans (Le.refl _) hle104) hlec) hle110), HSub.n, CSub.n⟩, ?_⟩
      refine JA.stepG 16 2 61 false _ (by kernel_rfl) rfl rfl rfl rfl (congrArg not rfl) (op_append (by' := 47) [_, _] rfl rfl rfl rfl rfl underlying27 (.inr ⟨_, underlying27⟩) (by kernel_rfl) sizeOf37 zeroValue37 rfl hg117 rfl (Src.slice (Blk.at 0 rfl) rfl rfl rfl) (by omega) ?_)
      intro g118 hg118
      refine ⟨⟨(Le.trans (Le.trans (Le.trans (Le.refl _) hle104) hlec) hle110), HSub.n, CSub.n⟩, ?_⟩
      refine JA.keep (H' := gH 37 _ g118) (List.sublist_append_right [_, _] _) ?_
      exact hshare (_, es, _, g118) _ _ _ _ _ ⟨(Le.trans (Le.trans (Le.trans (Le.refl _) hle104) hlec) hle110), hrc, ⟨fun e he => hE.2 e he, hek⟩, hL, hel, hl9, hK9, hrec, by have h := hg118; rw [Nat.zero_add, List.nil_append] at h; exact h⟩ (by kernel_rfl) rfl ⟨rfl, rfl, rfl, rfl, rfl, rfl, rfl, rfl, by dsimp only; rw [Nat.zero_add]; rfl, trivial⟩ rfl (by dsimp only; rw [List.nil_append]; rfl)
     refine ⟨_, rfl, .inr ⟨2, false, 61, rfl, rfl, Eq.trans rfl (congrArg (fun b => some (Value.bool b)) (congrArg not rfl))⟩, ?_⟩
     refine q9 underlying27 sizeOf37 zeroValue37 (LCat.agg rfl LCat.none) ?_
     intro b119 hb119
     refine ⟨⟨(Le.trans (Le.trans (Le.trans (Le.refl _) hle104) hlec) hle110), HSub.n, CSub.n⟩, ?_⟩
     refine JA.stepG 12 2 61 false _ (by kernel_rfl) rfl rfl rfl rfl (congrArg not rfl) (q4 (q3 isAgg27 (Blk.at 1 rfl)) ?_)
     refine ⟨⟨(Le.trans (Le.trans (Le.trans (Le.refl _) hle104) hlec) hle110), HSub.n, CSub.n⟩, ?_⟩
     refine JA.pull (Pull.s Pull.z) ?_
     refine JA.pull (Pull.s Pull.z) ?_
     refine JA.stepG 13 2 61 false _ (by kernel_rfl) rfl rfl rfl rfl (congrArg not rfl) (op_append (by' := 47) (n := 0) (g := some (b106, 0, [])) (xs := []) [_, _] rfl rfl rfl rfl rfl underlying27 (.inr ⟨_, underlying27⟩) (by kernel_rfl) sizeOf37 zeroValue37 rfl ⟨hb106, rfl, rfl⟩ rfl (Src.row entC_len hE.1 (entsS_one hE)) (by omega) ?_)
     intro g120 hg120
     refine ⟨⟨(Le.trans (Le.trans (Le.trans (Le.refl _) hle104) hlec) hle110), HSub.n, CSub.n⟩, ?_⟩
     refine JA.stepG 16 2 61 false _ (by kernel_rfl) rfl rfl rfl rfl (congrArg not rfl) (op_append (by' := 47) [_, _] rfl rfl rfl rfl rfl underlying27 (.inr ⟨_, underlying27⟩) (by kernel_rfl) sizeOf37 zeroValue37 rfl hg120 rfl (Src.slice (Blk.at 0 rfl) rfl rfl rfl) (by omega) ?_)
     intro g121 hg121
     refine ⟨⟨(Le.trans (Le.trans (Le.trans (Le.refl _) hle104) hlec) hle110), HSub.n, CSub.n⟩, ?_⟩
     refine JA.keep (H' := gH 37 _ g121) (List.sublist_append_right [_, _] _) ?_
     exact hshare (_, es, _, g121) _ _ _ _ _ ⟨(Le.trans (Le.trans (Le.trans (Le.refl _) hle104) hlec) hle110), hrc, ⟨fun e he => hE.2 e he, hek⟩, hL, hel, hl9, hK9, hrec, by have h := hg121; rw [Nat.zero_add, List.nil_append] at h; exact h⟩ (by kernel_rfl) rfl ⟨rfl, rfl, rfl, rfl, rfl, rfl, rfl, rfl, by dsimp only; rw [Nat.zero_add]; rfl, trivial⟩ rfl (by dsimp only; rw [List.nil_append]; rfl)
    refine ⟨_, rfl, .inr ⟨2, false, 61, rfl, rfl, Eq.trans rfl (congrArg (fun b => some (Value.bool b)) (congrArg not rfl))⟩, ?_⟩
    refine q9 underlying27 sizeOf37 zeroValue37 (LCat.agg rfl LCat.none) ?_
    intro b122 hb122
    refine ⟨⟨(Le.trans (Le.trans (Le.refl _) hle104) hlec), HSub.n, CSub.n⟩, ?_⟩
    refine JA.stepG 9 2 61 false _ (by kernel_rfl) rfl rfl rfl rfl (congrArg not rfl) (op_call (H1 := []) rfl rfl rfl rfl rfl (rPlay_ok xs _ hao _ hA) ?_ (fun _ _ _ _ ⟨_, _, _, h, _⟩ => nomatch h) (fun _ _ ⟨_, _, _, h, _⟩ => nomatch h))
    intro v123 I124 H125 hle126 hp127
    have hA := hA.mono hle126
    have hrec := hrec.mono hle126
    have he1 := hle126 _ _ he1
    have hl9 := hl9.mono hle126
    have hK9 := fun p hp => hle126 _ _ (hK9 p hp)
    have hx := hx.mono hle126
    have hrc := hrc.mono hle126
    obtain ⟨rb, es, w, h, hE, hL, hek, hel, rfl⟩ := hp127; cases h
    obtain ⟨pR, cR, rfl⟩ := RowS.len hE.1
    refine ⟨⟨(Le.trans (Le.trans (Le.trans (Le.refl _) hle104) hlec) hle126), HSub.n, CSub.n⟩, ?_⟩
    refine JA.fix ⟨HSub.n, CSub.n, (Le.trans (Le.trans (Le.trans (Le.refl _) hle104) hlec) hle126)⟩ (fun fx128 => ?_)
    refine JA.tkG 10 2 61 false _ rfl fx128 rfl rfl (congrArg not rfl) q5 ?_
    refine JA.tkG 11 2 61 false _ rfl fx128 rfl rfl (congrArg not rfl) (q2 (off' := 0) underlying73 sizeOf27) ?_
    refine JA.stepG 12 2 61 false _ (by kernel_rfl) rfl rfl rfl rfl (congrArg not rfl) (q4 (q3 isAgg27 (Blk.at 0 rfl)) ?_)
    refine ⟨⟨(Le.trans (Le.trans (Le.trans (Le.refl _) hle104) hlec) hle126), HSub.n, CSub.n⟩, ?_⟩
    refine JA.pull (Pull.s Pull.z) ?_
    refine JA.pull (Pull.s Pull.z) ?_
    refine JA.stepG 13 2 61 false _ (by kernel_rfl) rfl rfl rfl rfl (congrArg not rfl) (op_append (by' := 47) (n := 0) (g := some (b106, 0, [])) (xs := []) [_, _] rfl rfl rfl rfl rfl underlying27 (.inr ⟨_, underlying27⟩) (by kernel_rfl) sizeOf37 zeroValue37 rfl ⟨hb106, rfl, rfl⟩ rfl (Src.row entC_len hE.1 (entsS_one hE)) (by omega) ?_)
    intro g129 hg129
    refine ⟨⟨(Le.trans (Le.trans (Le.trans (Le.refl _) hle104) hlec) hle126), HSub.n, CSub.n⟩, ?_⟩
    refine JA.stepG 16 2 61 false _ (by kernel_rfl) rfl rfl rfl rfl (congrArg not rfl) (op_append (by' := 47) [_, _] rfl rfl rfl rfl rfl underlying27 (.inr ⟨_, underlying27⟩) (by kernel_rfl) sizeOf37 zeroValue37 rfl hg129 rfl (Src.slice (Blk.at 1 rfl) rfl rfl rfl) (by omega) ?_)
    intro g130 hg130
    refine ⟨⟨(Le.trans (Le.trans (Le.trans (Le.refl _) hle104) hlec) hle126), HSub.n, CSub.n⟩, ?_⟩
    refine JA.keep (H' := gH 37 _ g130) (List.sublist_append_right [_, _] _) ?_
    exact hshare (_, es, _, g130) _ _ _ _ _ ⟨(Le.trans (Le.trans (Le.trans (Le.refl _) hle104) hlec) hle126), hrc, ⟨fun e he => hE.2 e he, hek⟩, hL, hel, hl9, hK9, hrec, by have h := hg130; rw [Nat.zero_add, List.nil_append] at h; exact h⟩ (by kernel_rfl) rfl ⟨rfl, rfl, rfl, rfl, rfl, rfl, rfl, rfl, by dsimp only; rw [Nat.zero_add]; rfl, trivial⟩ rfl (by dsimp only; rw [List.nil_append]; rfl)
   ·
    refine ⟨_, rfl, .inr ⟨2, false, 61, rfl, rfl, Eq.trans rfl (congrArg (fun b => some (Value.bool b)) (congrArg not rfl))⟩, ?_⟩
    refine op_call (H1 := []) rfl rfl rfl rfl rfl (rPlay_ok xs _ hao _ hA) ?_ (fun _ _ _ _ ⟨_, _, _, h, _⟩ => nomatch h) (fun _ _ ⟨_, _, _, h, _⟩ => nomatch h)
    intro v131 I132 H133 hle134 hp135
    have hA := hA.mono hle134
    have hrec := hrec.mono hle134
    have he1 := hle134 _ _ he1
    have hl9 := hl9.mono hle134
    have hK9 := fun p hp => hle134 _ _ (hK9 p hp)
    have hx := hx.mono hle134
    have hrc := hrc.mono hle134
    obtain ⟨rb, es, w, h, hE, hL, hek, hel, rfl⟩ := hp135; cases h
    obtain ⟨pR, cR, rfl⟩ := RowS.len hE.1
    refine ⟨⟨(Le.trans (Le.trans (Le.trans (Le.refl _) hle104) hlec) hle134), HSub.n, CSub.n⟩, ?_⟩
    refine JA.fix ⟨HSub.n, CSub.n, (Le.trans (Le.trans (Le.trans (Le.refl _) hle104) hlec) hle134)⟩ (fun fx136 => ?_)
    refine JA.tkG 10 2 61 false _ rfl fx136 rfl rfl (congrArg not rfl) q5 ?_
    refine JA.tkG 11 2 61 false _ rfl fx136 rfl rfl (congrArg not rfl) (q2 (off' := 0) underlying73 sizeOf27) ?_
    refine JA.allG [7, 12, 15] (by kernel_rfl) (by simp) ?_
    intro i hi
    simp only [List.mem_cons, List.not_mem_nil, or_false] at hi
    rcases hi with rfl | rfl | rfl
    ·
     refine ⟨_, rfl, .inr ⟨2, false, 61, rfl, rfl, Eq.trans rfl (congrArg (fun b => some (Value.bool b)) (congrArg not rfl))⟩, ?_⟩
     refine op_buildSlice0 rfl rfl rfl underlying27 sizeOf37 ?_
     intro b137 hb137
     refine ⟨⟨(Le.trans (Le.trans (Le.trans (Le.refl _) hle104) hlec) hle134), HSub.n, CSub.n⟩, ?_⟩
     refine JA.allG [12, 15] (by kernel_rfl) (by simp) ?_
     intro i hi
     simp only [List.mem_cons, List.not_mem_nil, or_false] at hi
     rcases hi with rfl | rfl
     ·
      refine ⟨_, rfl, .inr ⟨2, false, 61, rfl, rfl, Eq.trans rfl (congrArg (fun b => some (Value.bool b)) (congrArg not rfl))⟩, ?_⟩
      refine q4 (q3 isAgg27 (Blk.at 1 rfl)) ?_
      refine ⟨⟨(Le.trans (Le.trans (Le.trans (Le.refl _) hle104) hlec) hle134), HSub.n, CSub.n⟩, ?_⟩
      refine JA.allG [13, 15] (by kernel_rfl) (by simp) ?_
      intro i hi
      simp only [List.mem_cons, List.not_mem_nil, or_false] at hi
      rcases hi with rfl | rfl
      ·
       refine ⟨_, rfl, .inr ⟨2, false, 61, rfl, rfl, Eq.trans rfl (congrArg (fun b => some (Value.bool b)) (congrArg not rfl))⟩, ?_⟩
       refine OpJ.pull (Pull.s Pull.z) ?_
       refine op_append (by' := 47) (n := 0) (g := some (b137, 0, [])) (xs := []) [_] rfl rfl rfl rfl rfl underlying27 (.inr ⟨_, underlying27⟩) (by kernel_rfl) sizeOf37 zeroValue37 rfl ⟨hb137, rfl, rfl⟩ rfl (Src.row entC_len hE.1 (entsS_one hE)) (by omega) ?_
       intro g138 hg138
       refine ⟨⟨(Le.trans (Le.trans (Le.trans (Le.refl _) hle104) hlec) hle134), HSub.n, CSub.n⟩, ?_⟩
       refine JA.stepG 15 2 61 false _ (by kernel_rfl) rfl rfl rfl rfl (congrArg not rfl) (q9 underlying27 sizeOf37 zeroValue37 (LCat.agg rfl LCat.none) ?_)
       intro b139 hb139
       refine ⟨⟨(Le.trans (Le.trans (Le.trans (Le.refl _) hle104) hlec) hle134), HSub.n, CSub.n⟩, ?_⟩
       refine JA.stepG 16 2 61 false _ (by kernel_rfl) rfl rfl rfl rfl (congrArg not rfl) (op_append (by' := 47) [_, _] rfl rfl rfl rfl rfl underlying27 (.inr ⟨_, underlying27⟩) (by kernel_rfl) sizeOf37 zeroValue37 rfl hg138 rfl (Src.slice (Blk.at 0 rfl) rfl rfl rfl) (by omega) ?_)
       intro g140 hg140
       refine ⟨⟨(Le.trans (Le.trans (Le.trans (Le.refl _) hle104) hlec) hle134), HSub.n, CSub.n⟩, ?_⟩
       refine JA.keep (H' := gH 37 _ g140) (List.sublist_append_right [_, _] _) ?_
       exact hshare (_, es, _, g140) _ _ _ _ _ ⟨(Le.trans (Le.trans (Le.trans (Le.refl _) hle104) hlec) hle134), hrc, ⟨fun e he => hE.2 e he, hek⟩, hL, hel, hl9, hK9, hrec, by have h := hg140; rw [Nat.zero_add, List.nil_append] at h; exact h⟩ (by kernel_rfl) rfl ⟨rfl, rfl, rfl, rfl, rfl, rfl, rfl, rfl, by dsimp only; rw [Nat.zero_add]; rfl, trivial⟩ rfl (by dsimp only; rw [List.nil_append]; rfl)
      refine ⟨_, rfl, .inr ⟨2, false, 61, rfl, rfl, Eq.trans rfl (congrArg (fun b => some (Value.bool b)) (congrArg not rfl))⟩, ?_⟩
      refine q9 underlying27 sizeOf37 zeroValue37 (LCat.agg rfl LCat.none) ?_
      intro b141 hb141
      refine ⟨⟨(Le.trans (Le.trans (Le.trans (Le.refl _) hle104) hlec) hle134), HSub.n, CSub.n⟩, ?_⟩
      refine JA.pull (Pull.s (Pull.s Pull.z)) ?_
      refine JA.pull (Pull.s Pull.z) ?_
      refine JA.stepG 13 2 61 false _ (by kernel_rfl) rfl rfl rfl rfl (congrArg not rfl) (op_append (by' := 47) (n := 0) (g := some (b137, 0, [])) (xs := []) [_, _] rfl rfl rfl rfl rfl underlying27 (.inr ⟨_, underlying27⟩) (by kernel_rfl) sizeOf37 zeroValue37 rfl ⟨hb137, rfl, rfl⟩ rfl (Src.row entC_len hE.1 (entsS_one hE)) (by omega) ?_)
      intro g142 hg142
      refine ⟨⟨(Le.trans (Le.trans (Le.trans (Le.refl _) hle104) hlec) hle134), HSub.n, CSub.n⟩, ?_⟩
      refine JA.stepG 16 2 61 false _ (by kernel_rfl) rfl rfl rfl rfl (congrArg not rfl) (op_append (by' := 47) [_, _] rfl rfl rfl rfl rfl underlying27 (.inr ⟨_, underlying27⟩) (by kernel_rfl) sizeOf37 zeroValue37 rfl hg142 rfl (Src.slice (Blk.at 0 rfl) rfl rfl rfl) (by omega) ?_)
      intro g143 hg143
      refine ⟨⟨(Le.trans (Le.trans (Le.trans (Le.refl _) hle104) hlec) hle134), HSub.n, CSub.n⟩, ?_⟩
      refine JA.keep (H' := gH 37 _ g143) (List.sublist_append_right [_, _] _) ?_
      exact hshare (_, es, _, g143) _ _ _ _ _ ⟨(Le.trans (Le.trans (Le.trans (Le.refl _) hle104) hlec) hle134), hrc, ⟨fun e he => hE.2 e he, hek⟩, hL, hel, hl9, hK9, hrec, by have h := hg143; rw [Nat.zero_add, List.nil_append] at h; exact h⟩ (by kernel_rfl) rfl ⟨rfl, rfl, rfl, rfl, rfl, rfl, rfl, rfl, by dsimp only; rw [Nat.zero_add]; rfl, trivial⟩ rfl (by dsimp only; rw [List.nil_append]; rfl)
     refine ⟨_, rfl, .inr ⟨2, false, 61, rfl, rfl, Eq.trans rfl (congrArg (fun b => some (Value.bool b)) (congrArg not rfl))⟩, ?_⟩
     refine q9 underlying27 sizeOf37 zeroValue37 (LCat.agg rfl LCat.none) ?_
     intro b144 hb144
     refine ⟨⟨(Le.trans (Le.trans (Le.trans (Le.refl _) hle104) hlec) hle134), HSub.n, CSub.n⟩, ?_⟩
     refine JA.stepG 12 2 61 false _ (by kernel_rfl) rfl rfl rfl rfl (congrArg not rfl) (q4 (q3 isAgg27 (Blk.at 2 rfl)) ?_)
     refine ⟨⟨(Le.trans (Le.trans (Le.trans (Le.refl _) hle104) hlec) hle134), HSub.n, CSub.n⟩, ?_⟩
     refine JA.pull (Pull.s (Pull.s Pull.z)) ?_
     refine JA.pull (Pull.s Pull.z) ?_
     refine JA.stepG 13 2 61 false _ (by kernel_rfl) rfl rfl rfl rfl (congrArg not rfl) (op_append (by' := 47) (n := 0) (g := some (b137, 0, [])) (xs := []) [_, _] rfl rfl rfl rfl rfl underlying27 (.inr ⟨_, underlying27⟩) (by kernel_rfl) sizeOf37 zeroValue37 rfl ⟨hb137, rfl, rfl⟩ rfl (Src.row entC_len hE.1 (entsS_one hE)) (by omega) ?_)
     intro g145 hg145
     refine ⟨⟨(Le.trans (Le.trans (Le.trans (Le.refl _) hle104) hlec) hle134), HSub.n, CSub.n⟩, ?_⟩
     refine JA.stepG 16 2 61 false _ (by kernel_rfl) rfl rfl rfl rfl (congrArg not rfl) (op_append (by' := 47) [_, _] rfl rfl rfl rfl rfl underlying27 (.inr ⟨_, underlying27⟩) (by kernel_rfl) sizeOf37 zeroValue37 rfl hg145 rfl (Src.slice (Blk.at 0 rfl) rfl rfl rfl) (by omega) ?_)
     intro g146 hg146
     refine ⟨⟨(Le.trans (Le.trans (Le.trans (Le.refl _) hle104) hlec) hle134), HSub.n, CSub.n⟩, ?_⟩
     refine JA.keep (H' := gH 37 _ g146) (List.sublist_append_right [_, _] _) ?_
     exact hshare (_, es, _, g146) _ _ _ _ _ ⟨(Le.trans (Le.trans (Le.trans (Le.refl _) hle104) hlec) hle134), hrc, ⟨fun e he => hE.2 e he, hek⟩, hL, hel, hl9, hK9, hrec, by have h := hg146; rw [Nat.zero_add, List.nil_append] at h; exact h⟩ (by kernel_rfl) rfl ⟨rfl, rfl, rfl, rfl, rfl, rfl, rfl, rfl, by dsimp only; rw [Nat.zero_add]; rfl, trivial⟩ rfl (by dsimp only; rw [List.nil_append]; rfl)
    ·
     refine ⟨_, rfl, .inr ⟨2, false, 61, rfl, rfl, Eq.trans rfl (congrArg (fun b => some (Value.bool b)) (congrArg not rfl))⟩, ?_⟩
     refine q4 (q3 isAgg27 (Blk.at 0 rfl)) ?_
     refine ⟨⟨(Le.trans (Le.trans (Le.trans (Le.refl _) hle104) hlec) hle134), HSub.n, CSub.n⟩, ?_⟩
     refine JA.allG [7, 15] (by kernel_rfl) (by simp) ?_
     intro i hi
     simp only [List.mem_cons, List.not_mem_nil, or_false] at hi
     rcases hi with rfl | rfl
     ·
      refine ⟨_, rfl, .inr ⟨2, false, 61, rfl, rfl, Eq.trans rfl (congrArg (fun b => some (Value.bool b)) (congrArg not rfl))⟩, ?_⟩
      refine op_buildSlice0 rfl rfl rfl underlying27 sizeOf37 ?_
      intro b147 hb147
      refine ⟨⟨(Le.trans (Le.trans (Le.trans (Le.refl _) hle104) hlec) hle134), HSub.n, CSub.n⟩, ?_⟩
      refine JA.allG [13, 15] (by kernel_rfl) (by simp) ?_
      intro i hi
      simp only [List.mem_cons, List.not_mem_nil, or_false] at hi
      rcases hi with rfl | rfl
      ·
       refine ⟨_, rfl, .inr ⟨2, false, 61, rfl, rfl, Eq.trans rfl (congrArg (fun b => some (Value.bool b)) (congrArg not rfl))⟩, ?_⟩
       refine OpJ.pull (Pull.s Pull.z) ?_
       refine op_append (by' := 47) (n := 0) (g := some (b147, 0, [])) (xs := []) [_] rfl rfl rfl rfl rfl underlying27 (.inr ⟨_, underlying27⟩) (by kernel_rfl) sizeOf37 zeroValue37 rfl ⟨hb147, rfl, rfl⟩ rfl (Src.row entC_len hE.1 (entsS_one hE)) (by omega) ?_
       intro g148 hg148
       refine ⟨⟨(Le.trans (Le.trans (Le.trans (Le.refl _) hle104) hlec) hle134), HSub.n, CSub.n⟩, ?_⟩
       refine JA.stepG 15 2 61 false _ (by kernel_rfl) rfl rfl rfl rfl (congrArg not rfl) (q9 underlying27 sizeOf37 zeroValue37 (LCat.agg rfl LCat.none) ?_)
       intro b149 hb149
       refine ⟨⟨(Le.trans (Le.trans (Le.trans (Le.refl _) hle104) hlec) hle134), HSub.n, CSub.n⟩, ?_⟩
       refine JA.stepG 16 2 61 false _ (by kernel_rfl) rfl rfl rfl rfl (congrArg not rfl) (op_append (by' := 47) [_, _] rfl rfl rfl rfl rfl underlying27 (.inr ⟨_, underlying27⟩) (by kernel_rfl) sizeOf37 zeroValue37 rfl hg148 rfl (Src.slice (Blk.at 0 rfl) rfl rfl rfl) (by omega) ?_)
       intro g150 hg150
       refine ⟨⟨(Le.trans (Le.trans (Le.trans (Le.refl _) hle104) hlec) hle134), HSub.n, CSub.n⟩, ?_⟩
       refine JA.keep (H' := gH 37 _ g150) (List.sublist_append_right [_, _] _) ?_
       exact hshare (_, es, _, g150) _ _ _ _ _ ⟨(Le.trans (Le.trans (Le.trans (Le.refl _) hle104) hlec) hle134), hrc, ⟨fun e he => hE.2 e he, hek⟩, hL, hel, hl9, hK9, hrec, by have h := hg150; rw [Nat.zero_add, List.nil_append] at h; exact h⟩ (by kernel_rfl) rfl ⟨rfl, rfl, rfl, rfl, rfl, rfl, rfl, rfl, by dsimp only; rw [Nat.zero_add]; rfl, trivial⟩ rfl (by dsimp only; rw [List.nil_append]; rfl)
      refine ⟨_, rfl, .inr ⟨2, false, 61, rfl, rfl, Eq.trans rfl (congrArg (fun b => some (Value.bool b)) (congrArg not rfl))⟩, ?_⟩
      refine q9 underlying27 sizeOf37 zeroValue37 (LCat.agg rfl LCat.none) ?_
      intro b151 hb151
      refine ⟨⟨(Le.trans (Le.trans (Le.trans (Le.refl _) hle104) hlec) hle134), HSub.n, CSub.n⟩, ?_⟩
      refine JA.pull (Pull.s (Pull.s Pull.z)) ?_
      refine JA.pull (Pull.s Pull.z) ?_
      refine JA.stepG 13 2 61 false _ (by kernel_rfl) rfl rfl rfl rfl (congrArg not rfl) (op_append (by' := 47) (n := 0) (g := some (b147, 0, [])) (xs := []) [_, _] rfl rfl rfl rfl rfl underlying27 (.inr ⟨_, underlying27⟩) (by kernel_rfl) sizeOf37 zeroValue37 rfl ⟨hb147, rfl, rfl⟩ rfl (Src.row entC_len hE.1 (entsS_one hE)) (by omega) ?_)
      intro g152 hg152
      refine ⟨⟨(Le.trans (Le.trans (Le.trans (Le.refl _) hle104) hlec) hle134), HSub.n, CSub.n⟩, ?_⟩
      refine JA.stepG 16 2 61 false _ (by kernel_rfl) rfl rfl rfl rfl (congrArg not rfl) (op_append (by' := 47) [_, _] rfl rfl rfl rfl rfl underlying27 (.inr ⟨_, underlying27⟩) (by kernel_rfl) sizeOf37 zeroValue37 rfl hg152 rfl (Src.slice (Blk.at 0 rfl) rfl rfl rfl) (by omega) ?_)
      intro g153 hg153
      refine ⟨⟨(Le.trans (Le.trans (Le.trans (Le.refl _) hle104) hlec) hle134), HSub.n, CSub.n⟩, ?_⟩
      refine JA.keep (H' := gH 37 _ g153) (List.sublist_append_right [_, _] _) ?_
      exact hshare (_, es, _, g153) _ _ _ _ _ ⟨(Le.trans (Le.trans (Le.trans (Le.refl _) hle104) hlec) hle134), hrc, ⟨fun e he => hE.2 e he, hek⟩, hL, hel, hl9, hK9, hrec, by have h := hg153; rw [Nat.zero_add, List.nil_append] at h; exact h⟩ (by kernel_rfl) rfl ⟨rfl, rfl, rfl, rfl, rfl, rfl, rfl, rfl, by dsimp only; rw [Nat.zero_add]; rfl, trivial⟩ rfl (by dsimp only; rw [List.nil_append]; rfl)
     refine ⟨_, rfl, .inr ⟨2, false, 61, rfl, rfl, Eq.trans rfl (congrArg (fun b => some (Value.bool b)) (congrArg not rfl))⟩, ?_⟩
     refine q9 underlying27 sizeOf37 zeroValue37 (LCat.agg rfl LCat.none) ?_
     intro b154 hb154
     refine ⟨⟨(Le.trans (Le.trans (Le.trans (Le.refl _) hle104) hlec) hle134), HSub.n, CSub.n⟩, ?_⟩
     refine JA.stepG 7 2 61 false _ (by kernel_rfl) rfl rfl rfl rfl (congrArg not rfl) (op_buildSlice0 rfl rfl rfl underlying27 sizeOf37 ?_)
     intro b155 hb155
     refine ⟨⟨(Le.trans (Le.trans (Le.trans (Le.refl _) hle104) hlec) hle134), HSub.n, CSub.n⟩, ?_⟩
     refine JA.pull (Pull.s (Pull.s Pull.z)) ?_
     refine JA.pull (Pull.s (Pull.s Pull.z)) ?_
     refine JA.stepG 13 2 61 false _ (by kernel_rfl) rfl rfl rfl rfl (congrArg not rfl) (op_append (by' := 47) (n := 0) (g := some (b155, 0, [])) (xs := []) [_, _] rfl rfl rfl rfl rfl underlying27 (.inr ⟨_, underlying27⟩) (by kernel_rfl) sizeOf37 zeroValue37 rfl ⟨hb155, rfl, rfl⟩ rfl (Src.row entC_len hE.1 (entsS_one hE)) (by omega) ?_)
     intro g156 hg156
     refine ⟨⟨(Le.trans (Le.trans (Le.trans (Le.refl _) hle104) hlec) hle134), HSub.n, CSub.n⟩, ?_⟩
     refine JA.stepG 16 2 61 false _ (by kernel_rfl) rfl rfl rfl rfl (congrArg not rfl) (op_append (by' := 47) [_, _] rfl rfl rfl rfl rfl underlying27 (.inr ⟨_, underlying27⟩) (by kernel_rfl) sizeOf37 zeroValue37 rfl hg156 rfl (Src.slice (Blk.at 0 rfl) rfl rfl rfl) (by omega) ?_)
     intro g157 hg157
     refine ⟨⟨(Le.trans (Le.trans (Le.trans (Le.refl _) hle104) hlec) hle134), HSub.n, CSub.n⟩, ?_⟩
     refine JA.keep (H' := gH 37 _ g157) (List.sublist_append_right [_, _] _) ?_
     exact hshare (_, es, _, g157) _ _ _ _ _ ⟨(Le.trans (Le.trans (Le.trans (Le.refl _) hle104) hlec) hle134), hrc, ⟨fun e he => hE.2 e he, hek⟩, hL, hel, hl9, hK9, hrec, by have h := hg157; rw [Nat.zero_add, List.nil_append] at h; exact h⟩ (by kernel_rfl) rfl ⟨rfl, rfl, rfl, rfl, rfl, rfl, rfl, rfl, by dsimp only; rw [Nat.zero_add]; rfl, trivial⟩ rfl (by dsimp only; rw [List.nil_append]; rfl)
    refine ⟨_, rfl, .inr ⟨2, false, 61, rfl, rfl, Eq.trans rfl (congrArg (fun b => some (Value.bool b)) (congrArg not rfl))⟩, ?_⟩
    refine q9 underlying27 sizeOf37 zeroValue37 (LCat.agg rfl LCat.none) ?_
    intro b158 hb158
    refine ⟨⟨(Le.trans (Le.trans (Le.trans (Le.refl _) hle104) hlec) hle134), HSub.n, CSub.n⟩, ?_⟩
    refine JA.allG [7, 12] (by kernel_rfl) (by simp) ?_
    intro i hi
    simp only [List.mem_cons, List.not_mem_nil, or_false] at hi
    rcases hi with rfl | rfl
    ·
     refine ⟨_, rfl, .inr ⟨2, false, 61, rfl, rfl, Eq.trans rfl (congrArg (fun b => some (Value.bool b)) (congrArg not rfl))⟩, ?_⟩
     refine op_buildSlice0 rfl rfl rfl underlying27 sizeOf37 ?_
     intro b159 hb159
     refine ⟨⟨(Le.trans (Le.trans (Le.trans (Le.refl _) hle104) hlec) hle134), HSub.n, CSub.n⟩, ?_⟩
     refine JA.stepG 12 2 61 false _ (by kernel_rfl) rfl rfl rfl rfl (congrArg not rfl) (q4 (q3 isAgg27 (Blk.at 2 rfl)) ?_)
     refine ⟨⟨(Le.trans (Le.trans (Le.trans (Le.refl _) hle104) hlec) hle134), HSub.n, CSub.n⟩, ?_⟩
     refine JA.pull (Pull.s (Pull.s Pull.z)) ?_
     refine JA.pull (Pull.s (Pull.s Pull.z)) ?_
     refine JA.stepG 13 2 61 false _ (by kernel_rfl) rfl rfl rfl rfl (congrArg not rfl) (op_append (by' := 47) (n := 0) (g := some (b159, 0, [])) (xs := []) [_, _] rfl rfl rfl rfl rfl underlying27 (.inr ⟨_, underlying27⟩) (by kernel_rfl) sizeOf37 zeroValue37 rfl ⟨hb159, rfl, rfl⟩ rfl (Src.row entC_len hE.1 (entsS_one hE)) (by omega) ?_)
     intro g160 hg160
     refine ⟨⟨(Le.trans (Le.trans (Le.trans (Le.refl _) hle104) hlec) hle134), HSub.n, CSub.n⟩, ?_⟩
     refine JA.stepG 16 2 61 false _ (by kernel_rfl) rfl rfl rfl rfl (congrArg not rfl) (op_append (by' := 47) [_, _] rfl rfl rfl rfl rfl underlying27 (.inr ⟨_, underlying27⟩) (by kernel_rfl) sizeOf37 zeroValue37 rfl hg160 rfl (Src.slice (Blk.at 0 rfl) rfl rfl rfl) (by omega) ?_)
     intro g161 hg161
     refine ⟨⟨(Le.trans (Le.trans (Le.trans (Le.refl _) hle104) hlec) hle134), HSub.n, CSub.n⟩, ?_⟩
     refine JA.keep (H' := gH 37 _ g161) (List.sublist_append_right [_, _] _) ?_
     exact hshare (_, es, _, g161) _ _ _ _ _ ⟨(Le.trans (Le.trans (Le.trans (Le.refl _) hle104) hlec) hle134), hrc, ⟨fun e he => hE.2 e he, hek⟩, hL, hel, hl9, hK9, hrec, by have h := hg161; rw [Nat.zero_add, List.nil_append] at h; exact h⟩ (by kernel_rfl) rfl ⟨rfl, rfl, rfl, rfl, rfl, rfl, rfl, rfl, by dsimp only; rw [Nat.zero_add]; rfl, trivial⟩ rfl (by dsimp only; rw [List.nil_append]; rfl)
    refine ⟨_, rfl, .inr ⟨2, false, 61, rfl, rfl, Eq.trans rfl (congrArg (fun b => some (Value.bool b)) (congrArg not rfl))⟩, ?_⟩
    refine q4 (q3 isAgg27 (Blk.at 1 rfl)) ?_
    refine ⟨⟨(Le.trans (Le.trans (Le.trans (Le.refl _) hle104) hlec) hle134), HSub.n, CSub.n⟩, ?_⟩
    refine JA.stepG 7 2 61 false _ (by kernel_rfl) rfl rfl rfl rfl (congrArg not rfl) (op_buildSlice0 rfl rfl rfl underlying27 sizeOf37 ?_)
    intro b162 hb162
    refine ⟨⟨(Le.trans (Le.trans (Le.trans (Le.refl _) hle104) hlec) hle134), HSub.n, CSub.n⟩, ?_⟩
    refine JA.pull (Pull.s (Pull.s Pull.z)) ?_
    refine JA.pull (Pull.s (Pull.s Pull.z)) ?_
    refine JA.stepG 13 2 61 false _ (by kernel_rfl) rfl rfl rfl rfl (congrArg not rfl) (op_append (by' := 47) (n := 0) (g := some (b162, 0, [])) (xs := []) [_, _] rfl rfl rfl rfl rfl underlying27 (.inr ⟨_, underlying27⟩) (by kernel_rfl) sizeOf37 zeroValue37 rfl ⟨hb162, rfl, rfl⟩ rfl (Src.row entC_len hE.1 (entsS_one hE)) (by omega) ?_)
    intro g163 hg163
    refine ⟨⟨(Le.trans (Le.trans (Le.trans (Le.refl _) hle104) hlec) hle134), HSub.n, CSub.n⟩, ?_⟩
    refine JA.stepG 16 2 61 false _ (by kernel_rfl) rfl rfl rfl rfl (congrArg not rfl) (op_append (by' := 47) [_, _] rfl rfl rfl rfl rfl underlying27 (.inr ⟨_, underlying27⟩) (by kernel_rfl) sizeOf37 zeroValue37 rfl hg163 rfl (Src.slice (Blk.at 0 rfl) rfl rfl rfl) (by omega) ?_)
    intro g164 hg164
    refine ⟨⟨(Le.trans (Le.trans (Le.trans (Le.refl _) hle104) hlec) hle134), HSub.n, CSub.n⟩, ?_⟩
    refine JA.keep (H' := gH 37 _ g164) (List.sublist_append_right [_, _] _) ?_
    exact hshare (_, es, _, g164) _ _ _ _ _ ⟨(Le.trans (Le.trans (Le.trans (Le.refl _) hle104) hlec) hle134), hrc, ⟨fun e he => hE.2 e he, hek⟩, hL, hel, hl9, hK9, hrec, by have h := hg164; rw [Nat.zero_add, List.nil_append] at h; exact h⟩ (by kernel_rfl) rfl ⟨rfl, rfl, rfl, rfl, rfl, rfl, rfl, rfl, by dsimp only; rw [Nat.zero_add]; rfl, trivial⟩ rfl (by dsimp only; rw [List.nil_append]; rfl)
   refine ⟨_, rfl, .inr ⟨2, false, 61, rfl, rfl, Eq.trans rfl (congrArg (fun b => some (Value.bool b)) (congrArg not rfl))⟩, ?_⟩
   refine q9 underlying27 sizeOf37 zeroValue37 (LCat.agg rfl LCat.none) ?_
   intro b165 hb165
   refine ⟨⟨(Le.trans (Le.trans (Le.refl _) hle104) hlec), HSub.n, CSub.n⟩, ?_⟩
   refine JA.allG [7, 9] (by kernel_rfl) (by simp) ?_
   intro i hi
   simp only [List.mem_cons, List.not_mem_nil, or_false] at hi
   rcases hi with rfl | rfl
   ·
    refine ⟨_, rfl, .inr ⟨2, false, 61, rfl, rfl, Eq.trans rfl (congrArg (fun b => some (Value.bool b)) (congrArg not rfl))⟩, ?_⟩
    refine op_buildSlice0 rfl rfl rfl underlying27 sizeOf37 ?_
    intro b166 hb166
    refine ⟨⟨(Le.trans (Le.trans (Le.refl _) hle104) hlec), HSub.n, CSub.n⟩, ?_⟩
    refine JA.stepG 9 2 61 false _ (by kernel_rfl) rfl rfl rfl rfl (congrArg not rfl) (op_call (H1 := []) rfl rfl rfl rfl rfl (rPlay_ok xs _ hao _ hA) ?_ (fun _ _ _ _ ⟨_, _, _, h, _⟩ => nomatch h) (fun _ _ ⟨_, _, _, h, _⟩ => nomatch h))
    intro v167 I168 H169 hle170 hp171
    have hA := hA.mono hle170
    have hrec := hrec.mono hle170
    have he1 := hle170 _ _ he1
    have hl9 := hl9.mono hle170
    have hK9 := fun p hp => hle170 _ _ (hK9 p hp)
    have hx := hx.mono hle170
    have hrc := hrc.mono hle170
    obtain ⟨rb, es, w, h, hE, hL, hek, hel, rfl⟩ := hp171; cases h
    obtain ⟨pR, cR, rfl⟩ := RowS.len hE.1
    refine ⟨⟨(Le.trans (Le.trans (Le.trans (Le.refl _) hle104) hlec) hle170), HSub.n, CSub.n⟩, ?_⟩
    refine JA.fix ⟨HSub.n, CSub.n, (Le.trans (Le.trans (Le.trans (Le.refl _) hle104) hlec) hle170)⟩ (fun fx172 => ?_)
    refine JA.tkG 10 2 61 false _ rfl fx172 rfl rfl (congrArg not rfl) q5 ?_
    refine JA.tkG 11 2 61 false _ rfl fx172 rfl rfl (congrArg not rfl) (q2 (off' := 0) underlying73 sizeOf27) ?_
    refine JA.stepG 12 2 61 false _ (by kernel_rfl) rfl rfl rfl rfl (congrArg not rfl) (q4 (q3 isAgg27 (Blk.at 0 rfl)) ?_)
    refine ⟨⟨(Le.trans (Le.trans (Le.trans (Le.refl _) hle104) hlec) hle170), HSub.n, CSub.n⟩, ?_⟩
    refine JA.pull (Pull.s (Pull.s Pull.z)) ?_
    refine JA.pull (Pull.s Pull.z) ?_
    refine JA.stepG 13 2 61 false _ (by kernel_rfl) rfl rfl rfl rfl (congrArg not rfl) (op_append (by' := 47) (n := 0) (g := some (b166, 0, [])) (xs := []) [_, _] rfl rfl rfl rfl rfl underlying27 (.inr ⟨_, underlying27⟩) (by kernel_rfl) sizeOf37 zeroValue37 rfl ⟨hb166, rfl, rfl⟩ rfl (Src.row entC_len hE.1 (entsS_one hE)) (by omega) ?_)
    intro g173 hg173
    refine ⟨⟨(Le.trans (Le.trans (Le.trans (Le.refl _) hle104) hlec) hle170), HSub.n, CSub.n⟩, ?_⟩
    refine JA.stepG 16 2 61 false _ (by kernel_rfl) rfl rfl rfl rfl (congrArg not rfl) (op_append (by' := 47) [_, _] rfl rfl rfl rfl rfl underlying27 (.inr ⟨_, underlying27⟩) (by kernel_rfl) sizeOf37 zeroValue37 rfl hg173 rfl (Src.slice (Blk.at 1 rfl) rfl rfl rfl) (by omega) ?_)
    intro g174 hg174
    refine ⟨⟨(Le.trans (Le.trans (Le.trans (Le.refl _) hle104) hlec) hle170), HSub.n, CSub.n⟩, ?_⟩
    refine JA.keep (H' := gH 37 _ g174) (List.sublist_append_right [_, _] _) ?_
    exact hshare (_, es, _, g174) _ _ _ _ _ ⟨(Le.trans (Le.trans (Le.trans (Le.refl _) hle104) hlec) hle170), hrc, ⟨fun e he => hE.2 e he, hek⟩, hL, hel, hl9, hK9, hrec, by have h := hg174; rw [Nat.zero_add, List.nil_append] at h; exact h⟩ (by kernel_rfl) rfl ⟨rfl, rfl, rfl, rfl, rfl, rfl, rfl, rfl, by dsimp only; rw [Nat.zero_add]; rfl, trivial⟩ rfl (by dsimp only; rw [List.nil_append]; rfl)
   refine ⟨_, rfl, .inr ⟨2, false, 61, rfl, rfl, Eq.trans rfl (congrArg (fun b => some (Value.bool b)) (congrArg not rfl))⟩, ?_⟩
   refine op_call (H1 := []) rfl rfl rfl rfl rfl (rPlay_ok xs _ hao _ hA) ?_ (fun _ _ _ _ ⟨_, _, _, h, _⟩ => nomatch h) (fun _ _ ⟨_, _, _, h, _⟩ => nomatch h)
   intro v175 I176 H177 hle178 hp179
   have hA := hA.mono hle178
   have hrec := hrec.mono hle178
   have he1 := hle178 _ _ he1
   have hl9 := hl9.mono hle178
   have hK9 := fun p hp => hle178 _ _ (hK9 p hp)
   have hx := hx.mono hle178
   have hrc := hrc.mono hle178
   obtain ⟨rb, es, w, h, hE, hL, hek, hel, rfl⟩ := hp179; cases h
   obtain ⟨pR, cR, rfl⟩ := RowS.len hE.1
   refine ⟨⟨(Le.trans (Le.trans (Le.trans (Le.refl _) hle104) hlec) hle178), HSub.n, CSub.n⟩, ?_⟩
   refine JA.fix ⟨HSub.n, CSub.n, (Le.trans (Le.trans (Le.trans (Le.refl _) hle104) hlec) hle178)⟩ (fun fx180 => ?_)
   refine JA.tkG 10 2 61 false _ rfl fx180 rfl rfl (congrArg not rfl) q5 ?_
   refine JA.tkG 11 2 61 false _ rfl fx180 rfl rfl (congrArg not rfl) (q2 (off' := 0) underlying73 sizeOf27) ?_
   refine JA.allG [7, 12] (by kernel_rfl) (by simp) ?_
   intro i hi
   simp only [List.mem_cons, List.not_mem_nil, or_false] at hi
   rcases hi with rfl | rfl
   ·
    refine ⟨_, rfl, .inr ⟨2, false, 61, rfl, rfl, Eq.trans rfl (congrArg (fun b => some (Value.bool b)) (congrArg not rfl))⟩, ?_⟩
    refine op_buildSlice0 rfl rfl rfl underlying27 sizeOf37 ?_
    intro b181 hb181
    refine ⟨⟨(Le.trans (Le.trans (Le.trans (Le.refl _) hle104) hlec) hle178), HSub.n, CSub.n⟩, ?_⟩
    refine JA.stepG 12 2 61 false _ (by kernel_rfl) rfl rfl rfl rfl (congrArg not rfl) (q4 (q3 isAgg27 (Blk.at 1 rfl)) ?_)
    refine ⟨⟨(Le.trans (Le.trans (Le.trans (Le.refl _) hle104) hlec) hle178), HSub.n, CSub.n⟩, ?_⟩
    refine JA.pull (Pull.s (Pull.s Pull.z)) ?_
    refine JA.pull (Pull.s (Pull.s Pull.z)) ?_
    refine JA.stepG 13 2 61 false _ (by kernel_rfl) rfl rfl rfl rfl (congrArg not rfl) (op_append (by' := 47) (n := 0) (g := some (b181, 0, [])) (xs := []) [_, _] rfl rfl rfl rfl rfl underlying27 (.inr ⟨_, underlying27⟩) (by kernel_rfl) sizeOf37 zeroValue37 rfl ⟨hb181, rfl, rfl⟩ rfl (Src.row entC_len hE.1 (entsS_one hE)) (by omega) ?_)
    intro g182 hg182
    refine ⟨⟨(Le.trans (Le.trans (Le.trans (Le.refl _) hle104) hlec) hle178), HSub.n, CSub.n⟩, ?_⟩
    refine JA.stepG 16 2 61 false _ (by kernel_rfl) rfl rfl rfl rfl (congrArg not rfl) (op_append (by' := 47) [_, _] rfl rfl rfl rfl rfl underlying27 (.inr ⟨_, underlying27⟩) (by kernel_rfl) sizeOf37 zeroValue37 rfl hg182 rfl (Src.slice (Blk.at 1 rfl) rfl rfl rfl) (by omega) ?_)
    intro g183 hg183
    refine ⟨⟨(Le.trans (Le.trans (Le.trans (Le.refl _) hle104) hlec) hle178), HSub.n, CSub.n⟩, ?_⟩
    refine JA.keep (H' := gH 37 _ g183) (List.sublist_append_right [_, _] _) ?_
    exact hshare (_, es, _, g183) _ _ _ _ _ ⟨(Le.trans (Le.trans (Le.trans (Le.refl _) hle104) hlec) hle178), hrc, ⟨fun e he => hE.2 e he, hek⟩, hL, hel, hl9, hK9, hrec, by have h := hg183; rw [Nat.zero_add, List.nil_append] at h; exact h⟩ (by kernel_rfl) rfl ⟨rfl, rfl, rfl, rfl, rfl, rfl, rfl, rfl, by dsimp only; rw [Nat.zero_add]; rfl, trivial⟩ rfl (by dsimp only; rw [List.nil_append]; rfl)
   refine ⟨_, rfl, .inr ⟨2, false, 61, rfl, rfl, Eq.trans rfl (congrArg (fun b => some (Value.bool b)) (congrArg not rfl))⟩, ?_⟩
   refine q4 (q3 isAgg27 (Blk.at 0 rfl)) ?_
   refine ⟨⟨(Le.trans (Le.trans (Le.trans (Le.refl _) hle104) hlec) hle178), HSub.n, CSub.n⟩, ?_⟩
   refine JA.stepG 7 2 61 false _ (by kernel_rfl) rfl rfl rfl rfl (congrArg not rfl) (op_buildSlice0 rfl rfl rfl underlying27 sizeOf37 ?_)
   intro b184 hb184
   refine ⟨⟨(Le.trans (Le.trans (Le.trans (Le.refl _) hle104) hlec) hle178), HSub.n, CSub.n⟩, ?_⟩
   refine JA.pull (Pull.s (Pull.s Pull.z)) ?_
   refine JA.pull (Pull.s (Pull.s Pull.z)) ?_
   refine JA.stepG 13 2 61 false _ (by kernel_rfl) rfl rfl rfl rfl (congrArg not rfl) (op_append (by' := 47) (n := 0) (g := some (b184, 0, [])) (xs := []) [_, _] rfl rfl rfl rfl rfl underlying27 (.inr ⟨_, underlying27⟩) (by kernel_rfl) sizeOf37 zeroValue37 rfl ⟨hb184, rfl, rfl⟩ rfl (Src.row entC_len hE.1 (entsS_one hE)) (by omega) ?_)
   intro g185 hg185
   refine ⟨⟨(Le.trans (Le.trans (Le.trans (Le.refl _) hle104) hlec) hle178), HSub.n, CSub.n⟩, ?_⟩
   refine JA.stepG 16 2 61 false _ (by kernel_rfl) rfl rfl rfl rfl (congrArg not rfl) (op_append (by' := 47) [_, _] rfl rfl rfl rfl rfl underlying27 (.inr ⟨_, underlying27⟩) (by kernel_rfl) sizeOf37 zeroValue37 rfl hg185 rfl (Src.slice (Blk.at 1 rfl) rfl rfl rfl) (by omega) ?_)
   intro g186 hg186
   refine ⟨⟨(Le.trans (Le.trans (Le.trans (Le.refl _) hle104) hlec) hle178), HSub.n, CSub.n⟩, ?_⟩
   refine JA.keep (H' := gH 37 _ g186) (List.sublist_append_right [_, _] _) ?_
   exact hshare (_, es, _, g186) _ _ _ _ _ ⟨(Le.trans (Le.trans (Le.trans (Le.refl _) hle104) hlec) hle178), hrc, ⟨fun e he => hE.2 e he, hek⟩, hL, hel, hl9, hK9, hrec, by have h := hg186; rw [Nat.zero_add, List.nil_append] at h; exact h⟩ (by kernel_rfl) rfl ⟨rfl, rfl, rfl, rfl, rfl, rfl, rfl, rfl, by dsimp only; rw [Nat.zero_add]; rfl, trivial⟩ rfl (by dsimp only; rw [List.nil_append]; rfl)
  ·
   refine ⟨_, rfl, .inr ⟨2, false, 61, rfl, rfl, Eq.trans rfl (congrArg (fun b => some (Value.bool b)) (congrArg not rfl))⟩, ?_⟩
   refine op_buildSlice0 rfl rfl rfl underlying27 sizeOf37 ?_
   intro b187 hb187
   refine ⟨fx0, ?_⟩
   refine JA.allG [6, 15] (by kernel_rfl) (by simp) ?_
   intro i hi
   simp only [List.mem_cons, List.not_mem_nil, or_false] at hi
   rcases hi with rfl | rfl
   ·
    refine ⟨_, rfl, .inr ⟨2, false, 61, rfl, rfl, Eq.trans rfl (congrArg (fun b => some (Value.bool b)) (congrArg not rfl))⟩, ?_⟩
    refine op_callN rfl rfl rfl rfl rfl (Scan_ok ib (Ix.rput ((1099511627776, 1) : Ix.Rec) (Ix.vals fs0) (Ix.play (acts xs))) (nameN n) [] (by decide) 1000 _ hx) ?_ (fun _ _ _ _ ⟨_, h, _⟩ => nomatch h) (fun _ _ ⟨_, h, _⟩ => nomatch h)
    intro v189 I190 H191 hle192 hn188 hp193
    have hA := hA.mono hle192
    have hrec := hrec.mono hle192
    have he1 := hle192 _ _ he1
    have hl9 := hl9.mono hle192
    have hK9 := fun p hp => hle192 _ _ (hK9 p hp)
    have hx := hx.mono hle192
    obtain ⟨wc, h, hoc⟩ := hp193; cases h
    have hnc := hn188
    refine ⟨⟨(Le.trans (Le.refl _) hle192), HSub.n, CSub.n⟩, ?_⟩
    refine JA.keepO hoc hnc (fun Ic hlec hrc => ?_)
    have hA := hA.mono hlec
    have hrec := hrec.mono hlec
    have he1 := hlec _ _ he1
    have hl9 := hl9.mono hlec
    have hK9 := fun p hp => hlec _ _ (hK9 p hp)
    have hx := hx.mono hlec
    replace hrc := hrc.row
    refine JA.allG [9, 15] (by kernel_rfl) (by simp) ?_
    intro i hi
    simp only [List.mem_cons, List.not_mem_nil, or_false] at hi
    rcases hi with rfl | rfl
    ·
     refine ⟨_, rfl, .inr ⟨2, false, 61, rfl, rfl, Eq.trans rfl (congrArg (fun b => some (Value.bool b)) (congrArg not rfl))⟩, ?_⟩
     refine op_call (H1 := []) rfl rfl rfl rfl rfl (rPlay_ok xs _ hao _ hA) ?_ (fun _ _ _ _ ⟨_, _, _, h, _⟩ => nomatch h) (fun _ _ ⟨_, _, _, h, _⟩ => nomatch h)
     intro v194 I195 H196 hle197 hp198
     have hA := hA.mono hle197
     have hrec := hrec.mono hle197
     have he1 := hle197 _ _ he1
     have hl9 := hl9.mono hle197
     have hK9 := fun p hp => hle197 _ _ (hK9 p hp)
     have hx := hx.mono hle197
     have hrc := hrc.mono hle197
     obtain ⟨rb, es, w, h, hE, hL, hek, hel, rfl⟩ := hp198; cases h
     obtain ⟨pR, cR, rfl⟩ := RowS.len hE.1
     refine ⟨⟨(Le.trans (Le.trans (Le.trans (Le.refl _) hle192) hlec) hle197), HSub.n, CSub.n⟩, ?_⟩
     refine JA.fix ⟨HSub.n, CSub.n, (Le.trans (Le.trans (Le.trans (Le.refl _) hle192) hlec) hle197)⟩ (fun fx199 => ?_)
     refine JA.tkG 10 2 61 false _ rfl fx199 rfl rfl (congrArg not rfl) q5 ?_
     refine JA.tkG 11 2 61 false _ rfl fx199 rfl rfl (congrArg not rfl) (q2 (off' := 0) underlying73 sizeOf27) ?_
     refine JA.allG [12, 15] (by kernel_rfl) (by simp) ?_
     intro i hi
     simp only [List.mem_cons, List.not_mem_nil, or_false] at hi
     rcases hi with rfl | rfl
     ·
      refine ⟨_, rfl, .inr ⟨2, false, 61, rfl, rfl, Eq.trans rfl (congrArg (fun b => some (Value.bool b)) (congrArg not rfl))⟩, ?_⟩
      refine q4 (q3 isAgg27 (Blk.at 0 rfl)) ?_
      refine ⟨⟨(Le.trans (Le.trans (Le.trans (Le.refl _) hle192) hlec) hle197), HSub.n, CSub.n⟩, ?_⟩
      refine JA.allG [13, 15] (by kernel_rfl) (by simp) ?_
      intro i hi
      simp only [List.mem_cons, List.not_mem_nil, or_false] at hi
      rcases hi with rfl | rfl
      ·
       refine ⟨_, rfl, .inr ⟨2, false, 61, rfl, rfl, Eq.trans rfl (congrArg (fun b => some (Value.bool b)) (congrArg not rfl))⟩, ?_⟩
       refine OpJ.pull Pull.z ?_
       refine op_append (by' := 47) (n := 0) (g := some (b187, 0, [])) (xs := []) [_] rfl rfl rfl rfl rfl underlying27 (.inr ⟨_, underlying27⟩) (by kernel_rfl) sizeOf37 zeroValue37 rfl ⟨hb187, rfl, rfl⟩ rfl (Src.row entC_len hE.1 (entsS_one hE)) (by omega) ?_
       intro g200 hg200
       refine ⟨⟨(Le.trans (Le.trans (Le.trans (Le.refl _) hle192) hlec) hle197), HSub.n, CSub.n⟩, ?_⟩
       refine JA.stepG 15 2 61 false _ (by kernel_rfl) rfl rfl rfl rfl (congrArg not rfl) (q9 underlying27 sizeOf37 zeroValue37 (LCat.agg rfl LCat.none) ?_)
       intro b201 hb201
       refine ⟨⟨(Le.trans (Le.trans (Le.trans (Le.refl _) hle192) hlec) hle197), HSub.n, CSub.n⟩, ?_⟩
       refine JA.stepG 16 2 61 false _ (by kernel_rfl) rfl rfl rfl rfl (congrArg not rfl) (op_append (by' := 47) [_, _] rfl rfl rfl rfl rfl underlying27 (.inr ⟨_, underlying27⟩) (by kernel_rfl) sizeOf37 zeroValue37 rfl hg200 rfl (Src.slice (Blk.at 0 rfl) rfl rfl rfl) (by omega) ?_)
       intro g202 hg202
       refine ⟨⟨(Le.trans (Le.trans (Le.trans (Le.refl _) hle192) hlec) hle197), HSub.n, CSub.n⟩, ?_⟩
       refine JA.keep (H' := gH 37 _ g202) (List.sublist_append_right [_, _] _) ?_
       exact hshare (_, es, _, g202) _ _ _ _ _ ⟨(Le.trans (Le.trans (Le.trans (Le.refl _) hle192) hlec) hle197), hrc, ⟨fun e he => hE.2 e he, hek⟩, hL, hel, hl9, hK9, hrec, by have h := hg202; rw [Nat.zero_add, List.nil_append] at h; exact h⟩ (by kernel_rfl) rfl ⟨rfl, rfl, rfl, rfl, rfl, rfl, rfl, rfl, by dsimp only; rw [Nat.zero_add]; rfl, trivial⟩ rfl (by dsimp only; rw [List.nil_append]; rfl)
      refine ⟨_, rfl, .inr ⟨2, false, 61, rfl, rfl, Eq.trans rfl (congrArg (fun b => some (Value.bool b)) (congrArg not rfl))⟩, ?_⟩
      refine q9 underlying27 sizeOf37 zeroValue37 (LCat.agg rfl LCat.none) ?_
      intro b203 hb203
      refine ⟨⟨(Le.trans (Le.trans (Le.trans (Le.refl _) hle192) hlec) hle197), HSub.n, CSub.n⟩, ?_⟩
      refine JA.pull (Pull.s Pull.z) ?_
      refine JA.pull (Pull.s Pull.z) ?_
      refine JA.stepG 13 2 61 false _ (by kernel_rfl) rfl rfl rfl rfl (congrArg not rfl) (op_append (by' := 47) (n := 0) (g := some (b187, 0, [])) (xs := []) [_, _] rfl rfl rfl rfl rfl underlying27 (.inr ⟨_, underlying27⟩) (by kernel_rfl) sizeOf37 zeroValue37 rfl ⟨hb187, rfl, rfl⟩ rfl (Src.row entC_len hE.1 (entsS_one hE)) (by omega) ?_)
      intro g204 hg204
      refine ⟨⟨(Le.trans (Le.trans (Le.trans (Le.refl _) hle192) hlec) hle197), HSub.n, CSub.n⟩, ?_⟩
      refine JA.stepG 16 2 61 false _ (by kernel_rfl) rfl rfl rfl rfl (congrArg not rfl) (op_append (by' := 47) [_, _] rfl rfl rfl rfl rfl underlying27 (.inr ⟨_, underlying27⟩) (by kernel_rfl) sizeOf37 zeroValue37 rfl hg204 rfl (Src.slice (Blk.at 0 rfl) rfl rfl rfl) (by omega) ?_)
      intro g205 hg205
      refine ⟨⟨(Le.trans (Le.trans (Le.trans (Le.refl _) hle192) hlec) hle197), HSub.n, CSub.n⟩, ?_⟩
      refine JA.keep (H' := gH 37 _ g205) (List.sublist_append_right [_, _] _) ?_
      exact hshare (_, es, _, g205) _ _ _ _ _ ⟨(Le.trans (Le.trans (Le.trans (Le.refl _) hle192) hlec) hle197), hrc, ⟨fun e he => hE.2 e he, hek⟩, hL, hel, hl9, hK9, hrec, by have h := hg205; rw [Nat.zero_add, List.nil_append] at h; exact h⟩ (by kernel_rfl) rfl ⟨rfl, rfl, rfl, rfl, rfl, rfl, rfl, rfl, by dsimp only; rw [Nat.zero_add]; rfl, trivial⟩ rfl (by dsimp only; rw [List.nil_append]; rfl)
     refine ⟨_, rfl, .inr ⟨2, false, 61, rfl, rfl, Eq.trans rfl (congrArg (fun b => some (Value.bool b)) (congrArg not rfl))⟩, ?_⟩
     refine q9 underlying27 sizeOf37 zeroValue37 (LCat.agg rfl LCat.none) ?_
     intro b206 hb206
     refine ⟨⟨(Le.trans (Le.trans (Le.trans (Le.refl _) hle192) hlec) hle197), HSub.n, CSub.n⟩, ?_⟩
     refine JA.stepG 12 2 61 false _ (by kernel_rfl) rfl rfl rfl rfl (congrArg not rfl) (q4 (q3 isAgg27 (Blk.at 1 rfl)) ?_)
     refine ⟨⟨(Le.trans (Le.trans (Le.trans (Le.refl _) hle192) hlec) hle197), HSub.n, CSub.n⟩, ?_⟩
     refine JA.pull (Pull.s Pull.z) ?_
     refine JA.pull (Pull.s Pull.z) ?_
     refine JA.stepG 13 2 61 false _ (by kernel_rfl) rfl rfl rfl rfl (congrArg not rfl) (op_append (by' := 47) (n := 0) (g := some (b187, 0, [])) (xs := []) [_, _] rfl rfl rfl rfl rfl underlying27 (.inr ⟨_, underlying27⟩) (by kernel_rfl) sizeOf37 zeroValue37 rfl ⟨hb187, rfl, rfl⟩ rfl (Src.row entC_len hE.1 (entsS_one hE)) (by omega) ?_)
     intro g207 hg207
     refine ⟨⟨(Le.trans (Le.trans (Le.trans (Le.refl _) hle192) hlec) hle197), HSub.n, CSub.n⟩, ?_⟩
     refine JA.stepG 16 2 61 false _ (by kernel_rfl) rfl rfl rfl rfl (congrArg not rfl) (op_append (by' := 47) [_, _] rfl rfl rfl rfl rfl underlying27 (.inr ⟨_, underlying27⟩) (by kernel_rfl) sizeOf37 zeroValue37 rfl hg207 rfl (Src.slice (Blk.at 0 rfl) rfl rfl rfl) (by omega) ?_)
     intro g208 hg208
     refine ⟨⟨(Le.trans (Le.trans (Le.trans (Le.refl _) hle192) hlec) hle197), HSub.n, CSub.n⟩, ?_⟩
     refine JA.keep (H' := gH 37 _ g208) (List.sublist_append_right [_, _] _) ?_
     exact hshare (_, es, _, g208) _ _ _ _ _ ⟨(Le.trans (Le.trans (Le.trans (Le.refl _) hle192) hlec) hle197), hrc, ⟨fun e he => hE.2 e he, hek⟩, hL, hel, hl9, hK9, hrec, by have h := hg208; rw [Nat.zero_add, List.nil_append] at h; exact h⟩ (by kernel_rfl) rfl ⟨rfl, rfl, rfl, rfl, rfl, rfl, rfl, rfl, by dsimp only; rw [Nat.zero_add]; rfl, trivial⟩ rfl (by dsimp only; rw [List.nil_append]; rfl)
    refine ⟨_, rfl, .inr ⟨2, false, 61, rfl, rfl, Eq.trans rfl (congrArg (fun b => some (Value.bool b)) (congrArg not rfl))⟩, ?_⟩
    refine q9 underlying27 sizeOf37 zeroValue37 (LCat.agg rfl LCat.none) ?_
    intro b209 hb209
    refine ⟨⟨(Le.trans (Le.trans (Le.refl _) hle192) hlec), HSub.n, CSub.n⟩, ?_⟩
    refine JA.stepG 9 2 61 false _ (by kernel_rfl) rfl rfl rfl rfl (congrArg not rfl) (op_call (H1 := []) rfl rfl rfl rfl rfl (rPlay_ok xs _ hao _ hA) ?_ (fun _ _ _ _ ⟨_, _, _, h, _⟩ => nomatch h) (fun _ _ ⟨_, _, _, h, _⟩ => nomatch h))
    intro v210 I211 H212 hle213 hp214
    have hA := hA.mono hle213
    have hrec := hrec.mono hle213
    have he1 := hle213 _ _ he1
    have hl9 := hl9.mono hle213
    have hK9 := fun p hp => hle213 _ _ (hK9 p hp)
    have hx := hx.mono hle213
    have hrc := hrc.mono hle213
    obtain ⟨rb, es, w, h, hE, hL, hek, hel, rfl⟩ := hp214; cases h
    obtain ⟨pR, cR, rfl⟩ := RowS.len hE.1
    refine ⟨⟨(Le.trans (Le.trans (Le.trans (Le.refl _) hle192) hlec) hle213), HSub.n, CSub.n⟩, ?_⟩
    refine JA.fix ⟨HSub.n, CSub.n, (Le.trans (Le.trans (Le.trans (Le.refl _) hle192) hlec) hle213)⟩ (fun fx215 => ?_)
    refine JA.tkG 10 2 61 false _ rfl fx215 rfl rfl (congrArg not rfl) q5 ?_
    refine JA.tkG 11 2 61 false _ rfl fx215 rfl rfl (congrArg not rfl) (q2 (off' := 0) underlying73 sizeOf27) ?_
    refine JA.stepG 12 2 61 false _ (by kernel_rfl) rfl rfl rfl rfl (congrArg not rfl) (q4 (q3 isAgg27 (Blk.at 0 rfl)) ?_)
    refine ⟨⟨(Le.trans (Le.trans (Le.trans (Le.refl _) hle192) hlec) hle213), HSub.n, CSub.n⟩, ?_⟩
    refine JA.pull (Pull.s Pull.z) ?_
    refine JA.pull (Pull.s Pull.z) ?_
    refine JA.stepG 13 2 61 false _ (by kernel_rfl) rfl rfl rfl rfl (congrArg not rfl) (op_append (by' := 47) (n := 0) (g := some (b187, 0, [])) (xs := []) [_, _] rfl rfl rfl rfl rfl underlying27 (.inr ⟨_, underlying27⟩) (by kernel_rfl) sizeOf37 zeroValue37 rfl ⟨hb187, rfl, rfl⟩ rfl (Src.row entC_len hE.1 (entsS_one hE)) (by omega) ?_)
    intro g216 hg216
    refine ⟨⟨(Le.trans (Le.trans (Le.trans (Le.refl _) hle192) hlec) hle213), HSub.n, CSub.n⟩, ?_⟩
    refine JA.stepG 16 2 61 false _ (by kernel_rfl) rfl rfl rfl rfl (congrArg not rfl) (op_append (by' := 47) [_, _] rfl rfl rfl rfl rfl underlying27 (.inr ⟨_, underlying27⟩) (by kernel_rfl) sizeOf37 zeroValue37 rfl hg216 rfl (Src.slice (Blk.at 1 rfl) rfl rfl rfl) (by omega) ?_)
    intro g217 hg217
    refine ⟨⟨(Le.trans (Le.trans (Le.trans (Le.refl _) hle192) hlec) hle213), HSub.n, CSub.n⟩, ?_⟩
    refine JA.keep (H' := gH 37 _ g217) (List.sublist_append_right [_, _] _) ?_
    exact hshare (_, es, _, g217) _ _ _ _ _ ⟨(Le.trans (Le.trans (Le.trans (Le.refl _) hle192) hlec) hle213), hrc, ⟨fun e he => hE.2 e he, hek⟩, hL, hel, hl9, hK9, hrec, by have h := hg217; rw [Nat.zero_add, List.nil_append] at h; exact h⟩ (by kernel_rfl) rfl ⟨rfl, rfl, rfl, rfl, rfl, rfl, rfl, rfl, by dsimp only; rw [Nat.zero_add]; rfl, trivial⟩ rfl (by dsimp only; rw [List.nil_append]; rfl)
   refine ⟨_, rfl, .inr ⟨2, false, 61, rfl, rfl, Eq.trans rfl (congrArg (fun b => some (Value.bool b)) (congrArg not rfl))⟩, ?_⟩
   refine q9 underlying27 sizeOf37 zeroValue37 (LCat.agg rfl LCat.none) ?_
   intro b218 hb218
   refine ⟨fx0, ?_⟩
   refine JA.stepG 6 2 61 false _ (by kernel_rfl) rfl rfl rfl rfl (congrArg not rfl) (op_callN rfl rfl rfl rfl rfl (Scan_ok ib (Ix.rput ((1099511627776, 1) : Ix.Rec) (Ix.vals fs0) (Ix.play (acts xs))) (nameN n) [] (by decide) 1000 _ hx) ?_ (fun _ _ _ _ ⟨_, h, _⟩ => nomatch h) (fun _ _ ⟨_, h, _⟩ => nomatch h))
   intro v220 I221 H222 hle223 hn219 hp224
   have hA := hA.mono hle223
   have hrec := hrec.mono hle223
   have he1 := hle223 _ _ he1
   have hl9 := hl9.mono hle223
   have hK9 := fun p hp => hle223 _ _ (hK9 p hp)
   have hx := hx.mono hle223
   obtain ⟨wc, h, hoc⟩ := hp224; cases h
   have hnc := hn219
   refine ⟨⟨(Le.trans (Le.refl _) hle223), HSub.n, CSub.n⟩, ?_⟩
   refine JA.keepO hoc hnc (fun Ic hlec hrc => ?_)
   have hA := hA.mono hlec
   have hrec := hrec.mono hlec
   have he1 := hlec _ _ he1
   have hl9 := hl9.mono hlec
   have hK9 := fun p hp => hlec _ _ (hK9 p hp)
   have hx := hx.mono hlec
   replace hrc := hrc.row
   refine JA.stepG 9 2 61 false _ (by kernel_rfl) rfl rfl rfl rfl (congrArg not rfl) (op_call (H1 := []) rfl rfl rfl rfl rfl (rPlay_ok xs _ hao _ hA) ?_ (fun _ _ _ _ ⟨_, _, _, h, _⟩ => nomatch h) (fun _ _ ⟨_, _, _, h, _⟩ => nomatch h))
   intro v225 I226 H227 hle228 hp229
   have hA := hA.mono hle228
   have hrec := hrec.mono hle228
   have he1 := hle228 _ _ he1
   have hl9 := hl9.mono hle228
   have hK9 := fun p hp => hle228 _ _ (hK9 p hp)
   have hx := hx.mono hle228
   have hrc := hrc.mono hle228
   obtain ⟨rb, es, w, h, hE, hL, hek, hel, rfl⟩ := hp229; cases h
   obtain ⟨pR, cR, rfl⟩ := RowS.len hE.1
   refine ⟨⟨(Le.trans (Le.trans (Le.trans (Le.refl _) hle223) hlec) hle228), HSub.n, CSub.n⟩, ?_⟩
   refine JA.fix ⟨HSub.n, CSub.n, (Le.trans (Le.trans (Le.trans (Le.refl _) hle223) hlec) hle228)⟩ (fun fx230 => ?_)
   refine JA.tkG 10 2 61 false _ rfl fx230 rfl rfl (congrArg not rfl) q5 ?_
   refine JA.tkG 11 2 61 false _ rfl fx230 rfl rfl (congrArg not rfl) (q2 (off' := 0) underlying73 sizeOf27) ?_
   refine JA.stepG 12 2 61 false _ (by kernel_rfl) rfl rfl rfl rfl (congrArg not rfl) (q4 (q3 isAgg27 (Blk.at 0 rfl)) ?_)
   refine ⟨⟨(Le.trans (Le.trans (Le.trans (Le.refl _) hle223) hlec) hle228), HSub.n, CSub.n⟩, ?_⟩
   refine JA.pull (Pull.s Pull.z) ?_
   refine JA.pull (Pull.s Pull.z) ?_
   refine JA.stepG 13 2 61 false _ (by kernel_rfl) rfl rfl rfl rfl (congrArg not rfl) (op_append (by' := 47) (n := 0) (g := some (b187, 0, [])) (xs := []) [_, _] rfl rfl rfl rfl rfl underlying27 (.inr ⟨_, underlying27⟩) (by kernel_rfl) sizeOf37 zeroValue37 rfl ⟨hb187, rfl, rfl⟩ rfl (Src.row entC_len hE.1 (entsS_one hE)) (by omega) ?_)
   intro g231 hg231
   refine ⟨⟨(Le.trans (Le.trans (Le.trans (Le.refl _) hle223) hlec) hle228), HSub.n, CSub.n⟩, ?_⟩
   refine JA.stepG 16 2 61 false _ (by kernel_rfl) rfl rfl rfl rfl (congrArg not rfl) (op_append (by' := 47) [_, _] rfl rfl rfl rfl rfl underlying27 (.inr ⟨_, underlying27⟩) (by kernel_rfl) sizeOf37 zeroValue37 rfl hg231 rfl (Src.slice (Blk.at 1 rfl) rfl rfl rfl) (by omega) ?_)
   intro g232 hg232
   refine ⟨⟨(Le.trans (Le.trans (Le.trans (Le.refl _) hle223) hlec) hle228), HSub.n, CSub.n⟩, ?_⟩
   refine JA.keep (H' := gH 37 _ g232) (List.sublist_append_right [_, _] _) ?_
   exact hshare (_, es, _, g232) _ _ _ _ _ ⟨(Le.trans (Le.trans (Le.trans (Le.refl _) hle223) hlec) hle228), hrc, ⟨fun e he => hE.2 e he, hek⟩, hL, hel, hl9, hK9, hrec, by have h := hg232; rw [Nat.zero_add, List.nil_append] at h; exact h⟩ (by kernel_rfl) rfl ⟨rfl, rfl, rfl, rfl, rfl, rfl, rfl, rfl, by dsimp only; rw [Nat.zero_add]; rfl, trivial⟩ rfl (by dsimp only; rw [List.nil_append]; rfl)
  refine ⟨_, rfl, .inr ⟨2, false, 61, rfl, rfl, Eq.trans rfl (congrArg (fun b => some (Value.bool b)) (congrArg not rfl))⟩, ?_⟩
  refine q9 underlying27 sizeOf37 zeroValue37 (LCat.agg rfl LCat.none) ?_
  intro b233 hb233
  refine ⟨fx0, ?_⟩
  refine JA.allG [6, 7] (by kernel_rfl) (by simp) ?_
  intro i hi
  simp only [List.mem_cons, List.not_mem_nil, or_false] at hi
  rcases hi with rfl | rfl
  ·
   refine ⟨_, rfl, .inr ⟨2, false, 61, rfl, rfl, Eq.trans rfl (congrArg (fun b => some (Value.bool b)) (congrArg not rfl))⟩, ?_⟩
   refine op_callN rfl rfl rfl rfl rfl (Scan_ok ib (Ix.rput ((1099511627776, 1) : Ix.Rec) (Ix.vals fs0) (Ix.play (acts xs))) (nameN n) [] (by decide) 1000 _ hx) ?_ (fun _ _ _ _ ⟨_, h, _⟩ => nomatch h) (fun _ _ ⟨_, h, _⟩ => nomatch h)
   intro v235 I236 H237 hle238 hn234 hp239
   have hA := hA.mono hle238
   have hrec := hrec.mono hle238
   have he1 := hle238 _ _ he1
   have hl9 := hl9.mono hle238
   have hK9 := fun p hp => hle238 _ _ (hK9 p hp)
   have hx := hx.mono hle238
   obtain ⟨wc, h, hoc⟩ := hp239; cases h
   have hnc := hn234
   refine ⟨⟨(Le.trans (Le.refl _) hle238), HSub.n, CSub.n⟩, ?_⟩
   refine JA.keepO hoc hnc (fun Ic hlec hrc => ?_)
   have hA := hA.mono hlec
   have hrec := hrec.mono hlec
   have he1 := hlec _ _ he1
   have hl9 := hl9.mono hlec
   have hK9 := fun p hp => hlec _ _ (hK9 p hp)
   have hx := hx.mono hlec
   replace hrc := hrc.row
   refine JA.allG [7, 9] (by kernel_rfl) (by simp) ?_
   intro i hi
   simp only [List.mem_cons, List.not_mem_nil, or_false] at hi
   rcases hi with rfl | rfl
   ·
    refine ⟨_, rfl, .inr ⟨2, false, 61, rfl, rfl, Eq.trans rfl (congrArg (fun b => some (Value.bool b)) (congrArg not rfl))⟩, ?_⟩
    refine op_buildSlice0 rfl rfl rfl underlying27 sizeOf37 ?_
    intro b240 hb240
    refine ⟨⟨(Le.trans (Le.trans (Le.refl _) hle238) hlec), HSub.n, CSub.n⟩, ?_⟩
    refine JA.stepG 9 2 61 false _ (by kernel_rfl) rfl rfl rfl rfl (congrArg not rfl) (op_call (H1 := []) rfl rfl rfl rfl rfl (rPlay_ok xs _ hao _ hA) ?_ (fun _ _ _ _ ⟨_, _, _, h, _⟩ => nomatch h) (fun _ _ ⟨_, _, _, h, _⟩ => nomatch h))
    intro v241 I242 H243 hle244 hp245
    have hA := hA.mono hle244
    have hrec := hrec.mono hle244
    have he1 := hle244 _ _ he1
    have hl9 := hl9.mono hle244
    have hK9 := fun p hp => hle244 _ _ (hK9 p hp)
    have hx := hx.mono hle244
    have hrc := hrc.mono hle244
    obtain ⟨rb, es, w, h, hE, hL, hek, hel, rfl⟩ := hp245; cases h
    obtain ⟨pR, cR, rfl⟩ := RowS.len hE.1
    refine ⟨⟨(Le.trans (Le.trans (Le.trans (Le.refl _) hle238) hlec) hle244), HSub.n, CSub.n⟩, ?_⟩
    refine JA.fix ⟨HSub.n, CSub.n, (Le.trans (Le.trans (Le.trans (Le.refl _) hle238) hlec) hle244)⟩ (fun fx246 => ?_)
    refine JA.tkG 10 2 61 false _ rfl fx246 rfl rfl (congrArg not rfl) q5 ?_
    refine JA.tkG 11 2 61 false _ rfl fx246 rfl rfl (congrArg not rfl) (q2 (off' := 0) underlying73 sizeOf27) ?_
    refine JA.stepG 12 2 61 false _ (by kernel_rfl) rfl rfl rfl rfl (congrArg not rfl) (q4 (q3 isAgg27 (Blk.at 0 rfl)) ?_)
    refine ⟨⟨(Le.trans (Le.trans (Le.trans (Le.refl _) hle238) hlec) hle244), HSub.n, CSub.n⟩, ?_⟩
    refine JA.pull (Pull.s (Pull.s Pull.z)) ?_
    refine JA.pull (Pull.s Pull.z) ?_
    refine JA.stepG 13 2 61 false _ (by kernel_rfl) rfl rfl rfl rfl (congrArg not rfl) (op_append (by' := 47) (n := 0) (g := some (b240, 0, [])) (xs := []) [_, _] rfl rfl rfl rfl rfl underlying27 (.inr ⟨_, underlying27⟩) (by kernel_rfl) sizeOf37 zeroValue37 rfl ⟨hb240, rfl, rfl⟩ rfl (Src.row entC_len hE.1 (entsS_one hE)) (by omega) ?_)
    intro g247 hg247
    refine ⟨⟨(Le.trans (Le.trans (Le.trans (Le.refl _) hle238) hlec) hle244), HSub.n, CSub.n⟩, ?_⟩
    refine JA.stepG 16 2 61 false _ (by kernel_rfl) rfl rfl rfl rfl (congrArg not rfl) (op_append (by' := 47) [_, _] rfl rfl rfl rfl rfl underlying27 (.inr ⟨_, underlying27⟩) (by kernel_rfl) sizeOf37 zeroValue37 rfl hg247 rfl (Src.slice (Blk.at 1 rfl) rfl rfl rfl) (by omega) ?_)
    intro g248 hg248
    refine ⟨⟨(Le.trans (Le.trans (Le.trans (Le.refl _) hle238) hlec) hle244), HSub.n, CSub.n⟩, ?_⟩
    refine JA.keep (H' := gH 37 _ g248) (List.sublist_append_right [_, _] _) ?_
    exact hshare (_, es, _, g248) _ _ _ _ _ ⟨(Le.trans (Le.trans (Le.trans (Le.refl _) hle238) hlec) hle244), hrc, ⟨fun e he => hE.2 e he, hek⟩, hL, hel, hl9, hK9, hrec, by have h := hg248; rw [Nat.zero_add, List.nil_append] at h; exact h⟩ (by kernel_rfl) rfl ⟨rfl, rfl, rfl, rfl, rfl, rfl, rfl, rfl, by dsimp only; rw [Nat.zero_add]; rfl, trivial⟩ rfl (by dsimp only; rw [List.nil_append]; rfl)
   refine ⟨_, rfl, .inr ⟨2, false, 61, rfl, rfl, Eq.trans rfl (congrArg (fun b => some (Value.bool b)) (congrArg not rfl))⟩, ?_⟩
   refine op_call (H1 := []) rfl rfl rfl rfl rfl (rPlay_ok xs _ hao _ hA) ?_ (fun _ _ _ _ ⟨_, _, _, h, _⟩ => nomatch h) (fun _ _ ⟨_, _, _, h, _⟩ => nomatch h)
   intro v249 I250 H251 hle252 hp253
   have hA := hA.mono hle252
   have hrec := hrec.mono hle252
   have he1 := hle252 _ _ he1
   have hl9 := hl9.mono hle252
   have hK9 := fun p hp => hle252 _ _ (hK9 p hp)
   have hx := hx.mono hle252
   have hrc := hrc.mono hle252
   obtain ⟨rb, es, w, h, hE, hL, hek, hel, rfl⟩ := hp253; cases h
   obtain ⟨pR, cR, rfl⟩ := RowS.len hE.1
   refine ⟨⟨(Le.trans (Le.trans (Le.trans (Le.refl _) hle238) hlec) hle252), HSub.n, CSub.n⟩, ?_⟩
   refine JA.fix ⟨HSub.n, CSub.n, (Le.trans (Le.trans (Le.trans (Le.refl _) hle238) hlec) hle252)⟩ (fun fx254 => ?_)
   refine JA.tkG 10 2 61 false _ rfl fx254 rfl rfl (congrArg not rfl) q5 ?_
   refine JA.tkG 11 2 61 false _ rfl fx254 rfl rfl (congrArg not rfl) (q2 (off' := 0) underlying73 sizeOf27) ?_
   refine JA.allG [7, 12] (by kernel_rfl) (by simp) ?_
   intro i hi
   simp only [List.mem_cons, List.not_mem_nil, or_false] at hi
   rcases hi with rfl | rfl
   ·
    refine ⟨_, rfl, .inr ⟨2, false, 61, rfl, rfl, Eq.trans rfl (congrArg (fun b => some (Value.bool b)) (congrArg not rfl))⟩, ?_⟩
    refine op_buildSlice0 rfl rfl rfl underlying27 sizeOf37 ?_
    intro b255 hb255
    refine ⟨⟨(Le.trans (Le.trans (Le.trans (Le.refl _) hle238) hlec) hle252), HSub.n, CSub.n⟩, ?_⟩
    refine JA.stepG 12 2 61 false _ (by kernel_rfl) rfl rfl rfl rfl (congrArg not rfl) (q4 (q3 isAgg27 (Blk.at 1 rfl)) ?_)
    refine ⟨⟨(Le.trans (Le.trans (Le.trans (Le.refl _) hle238) hlec) hle252), HSub.n, CSub.n⟩, ?_⟩
    refine JA.pull (Pull.s (Pull.s Pull.z)) ?_
    refine JA.pull (Pull.s (Pull.s Pull.z)) ?_
    refine JA.stepG 13 2 61 false _ (by kernel_rfl) rfl rfl rfl rfl (congrArg not rfl) (op_append (by' := 47) (n := 0) (g := some (b255, 0, [])) (xs := []) [_, _] rfl rfl rfl rfl rfl underlying27 (.inr ⟨_, underlying27⟩) (by kernel_rfl) sizeOf37 zeroValue37 rfl ⟨hb255, rfl, rfl⟩ rfl (Src.row entC_len hE.1 (entsS_one hE)) (by omega) ?_)
    intro g256 hg256
    refine ⟨⟨(Le.trans (Le.trans (Le.trans (Le.refl _) hle238) hlec) hle252), HSub.n, CSub.n⟩, ?_⟩
    refine JA.stepG 16 2 61 false _ (by kernel_rfl) rfl rfl rfl rfl (congrArg not rfl) (op_append (by' := 47) [_, _] rfl rfl rfl rfl rfl underlying27 (.inr ⟨_, underlying27⟩) (by kernel_rfl) sizeOf37 zeroValue37 rfl hg256 rfl (Src.slice (Blk.at 1 rfl) rfl rfl rfl) (by omega) ?_)
    intro g257 hg257
    refine ⟨⟨(Le.trans (Le.trans (Le.trans (Le.refl _) hle238) hlec) hle252), HSub.n, CSub.n⟩, ?_⟩
    refine JA.keep (H' := gH 37 _ g257) (List.sublist_append_right [_, _] _) ?_
    exact hshare (_, es, _, g257) _ _ _ _ _ ⟨(Le.trans (Le.trans (Le.trans (Le.refl _) hle238) hlec) hle252), hrc, ⟨fun e he => hE.2 e he, hek⟩, hL, hel, hl9, hK9, hrec, by have h := hg257; rw [Nat.zero_add, List.nil_append] at h; exact h⟩ (by kernel_rfl) rfl ⟨rfl, rfl, rfl, rfl, rfl, rfl, rfl, rfl, by dsimp only; rw [Nat.zero_add]; rfl, trivial⟩ rfl (by dsimp only; rw [List.nil_append]; rfl)
   refine ⟨_, rfl, .inr ⟨2, false, 61, rfl, rfl, Eq.trans rfl (congrArg (fun b => some (Value.bool b)) (congrArg not rfl))⟩, ?_⟩
   refine q4 (q3 isAgg27 (Blk.at 0 rfl)) ?_
   refine ⟨⟨(Le.trans (Le.trans (Le.trans (Le.refl _) hle238) hlec) hle252), HSub.n, CSub.n⟩, ?_⟩
   refine JA.stepG 7 2 61 false _ (by kernel_rfl) rfl rfl rfl rfl (congrArg not rfl) (op_buildSlice0 rfl rfl rfl underlying27 sizeOf37 ?_)
   intro b258 hb258
   refine ⟨⟨(Le.trans (Le.trans (Le.trans (Le.refl _) hle238) hlec) hle252), HSub.n, CSub.n⟩, ?_⟩
   refine JA.pull (Pull.s (Pull.s Pull.z)) ?_
   refine JA.pull (Pull.s (Pull.s Pull.z)) ?_
   refine JA.stepG 13 2 61 false _ (by kernel_rfl) rfl rfl rfl rfl (congrArg not rfl) (op_append (by' := 47) (n := 0) (g := some (b258, 0, [])) (xs := []) [_, _] rfl rfl rfl rfl rfl underlying27 (.inr ⟨_, underlying27⟩) (by kernel_rfl) sizeOf37 zeroValue37 rfl ⟨hb258, rfl, rfl⟩ rfl (Src.row entC_len hE.1 (entsS_one hE)) (by omega) ?_)
   intro g259 hg259
   refine ⟨⟨(Le.trans (Le.trans (Le.trans (Le.refl _) hle238) hlec) hle252), HSub.n, CSub.n⟩, ?_⟩
   refine JA.stepG 16 2 61 false _ (by kernel_rfl) rfl rfl rfl rfl (congrArg not rfl) (op_append (by' := 47) [_, _] rfl rfl rfl rfl rfl underlying27 (.inr ⟨_, underlying27⟩) (by kernel_rfl) sizeOf37 zeroValue37 rfl hg259 rfl (Src.slice (Blk.at 1 rfl) rfl rfl rfl) (by omega) ?_)
   intro g260 hg260
   refine ⟨⟨(Le.trans (Le.trans (Le.trans (Le.refl _) hle238) hlec) hle252), HSub.n, CSub.n⟩, ?_⟩
   refine JA.keep (H' := gH 37 _ g260) (List.sublist_append_right [_, _] _) ?_
   exact hshare (_, es, _, g260) _ _ _ _ _ ⟨(Le.trans (Le.trans (Le.trans (Le.refl _) hle238) hlec) hle252), hrc, ⟨fun e he => hE.2 e he, hek⟩, hL, hel, hl9, hK9, hrec, by have h := hg260; rw [Nat.zero_add, List.nil_append] at h; exact h⟩ (by kernel_rfl) rfl ⟨rfl, rfl, rfl, rfl, rfl, rfl, rfl, rfl, by dsimp only; rw [Nat.zero_add]; rfl, trivial⟩ rfl (by dsimp only; rw [List.nil_append]; rfl)
  refine ⟨_, rfl, .inr ⟨2, false, 61, rfl, rfl, Eq.trans rfl (congrArg (fun b => some (Value.bool b)) (congrArg not rfl))⟩, ?_⟩
  refine op_buildSlice0 rfl rfl rfl underlying27 sizeOf37 ?_
  intro b261 hb261
  refine ⟨fx0, ?_⟩
  refine JA.stepG 6 2 61 false _ (by kernel_rfl) rfl rfl rfl rfl (congrArg not rfl) (op_callN rfl rfl rfl rfl rfl (Scan_ok ib (Ix.rput ((1099511627776, 1) : Ix.Rec) (Ix.vals fs0) (Ix.play (acts xs))) (nameN n) [] (by decide) 1000 _ hx) ?_ (fun _ _ _ _ ⟨_, h, _⟩ => nomatch h) (fun _ _ ⟨_, h, _⟩ => nomatch h))
  intro v263 I264 H265 hle266 hn262 hp267
  have hA := hA.mono hle266
  have hrec := hrec.mono hle266
  have he1 := hle266 _ _ he1
  have hl9 := hl9.mono hle266
  have hK9 := fun p hp => hle266 _ _ (hK9 p hp)
  have hx := hx.mono hle266
  obtain ⟨wc, h, hoc⟩ := hp267; cases h
  have hnc := hn262
  refine ⟨⟨(Le.trans (Le.refl _) hle266), HSub.n, CSub.n⟩, ?_⟩
  refine JA.keepO hoc hnc (fun Ic hlec hrc => ?_)
  have hA := hA.mono hlec
  have hrec := hrec.mono hlec
  have he1 := hlec _ _ he1
  have hl9 := hl9.mono hlec
  have hK9 := fun p hp => hlec _ _ (hK9 p hp)
  have hx := hx.mono hlec
  replace hrc := hrc.row
  refine JA.stepG 9 2 61 false _ (by kernel_rfl) rfl rfl rfl rfl (congrArg not rfl) (op_call (H1 := []) rfl rfl rfl rfl rfl (rPlay_ok xs _ hao _ hA) ?_ (fun _ _ _ _ ⟨_, _, _, h, _⟩ => nomatch h) (fun _ _ ⟨_, _, _, h, _⟩ => nomatch h))
  intro v268 I269 H270 hle271 hp272
  have hA := hA.mono hle271
  have hrec := hrec.mono hle271
  have he1 := hle271 _ _ he1
  have hl9 := hl9.mono hle271
  have hK9 := fun p hp => hle271 _ _ (hK9 p hp)
  have hx := hx.mono hle271
  have hrc := hrc.mono hle271
  obtain ⟨rb, es, w, h, hE, hL, hek, hel, rfl⟩ := hp272; cases h
  obtain ⟨pR, cR, rfl⟩ := RowS.len hE.1
  refine ⟨⟨(Le.trans (Le.trans (Le.trans (Le.refl _) hle266) hlec) hle271), HSub.n, CSub.n⟩, ?_⟩
  refine JA.fix ⟨HSub.n, CSub.n, (Le.trans (Le.trans (Le.trans (Le.refl _) hle266) hlec) hle271)⟩ (fun fx273 => ?_)
  refine JA.tkG 10 2 61 false _ rfl fx273 rfl rfl (congrArg not rfl) q5 ?_
  refine JA.tkG 11 2 61 false _ rfl fx273 rfl rfl (congrArg not rfl) (q2 (off' := 0) underlying73 sizeOf27) ?_
  refine JA.stepG 12 2 61 false _ (by kernel_rfl) rfl rfl rfl rfl (congrArg not rfl) (q4 (q3 isAgg27 (Blk.at 0 rfl)) ?_)
  refine ⟨⟨(Le.trans (Le.trans (Le.trans (Le.refl _) hle266) hlec) hle271), HSub.n, CSub.n⟩, ?_⟩
  refine JA.pull (Pull.s (Pull.s Pull.z)) ?_
  refine JA.pull (Pull.s Pull.z) ?_
  refine JA.stepG 13 2 61 false _ (by kernel_rfl) rfl rfl rfl rfl (congrArg not rfl) (op_append (by' := 47) (n := 0) (g := some (b261, 0, [])) (xs := []) [_, _] rfl rfl rfl rfl rfl underlying27 (.inr ⟨_, underlying27⟩) (by kernel_rfl) sizeOf37 zeroValue37 rfl ⟨hb261, rfl, rfl⟩ rfl (Src.row entC_len hE.1 (entsS_one hE)) (by omega) ?_)
  intro g274 hg274
  refine ⟨⟨(Le.trans (Le.trans (Le.trans (Le.refl _) hle266) hlec) hle271), HSub.n, CSub.n⟩, ?_⟩
  refine JA.stepG 16 2 61 false _ (by kernel_rfl) rfl rfl rfl rfl (congrArg not rfl) (op_append (by' := 47) [_, _] rfl rfl rfl rfl rfl underlying27 (.inr ⟨_, underlying27⟩) (by kernel_rfl) sizeOf37 zeroValue37 rfl hg274 rfl (Src.slice (Blk.at 1 rfl) rfl rfl rfl) (by omega) ?_)
  intro g275 hg275
  refine ⟨⟨(Le.trans (Le.trans (Le.trans (Le.refl _) hle266) hlec) hle271), HSub.n, CSub.n⟩, ?_⟩
  refine JA.keep (H' := gH 37 _ g275) (List.sublist_append_right [_, _] _) ?_
  exact hshare (_, es, _, g275) _ _ _ _ _ ⟨(Le.trans (Le.trans (Le.trans (Le.refl _) hle266) hlec) hle271), hrc, ⟨fun e he => hE.2 e he, hek⟩, hL, hel, hl9, hK9, hrec, by have h := hg275; rw [Nat.zero_add, List.nil_append] at h; exact h⟩ (by kernel_rfl) rfl ⟨rfl, rfl, rfl, rfl, rfl, rfl, rfl, rfl, by dsimp only; rw [Nat.zero_add]; rfl, trivial⟩ rfl (by dsimp only; rw [List.nil_append]; rfl)
 ·
  refine ⟨_, rfl, .inr ⟨2, false, 61, rfl, rfl, Eq.trans rfl (congrArg (fun b => some (Value.bool b)) (congrArg not rfl))⟩, ?_⟩
  refine op_buildSlice0 rfl rfl rfl underlying27 sizeOf37 ?_
  intro b276 hb276
  refine ⟨fx0, ?_⟩
  refine JA.allG [5, 15] (by kernel_rfl) (by simp) ?_
  intro i hi
  simp only [List.mem_cons, List.not_mem_nil, or_false] at hi
  rcases hi with rfl | rfl
  ·
   refine ⟨_, rfl, .inr ⟨2, false, 61, rfl, rfl, Eq.trans rfl (congrArg (fun b => some (Value.bool b)) (congrArg not rfl))⟩, ?_⟩
   refine op_pure rfl rfl rfl rfl rfl (name_ok n _) ?_
   refine ⟨fx0, ?_⟩
   refine JA.allG [6, 15] (by kernel_rfl) (by simp) ?_
   intro i hi
   simp only [List.mem_cons, List.not_mem_nil, or_false] at hi
   rcases hi with rfl | rfl
   ·
    refine ⟨_, rfl, .inr ⟨2, false, 61, rfl, rfl, Eq.trans rfl (congrArg (fun b => some (Value.bool b)) (congrArg not rfl))⟩, ?_⟩
    refine op_callN rfl rfl rfl rfl rfl (Scan_ok ib (Ix.rput ((1099511627776, 1) : Ix.Rec) (Ix.vals fs0) (Ix.play (acts xs))) (nameN n) [] (by decide) 1000 _ hx) ?_ (fun _ _ _ _ ⟨_, h, _⟩ => nomatch h) (fun _ _ ⟨_, h, _⟩ => nomatch h)
    intro v278 I279 H280 hle281 hn277 hp282
    have hA := hA.mono hle281
    have hrec := hrec.mono hle281
    have he1 := hle281 _ _ he1
    have hl9 := hl9.mono hle281
    have hK9 := fun p hp => hle281 _ _ (hK9 p hp)
    have hx := hx.mono hle281
    obtain ⟨wc, h, hoc⟩ := hp282; cases h
    have hnc := hn277
    refine ⟨⟨(Le.trans (Le.refl _) hle281), HSub.n, CSub.n⟩, ?_⟩
    refine JA.keepO hoc hnc (fun Ic hlec hrc => ?_)
    have hA := hA.mono hlec
    have hrec := hrec.mono hlec
    have he1 := hlec _ _ he1
    have hl9 := hl9.mono hlec
    have hK9 := fun p hp => hlec _ _ (hK9 p hp)
    have hx := hx.mono hlec
    replace hrc := hrc.row
    refine JA.allG [9, 15] (by kernel_rfl) (by simp) ?_
    intro i hi
    simp only [List.mem_cons, List.not_mem_nil, or_false] at hi
    rcases hi with rfl | rfl
    ·
     refine ⟨_, rfl, .inr ⟨2, false, 61, rfl, rfl, Eq.trans rfl (congrArg (fun b => some (Value.bool b)) (congrArg not rfl))⟩, ?_⟩
     refine op_call (H1 := []) rfl rfl rfl rfl rfl (rPlay_ok xs _ hao _ hA) ?_ (fun _ _ _ _ ⟨_, _, _, h, _⟩ => nomatch h) (fun _ _ ⟨_, _, _, h, _⟩ => nomatch h)
     intro v283 I284 H285 hle286 hp287
     have hA := hA.mono hle286
     have hrec := hrec.mono hle286
     have he1 := hle286 _ _ he1
     have hl9 := hl9.mono hle286
     have hK9 := fun p hp => hle286 _ _ (hK9 p hp)
     have hx := hx.mono hle286
     have hrc := hrc.mono hle286
     obtain ⟨rb, es, w, h, hE, hL, hek, hel, rfl⟩ := hp287; cases h
     obtain ⟨pR, cR, rfl⟩ := RowS.len hE.1
     refine ⟨⟨(Le.trans (Le.trans (Le.trans (Le.refl _) hle281) hlec) hle286), HSub.n, CSub.n⟩, ?_⟩
     refine JA.fix ⟨HSub.n, CSub.n, (Le.trans (Le.trans (Le.trans (Le.refl _) hle281) hlec) hle286)⟩ (fun fx288 => ?_)
     refine JA.tkG 10 2 61 false _ rfl fx288 rfl rfl (congrArg not rfl) q5 ?_
     refine JA.tkG 11 2 61 false _ rfl fx288 rfl rfl (congrArg not rfl) (q2 (off' := 0) underlying73 sizeOf27) ?_
     refine JA.allG [12, 15] (by kernel_rfl) (by simp) ?_
     intro i hi
     simp only [List.mem_cons, List.not_mem_nil, or_false] at hi
     rcases hi with rfl | rfl
     ·
      refine ⟨_, rfl, .inr ⟨2, false, 61, rfl, rfl, Eq.trans rfl (congrArg (fun b => some (Value.bool b)) (congrArg not rfl))⟩, ?_⟩
      refine q4 (q3 isAgg27 (Blk.at 0 rfl)) ?_
      refine ⟨⟨(Le.trans (Le.trans (Le.trans (Le.refl _) hle281) hlec) hle286), HSub.n, CSub.n⟩, ?_⟩
      refine JA.allG [13, 15] (by kernel_rfl) (by simp) ?_
      intro i hi
      simp only [List.mem_cons, List.not_mem_nil, or_false] at hi
      rcases hi with rfl | rfl
      ·
       refine ⟨_, rfl, .inr ⟨2, false, 61, rfl, rfl, Eq.trans rfl (congrArg (fun b => some (Value.bool b)) (congrArg not rfl))⟩, ?_⟩
       refine OpJ.pull Pull.z ?_
       refine op_append (by' := 47) (n := 0) (g := some (b276, 0, [])) (xs := []) [_] rfl rfl rfl rfl rfl underlying27 (.inr ⟨_, underlying27⟩) (by kernel_rfl) sizeOf37 zeroValue37 rfl ⟨hb276, rfl, rfl⟩ rfl (Src.row entC_len hE.1 (entsS_one hE)) (by omega) ?_
       intro g289 hg289
       refine ⟨⟨(Le.trans (Le.trans (Le.trans (Le.refl _) hle281) hlec) hle286), HSub.n, CSub.n⟩, ?_⟩
       refine JA.stepG 15 2 61 false _ (by kernel_rfl) rfl rfl rfl rfl (congrArg not rfl) (q9 underlying27 sizeOf37 zeroValue37 (LCat.agg rfl LCat.none) ?_)
       intro b290 hb290
       refine ⟨⟨(Le.trans (Le.trans (Le.trans (Le.refl _) hle281) hlec) hle286), HSub.n, CSub.n⟩, ?_⟩
       refine JA.stepG 16 2 61 false _ (by kernel_rfl) rfl rfl rfl rfl (congrArg not rfl) (op_append (by' := 47) [_, _] rfl rfl rfl rfl rfl underlying27 (.inr ⟨_, underlying27⟩) (by kernel_rfl) sizeOf37 zeroValue37 rfl hg289 rfl (Src.slice (Blk.at 0 rfl) rfl rfl rfl) (by omega) ?_)
       intro g291 hg291
       refine ⟨⟨(Le.trans (Le.trans (Le.trans (Le.refl _) hle281) hlec) hle286), HSub.n, CSub.n⟩, ?_⟩
       refine JA.keep (H' := gH 37 _ g291) (List.sublist_append_right [_, _] _) ?_
       exact hshare (_, es, _, g291) _ _ _ _ _ ⟨(Le.trans (Le.trans (Le.trans (Le.refl _) hle281) hlec) hle286), hrc, ⟨fun e he => hE.2 e he, hek⟩, hL, hel, hl9, hK9, hrec, by have h := hg291; rw [Nat.zero_add, List.nil_append] at h; exact h⟩ (by kernel_rfl) rfl ⟨rfl, rfl, rfl, rfl, rfl, rfl, rfl, rfl, by dsimp only; rw [Nat.zero_add]; rfl, trivial⟩ rfl (by dsimp only; rw [List.nil_append]; rfl)
      refine ⟨_, rfl, .inr ⟨2, false, 61, rfl, rfl, Eq.trans rfl (congrArg (fun b => some (Value.bool b)) (congrArg not rfl))⟩, ?_⟩
      refine q9 underlying27 sizeOf37 zeroValue37 (LCat.agg rfl LCat.none) ?_
      intro b292 hb292
      refine ⟨⟨(Le.trans (Le.trans (Le.trans (Le.refl _) hle281) hlec) hle286), HSub.n, CSub.n⟩, ?_⟩
      refine JA.pull (Pull.s Pull.z) ?_
      refine JA.pull (Pull.s Pull.z) ?_
      refine JA.stepG 13 2 61 false _ (by kernel_rfl) rfl rfl rfl rfl (congrArg not rfl) (op_append (by' := 47) (n := 0) (g := some (b276, 0, [])) (xs := []) [_, _] rfl rfl rfl rfl rfl underlying27 (.inr ⟨_, underlying27⟩) (by kernel_rfl) sizeOf37 zeroValue37 rfl ⟨hb276, rfl, rfl⟩ rfl (Src.row entC_len hE.1 (entsS_one hE)) (by omega) ?_)
      intro g293 hg293
      refine ⟨⟨(Le.trans (Le.trans (Le.trans (Le.refl _) hle281) hlec) hle286), HSub.n, CSub.n⟩, ?_⟩
      refine JA.stepG 16 2 61 false _ (by kernel_rfl) rfl rfl rfl rfl (congrArg not rfl) (op_append (by' := 47) [_, _] rfl rfl rfl rfl rfl underlying27 (.inr ⟨_, underlying27⟩) (by kernel_rfl) sizeOf37 zeroValue37 rfl hg293 rfl (Src.slice (Blk.at 0 rfl) rfl rfl rfl) (by omega) ?_)
      intro g294 hg294
      refine ⟨⟨(Le.trans (Le.trans (Le.trans (Le.refl _) hle281) hlec) hle286), HSub.n, CSub.n⟩, ?_⟩
      refine JA.keep (H' := gH 37 _ g294) (List.sublist_append_right [_, _] _) ?_
      exact hshare (_, es, _, g294) _ _ _ _ _ ⟨(Le.trans (Le.trans (Le.trans (Le.refl _) hle281) hlec) hle286), hrc, ⟨fun e he => hE.2 e he, hek⟩, hL, hel, hl9, hK9, hrec, by have h := hg294; rw [Nat.zero_add, List.nil_append] at h; exact h⟩ (by kernel_rfl) rfl ⟨rfl, rfl, rfl, rfl, rfl, rfl, rfl, rfl, by dsimp only; rw [Nat.zero_add]; rfl, trivial⟩ rfl (by dsimp only; rw [List.nil_append]; rfl)
     refine ⟨_, rfl, .inr ⟨2, false, 61, rfl, rfl, Eq.trans rfl (congrArg (fun b => some (Value.bool b)) (congrArg not rfl))⟩, ?_⟩
     refine q9 underlying27 sizeOf37 zeroValue37 (LCat.agg rfl LCat.none) ?_
     intro b295 hb295
     refine ⟨⟨(Le.trans (Le.trans (Le.trans (Le.refl _) hle281) hlec) hle286), HSub.n, CSub.n⟩, ?_⟩
     refine JA.stepG 12 2 61 false _ (by kernel_rfl) rfl rfl rfl rfl (congrArg not rfl) (q4 (q3 isAgg27 (Blk.at 1 rfl)) ?_)
     refine ⟨⟨(Le.trans (Le.trans (Le.trans (Le.refl _) hle281) hlec) hle286), HSub.n, CSub.n⟩, ?_⟩
     refine JA.pull (Pull.s Pull.z) ?_
     refine JA.pull (Pull.s Pull.z) ?_
     refine JA.stepG 13 2 61 false _ (by kernel_rfl) rfl rfl rfl rfl (congrArg not rfl) (op_append (by' := 47) (n := 0) (g := some (b276, 0, [])) (xs := []) [_, _] rfl rfl rfl rfl rfl underlying27 (.inr ⟨_, underlying27⟩) (by kernel_rfl) sizeOf37 zeroValue37 rfl ⟨hb276, rfl, rfl⟩ rfl (Src.row entC_len hE.1 (entsS_one hE)) (by omega) ?_)
     intro g296 hg296
     refine ⟨⟨(Le.trans (Le.trans (Le.trans (Le.refl _) hle281) hlec) hle286), HSub.n, CSub.n⟩, ?_⟩
     refine JA.stepG 16 2 61 false _ (by kernel_rfl) rfl rfl rfl rfl (congrArg not rfl) (op_append (by' := 47) [_, _] rfl rfl rfl rfl rfl underlying27 (.inr ⟨_, underlying27⟩) (by kernel_rfl) sizeOf37 zeroValue37 rfl hg296 rfl (Src.slice (Blk.at 0 rfl) rfl rfl rfl) (by omega) ?_)
     intro g297 hg297
     refine ⟨⟨(Le.trans (Le.trans (Le.trans (Le.refl _) hle281) hlec) hle286), HSub.n, CSub.n⟩, ?_⟩
     refine JA.keep (H' := gH 37 _ g297) (List.sublist_append_right [_, _] _) ?_
     exact hshare (_, es, _, g297) _ _ _ _ _ ⟨(Le.trans (Le.trans (Le.trans (Le.refl _) hle281) hlec) hle286), hrc, ⟨fun e he => hE.2 e he, hek⟩, hL, hel, hl9, hK9, hrec, by have h := hg297; rw [Nat.zero_add, List.nil_append] at h; exact h⟩ (by kernel_rfl) rfl ⟨rfl, rfl, rfl, rfl, rfl, rfl, rfl, rfl, by dsimp only; rw [Nat.zero_add]; rfl, trivial⟩ rfl (by dsimp only; rw [List.nil_append]; rfl)
    refine ⟨_, rfl, .inr ⟨2, false, 61, rfl, rfl, Eq.trans rfl (congrArg (fun b => some (Value.bool b)) (congrArg not rfl))⟩, ?_⟩
    refine q9 underlying27 sizeOf37 zeroValue37 (LCat.agg rfl LCat.none) ?_
    intro b298 hb298
    refine ⟨⟨(Le.trans (Le.trans (Le.refl _) hle281) hlec), HSub.n, CSub.n⟩, ?_⟩
    refine JA.stepG 9 2 61 false _ (by kernel_rfl) rfl rfl rfl rfl (congrArg not rfl) (op_call (H1 := []) rfl rfl rfl rfl rfl (rPlay_ok xs _ hao _ hA) ?_ (fun _ _ _ _ ⟨_, _, _, h, _⟩ => nomatch h) (fun _ _ ⟨_, _, _, h, _⟩ => nomatch h))
    intro v299 I300 H301 hle302 hp303
    have hA := hA.mono hle302
    have hrec := hrec.mono hle302
    have he1 := hle302 _ _ he1
    have hl9 := hl9.mono hle302
    have hK9 := fun p hp => hle302 _ _ (hK9 p hp)
    have hx := hx.mono hle302
    have hrc := hrc.mono hle302
    obtain ⟨rb, es, w, h, hE, hL, hek, hel, rfl⟩ := hp303; cases h
    obtain ⟨pR, cR, rfl⟩ := RowS.len hE.1
    refine ⟨⟨(Le.trans (Le.trans (Le.trans (Le.refl _) hle281) hlec) hle302), HSub.n, CSub.n⟩, ?_⟩
    refine JA.fix ⟨HSub.n, CSub.n, (Le.trans (Le.trans (Le.trans (Le.refl _) hle281) hlec) hle302)⟩ (fun fx304 => ?_)
    refine JA.tkG 10 2 61 false _ rfl fx304 rfl rfl (congrArg not rfl) q5 ?_
    refine JA.tkG 11 2 61 false _ rfl fx304 rfl rfl (congrArg not rfl) (q2 (off' := 0) underlying73 sizeOf27) ?_
    refine JA.stepG 12 2 61 false _ (by kernel_rfl) rfl rfl rfl rfl (congrArg not rfl) (q4 (q3 isAgg27 (Blk.at 0 rfl)) ?_)
    refine ⟨⟨(Le.trans (Le.trans (Le.trans (Le.refl _) hle281) hlec) hle302), HSub.n, CSub.n⟩, ?_⟩
    refine JA.pull (Pull.s Pull.z) ?_
    refine JA.pull (Pull.s Pull.z) ?_
    refine JA.stepG 13 2 61 false _ (by kernel_rfl) rfl rfl rfl rfl (congrArg not rfl) (op_append (by' := 47) (n := 0) (g := some (b276, 0, [])) (xs := []) [_, _] rfl rfl rfl rfl rfl underlying27 (.inr ⟨_, underlying27⟩) (by kernel_rfl) sizeOf37 zeroValue37 rfl ⟨hb276, rfl, rfl⟩ rfl (Src.row entC_len hE.1 (entsS_one hE)) (by omega) ?_)
    intro g305 hg305
    refine ⟨⟨(Le.trans (Le.trans (Le.trans (Le.refl _) hle281) hlec) hle302), HSub.n, CSub.n⟩, ?_⟩
    refine JA.stepG 16 2 61 false _ (by kernel_rfl) rfl rfl rfl rfl (congrArg not rfl) (op_append (by' := 47) [_, _] rfl rfl rfl rfl rfl underlying27 (.inr ⟨_, underlying27⟩) (by kernel_rfl) sizeOf37 zeroValue37 rfl hg305 rfl (Src.slice (Blk.at 1 rfl) rfl rfl rfl) (by omega) ?_)
    intro g306 hg306
    refine ⟨⟨(Le.trans (Le.trans (Le.trans (Le.refl _) hle281) hlec) hle302), HSub.n, CSub.n⟩, ?_⟩
    refine JA.keep (H' := gH 37 _ g306) (List.sublist_append_right [_, _] _) ?_
    exact hshare (_, es, _, g306) _ _ _ _ _ ⟨(Le.trans (Le.trans (Le.trans (Le.refl _) hle281) hlec) hle302), hrc, ⟨fun e he => hE.2 e he, hek⟩, hL, hel, hl9, hK9, hrec, by have h := hg306; rw [Nat.zero_add, List.nil_append] at h; exact h⟩ (by kernel_rfl) rfl ⟨rfl, rfl, rfl, rfl, rfl, rfl, rfl, rfl, by dsimp only; rw [Nat.zero_add]; rfl, trivial⟩ rfl (by dsimp only; rw [List.nil_append]; rfl)
   refine ⟨_, rfl, .inr ⟨2, false, 61, rfl, rfl, Eq.trans rfl (congrArg (fun b => some (Value.bool b)) (congrArg not rfl))⟩, ?_⟩
   refine q9 underlying27 sizeOf37 zeroValue37 (LCat.agg rfl LCat.none) ?_
   intro b307 hb307
   refine ⟨fx0, ?_⟩
   refine JA.stepG 6 2 61 false _ (by kernel_rfl) rfl rfl rfl rfl (congrArg not rfl) (op_callN rfl rfl rfl rfl rfl (Scan_ok ib (Ix.rput ((1099511627776, 1) : Ix.Rec) (Ix.vals fs0) (Ix.play (acts xs))) (nameN n) [] (by decide) 1000 _ hx) ?_ (fun _ _ _ _ ⟨_, h, _⟩ => nomatch h) (fun _ _ ⟨_, h, _⟩ => nomatch h))
   intro v309 I310 H311 hle312 hn308 hp313
   have hA := hA.mono hle312
   have hrec := hrec.mono hle312
   have he1 := hle312 _ _ he1
   have hl9 := hl9.mono hle312
   have hK9 := fun p hp => hle312 _ _ (hK9 p hp)
   have hx := hx.mono hle312
   obtain ⟨wc, h, hoc⟩ := hp313; cases h
   have hnc := hn308
   refine ⟨⟨(Le.trans (Le.refl _) hle312), HSub.n, CSub.n⟩, ?_⟩
   refine JA.keepO hoc hnc (fun Ic hlec hrc => ?_)
   have hA := hA.mono hlec
   have hrec := hrec.mono hlec
   have he1 := hlec _ _ he1
   have hl9 := hl9.mono hlec
   have hK9 := fun p hp => hlec _ _ (hK9 p hp)
   have hx := hx.mono hlec
   replace hrc := hrc.row
   refine JA.stepG 9 2 61 false _ (by kernel_rfl) rfl rfl rfl rfl (congrArg not rfl) (op_call (H1 := []) rfl rfl rfl rfl rfl (rPlay_ok xs _ hao _ hA) ?_ (fun _ _ _ _ ⟨_, _, _, h, _⟩ => nomatch h) (fun _ _ ⟨_, _, _, h, _⟩ => nomatch h))
   intro v314 I315 H316 hle317 hp318
   have hA := hA.mono hle317
   have hrec := hrec.mono hle317
   have he1 := hle317 _ _ he1
   have hl9 := hl9.mono hle317
   have hK9 := fun p hp => hle317 _ _ (hK9 p hp)
   have hx := hx.mono hle317
   have hrc := hrc.mono hle317
   obtain ⟨rb, es, w, h, hE, hL, hek, hel, rfl⟩ := hp318; cases h
   obtain ⟨pR, cR, rfl⟩ := RowS.len hE.1
   refine ⟨⟨(Le.trans (Le.trans (Le.trans (Le.refl _) hle312) hlec) hle317), HSub.n, CSub.n⟩, ?_⟩
   refine JA.fix ⟨HSub.n, CSub.n, (Le.trans (Le.trans (Le.trans (Le.refl _) hle312) hlec) hle317)⟩ (fun fx319 => ?_)
   refine JA.tkG 10 2 61 false _ rfl fx319 rfl rfl (congrArg not rfl) q5 ?_
   refine JA.tkG 11 2 61 false _ rfl fx319 rfl rfl (congrArg not rfl) (q2 (off' := 0) underlying73 sizeOf27) ?_
   refine JA.stepG 12 2 61 false _ (by kernel_rfl) rfl rfl rfl rfl (congrArg not rfl) (q4 (q3 isAgg27 (Blk.at 0 rfl)) ?_)
   refine ⟨⟨(Le.trans (Le.trans (Le.trans (Le.refl _) hle312) hlec) hle317), HSub.n, CSub.n⟩, ?_⟩
   refine JA.pull (Pull.s Pull.z) ?_
   refine JA.pull (Pull.s Pull.z) ?_
   refine JA.stepG 13 2 61 false _ (by kernel_rfl) rfl rfl rfl rfl (congrArg not rfl) (op_append (by' := 47) (n := 0) (g := some (b276, 0, [])) (xs := []) [_, _] rfl rfl rfl rfl rfl underlying27 (.inr ⟨_, underlying27⟩) (by kernel_rfl) sizeOf37 zeroValue37 rfl ⟨hb276, rfl, rfl⟩ rfl (Src.row entC_len hE.1 (entsS_one hE)) (by omega) ?_)
   intro g320 hg320
   refine ⟨⟨(Le.trans (Le.trans (Le.trans (Le.refl _) hle312) hlec) hle317), HSub.n, CSub.n⟩, ?_⟩
   refine JA.stepG 16 2 61 false _ (by kernel_rfl) rfl rfl rfl rfl (congrArg not rfl) (op_append (by' := 47) [_, _] rfl rfl rfl rfl rfl underlying27 (.inr ⟨_, underlying27⟩) (by kernel_rfl) sizeOf37 zeroValue37 rfl hg320 rfl (Src.slice (Blk.at 1 rfl) rfl rfl rfl) (by omega) ?_)
   intro g321 hg321
   refine ⟨⟨(Le.trans (Le.trans (Le.trans (Le.refl _) hle312) hlec) hle317), HSub.n, CSub.n⟩, ?_⟩
   refine JA.keep (H' := gH 37 _ g321) (List.sublist_append_right [_, _] _) ?_
   exact hshare (_, es, _, g321) _ _ _ _ _ ⟨(Le.trans (Le.trans (Le.trans (Le.refl _) hle312) hlec) hle317), hrc, ⟨fun e he => hE.2 e he, hek⟩, hL, hel, hl9, hK9, hrec, by have h := hg321; rw [Nat.zero_add, List.nil_append] at h; exact h⟩ (by kernel_rfl) rfl ⟨rfl, rfl, rfl, rfl, rfl, rfl, rfl, rfl, by dsimp only; rw [Nat.zero_add]; rfl, trivial⟩ rfl (by dsimp only; rw [List.nil_append]; rfl)
  refine ⟨_, rfl, .inr ⟨2, false, 61, rfl, rfl, Eq.trans rfl (congrArg (fun b => some (Value.bool b)) (congrArg not rfl))⟩, ?_⟩
  refine q9 underlying27 sizeOf37 zeroValue37 (LCat.agg rfl LCat.none) ?_
  intro b322 hb322
  refine ⟨fx0, ?_⟩
  refine JA.stepG 5 2 61 false _ (by kernel_rfl) rfl rfl rfl rfl (congrArg not rfl) (op_pure rfl rfl rfl rfl rfl (name_ok n _) ?_)
  refine ⟨fx0, ?_⟩
  refine JA.stepG 6 2 61 false _ (by kernel_rfl) rfl rfl rfl rfl (congrArg not rfl) (op_callN rfl rfl rfl rfl rfl (Scan_ok ib (Ix.rput ((1099511627776, 1) : Ix.Rec) (Ix.vals fs0) (Ix.play (acts xs))) (nameN n) [] (by decide) 1000 _ hx) ?_ (fun _ _ _ _ ⟨_, h, _⟩ => nomatch h) (fun _ _ ⟨_, h, _⟩ => nomatch h))
  intro v324 I325 H326 hle327 hn323 hp328
  have hA := hA.mono hle327
  have hrec := hrec.mono hle327
  have he1 := hle327 _ _ he1
  have hl9 := hl9.mono hle327
  have hK9 := fun p hp => hle327 _ _ (hK9 p hp)
  have hx := hx.mono hle327
  obtain ⟨wc, h, hoc⟩ := hp328; cases h
  have hnc := hn323
  refine ⟨⟨(Le.trans (Le.refl _) hle327), HSub.n, CSub.n⟩, ?_⟩
  refine JA.keepO hoc hnc (fun Ic hlec hrc => ?_)
  have hA := hA.mono hlec
  have hrec := hrec.mono hlec
  have he1 := hlec _ _ he1
  have hl9 := hl9.mono hlec
  have hK9 := fun p hp => hlec _ _ (hK9 p hp)
  have hx := hx.mono hlec
  replace hrc := hrc.row
  refine JA.stepG 9 2 61 false _ (by kernel_rfl) rfl rfl rfl rfl (congrArg not rfl) (op_call (H1 := []) rfl rfl rfl rfl rfl (rPlay_ok xs _ hao _ hA) ?_ (fun _ _ _ _ ⟨_, _, _, h, _⟩ => nomatch h) (fun _ _ ⟨_, _, _, h, _⟩ => nomatch h))
  intro v329 I330 H331 hle332 hp333
  have hA := hA.mono hle332
  have hrec := hrec.mono hle332
  have he1 := hle332 _ _ he1
  have hl9 := hl9.mono hle332
  have hK9 := fun p hp => hle332 _ _ (hK9 p hp)
  have hx := hx.mono hle332
  have hrc := hrc.mono hle332
  obtain ⟨rb, es, w, h, hE, hL, hek, hel, rfl⟩ := hp333; cases h
  obtain ⟨pR, cR, rfl⟩ := RowS.len hE.1
  refine ⟨⟨(Le.trans (Le.trans (Le.trans (Le.refl _) hle327) hlec) hle332), HSub.n, CSub.n⟩, ?_⟩
  refine JA.fix ⟨HSub.n, CSub.n, (Le.trans (Le.trans (Le.trans (Le.refl _) hle327) hlec) hle332)⟩ (fun fx334 => ?_)
  refine JA.tkG 10 2 61 false _ rfl fx334 rfl rfl (congrArg not rfl) q5 ?_
  refine JA.tkG 11 2 61 false _ rfl fx334 rfl rfl (congrArg not rfl) (q2 (off' := 0) underlying73 sizeOf27) ?_
  refine JA.stepG 12 2 61 false _ (by kernel_rfl) rfl rfl rfl rfl (congrArg not rfl) (q4 (q3 isAgg27 (Blk.at 0 rfl)) ?_)
  refine ⟨⟨(Le.trans (Le.trans (Le.trans (Le.refl _) hle327) hlec) hle332), HSub.n, CSub.n⟩, ?_⟩
  refine JA.pull (Pull.s Pull.z) ?_
  refine JA.pull (Pull.s Pull.z) ?_
  refine JA.stepG 13 2 61 false _ (by kernel_rfl) rfl rfl rfl rfl (congrArg not rfl) (op_append (by' := 47) (n := 0) (g := some (b276, 0, [])) (xs := []) [_, _] rfl rfl rfl rfl rfl underlying27 (.inr ⟨_, underlying27⟩) (by kernel_rfl) sizeOf37 zeroValue37 rfl ⟨hb276, rfl, rfl⟩ rfl (Src.row entC_len hE.1 (entsS_one hE)) (by omega) ?_)
  intro g335 hg335
  refine ⟨⟨(Le.trans (Le.trans (Le.trans (Le.refl _) hle327) hlec) hle332), HSub.n, CSub.n⟩, ?_⟩
  refine JA.stepG 16 2 61 false _ (by kernel_rfl) rfl rfl rfl rfl (congrArg not rfl) (op_append (by' := 47) [_, _] rfl rfl rfl rfl rfl underlying27 (.inr ⟨_, underlying27⟩) (by kernel_rfl) sizeOf37 zeroValue37 rfl hg335 rfl (Src.slice (Blk.at 1 rfl) rfl rfl rfl) (by omega) ?_)
  intro g336 hg336
  refine ⟨⟨(Le.trans (Le.trans (Le.trans (Le.refl _) hle327) hlec) hle332), HSub.n, CSub.n⟩, ?_⟩
  refine JA.keep (H' := gH 37 _ g336) (List.sublist_append_right [_, _] _) ?_
  exact hshare (_, es, _, g336) _ _ _ _ _ ⟨(Le.trans (Le.trans (Le.trans (Le.refl _) hle327) hlec) hle332), hrc, ⟨fun e he => hE.2 e he, hek⟩, hL, hel, hl9, hK9, hrec, by have h := hg336; rw [Nat.zero_add, List.nil_append] at h; exact h⟩ (by kernel_rfl) rfl ⟨rfl, rfl, rfl, rfl, rfl, rfl, rfl, rfl, by dsimp only; rw [Nat.zero_add]; rfl, trivial⟩ rfl (by dsimp only; rw [List.nil_append]; rfl)
 refine ⟨_, rfl, .inr ⟨2, false, 61, rfl, rfl, Eq.trans rfl (congrArg (fun b => some (Value.bool b)) (congrArg not rfl))⟩, ?_⟩
 refine q9 underlying27 sizeOf37 zeroValue37 (LCat.agg rfl LCat.none) ?_
 intro b337 hb337
 refine ⟨fx0, ?_⟩
 refine JA.allG [5, 7] (by kernel_rfl) (by simp) ?_
 intro i hi
 simp only [List.mem_cons, List.not_mem_nil, or_false] at hi
 rcases hi with rfl | rfl
 ·
  refine ⟨_, rfl, .inr ⟨2, false, 61, rfl, rfl, Eq.trans rfl (congrArg (fun b => some (Value.bool b)) (congrArg not rfl))⟩, ?_⟩
  refine op_pure rfl rfl rfl rfl rfl (name_ok n _) ?_
  refine ⟨fx0, ?_⟩
  refine JA.allG [6, 7] (by kernel_rfl) (by simp) ?_
  intro i hi
  simp only [List.mem_cons, List.not_mem_nil, or_false] at hi
  rcases hi with rfl | rfl
  ·
   refine ⟨_, rfl, .inr ⟨2, false, 61, rfl, rfl, Eq.trans rfl (congrArg (fun b => some (Value.bool b)) (congrArg not rfl))⟩, ?_⟩
   refine op_callN rfl rfl rfl rfl rfl (Scan_ok ib (Ix.rput ((1099511627776, 1) : Ix.Rec) (Ix.vals fs0) (Ix.play (acts xs))) (nameN n) [] (by decide) 1000 _ hx) ?_ (fun _ _ _ _ ⟨_, h, _⟩ => nomatch h) (fun _ _ ⟨_, h, _⟩ => nomatch h)
   intro v339 I340 H341 hle342 hn338 hp343
   have hA := hA.mono hle342
   have hrec := hrec.mono hle342
   have he1 := hle342 _ _ he1
   have hl9 := hl9.mono hle342
   have hK9 := fun p hp => hle342 _ _ (hK9 p hp)
   have hx := hx.mono hle342
   obtain ⟨wc, h, hoc⟩ := hp343; cases h
   have hnc := hn338
   refine ⟨⟨(Le.trans (Le.refl _) hle342), HSub.n, CSub.n⟩, ?_⟩
   refine JA.keepO hoc hnc (fun Ic hlec hrc => ?_)
   have hA := hA.mono hlec
   have hrec := hrec.mono hlec
   have he1 := hlec _ _ he1
   have hl9 := hl9.mono hlec
   have hK9 := fun p hp => hlec _ _ (hK9 p hp)
   have hx := hx.mono hlec
   replace hrc := hrc.row
   refine JA.allG [7, 9] (by kernel_rfl) (by simp) ?_
   intro i hi
   simp only [List.mem_cons, List.not_mem_nil, or_false] at hi
   rcases hi with rfl | rfl
   ·
    refine ⟨_, rfl, .inr ⟨2, false, 61, rfl, rfl, Eq.trans rfl (congrArg (fun b => some (Value.bool b)) (congrArg not rfl))⟩, ?_⟩
    refine op_buildSlice0 rfl rfl rfl underlying27 sizeOf37 ?_
    intro b344 hb344
    refine ⟨⟨(Le.trans (Le.trans (Le.refl _) hle342) hlec), HSub.n, CSub.n⟩, ?_⟩
    refine JA.stepG 9 2 61 false _ (by kernel_rfl) rfl rfl rfl rfl (congrArg not rfl) (op_call (H1 := []) rfl rfl rfl rfl rfl (rPlay_ok xs _ hao _ hA) ?_ (fun _ _ _ _ ⟨_, _, _, h, _⟩ => nomatch h) (fun _ _ ⟨_, _, _, h, _⟩ => nomatch h))
    intro v345 I346 H347 hle348 hp349
    have hA := hA.mono hle348
    have hrec := hrec.mono hle348
    have he1 := hle348 _ _ he1
    have hl9 := hl9.mono hle348
    have hK9 := fun p hp => hle348 _ _ (hK9 p hp)
    have hx := hx.mono hle348
    have hrc := hrc.mono hle348
    obtain ⟨rb, es, w, h, hE, hL, hek, hel, rfl⟩ := hp349; cases h
    obtain ⟨pR, cR, rfl⟩ := RowS.len hE.1
    refine ⟨⟨(Le.trans (Le.trans (Le.trans (Le.refl _) hle342) hlec) hle348), HSub.n, CSub.n⟩, ?_⟩
    refine JA.fix ⟨HSub.n, CSub.n, (Le.trans (Le.trans (Le.trans (Le.refl _) hle342) hlec) hle348)⟩ (fun fx350 => ?_)
    refine JA.tkG 10 2 61 false _ rfl fx350 rfl rfl (congrArg not rfl) q5 ?_
    refine JA.tkG 11 2 61 false _ rfl fx350 rfl rfl (congrArg not rfl) (q2 (off' := 0) underlying73 sizeOf27) ?_
    refine JA.stepG 12 2 61 false _ (by kernel_rfl) rfl rfl rfl rfl (congrArg not rfl) (q4 (q3 isAgg27 (Blk.at 0 rfl)) ?_)
    refine ⟨⟨(Le.trans (Le.trans (Le.trans (Le.refl _) hle342) hlec) hle348), HSub.n, CSub.n⟩, ?_⟩
    refine JA.pull (Pull.s (Pull.s Pull.z)) ?_
    refine JA.pull (Pull.s Pull.z) ?_
    refine JA.stepG 13 2 61 false _ (by kernel_rfl) rfl rfl rfl rfl (congrArg not rfl) (op_append (by' := 47) (n := 0) (g := some (b344, 0, [])) (xs := []) [_, _] rfl rfl rfl rfl rfl underlying27 (.inr ⟨_, underlying27⟩) (by kernel_rfl) sizeOf37 zeroValue37 rfl ⟨hb344, rfl, rfl⟩ rfl (Src.row entC_len hE.1 (entsS_one hE)) (by omega) ?_)
    intro g351 hg351
    refine ⟨⟨(Le.trans (Le.trans (Le.trans (Le.refl _) hle342) hlec) hle348), HSub.n, CSub.n⟩, ?_⟩
    refine JA.stepG 16 2 61 false _ (by kernel_rfl) rfl rfl rfl rfl (congrArg not rfl) (op_append (by' := 47) [_, _] rfl rfl rfl rfl rfl underlying27 (.inr ⟨_, underlying27⟩) (by kernel_rfl) sizeOf37 zeroValue37 rfl hg351 rfl (Src.slice (Blk.at 1 rfl) rfl rfl rfl) (by omega) ?_)
    intro g352 hg352
    refine ⟨⟨(Le.trans (Le.trans (Le.trans (Le.refl _) hle342) hlec) hle348), HSub.n, CSub.n⟩, ?_⟩
    refine JA.keep (H' := gH 37 _ g352) (List.sublist_append_right [_, _] _) ?_
    exact hshare (_, es, _, g352) _ _ _ _ _ ⟨(Le.trans (Le.trans (Le.trans (Le.refl _) hle342) hlec) hle348), hrc, ⟨fun e he => hE.2 e he, hek⟩, hL, hel, hl9, hK9, hrec, by have h := hg352; rw [Nat.zero_add, List.nil_append] at h; exact h⟩ (by kernel_rfl) rfl ⟨rfl, rfl, rfl, rfl, rfl, rfl, rfl, rfl, by dsimp only; rw [Nat.zero_add]; rfl, trivial⟩ rfl (by dsimp only; rw [List.nil_append]; rfl)
   refine ⟨_, rfl, .inr ⟨2, false, 61, rfl, rfl, Eq.trans rfl (congrArg (fun b => some (Value.bool b)) (congrArg not rfl))⟩, ?_⟩
   refine op_call (H1 := []) rfl rfl rfl rfl rfl (rPlay_ok xs _ hao _ hA) ?_ (fun _ _ _ _ ⟨_, _, _, h, _⟩ => nomatch h) (fun _ _ ⟨_, _, _, h, _⟩ => nomatch h)
   intro v353 I354 H355 hle356 hp357
   have hA := hA.mono hle356
   have hrec := hrec.mono hle356
   have he1 := hle356 _ _ he1
   have hl9 := hl9.mono hle356
   have hK9 := fun p hp => hle356 _ _ (hK9 p hp)
   have hx := hx.mono hle356
   have hrc := hrc.mono hle356
   obtain ⟨rb, es, w, h, hE, hL, hek, hel, rfl⟩ := hp357; cases h
   obtain ⟨pR, cR, rfl⟩ := RowS.len hE.1
   refine ⟨⟨(Le.trans (Le.trans (Le.trans (Le.refl _) hle342) hlec) hle356), HSub.n, CSub.n⟩, ?_⟩
   refine JA.fix ⟨HSub.n, CSub.n, (Le.trans (Le.trans (Le.trans (Le.refl _) hle342) hlec) hle356)⟩ (fun fx358 => ?_)
   refine JA.tkG 10 2 61 false _ rfl fx358 rfl rfl (congrArg not rfl) q5 ?_
   refine JA.tkG 11 2 61 false _ rfl fx358 rfl rfl (congrArg not rfl) (q2 (off' := 0) underlying73 sizeOf27) ?_
   refine JA.allG [7, 12] (by kernel_rfl) (by simp) ?_
   intro i hi
   simp only [List.mem_cons, List.not_mem_nil, or_false] at hi
   rcases hi with rfl | rfl
   ·
    refine ⟨_, rfl, .inr ⟨2, false, 61, rfl, rfl, Eq.trans rfl (congrArg (fun b => some (Value.bool b)) (congrArg not rfl))⟩, ?_⟩
    refine op_buildSlice0 rfl rfl rfl underlying27 sizeOf37 ?_
    intro b359 hb359
    refine ⟨⟨(Le.trans (Le.trans (Le.trans (Le.refl _) hle342) hlec) hle356), HSub.n, CSub.n⟩, ?_⟩
    refine JA.stepG 12 2 61 false _ (by kernel_rfl) rfl rfl rfl rfl (congrArg not rfl) (q4 (q3 isAgg27 (Blk.at 1 rfl)) ?_)
    refine ⟨⟨(Le.trans (Le.trans (Le.trans (Le.refl _) hle342) hlec) hle356), HSub.n, CSub.n⟩, ?_⟩
    refine JA.pull (Pull.s (Pull.s Pull.z)) ?_
    refine JA.pull (Pull.s (Pull.s Pull.z)) ?_
    refine JA.stepG 13 2 61 false _ (by kernel_rfl) rfl rfl rfl rfl (congrArg not rfl) (op_append (by' := 47) (n := 0) (g := some (b359, 0, [])) (xs := []) [_, _] rfl rfl rfl rfl rfl underlying27 (.inr ⟨_, underlying27⟩) (by kernel_rfl) sizeOf37 zeroValue37 rfl ⟨hb359, rfl, rfl⟩ rfl (Src.row entC_len hE.1 (entsS_one hE)) (by omega) ?_)
    intro g360 hg360
    refine ⟨⟨(Le.trans (Le.trans (Le.trans (Le.refl _) hle342) hlec) hle356), HSub.n, CSub.n⟩, ?_⟩
    refine JA.stepG 16 2 61 false _ (by kernel_rfl) rfl rfl rfl rfl (congrArg not rfl) (op_append (by' := 47) [_, _] rfl rfl rfl rfl rfl underlying27 (.inr ⟨_, underlying27⟩) (by kernel_rfl) sizeOf37 zeroValue37 rfl hg360 rfl (Src.slice (Blk.at 1 rfl) rfl rfl rfl) (by omega) ?_)
    intro g361 hg361
    refine ⟨⟨(Le.trans (Le.trans (Le.trans (Le.refl _) hle342) hlec) hle356), HSub.n, CSub.n⟩, ?_⟩
    refine JA.keep (H' := gH 37 _ g361) (List.sublist_append_right [_, _] _) ?_
    exact hshare (_, es, _, g361) _ _ _ _ _ ⟨(Le.trans (Le.trans (Le.trans (Le.refl _) hle342) hlec) hle356), hrc, ⟨fun e he => hE.2 e he, hek⟩, hL, hel, hl9, hK9, hrec, by have h := hg361; rw [Nat.zero_add, List.nil_append] at h; exact h⟩ (by kernel_rfl) rfl ⟨rfl, rfl, rfl, rfl, rfl, rfl, rfl, rfl, by dsimp only; rw [Nat.zero_add]; rfl, trivial⟩ rfl (by dsimp only; rw [List.nil_append]; rfl)
   refine ⟨_, rfl, .inr ⟨2, false, 61, rfl, rfl, Eq.trans rfl (congrArg (fun b => some (Value.bool b)) (congrArg not rfl))⟩, ?_⟩
   refine q4 (q3 isAgg27 (Blk.at 0 rfl)) ?_
   refine ⟨⟨(Le.trans (Le.trans (Le.trans (Le.refl _) hle342) hlec) hle356), HSub.n, CSub.n⟩, ?_⟩
   refine JA.stepG 7 2 61 false _ (by kernel_rfl) rfl rfl rfl rfl (congrArg not rfl) (op_buildSlice0 rfl rfl rfl underlying27 sizeOf37 ?_)
   intro b362 hb362
   refine ⟨⟨(Le.trans (Le.trans (Le.trans (Le.refl _) hle342) hlec) hle356), HSub.n, CSub.n⟩, ?_⟩
   refine JA.pull (Pull.s (Pull.s Pull.z)) ?_
   refine JA.pull (Pull.s (Pull.s Pull.z)) ?_
   refine JA.stepG 13 2 61 false _ (by kernel_rfl) rfl rfl rfl rfl (congrArg not rfl) (op_append (by' := 47) (n := 0) (g := some (b362, 0, [])) (xs := []) [_, _] rfl rfl rfl rfl rfl underlying27 (.inr ⟨_, underlying27⟩) (by kernel_rfl) sizeOf37 zeroValue37 rfl ⟨hb362, rfl, rfl⟩ rfl (Src.row entC_len hE.1 (entsS_one hE)) (by omega) ?_)
   intro g363 hg363
   refine ⟨⟨(Le.trans (Le.trans (Le.trans (Le.refl _) hle342) hlec) hle356), HSub.n, CSub.n⟩, ?_⟩
   refine JA.stepG 16 2 61 false _ (by kernel_rfl) rfl rfl rfl rfl (congrArg not rfl) (op_append (by' := 47) [_, _] rfl rfl rfl rfl rfl underlying27 (.inr ⟨_, underlying27⟩) (by kernel_rfl) sizeOf37 zeroValue37 rfl hg363 rfl (Src.slice (Blk.at 1 rfl) rfl rfl rfl) (by omega) ?_)
   intro g364 hg364
   refine ⟨⟨(Le.trans (Le.trans (Le.trans (Le.refl _) hle342) hlec) hle356), HSub.n, CSub.n⟩, ?_⟩
   refine JA.keep (H' := gH 37 _ g364) (List.sublist_append_right [_, _] _) ?_
   exact hshare (_, es, _, g364) _ _ _ _ _ ⟨(Le.trans (Le.trans (Le.trans (Le.refl _) hle342) hlec) hle356), hrc, ⟨fun e he => hE.2 e he, hek⟩, hL, hel, hl9, hK9, hrec, by have h := hg364; rw [Nat.zero_add, List.nil_append] at h; exact h⟩ (by kernel_rfl) rfl ⟨rfl, rfl, rfl, rfl, rfl, rfl, rfl, rfl, by dsimp only; rw [Nat.zero_add]; rfl, trivial⟩ rfl (by dsimp only; rw [List.nil_append]; rfl)
  refine ⟨_, rfl, .inr ⟨2, false, 61, rfl, rfl, Eq.trans rfl (congrArg (fun b => some (Value.bool b)) (congrArg not rfl))⟩, ?_⟩
  refine op_buildSlice0 rfl rfl rfl underlying27 sizeOf37 ?_
  intro b365 hb365
  refine ⟨fx0, ?_⟩
  refine JA.stepG 6 2 61 false _ (by kernel_rfl) rfl rfl rfl rfl (congrArg not rfl) (op_callN rfl rfl rfl rfl rfl (Scan_ok ib (Ix.rput ((1099511627776, 1) : Ix.Rec) (Ix.vals fs0) (Ix.play (acts xs))) (nameN n) [] (by decide) 1000 _ hx) ?_ (fun _ _ _ _ ⟨_, h, _⟩ => nomatch h) (fun _ _ ⟨_, h, _⟩ => nomatch h))
  intro v367 I368 H369 hle370 hn366 hp371
  have hA := hA.mono hle370
  have hrec := hrec.mono hle370
  have he1 := hle370 _ _ he1
  have hl9 := hl9.mono hle370
  have hK9 := fun p hp => hle370 _ _ (hK9 p hp)
  have hx := hx.mono hle370
  obtain ⟨wc, h, hoc⟩ := hp371; cases h
  have hnc := hn366
  refine ⟨⟨(Le.trans (Le.refl _) hle370), HSub.n, CSub.n⟩, ?_⟩
  refine JA.keepO hoc hnc (fun Ic hlec hrc => ?_)
  have hA := hA.mono hlec
  have hrec := hrec.mono hlec
  have he1 := hlec _ _ he1
  have hl9 := hl9.mono hlec
  have hK9 := fun p hp => hlec _ _ (hK9 p hp)
  have hx := hx.mono hlec
  replace hrc := hrc.row
  refine JA.stepG 9 2 61 false _ (by kernel_rfl) rfl rfl rfl rfl (congrArg not rfl) (op_call (H1 := []) rfl rfl rfl rfl rfl (rPlay_ok xs _ hao _ hA) ?_ (fun _ _ _ _ ⟨_, _, _, h, _⟩ => nomatch h) (fun _ _ ⟨_, _, _, h, _⟩ => nomatch h))
  intro v372 I373 H374 hle375 hp376
  have hA := hA.mono hle375
  have hrec := hrec.mono hle375
  have he1 := hle375 _ _ he1
  have hl9 := hl9.mono hle375
  have hK9 := fun p hp => hle375 _ _ (hK9 p hp)
  have hx := hx.mono hle375
  have hrc := hrc.mono hle375
  obtain ⟨rb, es, w, h, hE, hL, hek, hel, rfl⟩ := hp376; cases h
  obtain ⟨pR, cR, rfl⟩ := RowS.len hE.1
  refine ⟨⟨(Le.trans (Le.trans (Le.trans (Le.refl _) hle370) hlec) hle375), HSub.n, CSub.n⟩, ?_⟩
  refine JA.fix ⟨HSub.n, CSub.n, (Le.trans (Le.trans (Le.trans (Le.refl _) hle370) hlec) hle375)⟩ (fun fx377 => ?_)
  refine JA.tkG 10 2 61 false _ rfl fx377 rfl rfl (congrArg not rfl) q5 ?_
  refine JA.tkG 11 2 61 false _ rfl fx377 rfl rfl (congrArg not rfl) (q2 (off' := 0) underlying73 sizeOf27) ?_
  refine JA.stepG 12 2 61 false _ (by kernel_rfl) rfl rfl rfl rfl (congrArg not rfl) (q4 (q3 isAgg27 (Blk.at 0 rfl)) ?_)
  refine ⟨⟨(Le.trans (Le.trans (Le.trans (Le.refl _) hle370) hlec) hle375), HSub.n, CSub.n⟩, ?_⟩
  refine JA.pull (Pull.s (Pull.s Pull.z)) ?_
  refine JA.pull (Pull.s Pull.z) ?_
  refine JA.stepG 13 2 61 false _ (by kernel_rfl) rfl rfl rfl rfl (congrArg not rfl) (op_append (by' := 47) (n := 0) (g := some (b365, 0, [])) (xs := []) [_, _] rfl rfl rfl rfl rfl underlying27 (.inr ⟨_, underlying27⟩) (by kernel_rfl) sizeOf37 zeroValue37 rfl ⟨hb365, rfl, rfl⟩ rfl (Src.row entC_len hE.1 (entsS_one hE)) (by omega) ?_)
  intro g378 hg378
  refine ⟨⟨(Le.trans (Le.trans (Le.trans (Le.refl _) hle370) hlec) hle375), HSub.n, CSub.n⟩, ?_⟩
  refine JA.stepG 16 2 61 false _ (by kernel_rfl) rfl rfl rfl rfl (congrArg not rfl) (op_append (by' := 47) [_, _] rfl rfl rfl rfl rfl underlying27 (.inr ⟨_, underlying27⟩) (by kernel_rfl) sizeOf37 zeroValue37 rfl hg378 rfl (Src.slice (Blk.at 1 rfl) rfl rfl rfl) (by omega) ?_)
  intro g379 hg379
  refine ⟨⟨(Le.trans (Le.trans (Le.trans (Le.refl _) hle370) hlec) hle375), HSub.n, CSub.n⟩, ?_⟩
  refine JA.keep (H' := gH 37 _ g379) (List.sublist_append_right [_, _] _) ?_
  exact hshare (_, es, _, g379) _ _ _ _ _ ⟨(Le.trans (Le.trans (Le.trans (Le.refl _) hle370) hlec) hle375), hrc, ⟨fun e he => hE.2 e he, hek⟩, hL, hel, hl9, hK9, hrec, by have h := hg379; rw [Nat.zero_add, List.nil_append] at h; exact h⟩ (by kernel_rfl) rfl ⟨rfl, rfl, rfl, rfl, rfl, rfl, rfl, rfl, by dsimp only; rw [Nat.zero_add]; rfl, trivial⟩ rfl (by dsimp only; rw [List.nil_append]; rfl)
 refine ⟨_, rfl, .inr ⟨2, false, 61, rfl, rfl, Eq.trans rfl (congrArg (fun b => some (Value.bool b)) (congrArg not rfl))⟩, ?_⟩
 refine op_buildSlice0 rfl rfl rfl underlying27 sizeOf37 ?_
 intro b380 hb380
 refine ⟨fx0, ?_⟩
 refine JA.stepG 5 2 61 false _ (by kernel_rfl) rfl rfl rfl rfl (congrArg not rfl) (op_pure rfl rfl rfl rfl rfl (name_ok n _) ?_)
 refine ⟨fx0, ?_⟩
 refine JA.stepG 6 2 61 false _ (by kernel_rfl) rfl rfl rfl rfl (congrArg not rfl) (op_callN rfl rfl rfl rfl rfl (Scan_ok ib (Ix.rput ((1099511627776, 1) : Ix.Rec) (Ix.vals fs0) (Ix.play (acts xs))) (nameN n) [] (by decide) 1000 _ hx) ?_ (fun _ _ _ _ ⟨_, h, _⟩ => nomatch h) (fun _ _ ⟨_, h, _⟩ => nomatch h))
 intro v382 I383 H384 hle385 hn381 hp386
 have hA := hA.mono hle385
 have hrec := hrec.mono hle385
 have he1 := hle385 _ _ he1
 have hl9 := hl9.mono hle385
 have hK9 := fun p hp => hle385 _ _ (hK9 p hp)
 have hx := hx.mono hle385
 obtain ⟨wc, h, hoc⟩ := hp386; cases h
 have hnc := hn381
 refine ⟨⟨(Le.trans (Le.refl _) hle385), HSub.n, CSub.n⟩, ?_⟩
 refine JA.keepO hoc hnc (fun Ic hlec hrc => ?_)
 have hA := hA.mono hlec
 have hrec := hrec.mono hlec
 have he1 := hlec _ _ he1
 have hl9 := hl9.mono hlec
 have hK9 := fun p hp => hlec _ _ (hK9 p hp)
 have hx := hx.mono hlec
 replace hrc := hrc.row
 refine JA.stepG 9 2 61 false _ (by kernel_rfl) rfl rfl rfl rfl (congrArg not rfl) (op_call (H1 := []) rfl rfl rfl rfl rfl (rPlay_ok xs _ hao _ hA) ?_ (fun _ _ _ _ ⟨_, _, _, h, _⟩ => nomatch h) (fun _ _ ⟨_, _, _, h, _⟩ => nomatch h))
 intro v387 I388 H389 hle390 hp391
 have hA := hA.mono hle390
 have hrec := hrec.mono hle390
 have he1 := hle390 _ _ he1
 have hl9 := hl9.mono hle390
 have hK9 := fun p hp => hle390 _ _ (hK9 p hp)
 have hx := hx.mono hle390
 have hrc := hrc.mono hle390
 obtain ⟨rb, es, w, h, hE, hL, hek, hel, rfl⟩ := hp391; cases h
 obtain ⟨pR, cR, rfl⟩ := RowS.len hE.1
 refine ⟨⟨(Le.trans (Le.trans (Le.trans (Le.refl _) hle385) hlec) hle390), HSub.n, CSub.n⟩, ?_⟩
 refine JA.fix ⟨HSub.n, CSub.n, (Le.trans (Le.trans (Le.trans (Le.refl _) hle385) hlec) hle390)⟩ (fun fx392 => ?_)
 refine JA.tkG 10 2 61 false _ rfl fx392 rfl rfl (congrArg not rfl) q5 ?_
 refine JA.tkG 11 2 61 false _ rfl fx392 rfl rfl (congrArg not rfl) (q2 (off' := 0) underlying73 sizeOf27) ?_
 refine JA.stepG 12 2 61 false _ (by kernel_rfl) rfl rfl rfl rfl (congrArg not rfl) (q4 (q3 isAgg27 (Blk.at 0 rfl)) ?_)
 refine ⟨⟨(Le.trans (Le.trans (Le.trans (Le.refl _) hle385) hlec) hle390), HSub.n, CSub.n⟩, ?_⟩
 refine JA.pull (Pull.s (Pull.s Pull.z)) ?_
 refine JA.pull (Pull.s Pull.z) ?_
 refine JA.stepG 13 2 61 false _ (by kernel_rfl) rfl rfl rfl rfl (congrArg not rfl) (op_append (by' := 47) (n := 0) (g := some (b380, 0, [])) (xs := []) [_, _] rfl rfl rfl rfl rfl underlying27 (.inr ⟨_, underlying27⟩) (by kernel_rfl) sizeOf37 zeroValue37 rfl ⟨hb380, rfl, rfl⟩ rfl (Src.row entC_len hE.1 (entsS_one hE)) (by omega) ?_)
 intro g393 hg393
 refine ⟨⟨(Le.trans (Le.trans (Le.trans (Le.refl _) hle385) hlec) hle390), HSub.n, CSub.n⟩, ?_⟩
 refine JA.stepG 16 2 61 false _ (by kernel_rfl) rfl rfl rfl rfl (congrArg not rfl) (op_append (by' := 47) [_, _] rfl rfl rfl rfl rfl underlying27 (.inr ⟨_, underlying27⟩) (by kernel_rfl) sizeOf37 zeroValue37 rfl hg393 rfl (Src.slice (Blk.at 1 rfl) rfl rfl rfl) (by omega) ?_)
 intro g394 hg394
 refine ⟨⟨(Le.trans (Le.trans (Le.trans (Le.refl _) hle385) hlec) hle390), HSub.n, CSub.n⟩, ?_⟩
 refine JA.keep (H' := gH 37 _ g394) (List.sublist_append_right [_, _] _) ?_
 exact hshare (_, es, _, g394) _ _ _ _ _ ⟨(Le.trans (Le.trans (Le.trans (Le.refl _) hle385) hlec) hle390), hrc, ⟨fun e he => hE.2 e he, hek⟩, hL, hel, hl9, hK9, hrec, by have h := hg394; rw [Nat.zero_add, List.nil_append] at h; exact h⟩ (by kernel_rfl) rfl ⟨rfl, rfl, rfl, rfl, rfl, rfl, rfl, rfl, by dsimp only; rw [Nat.zero_add]; rfl, trivial⟩ rfl (by dsimp only; rw [List.nil_append]; rfl)
end Go.Proofs.YtjcdfnbomkoheaaGreatDoor
