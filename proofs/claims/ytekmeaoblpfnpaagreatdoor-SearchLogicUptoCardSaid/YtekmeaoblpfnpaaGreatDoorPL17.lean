/-
  Own texts on the laws of the seat, joined: the logic, and contracts of functions. Conditions: none.
-/
import Derived.Test.YtekmeaoblpfnpaaGreatDoorNmL
import Derived.Test.YtekmeaoblpfnpaaGreatDoorPL16
import Derived.Lib.LaidU8
set_option maxRecDepth 100000
set_option maxHeartbeats 40000000
set_option maxRecDepth 100000
set_option maxHeartbeats 40000000
namespace Go.Proofs.YtekmeaoblpfnpaaGreatDoor
open _root_.Go.Proofs.Tryz
open Go Go.Sx
theorem bne_of {a b : Bool} (h : a = b) : (a != b) = false := by rw [h]; exact bne_self_eq_false _
theorem titles_in {L : Ix.Ix} {i : Nat} {t : Ix.Rec} (h : (L.map Prod.fst)[i]? = some t) : t ∈ L.map (·.1) := lmg h
theorem SearchLogic_ok (xs : List Act) (v : Value) (hao : ActsOk xs) (la lb : List Int) (va vb : Value) (hna : la.length ≤ 1000000000000) (hnb : lb.length ≤ 1000000000000) (I : Heap) (hT : STab I) (hA : ActsS I xs v) (hla : IntP' I la va) (hlb : IntP' I lb vb) : Pure Tryz.prog 7 [v, va, vb] I (.bool true) := by
 refine Ctr.toPure ?_
 have hp20 := play_len xs
 refine Ctr.ob func7 ?_
 intro w0 hw0
 refine Cj.sr (J.z q1 ?_)
 refine J.nssr (J.op rfl (op_pure rfl rfl rfl rfl rfl (sanity_ok _ hT) ?_))
 refine J.z q1 ?_
 refine J.nssr (J.z q0 ?_)
 refine J.op rfl (op_callN rfl rfl rfl rfl rfl (built_ok xs _ hao _ hA) ?_ (fun _ _ _ _ ⟨_, _, _, _, _, h, _⟩ => by cases h) (fun _ _ ⟨_, _, _, _, _, h, _⟩ => by cases h))
 intro v2 I3 H4 hle5 hn1 hp6
 have hT := hT.mono hle5
 have hla := hla.mono hle5
 have hlb := hlb.mono hle5
 obtain ⟨ib, o, rb, es, w, h, hok, hE, hL, hek, hel, rfl⟩ := hp6; cases h
 refine J.persists ((rb, _) :: ixH ib o) hn1 (fun Ip hlep hK => ?_)
 have hT := hT.mono hlep
 have hla := hla.mono hlep
 have hlb := hlb.mono hlep
 have hx : IxP Ip ib (Ix.play (acts xs)) := ⟨o, hok.mono hlep, fun p hp => hK p (.tail _ hp)⟩
 clear hok hE hK
 refine J.z q0 ?_
 refine J.z q11 ?_
 refine J.z q11 ?_
 refine J.z q1 ?_
 refine J.z q1 ?_
 refine J.nssr (J.z q0 ?_)
 refine J.op rfl (op_call (H1 := []) rfl rfl rfl rfl rfl (Made12_ok _ la hna _ hla) ?_ (fun _ _ _ _ h => by obtain ⟨⟨_, _, h, _⟩, _⟩ := h; cases h) (fun _ _ h => by obtain ⟨⟨_, _, h, _⟩, _⟩ := h; cases h))
 intro v7 I8 H9 hle10 hp11
 have hT := hT.mono hle10
 have hlb := hlb.mono hle10
 have hx := hx.mono hle10
 obtain ⟨⟨qa, v7x, hv7, ⟨pqa, cqa, rfl, hqa⟩, hma⟩, rfl⟩ := hp11; cases hv7
 have hmda := hma.depth
 have hmsa := hma.size
 have hmwa := hma.wide
 refine J.op rfl (q21 tZ32 ?_)
 intro b12 hb12
 refine J.op rfl (q10 0 tS32 (LSpl.c (LSpl.c (LSpl.c (LSpl.c (LSpl.c LSpl.z))))) LSet.z ?_)
 refine J.nssr (J.z q0 ?_)
 refine J.op rfl (op_call (H1 := []) rfl rfl rfl rfl rfl (Made12_ok _ lb hnb _ hlb) ?_ (fun _ _ _ _ h => by obtain ⟨⟨_, _, h, _⟩, _⟩ := h; cases h) (fun _ _ h => by obtain ⟨⟨_, _, h, _⟩, _⟩ := h; cases h))
 intro v13 I14 H15 hle16 hp17
 have hT := hT.mono hle16
 have hx := hx.mono hle16
 have hqa := hqa.mono hle16
 obtain ⟨⟨qb, v13x, hv13, ⟨pqb, cqb, rfl, hqb⟩, hmb⟩, rfl⟩ := hp17; cases hv13
 have hmdb := hmb.depth
 have hmsb := hmb.size
 have hmwb := hmb.wide
 refine J.op rfl (q21 tZ32 ?_)
 intro b18 hb18
 refine J.op rfl (q10 0 tS32 (LSpl.c (LSpl.c (LSpl.c (LSpl.c (LSpl.c LSpl.z))))) LSet.z ?_)
 refine J.nssr (J.z q0 ?_)
 refine J.z (q8 tA32 tS32 (Blk.at 1 rfl)) ?_
 refine J.op rfl (op_callN rfl rfl rfl rfl rfl (Run_ok (ptr ib 0) (Ix.play (acts xs)) (qa) pqa cqa (by omega) (by omega) hma.right (tok_few (Ix.play_few _)) _ hqa (.inr ⟨ib, rfl, hx⟩) hT) ?_ (fun _ _ _ _ ⟨_, _, h, _⟩ => by cases h) (fun _ _ ⟨_, _, h, _⟩ => by cases h))
 intro v20 I21 H22 hle23 hn19 hp24
 have hT := hT.mono hle23
 have hx := hx.mono hle23
 have hqa := hqa.mono hle23
 have hqb := hqb.mono hle23
 obtain ⟨ws, rs, h, hruns, hos⟩ := hp24; cases h
 refine J.keepO hos hn19 (fun Is hles hrs => ?_)
 have hT := hT.mono hles
 have hx := hx.mono hles
 have hqa := hqa.mono hles
 have hqb := hqb.mono hles
 replace hrs := hrs.row
 obtain ⟨ps, cs, rfl⟩ := rowS_len hrs
 refine J.z q0 ?_
 refine J.z q11 ?_
 refine J.z q11 ?_
 refine J.z q1 ?_
 refine J.z q1 ?_
 refine J.nssr (J.z q0 ?_)
 refine J.z (q8 tA32 tS32 (Blk.at 0 rfl)) ?_
 refine J.op rfl (op_callN rfl rfl rfl rfl rfl (Run_ok (ptr ib 0) (Ix.play (acts xs)) (qb) pqb cqb (by omega) (by omega) hmb.right (tok_few (Ix.play_few _)) _ hqb (.inr ⟨ib, rfl, hx⟩) hT) ?_ (fun _ _ _ _ ⟨_, _, h, _⟩ => by cases h) (fun _ _ ⟨_, _, h, _⟩ => by cases h))
 intro v26 I27 H28 hle29 hn25 hp30
 have hT := hT.mono hle29
 have hx := hx.mono hle29
 have hqa := hqa.mono hle29
 have hqb := hqb.mono hle29
 have hrs := hrs.mono hle29
 obtain ⟨wt, rt, h, hrunt, hot⟩ := hp30; cases h
 refine J.keepO hot hn25 (fun It hlet hrt => ?_)
 have hT := hT.mono hlet
 have hx := hx.mono hlet
 have hqa := hqa.mono hlet
 have hqb := hqb.mono hlet
 have hrs := hrs.mono hlet
 replace hrt := hrt.row
 obtain ⟨pt, ct, rfl⟩ := rowS_len hrt
 refine J.z q0 ?_
 refine J.z q11 ?_
 refine J.z q11 ?_
 refine J.z q1 ?_
 refine J.z q1 ?_
 refine J.nssr (J.z q0 ?_)
 refine J.z (q8 tA32 tS32 (Blk.at 1 rfl)) ?_
 refine J.z (q8 tA32 tS32 (Blk.at 0 rfl)) ?_
 refine J.op rfl (op_call (H1 := []) rfl rfl rfl rfl rfl (both_ok 2 qa qb pqa pqb cqa cqb _ hqa hqb) ?_ (fun _ _ _ _ h => by obtain ⟨⟨_, _, h, _⟩, _⟩ := h; cases h) (fun _ _ h => by obtain ⟨⟨_, _, h, _⟩, _⟩ := h; cases h))
 intro v31 I32 H33 hle34 hp35
 have hT := hT.mono hle34
 have hx := hx.mono hle34
 have hqa := hqa.mono hle34
 have hqb := hqb.mono hle34
 have hrs := hrs.mono hle34
 have hrt := hrt.mono hle34
 obtain ⟨⟨pq1, cq1, h, hq1⟩, rfl⟩ := hp35; cases h
 refine J.op rfl (op_callN rfl rfl rfl rfl rfl (Run_ok (ptr ib 0) (Ix.play (acts xs)) (Ix.bothQ 2 qa qb) pq1 cq1 (by rw [Ix.bothQ_size]; omega) (by rw [Ix.bothQ_wide]; omega) (Ix.right_both (by decide) (by decide) hma.form hmb.form (by omega) (by omega)) (tok_few (Ix.play_few _)) _ hq1 (.inr ⟨ib, rfl, hx⟩) hT) ?_ (fun _ _ _ _ ⟨_, _, h, _⟩ => by cases h) (fun _ _ ⟨_, _, h, _⟩ => by cases h))
 intro v37 I38 H39 hle40 hn36 hp41
 have hT := hT.mono hle40
 have hx := hx.mono hle40
 have hqa := hqa.mono hle40
 have hqb := hqb.mono hle40
 have hrs := hrs.mono hle40
 have hrt := hrt.mono hle40
 obtain ⟨w1, r1, h, hrun1, ho1⟩ := hp41; cases h
 refine J.keepO ho1 hn36 (fun I1 hle1 hr1 => ?_)
 have hT := hT.mono hle1
 have hx := hx.mono hle1
 have hqa := hqa.mono hle1
 have hqb := hqb.mono hle1
 have hrs := hrs.mono hle1
 have hrt := hrt.mono hle1
 replace hr1 := hr1.row
 obtain ⟨p1, c1, rfl⟩ := rowS_len hr1
 refine J.z q0 ?_
 refine J.z q11 ?_
 refine J.z q11 ?_
 refine J.z q1 ?_
 refine J.z q1 ?_
 refine J.nssr (J.z q0 ?_)
 refine J.z (q8 tA32 tS32 (Blk.at 1 rfl)) ?_
 refine J.z (q8 tA32 tS32 (Blk.at 0 rfl)) ?_
 refine J.op rfl (op_call (H1 := []) rfl rfl rfl rfl rfl (both_ok 3 qa qb pqa pqb cqa cqb _ hqa hqb) ?_ (fun _ _ _ _ h => by obtain ⟨⟨_, _, h, _⟩, _⟩ := h; cases h) (fun _ _ h => by obtain ⟨⟨_, _, h, _⟩, _⟩ := h; cases h))
 intro v42 I43 H44 hle45 hp46
 have hT := hT.mono hle45
 have hx := hx.mono hle45
 have hqa := hqa.mono hle45
 have hqb := hqb.mono hle45
 have hrs := hrs.mono hle45
 have hrt := hrt.mono hle45
 have hr1 := hr1.mono hle45
 obtain ⟨⟨pq2, cq2, h, hq2⟩, rfl⟩ := hp46; cases h
 refine J.op rfl (op_callN rfl rfl rfl rfl rfl (Run_ok (ptr ib 0) (Ix.play (acts xs)) (Ix.bothQ 3 qa qb) pq2 cq2 (by rw [Ix.bothQ_size]; omega) (by rw [Ix.bothQ_wide]; omega) (Ix.right_both (by decide) (by decide) hma.form hmb.form (by omega) (by omega)) (tok_few (Ix.play_few _)) _ hq2 (.inr ⟨ib, rfl, hx⟩) hT) ?_ (fun _ _ _ _ ⟨_, _, h, _⟩ => by cases h) (fun _ _ ⟨_, _, h, _⟩ => by cases h))
 intro v48 I49 H50 hle51 hn47 hp52
 have hT := hT.mono hle51
 have hx := hx.mono hle51
 have hqa := hqa.mono hle51
 have hqb := hqb.mono hle51
 have hrs := hrs.mono hle51
 have hrt := hrt.mono hle51
 have hr1 := hr1.mono hle51
 obtain ⟨w2, r2, h, hrun2, ho2⟩ := hp52; cases h
 refine J.keepO ho2 hn47 (fun I2 hle2 hr2 => ?_)
 have hT := hT.mono hle2
 have hx := hx.mono hle2
 have hqa := hqa.mono hle2
 have hqb := hqb.mono hle2
 have hrs := hrs.mono hle2
 have hrt := hrt.mono hle2
 have hr1 := hr1.mono hle2
 replace hr2 := hr2.row
 obtain ⟨p2, c2, rfl⟩ := rowS_len hr2
 refine J.z q0 ?_
 refine J.z q11 ?_
 refine J.z q11 ?_
 refine J.z q1 ?_
 refine J.z q1 ?_
 refine J.nssr (J.z q0 ?_)
 refine J.z (q8 tA32 tS32 (Blk.at 1 rfl)) ?_
 refine J.z (q8 tA32 tS32 (Blk.at 0 rfl)) ?_
 refine J.op rfl (op_call (H1 := []) rfl rfl rfl rfl rfl (both_ok 4 qa qb pqa pqb cqa cqb _ hqa hqb) ?_ (fun _ _ _ _ h => by obtain ⟨⟨_, _, h, _⟩, _⟩ := h; cases h) (fun _ _ h => by obtain ⟨⟨_, _, h, _⟩, _⟩ := h; cases h))
 intro v53 I54 H55 hle56 hp57
 have hT := hT.mono hle56
 have hx := hx.mono hle56
 have hqa := hqa.mono hle56
 have hqb := hqb.mono hle56
 have hrs := hrs.mono hle56
 have hrt := hrt.mono hle56
 have hr1 := hr1.mono hle56
 have hr2 := hr2.mono hle56
 obtain ⟨⟨pq3, cq3, h, hq3⟩, rfl⟩ := hp57; cases h
 refine J.op rfl (op_callN rfl rfl rfl rfl rfl (Run_ok (ptr ib 0) (Ix.play (acts xs)) (Ix.bothQ 4 qa qb) pq3 cq3 (by rw [Ix.bothQ_size]; omega) (by rw [Ix.bothQ_wide]; omega) (Ix.right_both (by decide) (by decide) hma.form hmb.form (by omega) (by omega)) (tok_few (Ix.play_few _)) _ hq3 (.inr ⟨ib, rfl, hx⟩) hT) ?_ (fun _ _ _ _ ⟨_, _, h, _⟩ => by cases h) (fun _ _ ⟨_, _, h, _⟩ => by cases h))
 intro v59 I60 H61 hle62 hn58 hp63
 have hT := hT.mono hle62
 have hx := hx.mono hle62
 have hqa := hqa.mono hle62
 have hqb := hqb.mono hle62
 have hrs := hrs.mono hle62
 have hrt := hrt.mono hle62
 have hr1 := hr1.mono hle62
 have hr2 := hr2.mono hle62
 obtain ⟨w3, r3, h, hrun3, ho3⟩ := hp63; cases h
 refine J.keepO ho3 hn58 (fun I3 hle3 hr3 => ?_)
 have hT := hT.mono hle3
 have hx := hx.mono hle3
 have hqa := hqa.mono hle3
 have hqb := hqb.mono hle3
 have hrs := hrs.mono hle3
 have hrt := hrt.mono hle3
 have hr1 := hr1.mono hle3
 have hr2 := hr2.mono hle3
 replace hr3 := hr3.row
 obtain ⟨p3, c3, rfl⟩ := rowS_len hr3
 refine J.z q0 ?_
 refine J.z q11 ?_
 refine J.z q11 ?_
 refine J.z q1 ?_
 refine J.z q1 ?_
 refine J.nssr (J.z q0 ?_)
 refine J.z (q8 tA32 tS32 (Blk.at 1 rfl)) ?_
 refine J.z (q8 tA32 tS32 (Blk.at 1 rfl)) ?_
 refine J.op rfl (op_call (H1 := []) rfl rfl rfl rfl rfl (both_ok 2 qa qa pqa pqa cqa cqa _ hqa hqa) ?_ (fun _ _ _ _ h => by obtain ⟨⟨_, _, h, _⟩, _⟩ := h; cases h) (fun _ _ h => by obtain ⟨⟨_, _, h, _⟩, _⟩ := h; cases h))
 intro v64 I65 H66 hle67 hp68
 have hT := hT.mono hle67
 have hx := hx.mono hle67
 have hqb := hqb.mono hle67
 have hrs := hrs.mono hle67
 have hrt := hrt.mono hle67
 have hr1 := hr1.mono hle67
 have hr2 := hr2.mono hle67
 have hr3 := hr3.mono hle67
 obtain ⟨⟨pq4, cq4, h, hq4⟩, rfl⟩ := hp68; cases h
 refine J.op rfl (op_callN rfl rfl rfl rfl rfl (Run_ok (ptr ib 0) (Ix.play (acts xs)) (Ix.bothQ 2 qa qa) pq4 cq4 (by rw [Ix.bothQ_size]; omega) (by rw [Ix.bothQ_wide]; omega) (Ix.right_both (by decide) (by decide) hma.form hma.form (by omega) (by omega)) (tok_few (Ix.play_few _)) _ hq4 (.inr ⟨ib, rfl, hx⟩) hT) ?_ (fun _ _ _ _ ⟨_, _, h, _⟩ => by cases h) (fun _ _ ⟨_, _, h, _⟩ => by cases h))
 intro v70 I71 H72 hle73 hn69 hp74
 have hT := hT.mono hle73
 have hx := hx.mono hle73
 have hqb := hqb.mono hle73
 have hrs := hrs.mono hle73
 have hrt := hrt.mono hle73
 have hr1 := hr1.mono hle73
 have hr2 := hr2.mono hle73
 have hr3 := hr3.mono hle73
 obtain ⟨w4, r4, h, hrun4, ho4⟩ := hp74; cases h
 refine J.keepO ho4 hn69 (fun I4 hle4 hr4 => ?_)
 have hT := hT.mono hle4
 have hx := hx.mono hle4
 have hqb := hqb.mono hle4
 have hrs := hrs.mono hle4
 have hrt := hrt.mono hle4
 have hr1 := hr1.mono hle4
 have hr2 := hr2.mono hle4
 have hr3 := hr3.mono hle4
 replace hr4 := hr4.row
 obtain ⟨p4, c4, rfl⟩ := rowS_len hr4
 refine J.z q0 ?_
 refine J.z q11 ?_
 refine J.z q11 ?_
 refine J.z q1 ?_
 refine J.z q1 ?_
 refine J.nssr (J.z q0 ?_)
 refine J.z (q8 tA32 tS32 (Blk.at 0 rfl)) ?_
 refine J.z (q8 tA32 tS32 (Blk.at 0 rfl)) ?_
 refine J.op rfl (op_call (H1 := []) rfl rfl rfl rfl rfl (both_ok 3 qb qb pqb pqb cqb cqb _ hqb hqb) ?_ (fun _ _ _ _ h => by obtain ⟨⟨_, _, h, _⟩, _⟩ := h; cases h) (fun _ _ h => by obtain ⟨⟨_, _, h, _⟩, _⟩ := h; cases h))
 intro v75 I76 H77 hle78 hp79
 have hT := hT.mono hle78
 have hx := hx.mono hle78
 have hrs := hrs.mono hle78
 have hrt := hrt.mono hle78
 have hr1 := hr1.mono hle78
 have hr2 := hr2.mono hle78
 have hr3 := hr3.mono hle78
 have hr4 := hr4.mono hle78
 obtain ⟨⟨pq5, cq5, h, hq5⟩, rfl⟩ := hp79; cases h
 refine J.op rfl (op_callN rfl rfl rfl rfl rfl (Run_ok (ptr ib 0) (Ix.play (acts xs)) (Ix.bothQ 3 qb qb) pq5 cq5 (by rw [Ix.bothQ_size]; omega) (by rw [Ix.bothQ_wide]; omega) (Ix.right_both (by decide) (by decide) hmb.form hmb.form (by omega) (by omega)) (tok_few (Ix.play_few _)) _ hq5 (.inr ⟨ib, rfl, hx⟩) hT) ?_ (fun _ _ _ _ ⟨_, _, h, _⟩ => by cases h) (fun _ _ ⟨_, _, h, _⟩ => by cases h))
 intro v81 I82 H83 hle84 hn80 hp85
 have hx := hx.mono hle84
 have hrs := hrs.mono hle84
 have hrt := hrt.mono hle84
 have hr1 := hr1.mono hle84
 have hr2 := hr2.mono hle84
 have hr3 := hr3.mono hle84
 have hr4 := hr4.mono hle84
 obtain ⟨w5, r5, h, hrun5, ho5⟩ := hp85; cases h
 refine J.keepO ho5 hn80 (fun I5 hle5 hr5 => ?_)
 have hx := hx.mono hle5
 have hrs := hrs.mono hle5
 have hrt := hrt.mono hle5
 have hr1 := hr1.mono hle5
 have hr2 := hr2.mono hle5
 have hr3 := hr3.mono hle5
 have hr4 := hr4.mono hle5
 replace hr5 := hr5.row
 obtain ⟨p5, c5, rfl⟩ := rowS_len hr5
 refine J.z q0 ?_
 refine J.z q11 ?_
 refine J.z q11 ?_
 refine J.z q1 ?_
 refine J.z q1 ?_
 refine J.nssr (J.z q0 ?_)
 refine J.op rfl (op_callN rfl rfl rfl rfl rfl (Titles_ok ib (Ix.play (acts xs)) _ hx) ?_ (fun _ _ _ _ ⟨_, _, h, _⟩ => by cases h) (fun _ _ ⟨_, _, h, _⟩ => by cases h))
 intro v87 I88 H89 hle90 hn86 hp91
 have hrs := hrs.mono hle90
 have hrt := hrt.mono hle90
 have hr1 := hr1.mono hle90
 have hr2 := hr2.mono hle90
 have hr3 := hr3.mono hle90
 have hr4 := hr4.mono hle90
 have hr5 := hr5.mono hle90
 obtain ⟨gti, hgti, h, rfl⟩ := hp91; cases h
 refine J.keepR recC_len (by decide) (hgti.base hn86) (by simp) (fun Iti hleti hrti => ?_)
 have hrs := hrs.mono hleti
 have hrt := hrt.mono hleti
 have hr1 := hr1.mono hleti
 have hr2 := hr2.mono hleti
 have hr3 := hr3.mono hleti
 have hr4 := hr4.mono hleti
 have hr5 := hr5.mono hleti
 refine J.z q1 ?_
 refine J.nsss ?_
 have htr0 : RowS recC _ ((Ix.play (acts xs)).map Prod.fst) _ := hrti
 have hpl : ((Ix.play (acts xs)).map Prod.fst).length = (Ix.play (acts xs)).length := List.length_map _
 obtain ⟨pti, cti, hpt⟩ := rowS_len htr0
 refine Cj.eqv 26 rfl (show _ = .slice pti ((Ix.play (acts xs)).map Prod.fst).length cti from by rw [hpl]; rw [hpl] at hpt; exact hpt) ?_
 have htr : RowS recC _ ((Ix.play (acts xs)).map Prod.fst) (.slice pti ((Ix.play (acts xs)).map Prod.fst).length cti) := hpt ▸ htr0
 clear htr0
 refine Cj.region (J.z q1 ?_)
 refine J.ns (Cj.block (Cj.keep (Keeps.d (Keeps.d Keeps.n)) ?_))
 refine Cj.loop (ι := Nat) (fun y => y ≤ ((Ix.play (acts xs)).map Prod.fst).length) (fun y => ((Ix.play (acts xs)).map Prod.fst).length - y) (fun y => [(7, .bool true), (12, .slice ps rs.length cs), (14, .slice pt rt.length ct), (16, .slice p1 r1.length c1), (18, .slice p2 r2.length c2), (20, .slice p3 r3.length c3), (22, .slice p4 r4.length c4), (24, .slice p5 r5.length c5), (17, i64 0), (19, i64 0), (21, i64 0), (26, .slice pti ((Ix.play (acts xs)).map Prod.fst).length cti), (27, i64 (y : Int))]) (fun y => _) (fun y => []) 0 (Nat.zero_le _) ⟨rfl, rfl, rfl, rfl, rfl, rfl, rfl, rfl, rfl, rfl, rfl, rfl, rfl, trivial⟩ rfl rfl ?_
 intro i hi
 refine Cj.seq (Cj.sr (J.z q0 ?_))
 refine J.z q0 ?_
 refine J.z (q15 tU36) ?_
 refine J.z q18 ?_
 refine J.cd (fun hc92 => ?_) (fun hc92 => ?_)
 ·have hc92p := odt hc92
  have hlt : i < ((Ix.play (acts xs)).map Prod.fst).length := by omega
  obtain ⟨t, hgt⟩ : ∃ x, ((Ix.play (acts xs)).map Prod.fst)[i]? = some x := ⟨_, lgg hlt⟩
  have htm := titles_in hgt
  have hc1 := hrun1.two (by decide) hruns hrunt htm
  have hc2 := hrun2.two (by decide) hruns hrunt htm
  have hc3 := hrun3.two (by decide) hruns hrunt htm
  obtain ⟨p5, c5, hpe5, hc5, hp5⟩ := id htr
  cases hpe5
  obtain ⟨tb, tof, tcs, tty, tfr, tsp, rfl, htb, htd⟩ := hp5 (ne_nil_of hlt)
  refine Cj.ks (Cj.seq (Cj.block (Cj.sr (J.z q0 ?_))))
  refine J.z q0 ?_
  refine J.z q0 ?_
  refine J.z (q14 (off' := tof + i * 2) tU36 tS54) ?_
  refine J.z (yl_loadAgg rfl rfl tA54 tS54 (Blk.imm htb) (row_from recC_len htd hgt) rfl) ?_
  refine J.op rfl (op_pure rfl rfl rfl rfl rfl (lcontains_ok rs t _ (nlt hruns.len (by omega)) _ hrs) ?_)
  refine J.z q1 ?_
  refine J.nssr (J.z q0 ?_)
  refine J.z q0 ?_
  refine J.z q0 ?_
  refine J.z (q14 (off' := tof + i * 2) tU36 tS54) ?_
  refine J.z (yl_loadAgg rfl rfl tA54 tS54 (Blk.imm htb) (row_from recC_len htd hgt) rfl) ?_
  refine J.op rfl (op_pure rfl rfl rfl rfl rfl (lcontains_ok rt t _ (nlt hrunt.len (by omega)) _ hrt) ?_)
  refine J.z q1 ?_
  refine J.nssr (J.z q0 ?_)
  refine J.z q0 ?_
  refine J.z q0 ?_
  refine J.z (q14 (off' := tof + i * 2) tU36 tS54) ?_
  refine J.z (yl_loadAgg rfl rfl tA54 tS54 (Blk.imm htb) (row_from recC_len htd hgt) rfl) ?_
  refine J.op rfl (op_pure rfl rfl rfl rfl rfl (lcontains_ok r1 t _ (nlt hrun1.len (by omega)) _ hr1) ?_)
  refine J.z q0 ?_
  refine J.z q0 ?_
  refine J.split 119 rfl (fun hg93 => ?_) (fun hg93 => ?_)
  ·refine q13 7 119 true hg93 (q6 q0 ?_)
   refine J.z (q22 hg93) ?_
   refine J.z (yl_neqBool rfl rfl rfl tU4) ?_
   refine J.eqv 122 rfl (show _ = .bool false from (congrArg Value.bool (bne_of (by rw [hc1, hg93]; simp [Ix.comb])))) ?_
   refine J.z q0 ?_
   refine q19 11 123 false (q6 q0 ?_)
   refine q19 11 123 false (q6 q0 ?_)
   refine q19 11 123 false (q6 q0 ?_)
   refine J.opG 11 123 false _ rfl rfl rfl rfl (op_yld (q14 (off' := tof + i * 2) tU36 tS54) rfl rfl ?_)
   refine q19 11 123 false (q6 (yl_loadAgg rfl rfl tA54 tS54 (Blk.imm htb) (row_from recC_len htd hgt) rfl) ?_)
   refine J.opG 11 123 false _ rfl rfl rfl rfl (op_pure rfl rfl rfl rfl rfl (lcontains_ok r2 t _ (nlt hrun2.len (by omega)) _ hr2) ?_)
   refine q19 11 123 false (q6 q0 ?_)
   refine q19 11 123 false (q6 q0 ?_)
   refine q12 19 131 132 false hg93 ?_
   refine q19 11 123 false (q6 (q22 hg93) ?_)
   refine q19 11 123 false (q6 (yl_neqBool rfl rfl rfl tU4) ?_)
   refine J.eqv 134 rfl (show _ = .bool false from (congrArg Value.bool (bne_of (by rw [hc2, hg93]; simp [Ix.comb])))) ?_
   refine J.z (yl_pick0 rfl rfl rfl rfl) ?_
   refine J.z q0 ?_
   refine q19 24 136 false (q6 q0 ?_)
   refine q19 24 136 false (q6 q0 ?_)
   refine q19 24 136 false (q6 q0 ?_)
   refine J.opG 24 136 false _ rfl rfl rfl rfl (op_yld (q14 (off' := tof + i * 2) tU36 tS54) rfl rfl ?_)
   refine q19 24 136 false (q6 (yl_loadAgg rfl rfl tA54 tS54 (Blk.imm htb) (row_from recC_len htd hgt) rfl) ?_)
   refine J.opG 24 136 false _ rfl rfl rfl rfl (op_pure rfl rfl rfl rfl rfl (lcontains_ok r3 t _ (nlt hrun3.len (by omega)) _ hr3) ?_)
   refine q19 24 136 false (q6 q0 ?_)
   refine q19 24 136 false (q6 q0 ?_)
   refine q13 32 144 true hg93 (q6 q0 ?_)
   refine q13 32 144 true hg93 (q6 (yl_not rfl rfl) ?_)
   refine q19 24 136 false (q6 (q22 hg93) ?_)
   refine q19 24 136 false (q6 (yl_neqBool rfl rfl rfl tU4) ?_)
   refine J.eqv 148 rfl (show _ = .bool false from (congrArg Value.bool (bne_of (by rw [hc3, hg93]; simp [Ix.comb])))) ?_
   refine J.z (yl_pick0 rfl rfl rfl rfl) ?_
   refine J.c0 (fun hc94 => ?_)
   refine Cj.kb (Cj.region (J.z q0 ?_))
   refine J.z (yl_add rfl rfl rfl (w64 (by omega))) ?_
   refine J.z q1 ?_
   refine J.nil (Ej.round (i + 1) (by omega) (by omega) ⟨rfl, rfl, rfl, rfl, rfl, rfl, rfl, rfl, rfl, rfl, rfl, rfl, rfl, trivial⟩ rfl rfl)
  refine q12 7 119 120 true hg93 ?_
  refine J.z (q23 hg93) ?_
  refine J.z (yl_neqBool rfl rfl rfl tU4) ?_
  refine J.eqv 122 rfl (show _ = .bool false from (congrArg Value.bool (bne_of (by rw [hc1, hg93]; simp [Ix.comb])))) ?_
  refine J.z q0 ?_
  refine q19 11 123 false (q6 q0 ?_)
  refine q19 11 123 false (q6 q0 ?_)
  refine q19 11 123 false (q6 q0 ?_)
  refine J.opG 11 123 false _ rfl rfl rfl rfl (op_yld (q14 (off' := tof + i * 2) tU36 tS54) rfl rfl ?_)
  refine q19 11 123 false (q6 (yl_loadAgg rfl rfl tA54 tS54 (Blk.imm htb) (row_from recC_len htd hgt) rfl) ?_)
  refine J.opG 11 123 false _ rfl rfl rfl rfl (op_pure rfl rfl rfl rfl rfl (lcontains_ok r2 t _ (nlt hrun2.len (by omega)) _ hr2) ?_)
  refine q19 11 123 false (q6 q0 ?_)
  refine q19 11 123 false (q6 q0 ?_)
  refine q13 19 131 false hg93 (q6 q0 ?_)
  refine q19 11 123 false (q6 (q23 hg93) ?_)
  refine q19 11 123 false (q6 (yl_neqBool rfl rfl rfl tU4) ?_)
  refine J.eqv 134 rfl (show _ = .bool false from (congrArg Value.bool (bne_of (by rw [hc2, hg93]; simp [Ix.comb])))) ?_
  refine J.z (yl_pick0 rfl rfl rfl rfl) ?_
  refine J.z q0 ?_
  refine q19 24 136 false (q6 q0 ?_)
  refine q19 24 136 false (q6 q0 ?_)
  refine q19 24 136 false (q6 q0 ?_)
  refine J.opG 24 136 false _ rfl rfl rfl rfl (op_yld (q14 (off' := tof + i * 2) tU36 tS54) rfl rfl ?_)
  refine q19 24 136 false (q6 (yl_loadAgg rfl rfl tA54 tS54 (Blk.imm htb) (row_from recC_len htd hgt) rfl) ?_)
  refine J.opG 24 136 false _ rfl rfl rfl rfl (op_pure rfl rfl rfl rfl rfl (lcontains_ok r3 t _ (nlt hrun3.len (by omega)) _ hr3) ?_)
  refine q19 24 136 false (q6 q0 ?_)
  refine q19 24 136 false (q6 q0 ?_)
  refine q12 32 144 145 true hg93 ?_
  refine q12 32 144 146 true hg93 ?_
  refine q19 24 136 false (q6 (q23 hg93) ?_)
  refine q19 24 136 false (q6 (yl_neqBool rfl rfl rfl tU4) ?_)
  refine J.eqv 148 rfl (show _ = .bool false from (congrArg Value.bool (bne_of (by rw [hc3, hg93]; simp [Ix.comb])))) ?_
  refine J.z (yl_pick0 rfl rfl rfl rfl) ?_
  refine J.c0 (fun hc95 => ?_)
  refine Cj.kb (Cj.region (J.z q0 ?_))
  refine J.z (yl_add rfl rfl rfl (w64 (by omega))) ?_
  refine J.z q1 ?_
  refine J.nil (Ej.round (i + 1) (by omega) (by omega) ⟨rfl, rfl, rfl, rfl, rfl, rfl, rfl, rfl, rfl, rfl, rfl, rfl, rfl, trivial⟩ rfl rfl)
 have hc92p := odf hc92
 refine Cj.xl (Cj.sr (J.z q0 ?_))
 refine J.z q0 ?_
 refine q19 1 151 true (q6 q0 ?_)
 refine q19 1 151 true (q6 q20 ?_)
 refine J.z (yl_pick1 rfl rfl rfl rfl) ?_
 refine J.z q0 ?_
 refine q19 5 155 true (q6 q0 ?_)
 refine q19 5 155 true (q6 q20 ?_)
 refine J.z (yl_pick1 rfl rfl rfl rfl) ?_
 refine J.z q0 ?_
 refine q19 9 159 true (q6 q0 ?_)
 refine q19 9 159 true (q6 q20 ?_)
 refine J.z (yl_pick1 rfl rfl rfl rfl) ?_
 refine J.z q0 ?_
 refine q19 13 163 true (q6 q0 ?_)
 refine q19 13 163 true (q6 q0 ?_)
 refine J.opG 13 163 true _ rfl rfl rfl rfl (op_pure rfl rfl rfl rfl rfl (rRecs_ok r4 rs _ _ (nlt hrun4.len (by omega)) _ hr4 hrs) ?_)
 refine J.eqv 166 rfl (show _ = .bool true from (congrArg Value.bool (decide_eq_true (hrun4.same (.inl rfl) hruns)))) ?_
 refine J.z (yl_pick1 rfl rfl rfl rfl) ?_
 refine J.z q0 ?_
 refine q19 18 168 true (q6 q0 ?_)
 refine q19 18 168 true (q6 q0 ?_)
 refine J.opG 18 168 true _ rfl rfl rfl rfl (op_pure rfl rfl rfl rfl rfl (rRecs_ok r5 rt _ _ (nlt hrun5.len (by omega)) _ hr5 hrt) ?_)
 refine J.eqv 171 rfl (show _ = .bool true from (congrArg Value.bool (decide_eq_true (hrun5.same (.inr rfl) hrunt)))) ?_
 refine J.z (yl_pick1 rfl rfl rfl rfl) ?_
 refine J.z q1 ?_
 refine J.ns (Cj.ret (q4 ?_))
 exact ⟨rfl, rfl⟩
end Go.Proofs.YtekmeaoblpfnpaaGreatDoor
namespace Go.Proofs.YtekmeaoblpfnpaaGreatDoor
open Go.ChangeShapes Go.WideShapes Go.ChangeAt Go.RowKit Go.Sx Go.Lib Go.ChangeMaps
theorem tab_of_reads {P : Program} {W : World} {name : String} {k : IntKind} {zs : List Int} {g : Nat} {t e : TypeId} {n : Nat}
    (hg : P.globalNamed name = some g) (hty : (P.globals[g]?).map (·.type) = some t) (ht : P.underlying t = some (.array n e)) (he : P.underlying e = some (.int k)) (hce : P.cellsOf e = 1) (hct : P.cellsOf t = n)
    (h : VarReads P W name (tabData k zs)) : TabIs P W name k zs := by
  obtain ⟨g', t', cs, fuel, p, hg', ht', hvar, hd⟩ := h
  obtain rfl := Option.some.inj (hg.symm.trans hg')
  obtain rfl := Option.some.inj (hty.symm.trans ht')
  unfold TabIs
  rw [hvar, ← cells_of_tab ht he hce hct hd]
theorem stab_of {W : World} {L : List (String × DataW Unit)} (hL : laidMet Tryz.prog L W) (hw : ("unicode.White_Space", Rows.laid_unicode_White_Space) ∈ L) (ha : ("strings.asciiSpace", Rows.laid_strings_asciiSpace) ∈ L) : STab (HW W) := by
  have e1 : (Rows.laid_unicode_White_Space : DataW Unit) = whiteData := by kernel_rfl
  have e2 : (Rows.laid_strings_asciiSpace : DataW Unit) = tabData .u8 asciiSpaceTab := by kernel_rfl
  have hT : TabIs Tryz.prog W "strings.asciiSpace" .u8 asciiSpaceTab := tab_of_reads (g := 1) (t := Tryz.lays157_ren.t 119) (e := Tryz.lays157_ren.t 5) (n := 256) (by kernel_rfl) (by kernel_rfl) Tryz.lays157.t119 Tryz.lays157.t5 (by kernel_rfl) (by kernel_rfl) (e2 ▸ laidMet.reads hL ha)
  have hS : WhiteTab 3 W := whiteTab_of_reads (ρ := Tryz.lays157_ren) { Tryz.lays157 with } ⟨by kernel_rfl, by kernel_rfl, by kernel_rfl, by kernel_rfl, by kernel_rfl, by kernel_rfl, by kernel_rfl, by kernel_rfl⟩ (e1 ▸ laidMet.reads hL hw)
  intro w hwW
  have key : ∀ (a : Addr) (v : Value), W.cell? a = some v → w.cell? a = some v := fun a v h => by
    have h0 := h
    unfold World.cell? at h
    cases hb : W.heap[a.block]? with
    | none => rw [hb] at h; cases h
    | some o =>
      have := World.cell?_of_block (w := w) (w' := W) (a := a) (by rw [hwW _ _ hb, hb])
      rw [← this]; exact h0
  refine ⟨?_, ?_⟩
  · unfold TabIs World.var? at hT ⊢
    have hg : Tryz.prog.globalNamed "strings.asciiSpace" = some 1 := by kernel_rfl
    rw [hg] at hT ⊢
    simp only [Option.bind_some] at hT ⊢
    cases hb : W.heap[(1 : Nat)]? with
    | none => rw [hb] at hT; cases hT
    | some o => rw [hwW _ _ hb]; rw [hb] at hT; exact hT
  obtain ⟨T, oT, R, oR, h1, h2, h3, h4, h5⟩ := hS
  exact ⟨T, oT, R, oR, key _ _ h1, key _ _ h2, key _ _ h3, key _ _ h4, fun i hi => key _ _ (h5 i hi)⟩
end Go.Proofs.YtekmeaoblpfnpaaGreatDoor
namespace Go.Proofs.YtekmeaoblpfnpaaGreatDoor
open Go.ChangeShapes Go.WideShapes Go.ChangeAt Go.RowKit Go.Sx Go.Lib Go.ChangeMaps Go.WideMaps
section
variable {H : Type} {enc : TypeId × Value → H} {W : World} {base : Nat}
theorem Arg.field {fs : Array Field} {cs : List Value} {ms : List Nat} (h : ∀ (i : Nat) f m', fs[i]? = some f → ms[i]? = some m' → Arg enc W f.type ((cs.drop f.offset).take (Tryz.prog.cellsOf f.type)) m') (i : Nat) {f : Field} {m t o k : Nat}
    (hf : fs[i]? = some f) (hm : ms[i]? = some m) (ht : f.type = t) (ho : f.offset = o) (hc : Tryz.prog.cellsOf t = k) : Arg enc W t ((cs.drop o).take k) m := by
  subst ht ho hc
  exact h i f m hf hm
theorem list4 {α : Type} {l : List α} (h : l.length = 4) : ∃ a b c d, l = [a, b, c, d] := by
  match l, h with
  | [a, b, c, d], _ => exact ⟨a, b, c, d, rfl⟩
theorem wf_in64 {n : Int} (h : (Lit.int .i64 n).wf = true) : In64 n := by
  have h1 : (decide (-9223372036854775808 ≤ n) && decide (n ≤ 9223372036854775807)) = true := h
  rw [Bool.and_eq_true, decide_eq_true_eq, decide_eq_true_eq] at h1
  exact h1
theorem Arg.elem {e k : Nat} {cs : List Value} {ms : List Nat} (h : ∀ (i m' : Nat), ms[i]? = some m' → Arg enc W e ((cs.drop (i * 1)).take 1) m') (he : Tryz.prog.underlying e = some (.int .i64)) (hml : ms.length = k) (i : Nat) (hi : i < k) : ∃ z : Int, cs[i]? = some (i64 z) ∧ In64 z := by
  have hm : ms[i]? = some (ms[i]'(by omega)) := List.getElem?_eq_getElem _
  obtain ⟨z, hz, hw, _⟩ := (h i _ hm).int he
  refine ⟨z, ?_, wf_in64 hw⟩
  have := congrArg (fun l => l[0]?) hz
  simpa [List.getElem?_drop] using this
theorem list_four {cs : List Value} (hl : cs.length = 4) (h : ∀ i, i < 4 → ∃ z : Int, cs[i]? = some (i64 z) ∧ In64 z) : ∃ q : Ix.Four, cs = fourC q ∧ FourOk q := by
  match cs, hl with
  | [a, b, c, d], _ =>
    obtain ⟨z0, e0, w0⟩ := h 0 (by decide)
    obtain ⟨z1, e1, w1⟩ := h 1 (by decide)
    obtain ⟨z2, e2, w2⟩ := h 2 (by decide)
    obtain ⟨z3, e3, w3⟩ := h 3 (by decide)
    cases e0; cases e1; cases e2; cases e3
    exact ⟨⟨z0, z1, z2, z3⟩, rfl, ⟨w0, w1, w2, w3⟩⟩
theorem Arg.four {cs : List Value} {m : Nat} (h : Arg enc W 215 cs m) : ∃ q : Ix.Four, cs = fourC q ∧ FourOk q := by
  obtain ⟨hl, ms, hml, _, hf⟩ := h.array Tryz.underlying215
  rw [show Tryz.prog.cellsOf 215 = 4 by kernel_rfl] at hl
  rw [show Tryz.prog.cellsOf 3 = 1 by kernel_rfl] at hf
  exact list_four hl fun i hi => Arg.elem hf Tryz.underlying3 hml i hi
theorem Arg.act {cs : List Value} {m : Nat} (h : Arg enc W 93 cs m) : ∃ x : Act, cs = actC x ∧ RowS fourC (HW W) x.a.fs x.v ∧ ∀ q ∈ x.a.fs, FourOk q := by
  obtain ⟨hl, ms, hml, hms, hf⟩ := h.struct Tryz.underlying93
  rw [show Tryz.prog.cellsOf 93 = 4 by kernel_rfl] at hl
  obtain ⟨a, b, c, d, rfl⟩ := list4 hl
  obtain ⟨m0, m1, m2, m3, rfl⟩ := list4 hml
  have cI : Tryz.prog.cellsOf 3 = 1 := by kernel_rfl
  obtain ⟨b0, h0⟩ := (Arg.field hf (o := 0) 0 rfl rfl rfl rfl (show Tryz.prog.cellsOf 4 = 1 by kernel_rfl)).bool Tryz.underlying4
  obtain ⟨z1, h1, _, _⟩ := (Arg.field hf (o := 1) 1 rfl rfl rfl rfl cI).int Tryz.underlying3
  obtain ⟨z2, h2, _, _⟩ := (Arg.field hf (o := 2) 2 rfl rfl rfl rfl cI).int Tryz.underlying3
  obtain ⟨l, v, h3, hr, _, _, hq⟩ := (Arg.field hf (o := 3) 3 rfl rfl rfl rfl (show Tryz.prog.cellsOf 91 = 1 by kernel_rfl)).row (f := fourC) (size := fun _ => 0) Tryz.underlying91 (show Tryz.prog.cellsOf 215 = 4 by kernel_rfl) (by decide) FourOk fun cs m' _ h => by
    obtain ⟨q, h1, h2⟩ := h.four
    exact ⟨q, h1, Nat.zero_le _, h2⟩
  simp only [List.drop_zero, List.drop_succ_cons, List.take_succ_cons, List.take_zero, List.cons.injEq, and_true] at h0 h1 h2 h3
  subst h0 h1 h2 h3
  exact ⟨⟨⟨b0, z1, z2, l⟩, d⟩, rfl, hr, hq⟩
theorem arg_acts {v : Value} {d : DataW H} {p : List MemPlace} (hval : Value.okWide Tryz.prog W .any base 22 v) (h : DataW.Trod enc Tryz.prog W 0 (fun _ => true) true 22 v d p) (hlt : ∀ x ∈ p, x.block < W.heap.size) :
    ∃ xs : List Act, ActsS (HW W) xs v ∧ ActsOk xs ∧ Again enc W 22 v d p := by
  have hag := again (by kernel_rfl) (of_decide_eq_true (by kernel_rfl)) h hlt
  obtain ⟨a, len, cap, rfl⟩ := okWide_slice Tryz.underlying22 hval
  obtain ⟨xs, v', h1, h2, _, _, h4⟩ := (Arg.of h).row (f := actC) (size := fun _ => 0) Tryz.underlying22 (show Tryz.prog.cellsOf 93 = 4 by kernel_rfl) (by decide) (fun x => RowS fourC (HW W) x.a.fs x.v ∧ ∀ q ∈ x.a.fs, FourOk q) fun cs m' _ h => by
    obtain ⟨x, h1, h2, h3⟩ := h.act
    exact ⟨x, h1, Nat.zero_le _, h2, h3⟩
  obtain rfl : Value.slice a len cap = v' := by simpa [Value.cells] using h1
  exact ⟨xs, ⟨h2, fun x hx => (h4 x hx).1⟩, fun x hx => (h4 x hx).2, hag⟩
