/-
  The law IndexBuilds. Own text, printed by a program. Conditions: none.
-/
import Derived.Test.YtjcdfnbomkoheaaGreatDoorPB18
set_option maxRecDepth 100000
set_option maxHeartbeats 4000000
namespace Go.Proofs.YtjcdfnbomkoheaaGreatDoor
open Go Go.Sx
theorem IndexBuilds_ok (xs : List Act) (v : Value) (hao : ActsOk xs) (n : UInt8) (text : List UInt8) (htl : text.length ≤ 100000000) (I : Heap) (hA : ActsS I xs v) : Pure Tryz.prog 7 [v, u8 n, str text] I (.bool true) := by
 refine Ctr.toPure ?_
 refine Ctr.ob Tryz.func7 ?_
 intro w0 hw0
 refine Cj.sr (J.z q1 ?_)
 refine J.nssr (J.op rfl (op_pure rfl rfl rfl rfl rfl (sanity_ok _) ?_))
 refine J.z q1 ?_
 refine J.nssr (J.z q0 ?_)
 refine J.op rfl (op_call (H1 := []) rfl rfl rfl rfl rfl (Entries_ok xs _ hao _ hA) ?_ (fun _ _ _ _ ⟨_, _, h, _⟩ => nomatch h) (fun _ _ ⟨_, _, h, _⟩ => nomatch h))
 intro v1 I2 H3 hle4 hp5
 obtain ⟨es, w, h, hE, hL, hek, hel, rfl⟩ := hp5; cases h
 refine J.z q1 ?_
 refine J.nssr (J.z q0 ?_)
 refine J.z q0 ?_
 refine q12 1 13 true (q2 q0 ?_)
 refine J.opG 1 13 true _ rfl rfl rfl rfl (q52 rfl rfl rfl rfl rfl (Build_ok (es) _ (by omega) hek _ hE) ?_)
 intro v7 I8 H9 hle10 hn6 hp11
 have hE := hE.mono hle10
 obtain ⟨ib, o, h, hok, rfl⟩ := hp11; cases h
 refine J.persists (ixH ib o) hn6 (fun Ip hlep hK => ?_)
 have hE := hE.mono hlep
 have hx : IxP Ip ib (Ix.rputs ((es).map entL) []) := ⟨o, hok.mono hlep, hK⟩
 clear hok hK
 refine q12 1 13 true (q2 q0 ?_)
 refine J.opG 1 13 true _ rfl rfl rfl rfl (q52 rfl rfl rfl rfl rfl (rBuild_ok (es) _ (by omega) _ hE) ?_)
 intro v13 I14 H15 hle16 hn12 hp17
 have hx := hx.mono hle16
 obtain ⟨rb, w, h, hE9, rfl⟩ := hp17; cases h
 refine J.persists [(rb, _)] hn12 (fun Iq hleq hK => ?_)
 have hx := hx.mono hleq
 have hel9 := eputs_len (es) []
 rw [List.length_nil] at hel9
 have hy : RxP Iq rb ((es).foldl eput []) := RxP.of (hK (rb, _) (.head _)) (hE9.mono hleq) (by omega) (fun e he => (eputs_mem he).elim (hek e) (fun g => by cases g)) (by rw [eputs_puts]; exact Ix.rputs_srt _ List.Pairwise.nil)
 clear hE9 hK
 refine q12 1 13 true (q2 q0 ?_)
 refine q12 1 13 true (op_pure rfl rfl rfl rfl rfl (name_ok n _) ?_)
 refine q12 1 13 true (q2 q0 ?_)
 refine q12 1 13 true (op_pure rfl rfl rfl rfl rfl (same_ok ib rb (es.foldl eput []) (nameN n) text htl _ ((eputs_puts es []).symm ▸ hx) hy) ?_)
 refine J.z q48 ?_
 refine J.z q1 ?_
 refine J.ns (Cj.ret (q6 ?_))
 exact ⟨rfl, rfl⟩
end Go.Proofs.YtjcdfnbomkoheaaGreatDoor
