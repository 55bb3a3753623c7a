/-
  The law IndexPlays. Own text, printed by a program. Conditions: none.
-/
import Derived.Test.YtjcdfnbomkoheaaGreatDoorPP8
set_option maxRecDepth 100000
set_option maxHeartbeats 4000000
namespace Go.Proofs.YtjcdfnbomkoheaaGreatDoor
open Go Go.Sx
theorem IndexPlays_ok (xs : List Act) (v : Value) (hao : ActsOk xs) (n : UInt8) (text : List UInt8) (htl : text.length ≤ 100000000) (I : Heap) (hA : ActsS I xs v) : Pure Tryz.prog 8 [v, u8 n, str text] I (.bool true) := by
 refine Ctr.toPure ?_
 refine Ctr.ob Tryz.func8 ?_
 intro w0 hw0
 refine Cj.sr (J.z q1 ?_)
 refine J.nssr (J.op rfl (op_pure rfl rfl rfl rfl rfl (sanity_ok _) ?_))
 refine J.z q1 ?_
 refine J.nssr (J.z q0 ?_)
 refine J.z q0 ?_
 refine q12 1 10 true (q2 q0 ?_)
 refine J.opG 1 10 true _ rfl rfl rfl rfl (q57 rfl rfl rfl rfl rfl (play_ok xs _ hao _ hA) ?_)
 intro v2 I3 H4 hle5 hn1 hp6
 have hA := hA.mono hle5
 obtain ⟨ib, o, h, hok, rfl⟩ := hp6; cases h
 refine J.persists (ixH ib o) hn1 (fun Ip hlep hK => ?_)
 have hA := hA.mono hlep
 have hx : IxP Ip ib (Ix.play (acts xs)) := ⟨o, hok.mono hlep, hK⟩
 clear hok hK
 refine q12 1 10 true (q2 q0 ?_)
 refine J.opG 1 10 true _ rfl rfl rfl rfl (op_callN rfl rfl rfl rfl rfl (rPlay_ok xs _ hao _ hA) ?_ (fun _ _ _ _ ⟨_, _, _, h, _⟩ => nomatch h) (fun _ _ ⟨_, _, _, h, _⟩ => nomatch h))
 intro v8 I9 H10 hle11 hn7 hp12
 have hx := hx.mono hle11
 obtain ⟨rb, es, w, h, hE, hL, hek, hel, rfl⟩ := hp12; cases h
 refine J.persists [(rb, _)] hn7 (fun Iq hleq hK => ?_)
 have hx := hx.mono hleq
 have hy : RxP Iq rb es := RxP.of (hK (rb, _) (.head _)) (hE.mono hleq) (by omega) hek (hL ▸ Ix.play_srt _)
 clear hE hK
 refine q12 1 10 true (q2 q0 ?_)
 refine q12 1 10 true (op_pure rfl rfl rfl rfl rfl (name_ok n _) ?_)
 refine q12 1 10 true (q2 q0 ?_)
 refine q12 1 10 true (op_pure rfl rfl rfl rfl rfl (same_ok ib rb es (nameN n) text htl _ (hL.symm ▸ hx) hy) ?_)
 refine J.z q51 ?_
 refine J.z q1 ?_
 refine J.ns (Cj.ret (q6 ?_))
 exact ⟨rfl, rfl⟩
end Go.Proofs.YtjcdfnbomkoheaaGreatDoor
