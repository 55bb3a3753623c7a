/-
  Own texts on the laws of the seat, joined: the logic, and contracts of functions. Conditions: none.
-/
import Derived.Test.YtekmeaoblpfnpaaGreatDoorNmP
import Derived.Test.YtekmeaoblpfnpaaGreatDoorPP3
import Derived.Lib.Bytealg
set_option maxRecDepth 100000
set_option maxHeartbeats 40000000
set_option maxRecDepth 100000
set_option maxHeartbeats 40000000
namespace Go.Proofs.YtekmeaoblpfnpaaGreatDoor
open _root_.Go.Proofs.Tryz
open Go Go.Sx
theorem yl_sliceFromAny {cx : Cx} {o : Oper} {e : Env} {S : World → Prop} {x y : Operand} {T E b off n c sz j : Nat} {kl : IntKind} (ho : o.op = .slice T x (some y) none none) (hx : ev e x = some (.slice (some ⟨b, off, Option.none⟩) n c)) (hy : ev e y = some (.int kl (j : Int))) (hu : cx.P.underlying T = some (.slice E)) (hsz : ∀ w, (sizeOf E).run cx.P w = .ok sz w) (hj : j ≤ n) (hc : j ≤ c) :
    Yld cx o e S (.slice (some ⟨b, if c = j then off else off + j * sz, none⟩) (n - j) (c - j)) := by
  by_cases h : c = j
  · intro a w ha _
    have h1 : (j : Int) ≤ n := by omega
    simp [execOp, ho, ha.eval hx, ha.eval hy, Instr.sliceAt, Instr.slice, run_underlying hu, Instr.sliceBounds, run_sliceBound, h1, hsz, h]
  rw [if_neg h]
  exact yl_sliceFrom ho hx hy hu hsz hj (by omega)
theorem LSpl.none {α : Type} {l : List α} {i : Nat} (h : i ≤ l.length) : LSpl l i [] l := ⟨by simpa using h, by simp⟩
theorem Count_ok (s : List UInt8) (c : UInt8) (I : Heap) : Pure Tryz.prog 373 [str s, str [c]] I (i64 (s.count c)) :=
  Pure.of_same (Enters.of func373 (by decide) rfl) fun w _ => by
    have h := Tryz.strings_Count_one ⟨s.toArray⟩ c w
    rw [ba_list] at h
    exact h
theorem bsReplace_ok (xb : Nat) (s : List UInt8) (hs : s.length ≤ 1000000000) (I : Heap) (hb : BSR I xb) : Pure Tryz.prog 371 [ptr xb 0, str s] I (str (Ke.rep s)) := by
 obtain ⟨v1, v2, tr, hxb, ⟨l1, c1, sp1, fr1, rfl, hv1⟩, ⟨l2, c2, sp2, fr2, rfl, hv2⟩, tb, tc, tsp, rfl, htb⟩ := hb
 rw [show ([[45], [32]] : List (List UInt8)).length = 2 from rfl, show ([] : List UInt8).length = 0 from rfl] at hxb
 have hec := Ke.rep_cnt s
 have hcc := Ke.cnt_counts s
 have hcl : Ke.cnt s ≤ s.length := List.countP_le_length
 refine Ctr.ob func371 ?_
 intro w0 hw0
 refine Cj.sr (J.z q1 ?_)
 refine J.nssr (J.z q0 ?_)
 refine J.z (yl_lenStr rfl rfl tU9) ?_
 refine J.z q1 ?_
 refine J.nssr (J.z q1 ?_)
 refine J.nsss (Cj.region (J.z q0 ?_))
 refine J.z q6 ?_
 refine J.z (q2 (off' := 256) tU364 tS69) ?_
 refine J.z (yl_load rfl rfl tA69 (Blk.imm hxb) (tab_tr _ _)) ?_
 refine J.z (q14 tU69) ?_
 refine J.z (yl_mul rfl rfl rfl (w64 (by omega))) ?_
 refine J.z q0 ?_
 refine J.z (yl_lenStr rfl rfl tU9) ?_
 refine J.z (yl_leq rfl rfl rfl) ?_
 refine J.cd (fun hc1 => ?_) (fun hc1 => ?_)
 ·have hc1p := odt hc1
  refine Cj.sr (J.z q0 ?_)
  refine J.z q6 ?_
  refine J.z (q2 (off' := 256) tU364 tS69) ?_
  refine J.z (yl_load rfl rfl tA69 (Blk.imm hxb) (tab_tr _ _)) ?_
  refine J.z (q14 tU69) ?_
  refine J.z q0 ?_
  refine J.ns (Cj.block (Cj.rounds 3 ?_))
  refine Rj.succ ?_
  refine Cj.sr (J.z q18 ?_)
  refine J.nss (Cj.cond rfl (fun hc2 => ?_) (fun hc2 => Bool.noConfusion (Eq.trans (Eq.symm (by first | rfl | decide)) hc2)))
  refine Cj.ks (Cj.seq (Cj.block (Cj.sr (J.z (yl_indexAddr (off' := 0) rfl rfl rfl tU69 tS9 (by decide) (by decide) (by decide)) ?_))))
  refine J.z (q3 tA9 (Blk.imm htb)) ?_
  refine J.z q1 ?_
  refine J.nssr (J.z q0 ?_)
  refine J.z q0 ?_
  refine J.op rfl (op_pure rfl rfl rfl rfl rfl (Count_ok s 45 _) ?_)
  refine J.z q1 ?_
  refine J.nssr (J.z q0 ?_)
  refine J.z (yl_neq rfl rfl rfl) ?_
  refine J.cd (fun hc3 => ?_) (fun hc3 => ?_)
  ·have hc3p := bne_iff_ne.1 hc3
   refine Cj.seq (Cj.drawSel [] [] 14 (by kernel_rfl) ?_)
   refine JA.fix fx1 (fun fx4 => ?_)
   refine JA.tk 0 rfl fx4 q0 ?_
   refine JA.tk 1 rfl fx4 q0 ?_
   refine JA.tk 2 rfl fx4 q0 ?_
   refine JA.tk 3 rfl fx4 q0 ?_
   refine JA.tk 4 rfl fx4 (yl_index (c := 45) rfl rfl rfl tU9 (by decide) rfl) ?_
   refine JA.tk 5 rfl fx4 q6 ?_
   refine JA.tk 6 rfl fx4 (q2 (off' := 0) tU364 tS362) ?_
   refine JA.tk 7 rfl fx4 (q24 (off' := 45) tU362 tS192) ?_
   refine JA.tk 8 rfl fx4 (yl_load rfl rfl tA192 (Blk.immC hxb) (tab_at _ _ (by decide))) ?_
   refine JA.eqv 49 rfl (show _ = .slice (some ⟨l1, 0, none⟩) 0 c1 from rfl) ?_
   refine JA.tk 9 rfl fx4 (q14 tU192) ?_
   refine JA.tk 10 rfl fx4 (yl_sub rfl rfl rfl (w64 (by omega))) ?_
   refine JA.tk 11 rfl fx4 (yl_mul rfl rfl rfl (w64 (by omega))) ?_
   refine JA.tk 12 rfl fx4 (yl_add rfl rfl rfl (w64 (by omega))) ?_
   refine JA.tk 13 rfl fx4 q1 ?_
   refine q8 ?_
   refine Ej.seq (Cj.region (J.z q1 ?_))
   refine J.nb (Cj.region (J.z (yl_add rfl rfl rfl (w64 (by omega))) ?_))
   refine J.z q0 ?_
   refine J.nil (Ej.rounds ?_)
   refine Rj.succ ?_
   refine Cj.sr (J.z q18 ?_)
   refine J.nss (Cj.cond rfl (fun hc5 => ?_) (fun hc5 => Bool.noConfusion (Eq.trans (Eq.symm (by first | rfl | decide)) hc5)))
   refine Cj.ks (Cj.seq (Cj.block (Cj.sr (J.z (yl_indexAddr (off' := 1) rfl rfl rfl tU69 tS9 (by decide) (by decide) (by decide)) ?_))))
   refine J.z (q3 tA9 (Blk.imm htb)) ?_
   refine J.z q1 ?_
   refine J.nssr (J.z q0 ?_)
   refine J.z q0 ?_
   refine J.op rfl (op_pure rfl rfl rfl rfl rfl (Count_ok s 32 _) ?_)
   refine J.z q1 ?_
   refine J.nssr (J.z q0 ?_)
   refine J.z (yl_neq rfl rfl rfl) ?_
   refine J.cd (fun hc6 => ?_) (fun hc6 => ?_)
   ·have hc6p := bne_iff_ne.1 hc6
    refine Cj.seq (Cj.drawSel [] [] 14 (by kernel_rfl) ?_)
    refine JA.fix fx1 (fun fx7 => ?_)
    refine JA.tk 0 rfl fx7 q0 ?_
    refine JA.tk 1 rfl fx7 q0 ?_
    refine JA.tk 2 rfl fx7 q0 ?_
    refine JA.tk 3 rfl fx7 q0 ?_
    refine JA.tk 4 rfl fx7 (yl_index (c := 32) rfl rfl rfl tU9 (by decide) rfl) ?_
    refine JA.tk 5 rfl fx7 q6 ?_
    refine JA.tk 6 rfl fx7 (q2 (off' := 0) tU364 tS362) ?_
    refine JA.tk 7 rfl fx7 (q24 (off' := 32) tU362 tS192) ?_
    refine JA.tk 8 rfl fx7 (yl_load rfl rfl tA192 (Blk.immC hxb) (tab_at _ _ (by decide))) ?_
    refine JA.eqv 49 rfl (show _ = .slice (some ⟨l2, 0, none⟩) 0 c2 from rfl) ?_
    refine JA.tk 9 rfl fx7 (q14 tU192) ?_
    refine JA.tk 10 rfl fx7 (yl_sub rfl rfl rfl (w64 (by omega))) ?_
    refine JA.tk 11 rfl fx7 (yl_mul rfl rfl rfl (w64 (by omega))) ?_
    refine JA.tk 12 rfl fx7 (yl_add rfl rfl rfl (w64 (by omega))) ?_
    refine JA.tk 13 rfl fx7 q1 ?_
    refine q8 ?_
    refine Ej.seq (Cj.region (J.z q1 ?_))
    refine J.nb (Cj.region (J.z (yl_add rfl rfl rfl (w64 (by omega))) ?_))
    refine J.z q0 ?_
    refine J.nil (Ej.rounds ?_)
    refine Rj.succ ?_
    refine Cj.sr (J.z q18 ?_)
    refine J.nss (Cj.cond rfl (fun hc8 => Bool.noConfusion (Eq.trans (Eq.symm (by first | rfl | decide)) hc8)) (fun hc8 => ?_))
    refine Cj.exit (Ej.seqExit (Ej.seqExit (Ej.blkExit (Ej.seq (Cj.seq (Cj.sr (J.z q0 ?_)))))))
    refine J.z (yl_not rfl rfl) ?_
    refine J.ns (Cj.cond rfl (fun hc9 => Bool.noConfusion (Eq.trans (Eq.symm (congrArg not rfl)) hc9)) (fun hc9 => ?_))
    refine Cj.ks (Cj.sr (J.z q0 ?_))
    refine J.op rfl (op_makeSlice (n := (Ke.rep s).length) (c := (Ke.rep s).length) (by1 := 1) (z := (.int .u8 0)) rfl rfl rfl (by first | exact congrArg (fun z => some (Value.int .i64 z)) (by omega) | (rw [htk0]; exact congrArg (fun z => some (Value.int .i64 z)) (by omega))) (by first | exact congrArg (fun z => some (Value.int .i64 z)) (by omega) | (rw [htk0]; exact congrArg (fun z => some (Value.int .i64 z)) (by omega))) tU192 (by kernel_rfl) rfl (by omega) (by omega) (by omega) ?_)
    intro b10 hb10
    refine J.z q1 ?_
    refine J.nssr (J.z q1 ?_)
    refine J.nsss (Cj.region (J.z q1 ?_))
    refine J.ns (Cj.block (Cj.loop (ι := Nat) (fun j => j ≤ s.length) (fun j => s.length - j) (fun j => [(0, ptr xb 0), (1, str s), (12, .slice (some ⟨b10, 0, none⟩) (Ke.rep s).length (Ke.rep s).length), (13, i64 ((Ke.rep (s.take j)).length : Int)), (14, i64 (j : Int))]) (fun j => I) (fun j => [(b10, cel 5 (buf (Ke.rep (s.take j)) (Ke.rep s).length))]) 0 (Nat.zero_le _) ⟨rfl, rfl, rfl, rfl, rfl, trivial⟩ rfl (by rw [List.take_zero]; exact congrArg (fun l => [(_, cel 5 l)]) (buf_nil _)) ?_))
    intro j hj
    have hej := Ke.rep_part s j
    refine Cj.seq (Cj.sr (J.z q0 ?_))
    refine J.z q0 ?_
    refine J.z (yl_lenStr rfl rfl tU9) ?_
    refine J.z q18 ?_
    refine J.cd (fun hc11 => ?_) (fun hc11 => ?_)
    ·have hc11p := odt hc11
     have hlt : j < s.length := by omega
     obtain ⟨c, hget⟩ : ∃ c, s[j]? = some c := ⟨_, lgg hlt⟩
     have hx2 := Ke.rep_next hget
     have hej2 := Ke.rep_part s (j + 1)
     refine Cj.ks (Cj.seq (Cj.block (Cj.sr (J.z q0 ?_))))
     refine J.z q0 ?_
     refine J.z (yl_index rfl rfl rfl tU9 (by omega) hget) ?_
     refine J.z q1 ?_
     refine J.nssr ?_
     rcases Ke.three c with rfl | rfl | hno
     ·have hx3 : Ke.rep (s.take (j + 1)) = Ke.rep (s.take j) ++ [] := hx2.trans (by simp)
      have hl3 : (Ke.rep (s.take (j + 1))).length = (Ke.rep (s.take j)).length + 0 := by rw [hx3, List.length_append]; rfl
      refine J.z q0 ?_
      refine J.z q0 ?_
      refine J.z q6 ?_
      refine J.z (q2 (off' := 0) tU364 tS362) ?_
      refine J.z (q24 (off' := 45) tU362 tS192) ?_
      refine J.z (yl_load rfl rfl tA192 (Blk.imm hxb) (tab_at _ _ (by decide))) ?_
      refine J.eqv 100 rfl (show _ = .slice (some ⟨l1, 0, none⟩) 0 c1 from rfl) ?_
      refine J.z (yl_neqSlice _ rfl rfl rfl tU192) ?_
      refine J.c1 (fun hc12 => ?_)
      refine Cj.drawSel [] [] 13 (by kernel_rfl) ?_
      refine JA.fix fx1 (fun fx13 => ?_)
      refine JA.tk 0 rfl fx13 q0 ?_
      refine JA.tk 1 rfl fx13 q0 ?_
      refine JA.tk 2 rfl fx13 q0 ?_
      refine JA.tk 3 rfl fx13 (yl_sliceFromAny rfl rfl rfl tU192 tS5 (by omega) (by omega)) ?_
      refine JA.tk 4 rfl fx13 q0 ?_
      refine JA.tk 5 rfl fx13 q0 ?_
      refine JA.tk 6 rfl fx13 q6 ?_
      refine JA.tk 7 rfl fx13 (q2 (off' := 0) tU364 tS362) ?_
      refine JA.tk 8 rfl fx13 (q24 (off' := 45) tU362 tS192) ?_
      refine JA.tk 9 rfl fx13 (yl_load rfl rfl tA192 (Blk.immC hxb) (tab_at _ _ (by decide))) ?_
      refine JA.eqv 111 rfl (show _ = .slice (some ⟨l1, 0, none⟩) 0 c1 from rfl) ?_
      refine q4 10 rfl (op_copy (m := 0) 0 rfl rfl rfl rfl rfl tU192 tS5 (Src.slice (ys := []) (Blk.imm hv1) rfl rfl rfl) (by omega) rfl (LSpl.none (by rw [buf_len hej]; split <;> omega)) LSet.z ?_)
      refine ⟨fx0, ?_⟩
      refine JA.fix fx1 (fun fx14 => ?_)
      refine JA.tk 11 rfl fx14 (yl_add rfl rfl rfl (w64 (by omega))) ?_
      refine JA.tk 12 rfl fx14 q1 ?_
      refine q8 ?_
      refine Ej.blkNormal (Ej.seq (Cj.region (J.z q0 ?_)))
      refine J.z (yl_add rfl rfl rfl (w64 (by omega))) ?_
      refine J.z q1 ?_
      refine J.nil (Ej.round (j + 1) (by omega) (by omega) ⟨rfl, rfl, rfl, by rw [hl3]; rfl, rfl, trivial⟩ rfl (by rw [hx3]; first | rfl | simp))
     ·have hx3 : Ke.rep (s.take (j + 1)) = Ke.rep (s.take j) ++ [] := hx2.trans (by simp)
      have hl3 : (Ke.rep (s.take (j + 1))).length = (Ke.rep (s.take j)).length + 0 := by rw [hx3, List.length_append]; rfl
      refine J.z q0 ?_
      refine J.z q0 ?_
      refine J.z q6 ?_
      refine J.z (q2 (off' := 0) tU364 tS362) ?_
      refine J.z (q24 (off' := 32) tU362 tS192) ?_
      refine J.z (yl_load rfl rfl tA192 (Blk.imm hxb) (tab_at _ _ (by decide))) ?_
      refine J.eqv 100 rfl (show _ = .slice (some ⟨l2, 0, none⟩) 0 c2 from rfl) ?_
      refine J.z (yl_neqSlice _ rfl rfl rfl tU192) ?_
      refine J.c1 (fun hc15 => ?_)
      refine Cj.drawSel [] [] 13 (by kernel_rfl) ?_
      refine JA.fix fx1 (fun fx16 => ?_)
      refine JA.tk 0 rfl fx16 q0 ?_
      refine JA.tk 1 rfl fx16 q0 ?_
      refine JA.tk 2 rfl fx16 q0 ?_
      refine JA.tk 3 rfl fx16 (yl_sliceFromAny rfl rfl rfl tU192 tS5 (by omega) (by omega)) ?_
      refine JA.tk 4 rfl fx16 q0 ?_
      refine JA.tk 5 rfl fx16 q0 ?_
      refine JA.tk 6 rfl fx16 q6 ?_
      refine JA.tk 7 rfl fx16 (q2 (off' := 0) tU364 tS362) ?_
      refine JA.tk 8 rfl fx16 (q24 (off' := 32) tU362 tS192) ?_
      refine JA.tk 9 rfl fx16 (yl_load rfl rfl tA192 (Blk.immC hxb) (tab_at _ _ (by decide))) ?_
      refine JA.eqv 111 rfl (show _ = .slice (some ⟨l2, 0, none⟩) 0 c2 from rfl) ?_
      refine q4 10 rfl (op_copy (m := 0) 0 rfl rfl rfl rfl rfl tU192 tS5 (Src.slice (ys := []) (Blk.imm hv2) rfl rfl rfl) (by omega) rfl (LSpl.none (by rw [buf_len hej]; split <;> omega)) LSet.z ?_)
      refine ⟨fx0, ?_⟩
      refine JA.fix fx1 (fun fx17 => ?_)
      refine JA.tk 11 rfl fx17 (yl_add rfl rfl rfl (w64 (by omega))) ?_
      refine JA.tk 12 rfl fx17 q1 ?_
      refine q8 ?_
      refine Ej.blkNormal (Ej.seq (Cj.region (J.z q0 ?_)))
      refine J.z (yl_add rfl rfl rfl (w64 (by omega))) ?_
      refine J.z q1 ?_
      refine J.nil (Ej.round (j + 1) (by omega) (by omega) ⟨rfl, rfl, rfl, by rw [hl3]; rfl, rfl, trivial⟩ rfl (by rw [hx3]; first | rfl | simp))
     have hx3 : Ke.rep (s.take (j + 1)) = Ke.rep (s.take j) ++ [c] := hx2.trans (by simp [hno])
     have hl3 : (Ke.rep (s.take (j + 1))).length = (Ke.rep (s.take j)).length + 1 := by rw [hx3, List.length_append]; rfl
     have hc256 : c.toNat < 256 := c.toNat_lt
     have hn34 : ¬ c.toNat = 45 := fun h => hno (.inr (UInt8.toNat_inj.1 h))
     have hn92 : ¬ c.toNat = 32 := fun h => hno (.inl (UInt8.toNat_inj.1 h))
     refine J.z q0 ?_
     refine J.z q0 ?_
     refine J.z q6 ?_
     refine J.z (q2 (off' := 0) tU364 tS362) ?_
     refine J.z (yl_indexArr (off' := c.toNat) rfl rfl rfl tU362 tS192 (by omega) (by omega) (by simp)) ?_
     refine J.z (yl_load rfl rfl tA192 (Blk.imm hxb) (tab_at _ _ hc256)) ?_
     refine J.eqv 100 rfl (show _ = .slice none 0 0 from (by rw [if_neg hn92, if_neg hn34])) ?_
     refine J.z (yl_neqSlice _ rfl rfl rfl tU192) ?_
     refine J.c0 (fun hc18 => ?_)
     refine Cj.sr (J.z q0 ?_)
     refine J.z q0 ?_
     refine J.z q0 ?_
     refine J.z (q16 (off' := (Ke.rep (s.take j)).length) tU192 tS5) ?_
     refine J.op rfl (op_store1 0 rfl rfl rfl rfl rfl rfl tS5 rfl (.inl rfl) (by rw [buf_len hej]; omega) (by rw [buf_set _ (by omega)]; exact LSet.z) ?_)
     refine J.nsr (J.z q0 ?_)
     refine J.z (yl_add rfl rfl rfl (w64 (by omega))) ?_
     refine J.z q1 ?_
     refine J.nb (Cj.region (J.z q0 ?_))
     refine J.z (yl_add rfl rfl rfl (w64 (by omega))) ?_
     refine J.z q1 ?_
     refine J.nil (Ej.round (j + 1) (by omega) (by omega) ⟨rfl, rfl, rfl, by rw [hl3]; rfl, rfl, trivial⟩ rfl (by rw [hx3]; first | rfl | simp))
    have hc11p := odf hc11
    have htk : s.take j = s := List.take_of_length_le (by omega)
    refine Cj.xl (Cj.sr (J.z q0 ?_))
    refine J.z (yl_toStr (Ke.rep s) rfl rfl rfl tU192 tU9 tU5 (Blk.at 0 rfl) (by rw [htk, buf_full rfl, List.append_nil]; exact List.take_of_length_le (by rw [List.drop_zero, bcs_len]; exact Nat.le_refl _))) ?_
    refine J.z q1 ?_
    refine J.ns (Cj.ret (Ej.bare ?_))
    refine q5 ?_
    exact ⟨rfl, rfl, rfl⟩
   have hc6p := bne_f hc6
   refine Cj.kb (Cj.region (J.z (yl_add rfl rfl rfl (w64 (by omega))) ?_))
   refine J.z q0 ?_
   refine J.nil (Ej.rounds ?_)
   refine Rj.succ ?_
   refine Cj.sr (J.z q18 ?_)
   refine J.nss (Cj.cond rfl (fun hc19 => Bool.noConfusion (Eq.trans (Eq.symm (by first | rfl | decide)) hc19)) (fun hc19 => ?_))
   refine Cj.exit (Ej.seqExit (Ej.seqExit (Ej.blkExit (Ej.seq (Cj.seq (Cj.sr (J.z q0 ?_)))))))
   refine J.z (yl_not rfl rfl) ?_
   refine J.ns (Cj.cond rfl (fun hc20 => Bool.noConfusion (Eq.trans (Eq.symm (congrArg not rfl)) hc20)) (fun hc20 => ?_))
   refine Cj.ks (Cj.sr (J.z q0 ?_))
   refine J.op rfl (op_makeSlice (n := (Ke.rep s).length) (c := (Ke.rep s).length) (by1 := 1) (z := (.int .u8 0)) rfl rfl rfl (by first | exact congrArg (fun z => some (Value.int .i64 z)) (by omega) | (rw [htk0]; exact congrArg (fun z => some (Value.int .i64 z)) (by omega))) (by first | exact congrArg (fun z => some (Value.int .i64 z)) (by omega) | (rw [htk0]; exact congrArg (fun z => some (Value.int .i64 z)) (by omega))) tU192 (by kernel_rfl) rfl (by omega) (by omega) (by omega) ?_)
   intro b21 hb21
   refine J.z q1 ?_
   refine J.nssr (J.z q1 ?_)
   refine J.nsss (Cj.region (J.z q1 ?_))
   refine J.ns (Cj.block (Cj.loop (ι := Nat) (fun j => j ≤ s.length) (fun j => s.length - j) (fun j => [(0, ptr xb 0), (1, str s), (12, .slice (some ⟨b21, 0, none⟩) (Ke.rep s).length (Ke.rep s).length), (13, i64 ((Ke.rep (s.take j)).length : Int)), (14, i64 (j : Int))]) (fun j => I) (fun j => [(b21, cel 5 (buf (Ke.rep (s.take j)) (Ke.rep s).length))]) 0 (Nat.zero_le _) ⟨rfl, rfl, rfl, rfl, rfl, trivial⟩ rfl (by rw [List.take_zero]; exact congrArg (fun l => [(_, cel 5 l)]) (buf_nil _)) ?_))
   intro j hj
   have hej := Ke.rep_part s j
   refine Cj.seq (Cj.sr (J.z q0 ?_))
   refine J.z q0 ?_
   refine J.z (yl_lenStr rfl rfl tU9) ?_
   refine J.z q18 ?_
   refine J.cd (fun hc22 => ?_) (fun hc22 => ?_)
   ·have hc22p := odt hc22
    have hlt : j < s.length := by omega
    obtain ⟨c, hget⟩ : ∃ c, s[j]? = some c := ⟨_, lgg hlt⟩
    have hx2 := Ke.rep_next hget
    have hej2 := Ke.rep_part s (j + 1)
    refine Cj.ks (Cj.seq (Cj.block (Cj.sr (J.z q0 ?_))))
    refine J.z q0 ?_
    refine J.z (yl_index rfl rfl rfl tU9 (by omega) hget) ?_
    refine J.z q1 ?_
    refine J.nssr ?_
    rcases Ke.three c with rfl | rfl | hno
    ·have hx3 : Ke.rep (s.take (j + 1)) = Ke.rep (s.take j) ++ [] := hx2.trans (by simp)
     have hl3 : (Ke.rep (s.take (j + 1))).length = (Ke.rep (s.take j)).length + 0 := by rw [hx3, List.length_append]; rfl
     refine J.z q0 ?_
     refine J.z q0 ?_
     refine J.z q6 ?_
     refine J.z (q2 (off' := 0) tU364 tS362) ?_
     refine J.z (q24 (off' := 45) tU362 tS192) ?_
     refine J.z (yl_load rfl rfl tA192 (Blk.imm hxb) (tab_at _ _ (by decide))) ?_
     refine J.eqv 100 rfl (show _ = .slice (some ⟨l1, 0, none⟩) 0 c1 from rfl) ?_
     refine J.z (yl_neqSlice _ rfl rfl rfl tU192) ?_
     refine J.c1 (fun hc23 => ?_)
     refine Cj.drawSel [] [] 13 (by kernel_rfl) ?_
     refine JA.fix fx1 (fun fx24 => ?_)
     refine JA.tk 0 rfl fx24 q0 ?_
     refine JA.tk 1 rfl fx24 q0 ?_
     refine JA.tk 2 rfl fx24 q0 ?_
     refine JA.tk 3 rfl fx24 (yl_sliceFromAny rfl rfl rfl tU192 tS5 (by omega) (by omega)) ?_
     refine JA.tk 4 rfl fx24 q0 ?_
     refine JA.tk 5 rfl fx24 q0 ?_
     refine JA.tk 6 rfl fx24 q6 ?_
     refine JA.tk 7 rfl fx24 (q2 (off' := 0) tU364 tS362) ?_
     refine JA.tk 8 rfl fx24 (q24 (off' := 45) tU362 tS192) ?_
     refine JA.tk 9 rfl fx24 (yl_load rfl rfl tA192 (Blk.immC hxb) (tab_at _ _ (by decide))) ?_
     refine JA.eqv 111 rfl (show _ = .slice (some ⟨l1, 0, none⟩) 0 c1 from rfl) ?_
     refine q4 10 rfl (op_copy (m := 0) 0 rfl rfl rfl rfl rfl tU192 tS5 (Src.slice (ys := []) (Blk.imm hv1) rfl rfl rfl) (by omega) rfl (LSpl.none (by rw [buf_len hej]; split <;> omega)) LSet.z ?_)
     refine ⟨fx0, ?_⟩
     refine JA.fix fx1 (fun fx25 => ?_)
     refine JA.tk 11 rfl fx25 (yl_add rfl rfl rfl (w64 (by omega))) ?_
     refine JA.tk 12 rfl fx25 q1 ?_
     refine q8 ?_
     refine Ej.blkNormal (Ej.seq (Cj.region (J.z q0 ?_)))
     refine J.z (yl_add rfl rfl rfl (w64 (by omega))) ?_
     refine J.z q1 ?_
     refine J.nil (Ej.round (j + 1) (by omega) (by omega) ⟨rfl, rfl, rfl, by rw [hl3]; rfl, rfl, trivial⟩ rfl (by rw [hx3]; first | rfl | simp))
    ·have hx3 : Ke.rep (s.take (j + 1)) = Ke.rep (s.take j) ++ [] := hx2.trans (by simp)
     have hl3 : (Ke.rep (s.take (j + 1))).length = (Ke.rep (s.take j)).length + 0 := by rw [hx3, List.length_append]; rfl
     refine J.z q0 ?_
     refine J.z q0 ?_
     refine J.z q6 ?_
     refine J.z (q2 (off' := 0) tU364 tS362) ?_
     refine J.z (q24 (off' := 32) tU362 tS192) ?_
     refine J.z (yl_load rfl rfl tA192 (Blk.imm hxb) (tab_at _ _ (by decide))) ?_
     refine J.eqv 100 rfl (show _ = .slice (some ⟨l2, 0, none⟩) 0 c2 from rfl) ?_
     refine J.z (yl_neqSlice _ rfl rfl rfl tU192) ?_
     refine J.c1 (fun hc26 => ?_)
     refine Cj.drawSel [] [] 13 (by kernel_rfl) ?_
     refine JA.fix fx1 (fun fx27 => ?_)
     refine JA.tk 0 rfl fx27 q0 ?_
     refine JA.tk 1 rfl fx27 q0 ?_
     refine JA.tk 2 rfl fx27 q0 ?_
     refine JA.tk 3 rfl fx27 (yl_sliceFromAny rfl rfl rfl tU192 tS5 (by omega) (by omega)) ?_
     refine JA.tk 4 rfl fx27 q0 ?_
     refine JA.tk 5 rfl fx27 q0 ?_
     refine JA.tk 6 rfl fx27 q6 ?_
     refine JA.tk 7 rfl fx27 (q2 (off' := 0) tU364 tS362) ?_
     refine JA.tk 8 rfl fx27 (q24 (off' := 32) tU362 tS192) ?_
     refine JA.tk 9 rfl fx27 (yl_load rfl rfl tA192 (Blk.immC hxb) (tab_at _ _ (by decide))) ?_
     refine JA.eqv 111 rfl (show _ = .slice (some ⟨l2, 0, none⟩) 0 c2 from rfl) ?_
     refine q4 10 rfl (op_copy (m := 0) 0 rfl rfl rfl rfl rfl tU192 tS5 (Src.slice (ys := []) (Blk.imm hv2) rfl rfl rfl) (by omega) rfl (LSpl.none (by rw [buf_len hej]; split <;> omega)) LSet.z ?_)
     refine ⟨fx0, ?_⟩
     refine JA.fix fx1 (fun fx28 => ?_)
     refine JA.tk 11 rfl fx28 (yl_add rfl rfl rfl (w64 (by omega))) ?_
     refine JA.tk 12 rfl fx28 q1 ?_
     refine q8 ?_
     refine Ej.blkNormal (Ej.seq (Cj.region (J.z q0 ?_)))
     refine J.z (yl_add rfl rfl rfl (w64 (by omega))) ?_
     refine J.z q1 ?_
     refine J.nil (Ej.round (j + 1) (by omega) (by omega) ⟨rfl, rfl, rfl, by rw [hl3]; rfl, rfl, trivial⟩ rfl (by rw [hx3]; first | rfl | simp))
    have hx3 : Ke.rep (s.take (j + 1)) = Ke.rep (s.take j) ++ [c] := hx2.trans (by simp [hno])
    have hl3 : (Ke.rep (s.take (j + 1))).length = (Ke.rep (s.take j)).length + 1 := by rw [hx3, List.length_append]; rfl
    have hc256 : c.toNat < 256 := c.toNat_lt
    have hn34 : ¬ c.toNat = 45 := fun h => hno (.inr (UInt8.toNat_inj.1 h))
    have hn92 : ¬ c.toNat = 32 := fun h => hno (.inl (UInt8.toNat_inj.1 h))
    refine J.z q0 ?_
    refine J.z q0 ?_
    refine J.z q6 ?_
    refine J.z (q2 (off' := 0) tU364 tS362) ?_
    refine J.z (yl_indexArr (off' := c.toNat) rfl rfl rfl tU362 tS192 (by omega) (by omega) (by simp)) ?_
    refine J.z (yl_load rfl rfl tA192 (Blk.imm hxb) (tab_at _ _ hc256)) ?_
    refine J.eqv 100 rfl (show _ = .slice none 0 0 from (by rw [if_neg hn92, if_neg hn34])) ?_
    refine J.z (yl_neqSlice _ rfl rfl rfl tU192) ?_
    refine J.c0 (fun hc29 => ?_)
    refine Cj.sr (J.z q0 ?_)
    refine J.z q0 ?_
    refine J.z q0 ?_
    refine J.z (q16 (off' := (Ke.rep (s.take j)).length) tU192 tS5) ?_
    refine J.op rfl (op_store1 0 rfl rfl rfl rfl rfl rfl tS5 rfl (.inl rfl) (by rw [buf_len hej]; omega) (by rw [buf_set _ (by omega)]; exact LSet.z) ?_)
    refine J.nsr (J.z q0 ?_)
    refine J.z (yl_add rfl rfl rfl (w64 (by omega))) ?_
    refine J.z q1 ?_
    refine J.nb (Cj.region (J.z q0 ?_))
    refine J.z (yl_add rfl rfl rfl (w64 (by omega))) ?_
    refine J.z q1 ?_
    refine J.nil (Ej.round (j + 1) (by omega) (by omega) ⟨rfl, rfl, rfl, by rw [hl3]; rfl, rfl, trivial⟩ rfl (by rw [hx3]; first | rfl | simp))
   have hc22p := odf hc22
   have htk : s.take j = s := List.take_of_length_le (by omega)
   refine Cj.xl (Cj.sr (J.z q0 ?_))
   refine J.z (yl_toStr (Ke.rep s) rfl rfl rfl tU192 tU9 tU5 (Blk.at 0 rfl) (by rw [htk, buf_full rfl, List.append_nil]; exact List.take_of_length_le (by rw [List.drop_zero, bcs_len]; exact Nat.le_refl _))) ?_
   refine J.z q1 ?_
   refine J.ns (Cj.ret (Ej.bare ?_))
   refine q5 ?_
   exact ⟨rfl, rfl, rfl⟩
  have hc3p := bne_f hc3
  refine Cj.kb (Cj.region (J.z (yl_add rfl rfl rfl (w64 (by omega))) ?_))
  refine J.z q0 ?_
  refine J.nil (Ej.rounds ?_)
  refine Rj.succ ?_
  refine Cj.sr (J.z q18 ?_)
  refine J.nss (Cj.cond rfl (fun hc30 => ?_) (fun hc30 => Bool.noConfusion (Eq.trans (Eq.symm (by first | rfl | decide)) hc30)))
  refine Cj.ks (Cj.seq (Cj.block (Cj.sr (J.z (yl_indexAddr (off' := 1) rfl rfl rfl tU69 tS9 (by decide) (by decide) (by decide)) ?_))))
  refine J.z (q3 tA9 (Blk.imm htb)) ?_
  refine J.z q1 ?_
  refine J.nssr (J.z q0 ?_)
  refine J.z q0 ?_
  refine J.op rfl (op_pure rfl rfl rfl rfl rfl (Count_ok s 32 _) ?_)
  refine J.z q1 ?_
  refine J.nssr (J.z q0 ?_)
  refine J.z (yl_neq rfl rfl rfl) ?_
  refine J.cd (fun hc31 => ?_) (fun hc31 => ?_)
  ·have hc31p := bne_iff_ne.1 hc31
   refine Cj.seq (Cj.drawSel [] [] 14 (by kernel_rfl) ?_)
   refine JA.fix fx1 (fun fx32 => ?_)
   refine JA.tk 0 rfl fx32 q0 ?_
   refine JA.tk 1 rfl fx32 q0 ?_
   refine JA.tk 2 rfl fx32 q0 ?_
   refine JA.tk 3 rfl fx32 q0 ?_
   refine JA.tk 4 rfl fx32 (yl_index (c := 32) rfl rfl rfl tU9 (by decide) rfl) ?_
   refine JA.tk 5 rfl fx32 q6 ?_
   refine JA.tk 6 rfl fx32 (q2 (off' := 0) tU364 tS362) ?_
   refine JA.tk 7 rfl fx32 (q24 (off' := 32) tU362 tS192) ?_
   refine JA.tk 8 rfl fx32 (yl_load rfl rfl tA192 (Blk.immC hxb) (tab_at _ _ (by decide))) ?_
   refine JA.eqv 49 rfl (show _ = .slice (some ⟨l2, 0, none⟩) 0 c2 from rfl) ?_
   refine JA.tk 9 rfl fx32 (q14 tU192) ?_
   refine JA.tk 10 rfl fx32 (yl_sub rfl rfl rfl (w64 (by omega))) ?_
   refine JA.tk 11 rfl fx32 (yl_mul rfl rfl rfl (w64 (by omega))) ?_
   refine JA.tk 12 rfl fx32 (yl_add rfl rfl rfl (w64 (by omega))) ?_
   refine JA.tk 13 rfl fx32 q1 ?_
   refine q8 ?_
   refine Ej.seq (Cj.region (J.z q1 ?_))
   refine J.nb (Cj.region (J.z (yl_add rfl rfl rfl (w64 (by omega))) ?_))
   refine J.z q0 ?_
   refine J.nil (Ej.rounds ?_)
   refine Rj.succ ?_
   refine Cj.sr (J.z q18 ?_)
   refine J.nss (Cj.cond rfl (fun hc33 => Bool.noConfusion (Eq.trans (Eq.symm (by first | rfl | decide)) hc33)) (fun hc33 => ?_))
   refine Cj.exit (Ej.seqExit (Ej.seqExit (Ej.blkExit (Ej.seq (Cj.seq (Cj.sr (J.z q0 ?_)))))))
   refine J.z (yl_not rfl rfl) ?_
   refine J.ns (Cj.cond rfl (fun hc34 => Bool.noConfusion (Eq.trans (Eq.symm (congrArg not rfl)) hc34)) (fun hc34 => ?_))
   refine Cj.ks (Cj.sr (J.z q0 ?_))
   refine J.op rfl (op_makeSlice (n := (Ke.rep s).length) (c := (Ke.rep s).length) (by1 := 1) (z := (.int .u8 0)) rfl rfl rfl (by first | exact congrArg (fun z => some (Value.int .i64 z)) (by omega) | (rw [htk0]; exact congrArg (fun z => some (Value.int .i64 z)) (by omega))) (by first | exact congrArg (fun z => some (Value.int .i64 z)) (by omega) | (rw [htk0]; exact congrArg (fun z => some (Value.int .i64 z)) (by omega))) tU192 (by kernel_rfl) rfl (by omega) (by omega) (by omega) ?_)
   intro b35 hb35
   refine J.z q1 ?_
   refine J.nssr (J.z q1 ?_)
   refine J.nsss (Cj.region (J.z q1 ?_))
   refine J.ns (Cj.block (Cj.loop (ι := Nat) (fun j => j ≤ s.length) (fun j => s.length - j) (fun j => [(0, ptr xb 0), (1, str s), (12, .slice (some ⟨b35, 0, none⟩) (Ke.rep s).length (Ke.rep s).length), (13, i64 ((Ke.rep (s.take j)).length : Int)), (14, i64 (j : Int))]) (fun j => I) (fun j => [(b35, cel 5 (buf (Ke.rep (s.take j)) (Ke.rep s).length))]) 0 (Nat.zero_le _) ⟨rfl, rfl, rfl, rfl, rfl, trivial⟩ rfl (by rw [List.take_zero]; exact congrArg (fun l => [(_, cel 5 l)]) (buf_nil _)) ?_))
   intro j hj
   have hej := Ke.rep_part s j
   refine Cj.seq (Cj.sr (J.z q0 ?_))
   refine J.z q0 ?_
   refine J.z (yl_lenStr rfl rfl tU9) ?_
   refine J.z q18 ?_
   refine J.cd (fun hc36 => ?_) (fun hc36 => ?_)
   ·have hc36p := odt hc36
    have hlt : j < s.length := by omega
    obtain ⟨c, hget⟩ : ∃ c, s[j]? = some c := ⟨_, lgg hlt⟩
    have hx2 := Ke.rep_next hget
    have hej2 := Ke.rep_part s (j + 1)
    refine Cj.ks (Cj.seq (Cj.block (Cj.sr (J.z q0 ?_))))
    refine J.z q0 ?_
    refine J.z (yl_index rfl rfl rfl tU9 (by omega) hget) ?_
    refine J.z q1 ?_
    refine J.nssr ?_
    rcases Ke.three c with rfl | rfl | hno
    ·have hx3 : Ke.rep (s.take (j + 1)) = Ke.rep (s.take j) ++ [] := hx2.trans (by simp)
     have hl3 : (Ke.rep (s.take (j + 1))).length = (Ke.rep (s.take j)).length + 0 := by rw [hx3, List.length_append]; rfl
     refine J.z q0 ?_
     refine J.z q0 ?_
     refine J.z q6 ?_
     refine J.z (q2 (off' := 0) tU364 tS362) ?_
     refine J.z (q24 (off' := 45) tU362 tS192) ?_
     refine J.z (yl_load rfl rfl tA192 (Blk.imm hxb) (tab_at _ _ (by decide))) ?_
     refine J.eqv 100 rfl (show _ = .slice (some ⟨l1, 0, none⟩) 0 c1 from rfl) ?_
     refine J.z (yl_neqSlice _ rfl rfl rfl tU192) ?_
     refine J.c1 (fun hc37 => ?_)
     refine Cj.drawSel [] [] 13 (by kernel_rfl) ?_
     refine JA.fix fx1 (fun fx38 => ?_)
     refine JA.tk 0 rfl fx38 q0 ?_
     refine JA.tk 1 rfl fx38 q0 ?_
     refine JA.tk 2 rfl fx38 q0 ?_
     refine JA.tk 3 rfl fx38 (yl_sliceFromAny rfl rfl rfl tU192 tS5 (by omega) (by omega)) ?_
     refine JA.tk 4 rfl fx38 q0 ?_
     refine JA.tk 5 rfl fx38 q0 ?_
     refine JA.tk 6 rfl fx38 q6 ?_
     refine JA.tk 7 rfl fx38 (q2 (off' := 0) tU364 tS362) ?_
     refine JA.tk 8 rfl fx38 (q24 (off' := 45) tU362 tS192) ?_
     refine JA.tk 9 rfl fx38 (yl_load rfl rfl tA192 (Blk.immC hxb) (tab_at _ _ (by decide))) ?_
     refine JA.eqv 111 rfl (show _ = .slice (some ⟨l1, 0, none⟩) 0 c1 from rfl) ?_
     refine q4 10 rfl (op_copy (m := 0) 0 rfl rfl rfl rfl rfl tU192 tS5 (Src.slice (ys := []) (Blk.imm hv1) rfl rfl rfl) (by omega) rfl (LSpl.none (by rw [buf_len hej]; split <;> omega)) LSet.z ?_)
     refine ⟨fx0, ?_⟩
     refine JA.fix fx1 (fun fx39 => ?_)
     refine JA.tk 11 rfl fx39 (yl_add rfl rfl rfl (w64 (by omega))) ?_
     refine JA.tk 12 rfl fx39 q1 ?_
     refine q8 ?_
     refine Ej.blkNormal (Ej.seq (Cj.region (J.z q0 ?_)))
     refine J.z (yl_add rfl rfl rfl (w64 (by omega))) ?_
     refine J.z q1 ?_
     refine J.nil (Ej.round (j + 1) (by omega) (by omega) ⟨rfl, rfl, rfl, by rw [hl3]; rfl, rfl, trivial⟩ rfl (by rw [hx3]; first | rfl | simp))
    ·have hx3 : Ke.rep (s.take (j + 1)) = Ke.rep (s.take j) ++ [] := hx2.trans (by simp)
     have hl3 : (Ke.rep (s.take (j + 1))).length = (Ke.rep (s.take j)).length + 0 := by rw [hx3, List.length_append]; rfl
     refine J.z q0 ?_
     refine J.z q0 ?_
     refine J.z q6 ?_
     refine J.z (q2 (off' := 0) tU364 tS362) ?_
     refine J.z (q24 (off' := 32) tU362 tS192) ?_
     refine J.z (yl_load rfl rfl tA192 (Blk.imm hxb) (tab_at _ _ (by decide))) ?_
     refine J.eqv 100 rfl (show _ = .slice (some ⟨l2, 0, none⟩) 0 c2 from rfl) ?_
     refine J.z (yl_neqSlice _ rfl rfl rfl tU192) ?_
     refine J.c1 (fun hc40 => ?_)
     refine Cj.drawSel [] [] 13 (by kernel_rfl) ?_
     refine JA.fix fx1 (fun fx41 => ?_)
     refine JA.tk 0 rfl fx41 q0 ?_
     refine JA.tk 1 rfl fx41 q0 ?_
     refine JA.tk 2 rfl fx41 q0 ?_
     refine JA.tk 3 rfl fx41 (yl_sliceFromAny rfl rfl rfl tU192 tS5 (by omega) (by omega)) ?_
     refine JA.tk 4 rfl fx41 q0 ?_
     refine JA.tk 5 rfl fx41 q0 ?_
     refine JA.tk 6 rfl fx41 q6 ?_
     refine JA.tk 7 rfl fx41 (q2 (off' := 0) tU364 tS362) ?_
     refine JA.tk 8 rfl fx41 (q24 (off' := 32) tU362 tS192) ?_
     refine JA.tk 9 rfl fx41 (yl_load rfl rfl tA192 (Blk.immC hxb) (tab_at _ _ (by decide))) ?_
     refine JA.eqv 111 rfl (show _ = .slice (some ⟨l2, 0, none⟩) 0 c2 from rfl) ?_
     refine q4 10 rfl (op_copy (m := 0) 0 rfl rfl rfl rfl rfl tU192 tS5 (Src.slice (ys := []) (Blk.imm hv2) rfl rfl rfl) (by omega) rfl (LSpl.none (by rw [buf_len hej]; split <;> omega)) LSet.z ?_)
     refine ⟨fx0, ?_⟩
     refine JA.fix fx1 (fun fx42 => ?_)
     refine JA.tk 11 rfl fx42 (yl_add rfl rfl rfl (w64 (by omega))) ?_
     refine JA.tk 12 rfl fx42 q1 ?_
     refine q8 ?_
     refine Ej.blkNormal (Ej.seq (Cj.region (J.z q0 ?_)))
     refine J.z (yl_add rfl rfl rfl (w64 (by omega))) ?_
     refine J.z q1 ?_
     refine J.nil (Ej.round (j + 1) (by omega) (by omega) ⟨rfl, rfl, rfl, by rw [hl3]; rfl, rfl, trivial⟩ rfl (by rw [hx3]; first | rfl | simp))
    have hx3 : Ke.rep (s.take (j + 1)) = Ke.rep (s.take j) ++ [c] := hx2.trans (by simp [hno])
    have hl3 : (Ke.rep (s.take (j + 1))).length = (Ke.rep (s.take j)).length + 1 := by rw [hx3, List.length_append]; rfl
    have hc256 : c.toNat < 256 := c.toNat_lt
    have hn34 : ¬ c.toNat = 45 := fun h => hno (.inr (UInt8.toNat_inj.1 h))
    have hn92 : ¬ c.toNat = 32 := fun h => hno (.inl (UInt8.toNat_inj.1 h))
    refine J.z q0 ?_
    refine J.z q0 ?_
    refine J.z q6 ?_
    refine J.z (q2 (off' := 0) tU364 tS362) ?_
    refine J.z (yl_indexArr (off' := c.toNat) rfl rfl rfl tU362 tS192 (by omega) (by omega) (by simp)) ?_
    refine J.z (yl_load rfl rfl tA192 (Blk.imm hxb) (tab_at _ _ hc256)) ?_
    refine J.eqv 100 rfl (show _ = .slice none 0 0 from (by rw [if_neg hn92, if_neg hn34])) ?_
    refine J.z (yl_neqSlice _ rfl rfl rfl tU192) ?_
    refine J.c0 (fun hc43 => ?_)
    refine Cj.sr (J.z q0 ?_)
    refine J.z q0 ?_
    refine J.z q0 ?_
    refine J.z (q16 (off' := (Ke.rep (s.take j)).length) tU192 tS5) ?_
    refine J.op rfl (op_store1 0 rfl rfl rfl rfl rfl rfl tS5 rfl (.inl rfl) (by rw [buf_len hej]; omega) (by rw [buf_set _ (by omega)]; exact LSet.z) ?_)
    refine J.nsr (J.z q0 ?_)
    refine J.z (yl_add rfl rfl rfl (w64 (by omega))) ?_
    refine J.z q1 ?_
    refine J.nb (Cj.region (J.z q0 ?_))
    refine J.z (yl_add rfl rfl rfl (w64 (by omega))) ?_
    refine J.z q1 ?_
    refine J.nil (Ej.round (j + 1) (by omega) (by omega) ⟨rfl, rfl, rfl, by rw [hl3]; rfl, rfl, trivial⟩ rfl (by rw [hx3]; first | rfl | simp))
   have hc36p := odf hc36
   have htk : s.take j = s := List.take_of_length_le (by omega)
   refine Cj.xl (Cj.sr (J.z q0 ?_))
   refine J.z (yl_toStr (Ke.rep s) rfl rfl rfl tU192 tU9 tU5 (Blk.at 0 rfl) (by rw [htk, buf_full rfl, List.append_nil]; exact List.take_of_length_le (by rw [List.drop_zero, bcs_len]; exact Nat.le_refl _))) ?_
   refine J.z q1 ?_
   refine J.ns (Cj.ret (Ej.bare ?_))
   refine q5 ?_
   exact ⟨rfl, rfl, rfl⟩
  have hc31p := bne_f hc31
  refine Cj.kb (Cj.region (J.z (yl_add rfl rfl rfl (w64 (by omega))) ?_))
  refine J.z q0 ?_
  refine J.nil (Ej.rounds ?_)
  refine Rj.succ ?_
  refine Cj.sr (J.z q18 ?_)
  refine J.nss (Cj.cond rfl (fun hc44 => Bool.noConfusion (Eq.trans (Eq.symm (by first | rfl | decide)) hc44)) (fun hc44 => ?_))
  refine Cj.exit (Ej.seqExit (Ej.seqExit (Ej.blkExit (Ej.seq (Cj.seq (Cj.sr (J.z q0 ?_)))))))
  refine J.z (yl_not rfl rfl) ?_
  refine J.ns (Cj.cond rfl (fun hc45 => ?_) (fun hc45 => Bool.noConfusion (Eq.trans (Eq.symm (congrArg not rfl)) hc45)))
  refine Cj.sr (J.z q0 ?_)
  refine J.z q1 ?_
  refine J.ns (Cj.rs (Ej.bare ?_))
  refine q5 ?_
  have hz : Ke.cnt s = 0 := by omega
  rw [Ke.rep_id s hz]
  exact ⟨rfl, rfl, rfl⟩
 have hc1p := odf hc1
 refine Cj.sr (J.z q1 ?_)
 refine J.ns (Cj.block (Cj.loop (ι := Nat) (fun j => j ≤ s.length) (fun j => s.length - j) (fun j => [(0, ptr xb 0), (1, str s), (5, i64 ((s.length : Int) - (Ke.cnt (s.take j) : Int))), (6, .bool (decide (0 < Ke.cnt (s.take j)))), (10, i64 (j : Int))]) (fun j => I) (fun j => []) 0 (Nat.zero_le _) ⟨rfl, rfl, rfl, rfl, rfl, trivial⟩ rfl rfl ?_))
 intro j hj
 have hcj : Ke.cnt (s.take j) ≤ s.length := nlt List.countP_le_length (by simp; omega)
 refine Cj.seq (Cj.sr (J.z q0 ?_))
 refine J.z q0 ?_
 refine J.z (yl_lenStr rfl rfl tU9) ?_
 refine J.z q18 ?_
 refine J.cd (fun hc46 => ?_) (fun hc46 => ?_)
 ·have hc46p := odt hc46
  have hlt : j < s.length := by omega
  obtain ⟨c, hget⟩ : ∃ c, s[j]? = some c := ⟨_, lgg hlt⟩
  refine Cj.ks (Cj.seq (Cj.block (Cj.sr (J.z q0 ?_))))
  refine J.z q0 ?_
  refine J.z (yl_index rfl rfl rfl tU9 (by omega) hget) ?_
  refine J.z q1 ?_
  refine J.nssr ?_
  rcases Ke.three c with rfl | rfl | hno
  ·have hcn : Ke.cnt (s.take (j + 1)) = Ke.cnt (s.take j) + 1 := by rw [Ke.cnt_next hget]; simp
   refine J.z q0 ?_
   refine J.z q0 ?_
   refine J.z q6 ?_
   refine J.z (q2 (off' := 0) tU364 tS362) ?_
   refine J.z (q24 (off' := 45) tU362 tS192) ?_
   refine J.z (yl_load rfl rfl tA192 (Blk.imm hxb) (tab_at _ _ (by decide))) ?_
   refine J.eqv 69 rfl (show _ = .slice (some ⟨l1, 0, none⟩) 0 c1 from rfl) ?_
   refine J.z (yl_neqSlice _ rfl rfl rfl tU192) ?_
   refine J.c1 (fun hc47 => ?_)
   refine Cj.sr (J.z q0 ?_)
   refine J.z q0 ?_
   refine J.z q0 ?_
   refine J.z q6 ?_
   refine J.z (q2 (off' := 0) tU364 tS362) ?_
   refine J.z (q24 (off' := 45) tU362 tS192) ?_
   refine J.z (yl_load rfl rfl tA192 (Blk.imm hxb) (tab_at _ _ (by decide))) ?_
   refine J.eqv 77 rfl (show _ = .slice (some ⟨l1, 0, none⟩) 0 c1 from rfl) ?_
   refine J.z (q14 tU192) ?_
   refine J.z (yl_sub rfl rfl rfl (w64 (by omega))) ?_
   refine J.z (yl_add rfl rfl rfl (w64 (by omega))) ?_
   refine J.z q1 ?_
   refine J.nsr (J.z q1 ?_)
   refine J.nb (Cj.region (J.z q0 ?_))
   refine J.z (yl_add rfl rfl rfl (w64 (by omega))) ?_
   refine J.z q1 ?_
   refine J.nil (Ej.round (j + 1) (by omega) (by omega) ⟨rfl, rfl, (congrArg (fun z => some (Value.int .i64 z)) (by omega)), (congrArg (fun z => some (Value.bool z)) (by simp [hcn])), rfl, trivial⟩ rfl rfl)
  ·have hcn : Ke.cnt (s.take (j + 1)) = Ke.cnt (s.take j) + 1 := by rw [Ke.cnt_next hget]; simp
   refine J.z q0 ?_
   refine J.z q0 ?_
   refine J.z q6 ?_
   refine J.z (q2 (off' := 0) tU364 tS362) ?_
   refine J.z (q24 (off' := 32) tU362 tS192) ?_
   refine J.z (yl_load rfl rfl tA192 (Blk.imm hxb) (tab_at _ _ (by decide))) ?_
   refine J.eqv 69 rfl (show _ = .slice (some ⟨l2, 0, none⟩) 0 c2 from rfl) ?_
   refine J.z (yl_neqSlice _ rfl rfl rfl tU192) ?_
   refine J.c1 (fun hc48 => ?_)
   refine Cj.sr (J.z q0 ?_)
   refine J.z q0 ?_
   refine J.z q0 ?_
   refine J.z q6 ?_
   refine J.z (q2 (off' := 0) tU364 tS362) ?_
   refine J.z (q24 (off' := 32) tU362 tS192) ?_
   refine J.z (yl_load rfl rfl tA192 (Blk.imm hxb) (tab_at _ _ (by decide))) ?_
   refine J.eqv 77 rfl (show _ = .slice (some ⟨l2, 0, none⟩) 0 c2 from rfl) ?_
   refine J.z (q14 tU192) ?_
   refine J.z (yl_sub rfl rfl rfl (w64 (by omega))) ?_
   refine J.z (yl_add rfl rfl rfl (w64 (by omega))) ?_
   refine J.z q1 ?_
   refine J.nsr (J.z q1 ?_)
   refine J.nb (Cj.region (J.z q0 ?_))
   refine J.z (yl_add rfl rfl rfl (w64 (by omega))) ?_
   refine J.z q1 ?_
   refine J.nil (Ej.round (j + 1) (by omega) (by omega) ⟨rfl, rfl, (congrArg (fun z => some (Value.int .i64 z)) (by omega)), (congrArg (fun z => some (Value.bool z)) (by simp [hcn])), rfl, trivial⟩ rfl rfl)
  have hcn : Ke.cnt (s.take (j + 1)) = Ke.cnt (s.take j) := by rw [Ke.cnt_next hget]; simp [hno]
  have hc256 : c.toNat < 256 := c.toNat_lt
  have hn34 : ¬ c.toNat = 45 := fun h => hno (.inr (UInt8.toNat_inj.1 h))
  have hn92 : ¬ c.toNat = 32 := fun h => hno (.inl (UInt8.toNat_inj.1 h))
  refine J.z q0 ?_
  refine J.z q0 ?_
  refine J.z q6 ?_
  refine J.z (q2 (off' := 0) tU364 tS362) ?_
  refine J.z (yl_indexArr (off' := c.toNat) rfl rfl rfl tU362 tS192 (by omega) (by omega) (by simp)) ?_
  refine J.z (yl_load rfl rfl tA192 (Blk.imm hxb) (tab_at _ _ hc256)) ?_
  refine J.eqv 69 rfl (show _ = .slice none 0 0 from (by rw [if_neg hn92, if_neg hn34])) ?_
  refine J.z (yl_neqSlice _ rfl rfl rfl tU192) ?_
  refine J.c0 (fun hc49 => ?_)
  refine Cj.kb (Cj.region (J.z q0 ?_))
  refine J.z (yl_add rfl rfl rfl (w64 (by omega))) ?_
  refine J.z q1 ?_
  refine J.nil (Ej.round (j + 1) (by omega) (by omega) ⟨rfl, rfl, (congrArg (fun z => some (Value.int .i64 z)) (by omega)), (congrArg (fun z => some (Value.bool z)) (by rw [hcn])), rfl, trivial⟩ rfl rfl)
 have hc46p := odf hc46
 have htk0 : s.take j = s := List.take_of_length_le (by omega)
 refine Cj.xl (Cj.seq (Cj.sr (J.z q0 ?_)))
 refine J.z (yl_not rfl rfl) ?_
 refine J.cd (fun hc50 => ?_) (fun hc50 => ?_)
 ·have hz : Ke.cnt s = 0 := by have h := hc50; simp at h; rw [htk0] at h; exact h
  refine Cj.sr (J.z q0 ?_)
  refine J.z q1 ?_
  refine J.ns (Cj.rs (Ej.bare ?_))
  refine q5 ?_
  rw [Ke.rep_id s hz]
  exact ⟨rfl, rfl, rfl⟩
 refine Cj.ks (Cj.sr (J.z q0 ?_))
 refine J.op rfl (op_makeSlice (n := (Ke.rep s).length) (c := (Ke.rep s).length) (by1 := 1) (z := (.int .u8 0)) rfl rfl rfl (by first | exact congrArg (fun z => some (Value.int .i64 z)) (by omega) | (rw [htk0]; exact congrArg (fun z => some (Value.int .i64 z)) (by omega))) (by first | exact congrArg (fun z => some (Value.int .i64 z)) (by omega) | (rw [htk0]; exact congrArg (fun z => some (Value.int .i64 z)) (by omega))) tU192 (by kernel_rfl) rfl (by omega) (by omega) (by omega) ?_)
 intro b51 hb51
 refine J.z q1 ?_
 refine J.nssr (J.z q1 ?_)
 refine J.nsss (Cj.region (J.z q1 ?_))
 refine J.ns (Cj.block (Cj.loop (ι := Nat) (fun j => j ≤ s.length) (fun j => s.length - j) (fun j => [(0, ptr xb 0), (1, str s), (12, .slice (some ⟨b51, 0, none⟩) (Ke.rep s).length (Ke.rep s).length), (13, i64 ((Ke.rep (s.take j)).length : Int)), (14, i64 (j : Int))]) (fun j => I) (fun j => [(b51, cel 5 (buf (Ke.rep (s.take j)) (Ke.rep s).length))]) 0 (Nat.zero_le _) ⟨rfl, rfl, rfl, rfl, rfl, trivial⟩ rfl (by rw [List.take_zero]; exact congrArg (fun l => [(_, cel 5 l)]) (buf_nil _)) ?_))
 intro j hj
 have hej := Ke.rep_part s j
 refine Cj.seq (Cj.sr (J.z q0 ?_))
 refine J.z q0 ?_
 refine J.z (yl_lenStr rfl rfl tU9) ?_
 refine J.z q18 ?_
 refine J.cd (fun hc52 => ?_) (fun hc52 => ?_)
 ·have hc52p := odt hc52
  have hlt : j < s.length := by omega
  obtain ⟨c, hget⟩ : ∃ c, s[j]? = some c := ⟨_, lgg hlt⟩
  have hx2 := Ke.rep_next hget
  have hej2 := Ke.rep_part s (j + 1)
  refine Cj.ks (Cj.seq (Cj.block (Cj.sr (J.z q0 ?_))))
  refine J.z q0 ?_
  refine J.z (yl_index rfl rfl rfl tU9 (by omega) hget) ?_
  refine J.z q1 ?_
  refine J.nssr ?_
  rcases Ke.three c with rfl | rfl | hno
  ·have hx3 : Ke.rep (s.take (j + 1)) = Ke.rep (s.take j) ++ [] := hx2.trans (by simp)
   have hl3 : (Ke.rep (s.take (j + 1))).length = (Ke.rep (s.take j)).length + 0 := by rw [hx3, List.length_append]; rfl
   refine J.z q0 ?_
   refine J.z q0 ?_
   refine J.z q6 ?_
   refine J.z (q2 (off' := 0) tU364 tS362) ?_
   refine J.z (q24 (off' := 45) tU362 tS192) ?_
   refine J.z (yl_load rfl rfl tA192 (Blk.imm hxb) (tab_at _ _ (by decide))) ?_
   refine J.eqv 100 rfl (show _ = .slice (some ⟨l1, 0, none⟩) 0 c1 from rfl) ?_
   refine J.z (yl_neqSlice _ rfl rfl rfl tU192) ?_
   refine J.c1 (fun hc53 => ?_)
   refine Cj.drawSel [] [] 13 (by kernel_rfl) ?_
   refine JA.fix fx1 (fun fx54 => ?_)
   refine JA.tk 0 rfl fx54 q0 ?_
   refine JA.tk 1 rfl fx54 q0 ?_
   refine JA.tk 2 rfl fx54 q0 ?_
   refine JA.tk 3 rfl fx54 (yl_sliceFromAny rfl rfl rfl tU192 tS5 (by omega) (by omega)) ?_
   refine JA.tk 4 rfl fx54 q0 ?_
   refine JA.tk 5 rfl fx54 q0 ?_
   refine JA.tk 6 rfl fx54 q6 ?_
   refine JA.tk 7 rfl fx54 (q2 (off' := 0) tU364 tS362) ?_
   refine JA.tk 8 rfl fx54 (q24 (off' := 45) tU362 tS192) ?_
   refine JA.tk 9 rfl fx54 (yl_load rfl rfl tA192 (Blk.immC hxb) (tab_at _ _ (by decide))) ?_
   refine JA.eqv 111 rfl (show _ = .slice (some ⟨l1, 0, none⟩) 0 c1 from rfl) ?_
   refine q4 10 rfl (op_copy (m := 0) 0 rfl rfl rfl rfl rfl tU192 tS5 (Src.slice (ys := []) (Blk.imm hv1) rfl rfl rfl) (by omega) rfl (LSpl.none (by rw [buf_len hej]; split <;> omega)) LSet.z ?_)
   refine ⟨fx0, ?_⟩
   refine JA.fix fx1 (fun fx55 => ?_)
   refine JA.tk 11 rfl fx55 (yl_add rfl rfl rfl (w64 (by omega))) ?_
   refine JA.tk 12 rfl fx55 q1 ?_
   refine q8 ?_
   refine Ej.blkNormal (Ej.seq (Cj.region (J.z q0 ?_)))
   refine J.z (yl_add rfl rfl rfl (w64 (by omega))) ?_
   refine J.z q1 ?_
   refine J.nil (Ej.round (j + 1) (by omega) (by omega) ⟨rfl, rfl, rfl, by rw [hl3]; rfl, rfl, trivial⟩ rfl (by rw [hx3]; first | rfl | simp))
  ·have hx3 : Ke.rep (s.take (j + 1)) = Ke.rep (s.take j) ++ [] := hx2.trans (by simp)
   have hl3 : (Ke.rep (s.take (j + 1))).length = (Ke.rep (s.take j)).length + 0 := by rw [hx3, List.length_append]; rfl
   refine J.z q0 ?_
   refine J.z q0 ?_
   refine J.z q6 ?_
   refine J.z (q2 (off' := 0) tU364 tS362) ?_
   refine J.z (q24 (off' := 32) tU362 tS192) ?_
   refine J.z (yl_load rfl rfl tA192 (Blk.imm hxb) (tab_at _ _ (by decide))) ?_
   refine J.eqv 100 rfl (show _ = .slice (some ⟨l2, 0, none⟩) 0 c2 from rfl) ?_
   refine J.z (yl_neqSlice _ rfl rfl rfl tU192) ?_
   refine J.c1 (fun hc56 => ?_)
   refine Cj.drawSel [] [] 13 (by kernel_rfl) ?_
   refine JA.fix fx1 (fun fx57 => ?_)
   refine JA.tk 0 rfl fx57 q0 ?_
   refine JA.tk 1 rfl fx57 q0 ?_
   refine JA.tk 2 rfl fx57 q0 ?_
   refine JA.tk 3 rfl fx57 (yl_sliceFromAny rfl rfl rfl tU192 tS5 (by omega) (by omega)) ?_
   refine JA.tk 4 rfl fx57 q0 ?_
   refine JA.tk 5 rfl fx57 q0 ?_
   refine JA.tk 6 rfl fx57 q6 ?_
   refine JA.tk 7 rfl fx57 (q2 (off' := 0) tU364 tS362) ?_
   refine JA.tk 8 rfl fx57 (q24 (off' := 32) tU362 tS192) ?_
   refine JA.tk 9 rfl fx57 (yl_load rfl rfl tA192 (Blk.immC hxb) (tab_at _ _ (by decide))) ?_
   refine JA.eqv 111 rfl (show _ = .slice (some ⟨l2, 0, none⟩) 0 c2 from rfl) ?_
   refine q4 10 rfl (op_copy (m := 0) 0 rfl rfl rfl rfl rfl tU192 tS5 (Src.slice (ys := []) (Blk.imm hv2) rfl rfl rfl) (by omega) rfl (LSpl.none (by rw [buf_len hej]; split <;> omega)) LSet.z ?_)
   refine ⟨fx0, ?_⟩
   refine JA.fix fx1 (fun fx58 => ?_)
   refine JA.tk 11 rfl fx58 (yl_add rfl rfl rfl (w64 (by omega))) ?_
   refine JA.tk 12 rfl fx58 q1 ?_
   refine q8 ?_
   refine Ej.blkNormal (Ej.seq (Cj.region (J.z q0 ?_)))
   refine J.z (yl_add rfl rfl rfl (w64 (by omega))) ?_
   refine J.z q1 ?_
   refine J.nil (Ej.round (j + 1) (by omega) (by omega) ⟨rfl, rfl, rfl, by rw [hl3]; rfl, rfl, trivial⟩ rfl (by rw [hx3]; first | rfl | simp))
  have hx3 : Ke.rep (s.take (j + 1)) = Ke.rep (s.take j) ++ [c] := hx2.trans (by simp [hno])
  have hl3 : (Ke.rep (s.take (j + 1))).length = (Ke.rep (s.take j)).length + 1 := by rw [hx3, List.length_append]; rfl
  have hc256 : c.toNat < 256 := c.toNat_lt
  have hn34 : ¬ c.toNat = 45 := fun h => hno (.inr (UInt8.toNat_inj.1 h))
  have hn92 : ¬ c.toNat = 32 := fun h => hno (.inl (UInt8.toNat_inj.1 h))
  refine J.z q0 ?_
  refine J.z q0 ?_
  refine J.z q6 ?_
  refine J.z (q2 (off' := 0) tU364 tS362) ?_
  refine J.z (yl_indexArr (off' := c.toNat) rfl rfl rfl tU362 tS192 (by omega) (by omega) (by simp)) ?_
  refine J.z (yl_load rfl rfl tA192 (Blk.imm hxb) (tab_at _ _ hc256)) ?_
  refine J.eqv 100 rfl (show _ = .slice none 0 0 from (by rw [if_neg hn92, if_neg hn34])) ?_
  refine J.z (yl_neqSlice _ rfl rfl rfl tU192) ?_
  refine J.c0 (fun hc59 => ?_)
  refine Cj.sr (J.z q0 ?_)
  refine J.z q0 ?_
  refine J.z q0 ?_
  refine J.z (q16 (off' := (Ke.rep (s.take j)).length) tU192 tS5) ?_
  refine J.op rfl (op_store1 0 rfl rfl rfl rfl rfl rfl tS5 rfl (.inl rfl) (by rw [buf_len hej]; omega) (by rw [buf_set _ (by omega)]; exact LSet.z) ?_)
  refine J.nsr (J.z q0 ?_)
  refine J.z (yl_add rfl rfl rfl (w64 (by omega))) ?_
  refine J.z q1 ?_
  refine J.nb (Cj.region (J.z q0 ?_))
  refine J.z (yl_add rfl rfl rfl (w64 (by omega))) ?_
  refine J.z q1 ?_
  refine J.nil (Ej.round (j + 1) (by omega) (by omega) ⟨rfl, rfl, rfl, by rw [hl3]; rfl, rfl, trivial⟩ rfl (by rw [hx3]; first | rfl | simp))
 have hc52p := odf hc52
 have htk : s.take j = s := List.take_of_length_le (by omega)
 refine Cj.xl (Cj.sr (J.z q0 ?_))
 refine J.z (yl_toStr (Ke.rep s) rfl rfl rfl tU192 tU9 tU5 (Blk.at 0 rfl) (by rw [htk, buf_full rfl, List.append_nil]; exact List.take_of_length_le (by rw [List.drop_zero, bcs_len]; exact Nat.le_refl _))) ?_
 refine J.z q1 ?_
 refine J.ns (Cj.ret (Ej.bare ?_))
 refine q5 ?_
 exact ⟨rfl, rfl, rfl⟩
theorem Replace_ok (rb : Nat) (osl : Value) (s : List UInt8) (hs : s.length ≤ 1000000000) (I : Heap) (ho : StrSl 9 I olds osl) : Ctr Tryz.prog 198 [ptr rb 0, str s] I (RepH rb (.int .u32 0) (.int .i32 0) (.int .u32 0) .nilIface osl)
    (fun e _I' H' => e = .returned (str (Ke.rep s)) ∧ H' = []) := by
 refine Ctr.ob func198 ?_
 intro w0 hw0
 refine Cj.sr (J.z q1 ?_)
 refine J.nssr (J.z q0 ?_)
 refine J.z q6 ?_
 refine J.z (q2 (off' := 0) tU308 sizeOf304) ?_
 refine J.z q0 ?_
 refine J.z (yl_makeFunc rfl rfl rfl) ?_
 refine J.pull Pull.z ?_
 refine J.op rfl (op_call (H1 := [_]) rfl rfl rfl rfl rfl (Do_ok rb osl _ ho) ?_ (fun _ _ _ _ h => by cases h.1) (fun _ _ h => by cases h.1))
 intro v1 I2 H3 hle4 hp5
 obtain ⟨h, xb, hbs, rfl⟩ := hp5; cases h
 refine J.nssr (J.z q0 ?_)
 refine J.z q6 ?_
 refine J.z (q2 (off' := 3) tU308 sizeOf306) ?_
 refine J.z (q3 isAgg306 (Blk.at 0 rfl)) ?_
 refine J.z q0 ?_
 refine J.op rfl (op_invoke (H1 := []) (T := 365) rfl rfl rfl rfl rfl (by kernel_rfl) underlying365 (bsReplace_ok xb s hs _ hbs) ?_ (fun _ _ _ _ h => by cases h.1) (fun _ _ h => by cases h.1))
 rintro v9 I9 H9 hle9 ⟨h, rfl, rfl⟩; cases h
 refine J.z q1 ?_
 refine J.ns (Cj.ret (Ej.bare ?_))
 refine q5 ?_
 exact ⟨rfl, rfl⟩
end Go.Proofs.YtekmeaoblpfnpaaGreatDoor
namespace Ke
open Go Go.Sx
def mtabF : Nat → List (Nat × Bs) → ML Int
  | _, [] => []
  | i, (c, s) :: r => ((c : Int), Go.Sx.str s, i) :: mtabF (i + 1) r
def mtab (l : List (Nat × Bs)) : ML Int := mtabF 0 l
theorem cc (c d : Nat) : ((c : Int) == (d : Int)) = (c == d) := by rw [Bool.eq_iff_iff, beq_iff_eq, beq_iff_eq]; omega
theorem mget_tab : ∀ (l : List (Nat × Bs)) (i c : Nat), mget (mtabF i l) (c : Int) = (l.lookup c).map Go.Sx.str
  | [], _, _ => rfl
  | (d, s) :: r, i, c => by
    simp only [mtabF, mget, cc, List.lookup_cons]
    by_cases h : c = d
    · subst h; simp
    have : (c == d) = false := by simpa using h
    rw [this]
    simp only [Bool.false_eq_true, if_false]
    exact mget_tab r (i + 1) c
theorem mset_tab : ∀ (l : List (Nat × Bs)) (i c : Nat) (s : Bs), c ∉ l.map (·.1) → mset (mtabF i l) (c : Int) (Go.Sx.str s) (i + l.length) = mtabF i (l ++ [(c, s)])
  | [], _, _, _, _ => rfl
  | (d, t) :: r, i, c, s, h => by
    simp only [List.map_cons, List.mem_cons, not_or] at h
    have : (c == d) = false := by simpa using h.1
    simp only [mtabF, mset, cc, this, List.cons_append, List.length_cons]
    simp only [Bool.false_eq_true, if_false]
    rw [← mset_tab r (i + 1) c s h.2, show i + 1 + r.length = i + (r.length + 1) by omega]
theorem lookup_none : ∀ {l : List (Nat × Bs)} {c : Nat}, c ∉ l.map (·.1) → l.lookup c = none
  | [], _, _ => rfl
  | (d, t) :: r, c, h => by
    simp only [List.map_cons, List.mem_cons, not_or] at h
    have : (c == d) = false := by simpa using h.1
    rw [List.lookup_cons, this]; exact lookup_none h.2
theorem mset_new {l : List (Nat × Bs)} {c : Nat} {s : Bs} (h : c ∉ l.map (·.1)) : mset (mtab l) (c : Int) (Go.Sx.str s) l.length = mtab (l ++ [(c, s)]) ∧ mclk (mtab l) (c : Int) l.length = (l ++ [(c, s)]).length := by
  refine ⟨by have := mset_tab l 0 c s h; rwa [Nat.zero_add] at this, ?_⟩
  unfold mclk mtab
  rw [mget_tab, lookup_none h]
  simp
def prows : List Bs := rows.map fun p => p.1 ++ 32 :: p.2
theorem rowTab_app : ∀ (x y : List (Bs × Bs)), rowTab (x ++ y) = rowTab x ++ rowTab y
  | [], _ => rfl
  | (a, b) :: r, y => by simp only [List.cons_append, rowTab, rowTab_app r y, List.append_assoc]
theorem rowTab_next {k : Nat} {a b : Bs} (h : rows[k]? = some (a, b)) : rowTab (rows.take (k + 1)) = rowTab (rows.take k) ++ (runes b).map (·, a) := by
  obtain ⟨hlt, hg⟩ := List.getElem?_eq_some_iff.1 h
  rw [List.take_succ_eq_append_getElem hlt, hg, rowTab_app]
  simp [rowTab]
theorem fresh {k c : Nat} {a b : Bs} {x y : List Nat} (h : rows[k]? = some (a, b)) (hr : runes b = x ++ c :: y) : c ∉ (rowTab (rows.take k) ++ x.map (·, a)).map (·.1) := by
  have hn := tab_nodup
  have e : rows = rows.take k ++ (a, b) :: rows.drop (k + 1) := by
    obtain ⟨hlt, hg⟩ := List.getElem?_eq_some_iff.1 h
    rw [← hg, ← List.drop_eq_getElem_cons hlt, List.take_append_drop]
  rw [← tab_eq, e, rowTab_app] at hn
  simp only [rowTab, hr, List.map_append, List.map_cons] at hn
  have e2 : (rowTab (rows.take k)).map (·.1) ++ ((x.map (·, a)).map (·.1) ++ c :: (y.map (·, a)).map (·.1) ++ (rowTab (rows.drop (k + 1))).map (·.1)) = ((rowTab (rows.take k)).map (·.1) ++ (x.map (·, a)).map (·.1)) ++ c :: ((y.map (·, a)).map (·.1) ++ (rowTab (rows.drop (k + 1))).map (·.1)) := by simp
  rw [e2, List.nodup_append] at hn
  intro hc
  rw [List.map_append] at hc
  exact hn.2.2 c hc c (.head _) rfl
theorem row_parts : ∀ p ∈ rows, p.1.all (fun c => decide (c ≠ 32)) = true ∧ p.1.length ≤ 10 ∧ p.2.length ≤ 100 := by decide +kernel
def cutAt (c : UInt8) : Bs → Bs × Bs × Bool
  | [] => ([], [], false)
  | d :: r => if d = c then ([], r, true) else (d :: (cutAt c r).1, (cutAt c r).2)
theorem cutAt_row : ∀ {a b : Bs} {c : UInt8}, a.all (fun d => decide (d ≠ c)) = true → cutAt c (a ++ c :: b) = (a, b, true)
  | [], b, c, _ => by simp [cutAt]
  | d :: r, b, c, h => by
    rw [List.all_cons, Bool.and_eq_true] at h
    have h1 : d ≠ c := of_decide_eq_true h.1
    simp only [List.cons_append, cutAt, if_neg h1, cutAt_row h.2]
theorem cut_index : ∀ (c : UInt8) (s : Bs), (Go.Lib.indexByte s c = -1 ∧ cutAt c s = (s, [], false)) ∨ ∃ n : Nat, Go.Lib.indexByte s c = n ∧ n < s.length ∧ cutAt c s = (s.take n, s.drop (n + 1), true)
  | c, [] => .inl ⟨rfl, rfl⟩
  | c, d :: r => by
    unfold Go.Lib.indexByte
    by_cases hd : d = c
    · subst hd
      exact .inr ⟨0, by simp, by simp, by simp [cutAt]⟩
    have hb : (d == c) = false := by simpa using hd
    rw [hb]
    rcases cut_index c r with ⟨h1, h2⟩ | ⟨n, g1, g2, g3⟩
    · rw [h1]
      exact .inl ⟨by simp, by simp [cutAt, hd, h2]⟩
    rw [g1]
    have hn : ((n : Int) == -1) = false := by
      rw [beq_eq_false_iff_ne]; omega
    rw [hn]
    exact .inr ⟨n + 1, by simp, by simp; omega, by simp [cutAt, hd, g3]⟩
theorem runes_split {b : Bs} {i : Nat} {x : List Nat} (h : runes b = x ++ runes (b.drop i)) (hi : i < b.length) : runes b = x ++ (Go.Utf8.decode ⟨b.toArray⟩ i).1 :: runes (b.drop (i + (Go.Utf8.decode ⟨b.toArray⟩ i).2)) := by
  rw [h, runes_at hi]
theorem runes_split' {b : Bs} {i : Nat} {x : List Nat} (h : runes b = x ++ runes (b.drop i)) (hi : i < b.length) : runes b = (x ++ [(Go.Utf8.decode ⟨b.toArray⟩ i).1]) ++ runes (b.drop (i + (Go.Utf8.decode ⟨b.toArray⟩ i).2)) := by
  rw [runes_split h hi]; simp
theorem runes_done {b : Bs} {i : Nat} {x : List Nat} (h : runes b = x ++ runes (b.drop i)) (hi : ¬ i < b.length) : runes b = x := by
  rw [h, runes_end (by omega), List.append_nil]
end Ke
namespace Go.Proofs.YtekmeaoblpfnpaaGreatDoor
open _root_.Go.Proofs.Tryz
open Go Go.Sx
def Tab (I : Heap) (b : Nat) : Prop := I b = some (mobj (fun a : Int => Value.int .i32 a) (Ke.mtab Ke.tab) 207)
theorem Tab.mono {I I' : Heap} {b : Nat} (h : Tab I b) (hle : Le I I') : Tab I' b := hle _ _ h
theorem and_t {a b : Prop} [Decidable a] [Decidable b] (h : (decide a && decide b) = true) : a ∧ b := by simpa using h
theorem and_f {a b : Prop} [Decidable a] [Decidable b] (h : (decide a && decide b) = false) : ¬ (a ∧ b) := fun g => by simp [g.1, g.2] at h
theorem between_ok (c a b : Int) (I : Heap) : Pure Tryz.prog 183 [.int .i32 c, .int .i32 a, .int .i32 b] I (.bool (decide (a ≤ c) && decide (c ≤ b))) := by
 refine Ctr.ob func183 ?_
 intro w0 hw0
 refine Cj.sr (J.z q1 ?_)
 refine J.nssr (J.z q0 ?_)
 refine J.z q0 ?_
 refine J.z (yl_geq rfl rfl rfl) ?_
 refine J.z q0 ?_
 refine J.split 10 rfl (fun hg1 => ?_) (fun hg1 => ?_)
 ·refine q13 3 10 true hg1 (q7 q0 ?_)
  refine q13 3 10 true hg1 (q7 q0 ?_)
  refine q13 3 10 true hg1 (q7 (yl_leq rfl rfl rfl) ?_)
  refine J.z (q22 hg1) ?_
  refine J.z q1 ?_
  refine J.ns (Cj.ret (q5 ?_))
  refine ⟨?_, rfl, rfl⟩
  have h := hg1
  first | (simp_all; done) | (simp_all; omega)
 refine q12 3 10 11 true hg1 ?_
 refine q12 3 10 12 true hg1 ?_
 refine q12 3 10 13 true hg1 ?_
 refine J.z (q23 hg1) ?_
 refine J.z q1 ?_
 refine J.ns (Cj.ret (q5 ?_))
 refine ⟨?_, rfl, rfl⟩
 have h := hg1
 first | (simp_all; done) | (simp_all; omega)
theorem fold_ok (c b : Nat) (hc : c ≤ 1114111) (I : Heap) (hT : Tab I b) : Pure Tryz.prog 129 [.int .i32 (c : Int), .map (some b)] I (str (Ke.char c)) := by
 have hm : mget (Ke.mtab Ke.tab) (c : Int) = (Ke.tab.lookup c).map str := Ke.mget_tab _ 0 c
 refine Ctr.ob func129 ?_
 intro w0 hw0
 refine Cj.sr (J.z q1 ?_)
 refine J.nss (Cj.block (Cj.seq (Cj.sr (J.z q0 ?_))))
 refine J.op rfl (op_pure rfl rfl rfl rfl rfl (between_ok _ _ _ _) ?_)
 refine J.z q1 ?_
 refine J.cd (fun hc1 => ?_) (fun hc1 => ?_)
 ·have c7x1 := and_t hc1
  refine Cj.ks (Cj.cond rfl (fun hc2 => ?_) (fun hc2 => Bool.noConfusion (Eq.trans (Eq.symm hc1) hc2)))
  refine Cj.sr (J.z q0 ?_)
  refine J.z (yl_runeStr rfl rfl tU21 tU9) ?_
  refine J.z q1 ?_
  refine J.ns (Cj.ret (Ej.blkRet (Ej.seqRet (q5 ?_))))
  refine ⟨?_, rfl, rfl⟩
  refine congrArg (fun l => Ending.returned (str l)) ?_
  unfold Ke.char
  rw [if_pos (by omega)]; exact Ke.enc_encode (by unfold Ke.okc; omega)
 have c7x2 := and_f hc1
 refine Cj.region (J.z q0 ?_)
 refine J.op rfl (op_pure rfl rfl rfl rfl rfl (between_ok _ _ _ _) ?_)
 refine J.z q1 ?_
 refine J.cd (fun hc3 => ?_) (fun hc3 => ?_)
 ·have c7x3 := and_t hc3
  refine Cj.sr (J.z q0 ?_)
  refine J.z (yl_runeStr rfl rfl tU21 tU9) ?_
  refine J.z q1 ?_
  refine J.ns (Cj.ret (Ej.blkRet (Ej.seqRet (q5 ?_))))
  refine ⟨?_, rfl, rfl⟩
  refine congrArg (fun l => Ending.returned (str l)) ?_
  unfold Ke.char
  rw [if_pos (by omega)]; exact Ke.enc_encode (by unfold Ke.okc; omega)
 have c7x4 := and_f hc3
 refine Cj.sr (J.z q0 ?_)
 refine J.op rfl (op_pure rfl rfl rfl rfl rfl (between_ok _ _ _ _) ?_)
 refine J.z q1 ?_
 refine J.cd (fun hc4 => ?_) (fun hc4 => ?_)
 ·have c14x5 := and_t hc4
  refine Cj.sr (J.z q0 ?_)
  refine J.z (yl_add rfl rfl rfl (i32w (by omega))) ?_
  refine J.z (yl_runeStr rfl rfl tU21 tU9) ?_
  refine J.z q1 ?_
  refine J.ns (Cj.ret (Ej.blkRet (Ej.seqRet (q5 ?_))))
  refine ⟨?_, rfl, rfl⟩
  refine congrArg (fun l => Ending.returned (str l)) ?_
  unfold Ke.char
  rw [if_neg (by omega), if_pos (by omega)]; exact (congrArg (fun n : Int => (Utf8.encode n).data.toList) (by omega)).trans (Ke.enc_encode (c := c + 32) (by unfold Ke.okc; omega))
 have c14x6 := and_f hc4
 refine Cj.sr (J.z q0 ?_)
 refine J.z q18 ?_
 refine J.z q1 ?_
 refine J.cd (fun hc5 => ?_) (fun hc5 => ?_)
 ·have hc5p := odt hc5
  have c20x7 := odt hc5
  refine Cj.sr (J.z q1 ?_)
  refine J.ns (Cj.ret (Ej.blkRet (Ej.seqRet (q5 ?_))))
  refine ⟨?_, rfl, rfl⟩
  refine congrArg (fun l => Ending.returned (str l)) ?_
  unfold Ke.char
  rw [if_neg (by omega), if_neg (by omega), if_pos (by omega)]
 have hc5p := odf hc5
 have c20x8 := odf hc5
 refine Cj.seq (Cj.sr (J.z q0 ?_))
 refine J.op rfl (op_pure rfl rfl rfl rfl rfl (between_ok _ _ _ _) ?_)
 refine J.z q1 ?_
 refine J.cd (fun hc6 => ?_) (fun hc6 => ?_)
 ·have c23x9 := and_t hc6
  refine Cj.ks (Cj.cond rfl (fun hc7 => ?_) (fun hc7 => Bool.noConfusion (Eq.trans (Eq.symm hc6) hc7)))
  refine Cj.sr (J.z q1 ?_)
  refine J.ns (Cj.ret (Ej.blkRet (Ej.seqRet (q5 ?_))))
  refine ⟨?_, rfl, rfl⟩
  refine congrArg (fun l => Ending.returned (str l)) ?_
  unfold Ke.char
  rw [if_neg (by omega), if_neg (by omega), if_neg (by omega), if_pos (by omega)]
 have c23x10 := and_f hc6
 refine Cj.region (J.z q0 ?_)
 refine J.op rfl (op_pure rfl rfl rfl rfl rfl (between_ok _ _ _ _) ?_)
 refine J.z q1 ?_
 refine J.cd (fun hc8 => ?_) (fun hc8 => ?_)
 ·have c23x11 := and_t hc8
  refine Cj.sr (J.z q1 ?_)
  refine J.ns (Cj.ret (Ej.blkRet (Ej.seqRet (q5 ?_))))
  refine ⟨?_, rfl, rfl⟩
  refine congrArg (fun l => Ending.returned (str l)) ?_
  unfold Ke.char
  rw [if_neg (by omega), if_neg (by omega), if_neg (by omega), if_pos (by omega)]
 have c23x12 := and_f hc8
 refine Cj.kb (Cj.seq (Cj.sr (J.z q0 ?_)))
 refine J.z q0 ?_
 refine J.z (yl_lookup2 (kv := fun a : Int => Value.int .i32 a) (l := Ke.mtab Ke.tab) (a := (c : Int)) rfl rfl rfl rfl underlying200 (KeyK.int tU21) tZ9 (Blk.imm hT)) ?_
 refine J.z q0 ?_
 refine J.z q11 ?_
 refine J.z q11 ?_
 refine J.z q1 ?_
 refine J.z q1 ?_
 refine J.nssr (J.z q0 ?_)
 refine J.cd (fun hc9 => ?_) (fun hc9 => ?_)
 ·obtain ⟨x, hx⟩ := Option.isSome_iff_exists.1 (show (Ke.tab.lookup c).isSome = true by have h := hc9; rw [hm] at h; simpa using h)
  refine Cj.eqv 5 rfl (show _ = str x from (by rw [hm, hx]; rfl)) ?_
  refine Cj.sr (J.z q0 ?_)
  refine J.z q1 ?_
  refine J.ns (Cj.rs (q5 ?_))
  refine ⟨?_, rfl, rfl⟩
  refine congrArg (fun l => Ending.returned (str l)) ?_
  unfold Ke.char
  rw [if_neg (by omega), if_neg (by omega), if_neg (by omega), if_neg (by omega), hx]
 have hx : Ke.tab.lookup c = none := by have h := hc9; rw [hm] at h; simpa using h
 refine Cj.ks (Cj.seq (Cj.block (Cj.sr (J.z q0 ?_))))
 refine J.z q19 ?_
 refine J.z q1 ?_
 refine J.cd (fun hc10 => ?_) (fun hc10 => ?_)
 ·have hc10p := ebq hc10
  have c36x13 := ebq hc10
  refine Cj.sr (J.z q1 ?_)
  refine J.ns (Cj.ret (Ej.blkRet (Ej.seqRet (q5 ?_))))
  refine ⟨?_, rfl, rfl⟩
  refine congrArg (fun l => Ending.returned (str l)) ?_
  unfold Ke.char
  rw [if_neg (by omega), if_neg (by omega), if_neg (by omega), if_neg (by omega), hx]
  simp only
  rw [if_pos (by omega)]; rfl
 have hc10p := nbf hc10
 have c36x14 := nbf hc10
 refine Cj.seq (Cj.sr (J.z q0 ?_))
 refine J.op rfl (op_pure rfl rfl rfl rfl rfl (between_ok _ _ _ _) ?_)
 refine J.z q1 ?_
 refine J.cd (fun hc11 => ?_) (fun hc11 => ?_)
 ·have c39x15 := and_t hc11
  refine Cj.ks (Cj.cond rfl (fun hc12 => ?_) (fun hc12 => Bool.noConfusion (Eq.trans (Eq.symm hc11) hc12)))
  refine Cj.sr (J.z q0 ?_)
  refine J.z (yl_runeStr rfl rfl tU21 tU9) ?_
  refine J.z q1 ?_
  refine J.ns (Cj.ret (Ej.blkRet (Ej.seqRet (q5 ?_))))
  refine ⟨?_, rfl, rfl⟩
  refine congrArg (fun l => Ending.returned (str l)) ?_
  unfold Ke.char
  rw [if_neg (by omega), if_neg (by omega), if_neg (by omega), if_neg (by omega), hx]
  simp only
  rw [if_neg (by omega), if_pos (by omega)]; exact Ke.enc_encode (by unfold Ke.okc; omega)
 have c39x16 := and_f hc11
 refine Cj.region (J.z q0 ?_)
 refine J.op rfl (op_pure rfl rfl rfl rfl rfl (between_ok _ _ _ _) ?_)
 refine J.z q1 ?_
 refine J.cd (fun hc13 => ?_) (fun hc13 => ?_)
 ·have c39x17 := and_t hc13
  refine Cj.sr (J.z q0 ?_)
  refine J.z (yl_runeStr rfl rfl tU21 tU9) ?_
  refine J.z q1 ?_
  refine J.ns (Cj.ret (Ej.blkRet (Ej.seqRet (q5 ?_))))
  refine ⟨?_, rfl, rfl⟩
  refine congrArg (fun l => Ending.returned (str l)) ?_
  unfold Ke.char
  rw [if_neg (by omega), if_neg (by omega), if_neg (by omega), if_neg (by omega), hx]
  simp only
  rw [if_neg (by omega), if_pos (by omega)]; exact Ke.enc_encode (by unfold Ke.okc; omega)
 have c39x18 := and_f hc13
 refine Cj.seq (Cj.sr (J.z q0 ?_))
 refine J.op rfl (op_pure rfl rfl rfl rfl rfl (between_ok _ _ _ _) ?_)
 refine J.z q0 ?_
 refine J.split 49 rfl (fun hg14 => ?_) (fun hg14 => ?_)
 rotate_left
 ·have c49x24 := and_f hg14
  refine q12 2 49 50 true hg14 ?_
  refine q12 2 49 51 true hg14 ?_
  refine J.z (q23 hg14) ?_
  refine J.z q1 ?_
  refine J.c0 (fun hc18 => ?_)
  refine Cj.region (J.z q0 ?_)
  refine J.op rfl (op_pure rfl rfl rfl rfl rfl (between_ok _ _ _ _) ?_)
  refine J.z q1 ?_
  refine J.cd (fun hc19 => ?_) (fun hc19 => ?_)
  ·have c46x25 := and_t hc19
   refine Cj.sr (J.z q0 ?_)
   refine J.z (yl_add rfl rfl rfl (i32w (by omega))) ?_
   refine J.z (yl_runeStr rfl rfl tU21 tU9) ?_
   refine J.z q1 ?_
   refine J.ns (Cj.ret (Ej.blkRet (Ej.seqRet (q5 ?_))))
   refine ⟨?_, rfl, rfl⟩
   refine congrArg (fun l => Ending.returned (str l)) ?_
   unfold Ke.char
   rw [if_neg (by omega), if_neg (by omega), if_neg (by omega), if_neg (by omega), hx]
   simp only
   rw [if_neg (by omega), if_neg (by omega), if_pos (by omega)]; exact (congrArg (fun n : Int => (Utf8.encode n).data.toList) (by omega)).trans (Ke.enc_encode (c := c + 32) (by unfold Ke.okc; omega))
  have c46x26 := and_f hc19
  refine Cj.kb (Cj.sr (J.z q1 ?_))
  refine J.ns (Cj.ret (q5 ?_))
  refine ⟨?_, rfl, rfl⟩
  refine congrArg (fun l => Ending.returned (str l)) ?_
  unfold Ke.char
  rw [if_neg (by omega), if_neg (by omega), if_neg (by omega), if_neg (by omega), hx]
  simp only
  rw [if_neg (by omega), if_neg (by omega), if_neg (by omega)]
 have c49x19 := and_t hg14
 refine q13 2 49 true hg14 (q7 q0 ?_)
 refine q13 2 49 true hg14 (q7 (yl_neq rfl rfl rfl) ?_)
 refine J.z (q22 hg14) ?_
 refine J.z q1 ?_
 refine J.cd (fun hc15 => ?_) (fun hc15 => ?_)
 ·have hc15p := bne_iff_ne.1 hc15
  have c46x20 : (c : Int) ≠ 930 := by have h := hc15; simpa using h
  refine Cj.ks (Cj.cond rfl (fun hc16 => ?_) (fun hc16 => Bool.noConfusion (Eq.trans (Eq.symm hc15) hc16)))
  refine Cj.sr (J.z q0 ?_)
  refine J.z (yl_add rfl rfl rfl (i32w (by omega))) ?_
  refine J.z (yl_runeStr rfl rfl tU21 tU9) ?_
  refine J.z q1 ?_
  refine J.ns (Cj.ret (Ej.blkRet (Ej.seqRet (q5 ?_))))
  refine ⟨?_, rfl, rfl⟩
  refine congrArg (fun l => Ending.returned (str l)) ?_
  unfold Ke.char
  rw [if_neg (by omega), if_neg (by omega), if_neg (by omega), if_neg (by omega), hx]
  simp only
  rw [if_neg (by omega), if_neg (by omega), if_pos (by omega)]; exact (congrArg (fun n : Int => (Utf8.encode n).data.toList) (by omega)).trans (Ke.enc_encode (c := c + 32) (by unfold Ke.okc; omega))
 have hc15p := bne_f hc15
 have c46x21 : ¬ (c : Int) ≠ 930 := by have h := hc15; simpa using h
 refine Cj.region (J.z q0 ?_)
 refine J.op rfl (op_pure rfl rfl rfl rfl rfl (between_ok _ _ _ _) ?_)
 refine J.z q1 ?_
 refine J.cd (fun hc17 => ?_) (fun hc17 => ?_)
 ·have c46x22 := and_t hc17
  refine Cj.sr (J.z q0 ?_)
  refine J.z (yl_add rfl rfl rfl (i32w (by omega))) ?_
  refine J.z (yl_runeStr rfl rfl tU21 tU9) ?_
  refine J.z q1 ?_
  refine J.ns (Cj.ret (Ej.blkRet (Ej.seqRet (q5 ?_))))
  refine ⟨?_, rfl, rfl⟩
  refine congrArg (fun l => Ending.returned (str l)) ?_
  unfold Ke.char
  rw [if_neg (by omega), if_neg (by omega), if_neg (by omega), if_neg (by omega), hx]
  simp only
  rw [if_neg (by omega), if_neg (by omega), if_pos (by omega)]; exact (congrArg (fun n : Int => (Utf8.encode n).data.toList) (by omega)).trans (Ke.enc_encode (c := c + 32) (by unfold Ke.okc; omega))
 have c46x23 := and_f hc17
 refine Cj.kb (Cj.sr (J.z q1 ?_))
 refine J.ns (Cj.ret (q5 ?_))
 refine ⟨?_, rfl, rfl⟩
 refine congrArg (fun l => Ending.returned (str l)) ?_
 unfold Ke.char
 rw [if_neg (by omega), if_neg (by omega), if_neg (by omega), if_neg (by omega), hx]
 simp only
 rw [if_neg (by omega), if_neg (by omega), if_neg (by omega)]
theorem Index1_ok (s : List UInt8) (c : UInt8) (I : Heap) : Pure Tryz.prog 298 [str s, str [c]] I (i64 (Lib.indexByte s c)) :=
  Pure.of_same (Enters.of func298 (by decide) rfl) fun w _ => by
    have h := Tryz.stringslite_Index_one ⟨s.toArray⟩ c w
    rw [ba_list] at h
    exact h
theorem sCut_ok (s : List UInt8) (c : UInt8) (hs : s.length ≤ 1000000000) (I : Heap) : Pure Tryz.prog 266 [str s, str [c]] I (.tuple #[str (Ke.cutAt c s).1, str (Ke.cutAt c s).2.1, .bool (Ke.cutAt c s).2.2]) := by
 refine Ctr.ob func266 ?_
 intro w0 hw0
 refine Cj.sr (J.z q1 ?_)
 refine J.z q1 ?_
 refine J.z q1 ?_
 refine J.nsss (Cj.region (J.z q0 ?_))
 refine J.z q0 ?_
 refine J.op rfl (op_pure rfl rfl rfl rfl rfl (Index1_ok s c _) ?_)
 refine J.z q1 ?_
 refine J.nssr (J.z q0 ?_)
 refine J.z (yl_geq rfl rfl rfl) ?_
 refine J.cd (fun hc1 => ?_) (fun hc1 => ?_)
 ·have hc1p := odt hc1
  obtain ⟨n, g1, g2, g3⟩ := (Ke.cut_index c s).resolve_left (fun h => by have := odt hc1; omega)
  refine Cj.eqv 7 rfl (show _ = i64 (n : Int) from congrArg i64 g1) ?_
  refine Cj.seq (Cj.drawSel [] [] 12 (by kernel_rfl) ?_)
  refine JA.fix fx1 (fun fx2 => ?_)
  refine JA.tk 0 rfl fx2 q0 ?_
  refine JA.tk 1 rfl fx2 q0 ?_
  refine JA.tk 2 rfl fx2 (yl_sliceStr (p := 0) (q := n) rfl rfl tU9 rfl ⟨_, rfl⟩ (by omega) (by omega)) ?_
  refine JA.eqv 15 rfl (show _ = str (s.take n) from (by rw [List.drop_zero])) ?_
  refine JA.tk 3 rfl fx2 q0 ?_
  refine JA.tk 4 rfl fx2 q0 ?_
  refine JA.tk 5 rfl fx2 q0 ?_
  refine JA.tk 6 rfl fx2 (yl_lenStr rfl rfl tU9) ?_
  refine JA.tk 7 rfl fx2 (yl_add rfl rfl rfl (w64 (by simp only [List.length_cons, List.length_nil]; omega))) ?_
  refine JA.tk 8 rfl fx2 (yl_sliceStr (p := n + 1) (q := s.length) rfl rfl tU9 ⟨_, rfl⟩ rfl (by omega) (by omega)) ?_
  refine JA.eqv 21 rfl (show _ = str (s.drop (n + 1)) from (by rw [List.take_length])) ?_
  refine JA.tk 9 rfl fx2 q1 ?_
  refine JA.tk 10 rfl fx2 q1 ?_
  refine JA.tk 11 rfl fx2 q1 ?_
  refine q8 ?_
  refine Ej.seq (Cj.rs (Ej.ret3 rfl rfl rfl rfl rfl ?_))
  refine ⟨?_, rfl, rfl⟩
  rw [g3]
 have hc1p := odf hc1
 have g := (Ke.cut_index c s).resolve_right (fun ⟨n, h, _⟩ => by have := odf hc1; omega)
 refine Cj.ks (Cj.sr (J.z q0 ?_))
 refine J.z q1 ?_
 refine J.z q1 ?_
 refine J.z q1 ?_
 refine J.ns (Cj.ret (Ej.ret3 rfl rfl rfl rfl rfl ?_))
 refine ⟨?_, rfl, rfl⟩
 rw [g.2]; rfl
theorem Cut_ok (s : List UInt8) (c : UInt8) (hs : s.length ≤ 1000000000) (I : Heap) : Pure Tryz.prog 233 [str s, str [c]] I (.tuple #[str (Ke.cutAt c s).1, str (Ke.cutAt c s).2.1, .bool (Ke.cutAt c s).2.2]) := by
 refine Ctr.ob func233 ?_
 intro w0 hw0
 refine Cj.sr (J.z q1 ?_)
 refine J.z q1 ?_
 refine J.z q1 ?_
 refine J.nssr (J.z q0 ?_)
 refine J.z q0 ?_
 refine J.op rfl (op_pure rfl rfl rfl rfl rfl (sCut_ok s c hs _) ?_)
 refine J.z q11 ?_
 refine J.z q11 ?_
 refine J.z q11 ?_
 refine J.z q1 ?_
 refine J.z q1 ?_
 refine J.z q1 ?_
 refine J.ns (Cj.ret (Ej.ret3 rfl rfl rfl rfl rfl ?_))
 exact ⟨rfl, rfl, rfl⟩
theorem alphabet_ok (rb rc : Nat) (I : Heap) (hrb : I rb = some (cel 9 (Ke.prows.map str))) : Ctr Tryz.prog 182 [.slice (some ⟨rb, 0, none⟩) 31 rc] I []
    (fun e _I' H' => ∃ tb, e = .returned (.map (some tb)) ∧ H' = [(tb, mobj (fun a : Int => Value.int .i32 a) (Ke.mtab Ke.tab) 207)]) := by
 refine Ctr.ob func182 ?_
 intro w0 hw0
 refine Cj.sr (J.z q1 ?_)
 refine J.nssr (J.op rfl (op_makeMap rfl rfl rfl ?_))
 intro b1 hb1
 refine J.z q1 ?_
 refine J.nsss (Cj.region (J.z q0 ?_))
 refine J.z (q14 tU69) ?_
 refine J.z q0 ?_
 refine J.ns (Cj.block (Cj.loop (ι := Nat) (fun k => k ≤ 31) (fun k => 31 - k) (fun k => [(3, .map (some b1)), (12, .slice (some ⟨rb, 0, none⟩) 31 rc), (13, .int .i64 ((31 : Nat) : Int)), (14, i64 (k : Int))]) (fun k => _) (fun k => [(b1, mobj (fun a : Int => Value.int .i32 a) (Ke.mtab (Ke.rowTab (Ke.rows.take k))) (Ke.rowTab (Ke.rows.take k)).length)]) 0 (Nat.zero_le _) ⟨rfl, rfl, rfl, rfl, trivial⟩ rfl rfl ?_))
 intro k hk
 refine Cj.sr (J.z q18 ?_)
 refine J.nss (Cj.cond rfl (fun hc2 => ?_) (fun hc2 => ?_))
 ·have hc2p := odt hc2
  have hlt : k < 31 := by have := odt hc2; omega
  obtain ⟨⟨a, b⟩, hget⟩ : ∃ p, Ke.rows[k]? = some p := ⟨_, lgg (show k < Ke.rows.length from hlt)⟩
  obtain ⟨ha, hal, hbl⟩ := Ke.row_parts _ (lmg hget)
  have hpg : (Ke.prows.map str)[k]? = some (str (a ++ 32 :: b)) := by simp [Ke.prows, hget]
  refine Cj.ks (Cj.seq (Cj.block (Cj.sr (J.z (q16 (off' := k) tU69 tS9) ?_))))
  refine J.z (yl_load rfl rfl tA9 (Blk.imm hrb) hpg) ?_
  refine J.z q1 ?_
  refine J.nssr (J.z q0 ?_)
  refine J.op rfl (op_pure rfl rfl rfl rfl rfl (Cut_ok (a ++ 32 :: b) 32 (by dsimp only at hal hbl; simp; omega) _) ?_)
  refine J.eqv 20 rfl (show _ = .tuple #[str a, str b, .bool true] from (by rw [Ke.cutAt_row ha])) ?_
  refine J.z q0 ?_
  refine J.z q11 ?_
  refine J.z q11 ?_
  refine J.z q11 ?_
  refine J.z q1 ?_
  refine J.z q1 ?_
  refine J.z q1 ?_
  refine J.nssr (J.z q0 ?_)
  refine J.op rfl (op_range rfl rfl rfl rfl tU9 ?_)
  intro b3 hb3
  refine J.ns (Cj.block (Cj.loop (ι := Nat × List Nat) (fun j => j.1 ≤ b.length ∧ Ke.runes b = j.2 ++ Ke.runes (b.drop j.1)) (fun j => b.length - j.1) (fun j => [(3, .map (some b1)), (6, str a), (12, .slice (some ⟨rb, 0, none⟩) 31 rc), (13, .int .i64 ((31 : Nat) : Int)), (14, i64 (k : Int)), (25, ptr b3 0)]) (fun j => _) (fun j => [(b3, .stringIter ⟨b.toArray⟩ j.1), (b1, mobj (fun a : Int => Value.int .i32 a) (Ke.mtab (Ke.rowTab (Ke.rows.take k) ++ j.2.map (·, a))) (Ke.rowTab (Ke.rows.take k) ++ j.2.map (·, a)).length)]) (0, []) ⟨Nat.zero_le _, rfl⟩ ⟨rfl, rfl, rfl, rfl, rfl, rfl, trivial⟩ rfl (by simp) ?_))
  rintro ⟨i, x⟩ ⟨hi, hx⟩
  dsimp only at hi hx ⊢
  rcases Nat.lt_or_ge i b.length with hp | hp
  ·have hw := Ke.decode_width b hp
   have hfr := Ke.fresh hget (Ke.runes_split hx hp)
   refine Cj.sr (J.op rfl (op_next 0 rfl rfl rfl rfl rfl (by rw [size_mk]; omega) LSet.z ?_))
   refine J.z q11 ?_
   refine J.nss (Cj.cond rfl (fun hc4 => ?_) (fun hc4 => Bool.noConfusion (Eq.trans (Eq.symm rfl) hc4)))
   refine Cj.ks (Cj.block (Cj.sr (J.z q11 ?_)))
   refine J.z q1 ?_
   refine J.nsr (J.z q0 ?_)
   refine J.z q0 ?_
   refine J.z q0 ?_
   refine J.op rfl (op_insert (kv := fun a : Int => Value.int .i32 a) (a := ((Utf8.decode ⟨b.toArray⟩ i).1 : Int)) 1 (.inr rfl) rfl rfl rfl rfl rfl underlying200 (KeyK.int tU21) rfl (LSet.s LSet.z) ?_)
   rw [(Ke.mset_new (s := a) hfr).1, (Ke.mset_new (s := a) hfr).2]
   refine J.nil (Ej.blkNormal (Ej.round (i + (Utf8.decode ⟨b.toArray⟩ i).2, x ++ [(Utf8.decode ⟨b.toArray⟩ i).1]) ⟨hw.2, Ke.runes_split' hx hp⟩ (by dsimp only; omega) ⟨rfl, rfl, rfl, rfl, rfl, rfl, trivial⟩ rfl (by simp only [List.map_append, List.map_cons, List.map_nil, List.append_assoc])))

  refine Cj.sr (J.op rfl (op_nextEnd 0 rfl rfl rfl rfl rfl (by rw [size_mk]; omega) ?_))
  refine J.z q11 ?_
  refine J.nss (Cj.cond rfl (fun hc5 => Bool.noConfusion (Eq.trans (Eq.symm rfl) hc5)) (fun hc5 => ?_))
  refine Cj.exit (Ej.seqExit (Ej.loopExit (Ej.blkExit (Ej.blkNormal (Ej.seq (Cj.region (J.z (yl_add rfl rfl rfl (w64 (by omega))) ?_)))))))
  refine J.z q0 ?_
  refine J.nil (Ej.keep (Keeps.d (Keeps.k Keeps.n)) ?_)
  refine Ej.round (k + 1) (by omega) (by omega) ⟨rfl, rfl, rfl, rfl, trivial⟩ rfl (by rw [Ke.rowTab_next hget, Ke.runes_done hx (by omega)])
 have hc2p := odf hc2
 refine Cj.xl (Cj.sr (J.z q0 ?_))
 refine J.z q1 ?_
 refine J.ns (Cj.ret ?_)
 obtain rfl : k = 31 := by omega
 refine q5 ?_
 have he : Ke.rowTab (Ke.rows.take 31) = Ke.tab := by rw [List.take_of_length_le (by decide)]; exact Ke.tab_eq
 refine ⟨b1, rfl, ?_⟩
 rw [he]; rfl
theorem prows_eq : cel 9 (Ke.prows.map str) = cel 9 [str [97, 32, 195, 160, 195, 161, 195, 162, 195, 163, 195, 164, 195, 165, 196, 129, 196, 131, 196, 133, 195, 128, 195, 129, 195, 130, 195, 131, 195, 132, 195, 133, 196, 128, 196, 130, 196, 132], str [99, 32, 195, 167, 196, 135, 196, 137, 196, 139, 196, 141, 195, 135, 196, 134, 196, 136, 196, 138, 196, 140], str [100, 32, 196, 143, 196, 145, 195, 176, 196, 142, 196, 144, 195, 144], str [101, 32, 195, 168, 195, 169, 195, 170, 195, 171, 196, 147, 196, 149, 196, 151, 196, 153, 196, 155, 195, 136, 195, 137, 195, 138, 195, 139, 196, 146, 196, 148, 196, 150, 196, 152, 196, 154], str [103, 32, 196, 157, 196, 159, 196, 161, 196, 163, 196, 156, 196, 158, 196, 160, 196, 162], str [104, 32, 196, 165, 196, 167, 196, 164, 196, 166], str [105, 32, 195, 172, 195, 173, 195, 174, 195, 175, 196, 169, 196, 171, 196, 173, 196, 175, 196, 177, 195, 140, 195, 141, 195, 142, 195, 143, 196, 168, 196, 170, 196, 172, 196, 174, 196, 176], str [106, 32, 196, 181, 196, 180], str [107, 32, 196, 183, 196, 182], str [108, 32, 196, 186, 196, 188, 196, 190, 197, 130, 196, 185, 196, 187, 196, 189, 197, 129], str [110, 32, 195, 177, 197, 132, 197, 134, 197, 136, 195, 145, 197, 131, 197, 133, 197, 135], str [111, 32, 195, 178, 195, 179, 195, 180, 195, 181, 195, 182, 195, 184, 197, 141, 197, 143, 197, 145, 198, 161, 195, 146, 195, 147, 195, 148, 195, 149, 195, 150, 195, 152, 197, 140, 197, 142, 197, 144, 198, 160], str [114, 32, 197, 149, 197, 151, 197, 153, 197, 148, 197, 150, 197, 152], str [115, 32, 197, 155, 197, 157, 197, 159, 197, 161, 197, 154, 197, 156, 197, 158, 197, 160], str [116, 32, 197, 163, 197, 165, 197, 167, 197, 162, 197, 164, 197, 166], str [117, 32, 195, 185, 195, 186, 195, 187, 195, 188, 197, 169, 197, 171, 197, 173, 197, 175, 197, 177, 197, 179, 198, 176, 195, 153, 195, 154, 195, 155, 195, 156, 197, 168, 197, 170, 197, 172, 197, 174, 197, 176, 197, 178, 198, 175], str [119, 32, 197, 181, 197, 180], str [121, 32, 195, 189, 195, 191, 197, 183, 195, 157, 197, 184, 197, 182], str [122, 32, 197, 186, 197, 188, 197, 190, 197, 185, 197, 187, 197, 189], str [97, 101, 32, 195, 166, 195, 134], str [111, 101, 32, 197, 147, 197, 146], str [115, 115, 32, 195, 159], str [116, 104, 32, 195, 190, 195, 158], str [206, 177, 32, 206, 172, 206, 134], str [206, 181, 32, 206, 173, 206, 136], str [206, 183, 32, 206, 174, 206, 137], str [206, 185, 32, 206, 175, 207, 138, 206, 144, 206, 138, 206, 170], str [206, 191, 32, 207, 140, 206, 140], str [207, 133, 32, 207, 141, 207, 139, 206, 176, 206, 142, 206, 171], str [207, 137, 32, 207, 142, 206, 143], str [208, 181, 32, 209, 145, 208, 129]] := by kernel_rfl
theorem letters_ok (I : Heap) : Ctr Tryz.prog 128 [] I [] (fun e _I' H' => ∃ tb, e = .returned (.map (some tb)) ∧ H' = [(tb, mobj (fun a : Int => Value.int .i32 a) (Ke.mtab Ke.tab) 207)]) := by
 refine Ctr.ob func128 ?_
 intro w0 hw0
 refine Cj.sr (J.z q1 ?_)
 refine J.nssr (J.op rfl (q17 tU69 tS9 tZ9 (LCat.one rfl (LCat.one rfl (LCat.one rfl (LCat.one rfl (LCat.one rfl (LCat.one rfl (LCat.one rfl (LCat.one rfl (LCat.one rfl (LCat.one rfl (LCat.one rfl (LCat.one rfl (LCat.one rfl (LCat.one rfl (LCat.one rfl (LCat.one rfl (LCat.one rfl (LCat.one rfl (LCat.one rfl (LCat.one rfl (LCat.one rfl (LCat.one rfl (LCat.one rfl (LCat.one rfl (LCat.one rfl (LCat.one rfl (LCat.one rfl (LCat.one rfl (LCat.one rfl (LCat.one rfl (LCat.one rfl LCat.none))))))))))))))))))))))))))))))) ?_))
 intro b1 hb1
 refine J.persist hb1 (fun I3 hle2 hb1i => ?_)
 refine J.op rfl (op_call (H1 := []) rfl rfl rfl rfl rfl (alphabet_ok b1 _ _ (by rw [prows_eq]; exact hb1i)) ?_ (fun _ _ _ _ ⟨_, h, _⟩ => by cases h) (fun _ _ ⟨_, h, _⟩ => by cases h))
 intro v4 I5 H6 hle7 hp8
 obtain ⟨tb, h, rfl⟩ := hp8; cases h
 refine J.z q1 ?_
 refine J.ns (Cj.ret (q5 ?_))
 exact ⟨tb, rfl, rfl⟩
