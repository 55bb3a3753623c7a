/-
  Own texts on the laws of the seat, joined: the logic, and contracts of functions. Conditions: none.
-/
import Derived.Test.YtekmeaoblpfnpaaGreatDoorNmC
import Derived.Test.YtekmeaoblpfnpaaGreatDoorPC10
set_option linter.all false
set_option maxRecDepth 100000
set_option maxHeartbeats 40000000
section
namespace Go.Proofs.YtekmeaoblpfnpaaGreatDoor
open _root_.Go.Proofs.Tryz
open Go Go.Sx
structure TF where
  vis : ML Ix.Rec
  rest : ML Ix.Rec
  g : Gs
def fnd (L : Ix.Ix) (vis : ML Ix.Rec) : List FW := (vis.map (·.1)).map fun t => (Ix.LQ L t, t)
theorem a3f L vis x : fnd L (vis ++ [x]) = fnd L vis ++ [(Ix.LQ L x.1, x.1)] := by
  unfold fnd; rw [List.map_append, List.map_append]; rfl
theorem b7W L vis : (fnd L vis).length = vis.length := by unfold fnd; rw [List.length_map, List.length_map]
theorem b2b {L q} (hf : Cq.form q = true) (h : ∀ t, Ix.sat L q t = false) : Ix.JQ L q [] :=
  Ix.a7M hf List.Pairwise.nil fun t => by rw [h t]; simp
theorem b1T {L q} (hf : Cq.form q = true) {m k} (hm : EF m k (Ix.sat L q)) {vis} (hp : vis.Perm m) {ls : List FW} (hpp : ls.Perm (fnd L vis)) (ho : ls.Pairwise fun p q => ¬ OW q p) : Ix.JQ L q (ls.map (·.2)) := by
  have hn : (vis.map (·.1)).Nodup := ((hp.map _).nodup_iff.2 hm.1.1)
  obtain ⟨h1, h2⟩ := b3F hn hpp ho
  exact Ix.a7M hf h1 fun t => by rw [h2, (hp.map _).mem_iff, hm.mem]
theorem a3s {ls : List FW} {k x} (h : ls[k]? = some x) : (ls.take (k + 1)).map (·.2) = (ls.take k).map (·.2) ++ [x.2] := UM _ h
theorem b3k {ls : List FW} (h : ls.Perm []) : ls = [] := h.eq_nil
theorem b8U xv L q p c (hsz : q.size ≤ 1000000000) (hwd : q.wide ≤ 10000000) (hR : Cq.right q = true) (htk : Ix.RU L) I (hps : PS I q.ps p) (hx : JI I xv L) (hT : IX I) : yY Tryz.prog 18 [xv, .agg (zW q p c).toArray] I []
    (fun e _ H' => ∃ (r : List Ix.Rec) (g : Gs), Ix.JQ L q r ∧ BN 0 2 r.length (r.flatMap recC) g ∧ e = .returned (.tuple #[gV r.length g, i64 0]) ∧ H' = gH 54 (r.flatMap recC) g) := by
 have hform : Cq.form q = true := by unfold Cq.right at hR; rw [Bool.and_eq_true] at hR; exact hR.1
 have hbig := hx.big
 refine zO func18 fun w0 hw0 => ?_
 refine yU 3 ?_
 intro b1 hb1
 refine BD (XD q p c hsz (by omega) _ hps) ?_
 refine J.ev 12 (.bool true) rfl (congrArg Value.bool hR) ?_
 refine BJ (a0m xv L htk q p c _ hps hx hT hwd hform) ?_
 intro v3 I4 H5 hle6 hp7
 have hps := hps.mono hle6
 have hx := hx.mono hle6
 have hT := hT.mono hle6
 obtain ⟨ws, h, hset, rfl⟩ := hp7; cases h
 rcases id hset with ⟨rfl, hS⟩ | ⟨sb, sm, sk, rfl, hm, hsb⟩
 ·

  refine J.op rfl (KF rfl rfl rfl rfl FI ?_)
  intro b8 hb8
  refine yU 3 ?_
  refine Cj.rounds 1 ?_
  refine Rj.succ ?_
  refine yU 2 ?_
  refine J.op rfl (KY 0 rfl rfl rfl rfl rfl ?_)
  refine KX [_, _] (a1N (base := 0) [] none ⟨rfl, rfl⟩ (by decide) _) ?_
  rintro v9 I9 H9 hle9 ⟨ls, hpp, hpo, h, rfl⟩; cases h
  have hls := b3k hpp
  subst hls
  have hrun : Ix.JQ L q (([] : List FW).map (·.2)) := b2b hform hS
  have hps := hps.mono hle9
  have hx := hx.mono hle9
  have hT := hT.mono hle9
  refine yU 16 ?_
  refine Cj.rounds 1 ?_
  refine Rj.succ ?_
  refine yU 6 ?_
  refine Cj.cond rfl (fun hc10 => Bool.noConfusion (Eq.trans (Eq.symm (by first | rfl | decide)) hc10)) (fun hc10 => ?_)
  refine BL ?_
  exact ⟨_, none, hrun, ⟨rfl, rfl⟩, rfl, rfl⟩
 have hml : sm.length ≤ 100000 := by
   have h9 := hm.len (l := L.map (·.1)) fun t ht => Ix.WS L _ q (Nat.lt_succ_self _) hform ht
   rw [List.length_map] at h9
   omega
 refine J.op rfl (MB (kv := zS) (l := sm) rfl rfl rfl rfl FI (yZ.BR hsb) ?_)
 intro b11 hb11
 refine yU 3 ?_
 refine Cj.keep (Keeps.k (Keeps.d Keeps.n)) ?_
 refine Cj.loop (ι := TF) (fun y => (y.vis ++ y.rest).Perm sm ∧ BN w0.heap.size 3 (fnd L y.vis).length ((fnd L y.vis).flatMap LV) y.g) (fun y => y.rest.length) (fun y => [(0, xv), (6, gV (fnd L y.vis).length y.g), (17, ptr b11 0)]) (fun y => _) (fun y => (b11, UF sb sk y.vis sk) :: gH 123 ((fnd L y.vis).flatMap LV) y.g) ⟨[], sm, none⟩ ⟨.refl _, rfl, rfl⟩ ⟨rfl, rfl, rfl, trivial⟩ rfl rfl ?_
 rintro ⟨vis, rest, g⟩ ⟨hp, hg⟩
 dsimp only at hp hg ⊢
 have hpl0 := hp.length_eq
 rw [List.length_append] at hpl0
 have hfl := b7W L vis
 refine yU 2 ?_
 refine J.op rfl (NQ (kv := zS) (l := sm) 0 rfl rfl rfl rfl rfl (yZ.BR hsb) hm.1.2.2 (Nat.le_refl _) hm.1.2.1 hp ?_ ?_)
 ·rintro x rest2 H9 hrx hpx ⟨-, hset⟩; simp only [List.set_cons_zero, List.set_cons_succ] at hset; subst hset
  have hxm : x ∈ sm := hpx.mem_iff.1 (List.mem_append_left _ (List.mem_append_right _ (.head _)))
  refine yU 10 ?_
  refine J.z (SY (kv := zS) (l := sm) rfl rfl (yZ.at 0 rfl) (yZ.BR hsb) hxm hm.1.2.1) ?_
  refine yU 2 ?_
  intro b13 hb13
  refine yU 3 ?_
  refine Cj.AU [0, 1] [] 9 (by kernel_rfl) ?_
  have hsb_7 := hsb
  refine BD (b6I xv L x.1 _ hx) ?_
  refine ⟨⟨(Le.refl _), (HSub.c 0 rfl (HSub.c 1 rfl HSub.n)), CSub.n⟩, ?_⟩
  refine JA.fix CS (fun fx15 => ?_)
  refine JA.tk 5 rfl fx15 (AQ (pl := #[(0, 1), (1, 2)]) rfl rfl zeroValue123 rfl c0r (fun w => by simp [FM, EI]) (AO.part rfl rfl rfl (yV.c yV.z) (AO.part rfl rfl rfl (yV.s (yV.c (yV.c yV.z))) AO.none))) ?_
  refine zT 6 rfl (zY rfl rfl rfl b2z sizeOf123 zeroValue123 rfl rfl rfl rfl (zM.agg rfl zM.none) ?_)
  intro b16 hb16
  refine ⟨⟨(Le.refl _), (HSub.c 1 rfl (HSub.c 2 rfl HSub.n)), CSub.n⟩, ?_⟩
  refine zT 7 rfl (CP (by' := 31) [_, _, _] rfl rfl rfl rfl rfl b2z (.inr ⟨_, b2z⟩) (by kernel_rfl) sizeOf123 zeroValue123 rfl hg rfl (Src.slice (yZ.at 0 rfl) rfl rfl rfl) (by omega) ?_)
  intro g17 hg17
  refine yU 4 ?_
  refine Ej.keep (Keeps.d (Keeps.d (Keeps.k Keeps.r))) ?_
  refine Ej.round ⟨vis ++ [x], rest2, g17⟩ ⟨hpx, by dsimp only; rw [a3f, List.length_append, List.flatMap_append]; exact hg17⟩ (by have h := hrx.length_eq; simp only [List.length_cons] at h; dsimp only; omega) ⟨rfl, by dsimp only; rw [a3f, List.length_append]; rfl, rfl, trivial⟩ rfl (by dsimp only; rw [a3f, List.flatMap_append]; rfl)
 intro hend
 have hpv : vis.Perm sm := by rw [hend, List.append_nil] at hp; exact hp
 refine KX [_] (a1N (fnd L vis) g hg (by omega) _) ?_
 rintro v9 I9 H9 hle9 ⟨ls, hpp, hpo, h, rfl⟩; cases h
 have hll : (fnd L vis).length = ls.length := hpp.length_eq.symm
 have hgl : BN w0.heap.size 3 ls.length (ls.flatMap LV) g := by rw [← hll]; exact a5f hg (by rw [CJ IW, CJ IW, hll])
 have hrun := b1T hform hm hpv hpp hpo
 have hps := hps.mono hle9
 have hx := hx.mono hle9
 have hT := hT.mono hle9
 have hsb := hle9 _ _ hsb
 refine yU 3 ?_
 refine Cj.perm (H' := gH 123 (ls.flatMap LV) g ++ [_]) List.perm_append_comm ?_
 refine Cj.keepR (f := LV) IW (by decide) hgl rfl (fun I8 hle8 hv => ?_)
 have hps := hps.mono hle8
 have hx := hx.mono hle8
 have hT := hT.mono hle8
 have hsb := hle8 _ _ hsb
 obtain ⟨pv, cv, hve⟩ := EN hv
 refine Cj.ev 6 (.slice pv ls.length cv) rfl (by rw [hll]; exact hve) ?_
 rw [hve] at hv
 refine yU 13 ?_
 refine Cj.keep (Keeps.d Keeps.n) ?_
 refine Cj.loop (ι := Nat × Gs) (fun y => y.1 ≤ ls.length ∧ BN w0.heap.size 2 ((ls.take y.1).map (·.2)).length (((ls.take y.1).map (·.2)).flatMap recC) y.2) (fun y => ls.length - y.1) (fun y => [(8, gV ((ls.take y.1).map (·.2)).length y.2), (32, .slice pv ls.length cv), (33, i64 (ls.length : Int)), (34, i64 (y.1 : Int))]) (fun y => _) (fun y => gH 54 (((ls.take y.1).map (·.2)).flatMap recC) y.2) (0, none) ⟨Nat.zero_le _, rfl, rfl⟩ ⟨rfl, rfl, rfl, rfl, trivial⟩ rfl rfl ?_
 clear hg
 rintro ⟨j, g⟩ ⟨hj, hg⟩
 dsimp only at hj hg ⊢
 have hrl : ((ls.take j).map (·.2)).length = j := by rw [List.length_map, List.length_take]; omega
 refine AB (fun hc20 hc20p => ?_) (fun hc20 hc20p => ?_)
 ·have hlt : j < ls.length := by omega
  obtain ⟨x, hget⟩ : ∃ x, ls[j]? = some x := ⟨_, CO hlt⟩
  obtain ⟨p1, c1, hpe, hc1, hp1⟩ := id hv
  cases hpe
  obtain ⟨fb, fo, fcs, fty, ffr, fsp, rfl, hfb, hfd⟩ := hp1 (BF hlt)
  refine AZ (fo + j * 3) ?_
  refine J.z (qq2 isAgg123 sizeOf123 (yZ.BR hfb) (CV IW hfd hget)) ?_
  refine yU 1 ?_
  intro b21 hb21
  refine yU 8 ?_
  intro b22 hb22
  refine xap 15 [_, _] hg ?_
  intro g23 hg23
  refine yU 8 ?_
  refine Ej.keep (Keeps.d (Keeps.d Keeps.r)) ?_
  refine Ej.round (j + 1, g23) ⟨by dsimp only; omega, by dsimp only; rw [a3s hget, List.length_append, List.flatMap_append]; exact hg23⟩ (by dsimp only; omega) ⟨by dsimp only; rw [a3s hget, List.length_append]; rfl, rfl, rfl, rfl, trivial⟩ rfl (by dsimp only; rw [a3s hget, List.flatMap_append]; rfl)
 refine yU 13 ?_
 rw [List.take_of_length_le (by omega : ls.length ≤ j)] at hg ⊢
 refine zZ ?_
 exact ⟨_, g, hrun, a2Y hg, rfl, rfl⟩
theorem WQ xv L q p c (hsz : q.size ≤ 1000000000) (hwd : q.wide ≤ 10000000) (hR : Cq.right q = true) (htk : Ix.RU L) I (hps : PS I q.ps p) (hx : JI I xv L) (hT : IX I) : yY Tryz.prog 18 [xv, .agg (zW q p c).toArray] I []
    (fun e _ H' => ∃ (w : Value) (r : List Ix.Rec), e = .returned (.tuple #[w, i64 0]) ∧ Ix.JQ L q r ∧ a0h r w H') :=
  (b8U xv L q p c hsz hwd hR htk I hps hx hT).mono fun _ _ _ _ ⟨r, g, h1, h2, h3, h4⟩ => ⟨_, r, h3, h1, by rw [h4]; exact a6P rfl h2⟩
end Go.Proofs.YtekmeaoblpfnpaaGreatDoor
end
section
namespace Go.Proofs.YtekmeaoblpfnpaaGreatDoor
open _root_.Go.Proofs.Tryz
open Go Go.Sx
theorem b6r {ps : List Ke.Sub} {i : Nat} {x} (h : ps[i]? = some x) : (ps.map (·.code))[i]? = some x.code := by rw [List.getElem?_map, h]; rfl
theorem b6B {ps : List Ke.Sub} {i : Nat} {x} (h : ps[i]? = some x) : (ps.map (·.text))[i]? = some x.text := by rw [List.getElem?_map, h]; rfl
def a4z (n : UInt8) : List UInt8 := Cq.indexes.getD (n.toNat % 6) []
def a4w (n : UInt8) : List UInt8 := Cq.relations.getD (n.toNat % 6) []
theorem ZR {l : List (List UInt8)} (hl : l.length = 6) (n : UInt8) sp : (l.map str ++ sp)[n.toNat % 6]? = some (str (l.getD (n.toNat % 6) [])) := by
  have h : n.toNat % 6 < l.length := by rw [hl]; exact Nat.mod_lt _ (by decide)
  rw [List.getElem?_append_left (by rw [List.length_map]; exact h), List.getElem?_map, List.getD_eq_getElem?_getD, CO h]; rfl
theorem a5L n : a4z n ∈ Cq.indexes := by
  unfold a4z
  rw [List.getD_eq_getElem?_getD, CO (show n.toNat % 6 < Cq.indexes.length from Nat.mod_lt _ (by decide))]
  exact List.getElem_mem _
theorem a5C n : a4w n ∈ Cq.relations := by
  unfold a4w
  rw [List.getD_eq_getElem?_getD, CO (show n.toNat % 6 < Cq.relations.length from Nat.mod_lt _ (by decide))]
  exact List.getElem_mem _
theorem b7j {I k qa qb pa pb ca cb bl T} (ha : PS I qa.ps pa) (hb : PS I qb.ps pb) (h : I bl = some (zJ T (zW qa pa ca ++ (zW qb pb cb ++ [])))) : PS I (Ix.AA k qa qb).ps (some ⟨bl, 0, none⟩) := PS.two ha hb h
theorem VQ tag ind ps v (hps : ps.length ≤ 1000) I (hv : KP I (ps.map (·.text)) v) : yY Tryz.prog 49 [str tag, str ind, str (ps.map (·.code)), v] I [] (fun e I' H' => ∃ w, e = .returned (.agg (JM ⟨tag, ind, [], w, ps⟩).toArray) ∧ zL OI I' ps w ∧ H' = []) := by
 obtain ⟨p, c, rfl, hc, hp⟩ := hv
 have hpl : (ps.map (·.text)).length = ps.length := List.length_map _
 refine zO func49 fun w0 hw0 => ?_
 refine yU 3 ?_
 intro b1 hb1
 refine J.UQ (J.z BQ ?_)
 refine J.z BQ ?_
 refine J.z (AQ (pl := #[(0, 1), (1, 1), (2, 1), (3, 1)]) rfl rfl a0x rfl underlying108 (fun w => by simp [sizeOf106, EI]) (AO.part rfl rfl rfl (yV.c yV.z) (AO.part rfl rfl rfl (yV.s (yV.c yV.z)) AO.none))) ?_
 refine J.op rfl (BM rfl rfl rfl a0x rfl ?_)
 intro b2 hb2
 refine J.op rfl (DV 0 VN (yV.c (yV.c (yV.c (yV.c yV.z)))) yX.z ?_)
 refine J.a0G (Cj.region (J.z GH ?_))
 refine J.ns (Cj.block ?_)
 refine Cj.loop (ι := Nat × Gs) (fun y => y.1 ≤ ps.length ∧ BN w0.heap.size 2 (ps.take y.1).length ((ps.take y.1).flatMap OI) y.2) (fun y => ps.length - y.1) (fun y => [(2, str (ps.map (·.code))), (3, .slice p (ps.map (·.text)).length c), (8, ptr b1 0), (9, ptr b2 0), (10, i64 (y.1 : Int))]) (fun y => _) (fun y => (b2, zJ 108 [str tag, str ind, str [], gV (ps.take y.1).length y.2]) :: (b1, zJ 108 [str [], str [], str [], .slice none 0 0]) :: gH 176 ((ps.take y.1).flatMap OI) y.2) (0, none) ⟨Nat.zero_le _, rfl, rfl⟩ ⟨rfl, rfl, rfl, rfl, rfl, trivial⟩ rfl rfl ?_
 rintro ⟨i, g⟩ ⟨hi, hg⟩
 dsimp only at hi hg ⊢
 have hsl : (ps.take i).length = i := by rw [List.length_take]; omega
 refine AB (fun hc3 hc3p => ?_) (fun hc3 hc3p => ?_)
 ·refine yU 4 ?_
  have hlt : i < ps.length := by omega
  obtain ⟨x, hsget⟩ : ∃ x, ps[i]? = some x := ⟨_, CO hlt⟩
  have hsl1 : (ps.take (i + 1)).length = (ps.take i).length + 1 := by rw [List.length_take, List.length_take]; omega
  obtain ⟨lb, lo, lcs, lty, lfr, sp, rfl, hlb, hld⟩ := hp (BF (k := i) (by omega))
  refine Cj.AU [0, 1] [] 13 (by kernel_rfl) ?_
  refine yU 4 ?_
  refine JA.zt 4 rfl (EL rfl rfl rfl CY (by omega) (b6r hsget)) ?_
  refine AZ (lo + i) ?_
  refine JA.zt 8 rfl (zU rfl rfl JK (yZ.GY hlb) (a0X hld (b6B hsget))) ?_
  refine JA.fix CS (fun fx4 => ?_)
  refine JA.tk 9 rfl fx4 (AQ (pl := #[(0, 1), (1, 1)]) rfl rfl a2n rfl underlying176 (fun w => by simp [ZM, EI]) (AO.part rfl rfl rfl (yV.c yV.z) (AO.part rfl rfl rfl (yV.s (yV.c yV.z)) AO.none))) ?_
  refine zT 10 rfl (zY rfl rfl rfl a2l sizeOf176 a2n rfl rfl rfl rfl (zM.agg rfl zM.none) ?_)
  intro b5 hb5
  refine ⟨⟨(Le.refl _), (HSub.c 1 rfl (HSub.c 2 rfl HSub.n)), CSub.n⟩, ?_⟩
  refine zT 11 rfl (CP (by' := 23) [_, _, _] rfl rfl rfl rfl rfl a2l (.inr ⟨_, a2l⟩) (by kernel_rfl) sizeOf176 a2n rfl hg rfl (Src.slice (yZ.at 0 rfl) rfl rfl rfl) (by omega) ?_)
  intro g6 hg6
  refine ⟨⟨(Le.refl _), (HSub.c 1 rfl (HSub.c 2 rfl HSub.n)), CSub.n⟩, ?_⟩
  refine JA.fix CS (fun fx7 => ?_)
  refine JA.tk 12 rfl fx7 (DJ (off' := 3) underlying108 sizeOf106) ?_
  refine JA.last 13 (by kernel_rfl) rfl rfl rfl (BP 1 rfl rfl rfl rfl (a0A _ _) (a7X _ _) sizeOf106 rfl rfl (yV.s (yV.s (yV.s (yV.c yV.z)))) (yX.s yX.z) ?_)
  refine yU 8 ?_
  refine Ej.keep (Keeps.d (Keeps.k (Keeps.k Keeps.r))) ?_
  refine Ej.round (i + 1, g6) ⟨by dsimp only; omega, by dsimp only; rw [hsl1, a5W OI hsget]; exact hg6⟩ (by dsimp only; omega) ⟨rfl, rfl, rfl, rfl, rfl, trivial⟩ rfl (by dsimp only; rw [hsl1, a5W OI hsget]; rfl)
 refine yU 8 ?_
 refine J.op rfl (BP 1 rfl rfl rfl rfl rfl (by show [str tag, str ind, str [], gV _ _].all Value.oneCell' = true; simp only [List.all_cons, List.all_nil, a2i, Bool.and_true]; rfl) VN rfl rfl (yV.c (yV.c (yV.c (yV.c yV.z)))) (yX.s yX.z) ?_)
 refine yU 3 ?_
 have hfull : ps.take i = ps := List.take_of_length_le (by omega)
 rw [hfull] at hg ⊢
 refine Ej.perm (H' := gH _ _ _ ++ [_, _]) List.perm_append_comm ?_
 refine Ej.keepR a0R (by decide) hg rfl (fun I9 hle9 hfs => ?_)
 refine Ej.a4M (Keeps.d (Keeps.d Keeps.n)) rfl rfl rfl (yZ.at 1 rfl) isAgg108 VN rfl ?_
 exact ⟨_, rfl, hfs, rfl⟩
theorem PV i r t I : yY Tryz.prog 23 [str i, str r, str t] I [] (fun e _ H' => e = .returned (.agg (zW (Ix.EP i r t) none 0).toArray) ∧ H' = []) := by
 refine zO func23 fun w0 hw0 => ?_
 refine yU 3 ?_
 intro b1 hb1
 refine J.UQ (J.z BQ ?_)
 refine J.z BQ ?_
 refine J.z BQ ?_
 refine J.z (AQ (pl := #[(0, 1), (1, 1), (2, 1), (3, 1), (4, 1)]) rfl rfl DW rfl tU32 (fun w => by simp [OL, MV, EI]) (AO.part rfl rfl rfl (yV.c yV.z) (AO.part rfl rfl rfl (yV.s (yV.c yV.z)) (AO.part rfl rfl rfl (yV.s (yV.s (yV.c yV.z))) (AO.part rfl rfl rfl (yV.s (yV.s (yV.s (yV.c yV.z)))) AO.none))))) ?_
 refine J.op rfl (DV 0 zK (yV.c (yV.c (yV.c (yV.c (yV.c yV.z))))) yX.z ?_)
 refine J.ns (Cj.ret ?_)
 refine Ej.a4M (Keeps.d Keeps.n) rfl rfl rfl (yZ.at 0 rfl) BG zK rfl ?_
 exact ⟨rfl, rfl⟩
theorem both_ok k qa qb pa pb ca cb I (ha : PS I qa.ps pa) (hb : PS I qb.ps pb) : yY Tryz.prog 35 [i64 k, .agg (zW qa pa ca).toArray, .agg (zW qb pb cb).toArray] I [] (fun e I' H' => (∃ p c, e = .returned (.agg (zW (Ix.AA k qa qb) p c).toArray) ∧ PS I' (Ix.AA k qa qb).ps p) ∧ H' = []) := by
 refine zO func35 fun w0 hw0 => ?_
 refine yU 3 ?_
 intro b1 hb1
 refine yU 1 ?_
 intro b2 hb2
 refine yU 1 ?_
 intro b3 hb3
 refine yU 8 ?_
 intro b4 hb4
 refine J.persist hb4 (fun I6 hle5 hb4i => ?_)
 have ha := ha.mono hle5
 have hb := hb.mono hle5
 refine J.z (AQ (pl := #[(0, 1), (1, 1), (2, 1), (3, 1), (4, 1)]) rfl rfl DW rfl tU32 (fun w => by simp [OL, MV, EI]) (AO.part rfl rfl rfl (yV.c yV.z) (AO.part rfl rfl rfl (yV.s (yV.s (yV.s (yV.s (yV.c yV.z))))) AO.none))) ?_
 refine J.op rfl (DV 0 zK (yV.c (yV.c (yV.c (yV.c (yV.c yV.z))))) yX.z ?_)
 refine J.ns (Cj.ret ?_)
 refine Ej.a4M (Keeps.d (Keeps.d (Keeps.d Keeps.n))) rfl rfl rfl (yZ.at 0 rfl) BG zK rfl ?_
 exact ⟨⟨_, _, rfl, b7j (ca := ca) (cb := cb) ha hb hb4i⟩, rfl⟩
theorem a9D I : yY Tryz.prog 65 [] I [] (fun e I' H' => (∃ v, e = .returned v ∧ IG 9 I' Cq.indexes v) ∧ H' = []) := by
 refine zO func65 fun w0 hw0 => ?_
 refine yU 8 ?_
 intro b1 hb1
 refine yU 4 ?_
 refine Ej.persist hb1 (fun I3 hle2 hb1i => ?_)
 refine zZ ?_
 exact ⟨⟨_, rfl, b1, 6, [], rfl, hb1i⟩, rfl⟩
theorem a1a I : yY Tryz.prog 66 [] I [] (fun e I' H' => (∃ v, e = .returned v ∧ IG 9 I' Cq.relations v) ∧ H' = []) := by
 refine zO func66 fun w0 hw0 => ?_
 refine yU 8 ?_
 intro b1 hb1
 refine yU 4 ?_
 refine Ej.persist hb1 (fun I3 hle2 hb1i => ?_)
 refine zZ ?_
 exact ⟨⟨_, rfl, b1, 6, [], rfl, hb1i⟩, rfl⟩
theorem b6Z n m I : yY Tryz.prog 22 [u8 n, u8 m] I [] (fun e _ H' => e = .returned (.tuple #[str (a4z n), str (a4w m)]) ∧ H' = []) := by
 have hnl := n.toNat_lt
 have hml := m.toNat_lt
 have hli : Cq.indexes.length = 6 := rfl
 have hlr : Cq.relations.length = 6 := rfl
 refine zO func22 fun w0 hw0 => ?_
 refine yU 7 ?_
 refine Cj.AU [] [] 12 (by kernel_rfl) ?_
 refine yU 2 ?_
 refine JA.ev 8 (.int .u8 ((n.toNat % 6 : Nat) : Int)) rfl (congrArg (Value.int .u8) (by rw [Int.tmod_eq_emod_of_nonneg (by omega)]; omega)) ?_
 refine yU 2 ?_
 refine JA.ev 13 (.int .u8 ((m.toNat % 6 : Nat) : Int)) rfl (congrArg (Value.int .u8) (by rw [Int.tmod_eq_emod_of_nonneg (by omega)]; omega)) ?_
 refine BJ (a9D _) ?_
 intro v2 I3 H4 hle5 hp6
 obtain ⟨⟨v2x, hv2, bi, cbi, spbi, rfl, hbi⟩, rfl⟩ := hp6; cases hv2
 refine yU 1 ?_
 refine JA.zt 3 rfl (zX (off' := n.toNat % 6) rfl rfl rfl FQ EI (by omega) (by have := Nat.mod_lt n.toNat (by decide : 0 < 6); omega) (by omega)) ?_
 refine JA.all [4, 5] (by kernel_rfl) (by simp) ?_
 intro i hi
 simp only [List.mem_cons, List.not_mem_nil, or_false] at hi
 rcases hi with rfl | rfl
 ·refine ⟨_, rfl, rfl, ?_⟩
  refine DY (zU rfl rfl JK (yZ.BR hbi) (ZR hli n _)) ?_
  refine BJ (a1a _) ?_
  intro v8 I9 H10 hle11 hp12
  have hbi := hle11 _ _ hbi
  obtain ⟨⟨v8x, hv8, br, cbr, spbr, rfl, hbr⟩, rfl⟩ := hp12; cases hv8
  refine yU 1 ?_
  refine JA.zt 8 rfl (zX (off' := m.toNat % 6) rfl rfl rfl FQ EI (by omega) (by have := Nat.mod_lt m.toNat (by decide : 0 < 6); omega) (by omega)) ?_
  refine yU 1 ?_
  refine zT 9 rfl (DY (zU rfl rfl JK (yZ.BR hbr) (ZR hlr m _)) ?_)
  refine zZ ?_
  exact ⟨rfl, rfl⟩
 refine ⟨_, rfl, rfl, ?_⟩
 refine BJ (a1a _) ?_
 intro v15 I16 H17 hle18 hp19
 have hbi := hle18 _ _ hbi
 obtain ⟨⟨v15x, hv15, br, cbr, spbr, rfl, hbr⟩, rfl⟩ := hp19; cases hv15
 refine yU 1 ?_
 refine JA.zt 8 rfl (zX (off' := m.toNat % 6) rfl rfl rfl FQ EI (by omega) (by have := Nat.mod_lt m.toNat (by decide : 0 < 6); omega) (by omega)) ?_
 refine JA.all [4, 9] (by kernel_rfl) (by simp) ?_
 intro i hi
 simp only [List.mem_cons, List.not_mem_nil, or_false] at hi
 rcases hi with rfl | rfl
 ·refine ⟨_, rfl, rfl, ?_⟩
  refine DY (zU rfl rfl JK (yZ.BR hbi) (ZR hli n _)) ?_
  refine yU 2 ?_
  refine zT 9 rfl (DY (zU rfl rfl JK (yZ.BR hbr) (ZR hlr m _)) ?_)
  refine zZ ?_
  exact ⟨rfl, rfl⟩
 refine ⟨_, rfl, rfl, ?_⟩
 refine DY (zU rfl rfl JK (yZ.BR hbr) (ZR hlr m _)) ?_
 refine yU 1 ?_
 refine zT 4 rfl (DY (zU rfl rfl JK (yZ.BR hbi) (ZR hli n _)) ?_)
 refine zZ ?_
 exact ⟨rfl, rfl⟩
theorem c0z {L a} (h : a.drop = true) : Ix.act L a = Ix.KA a.title L := if_pos h
theorem c0x {L a} (h : a.drop = false) : Ix.act L a = Ix.JL a.title a.vs L := if_neg (by rw [h]; decide)
theorem b8T L a : (Ix.act L a).length ≤ L.length + 1 := by
  unfold Ix.act
  split
  · exact Nat.le_succ_of_le (List.length_filter_le _ _)
  exact a0F _ _ _
theorem a1f : ∀ (l : List Ix.KL) (L : Ix.Ix), (l.foldl Ix.act L).length ≤ L.length + l.length
  | [], _ => Nat.le_refl _
  | a :: r, L => by
    have h1 := a1f r (Ix.act L a)
    have h2 := b8T L a
    rw [List.foldl_cons, List.length_cons]; omega
theorem b5x xs : ((acts xs).foldl Ix.act []).length ≤ xs.length := by
  have := a1f (acts xs) []
  rw [List.length_map, List.length_nil] at this; omega
theorem b0N {xs k} (hk : k ≤ xs.length) (h : k ≤ 20 ∧ (xs.length ≤ k ∨ 20 ≤ k)) : (acts (xs.take k)).foldl Ix.act [] = Ix.play (acts xs) := by
  rw [UD hk h, a1k]; rfl
theorem b6J xs : (Ix.play (acts xs)).length ≤ 20 := by
  have := a1f ((acts xs).take 20) []
  rw [List.length_take, List.length_nil] at this
  unfold Ix.play; omega
theorem b6u xs v (hao : a3P xs) I (hA0 : a0y I xs v) : yY Tryz.prog 15 [v] I [] (fun ev I' H' => ∃ ib o rb es w, ev = .returned (.tuple #[ptr ib 0, ptr rb 0]) ∧ MG I' o (Ix.play (acts xs)) ∧ ET I' es w ∧ es.map EY = Ix.play (acts xs) ∧ (∀ e ∈ es, UU e.fs) ∧ es.length ≤ 20 ∧ H' = (rb, zJ 50 [w]) :: ixH ib o) := by
 obtain ⟨p, c, rfl⟩ := zL.len hA0.1
 refine zO func15 fun w0 hw0 => ?_
 refine yU 8 ?_
 refine J.z (AQ (pl := #[(0, 1), (1, 1), (2, 1)]) rfl rfl zeroValue114 rfl YG (fun w => by simp [VE, VB]) AO.none) ?_
 refine yU 1 ?_
 intro b1 hb1
 refine yU 10 ?_
 refine Cj.loop (ι := Nat × Heap × Option Ist) (fun y => y.1 ≤ xs.length ∧ y.1 ≤ 20 ∧ Le I y.2.1 ∧ MG y.2.1 y.2.2 ((acts (xs.take y.1)).foldl Ix.act [])) (fun y => 20 - y.1) (fun y => [(0, .slice p xs.length c), (4, ptr b1 0), (5, i64 (y.1 : Int))]) (fun y => y.2.1) (fun y => ixH b1 y.2.2) (0, _, none) ⟨Nat.zero_le _, Nat.zero_le _, Le.refl _, rfl⟩ ⟨rfl, rfl, rfl, trivial⟩ rfl rfl ?_
 rintro ⟨k, Jh, o⟩ ⟨hk, hk20, hIJ, hok⟩
 dsimp only at hk hk20 hIJ hok ⊢
 have hA := hA0.mono hIJ
 have hll := b5x (xs.take k)
 rw [List.length_take, Nat.min_eq_left hk] at hll
 refine QF (fun hg2 hg2p => ?_) (fun hg2 hg2p => ?_)
 ·refine AB (fun hc3 hc3p => ?_) (fun hc3 hc3p => ?_)
  ·refine yU 5 ?_
   have hIJ9 := hIJ
   have hlt : k < xs.length := by omega
   have hlt2 : k < 20 := by omega
   obtain ⟨x, hget⟩ : ∃ x, xs[k]? = some x := ⟨_, CO hlt⟩
   have hxm := CG hget
   obtain ⟨p1, c1, hpe, hc1, hp⟩ := id hA.1
   cases hpe
   obtain ⟨ab, ao, acs, aty, afr, asp, rfl, hab, had⟩ := hp (BF hlt)
   have hfv := hA.2 x hxm
   obtain ⟨vp, vc, hxv⟩ := zL.len hfv
   have hnx : acts (xs.take (k + 1)) = acts (xs.take k) ++ [x.a] := RZ _ hget
   refine AZ (ao + k * 4) ?_
   refine yU 1 ?_
   refine J.z (zU rfl rfl tA4 (yZ.BR hab) (KW SV had hget 0 (by decide))) ?_
   refine FB (fun hc4 => ?_) (fun hc4 => ?_)
   ·have hdr : x.a.drop = true := hc4
    refine AZ (ao + k * 4) ?_
    refine J.z (qq2 isAgg93 sizeOf93 (yZ.BR hab) (CV SV had hget)) ?_
    refine BJ (a0n x (hao x hxm) _ hfv) ?_
    intro v5 I6 H7 hle8 hp9
    have hIJ := hIJ.mono hle8
    have hA := hA.mono hle8
    have hok := hok.mono hle8
    have hab := hle8 _ _ hab
    have hfv := hfv.mono hle8
    obtain ⟨e0, h, he0, rfl⟩ := hp9; cases h
    refine J.z (a5V (v := zS e0.t) rfl rfl (fun _ => by kernel_rfl)) ?_
    refine KX [] (b9t b1 o _ e0.t _ hok) ?_
    intro v10 I11 H12 hle13 hp14
    have hIJ := hIJ.mono hle13
    have hA := hA.mono hle13
    have hok := hok.mono hle13
    have hab := hle13 _ _ hab
    have hfv := hfv.mono hle13
    have he0 := he0.mono hle13
    obtain ⟨o1, h, hok1, rfl⟩ := hp14; cases h
    refine yU 8 ?_
    refine Ej.round (k + 1, _, o1) ⟨by dsimp only; omega, by dsimp only; omega, hIJ, by dsimp only; rw [hnx, List.foldl_append]; rw [he0.t] at hok1; show MG _ _ (Ix.act _ x.a); rw [c0z hdr]; exact hok1⟩ (by dsimp only; omega) ⟨rfl, rfl, rfl, trivial⟩ rfl rfl
   have hdr : x.a.drop = false := hc4
   refine AZ (ao + k * 4) ?_
   refine J.z (qq2 isAgg93 sizeOf93 (yZ.BR hab) (CV SV had hget)) ?_
   refine BJ (a0n x (hao x hxm) _ hfv) ?_
   intro v15 I16 H17 hle18 hp19
   have hIJ := hIJ.mono hle18
   have hA := hA.mono hle18
   have hok := hok.mono hle18
   have hab := hle18 _ _ hab
   have hfv := hfv.mono hle18
   obtain ⟨e0, h, he0, rfl⟩ := hp19; cases h
   refine KX [] (b3C b1 o _ e0 _ hok (by omega) he0.eok he0.r) ?_
   intro v20 I21 H22 hle23 hp24
   have hIJ := hIJ.mono hle23
   have hA := hA.mono hle23
   have hok := hok.mono hle23
   have hab := hle23 _ _ hab
   have hfv := hfv.mono hle23
   have he0 := he0.mono hle23
   obtain ⟨o1, h, hok1, rfl⟩ := hp24; cases h
   refine yU 8 ?_
   refine Ej.round (k + 1, _, o1) ⟨by dsimp only; omega, by dsimp only; omega, hIJ, by dsimp only; rw [hnx, List.foldl_append]; rw [he0.t, he0.vals] at hok1; show MG _ _ (Ix.act _ x.a); rw [c0x hdr]; exact hok1⟩ (by dsimp only; omega) ⟨rfl, rfl, rfl, trivial⟩ rfl rfl
  refine yU 6 ?_
  have hpl := b0N hk (by omega)
  rw [hpl] at hok
  refine BJ (a8a xs _ hao _ hA) ?_
  intro v25 I26 H27 hle28 hp29
  have hIJ := hIJ.mono hle28
  have hA := hA.mono hle28
  have hok := hok.mono hle28
  obtain ⟨rb, es, w, h, hE, hL, hek, hel, rfl⟩ := hp29; cases h
  refine zZ ?_
  exact ⟨b1, o, rb, es, w, rfl, hok, hE, hL, hek, by omega, rfl⟩
 refine yU 12 ?_
 have hpl := b0N hk (by omega)
 rw [hpl] at hok
 refine BJ (a8a xs _ hao _ hA) ?_
 intro v31 I32 H33 hle34 hp35
 have hIJ := hIJ.mono hle34
 have hA := hA.mono hle34
 have hok := hok.mono hle34
 obtain ⟨rb, es, w, h, hE, hL, hek, hel, rfl⟩ := hp35; cases h
 refine zZ ?_
 exact ⟨b1, o, rb, es, w, rfl, hok, hE, hL, hek, by omega, rfl⟩
end Go.Proofs.YtekmeaoblpfnpaaGreatDoor
end
namespace Go.Sx
open Go
structure Fact where
  p : Value → Heap → Prop
  m : ∀ v I I', p v I → Le I I' → p v I'
def Fact.is (v0 : Value) : Fact := ⟨fun v _ => v = v0, fun _ _ _ h _ => h⟩
theorem a5X {α : Type} {p q} : ∀ {l : List α} {i : α}, (∀ x ∈ l, q x = true → p x = true) → i ∈ l → p i = true → q i = false → l.countP q < l.countP p
  | [], _, _, h, _, _ => by cases h
  | a :: r, i, hs, hi, hp, hq => by
    have hs' : ∀ x ∈ r, q x = true → p x = true := fun x hx => hs x (.tail _ hx)
    have hle : r.countP q ≤ r.countP p := List.countP_mono_left hs'
    rw [List.countP_cons, List.countP_cons]
    by_cases ha : a = i
    · subst ha; rw [hp, hq]; simp; omega
    have hr : i ∈ r := by
      rcases List.mem_cons.1 hi with g | g
      · exact absurd g.symm ha
      exact g
    have := a5X hs' hr hp hq
    have h2 := hs a (.head _)
    cases hqa : q a with
    | false => simp; omega
    | true => rw [h2 hqa]; simp; omega
theorem BZ.mono {cx Q o e I H C C'} (h : BZ cx Q o e I H C) (hc : ∀ e' I' H', C e' I' H' → C' e' I' H') : BZ cx Q o e I H C' :=
  fun K hK a w ha hs => h K (fun e' I' H' h1 => hK e' I' H' (hc e' I' H' h1)) a w ha hs
def waitsFor (l : List Oper) (k j : Nat) : Bool := match l[k]? with
  | none => false
  | some o => o.after.any fun ed => Region.binds .any ed && ed.on == j
def backwards (l : List Oper) : Bool := (List.range l.length).all fun k => match l[k]? with
  | none => true
  | some o => o.after.all fun ed => !Region.binds .any ed || Nat.blt ed.on k
def a3b (l : List Oper) : List Nat := l.filterMap (·.dst)
def a7v (l : List Oper) : Bool := l.all (·.dst.isSome) && decide (a3b l).Nodup
theorem b0r : ∀ {l : List Oper}, (∀ o ∈ l, o.dst.isSome = true) → (a3b l).Nodup → ∀ {j k : Nat} {oj ok : Oper} {d : Nat}, l[j]? = some oj → l[k]? = some ok → oj.dst = some d → ok.dst = some d → j = k
  | [], _, _, j, _, _, _, _, h, _, _, _ => by simp at h
  | a :: r, hs, hn, j, k, oj, ok, d, hj, hk, h1, h2 => by
    obtain ⟨x, hx⟩ := Option.isSome_iff_exists.1 (hs a (.head _))
    have hc : a3b (a :: r) = x :: a3b r := by unfold a3b; rw [List.filterMap_cons, hx]
    rw [hc, List.nodup_cons] at hn
    have hs' : ∀ o ∈ r, o.dst.isSome = true := fun o ho => hs o (.tail _ ho)
    have hin : ∀ {i : Nat} {o : Oper}, r[i]? = some o → o.dst = some x → False := fun {i o} hi ho => hn.1 (List.mem_filterMap.2 ⟨o, List.mem_of_getElem? hi, ho⟩)
    match j, k with
    | 0, 0 => rfl
    | 0, k + 1 =>
      cases hj
      rw [List.getElem?_cons_succ] at hk
      exact absurd (by rw [h2, ← h1, hx]) fun g => hin hk g
    | j + 1, 0 =>
      cases hk
      rw [List.getElem?_cons_succ] at hj
      exact absurd (by rw [h1, ← h2, hx]) fun g => hin hj g
    | j + 1, k + 1 =>
      rw [List.getElem?_cons_succ] at hj hk
      rw [b0r hs' hn.2 hj hk h1 h2]
section
variable {cx:Cx} {Q:Qt} {l:List Oper} {I1:Heap} {H:HL} {e0:Env}
def Base (l : List Oper) (e0 e : Env) : Prop := ∀ t, t ∉ a3b l → eg e t = eg e0 t
def b7v (cx : Cx) (l : List Oper) (F : Nat → Fact) (k d : Nat) (e : Env) (I : Heap) (H : HL) : Ct := fun e' I' H' =>
  ∃ v K, e' = (d, v) :: e ∧ H' = K ++ H ∧ (∀ p ∈ K, cx.w0.heap.size ≤ p.1) ∧ Le I I' ∧ ∀ I'', Le I' I'' → (∀ p ∈ K, I'' p.1 = some p.2) → (F k).p v I''
def Known (l : List Oper) (F : Nat → Fact) (e : Env) (I : Heap) (j : Nat) : Prop := ∀ oj dj, l[j]? = some oj → oj.dst = some dj → ∃ v, eg e dj = some v ∧ (F j).p v I
theorem JA.c0q F (hb : backwards l = true) (hd : a7v l = true)
    (step : ∀ k o d, l[k]? = some o → o.dst = some d → ∀ e I, Le I1 I → Base l e0 e → (∀ j, waitsFor l k j = true → Known l F e I j) → o.guard = none ∧ BZ cx Q o e I H (b7v cx l F k d e I H))
    (fin : ∀ e I, Le I1 I → Base l e0 e → (∀ k, Known l F e I k) → Ej cx Q .normal e I H) :
    ∀ (fuel : Nat) (listed : Array Bool) (e : Env) (I : Heap), listed.size = l.length → (List.range l.length).countP (fun i => !listed.getD i true) ≤ fuel → Le I1 I → Base l e0 e →
      (∀ k, listed.getD k false = true → Known l F e I k) → JA cx Q l I1 [] [] l.length fuel listed e I H := by
  have hds := hd
  unfold a7v at hds
  rw [Bool.and_eq_true, List.all_eq_true, decide_eq_true_eq] at hds
  have hall : ∀ (listed : Array Bool) (e : Env) (I : Heap), listed.size = l.length → Region.ready .any l.toArray listed = [] → (∀ k, listed.getD k false = true → Known l F e I k) → ∀ k, Known l F e I k := by
    intro listed e I hsz hr hk k
    have hL : ∀ k, k < l.length → listed.getD k false = true := by
      intro k
      induction k using Nat.strongRecOn with
      | ind k ih =>
        intro hk
        refine Classical.byContradiction fun hn => ?_
        have hlt : k < listed.size := by omega
        have h1 : listed.getD k true = false := by
          rw [Array.getD, dif_pos hlt] at hn ⊢
          simpa using hn
        have h2 : k ∈ Region.ready .any l.toArray listed := by
          rw [mem_ready]
          refine ⟨h1, l[k], by simp [hk], fun ed hed hbd => ?_⟩
          have h3 := List.all_eq_true.1 hb k (List.mem_range.2 hk)
          rw [List.getElem?_eq_getElem hk] at h3
          have h4 := Array.all_eq_true_iff_forall_mem.1 h3 ed hed
          rw [hbd] at h4
          have h5 : ed.on < k := Nat.le_of_ble_eq_true (by simpa [Nat.blt] using h4)
          exact ih ed.on h5 (by omega)
        rw [hr] at h2; cases h2
    rcases Nat.lt_or_ge k l.length with g | g
    · exact hk k (hL k g)
    intro oj dj hj _
    rw [List.getElem?_eq_none g] at hj; cases hj
  intro fuel
  induction fuel with
  | zero =>
    intro listed e I hsz hc hle hba hk
    have hr : Region.ready .any l.toArray listed = [] := by
      refine List.eq_nil_iff_forall_not_mem.2 fun i hi => ?_
      obtain ⟨h1, o, h2, _⟩ := mem_ready.1 hi
      have h3 : i < l.length := by
        rcases Nat.lt_or_ge i l.length with g | g
        · exact g
        simp [List.getElem?_eq_none g] at h2
      have h4 : 0 < (List.range l.length).countP (fun i => !listed.getD i true) := List.countP_pos_iff.2 ⟨i, List.mem_range.2 h3, by rw [h1]; rfl⟩
      omega
    exact JA.done hr (fin e I hle hba (hall listed e I hsz hr hk))
  | succ fuel ih =>
    intro listed e I hsz hc hle hba hk
    by_cases hr : Region.ready .any l.toArray listed = []
    · exact JA.done hr (fin e I hle hba (hall listed e I hsz hr hk))
    refine JA.all _ rfl hr fun i hi => ?_
    obtain ⟨h1, o, h2, h3⟩ := mem_ready.1 hi
    have h2' : l[i]? = some o := by simpa using h2
    have hil : i < l.length := (List.getElem?_eq_some_iff.1 h2').1
    obtain ⟨d, hod⟩ := Option.isSome_iff_exists.1 (hds.1 o (List.mem_of_getElem? h2'))
    have hst := step i o d h2' hod e I hle hba fun j hj => by
      unfold waitsFor at hj
      rw [h2'] at hj
      obtain ⟨ed, hed, hp⟩ := Array.any_eq_true'.1 hj
      rw [Bool.and_eq_true, beq_iff_eq] at hp
      rw [← hp.2]
      exact hk _ (h3 ed hed hp.1)
    refine ⟨o, h2, hst.1, hst.2.mono ?_⟩
    rintro e' I' H' ⟨v, K, rfl, rfl, hK, hle', hF⟩
    refine ⟨⟨hle.trans hle', trivial, trivial⟩, ?_⟩
    refine WR (X := fun I H => JA cx Q l I1 [] [] l.length fuel (listed.setIfInBounds i true) ((d, v) :: e) I H) (base := cx.w0.heap.size) (fun _ _ _ _ hb k => JA.persist hb k) K I' hK fun I'' hle'' hKI => ?_
    have hdm : d ∈ a3b l := List.mem_filterMap.2 ⟨o, List.mem_of_getElem? h2', hod⟩
    refine ih _ _ _ (by simpa using hsz) ?_ ((hle.trans hle').trans hle'') (fun t ht => ?_) fun k hkl => ?_
    · have hlt := a5X (l := List.range l.length) (p := fun i => !listed.getD i true) (q := fun j => !(listed.setIfInBounds i true).getD j true) (i := i) (fun x _ hx => ?_) (List.mem_range.2 hil) (by rw [h1]; rfl) ?_
      · omega
      · by_cases hxi : i = x
        · subst hxi; rw [h1]; rfl
        rwa [getD_set_ne true hxi] at hx
      have : i < (listed.setIfInBounds i true).size := by rw [Array.size_setIfInBounds]; omega
      rw [Array.getD, dif_pos this]
      simp
    · have hne : Nat.beq d t = false := by
        refine Bool.eq_false_iff.2 fun g => ht ?_
        rw [← Nat.eq_of_beq_eq_true g]; exact hdm
      show (bif Nat.beq d t then some v else eg e t) = _
      rw [hne]; exact hba t ht
    by_cases hki : i = k
    · subst hki
      intro oj dj hj hdj
      rw [h2'] at hj; cases hj
      rw [hod] at hdj; cases hdj
      refine ⟨v, ?_, hF I'' hle'' hKI⟩
      show (bif Nat.beq d d then some v else eg e d) = _
      rw [Nat.beq_refl]; rfl
    rw [getD_set_ne false hki] at hkl
    intro oj dj hj hdj
    obtain ⟨u, hu, hp⟩ := hk k hkl oj dj hj hdj
    refine ⟨u, ?_, (F k).m _ _ _ hp (hle'.trans hle'')⟩
    have hne : Nat.beq d dj = false := by
      refine Bool.eq_false_iff.2 fun g => hki ?_
      have := Nat.eq_of_beq_eq_true g
      subst this
      exact b0r hds.1 hds.2 h2' hj hod hdj
    show (bif Nat.beq d dj then some v else eg e dj) = _
    rw [hne]; exact hu
theorem Cj.flow {id} F (hm : cx.P.follows .mixedOrders = true) (hb : backwards l = true) (hd : a7v l = true)
    (step : ∀ k o d, l[k]? = some o → o.dst = some d → ∀ e I, Le I1 I → Base l e0 e → (∀ j, waitsFor l k j = true → Known l F e I j) → o.guard = none ∧ BZ cx Q o e I H (b7v cx l F k d e I H))
    (fin : ∀ e I, Le I1 I → Base l e0 e → (∀ k, Known l F e I k) → Ej cx Q .normal e I H)
    (hnd : cx.rd = none ∨ (ZY l.toArray = true ∧ ¬ LetsOut Q) := by first | exact .inl rfl | exact .inr ⟨rfl, fun h => h.elim fun _ h => h.elim fun _ h => h⟩) : Cj cx Q (.region id l.toArray true) e0 I1 H := by
  refine Cj.draw [] [] l.length hm (JA.c0q F hb hd step fin _ _ _ _ (by simp) ?_ (Le.refl _) (fun _ _ => rfl) fun k hk => ?_) hnd
  · exact Nat.le_trans List.countP_le_length (by simp)
  rw [Array.getD] at hk
  split at hk
  · simp at hk
  cases hk
end
end Go.Sx
section
namespace Go.Proofs.YtekmeaoblpfnpaaGreatDoor
open _root_.Go.Proofs.Tryz
open Go Go.Sx
def ss2 : List Ke.Sub := [⟨97, [84, 104, 101, 32, 115, 101, 97, 32, 58]⟩, ⟨98, [97, 32, 115, 116, 111, 114, 121]⟩]
def ff2 (w : Value) : Ke.GI := ⟨[50, 52, 53], [49, 52], [], w, ss2⟩
def ss4 : List Ke.Sub := [⟨97, [48, 45, 51, 48, 54, 45, 52, 48, 54, 49, 53, 45, 50]⟩]
def ff4 (w : Value) : Ke.GI := ⟨[48, 50, 48], [32, 32], [], w, ss4⟩
def ss6 : List Ke.Sub := [⟨99, [99, 49, 57, 57, 57, 46]⟩]
def ff6 (w : Value) : Ke.GI := ⟨[50, 54, 48], [32, 32], [], w, ss6⟩
def a8h : List Ke.Sub := [⟨97, [83, 101, 97, 32, 115, 116, 111, 114, 105, 101, 115]⟩]
def b4T (w : Value) : Ke.GI := ⟨[50, 52, 53], [49, 48], [], w, a8h⟩
def a9c : List Ke.Sub := [⟨97, [87, 111, 111, 108, 102, 44, 32, 86, 105, 114, 103, 105, 110, 105, 97]⟩]
def b6D (w : Value) : Ke.GI := ⟨[49, 48, 48], [49, 32], [], w, a9c⟩
def a8G : List Ke.Sub := [⟨97, [83, 101, 97]⟩, ⟨120, [72, 105, 115, 116, 111, 114, 121]⟩]
def b7a (w : Value) : Ke.GI := ⟨[54, 53, 48], [32, 32], [], w, a8G⟩
def fs1 (a b c : Value) : List Ke.GI := [ff2 a, ff4 b, ff6 c]
def XW (a b c : Value) : List Ke.GI := [b4T a, b6D b, b7a c]
def ns1 : List Ke.GI := fs1 (.slice none 0 0) (.slice none 0 0) (.slice none 0 0)
def ns2 : List Ke.GI := XW (.slice none 0 0) (.slice none 0 0) (.slice none 0 0)
def LS : Ix.Ix := [((1, 1), Ix.vals ns1), ((2, 1), Ix.vals ns2)]
theorem b8P a b c : Ix.vals (fs1 a b c) = Ix.vals ns1 := by rw [← a2X]; rfl
theorem b8p a b c : Ix.vals (XW a b c) = Ix.vals ns2 := by rw [← a2X]; rfl
theorem b9T a b c : UU (fs1 a b c) := ⟨EX rfl, fun f hf => by
  simp only [fs1, List.mem_cons, List.not_mem_nil, or_false] at hf
  rcases hf with rfl | rfl | rfl <;> exact ⟨EX rfl, EX rfl, EX rfl⟩⟩
theorem b9Q a b c : UU (XW a b c) := ⟨EX rfl, fun f hf => by
  simp only [XW, List.mem_cons, List.not_mem_nil, or_false] at hf
  rcases hf with rfl | rfl | rfl <;> exact ⟨EX rfl, EX rfl, EX rfl⟩⟩
theorem a4I {fs} (h : UU fs) : ∀ v ∈ Ix.vals fs, v.text.length ≤ 4000000 := fun v hv => by
  unfold Ix.vals at hv
  obtain ⟨f, hf, hv⟩ := List.mem_flatMap.1 hv
  obtain ⟨k1, k2, k3⟩ := h.2 f hf
  unfold Ix.a6L at hv
  rcases List.mem_append.1 hv with g | g
  · obtain ⟨s, hs, rfl⟩ := List.mem_map.1 g
    have := a0b hs
    dsimp only; omega
  split at g
  · rw [List.mem_singleton] at g
    subst g
    have := YH f []
    rw [YB] at this
    dsimp only; omega
  cases g
theorem a1l : Ix.RU LS := fun e he => by
  have he : e = ((1, 1), Ix.vals ns1) ∨ e = ((2, 1), Ix.vals ns2) := by simpa [LS] using he
  rcases he with rfl | rfl
  · exact a4I (b9T _ _ _)
  exact a4I (b9Q _ _ _)
theorem a5e {L} (h : Ix.Few L) : Ix.RU L := fun e he => by
  obtain ⟨a, ha⟩ := h.2 e he
  rw [ha]
  unfold Ix.KL.vs
  exact a4I (a8U (l := a.fs.take 8) (by show Ke.nrm (Ix.OZ _) = Ix.OZ _; unfold Ix.OZ Ke.nrm; rw [List.map_map]; refine List.map_congr_left fun q _ => ?_; unfold Function.comp Ke.b2r Ix.a1H; split <;> rfl))
def a2A (l : List (List UInt8)) : Fact := ⟨fun v I => KP I l v, fun _ _ _ h hle => h.mono hle⟩
def a4L (f : Value → Ke.GI) (ss : List Ke.Sub) : Fact := ⟨fun v I => ∃ w, v = .agg (JM (f w)).toArray ∧ zL OI I ss w, fun _ _ _ ⟨w, h1, h2⟩ hle => ⟨w, h1, h2.mono hle⟩⟩
def fRow (fs : Value → Value → Value → List Ke.GI) : Fact := ⟨fun v I => ∃ a b c, PL I (fs a b c) v, fun _ _ _ ⟨a, b, c, h⟩ hle => ⟨a, b, c, h.mono hle⟩⟩
def b9P (fs : Value → Value → Value → List Ke.GI) : Fact := ⟨fun v I => ∃ w a b c, v = a8F 0 0 w ∧ PL I (fs a b c) w, fun _ _ _ ⟨w, a, b, c, h1, h⟩ hle => ⟨w, a, b, c, h1, h.mono hle⟩⟩
def b9L (t : Ix.Rec) (fs : Value → Value → Value → List Ke.GI) : Fact := ⟨fun v I => ∃ w a b c, v = .agg (FK ⟨t, 0, 0, w, fs a b c⟩).toArray ∧ PL I (fs a b c) w, fun _ _ _ ⟨w, a, b, c, h1, h⟩ hle => ⟨w, a, b, c, h1, h.mono hle⟩⟩
def c0n : Fact := ⟨fun v I => ∃ es, ET I es v ∧ es.length = 2 ∧ (∀ e ∈ es, UU e.fs) ∧ Ix.a6M (es.map EY) [] = LS, fun _ _ _ ⟨es, h1, h2⟩ hle => ⟨es, h1.mono hle, h2⟩⟩
def b9H : Fact := ⟨fun v I => ∃ ib, v = ptr ib 0 ∧ MX I ib LS, fun _ _ _ ⟨ib, h1, h2⟩ hle => ⟨ib, h1, h2.mono hle⟩⟩
def c0F : Fact := ⟨fun _ _ => True, fun _ _ _ _ _ => trivial⟩
theorem SE {I b l} (h : I b = some (zJ 9 (l.map str))) : KP I l (.slice (some ⟨b, 0, none⟩) l.length l.length) :=
  a3h.2 (zL.of (sp := []) (Nat.le_refl _) (by rw [h, List.append_nil]; congr 1; congr 1; rw [← List.flatMap_singleton' (l.map str), List.flatMap_map]))
theorem QS {n b : Nat} {o : Obj} (h : n ≤ b) : ∀ p ∈ [(b, o)], n ≤ p.1 := fun p hp => by rw [List.mem_singleton.1 hp]; exact h
theorem JC {n} : ∀ p ∈ ([] : HL), n ≤ p.1 := fun p hp => by cases hp
theorem c0k a b c x y z w u : Ix.a6M ([(⟨(1, 1), 0, 0, w, fs1 a b c⟩ : MJ), ⟨(2, 1), 0, 0, u, XW x y z⟩].map EY) [] = LS := by
  show Ix.a6M [((1, 1), Ix.vals (fs1 a b c)), ((2, 1), Ix.vals (XW x y z))] [] = LS
  rw [b8P, b8p]
  generalize hv : Ix.vals ns1 = v
  generalize hu : Ix.vals ns2 = u
  have : LS = [((1, 1), v), ((2, 1), u)] := by unfold LS; rw [hv, hu]
  rw [this]; rfl
theorem c0s : Ix.LQ LS (1, 1) < Ix.LQ LS (2, 1) := by decide +kernel
theorem sr1 : Ix.JQ LS (Ix.AA 2 (Ix.EP [116, 105, 116, 108, 101] [61] [115, 101, 97]) (Ix.EP [97, 117, 116, 104, 111, 114] [61] [119, 111, 111, 108, 102])) [(2, 1)] := by
  refine Ix.WJ ?_ ?_ ?_
  · exact List.pairwise_singleton _ _
  · intro t ht
    have ht : t ∈ [((1, 1) : Ix.Rec), (2, 1)] := ht
    simp only [List.mem_cons, List.not_mem_nil, or_false] at ht
    rcases ht with rfl | rfl <;> decide +kernel
  intro t ht
  revert t
  decide +kernel
theorem sr2 : Ix.JQ LS (Ix.EP [97, 110, 121] [97, 110, 121] [104, 105, 115, 116, 111, 114, 121, 32, 115, 116, 111, 114, 121]) [(1, 1), (2, 1)] := by
  refine Ix.WJ ?_ ?_ ?_
  · exact List.pairwise_cons.2 ⟨fun t ht => by rw [List.mem_singleton.1 ht]; exact .inl c0s, List.pairwise_singleton _ _⟩
  · intro t ht
    have ht : t ∈ [((1, 1) : Ix.Rec), (2, 1)] := ht
    simp only [List.mem_cons, List.not_mem_nil, or_false] at ht
    rcases ht with rfl | rfl <;> decide +kernel
  intro t ht
  revert t
  decide +kernel
theorem sr3 : Ix.JQ LS (Ix.EP [121, 101, 97, 114] [60] [50, 48, 48, 48]) [(1, 1)] := by
  refine Ix.WJ ?_ ?_ ?_
  · exact List.pairwise_singleton _ _
  · intro t ht
    have ht : t ∈ [((1, 1) : Ix.Rec), (2, 1)] := ht
    simp only [List.mem_cons, List.not_mem_nil, or_false] at ht
    rcases ht with rfl | rfl <;> decide +kernel
  intro t ht
  revert t
  decide +kernel
theorem sr4 : Ix.JQ LS (Ix.EP [121, 101, 97, 114] [62, 61] [50, 48, 48, 48]) [] := by
  refine Ix.WJ ?_ ?_ ?_
  · exact List.Pairwise.nil
  · intro t ht
    have ht : t ∈ [((1, 1) : Ix.Rec), (2, 1)] := ht
    simp only [List.mem_cons, List.not_mem_nil, or_false] at ht
    rcases ht with rfl | rfl <;> decide +kernel
  intro t ht
  revert t
  decide +kernel
theorem sr5 : Ix.JQ LS (Ix.AA 4 (Ix.EP [116, 105, 116, 108, 101] [97, 108, 108] [115, 101, 97, 32, 115, 116, 111, 114, 105, 101, 115]) (Ix.EP [97, 117, 116, 104, 111, 114] [61] [119, 111, 111, 108, 102])) [] := by
  refine Ix.WJ ?_ ?_ ?_
  · exact List.Pairwise.nil
  · intro t ht
    have ht : t ∈ [((1, 1) : Ix.Rec), (2, 1)] := ht
    simp only [List.mem_cons, List.not_mem_nil, or_false] at ht
    rcases ht with rfl | rfl <;> decide +kernel
  intro t ht
  revert t
  decide +kernel
def c0p : Nat → Fact
  | 0 => .is (.agg #[i64 1, i64 1])
  | 1 => a2A (ss2.map (·.text))
  | 2 => a4L ff2 ss2
  | 3 => a2A (ss4.map (·.text))
  | 4 => a4L ff4 ss4
  | 5 => a2A (ss6.map (·.text))
  | 6 => a4L ff6 ss6
  | 7 => fRow fs1
  | 8 => b9P fs1
  | 9 => b9L (1, 1) fs1
  | 10 => .is (.agg #[i64 2, i64 1])
  | 11 => a2A (a8h.map (·.text))
  | 12 => a4L b4T a8h
  | 13 => a2A (a9c.map (·.text))
  | 14 => a4L b6D a9c
  | 15 => a2A (a8G.map (·.text))
  | 16 => a4L b7a a8G
  | 17 => fRow XW
  | 18 => b9P XW
  | 19 => b9L (2, 1) XW
  | 20 => c0n
  | 21 => b9H
  | 22 => b9H
  | _ => c0F
theorem b3D I (hT : IX I) : Pure Tryz.prog 14 [] I (.bool true) := by
 refine yY.toPure ?_
 refine zO func14 fun w0 hw0 => ?_
 refine Cj.sr (J.z GH ?_)
 refine J.UQ (J.z (AQ (pl := #[(0, 1), (1, 1)]) rfl rfl a0f rfl a8C (fun w => by simp [OL]) (AO.part rfl rfl rfl (yV.c yV.z) (AO.part rfl rfl rfl (yV.s (yV.c yV.z)) AO.none))) ?_)
 refine J.op rfl (BM rfl rfl rfl a0f rfl ?_)
 intro b1 hb1
 refine J.op rfl (DV 0 FM (yV.c (yV.c yV.z)) yX.z ?_)
 refine J.UQ (J.z (AQ (pl := #[(0, 1), (1, 1)]) rfl rfl a0f rfl a8C (fun w => by simp [OL]) (AO.part rfl rfl rfl (yV.c yV.z) (AO.part rfl rfl rfl (yV.s (yV.c yV.z)) AO.none))) ?_)
 refine J.op rfl (BM rfl rfl rfl a0f rfl ?_)
 intro b2 hb2
 refine J.op rfl (DV 0 FM (yV.c (yV.c yV.z)) yX.z ?_)
 refine J.nss ?_
 refine Cj.flow c0p (by kernel_rfl) (by kernel_rfl) (by kernel_rfl) (fun k o d hk hd e I2 hle hba hdep => ?_) (fun e I2 hle hba hkn => ?_)
 ·match k, hk with
  | 0, hk =>
   obtain rfl := Option.some.inj hk
   obtain rfl := Option.some.inj hd
   have ht : eg e 1 = some (ptr b1 0) := (hba 1 (by decide)).trans rfl
   exact ⟨rfl, DY (AY (vs := [i64 1, i64 1]) rfl ht OH FM (yZ.at 1 rfl) rfl rfl) ⟨_, [], rfl, rfl, JC, Le.refl _, fun _ _ _ => rfl⟩⟩
  | 1, hk =>
   obtain rfl := Option.some.inj hk
   obtain rfl := Option.some.inj hd
   exact ⟨rfl, zY rfl rfl rfl FQ EI YL rfl rfl rfl rfl (zM.one rfl (zM.one rfl zM.none)) (fun b hb => ⟨_, [(b, _)], rfl, rfl, QS hb, Le.refl _, fun I3 _ hK => SE (l := ss2.map Ke.Sub.text) (hK _ (.head _))⟩)⟩
  | 2, hk =>
   obtain rfl := Option.some.inj hk
   obtain rfl := Option.some.inj hd
   obtain ⟨va, ha, pa⟩ := hdep 1 (by kernel_rfl) _ _ rfl rfl
   refine ⟨rfl, IJ (vs := [str [50, 52, 53], str [49, 52], str [97, 98], va]) (fst := []) (cap := []) rfl rfl rfl rfl (by simp only [evs, ev, ha]; rfl) (VQ [50, 52, 53] [49, 52] ss2 va (by decide) _ pa) (fun v I3 H3 hle3 _ hp => ?_) (fun _ _ _ _ ⟨_, h, _⟩ => by cases h) (fun _ _ ⟨_, h, _⟩ => by cases h)⟩
   obtain ⟨w, h, hw, rfl⟩ := hp; cases h
   exact ⟨_, [], rfl, rfl, JC, hle3, fun I4 hle4 _ => ⟨w, rfl, hw.mono hle4⟩⟩
  | 3, hk =>
   obtain rfl := Option.some.inj hk
   obtain rfl := Option.some.inj hd
   exact ⟨rfl, zY rfl rfl rfl FQ EI YL rfl rfl rfl rfl (zM.one rfl zM.none) (fun b hb => ⟨_, [(b, _)], rfl, rfl, QS hb, Le.refl _, fun I3 _ hK => SE (l := ss4.map Ke.Sub.text) (hK _ (.head _))⟩)⟩
  | 4, hk =>
   obtain rfl := Option.some.inj hk
   obtain rfl := Option.some.inj hd
   obtain ⟨va, ha, pa⟩ := hdep 3 (by kernel_rfl) _ _ rfl rfl
   refine ⟨rfl, IJ (vs := [str [48, 50, 48], str [32, 32], str [97], va]) (fst := []) (cap := []) rfl rfl rfl rfl (by simp only [evs, ev, ha]; rfl) (VQ [48, 50, 48] [32, 32] ss4 va (by decide) _ pa) (fun v I3 H3 hle3 _ hp => ?_) (fun _ _ _ _ ⟨_, h, _⟩ => by cases h) (fun _ _ ⟨_, h, _⟩ => by cases h)⟩
   obtain ⟨w, h, hw, rfl⟩ := hp; cases h
   exact ⟨_, [], rfl, rfl, JC, hle3, fun I4 hle4 _ => ⟨w, rfl, hw.mono hle4⟩⟩
  | 5, hk =>
   obtain rfl := Option.some.inj hk
   obtain rfl := Option.some.inj hd
   exact ⟨rfl, zY rfl rfl rfl FQ EI YL rfl rfl rfl rfl (zM.one rfl zM.none) (fun b hb => ⟨_, [(b, _)], rfl, rfl, QS hb, Le.refl _, fun I3 _ hK => SE (l := ss6.map Ke.Sub.text) (hK _ (.head _))⟩)⟩
  | 6, hk =>
   obtain rfl := Option.some.inj hk
   obtain rfl := Option.some.inj hd
   obtain ⟨va, ha, pa⟩ := hdep 5 (by kernel_rfl) _ _ rfl rfl
   refine ⟨rfl, IJ (vs := [str [50, 54, 48], str [32, 32], str [99], va]) (fst := []) (cap := []) rfl rfl rfl rfl (by simp only [evs, ev, ha]; rfl) (VQ [50, 54, 48] [32, 32] ss6 va (by decide) _ pa) (fun v I3 H3 hle3 _ hp => ?_) (fun _ _ _ _ ⟨_, h, _⟩ => by cases h) (fun _ _ ⟨_, h, _⟩ => by cases h)⟩
   obtain ⟨w, h, hw, rfl⟩ := hp; cases h
   exact ⟨_, [], rfl, rfl, JC, hle3, fun I4 hle4 _ => ⟨w, rfl, hw.mono hle4⟩⟩
  | 7, hk =>
   obtain rfl := Option.some.inj hk
   obtain rfl := Option.some.inj hd
   obtain ⟨va, ha, pa⟩ := hdep 2 (by kernel_rfl) _ _ rfl rfl
   obtain ⟨wa, rfl, hwa⟩ := pa
   obtain ⟨vb, hb, pb⟩ := hdep 4 (by kernel_rfl) _ _ rfl rfl
   obtain ⟨wb, rfl, hwb⟩ := pb
   obtain ⟨vc, hc, pc⟩ := hdep 6 (by kernel_rfl) _ _ rfl rfl
   obtain ⟨wc, rfl, hwc⟩ := pc
   refine ⟨rfl, zY (vs := [.agg (JM (ff2 wa)).toArray, .agg (JM (ff4 wb)).toArray, .agg (JM (ff6 wc)).toArray]) rfl rfl rfl b1k VN a0x rfl (by simp only [List.map, evs, ev, ha, hb, hc]) rfl rfl (zM.agg rfl (zM.agg rfl (zM.agg rfl zM.none))) (fun b hbb => ⟨_, [(b, _)], rfl, rfl, QS hbb, Le.refl _, fun I3 hle3 hK => ⟨wa, wb, wc, zL.of (l := fs1 wa wb wc) (sp := []) (Nat.le_refl _) (hK _ (.head _)), fun f hf => ?_⟩⟩)⟩
   simp only [fs1, List.mem_cons, List.not_mem_nil, or_false] at hf
   rcases hf with rfl | rfl | rfl
   · exact hwa.mono hle3
   · exact hwb.mono hle3
   exact hwc.mono hle3
  | 8, hk =>
   obtain rfl := Option.some.inj hk
   obtain rfl := Option.some.inj hd
   obtain ⟨va, ha, pa⟩ := hdep 7 (by kernel_rfl) _ _ rfl rfl
   obtain ⟨wa, wb, wc, hw⟩ := pa
   obtain ⟨qp, qc, rfl⟩ := zL.len hw.1
   exact ⟨rfl, OQ (AQ (vs := [.slice qp (fs1 wa wb wc).length qc]) (pl := #[(0, 1), (1, 1), (2, 1)]) rfl (by simp only [List.map, evs, ev, ha]) zeroValue57 rfl underlying57 (fun w => by simp [sizeOf55, ZM]) (AO.part rfl rfl rfl (yV.s (yV.s (yV.c yV.z))) AO.none)) rfl rfl ⟨_, [], rfl, rfl, JC, Le.refl _, fun I3 hle3 _ => ⟨_, wa, wb, wc, rfl, hw.mono hle3⟩⟩⟩
  | 9, hk =>
   obtain rfl := Option.some.inj hk
   obtain rfl := Option.some.inj hd
   obtain ⟨va, ha, pa⟩ := hdep 0 (by kernel_rfl) _ _ rfl rfl
   have pa : va = .agg [i64 1, i64 1].toArray := pa
   subst pa
   obtain ⟨vb, hb, pb⟩ := hdep 8 (by kernel_rfl) _ _ rfl rfl
   obtain ⟨w, wa, wb, wc, rfl, hw⟩ := pb
   exact ⟨rfl, OQ (AQ (vs := [.agg [i64 1, i64 1].toArray, a8F 0 0 w]) (pl := #[(0, 2), (2, 3)]) rfl (by simp only [List.map, evs, ev, ha, hb]) ZA rfl a7h (fun w => by simp [FM, a1Y]) (AO.part rfl rfl rfl (yV.c (yV.c yV.z)) (AO.part rfl rfl rfl (yV.s (yV.s (yV.c (yV.c (yV.c yV.z))))) AO.none))) rfl rfl ⟨_, [], rfl, rfl, JC, Le.refl _, fun I3 hle3 _ => ⟨w, wa, wb, wc, rfl, hw.mono hle3⟩⟩⟩
  | 10, hk =>
   obtain rfl := Option.some.inj hk
   obtain rfl := Option.some.inj hd
   have ht : eg e 2 = some (ptr b2 0) := (hba 2 (by decide)).trans rfl
   exact ⟨rfl, DY (AY (vs := [i64 2, i64 1]) rfl ht OH FM (yZ.at 0 rfl) rfl rfl) ⟨_, [], rfl, rfl, JC, Le.refl _, fun _ _ _ => rfl⟩⟩
  | 11, hk =>
   obtain rfl := Option.some.inj hk
   obtain rfl := Option.some.inj hd
   exact ⟨rfl, zY rfl rfl rfl FQ EI YL rfl rfl rfl rfl (zM.one rfl zM.none) (fun b hb => ⟨_, [(b, _)], rfl, rfl, QS hb, Le.refl _, fun I3 _ hK => SE (l := a8h.map Ke.Sub.text) (hK _ (.head _))⟩)⟩
  | 12, hk =>
   obtain rfl := Option.some.inj hk
   obtain rfl := Option.some.inj hd
   obtain ⟨va, ha, pa⟩ := hdep 11 (by kernel_rfl) _ _ rfl rfl
   refine ⟨rfl, IJ (vs := [str [50, 52, 53], str [49, 48], str [97], va]) (fst := []) (cap := []) rfl rfl rfl rfl (by simp only [evs, ev, ha]; rfl) (VQ [50, 52, 53] [49, 48] a8h va (by decide) _ pa) (fun v I3 H3 hle3 _ hp => ?_) (fun _ _ _ _ ⟨_, h, _⟩ => by cases h) (fun _ _ ⟨_, h, _⟩ => by cases h)⟩
   obtain ⟨w, h, hw, rfl⟩ := hp; cases h
   exact ⟨_, [], rfl, rfl, JC, hle3, fun I4 hle4 _ => ⟨w, rfl, hw.mono hle4⟩⟩
  | 13, hk =>
   obtain rfl := Option.some.inj hk
   obtain rfl := Option.some.inj hd
   exact ⟨rfl, zY rfl rfl rfl FQ EI YL rfl rfl rfl rfl (zM.one rfl zM.none) (fun b hb => ⟨_, [(b, _)], rfl, rfl, QS hb, Le.refl _, fun I3 _ hK => SE (l := a9c.map Ke.Sub.text) (hK _ (.head _))⟩)⟩
  | 14, hk =>
   obtain rfl := Option.some.inj hk
   obtain rfl := Option.some.inj hd
   obtain ⟨va, ha, pa⟩ := hdep 13 (by kernel_rfl) _ _ rfl rfl
   refine ⟨rfl, IJ (vs := [str [49, 48, 48], str [49, 32], str [97], va]) (fst := []) (cap := []) rfl rfl rfl rfl (by simp only [evs, ev, ha]; rfl) (VQ [49, 48, 48] [49, 32] a9c va (by decide) _ pa) (fun v I3 H3 hle3 _ hp => ?_) (fun _ _ _ _ ⟨_, h, _⟩ => by cases h) (fun _ _ ⟨_, h, _⟩ => by cases h)⟩
   obtain ⟨w, h, hw, rfl⟩ := hp; cases h
   exact ⟨_, [], rfl, rfl, JC, hle3, fun I4 hle4 _ => ⟨w, rfl, hw.mono hle4⟩⟩
  | 15, hk =>
   obtain rfl := Option.some.inj hk
   obtain rfl := Option.some.inj hd
   exact ⟨rfl, zY rfl rfl rfl FQ EI YL rfl rfl rfl rfl (zM.one rfl (zM.one rfl zM.none)) (fun b hb => ⟨_, [(b, _)], rfl, rfl, QS hb, Le.refl _, fun I3 _ hK => SE (l := a8G.map Ke.Sub.text) (hK _ (.head _))⟩)⟩
  | 16, hk =>
   obtain rfl := Option.some.inj hk
   obtain rfl := Option.some.inj hd
   obtain ⟨va, ha, pa⟩ := hdep 15 (by kernel_rfl) _ _ rfl rfl
   refine ⟨rfl, IJ (vs := [str [54, 53, 48], str [32, 32], str [97, 120], va]) (fst := []) (cap := []) rfl rfl rfl rfl (by simp only [evs, ev, ha]; rfl) (VQ [54, 53, 48] [32, 32] a8G va (by decide) _ pa) (fun v I3 H3 hle3 _ hp => ?_) (fun _ _ _ _ ⟨_, h, _⟩ => by cases h) (fun _ _ ⟨_, h, _⟩ => by cases h)⟩
   obtain ⟨w, h, hw, rfl⟩ := hp; cases h
   exact ⟨_, [], rfl, rfl, JC, hle3, fun I4 hle4 _ => ⟨w, rfl, hw.mono hle4⟩⟩
  | 17, hk =>
   obtain rfl := Option.some.inj hk
   obtain rfl := Option.some.inj hd
   obtain ⟨va, ha, pa⟩ := hdep 12 (by kernel_rfl) _ _ rfl rfl
   obtain ⟨wa, rfl, hwa⟩ := pa
   obtain ⟨vb, hb, pb⟩ := hdep 14 (by kernel_rfl) _ _ rfl rfl
   obtain ⟨wb, rfl, hwb⟩ := pb
   obtain ⟨vc, hc, pc⟩ := hdep 16 (by kernel_rfl) _ _ rfl rfl
   obtain ⟨wc, rfl, hwc⟩ := pc
   refine ⟨rfl, zY (vs := [.agg (JM (b4T wa)).toArray, .agg (JM (b6D wb)).toArray, .agg (JM (b7a wc)).toArray]) rfl rfl rfl b1k VN a0x rfl (by simp only [List.map, evs, ev, ha, hb, hc]) rfl rfl (zM.agg rfl (zM.agg rfl (zM.agg rfl zM.none))) (fun b hbb => ⟨_, [(b, _)], rfl, rfl, QS hbb, Le.refl _, fun I3 hle3 hK => ⟨wa, wb, wc, zL.of (l := XW wa wb wc) (sp := []) (Nat.le_refl _) (hK _ (.head _)), fun f hf => ?_⟩⟩)⟩
   simp only [XW, List.mem_cons, List.not_mem_nil, or_false] at hf
   rcases hf with rfl | rfl | rfl
   · exact hwa.mono hle3
   · exact hwb.mono hle3
   exact hwc.mono hle3
  | 18, hk =>
   obtain rfl := Option.some.inj hk
   obtain rfl := Option.some.inj hd
   obtain ⟨va, ha, pa⟩ := hdep 17 (by kernel_rfl) _ _ rfl rfl
   obtain ⟨wa, wb, wc, hw⟩ := pa
   obtain ⟨qp, qc, rfl⟩ := zL.len hw.1
   exact ⟨rfl, OQ (AQ (vs := [.slice qp (XW wa wb wc).length qc]) (pl := #[(0, 1), (1, 1), (2, 1)]) rfl (by simp only [List.map, evs, ev, ha]) zeroValue57 rfl underlying57 (fun w => by simp [sizeOf55, ZM]) (AO.part rfl rfl rfl (yV.s (yV.s (yV.c yV.z))) AO.none)) rfl rfl ⟨_, [], rfl, rfl, JC, Le.refl _, fun I3 hle3 _ => ⟨_, wa, wb, wc, rfl, hw.mono hle3⟩⟩⟩
  | 19, hk =>
   obtain rfl := Option.some.inj hk
   obtain rfl := Option.some.inj hd
   obtain ⟨va, ha, pa⟩ := hdep 10 (by kernel_rfl) _ _ rfl rfl
   have pa : va = .agg [i64 2, i64 1].toArray := pa
   subst pa
   obtain ⟨vb, hb, pb⟩ := hdep 18 (by kernel_rfl) _ _ rfl rfl
   obtain ⟨w, wa, wb, wc, rfl, hw⟩ := pb
   exact ⟨rfl, OQ (AQ (vs := [.agg [i64 2, i64 1].toArray, a8F 0 0 w]) (pl := #[(0, 2), (2, 3)]) rfl (by simp only [List.map, evs, ev, ha, hb]) ZA rfl a7h (fun w => by simp [FM, a1Y]) (AO.part rfl rfl rfl (yV.c (yV.c yV.z)) (AO.part rfl rfl rfl (yV.s (yV.s (yV.c (yV.c (yV.c yV.z))))) AO.none))) rfl rfl ⟨_, [], rfl, rfl, JC, Le.refl _, fun I3 hle3 _ => ⟨w, wa, wb, wc, rfl, hw.mono hle3⟩⟩⟩
  | 20, hk =>
   obtain rfl := Option.some.inj hk
   obtain rfl := Option.some.inj hd
   obtain ⟨va, ha, pa⟩ := hdep 9 (by kernel_rfl) _ _ rfl rfl
   obtain ⟨w, wa, wb, wc, rfl, hw⟩ := pa
   obtain ⟨vb, hb, pb⟩ := hdep 19 (by kernel_rfl) _ _ rfl rfl
   obtain ⟨u, ua, ub, uc, rfl, hu⟩ := pb
   obtain ⟨qp, qc, hq⟩ := zL.len hw.1
   obtain ⟨rp, rc, hr⟩ := zL.len hu.1
   refine ⟨rfl, zY (vs := [.agg (FK ⟨(1, 1), 0, 0, w, fs1 wa wb wc⟩).toArray, .agg (FK ⟨(2, 1), 0, 0, u, XW ua ub uc⟩).toArray]) rfl rfl rfl LD MZ ZA rfl (by simp only [List.map, evs, ev, ha, hb]) rfl rfl (zM.agg rfl (zM.agg rfl zM.none)) (fun b hbb => ⟨_, [(b, _)], rfl, rfl, QS hbb, Le.refl _, fun I3 hle3 hK => ⟨[⟨(1, 1), 0, 0, w, fs1 wa wb wc⟩, ⟨(2, 1), 0, 0, u, XW ua ub uc⟩], ⟨zL.of (sp := []) (Nat.le_refl _) (hK _ (.head _)), fun x hx => ?_⟩, rfl, fun x hx => ?_, c0k _ _ _ _ _ _ _ _⟩⟩)⟩
   · simp only [List.mem_cons, List.not_mem_nil, or_false] at hx
     rcases hx with rfl | rfl
     · exact hw.mono hle3
     exact hu.mono hle3
   simp only [List.mem_cons, List.not_mem_nil, or_false] at hx
   rcases hx with rfl | rfl
   · exact b9T _ _ _
   exact b9Q _ _ _
  | 21, hk =>
   obtain rfl := Option.some.inj hk
   obtain rfl := Option.some.inj hd
   obtain ⟨va, ha, pa⟩ := hdep 20 (by kernel_rfl) _ _ rfl rfl
   obtain ⟨es, hE, hl, hek, hls⟩ := pa
   refine ⟨rfl, IJ (vs := [va]) (fst := []) (cap := []) rfl rfl rfl rfl (by simp only [evs, ev, ha]) (b5j es va (by omega) hek _ hE) (fun v I3 H3 hle3 hn hp => ?_) (fun _ _ _ _ ⟨_, _, h, _⟩ => by cases h) (fun _ _ ⟨_, _, h, _⟩ => by cases h)⟩
   obtain ⟨ib, o, h, hok, rfl⟩ := hp; cases h
   rw [hls] at hok
   exact ⟨_, ixH ib o, rfl, rfl, hn, hle3, fun I4 hle4 hK => ⟨ib, rfl, o, hok.mono hle4, hK⟩⟩
  | 22, hk =>
   obtain rfl := Option.some.inj hk
   obtain rfl := Option.some.inj hd
   obtain ⟨va, ha, pa⟩ := hdep 21 (by kernel_rfl) _ _ rfl rfl
   obtain ⟨ib, rfl, hx⟩ := pa
   exact ⟨rfl, DY (a1g rfl (show ev e (.tmp 37) = some (ptr ib 0) from ha)) ⟨_, [], rfl, rfl, JC, Le.refl _, fun I3 hle3 _ => ⟨ib, rfl, hx.mono hle3⟩⟩⟩
  | k + 23, hk => exact absurd hk (by simp)
 obtain ⟨v3, h3, ib, rfl, hx⟩ := hkn 22 _ _ rfl rfl
 refine Ej.weak (e' := [(3, ptr ib 0), (1, ptr b1 0), (2, ptr b2 0)]) ⟨h3, (hba 1 (by decide)).trans rfl, (hba 2 (by decide)).trans rfl, trivial⟩ ?_
 have hT := hT.mono hle
 refine BJ (PV [116, 105, 116, 108, 101] [61] [115, 101, 97] _) ?_
 intro v3 I4 H5 hle6 hp7
 have hT := hT.mono hle6
 have hx := hx.mono hle6
 obtain ⟨h, rfl⟩ := hp7; cases h
 refine BJ (PV [97, 117, 116, 104, 111, 114] [61] [119, 111, 111, 108, 102] _) ?_
 intro v8 I9 H10 hle11 hp12
 have hT := hT.mono hle11
 have hx := hx.mono hle11
 obtain ⟨h, rfl⟩ := hp12; cases h
 refine BJ (both_ok 2 (Ix.EP [116, 105, 116, 108, 101] [61] [115, 101, 97]) (Ix.EP [97, 117, 116, 104, 111, 114] [61] [119, 111, 111, 108, 102]) none none 0 0 _ (.inl rfl) (.inl rfl)) ?_
 intro v13 I14 H15 hle16 hp17
 have hT := hT.mono hle16
 have hx := hx.mono hle16
 obtain ⟨⟨pqa, cqa, h, hqa⟩, rfl⟩ := hp17; cases h
 refine QB (WQ (ptr ib 0) LS (Ix.AA 2 (Ix.EP [116, 105, 116, 108, 101] [61] [115, 101, 97]) (Ix.EP [97, 117, 116, 104, 111, 114] [61] [119, 111, 111, 108, 102])) pqa cqa (by decide) (by decide) (Ix.a4u (by decide) (by decide) (Ix.NS (by decide) (by decide) _) (Ix.NS (by decide) (by decide) _) (by decide) (by decide)) a1l _ hqa (.inr ⟨ib, rfl, hx⟩) hT) ?_
 intro v19 I20 H21 hle22 hn18 hp23
 have hT := hT.mono hle22
 have hx := hx.mono hle22
 have hqa := hqa.mono hle22
 obtain ⟨wa, ra, h, hruna, hoa⟩ := hp23; cases h
 obtain rfl := hruna.eq sr1
 refine J.LH hoa hn18 (fun Ia hlea hra => ?_)
 have hT := hT.mono hlea
 have hx := hx.mono hlea
 have hqa := hqa.mono hlea
 replace hra := hra.row
 obtain ⟨pa, ca, rfl⟩ := EN hra
 refine BJ (PV [97, 110, 121] [97, 110, 121] [104, 105, 115, 116, 111, 114, 121, 32, 115, 116, 111, 114, 121] _) ?_
 intro v24 I25 H26 hle27 hp28
 have hT := hT.mono hle27
 have hx := hx.mono hle27
 have hqa := hqa.mono hle27
 have hra := hra.mono hle27
 obtain ⟨h, rfl⟩ := hp28; cases h
 refine QB (WQ (ptr ib 0) LS (Ix.EP [97, 110, 121] [97, 110, 121] [104, 105, 115, 116, 111, 114, 121, 32, 115, 116, 111, 114, 121]) none 0 (by decide) (by decide) (Ix.a0E (by decide) (by decide) _) a1l _ (.inl rfl) (.inr ⟨ib, rfl, hx⟩) hT) ?_
 intro v30 I31 H32 hle33 hn29 hp34
 have hT := hT.mono hle33
 have hx := hx.mono hle33
 have hqa := hqa.mono hle33
 have hra := hra.mono hle33
 obtain ⟨wb, rb, h, hrunb, hob⟩ := hp34; cases h
 obtain rfl := hrunb.eq sr2
 refine J.LH hob hn29 (fun Ib hleb hrb => ?_)
 have hT := hT.mono hleb
 have hx := hx.mono hleb
 have hqa := hqa.mono hleb
 have hra := hra.mono hleb
 replace hrb := hrb.row
 obtain ⟨pb, cb, rfl⟩ := EN hrb
 refine BJ (PV [121, 101, 97, 114] [60] [50, 48, 48, 48] _) ?_
 intro v35 I36 H37 hle38 hp39
 have hT := hT.mono hle38
 have hx := hx.mono hle38
 have hqa := hqa.mono hle38
 have hra := hra.mono hle38
 have hrb := hrb.mono hle38
 obtain ⟨h, rfl⟩ := hp39; cases h
 refine QB (WQ (ptr ib 0) LS (Ix.EP [121, 101, 97, 114] [60] [50, 48, 48, 48]) none 0 (by decide) (by decide) (Ix.a0E (by decide) (by decide) _) a1l _ (.inl rfl) (.inr ⟨ib, rfl, hx⟩) hT) ?_
 intro v41 I42 H43 hle44 hn40 hp45
 have hT := hT.mono hle44
 have hx := hx.mono hle44
 have hqa := hqa.mono hle44
 have hra := hra.mono hle44
 have hrb := hrb.mono hle44
 obtain ⟨wc, rc, h, hrunc, hoc⟩ := hp45; cases h
 obtain rfl := hrunc.eq sr3
 refine J.LH hoc hn40 (fun Ic hlec hrc => ?_)
 have hT := hT.mono hlec
 have hx := hx.mono hlec
 have hqa := hqa.mono hlec
 have hra := hra.mono hlec
 have hrb := hrb.mono hlec
 replace hrc := hrc.row
 obtain ⟨pc, cc, rfl⟩ := EN hrc
 refine BJ (PV [121, 101, 97, 114] [62, 61] [50, 48, 48, 48] _) ?_
 intro v46 I47 H48 hle49 hp50
 have hT := hT.mono hle49
 have hx := hx.mono hle49
 have hqa := hqa.mono hle49
 have hra := hra.mono hle49
 have hrb := hrb.mono hle49
 have hrc := hrc.mono hle49
 obtain ⟨h, rfl⟩ := hp50; cases h
 refine QB (WQ (ptr ib 0) LS (Ix.EP [121, 101, 97, 114] [62, 61] [50, 48, 48, 48]) none 0 (by decide) (by decide) (Ix.a0E (by decide) (by decide) _) a1l _ (.inl rfl) (.inr ⟨ib, rfl, hx⟩) hT) ?_
 intro v52 I53 H54 hle55 hn51 hp56
 have hT := hT.mono hle55
 have hx := hx.mono hle55
 have hqa := hqa.mono hle55
 have hra := hra.mono hle55
 have hrb := hrb.mono hle55
 have hrc := hrc.mono hle55
 obtain ⟨wd, rd, h, hrund, hod⟩ := hp56; cases h
 obtain rfl := hrund.eq sr4
 refine J.LH hod hn51 (fun Id hled hrd => ?_)
 have hT := hT.mono hled
 have hx := hx.mono hled
 have hqa := hqa.mono hled
 have hra := hra.mono hled
 have hrb := hrb.mono hled
 have hrc := hrc.mono hled
 replace hrd := hrd.row
 obtain ⟨pd, cd, rfl⟩ := EN hrd
 refine BJ (PV [116, 105, 116, 108, 101] [97, 108, 108] [115, 101, 97, 32, 115, 116, 111, 114, 105, 101, 115] _) ?_
 intro v57 I58 H59 hle60 hp61
 have hT := hT.mono hle60
 have hx := hx.mono hle60
 have hqa := hqa.mono hle60
 have hra := hra.mono hle60
 have hrb := hrb.mono hle60
 have hrc := hrc.mono hle60
 have hrd := hrd.mono hle60
 obtain ⟨h, rfl⟩ := hp61; cases h
 refine BJ (PV [97, 117, 116, 104, 111, 114] [61] [119, 111, 111, 108, 102] _) ?_
 intro v62 I63 H64 hle65 hp66
 have hT := hT.mono hle65
 have hx := hx.mono hle65
 have hqa := hqa.mono hle65
 have hra := hra.mono hle65
 have hrb := hrb.mono hle65
 have hrc := hrc.mono hle65
 have hrd := hrd.mono hle65
 obtain ⟨h, rfl⟩ := hp66; cases h
 refine BJ (both_ok 4 (Ix.EP [116, 105, 116, 108, 101] [97, 108, 108] [115, 101, 97, 32, 115, 116, 111, 114, 105, 101, 115]) (Ix.EP [97, 117, 116, 104, 111, 114] [61] [119, 111, 111, 108, 102]) none none 0 0 _ (.inl rfl) (.inl rfl)) ?_
 intro v67 I68 H69 hle70 hp71
 have hT := hT.mono hle70
 have hx := hx.mono hle70
 have hqa := hqa.mono hle70
 have hra := hra.mono hle70
 have hrb := hrb.mono hle70
 have hrc := hrc.mono hle70
 have hrd := hrd.mono hle70
 obtain ⟨⟨pqe, cqe, h, hqe⟩, rfl⟩ := hp71; cases h
 refine QB (WQ (ptr ib 0) LS (Ix.AA 4 (Ix.EP [116, 105, 116, 108, 101] [97, 108, 108] [115, 101, 97, 32, 115, 116, 111, 114, 105, 101, 115]) (Ix.EP [97, 117, 116, 104, 111, 114] [61] [119, 111, 111, 108, 102])) pqe cqe (by decide) (by decide) (Ix.a4u (by decide) (by decide) (Ix.NS (by decide) (by decide) _) (Ix.NS (by decide) (by decide) _) (by decide) (by decide)) a1l _ hqe (.inr ⟨ib, rfl, hx⟩) hT) ?_
 intro v73 I74 H75 hle76 hn72 hp77
 have hT := hT.mono hle76
 have hx := hx.mono hle76
 have hqa := hqa.mono hle76
 have hra := hra.mono hle76
 have hrb := hrb.mono hle76
 have hrc := hrc.mono hle76
 have hrd := hrd.mono hle76
 have hqe := hqe.mono hle76
 obtain ⟨we, re, h, hrune, hoe⟩ := hp77; cases h
 obtain rfl := hrune.eq sr5
 refine J.LH hoe hn72 (fun Ie hlee hre => ?_)
 have hT := hT.mono hlee
 have hx := hx.mono hlee
 have hqa := hqa.mono hlee
 have hra := hra.mono hlee
 have hrb := hrb.mono hlee
 have hrc := hrc.mono hlee
 have hrd := hrd.mono hlee
 have hqe := hqe.mono hlee
 replace hre := hre.row
 obtain ⟨pe, ce, rfl⟩ := EN hre
 refine yU 14 ?_
 refine J.KH 2 74 true _ rfl rfl rfl (by first | rfl | decide) (zY rfl rfl rfl a4V FM a0f rfl rfl rfl rfl (zM.agg rfl zM.none) ?_)
 intro b78 hb78
 refine J.persist hb78 (fun I80 hle79 hb78i => ?_)
 have hT := hT.mono hle79
 have hx := hx.mono hle79
 have hqa := hqa.mono hle79
 have hra := hra.mono hle79
 have hrb := hrb.mono hle79
 have hrc := hrc.mono hle79
 have hrd := hrd.mono hle79
 have hqe := hqe.mono hle79
 have hre := hre.mono hle79
 have hL78 : zL recC _ ([(2, 1)] : List Ix.Rec) (.slice (some ⟨b78, 0, none⟩) 1 1) := zL.of (l := ([(2, 1)] : List Ix.Rec)) (sp := []) (Nat.le_refl _) hb78i
 refine BD (a3y [(2, 1)] [(2, 1)] _ _ (by decide) _ hra hL78) ?_
 refine J.ev 78 (.bool true) rfl (congrArg Value.bool (by decide)) ?_
 refine yU 5 ?_
 refine J.KH 8 80 true _ rfl rfl rfl rfl (zY rfl rfl rfl a4V FM a0f rfl rfl rfl rfl (zM.agg rfl (zM.agg rfl zM.none)) ?_)
 intro b81 hb81
 refine J.persist hb81 (fun I83 hle82 hb81i => ?_)
 have hT := hT.mono hle82
 have hx := hx.mono hle82
 have hqa := hqa.mono hle82
 have hra := hra.mono hle82
 have hrb := hrb.mono hle82
 have hrc := hrc.mono hle82
 have hrd := hrd.mono hle82
 have hqe := hqe.mono hle82
 have hre := hre.mono hle82
 have hb78i := hle82 _ _ hb78i
 have hL78 := hL78.mono hle82
 have hL85 : zL recC _ ([(1, 1), (2, 1)] : List Ix.Rec) (.slice (some ⟨b81, 0, none⟩) 2 2) := zL.of (l := ([(1, 1), (2, 1)] : List Ix.Rec)) (sp := []) (Nat.le_refl _) hb81i
 refine BD (a3y [(1, 1), (2, 1)] [(1, 1), (2, 1)] _ _ (by decide) _ hrb hL85) ?_
 refine J.ev 85 (.bool true) rfl (congrArg Value.bool (by decide)) ?_
 refine yU 4 ?_
 refine J.KH 15 87 true _ rfl rfl rfl rfl (zY rfl rfl rfl a4V FM a0f rfl rfl rfl rfl (zM.agg rfl zM.none) ?_)
 intro b84 hb84
 refine J.persist hb84 (fun I86 hle85 hb84i => ?_)
 have hT := hT.mono hle85
 have hx := hx.mono hle85
 have hqa := hqa.mono hle85
 have hra := hra.mono hle85
 have hrb := hrb.mono hle85
 have hrc := hrc.mono hle85
 have hrd := hrd.mono hle85
 have hqe := hqe.mono hle85
 have hre := hre.mono hle85
 have hb78i := hle85 _ _ hb78i
 have hL78 := hL78.mono hle85
 have hb81i := hle85 _ _ hb81i
 have hL85 := hL85.mono hle85
 have hL91 : zL recC _ ([(1, 1)] : List Ix.Rec) (.slice (some ⟨b84, 0, none⟩) 1 1) := zL.of (l := ([(1, 1)] : List Ix.Rec)) (sp := []) (Nat.le_refl _) hb84i
 refine BD (a3y [(1, 1)] [(1, 1)] _ _ (by decide) _ hrc hL91) ?_
 refine J.ev 91 (.bool true) rfl (congrArg Value.bool (by decide)) ?_
 refine yU 4 ?_
 refine J.ev 95 (i64 0) rfl rfl ?_
 refine yU 2 ?_
 refine J.ev 97 (i64 0) rfl rfl ?_
 refine yU 2 ?_
 refine J.ev 99 (.bool true) rfl rfl ?_
 refine BL ?_
 exact ⟨rfl, rfl⟩
end Go.Proofs.YtekmeaoblpfnpaaGreatDoor
end
namespace Cq
theorem Qs.a3z : ∀ {ps : Qs}, ps.len ≤ ps.size
  | .nil => Nat.le_refl _
  | .cons _ _ _ _ _ rest => by have := @Qs.a3z rest; simp only [Qs.len, Qs.size]; omega
end Cq
namespace Go.Sx
open Cq
end Go.Sx
section
namespace Go.Proofs.YtekmeaoblpfnpaaGreatDoor
open Go Go.Sx
def XL (a : Cq.Qn) : Prop := ∀ (b : Cq.Qn) (p p2 : Option Addr) (c c2 : Nat) (I : Heap), PS I a.ps p → PS I b.ps p2 → a.size ≤ 1000000000 → Pure Tryz.prog 45 [.agg (zW a p c).toArray, .agg (zW b p2 c2).toArray] I (.bool (decide (a = b)))
theorem b0x {a b : Cq.Qn} (h1 : a.k = b.k) (h2 : a.i = b.i) (h3 : a.r = b.r) (h4 : a.t = b.t) (h5 : a.ps = b.ps) : a = b := by cases a; cases b; simp_all
theorem b2e a (ih : ∀ a', Cq.Qn.size a' < a.size → XL a') : XL a := by
 intro b p p2 c c2 I hps hps2 hsz
 have hlen : a.ps.len ≤ 1000000000 := IQ Cq.Qs.a3z hsz
 refine yY.toPure ?_
 refine zO Tryz.func45 fun w0 hw0 => ?_
 refine yU 3 ?_
 intro b1 hb1
 refine yU 1 ?_
 intro b2 hb2
 refine PY (fun hg3 => ?_) (fun hg3 => ?_)
 ·refine BL ?_
  have hne : a ≠ b := by intro he; have h := hg3; rw [he] at h; simp at h
  refine ⟨?_, rfl⟩
  simp [hne]
 refine PY (fun hg5 => ?_) (fun hg5 => ?_)
 ·refine BL ?_
  have hne : a ≠ b := by intro he; have h := hg5; rw [he] at h; simp at h
  refine ⟨?_, rfl⟩
  simp [hne]
 refine PY (fun hg7 => ?_) (fun hg7 => ?_)
 ·refine BL ?_
  have hne : a ≠ b := by intro he; have h := hg7; rw [he] at h; simp at h
  refine ⟨?_, rfl⟩
  simp [hne]
 refine PY (fun hg9 => ?_) (fun hg9 => ?_)
 ·refine BL ?_
  have hne : a ≠ b := by intro he; have h := hg9; rw [he] at h; simp at h
  refine ⟨?_, rfl⟩
  simp [hne]
 refine AB (fun hc11 hc11p => ?_) (fun hc11 hc11p => ?_)
 ·refine BL ?_
  have hne : a ≠ b := by intro he; have h := hc11; rw [he] at h; simp at h
  refine ⟨?_, rfl⟩
  simp [hne]
 have hfk : a.k = b.k := by have h := hg3; simp at h; first | exact h | omega
 have hfi : a.i = b.i := by have h := hg5; simp at h; first | exact h | omega
 have hfr : a.r = b.r := by have h := hg7; simp at h; first | exact h | omega
 have hft : a.t = b.t := by have h := hg9; simp at h; first | exact h | omega
 have hfl : a.ps.len = b.ps.len := by have h := hc11; simp at h; first | exact h | omega
 refine yU 9 ?_
 refine Cj.loop (ι := Nat) (fun k => k ≤ a.ps.len ∧ ∀ j, j < k → a.ps.get j = b.ps.get j) (fun k => a.ps.len - k) (fun k => [(2, ptr b1 0), (3, ptr b2 0), (5, i64 (k : Int))]) (fun k => I) (fun k => [(b2, zJ 32 (zW b p2 c2)), (b1, zJ 32 (zW a p c))]) 0 ⟨Nat.zero_le _, fun j h => absurd h (by omega)⟩ ⟨rfl, rfl, rfl, trivial⟩ rfl rfl ?_
 rintro k ⟨hk, hall⟩
 refine AB (fun hc12 hc12p => ?_) (fun hc12 hc12p => ?_)
 ·have hlt : k < a.ps.len := by omega
  obtain ⟨x, hx⟩ := Cq.Qs.a1j hlt
  obtain ⟨y, hy⟩ := Cq.Qs.a1j (ps := b.ps) (hfl ▸ hlt)
  obtain ⟨bl, off, cs', T, fr, rfl, hbl, hat⟩ := hps.at (by omega)
  obtain ⟨bm, off2, cs2, T2, fr2, rfl, hbm, hat2⟩ := hps2.at (by omega)
  obtain ⟨px, cx, hca, hpx⟩ := hat k x hx
  obtain ⟨py, cy, hcb, hpy⟩ := hat2 k y hy
  refine yU 5 ?_
  refine Cj.AU [0, 1] [] 12 (by kernel_rfl) ?_
  have hbl_6 := hbl
  have hbm_6 := hbm
  refine AZ (off + k * 5) ?_
  refine JA.zt 4 rfl (qq2 BG zK (yZ.GY hbl_6) hca) ?_
  refine AZ (off2 + k * 5) ?_
  refine JA.zt 9 rfl (qq2 BG zK (yZ.GY hbm_6) hcb) ?_
  refine BD (ih x (Cq.Qs.WX hx : x.size < a.ps.size) y px py cx cy _ hpx hpy (by have := Cq.Qs.WX hx; unfold Cq.Qn.size at hsz; omega)) ?_
  refine FB (fun hc15 => ?_) (fun hc15 => ?_)
  ·have hxy : x ≠ y := by have h := hc15; simpa using h
   refine BL ?_
   refine ⟨?_, rfl⟩
   have hne : a ≠ b := fun he => hxy (by rw [he] at hx; exact Option.some.inj (hx.symm.trans hy))
   simp [hne]
  have hxy : x = y := by have h := hc15; simpa using h
  refine yU 8 ?_
  refine Ej.round (k + 1) ⟨by omega, fun j hj => (Nat.lt_succ_iff_lt_or_eq.1 hj).elim (hall j) (fun h => by rw [h, hx, hy, hxy])⟩ (by omega) ⟨rfl, rfl, rfl, trivial⟩ rfl rfl
 refine BL ?_
 refine ⟨?_, rfl⟩
 have he : a = b := b0x hfk hfi hfr hft (Cq.Qs.ext hfl fun j hj => hall j (by omega))
 simp [he]
theorem b5R a : XL a := by
  suffices ∀ n (a : Cq.Qn), a.size < n → XL a from this _ a (Nat.lt_succ_self _)
  intro n
  induction n with
  | zero => intro q h; omega
  | succ n ih => intro q h; exact b2e q fun q' h' => ih q' (by omega)
end Go.Proofs.YtekmeaoblpfnpaaGreatDoor
end
namespace Go.Stab
variable {α:Type} {lt:α→α→Bool}
structure RN (lt : α → α → Bool) : Prop where
  neg : ∀ x y z, lt x z = true → lt x y = true ∨ lt y z = true
  asy : ∀ x y, lt x y = true → lt y x = false
def TL (lt:α→α→Bool) (p q:α×Nat):Prop:=lt p.1 q.1=true∨(lt q.1 p.1=false∧p.2<q.2)
theorem TL.irr (h : RN lt) {p} (g : TL lt p p) : False := by
  rcases g with g | ⟨_, g⟩
  · have := h.asy _ _ g; rw [g] at this; cases this
  omega
theorem TL.tr (h : RN lt) {p q r} (g : TL lt p q) (k : TL lt q r) : TL lt p r := by
  rcases g with g | ⟨g1, g2⟩
  · have h1 := h.neg p.1 r.1 q.1 g
    rcases h1 with h1 | h1
    · exact .inl h1
    rcases k with k | ⟨k1, _⟩
    · have := h.asy _ _ k; rw [h1] at this; cases this
    rw [h1] at k1; cases k1
  rcases k with k | ⟨k1, k2⟩
  · rcases h.neg q.1 p.1 r.1 k with h1 | h1
    · rw [h1] at g1; cases g1
    exact .inl h1
  refine .inr ⟨?_, by omega⟩
  cases hr : lt r.1 p.1 with
  | false => rfl
  | true =>
    rcases h.neg r.1 q.1 p.1 hr with h1 | h1
    · rw [h1] at k1; cases k1
    rw [h1] at g1; cases g1
abbrev AL (lt:α→α→Bool) (l:List (α×Nat)):Prop:=l.Pairwise (TL lt)
theorem AL.uniq (h : RN lt) : ∀ {l l' : List (α × Nat)}, AL lt l → AL lt l' → l.Perm l' → l = l'
  | [], _, _, _, hp => (List.Perm.nil_eq hp)
  | a :: l, [], _, _, hp => by have := hp.length_eq; simp at this
  | a :: l, b :: l', h1, h2, hp => by
    have h1' := List.pairwise_cons.1 h1
    have h2' := List.pairwise_cons.1 h2
    have hab : a = b := by
      have ha : a ∈ b :: l' := hp.mem_iff.1 (.head _)
      have hb : b ∈ a :: l := hp.mem_iff.2 (.head _)
      rcases List.mem_cons.1 ha with g | g
      · exact g
      rcases List.mem_cons.1 hb with k | k
      · exact k.symm
      exact (TL.irr h (TL.tr h (h1'.1 _ k) (h2'.1 _ g))).elim
    subst hab
    rw [AL.uniq h h1'.2 h2'.2 ((List.perm_cons a).1 hp)]
def Stab (lt : α → α → Bool) (l r : List α) : Prop := ∃ t : List (α × Nat), t.map (·.1) = r ∧ t.Perm l.zipIdx ∧ AL lt t
theorem Stab.uniq (h : RN lt) {l r r'} : Stab lt l r → Stab lt l r' → r = r' := by
  rintro ⟨t, rfl, hp, hs⟩ ⟨t', rfl, hp', hs'⟩
  rw [AL.uniq h hs hs' (hp.trans hp'.symm)]
theorem Stab.perm {l r} (h : Stab lt l r) : r.Perm l := by
  obtain ⟨t, rfl, hp, _⟩ := h
  have := hp.map (·.1)
  rwa [List.zipIdx_map_fst] at this
def Low (l r : List (α × Nat)) : Prop := ∀ x ∈ l, ∀ y ∈ r, x.2 < y.2
theorem TL.le {p q} (hi : p.2 < q.2) (h : lt q.1 p.1 = false) : TL lt p q := .inr ⟨h, hi⟩
theorem AL.ins {l r x} (h : RN lt) (hs : AL lt (l ++ r)) (hi : ∀ y ∈ l ++ r, y.2 < x.2) (hl : ∀ y, l.getLast? = some y → lt x.1 y.1 = false) (hr : ∀ y ∈ r, lt x.1 y.1 = true) : AL lt (l ++ x :: r) := by
  have hs' := List.pairwise_append.1 hs
  refine List.pairwise_append.2 ⟨hs'.1, List.pairwise_cons.2 ⟨fun y hy => .inl (hr y hy), hs'.2.1⟩, fun a ha b hb => ?_⟩
  rcases List.mem_cons.1 hb with g | g
  · subst g
    cases hg : l.getLast? with
    | none => rw [List.getLast?_eq_none_iff.1 hg] at ha; cases ha
    | some y =>
      have h1 : TL lt y b := TL.le (hi y (List.mem_append_left _ (List.mem_of_getLast? hg))) (hl y hg)
      obtain ⟨l', rfl⟩ : ∃ l', l = l' ++ [y] := by
        obtain ⟨hn, he⟩ := List.getLast?_eq_some_iff.1 hg
        exact ⟨hn, he⟩
      rcases List.mem_append.1 ha with k | k
      · exact TL.tr h ((List.pairwise_append.1 hs'.1).2.2 a k y (.head _)) h1
      rw [List.mem_singleton.1 k]; exact h1
  exact hs'.2.2 a ha b g
theorem AL.halves {L1 L2 R1 R2 M1 M2} (h : RN lt) (hL : AL lt (L1 ++ L2)) (hR : AL lt (R1 ++ R2)) (h1 : ∀ x y, L1.getLast? = some x → R2.head? = some y → TL lt x y) (h2 : ∀ x y, R1.getLast? = some x → L2.head? = some y → TL lt x y)
    (p1 : M1.Perm (L1 ++ R1)) (p2 : M2.Perm (L2 ++ R2)) (s1 : AL lt M1) (s2 : AL lt M2) : AL lt (M1 ++ M2) := by
  have cross : ∀ {A B C D : List (α × Nat)}, AL lt (A ++ B) → AL lt (C ++ D) → (∀ x y, A.getLast? = some x → D.head? = some y → TL lt x y) → ∀ x ∈ A, ∀ y ∈ D, TL lt x y := by
    intro A B C D hAB hCD hc x hx y hy
    have hA := (List.pairwise_append.1 hAB).1
    have hD := (List.pairwise_append.1 hCD).2.1
    cases hg : A.getLast? with
    | none => rw [List.getLast?_eq_none_iff.1 hg] at hx; cases hx
    | some a =>
      obtain ⟨A', rfl⟩ := List.getLast?_eq_some_iff.1 hg
      cases D with
      | nil => cases hy
      | cons d D' =>
        have had := hc a d hg rfl
        have hxd : TL lt x d := by
          rcases List.mem_append.1 hx with k | k
          · exact TL.tr h ((List.pairwise_append.1 hA).2.2 x k a (.head _)) had
          rw [List.mem_singleton.1 k]; exact had
        rcases List.mem_cons.1 hy with k | k
        · rw [k]; exact hxd
        exact TL.tr h hxd ((List.pairwise_cons.1 hD).1 y k)
  have hL' := List.pairwise_append.1 hL
  have hR' := List.pairwise_append.1 hR
  refine List.pairwise_append.2 ⟨s1, s2, fun x hx y hy => ?_⟩
  rcases List.mem_append.1 (p1.mem_iff.1 hx) with kx | kx <;> rcases List.mem_append.1 (p2.mem_iff.1 hy) with ky | ky
  · exact hL'.2.2 x kx y ky
  · exact cross hL hR h1 x kx y ky
  · exact cross hR hL h2 x kx y ky
  exact hR'.2.2 x kx y ky
theorem AL.mid {l r x} (h : RN lt) (hs : AL lt (l ++ r)) (hl : ∀ y, l.getLast? = some y → TL lt y x) (hr : ∀ y, r.head? = some y → TL lt x y) : AL lt (l ++ x :: r) := by
  have hs' := List.pairwise_append.1 hs
  have hxr : ∀ y ∈ r, TL lt x y := by
    intro y hy
    cases r with
    | nil => cases hy
    | cons d r' =>
      rcases List.mem_cons.1 hy with k | k
      · rw [k]; exact hr d rfl
      exact TL.tr h (hr d rfl) ((List.pairwise_cons.1 hs'.2.1).1 y k)
  refine List.pairwise_append.2 ⟨hs'.1, List.pairwise_cons.2 ⟨hxr, hs'.2.1⟩, fun a ha b hb => ?_⟩
  have hax : TL lt a x := by
    cases hg : l.getLast? with
    | none => rw [List.getLast?_eq_none_iff.1 hg] at ha; cases ha
    | some y =>
      obtain ⟨l', rfl⟩ := List.getLast?_eq_some_iff.1 hg
      rcases List.mem_append.1 ha with k | k
      · exact TL.tr h ((List.pairwise_append.1 hs'.1).2.2 a k y (.head _)) (hl y hg)
      rw [List.mem_singleton.1 k]; exact hl y hg
  rcases List.mem_cons.1 hb with g | g
  · rw [g]; exact hax
  exact TL.tr h hax (hxr b g)
theorem Low.mono {l r l' r' : List (α × Nat)} (h : Low l r) (h1 : ∀ x ∈ l', x ∈ l) (h2 : ∀ x ∈ r', x ∈ r) : Low l' r' := fun x hx y hy => h x (h1 x hx) y (h2 y hy)
structure Pos (lt : α → α → Bool) (x : α) (out : List α) (j k : Nat) : Prop where
  le : k ≤ j
  bef : ∀ y, (out.take k).getLast? = some y → lt x y = false
  aft : ∀ y ∈ (out.take j).drop k, lt x y = true
theorem Pos.nil x out : Pos lt x out 0 0 := ⟨Nat.le_refl _, fun y h => by simp at h, fun y h => by simp at h⟩
theorem Pos.next {x y out j k} (h : Pos lt x out j k) (hy : out[j]? = some y) : Pos lt x out (j + 1) (if lt x y = true then k else j + 1) := by
  split
  · rename_i hl
    refine ⟨Nat.le_succ_of_le h.le, h.bef, fun z hz => ?_⟩
    rw [List.take_add_one, hy, List.drop_append_of_le_length (by
      have := (List.getElem?_eq_some_iff.1 hy).1
      rw [List.length_take]; have := h.le; omega)] at hz
    rcases List.mem_append.1 hz with g | g
    · exact h.aft z g
    rw [show z = y by simpa using g]; exact hl
  rename_i hl
  refine ⟨Nat.le_refl _, fun z hz => ?_, fun z hz => ?_⟩
  · rw [List.take_add_one, hy] at hz
    rw [show z = y by simpa using hz.symm]
    simpa using hl
  rw [List.drop_eq_nil_of_le (by rw [List.length_take]; omega)] at hz; cases hz
theorem Stab.nil : Stab lt ([] : List α) [] := ⟨[], rfl, .refl _, .nil⟩
theorem b8K {d : List α} {y} (h : y ∈ d.zipIdx) : y.2 < d.length := by
  have := List.snd_lt_add_of_mem_zipIdx h
  omega
theorem Stab.ins {d out x k} (h : RN lt) (hs : Stab lt d out) (hp : Pos lt x out out.length k) : Stab lt (d ++ [x]) (out.take k ++ x :: out.drop k) := by
  obtain ⟨t, rfl, hp1, hs1⟩ := hs
  refine ⟨t.take k ++ (x, d.length) :: t.drop k, by simp, ?_, ?_⟩
  · rw [List.zipIdx_append]
    refine List.perm_middle.trans ?_
    rw [List.take_append_drop]
    refine (List.Perm.cons _ hp1).trans ?_
    simpa using (List.perm_append_comm (l₁ := [(x, d.length)]) (l₂ := d.zipIdx))
  refine AL.ins h (by rw [List.take_append_drop]; exact hs1) (fun y hy => ?_) (fun y hy => ?_) (fun y hy => ?_)
  · rw [List.take_append_drop] at hy
    exact b8K (hp1.mem_iff.1 hy)
  · refine hp.bef y.1 ?_
    rw [← List.map_take, List.getLast?_map, hy]; rfl
  refine hp.aft y.1 ?_
  rw [List.take_of_length_le (Nat.le_refl _), ← List.map_drop]
  exact List.mem_map_of_mem hy
section
variable {τ:Type}
theorem SL {A B : List τ} {x : τ} {n : Nat} (h : n = A.length) : (A ++ x :: B)[n]? = some x := by subst h; simp
theorem set_mid {A B : List τ} {x y : τ} {n : Nat} (h : n = A.length) : (A ++ x :: B).set n y = A ++ y :: B := by subst h; simp
theorem a3x {l : List τ} {k} (h : k < l.length) : ∃ A x B, l = A ++ x :: B ∧ A.length = k := ⟨l.take k, l[k], l.drop (k + 1), by rw [← List.drop_eq_getElem_cons h, List.take_append_drop], by rw [List.length_take]; omega⟩
theorem SN {l : List τ} {k} (h : k ≤ l.length) : ∃ A B, l = A ++ B ∧ A.length = k := ⟨l.take k, l.drop k, (List.take_append_drop k l).symm, by rw [List.length_take]; omega⟩
def WE (A X M Y B : List τ) (k : Nat) : List τ := A ++ (Y.take k ++ (X.drop k ++ (M ++ (X.take k ++ (Y.drop k ++ B)))))
theorem b7E (A X M Y B : List τ) k (h : X.length = Y.length) : (WE A X M Y B k).length = A.length + X.length + M.length + Y.length + B.length := by
  unfold WE; simp only [List.length_append, List.length_take, List.length_drop]; omega
theorem b5I {A X M Y B : List τ} {k} (hk : k < X.length) (h : X.length = Y.length) : ∃ x y, (WE A X M Y B k)[A.length + k]? = some x ∧ (WE A X M Y B k)[A.length + X.length + M.length + k]? = some y ∧
    ((WE A X M Y B k).set (A.length + k) y).set (A.length + X.length + M.length + k) x = WE A X M Y B (k + 1) := by
  obtain ⟨X1, x, X2, rfl, h1⟩ := a3x hk
  obtain ⟨Y1, y, Y2, rfl, h2⟩ := a3x (l := Y) (k := k) (by omega)
  have e : WE A (X1 ++ x :: X2) M (Y1 ++ y :: Y2) B k = (A ++ Y1) ++ x :: (X2 ++ M ++ X1 ++ y :: (Y2 ++ B)) := by
    unfold WE
    rw [List.take_left' h1, List.take_left' h2, List.drop_left' h1, List.drop_left' h2]
    simp
  have e2 : WE A (X1 ++ x :: X2) M (Y1 ++ y :: Y2) B (k + 1) = ((A ++ Y1) ++ y :: (X2 ++ M ++ X1)) ++ x :: (Y2 ++ B) := by
    unfold WE
    rw [List.append_cons X1, List.append_cons Y1, List.take_left' (l₁ := Y1 ++ [y]) (by simp [h2]), List.take_left' (l₁ := X1 ++ [x]) (by simp [h1]), List.drop_left' (l₁ := X1 ++ [x]) (by simp [h1]), List.drop_left' (l₁ := Y1 ++ [y]) (by simp [h2])]
    simp
  have hl : X2.length = Y2.length := by simp at h; omega
  refine ⟨x, y, ?_, ?_, ?_⟩
  · rw [e]; exact SL (by simp [h2])
  · rw [e, show (A ++ Y1) ++ x :: (X2 ++ M ++ X1 ++ y :: (Y2 ++ B)) = ((A ++ Y1) ++ x :: (X2 ++ M ++ X1)) ++ y :: (Y2 ++ B) by simp]
    exact SL (by simp; omega)
  rw [e, e2, set_mid (by simp [h2]), show (A ++ Y1) ++ y :: (X2 ++ M ++ X1 ++ y :: (Y2 ++ B)) = ((A ++ Y1) ++ y :: (X2 ++ M ++ X1)) ++ y :: (Y2 ++ B) by simp]
  exact set_mid (by simp; omega)
theorem b5U (A X M Y B : List τ) : WE A X M Y B 0 = A ++ (X ++ (M ++ (Y ++ B))) := by simp [WE]
theorem b8M {A X M Y B : List τ} {n} (h1 : X.length = n) (h2 : Y.length = n) : WE A X M Y B n = A ++ (Y ++ (M ++ (X ++ B))) := by
  unfold WE
  rw [List.take_of_length_le (by omega), List.take_of_length_le (by omega), List.drop_of_length_le (by omega), List.drop_of_length_le (by omega)]
  simp
def QY (A P : List τ) (x : τ) (Q R : List τ) : List τ := A ++ (P ++ x :: (Q ++ R))
theorem a7j (A P : List τ) (x : τ) (Q R : List τ) : (QY A P x Q R).length = A.length + P.length + 1 + Q.length + R.length := by
  unfold QY; simp only [List.length_append, List.length_cons]; omega
theorem b0G {A P : List τ} {x Q R} {j : Nat} (h : j = A.length + P.length) : (QY A P x Q R)[j]? = some x := by
  unfold QY
  rw [← List.append_assoc]
  exact SL (by simp [h])
theorem a5r {A P : List τ} {x y : τ} {Q R} {j : Nat} (h : j = A.length + P.length) : (QY A (P ++ [y]) x Q R)[j]? = some y ∧ ((QY A (P ++ [y]) x Q R).set (j + 1) y).set j x = QY A P x (y :: Q) R := by
  unfold QY
  rw [show A ++ ((P ++ [y]) ++ x :: (Q ++ R)) = (A ++ P) ++ y :: x :: (Q ++ R) by simp]
  refine ⟨SL (by simp [h]), ?_⟩
  rw [show (A ++ P) ++ y :: x :: (Q ++ R) = ((A ++ P) ++ [y]) ++ x :: (Q ++ R) by simp, set_mid (by simp [h, Nat.add_assoc]), show ((A ++ P) ++ [y]) ++ y :: (Q ++ R) = (A ++ P) ++ y :: y :: (Q ++ R) by simp, set_mid (by simp [h])]
  simp
end
section
variable {α:Type} {lt:α→α→Bool}
def Tags (l : List (α × Nat)) : Prop := l.Pairwise fun x y => x.2 < y.2
theorem Tags.low {l r : List (α × Nat)} (h : Tags (l ++ r)) : Low l r := (List.pairwise_append.1 h).2.2
theorem Low.perm {l r l' r' : List (α × Nat)} (h : Low l r) (h1 : l'.Perm l) (h2 : r'.Perm r) : Low l' r' := fun x hx y hy => h x (h1.mem_iff.1 hx) y (h2.mem_iff.1 hy)
structure VO (lt : α → α → Bool) (M : List (α × Nat)) (k : Nat) (P : List (α × Nat)) (x : α × Nat) (Q : List (α × Nat)) : Prop where
  at' : M[k]? = some x
  perm : (P ++ Q).Perm (M.take k)
  FD : AL lt (P ++ Q)
  up : ∀ y ∈ Q, lt x.1 y.1 = true
theorem VO.start {M S k x} (h : M[k]? = some x) (hp : S.Perm (M.take k)) (hs : AL lt S) : VO lt M k S x [] := ⟨h, by simpa using hp, by simpa using hs, fun y hy => by cases hy⟩
theorem VO.down {M P Q k x y} (h : VO lt M k (P ++ [y]) x Q) (hl : lt x.1 y.1 = true) : VO lt M k P x (y :: Q) :=
  ⟨h.at', by have := h.perm; simpa using this, by have := h.FD; simpa using this, fun z hz => (List.mem_cons.1 hz).elim (fun e => by rw [e]; exact hl) (h.up z)⟩
theorem VO.done (hsw : RN lt) {M P Q k x} (h : VO lt M k P x Q) (ht : Tags M) (hl : ∀ y, P.getLast? = some y → lt x.1 y.1 = false) : (P ++ x :: Q).Perm (M.take (k + 1)) ∧ AL lt (P ++ x :: Q) := by
  have hlt := (List.getElem?_eq_some_iff.1 h.at').1
  have he : M.take (k + 1) = M.take k ++ [x] := by rw [List.take_add_one, h.at']; rfl
  refine ⟨?_, AL.ins hsw h.FD (fun y hy => ?_) hl h.up⟩
  · rw [he]
    refine List.perm_middle.trans ?_
    exact (List.Perm.cons x h.perm).trans (List.perm_append_comm (l₁ := [x]))
  have hy' : y ∈ M.take k := h.perm.mem_iff.1 hy
  have hM : Tags (M.take (k + 1)) := ht.sublist (List.take_sublist _ _)
  rw [he] at hM
  exact hM.low y hy' x (by simp)
theorem AL.merge {L1 L2 R1 R2 M1 M2} (h : RN lt) (hL : AL lt (L1 ++ L2)) (hR : AL lt (R1 ++ R2)) (hlow : Low (L1 ++ L2) (R1 ++ R2)) (h1 : ∀ x y, L1.getLast? = some x → R2.head? = some y → lt y.1 x.1 = false) (h2 : ∀ x y, R1.getLast? = some x → L2.head? = some y → lt x.1 y.1 = true)
    (p1 : M1.Perm (L1 ++ R1)) (p2 : M2.Perm (L2 ++ R2)) (s1 : AL lt M1) (s2 : AL lt M2) : AL lt (M1 ++ M2) :=
  AL.halves h hL hR (fun x y hx hy => TL.le (hlow x (List.mem_append_left _ (List.mem_of_getLast? hx)) y (List.mem_append_right _ (List.mem_of_mem_head? hy))) (h1 x y hx hy)) (fun x y hx hy => .inl (h2 x y hx hy)) p1 p2 s1 s2
theorem a0u {L1 L2 R1 R2 M1 M2 : List (α × Nat)} (p1 : M1.Perm (L1 ++ R1)) (p2 : M2.Perm (L2 ++ R2)) : (M1 ++ M2).Perm ((L1 ++ L2) ++ (R1 ++ R2)) := by
  refine (p1.append p2).trans ?_
  rw [List.append_assoc, List.append_assoc]
  refine List.Perm.append_left L1 ?_
  rw [← List.append_assoc, ← List.append_assoc]
  exact List.Perm.append_right R2 List.perm_append_comm
theorem AL.b6k {x R1 R2} (h : RN lt) (hR : AL lt (R1 ++ R2)) (hlow : Low [x] (R1 ++ R2)) (h1 : ∀ y, R1.getLast? = some y → lt y.1 x.1 = true) (h2 : ∀ y, R2.head? = some y → lt y.1 x.1 = false) : AL lt (R1 ++ x :: R2) :=
  AL.mid h hR (fun y hy => .inl (h1 y hy)) (fun y hy => TL.le (hlow x (.head _) y (List.mem_append_right _ (List.mem_of_mem_head? hy))) (h2 y hy))
theorem AL.b2E {x L1 L2} (h : RN lt) (hL : AL lt (L1 ++ L2)) (hlow : Low (L1 ++ L2) [x]) (h1 : ∀ y, L1.getLast? = some y → lt x.1 y.1 = false) (h2 : ∀ y, L2.head? = some y → lt x.1 y.1 = true) : AL lt (L1 ++ x :: L2) :=
  AL.mid h hL (fun y hy => TL.le (hlow y (List.mem_append_left _ (List.mem_of_getLast? hy)) x (.head _)) (h1 y hy)) (fun y hy => .inl (h2 y hy))
structure Bk (lt : α → α → Bool) (D T : List (α × Nat)) : Prop where
  perm : D.Perm T
  FD : AL lt D
theorem Bk.len {D T} (h : Bk lt D T) : D.length = T.length := h.perm.length_eq
inductive Full (lt : α → α → Bool) (z : Nat) : List (α × Nat) → List (α × Nat) → Prop where
  | nil : Full lt z [] []
  | cons {D1 T1 D T : List (α × Nat)} : D1.length = z → Bk lt D1 T1 → Full lt z D T → Full lt z (D1 ++ D) (T1 ++ T)
inductive Chunks (lt : α → α → Bool) (z : Nat) : List (α × Nat) → List (α × Nat) → Prop where
  | last {D T : List (α × Nat)} : D.length ≤ z → Bk lt D T → Chunks lt z D T
  | cons {D1 T1 D T : List (α × Nat)} : D1.length = z → Bk lt D1 T1 → Chunks lt z D T → Chunks lt z (D1 ++ D) (T1 ++ T)
theorem Full.snoc {z P TP D T} (h : Full lt z P TP) (hz : D.length = z) (hb : Bk lt D T) : Full lt z (P ++ D) (TP ++ T) := by
  induction h with
  | nil => have := Full.cons hz hb Full.nil; simpa using this
  | cons h1 h2 _ ih => rw [List.append_assoc, List.append_assoc]; exact .cons h1 h2 ih
theorem Full.app {z P TP D T} (h : Full lt z P TP) (hc : Chunks lt z D T) : Chunks lt z (P ++ D) (TP ++ T) := by
  induction h with
  | nil => exact hc
  | cons h1 h2 _ ih => rw [List.append_assoc, List.append_assoc]; exact .cons h1 h2 ih
theorem Chunks.perm {z D T} (h : Chunks lt z D T) : D.Perm T := by
  induction h with
  | last _ h => exact h.perm
  | cons _ h _ ih => exact h.perm.append ih
theorem Full.perm {z D T} (h : Full lt z D T) : D.Perm T := by
  induction h with
  | nil => exact .refl _
  | cons _ h _ ih => exact h.perm.append ih
theorem Chunks.first {z D T} (h : Chunks lt z D T) (hz : z ≤ D.length) : ∃ D1 T1 D' T', D = D1 ++ D' ∧ T = T1 ++ T' ∧ D1.length = z ∧ Bk lt D1 T1 ∧ Chunks lt z D' T' := by
  cases h with
  | last h1 h2 => exact ⟨D, T, [], [], by simp, by simp, by omega, h2, .last (Nat.zero_le _) ⟨.refl _, .nil⟩⟩
  | cons h1 h2 h3 => exact ⟨_, _, _, _, rfl, rfl, h1, h2, h3⟩
theorem Chunks.all {z D T} (h : Chunks lt z D T) (hz : D.length ≤ z) : Bk lt D T := by
  induction h with
  | last _ h => exact h
  | @cons D1 T1 D T h1 h2 h3 ih =>
    rw [List.length_append] at hz
    have hD : D = [] := List.length_eq_zero_iff.1 (by omega)
    have hT : T = [] := List.length_eq_zero_iff.1 (by have := h3.perm.length_eq; rw [hD] at this; simpa using this.symm)
    rw [hD, hT, List.append_nil, List.append_nil]; exact h2
theorem Bk.low {D1 D2 T1 T2 T} (h1 : Bk lt D1 T1) (h2 : Bk lt D2 T2) (ht : Tags (T1 ++ (T2 ++ T))) : Low D1 D2 :=
  Low.perm (Low.mono ht.low (fun _ h => h) (fun _ h => List.mem_append_left _ h)) h1.perm h2.perm
theorem Tags.tl {T1 T : List (α × Nat)} (h : Tags (T1 ++ T)) : Tags T := (List.pairwise_append.1 h).2.1
theorem Bk.cat {D1 D2 T1 T2 M} (h1 : Bk lt D1 T1) (h2 : Bk lt D2 T2) (hp : M.Perm (D1 ++ D2)) (hs : AL lt M) : Bk lt M (T1 ++ T2) := ⟨hp.trans (h1.perm.append h2.perm), hs⟩
theorem b6N (l : List α) k : Tags (l.zipIdx k) := by
  induction l generalizing k with
  | nil => exact .nil
  | cons a r ih =>
    rw [List.zipIdx_cons]
    refine List.pairwise_cons.2 ⟨fun y hy => ?_, ih _⟩
    have := List.le_snd_of_mem_zipIdx hy
    dsimp only; omega
theorem Bk.c0Q {l D} (h : Bk lt D l.zipIdx) : Stab lt l (D.map (·.1)) := ⟨D, rfl, h.perm, h.FD⟩
