/-
  Own texts on the laws of the seat, joined: the logic, and contracts of functions. Conditions: none.
-/
import Derived.Test.YtekmeaoblpfnpaaGreatDoorNmS
import Derived.Test.YtekmeaoblpfnpaaGreatDoorPS15
import Derived.Lib.LaidU8
set_option linter.all false
set_option maxRecDepth 100000
set_option maxHeartbeats 40000000
section
namespace Go.Sx
open Go
theorem jO.lend {P f args I B H} {post : Ending → Heap → HL → Prop} (h : jO P f args (yY B I) H post) :
    jO P f args I (B ++ H) (fun e I' H' => ∃ J K, post e J K ∧ H' = B ++ K ∧ I' = hless B J ∧ ∀ p ∈ B, J p.1 = some p.2) := by
  refine ⟨h.1, fun w hw => ?_⟩
  obtain ⟨r1, r2, r3, r4⟩ := hw
  rw [List.map_append, List.nodup_append] at r3
  obtain ⟨r3, r3', r5⟩ := r3
  have r4B : ∀ p ∈ B, I p.1 = none := fun p hp => r4 p (List.mem_append_left _ hp)
  have hr : Ready (yY B I) H w := by
    unfold Ready
    refine ⟨fun b o hb => ?_, fun p hp => r2 p (List.mem_append_right _ hp), r3', fun p hp => ?_⟩
    · by_cases hm : b ∈ B.map (·.1)
      · obtain ⟨p, hp, rfl⟩ := List.mem_map.1 hm
        rw [rQ r3 p hp] at hb; cases hb
        exact r2 p (List.mem_append_left _ hp)
      rw [sJ hm] at hb; exact r1 b o hb
    rw [sJ fun hm => r5 _ hm _ (List.mem_map_of_mem hp) rfl]
    exact r4 p (List.mem_append_right _ hp)
  refine (h.2 w hr).mono ?_
  rintro e w' ⟨J, K, hs, hp⟩
  have hJ : ∀ p ∈ B, J p.1 = some p.2 := fun p hp => hs.le _ _ (rQ r3 p hp)
  have hKB : ∀ q ∈ K, q.1 ∉ B.map (·.1) := fun q hq hm => by
    obtain ⟨p, hp, he⟩ := List.mem_map.1 hm
    have := hs.dis q hq
    rw [← he, hJ p hp] at this; cases this
  refine ⟨hless B J, B ++ K, ⟨hs.os, hs.tape, hs.output, hs.size, fun b hb hn => hs.frm b hb (fun hm => hn (by rw [List.map_append]; exact List.mem_append_right _ hm)), fun b o hb => ?_, fun p hp => ?_, ?_, fun p hp => ?_, fun p hp => ?_, fun b hb => ?_, fun b o hb => ?_, QT⟩, J, K, hp, rfl, rfl, hJ⟩
  · unfold hless at hb
    split at hb
    · cases hb
    exact hs.sub b o hb
  · rcases List.mem_append.1 hp with g | g
    · exact hs.sub _ _ (hJ p g)
    exact hs.own p g
  · rw [List.map_append, List.nodup_append]
    refine ⟨r3, hs.nodup, fun x hx y hy he => ?_⟩
    obtain ⟨q, hq, rfl⟩ := List.mem_map.1 hy
    exact hKB q hq (he ▸ hx)
  · unfold hless
    split
    · rfl
    rename_i hm
    rcases List.mem_append.1 hp with g | g
    · exact absurd (List.mem_map_of_mem g) hm
    exact hs.dis p g
  · rcases List.mem_append.1 hp with g | g
    · exact .inl (by rw [List.map_append]; exact List.mem_append_left _ (List.mem_map_of_mem g))
    rcases hs.new p g with k | k
    · exact .inl (by rw [List.map_append]; exact List.mem_append_right _ k)
    exact .inr k
  · unfold hless
    split
    · rename_i hm
      obtain ⟨p, hp, rfl⟩ := List.mem_map.1 hm
      exact (r4B p hp).symm
    rename_i hm
    rw [hs.ifr b hb, sJ hm]
  have hm : b ∉ B.map (·.1) := fun hm => by
    obtain ⟨p, hp, rfl⟩ := List.mem_map.1 hm
    rw [r4B p hp] at hb; cases hb
  rw [KE hm]
  exact hs.le b o (by rw [sJ hm]; exact hb)
theorem rC.hless {α : Type} {T : TypeId} {f : α → List Value} {B : HL} {J : Heap} {l : List α} {v : Value} (h : rC T f J l v) (hB : ∀ p ∈ B, J p.1 = some p.2) (hT : ∀ p ∈ B, ∀ cs, p.2 ≠ jM T cs) : rC T f (hless B J) l v :=
  let ⟨p, c, h1, h2, h3⟩ := h
  ⟨p, c, h1, h2, fun hn => let ⟨b, sp, h4, h5⟩ := h3 hn
    ⟨b, sp, h4, by
      rw [KE fun hm => by
        obtain ⟨q, hq, he⟩ := List.mem_map.1 hm
        have := hB q hq
        rw [he, h5] at this
        exact hT q hq _ (Option.some.inj this).symm]
      exact h5⟩⟩
theorem jU.b7C {α : Type} {f : α → List Value} {b0 : Nat} {T} {u : Value} {J l v} (hf : ∀ x, 2 ≤ (f x).length) (h : jU f J l v) (hB : J b0 = some (jM T [u])) : jU f (hless [(b0, jM T [u])] J) l v :=
  let ⟨p, c, h1, h2, h3⟩ := h
  ⟨p, c, h1, h2, fun hn => let ⟨b, o, cs, T2, fr, sp, h4, h5, h6⟩ := h3 hn
    ⟨b, o, cs, T2, fr, sp, h4, by
      rw [KE fun hm => by
        have hb : b = b0 := by simpa using hm
        subst hb
        rw [hB] at h5
        have hc : [u] = cs := by
          have := Option.some.inj h5
          unfold jM at this
          injection this with e1 e2
          simpa using congrArg Array.toList e1
        subst hc
        cases l with
        | nil => exact hn rfl
        | cons a r =>
          have h7 := congrArg List.length h6
          have h8 := hf a
          rw [List.length_drop, List.flatMap_cons, List.length_append, List.length_append] at h7
          simp only [List.length_cons, List.length_nil] at h7
          omega]
      exact h5, h6⟩⟩
end Go.Sx
namespace Go.Proofs.YtekmeaoblpfnpaaGreatDoor
open Go Go.Sx
theorem b6r ib o : ∀ p ∈ yF ib o, ∀ cs, p.2 ≠ jM 54 cs := by
  intro p hp cs he
  have hset : ∀ (b : Nat) (l : ML Ix.Pl) (c : Nat) (N : vY Ix.Pl Ix.Rec), p ∉ setH b l c N := by
    intro b l c N h
    rcases List.mem_cons.1 h with g | g
    · rw [g] at he; cases he
    obtain ⟨e, _, rfl⟩ := List.mem_map.1 g
    cases he
  cases o with
  | none =>
    have hp : p = (ib, jM 114 [.map none, .map none, .map none]) := by simpa [yF] using hp
    rw [hp] at he
    unfold jM at he
    injection he with _ h2
    exact absurd h2 (by decide)
  | some s =>
    have hp : p ∈ PI ib s := hp
    rcases List.mem_cons.1 hp with g | g
    · rw [g] at he; cases he
    rcases List.mem_cons.1 g with g | g
    · rw [g] at he
      unfold jM at he
      injection he with _ h2
      exact absurd h2 (by decide)
    exact (List.mem_append.1 g).elim (hset _ _ _ _) (hset _ _ _ _)
theorem vN.hless {B : HL} {J : Heap} {most : Int} {fs : List (List Ix.Rec)} {o : So} (h : vN J most fs o) (hB : ∀ p ∈ B, J p.1 = some p.2) (hT : ∀ p ∈ B, ∀ cs, p.2 ≠ jM 54 cs) : vN (hless B J) most fs o := by
  cases o with
  | none => exact h
  | some s =>
    obtain ⟨b, m, k⟩ := s
    have h : sN J m k most fs := h
    exact ⟨h.1, h.2.1, fun n r hn => let ⟨w, h1, h2⟩ := h.2.2 n r hn; ⟨w, h1, h2.hless hB hT⟩⟩
structure SSt where
  o : Option Ist
  L : Ix.Ix
  es : List nM
  w : Value
  fs : List (List Ix.Rec)
  so : So
  gs : List (List Ix.Rec)
  ks : List RS
  ro : Ro
def qC (ib rb sb rsb : Nat) (most : Int) (s : SSt) : HL := yF ib s.o ++ ((rb, jM 50 [s.w]) :: (qH sb most s.fs s.so ++ yG rsb most s.gs s.ks s.ro))
structure zM (I : Heap) (most : Int) (s : SSt) : Prop where
  ix : vI I s.o s.L
  fewL : Ix.QL s.L
  en : nO I s.es s.w
  IV : ∀ e ∈ s.es, yE e.fs
  len : s.es.length ≤ 20
  fewE : Ix.QL (s.es.map jQ)
  oG : Ix.nK (s.es.map jQ)
  so : vN I most s.fs s.so
  fsl : s.fs.length ≤ 1000
  fbig : ∀ r ∈ s.fs, r.length ≤ 1000
  rk : rV I most s.gs s.ks
  ro : a0K s.ks s.ro
  gsl : s.gs.length ≤ 1000
  gbig : ∀ r ∈ s.gs, r.length ≤ 1000
theorem zM.mono {I I' most s} (h : zM I most s) (hle : Le I I') : zM I' most s :=
  ⟨h.ix.mono hle, h.fewL, h.en.mono hle, h.IV, h.len, h.fewE, h.oG, h.so.mono hle, h.fsl, h.fbig, h.rk.mono hle, h.ro, h.gsl, h.gbig⟩
variable (ib rb sb rsb:Nat) (most:Int) (s:SSt)
theorem b8p : (yF ib s.o ++ ((rb, jM 50 [s.w]) :: (qH sb most s.fs s.so ++ yG rsb most s.gs s.ks s.ro))).Perm (qC ib rb sb rsb most s) := .refl _
theorem a0U : ((yF ib s.o ++ qH sb most s.fs s.so) ++ ((rb, jM 50 [s.w]) :: yG rsb most s.gs s.ks s.ro)).Perm (qC ib rb sb rsb most s) := by
  unfold qC
  rw [List.append_assoc]
  exact List.Perm.append_left _ List.perm_middle
theorem a4z : (([(rb, jM 50 [s.w])] ++ yG rsb most s.gs s.ks s.ro) ++ (yF ib s.o ++ qH sb most s.fs s.so)).Perm (qC ib rb sb rsb most s) := by
  unfold qC
  refine (List.perm_append_comm).trans ?_
  rw [List.append_assoc]
  refine List.Perm.append_left _ ?_
  exact List.perm_middle
theorem b6P : (qH sb most s.fs s.so ++ (yF ib s.o ++ ((rb, jM 50 [s.w]) :: yG rsb most s.gs s.ks s.ro))).Perm (qC ib rb sb rsb most s) := by
  refine List.Perm.trans ?_ (a0U ib rb sb rsb most s)
  rw [← List.append_assoc]
  exact List.Perm.append_right _ List.perm_append_comm
theorem b3U : (yG rsb most s.gs s.ks s.ro ++ (yF ib s.o ++ ((rb, jM 50 [s.w]) :: qH sb most s.fs s.so))).Perm (qC ib rb sb rsb most s) := by
  refine (List.perm_append_comm).trans ?_
  unfold qC
  rw [List.append_assoc]
  exact .refl _
theorem a6O : ([(rb, jM 50 [s.w])] ++ (yF ib s.o ++ (qH sb most s.fs s.so ++ yG rsb most s.gs s.ks s.ro))).Perm (qC ib rb sb rsb most s) := by
  unfold qC
  rw [List.singleton_append]
  exact List.perm_middle.symm
variable {ib rb sb rsb most s}
theorem jO.part {P f args I H A R} {post post' : Ending → Heap → HL → Prop} (hp : (A ++ R).Perm H) (h : jO P f args I A post) (hq : ∀ e I' A', Le I I' → post e I' A' → ∃ K, K.Perm (A' ++ R) ∧ post' e I' K) : jO P f args I H post' :=
  jO.leave (jO.perm hp (jO.frame R h)) fun e I' _ hle ⟨A', he, hp'⟩ => by
    obtain ⟨K, hK, hq'⟩ := hq e I' A' hle hp'
    exact ⟨K, [], by rw [List.append_nil, he]; exact hK, hq'⟩
theorem b2Z {q p c I} (hsz : q.size ≤ 1000000) (hwd : q.wide ≤ 10000000) (hmost : most ≤ 9223372036854775807) (hR : Cq.right q = true) (hfl : s.fs.length ≤ 100) (hps : PS I q.ps p) (hT : uD I) (h : zM I most s) :
    jO Tryz.prog 36 [ptr sb 0, ptr ib 0, .agg (kP q p c).toArray] I (qC ib rb sb rsb most s) (fun e I' H' => ∃ r so', e = .returned (.tuple #[i64 ((s.fs.length : Int) + 1), i64 (r.length : Int), i64 0]) ∧ Ix.yU s.L q r ∧ zM I' most { s with fs := s.fs ++ [r], so := so' } ∧ H' = qC ib rb sb rsb most { s with fs := s.fs ++ [r], so := so' }) :=
  jO.UC (Enters.of Tryz.func36 (by decide) rfl) fun hn hd => by
    have hd' : ∀ p ∈ yF ib s.o, I p.1 = none := fun p hp => hd p (List.mem_append_left _ hp)
    have hle := DN hd'
    have hn' : ((yF ib s.o).map (·.1)).Nodup := by
      unfold qC at hn
      rw [List.map_append, List.nodup_append] at hn
      exact hn.1
    refine jO.part (a0U ib rb sb rsb most s) (jO.lend (b6A sb (ptr ib 0) s.L q p c most s.fs (by omega) hwd s.so hmost (by omega) hR (a6L h.fewL) _ (hps.mono hle) (.inr ⟨ib, rfl, s.o, h.ix.mono hle, rQ hn'⟩) (hT.mono hle) (h.so.mono hle))) ?_
    rintro e I' A' hle' ⟨J, K, ⟨r, so', he, hrun, hso, rfl⟩, rfl, rfl, hB⟩
    have h' := h.mono hle'
    have hrl : r.length ≤ 1000 := mY hrun.len (by have := h.fewL.1; omega)
    exact ⟨_, (a0U ib rb sb rsb most { s with fs := s.fs ++ [r], so := so' }).symm, r, so', he, hrun, ⟨h'.ix, h.fewL, h'.en, h.IV, h.len, h.fewE, h.oG, hso.hless hB (b6r ib s.o), by rw [List.length_append]; simp only [List.length_cons, List.length_nil]; omega, fun x hx => (List.mem_append.1 hx).elim (h.fbig x) fun g => by rw [List.mem_singleton.1 g]; exact hrl, h'.rk, h.ro, h.gsl, h.gbig⟩, rfl⟩
theorem b3k {q p c I} (hsz : q.size ≤ 1000000) (hwd : q.wide ≤ 10000000) (hmost : most ≤ 9223372036854775807) (hR : Cq.right q = true) (hfl : s.gs.length ≤ 100) (hps : PS I q.ps p) (h : zM I most s) :
    jO Tryz.prog 39 [ptr rsb 0, ptr rb 0, .agg (kP q p c).toArray] I (qC ib rb sb rsb most s) (fun e I' H' => ∃ r ks' ro', e = .returned (.tuple #[i64 ((s.gs.length : Int) + 1), i64 (r.length : Int), i64 0]) ∧ Ix.yU (s.es.map jQ) q r ∧ zM I' most { s with gs := s.gs ++ [r], ks := ks', ro := ro' } ∧ H' = qC ib rb sb rsb most { s with gs := s.gs ++ [r], ks := ks', ro := ro' }) :=
  jO.UC (Enters.of Tryz.func39 (by decide) rfl) fun hn hd => by
    have hd' : ∀ p ∈ [(rb, jM 50 [s.w])], I p.1 = none := fun p hp => hd p (List.mem_append_right _ (by rw [List.mem_singleton.1 hp]; exact .head _))
    have hle := DN hd'
    have hkl : s.ks.length ≤ 1000000 := by
      have h1 := congrArg List.length h.rk.1
      unfold sK at h1
      rw [List.length_map, List.length_drop, JH] at h1
      have := h.gsl; omega
    refine jO.part (a4z ib rb sb rsb most s) (jO.lend (b3Q rsb rb s.es q p c hsz hwd most s.gs s.ks s.ro hmost (by omega) hkl hR h.fewE (a6L h.fewE) _ (hps.mono hle) (AO.of (rQ (by simp) (rb, _) (.head _)) (h.en.mono hle) (by have := h.len; omega) h.IV h.oG) (h.rk.mono hle) h.ro)) ?_
    rintro e I' A' hle' ⟨J, K, ⟨r, ks', ro', he, hrun, hrk, hro, rfl⟩, rfl, rfl, hB⟩
    have h' := h.mono hle'
    have hrl : r.length ≤ 1000 := mY hrun.len (by have := h.fewE.1; omega)
    exact ⟨_, (a4z ib rb sb rsb most { s with gs := s.gs ++ [r], ks := ks', ro := ro' }).symm, r, ks', ro', he, hrun, ⟨h'.ix, h.fewL, h'.en, h.IV, h.len, h.fewE, h.oG, h'.so, h.fsl, h.fbig, ⟨hrk.1, fun x hx => (hrk.2 x hx).b7C (fun y => Nat.le_refl 2) (hB _ (.head _))⟩, hro, by rw [List.length_append]; simp only [List.length_cons, List.length_nil]; omega, fun x hx => (List.mem_append.1 hx).elim (h.gbig x) fun g => by rw [List.mem_singleton.1 g]; exact hrl⟩, rfl⟩
theorem b3b n fr many {I} (h : zM I most s) :
    jO Tryz.prog 37 [ptr sb 0, i64 n, i64 fr, i64 many] I (qC ib rb sb rsb most s) (fun e _ H' => ∃ w K, e = .returned (.tuple #[w, i64 (nG most s.fs n fr many).2]) ∧ tJ (nG most s.fs n fr many).1 w K ∧ H' = K ++ qC ib rb sb rsb most s) :=
  jO.UC (Enters.of Tryz.func37 (by decide) rfl) fun hn hd => by
    have hp := b6P ib rb sb rsb most s
    have hd' : ∀ p ∈ qH sb most s.fs s.so, I p.1 = none := fun p h => hd p (hp.mem_iff.1 (List.mem_append_left _ h))
    have hn' : ((qH sb most s.fs s.so).map (·.1)).Nodup := by
      have h9 := ((hp.map (·.1)).nodup_iff).2 hn
      rw [List.map_append, List.nodup_append] at h9
      exact h9.1
    refine jO.part hp (jO.borrow (b5o sb most s.fs n fr many (fun r hr => mY (h.fbig r hr) (by decide)) _ ⟨s.so, h.so.mono (DN hd'), rQ hn'⟩)) ?_
    rintro e I' A' _ ⟨_, K, ⟨w, he, ho⟩, rfl, _, _⟩
    refine ⟨K ++ qC ib rb sb rsb most s, ?_, w, K, he, ho, rfl⟩
    refine (List.Perm.append_left K hp.symm).trans ?_
    rw [← List.append_assoc]
    exact List.Perm.append_right _ List.perm_append_comm
theorem b3F n fr many (hfr : fr ≤ 9223372036854775807) {I} (h : zM I most s) :
    jO Tryz.prog 41 [ptr rsb 0, i64 n, i64 fr, i64 many] I (qC ib rb sb rsb most s) (fun e _ H' => ∃ w K, e = .returned (.tuple #[w, i64 (nG most s.gs n fr many).2]) ∧ tJ (nG most s.gs n fr many).1 w K ∧ H' = K ++ qC ib rb sb rsb most s) :=
  jO.UC (Enters.of Tryz.func41 (by decide) rfl) fun hn hd => by
    have hp := b3U ib rb sb rsb most s
    have hd' : ∀ p ∈ yG rsb most s.gs s.ks s.ro, I p.1 = none := fun p h => hd p (hp.mem_iff.1 (List.mem_append_left _ h))
    have hn' : ((yG rsb most s.gs s.ks s.ro).map (·.1)).Nodup := by
      have h9 := ((hp.map (·.1)).nodup_iff).2 hn
      rw [List.map_append, List.nodup_append] at h9
      exact h9.1
    refine jO.part hp (jO.borrow (b4O rsb most s.gs n fr many (by have := h.gsl; omega) (fun r hr => mY (h.gbig r hr) (by decide)) hfr _ s.ks s.ro h.ro (h.rk.mono (DN hd')) (rQ hn'))) ?_
    rintro e I' A' _ ⟨_, K, ⟨w, he, ho⟩, rfl, _, _⟩
    refine ⟨K ++ qC ib rb sb rsb most s, ?_, w, K, he, ho, rfl⟩
    refine (List.Perm.append_left K hp.symm).trans ?_
    rw [← List.append_assoc]
    exact List.Perm.append_right _ List.perm_append_comm
theorem a4x {L} (h : Ix.QL L) t : Ix.QL (Ix.yV t L) := by
  unfold Ix.yV
  exact ⟨mY (List.length_filter_le _ _) h.1, fun e he => h.2 e (List.mem_filter.1 he).1⟩
theorem b4L t {I} (h : zM I most s) :
    jO Tryz.prog 43 [ptr ib 0, jZ t] I (qC ib rb sb rsb most s) (fun e I' H' => ∃ o', e = .returned (.tuple #[]) ∧ zM I' most { s with o := o', L := Ix.yV t s.L } ∧ H' = qC ib rb sb rsb most { s with o := o', L := Ix.yV t s.L }) :=
  jO.part (b8p ib rb sb rsb most s) (a6U ib s.o s.L t I h.ix) fun e I' A' hle' ⟨o', he, hok, hA⟩ => by
    have h' := h.mono hle'
    subst hA
    exact ⟨_, .refl _, o', he, ⟨hok, a4x h.fewL t, h'.en, h.IV, h.len, h.fewE, h.oG, h'.so, h.fsl, h.fbig, h'.rk, h.ro, h.gsl, h.gbig⟩, rfl⟩
theorem b4K t {I} (h : zM I most s) :
    jO Tryz.prog 44 [ptr rb 0, jZ t] I (qC ib rb sb rsb most s) (fun e I' H' => ∃ es' w', e = .returned (.tuple #[]) ∧ es'.map jQ = Ix.yV t (s.es.map jQ) ∧ zM I' most { s with es := es', w := w' } ∧ H' = qC ib rb sb rsb most { s with es := es', w := w' }) :=
  jO.part (a6O ib rb sb rsb most s) (a4v rb s.w s.es t (by have := h.len; omega) I h.en) fun e I' A' hle' ⟨w', he, hE, hA⟩ => by
    have h' := h.mono hle'
    have hd := NZ t s.es h.oG
    subst hA
    refine ⟨_, (a6O ib rb sb rsb most { s with es := rD s.es t, w := w' }).symm, rD s.es t, w', he, hd, ⟨h'.ix, h.fewL, hE, fun x hx => h.IV x (QX hx), mY (a2d _ _) h.len, ?_, ?_, h'.so, h.fsl, h.fbig, h'.rk, h.ro, h.gsl, h.gbig⟩, rfl⟩
    · show Ix.QL ((rD s.es t).map jQ)
      rw [hd]; exact a4x h.fewE t
    show Ix.nK ((rD s.es t).map jQ)
    rw [hd]
    exact h.oG.sublist List.filter_sublist
end Go.Proofs.YtekmeaoblpfnpaaGreatDoor
end
section
namespace Go.Proofs.YtekmeaoblpfnpaaGreatDoor
open _root_.Go.Proofs.Tryz
open Go Go.Sx
structure Call where
  kind : Int
  set : Int
  frm : Int
  many : Int
  l : List Int
  v : Value
def NU (c : Call) : List Value := [i64 c.kind, i64 c.set, i64 c.frm, i64 c.many, c.v]
theorem b0l c : (NU c).length = 5 := rfl
def TT (I : Heap) (cs : List Call) (v : Value) : Prop := jU NU I cs v ∧ ∀ c ∈ cs, JK I c.l c.v
theorem TT.mono {I I' cs v} (h : TT I cs v) (hle : Le I I') : TT I' cs v := ⟨h.1.mono hle, fun c hc => (h.2 c hc).mono hle⟩
theorem b3T {I c} (h : JK I c.l c.v) : (NU c).all Value.oneCell' = true := by
  obtain ⟨p, k, hv⟩ := jU.len h
  unfold NU
  rw [hv]; rfl
theorem xI.at {α : Type} {T : TypeId} {f : α → List Value} {l : List α} {v : Value} {H : HL} {J : Heap} (h : xI T f l v H) (hJ : ∀ p ∈ H, J p.1 = some p.2) : rC T f J l v := by
  rcases h with ⟨rfl, rfl, rfl⟩ | ⟨b, c, sp, rfl, hc, rfl⟩
  · exact rC.nil
  exact ⟨_, c, rfl, hc, fun _ => ⟨b, sp, rfl, hJ _ (.head _)⟩⟩
def b8b (p : Int) : Int := IntKind.i64.wrap ((BitVec.ofInt IntKind.i64.bits p &&& BitVec.ofInt IntKind.i64.bits 7).toNat : Int)
def b2H (n : Nat) (v : Value) (H : HL) : Prop := (n = 0 ∧ v = .slice none 0 0 ∧ H = []) ∨ ∃ b c cs, v = .slice (some ⟨b, 0, none⟩) n c ∧ n * 2 ≤ cs.length ∧ H = [(b, jM 54 cs)]
theorem b5b {l v H} (h : tJ l v H) : b2H l.length v H := by
  rcases h with ⟨rfl, rfl, rfl⟩ | ⟨b, c, sp, rfl, hc, rfl⟩
  · exact .inl ⟨rfl, rfl, rfl⟩
  refine .inr ⟨b, c, _, rfl, ?_, rfl⟩
  rw [List.length_append, show (l.flatMap recC).length = l.length * 2 from by
    clear hc
    induction l with
    | nil => rfl
    | cons a r ih => rw [List.flatMap_cons, List.length_append, ih, jY, List.length_cons]; omega]
  omega
theorem b1Z {n v H} (h : b2H n v H) : ∃ p c, v = .slice p n c := by
  rcases h with ⟨rfl, rfl, _⟩ | ⟨b, c, _, rfl, _⟩
  · exact ⟨_, _, rfl⟩
  exact ⟨_, _, rfl⟩
theorem b3o ib rb sb rsb most o L es w : (qC ib rb sb rsb most ⟨o, L, es, w, [], none, [], [], none⟩).Perm (yG rsb most [] [] none ++ (qH sb most [] none ++ ((rb, jM 50 [w]) :: (yF ib o ++ [])))) := by
  unfold qC
  rw [List.append_nil]
  refine List.perm_append_comm.trans ?_
  rw [← List.append_assoc (yG _ _ _ _ _)]
  exact (List.Perm.cons _ (List.Perm.append_right _ List.perm_append_comm)).trans List.perm_middle.symm
theorem a4h (a : Int) {n} (h : 0 < n) : -n < a.tmod n ∧ a.tmod n < n := by
  refine ⟨?_, Int.tmod_lt_of_pos a h⟩
  have h2 := Int.tmod_lt_of_pos (-a) h
  rw [Int.neg_tmod] at h2
  omega
theorem b4E {most fs n fr many m} (h : ∀ r ∈ fs, r.length ≤ m) : (nG most fs n fr many).1.length ≤ m := by
  unfold nG
  split
  · exact Nat.zero_le _
  rename_i r hr
  split
  · exact Nat.zero_le _
  dsimp only
  rw [List.length_take, List.length_drop]
  have := h r (PO hr)
  omega
abbrev YH (q : Cq.Qn) : Cq.Qn := ⟨q.k, [120], q.r, q.t, q.ps⟩
theorem a1M q : Cq.right (YH q) = false := by
  have h : Cq.form (YH q) = false := by
    show Cq.KD q.k [120] q.r q.t q.ps.len q.ps.forms = false
    unfold Cq.KD
    split
    · rw [show Cq.indexes.contains [120] = false from by decide]; rfl
    exact if_pos (.inr (.inr (.inl (by decide))))
  unfold Cq.right
  rw [h]; rfl
theorem a4l q : (YH q).size = q.size := rfl
theorem b3f q : (YH q).wide ≤ q.wide + 1 := by
  unfold Cq.Qn.wide YH
  simp only [List.length_cons, List.length_nil]; omega
theorem a2X {α : Type} (A G G' : List α) : ((A ++ G) ++ G').Perm ((A ++ G') ++ G) := by
  rw [List.append_assoc, List.append_assoc]
  exact List.Perm.append_left A List.perm_append_comm
theorem b0D {α : Type} (A K G K2 : List α) : (K2 ++ ((A ++ K) ++ G)).Perm ((A ++ K) ++ (K2 ++ G)) := by
  rw [← List.append_assoc K2, ← List.append_assoc (A ++ K)]
  exact List.Perm.append_right G List.perm_append_comm
theorem a3a xs v (hao : ZG xs) cs u (hcn : ∀ c ∈ cs, c.l.length ≤ 1000000000000) most I (hT : uD I) (hA : OB I xs v) (hC : TT I cs u) : Pure Tryz.prog 9 [v, u, i64 most] I (.bool true) := by
 refine jO.toPure ?_
 have hp20 := b2Q xs
 have hmr := a4h most (n := 6) (by decide)
 obtain ⟨mo, hmo⟩ : ∃ mo, mo = most.tmod 6 - 1 := ⟨_, rfl⟩
 obtain ⟨px, cx, rfl⟩ := jU.len hA.1
 obtain ⟨pc, cc, rfl⟩ := jU.len hC.1
 refine jT func9 fun w0 hw0 => ?_
 refine kC (b0R _ hT) ?_
 refine kH (b2O xs _ hao _ hA) ?_
 intro v1 I2 H3 hle4 hp5
 have hA := hA.mono hle4
 have hT := hT.mono hle4
 have hC := hC.mono hle4
 obtain ⟨ib, o, rb, es, w, h, hok0, hE, hL, hek, hel, rfl⟩ := hp5; cases h
 refine jL 12 ?_
 refine J.ev 35 (i64 mo) rfl (congrArg i64 hmo.symm) ?_
 refine kH (b5W mo _) ?_
 intro v6 I7 H8 hle9 hp10
 have hA := hA.mono hle9
 have hT := hT.mono hle9
 have hC := hC.mono hle9
 have hok0 := hok0.mono hle9
 have hE := hE.mono hle9
 obtain ⟨sb, h, rfl⟩ := hp10; cases h
 refine jL 8 ?_
 refine J.ev 39 (i64 mo) rfl (congrArg i64 hmo.symm) ?_
 refine kH (b6a mo _) ?_
 intro v11 I12 H13 hle14 hp15
 have hA := hA.mono hle14
 have hT := hT.mono hle14
 have hC := hC.mono hle14
 have hok0 := hok0.mono hle14
 have hE := hE.mono hle14
 obtain ⟨rsb, h, rfl⟩ := hp15; cases h
 refine jL 5 ?_
 refine Cj.perm (H' := qC ib rb sb rsb mo ⟨o, (Ix.play (acts xs)), es, w, [], none, [], [], none⟩) (b3o ib rb sb rsb mo o (Ix.play (acts xs)) es w) ?_
 have hss : zM I12 mo ⟨o, (Ix.play (acts xs)), es, w, [], none, [], [], none⟩ := ⟨hok0, Ix.a5r _, hE, hek, hel, by rw [hL]; exact Ix.a5r _, by rw [hL]; exact Ix.b3H _, rfl, Nat.zero_le _, fun _ h => (by cases h), ⟨(b0Q mo).symm, fun _ h => (by cases h)⟩, rfl, Nat.zero_le _, fun _ h => (by cases h)⟩
 refine jL 15 ?_
 refine Cj.loop (ι := Nat × Heap × SSt) (fun y => y.1 ≤ cs.length ∧ y.1 ≤ 20 ∧ Le I12 y.2.1 ∧ zM y.2.1 mo y.2.2 ∧ y.2.2.L = y.2.2.es.map jQ ∧ y.2.2.gs = y.2.2.fs ∧ y.2.2.fs.length ≤ y.1) (fun y => 20 - y.1) (fun y => [(0, .slice px xs.length cx), (1, .slice pc cs.length cc), (7, .bool true), (8, ptr ib 0), (9, ptr rb 0), (10, ptr sb 0), (11, ptr rsb 0), (12, i64 (y.1 : Int))]) (fun y => y.2.1) (fun y => qC ib rb sb rsb mo y.2.2) (0, _, ⟨o, (Ix.play (acts xs)), es, w, [], none, [], [], none⟩) ⟨Nat.zero_le _, Nat.zero_le _, Le.refl _, hss, hL.symm, rfl, Nat.le_refl 0⟩ ⟨rfl, rfl, rfl, rfl, rfl, rfl, rfl, rfl, trivial⟩ rfl rfl ?_
 rintro ⟨k, J1, z⟩ ⟨hk, hk20, hIJ, hss, hLe, hfg, hfl⟩
 dsimp only at hk hk20 hIJ hss hLe hfg hfl ⊢
 have hA := hA.mono hIJ
 have hT := hT.mono hIJ
 have hC := hC.mono hIJ
 refine mP (fun hg17 hg17p => ?_) (fun hg17 hg17p => ?_)
 ·refine jR (fun hc18 hc18p => ?_) (fun hc18 hc18p => ?_)
  ·refine jL 5 ?_
   have hlt : k < cs.length := by omega
   obtain ⟨c, hget⟩ : ∃ c, cs[k]? = some c := ⟨_, kV hlt⟩
   have hcm : c ∈ cs := lV hget
   have hcl := hC.2 c hcm
   obtain ⟨p1, c1, hpe, hc1, hp⟩ := id hC.1
   cases hpe
   obtain ⟨cb, co, ccs, cty, cfr, csp, rfl, hcb, hcd⟩ := hp (jS hlt)
   refine kG (co + k * 5) ?_
   refine J.z (q3 isAgg90 sizeOf90 (jV.BU hcb) (kQ b0l hcd hget)) ?_
   refine jL 1 ?_
   intro b19 hb19
   refine J.op rfl (nS 0 rfl rfl rfl rfl rfl (b3T hcl) sizeOf90 rfl rfl (nV.c (nV.c (nV.c (nV.c (nV.c nV.z))))) lF.z ?_)
   refine jL 6 ?_
   refine J.z (a9Z rfl rfl rfl) ?_
   refine J.ev 59 (i64 (b8b c.kind)) rfl rfl ?_
   refine jL 3 ?_
   refine Cj.join (ι := Bool) (fun y => True) (fun y => [(0, .slice px xs.length cx), (1, .slice (some ⟨cb, co, none⟩) cs.length cc), (7, .bool true), (8, ptr ib 0), (9, ptr rb 0), (10, ptr sb 0), (11, ptr rsb 0), (12, i64 (k : Int)), (13, ptr b19 0), (59, i64 (b8b c.kind)), (97, .bool y)]) (fun y => J1) (fun y => [(b19, jM 90 (NU c))] ++ qC ib rb sb rsb mo z) ?_ (fun hcut => ?_)
   ·intro y _
    refine mQ (fun hc20 => ?_) (fun hc20 => ?_)
    ·refine AV [_] (b3b (c.set.tmod 12) (c.frm.tmod 9) (c.many.tmod 9) hss) ?_
     intro v21 I22 H23 hle24 hp25
     have hIJ := hIJ.mono hle24
     have hA := hA.mono hle24
     have hT := hT.mono hle24
     have hC := hC.mono hle24
     have hss := hss.mono hle24
     have hcb := hle24 _ _ hcb
     have hcl := hcl.mono hle24
     obtain ⟨wa, K, h, ho, rfl⟩ := hp25; cases h
     obtain ⟨l, hl⟩ : ∃ l, l = (nG mo z.fs (c.set.tmod 12) (c.frm.tmod 9) (c.many.tmod 9)).1 := ⟨_, rfl⟩
     rw [← hl] at ho
     have hll : l.length ≤ 1000 := by rw [hl]; exact b4E hss.fbig
     obtain ⟨pa, ca, rfl⟩ := b1Z (b5b ho)
     refine J.perm (H' := ([_] ++ K) ++ qC ib rb sb rsb mo z) (.of_eq (List.append_assoc _ _ _)) ?_
     refine AV ([_] ++ K) (b3F (c.set.tmod 12) (c.frm.tmod 9) (c.many.tmod 9) (by have := a4h c.frm (n := 9) (by decide); omega) hss) ?_
     intro v26 I27 H28 hle29 hp30
     have hIJ := hIJ.mono hle29
     have hA := hA.mono hle29
     have hT := hT.mono hle29
     have hC := hC.mono hle29
     have hss := hss.mono hle29
     have hcb := hle29 _ _ hcb
     have hcl := hcl.mono hle29
     obtain ⟨wb, K2, h, ho2, rfl⟩ := hp30; cases h
     rw [hfg] at ho2 ⊢
     rw [← hl] at ho2
     refine J.perm (b0D [_] K _ K2) ?_
     refine J.known (fun I9 hI9 hd9 hn9 hs9 => ?_)
     subst hI9
     refine J.FT ho2 (fun p hp => (hs9 p (List.mem_append_left _ hp)).resolve_left (by simp)) (fun I8 hle8 hrb => ?_)
     have hIJ := hIJ.mono hle8
     have hA := hA.mono hle8
     have hT := hT.mono hle8
     have hC := hC.mono hle8
     have hss := hss.mono hle8
     have hcb := hle8 _ _ hcb
     have hcl := hcl.mono hle8
     clear hd9 hn9 hs9
     replace hrb := hrb.row
     obtain ⟨pb, c2, rfl⟩ := kS hrb
     refine jL 14 ?_
     refine J.MX 3 132 false _ rfl rfl rfl (bne_self_eq_false _) (kT q1 rfl rfl ?_)
     refine J.MX 3 132 false _ rfl rfl rfl (bne_self_eq_false _) (kT q1 rfl rfl ?_)
     refine J.perm (a2X [_] _ _) ?_
     refine J.MX 3 132 false _ rfl rfl rfl (bne_self_eq_false _) (vK (H1 := K) ([_] ++ qC ib rb sb rsb mo z) rfl rfl rfl rfl rfl rfl (Pure.borrow (Enters.of func20 (by decide) rfl) fun J hle hJ => PW l l _ _ (by omega) J (xI.at ho hJ).row (hrb.mono hle)) ?_ (fun _ _ _ _ h => by cases h.1) (fun _ _ h => by cases h.1))
     intro v31 I32 H33 hle34 hp35
     have hIJ := hIJ.mono hle34
     have hA := hA.mono hle34
     have hT := hT.mono hle34
     have hC := hC.mono hle34
     have hss := hss.mono hle34
     have hcb := hle34 _ _ hcb
     have hcl := hcl.mono hle34
     have hrb := hrb.mono hle34
     obtain ⟨h, hK9⟩ := hp35; cases h
     rw [hK9]
     refine J.ev 135 (.bool true) rfl (congrArg Value.bool (decide_eq_true rfl)) ?_
     refine J.MX 3 132 false _ rfl rfl rfl (bne_self_eq_false _) (kT (b1C rfl rfl) rfl rfl ?_)
     refine J.z (zK rfl rfl (bne_self_eq_false _) rfl) ?_
     refine jL 6 ?_
     refine Cj.perm (a2X [_] _ _) ?_
     refine Cj.keep (H' := K ++ qC ib rb sb rsb mo z) (by rw [List.append_assoc]; exact List.sublist_append_right _ _) ?_
     have hoc := b5b ho
     clear ho
     refine jL 5 ?_
     refine Cj.loop (ι := Nat × HL) (fun y => y.1 ≤ l.length ∧ b2H l.length (.slice pa l.length ca) y.2) (fun y => l.length - y.1) (fun y => [(0, .slice px xs.length cx), (1, .slice (some ⟨cb, co, none⟩) cs.length cc), (7, .bool true), (8, ptr ib 0), (9, ptr rb 0), (10, ptr sb 0), (11, ptr rsb 0), (12, i64 (k : Int)), (14, .slice pa l.length ca), (18, i64 (y.1 : Int))]) (fun y => _) (fun y => y.2 ++ qC ib rb sb rsb mo z) (0, K) ⟨Nat.zero_le _, hoc⟩ ⟨rfl, rfl, rfl, rfl, rfl, rfl, rfl, rfl, rfl, rfl, trivial⟩ rfl rfl ?_
     rintro ⟨j, Kj⟩ ⟨hj, hoj⟩
     dsimp only at hj hoj ⊢
     refine jR (fun hc37 hc37p => ?_) (fun hc37 hc37p => ?_)
     ·refine jL 4 ?_
      obtain ⟨b, cq, ds, hbe, hdl, rfl⟩ : ∃ b c ds, Value.slice pa l.length ca = .slice (some ⟨b, 0, none⟩) l.length c ∧ l.length * 2 ≤ ds.length ∧ Kj = [(b, jM 54 ds)] := hoj.resolve_left (fun g => by omega)
      cases hbe
      have hjl : j < l.length := by omega
      refine Cj.region (J.z q1 ?_)
      refine J.z q1 ?_
      refine J.z (jX (pl := #[(0, 1), (1, 1)]) rfl rfl tK rfl a1v (fun w => by simp [oJ]) (pU.part rfl rfl rfl (nV.c nV.z) pU.none)) ?_
      refine kG (j * 2) ?_
      refine J.op rfl (nS 0 rfl rfl rfl rfl rfl rfl kX rfl rfl (⟨by simp only [List.length_cons, List.length_nil]; omega, rfl⟩ : nV ds (j * 2) [i64 (-1), i64 0] (ds.take (j * 2) ++ [i64 (-1), i64 0] ++ ds.drop (j * 2 + 2))) lF.z ?_)
      refine jL 8 ?_
      refine Ej.round (j + 1, [(b, jM 54 (ds.take (j * 2) ++ [i64 (-1), i64 0] ++ ds.drop (j * 2 + 2)))]) ⟨by dsimp only; omega, .inr ⟨b, _, _, rfl, by simp only [List.length_append, List.length_take, List.length_drop, List.length_cons, List.length_nil]; omega, rfl⟩⟩ (by dsimp only; omega) ⟨rfl, rfl, rfl, rfl, rfl, rfl, rfl, rfl, rfl, rfl, trivial⟩ rfl rfl
     refine jL 7 ?_
     refine Cj.keep (H' := qC ib rb sb rsb mo z) (List.sublist_append_right _ _) ?_
     refine jL 5 ?_
     refine Ej.round (k + 1, _, z) ⟨by dsimp only; omega, by dsimp only; omega, hIJ, hss, hLe, hfg, by dsimp only; omega⟩ (by dsimp only; omega) ⟨rfl, rfl, rfl, rfl, rfl, rfl, rfl, rfl, trivial⟩ rfl rfl
    refine jR (fun hc38 hc38p => ?_) (fun hc38 hc38p => ?_)
    ·refine jR (fun hc39 hc39p => ?_) (fun hc39 hc39p => ?_)
     ·refine jL 1 ?_
      have hxl : 0 < xs.length := by omega
      obtain ⟨m, hm⟩ : ∃ m : Nat, m = k % xs.length := ⟨_, rfl⟩
      have hmx : m < xs.length := by rw [hm]; exact Nat.mod_lt _ hxl
      obtain ⟨x, hxg⟩ : ∃ x, xs[m]? = some x := ⟨_, kV hmx⟩
      have hxm : x ∈ xs := lV hxg
      have hfv := hA.2 x hxm
      obtain ⟨p1, c1, hpe, hc1, hp⟩ := id hA.1
      cases hpe
      obtain ⟨ab, ao, acs, aty, afr, asp, rfl, hab, had⟩ := hp (jS hmx)
      refine jL 6 ?_
      refine J.ev 157 (i64 (m : Int)) rfl (congrArg i64 (by rw [hm, Int.tmod_eq_emod_of_nonneg (by omega)]; rfl)) ?_
      refine kG (ao + m * 4) ?_
      refine J.z (q3 isAgg93 sizeOf93 (jV.BU hab) (kQ zT had hxg)) ?_
      refine kH (JI x (hao x hxm) _ hfv) ?_
      intro v40 I41 H42 hle43 hp44
      have hIJ := hIJ.mono hle43
      have hA := hA.mono hle43
      have hT := hT.mono hle43
      have hC := hC.mono hle43
      have hss := hss.mono hle43
      have hcb := hle43 _ _ hcb
      have hcl := hcl.mono hle43
      have hab := hle43 _ _ hab
      obtain ⟨e0, h, he0, rfl⟩ := hp44; cases h
      obtain ⟨pe, ce, hev⟩ := jU.len he0.r.1
      refine jL 1 ?_
      intro b45 hb45
      refine J.op rfl (nS 0 rfl rfl rfl rfl rfl (UK hev) vZ rfl rfl (nV.c (nV.c (nV.c (nV.c (nV.c nV.z))))) lF.z ?_)
      refine jL 7 ?_
      refine J.ev 163 (jZ e0.t) rfl rfl ?_
      refine AV [_, _] (b4L e0.t hss) ?_
      intro v46 I47 H48 hle49 hp50
      have hIJ := hIJ.mono hle49
      have hA := hA.mono hle49
      have hT := hT.mono hle49
      have hC := hC.mono hle49
      have hss := hss.mono hle49
      have hcb := hle49 _ _ hcb
      have hcl := hcl.mono hle49
      have hab := hle49 _ _ hab
      have he0 := he0.mono hle49
      obtain ⟨o2, h, hss1, rfl⟩ := hp50; cases h
      obtain ⟨z1, hz1⟩ : ∃ z1 : SSt, z1 = { z with o := o2, L := Ix.yV e0.t z.L } := ⟨_, rfl⟩
      rw [← hz1] at hss1 ⊢
      refine jL 6 ?_
      refine J.ev 167 (jZ e0.t) rfl rfl ?_
      refine AV [_, _] (b4K e0.t hss1) ?_
      intro v51 I52 H53 hle54 hp55
      have hIJ := hIJ.mono hle54
      have hA := hA.mono hle54
      have hT := hT.mono hle54
      have hC := hC.mono hle54
      have hss := hss.mono hle54
      have hcb := hle54 _ _ hcb
      have hcl := hcl.mono hle54
      have hab := hle54 _ _ hab
      have he0 := he0.mono hle54
      have hss1 := hss1.mono hle54
      obtain ⟨es2, w2, h, hes2, hss2, rfl⟩ := hp55; cases h
      obtain ⟨z2, hz2⟩ : ∃ z2 : SSt, z2 = { z1 with es := es2, w := w2 } := ⟨_, rfl⟩
      rw [← hz2] at hss2 ⊢
      have hLe2 : z2.L = z2.es.map jQ := by rw [hz2]; dsimp only; rw [hes2, hz1]; dsimp only; rw [hLe]
      have hfg2 : z2.gs = z2.fs := by rw [hz2, hz1]; exact hfg
      have hfl2 : z2.fs.length ≤ k := by rw [hz2, hz1]; exact hfl
      refine jL 9 ?_
      refine Ej.keep (Keeps.d (Keeps.d Keeps.r)) ?_
      refine Ej.round (k + 1, _, z2) ⟨by dsimp only; omega, by dsimp only; omega, hIJ, hss2, hLe2, hfg2, by dsimp only; omega⟩ (by dsimp only; omega) ⟨rfl, rfl, rfl, rfl, rfl, rfl, rfl, rfl, trivial⟩ rfl rfl
     refine jL 9 ?_
     refine Ej.keep (Keeps.d Keeps.r) ?_
     refine Ej.round (k + 1, _, z) ⟨by dsimp only; omega, by dsimp only; omega, hIJ, hss, hLe, hfg, by dsimp only; omega⟩ (by dsimp only; omega) ⟨rfl, rfl, rfl, rfl, rfl, rfl, rfl, rfl, trivial⟩ rfl rfl
    refine kH (b0U _ c.l (hcn c hcm) _ hcl) ?_
    intro v56 I57 H58 hle59 hp60
    have hIJ := hIJ.mono hle59
    have hA := hA.mono hle59
    have hT := hT.mono hle59
    have hC := hC.mono hle59
    have hss := hss.mono hle59
    have hcb := hle59 _ _ hcb
    have hcl := hcl.mono hle59
    obtain ⟨⟨q, v56x, hv56, ⟨pq, cq, rfl, hq⟩, hm⟩, rfl⟩ := hp60; cases hv56
    have hmd := hm.depth
    have hms := hm.size
    have hmw := hm.wide
    refine jL 1 ?_
    intro b61 hb61
    refine jL 8 ?_
    refine J.z (a9Z rfl rfl rfl) ?_
    refine jR (fun hc62 hc62p => ?_) (fun hc62 hc62p => ?_)
    ·refine kC (b4j sb (ptr ib 0) [] (YH q) pq cq (by rw [a4l]; omega) (by have := b3f q; omega) (a1M q) _ hq) ?_
     refine kC (b1z rsb (ptr rb 0) (YH q) pq cq (by rw [a4l]; omega) (a1M q) _ hq) ?_
     refine jL 15 ?_
     refine J.MX 3 87 false _ rfl rfl rfl (bne_self_eq_false _) (kT q1 rfl rfl ?_)
     refine J.MX 3 87 false _ rfl rfl rfl (bne_self_eq_false _) (kT q1 rfl rfl ?_)
     refine J.MX 3 87 false _ rfl rfl rfl (bne_self_eq_false _) (kT (QO rfl rfl rfl) rfl rfl ?_)
     refine J.z (zK rfl rfl (bne_self_eq_false _) rfl) ?_
     refine jL 1 ?_
     refine J.MX 8 92 false _ rfl rfl rfl (bne_self_eq_false _) (kT q1 rfl rfl ?_)
     refine J.MX 8 92 false _ rfl rfl rfl (bne_self_eq_false _) (kT q1 rfl rfl ?_)
     refine J.MX 8 92 false _ rfl rfl rfl (bne_self_eq_false _) (kT (QO rfl rfl rfl) rfl rfl ?_)
     refine J.z (zK rfl rfl (bne_self_eq_false _) rfl) ?_
     refine jL 2 ?_
     refine Cj.cond rfl (fun hc63 => Bool.noConfusion (Eq.trans (Eq.symm (bne_self_eq_false _)) hc63)) (fun hc63 => ?_)
     refine jL 9 ?_
     refine Ej.keep (Keeps.d (Keeps.d Keeps.r)) ?_
     refine Ej.round (k + 1, _, z) ⟨by dsimp only; omega, by dsimp only; omega, hIJ, hss, hLe, hfg, by dsimp only; omega⟩ (by dsimp only; omega) ⟨rfl, rfl, rfl, rfl, rfl, rfl, rfl, rfl, trivial⟩ rfl rfl
    refine AV [_, _] (b2Z (q := q) (p := pq) (c := cq) (by omega) (by omega) (by omega) hm.right (by omega) hq hT hss) ?_
    intro v64 I65 H66 hle67 hp68
    have hIJ := hIJ.mono hle67
    have hA := hA.mono hle67
    have hT := hT.mono hle67
    have hC := hC.mono hle67
    have hss := hss.mono hle67
    have hcb := hle67 _ _ hcb
    have hcl := hcl.mono hle67
    have hq := hq.mono hle67
    obtain ⟨r1, so1, h, hrun1, hss1, rfl⟩ := hp68; cases h
    obtain ⟨z1, hz1⟩ : ∃ z1 : SSt, z1 = { z with fs := z.fs ++ [r1], so := so1 } := ⟨_, rfl⟩
    rw [← hz1] at hss1 ⊢
    have hg1 : z1.gs.length = z.fs.length := by rw [hz1]; exact congrArg List.length hfg
    refine AV [_, _] (b3k (q := q) (p := pq) (c := cq) (by omega) (by omega) (by omega) hm.right (by omega) hq hss1) ?_
    intro v69 I70 H71 hle72 hp73
    have hIJ := hIJ.mono hle72
    have hA := hA.mono hle72
    have hT := hT.mono hle72
    have hC := hC.mono hle72
    have hss := hss.mono hle72
    have hcb := hle72 _ _ hcb
    have hcl := hcl.mono hle72
    have hq := hq.mono hle72
    have hss1 := hss1.mono hle72
    obtain ⟨r2, ks2, ro2, h, hrun2, hss2, rfl⟩ := hp73; cases h
    obtain rfl : r1 = r2 := hrun1.eq (by rw [hLe]; have g := hrun2; rw [hz1] at g; exact g)
    obtain ⟨z2, hz2⟩ : ∃ z2 : SSt, z2 = { z1 with gs := z1.gs ++ [r1], ks := ks2, ro := ro2 } := ⟨_, rfl⟩
    rw [← hz2] at hss2 ⊢
    have hLe2 : z2.L = z2.es.map jQ := by rw [hz2, hz1]; exact hLe
    have hfg2 : z2.gs = z2.fs := by rw [hz2, hz1]; exact congrArg (· ++ [r1]) hfg
    have hfl2 : z2.fs.length ≤ k + 1 := by rw [hz2, hz1]; dsimp only; rw [List.length_append, List.length_singleton]; omega
    refine jL 2 ?_
    refine J.ev 81 (i64 ((z.fs.length : Int) + 1)) rfl (by rw [hg1]) ?_
    refine jL 13 ?_
    refine J.MX 3 87 false _ rfl rfl rfl (bne_self_eq_false _) (kT q1 rfl rfl ?_)
    refine J.MX 3 87 false _ rfl rfl rfl (bne_self_eq_false _) (kT q1 rfl rfl ?_)
    refine J.MX 3 87 false _ rfl rfl rfl (bne_self_eq_false _) (kT (QO rfl rfl rfl) rfl rfl ?_)
    refine J.z (zK rfl rfl (bne_self_eq_false _) rfl) ?_
    refine jL 1 ?_
    refine J.MX 8 92 false _ rfl rfl rfl (bne_self_eq_false _) (kT q1 rfl rfl ?_)
    refine J.MX 8 92 false _ rfl rfl rfl (bne_self_eq_false _) (kT q1 rfl rfl ?_)
    refine J.MX 8 92 false _ rfl rfl rfl (bne_self_eq_false _) (kT (QO rfl rfl rfl) rfl rfl ?_)
    refine J.z (zK rfl rfl (bne_self_eq_false _) rfl) ?_
    refine jL 2 ?_
    refine Cj.cond rfl (fun hc74 => Bool.noConfusion (Eq.trans (Eq.symm (bne_self_eq_false _)) hc74)) (fun hc74 => ?_)
    refine jL 9 ?_
    refine Ej.keep (Keeps.d (Keeps.d Keeps.r)) ?_
    refine Ej.round (k + 1, _, z2) ⟨by dsimp only; omega, by dsimp only; omega, hIJ, hss2, hLe2, hfg2, by dsimp only; omega⟩ (by dsimp only; omega) ⟨rfl, rfl, rfl, rfl, rfl, rfl, rfl, rfl, trivial⟩ rfl rfl
   refine jR (fun hc75 hc75p => ?_) (fun hc75 hc75p => ?_)
   ·refine jL 1 ?_
    exact hcut _ _ _ _ trivial ⟨rfl, rfl, rfl, rfl, rfl, rfl, rfl, rfl, rfl, rfl, rfl, trivial⟩ rfl rfl
   refine jR (fun hc76 hc76p => ?_) (fun hc76 hc76p => ?_)
   ·refine jL 1 ?_
    exact hcut _ _ _ _ trivial ⟨rfl, rfl, rfl, rfl, rfl, rfl, rfl, rfl, rfl, rfl, rfl, trivial⟩ rfl rfl
   refine jL 4 ?_
   exact hcut _ _ _ _ trivial ⟨rfl, rfl, rfl, rfl, rfl, rfl, rfl, rfl, rfl, rfl, rfl, trivial⟩ rfl rfl
  refine kF ?_
  exact ⟨rfl, rfl⟩
 refine kF ?_
 exact ⟨rfl, rfl⟩
end Go.Proofs.YtekmeaoblpfnpaaGreatDoor
end
namespace Go.Proofs.YtekmeaoblpfnpaaGreatDoor
open Go.ChangeShapes Go.WideShapes Go.ChangeAt Go.RowKit Go.Sx Go.Lib Go.ChangeMaps
theorem a4j {P W name k zs g t e n}
    (hg : P.globalNamed name = some g) (hty : (P.globals[g]?).map (·.type) = some t) (ht : P.underlying t = some (.array n e)) (he : P.underlying e = some (.int k)) (hce : P.cellsOf e = 1) (hct : P.cellsOf t = n)
    (h : VarReads P W name (tabData k zs)) : TabIs P W name k zs := by
  obtain ⟨g', t', cs, fuel, p, hg', ht', hvar, hd⟩ := h
  obtain rfl := Option.some.inj (hg.symm.trans hg')
  obtain rfl := Option.some.inj (hty.symm.trans ht')
  unfold TabIs
  rw [hvar, ← cells_of_tab ht he hce hct hd]
theorem b6m {W L} (hL : laidMet Tryz.prog L W) (hw : ("unicode.White_Space", Rows.laid_unicode_White_Space) ∈ L) (ha : ("strings.asciiSpace", Rows.laid_strings_asciiSpace) ∈ L) : uD (HW W) := by
  have e1 : (Rows.laid_unicode_White_Space : DataW Unit) = whiteData := by kernel_rfl
  have e2 : (Rows.laid_strings_asciiSpace : DataW Unit) = tabData .u8 asciiSpaceTab := by kernel_rfl
  have hT : TabIs Tryz.prog W "strings.asciiSpace" .u8 asciiSpaceTab := a4j (g := 1) (t := Tryz.lays157_ren.t 119) (e := Tryz.lays157_ren.t 5) (n := 256) (by kernel_rfl) (by kernel_rfl) Tryz.lays157.t119 Tryz.lays157.t5 (by kernel_rfl) (by kernel_rfl) (e2 ▸ laidMet.reads hL ha)
  have hS : WhiteTab 3 W := whiteTab_of_reads (ρ := Tryz.lays157_ren) { Tryz.lays157 with } ⟨by kernel_rfl, by kernel_rfl, by kernel_rfl, by kernel_rfl, by kernel_rfl, by kernel_rfl, by kernel_rfl, by kernel_rfl⟩ (e1 ▸ laidMet.reads hL hw)
  intro w hwW
  have key : ∀ (a : Addr) (v : Value), W.cell? a = some v → w.cell? a = some v := fun a v h => by
    have h0 := h
    unfold World.cell? at h
    cases hb : W.heap[a.block]? with
    | none => rw [hb] at h; cases h
    | some o =>
      have := World.cell?_of_block (w := w) (w' := W) (a := a) (by rw [hwW _ _ hb, hb])
      rw [← this]; exact h0
  refine ⟨?_, ?_⟩
  · unfold TabIs World.var? at hT ⊢
    have hg : Tryz.prog.globalNamed "strings.asciiSpace" = some 1 := by kernel_rfl
    rw [hg] at hT ⊢
    simp only [Option.bind_some] at hT ⊢
    cases hb : W.heap[(1 : Nat)]? with
    | none => rw [hb] at hT; cases hT
    | some o => rw [hwW _ _ hb]; rw [hb] at hT; exact hT
  obtain ⟨T, oT, R, oR, h1, h2, h3, h4, h5⟩ := hS
  exact ⟨T, oT, R, oR, key _ _ h1, key _ _ h2, key _ _ h3, key _ _ h4, fun i hi => key _ _ (h5 i hi)⟩
end Go.Proofs.YtekmeaoblpfnpaaGreatDoor
namespace Go.Proofs.YtekmeaoblpfnpaaGreatDoor
open Go.ChangeShapes Go.WideShapes Go.ChangeAt Go.RowKit Go.Sx Go.Lib Go.ChangeMaps Go.WideMaps
section
variable {H:Type} {enc:TypeId×Value→H} {W:World} {base:Nat}
theorem Arg.field {fs : Array Field} {cs : List Value} {ms : List Nat} (h : ∀ (i : Nat) f m', fs[i]? = some f → ms[i]? = some m' → Arg enc W f.type ((cs.drop f.offset).take (Tryz.prog.cellsOf f.type)) m') (i : Nat) {f m t o k}
    (hf : fs[i]? = some f) (hm : ms[i]? = some m) (ht : f.type = t) (ho : f.offset = o) (hc : Tryz.prog.cellsOf t = k) : Arg enc W t ((cs.drop o).take k) m := by
  subst ht ho hc
  exact h i f m hf hm
theorem list4 {α : Type} {l : List α} (h : l.length = 4) : ∃ a b c d, l = [a, b, c, d] := by
  match l, h with
  | [a, b, c, d], _ => exact ⟨a, b, c, d, rfl⟩
theorem b6M {n} (h : (Lit.int .i64 n).wf = true) : In64 n := by
  have h1 : (decide (-9223372036854775808 ≤ n) && decide (n ≤ 9223372036854775807)) = true := h
  rw [Bool.and_eq_true, decide_eq_true_eq, decide_eq_true_eq] at h1
  exact h1
theorem Arg.elem {e k} {cs : List Value} {ms : List Nat} (h : ∀ (i m' : Nat), ms[i]? = some m' → Arg enc W e ((cs.drop (i * 1)).take 1) m') (he : Tryz.prog.underlying e = some (.int .i64)) (hml : ms.length = k) i (hi : i < k) : ∃ z : Int, cs[i]? = some (i64 z) ∧ In64 z := by
  have hm : ms[i]? = some (ms[i]'(by omega)) := List.getElem?_eq_getElem _
  obtain ⟨z, hz, hw, _⟩ := (h i _ hm).int he
  refine ⟨z, ?_, b6M hw⟩
  have := congrArg (fun l => l[0]?) hz
  simpa [List.getElem?_drop] using this
theorem b0o {cs} (hl : cs.length = 4) (h : ∀ i, i < 4 → ∃ z : Int, cs[i]? = some (i64 z) ∧ In64 z) : ∃ q : Ix.Four, cs = xX q ∧ BM q := by
  match cs, hl with
  | [a, b, c, d], _ =>
    obtain ⟨z0, e0, w0⟩ := h 0 (by decide)
    obtain ⟨z1, e1, w1⟩ := h 1 (by decide)
    obtain ⟨z2, e2, w2⟩ := h 2 (by decide)
    obtain ⟨z3, e3, w3⟩ := h 3 (by decide)
    cases e0; cases e1; cases e2; cases e3
    exact ⟨⟨z0, z1, z2, z3⟩, rfl, ⟨w0, w1, w2, w3⟩⟩
theorem Arg.four {cs m} (h : Arg enc W 215 cs m) : ∃ q : Ix.Four, cs = xX q ∧ BM q := by
  obtain ⟨hl, ms, hml, _, hf⟩ := h.array Tryz.underlying215
  rw [show Tryz.prog.cellsOf 215 = 4 by kernel_rfl] at hl
  rw [show Tryz.prog.cellsOf 3 = 1 by kernel_rfl] at hf
  exact b0o hl fun i hi => Arg.elem hf Tryz.underlying3 hml i hi
theorem Arg.act {cs m} (h : Arg enc W 93 cs m) : ∃ x : Act, cs = a1c x ∧ jU xX (HW W) x.a.fs x.v ∧ ∀ q ∈ x.a.fs, BM q := by
  obtain ⟨hl, ms, hml, hms, hf⟩ := h.struct Tryz.underlying93
  rw [show Tryz.prog.cellsOf 93 = 4 by kernel_rfl] at hl
  obtain ⟨a, b, c, d, rfl⟩ := list4 hl
  obtain ⟨m0, m1, m2, m3, rfl⟩ := list4 hml
  have cI : Tryz.prog.cellsOf 3 = 1 := by kernel_rfl
  obtain ⟨b0, h0⟩ := (Arg.field hf (o := 0) 0 rfl rfl rfl rfl (show Tryz.prog.cellsOf 4 = 1 by kernel_rfl)).bool Tryz.underlying4
  obtain ⟨z1, h1, _, _⟩ := (Arg.field hf (o := 1) 1 rfl rfl rfl rfl cI).int Tryz.underlying3
  obtain ⟨z2, h2, _, _⟩ := (Arg.field hf (o := 2) 2 rfl rfl rfl rfl cI).int Tryz.underlying3
  obtain ⟨l, v, h3, hr, _, _, hq⟩ := (Arg.field hf (o := 3) 3 rfl rfl rfl rfl (show Tryz.prog.cellsOf 91 = 1 by kernel_rfl)).row (f := xX) (size := fun _ => 0) Tryz.underlying91 (show Tryz.prog.cellsOf 215 = 4 by kernel_rfl) (by decide) BM fun cs m' _ h => by
    obtain ⟨q, h1, h2⟩ := h.four
    exact ⟨q, h1, Nat.zero_le _, h2⟩
  simp only [List.drop_zero, List.drop_succ_cons, List.take_succ_cons, List.take_zero, List.cons.injEq, and_true] at h0 h1 h2 h3
  subst h0 h1 h2 h3
  exact ⟨⟨⟨b0, z1, z2, l⟩, d⟩, rfl, hr, hq⟩
theorem b2N {v d p} (hval : Value.okWide Tryz.prog W .any base 22 v) (h : DataW.Trod enc Tryz.prog W 0 (fun _ => true) true 22 v d p) (hlt : ∀ x ∈ p, x.block < W.heap.size) :
    ∃ xs : List Act, OB (HW W) xs v ∧ ZG xs ∧ Again enc W 22 v d p := by
  have hag := again (by kernel_rfl) (of_decide_eq_true (by kernel_rfl)) h hlt
  obtain ⟨a, len, cap, rfl⟩ := okWide_slice Tryz.underlying22 hval
  obtain ⟨xs, v', h1, h2, _, _, h4⟩ := (Arg.of h).row (f := a1c) (size := fun _ => 0) Tryz.underlying22 (show Tryz.prog.cellsOf 93 = 4 by kernel_rfl) (by decide) (fun x => jU xX (HW W) x.a.fs x.v ∧ ∀ q ∈ x.a.fs, BM q) fun cs m' _ h => by
    obtain ⟨x, h1, h2, h3⟩ := h.act
    exact ⟨x, h1, Nat.zero_le _, h2, h3⟩
  obtain rfl : Value.slice a len cap = v' := by simpa [Value.cells] using h1
  exact ⟨xs, ⟨h2, fun x hx => (h4 x hx).1⟩, fun x hx => (h4 x hx).2, hag⟩
end
section
variable {H:Type} {enc:TypeId×Value→H} {W:World} {base:Nat}
theorem b4T {α : Type} {l : List α} (h : l.length = 5) : ∃ a b c d e, l = [a, b, c, d, e] := by
  match l, h with
  | [a, b, c, d, e], _ => exact ⟨a, b, c, d, e, rfl⟩
theorem Arg.b8y {cs m} (h : Arg enc W 90 cs m) : ∃ x : Call, cs = NU x ∧ JK (HW W) x.l x.v ∧ x.l.length + 1 ≤ m := by
  obtain ⟨hl, ms, hml, hms, hf⟩ := h.struct Tryz.underlying90
  rw [show Tryz.prog.cellsOf 90 = 5 by kernel_rfl] at hl
  obtain ⟨a, b, c, d, e, rfl⟩ := b4T hl
  obtain ⟨m0, m1, m2, m3, m4, rfl⟩ := b4T hml
  have cI : Tryz.prog.cellsOf 3 = 1 := by kernel_rfl
  obtain ⟨z0, h0, _, _⟩ := (Arg.field hf (o := 0) 0 rfl rfl rfl rfl cI).int Tryz.underlying3
  obtain ⟨z1, h1, _, _⟩ := (Arg.field hf (o := 1) 1 rfl rfl rfl rfl cI).int Tryz.underlying3
  obtain ⟨z2, h2, _, _⟩ := (Arg.field hf (o := 2) 2 rfl rfl rfl rfl cI).int Tryz.underlying3
  obtain ⟨z3, h3, _, _⟩ := (Arg.field hf (o := 3) 3 rfl rfl rfl rfl cI).int Tryz.underlying3
  obtain ⟨l, v, h4, hr, hs⟩ := (Arg.field hf (o := 4) 4 rfl rfl rfl rfl (show Tryz.prog.cellsOf 23 = 1 by kernel_rfl)).ints Tryz.underlying23 Tryz.underlying3 cI
  simp only [List.drop_zero, List.drop_succ_cons, List.take_succ_cons, List.take_zero, List.cons.injEq, and_true] at h0 h1 h2 h3 h4
  subst h0 h1 h2 h3 h4
  simp only [List.sum_cons, List.sum_nil] at hms
  exact ⟨⟨z0, z1, z2, z3, l, e⟩, rfl, hr, by dsimp only; omega⟩
theorem b1Y {v d p} (hval : Value.okWide Tryz.prog W .any base 87 v) (h : DataW.Trod enc Tryz.prog W 0 (fun _ => true) true 87 v d p) (hlt : ∀ x ∈ p, x.block < W.heap.size) :
    ∃ xs : List Call, TT (HW W) xs v ∧ (∀ c ∈ xs, c.l.length + 1 ≤ Rows.uptoBulk d) ∧ Again enc W 87 v d p := by
  have hag := again (by kernel_rfl) (of_decide_eq_true (by kernel_rfl)) h hlt
  obtain ⟨a, len, cap, rfl⟩ := okWide_slice Tryz.underlying87 hval
  obtain ⟨xs, v', h1, h2, _, _, h4⟩ := (Arg.of h).row (f := NU) (size := fun _ => 0) Tryz.underlying87 (show Tryz.prog.cellsOf 90 = 5 by kernel_rfl) (by decide) (fun x => JK (HW W) x.l x.v ∧ x.l.length + 1 ≤ Rows.uptoBulk d) fun cs m' hm h => by
    obtain ⟨x, h1, h2, h3⟩ := h.b8y
    exact ⟨x, h1, Nat.zero_le _, h2, by omega⟩
  obtain rfl : Value.slice a len cap = v' := by simpa [Value.cells] using h1
  exact ⟨xs, ⟨h2, fun x hx => (h4 x hx).1⟩, fun x hx => (h4 x hx).2, hag⟩
