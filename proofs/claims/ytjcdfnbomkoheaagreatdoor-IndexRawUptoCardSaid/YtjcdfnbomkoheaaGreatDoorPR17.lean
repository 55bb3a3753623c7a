/-
  Own texts on the laws of the seat, joined: the logic, and contracts of functions. Conditions: none.
-/
import Derived.Test.YtjcdfnbomkoheaaGreatDoorNmR
import Derived.Test.YtjcdfnbomkoheaaGreatDoorPR16
set_option maxRecDepth 100000
set_option maxHeartbeats 4000000
section
namespace Go.Sx
open Go
structure Fact where
  p : Value → Heap → Prop
  m : ∀ v I I', p v I → Le I I' → p v I'
def Fact.is (v0 : Value) : Fact := ⟨fun v _ => v = v0, fun _ _ _ h _ => h⟩
theorem countP_lt {α : Type} {p q : α → Bool} : ∀ {l : List α} {i : α}, (∀ x ∈ l, q x = true → p x = true) → i ∈ l → p i = true → q i = false → l.countP q < l.countP p
  | [], _, _, h, _, _ => by cases h
  | a :: r, i, hs, hi, hp, hq => by
    have hs' : ∀ x ∈ r, q x = true → p x = true := fun x hx => hs x (.tail _ hx)
    have hle : r.countP q ≤ r.countP p := List.countP_mono_left hs'
    rw [List.countP_cons, List.countP_cons]
    by_cases ha : a = i
    · subst ha; rw [hp, hq]; simp; omega
    have hr : i ∈ r := by
      rcases List.mem_cons.1 hi with g | g
      · exact absurd g.symm ha
      exact g
    have := countP_lt hs' hr hp hq
    have h2 := hs a (.head _)
    cases hqa : q a with
    | false => simp; omega
    | true => rw [h2 hqa]; simp; omega
theorem OpJ.mono {cx : Cx} {Q : Qt} {o : Oper} {e : Env} {I : Heap} {H : HL} {C C' : Ct} (h : OpJ cx Q o e I H C) (hc : ∀ e' I' H', C e' I' H' → C' e' I' H') : OpJ cx Q o e I H C' :=
  fun K hK a w ha hs => h K (fun e' I' H' h1 => hK e' I' H' (hc e' I' H' h1)) a w ha hs
def waitsFor (l : List Oper) (k j : Nat) : Bool := match l[k]? with
  | none => false
  | some o => o.after.any fun ed => Region.binds .any ed && ed.on == j
def backwards (l : List Oper) : Bool := (List.range l.length).all fun k => match l[k]? with
  | none => true
  | some o => o.after.all fun ed => !Region.binds .any ed || Nat.blt ed.on k
def dsts (l : List Oper) : List Nat := l.filterMap (·.dst)
def dstAll (l : List Oper) : Bool := l.all (·.dst.isSome) && decide (dsts l).Nodup
theorem dst_inj : ∀ {l : List Oper}, (∀ o ∈ l, o.dst.isSome = true) → (dsts l).Nodup → ∀ {j k : Nat} {oj ok : Oper} {d : Nat}, l[j]? = some oj → l[k]? = some ok → oj.dst = some d → ok.dst = some d → j = k
  | [], _, _, j, _, _, _, _, h, _, _, _ => by simp at h
  | a :: r, hs, hn, j, k, oj, ok, d, hj, hk, h1, h2 => by
    obtain ⟨x, hx⟩ := Option.isSome_iff_exists.1 (hs a (.head _))
    have hc : dsts (a :: r) = x :: dsts r := by unfold dsts; rw [List.filterMap_cons, hx]
    rw [hc, List.nodup_cons] at hn
    have hs' : ∀ o ∈ r, o.dst.isSome = true := fun o ho => hs o (.tail _ ho)
    have hin : ∀ {i : Nat} {o : Oper}, r[i]? = some o → o.dst = some x → False := fun {i o} hi ho => hn.1 (List.mem_filterMap.2 ⟨o, List.mem_of_getElem? hi, ho⟩)
    match j, k with
    | 0, 0 => rfl
    | 0, k + 1 =>
      cases hj
      rw [List.getElem?_cons_succ] at hk
      exact absurd (by rw [h2, ← h1, hx]) fun g => hin hk g
    | j + 1, 0 =>
      cases hk
      rw [List.getElem?_cons_succ] at hj
      exact absurd (by rw [h1, ← h2, hx]) fun g => hin hj g
    | j + 1, k + 1 =>
      rw [List.getElem?_cons_succ] at hj hk
      rw [dst_inj hs' hn.2 hj hk h1 h2]
section
variable {cx : Cx} {Q : Qt} {l : List Oper} {I1 : Heap} {H : HL} {e0 : Env}
def Base (l : List Oper) (e0 e : Env) : Prop := ∀ t, t ∉ dsts l → eg e t = eg e0 t
def FlowT (cx : Cx) (_l : List Oper) (F : Nat → Fact) (k d : Nat) (e : Env) (I : Heap) (H : HL) : Ct := fun e' I' H' =>
  ∃ v K, e' = (d, v) :: e ∧ H' = K ++ H ∧ (∀ p ∈ K, cx.w0.heap.size ≤ p.1) ∧ Le I I' ∧ ∀ I'', Le I' I'' → (∀ p ∈ K, I'' p.1 = some p.2) → (F k).p v I''
def Known (l : List Oper) (F : Nat → Fact) (e : Env) (I : Heap) (j : Nat) : Prop := ∀ oj dj, l[j]? = some oj → oj.dst = some dj → ∃ v, eg e dj = some v ∧ (F j).p v I
theorem JA.flowN (F : Nat → Fact) (hb : backwards l = true) (hd : dstAll l = true)
    (step : ∀ k o d, l[k]? = some o → o.dst = some d → ∀ e I, Le I1 I → Base l e0 e → (∀ j, waitsFor l k j = true → Known l F e I j) → o.guard = none ∧ OpJ cx Q o e I H (FlowT cx l F k d e I H))
    (fin : ∀ e I, Le I1 I → Base l e0 e → (∀ k, Known l F e I k) → Ej cx Q .normal e I H) :
    ∀ (fuel : Nat) (listed : Array Bool) (e : Env) (I : Heap), listed.size = l.length → (List.range l.length).countP (fun i => !listed.getD i true) ≤ fuel → Le I1 I → Base l e0 e →
      (∀ k, listed.getD k false = true → Known l F e I k) → JA cx Q l I1 [] [] l.length fuel listed e I H := by
  have hds := hd
  unfold dstAll at hds
  rw [Bool.and_eq_true, List.all_eq_true, decide_eq_true_eq] at hds
  have hall : ∀ (listed : Array Bool) (e : Env) (I : Heap), listed.size = l.length → Region.ready .any l.toArray listed = [] → (∀ k, listed.getD k false = true → Known l F e I k) → ∀ k, Known l F e I k := by
    intro listed e I hsz hr hk k
    have hL : ∀ k, k < l.length → listed.getD k false = true := by
      intro k
      induction k using Nat.strongRecOn with
      | ind k ih =>
        intro hk
        refine Classical.byContradiction fun hn => ?_
        have hlt : k < listed.size := by omega
        have h1 : listed.getD k true = false := by
          rw [Array.getD, dif_pos hlt] at hn ⊢
          simpa using hn
        have h2 : k ∈ Region.ready .any l.toArray listed := by
          rw [mem_ready]
          refine ⟨h1, l[k], by simp [hk], fun ed hed hbd => ?_⟩
          have h3 := List.all_eq_true.1 hb k (List.mem_range.2 hk)
          rw [List.getElem?_eq_getElem hk] at h3
          have h4 := Array.all_eq_true_iff_forall_mem.1 h3 ed hed
          rw [hbd] at h4
          have h5 : ed.on < k := Nat.le_of_ble_eq_true (by simpa [Nat.blt] using h4)
          exact ih ed.on h5 (by omega)
        rw [hr] at h2; cases h2
    rcases Nat.lt_or_ge k l.length with g | g
    · exact hk k (hL k g)
    intro oj dj hj _
    rw [List.getElem?_eq_none g] at hj; cases hj
  intro fuel
  induction fuel with
  | zero =>
    intro listed e I hsz hc hle hba hk
    have hr : Region.ready .any l.toArray listed = [] := by
      refine List.eq_nil_iff_forall_not_mem.2 fun i hi => ?_
      obtain ⟨h1, o, h2, _⟩ := mem_ready.1 hi
      have h3 : i < l.length := by
        rcases Nat.lt_or_ge i l.length with g | g
        · exact g
        simp [List.getElem?_eq_none g] at h2
      have h4 : 0 < (List.range l.length).countP (fun i => !listed.getD i true) := List.countP_pos_iff.2 ⟨i, List.mem_range.2 h3, by rw [h1]; rfl⟩
      omega
    exact JA.done hr (fin e I hle hba (hall listed e I hsz hr hk))
  | succ fuel ih =>
    intro listed e I hsz hc hle hba hk
    by_cases hr : Region.ready .any l.toArray listed = []
    · exact JA.done hr (fin e I hle hba (hall listed e I hsz hr hk))
    refine JA.all _ rfl hr fun i hi => ?_
    obtain ⟨h1, o, h2, h3⟩ := mem_ready.1 hi
    have h2' : l[i]? = some o := by simpa using h2
    have hil : i < l.length := (List.getElem?_eq_some_iff.1 h2').1
    obtain ⟨d, hod⟩ := Option.isSome_iff_exists.1 (hds.1 o (List.mem_of_getElem? h2'))
    have hst := step i o d h2' hod e I hle hba fun j hj => by
      unfold waitsFor at hj
      rw [h2'] at hj
      obtain ⟨ed, hed, hp⟩ := Array.any_eq_true'.1 hj
      rw [Bool.and_eq_true, beq_iff_eq] at hp
      rw [← hp.2]
      exact hk _ (h3 ed hed hp.1)
    refine ⟨o, h2, hst.1, hst.2.mono ?_⟩
    rintro e' I' H' ⟨v, K, rfl, rfl, hK, hle', hF⟩
    refine ⟨⟨hle.trans hle', trivial, trivial⟩, ?_⟩
    refine persists_any (X := fun I H => JA cx Q l I1 [] [] l.length fuel (listed.setIfInBounds i true) ((d, v) :: e) I H) (base := cx.w0.heap.size) (fun _ _ _ _ hb k => JA.persist hb k) K I' hK fun I'' hle'' hKI => ?_
    have hdm : d ∈ dsts l := List.mem_filterMap.2 ⟨o, List.mem_of_getElem? h2', hod⟩
    refine ih _ _ _ (by simpa using hsz) ?_ ((hle.trans hle').trans hle'') (fun t ht => ?_) fun k hkl => ?_
    · have hlt := countP_lt (l := List.range l.length) (p := fun i => !listed.getD i true) (q := fun j => !(listed.setIfInBounds i true).getD j true) (i := i) (fun x _ hx => ?_) (List.mem_range.2 hil) (by rw [h1]; rfl) ?_
      · omega
      · by_cases hxi : i = x
        · subst hxi; rw [h1]; rfl
        rwa [getD_set_ne true hxi] at hx
      have : i < (listed.setIfInBounds i true).size := by rw [Array.size_setIfInBounds]; omega
      rw [Array.getD, dif_pos this]
      simp
    · have hne : Nat.beq d t = false := by
        refine Bool.eq_false_iff.2 fun g => ht ?_
        rw [← Nat.eq_of_beq_eq_true g]; exact hdm
      show (bif Nat.beq d t then some v else eg e t) = _
      rw [hne]; exact hba t ht
    by_cases hki : i = k
    · subst hki
      intro oj dj hj hdj
      rw [h2'] at hj; cases hj
      rw [hod] at hdj; cases hdj
      refine ⟨v, ?_, hF I'' hle'' hKI⟩
      show (bif Nat.beq d d then some v else eg e d) = _
      rw [Nat.beq_refl]; rfl
    rw [getD_set_ne false hki] at hkl
    intro oj dj hj hdj
    obtain ⟨u, hu, hp⟩ := hk k hkl oj dj hj hdj
    refine ⟨u, ?_, (F k).m _ _ _ hp (hle'.trans hle'')⟩
    have hne : Nat.beq d dj = false := by
      refine Bool.eq_false_iff.2 fun g => hki ?_
      have := Nat.eq_of_beq_eq_true g
      subst this
      exact dst_inj hds.1 hds.2 h2' hj hod hdj
    show (bif Nat.beq d dj then some v else eg e dj) = _
    rw [hne]; exact hu
theorem Cj.flow {id : Nat} (F : Nat → Fact) (hm : cx.P.follows .mixedOrders = true) (hb : backwards l = true) (hd : dstAll l = true)
    (step : ∀ k o d, l[k]? = some o → o.dst = some d → ∀ e I, Le I1 I → Base l e0 e → (∀ j, waitsFor l k j = true → Known l F e I j) → o.guard = none ∧ OpJ cx Q o e I H (FlowT cx l F k d e I H))
    (fin : ∀ e I, Le I1 I → Base l e0 e → (∀ k, Known l F e I k) → Ej cx Q .normal e I H)
    (hnd : cx.rd = none ∨ (noDefer l.toArray = true ∧ ¬ LetsOut Q) := by first | exact .inl rfl | exact .inr ⟨rfl, fun h => h.elim fun _ h => h.elim fun _ h => h⟩) : Cj cx Q (.region id l.toArray true) e0 I1 H := by
  refine Cj.draw [] [] l.length hm (JA.flowN F hb hd step fin _ _ _ _ (by simp) ?_ (Le.refl _) (fun _ _ => rfl) fun k hk => ?_) hnd
  · exact Nat.le_trans List.countP_le_length (by simp)
  rw [Array.getD] at hk
  split at hk
  · simp at hk
  cases hk
end
end Go.Sx
end
section
namespace Go.Proofs.YtjcdfnbomkoheaaGreatDoor
open _root_.Go.Proofs.Tryz
open Go Go.Sx
def ss2 : List Ke.Sub := [⟨97, [83, 101, 97, 32, 115, 116, 111, 114, 105, 101, 115]⟩]
def ff2 (w : Value) : Ke.Fld := ⟨[50, 52, 53], [49, 48], [], w, ss2⟩
def ss4 : List Ke.Sub := [⟨97, [87, 111, 111, 108, 102, 44, 32, 86, 105, 114, 103, 105, 110, 105, 97]⟩]
def ff4 (w : Value) : Ke.Fld := ⟨[49, 48, 48], [49, 32], [], w, ss4⟩
def ss6 : List Ke.Sub := [⟨97, [83, 101, 97]⟩, ⟨120, [72, 105, 115, 116, 111, 114, 121]⟩]
def ff6 (w : Value) : Ke.Fld := ⟨[54, 53, 48], [32, 48], [], w, ss6⟩
def ss12 : List Ke.Sub := [⟨97, [84, 104, 101, 32, 115, 101, 97, 32, 58]⟩, ⟨98, [97, 32, 115, 116, 111, 114, 121]⟩]
def ff12 (w : Value) : Ke.Fld := ⟨[50, 52, 53], [49, 52], [], w, ss12⟩
def ss14 : List Ke.Sub := [⟨97, [48, 45, 51, 48, 54, 45, 52, 48, 54, 49, 53, 45, 50]⟩]
def ff14 (w : Value) : Ke.Fld := ⟨[48, 50, 48], [32, 32], [], w, ss14⟩
def ss16 : List Ke.Sub := [⟨99, [99, 49, 57, 57, 57, 46]⟩]
def ff16 (w : Value) : Ke.Fld := ⟨[50, 54, 48], [32, 32], [], w, ss16⟩
def fs1 (a b c : Value) : List Ke.Fld := [ff2 a, ff4 b, ff6 c]
def fs2 (a b c : Value) : List Ke.Fld := [ff12 a, ff14 b, ff16 c]
def ns1 : List Ke.Fld := fs1 (.slice none 0 0) (.slice none 0 0) (.slice none 0 0)
def ns2 : List Ke.Fld := fs2 (.slice none 0 0) (.slice none 0 0) (.slice none 0 0)
def LS : Ix.Ix := [((1, 1), Ix.vals ns2), ((2, 1), Ix.vals ns1)]
theorem vals1_n (a b c : Value) : Ix.vals (fs1 a b c) = Ix.vals ns1 := by rw [← vals_nrm]; rfl
theorem vals2_n (a b c : Value) : Ix.vals (fs2 a b c) = Ix.vals ns2 := by rw [← vals_nrm]; rfl
theorem eok1 (a b c : Value) : EOK (fs1 a b c) := ⟨odt rfl, fun f hf => by
  simp only [fs1, List.mem_cons, List.not_mem_nil, or_false] at hf
  rcases hf with rfl | rfl | rfl <;> exact ⟨odt rfl, odt rfl, odt rfl⟩⟩
theorem eok2 (a b c : Value) : EOK (fs2 a b c) := ⟨odt rfl, fun f hf => by
  simp only [fs2, List.mem_cons, List.not_mem_nil, or_false] at hf
  rcases hf with rfl | rfl | rfl <;> exact ⟨odt rfl, odt rfl, odt rfl⟩⟩
def fStrs (l : List (List UInt8)) : Fact := ⟨fun v I => StrP I l v, fun _ _ _ h hle => h.mono hle⟩
def fFld (f : Value → Ke.Fld) (ss : List Ke.Sub) : Fact := ⟨fun v I => ∃ w, v = .agg (fldC (f w)).toArray ∧ RowS subC I ss w, fun _ _ _ ⟨w, h1, h2⟩ hle => ⟨w, h1, h2.mono hle⟩⟩
def fRow (fs : Value → Value → Value → List Ke.Fld) : Fact := ⟨fun v I => ∃ a b c, RecS I (fs a b c) v, fun _ _ _ ⟨a, b, c, h⟩ hle => ⟨a, b, c, h.mono hle⟩⟩
def fRcd (fs : Value → Value → Value → List Ke.Fld) : Fact := ⟨fun v I => ∃ w a b c, v = recV 0 0 w ∧ RecS I (fs a b c) w, fun _ _ _ ⟨w, a, b, c, h1, h⟩ hle => ⟨w, a, b, c, h1, h.mono hle⟩⟩
def fEnt (t : Ix.Rec) (fs : Value → Value → Value → List Ke.Fld) : Fact := ⟨fun v I => ∃ w a b c, v = .agg (entC ⟨t, 0, 0, w, fs a b c⟩).toArray ∧ RecS I (fs a b c) w, fun _ _ _ ⟨w, a, b, c, h1, h⟩ hle => ⟨w, a, b, c, h1, h.mono hle⟩⟩
def fEnts : Fact := ⟨fun v I => ∃ es, EntsS I es v ∧ es.length = 2 ∧ (∀ e ∈ es, EOK e.fs) ∧ Ix.rputs (es.map entL) [] = LS, fun _ _ _ ⟨es, h1, h2⟩ hle => ⟨es, h1.mono hle, h2⟩⟩
def fIxp : Fact := ⟨fun v I => ∃ ib, v = ptr ib 0 ∧ IxP I ib LS, fun _ _ _ ⟨ib, h1, h2⟩ hle => ⟨ib, h1, h2.mono hle⟩⟩
def fRecs (l : List Ix.Rec) : Fact := ⟨fun v I => RowS recC I l v, fun _ _ _ h hle => h.mono hle⟩
def fAny : Fact := ⟨fun _ _ => True, fun _ _ _ _ _ => trivial⟩
theorem strP_blk {I : Heap} {b : Nat} {l : List (List UInt8)} (h : I b = some (cel 9 (l.map str))) : StrP I l (.slice (some ⟨b, 0, none⟩) l.length l.length) :=
  strC_row.2 (RowS.of (sp := []) (Nat.le_refl _) (by rw [h, List.append_nil]; congr 1; congr 1; rw [← List.flatMap_singleton' (l.map str), List.flatMap_map]))
theorem one_ge {n b : Nat} {o : Obj} (h : n ≤ b) : ∀ p ∈ [(b, o)], n ≤ p.1 := fun p hp => by rw [List.mem_singleton.1 hp]; exact h
theorem none_ge {n : Nat} : ∀ p ∈ ([] : HL), n ≤ p.1 := fun p hp => by cases hp
theorem ls_eq (a b c x y z w u : Value) : Ix.rputs ([(⟨(2, 1), 0, 0, w, fs1 a b c⟩ : Ent), ⟨(1, 1), 0, 0, u, fs2 x y z⟩].map entL) [] = LS := by
  show Ix.rputs [((2, 1), Ix.vals (fs1 a b c)), ((1, 1), Ix.vals (fs2 x y z))] [] = LS
  rw [vals1_n, vals2_n]
  generalize hv : Ix.vals ns1 = v
  generalize hu : Ix.vals ns2 = u
  have : LS = [((1, 1), u), ((2, 1), v)] := by unfold LS; rw [hv, hu]
  rw [this]; rfl
def flow2 : Nat → Fact
  | 0 => .is (.agg #[i64 2, i64 1])
  | 1 => fStrs (prs ss2)
  | 2 => fFld ff2 ss2
  | 3 => fStrs (prs ss4)
  | 4 => fFld ff4 ss4
  | 5 => fStrs (prs ss6)
  | 6 => fFld ff6 ss6
  | 7 => fRow fs1
  | 8 => fRcd fs1
  | 9 => fEnt (2, 1) fs1
  | 10 => .is (.agg #[i64 1, i64 1])
  | 11 => fStrs (prs ss12)
  | 12 => fFld ff12 ss12
  | 13 => fStrs (prs ss14)
  | 14 => fFld ff14 ss14
  | 15 => fStrs (prs ss16)
  | 16 => fFld ff16 ss16
  | 17 => fRow fs2
  | 18 => fRcd fs2
  | 19 => fEnt (1, 1) fs2
  | 20 => fEnts
  | 21 => fIxp
  | 22 => fIxp
  | _ => fAny
def flow3 : Nat → Fact
  | 0 => .is (.agg #[i64 1, i64 1])
  | 1 => .is (.agg #[i64 2, i64 1])
  | 2 => fRecs [(1, 1), (2, 1)]
  | 3 => .is (.agg #[i64 1, i64 1])
  | 4 => fRecs [(1, 1)]
  | 5 => fRecs [(1, 1), (2, 1)]
  | 6 => fRecs [(1, 1)]
  | _ => fAny
theorem sw1 : Ix.word LS [116, 105, 116, 108, 101] [83, 69, 65] = [(1, 1), (2, 1)] := by decide +kernel
theorem sw2 : Ix.word LS [97, 110, 121] [115, 116, 111, 114, 121] = [(1, 1)] := by decide +kernel
theorem sw3 : Ix.word LS [97, 117, 116, 104, 111, 114] [115, 101, 97] = [] := by decide +kernel
theorem sw4 : Ix.phrase LS [116, 105, 116, 108, 101] (Ke.words [115, 101, 97, 32, 97, 32, 115, 116, 111, 114, 121]) = [(1, 1)] := by decide +kernel
theorem sw5 : Ix.phrase LS [116, 105, 116, 108, 101] (Ke.words [116, 104, 101, 32, 115, 116, 111, 114, 121]) = [] := by decide +kernel
theorem sw6 : Ix.withK LS [116, 105, 116, 108, 101] (Ix.keyOf [116, 105, 116, 108, 101] [83, 101, 97, 58, 32, 97, 32, 115, 116, 111, 114, 121]) = [(1, 1)] := by decide +kernel
theorem sw7 : Ix.withK LS [105, 115, 98, 110] (Ix.keyOf [105, 115, 98, 110] [57, 55, 56, 48, 51, 48, 54, 52, 48, 54, 49, 53, 55]) = [(1, 1)] := by decide +kernel
theorem sw8 : Ix.withK LS [121, 101, 97, 114] (Ix.keyOf [121, 101, 97, 114] [49, 57, 57, 57]) = [(1, 1)] := by decide +kernel
theorem sw9 : (Ix.scan LS [116, 105, 116, 108, 101] [115, 101, 97, 32, 98] 5).map lineI = [([115, 101, 97, 32, 115, 116, 111, 114, 105, 101, 115], 1)] := by decide +kernel
theorem sw10 : Ix.sortOf LS (1, 1) = [115, 101, 97, 32, 97, 32, 115, 116, 111, 114, 121] := by decide +kernel
theorem sanity_ok (I : Heap) : Pure Tryz.prog 13 [] I (.bool true) := by
 refine Ctr.toPure ?_
 refine Ctr.ob func13 ?_
 intro w0 hw0
 refine Cj.sr (J.z q1 ?_)
 refine J.nssr (J.z (yl_buildS (pl := #[(0, 1), (1, 1)]) rfl rfl tZ26 rfl tU26 (fun w => by simp []) (LBld.part rfl rfl rfl (LSpl.c LSpl.z) (LBld.part rfl rfl rfl (LSpl.s (LSpl.c LSpl.z)) LBld.none))) ?_)
 refine J.z (yl_buildS (pl := #[(0, 1), (1, 1)]) rfl rfl tZ26 rfl tU26 (fun w => by simp []) (LBld.part rfl rfl rfl (LSpl.c LSpl.z) (LBld.part rfl rfl rfl (LSpl.s (LSpl.c LSpl.z)) LBld.none))) ?_
 refine J.op rfl (op_alloc rfl rfl rfl tZ26 rfl ?_)
 intro b1 hb1
 refine J.op rfl (op_alloc rfl rfl rfl tZ26 rfl ?_)
 intro b2 hb2
 refine J.op rfl (q24 1 tS26 (LSpl.c (LSpl.c LSpl.z)) (LSet.s LSet.z) ?_)
 refine J.op rfl (q24 0 tS26 (LSpl.c (LSpl.c LSpl.z)) LSet.z ?_)
 refine J.nss (Cj.flow flow2 (by kernel_rfl) (by kernel_rfl) (by kernel_rfl) (fun k o d hk hd e I2 hle hba hdep => ?_) (fun e I2 hle hba hkn => ?_))
 ·
  match k, hk with
  | 0, hk =>
   obtain rfl := Option.some.inj hk
   obtain rfl := Option.some.inj hd
   have ht : eg e 2 = some (ptr b2 0) := (hba 2 (by decide)).trans rfl
   exact ⟨rfl, q2 (yl_loadAgg (vs := [i64 2, i64 1]) rfl ht tA26 tS26 (Blk.at 0 rfl) rfl rfl) ⟨_, [], rfl, rfl, none_ge, Le.refl _, fun _ _ _ => rfl⟩⟩
  | 1, hk =>
   obtain rfl := Option.some.inj hk
   obtain rfl := Option.some.inj hd
   exact ⟨rfl, op_buildSlice rfl rfl rfl tU28 tS9 tZ9 rfl rfl rfl rfl (LCat.one rfl (LCat.one rfl LCat.none)) (fun b hb => ⟨_, [(b, _)], rfl, rfl, one_ge hb, Le.refl _, fun I3 _ hK => strP_blk (l := prs ss2) (hK _ (.head _))⟩)⟩
  | 2, hk =>
   obtain rfl := Option.some.inj hk
   obtain rfl := Option.some.inj hd
   obtain ⟨va, ha, pa⟩ := hdep 1 (by kernel_rfl) _ _ rfl rfl
   refine ⟨rfl, q39 (vs := [str [50, 52, 53], str [49, 48], va]) (fst := []) (cap := []) rfl rfl rfl rfl (by simp only [evs, ev, ha]; rfl) (field_ok [50, 52, 53] [49, 48] ss2 va (by decide) _ pa) (fun v I3 H3 hle3 _ hp => ?_)⟩
   obtain ⟨w, h, hw, rfl⟩ := hp; cases h
   exact ⟨_, [], rfl, rfl, none_ge, hle3, fun I4 hle4 _ => ⟨w, rfl, hw.mono hle4⟩⟩
  | 3, hk =>
   obtain rfl := Option.some.inj hk
   obtain rfl := Option.some.inj hd
   exact ⟨rfl, op_buildSlice rfl rfl rfl tU28 tS9 tZ9 rfl rfl rfl rfl (LCat.one rfl (LCat.one rfl LCat.none)) (fun b hb => ⟨_, [(b, _)], rfl, rfl, one_ge hb, Le.refl _, fun I3 _ hK => strP_blk (l := prs ss4) (hK _ (.head _))⟩)⟩
  | 4, hk =>
   obtain rfl := Option.some.inj hk
   obtain rfl := Option.some.inj hd
   obtain ⟨va, ha, pa⟩ := hdep 3 (by kernel_rfl) _ _ rfl rfl
   refine ⟨rfl, q39 (vs := [str [49, 48, 48], str [49, 32], va]) (fst := []) (cap := []) rfl rfl rfl rfl (by simp only [evs, ev, ha]; rfl) (field_ok [49, 48, 48] [49, 32] ss4 va (by decide) _ pa) (fun v I3 H3 hle3 _ hp => ?_)⟩
   obtain ⟨w, h, hw, rfl⟩ := hp; cases h
   exact ⟨_, [], rfl, rfl, none_ge, hle3, fun I4 hle4 _ => ⟨w, rfl, hw.mono hle4⟩⟩
  | 5, hk =>
   obtain rfl := Option.some.inj hk
   obtain rfl := Option.some.inj hd
   exact ⟨rfl, op_buildSlice rfl rfl rfl tU28 tS9 tZ9 rfl rfl rfl rfl (LCat.one rfl (LCat.one rfl (LCat.one rfl (LCat.one rfl LCat.none)))) (fun b hb => ⟨_, [(b, _)], rfl, rfl, one_ge hb, Le.refl _, fun I3 _ hK => strP_blk (l := prs ss6) (hK _ (.head _))⟩)⟩
  | 6, hk =>
   obtain rfl := Option.some.inj hk
   obtain rfl := Option.some.inj hd
   obtain ⟨va, ha, pa⟩ := hdep 5 (by kernel_rfl) _ _ rfl rfl
   refine ⟨rfl, q39 (vs := [str [54, 53, 48], str [32, 48], va]) (fst := []) (cap := []) rfl rfl rfl rfl (by simp only [evs, ev, ha]; rfl) (field_ok [54, 53, 48] [32, 48] ss6 va (by decide) _ pa) (fun v I3 H3 hle3 _ hp => ?_)⟩
   obtain ⟨w, h, hw, rfl⟩ := hp; cases h
   exact ⟨_, [], rfl, rfl, none_ge, hle3, fun I4 hle4 _ => ⟨w, rfl, hw.mono hle4⟩⟩
  | 7, hk =>
   obtain rfl := Option.some.inj hk
   obtain rfl := Option.some.inj hd
   obtain ⟨va, ha, pa⟩ := hdep 2 (by kernel_rfl) _ _ rfl rfl
   obtain ⟨wa, rfl, hwa⟩ := pa
   obtain ⟨vb, hb, pb⟩ := hdep 4 (by kernel_rfl) _ _ rfl rfl
   obtain ⟨wb, rfl, hwb⟩ := pb
   obtain ⟨vc, hc, pc⟩ := hdep 6 (by kernel_rfl) _ _ rfl rfl
   obtain ⟨wc, rfl, hwc⟩ := pc
   refine ⟨rfl, op_buildSlice (vs := [.agg (fldC (ff2 wa)).toArray, .agg (fldC (ff4 wb)).toArray, .agg (fldC (ff6 wc)).toArray]) rfl rfl rfl tU33 tS31 tZ31 rfl (by simp only [List.map, evs, ev, ha, hb, hc]) rfl rfl (LCat.agg rfl (LCat.agg rfl (LCat.agg rfl LCat.none))) (fun b hbb => ⟨_, [(b, _)], rfl, rfl, one_ge hbb, Le.refl _, fun I3 hle3 hK => ⟨wa, wb, wc, RowS.of (l := fs1 wa wb wc) (sp := []) (Nat.le_refl _) (hK _ (.head _)), fun f hf => ?_⟩⟩)⟩
   simp only [fs1, List.mem_cons, List.not_mem_nil, or_false] at hf
   rcases hf with rfl | rfl | rfl
   · exact hwa.mono hle3
   · exact hwb.mono hle3
   exact hwc.mono hle3
  | 8, hk =>
   obtain rfl := Option.some.inj hk
   obtain rfl := Option.some.inj hd
   obtain ⟨va, ha, pa⟩ := hdep 7 (by kernel_rfl) _ _ rfl rfl
   obtain ⟨wa, wb, wc, hw⟩ := pa
   obtain ⟨qp, qc, rfl⟩ := RowS.len hw.1
   exact ⟨rfl, op_yld (yl_buildS (vs := [.slice qp (fs1 wa wb wc).length qc]) (pl := #[(0, 1), (1, 1), (2, 1)]) rfl (by simp only [List.map, evs, ev, ha]) zeroValue35 rfl tU35 (fun w => by simp [sizeOf33]) (LBld.part rfl rfl rfl (LSpl.s (LSpl.s (LSpl.c LSpl.z))) LBld.none)) rfl rfl ⟨_, [], rfl, rfl, none_ge, Le.refl _, fun I3 hle3 _ => ⟨_, wa, wb, wc, rfl, hw.mono hle3⟩⟩⟩
  | 9, hk =>
   obtain rfl := Option.some.inj hk
   obtain rfl := Option.some.inj hd
   obtain ⟨va, ha, pa⟩ := hdep 0 (by kernel_rfl) _ _ rfl rfl
   have pa : va = .agg [i64 2, i64 1].toArray := pa
   subst pa
   obtain ⟨vb, hb, pb⟩ := hdep 8 (by kernel_rfl) _ _ rfl rfl
   obtain ⟨w, wa, wb, wc, rfl, hw⟩ := pb
   exact ⟨rfl, op_yld (yl_buildS (vs := [.agg [i64 2, i64 1].toArray, recV 0 0 w]) (pl := #[(0, 2), (2, 3)]) rfl (by simp only [List.map, evs, ev, ha, hb]) tZ37 rfl tU37 (fun w => by simp []) (LBld.part rfl rfl rfl (LSpl.c (LSpl.c LSpl.z)) (LBld.part rfl rfl rfl (LSpl.s (LSpl.s (LSpl.c (LSpl.c (LSpl.c LSpl.z))))) LBld.none))) rfl rfl ⟨_, [], rfl, rfl, none_ge, Le.refl _, fun I3 hle3 _ => ⟨w, wa, wb, wc, rfl, hw.mono hle3⟩⟩⟩
  | 10, hk =>
   obtain rfl := Option.some.inj hk
   obtain rfl := Option.some.inj hd
   have ht : eg e 1 = some (ptr b1 0) := (hba 1 (by decide)).trans rfl
   exact ⟨rfl, q2 (yl_loadAgg (vs := [i64 1, i64 1]) rfl ht tA26 tS26 (Blk.at 1 rfl) rfl rfl) ⟨_, [], rfl, rfl, none_ge, Le.refl _, fun _ _ _ => rfl⟩⟩
  | 11, hk =>
   obtain rfl := Option.some.inj hk
   obtain rfl := Option.some.inj hd
   exact ⟨rfl, op_buildSlice rfl rfl rfl tU28 tS9 tZ9 rfl rfl rfl rfl (LCat.one rfl (LCat.one rfl (LCat.one rfl (LCat.one rfl LCat.none)))) (fun b hb => ⟨_, [(b, _)], rfl, rfl, one_ge hb, Le.refl _, fun I3 _ hK => strP_blk (l := prs ss12) (hK _ (.head _))⟩)⟩
  | 12, hk =>
   obtain rfl := Option.some.inj hk
   obtain rfl := Option.some.inj hd
   obtain ⟨va, ha, pa⟩ := hdep 11 (by kernel_rfl) _ _ rfl rfl
   refine ⟨rfl, q39 (vs := [str [50, 52, 53], str [49, 52], va]) (fst := []) (cap := []) rfl rfl rfl rfl (by simp only [evs, ev, ha]; rfl) (field_ok [50, 52, 53] [49, 52] ss12 va (by decide) _ pa) (fun v I3 H3 hle3 _ hp => ?_)⟩
   obtain ⟨w, h, hw, rfl⟩ := hp; cases h
   exact ⟨_, [], rfl, rfl, none_ge, hle3, fun I4 hle4 _ => ⟨w, rfl, hw.mono hle4⟩⟩
  | 13, hk =>
   obtain rfl := Option.some.inj hk
   obtain rfl := Option.some.inj hd
   exact ⟨rfl, op_buildSlice rfl rfl rfl tU28 tS9 tZ9 rfl rfl rfl rfl (LCat.one rfl (LCat.one rfl LCat.none)) (fun b hb => ⟨_, [(b, _)], rfl, rfl, one_ge hb, Le.refl _, fun I3 _ hK => strP_blk (l := prs ss14) (hK _ (.head _))⟩)⟩
  | 14, hk =>
   obtain rfl := Option.some.inj hk
   obtain rfl := Option.some.inj hd
   obtain ⟨va, ha, pa⟩ := hdep 13 (by kernel_rfl) _ _ rfl rfl
   refine ⟨rfl, q39 (vs := [str [48, 50, 48], str [32, 32], va]) (fst := []) (cap := []) rfl rfl rfl rfl (by simp only [evs, ev, ha]; rfl) (field_ok [48, 50, 48] [32, 32] ss14 va (by decide) _ pa) (fun v I3 H3 hle3 _ hp => ?_)⟩
   obtain ⟨w, h, hw, rfl⟩ := hp; cases h
   exact ⟨_, [], rfl, rfl, none_ge, hle3, fun I4 hle4 _ => ⟨w, rfl, hw.mono hle4⟩⟩
  | 15, hk =>
   obtain rfl := Option.some.inj hk
   obtain rfl := Option.some.inj hd
   exact ⟨rfl, op_buildSlice rfl rfl rfl tU28 tS9 tZ9 rfl rfl rfl rfl (LCat.one rfl (LCat.one rfl LCat.none)) (fun b hb => ⟨_, [(b, _)], rfl, rfl, one_ge hb, Le.refl _, fun I3 _ hK => strP_blk (l := prs ss16) (hK _ (.head _))⟩)⟩
  | 16, hk =>
   obtain rfl := Option.some.inj hk
   obtain rfl := Option.some.inj hd
   obtain ⟨va, ha, pa⟩ := hdep 15 (by kernel_rfl) _ _ rfl rfl
   refine ⟨rfl, q39 (vs := [str [50, 54, 48], str [32, 32], va]) (fst := []) (cap := []) rfl rfl rfl rfl (by simp only [evs, ev, ha]; rfl) (field_ok [50, 54, 48] [32, 32] ss16 va (by decide) _ pa) (fun v I3 H3 hle3 _ hp => ?_)⟩
   obtain ⟨w, h, hw, rfl⟩ := hp; cases h
   exact ⟨_, [], rfl, rfl, none_ge, hle3, fun I4 hle4 _ => ⟨w, rfl, hw.mono hle4⟩⟩
  | 17, hk =>
   obtain rfl := Option.some.inj hk
   obtain rfl := Option.some.inj hd
   obtain ⟨va, ha, pa⟩ := hdep 12 (by kernel_rfl) _ _ rfl rfl
   obtain ⟨wa, rfl, hwa⟩ := pa
   obtain ⟨vb, hb, pb⟩ := hdep 14 (by kernel_rfl) _ _ rfl rfl
   obtain ⟨wb, rfl, hwb⟩ := pb
   obtain ⟨vc, hc, pc⟩ := hdep 16 (by kernel_rfl) _ _ rfl rfl
   obtain ⟨wc, rfl, hwc⟩ := pc
   refine ⟨rfl, op_buildSlice (vs := [.agg (fldC (ff12 wa)).toArray, .agg (fldC (ff14 wb)).toArray, .agg (fldC (ff16 wc)).toArray]) rfl rfl rfl tU33 tS31 tZ31 rfl (by simp only [List.map, evs, ev, ha, hb, hc]) rfl rfl (LCat.agg rfl (LCat.agg rfl (LCat.agg rfl LCat.none))) (fun b hbb => ⟨_, [(b, _)], rfl, rfl, one_ge hbb, Le.refl _, fun I3 hle3 hK => ⟨wa, wb, wc, RowS.of (l := fs2 wa wb wc) (sp := []) (Nat.le_refl _) (hK _ (.head _)), fun f hf => ?_⟩⟩)⟩
   simp only [fs2, List.mem_cons, List.not_mem_nil, or_false] at hf
   rcases hf with rfl | rfl | rfl
   · exact hwa.mono hle3
   · exact hwb.mono hle3
   exact hwc.mono hle3
  | 18, hk =>
   obtain rfl := Option.some.inj hk
   obtain rfl := Option.some.inj hd
   obtain ⟨va, ha, pa⟩ := hdep 17 (by kernel_rfl) _ _ rfl rfl
   obtain ⟨wa, wb, wc, hw⟩ := pa
   obtain ⟨qp, qc, rfl⟩ := RowS.len hw.1
   exact ⟨rfl, op_yld (yl_buildS (vs := [.slice qp (fs2 wa wb wc).length qc]) (pl := #[(0, 1), (1, 1), (2, 1)]) rfl (by simp only [List.map, evs, ev, ha]) zeroValue35 rfl tU35 (fun w => by simp [sizeOf33]) (LBld.part rfl rfl rfl (LSpl.s (LSpl.s (LSpl.c LSpl.z))) LBld.none)) rfl rfl ⟨_, [], rfl, rfl, none_ge, Le.refl _, fun I3 hle3 _ => ⟨_, wa, wb, wc, rfl, hw.mono hle3⟩⟩⟩
  | 19, hk =>
   obtain rfl := Option.some.inj hk
   obtain rfl := Option.some.inj hd
   obtain ⟨va, ha, pa⟩ := hdep 10 (by kernel_rfl) _ _ rfl rfl
   have pa : va = .agg [i64 1, i64 1].toArray := pa
   subst pa
   obtain ⟨vb, hb, pb⟩ := hdep 18 (by kernel_rfl) _ _ rfl rfl
   obtain ⟨w, wa, wb, wc, rfl, hw⟩ := pb
   exact ⟨rfl, op_yld (yl_buildS (vs := [.agg [i64 1, i64 1].toArray, recV 0 0 w]) (pl := #[(0, 2), (2, 3)]) rfl (by simp only [List.map, evs, ev, ha, hb]) tZ37 rfl tU37 (fun w => by simp []) (LBld.part rfl rfl rfl (LSpl.c (LSpl.c LSpl.z)) (LBld.part rfl rfl rfl (LSpl.s (LSpl.s (LSpl.c (LSpl.c (LSpl.c LSpl.z))))) LBld.none))) rfl rfl ⟨_, [], rfl, rfl, none_ge, Le.refl _, fun I3 hle3 _ => ⟨w, wa, wb, wc, rfl, hw.mono hle3⟩⟩⟩
  | 20, hk =>
   obtain rfl := Option.some.inj hk
   obtain rfl := Option.some.inj hd
   obtain ⟨va, ha, pa⟩ := hdep 9 (by kernel_rfl) _ _ rfl rfl
   obtain ⟨w, wa, wb, wc, rfl, hw⟩ := pa
   obtain ⟨vb, hb, pb⟩ := hdep 19 (by kernel_rfl) _ _ rfl rfl
   obtain ⟨u, ua, ub, uc, rfl, hu⟩ := pb
   obtain ⟨qp, qc, hq⟩ := RowS.len hw.1
   obtain ⟨rp, rc, hr⟩ := RowS.len hu.1
   refine ⟨rfl, op_buildSlice (vs := [.agg (entC ⟨(2, 1), 0, 0, w, fs1 wa wb wc⟩).toArray, .agg (entC ⟨(1, 1), 0, 0, u, fs2 ua ub uc⟩).toArray]) rfl rfl rfl tU27 tS37 tZ37 rfl (by simp only [List.map, evs, ev, ha, hb]) rfl rfl (LCat.agg rfl (LCat.agg rfl LCat.none)) (fun b hbb => ⟨_, [(b, _)], rfl, rfl, one_ge hbb, Le.refl _, fun I3 hle3 hK => ⟨[⟨(2, 1), 0, 0, w, fs1 wa wb wc⟩, ⟨(1, 1), 0, 0, u, fs2 ua ub uc⟩], ⟨RowS.of (sp := []) (Nat.le_refl _) (hK _ (.head _)), fun x hx => ?_⟩, rfl, fun x hx => ?_, ls_eq _ _ _ _ _ _ _ _⟩⟩)⟩
   · simp only [List.mem_cons, List.not_mem_nil, or_false] at hx
     rcases hx with rfl | rfl
     · exact hw.mono hle3
     exact hu.mono hle3
   simp only [List.mem_cons, List.not_mem_nil, or_false] at hx
   rcases hx with rfl | rfl
   · exact eok1 _ _ _
   exact eok2 _ _ _
  | 21, hk =>
   obtain rfl := Option.some.inj hk
   obtain rfl := Option.some.inj hd
   obtain ⟨va, ha, pa⟩ := hdep 20 (by kernel_rfl) _ _ rfl rfl
   obtain ⟨es, hE, hl, hek, hls⟩ := pa
   refine ⟨rfl, q52 (vs := [va]) (fst := []) (cap := []) rfl rfl rfl rfl (by simp only [evs, ev, ha]) (Build_ok es va (by omega) hek _ hE) (fun v I3 H3 hle3 hn hp => ?_)⟩
   obtain ⟨ib, o, h, hok, rfl⟩ := hp; cases h
   rw [hls] at hok
   exact ⟨_, ixH ib o, rfl, rfl, hn, hle3, fun I4 hle4 hK => ⟨ib, rfl, o, hok.mono hle4, hK⟩⟩
  | 22, hk =>
   obtain rfl := Option.some.inj hk
   obtain rfl := Option.some.inj hd
   obtain ⟨va, ha, pa⟩ := hdep 21 (by kernel_rfl) _ _ rfl rfl
   obtain ⟨ib, rfl, hx⟩ := pa
   exact ⟨rfl, q2 (yl_assign rfl (show ev e (.tmp 29) = some (ptr ib 0) from ha)) ⟨_, [], rfl, rfl, none_ge, Le.refl _, fun I3 hle3 _ => ⟨ib, rfl, hx.mono hle3⟩⟩⟩
  | k + 23, hk => exact absurd hk (by simp)
 obtain ⟨v3, h3, ib, rfl, hx⟩ := hkn 22 _ _ rfl rfl
 refine Ej.weak (e' := [(3, ptr ib 0), (1, ptr b1 0), (2, ptr b2 0)]) ⟨h3, (hba 1 (by decide)).trans rfl, (hba 2 (by decide)).trans rfl, trivial⟩ ?_
 refine Ej.seq (Cj.seq (Cj.flow flow3 (by kernel_rfl) (by kernel_rfl) (by kernel_rfl) (fun k o d hk hd e I2 hle hba hdep => ?_) (fun e I2 hle hba hkn => ?_)))
 ·
  match k, hk with
  | 0, hk =>
   obtain rfl := Option.some.inj hk
   obtain rfl := Option.some.inj hd
   have ht : eg e 1 = some (ptr b1 0) := (hba 1 (by decide)).trans rfl
   exact ⟨rfl, q2 (yl_loadAgg (vs := [i64 1, i64 1]) rfl ht tA26 tS26 (Blk.at 1 rfl) rfl rfl) ⟨_, [], rfl, rfl, none_ge, Le.refl _, fun _ _ _ => rfl⟩⟩
  | 1, hk =>
   obtain rfl := Option.some.inj hk
   obtain rfl := Option.some.inj hd
   have ht : eg e 2 = some (ptr b2 0) := (hba 2 (by decide)).trans rfl
   exact ⟨rfl, q2 (yl_loadAgg (vs := [i64 2, i64 1]) rfl ht tA26 tS26 (Blk.at 0 rfl) rfl rfl) ⟨_, [], rfl, rfl, none_ge, Le.refl _, fun _ _ _ => rfl⟩⟩
  | 2, hk =>
   obtain rfl := Option.some.inj hk
   obtain rfl := Option.some.inj hd
   obtain ⟨va, ha, pa⟩ := hdep 0 (by kernel_rfl) _ _ rfl rfl
   have pa : va = .agg #[i64 1, i64 1] := pa
   subst pa
   obtain ⟨vb, hb, pb⟩ := hdep 1 (by kernel_rfl) _ _ rfl rfl
   have pb : vb = .agg #[i64 2, i64 1] := pb
   subst pb
   exact ⟨rfl, op_buildSlice (vs := [.agg [i64 1, i64 1].toArray, .agg [i64 2, i64 1].toArray]) rfl rfl rfl tU44 tS26 tZ26 rfl (by simp only [List.map, evs, ev, ha, hb]) rfl rfl (LCat.agg rfl (LCat.agg rfl LCat.none)) (fun b hbb => ⟨_, [(b, _)], rfl, rfl, one_ge hbb, Le.refl _, fun I3 hle3 hK => RowS.of (l := [((1, 1) : Ix.Rec), (2, 1)]) (sp := []) (Nat.le_refl _) (hK _ (.head _))⟩)⟩
  | 3, hk =>
   obtain rfl := Option.some.inj hk
   obtain rfl := Option.some.inj hd
   have ht : eg e 1 = some (ptr b1 0) := (hba 1 (by decide)).trans rfl
   exact ⟨rfl, q2 (yl_loadAgg (vs := [i64 1, i64 1]) rfl ht tA26 tS26 (Blk.at 1 rfl) rfl rfl) ⟨_, [], rfl, rfl, none_ge, Le.refl _, fun _ _ _ => rfl⟩⟩
  | 4, hk =>
   obtain rfl := Option.some.inj hk
   obtain rfl := Option.some.inj hd
   obtain ⟨va, ha, pa⟩ := hdep 3 (by kernel_rfl) _ _ rfl rfl
   have pa : va = .agg #[i64 1, i64 1] := pa
   subst pa
   exact ⟨rfl, op_buildSlice (vs := [.agg [i64 1, i64 1].toArray]) rfl rfl rfl tU44 tS26 tZ26 rfl (by simp only [List.map, evs, ev, ha]) rfl rfl (LCat.agg rfl LCat.none) (fun b hbb => ⟨_, [(b, _)], rfl, rfl, one_ge hbb, Le.refl _, fun I3 hle3 hK => RowS.of (l := [((1, 1) : Ix.Rec)]) (sp := []) (Nat.le_refl _) (hK _ (.head _))⟩)⟩
  | 5, hk =>
   obtain rfl := Option.some.inj hk
   obtain rfl := Option.some.inj hd
   obtain ⟨va, ha, pa⟩ := hdep 2 (by kernel_rfl) _ _ rfl rfl
   exact ⟨rfl, q2 (yl_assign rfl (show ev e (.tmp 32) = some va from ha)) ⟨_, [], rfl, rfl, none_ge, Le.refl _, fun I3 hle3 _ => RowS.mono pa hle3⟩⟩
  | 6, hk =>
   obtain rfl := Option.some.inj hk
   obtain rfl := Option.some.inj hd
   obtain ⟨va, ha, pa⟩ := hdep 4 (by kernel_rfl) _ _ rfl rfl
   exact ⟨rfl, q2 (yl_assign rfl (show ev e (.tmp 34) = some va from ha)) ⟨_, [], rfl, rfl, none_ge, Le.refl _, fun I3 hle3 _ => RowS.mono pa hle3⟩⟩
  | k + 7, hk => exact absurd hk (by simp)
 obtain ⟨v4, h4, hv4⟩ := hkn 5 _ _ rfl rfl
 obtain ⟨v5, h5, hv5⟩ := hkn 6 _ _ rfl rfl
 have hv4 : RowS recC I2 [(1, 1), (2, 1)] v4 := hv4
 have hv5 : RowS recC I2 [(1, 1)] v5 := hv5
 have hx := hx.mono hle
 refine Ej.weak (e' := [(3, ptr ib 0), (4, v4), (5, v5), (1, ptr b1 0), (2, ptr b2 0)]) ⟨(hba 3 (by decide)).trans rfl, h4, h5, (hba 1 (by decide)).trans rfl, (hba 2 (by decide)).trans rfl, trivial⟩ ?_
 refine Ej.seq (Cj.sr (J.z q0 ?_))
 refine J.op rfl (q39 rfl rfl rfl rfl rfl (Word_ok ib LS [116, 105, 116, 108, 101] [83, 69, 65] (by decide) _ hx) ?_)
 intro v4 I5 H6 hle7 hn3 hp8
 have hx := hx.mono hle7
 have hv4 := hv4.mono hle7
 have hv5 := hv5.mono hle7
 obtain ⟨wa, h, hoa⟩ := hp8; cases h
 refine J.keepO hoa hn3 (fun Ia hlea hra => ?_)
 have hx := hx.mono hlea
 have hv4 := hv4.mono hlea
 have hv5 := hv5.mono hlea
 replace hra := hra.row
 refine J.z q0 ?_
 refine J.op rfl (op_pure rfl rfl rfl rfl rfl (rRecs_ok (Ix.word LS [116, 105, 116, 108, 101] [83, 69, 65]) [(1, 1), (2, 1)] _ _ (by rw [sw1]; decide) _ hra hv4) ?_)
 refine J.eqv 38 rfl (show _ = .bool true from (congrArg Value.bool (decide_eq_true sw1))) ?_
 refine J.z q0 ?_
 refine q17 4 39 true (q2 q0 ?_)
 refine J.opG 4 39 true _ rfl rfl rfl rfl (q39 rfl rfl rfl rfl rfl (Word_ok ib LS [97, 110, 121] [115, 116, 111, 114, 121] (by decide) _ hx) ?_)
 intro v10 I11 H12 hle13 hn9 hp14
 have hx := hx.mono hle13
 have hv5 := hv5.mono hle13
 obtain ⟨wc, h, hoc⟩ := hp14; cases h
 refine J.keepO hoc hn9 (fun Ic hlec hrc => ?_)
 have hx := hx.mono hlec
 have hv5 := hv5.mono hlec
 replace hrc := hrc.row
 refine q17 4 39 true (q2 q0 ?_)
 refine J.opG 4 39 true _ rfl rfl rfl rfl (op_pure rfl rfl rfl rfl rfl (rRecs_ok (Ix.word LS [97, 110, 121] [115, 116, 111, 114, 121]) [(1, 1)] _ _ (by rw [sw2]; decide) _ hrc hv5) ?_)
 refine J.eqv 43 rfl (show _ = .bool true from (congrArg Value.bool (decide_eq_true sw2))) ?_
 refine J.z (yl_pick1 rfl rfl rfl rfl) ?_
 refine J.z q0 ?_
 refine q17 10 45 true (q2 q0 ?_)
 refine J.opG 10 45 true _ rfl rfl rfl rfl (q39 rfl rfl rfl rfl rfl (Word_ok ib LS [97, 117, 116, 104, 111, 114] [115, 101, 97] (by decide) _ hx) ?_)
 intro v16 I17 H18 hle19 hn15 hp20
 have hx := hx.mono hle19
 have hv5 := hv5.mono hle19
 obtain ⟨wd, h, hod⟩ := hp20; cases h
 refine J.keepO hod hn15 (fun Id hled hrd => ?_)
 have hx := hx.mono hled
 have hv5 := hv5.mono hled
 replace hrd := hrd.row
 obtain ⟨pd, cd, hvd⟩ := RowS.len hrd
 refine J.eqv 47 rfl hvd ?_
 refine q17 10 45 true (q2 (q14 tU44) ?_)
 refine q17 10 45 true (q2 q22 ?_)
 refine J.eqv 49 rfl (show _ = .bool true from (congrArg Value.bool (by rw [sw3]; rfl))) ?_
 refine J.z (yl_pick1 rfl rfl rfl rfl) ?_
 refine J.z q0 ?_
 refine q17 16 51 true (q2 q0 ?_)
 refine J.opG 16 51 true _ rfl rfl rfl rfl (q39 rfl rfl rfl rfl rfl (Phrase_ok ib LS [116, 105, 116, 108, 101] [115, 101, 97, 32, 97, 32, 115, 116, 111, 114, 121] (by decide) _ hx) ?_)
 intro v22 I23 H24 hle25 hn21 hp26
 have hx := hx.mono hle25
 have hv5 := hv5.mono hle25
 obtain ⟨we, h, hoe⟩ := hp26; cases h
 refine J.keepO hoe hn21 (fun Ie hlee hre => ?_)
 have hx := hx.mono hlee
 have hv5 := hv5.mono hlee
 replace hre := hre.row
 refine q17 16 51 true (q2 q0 ?_)
 refine J.opG 16 51 true _ rfl rfl rfl rfl (op_pure rfl rfl rfl rfl rfl (rRecs_ok (Ix.phrase LS [116, 105, 116, 108, 101] (Ke.words [115, 101, 97, 32, 97, 32, 115, 116, 111, 114, 121])) [(1, 1)] _ _ (by rw [sw4]; decide) _ hre hv5) ?_)
 refine J.eqv 55 rfl (show _ = .bool true from (congrArg Value.bool (decide_eq_true sw4))) ?_
 refine J.z (yl_pick1 rfl rfl rfl rfl) ?_
 refine J.z q0 ?_
 refine q17 22 57 true (q2 q0 ?_)
 refine J.opG 22 57 true _ rfl rfl rfl rfl (q39 rfl rfl rfl rfl rfl (Phrase_ok ib LS [116, 105, 116, 108, 101] [116, 104, 101, 32, 115, 116, 111, 114, 121] (by decide) _ hx) ?_)
 intro v28 I29 H30 hle31 hn27 hp32
 have hx := hx.mono hle31
 have hv5 := hv5.mono hle31
 obtain ⟨wf, h, hof⟩ := hp32; cases h
 refine J.keepO hof hn27 (fun If hlef hrf => ?_)
 have hx := hx.mono hlef
 have hv5 := hv5.mono hlef
 replace hrf := hrf.row
 obtain ⟨pf, cf, hvf⟩ := RowS.len hrf
 refine J.eqv 59 rfl hvf ?_
 refine q17 22 57 true (q2 (q14 tU44) ?_)
 refine q17 22 57 true (q2 q22 ?_)
 refine J.eqv 61 rfl (show _ = .bool true from (congrArg Value.bool (by rw [sw5]; rfl))) ?_
 refine J.z (yl_pick1 rfl rfl rfl rfl) ?_
 refine J.z q0 ?_
 refine q17 28 63 true (q2 q0 ?_)
 refine J.opG 28 63 true _ rfl rfl rfl rfl (q39 rfl rfl rfl rfl rfl (Key_ok ib LS [116, 105, 116, 108, 101] [83, 101, 97, 58, 32, 97, 32, 115, 116, 111, 114, 121] (by decide) _ hx) ?_)
 intro v34 I35 H36 hle37 hn33 hp38
 have hx := hx.mono hle37
 have hv5 := hv5.mono hle37
 obtain ⟨wg, h, hog⟩ := hp38; cases h
 refine J.keepO hog hn33 (fun Ig hleg hrg => ?_)
 have hx := hx.mono hleg
 have hv5 := hv5.mono hleg
 replace hrg := hrg.row
 refine q17 28 63 true (q2 q0 ?_)
 refine J.opG 28 63 true _ rfl rfl rfl rfl (op_pure rfl rfl rfl rfl rfl (rRecs_ok (Ix.withK LS [116, 105, 116, 108, 101] (Ix.keyOf [116, 105, 116, 108, 101] [83, 101, 97, 58, 32, 97, 32, 115, 116, 111, 114, 121])) [(1, 1)] _ _ (by rw [sw6]; decide) _ hrg hv5) ?_)
 refine J.eqv 67 rfl (show _ = .bool true from (congrArg Value.bool (decide_eq_true sw6))) ?_
 refine J.z (yl_pick1 rfl rfl rfl rfl) ?_
 refine J.z q0 ?_
 refine q17 34 69 true (q2 q0 ?_)
 refine J.opG 34 69 true _ rfl rfl rfl rfl (q39 rfl rfl rfl rfl rfl (Key_ok ib LS [105, 115, 98, 110] [57, 55, 56, 48, 51, 48, 54, 52, 48, 54, 49, 53, 55] (by decide) _ hx) ?_)
 intro v40 I41 H42 hle43 hn39 hp44
 have hx := hx.mono hle43
 have hv5 := hv5.mono hle43
 obtain ⟨wh, h, hoh⟩ := hp44; cases h
 refine J.keepO hoh hn39 (fun Ih hleh hrh => ?_)
 have hx := hx.mono hleh
 have hv5 := hv5.mono hleh
 replace hrh := hrh.row
 refine q17 34 69 true (q2 q0 ?_)
 refine J.opG 34 69 true _ rfl rfl rfl rfl (op_pure rfl rfl rfl rfl rfl (rRecs_ok (Ix.withK LS [105, 115, 98, 110] (Ix.keyOf [105, 115, 98, 110] [57, 55, 56, 48, 51, 48, 54, 52, 48, 54, 49, 53, 55])) [(1, 1)] _ _ (by rw [sw7]; decide) _ hrh hv5) ?_)
 refine J.eqv 73 rfl (show _ = .bool true from (congrArg Value.bool (decide_eq_true sw7))) ?_
 refine J.z (yl_pick1 rfl rfl rfl rfl) ?_
 refine J.z q0 ?_
 refine q17 40 75 true (q2 q0 ?_)
 refine J.opG 40 75 true _ rfl rfl rfl rfl (q39 rfl rfl rfl rfl rfl (Key_ok ib LS [121, 101, 97, 114] [49, 57, 57, 57] (by decide) _ hx) ?_)
 intro v46 I47 H48 hle49 hn45 hp50
 have hx := hx.mono hle49
 have hv5 := hv5.mono hle49
 obtain ⟨wi, h, hoi⟩ := hp50; cases h
 refine J.keepO hoi hn45 (fun Ii hlei hri => ?_)
 have hx := hx.mono hlei
 have hv5 := hv5.mono hlei
 replace hri := hri.row
 refine q17 40 75 true (q2 q0 ?_)
 refine J.opG 40 75 true _ rfl rfl rfl rfl (op_pure rfl rfl rfl rfl rfl (rRecs_ok (Ix.withK LS [121, 101, 97, 114] (Ix.keyOf [121, 101, 97, 114] [49, 57, 57, 57])) [(1, 1)] _ _ (by rw [sw8]; decide) _ hri hv5) ?_)
 refine J.eqv 79 rfl (show _ = .bool true from (congrArg Value.bool (decide_eq_true sw8))) ?_
 refine J.z (yl_pick1 rfl rfl rfl rfl) ?_
 refine J.z q0 ?_
 refine q17 46 81 true (q2 q0 ?_)
 refine J.opG 46 81 true _ rfl rfl rfl rfl (q39 rfl rfl rfl rfl rfl (Scan_ok ib LS [116, 105, 116, 108, 101] [115, 101, 97, 32, 98] (by decide) 5 _ hx) ?_)
 intro v52 I53 H54 hle55 hn51 hp56
 have hx := hx.mono hle55
 obtain ⟨wj, h, hoj⟩ := hp56; cases h
 refine J.keepO hoj hn51 (fun Ij hlej hrj => ?_)
 have hx := hx.mono hlej
 replace hrj := hrj.row
 refine J.opG 46 81 true _ rfl rfl rfl rfl (op_yld (yl_buildS (pl := #[(0, 1), (1, 1)]) rfl rfl tZ57 rfl tU57 (fun w => by simp []) (LBld.part rfl rfl rfl (LSpl.c LSpl.z) (LBld.part rfl rfl rfl (LSpl.s (LSpl.c LSpl.z)) LBld.none))) rfl rfl ?_)
 refine q17 46 81 true (q44 tU47 tS57 tZ57 ?_)
 intro b57 hb57
 refine J.persist hb57 (fun I59 hle58 hb57i => ?_)
 have hx := hx.mono hle58
 have hrj := hrj.mono hle58
 have hL85 : RowS lineC _ [([115, 101, 97, 32, 115, 116, 111, 114, 105, 101, 115], (1 : Int))] (.slice (some ⟨b57, 0, none⟩) 1 1) := RowS.of (l := [([115, 101, 97, 32, 115, 116, 111, 114, 105, 101, 115], (1 : Int))]) (sp := []) (Nat.le_refl _) hb57i
 refine J.opG 46 81 true _ rfl rfl rfl rfl (op_pure rfl rfl rfl rfl rfl (rLines_ok ((Ix.scan LS [116, 105, 116, 108, 101] [115, 101, 97, 32, 98] 5).map lineI) [([115, 101, 97, 32, 115, 116, 111, 114, 105, 101, 115], (1 : Int))] _ _ (by rw [sw9]; decide) _ hrj hL85) ?_)
 refine J.eqv 86 rfl (show _ = .bool true from (congrArg Value.bool (decide_eq_true sw9))) ?_
 refine J.z (yl_pick1 rfl rfl rfl rfl) ?_
 refine J.z q0 ?_
 refine q17 53 88 true (q2 q0 ?_)
 refine q17 53 88 true (q2 (q27 tA26 tS26 (Blk.at 1 rfl)) ?_)
 refine q17 53 88 true (op_pure rfl rfl rfl rfl rfl (Sort_ok' ib LS (1, 1) _ hx) ?_)
 refine q17 53 88 true (q2 q31 ?_)
 refine J.eqv 92 rfl (show _ = .bool true from (congrArg Value.bool (by rw [sw10]; rfl))) ?_
 refine J.z (yl_pick1 rfl rfl rfl rfl) ?_
 refine J.z q1 ?_
 refine J.ns (Cj.ret (Ej.bare ?_))
 refine q6 ?_
 exact ⟨rfl, rfl⟩
end Go.Proofs.YtjcdfnbomkoheaaGreatDoor
end
section
namespace Go.Proofs.YtjcdfnbomkoheaaGreatDoor
open Go.ChangeShapes Go.WideShapes Go.ChangeAt Go.RowKit Go.Sx Go.Lib Go.ChangeMaps Go.WideMaps
section
variable {H : Type} {enc : TypeId × Value → H} {W : World} {base : Nat}
theorem list4 {α : Type} {l : List α} (h : l.length = 4) : ∃ a b c d, l = [a, b, c, d] := by
  match l, h with
  | [a, b, c, d], _ => exact ⟨a, b, c, d, rfl⟩
theorem list2 {α : Type} {l : List α} (h : l.length = 2) : ∃ a b, l = [a, b] := by
  match l, h with
  | [a, b], _ => exact ⟨a, b, rfl⟩
end
section
variable {H : Type} {enc : TypeId × Value → H} {W : World} {base : Nat}
theorem str_elem {e k : Nat} {cs : List Value} {ms : List Nat} (h : ∀ (i m' : Nat), ms[i]? = some m' → Arg enc W e ((cs.drop (i * 1)).take 1) m') (he : Tryz.prog.underlying e = some .string) (hml : ms.length = k) (i : Nat) (hi : i < k) : ∃ s : List UInt8, cs[i]? = some (str s) ∧ ms[i]? = some (s.length + 1) := by
  have hm : ms[i]? = some (ms[i]'(by omega)) := List.getElem?_eq_getElem _
  obtain ⟨s, hs, hw⟩ := (h i _ hm).str he
  refine ⟨s, ?_, hw ▸ hm⟩
  have := congrArg (fun l => l[0]?) hs
  simpa [List.getElem?_drop] using this
theorem arg_str2 {v : Value} {d : DataW H} {p : List MemPlace} (hval : Value.okWide Tryz.prog W .any base 22 v) (h : DataW.Trod enc Tryz.prog W 0 (fun _ => true) true 22 v d p) (hlt : ∀ x ∈ p, x.block < W.heap.size) :
    ∃ a b : List UInt8, v = .agg #[str a, str b] ∧ a.length + b.length ≤ Rows.uptoBulk d ∧ Again enc W 22 v d p := by
  have hag := again (by kernel_rfl) (of_decide_eq_true (by kernel_rfl)) h hlt
  obtain ⟨xs, rfl, _⟩ := okWide_arr ⟨Tryz.underlying22, (by kernel_rfl), (by kernel_rfl), (by kernel_rfl)⟩ hval
  obtain ⟨hl, ms, hml, hms, hf⟩ := (Arg.of h).array Tryz.underlying22
  rw [show Tryz.prog.cellsOf 9 = 1 by kernel_rfl] at hf
  have hxl : xs.toList.length = 2 := by rw [show Tryz.prog.cellsOf 22 = 2 by kernel_rfl] at hl; exact hl
  obtain ⟨x, y, hxs⟩ := list2 hxl
  obtain rfl : xs = #[x, y] := by rw [← Array.toArray_toList (xs := xs), hxs]
  obtain ⟨a, ha, hma⟩ := str_elem hf Tryz.underlying9 hml 0 (by decide)
  obtain ⟨b, hb, hmb⟩ := str_elem hf Tryz.underlying9 hml 1 (by decide)
  cases ha; cases hb
  obtain ⟨m0, m1, rfl⟩ := list2 hml
  cases hma; cases hmb
  simp only [List.sum_cons, List.sum_nil] at hms
  exact ⟨a, b, rfl, by omega, hag⟩
theorem arg_str4 {v : Value} {d : DataW H} {p : List MemPlace} (hval : Value.okWide Tryz.prog W .any base 23 v) (h : DataW.Trod enc Tryz.prog W 0 (fun _ => true) true 23 v d p) (hlt : ∀ x ∈ p, x.block < W.heap.size) :
    ∃ a b c e : List UInt8, v = .agg #[str a, str b, str c, str e] ∧ a.length + b.length + c.length + e.length ≤ Rows.uptoBulk d ∧ Again enc W 23 v d p := by
  have hag := again (by kernel_rfl) (of_decide_eq_true (by kernel_rfl)) h hlt
  obtain ⟨xs, rfl, _⟩ := okWide_arr ⟨Tryz.underlying23, (by kernel_rfl), (by kernel_rfl), (by kernel_rfl)⟩ hval
  obtain ⟨hl, ms, hml, hms, hf⟩ := (Arg.of h).array Tryz.underlying23
  rw [show Tryz.prog.cellsOf 9 = 1 by kernel_rfl] at hf
  have hxl : xs.toList.length = 4 := by rw [show Tryz.prog.cellsOf 23 = 4 by kernel_rfl] at hl; exact hl
  obtain ⟨x, y, z, u, hxs⟩ := list4 hxl
  obtain rfl : xs = #[x, y, z, u] := by rw [← Array.toArray_toList (xs := xs), hxs]
  obtain ⟨a, ha, hma⟩ := str_elem hf Tryz.underlying9 hml 0 (by decide)
  obtain ⟨b, hb, hmb⟩ := str_elem hf Tryz.underlying9 hml 1 (by decide)
  obtain ⟨c, hc, hmc⟩ := str_elem hf Tryz.underlying9 hml 2 (by decide)
  obtain ⟨e, he, hme⟩ := str_elem hf Tryz.underlying9 hml 3 (by decide)
  cases ha; cases hb; cases hc; cases he
  obtain ⟨m0, m1, m2, m3, rfl⟩ := list4 hml
  cases hma; cases hmb; cases hmc; cases hme
  simp only [List.sum_cons, List.sum_nil] at hms
  exact ⟨a, b, c, e, rfl, by omega, hag⟩
end
end Go.Proofs.YtjcdfnbomkoheaaGreatDoor
end
