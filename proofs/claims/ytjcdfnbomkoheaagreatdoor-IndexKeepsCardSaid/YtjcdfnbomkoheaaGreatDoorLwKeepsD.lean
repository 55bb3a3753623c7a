/-
  The law IndexKeeps. Own text, printed by a program. Conditions: none.
-/
import Derived.Test.YtjcdfnbomkoheaaGreatDoorPD13
import Derived.Test.YtjcdfnbomkoheaaGreatDoorPD12
set_option maxRecDepth 100000
set_option maxHeartbeats 4000000
namespace Go.Proofs.YtjcdfnbomkoheaaGreatDoor
open _root_.Go.Proofs.Tryz
open Go Go.Sx
def FamRow (T sz : Nat) (F : HL) (n : Nat) (v : Value) : Prop := ∃ p c, v = .slice p n c ∧ (0 < n → ∃ b cs, p = some ⟨b, 0, none⟩ ∧ (b, cel T cs) ∈ F ∧ n * sz ≤ cs.length)
theorem set_mem {F : HL} {i b T : Nat} {cs : List Value} (hi : F[i]? = some (b, cel T cs)) (o : Nat) (x : Value) {b2 T2 : Nat} {cs2 : List Value} (h : (b2, cel T2 cs2) ∈ F) : ((b2, cel T2 cs2) ∈ F.set i (b, cel T (cs.set o x))) ∨ (b2 = b ∧ T2 = T ∧ cs2 = cs ∧ (b2, cel T2 (cs2.set o x)) ∈ F.set i (b, cel T (cs.set o x))) := by
  obtain ⟨hil, hig⟩ := List.getElem?_eq_some_iff.1 hi
  obtain ⟨j, hj⟩ := List.getElem?_of_mem h
  by_cases he : i = j
  · subst he
    rw [hi] at hj
    injection hj with hj
    injection hj with h1 h2
    unfold cel at h2
    injection h2 with h3 h4
    have h5 : cs = cs2 := by simpa using congrArg Array.toList h3
    subst h1 h4 h5
    exact .inr ⟨rfl, rfl, rfl, List.mem_of_getElem? (i := i) (by rw [List.getElem?_set_self hil])⟩
  exact .inl (List.mem_of_getElem? (i := j) (by rw [List.getElem?_set_ne he]; exact hj))
theorem FamRow.set {T sz : Nat} {F : HL} {n : Nat} {v : Value} (h : FamRow T sz F n v) {i b T' : Nat} {cs : List Value} (hi : F[i]? = some (b, cel T' cs)) (o : Nat) (x : Value) : FamRow T sz (F.set i (b, cel T' (cs.set o x))) n v := by
  obtain ⟨p, c, h1, h2⟩ := h
  refine ⟨p, c, h1, fun h0 => ?_⟩
  obtain ⟨b2, cs2, h3, h4, h5⟩ := h2 h0
  rcases set_mem hi o x h4 with g | ⟨_, _, _, g⟩
  · exact ⟨b2, cs2, h3, g, h5⟩
  exact ⟨b2, _, h3, g, by rw [List.length_set]; exact h5⟩
def FamE (F : HL) (es : List Ent) : Prop := ∀ e ∈ es, FamRow 31 4 F e.fs.length e.v ∧ ∀ (j : Nat) f, e.fs[j]? = some f → FamRow 65 2 F f.subs.length f.sv ∧ ∀ b n c cs, e.v = .slice (some ⟨b, 0, none⟩) n c → (b, cel 31 cs) ∈ F → cs[j * 4 + 3]? = some f.sv
theorem mem_set {F : HL} {i b T : Nat} {cs : List Value} (hi : F[i]? = some (b, cel T cs)) (o : Nat) (x : Value) {b2 T2 : Nat} {cs2 : List Value} (h : (b2, cel T2 cs2) ∈ F.set i (b, cel T (cs.set o x))) : (b2, cel T2 cs2) ∈ F ∨ (b2 = b ∧ T2 = T ∧ cs2 = cs.set o x ∧ (b2, cel T2 cs) ∈ F) := by
  rcases List.mem_or_eq_of_mem_set h with g | g
  · exact .inl g
  injection g with h1 h2
  unfold cel at h2
  injection h2 with h3 h4
  have h5 : cs2 = cs.set o x := by simpa using congrArg Array.toList h3
  subst h1 h4
  exact .inr ⟨rfl, rfl, h5, List.mem_of_getElem? hi⟩
theorem FamE.set {F : HL} {es : List Ent} (h : FamE F es) {i b T : Nat} {cs : List Value} (hi : F[i]? = some (b, cel T cs)) (o : Nat) (x : Value) (ho : T = 31 → ∀ j, o ≠ j * 4 + 3) : FamE (F.set i (b, cel T (cs.set o x))) es := fun e he => by
  obtain ⟨h1, h2⟩ := h e he
  refine ⟨h1.set hi o x, fun j f hf => ⟨(h2 j f hf).1.set hi o x, fun b2 n c cs2 hv hm => ?_⟩⟩
  rcases mem_set hi o x hm with g | ⟨rfl, hT, rfl, g⟩
  · exact (h2 j f hf).2 b2 n c cs2 hv g
  rw [List.getElem?_set_ne (ho hT.symm j)]
  exact (h2 j f hf).2 _ n c cs hv g
def Keep (I J : Heap) : Prop := ∀ b o, I b = some o → (∀ cs, o ≠ cel 31 cs) → (∀ cs, o ≠ cel 65 cs) → J b = some o
theorem keep_hless {B : HL} {I : Heap} (hB : ∀ p ∈ B, I p.1 = some p.2) (hT : ∀ p ∈ B, ∃ cs, p.2 = cel 31 cs ∨ p.2 = cel 65 cs) : Keep I (hless B I) := fun b o hb h1 h2 => by
  have hm : b ∉ B.map (·.1) := fun hm => by
    obtain ⟨p, hp, rfl⟩ := List.mem_map.1 hm
    rw [hB p hp] at hb
    obtain ⟨cs, g | g⟩ := hT p hp
    · exact h1 cs (by rw [← g]; exact (Option.some.inj hb).symm)
    exact h2 cs (by rw [← g]; exact (Option.some.inj hb).symm)
  rw [hless_off hm]; exact hb
theorem cel_ne {T U : Nat} {cs ds : List Value} (h : T ≠ U) : cel T cs ≠ cel U ds := fun e => by
  unfold cel at e
  injection e with _ e
  exact h e
theorem rowT_keep {α : Type} {T : TypeId} {f : α → List Value} {I J : Heap} {l : List α} {v : Value} (h : RowT T f I l v) (hk : Keep I J) (h1 : T ≠ 31) (h2 : T ≠ 65) : RowT T f J l v :=
  let ⟨p, c, g1, g2, g3⟩ := h; ⟨p, c, g1, g2, fun hn => let ⟨b, sp, g4, g5⟩ := g3 hn; ⟨b, sp, g4, hk b _ g5 (fun _ => cel_ne h1) (fun _ => cel_ne h2)⟩⟩
theorem strS_keep {I J : Heap} {l : List (List UInt8)} {v : Value} (h : StrS 9 I l v) (hk : Keep I J) : StrS 9 J l v :=
  h.imp id fun ⟨b, c, sp, h1, h2, h3⟩ => ⟨b, c, sp, h1, h2, hk b _ h3 (fun _ => cel_ne (by decide)) (fun _ => cel_ne (by decide))⟩
theorem valsS_keep {I J : Heap} {vs : List Ix.V} {v : Value} (h : ValsS I vs v) (hk : Keep I J) : ValsS J vs v :=
  let ⟨xs, h1, h2, h3⟩ := h; ⟨xs, rowT_keep h1 hk (by decide) (by decide), h2, fun x hx => strS_keep (h3 x hx) hk⟩
theorem istOk_keep {I J : Heap} {s : Ist} {L : Ix.Ix} (h : IstOk I s L) (hk : Keep I J) : IstOk J s L :=
  ⟨h.srt, h.big, h.vok, h.vms, fun t => ⟨(h.vals t).1, fun vs hv => let ⟨w, h1, h2⟩ := (h.vals t).2 vs hv; ⟨w, h1, valsS_keep h2 hk⟩⟩, h.nw, h.nk⟩
theorem ixOk_keep {I J : Heap} {o : Option Ist} {L : Ix.Ix} (h : IxOk I o L) (hk : Keep I J) : IxOk J o L := by
  cases o with
  | none => exact h
  | some s => exact istOk_keep h hk
theorem mobj_ne {α : Type} {kv : α → Value} {l : ML α} {c T : Nat} {cs : List Value} : mobj kv l c ≠ cel T cs := fun e => by unfold mobj cel at e; injection e
theorem setH_apart {b : Nat} {l : ML Ix.Pl} {c : Nat} {N : Nest Ix.Pl Ix.Rec} {p : Nat × Obj} (hp : p ∈ setH b l c N) (T : Nat) (cs : List Value) : p.2 ≠ cel T cs := by
  unfold setH at hp
  rcases List.mem_cons.1 hp with rfl | hp
  · exact mobj_ne
  unfold nestH at hp
  obtain ⟨e, _, rfl⟩ := List.mem_map.1 hp
  exact mobj_ne
theorem ixH_apart {ib : Nat} {o : Option Ist} {p : Nat × Obj} (hp : p ∈ ixH ib o) : (∀ cs, p.2 ≠ cel 31 cs) ∧ ∀ cs, p.2 ≠ cel 65 cs := by
  cases o with
  | none =>
    rw [List.mem_singleton.1 hp]
    exact ⟨fun _ => cel_ne (by decide), fun _ => cel_ne (by decide)⟩
  | some s =>
    have hp : p ∈ istH ib s := hp
    unfold istH at hp
    rcases List.mem_cons.1 hp with rfl | hp
    · exact ⟨fun _ => mobj_ne, fun _ => mobj_ne⟩
    rcases List.mem_cons.1 hp with rfl | hp
    · exact ⟨fun _ => cel_ne (by decide), fun _ => cel_ne (by decide)⟩
    rcases List.mem_append.1 hp with hp | hp
    · exact ⟨fun cs => setH_apart hp _ cs, fun cs => setH_apart hp _ cs⟩
    exact ⟨fun cs => setH_apart hp _ cs, fun cs => setH_apart hp _ cs⟩
theorem ixP_keep {I J : Heap} {ib : Nat} {L : Ix.Ix} (h : IxP I ib L) (hk : Keep I J) : IxP J ib L :=
  let ⟨o, h1, h2⟩ := h; ⟨o, ixOk_keep h1 hk, fun p hp => hk _ _ (h2 p hp) (ixH_apart hp).1 (ixH_apart hp).2⟩
def uniq : List Nat → List Nat
  | [] => []
  | a :: r => if a ∈ uniq r then uniq r else a :: uniq r
theorem uniq_mem {x : Nat} : ∀ {l : List Nat}, x ∈ uniq l ↔ x ∈ l
  | [] => Iff.rfl
  | a :: r => by
    unfold uniq
    split
    · rename_i h
      rw [uniq_mem, List.mem_cons]
      exact ⟨.inr, fun g => g.elim (fun e => by rw [e]; exact uniq_mem.1 h) id⟩
    rw [List.mem_cons, List.mem_cons, uniq_mem]
theorem uniq_nodup : ∀ (l : List Nat), (uniq l).Nodup
  | [] => List.nodup_nil
  | a :: r => by
    unfold uniq
    split
    · exact uniq_nodup r
    rename_i h
    exact List.nodup_cons.2 ⟨h, uniq_nodup r⟩
def blkOf : Value → List Nat
  | .slice (some a) _ _ => [a.block]
  | _ => []
def entBlks (es : List Ent) : List Nat := es.flatMap fun e => (if e.fs = [] then [] else blkOf e.v) ++ e.fs.flatMap fun f => if f.subs = [] then [] else blkOf f.sv
def famOf (J : Heap) (es : List Ent) : HL := (uniq (entBlks es)).map fun b => (b, (J b).getD (cel 0 []))
theorem rowN_blk {α : Type} {N : Nat → Prop} {T : TypeId} {f : α → List Value} {J : Heap} {l : List α} {v : Value} (h : RowN N T f J l v) (hn : l ≠ []) {b : Nat} (hb : b ∈ blkOf v) : N b ∧ ∃ cs, J b = some (cel T cs) := by
  obtain ⟨p, c, rfl, _, h3⟩ := h
  obtain ⟨b2, sp, rfl, h4, h5⟩ := h3 hn
  rw [show b = b2 by simpa [blkOf] using hb]
  exact ⟨h4, _, h5⟩
theorem fam_all {N : Nat → Prop} {J : Heap} {es : List Ent} (h : ∀ e ∈ es, RecN N J e.fs e.v) {b : Nat} (hb : b ∈ entBlks es) : N b ∧ ∃ cs, J b = some (cel 31 cs) ∨ J b = some (cel 65 cs) := by
  unfold entBlks at hb
  obtain ⟨e, he, hb⟩ := List.mem_flatMap.1 hb
  rcases List.mem_append.1 hb with g | g
  · split at g
    · cases g
    rename_i hn
    obtain ⟨h1, cs, h2⟩ := rowN_blk (h e he).1 hn g
    exact ⟨h1, cs, .inl h2⟩
  obtain ⟨f, hf, g⟩ := List.mem_flatMap.1 g
  split at g
  · cases g
  rename_i hn
  obtain ⟨h1, cs, h2⟩ := rowN_blk ((h e he).2 f hf) hn g
  exact ⟨h1, cs, .inr h2⟩
theorem fam_in {J : Heap} {es : List Ent} {b : Nat} {o : Obj} (hb : b ∈ entBlks es) (ho : J b = some o) : (b, o) ∈ famOf J es :=
  List.mem_map.2 ⟨b, uniq_mem.2 hb, by rw [ho]; rfl⟩
theorem fam_of {I J : Heap} {es : List Ent} (h : ∀ e ∈ es, RecN (fun b => I b = none) J e.fs e.v) : ((famOf J es).map (·.1)).Nodup ∧ (∀ p ∈ famOf J es, J p.1 = some p.2) ∧ (∀ p ∈ famOf J es, ∃ cs, p.2 = cel 31 cs ∨ p.2 = cel 65 cs) ∧ (∀ p ∈ famOf J es, I p.1 = none) ∧ FamE (famOf J es) es := by
  have hp : ∀ p ∈ famOf J es, p.1 ∈ entBlks es ∧ p.2 = (J p.1).getD (cel 0 []) := fun p hp => by
    obtain ⟨b, hb, rfl⟩ := List.mem_map.1 hp
    exact ⟨uniq_mem.1 hb, rfl⟩
  have hJ : ∀ p ∈ famOf J es, J p.1 = some p.2 := fun p hq => by
    obtain ⟨h1, h2⟩ := hp p hq
    obtain ⟨_, cs, g | g⟩ := fam_all h h1 <;> rw [h2, g] <;> rfl
  refine ⟨?_, hJ, fun p hq => ?_, fun p hq => (fam_all h (hp p hq).1).1, fun e he => ⟨?_, fun j f hf => ⟨?_, fun b n c cs hv hm => ?_⟩⟩⟩
  · unfold famOf
    rw [List.map_map, show ((fun x : Nat × Obj => x.1) ∘ fun b => (b, (J b).getD (cel 0 []))) = id from rfl, List.map_id]
    exact uniq_nodup _
  · obtain ⟨_, cs, g | g⟩ := fam_all h (hp p hq).1
    · exact ⟨cs, .inl (Option.some.inj ((hJ p hq).symm.trans g))⟩
    exact ⟨cs, .inr (Option.some.inj ((hJ p hq).symm.trans g))⟩
  · obtain ⟨p, c, h1, h2, h3⟩ := (h e he).1
    refine ⟨p, c, h1, fun h0 => ?_⟩
    have hn : e.fs ≠ [] := fun g => by rw [g] at h0; cases h0
    obtain ⟨b, sp, rfl, _, h5⟩ := h3 hn
    refine ⟨b, _, rfl, fam_in ?_ h5, by rw [List.length_append, flat_len fldC_len]; omega⟩
    unfold entBlks
    refine List.mem_flatMap.2 ⟨e, he, List.mem_append_left _ ?_⟩
    rw [if_neg hn, h1]
    exact List.mem_singleton.2 rfl
  · obtain ⟨p, c, h1, h2, h3⟩ := (h e he).2 f (List.mem_of_getElem? hf)
    refine ⟨p, c, h1, fun h0 => ?_⟩
    have hn : f.subs ≠ [] := fun g => by rw [g] at h0; cases h0
    obtain ⟨b, sp, rfl, _, h5⟩ := h3 hn
    refine ⟨b, _, rfl, fam_in ?_ h5, by rw [List.length_append, flat_len subC_len]; omega⟩
    unfold entBlks
    refine List.mem_flatMap.2 ⟨e, he, List.mem_append_right _ (List.mem_flatMap.2 ⟨f, List.mem_of_getElem? hf, ?_⟩)⟩
    rw [if_neg hn, h1]
    exact List.mem_singleton.2 rfl
  obtain ⟨p, c2, h1, h2, h3⟩ := (h e he).1
  obtain ⟨b2, sp, rfl, _, h5⟩ := h3 (fun g => by rw [g] at hf; cases hf)
  rw [h1] at hv
  cases hv
  have h6 := (hJ _ hm).symm.trans h5
  have h7 : cs = e.fs.flatMap fldC ++ sp := by
    have := Option.some.inj h6
    unfold cel at this
    injection this with g
    simpa using congrArg Array.toList g
  rw [h7]
  exact row_cell fldC_len hf 3 (by decide)
theorem own_fam {α : Type} {T sz : Nat} {f : α → List Value} (hf : ∀ x, (f x).length = sz) {l : List α} {v : Value} {H : HL} (h : OwnR T f l v H) : FamRow T sz H l.length v := by
  rcases h with ⟨rfl, rfl, rfl⟩ | ⟨b, c, sp, rfl, hc, rfl⟩
  · exact ⟨none, 0, rfl, fun h => by cases h⟩
  exact ⟨_, c, rfl, fun _ => ⟨b, _, rfl, .head _, by rw [List.length_append, flat_len hf]; omega⟩⟩
def FamT (F : HL) (n : Nat) (v : Value) : Prop := ∃ p c, v = .slice p n c ∧ (0 < n → ∃ b cs, p = some ⟨b, 0, none⟩ ∧ (b, cel 26 cs) ∈ F ∧ n * 2 ≤ cs.length ∧ ∀ j, j < n → ∃ z : Int, cs[j * 2 + 1]? = some (i64 z))
theorem own_famT {l : List Ix.Rec} {v : Value} {H : HL} (h : OwnR 26 recC l v H) : FamT H l.length v := by
  rcases h with ⟨rfl, rfl, rfl⟩ | ⟨b, c, sp, rfl, hc, rfl⟩
  · exact ⟨none, 0, rfl, fun h => by cases h⟩
  refine ⟨_, c, rfl, fun _ => ⟨b, _, rfl, .head _, by rw [List.length_append, flat_len recC_len]; omega, fun j hj => ?_⟩⟩
  exact ⟨l[j].2, row_cell recC_len (List.getElem?_eq_getElem hj) 1 (by decide)⟩
theorem FamT.set {F : HL} {n : Nat} {v : Value} {c b : Nat} {cs : List Value} (h1 : v = .slice (some ⟨b, 0, none⟩) n c) (_hm : (b, cel 26 cs) ∈ F) (hl : n * 2 ≤ cs.length) (hz : ∀ j, j < n → ∃ z : Int, cs[j * 2 + 1]? = some (i64 z)) {i : Nat} (hi : F[i]? = some (b, cel 26 cs)) (k : Nat) (hk : k < n) (z : Int) : FamT (F.set i (b, cel 26 (cs.set (k * 2 + 1) (i64 z)))) n v := by
  obtain ⟨hil, _⟩ := List.getElem?_eq_some_iff.1 hi
  refine ⟨_, c, h1, fun _ => ⟨b, _, rfl, List.mem_of_getElem? (i := i) (by rw [List.getElem?_set_self hil]), by rw [List.length_set]; exact hl, fun j hj => ?_⟩⟩
  by_cases he : j = k
  · subst he
    exact ⟨z, List.getElem?_set_self (by omega)⟩
  rw [List.getElem?_set_ne (by omega)]
  exact hz j hj
theorem ents_few (xs : List Act) : (Ix.rputs (Ix.ents (acts xs)) []).length ≤ 20 := by
  have h : ∀ (L l : Ix.Ix), (Ix.rputs L l).length ≤ l.length + L.length := by
    intro L
    induction L with
    | nil => intro l; exact Nat.le_refl _
    | cons a r ih =>
      intro l
      have h1 := ih (Ix.rput a.1 a.2 l)
      have h2 := Ix.rput_len' a.1 a.2 l
      have h3 : Ix.rputs (a :: r) l = Ix.rputs r (Ix.rput a.1 a.2 l) := rfl
      rw [h3, List.length_cons]; omega
  have h1 := h (Ix.ents (acts xs)) []
  have h2 : (Ix.ents (acts xs)).length ≤ 20 := by unfold Ix.ents; rw [List.length_map, List.length_take]; omega
  rw [List.length_nil] at h1; omega
theorem ph_le (L : Ix.Ix) (n : List UInt8) (w : Ke.Row) : (Ix.phrase L n w).length ≤ L.length := by
  unfold Ix.phrase
  split
  · exact Nat.zero_le _
  rw [List.length_map]; exact List.length_filter_le _ _
theorem wd_le (L : Ix.Ix) (n s : List UInt8) : (Ix.word L n s).length ≤ L.length := by
  unfold Ix.word
  split
  · exact ph_le _ _ _
  exact Nat.zero_le _
theorem word_le (xs : List Act) (n : UInt8) (k : Nat) : (Ix.word (Ix.rputs (Ix.ents (acts xs)) []) (nameN n) (Ix.textN (k : Int))).length ≤ 100 := by have h1 := wd_le (Ix.rputs (Ix.ents (acts xs)) []) (nameN n) (Ix.textN (k : Int)); have h2 := ents_few xs; omega
theorem sea_le (xs : List Act) (n : UInt8) : (Ix.word (Ix.rputs (Ix.ents (acts xs)) []) (nameN n) [115, 101, 97]).length ≤ 100 := by have h1 := wd_le (Ix.rputs (Ix.ents (acts xs)) []) (nameN n) [115, 101, 97]; have h2 := ents_few xs; omega
theorem IndexKeeps_ok (xs : List Act) (v : Value) (hao : ActsOk xs) (n : UInt8) (I : Heap) (hA : ActsS I xs v) : Pure Tryz.prog 6 [v, u8 n] I (.bool true) := by
 refine Ctr.toPure ?_
 have hA0 := hA
 refine Ctr.ob func6 ?_
 intro w0 hw0
 refine Cj.sr (J.z q1 ?_)
 refine J.nssr (J.op rfl (op_pure rfl rfl rfl rfl rfl (sanity_ok _) ?_))
 refine J.z q1 ?_
 refine J.nssr (J.z q0 ?_)
 refine J.op rfl (op_call (H1 := []) rfl rfl rfl rfl rfl (EntriesN_ok xs _ hao _ hA) ?_ (fun _ _ _ _ ⟨_, _, h, _⟩ => nomatch h) (fun _ _ ⟨_, _, h, _⟩ => nomatch h))
 intro v1 I2 H3 hle4 hp5
 have hA := hA.mono hle4
 obtain ⟨es, w, h, hEN, hL, hek, hel, rfl⟩ := hp5; cases h
 have hE := hEN.ents
 refine J.z q1 ?_
 refine J.nssr (J.z q0 ?_)
 refine J.op rfl (op_callN rfl rfl rfl rfl rfl (Build_ok (es) _ (by omega) hek _ hE) ?_ (fun _ _ _ _ ⟨_, _, h, _⟩ => nomatch h) (fun _ _ ⟨_, _, h, _⟩ => nomatch h))
 intro v7 I8 H9 hle10 hn6 hp11
 have hA := hA.mono hle10
 have hEN := hEN.mono hle10
 have hE := hE.mono hle10
 obtain ⟨ib, o, h, hok, rfl⟩ := hp11; cases h
 refine J.persists (ixH ib o) hn6 (fun Ip hlep hK => ?_)
 have hA := hA.mono hlep
 have hEN := hEN.mono hlep
 have hE := hE.mono hlep
 have hx : IxP Ip ib (Ix.rputs ((es).map entL) []) := ⟨o, hok.mono hlep, hK⟩
 clear hok hK
 refine J.z q1 ?_
 refine J.nsss (Cj.named (fun I2 hI2 => ?_))
 subst hI2
 refine Cj.old (fun hifr hI0 => ?_)
 obtain ⟨hFn, hFI, hFt, hF0, hS⟩ := fam_of hEN.2
 obtain ⟨F, hF⟩ : ∃ F, F = famOf I2 es := ⟨_, rfl⟩
 rw [← hF] at hFn hFI hFt hF0 hS
 have hkp := keep_hless hFI hFt
 have hA := hA0.mono (le_hless hF0 hI0)
 have hx := ixP_keep hx hkp
 have hR := (rowT_keep hEN.1.rowT hkp (by decide) (by decide)).row
 clear hE
 refine Cj.thaw F hFn hFI (fun p hp => Nat.not_lt.1 fun hlt => by have h1 := hifr p.1 hlt; rw [hFI p hp] at h1; exact absurd (h1.trans (hF0 p hp)) (by simp)) hF0 ?_
 refine Cj.perm (H' := F) (.of_eq (List.append_nil _).symm) ?_
 obtain ⟨pe, ce, hee⟩ := RowS.len hR
 rw [hee] at hR
 refine Cj.eqv 6 rfl hee ?_
 refine Cj.region (J.z q0 ?_)
 refine J.z (q8 underlying27) ?_
 refine J.z q0 ?_
 refine J.ns (Cj.block (Cj.keep Keeps.r ?_))
 refine Cj.loop (ι := Nat × HL) (fun y => y.1 ≤ es.length ∧ FamE y.2 es) (fun y => es.length - y.1) (fun y => [(0, v), (1, u8 n), (5, .bool true), (6, .slice pe es.length ce), (7, ptr ib 0), (23, .slice pe es.length ce), (24, i64 (es.length : Int)), (25, i64 (y.1 : Int))]) (fun y => _) (fun y => y.2) (0, F) ⟨Nat.zero_le _, hS⟩ ⟨rfl, rfl, rfl, rfl, rfl, rfl, rfl, rfl, trivial⟩ rfl rfl ?_
 rintro ⟨k, F1⟩ ⟨hk, hS1⟩
 dsimp only at hk hS1 ⊢
 refine Cj.sr (J.z q13 ?_)
 refine J.nss (Cj.cond rfl (fun hc12 => ?_) (fun hc12 => ?_))
 ·
  have hc12p := of_decide_eq_true hc12
  refine Cj.skip (Ej.seq (Cj.seq (Cj.block (Cj.seq ?_))))
  have hkl : k < es.length := by omega
  obtain ⟨e0, hge⟩ : ∃ x, es[k]? = some x := ⟨_, List.getElem?_eq_getElem hkl⟩
  have hem := List.mem_of_getElem? hge
  have hfl := (hek e0 hem).1
  obtain ⟨p1, c1, hpe, hc1, hp⟩ := id hR
  cases hpe
  obtain ⟨eb, eo, ecs, ety, efr, esp, rfl, heb, hed⟩ := hp (ne_nil_of hkl)
  obtain ⟨pf, cf, hev, -⟩ := (hS1 e0 hem).1
  refine Cj.region (J.z q0 ?_)
  refine J.z q1 ?_
  refine J.nssr (J.z q0 ?_)
  refine J.z q0 ?_
  refine J.z (q18 (off' := eo + k * 5) underlying27 sizeOf37) ?_
  refine J.z (q2 (off' := eo + k * 5 + 2) underlying37 sizeOf35) ?_
  refine J.z (q2 (off' := eo + k * 5 + 2 + 2) underlying35 sizeOf33) ?_
  refine J.z (yl_load rfl rfl isAgg33 (Blk.imm heb) (row_fcell entC_len hed hge 4 (by decide))) ?_
  refine J.eqv 33 rfl (show _ = .slice pf e0.fs.length cf from hev) ?_
  refine J.z (q8 underlying33) ?_
  refine J.z q0 ?_
  refine J.ns (Cj.block (Cj.keep Keeps.r ?_))
  refine Cj.loop (ι := Nat × HL) (fun y => y.1 ≤ e0.fs.length ∧ FamE y.2 es) (fun y => e0.fs.length - y.1) (fun y => [(0, v), (1, u8 n), (5, .bool true), (6, .slice (some ⟨eb, eo, none⟩) es.length ce), (7, ptr ib 0), (23, .slice (some ⟨eb, eo, none⟩) es.length ce), (24, i64 (es.length : Int)), (25, i64 (k : Int)), (8, i64 (k : Int)), (34, i64 (e0.fs.length : Int)), (35, i64 (y.1 : Int))]) (fun y => _) (fun y => y.2) (0, F1) ⟨Nat.zero_le _, hS1⟩ ⟨rfl, rfl, rfl, rfl, rfl, rfl, rfl, rfl, rfl, rfl, rfl, trivial⟩ rfl rfl ?_
  rintro ⟨j, F2⟩ ⟨hj, hS2⟩
  dsimp only at hj hS2 ⊢
  refine Cj.sr (J.z q13 ?_)
  refine J.nss (Cj.cond rfl (fun hc13 => ?_) (fun hc13 => ?_))
  ·
   have hc13p := of_decide_eq_true hc13
   refine Cj.skip (Ej.seq (Cj.seq (Cj.block (Cj.seq ?_))))
   have hjl : j < e0.fs.length := by omega
   obtain ⟨f0, hgf⟩ : ∃ x, e0.fs[j]? = some x := ⟨_, List.getElem?_eq_getElem hjl⟩
   have hsl := ((hek e0 hem).2 f0 (List.mem_of_getElem? hgf)).1
   obtain ⟨pf2, cf2, hev2, hfb⟩ := (hS2 e0 hem).1
   obtain ⟨bf, csf, rfl, hmf, hlf⟩ := hfb (by omega)
   obtain ⟨i1, hi1⟩ := List.getElem?_of_mem hmf
   refine Cj.region (J.z q0 ?_)
   refine J.z q1 ?_
   refine J.nssr (J.z q0 ?_)
   refine J.z q0 ?_
   refine J.z (q18 (off' := eo + k * 5) underlying27 sizeOf37) ?_
   refine J.z (q2 (off' := eo + k * 5 + 2) underlying37 sizeOf35) ?_
   refine J.z (q2 (off' := eo + k * 5 + 2 + 2) underlying35 sizeOf33) ?_
   refine J.z (yl_load rfl rfl isAgg33 (Blk.imm heb) (row_fcell entC_len hed hge 4 (by decide))) ?_
   refine J.eqv 43 rfl (show _ = .slice (some ⟨bf, 0, none⟩) e0.fs.length cf2 from hev2) ?_
   refine J.z q0 ?_
   refine J.z (q18 (off' := j * 4) underlying33 sizeOf31) ?_
   refine J.z q1 ?_
   refine J.nssr (J.z q0 ?_)
   refine J.z q5 ?_
   refine J.z (q2 underlying31 sizeOf9) ?_
   refine J.op rfl (op_store1 i1 rfl rfl rfl rfl rfl rfl sizeOf9 hi1 (.inl rfl) (show j * 4 < csf.length by omega) ⟨(List.getElem?_eq_some_iff.1 hi1).1, rfl⟩ ?_)
   have hS3 := hS2.set hi1 (j * 4) (str [57, 57, 57]) (fun _ j2 => by omega)
   refine J.nss ?_
   obtain ⟨pr, cr, hevr, hfbr⟩ := (hS3 e0 hem).1
   rw [hev2] at hevr
   cases hevr
   obtain ⟨br, csr, hber, hmr, hlr⟩ := hfbr (by omega)
   cases hber
   have hcr := (((hS3 e0 hem).2 j f0 hgf).2) _ _ _ _ hev2 hmr
   obtain ⟨psr, ctr, hsvr, hsbr⟩ := (((hS3 e0 hem).2 j f0 hgf)).1
   refine Cj.region (J.z q0 ?_)
   refine J.z q5 ?_
   refine J.z (q2 (off' := j * 4 + 3) underlying31 sizeOf29) ?_
   refine J.z (yl_load rfl rfl isAgg29 (Blk.mem hmr) hcr) ?_
   refine J.eqv 52 rfl hsvr ?_
   refine J.z (q8 underlying29) ?_
   refine J.z q0 ?_
   refine J.ns (Cj.block (Cj.keep Keeps.r ?_))
   refine Cj.loop (ι := Nat × HL) (fun y => y.1 ≤ f0.subs.length ∧ FamE y.2 es) (fun y => f0.subs.length - y.1) (fun y => [(0, v), (1, u8 n), (5, .bool true), (6, .slice (some ⟨eb, eo, none⟩) es.length ce), (7, ptr ib 0), (23, .slice (some ⟨eb, eo, none⟩) es.length ce), (24, i64 (es.length : Int)), (25, i64 (k : Int)), (8, i64 (k : Int)), (34, i64 (e0.fs.length : Int)), (35, i64 (j : Int)), (10, ptr bf (j * 4)), (53, i64 (f0.subs.length : Int)), (54, i64 (y.1 : Int))]) (fun y => _) (fun y => y.2) (0, _) ⟨Nat.zero_le _, hS3⟩ ⟨rfl, rfl, rfl, rfl, rfl, rfl, rfl, rfl, rfl, rfl, rfl, rfl, rfl, rfl, trivial⟩ rfl rfl ?_
   rintro ⟨i, F4⟩ ⟨hi, hS4⟩
   dsimp only at hi hS4 ⊢
   refine Cj.sr (J.z q13 ?_)
   refine J.nss (Cj.cond rfl (fun hc14 => ?_) (fun hc14 => ?_))
   ·
    have hc14p := of_decide_eq_true hc14
    refine Cj.skip (Ej.seq (Cj.seq (Cj.block (Cj.sr (J.z q0 ?_)))))
    refine J.z q1 ?_
    refine J.ns ?_
    have hil : i < f0.subs.length := by omega
    obtain ⟨pq, cq, hevq, hfbq⟩ := (hS4 e0 hem).1
    rw [hev2] at hevq
    cases hevq
    obtain ⟨bq, csq, hbeq, hmq, hlq⟩ := hfbq (by omega)
    cases hbeq
    have hcq := (((hS4 e0 hem).2 j f0 hgf).2) _ _ _ _ hev2 hmq
    obtain ⟨psq, ctq, hsvq, hsbq⟩ := (((hS4 e0 hem).2 j f0 hgf)).1
    obtain ⟨bs, css, rfl, hms, hls⟩ := hsbq (by omega)
    obtain ⟨i2, hi2⟩ := List.getElem?_of_mem hms
    refine Cj.region (J.z q0 ?_)
    refine J.z q5 ?_
    refine J.z (q2 (off' := j * 4 + 3) underlying31 sizeOf29) ?_
    refine J.z (yl_load rfl rfl isAgg29 (Blk.mem hmq) hcq) ?_
    refine J.eqv 60 rfl hsvq ?_
    refine J.z q0 ?_
    refine J.z (q18 (off' := i * 2) underlying29 sizeOf65) ?_
    refine J.z (q2 (off' := i * 2 + 1) underlying65 sizeOf9) ?_
    refine J.op rfl (op_store1 i2 rfl rfl rfl rfl rfl rfl sizeOf9 hi2 (.inl rfl) (by omega) ⟨(List.getElem?_eq_some_iff.1 hi2).1, rfl⟩ ?_)
    have hS5 := hS4.set hi2 (i * 2 + 1) (str [99, 104, 97, 110, 103, 101, 100]) (fun h => absurd h (by decide))
    refine J.nil (Ej.blkNormal (Ej.seq (Cj.region (J.z (yl_add rfl rfl rfl (w64 (by omega))) ?_))))
    refine J.z q0 ?_
    refine J.nil (Ej.round (i + 1, _) ⟨by dsimp only; omega, hS5⟩ (by dsimp only; omega) ⟨rfl, rfl, rfl, rfl, rfl, rfl, rfl, rfl, rfl, rfl, rfl, rfl, rfl, rfl, trivial⟩ rfl rfl)
   have hc14p := of_decide_eq_false hc14
   refine Cj.exit (Ej.seqExit (Ej.loopExit (Ej.blkExit (Ej.blkNormal (Ej.seq (Cj.region (J.z (yl_add rfl rfl rfl (w64 (by omega))) ?_)))))))
   refine J.z q0 ?_
   refine J.nil (Ej.round (j + 1, _) ⟨by dsimp only; omega, hS4⟩ (by dsimp only; omega) ⟨rfl, rfl, rfl, rfl, rfl, rfl, rfl, rfl, rfl, rfl, rfl, trivial⟩ rfl rfl)
  have hc13p := of_decide_eq_false hc13
  refine Cj.exit (Ej.seqExit (Ej.loopExit (Ej.blkExit (Ej.blkNormal (Ej.seq (Cj.region (J.z (yl_add rfl rfl rfl (w64 (by omega))) ?_)))))))
  refine J.z q0 ?_
  refine J.nil (Ej.round (k + 1, _) ⟨by dsimp only; omega, hS2⟩ (by dsimp only; omega) ⟨rfl, rfl, rfl, rfl, rfl, rfl, rfl, rfl, trivial⟩ rfl rfl)
 have hc12p := of_decide_eq_false hc12
 refine Cj.exit (Ej.seqExit (Ej.loopExit (Ej.blkExit (Ej.seq (Cj.seq (Cj.keep (List.nil_sublist _) ?_))))))
 refine Cj.region (J.z q0 ?_)
 refine J.op rfl (op_call (H1 := []) rfl rfl rfl rfl rfl (Entries_ok xs _ hao _ hA) ?_ (fun _ _ _ _ ⟨_, _, h, _⟩ => nomatch h) (fun _ _ ⟨_, _, h, _⟩ => nomatch h))
 intro v15 I16 H17 hle18 hp19
 have hA := hA.mono hle18
 have hx := hx.mono hle18
 have hR := hR.mono hle18
 obtain ⟨es2, w2, h, hE2, hL2, hek2, hel2, rfl⟩ := hp19; cases h
 refine J.op rfl (op_callN rfl rfl rfl rfl rfl (Build_ok (es2) _ (by omega) hek2 _ hE2) ?_ (fun _ _ _ _ ⟨_, _, h, _⟩ => nomatch h) (fun _ _ ⟨_, _, h, _⟩ => nomatch h))
 intro v21 I22 H23 hle24 hn20 hp25
 have hA := hA.mono hle24
 have hx := hx.mono hle24
 have hR := hR.mono hle24
 have hE2 := hE2.mono hle24
 obtain ⟨ib2, o2, h, hok, rfl⟩ := hp25; cases h
 refine J.persists (ixH ib2 o2) hn20 (fun Ip2 hlep hK => ?_)
 have hA := hA.mono hlep
 have hx := hx.mono hlep
 have hR := hR.mono hlep
 have hE2 := hE2.mono hlep
 have hx2 : IxP Ip2 ib2 (Ix.rputs ((es2).map entL) []) := ⟨o2, hok.mono hlep, hK⟩
 clear hok hK
 rw [hL2] at hx2
 refine J.z q1 ?_
 refine J.ns ?_
 rw [hL] at hx
 refine Cj.sr (J.z q0 ?_)
 refine J.z q0 ?_
 refine J.op rfl (op_pure rfl rfl rfl rfl rfl (name_ok n _) ?_)
 refine J.op rfl (op_call (H1 := []) rfl rfl rfl rfl rfl (Scan_ok ib (Ix.rputs (Ix.ents (acts xs)) []) (nameN n) [] (by decide) 50 _ hx) ?_ (fun _ _ _ _ ⟨_, h, _⟩ => nomatch h) (fun _ _ ⟨_, h, _⟩ => nomatch h))
 intro v26 I27 H28 hle29 hp30
 have hA := hA.mono hle29
 have hx := hx.mono hle29
 have hR := hR.mono hle29
 have hE2 := hE2.mono hle29
 have hx2 := hx2.mono hle29
 obtain ⟨wa, h, hoa⟩ := hp30; cases h
 have hG := own_fam lineC_len hoa
 obtain ⟨Fa, hFa⟩ : ∃ F, F = H28 := ⟨_, rfl⟩
 rw [← hFa] at hG
 refine J.perm (H' := Fa) (.of_eq (by rw [hFa, List.append_nil])) ?_
 obtain ⟨pa, ca, hae, -⟩ := id hG
 refine J.eqv 73 rfl hae ?_
 rw [hae] at hG
 have hall := scan_small (Ix.rputs (Ix.ents (acts xs)) []) (nameN n) [] 50
 refine J.z q1 ?_
 refine J.nsss (Cj.region (J.z q0 ?_))
 refine J.z (q8 underlying47) ?_
 refine J.z q0 ?_
 refine J.ns (Cj.block (Cj.keep Keeps.r ?_))
 refine Cj.loop (ι := Nat × HL) (fun y => y.1 ≤ ((Ix.scan (Ix.rputs (Ix.ents (acts xs)) []) (nameN n) [] 50).map lineI).length ∧ FamRow 57 2 y.2 ((Ix.scan (Ix.rputs (Ix.ents (acts xs)) []) (nameN n) [] 50).map lineI).length (.slice pa ((Ix.scan (Ix.rputs (Ix.ents (acts xs)) []) (nameN n) [] 50).map lineI).length ca)) (fun y => ((Ix.scan (Ix.rputs (Ix.ents (acts xs)) []) (nameN n) [] 50).map lineI).length - y.1) (fun y => [(1, u8 n), (5, .bool true), (7, ptr ib 0), (12, ptr ib2 0), (13, .slice pa ((Ix.scan (Ix.rputs (Ix.ents (acts xs)) []) (nameN n) [] 50).map lineI).length ca), (75, i64 (((Ix.scan (Ix.rputs (Ix.ents (acts xs)) []) (nameN n) [] 50).map lineI).length : Int)), (76, i64 (y.1 : Int))]) (fun y => _) (fun y => y.2) (0, Fa) ⟨Nat.zero_le _, hG⟩ ⟨rfl, rfl, rfl, rfl, rfl, rfl, rfl, trivial⟩ rfl rfl ?_
 rintro ⟨k, F1⟩ ⟨hk, hG1⟩
 dsimp only at hk hG1 ⊢
 refine Cj.sr (J.z q13 ?_)
 refine J.nss (Cj.cond rfl (fun hc31 => ?_) (fun hc31 => ?_))
 ·
  have hc31p := of_decide_eq_true hc31
  refine Cj.skip (Ej.seq (Cj.seq (Cj.block (Cj.seq ?_))))
  have hkl : k < ((Ix.scan (Ix.rputs (Ix.ents (acts xs)) []) (nameN n) [] 50).map lineI).length := by omega
  obtain ⟨p6, c6, hve, hgb⟩ := id hG1
  cases hve
  obtain ⟨bl, csl, rfl, hml, hll⟩ := hgb (by omega)
  obtain ⟨i3, hi3⟩ := List.getElem?_of_mem hml
  refine Cj.region (J.z q0 ?_)
  refine J.z q1 ?_
  refine J.nsr (J.z q0 ?_)
  refine J.z q0 ?_
  refine J.z (q18 (off' := k * 2) underlying47 sizeOf57) ?_
  refine J.z (q2 underlying57 sizeOf9) ?_
  refine J.op rfl (op_store1 i3 rfl rfl rfl rfl rfl rfl sizeOf9 hi3 (.inl rfl) (show k * 2 < csl.length by omega) ⟨(List.getElem?_eq_some_iff.1 hi3).1, rfl⟩ ?_)
  have hG2 := hG1.set hi3 (k * 2) (str [63])
  refine J.nil (Ej.blkNormal (Ej.seq (Cj.region (J.z (yl_add rfl rfl rfl (w64 (by omega))) ?_))))
  refine J.z q0 ?_
  refine J.nil (Ej.round (k + 1, _) ⟨by dsimp only; omega, hG2⟩ (by dsimp only; omega) ⟨rfl, rfl, rfl, rfl, rfl, rfl, rfl, trivial⟩ rfl rfl)
 have hc31p := of_decide_eq_false hc31
 refine Cj.exit (Ej.seqExit (Ej.loopExit (Ej.blkExit (Ej.seq (Cj.seq (Cj.seq (Cj.named (fun In hIn => ?_))))))))
 subst hIn
 refine Cj.keep (List.nil_sublist _) ?_
 refine Cj.region (J.z q0 ?_)
 refine J.ns (Cj.block (Cj.loop (ι := Nat × Heap) (fun y => y.1 ≤ 5 ∧ Le In y.2) (fun y => 5 - y.1) (fun y => [(1, u8 n), (5, .bool true), (7, ptr ib 0), (12, ptr ib2 0), (84, i64 (y.1 : Int))]) (fun y => y.2) (fun y => []) (0, _) ⟨Nat.zero_le _, Le.refl _⟩ ⟨rfl, rfl, rfl, rfl, rfl, trivial⟩ rfl rfl ?_))
 rintro ⟨k, J1⟩ ⟨hk, hIJ⟩
 dsimp only at hk hIJ ⊢
 have hx := hx.mono hIJ
 have hx2 := hx2.mono hIJ
 refine Cj.sr (J.z q13 ?_)
 refine J.nss (Cj.cond rfl (fun hc32 => ?_) (fun hc32 => ?_))
 ·
  have hc32p := of_decide_eq_true hc32
  refine Cj.skip (Ej.seq (Cj.seq (Cj.block (Cj.sr (J.z q0 ?_)))))
  refine J.z q1 ?_
  refine J.nssr (J.z q0 ?_)
  refine J.z q0 ?_
  refine J.op rfl (op_pure rfl rfl rfl rfl rfl (name_ok n _) ?_)
  refine J.z q0 ?_
  refine J.op rfl (op_pure rfl rfl rfl rfl rfl (nText_ok (k : Int) _) ?_)
  refine J.op rfl (op_call (H1 := []) rfl rfl rfl rfl rfl (Word_ok ib (Ix.rputs (Ix.ents (acts xs)) []) (nameN n) (Ix.textN (k : Int)) (Nat.le_trans (Ix.textN_len _) (by decide)) _ hx) ?_ (fun _ _ _ _ ⟨_, h, _⟩ => nomatch h) (fun _ _ ⟨_, h, _⟩ => nomatch h))
  intro v33 I34 H35 hle36 hp37
  have hIJ := hIJ.mono hle36
  have hx := hx.mono hle36
  have hx2 := hx2.mono hle36
  obtain ⟨wb, h, hob⟩ := hp37; cases h
  have hT := own_famT hob
  obtain ⟨Fb, hFb⟩ : ∃ F, F = H35 := ⟨_, rfl⟩
  rw [← hFb] at hT
  refine J.perm (H' := Fb) (.of_eq (by rw [hFb, List.append_nil])) ?_
  obtain ⟨pb, cb, hbe, -⟩ := id hT
  refine J.eqv 92 rfl hbe ?_
  rw [hbe] at hT
  have hwl : (Ix.word (Ix.rputs (Ix.ents (acts xs)) []) (nameN n) (Ix.textN (k : Int))).length ≤ 100 := word_le xs n k
  refine J.z q1 ?_
  refine J.nssr (J.z q0 ?_)
  refine J.z (q8 underlying44) ?_
  refine J.z q0 ?_
  refine J.ns (Cj.block (Cj.keep Keeps.r ?_))
  refine Cj.loop (ι := Nat × HL) (fun y => y.1 ≤ (Ix.word (Ix.rputs (Ix.ents (acts xs)) []) (nameN n) (Ix.textN (k : Int))).length ∧ FamT y.2 (Ix.word (Ix.rputs (Ix.ents (acts xs)) []) (nameN n) (Ix.textN (k : Int))).length (.slice pb (Ix.word (Ix.rputs (Ix.ents (acts xs)) []) (nameN n) (Ix.textN (k : Int))).length cb)) (fun y => (Ix.word (Ix.rputs (Ix.ents (acts xs)) []) (nameN n) (Ix.textN (k : Int))).length - y.1) (fun y => [(1, u8 n), (5, .bool true), (7, ptr ib 0), (12, ptr ib2 0), (84, i64 (k : Int)), (16, .slice pb (Ix.word (Ix.rputs (Ix.ents (acts xs)) []) (nameN n) (Ix.textN (k : Int))).length cb), (94, i64 ((Ix.word (Ix.rputs (Ix.ents (acts xs)) []) (nameN n) (Ix.textN (k : Int))).length : Int)), (95, i64 (y.1 : Int))]) (fun y => _) (fun y => y.2) (0, Fb) ⟨Nat.zero_le _, hT⟩ ⟨rfl, rfl, rfl, rfl, rfl, rfl, rfl, rfl, trivial⟩ rfl rfl ?_
  rintro ⟨j, F1⟩ ⟨hj, hT1⟩
  dsimp only at hj hT1 ⊢
  refine Cj.sr (J.z q13 ?_)
  refine J.nss (Cj.cond rfl (fun hc38 => ?_) (fun hc38 => ?_))
  ·
   have hc38p := of_decide_eq_true hc38
   refine Cj.skip (Ej.seq (Cj.seq (Cj.block (Cj.seq ?_))))
   have hjl : j < (Ix.word (Ix.rputs (Ix.ents (acts xs)) []) (nameN n) (Ix.textN (k : Int))).length := by omega
   obtain ⟨p7, c7, hve7, hgb7⟩ := id hT1
   cases hve7
   obtain ⟨bt, cst, rfl, hmt, hlt, hzt⟩ := hgb7 (by omega)
   obtain ⟨i4, hi4⟩ := List.getElem?_of_mem hmt
   obtain ⟨z4, hz4⟩ := hzt j hjl
   refine Cj.region (J.z q0 ?_)
   refine J.z q1 ?_
   refine J.nsr (J.z q0 ?_)
   refine J.z q0 ?_
   refine J.z (q18 (off' := j * 2) underlying44 sizeOf26) ?_
   refine J.z (q2 (off' := j * 2 + 1) underlying26 sizeOf3) ?_
   refine J.z (yl_load rfl rfl isAgg3 (Blk.mem hmt) hz4) ?_
   refine J.z (yl_addW rfl rfl rfl) ?_
   refine J.z (q18 (off' := j * 2) underlying44 sizeOf26) ?_
   refine J.z (q2 (off' := j * 2 + 1) underlying26 sizeOf3) ?_
   refine J.op rfl (op_store1 i4 rfl rfl rfl rfl rfl rfl sizeOf3 hi4 (.inl rfl) (by omega) ⟨(List.getElem?_eq_some_iff.1 hi4).1, rfl⟩ ?_)
   have hT2 := FamT.set (c := cb) rfl hmt hlt hzt hi4 j hjl (IntKind.i64.wrap (z4 + 1000))
   refine J.nil (Ej.blkNormal (Ej.seq (Cj.region (J.z (yl_add rfl rfl rfl (w64 (by omega))) ?_))))
   refine J.z q0 ?_
   refine J.nil (Ej.round (j + 1, _) ⟨by dsimp only; omega, hT2⟩ (by dsimp only; omega) ⟨rfl, rfl, rfl, rfl, rfl, rfl, rfl, rfl, trivial⟩ rfl rfl)
  have hc38p := of_decide_eq_false hc38
  refine Cj.exit (Ej.seqExit (Ej.loopExit (Ej.blkExit (Ej.blkNormal (Ej.seq (Cj.keep (List.nil_sublist _) ?_))))))
  refine Cj.region (J.z (yl_add rfl rfl rfl (w64 (by omega))) ?_)
  refine J.z q0 ?_
  refine J.nil (Ej.round (k + 1, _) ⟨by dsimp only; omega, hIJ⟩ (by dsimp only; omega) ⟨rfl, rfl, rfl, rfl, rfl, trivial⟩ rfl rfl)
 have hc32p := of_decide_eq_false hc32
 refine Cj.exit (Ej.seqExit (Ej.loopExit (Ej.blkExit (Ej.seq (Cj.sr (J.z q0 ?_))))))
 refine J.z q0 ?_
 refine q15 1 109 true (q4 q0 ?_)
 refine q15 1 109 true (q4 q0 ?_)
 refine q15 1 109 true (op_pure rfl rfl rfl rfl rfl (name_ok n _) ?_)
 refine J.opG 1 109 true _ rfl rfl rfl rfl (op_callN rfl rfl rfl rfl rfl (Scan_ok ib (Ix.rputs (Ix.ents (acts xs)) []) (nameN n) [] (by decide) 50 _ hx) ?_ (fun _ _ _ _ ⟨_, h, _⟩ => nomatch h) (fun _ _ ⟨_, h, _⟩ => nomatch h))
 intro v40 I41 H42 hle43 hn39 hp44
 have hIJ := hIJ.mono hle43
 have hx := hx.mono hle43
 have hx2 := hx2.mono hle43
 obtain ⟨wc, h, hoc⟩ := hp44; cases h
 refine J.keepO hoc hn39 (fun Ic hlec hrc => ?_)
 have hIJ := hIJ.mono hlec
 have hx := hx.mono hlec
 have hx2 := hx2.mono hlec
 replace hrc := hrc.row
 refine q15 1 109 true (q4 q0 ?_)
 refine q15 1 109 true (q4 q0 ?_)
 refine q15 1 109 true (op_pure rfl rfl rfl rfl rfl (name_ok n _) ?_)
 refine J.opG 1 109 true _ rfl rfl rfl rfl (op_callN rfl rfl rfl rfl rfl (Scan_ok ib2 (Ix.rputs (Ix.ents (acts xs)) []) (nameN n) [] (by decide) 50 _ hx2) ?_ (fun _ _ _ _ ⟨_, h, _⟩ => nomatch h) (fun _ _ ⟨_, h, _⟩ => nomatch h))
 intro v46 I47 H48 hle49 hn45 hp50
 have hIJ := hIJ.mono hle49
 have hx := hx.mono hle49
 have hx2 := hx2.mono hle49
 have hrc := hrc.mono hle49
 obtain ⟨wd, h, hod⟩ := hp50; cases h
 refine J.keepO hod hn45 (fun Id hled hrd => ?_)
 have hIJ := hIJ.mono hled
 have hx := hx.mono hled
 have hx2 := hx2.mono hled
 have hrc := hrc.mono hled
 replace hrd := hrd.row
 refine J.opG 1 109 true _ rfl rfl rfl rfl (op_pure rfl rfl rfl rfl rfl (rLines_ok ((Ix.scan (Ix.rputs (Ix.ents (acts xs)) []) (nameN n) [] 50).map lineI) ((Ix.scan (Ix.rputs (Ix.ents (acts xs)) []) (nameN n) [] 50).map lineI) _ _ (by have := scan_small (Ix.rputs (Ix.ents (acts xs)) []) (nameN n) [] 50; omega) _ hrc hrd) ?_)
 refine J.eqv 118 rfl (show _ = .bool true from (congrArg Value.bool (decide_eq_true rfl))) ?_
 refine J.z (yl_pick1 rfl rfl rfl rfl) ?_
 refine J.z q0 ?_
 refine q15 12 120 true (q4 q0 ?_)
 refine q15 12 120 true (q4 q0 ?_)
 refine q15 12 120 true (op_pure rfl rfl rfl rfl rfl (name_ok n _) ?_)
 refine J.opG 12 120 true _ rfl rfl rfl rfl (op_callN rfl rfl rfl rfl rfl (Word_ok ib (Ix.rputs (Ix.ents (acts xs)) []) (nameN n) [115, 101, 97] (by decide) _ hx) ?_ (fun _ _ _ _ ⟨_, h, _⟩ => nomatch h) (fun _ _ ⟨_, h, _⟩ => nomatch h))
 intro v52 I53 H54 hle55 hn51 hp56
 have hIJ := hIJ.mono hle55
 have hx := hx.mono hle55
 have hx2 := hx2.mono hle55
 have hrc := hrc.mono hle55
 have hrd := hrd.mono hle55
 obtain ⟨we, h, hoe⟩ := hp56; cases h
 refine J.keepO hoe hn51 (fun Ie hlee hre => ?_)
 have hIJ := hIJ.mono hlee
 have hx := hx.mono hlee
 have hx2 := hx2.mono hlee
 have hrc := hrc.mono hlee
 have hrd := hrd.mono hlee
 replace hre := hre.row
 refine q15 12 120 true (q4 q0 ?_)
 refine q15 12 120 true (q4 q0 ?_)
 refine q15 12 120 true (op_pure rfl rfl rfl rfl rfl (name_ok n _) ?_)
 refine J.opG 12 120 true _ rfl rfl rfl rfl (op_callN rfl rfl rfl rfl rfl (Word_ok ib2 (Ix.rputs (Ix.ents (acts xs)) []) (nameN n) [115, 101, 97] (by decide) _ hx2) ?_ (fun _ _ _ _ ⟨_, h, _⟩ => nomatch h) (fun _ _ ⟨_, h, _⟩ => nomatch h))
 intro v58 I59 H60 hle61 hn57 hp62
 have hIJ := hIJ.mono hle61
 have hx := hx.mono hle61
 have hx2 := hx2.mono hle61
 have hrc := hrc.mono hle61
 have hrd := hrd.mono hle61
 have hre := hre.mono hle61
 obtain ⟨wf, h, hof⟩ := hp62; cases h
 refine J.keepO hof hn57 (fun If hlef hrf => ?_)
 have hIJ := hIJ.mono hlef
 have hx := hx.mono hlef
 have hx2 := hx2.mono hlef
 have hrc := hrc.mono hlef
 have hrd := hrd.mono hlef
 have hre := hre.mono hlef
 replace hrf := hrf.row
 refine J.opG 12 120 true _ rfl rfl rfl rfl (op_pure rfl rfl rfl rfl rfl (rRecs_ok (Ix.word (Ix.rputs (Ix.ents (acts xs)) []) (nameN n) [115, 101, 97]) (Ix.word (Ix.rputs (Ix.ents (acts xs)) []) (nameN n) [115, 101, 97]) _ _ (Nat.le_trans (sea_le xs n) (by decide)) _ hre hrf) ?_)
 refine J.eqv 129 rfl (show _ = .bool true from (congrArg Value.bool (decide_eq_true rfl))) ?_
 refine J.z (yl_pick1 rfl rfl rfl rfl) ?_
 refine J.z q1 ?_
 refine J.ns (Cj.ret (q6 ?_))
 exact ⟨rfl, rfl⟩
end Go.Proofs.YtjcdfnbomkoheaaGreatDoor
