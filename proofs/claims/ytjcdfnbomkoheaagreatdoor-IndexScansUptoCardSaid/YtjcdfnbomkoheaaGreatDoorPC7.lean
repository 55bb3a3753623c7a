/-
  Own texts on the laws of the seat, joined: the logic, and contracts of functions. Conditions: none.
-/
import Derived.Test.YtjcdfnbomkoheaaGreatDoorPC6
import Derived.Test.YtjcdfnbomkoheaaGreatDoorPC2
import Derived.Lib.FieldsP
import Derived.Laws.AppendOwn
set_option maxRecDepth 100000
set_option maxHeartbeats 4000000
section
namespace Ix
open Ke
abbrev Rec := Int × Int
def lessR (a b : Rec) : Bool := decide (a.1 < b.1) || (decide (a.1 = b.1) && decide (a.2 < b.2))
theorem lessR_iff {a b : Rec} : lessR a b = true ↔ a.1 < b.1 ∨ (a.1 = b.1 ∧ a.2 < b.2) := by simp [lessR]
theorem lessR_irr (a : Rec) : lessR a a = false := by rw [Bool.eq_false_iff, Ne, lessR_iff]; omega
theorem lessR_trans {a b c : Rec} (h1 : lessR a b = true) (h2 : lessR b c = true) : lessR a c = true := by
  rw [lessR_iff] at *; omega
theorem lessR_tri (a b : Rec) : lessR a b = true ∨ a = b ∨ lessR b a = true := by
  rw [lessR_iff, lessR_iff]
  by_cases h : a = b
  · exact .inr (.inl h)
  have : a.1 ≠ b.1 ∨ a.2 ≠ b.2 := by
    by_cases h1 : a.1 = b.1
    · exact .inr fun h2 => h (Prod.ext h1 h2)
    exact .inl h1
  omega
section
variable {β : Type}
abbrev Ls (β : Type) := List (Rec × β)
def Srt (l : Ls β) : Prop := l.Pairwise fun a b => lessR a.1 b.1 = true
def rput (t : Rec) (v : β) : Ls β → Ls β
  | [] => [(t, v)]
  | (u, x) :: r => if lessR u t then (u, x) :: rput t v r else if u = t then (t, v) :: r else (t, v) :: (u, x) :: r
def rdrop (t : Rec) (l : Ls β) : Ls β := l.filter fun e => decide (e.1 ≠ t)
def rget (l : Ls β) (t : Rec) : Option β := (l.find? fun e => decide (e.1 = t)).map (·.2)
theorem rput_mem (t : Rec) (v : β) : ∀ {l : Ls β}, Srt l → ∀ e, e ∈ rput t v l ↔ e = (t, v) ∨ (e ∈ l ∧ e.1 ≠ t)
  | [], _, e => by simp [rput]
  | (u, x) :: r, h, e => by
    have h' := List.pairwise_cons.1 h
    unfold rput
    by_cases h1 : lessR u t = true
    · rw [if_pos h1, List.mem_cons, rput_mem t v h'.2, List.mem_cons]
      have hu : u ≠ t := fun g => by rw [g, lessR_irr] at h1; cases h1
      constructor
      · rintro (g | g | g)
        · exact .inr ⟨.inl g, by rw [g]; exact hu⟩
        · exact .inl g
        exact .inr ⟨.inr g.1, g.2⟩
      rintro (g | ⟨g | g, h2⟩)
      · exact .inr (.inl g)
      · exact .inl g
      exact .inr (.inr ⟨g, h2⟩)
    rw [if_neg h1]
    by_cases h2 : u = t
    · rw [if_pos h2, List.mem_cons, List.mem_cons]
      subst h2
      constructor
      · rintro (g | g)
        · exact .inl g
        refine .inr ⟨.inr g, fun h3 => ?_⟩
        have := h'.1 e g
        rw [h3] at this
        simp only [lessR_irr] at this; cases this
      rintro (g | ⟨g | g, h3⟩)
      · exact .inl g
      · exact absurd (by rw [g]) h3
      exact .inr g
    rw [if_neg h2, List.mem_cons]
    have h3 : lessR t u = true := ((lessR_tri u t).resolve_left h1).resolve_left h2
    constructor
    · rintro (g | g)
      · exact .inl g
      refine .inr ⟨g, fun h4 => ?_⟩
      rcases List.mem_cons.1 g with g | g
      · rw [g] at h4; exact h2 h4
      have := lessR_trans h3 (h'.1 e g)
      rw [h4, lessR_irr] at this; cases this
    rintro (g | g)
    · exact .inl g
    exact .inr g.1
theorem rput_srt (t : Rec) (v : β) : ∀ {l : Ls β}, Srt l → Srt (rput t v l)
  | [], _ => List.pairwise_singleton _ _
  | (u, x) :: r, h => by
    have h' := List.pairwise_cons.1 h
    unfold rput
    by_cases h1 : lessR u t = true
    · rw [if_pos h1]
      refine List.pairwise_cons.2 ⟨fun e he => ?_, rput_srt t v h'.2⟩
      rcases (rput_mem t v h'.2 e).1 he with g | g
      · rw [g]; exact h1
      exact h'.1 e g.1
    rw [if_neg h1]
    by_cases h2 : u = t
    · rw [if_pos h2]
      subst h2
      exact List.pairwise_cons.2 ⟨fun e he => h'.1 e he, h'.2⟩
    rw [if_neg h2]
    have h3 : lessR t u = true := ((lessR_tri u t).resolve_left h1).resolve_left h2
    refine List.pairwise_cons.2 ⟨fun e he => ?_, h⟩
    rcases List.mem_cons.1 he with g | g
    · rw [g]; exact h3
    exact lessR_trans h3 (h'.1 e g)
theorem rdrop_srt (t : Rec) {l : Ls β} (h : Srt l) : Srt (rdrop t l) := h.filter _
theorem rdrop_mem (t : Rec) (l : Ls β) (e : Rec × β) : e ∈ rdrop t l ↔ e ∈ l ∧ e.1 ≠ t := by simp [rdrop]
theorem srt_eq {a b : Ls β} (ha : Srt a) (hb : Srt b) (h : ∀ e, e ∈ a ↔ e ∈ b) : a = b := by
  induction a generalizing b with
  | nil =>
    rcases b with _ | ⟨y, t⟩
    · rfl
    exact absurd ((h y).2 (.head _)) (by simp)
  | cons x r ih =>
    rcases b with _ | ⟨y, t⟩
    · exact absurd ((h x).1 (.head _)) (by simp)
    have ha' := List.pairwise_cons.1 ha
    have hb' := List.pairwise_cons.1 hb
    have hxy : x = y := by
      rcases List.mem_cons.1 ((h x).1 (.head _)) with e | e
      · exact e
      rcases List.mem_cons.1 ((h y).2 (.head _)) with e2 | e2
      · exact e2.symm
      have := lessR_trans (hb'.1 x e) (ha'.1 y e2)
      rw [lessR_irr] at this; cases this
    subst hxy
    rw [ih ha'.2 hb'.2 fun z => ⟨fun hz => ?_, fun hz => ?_⟩]
    · rcases List.mem_cons.1 ((h z).1 (.tail _ hz)) with rfl | e
      · have := ha'.1 z hz; rw [lessR_irr] at this; cases this
      exact e
    rcases List.mem_cons.1 ((h z).2 (.tail _ hz)) with rfl | e
    · have := hb'.1 z hz; rw [lessR_irr] at this; cases this
    exact e
theorem srt_key {l : Ls β} (h : Srt l) {a b : Rec × β} (ha : a ∈ l) (hb : b ∈ l) (he : a.1 = b.1) : a = b := by
  induction l with
  | nil => cases ha
  | cons x r ih =>
    have h' := List.pairwise_cons.1 h
    rcases List.mem_cons.1 ha with g1 | g1 <;> rcases List.mem_cons.1 hb with g2 | g2
    · rw [g1, g2]
    · have := h'.1 b g2; rw [← g1, he, lessR_irr] at this; cases this
    · have := h'.1 a g1; rw [← g2, ← he, lessR_irr] at this; cases this
    exact ih h'.2 g1 g2
theorem srt_nodup {l : Ls β} (h : Srt l) : (l.map (·.1)).Nodup := by
  rw [List.nodup_iff_pairwise_ne, List.pairwise_map]
  exact h.imp fun {a b} g e => by rw [e, lessR_irr] at g; cases g
theorem rget_iff {l : Ls β} (h : Srt l) {t : Rec} {v : β} : rget l t = some v ↔ (t, v) ∈ l := by
  unfold rget
  constructor
  · intro g
    obtain ⟨e, he, rfl⟩ := Option.map_eq_some_iff.1 g
    have h1 := List.find?_some he
    have h2 : e.1 = t := of_decide_eq_true h1
    have := List.mem_of_find?_eq_some he
    rw [← h2]; exact this
  intro g
  have hs : (l.find? fun e => decide (e.1 = t)).isSome = true := by
    rw [List.find?_isSome]; exact ⟨_, g, by simp⟩
  obtain ⟨e, he⟩ := Option.isSome_iff_exists.1 hs
  have h0 := List.find?_some he
  have h1 : e.1 = t := of_decide_eq_true h0
  have h2 := srt_key h (List.mem_of_find?_eq_some he) g h1
  rw [he, h2]; rfl
theorem rget_none {l : Ls β} {t : Rec} : rget l t = none ↔ ∀ e ∈ l, e.1 ≠ t := by
  unfold rget
  rw [Option.map_eq_none_iff, List.find?_eq_none]
  simp
def rputs (es l : Ls β) : Ls β := es.foldl (fun l e => rput e.1 e.2 l) l
end
end Ix
end
section
namespace Ke
def isb (s : Sub) : Option Bs := if (isbn s.text).2 = true ∧ s.code = 97 then some (isbn s.text).1 else none
end Ke
end
section
namespace Ix
open Ke
def runsF (w : Bs) : Bs → List Bs
  | [] => if w = [] then [] else [w]
  | c :: r => if digit c then runsF (w ++ [c]) r else if w = [] then runsF [] r else w :: runsF [] r
def runsD (s : Bs) : List Bs := runsF [] s
def yearOf (s : Bs) : Option Bs := (runsD s).find? fun x => decide (x.length = 4)
structure V where
  name : Bs
  text : Bs
  skip : Nat
def V.key (v : V) : Bs := sortKey v.text v.skip
def V.ws (v : V) : Row := words v.text
def nTitle : Bs := [116, 105, 116, 108, 101]
def nAuthor : Bs := [97, 117, 116, 104, 111, 114]
def nSubject : Bs := [115, 117, 98, 106, 101, 99, 116]
def nIsbn : Bs := [105, 115, 98, 110]
def nYear : Bs := [121, 101, 97, 114]
def nAny : Bs := [97, 110, 121]
def names : List Bs := [nAny, nAuthor, nIsbn, nSubject, nTitle, nYear]
def allText (f : Fld) : Bs := join (f.subs.map (·.text))
def yr (s : Sub) : Option Bs := if s.code = 99 then yearOf s.text else none
def named (f : Fld) : Bs × Row :=
  if f.tag = [50, 52, 53] ∨ f.tag = [50, 52, 54] then (nTitle, [textOf f [97, 98]])
  else if f.tag = [49, 48, 48] ∨ f.tag = [49, 49, 48] ∨ f.tag = [55, 48, 48] then (nAuthor, [textOf f [97]])
  else if f.tag = [54, 48, 48] ∨ f.tag = [54, 53, 48] then (nSubject, [textOf f [97, 120]])
  else if f.tag = [48, 50, 48] then (nIsbn, f.subs.filterMap isb)
  else if f.tag = [50, 54, 48] then (nYear, f.subs.filterMap yr)
  else ([], [])
def skipT (f : Fld) : Nat := if f.tag = [50, 52, 53] then skip f else 0
def anyOk (f : Fld) : Bool := !([48, 48] : Bs).isPrefixOf f.tag && !([57] : Bs).isPrefixOf f.tag
def vals1 (f : Fld) : List V := (named f).2.map (fun s => ⟨(named f).1, s, skipT f⟩) ++ if anyOk f then [⟨nAny, allText f, 0⟩] else []
def vals (fs : List Fld) : List V := fs.flatMap vals1
def ofN (f : Fld) (n : Bs) : List (Bs × Nat) :=
  if n = nTitle then (if f.tag = [50, 52, 53] ∨ f.tag = [50, 52, 54] then [(textOf f [97, 98], skipT f)] else [])
  else if n = nAuthor then (if f.tag = [49, 48, 48] ∨ f.tag = [49, 49, 48] ∨ f.tag = [55, 48, 48] then [(textOf f [97], 0)] else [])
  else if n = nSubject then (if f.tag = [54, 48, 48] ∨ f.tag = [54, 53, 48] then [(textOf f [97, 120], 0)] else [])
  else if n = nIsbn then (if f.tag = [48, 50, 48] then (f.subs.filterMap isb).map fun s => (s, 0) else [])
  else if n = nYear then (if f.tag = [50, 54, 48] then (f.subs.filterMap yr).map fun s => (s, 0) else [])
  else if n = nAny then (if anyOk f then [(allText f, 0)] else [])
  else []
def valsN (fs : List Fld) (n : Bs) : List (Bs × Nat) := fs.flatMap fun f => ofN f n
abbrev V.ts (v : V) : Bs × Nat := (v.text, v.skip)
theorem filter_map_name (n m : Bs) (k : Nat) (l : Row) : ((l.map fun s => (⟨m, s, k⟩ : V)).filter fun v => decide (v.name = n)).map V.ts = if m = n then l.map (fun s => (s, k)) else [] := by
  rw [List.filter_map]
  by_cases h : m = n
  · subst h
    simp only [Function.comp_def, decide_true, List.map_map, if_true]
    rw [List.filter_eq_self.2 fun _ _ => rfl]
  simp [Function.comp_def, h]
theorem ofN_named (f : Fld) (n : Bs) (hn : n ≠ nAny) : (if (named f).1 = n then (named f).2.map (fun s => (s, skipT f)) else []) = ofN f n := by
  unfold ofN
  rw [if_neg (c := n = nAny) hn]
  have h245 : f.tag ≠ [50, 52, 53] → skipT f = 0 := fun h => if_neg h
  unfold named
  split
  · rename_i t1
    have a1 : ¬ (f.tag = [49, 48, 48] ∨ f.tag = [49, 49, 48] ∨ f.tag = [55, 48, 48]) := by rintro (g | g | g) <;> rw [g] at t1 <;> revert t1 <;> decide
    have a2 : ¬ (f.tag = [54, 48, 48] ∨ f.tag = [54, 53, 48]) := by rintro (g | g) <;> rw [g] at t1 <;> revert t1 <;> decide
    have a3 : ¬ f.tag = [48, 50, 48] := by intro g; rw [g] at t1; revert t1; decide
    have a4 : ¬ f.tag = [50, 54, 48] := by intro g; rw [g] at t1; revert t1; decide
    rw [if_neg a1, if_neg a2, if_neg a3, if_neg a4]
    by_cases n1 : n = nTitle
    · subst n1; simp
    simp [n1, Ne.symm n1]
  rename_i t1
  have hk : skipT f = 0 := h245 fun g => t1 (.inl g)
  rw [hk]
  split
  · rename_i t2
    have a2 : ¬ (f.tag = [54, 48, 48] ∨ f.tag = [54, 53, 48]) := by rintro (g | g) <;> rw [g] at t2 <;> revert t2 <;> decide
    have a3 : ¬ f.tag = [48, 50, 48] := by intro g; rw [g] at t2; revert t2; decide
    have a4 : ¬ f.tag = [50, 54, 48] := by intro g; rw [g] at t2; revert t2; decide
    rw [if_neg a2, if_neg a3, if_neg a4]
    by_cases n1 : n = nAuthor
    · subst n1; simp [nAuthor, nTitle]
    simp [n1, Ne.symm n1]
  split
  · rename_i t3
    have a3 : ¬ f.tag = [48, 50, 48] := by intro g; rw [g] at t3; revert t3; decide
    have a4 : ¬ f.tag = [50, 54, 48] := by intro g; rw [g] at t3; revert t3; decide
    rw [if_neg a3, if_neg a4]
    by_cases n1 : n = nSubject
    · subst n1; simp [nAuthor, nTitle, nSubject]
    simp [n1, Ne.symm n1]
  split
  · rename_i t4
    have a4 : ¬ f.tag = [50, 54, 48] := by intro g; rw [g] at t4; revert t4; decide
    rw [if_neg a4]
    by_cases n1 : n = nIsbn
    · subst n1; simp [nAuthor, nTitle, nSubject, nIsbn]
    simp [n1, Ne.symm n1]
  split
  · by_cases n1 : n = nYear
    · subst n1; simp [nAuthor, nTitle, nSubject, nIsbn, nYear]
    simp [n1, Ne.symm n1]
  simp
theorem ofN_eq (f : Fld) (n : Bs) : ((vals1 f).filter fun v => decide (v.name = n)).map V.ts = ofN f n := by
  unfold vals1
  rw [List.filter_append, List.map_append, filter_map_name]
  by_cases hn : n = nAny
  · subst hn
    have h1 : (named f).1 ≠ nAny := by
      unfold named
      split
      · exact of_decide_eq_true rfl
      split
      · exact of_decide_eq_true rfl
      split
      · exact of_decide_eq_true rfl
      split
      · exact of_decide_eq_true rfl
      split
      · exact of_decide_eq_true rfl
      exact of_decide_eq_true rfl
    rw [if_neg h1]
    have h2 : ofN f nAny = if anyOk f then [(allText f, 0)] else [] := by
      unfold ofN
      rw [if_neg (c := nAny = nTitle) (by decide), if_neg (c := nAny = nAuthor) (by decide), if_neg (c := nAny = nSubject) (by decide), if_neg (c := nAny = nIsbn) (by decide), if_neg (c := nAny = nYear) (by decide), if_pos (c := nAny = nAny) rfl]
    rw [h2]
    by_cases g : anyOk f = true
    · rw [if_pos g, if_pos g]; simp
    rw [if_neg g, if_neg g]; rfl
  rw [ofN_named f n hn]
  by_cases g : anyOk f = true
  · rw [if_pos g]; simp [Ne.symm hn]
  rw [if_neg g]; simp
theorem valsN_eq (fs : List Fld) (n : Bs) : ((vals fs).filter fun v => decide (v.name = n)).map V.ts = valsN fs n := by
  unfold vals valsN
  induction fs with
  | nil => rfl
  | cons f r ih => rw [List.flatMap_cons, List.filter_append, List.map_append, ofN_eq, ih, List.flatMap_cons]
abbrev Ix := Ls (List V)
def within (w : Row) : Row → Bool
  | [] => w.isEmpty
  | x :: r => w.isPrefixOf (x :: r) || within w r
def hasW (n : Bs) (w : Row) (vs : List V) : Bool := vs.any fun v => decide (v.name = n) && within w v.ws
def hasK (n k : Bs) (vs : List V) : Bool := vs.any fun v => decide (v.name = n) && decide (v.key = k)
def phrase (L : Ix) (n : Bs) (w : Row) : List Rec := if w = [] then [] else (L.filter fun e => hasW n w e.2).map (·.1)
def word (L : Ix) (n s : Bs) : List Rec := if (words s).length = 1 then phrase L n (words s) else []
def withK (L : Ix) (n k : Bs) : List Rec := if k = [] then [] else (L.filter fun e => hasK n k e.2).map (·.1)
def keyOf (n s : Bs) : Bs := if (isbn s).2 = true ∧ n = nIsbn then sortKey (isbn s).1 0 else sortKey s 0
def keysOf (n : Bs) (vs : List V) : Row := ((vs.filter fun v => decide (v.name = n)).map V.key).filter fun k => decide (k ≠ [])
def keysAll (L : Ix) (n begin : Bs) : Row := ((L.flatMap fun e => keysOf n e.2).filter fun k => decide (¬ k < begin)).foldl put []
def scan (L : Ix) (n s : Bs) (most : Int) : List (Bs × Nat) := ((keysAll L n (keyOf n s)).take most.toNat).map fun k => (k, (withK L n k).length)
def sortOf (L : Ix) (t : Rec) : Bs := match rget L t with
  | none => []
  | some vs => match vs.find? fun v => decide (v.name = nTitle) with
    | none => []
    | some v => v.key
theorem within_iff {w : Row} : ∀ {l : Row}, within w l = true ↔ w <:+: l
  | [] => by
    unfold within
    rw [List.infix_nil]
    cases w <;> simp
  | x :: r => by
    unfold within
    rw [Bool.or_eq_true, within_iff, List.infix_cons_iff, List.isPrefixOf_iff_prefix]
theorem within_one {x : Bs} {l : Row} : within [x] l = true ↔ x ∈ l := by
  rw [within_iff]
  constructor
  · rintro ⟨s, t, rfl⟩; simp
  intro h
  obtain ⟨s, t, rfl⟩ := List.append_of_mem h
  exact ⟨s, t, by simp⟩
theorem within_mem {x : Bs} {w l : Row} (h : within (x :: w) l = true) : x ∈ l := by
  rw [within_iff] at h
  exact h.subset (.head _)
end Ix
end
section
namespace Ix
open Ke
abbrev Pl := Bs × Bs
def plW (vs : List V) : List Pl := vs.flatMap fun v => v.ws.map fun w => (v.name, w)
def plK (vs : List V) : List Pl := vs.flatMap fun v => if v.key = [] then [] else [(v.name, v.key)]
def cnt (pl : List V → List Pl) (L : Ix) (p : Pl) (t : Rec) : Nat := match rget L t with
  | none => 0
  | some vs => (pl vs).count p
def way (f : Pl → Rec → Nat) (t : Rec) (n : Pl → Nat) (p : Pl) (u : Rec) : Nat := if u = t then n p else f p u
theorem rget_rput {L : Ix} (h : Srt L) (t u : Rec) (v : List V) : rget (rput t v L) u = if u = t then some v else rget L u := by
  by_cases hu : u = t
  · rw [if_pos hu, rget_iff (rput_srt t v h), rput_mem t v h, hu]; exact .inl rfl
  rw [if_neg hu]
  cases hg : rget L u with
  | none =>
    rw [rget_none] at hg ⊢
    intro e he
    rcases (rput_mem t v h e).1 he with g | g
    · rw [g]; exact Ne.symm hu
    exact hg e g.1
  | some x =>
    rw [rget_iff h] at hg
    rw [rget_iff (rput_srt t v h), rput_mem t v h]
    exact .inr ⟨hg, hu⟩
theorem rget_rdrop {L : Ix} (h : Srt L) (t u : Rec) : rget (rdrop t L) u = if u = t then none else rget L u := by
  by_cases hu : u = t
  · rw [if_pos hu, rget_none]
    intro e he
    rw [hu]; exact ((rdrop_mem t L e).1 he).2
  rw [if_neg hu]
  cases hg : rget L u with
  | none =>
    rw [rget_none] at hg ⊢
    exact fun e he => hg e ((rdrop_mem t L e).1 he).1
  | some x =>
    rw [rget_iff h] at hg
    rw [rget_iff (rdrop_srt t h), rdrop_mem]
    exact ⟨hg, hu⟩
theorem cnt_rput {pl : List V → List Pl} {L : Ix} (h : Srt L) (t : Rec) (v : List V) : cnt pl (rput t v L) = way (cnt pl L) t fun p => (pl v).count p := by
  funext p u
  unfold cnt way
  rw [rget_rput h]
  by_cases hu : u = t
  · rw [if_pos hu, if_pos hu]
  rw [if_neg hu, if_neg hu]
theorem cnt_rdrop {pl : List V → List Pl} {L : Ix} (h : Srt L) (t : Rec) : cnt pl (rdrop t L) = way (cnt pl L) t fun _ => 0 := by
  funext p u
  unfold cnt way
  rw [rget_rdrop h]
  by_cases hu : u = t
  · rw [if_pos hu, if_pos hu]
  rw [if_neg hu, if_neg hu]
theorem cnt_some {pl : List V → List Pl} {L : Ix} {t : Rec} {vs : List V} (h : rget L t = some vs) : cnt pl L = way (cnt pl L) t fun p => (pl vs).count p := by
  funext p u
  unfold way
  split
  · rename_i hu; unfold cnt; rw [hu, h]
  rfl
theorem cnt_none {pl : List V → List Pl} {L : Ix} {t : Rec} (h : rget L t = none) : cnt pl L = way (cnt pl L) t fun _ => 0 := by
  funext p u
  unfold way
  split
  · rename_i hu; unfold cnt; rw [hu, h]
  rfl
theorem rput_rdrop {L : Ix} (h : Srt L) (t : Rec) (v : List V) : rput t v (rdrop t L) = rput t v L := by
  refine srt_eq (rput_srt t v (rdrop_srt t h)) (rput_srt t v h) fun e => ?_
  rw [rput_mem t v (rdrop_srt t h), rput_mem t v h, rdrop_mem]
  constructor
  · rintro (g | g)
    · exact .inl g
    exact .inr ⟨g.1.1, g.2⟩
  rintro (g | g)
  · exact .inl g
  exact .inr ⟨g, g.2⟩
theorem cnt_titles {pl : List V → List Pl} {L : Ix} (h : Srt L) {p : Pl} {ts : List Rec} (h1 : ts.Pairwise fun a b => lessR a b = true) (h2 : ∀ t, t ∈ ts ↔ cnt pl L p t ≠ 0) : ts = (L.filter fun e => decide (p ∈ pl e.2)).map (·.1) := by
  have key : ts.map (fun t => (t, ())) = ((L.filter fun e => decide (p ∈ pl e.2)).map fun e => (e.1, ())) := by
    refine srt_eq (β := Unit) ?_ ?_ fun e => ?_
    · unfold Srt; rw [List.pairwise_map]; exact h1
    · unfold Srt; rw [List.pairwise_map]; exact List.Pairwise.filter _ h
    rw [List.mem_map, List.mem_map]
    constructor
    · rintro ⟨t, ht, rfl⟩
      have h3 := (h2 t).1 ht
      unfold cnt at h3
      cases hg : rget L t with
      | none => rw [hg] at h3; exact absurd rfl h3
      | some vs =>
        rw [hg] at h3
        have h4 : p ∈ pl vs := List.one_le_count_iff.1 (Nat.one_le_iff_ne_zero.2 h3)
        exact ⟨(t, vs), List.mem_filter.2 ⟨(rget_iff h).1 hg, decide_eq_true h4⟩, rfl⟩
    rintro ⟨⟨t, vs⟩, ht, rfl⟩
    rw [List.mem_filter] at ht
    refine ⟨t, (h2 t).2 ?_, rfl⟩
    unfold cnt
    rw [(rget_iff h).2 ht.1]
    exact Nat.one_le_iff_ne_zero.1 (List.one_le_count_iff.2 (of_decide_eq_true ht.2))
  have := congrArg (List.map (·.1)) key
  simpa [List.map_map, Function.comp_def] using this
theorem plW_iff {vs : List V} {n w : Bs} : (n, w) ∈ plW vs ↔ hasW n [w] vs = true := by
  unfold plW hasW
  rw [List.mem_flatMap, List.any_eq_true]
  constructor
  · rintro ⟨v, hv, h⟩
    obtain ⟨x, hx, he⟩ := List.mem_map.1 h
    cases he
    exact ⟨v, hv, by simp [within_one, hx]⟩
  rintro ⟨v, hv, h⟩
  rw [Bool.and_eq_true, decide_eq_true_eq, within_one] at h
  exact ⟨v, hv, List.mem_map.2 ⟨w, h.2, by rw [h.1]⟩⟩
theorem plK_iff {vs : List V} {n k : Bs} : (n, k) ∈ plK vs ↔ k ≠ [] ∧ hasK n k vs = true := by
  unfold plK hasK
  rw [List.mem_flatMap, List.any_eq_true]
  constructor
  · rintro ⟨v, hv, h⟩
    split at h
    · cases h
    rename_i hne
    rw [List.mem_singleton] at h
    cases h
    exact ⟨hne, v, hv, by simp⟩
  rintro ⟨hne, v, hv, h⟩
  rw [Bool.and_eq_true, decide_eq_true_eq, decide_eq_true_eq] at h
  refine ⟨v, hv, ?_⟩
  rw [if_neg (by rw [h.2]; exact hne), h.1, h.2]
  exact List.mem_singleton.2 rfl
theorem titles_word {L : Ix} (h : Srt L) {n w : Bs} {ts : List Rec} (h1 : ts.Pairwise fun a b => lessR a b = true) (h2 : ∀ t, t ∈ ts ↔ cnt plW L (n, w) t ≠ 0) : ts = phrase L n [w] := by
  rw [cnt_titles h h1 h2]
  unfold phrase
  rw [if_neg (by simp)]
  congr 2
  funext e
  rw [Bool.eq_iff_iff, decide_eq_true_eq, plW_iff]
theorem titles_key {L : Ix} (h : Srt L) {n k : Bs} {ts : List Rec} (h1 : ts.Pairwise fun a b => lessR a b = true) (h2 : ∀ t, t ∈ ts ↔ cnt plK L (n, k) t ≠ 0) : ts = withK L n k := by
  rw [cnt_titles h h1 h2]
  unfold withK
  by_cases hk : k = []
  · rw [if_pos hk]
    have : (L.filter fun e => decide ((n, k) ∈ plK e.2)) = [] := by
      rw [List.filter_eq_nil_iff]
      intro e _
      rw [decide_eq_true_eq, plK_iff]
      exact fun g => g.1 hk
    rw [this]; rfl
  rw [if_neg hk]
  congr 2
  funext e
  rw [Bool.eq_iff_iff, decide_eq_true_eq, plK_iff]
  exact ⟨fun g => g.2, fun g => ⟨hk, g⟩⟩
theorem phrase_of {L : Ix} (n x : Bs) (w : Row) (p : Rec → Bool) (hs : Srt L) (hp : ∀ t vs, rget L t = some vs → p t = hasW n (x :: w) vs) : (phrase L n [x]).filter p = phrase L n (x :: w) := by
  unfold phrase
  rw [if_neg (by simp), if_neg (by simp), List.filter_map, List.filter_filter]
  congr 1
  refine List.filter_congr fun e he => ?_
  have h1 : rget L e.1 = some e.2 := (rget_iff hs).2 he
  show (p e.1 && hasW n [x] e.2) = hasW n (x :: w) e.2
  rw [hp _ _ h1]
  cases h2 : hasW n (x :: w) e.2 with
  | false => rfl
  | true =>
    rw [Bool.true_and]
    unfold hasW at h2 ⊢
    rw [List.any_eq_true] at h2 ⊢
    obtain ⟨v, hv, h3⟩ := h2
    rw [Bool.and_eq_true] at h3
    exact ⟨v, hv, by rw [Bool.and_eq_true]; exact ⟨h3.1, within_one.2 (within_mem h3.2)⟩⟩
end Ix
end
section
namespace Ix
open Ke
theorem keysOf_mem {n k : Bs} {vs : List V} : k ∈ keysOf n vs ↔ (n, k) ∈ plK vs := by
  rw [plK_iff]
  unfold keysOf hasK
  rw [List.mem_filter, List.mem_map, decide_eq_true_eq, List.any_eq_true]
  constructor
  · rintro ⟨⟨v, hv, rfl⟩, hne⟩
    rw [List.mem_filter, decide_eq_true_eq] at hv
    exact ⟨hne, v, hv.1, by simp [hv.2]⟩
  rintro ⟨hne, v, hv, h⟩
  rw [Bool.and_eq_true, decide_eq_true_eq, decide_eq_true_eq] at h
  exact ⟨⟨v, List.mem_filter.2 ⟨hv, decide_eq_true h.1⟩, h.2⟩, hne⟩
theorem cnt_pos {pl : List V → List Pl} {L : Ix} (h : Srt L) {p : Pl} : (∃ t, cnt pl L p t ≠ 0) ↔ ∃ e ∈ L, p ∈ pl e.2 := by
  constructor
  · rintro ⟨t, ht⟩
    unfold cnt at ht
    cases hg : rget L t with
    | none => rw [hg] at ht; exact absurd rfl ht
    | some vs =>
      rw [hg] at ht
      exact ⟨(t, vs), (rget_iff h).1 hg, List.one_le_count_iff.1 (Nat.one_le_iff_ne_zero.2 ht)⟩
  rintro ⟨⟨t, vs⟩, he, hp⟩
  refine ⟨t, ?_⟩
  unfold cnt
  rw [(rget_iff h).2 he]
  exact Nat.one_le_iff_ne_zero.1 (List.one_le_count_iff.2 hp)
theorem keysAll_inc (L : Ix) (n b : Bs) : Inc (keysAll L n b) := puts_inc _ List.Pairwise.nil
theorem keysAll_mem {L : Ix} (h : Srt L) {n b k : Bs} : k ∈ keysAll L n b ↔ ¬ k < b ∧ ∃ t, cnt plK L (n, k) t ≠ 0 := by
  unfold keysAll
  rw [puts_mem, cnt_pos h, List.mem_filter, List.mem_flatMap, decide_eq_true_eq]
  constructor
  · rintro (⟨⟨e, he, hk⟩, hb⟩ | g)
    · exact ⟨hb, e, he, keysOf_mem.1 hk⟩
    cases g
  rintro ⟨hb, e, he, hk⟩
  exact .inl ⟨⟨e, he, keysOf_mem.2 hk⟩, hb⟩
theorem scan_all {L : Ix} (h : Srt L) {n b : Bs} {ls : List (Bs × Nat)} (h1 : Inc (ls.map (·.1))) (h2 : ∀ k, k ∈ ls.map (·.1) ↔ ¬ k < b ∧ ∃ t, cnt plK L (n, k) t ≠ 0) (h3 : ∀ x ∈ ls, x.2 = (withK L n x.1).length) : ls = (keysAll L n b).map fun k => (k, (withK L n k).length) := by
  have he : ls.map (·.1) = keysAll L n b := inc_eq h1 (keysAll_inc L n b) fun k => by rw [h2, keysAll_mem h]
  rw [← he, List.map_map]
  conv => lhs; rw [← List.map_id ls]
  refine List.map_congr_left fun x hx => ?_
  show x = (x.1, (withK L n x.1).length)
  rw [← h3 x hx]
theorem scan_take (L : Ix) (n s : Bs) (most : Int) : ((keysAll L n (keyOf n s)).map fun k => (k, (withK L n k).length)).take most.toNat = scan L n s most := by
  unfold scan; rw [← List.map_take]
theorem with_len {L : Ix} (h : Srt L) {n k : Bs} {ts : List Rec} (hn : ts.Nodup) (h2 : ∀ t, t ∈ ts ↔ cnt plK L (n, k) t ≠ 0) : ts.length = (withK L n k).length := by
  have hsn : (withK L n k).Nodup := by
    unfold withK
    split
    · exact .nil
    exact (srt_nodup h).sublist (List.filter_sublist.map _)
  refine List.Perm.length_eq ((List.perm_ext_iff_of_nodup hn hsn).2 fun t => ?_)
  rw [h2]
  unfold withK
  by_cases hk : k = []
  · rw [if_pos hk]
    refine ⟨fun g => ?_, fun g => by cases g⟩
    obtain ⟨e, _, hp⟩ := (cnt_pos h).1 ⟨t, g⟩
    exact absurd hk (plK_iff.1 hp).1
  rw [if_neg hk, List.mem_map]
  constructor
  · intro g
    unfold cnt at g
    cases hg : rget L t with
    | none => rw [hg] at g; exact absurd rfl g
    | some vs =>
      rw [hg] at g
      have := plK_iff.1 (List.one_le_count_iff.1 (Nat.one_le_iff_ne_zero.2 g))
      exact ⟨(t, vs), List.mem_filter.2 ⟨(rget_iff h).1 hg, this.2⟩, rfl⟩
  rintro ⟨⟨u, vs⟩, he, rfl⟩
  rw [List.mem_filter] at he
  unfold cnt
  rw [(rget_iff h).2 he.1]
  exact Nat.one_le_iff_ne_zero.1 (List.one_le_count_iff.2 (plK_iff.2 ⟨hk, he.2⟩))
end Ix
end
section
namespace Ix
open Ke
def textsL : List Bs := [[69, 109, 109, 97],
  [84, 104, 101, 32, 115, 101, 97],
  [195, 156, 98, 101, 114, 32, 100, 101, 110, 32, 70, 108, 117, 195, 159],
  [87, 97, 114, 32, 97, 110, 100, 32, 112, 101, 97, 99, 101],
  [119, 97, 114, 32, 38, 32, 80, 69, 65, 67, 69],
  [65, 117, 115, 116, 101, 110, 44, 32, 74, 97, 110, 101],
  [84, 111, 108, 115, 116, 111, 121],
  [49, 57, 56, 52],
  [57, 55, 56, 48, 51, 48, 54, 52, 48, 54, 49, 53, 55],
  [48, 51, 48, 54, 52, 48, 54, 49, 53, 50],
  [76, 111, 110, 100, 111, 110],
  [83, 101, 97, 32, 115, 116, 111, 114, 105, 101, 115],
  [65],
  [],
  [69, 109, 109, 97, 32, 97, 110, 100, 32, 116, 104, 101, 32, 115, 101, 97],
  [49, 57, 57, 57],
  [99, 49, 57, 57, 57, 46],
  [82, 105, 118, 101, 114, 115],
  [79, 99, 101, 97, 110, 115, 32, 45, 45, 32, 72, 105, 115, 116, 111, 114, 121],
  [112, 101, 97, 99, 101]]
def tagsL : List Bs := [[48, 48, 49],
  [50, 52, 53],
  [49, 48, 48],
  [48, 50, 48],
  [54, 53, 48],
  [55, 48, 48],
  [50, 54, 48],
  [53, 48, 48],
  [57, 48, 48],
  [57, 52, 57],
  [48, 48, 56],
  [50, 52, 54],
  [54, 48, 48],
  [49, 49, 48],
  [52, 57, 48],
  [48, 48, 51],
  [57, 122, 57],
  [50, 52],
  [57, 57, 57],
  [48]]
def indsL : List Bs := [[49, 48],
  [32, 32],
  [49, 32],
  [48, 48],
  [48, 32],
  [32, 48],
  [51, 32],
  [49, 50]]
def codesL : Bs := [97, 98, 99, 48, 97, 118, 120, 113]
def textN (n : Int) : Bs := textsL.getD (n % 20).toNat []
def tagN (n : Int) : Bs := tagsL.getD (n % 20).toNat []
structure Four where
  x0 : Int
  x1 : Int
  x2 : Int
  x3 : Int
def subN (q : Four) (j : Nat) : Sub := ⟨codesL.getD ((q.x2.tdiv 3 + (j : Int) * (1 + q.x1 % 3)) % 8).toNat 0, textN (Go.IntKind.wrap .i64 (q.x3 + 3 * (j : Int)))⟩
def isC (t : Bs) : Prop := 1 < t.length ∧ t.take 2 = [48, 48]
instance (t : Bs) : Decidable (isC t) := by unfold isC; exact inferInstance
def fldN (q : Four) : Fld := if isC (tagN q.x0) then ⟨tagN q.x0, [], textN q.x3, .slice none 0 0, []⟩
  else ⟨tagN q.x0, indsL.getD (q.x1 % 8).toNat [], [], .slice none 0 0, (List.range (1 + (q.x2 % 3).toNat)).map fun j => subN q j⟩
def madeR (l : List Four) : List Fld := (l.take 20).map fldN
structure ActL where
  drop : Bool
  src : Int
  num : Int
  fs : List Four
def ActL.title (a : ActL) : Rec := (a.src, a.num)
def ActL.record (a : ActL) : List Fld := madeR (a.fs.take 8)
def ActL.vs (a : ActL) : List V := vals a.record
def act (L : Ix) (a : ActL) : Ix := if a.drop = true then rdrop a.title L else rput a.title a.vs L
def play (l : List ActL) : Ix := (l.take 20).foldl act []
theorem act_srt {L : Ix} (h : Srt L) (a : ActL) : Srt (act L a) := by
  unfold act
  split
  · exact rdrop_srt _ h
  exact rput_srt _ _ h
theorem acts_srt : ∀ (l : List ActL) {L : Ix}, Srt L → Srt (l.foldl act L)
  | [], _, h => h
  | a :: r, _, h => acts_srt r (act_srt h a)
theorem play_srt (l : List ActL) : Srt (play l) := acts_srt _ List.Pairwise.nil
theorem fldN_len (q : Four) : (fldN q).tag.length ≤ 3 ∧ (fldN q).subs.length ≤ 3 := by
  have h1 : ∀ k : Nat, (tagsL.getD k []).length ≤ 3 := by
    intro k
    rcases Nat.lt_or_ge k 20 with h | h
    · have : ∀ k, k < 20 → (tagsL.getD k []).length ≤ 3 := by decide
      exact this k h
    rw [List.getD_eq_getElem?_getD, List.getElem?_eq_none (by simpa [tagsL] using h)]; simp
  unfold fldN
  split
  · exact ⟨h1 _, by simp⟩
  refine ⟨h1 _, ?_⟩
  simp only [List.length_map, List.length_range]
  omega
theorem textN_len (n : Int) : (textN n).length ≤ 17 := by
  unfold textN
  generalize (n % 20).toNat = k
  rcases Nat.lt_or_ge k 20 with h | h
  · have : ∀ k, k < 20 → (textsL.getD k []).length ≤ 17 := by decide
    exact this k h
  rw [List.getD_eq_getElem?_getD, List.getElem?_eq_none (by simpa [textsL] using h)]; simp
end Ix
end
section
namespace Ix
open Ke
open Go Go.Lib
theorem digit_nat (c : UInt8) : digit c = decide (48 ≤ c.toNat ∧ c.toNat ≤ 57) := by
  unfold digit
  rw [Bool.eq_iff_iff, Bool.and_eq_true, decide_eq_true_eq, decide_eq_true_eq, decide_eq_true_eq, UInt8.le_iff_toNat_le, UInt8.le_iff_toNat_le]
  rfl
def nod (r : Nat) : Bool := decide (r < 48) || decide (57 < r)
theorem decodeL_N (c : UInt8) (r : Bs) : decodeL (c :: r) = decodeN (r.length + 1) c.toNat (r.getD 0 0).toNat (r.getD 1 0).toNat (r.getD 2 0).toNat := by
  have := decode_N ⟨(c :: r).toArray⟩ 0
  simp only [List.length_cons, Nat.sub_zero, Nat.zero_add, List.getD_cons_zero, List.getD_cons_succ] at this
  exact this
theorem decodeL_high (c : UInt8) (r : Bs) (h : 128 ≤ c.toNat) : 128 ≤ (decodeL (c :: r)).1 ∧ ∀ x ∈ (c :: r).take (decodeL (c :: r)).2, 128 ≤ x.toNat := by
  have key : ∀ k n : Nat, (128 ≤ k ∧ ∀ x ∈ (c :: r).take n, 128 ≤ x.toNat) → 128 ≤ ((k, n) : Nat × Nat).1 ∧ ∀ x ∈ (c :: r).take ((k, n) : Nat × Nat).2, 128 ≤ x.toNat := fun _ _ h => h
  have h1 : 128 ≤ ((65533, 1) : Nat × Nat).1 ∧ ∀ x ∈ (c :: r).take ((65533, 1) : Nat × Nat).2, 128 ≤ x.toNat := ⟨by decide, fun x hx => by simp at hx; rw [hx]; exact h⟩
  rw [decodeL_N]
  unfold decodeN
  rw [if_neg (by omega)]
  split
  · rename_i g
    split
    · refine key _ _ ⟨by omega, fun x hx => ?_⟩
      rcases r with _ | ⟨d, r⟩
      · simp at hx; rw [hx]; exact h
      simp at hx g
      rcases hx with rfl | rfl
      · exact h
      omega
    exact h1
  split
  · rename_i g
    split
    · refine key _ _ ⟨by omega, fun x hx => ?_⟩
      rcases r with _ | ⟨d, _ | ⟨e, r⟩⟩
      · simp at hx; rw [hx]; exact h
      · simp at g
      simp at hx g
      rcases hx with rfl | rfl | rfl
      · exact h
      · omega
      omega
    exact h1
  split
  · rename_i g
    split
    · refine key _ _ ⟨by omega, fun x hx => ?_⟩
      rcases r with _ | ⟨d, _ | ⟨e, _ | ⟨f, r⟩⟩⟩
      · simp at hx; rw [hx]; exact h
      · simp at g
      · simp at g
      simp at hx g
      rcases hx with rfl | rfl | rfl | rfl
      · exact h
      · omega
      · omega
      omega
    exact h1
  exact h1
theorem runsF_nod : ∀ (q : Bs) (w r : Bs), (∀ x ∈ q, digit x = false) → q ≠ [] → runsF w (q ++ r) = (if w = [] then [] else [w]) ++ runsF [] r
  | [], _, _, _, h => absurd rfl h
  | [c], w, r, h, _ => by
    show runsF w (c :: r) = _
    rw [runsF, h c (.head _)]
    simp only [Bool.false_eq_true, if_false]
    split <;> rfl
  | c :: d :: q, w, r, h, _ => by
    have ih := runsF_nod (d :: q) [] r (fun x hx => h x (.tail _ hx)) (by simp)
    rw [if_pos rfl, List.nil_append] at ih
    show runsF w (c :: ((d :: q) ++ r)) = _
    rw [runsF, h c (.head _), ih]
    simp only [Bool.false_eq_true, if_false]
    split <;> rfl
theorem runsF_dig (w : Bs) (c : UInt8) (r : Bs) (h : digit c = true) : runsF w (c :: r) = runsF (w ++ [c]) r := by rw [runsF, if_pos h]
theorem spansD (s : ByteArray) : ∀ (f pos : Nat) (st : Option Nat) (acc : List (Nat × Nat)), s.size ≤ pos + f → pos ≤ s.size → (∀ a, st = some a → a < pos) →
    acc.map (fun p => pieceU s.data.toList p.1 p.2) ++ runsF (openPiece s.data.toList st pos) (s.data.toList.drop pos) = (closeSpans s (spansFromP nod s f pos st acc)).map (fun p => pieceU s.data.toList p.1 p.2)
  | 0, pos, st, acc, h, hp, hst => by
    obtain rfl : pos = s.size := by omega
    have hd : s.data.toList.drop s.size = [] := List.drop_eq_nil_of_le (by rw [← size_eq]; exact Nat.le_refl _)
    rw [hd, runsF]
    cases st with
    | none => simp [spansFromP, closeSpans, openPiece]
    | some a =>
      have := pieceU_ne s.data.toList a s.size (hst a rfl) (by rw [← size_eq]; exact Nat.le_refl _)
      simp [spansFromP, closeSpans, openPiece, this]
  | f + 1, pos, st, acc, h, hp, hst => by
    by_cases hlt : pos < s.size
    · have hlt' : pos < s.data.toList.length := by rw [← size_eq]; exact hlt
      have hdc : decodeL (s.data.toList.drop pos) = Utf8.decode s pos := decodeL_drop s pos
      obtain ⟨c, hc⟩ : ∃ c, s.data.toList.drop pos = c :: s.data.toList.drop (pos + 1) := ⟨s.data.toList[pos], (List.getElem_cons_drop hlt').symm⟩
      have hw := width_pos s pos
      have hwn : pos + (Utf8.decode s pos).2 ≤ s.size := by
        have := decodeN_le_n' (s.size - pos) (s.get! pos).toNat (s.get! (pos + 1)).toNat (s.get! (pos + 2)).toNat (s.get! (pos + 3)).toNat (by omega)
        rw [← decode_at] at this
        omega
      simp only [spansFromP, if_pos hlt]
      by_cases hdig : digit c = true
      · have hcn : 48 ≤ c.toNat ∧ c.toNat ≤ 57 := by rw [digit_nat] at hdig; exact of_decide_eq_true hdig
        have h1 : Utf8.decode s pos = (c.toNat, 1) := by
          rw [← hdc, hc]
          rw [decodeL_N]
          unfold decodeN
          rw [if_pos (by omega)]
        have h2 : nod c.toNat = false := by unfold nod; simp; omega
        rw [h1]
        simp only [h2, Bool.false_eq_true, if_false]
        rw [hc, runsF_dig _ _ _ hdig]
        cases st with
        | none =>
          have ih := spansD s f (pos + 1) (some pos) acc (by omega) (by omega) (fun a h => by cases h; omega)
          have e : openPiece s.data.toList none pos ++ [c] = openPiece s.data.toList (some pos) (pos + 1) := by
            show [] ++ [c] = pieceU s.data.toList pos (pos + 1)
            unfold pieceU
            rw [hc, Nat.add_sub_cancel_left]; rfl
          rw [e]; exact ih
        | some a =>
          have ih := spansD s f (pos + 1) (some a) acc (by omega) (by omega) (fun b h => by cases h; have := hst a rfl; omega)
          have e : openPiece s.data.toList (some a) pos ++ [c] = openPiece s.data.toList (some a) (pos + 1) := by
            have := pieceU_grow s.data.toList a pos 1 (by have := hst a rfl; omega)
            rw [hc] at this
            exact this
          rw [e]; exact ih
      have h3 : nod (Utf8.decode s pos).1 = true ∧ ∀ x ∈ (s.data.toList.drop pos).take (Utf8.decode s pos).2, digit x = false := by
        rw [← hdc, hc]
        by_cases h128 : c.toNat < 128
        · have h1 : decodeL (c :: s.data.toList.drop (pos + 1)) = (c.toNat, 1) := by
            rw [decodeL_N]
            unfold decodeN
            rw [if_pos h128]
          rw [h1]
          refine ⟨?_, fun x hx => ?_⟩
          · rw [digit_nat, decide_eq_true_eq] at hdig
            unfold nod
            simp; omega
          simp at hx; rw [hx]; simpa using hdig
        obtain ⟨g1, g2⟩ := decodeL_high c (s.data.toList.drop (pos + 1)) (by omega)
        refine ⟨by unfold nod; simp; omega, fun x hx => ?_⟩
        have := g2 x hx
        rw [digit_nat]; simp; omega
      have hsplit : s.data.toList.drop pos = (s.data.toList.drop pos).take (Utf8.decode s pos).2 ++ s.data.toList.drop (pos + (Utf8.decode s pos).2) := by
        rw [← List.drop_drop, List.take_append_drop]
      have hqne : (s.data.toList.drop pos).take (Utf8.decode s pos).2 ≠ [] := by
        intro h0
        have := congrArg List.length h0
        rw [List.length_take, List.length_drop] at this
        simp at this
        omega
      simp only [h3.1, if_true]
      rw [hsplit, runsF_nod _ _ _ h3.2 hqne]
      cases st with
      | none =>
        have ih := spansD s f (pos + (Utf8.decode s pos).2) none acc (by omega) hwn (fun a h => by cases h)
        simpa [openPiece] using ih
      | some a =>
        have hpn := pieceU_ne s.data.toList a pos (hst a rfl) (by rw [← size_eq]; omega)
        have ih := spansD s f (pos + (Utf8.decode s pos).2) none (acc ++ [(a, pos)]) (by omega) hwn (fun a h => by cases h)
        simpa [openPiece, hpn] using ih
    have hps : pos = s.size := by omega
    have hd : s.data.toList.drop pos = [] := List.drop_eq_nil_of_le (by rw [← size_eq]; omega)
    rw [spansFromP_end nod s _ pos st acc hlt, hd, runsF]
    subst hps
    cases st with
    | none => simp [closeSpans, openPiece]
    | some a =>
      have := pieceU_ne s.data.toList a s.size (hst a rfl) (by rw [← size_eq]; exact Nat.le_refl _)
      simp [closeSpans, openPiece, this]
theorem pieceU_extract (s : ByteArray) (a b : Nat) : s.extract a b = ⟨(pieceU s.data.toList a b).toArray⟩ := by
  apply ByteArray.ext
  rw [ByteArray.data_extract]
  apply Array.ext'
  rw [Array.toList_extract]
  unfold pieceU
  simp [List.extract_eq_take_drop]
theorem fieldsD (s : Bs) : goFieldsP nod ⟨s.toArray⟩ = (runsD s).map fun x => ⟨x.toArray⟩ := by
  have h := spansD ⟨s.toArray⟩ (ByteArray.mk s.toArray).size 0 none [] (by omega) (by omega) (fun _ h => by cases h)
  simp only [List.map_nil, List.nil_append, openPiece, List.drop_zero] at h
  unfold goFieldsP spansOfP runsD
  rw [h, List.map_map]
  refine List.map_congr_left fun p _ => ?_
  rw [pieceU_extract]; rfl
end Ix
end
section
namespace Go.Sx
open Go Go.RowKit
theorem Ctr.of_row {P : Program} {f : FuncId} {args : List Value} {I : Heap} {T : TypeId} {l : List (List UInt8)} {vals : List Value} (hv : vals = l.map str) (he : Enters P f)
    (h : ∀ w, Calls P f args.toArray w fun e w' => ∃ A, e = .returned (.slice (some ⟨A, 0, none⟩) l.length l.length) ∧ w.heap.size ≤ A ∧ w'.ownsRow w.heap.size T 1 (.slice (some ⟨A, 0, none⟩) l.length l.length) l.length vals ∧ Below w.heap.size w w') :
    Ctr P f args I [] (fun e I' H' => ∃ v, e = .returned v ∧ StrS T I' l v ∧ H' = []) := by
  refine ⟨he, fun w hw => (h w).mono ?_⟩
  rintro e w' ⟨A, rfl, hA, hown, hB⟩
  obtain ⟨r1, -, -, -⟩ := hw
  have hlt : ∀ {b : Nat} {o : Obj}, I b = some o → b < w.heap.size := fun {b o} hb => by
    have := r1 b o hb
    rcases Nat.lt_or_ge b w.heap.size with h' | h'
    · exact h'
    rw [Array.getElem?_eq_none h'] at this; cases this
  obtain ⟨-, hown⟩ := hown
  obtain ⟨g, cap, cur, hs, -, hc, hn, -, hsz, htk⟩ := hown.resolve_left fun g => by cases g.1
  cases hs
  have hcel : (.cells cur T (0, 0) : Obj) = cel T (l.map str ++ cur.toList.drop l.length) := by
    unfold cel
    rw [← hv, ← htk, Nat.mul_one, List.take_append_drop]
  rw [hcel] at hc
  have hst : St w [] I I [(A, cel T (l.map str ++ cur.toList.drop l.length))] w' :=
    ⟨hB.os, hB.tape, hB.output, hB.size, fun b hb _ => hB.block b hb, fun b o hb => by rw [hB.block b (hlt hb)]; exact r1 b o hb, fun p hp => by rw [List.mem_singleton.1 hp]; exact hc, by simp, fun p hp => by
      rw [List.mem_singleton.1 hp]
      cases hI : I A with
      | none => rfl
      | some o => have := hlt hI; omega, fun p hp => by rw [List.mem_singleton.1 hp]; exact .inr hA, fun _ _ => rfl, Le.refl _⟩
  have hst2 := hst.persist hA
  exact ⟨_, _, hst2, _, rfl, .inr ⟨A, l.length, _, rfl, Nat.le_refl _, hput_at _ _ _⟩, rfl⟩
end Go.Sx
end
section
namespace Go.Proofs.YtjcdfnbomkoheaaGreatDoor
open _root_.Go.Proofs.Tryz
open Go Go.Sx
def sel (codes : List UInt8) (s : Ke.Sub) : Bool := decide (codes = []) || codes.contains s.code
def txs (codes : List UInt8) (ss : List Ke.Sub) : List (List UInt8) := (ss.filter (sel codes)).map (·.text)
def textX (f : Ke.Fld) (codes : List UInt8) : List UInt8 := Ke.join (txs codes f.subs)
theorem textX_of {f : Ke.Fld} {codes : List UInt8} (h : codes ≠ []) : textX f codes = Ke.textOf f codes := by
  unfold textX Ke.textOf Ke.texts txs
  congr 2
  refine List.filter_congr fun s _ => ?_
  unfold sel; rw [decide_eq_false h]; rfl
theorem textX_all (f : Ke.Fld) : textX f [] = Ix.allText f := by
  unfold textX Ix.allText txs
  rw [show f.subs.filter (sel []) = f.subs from List.filter_eq_self.2 fun _ _ => rfl]
theorem txs_next {codes : List UInt8} {ss : List Ke.Sub} {k : Nat} {s : Ke.Sub} (h : ss[k]? = some s) : txs codes (ss.take (k + 1)) = txs codes (ss.take k) ++ (if sel codes s = true then [s.text] else []) := by
  obtain ⟨hlt, hg⟩ := List.getElem?_eq_some_iff.1 h
  unfold txs
  rw [List.take_succ_eq_append_getElem hlt, hg, List.filter_append, List.map_append]
  by_cases hc : sel codes s = true
  · rw [if_pos hc, List.filter_cons_of_pos hc]; rfl
  rw [if_neg hc, List.filter_cons_of_neg hc]; rfl
theorem txs_len (codes : List UInt8) (ss : List Ke.Sub) : (txs codes ss).length ≤ ss.length := by
  unfold txs; rw [List.length_map]; exact List.length_filter_le _ _
theorem txs_sum (codes : List UInt8) : ∀ ss : List Ke.Sub, ((txs codes ss).map List.length).sum ≤ textsLen ss
  | [] => by simp [txs]
  | s :: r => by
    have := txs_sum codes r
    unfold txs textsLen at this ⊢
    rw [List.filter_cons]
    split
    · simp only [List.map_cons, List.sum_cons]; omega
    simp only [List.map_cons, List.sum_cons]; omega
theorem textX_len (f : Ke.Fld) (codes : List UInt8) : (textX f codes).length ≤ textsLen f.subs + f.subs.length := by
  have h1 := join_len (txs codes f.subs); have h2 := txs_sum codes f.subs; have h3 := txs_len codes f.subs
  unfold textX; omega
theorem text_mem {ss : List Ke.Sub} {s : Ke.Sub} (h : s ∈ ss) : s.text.length ≤ textsLen ss := by
  unfold textsLen
  induction ss with
  | nil => cases h
  | cons a r ih =>
    rw [List.map_cons, List.sum_cons]
    rcases List.mem_cons.1 h with e | e
    · rw [e]; omega
    have := ih e; omega
abbrev four (x : List UInt8) : Bool := decide (x.length = 4)
def idxI {α : Type} (p : α → Bool) (l : List α) : Int := match l.findIdx? p with
  | some k => (k : Int)
  | none => -1
theorem idxI_none {α : Type} {p : α → Bool} {l : List α} (h : ∀ x ∈ l, p x = false) : idxI p l = -1 := by
  unfold idxI
  rw [List.findIdx?_eq_none_iff.2 fun x hx => by simpa using h x hx]
theorem idxI_at {α : Type} {p : α → Bool} {l : List α} {k : Nat} {x : α} (h : ∀ y ∈ l.take k, p y = false) (hx : l[k]? = some x) (hp : p x = true) : idxI p l = (k : Int) := by
  obtain ⟨hlt, hg⟩ := List.getElem?_eq_some_iff.1 hx
  unfold idxI
  have : l.findIdx? p = some k := by
    rw [List.findIdx?_eq_some_iff_getElem]
    refine ⟨hlt, by rw [hg]; exact hp, fun j hj => ?_⟩
    have h1 : l[j]'(by omega) ∈ l.take k := by
      rw [List.mem_take_iff_getElem]
      exact ⟨j, by omega, rfl⟩
    rw [h _ h1]; exact Bool.false_ne_true
  rw [this]
theorem false_next {α : Type} {p : α → Bool} {l : List α} {k : Nat} {x : α} (h : ∀ y ∈ l.take k, p y = false) (hx : l[k]? = some x) (hp : p x = false) : ∀ y ∈ l.take (k + 1), p y = false := fun y hy => by
  obtain ⟨hlt, hg⟩ := List.getElem?_eq_some_iff.1 hx
  rw [List.take_succ_eq_append_getElem hlt, hg, List.mem_append, List.mem_singleton] at hy
  rcases hy with hy | rfl
  · exact h y hy
  exact hp
theorem idxI_cases {α : Type} (p : α → Bool) (l : List α) : (idxI p l = -1 ∧ l.find? p = none) ∨ ∃ (k : Nat) (x : α), idxI p l = (k : Int) ∧ l[k]? = some x ∧ l.find? p = some x := by
  by_cases h : ∃ k, ∃ x, l[k]? = some x ∧ p x = true ∧ ∀ y ∈ l.take k, p y = false
  · obtain ⟨k, x, h1, h2, h3⟩ := h
    refine .inr ⟨k, x, idxI_at h3 h1 h2, h1, ?_⟩
    obtain ⟨hlt, hg⟩ := List.getElem?_eq_some_iff.1 h1
    rw [List.find?_eq_some_iff_append]
    refine ⟨h2, l.take k, l.drop (k + 1), ?_, fun y hy => by simp [h3 y hy]⟩
    rw [← hg, List.getElem_cons_drop, List.take_append_drop]
  have hall : ∀ k, k ≤ l.length → ∀ y ∈ l.take k, p y = false := by
    intro k
    induction k with
    | zero => intro _ y hy; simp at hy
    | succ k ih =>
      intro hk
      have hx := List.getElem?_eq_getElem (l := l) (i := k) (by omega)
      have h1 := ih (by omega)
      refine false_next h1 hx ?_
      cases hp : p l[k] with
      | false => rfl
      | true => exact absurd ⟨k, _, hx, hp, h1⟩ h
  have h2 : ∀ y ∈ l, p y = false := fun y hy => hall l.length (Nat.le_refl _) y (by rw [List.take_length]; exact hy)
  exact .inl ⟨idxI_none h2, List.find?_eq_none.2 fun y hy => by simp [h2 y hy]⟩
theorem skip_char {f : Ke.Fld} {c : UInt8} (h : f.ind[1]? = some c) : Ke.skip f = if Ke.digit c = true then c.toNat - 48 else 0 := by
  unfold Ke.skip; rw [h]
theorem strC_row {I : Heap} {l : List (List UInt8)} {v : Value} : StrP I l v ↔ RowS (fun s => [str s]) I l v := by
  unfold StrP RowS
  rw [show l.map str = l.flatMap fun s => [str s] by induction l with | nil => rfl | cons a r ih => rw [List.map_cons, List.flatMap_cons, ih]; rfl]
theorem itext_ok (f : Ke.Fld) (codes : List UInt8) (hn : f.subs.length ≤ 2000000) (htx : textsLen f.subs ≤ 3000000) (I : Heap) (hr : RowS subC I f.subs f.sv) : Pure Tryz.prog 104 [.agg (fldC f).toArray, str codes] I (str (textX f codes)) := by
 refine Ctr.toPure ?_
 obtain ⟨p2, c2, hsv, hc2, hp2⟩ := hr
 refine Ctr.ob func104 ?_
 intro w0 hw0
 refine Cj.sr (J.op rfl (q25 ?_))
 intro b1 hb1
 refine J.z q1 ?_
 refine J.nssr (J.z q1 ?_)
 refine J.nsss (Cj.region (J.z (q3 (off' := 3) underlying31 sizeOf29) ?_))
 refine J.z (q7 isAgg29 (Blk.at 0 rfl)) ?_
 refine J.eqv 9 rfl (show _ = .slice p2 f.subs.length c2 from hsv) ?_
 refine J.z (q16 underlying29) ?_
 refine J.z q0 ?_
 refine J.ns (Cj.block (Cj.keep (Keeps.d Keeps.n) ?_))
 refine Cj.loop (ι := Nat × Gs) (fun j => j.1 ≤ f.subs.length ∧ gOk w0.heap.size 1 (txs codes (f.subs.take j.1)).length ((txs codes (f.subs.take j.1)).map str) j.2) (fun j => f.subs.length - j.1) (fun j => [(1, str codes), (5, gV (txs codes (f.subs.take j.1)).length j.2), (9, .slice p2 f.subs.length c2), (10, i64 (f.subs.length : Int)), (11, i64 (j.1 : Int))]) (fun j => _) (fun j => gH 9 ((txs codes (f.subs.take j.1)).map str) j.2) (0, none) ⟨Nat.zero_le _, rfl, rfl⟩ ⟨rfl, rfl, rfl, rfl, rfl, trivial⟩ rfl rfl ?_
 rintro ⟨j, g⟩ ⟨hj, hg⟩
 dsimp only at hj hg ⊢
 have htl := txs_len codes (f.subs.take j)
 rw [List.length_take, Nat.min_eq_left hj] at htl
 refine Cj.sr (J.z q17 ?_)
 refine J.nss (Cj.cond rfl (fun hc2 => ?_) (fun hc2 => ?_))
 ·
  have hc2p := of_decide_eq_true hc2
  refine Cj.skip (Ej.seq (Cj.seq (Cj.block (Cj.seq ?_))))
  have hlt : j < f.subs.length := by omega
  obtain ⟨sb, hsget⟩ : ∃ x, f.subs[j]? = some x := ⟨_, List.getElem?_eq_getElem hlt⟩
  obtain ⟨sbk, so, scs, sty, sfr, sp2, rfl, hsbk, hsd⟩ := hp2 (ne_nil_of hlt)
  have hnx := txs_next (codes := codes) hsget
  refine Cj.region (J.z (q24 (off' := so + j * 2) underlying29 sizeOf65) ?_)
  refine J.z (yl_loadAgg rfl rfl isAgg65 sizeOf65 (Blk.imm hsbk) (row_from subC_len hsd hsget) rfl) ?_
  refine J.op rfl (op_alloc rfl rfl rfl zeroValue65 rfl ?_)
  intro b3 hb3
  refine J.op rfl (q18 0 sizeOf65 (LSpl.c (LSpl.c LSpl.z)) LSet.z ?_)
  refine J.nssr (J.z q0 ?_)
  refine J.z (yl_eqlStr rfl rfl rfl) ?_
  refine J.z q0 ?_
  refine J.split 17 rfl (fun hg4 => ?_) (fun hg4 => ?_)
  ·
   have hg4p := eq_of_beq hg4
   have hsel : sel codes sb = true := by unfold sel; rw [decide_eq_true (eq_of_beq hg4)]; rfl
   rw [if_pos hsel] at hnx
   refine q4 2 17 18 false hg4 ?_
   refine q4 2 17 19 false hg4 ?_
   refine q4 2 17 20 false hg4 ?_
   refine q4 2 17 21 false hg4 ?_
   refine q4 2 17 22 false hg4 ?_
   refine J.z (q11 hg4) ?_
   refine J.c1 (fun hc5 => ?_)
   refine Cj.region (J.z q0 ?_)
   refine J.z (q3 (off' := 1) underlying65 sizeOf9) ?_
   refine J.z (q7 isAgg9 (Blk.at 0 rfl)) ?_
   refine J.op rfl (q13 underlying28 sizeOf9 zeroValue9 (LCat.one rfl LCat.none) ?_)
   intro b6 hb6
   refine J.op rfl (op_append (by' := 15) [_, _] rfl rfl rfl rfl rfl underlying28 (.inr ⟨_, underlying28⟩) (by kernel_rfl) sizeOf9 zeroValue9 rfl hg rfl (Src.slice (Blk.at 0 rfl) rfl rfl rfl) (by omega) ?_)
   intro g7 hg7
   refine J.z q1 ?_
   refine J.nil (Ej.blkNormal (Ej.seq (Cj.region (J.z (yl_add rfl rfl rfl (w64 (by omega))) ?_))))
   refine J.z q0 ?_
   refine J.nil (Ej.keep (Keeps.d (Keeps.d Keeps.r)) ?_)
   refine Ej.round (j + 1, g7) ⟨by dsimp only; omega, by dsimp only; rw [hnx, List.map_append, List.length_append]; exact hg7⟩ (by dsimp only; omega) ⟨rfl, by dsimp only; rw [hnx, List.length_append]; rfl, rfl, rfl, rfl, trivial⟩ rfl (by dsimp only; rw [hnx, List.map_append]; rfl)
  have hg4p := ne_of_beq_false hg4
  have hce : codes ≠ [] := ne_of_beq_false hg4
  refine q5 2 17 false hg4 (q2 q0 ?_)
  refine q5 2 17 false hg4 (q2 (q3 (off' := 0) underlying65 sizeOf5) ?_)
  refine q5 2 17 false hg4 (q2 (q7 isAgg5 (Blk.at 0 rfl)) ?_)
  refine q5 2 17 false hg4 (op_pure rfl rfl rfl rfl rfl (IndexByte_ok _ _ _) ?_)
  refine q5 2 17 false hg4 (q2 (yl_geq rfl rfl rfl) ?_)
  refine J.z (q10 hg4) ?_
  refine J.cd (fun hc8 => ?_) (fun hc8 => ?_)
  ·
   have hc8p := of_decide_eq_true hc8
   have hsel : sel codes sb = true := by unfold sel; rw [decide_eq_false hce, ← index_has]; exact hc8
   rw [if_pos hsel] at hnx
   refine Cj.region (J.z q0 ?_)
   refine J.z (q3 (off' := 1) underlying65 sizeOf9) ?_
   refine J.z (q7 isAgg9 (Blk.at 0 rfl)) ?_
   refine J.op rfl (q13 underlying28 sizeOf9 zeroValue9 (LCat.one rfl LCat.none) ?_)
   intro b9 hb9
   refine J.op rfl (op_append (by' := 15) [_, _] rfl rfl rfl rfl rfl underlying28 (.inr ⟨_, underlying28⟩) (by kernel_rfl) sizeOf9 zeroValue9 rfl hg rfl (Src.slice (Blk.at 0 rfl) rfl rfl rfl) (by omega) ?_)
   intro g10 hg10
   refine J.z q1 ?_
   refine J.nil (Ej.blkNormal (Ej.seq (Cj.region (J.z (yl_add rfl rfl rfl (w64 (by omega))) ?_))))
   refine J.z q0 ?_
   refine J.nil (Ej.keep (Keeps.d (Keeps.d Keeps.r)) ?_)
   refine Ej.round (j + 1, g10) ⟨by dsimp only; omega, by dsimp only; rw [hnx, List.map_append, List.length_append]; exact hg10⟩ (by dsimp only; omega) ⟨rfl, by dsimp only; rw [hnx, List.length_append]; rfl, rfl, rfl, rfl, trivial⟩ rfl (by dsimp only; rw [hnx, List.map_append]; rfl)
  have hc8p := of_decide_eq_false hc8
  have hsel : ¬ sel codes sb = true := by unfold sel; rw [decide_eq_false hce, ← index_has]; exact fun e => Bool.noConfusion (e.symm.trans hc8)
  rw [if_neg hsel] at hnx
  refine Cj.skip (Ej.blkNormal (Ej.seq (Cj.region (J.z (yl_add rfl rfl rfl (w64 (by omega))) ?_))))
  refine J.z q0 ?_
  refine J.nil (Ej.keep (Keeps.d Keeps.r) ?_)
  refine Ej.round (j + 1, g) ⟨by dsimp only; omega, by dsimp only; rw [hnx, List.append_nil]; exact hg⟩ (by dsimp only; omega) ⟨rfl, by dsimp only; rw [hnx, List.append_nil]; rfl, rfl, rfl, rfl, trivial⟩ rfl (by dsimp only; rw [hnx, List.append_nil])
 have hc2p := of_decide_eq_false hc2
 refine Cj.exit (Ej.seqExit (Ej.loopExit (Ej.blkExit (Ej.seq (Cj.seq ?_)))))
 have hfull : f.subs.take j = f.subs := List.take_of_length_le (by omega)
 rw [hfull] at hg ⊢
 have htl2 := textX_len f codes
 refine Cj.perm (H' := gH _ _ _ ++ []) (.of_eq (List.append_nil _)) ?_
 refine Cj.keepS hg (fun I8 hle8 hv => ?_)
 refine Cj.region (J.z q0 ?_)
 refine J.op rfl (op_pure rfl rfl rfl rfl rfl (Join_ok (txs codes f.subs) _ (by have := txs_len codes f.subs; omega) (by have e : Ke.join (txs codes f.subs) = textX f codes := rfl; rw [e]; omega) _ hv) ?_)
 refine J.z q1 ?_
 refine J.ns (Cj.ret (q6 ?_))
 exact ⟨rfl, rfl⟩
theorem skip_ok (f : Ke.Fld) (hi : f.ind.length ≤ 2000000) (I : Heap) : Pure Tryz.prog 102 [.agg (fldC f).toArray] I (i64 ((Ix.skipT f : Nat) : Int)) := by
 refine Ctr.toPure ?_
 refine Ctr.ob func102 ?_
 intro w0 hw0
 refine Cj.sr (J.op rfl (q25 ?_))
 intro b1 hb1
 refine J.z q1 ?_
 refine J.nsss (Cj.region (J.z (q3 (off' := 0) underlying31 sizeOf9) ?_))
 refine J.z (q7 isAgg9 (Blk.at 0 rfl)) ?_
 refine J.z (yl_eqlStr rfl rfl rfl) ?_
 refine J.z q0 ?_
 refine J.split 6 rfl (fun hg2 => ?_) (fun hg2 => ?_)
 rotate_left
 ·
  have hg2p := ne_of_beq_false hg2
  have htag : ¬ f.tag = [50, 52, 53] := ne_of_beq_false hg2
  refine q4 3 6 7 true hg2 ?_
  refine q4 3 6 8 true hg2 ?_
  refine q4 3 6 9 true hg2 ?_
  refine q4 3 6 10 true hg2 ?_
  refine J.z (q10 hg2) ?_
  refine J.z q0 ?_
  refine J.sk 9 12 13 rfl ?_
  refine J.sk 9 12 14 rfl ?_
  refine J.sk 9 12 15 rfl ?_
  refine J.sk 9 12 16 rfl ?_
  refine J.z q21 ?_
  refine J.z q0 ?_
  refine J.sk 15 18 19 rfl ?_
  refine J.sk 15 18 20 rfl ?_
  refine J.sk 15 18 21 rfl ?_
  refine J.sk 15 18 22 rfl ?_
  refine J.z q21 ?_
  refine J.c0 (fun hc8 => ?_)
  refine Cj.skip (Ej.seq (Cj.sr (J.z q1 ?_)))
  refine J.ns (Cj.ret (Ej.bare ?_))
  refine q6 ?_
  rw [show Ix.skipT f = 0 from if_neg htag]
  exact ⟨rfl, rfl⟩
 have hg2p := eq_of_beq hg2
 have htag : f.tag = [50, 52, 53] := eq_of_beq hg2
 refine q5 3 6 true hg2 (q2 (q3 (off' := 1) underlying31 sizeOf9) ?_)
 refine q5 3 6 true hg2 (q2 (q7 isAgg9 (Blk.at 0 rfl)) ?_)
 refine q5 3 6 true hg2 (q2 (q23 underlying9) ?_)
 refine q5 3 6 true hg2 (q2 (yl_gtr rfl rfl rfl) ?_)
 refine J.z (q11 hg2) ?_
 refine J.z q0 ?_
 refine J.split 12 rfl (fun hg3 => ?_) (fun hg3 => ?_)
 ·
  have hg3p := of_decide_eq_true hg3
  have hl1 : 1 < f.ind.length := by have h := of_decide_eq_true hg3; omega
  obtain ⟨c, hget⟩ : ∃ c, f.ind[1]? = some c := ⟨_, List.getElem?_eq_getElem hl1⟩
  refine q5 9 12 true hg3 (q2 (q3 (off' := 1) underlying31 sizeOf9) ?_)
  refine q5 9 12 true hg3 (q2 (q7 isAgg9 (Blk.at 0 rfl)) ?_)
  refine J.opG 9 12 true _ rfl rfl rfl hg3 (op_yld (q27 underlying9 hget) rfl rfl ?_)
  refine q5 9 12 true hg3 (q2 (yl_geq rfl rfl rfl) ?_)
  refine J.z (q11 hg3) ?_
  refine J.z q0 ?_
  refine J.split 18 rfl (fun hg4 => ?_) (fun hg4 => ?_)
  ·
   have hg4p := of_decide_eq_true hg4
   have h48 : 48 ≤ c.toNat := by have h := of_decide_eq_true hg4; omega
   refine q5 15 18 true hg4 (q2 (q3 (off' := 1) underlying31 sizeOf9) ?_)
   refine q5 15 18 true hg4 (q2 (q7 isAgg9 (Blk.at 0 rfl)) ?_)
   refine J.opG 15 18 true _ rfl rfl rfl hg4 (op_yld (q27 underlying9 hget) rfl rfl ?_)
   refine q5 15 18 true hg4 (q2 (yl_leq rfl rfl rfl) ?_)
   refine J.z (q11 hg4) ?_
   refine J.cd (fun hc5 => ?_) (fun hc5 => ?_)
   ·
    have hc5p := of_decide_eq_true hc5
    have h57 : c.toNat ≤ 57 := by have h := of_decide_eq_true hc5; omega
    have hdg : Ke.digit c = true := by rw [Ix.digit_nat]; simp only [decide_eq_true_eq]; omega
    refine Cj.sr (J.z (q3 (off' := 1) underlying31 sizeOf9) ?_)
    refine J.z (q7 isAgg9 (Blk.at 0 rfl)) ?_
    refine J.z (q27 underlying9 hget) ?_
    refine J.z (yl_sub rfl rfl rfl (w8 (by omega))) ?_
    refine J.z (yl_convInt rfl rfl underlying5 underlying3) ?_
    refine J.eqv 28 rfl (show _ = i64 ((c.toNat - 48 : Nat) : Int) from (congrArg i64 ((w64 (by omega)).trans (by omega)))) ?_
    refine J.z q1 ?_
    refine J.ns (Cj.ret (Ej.seqRet (Ej.bare ?_)))
    refine q6 ?_
    rw [show Ix.skipT f = Ke.skip f from if_pos htag]
    rw [skip_char hget, if_pos hdg]
    exact ⟨rfl, rfl⟩
   ·
    have hc5p := of_decide_eq_false hc5
    have hdg : ¬ Ke.digit c = true := by rw [Ix.digit_nat]; have h := of_decide_eq_false hc5; simp only [decide_eq_true_eq]; omega
    refine Cj.skip (Ej.seq (Cj.sr (J.z q1 ?_)))
    refine J.ns (Cj.ret (Ej.bare ?_))
    refine q6 ?_
    rw [show Ix.skipT f = Ke.skip f from if_pos htag]
    rw [skip_char hget, if_neg hdg]
    exact ⟨rfl, rfl⟩
  ·
   have hg4p := of_decide_eq_false hg4
   have hdg : ¬ Ke.digit c = true := by rw [Ix.digit_nat]; have h := of_decide_eq_false hg4; simp only [decide_eq_true_eq]; omega
   refine q4 15 18 19 true hg4 ?_
   refine q4 15 18 20 true hg4 ?_
   refine q4 15 18 21 true hg4 ?_
   refine q4 15 18 22 true hg4 ?_
   refine J.z (q10 hg4) ?_
   refine J.c0 (fun hc6 => ?_)
   refine Cj.skip (Ej.seq (Cj.sr (J.z q1 ?_)))
   refine J.ns (Cj.ret (Ej.bare ?_))
   refine q6 ?_
   rw [show Ix.skipT f = Ke.skip f from if_pos htag]
   rw [skip_char hget, if_neg hdg]
   exact ⟨rfl, rfl⟩
 ·
  have hg3p := of_decide_eq_false hg3
  have hl1 : ¬ 1 < f.ind.length := by have h := of_decide_eq_false hg3; omega
  refine q4 9 12 13 true hg3 ?_
  refine q4 9 12 14 true hg3 ?_
  refine q4 9 12 15 true hg3 ?_
  refine q4 9 12 16 true hg3 ?_
  refine J.z (q10 hg3) ?_
  refine J.z q0 ?_
  refine J.sk 15 18 19 rfl ?_
  refine J.sk 15 18 20 rfl ?_
  refine J.sk 15 18 21 rfl ?_
  refine J.sk 15 18 22 rfl ?_
  refine J.z q21 ?_
  refine J.c0 (fun hc7 => ?_)
  refine Cj.skip (Ej.seq (Cj.sr (J.z q1 ?_)))
  refine J.ns (Cj.ret (Ej.bare ?_))
  refine q6 ?_
  rw [show Ix.skipT f = Ke.skip f from if_pos htag]
  rw [skip_no hl1]
  exact ⟨rfl, rfl⟩
theorem year1_ok (s : List UInt8) (I : Heap) : Pure Tryz.prog 181 [str s] I (.bool (decide (s.length = 4))) := by
 refine Ctr.toPure ?_
 refine Ctr.ob func181 ?_
 intro w0 hw0
 refine Cj.sr (J.z q1 ?_)
 refine J.nssr (J.z q0 ?_)
 refine J.z (q23 underlying9) ?_
 refine J.z q20 ?_
 refine J.eqv 5 rfl (show _ = .bool (decide (s.length = 4)) from (congrArg Value.bool (by rw [Bool.eq_iff_iff, beq_iff_eq, decide_eq_true_eq]; omega))) ?_
 refine J.z q1 ?_
 refine J.ns (Cj.ret (q6 ?_))
 exact ⟨rfl, rfl⟩
theorem notDigit_ok (c : Nat) (I : Heap) : Pure Tryz.prog 179 [.int .i32 (c : Int)] I (.bool (Ix.nod c)) := by
 refine Ctr.toPure ?_
 refine Ctr.ob func179 ?_
 intro w0 hw0
 refine Cj.sr (J.z q1 ?_)
 refine J.nssr (J.z q0 ?_)
 refine J.z q17 ?_
 refine J.z q0 ?_
 refine J.split 5 rfl (fun hg1 => ?_) (fun hg1 => ?_)
 ·
  have hg1p := of_decide_eq_true hg1
  refine q4 2 5 6 false hg1 ?_
  refine q4 2 5 7 false hg1 ?_
  refine J.z (q11 hg1) ?_
  refine J.z q1 ?_
  refine J.ns (Cj.ret (q6 ?_))
  have e : Ix.nod c = true := by unfold Ix.nod; have h := of_decide_eq_true hg1; rw [decide_eq_true (by omega : c < 48)]; rfl
  rw [e]
  exact ⟨rfl, rfl⟩
 have hg1p := of_decide_eq_false hg1
 refine q5 2 5 false hg1 (q2 q0 ?_)
 refine q5 2 5 false hg1 (q2 (yl_gtr rfl rfl rfl) ?_)
 refine J.z (q10 hg1) ?_
 refine J.z q1 ?_
 refine J.ns (Cj.ret (q6 ?_))
 refine ⟨?_, rfl⟩
 have h := of_decide_eq_false hg1
 unfold Ix.nod
 rw [decide_eq_false (by omega : ¬ c < 48), Bool.false_or]
 exact congrArg (fun b => Ending.returned (Value.bool b)) (decide_eq_decide.2 (by omega))
theorem FieldsFunc_ok (s : List UInt8) (hs : s.length ≤ 4000000000) (I : Heap) : Ctr Tryz.prog 178 [str s, .func (.func 179) #[] #[]] I [] (fun e I' H' => ∃ v, e = .returned v ∧ StrS 9 I' (Ix.runsD s) v ∧ H' = []) := by
  have hz : ∀ x : Nat, x ≤ 1114111 → ∀ W : World, Calls Tryz.prog 179 #[.int .i32 (x : Int)] W fun e w' => e = .returned (.bool (Ix.nod x)) ∧ RowKit.Below W.heap.size W w' := fun x _ W => by
    have h := (notDigit_ok x (fun _ => none)).2 W (by unfold Ready; exact ⟨(fun b o hb => by cases hb), (fun p hp => by cases hp), List.Pairwise.nil, (fun p hp => by cases hp)⟩)
    exact h.mono fun e w' ⟨I', H', hs, h1, _⟩ => ⟨h1, hs.os, hs.tape, hs.output, hs.size, fun k hk => hs.frm k hk (by simp)⟩
  have hrun : Lib.goFieldsP Ix.nod ⟨s.toArray⟩ = (Ix.runsD s).map fun x => ⟨x.toArray⟩ := Ix.fieldsD s
  refine Ctr.of_row (vals := ((Ix.runsD s).map fun x => (⟨x.toArray⟩ : ByteArray)).map Value.string) (by rw [List.map_map]; rfl) (Enters.of func178 (by decide) rfl) fun w => ?_
  have h := Tryz.strings_FieldsFunc_grows 179 #[] (enters_of func179 (by kernel_rfl) rfl) Ix.nod ⟨s.toArray⟩ w (by rw [size_mk]; omega) (fun W x hx _ => hz x hx W)
  rw [hrun, List.length_map] at h
  exact h
theorem IndexFuncS_ok (l : List (List UInt8)) (v : Value) (pq : List UInt8 → Bool) (g : Nat) (cap : List Value) (hl : l.length ≤ 100000000000000) (I : Heap) (hr : StrP I l v) (hcl : ∀ x ∈ l, Pure Tryz.prog g (str x :: cap) I (.bool (pq x))) : Pure Tryz.prog 180 [v, .func (.func g) #[] cap.toArray] I (i64 (idxI pq l)) := by
 refine Ctr.toPure ?_
 obtain ⟨p, c, rfl, hc, hp⟩ := hr
 refine Ctr.ob func180 ?_
 intro w0 hw0
 refine Cj.sr (J.z q1 ?_)
 refine J.nsss (Cj.region (J.z q0 ?_))
 refine J.z (q16 underlying28) ?_
 refine J.z q0 ?_
 refine J.ns (Cj.block (Cj.loop (ι := Nat) (fun j => j ≤ l.length ∧ ∀ x ∈ l.take j, pq x = false) (fun j => l.length - j) (fun j => [(0, .slice p l.length c), (1, .func (.func g) #[] cap.toArray), (7, i64 (l.length : Int)), (8, i64 (j : Int))]) (fun j => I) (fun j => []) 0 ⟨Nat.zero_le _, fun g hg => by simp at hg⟩ ⟨rfl, rfl, rfl, rfl, trivial⟩ rfl rfl ?_))
 rintro j ⟨hj, hall⟩
 refine Cj.sr (J.z q17 ?_)
 refine J.nss (Cj.cond rfl (fun hc1 => ?_) (fun hc1 => ?_))
 ·
  have hc1p := of_decide_eq_true hc1
  have hlt : j < l.length := by omega
  obtain ⟨x, hget⟩ : ∃ x, l[j]? = some x := ⟨_, List.getElem?_eq_getElem hlt⟩
  obtain ⟨fb, fo, fcs, fty, ffr, sp, rfl, hfb, hfd⟩ := hp (ne_nil_of hlt)
  refine Cj.skip (Ej.seq (Cj.seq (Cj.block (Cj.sr (J.z q0 ?_)))))
  refine J.z q1 ?_
  refine J.nssr (J.z q0 ?_)
  refine J.z q0 ?_
  refine J.z q0 ?_
  refine J.z (q24 (off' := fo + j) underlying28 sizeOf9) ?_
  refine J.z (yl_load rfl rfl isAgg9 (Blk.imm hfb) (str_from hfd hget)) ?_
  refine J.op rfl (op_pure rfl rfl rfl rfl rfl (hcl x (List.mem_of_getElem? hget)) ?_)
  refine J.cd (fun hc2 => ?_) (fun hc2 => ?_)
  ·
   have ht : pq x = true := hc2
   refine Cj.sr (J.z q0 ?_)
   refine J.z q1 ?_
   refine J.ns (Cj.ret (Ej.blkRet (Ej.seqRet (Ej.loopRet (Ej.blkRet (Ej.seqRet (q6 ?_)))))))
   rw [idxI_at hall hget ht]
   exact ⟨rfl, rfl⟩
  have hnt : pq x = false := hc2
  refine Cj.skip (Ej.blkNormal (Ej.seq (Cj.region (J.z (yl_add rfl rfl rfl (w64 (by omega))) ?_))))
  refine J.z q0 ?_
  refine J.nil (Ej.round (j + 1) ⟨by omega, false_next hall hget hnt⟩ (by omega) ⟨rfl, rfl, rfl, rfl, trivial⟩ rfl rfl)
 have hc1p := of_decide_eq_false hc1
 have hfull : l.take j = l := List.take_of_length_le (by omega)
 rw [hfull] at hall
 refine Cj.exit (Ej.seqExit (Ej.loopExit (Ej.blkExit (Ej.seq (Cj.sr (J.z q1 ?_))))))
 refine J.ns (Cj.ret (q6 ?_))
 rw [idxI_none hall]
 exact ⟨rfl, rfl⟩
theorem runsF_len : ∀ (s w : List UInt8), (Ix.runsF w s).length ≤ s.length + w.length
  | [], w => by
    unfold Ix.runsF
    split
    · simp
    rename_i h; have : 0 < w.length := List.length_pos_iff.2 h; simp only [List.length_cons, List.length_nil]; omega
  | c :: r, w => by
    unfold Ix.runsF
    split
    · have := runsF_len r (w ++ [c]); rw [List.length_append] at this; simp only [List.length_cons, List.length_nil] at this ⊢; omega
    split
    · have := runsF_len r []; simp only [List.length_nil, List.length_cons] at this ⊢; omega
    rename_i h
    have := runsF_len r []; have h2 : 0 < w.length := List.length_pos_iff.2 h
    simp only [List.length_nil, List.length_cons] at this ⊢; omega
theorem runsD_len (s : List UInt8) : (Ix.runsD s).length ≤ s.length := by
  have := runsF_len s []
  exact this
theorem iyear_ok (s : List UInt8) (hs : s.length ≤ 100000000) (I : Heap) : Pure Tryz.prog 149 [str s] I (.tuple #[str ((Ix.yearOf s).getD []), .bool (Ix.yearOf s).isSome]) := by
 refine Ctr.toPure ?_
 have hrl := runsD_len s
 refine Ctr.ob func149 ?_
 intro w0 hw0
 refine Cj.sr (J.z q1 ?_)
 refine J.z q1 ?_
 refine J.nssr (J.z q0 ?_)
 refine J.op rfl (op_call (H1 := []) rfl rfl rfl rfl rfl (FieldsFunc_ok s (by omega) _) ?_ (fun _ _ _ _ ⟨_, h, _⟩ => nomatch h) (fun _ _ ⟨_, h, _⟩ => nomatch h))
 intro v1 I2 H3 hle4 hp5
 obtain ⟨vl, h, hl, rfl⟩ := hp5; cases h
 refine J.z q1 ?_
 refine J.nssr (J.z q0 ?_)
 refine J.op rfl (op_pure rfl rfl rfl rfl rfl (IndexFuncS_ok (Ix.runsD s) _ four 181 [] (by omega) _ (StrP.of hl) (fun x _ => year1_ok x _)) ?_)
 refine J.z q1 ?_
 refine J.nsss (Cj.region (J.z q0 ?_))
 refine J.z q17 ?_
 refine J.cd (fun hc11 => ?_) (fun hc11 => ?_)
 ·
  have hc11p := of_decide_eq_true hc11
  have hfind : Ix.yearOf s = none := ((idxI_cases four (Ix.runsD s)).resolve_right (fun ⟨k, x, h, _⟩ => by rw [h] at hc11p; omega)).2
  refine Cj.sr (J.z q1 ?_)
  refine J.z q1 ?_
  refine J.ns (Cj.ret (Ej.seqRet (q19 ?_)))
  rw [hfind]
  exact ⟨rfl, rfl⟩
 have hc11p := of_decide_eq_false hc11
 obtain ⟨k, y, hkk, hget, hfind⟩ := (idxI_cases four (Ix.runsD s)).resolve_left (fun h => by rw [h.1] at hc11p; omega)
 obtain ⟨yb, yc, ysp, rfl, hyb⟩ := hl.some (fun e => by rw [e] at hget; cases hget)
 rw [hkk]
 have hklt := (List.getElem?_eq_some_iff.1 hget).1
 refine Cj.skip (Ej.seq (Cj.sr (J.z q0 ?_)))
 refine J.z q0 ?_
 refine J.z (q24 (off' := k) underlying28 sizeOf9) ?_
 refine J.z (yl_load rfl rfl isAgg9 (Blk.imm hyb) (str_get hget)) ?_
 refine J.z q1 ?_
 refine J.z q1 ?_
 refine J.ns (Cj.ret (q19 ?_))
 rw [show Ix.yearOf s = some y from hfind]
 exact ⟨rfl, rfl⟩
end Go.Proofs.YtjcdfnbomkoheaaGreatDoor
end
