/-
  Further blanks and other letters: the tokens of the two texts of the law CqlBlanks, and how they are read. Own text. Conditions: none.
-/
import Derived.Test.YtlfpehljahgbkaaGreatDoorCqPos
namespace Cq
/-! ### Letters -/
def upc (c : UInt8) : UInt8 := if 97 ≤ c.toNat ∧ c.toNat ≤ 122 then c - 32 else c
def upper (s : List UInt8) : List UInt8 := s.map upc
theorem byte_all {p : UInt8 → Prop} (h : ∀ n < 256, p (UInt8.ofNat n)) (c : UInt8) : p c := by
  have := h c.toNat c.toNat_lt
  rwa [UInt8.ofNat_toNat] at this
theorem upc_low (c : UInt8) : low (upc c) = low c := byte_all (p := fun c => low (upc c) = low c) (by decide +kernel) c
theorem upc_plain (c : UInt8) : plain (upc c) = plain c := byte_all (p := fun c => plain (upc c) = plain c) (by decide +kernel) c
theorem low_low (c : UInt8) : low (low c) = low c := byte_all (p := fun c => low (low c) = low c) (by decide +kernel) c
theorem low_esc (c : UInt8) : (low c = 34 ∨ low c = 92) ↔ (c = 34 ∨ c = 92) := byte_all (p := fun c => (low c = 34 ∨ low c = 92) ↔ (c = 34 ∨ c = 92)) (by decide +kernel) c
theorem plain_not_blank {c : UInt8} (h : blank c = true) : plain c = false := by unfold plain; rw [h]; rfl
theorem blank_61 {c : UInt8} (h : blank c = true) : c ≠ 61 := by rintro rfl; exact absurd h (by decide)
theorem small_upper (w : List UInt8) : small (upper w) = small w := by
  unfold small upper; rw [List.map_map]; exact List.map_congr_left fun c _ => upc_low c
theorem small_small (w : List UInt8) : small (small w) = small w := by
  unfold small; rw [List.map_map]; exact List.map_congr_left fun c _ => low_low c
theorem upper_len (w : List UInt8) : (upper w).length = w.length := by simp [upper]
theorem small_app (a b : List UInt8) : small (a ++ b) = small a ++ small b := by simp [small]
theorem small_escape (t : List UInt8) : small (escape t) = escape (small t) := by
  induction t with
  | nil => rfl
  | cons c r ih =>
    rw [escape_cons, small_app, ih, show small (c :: r) = low c :: small r from rfl, escape_cons]
    by_cases h : c = 34 ∨ c = 92
    · rw [if_pos h, if_pos ((low_esc c).2 h)]
      rcases h with rfl | rfl <;> rfl
    · rw [if_neg h, if_neg (fun h' => h ((low_esc c).1 h'))]; rfl
theorem small_text (t : List UInt8) : small (text t) = text (small t) := by
  have : text t = [34] ++ escape t ++ [34] := rfl
  rw [this, small_app, small_app, small_escape]; rfl
/-! ### Queries whose terms are small -/
def Qs.sm : Qs → Qs
  | .nil => .nil
  | .cons k i r t ps rest => .cons k i r (small t) ps.sm rest.sm
def Qn.sm (q : Qn) : Qn := ⟨q.k, q.i, q.r, small q.t, q.ps.sm⟩
theorem Qs.sm_kinds : ∀ ps : Qs, ps.sm.kinds = ps.kinds
  | .nil => rfl
  | .cons _ _ _ _ _ rest => by simp only [Qs.sm, Qs.kinds, Qs.sm_kinds rest]
theorem small_paren {k : Int} {x y : List UInt8} (h : small x = small y) : small (paren k x) = small (paren k y) := by
  unfold paren
  split
  · exact h
  · have e : ∀ z : List UInt8, (40 :: z ++ [41] : List UInt8) = [40] ++ z ++ [41] := fun _ => rfl
    rw [e, e, small_app, small_app, small_app, small_app, h]
theorem print1_sm (k : Int) (i r t : List UInt8) (ks : List Int) {ds ds' : List (List UInt8)} (h : ds'.map small = ds.map small) : small (print1 k i r (small t) ks ds') = small (print1 k i r t ks ds) := by
  unfold print1
  split
  · simp only [small_app, small_text, small_small]
  · have hl : ds'.length = ds.length := by simpa using congrArg List.length h
    rcases ks with _ | ⟨k0, _ | ⟨k1, _ | ⟨k2, ks⟩⟩⟩
    · rfl
    · rfl
    · rcases ds with _ | ⟨a, _ | ⟨b, _ | ⟨c, ds⟩⟩⟩ <;> rcases ds' with _ | ⟨a', _ | ⟨b', _ | ⟨c', ds'⟩⟩⟩ <;> simp only [List.length_cons, List.length_nil] at hl <;> first | omega | rfl | skip
      simp only [List.map_cons, List.map_nil, List.cons.injEq, and_true] at h
      simp only [small_app, h.1, small_paren (k := k1) h.2]
    · rfl
theorem Qs.sm_prints : ∀ ps : Qs, ps.sm.prints.map small = ps.prints.map small
  | .nil => rfl
  | .cons k i r t ps rest => by
    simp only [Qs.sm, Qs.prints, List.map_cons, Qs.sm_prints rest, Qs.sm_kinds ps, print1_sm k i r t ps.kinds (Qs.sm_prints ps)]
theorem write_sm (q : Qn) : small (write q.sm) = small (write q) := by
  unfold write Qn.sm
  rw [Qs.sm_kinds]
  exact print1_sm q.k q.i q.r q.t q.ps.kinds (Qs.sm_prints q.ps)
theorem two_sm (op : Nat) {a b a' b' : Qn} (h1 : a.sm = a'.sm) (h2 : b.sm = b'.sm) : (two op a b).sm = (two op a' b').sm := by
  simp only [Qn.sm, Qn.mk.injEq] at h1 h2
  simp only [two, Qn.push, Qs.sm, Qn.sm, h1.1, h1.2.1, h1.2.2.1, h1.2.2.2.1, h1.2.2.2.2, h2.1, h2.2.1, h2.2.2.1, h2.2.2.2.1, h2.2.2.2.2]
/-! ### Tokens that differ in letters and places alone -/
def PR (x : Tok × Tok) : Prop := x.1.kind = x.2.kind ∧ small x.1.text = small x.2.text ∧ (x.1.kind ≠ 3 → x.1.text = x.2.text)
theorem PR.lp {x : Tok × Tok} (h : PR x) : lp x.1 = lp x.2 := by
  unfold Cq.lp; rw [h.1]
  by_cases hk : x.1.kind = 3
  · rw [← h.1, hk]; rfl
  · rw [h.2.2 hk]
theorem PR.rp {x : Tok × Tok} (h : PR x) : rp x.1 = rp x.2 := by
  unfold Cq.rp; rw [h.1]
  by_cases hk : x.1.kind = 3
  · rw [← h.1, hk]; rfl
  · rw [h.2.2 hk]
theorem PR.op {x : Tok × Tok} (h : PR x) : operator x.1 = operator x.2 := by unfold operator; rw [h.1, h.2.1]
theorem PR.term {x : Tok × Tok} (h : PR x) : isTerm x.1 = isTerm x.2 := by unfold isTerm; rw [h.op, h.1]
theorem PR.rel {x : Tok × Tok} (h : PR x) : relation x.1 = relation x.2 := by unfold relation; rw [h.1, h.2.1]
def RR (Z : List (Tok × Tok)) : Res → Res → Prop
  | .ok q1 r1, .ok q2 r2 => q1.sm = q2.sm ∧ ∃ Z' : List (Tok × Tok), r1 = Z'.map (·.1) ∧ r2 = Z'.map (·.2) ∧ ∀ x ∈ Z', x ∈ Z
  | .err p1 e1, .err p2 e2 => e1 = e2 ∧ (e1 ≠ 0 → ∃ x ∈ Z, p1 = x.1.pos ∧ p2 = x.2.pos)
  | _, _ => False
theorem RR.sub {Z Z' : List (Tok × Tok)} (hs : ∀ x ∈ Z', x ∈ Z) : ∀ {a b : Res}, RR Z' a b → RR Z a b
  | .ok _ _, .ok _ _, h => ⟨h.1, let ⟨Y, h1, h2, h3⟩ := h.2; ⟨Y, h1, h2, fun x hx => hs x (h3 x hx)⟩⟩
  | .err _ _, .err _ _, h => ⟨h.1, fun he => let ⟨x, h1, h2⟩ := h.2 he; ⟨x, hs x h1, h2⟩⟩
theorem RR.here {Z : List (Tok × Tok)} {x : Tok × Tok} (hx : x ∈ Z) (e : Nat) : RR Z (.err x.1.pos e) (.err x.2.pos e) := ⟨rfl, fun _ => ⟨x, hx, rfl, rfl⟩⟩
theorem RR.none {Z : List (Tok × Tok)} (p p' : Nat) : RR Z (.err p 0) (.err p' 0) := ⟨rfl, fun h => absurd rfl h⟩
theorem pairs : ∀ f, (∀ deep Z, (∀ x ∈ Z, PR x) → RR Z (clause f deep (Z.map (·.1))) (clause f deep (Z.map (·.2)))) ∧ (∀ deep Z, (∀ x ∈ Z, PR x) → RR Z (query f deep (Z.map (·.1))) (query f deep (Z.map (·.2)))) ∧
    ∀ deep q q' Z, q.sm = q'.sm → (∀ x ∈ Z, PR x) → RR Z (more f deep q (Z.map (·.1))) (more f deep q' (Z.map (·.2)))
  | 0 => ⟨fun _ _ _ => by simp only [clause]; exact RR.none _ _, fun _ _ _ => by simp only [query]; exact RR.none _ _, fun _ _ _ _ _ _ => by simp only [more]; exact RR.none _ _⟩
  | f + 1 => by
    obtain ⟨hc, hq, hm⟩ := pairs f
    refine ⟨fun deep Z hZ => ?_, fun deep Z hZ => ?_, fun deep q q' Z hqq hZ => ?_⟩
    · cases Z with
      | nil => simp only [List.map_nil, clause]; exact RR.none _ _
      | cons x Z =>
        have hx := hZ x (.head _)
        have hZ' : ∀ y ∈ Z, PR y := fun y hy => hZ y (.tail _ hy)
        have hs : ∀ y ∈ Z, y ∈ x :: Z := fun y hy => .tail _ hy
        simp only [List.map_cons, clause]
        rw [← hx.lp, ← hx.term]
        by_cases h1 : lp x.1 = true
        · rw [if_pos h1, if_pos h1]
          by_cases h2 : deep + 1 > 50
          · rw [if_pos h2, if_pos h2]; exact RR.here (.head _) 41
          · rw [if_neg h2, if_neg h2]
            have h := hq (deep + 1) Z hZ'
            cases ha : query f (deep + 1) (Z.map (·.1)) with
            | err p e =>
              cases hb : query f (deep + 1) (Z.map (·.2)) with
              | err p' e' => rw [ha, hb] at h; exact RR.sub hs h
              | ok q' r' => rw [ha, hb] at h; exact h.elim
            | ok q r =>
              cases hb : query f (deep + 1) (Z.map (·.2)) with
              | err p' e' => rw [ha, hb] at h; exact h.elim
              | ok q' r' =>
                rw [ha, hb] at h
                obtain ⟨hqq, Z2, rfl, rfl, h3⟩ := h
                cases Z2 with
                | nil => exact RR.none _ _
                | cons y Z2 =>
                  have hy : y ∈ x :: Z := hs _ (h3 y (.head _))
                  simp only [List.map_cons]
                  rw [← (hZ y hy).rp]
                  split
                  · exact ⟨hqq, Z2, rfl, rfl, fun z hz => hs z (h3 z (.tail _ hz))⟩
                  · exact RR.here hy 40
        · rw [if_neg h1, if_neg h1]
          by_cases h2 : isTerm x.1 = true
          · rw [if_neg (by simp [h2]), if_neg (by simp [h2])]
            have bare : RR (x :: Z) (.ok ⟨1, [97, 110, 121], [61], x.1.text, .nil⟩ (Z.map (·.1))) (.ok ⟨1, [97, 110, 121], [61], x.2.text, .nil⟩ (Z.map (·.2))) :=
              ⟨by simp only [Qn.sm, hx.2.1], Z, rfl, rfl, hs⟩
            rw [← hx.1]
            cases Z with
            | nil => cases x.1.kind == 3 <;> exact bare
            | cons y Z =>
              have hy := hZ' y (.head _)
              cases x.1.kind == 3 with
              | false => exact bare
              | true =>
                simp only [List.map_cons]
                rw [← hy.rel, ← hx.2.1, ← hy.2.1]
                by_cases h3 : relation y.1 = true
                · rw [if_pos h3, if_pos h3]
                  split
                  · exact RR.here (.head _) 42
                  · cases Z with
                    | nil => exact RR.none _ _
                    | cons z Z =>
                      have hz := hZ' z (.tail _ (.head _))
                      simp only [List.map_cons]
                      rw [← hz.term]
                      split
                      · exact ⟨by simp only [Qn.sm, hz.2.1], Z, rfl, rfl, fun w hw => .tail _ (.tail _ (.tail _ hw))⟩
                      · exact RR.here (.tail _ (.tail _ (.head _))) 40
                · rw [if_neg h3, if_neg h3]; exact bare
          · rw [if_pos (by simpa using h2), if_pos (by simpa using h2)]; exact RR.here (.head _) 40
    · simp only [query]
      have h := hc deep Z hZ
      cases ha : clause f deep (Z.map (·.1)) with
      | err p e =>
        cases hb : clause f deep (Z.map (·.2)) with
        | err p' e' => rw [ha, hb] at h; exact h
        | ok q' r' => rw [ha, hb] at h; exact h.elim
      | ok q r =>
        cases hb : clause f deep (Z.map (·.2)) with
        | err p' e' => rw [ha, hb] at h; exact h.elim
        | ok q' r' =>
          rw [ha, hb] at h
          obtain ⟨hqq, Z2, rfl, rfl, h3⟩ := h
          exact RR.sub h3 (hm deep q q' Z2 hqq fun x hx => hZ x (h3 x hx))
    · cases Z with
      | nil => simp only [List.map_nil, more]; exact RR.none _ _
      | cons x Z =>
        have hx := hZ x (.head _)
        have hZ' : ∀ y ∈ Z, PR y := fun y hy => hZ y (.tail _ hy)
        have hs : ∀ y ∈ Z, y ∈ x :: Z := fun y hy => .tail _ hy
        simp only [List.map_cons, more]
        rw [← hx.op]
        by_cases h1 : operator x.1 = 0
        · rw [if_pos h1, if_pos h1]; exact ⟨hqq, x :: Z, rfl, rfl, fun _ h => h⟩
        · rw [if_neg h1, if_neg h1]
          have h := hc deep Z hZ'
          cases ha : clause f deep (Z.map (·.1)) with
          | err p e =>
            cases hb : clause f deep (Z.map (·.2)) with
            | err p' e' => rw [ha, hb] at h; exact RR.sub hs h
            | ok q2 r' => rw [ha, hb] at h; exact h.elim
          | ok q1 r =>
            cases hb : clause f deep (Z.map (·.2)) with
            | err p' e' => rw [ha, hb] at h; exact h.elim
            | ok q2 r' =>
              rw [ha, hb] at h
              obtain ⟨h2, Z2, rfl, rfl, h3⟩ := h
              exact RR.sub (fun y hy => hs y (h3 y hy)) (hm deep _ _ Z2 (two_sm _ hqq h2) fun y hy => hZ' y (h3 y hy))
end Cq
