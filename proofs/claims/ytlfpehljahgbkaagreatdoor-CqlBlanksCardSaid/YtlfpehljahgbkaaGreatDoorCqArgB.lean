/-
  An argument of many bytes, as the rows read it. Own text. Conditions: none.
-/
import Derived.Test.YtlfpehljahgbkaaGreatDoorCqArgs
import Derived.Test.YtlfpehljahgbkaaGreatDoorCqAid
namespace Go.Proofs.YtlfpehljahgbkaaGreatDoor
open Go.ChangeShapes Go.WideShapes Go.ChangeAt Go.RowKit Go.Sx Go.Lib Go.ChangeMaps
def toB (n : Int) : UInt8 := UInt8.ofNat n.toNat
theorem toB_ok {n : Int} (h : (Lit.int .u8 n).wf = true) : ((toB n).toNat : Int) = n := by
  obtain ⟨c, rfl⟩ := u8_of h
  unfold toB
  rw [Int.toNat_natCast, UInt8.ofNat_toNat]
theorem mem_bytes {W : World} {a : Addr} {len cap : Nat} {zs : List Int} (hcell : ∀ i, i < zs.length → W.cell? (a.add i) = some (.int .u8 (zs.getD i 0))) (hwf : ∀ n ∈ zs, (Lit.int .u8 n).wf = true) (hz : zs.length = cap) (hl : len ≤ cap) :
    MemB (HW W) ((zs.take len).map toB) (some a) := by
  intro hne
  have h0 : 0 < zs.length := by
    cases zs with
    | nil => simp at hne
    | cons _ _ => simp
  obtain ⟨blk, off, spot⟩ := a
  have h := hcell 0 h0
  cases spot with
  | some sp =>
    obtain ⟨_, _, _, _, hs⟩ := World.shape?_of_cell? h
    simp [Addr.add] at hs
  | none =>
    have hc : ∀ i, i < zs.length → W.cell? ⟨blk, off + i, none⟩ = some (.int .u8 (zs.getD i 0)) := fun i hi => by rw [← hcell i hi, Addr.add_lit]
    have h' := hc 0 h0
    unfold World.cell? at h'
    cases hb : W.heap[blk]? with
    | none => simp only [hb] at h'; cases h'
    | some o =>
      cases o with
      | cells cs t fr =>
        refine ⟨blk, off, cs.toList, t, fr, rfl, by show W.heap[blk]? = _; rw [hb], fun k x hk => ?_⟩
        rw [List.getElem?_map] at hk
        obtain ⟨n, hn, hx⟩ := Option.map_eq_some_iff.1 hk
        have hkl : k < zs.length := by
          have := (List.getElem?_eq_some_iff.1 hn).1
          simp at this; omega
        have hzn : zs[k]? = some n := by
          rw [List.getElem?_take] at hn
          split at hn
          · exact hn
          · cases hn
        have hmem : n ∈ zs := List.mem_of_getElem? hzn
        have h2 := hc k hkl
        unfold World.cell? at h2
        simp only [hb] at h2
        have h3 : zs.getD k 0 = n := by rw [List.getD, hzn]; rfl
        rw [h3, ← toB_ok (hwf n hmem), hx] at h2
        simpa using h2
      | _ => simp only [hb] at h'; cases h'
section
variable {H : Type} {enc : TypeId × Value → H} {W : World} {base : Nat}
set_option maxRecDepth 100000 in
theorem arg_bytes {t e : TypeId} {v : Value} {d : DataW H} {p : List MemPlace} (ht : Tryz.prog.underlying t = some (.slice e)) (he : Tryz.prog.underlying e = some (.int .u8)) (hc : Tryz.prog.cellsOf e = 1) (hval : Value.okWide Tryz.prog W .any base t v) (h : DataW.Trod enc Tryz.prog W 0 (fun _ => true) true t v d p) :
    ∃ (l : List UInt8) (q : Option Addr) (c : Nat), v = .slice q l.length c ∧ l.length ≤ 9223372036854775807 ∧ MemB (HW W) l q ∧ Again enc W t v d p := by
  obtain ⟨ad, len0, cap0, rfl⟩ := okWide_slice ht hval
  obtain ⟨fu, hf⟩ := h
  rcases open_ints ht he hc hf with ⟨h1, h2⟩ | ⟨a, len, cap, zs, h1, hb, hl, hm, hz, hx, hcell, hwf⟩
  · have h3 : Value.slice ad len0 cap0 = .slice none 0 0 := by simpa [Value.cells] using h1
    rw [h3]
    cases h2
    exact ⟨[], none, 0, rfl, Nat.zero_le _, fun h => absurd rfl h, fun W' _ sp _ => shut_slice_nil ht⟩
  · have h3 : Value.slice ad len0 cap0 = .slice (some a) len cap := by simpa [Value.cells] using h1
    rw [h3]
    simp only [Prod.mk.injEq] at hx
    obtain ⟨rfl, rfl⟩ := hx
    simp only [if_true] at hz
    have hm' : cap ≤ 9223372036854775807 := by unfold maxLen at hm; omega
    have hlen : ((zs.take len).map toB).length = len := by simp; omega
    refine ⟨(zs.take len).map toB, some a, cap, by rw [hlen], by rw [hlen]; omega, mem_bytes hcell hwf hz hl, fun W' hB sp hsp => ⟨2, ?_⟩⟩
    have hcell' : ∀ i, i < zs.length → W'.cell? (a.add i) = some (.int .u8 (zs.getD i 0)) := fun i hi => by
      rw [← hcell i hi]
      exact hB.cell (lt_of_cell (hcell i hi))
    have hz' : zs.length = if sp a.block then cap else len := by
      rcases Nat.eq_zero_or_pos zs.length with h0 | h0
      · split <;> omega
      · obtain ⟨q, hq, he⟩ := row_block (a := a) h0
        rw [if_pos (by rw [← he]; exact hsp q hq)]; exact hz
    simpa [Value.cells] using shut_ints 0 ht he hc (Nat.zero_le _) hl hm hz' hcell' hwf
end
end Go.Proofs.YtlfpehljahgbkaaGreatDoor
