/-
  Rows of texts that the kit's contracts of slices.Sort and slices.Compact write, as blocks of one's own. Own text; no program in sight. Conditions: none.
-/
import Derived.Test.YtnogdccoekfnoaaGreatDoorSxText
import Derived.Sort.Grow
import Derived.Sort.EncStr
namespace Go.Sx
open Go Go.Sort Go.Proofs
theorem row_holds {w : World} {b : Nat} {T : TypeId} {l : List (List UInt8)} {sp : List Value} (h : w.heap[b]? = some (cel T (l.map str ++ sp))) : Holds encStr w b 0 l.toArray := fun j hj => by
  have hj' : j < l.length := by simpa using hj
  have h1 : (l.map str ++ sp)[j]? = some (str l[j]) := str_get (List.getElem?_eq_getElem hj')
  have h2 : l.toArray[j]! = l[j] := by rw [getElem!_pos _ j hj]; simp
  refine ⟨?_, ?_⟩
  · rw [h2]
    simp only [World.cell?, h, cel, Nat.zero_add]
    simpa [str] using h1
  · simp only [World.frozen?, h, cel]; simp
theorem row_put {l l' : List (List UInt8)} {sp : List Value} (hl : l'.length = l.length) : putCells encStr 0 l'.toArray (l.map str ++ sp).toArray = (l'.map str ++ sp).toArray := by
  apply Array.ext_getElem?
  intro k
  simp only [putCells, Array.getElem?_mapIdx, List.getElem?_toArray, List.size_toArray, Nat.zero_le, true_and, Nat.zero_add, Nat.sub_zero]
  rcases Nat.lt_or_ge k l.length with h | h
  · have h1 : (l.map str ++ sp)[k]? = some (str l[k]) := str_get (List.getElem?_eq_getElem h)
    have h2 : (l'.map str ++ sp)[k]? = some (str (l'[k]'(by omega))) := str_get (List.getElem?_eq_getElem (by omega))
    have h3 : l'.toArray[k]! = l'[k]'(by omega) := by rw [getElem!_pos _ k (by simpa using (by omega : k < l'.length))]; simp
    rw [h1, h2, Option.map_some, if_pos (by omega), h3]
    rfl
  · rw [List.getElem?_append_right (by simpa using h), List.getElem?_append_right (by simp; omega), List.length_map, List.length_map, hl]
    cases sp[k - l.length]? with
    | none => rfl
    | some v => rw [Option.map_some, if_neg (by omega)]
theorem St.row {w : World} {I : Heap} {b : Nat} {T : TypeId} {l l' : List (List UInt8)} {sp : List Value} (n : Nat) (os : Array Obj) (hr : Ready I [(b, cel T (l.map str ++ sp))] w) (hl : l'.length = l.length) :
    St w [b] I I [(b, cel T (l'.map str ++ sp))] (grow (putRow encStr (Sort.ahead w n) b 0 l'.toArray) os) := by
  obtain ⟨r1, r2, r3, r4⟩ := hr
  have hb := r2 _ (List.mem_singleton.2 rfl)
  have hlt : ∀ {c : Nat} {o' : Obj}, w.heap[c]? = some o' → c < w.heap.size := fun {c o'} hc => by
    rcases Nat.lt_or_ge c w.heap.size with h' | h'
    · exact h'
    · simp [Array.getElem?_eq_none h'] at hc
  have hsz : (putRow encStr (Sort.ahead w n) b 0 l'.toArray).heap.size = w.heap.size := by simp [putRow, mapBlock, Sort.ahead]
  have hother : ∀ c, c < w.heap.size → c ≠ b → (grow (putRow encStr (Sort.ahead w n) b 0 l'.toArray) os).heap[c]? = w.heap[c]? := fun c hc hne => by
    simp only [grow]
    rw [Array.getElem?_append_left (by omega)]
    simp only [putRow, mapBlock, Sort.ahead, Array.getElem?_modify, if_neg (Ne.symm hne)]
  have hown : (grow (putRow encStr (Sort.ahead w n) b 0 l'.toArray) os).heap[b]? = some (cel T (l'.map str ++ sp)) := by
    have hbl := hlt hb
    simp only [grow]
    rw [Array.getElem?_append_left (by omega)]
    simp only [putRow, mapBlock, Sort.ahead, Array.getElem?_modify, if_true]
    rw [hb]
    simp only [Option.map_some, onCells, cel]
    rw [row_put hl]
  refine ⟨rfl, rfl, rfl, ?_, ?_, ?_, ?_, by simp, ?_, ?_, fun _ _ => rfl, Le.refl _⟩
  · simp only [grow, Array.size_append]; omega
  · intro c hc hd
    exact hother c hc (by simpa using hd)
  · intro c o hc
    have h1 := r1 c o hc
    refine (hother c (hlt h1) ?_).trans h1
    rintro rfl
    have := r4 _ (List.mem_singleton.2 rfl)
    rw [this] at hc; cases hc
  · intro p hp
    rw [List.mem_singleton.1 hp]; exact hown
  · intro p hp
    rw [List.mem_singleton.1 hp]; exact r4 (b, cel T (l.map str ++ sp)) (List.mem_singleton.2 rfl)
  · intro p hp
    rw [List.mem_singleton.1 hp]; exact .inl (.head _)
end Go.Sx
