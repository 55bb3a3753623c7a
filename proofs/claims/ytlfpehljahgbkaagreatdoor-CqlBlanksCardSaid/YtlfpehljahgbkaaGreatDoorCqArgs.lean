/-
  More arguments as the rows read them: a byte, a truth value. Own text. Conditions: none.
-/
import Derived.Test.YtlfpehljahgbkaaGreatDoorCqFrame
namespace Go.Proofs.YtlfpehljahgbkaaGreatDoor
open Go.ChangeShapes Go.WideShapes Go.ChangeAt Go.RowKit Go.Sx Go.Lib Go.ChangeMaps
section
variable {H : Type} {enc : TypeId × Value → H} {W : World} {base : Nat}
theorem u8_of {n : Int} (h : (Lit.int .u8 n).wf = true) : ∃ c : UInt8, n = (c.toNat : Int) := by
  simp [Lit.wf, IntKind.min, IntKind.max, IntKind.signed, IntKind.bits] at h
  refine ⟨UInt8.ofNatLT n.toNat (by show n.toNat < 256; omega), ?_⟩
  rw [UInt8.toNat_ofNatLT]
  omega
set_option maxRecDepth 100000 in
theorem arg_u8 {t : TypeId} {v : Value} {d : DataW H} {p : List MemPlace} (ht : Tryz.prog.underlying t = some (.int .u8)) (hval : Value.okWide Tryz.prog W .any base t v) (h : DataW.Trod enc Tryz.prog W 0 (fun _ => true) true t v d p) :
    ∃ c : UInt8, v = u8 c ∧ d = .lit (.int .u8 (c.toNat : Int)) ∧ p = [] ∧ Again enc W t v d p := by
  obtain ⟨n, rfl, rfl, rfl, hw⟩ := open_int ht hval h
  obtain ⟨c, rfl⟩ := u8_of hw
  exact ⟨c, rfl, rfl, rfl, fun W' _ sp _ => shut_int ht hw⟩
set_option maxRecDepth 100000 in
theorem arg_bool {t : TypeId} {v : Value} {d : DataW H} {p : List MemPlace} (ht : Tryz.prog.underlying t = some .bool) (hval : Value.okWide Tryz.prog W .any base t v) (h : DataW.Trod enc Tryz.prog W 0 (fun _ => true) true t v d p) :
    ∃ b : Bool, v = .bool b ∧ d = .lit (.bool b) ∧ p = [] ∧ Again enc W t v d p := by
  obtain ⟨b, rfl, rfl, rfl⟩ := open_bool ht hval h
  exact ⟨b, rfl, rfl, rfl, fun W' _ sp _ => shut_bool ht b⟩
end
end Go.Proofs.YtlfpehljahgbkaaGreatDoor
