/- The hand contracts of package field in the form of the printed ones: plain functions and what the Go functions do. -/
import Derived.Test.YthemlbefkdmegaaDoorPx0
import Derived.Test.YthemlbefkdmegaaDoorHC
namespace Go.Proofs.YthemlbefkdmegaaDoor.P
open Go.RowKit Go.Proofs.YthemlbefkdmegaaDoorW.PrintWords Go.Proofs.YthemlbefkdmegaaDoorW.PrintLast Go.Proofs.YthemlbefkdmegaaDoorW.PrintMore

def field_Name.f (a0 : ByteArray) : Option Bool := if a0.size ≤ 9223372036854775806 then some (Sp.nameB a0.data.toList) else none
theorem field_Name.calls (a0 : ByteArray) (r : Bool) (w : World) (h : field_Name.f a0 = some r) :
    Calls Tryd.prog 65 #[.string a0] w fun e w' => e = .returned (.bool r) ∧ Drawn0 w w' := by
  unfold field_Name.f at h
  split at h
  · injection h with h
    subst h
    exact (H.name_any a0 w (by omega)).mono fun e w' ⟨h1, h2⟩ => ⟨h1, h2 ▸ Drawn0.refl w⟩
  · cases h
def field_Value.f (a0 : ByteArray) : Option Bool := if a0.size ≤ 9223372036854775806 then some (Sp.valB a0.data.toList) else none
theorem field_Value.calls (a0 : ByteArray) (r : Bool) (w : World) (h : field_Value.f a0 = some r) :
    Calls Tryd.prog 66 #[.string a0] w fun e w' => e = .returned (.bool r) ∧ Below w.heap.size w w' := by
  unfold field_Value.f at h
  split at h
  · injection h with h
    subst h
    exact H.value_any a0 w (by omega)
  · cases h
def field_Trim.f (a0 : ByteArray) : Option ByteArray := if a0.size ≤ 9223372036854775806 then some ⟨(Sp.trim a0.data.toList).toArray⟩ else none
theorem field_Trim.calls (a0 : ByteArray) (r : ByteArray) (w : World) (h : field_Trim.f a0 = some r) :
    Calls Tryd.prog 55 #[.string a0] w fun e w' => e = .returned (.string r) ∧ Below w.heap.size w w' := by
  unfold field_Trim.f at h
  split at h
  · injection h with h
    subst h
    exact H.trim_any a0 w (by omega)
  · cases h
def field_Lower.f (a0 : ByteArray) : Option ByteArray := if a0.size ≤ 9223372036854775806 then some ⟨(Sp.lower a0.data.toList).toArray⟩ else none
end Go.Proofs.YthemlbefkdmegaaDoor.P
