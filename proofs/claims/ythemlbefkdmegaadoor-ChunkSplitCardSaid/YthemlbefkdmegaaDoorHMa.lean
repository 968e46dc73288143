/- The hand contracts of strings.Cut in the form of the printed ones. -/
import Derived.Test.YthemlbefkdmegaaDoorHN
import Derived.Test.YthemlbefkdmegaaDoorHQ
namespace Go.Proofs.YthemlbefkdmegaaDoor.P
open Go.RowKit Go.Proofs.YthemlbefkdmegaaDoorW.PrintWords Go.Proofs.YthemlbefkdmegaaDoorW.PrintLast Go.Proofs.YthemlbefkdmegaaDoorW.PrintMore

def strings_Cut.f (a0 : ByteArray) (a1 : ByteArray) : Option (ByteArray × ByteArray × Bool) :=
  if a0.size ≤ 9223372036854775806 then
    match a1.data.toList with
    | [c] => some (⟨(Sp.cutL c a0.data.toList).toArray⟩, ⟨(Sp.cutR c a0.data.toList).toArray⟩, Sp.cutIs c a0.data.toList)
    | _ => none
  else none
theorem strings_Cut.calls (a0 : ByteArray) (a1 : ByteArray) (r1 : ByteArray) (r2 : ByteArray) (r3 : Bool) (w : World) (h : strings_Cut.f a0 a1 = some (r1, r2, r3)) :
    Calls Tryd.prog 53 #[.string a0, .string a1] w fun e w' => e = .returned (.tuple #[.string r1, .string r2, .bool r3]) ∧ Drawn0 w w' := by
  unfold strings_Cut.f at h
  split at h
  · split at h
    · rename_i c hc
      injection h with h
      injection h with h1 h
      injection h with h2 h3
      subst h1 h2 h3
      have e : a1 = ⟨#[c]⟩ := H.ba_ext (by rw [hc])
      subst e
      exact (H.cut_any a0 c w (by omega)).mono fun e w' ⟨h1, n, h2⟩ => ⟨h1, ⟨n, h2⟩⟩
    · cases h
  · cases h
end Go.Proofs.YthemlbefkdmegaaDoor.P
