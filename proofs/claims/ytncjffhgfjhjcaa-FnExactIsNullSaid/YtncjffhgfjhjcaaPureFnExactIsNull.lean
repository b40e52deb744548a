/- FnExactIsNull answers true for every value: the program's IsNull (equal to the value of the empty string) and the reference's compare the same four fields with the same. Conditions: none beyond the statement's own. -/
import Derived.Test.YtncjffhgfjhjcaaPFnExactIsNullx2
namespace Go.Proofs.Ytncjffhgfjhjcaa.Pure
open Go.RowKit Go.Proofs.Ytncjffhgfjhjcaa.PFnExactIsNull Go.Proofs.YtncjffhgfjhjcaaW.PrintWords Go.Proofs.YtncjffhgfjhjcaaW.PrintLast
theorem FnExactIsNull : laws_FnExactIsNull.Pure := by
  intro x _
  unfold laws_FnExactIsNull.f
  have h : ∀ (a b : Int) (c : ByteArray) (d e : Int), ∃ r, laws_szValue.f a b c d e = some r := by
    intro a b c d e
    unfold laws_szValue.f
    split
    · exact ⟨_, rfl⟩
    · exact ⟨_, rfl⟩
  obtain ⟨r, hr⟩ := h x.f0 x.f1 x.f2 x.f3 1048576
  rw [hr, Option.bind_some]
  split
  · rfl
  have e : (⟨#[]⟩ : ByteArray).toList = ([] : List UInt8) := by rw [Go.ByteArray.toList_eq]
  simp [laws_toValue.f, spec_IsNull.f, impl_IsNull.f, impl_null.f, impl_textOf.f, e]
end Go.Proofs.Ytncjffhgfjhjcaa.Pure
