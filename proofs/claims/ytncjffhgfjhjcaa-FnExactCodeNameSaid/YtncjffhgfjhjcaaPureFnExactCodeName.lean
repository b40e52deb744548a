/- FnExactCodeName answers true for every number: the program's and the reference's CodeName look the same list of twelve names up under the same bounds. Conditions: none beyond the statement's own (the number is an int64). -/
import Derived.Test.YtncjffhgfjhjcaaPFnExactCodeNamex1
namespace Go.Proofs.Ytncjffhgfjhjcaa.Pure
open Go.RowKit Go.Proofs.Ytncjffhgfjhjcaa.PFnExactCodeName Go.Proofs.YtncjffhgfjhjcaaW.PrintWords Go.Proofs.YtncjffhgfjhjcaaW.PrintLast

theorem FnExactCodeName : laws_FnExactCodeName.Pure := by
  intro a _
  have e : spec_CodeName.f a = impl_CodeName.f a ∧ ∃ r, impl_CodeName.f a = some r := by
    unfold spec_CodeName.f impl_CodeName.f spec_l00In.f impl_isIndex.f
    simp only [Option.bind_some, List.length_cons, List.length_nil]
    have e1 : wrap64 (((0 + 1 + 1 + 1 + 1 + 1 + 1 + 1 + 1 + 1 + 1 + 1 + 1 : Nat) : Int) - 1) = 11 := by unfold wrap64; omega
    simp only [e1]
    by_cases h : 0 ≤ a
    · by_cases h2 : a ≤ 11
      · have h3 : a < 12 := by omega
        simp [h, h2, h3]
      · have h3 : ¬ a < 12 := by omega
        simp [h, h2, h3]
    · simp [h]
  obtain ⟨e1, r, e2⟩ := e
  unfold laws_FnExactCodeName.f
  rw [e1, e2]
  simp

end Go.Proofs.Ytncjffhgfjhjcaa.Pure
