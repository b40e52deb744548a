/- FnExactSameValue answers true for every two values: the program's and the reference's SameValue both compare the four fields. Conditions: none beyond the statement's own. -/
import Derived.Test.YtncjffhgfjhjcaaPFnExactSameValuex2
namespace Go.Proofs.Ytncjffhgfjhjcaa.Pure
open Go.RowKit Go.Proofs.Ytncjffhgfjhjcaa.PFnExactSameValue Go.Proofs.YtncjffhgfjhjcaaW.PrintWords Go.Proofs.YtncjffhgfjhjcaaW.PrintLast
theorem FnExactSameValue : laws_FnExactSameValue.Pure := by
  intro x y _ _
  unfold laws_FnExactSameValue.f
  have h : ∀ (a b : Int) (c : ByteArray) (d e : Int), ∃ r, laws_szValue.f a b c d e = some r := by
    intro a b c d e
    unfold laws_szValue.f
    split
    · exact ⟨_, rfl⟩
    · exact ⟨_, rfl⟩
  obtain ⟨r, hr⟩ := h x.f0 x.f1 x.f2 x.f3 1048576
  rw [hr, Option.bind_some]
  split
  · rfl
  obtain ⟨r2, hr2⟩ := h y.f0 y.f1 y.f2 y.f3 r
  rw [hr2, Option.bind_some]
  split
  · rfl
  simp [laws_toValue.f, spec_SameValue.f, impl_SameValue.f]
end Go.Proofs.Ytncjffhgfjhjcaa.Pure
