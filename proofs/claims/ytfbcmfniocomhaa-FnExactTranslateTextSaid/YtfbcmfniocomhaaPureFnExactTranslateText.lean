/- FnExactTranslateText answers true for all strings: the program's TranslateText (strings.LastIndexByte) and the reference's (a byte at a time) replace the same bytes. Conditions: none beyond the statement's own. -/
import Derived.Test.YtfbcmfniocomhaaPFnExactTranslateTextx1
namespace Go.Proofs.Ytfbcmfniocomhaa.Pure
open Go.RowKit Go.Proofs.Ytfbcmfniocomhaa.PFnExactTranslateText Go.Proofs.YtfbcmfniocomhaaW.PrintWords Go.Proofs.YtfbcmfniocomhaaW.PrintLast Go.Proofs.YtfbcmfniocomhaaW.PrintMore
theorem FnExactTranslateText : laws_FnExactTranslateText.Pure := by
  intro s a b _ _ _
  unfold laws_FnExactTranslateText.f
  by_cases h : (s.size : Int) > 1048576
  · rw [if_pos h]
  rw [if_neg h]
  by_cases h1 : (a.size : Int) > 1048576
  · rw [if_pos h1]
  rw [if_neg h1]
  by_cases h2 : (b.size : Int) > 1048576
  · rw [if_pos h2]
  rw [if_neg h2]
  have hf : ∃ r, spec_TranslateText.f s a b = some r ∧ impl_TranslateText.f s a b = some r := by
    unfold spec_TranslateText.f impl_TranslateText.f
    by_cases c1 : a.toList = ([] : List UInt8)
    · rw [if_pos c1]
      exact ⟨_, rfl, rfl⟩
    rw [if_neg c1]
    by_cases c2 : a.size = b.size
    · rw [if_pos c2, if_pos (show s.size ≤ 1048576 by omega), if_pos (show a.size ≤ 1048576 by omega)]
      exact ⟨_, rfl, rfl⟩
    · rw [if_neg c2]
      exact ⟨_, rfl, rfl⟩
  obtain ⟨r, e1, e2⟩ := hf
  rw [e1, e2, Option.bind_some, Option.bind_some, if_pos rfl, if_neg (show ¬ (r.2 != r.2) = true by simp)]
end Go.Proofs.Ytfbcmfniocomhaa.Pure
