/- FnExactIsComment answers true for every string: the program's IsComment (strings.HasPrefix with "*") and the reference's (first byte is '*') agree. Conditions: none beyond the statement's own. -/
import Derived.Test.YtncjffhgfjhjcaaPFnExactIsCommentx1
namespace Go.Proofs.Ytncjffhgfjhjcaa.Pure
open Go.RowKit Go.Proofs.Ytncjffhgfjhjcaa.PFnExactIsComment Go.Proofs.YtncjffhgfjhjcaaW.PrintWords Go.Proofs.YtncjffhgfjhjcaaW.PrintLast

theorem IsComment_extract (s : ByteArray) (c : UInt8) (h : 1 ≤ s.size) : ((s.extract 0 1).toList == ((⟨#[c]⟩ : ByteArray)).toList) = (bt s 0 == (c.toNat : Int)) := by
  rw [Go.ByteArray.toList_eq, Go.ByteArray.toList_eq]
  have h1 : (s.extract 0 1).data.toList = [s[0]'(by omega)] := by
    rw [ByteArray.data_extract, Array.toList_extract]
    apply List.ext_getElem
    · simp
      have := data_length s
      simp at this
      omega
    · intro i h2 h3
      simp at h3
      subst h3
      simp
      rfl
  rw [h1]
  have h2 : bt s 0 = ((s[0]'(by omega)).toNat : Int) := (bt_at s 0 (by omega)).symm
  rw [h2]
  rw [Bool.eq_iff_iff]
  simp only [beq_iff_eq]
  constructor
  · intro h
    have h4 : s[0]'(by omega) = c := by simpa using h
    rw [h4]
  · intro h
    have h4 : (s[0]'(by omega)).toNat = c.toNat := by exact_mod_cast h
    have h5 : s[0]'(by omega) = c := UInt8.toNat_inj.1 h4
    rw [h5]

theorem FnExactIsComment : laws_FnExactIsComment.Pure := by
  intro s _
  unfold laws_FnExactIsComment.f
  split
  · rfl
  unfold spec_IsComment.f impl_IsComment.f strings_HasPrefix.f stringslite_HasPrefix.f
  have e1 : ((⟨#[42]⟩ : ByteArray).size : Int) = 1 := rfl
  rw [e1]
  by_cases h : 1 ≤ s.size
  · have hne : ¬ s.toList = [] := by
      rw [Go.ByteArray.toList_eq]
      intro e
      have := data_length s
      rw [e] at this
      simp at this
      omega
    have e2 : ((s.extract 0 (Int.toNat 1)).toList == ((⟨#[42]⟩ : ByteArray)).toList) = (bt s 0 == 42) := IsComment_extract s 42 h
    rw [if_neg hne, if_pos (by omega), if_pos (by omega), if_pos (by omega), if_pos (by omega), e2]
    simp
  · have he : s.toList = [] := by
      rw [Go.ByteArray.toList_eq]
      exact List.eq_nil_of_length_eq_zero (by rw [data_length]; omega)
    rw [if_pos he, if_neg (by omega)]
    simp

end Go.Proofs.Ytncjffhgfjhjcaa.Pure
