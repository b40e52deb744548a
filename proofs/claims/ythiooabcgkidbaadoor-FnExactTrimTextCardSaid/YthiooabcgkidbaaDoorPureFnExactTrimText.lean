/- FnExactTrimText answers true for every string: the program's TrimText (strings.TrimRight) and the reference's (a loop from the end) cut the same blanks off. Conditions: none beyond the statement's own. -/
import Derived.Test.YthiooabcgkidbaaDoorPFnExactTrimTextx1
namespace Go.Proofs.YthiooabcgkidbaaDoor.Pure
open Go.RowKit Go.Proofs.YthiooabcgkidbaaDoor.PFnExactTrimText Go.Proofs.YthiooabcgkidbaaDoorW.PrintWords Go.Proofs.YthiooabcgkidbaaDoorW.PrintLast
namespace TrimText
-- blanks cut off (behind Bytes)
theorem bt_list (s : ByteArray) (i : Nat) (h : i < s.size) : ∃ b, s.data.toList[i]? = some b ∧ bt s (i : Int) = (b.toNat : Int) := by
  have h1 : i < s.data.toList.length := by rw [data_length]; exact h
  refine ⟨s.data.toList[i], List.getElem?_eq_getElem h1, ?_⟩
  rw [← rd_bytesOf]
  unfold rd bytesOf
  rw [Int.toNat_natCast, List.getD_eq_getElem?_getD, List.getElem?_map, List.getElem?_eq_getElem h1]
  rfl
theorem take_bytes (s : ByteArray) (n : Nat) : (s.extract 0 n).data.toList = s.data.toList.take n := by
  rw [ByteArray.data_extract]
  simp
theorem trimText_loop (s : ByteArray) (n : Nat) : n ≤ s.size → s.size ≤ 9223372036854775807 → ∃ r, Ev (fun k => spec_TrimText.l0 k s (n : Int)) r ∧ r.data.toList = Lib.trimRightB (s.data.toList.take n) 32 := by
  induction n with
  | zero =>
    intro h hs
    refine ⟨s.extract 0 0, Ev.step (f := fun _ => some (s.extract 0 0)) (fun k => ?_) (Ev.now _), ?_⟩
    · simp only [spec_TrimText.l0]
      rw [if_neg (by omega), if_pos (by omega), if_pos (by omega)]
      rfl
    · rw [take_bytes]
      simp [Lib.trimRightB]
  | succ n ih =>
    intro h hs
    obtain ⟨b, hb, he⟩ := bt_list s n (by omega)
    have w : wrap64 (((n + 1 : Nat) : Int) - 1) = (n : Int) := by unfold wrap64; omega
    have e : s.data.toList.take (n + 1) = s.data.toList.take n ++ [b] := by rw [List.take_add_one, hb]; rfl
    by_cases hc : b = 32
    · obtain ⟨r, er, hr⟩ := ih (by omega) hs
      refine ⟨r, Ev.step (f := fun k => spec_TrimText.l0 k s (n : Int)) (fun k => ?_) er, ?_⟩
      · simp only [spec_TrimText.l0]
        rw [if_pos (by omega), w, if_pos (by omega), if_pos (by omega), if_pos (by rw [he, hc]; rfl)]
      · rw [hr, e]
        unfold Lib.trimRightB
        rw [List.reverse_append]
        simp [hc]
    · refine ⟨s.extract 0 (n + 1), Ev.step (f := fun _ => some (s.extract 0 (n + 1))) (fun k => ?_) (Ev.now _), ?_⟩
      · simp only [spec_TrimText.l0]
        rw [if_pos (by omega), w, if_pos (by omega), if_pos (by omega), if_neg (by rw [he]; intro h2; exact hc (UInt8.toNat_inj.1 (by have : (32 : UInt8).toNat = 32 := rfl; omega))), if_pos (by omega), if_pos (by omega)]
        rfl
      · rw [take_bytes, e]
        unfold Lib.trimRightB
        rw [List.reverse_append]
        simp [hc]
theorem bytes_ext (a b : ByteArray) (h : a.data.toList = b.data.toList) : a = b := by
  obtain ⟨⟨x⟩⟩ := a
  obtain ⟨⟨y⟩⟩ := b
  simp only at h
  rw [h]
theorem spec_ev (s : ByteArray) (hs : s.size ≤ 9223372036854775807) : Ev (fun k => spec_TrimText.f k s) ⟨(Lib.trimRightB s.data.toList 32).toArray⟩ := by
  obtain ⟨r, e, h⟩ := trimText_loop s s.size (by omega) hs
  rw [List.take_of_length_le (by rw [data_length]; omega)] at h
  rw [show (⟨(Lib.trimRightB s.data.toList 32).toArray⟩ : ByteArray) = r from bytes_ext _ _ (by rw [h])]
  refine Ev.congr (fun k => ?_) e
  unfold spec_TrimText.f
  rfl
theorem impl_ev (s : ByteArray) (hs : s.size ≤ 9223372036854775807) : impl_TrimText.f s = some ⟨(Lib.trimRightB s.data.toList 32).toArray⟩ := by
  unfold impl_TrimText.f strings_TrimRight.f
  rw [if_pos rfl, if_pos hs]
  rfl
end TrimText
open TrimText in
theorem FnExactTrimText : laws_FnExactTrimText.Pure := by
  intro s hs
  apply Ev.rounds
  unfold laws_FnExactTrimText.f
  by_cases h : (s.size : Int) > 1048576
  · simp only [if_pos h]
    exact Ev.now true
  · simp only [if_neg h]
    refine Ev.bind (spec_ev s (by omega)) ?_
    rw [impl_ev s (by omega)]
    exact Ev.congr (f := fun _ => some true) (fun k => by simp) (Ev.now true)
end Go.Proofs.YthiooabcgkidbaaDoor.Pure
