/- FnExactIsBlankLine answers true for every string: the program's IsBlankLine (strings.Trim) and the reference's (a loop) tell the same lines blank. Conditions: none beyond the statement's own. -/
import Derived.Test.YthiooabcgkidbaaDoorPFnExactIsBlankLinex1
namespace Go.Proofs.YthiooabcgkidbaaDoor.Pure
open Go.RowKit Go.Proofs.YthiooabcgkidbaaDoor.PFnExactIsBlankLine Go.Proofs.YthiooabcgkidbaaDoorW.PrintWords Go.Proofs.YthiooabcgkidbaaDoorW.PrintLast
namespace IsBlankLine
-- the bytes of a string, one after another
theorem byt_at (s : ByteArray) (i : Nat) (c : Int) (l : List Int) (h : (bytesOf s).drop i = c :: l) : i < s.size ∧ bt s (i : Int) = c ∧ rd (bytesOf s) (i : Int) = c ∧ (bytesOf s).drop (i + 1) = l := by
  have h1 : i < (bytesOf s).length := by
    rcases Nat.lt_or_ge i (bytesOf s).length with h2 | h2
    · exact h2
    · rw [List.drop_eq_nil_of_le h2] at h
      cases h
  rw [List.drop_eq_getElem_cons h1] at h
  injection h with h2 h3
  have h4 : rd (bytesOf s) (i : Int) = c := by
    unfold rd
    rw [Int.toNat_natCast, List.getD_eq_getElem?_getD, List.getElem?_eq_getElem h1]
    exact h2
  refine ⟨by rw [← bytesOf_length]; exact h1, ?_, h4, h3⟩
  rw [← rd_bytesOf]
  exact h4
theorem byt_end (s : ByteArray) (i : Nat) (h : (bytesOf s).drop i = []) (hi : i ≤ s.size) : i = s.size := by
  have := congrArg List.length h
  rw [List.length_drop, bytesOf_length] at this
  simp at this
  omega
theorem wrapb (i n : Nat) (h : i < n) (hn : n ≤ 9223372036854775807) : wrap64 ((i : Int) + 1) = ((i + 1 : Nat) : Int) := by unfold wrap64; omega
-- blank lines (behind Bytes)
theorem dropWhile_nil (p : UInt8 → Bool) (l : List UInt8) : (l.dropWhile p = []) ↔ ∀ b, b ∈ l → p b = true := by
  induction l with
  | nil => simp
  | cons a l ih =>
    rw [List.dropWhile_cons]
    cases h : p a with
    | true => simp [ih, h]
    | false => simp [h]
theorem mem_dropWhile (p : UInt8 → Bool) (l : List UInt8) (b : UInt8) (h : b ∈ l.dropWhile p) : b ∈ l := (List.dropWhile_suffix p).subset h
theorem mem_takeWhile (p : UInt8 → Bool) (l : List UInt8) (b : UInt8) (h : b ∈ l.takeWhile p) : p b = true := by
  induction l with
  | nil => simp at h
  | cons a l ih =>
    rw [List.takeWhile_cons] at h
    cases ha : p a with
    | true =>
      rw [ha, if_pos rfl] at h
      rcases List.mem_cons.1 h with rfl | h2
      · exact ha
      · exact ih h2
    | false =>
      rw [ha] at h
      simp at h
theorem trimB_nil (l : List UInt8) (c : UInt8) : (Lib.trimB l c = []) ↔ ∀ b, b ∈ l → b = c := by
  unfold Lib.trimB Lib.trimLeftB Lib.trimRightB
  rw [dropWhile_nil]
  constructor
  · intro h b hb
    have hb2 : b ∈ l.reverse := List.mem_reverse.2 hb
    rw [← List.takeWhile_append_dropWhile (p := (· == c)) (l := l.reverse), List.mem_append] at hb2
    rcases hb2 with h2 | h2
    · exact beq_iff_eq.1 (mem_takeWhile (fun x => x == c) _ _ h2)
    · exact beq_iff_eq.1 (h b (List.mem_reverse.2 h2))
  · intro h b hb
    have h2 := List.mem_reverse.1 hb
    have h3 : b ∈ l.reverse := mem_dropWhile (fun x => x == c) _ _ h2
    exact beq_iff_eq.2 (h b (List.mem_reverse.1 h3))
theorem all_blank (s : ByteArray) : (bytesOf s).all (fun b => b == 32) = decide (Lib.trimB s.data.toList 32 = []) := by
  rw [Bool.eq_iff_iff, decide_eq_true_iff, trimB_nil, List.all_eq_true]
  unfold bytesOf
  constructor
  · intro h b hb
    have := beq_iff_eq.1 (h _ (List.mem_map.2 ⟨b, hb, rfl⟩))
    exact UInt8.toNat_inj.1 (by have : (32 : UInt8).toNat = 32 := rfl; omega)
  · intro h x hx
    obtain ⟨b, hb, rfl⟩ := List.mem_map.1 hx
    rw [h b hb]
    rfl
theorem blank_loop (s : ByteArray) (hs : s.size ≤ 9223372036854775807) (l : List Int) : ∀ i : Nat, i ≤ s.size → (bytesOf s).drop i = l → Ev (fun k => spec_IsBlankLine.l0 k s (i : Int)) (l.all fun b => b == 32) := by
  induction l with
  | nil =>
    intro i hi hd
    have h2 := byt_end s i hd hi
    refine Ev.step (f := fun _ => some true) (fun k => ?_) (by simpa using Ev.now true)
    simp only [spec_IsBlankLine.l0]
    rw [if_neg (by omega)]
  | cons c l ih =>
    intro i hi hd
    obtain ⟨hlt, hb, _, hd'⟩ := byt_at s i c l hd
    rw [List.all_cons]
    by_cases h1 : c = 32
    · rw [beq_iff_eq.mpr h1, Bool.true_and]
      refine Ev.step (f := fun k => spec_IsBlankLine.l0 k s ((i + 1 : Nat) : Int)) (fun k => ?_) (ih (i + 1) (by omega) hd')
      simp only [spec_IsBlankLine.l0]
      rw [if_pos (by omega), if_pos (by omega), hb, if_pos h1, wrapb i s.size hlt hs]
    · rw [beq_eq_false_iff_ne.mpr h1, Bool.false_and]
      refine Ev.step (f := fun _ => some false) (fun k => ?_) (Ev.now false)
      simp only [spec_IsBlankLine.l0]
      rw [if_pos (by omega), if_pos (by omega), hb, if_neg h1]
theorem spec_blank (s : ByteArray) (hs : s.size ≤ 9223372036854775807) : Ev (fun k => spec_IsBlankLine.f k s) (decide (Lib.trimB s.data.toList 32 = [])) := by
  rw [← all_blank]
  refine Ev.congr (fun k => ?_) (blank_loop s hs (bytesOf s) 0 (by omega) rfl)
  unfold spec_IsBlankLine.f
  rfl
theorem impl_blank (s : ByteArray) (hs : s.size ≤ 9223372036854775807) : impl_IsBlankLine.f s = some (decide (Lib.trimB s.data.toList 32 = [])) := by
  unfold impl_IsBlankLine.f strings_Trim.f
  rw [if_pos rfl, if_pos hs, Option.bind_some]
  congr 1
  rw [Bool.eq_iff_iff, decide_eq_true_iff, beq_iff_eq, Go.ByteArray.toList_eq]
end IsBlankLine
open IsBlankLine in
theorem FnExactIsBlankLine : laws_FnExactIsBlankLine.Pure := by
  intro s hs
  apply Ev.rounds
  unfold laws_FnExactIsBlankLine.f
  by_cases h : (s.size : Int) > 1048576
  · simp only [if_pos h]
    exact Ev.now true
  · simp only [if_neg h]
    refine Ev.bind (spec_blank s (by omega)) ?_
    rw [impl_blank s (by omega)]
    exact Ev.congr (f := fun _ => some true) (fun k => by simp) (Ev.now true)
end Go.Proofs.YthiooabcgkidbaaDoor.Pure
