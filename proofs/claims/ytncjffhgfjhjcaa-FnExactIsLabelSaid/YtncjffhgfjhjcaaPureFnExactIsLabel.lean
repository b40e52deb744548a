/- FnExactIsLabel answers true for every string: the program's IsLabel and the reference's tell the same texts labels (names). Conditions: none beyond the statement's own. -/
import Derived.Test.YtncjffhgfjhjcaaPFnExactIsLabelx2
namespace Go.Proofs.Ytncjffhgfjhjcaa.Pure
open Go.RowKit Go.Proofs.Ytncjffhgfjhjcaa.PFnExactIsLabel Go.Proofs.YtncjffhgfjhjcaaW.PrintWords Go.Proofs.YtncjffhgfjhjcaaW.PrintLast
namespace IsLabel
-- names: the program's IsName and the reference's
def letterB (c : Int) : Bool := (decide (65 ≤ c) && decide (c ≤ 90)) || (decide (97 ≤ c) && decide (c ≤ 122))
def digitB (c : Int) : Bool := decide (48 ≤ c) && decide (c ≤ 57)
def nameB (c : Int) : Bool := letterB c || (digitB c || c == 95)
theorem spec_letter (c : Int) : spec_l02Letter.f c = some (letterB c) := by
  unfold spec_l02Letter.f letterB
  by_cases h1 : 65 ≤ c <;> by_cases h2 : c ≤ 90 <;> by_cases h3 : 97 ≤ c <;> simp [h1, h2, h3]
theorem spec_digit (c : Int) : spec_l02Digit.f c = some (digitB c) := by
  unfold spec_l02Digit.f digitB
  by_cases h1 : 48 ≤ c <;> simp [h1]
theorem impl_letter (c : Int) : impl_isLetter.f c = some (letterB c) := by
  unfold impl_isLetter.f letterB
  by_cases h1 : 65 ≤ c <;> by_cases h2 : c ≤ 90 <;> by_cases h3 : 97 ≤ c <;> simp [h1, h2, h3]
theorem impl_digit (c : Int) : impl_isDigit.f c = some (digitB c) := by
  unfold impl_isDigit.f digitB
  by_cases h1 : 48 ≤ c <;> simp [h1]
theorem impl_nameByte (c : Int) : impl_isNameByte.f c = some (nameB c) := by
  unfold impl_isNameByte.f nameB
  rw [impl_letter, impl_digit]
  cases letterB c <;> cases digitB c <;> simp
theorem bytes_at (s : ByteArray) (i : Nat) (c : Int) (l : List Int) (h : (bytesOf s).drop i = c :: l) : i < s.size ∧ bt s (i : Int) = c ∧ rd (bytesOf s) (i : Int) = c ∧ (bytesOf s).drop (i + 1) = l := by
  have h1 : i < (bytesOf s).length := by
    rcases Nat.lt_or_ge i (bytesOf s).length with h2 | h2
    · exact h2
    · rw [List.drop_eq_nil_of_le h2] at h
      cases h
  rw [List.drop_eq_getElem_cons h1] at h
  injection h with h2 h3
  have h4 : rd (bytesOf s) (i : Int) = c := by
    unfold rd
    rw [Int.toNat_natCast, List.getD_eq_getElem?_getD, List.getElem?_eq_getElem h1]
    exact h2
  refine ⟨by rw [← bytesOf_length]; exact h1, ?_, h4, h3⟩
  rw [← rd_bytesOf]
  exact h4
theorem bytes_end (s : ByteArray) (i : Nat) (h : (bytesOf s).drop i = []) (hi : i ≤ s.size) : i = s.size := by
  have := congrArg List.length h
  rw [List.length_drop, bytesOf_length] at this
  simp at this
  omega
theorem wrapn (i n : Nat) (h : i < n) (hn : n ≤ 9223372036854775807) : wrap64 ((i : Int) + 1) = ((i + 1 : Nat) : Int) := by unfold wrap64; omega
theorem nameEnd_loop (s : ByteArray) (hs : s.size ≤ 9223372036854775807) (l : List Int) : ∀ i : Nat, i ≤ s.size → (bytesOf s).drop i = l → Ev (fun k => spec_l02NameEnd.l0 k s (i : Int)) ((i : Int) + (l.takeWhile nameB).length) := by
  induction l with
  | nil =>
    intro i hi hd
    have h2 := bytes_end s i hd hi
    refine Ev.step (f := fun _ => some (i : Int)) (fun k => ?_) (by simpa using Ev.now (i : Int))
    simp only [spec_l02NameEnd.l0]
    rw [if_neg (by omega)]
  | cons c l ih =>
    intro i hi hd
    obtain ⟨hlt, hb, _, hd'⟩ := bytes_at s i c l hd
    cases hn : nameB c with
    | true =>
      have r := ih (i + 1) (by omega) hd'
      have e : (i : Int) + ((c :: l).takeWhile nameB).length = ((i + 1 : Nat) : Int) + (l.takeWhile nameB).length := by
        rw [List.takeWhile_cons_of_pos hn, List.length_cons]
        omega
      rw [e]
      refine Ev.step (f := fun k => spec_l02NameEnd.l0 k s ((i + 1 : Nat) : Int)) (fun k => ?_) r
      simp only [spec_l02NameEnd.l0]
      rw [if_pos (by omega), if_pos (by omega), hb, spec_letter, spec_digit, wrapn i s.size hlt hs]
      unfold nameB at hn
      cases hl : letterB c with
      | true => simp
      | false =>
        cases hg : digitB c with
        | true => simp
        | false =>
          rw [hl, hg] at hn
          have hc : c = 95 := by simpa using hn
          simp [hc]
    | false =>
      rw [List.takeWhile_cons_of_neg (by simp [hn])]
      refine Ev.step (f := fun _ => some (i : Int)) (fun k => ?_) (by simpa using Ev.now (i : Int))
      simp only [spec_l02NameEnd.l0]
      rw [if_pos (by omega), if_pos (by omega), hb, spec_letter, spec_digit]
      unfold nameB at hn
      cases hl : letterB c with
      | true => rw [hl] at hn; simp at hn
      | false =>
        cases hg : digitB c with
        | true => rw [hl, hg] at hn; simp at hn
        | false =>
          rw [hl, hg] at hn
          have hc : ¬ c = 95 := by simpa using hn
          simp [hc]
theorem takeWhile_all (l : List Int) (p : Int → Bool) : (l.takeWhile p).length = l.length ↔ l.all p = true := by
  induction l with
  | nil => simp
  | cons c l ih =>
    cases h : p c with
    | true => rw [List.takeWhile_cons_of_pos h]; simp [h, ih]
    | false => rw [List.takeWhile_cons_of_neg (by simp [h])]; simp [h]
/-- What a name is. -/
def isNameB (s : ByteArray) : Bool := decide (1 ≤ s.size) && (decide (s.size ≤ 12) && (letterB (bt s 0) && (bytesOf s).all nameB))
theorem spec_isName (s : ByteArray) : Ev (fun k => spec_IsName.f k s) (isNameB s) := by
  unfold isNameB
  by_cases h1 : 1 ≤ s.size
  · have hne : ¬ s.toList = [] := by
      rw [Go.ByteArray.toList_eq]
      intro e
      have := data_length s
      rw [e] at this
      simp at this
      omega
    by_cases h2 : s.size ≤ 12
    · have e : Ev (fun k => spec_l02NameEnd.f k s 0) (if letterB (bt s 0) = true then (((bytesOf s).takeWhile nameB).length : Int) else 0) := by
        cases hl : letterB (bt s 0) with
        | true =>
          have r := nameEnd_loop s (by omega) (bytesOf s) 0 (by omega) rfl
          rw [if_pos rfl]
          simp only [Int.natCast_zero, Int.zero_add] at r
          refine Ev.congr (f := fun k => spec_l02NameEnd.j0 k s 0 false) (fun k => ?_) (Ev.step (f := fun k => spec_l02NameEnd.l0 k s 0) (fun k => by simp only [spec_l02NameEnd.j0]; simp) r)
          unfold spec_l02NameEnd.f
          rw [if_neg (by omega), if_pos (by omega), if_pos (by omega), spec_letter, hl]
          rfl
        | false =>
          rw [if_neg (by simp)]
          refine Ev.congr (f := fun k => spec_l02NameEnd.j0 k s 0 true) (fun k => ?_) (Ev.step (f := fun _ => some 0) (fun k => by simp only [spec_l02NameEnd.j0]; simp) (Ev.now 0))
          unfold spec_l02NameEnd.f
          rw [if_neg (by omega), if_pos (by omega), if_pos (by omega), spec_letter, hl]
          rfl
      refine Ev.congr (f := fun k => (spec_l02NameEnd.f k s 0).bind fun t => some (t == (s.size : Int))) (fun k => ?_) (Ev.bind e ?_)
      · unfold spec_IsName.f
        rw [if_neg hne, if_pos (by omega)]
      · have hx : (decide (1 ≤ s.size) && (decide (s.size ≤ 12) && (letterB (bt s 0) && (bytesOf s).all nameB))) = ((if letterB (bt s 0) = true then (((bytesOf s).takeWhile nameB).length : Int) else 0) == (s.size : Int)) := by
          rw [decide_eq_true h1, decide_eq_true h2]
          simp only [Bool.true_and]
          cases hl : letterB (bt s 0) with
          | true =>
            rw [if_pos rfl, Bool.true_and]
            have h3 := takeWhile_all (bytesOf s) nameB
            rw [bytesOf_length] at h3
            rw [Bool.eq_iff_iff, ← h3, beq_iff_eq]
            omega
          | false =>
            rw [if_neg (by simp), Bool.false_and]
            have h4 : ¬ (0 : Int) = (s.size : Int) := by omega
            simp [h4]
        rw [hx]
        exact Ev.now _
    · rw [decide_eq_false h2]
      simp only [Bool.false_and, Bool.and_false]
      refine Ev.congr (f := fun _ => some false) (fun k => ?_) (Ev.now false)
      unfold spec_IsName.f
      rw [if_neg hne, if_neg (by omega)]
  · rw [decide_eq_false h1]
    simp only [Bool.false_and]
    refine Ev.congr (f := fun _ => some false) (fun k => ?_) (Ev.now false)
    unfold spec_IsName.f
    rw [if_pos (by rw [Go.ByteArray.toList_eq]; exact List.eq_nil_of_length_eq_zero (by rw [data_length]; omega))]
theorem areAllName_loop (s : ByteArray) (hs : s.size ≤ 9223372036854775807) (l : List Int) : ∀ i : Nat, i ≤ s.size → (bytesOf s).drop i = l → Ev (fun k => impl_areAll_byte_at_impl_isNameByte.l0 k (bytesOf s) (s.size : Int) (i : Int)) (l.all nameB) := by
  induction l with
  | nil =>
    intro i hi hd
    have h2 := bytes_end s i hd hi
    refine Ev.step (f := fun _ => some true) (fun k => ?_) (by simpa using Ev.now true)
    simp only [impl_areAll_byte_at_impl_isNameByte.l0]
    rw [if_neg (by omega)]
  | cons c l ih =>
    intro i hi hd
    obtain ⟨hlt, _, hb, hd'⟩ := bytes_at s i c l hd
    rw [List.all_cons]
    cases hn : nameB c with
    | true =>
      rw [Bool.true_and]
      refine Ev.step (f := fun k => impl_areAll_byte_at_impl_isNameByte.l0 k (bytesOf s) (s.size : Int) ((i + 1 : Nat) : Int)) (fun k => ?_) (ih (i + 1) (by omega) hd')
      simp only [impl_areAll_byte_at_impl_isNameByte.l0]
      rw [if_pos (by omega), if_pos (by omega), if_pos (by rw [bytesOf_length]; omega), hb, impl_nameByte, hn, wrapn i s.size hlt hs]
      rfl
    | false =>
      rw [Bool.false_and]
      refine Ev.step (f := fun _ => some false) (fun k => ?_) (Ev.now false)
      simp only [impl_areAll_byte_at_impl_isNameByte.l0]
      rw [if_pos (by omega), if_pos (by omega), if_pos (by rw [bytesOf_length]; omega), hb, impl_nameByte, hn]
      rfl
theorem impl_isName (s : ByteArray) : Ev (fun k => impl_IsName.f k s) (isNameB s) := by
  unfold isNameB
  by_cases h1 : 1 ≤ s.size
  · by_cases h2 : s.size ≤ 12
    · rw [decide_eq_true h1, decide_eq_true h2]
      simp only [Bool.true_and]
      cases hl : letterB (bt s 0) with
      | true =>
        rw [Bool.true_and]
        have r := areAllName_loop s (by omega) (bytesOf s) 0 (by omega) rfl
        refine Ev.congr (f := fun k => (impl_areAll_byte_at_impl_isNameByte.f k (bytesOf s)).bind fun t => some t) (fun k => ?_) (Ev.bind (Ev.congr (fun k => ?_) r) (Ev.now _))
        · unfold impl_IsName.f
          rw [if_pos (by omega), if_pos (by omega), if_pos (by omega), impl_letter, hl, Option.bind_some, if_pos rfl, if_pos (by omega)]
        · unfold impl_areAll_byte_at_impl_isNameByte.f
          rw [bytesOf_length]
          rfl
      | false =>
        rw [Bool.false_and]
        refine Ev.congr (f := fun _ => some false) (fun k => ?_) (Ev.now false)
        unfold impl_IsName.f
        rw [if_pos (by omega), if_pos (by omega), if_pos (by omega), impl_letter, hl]
        rfl
    · rw [decide_eq_false h2]
      simp only [Bool.false_and, Bool.and_false]
      refine Ev.congr (f := fun _ => some false) (fun k => ?_) (Ev.now false)
      unfold impl_IsName.f
      rw [if_pos (by omega), if_neg (by omega)]
  · rw [decide_eq_false h1]
    simp only [Bool.false_and]
    refine Ev.congr (f := fun _ => some false) (fun k => ?_) (Ev.now false)
    unfold impl_IsName.f
    rw [if_neg (by omega)]
theorem spec_isLabel (s : ByteArray) : Ev (fun k => spec_IsLabel.f k s) (isNameB s) := by
  refine Ev.congr (f := fun k => (spec_IsName.f k s).bind fun t => some t) (fun k => ?_) (Ev.bind (spec_isName s) (Ev.now _))
  rfl
theorem impl_isLabel (s : ByteArray) : Ev (fun k => impl_IsLabel.f k s) (isNameB s) := by
  refine Ev.congr (f := fun k => (impl_IsName.f k s).bind fun t => some t) (fun k => ?_) (Ev.bind (impl_isName s) (Ev.now _))
  rfl
end IsLabel
open IsLabel in
theorem FnExactIsLabel : laws_FnExactIsLabel.Pure := by
  intro s _
  apply Ev.rounds
  unfold laws_FnExactIsLabel.f
  by_cases h : (s.size : Int) > 1048576
  · simp only [if_pos h]
    exact Ev.now true
  · simp only [if_neg h]
    refine Ev.bind (spec_isLabel s) (Ev.bind (impl_isLabel s) ?_)
    exact Ev.congr (f := fun _ => some true) (fun k => by simp) (Ev.now true)
end Go.Proofs.Ytncjffhgfjhjcaa.Pure
