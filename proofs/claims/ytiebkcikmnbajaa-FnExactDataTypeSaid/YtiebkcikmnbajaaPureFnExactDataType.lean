/- FnExactDataType answers true for every value: the program's DataType (an array of names) and the reference's (a slice of names) name the same type. Conditions: none beyond the statement's own. -/
import Derived.Test.YtiebkcikmnbajaaPFnExactDataTypex5
namespace Go.Proofs.Ytiebkcikmnbajaa.Pure
open Go.RowKit Go.Proofs.Ytiebkcikmnbajaa.PFnExactDataType Go.Proofs.YtiebkcikmnbajaaW.PrintWords Go.Proofs.YtiebkcikmnbajaaW.PrintLast
namespace DataType
-- names: the program's IsName and the reference's
def letterB (c : Int) : Bool := (decide (65 ≤ c) && decide (c ≤ 90)) || (decide (97 ≤ c) && decide (c ≤ 122))
def digitB (c : Int) : Bool := decide (48 ≤ c) && decide (c ≤ 57)
def nameB (c : Int) : Bool := letterB c || (digitB c || c == 95)
theorem spec_letter (c : Int) : spec_l02Letter.f c = some (letterB c) := by
  unfold spec_l02Letter.f letterB
  by_cases h1 : 65 ≤ c <;> by_cases h2 : c ≤ 90 <;> by_cases h3 : 97 ≤ c <;> simp [h1, h2, h3]
theorem spec_digit (c : Int) : spec_l02Digit.f c = some (digitB c) := by
  unfold spec_l02Digit.f digitB
  by_cases h1 : 48 ≤ c <;> simp [h1]
theorem impl_letter (c : Int) : impl_isLetter.f c = some (letterB c) := by
  unfold impl_isLetter.f letterB
  by_cases h1 : 65 ≤ c <;> by_cases h2 : c ≤ 90 <;> by_cases h3 : 97 ≤ c <;> simp [h1, h2, h3]
theorem impl_digit (c : Int) : impl_isDigit.f c = some (digitB c) := by
  unfold impl_isDigit.f digitB
  by_cases h1 : 48 ≤ c <;> simp [h1]
theorem impl_nameByte (c : Int) : impl_isNameByte.f c = some (nameB c) := by
  unfold impl_isNameByte.f nameB
  rw [impl_letter, impl_digit]
  cases letterB c <;> cases digitB c <;> simp
theorem bytes_at (s : ByteArray) (i : Nat) (c : Int) (l : List Int) (h : (bytesOf s).drop i = c :: l) : i < s.size ∧ bt s (i : Int) = c ∧ rd (bytesOf s) (i : Int) = c ∧ (bytesOf s).drop (i + 1) = l := by
  have h1 : i < (bytesOf s).length := by
    rcases Nat.lt_or_ge i (bytesOf s).length with h2 | h2
    · exact h2
    · rw [List.drop_eq_nil_of_le h2] at h
      cases h
  rw [List.drop_eq_getElem_cons h1] at h
  injection h with h2 h3
  have h4 : rd (bytesOf s) (i : Int) = c := by
    unfold rd
    rw [Int.toNat_natCast, List.getD_eq_getElem?_getD, List.getElem?_eq_getElem h1]
    exact h2
  refine ⟨by rw [← bytesOf_length]; exact h1, ?_, h4, h3⟩
  rw [← rd_bytesOf]
  exact h4
theorem bytes_end (s : ByteArray) (i : Nat) (h : (bytesOf s).drop i = []) (hi : i ≤ s.size) : i = s.size := by
  have := congrArg List.length h
  rw [List.length_drop, bytesOf_length] at this
  simp at this
  omega
theorem wrapn (i n : Nat) (h : i < n) (hn : n ≤ 9223372036854775807) : wrap64 ((i : Int) + 1) = ((i + 1 : Nat) : Int) := by unfold wrap64; omega
theorem nameEnd_loop (s : ByteArray) (hs : s.size ≤ 9223372036854775807) (l : List Int) : ∀ i : Nat, i ≤ s.size → (bytesOf s).drop i = l → Ev (fun k => spec_l02NameEnd.l0 k s (i : Int)) ((i : Int) + (l.takeWhile nameB).length) := by
  induction l with
  | nil =>
    intro i hi hd
    have h2 := bytes_end s i hd hi
    refine Ev.step (f := fun _ => some (i : Int)) (fun k => ?_) (by simpa using Ev.now (i : Int))
    simp only [spec_l02NameEnd.l0]
    rw [if_neg (by omega)]
  | cons c l ih =>
    intro i hi hd
    obtain ⟨hlt, hb, _, hd'⟩ := bytes_at s i c l hd
    cases hn : nameB c with
    | true =>
      have r := ih (i + 1) (by omega) hd'
      have e : (i : Int) + ((c :: l).takeWhile nameB).length = ((i + 1 : Nat) : Int) + (l.takeWhile nameB).length := by
        rw [List.takeWhile_cons_of_pos hn, List.length_cons]
        omega
      rw [e]
      refine Ev.step (f := fun k => spec_l02NameEnd.l0 k s ((i + 1 : Nat) : Int)) (fun k => ?_) r
      simp only [spec_l02NameEnd.l0]
      rw [if_pos (by omega), if_pos (by omega), hb, spec_letter, spec_digit, wrapn i s.size hlt hs]
      unfold nameB at hn
      cases hl : letterB c with
      | true => simp
      | false =>
        cases hg : digitB c with
        | true => simp
        | false =>
          rw [hl, hg] at hn
          have hc : c = 95 := by simpa using hn
          simp [hc]
    | false =>
      rw [List.takeWhile_cons_of_neg (by simp [hn])]
      refine Ev.step (f := fun _ => some (i : Int)) (fun k => ?_) (by simpa using Ev.now (i : Int))
      simp only [spec_l02NameEnd.l0]
      rw [if_pos (by omega), if_pos (by omega), hb, spec_letter, spec_digit]
      unfold nameB at hn
      cases hl : letterB c with
      | true => rw [hl] at hn; simp at hn
      | false =>
        cases hg : digitB c with
        | true => rw [hl, hg] at hn; simp at hn
        | false =>
          rw [hl, hg] at hn
          have hc : ¬ c = 95 := by simpa using hn
          simp [hc]
theorem takeWhile_all (l : List Int) (p : Int → Bool) : (l.takeWhile p).length = l.length ↔ l.all p = true := by
  induction l with
  | nil => simp
  | cons c l ih =>
    cases h : p c with
    | true => rw [List.takeWhile_cons_of_pos h]; simp [h, ih]
    | false => rw [List.takeWhile_cons_of_neg (by simp [h])]; simp [h]
/-- What a name is. -/
def isNameB (s : ByteArray) : Bool := decide (1 ≤ s.size) && (decide (s.size ≤ 12) && (letterB (bt s 0) && (bytesOf s).all nameB))
theorem spec_isName (s : ByteArray) : Ev (fun k => spec_IsName.f k s) (isNameB s) := by
  unfold isNameB
  by_cases h1 : 1 ≤ s.size
  · have hne : ¬ s.toList = [] := by
      rw [Go.ByteArray.toList_eq]
      intro e
      have := data_length s
      rw [e] at this
      simp at this
      omega
    by_cases h2 : s.size ≤ 12
    · have e : Ev (fun k => spec_l02NameEnd.f k s 0) (if letterB (bt s 0) = true then (((bytesOf s).takeWhile nameB).length : Int) else 0) := by
        cases hl : letterB (bt s 0) with
        | true =>
          have r := nameEnd_loop s (by omega) (bytesOf s) 0 (by omega) rfl
          rw [if_pos rfl]
          simp only [Int.natCast_zero, Int.zero_add] at r
          refine Ev.congr (f := fun k => spec_l02NameEnd.j0 k s 0 false) (fun k => ?_) (Ev.step (f := fun k => spec_l02NameEnd.l0 k s 0) (fun k => by simp only [spec_l02NameEnd.j0]; simp) r)
          unfold spec_l02NameEnd.f
          rw [if_neg (by omega), if_pos (by omega), if_pos (by omega), spec_letter, hl]
          rfl
        | false =>
          rw [if_neg (by simp)]
          refine Ev.congr (f := fun k => spec_l02NameEnd.j0 k s 0 true) (fun k => ?_) (Ev.step (f := fun _ => some 0) (fun k => by simp only [spec_l02NameEnd.j0]; simp) (Ev.now 0))
          unfold spec_l02NameEnd.f
          rw [if_neg (by omega), if_pos (by omega), if_pos (by omega), spec_letter, hl]
          rfl
      refine Ev.congr (f := fun k => (spec_l02NameEnd.f k s 0).bind fun t => some (t == (s.size : Int))) (fun k => ?_) (Ev.bind e ?_)
      · unfold spec_IsName.f
        rw [if_neg hne, if_pos (by omega)]
      · have hx : (decide (1 ≤ s.size) && (decide (s.size ≤ 12) && (letterB (bt s 0) && (bytesOf s).all nameB))) = ((if letterB (bt s 0) = true then (((bytesOf s).takeWhile nameB).length : Int) else 0) == (s.size : Int)) := by
          rw [decide_eq_true h1, decide_eq_true h2]
          simp only [Bool.true_and]
          cases hl : letterB (bt s 0) with
          | true =>
            rw [if_pos rfl, Bool.true_and]
            have h3 := takeWhile_all (bytesOf s) nameB
            rw [bytesOf_length] at h3
            rw [Bool.eq_iff_iff, ← h3, beq_iff_eq]
            omega
          | false =>
            rw [if_neg (by simp), Bool.false_and]
            have h4 : ¬ (0 : Int) = (s.size : Int) := by omega
            simp [h4]
        rw [hx]
        exact Ev.now _
    · rw [decide_eq_false h2]
      simp only [Bool.false_and, Bool.and_false]
      refine Ev.congr (f := fun _ => some false) (fun k => ?_) (Ev.now false)
      unfold spec_IsName.f
      rw [if_neg hne, if_neg (by omega)]
  · rw [decide_eq_false h1]
    simp only [Bool.false_and]
    refine Ev.congr (f := fun _ => some false) (fun k => ?_) (Ev.now false)
    unfold spec_IsName.f
    rw [if_pos (by rw [Go.ByteArray.toList_eq]; exact List.eq_nil_of_length_eq_zero (by rw [data_length]; omega))]
theorem areAllName_loop (s : ByteArray) (hs : s.size ≤ 9223372036854775807) (l : List Int) : ∀ i : Nat, i ≤ s.size → (bytesOf s).drop i = l → Ev (fun k => impl_areAll_byte_at_impl_isNameByte.l0 k (bytesOf s) (s.size : Int) (i : Int)) (l.all nameB) := by
  induction l with
  | nil =>
    intro i hi hd
    have h2 := bytes_end s i hd hi
    refine Ev.step (f := fun _ => some true) (fun k => ?_) (by simpa using Ev.now true)
    simp only [impl_areAll_byte_at_impl_isNameByte.l0]
    rw [if_neg (by omega)]
  | cons c l ih =>
    intro i hi hd
    obtain ⟨hlt, _, hb, hd'⟩ := bytes_at s i c l hd
    rw [List.all_cons]
    cases hn : nameB c with
    | true =>
      rw [Bool.true_and]
      refine Ev.step (f := fun k => impl_areAll_byte_at_impl_isNameByte.l0 k (bytesOf s) (s.size : Int) ((i + 1 : Nat) : Int)) (fun k => ?_) (ih (i + 1) (by omega) hd')
      simp only [impl_areAll_byte_at_impl_isNameByte.l0]
      rw [if_pos (by omega), if_pos (by omega), if_pos (by rw [bytesOf_length]; omega), hb, impl_nameByte, hn, wrapn i s.size hlt hs]
      rfl
    | false =>
      rw [Bool.false_and]
      refine Ev.step (f := fun _ => some false) (fun k => ?_) (Ev.now false)
      simp only [impl_areAll_byte_at_impl_isNameByte.l0]
      rw [if_pos (by omega), if_pos (by omega), if_pos (by rw [bytesOf_length]; omega), hb, impl_nameByte, hn]
      rfl
theorem impl_isName (s : ByteArray) : Ev (fun k => impl_IsName.f k s) (isNameB s) := by
  unfold isNameB
  by_cases h1 : 1 ≤ s.size
  · by_cases h2 : s.size ≤ 12
    · rw [decide_eq_true h1, decide_eq_true h2]
      simp only [Bool.true_and]
      cases hl : letterB (bt s 0) with
      | true =>
        rw [Bool.true_and]
        have r := areAllName_loop s (by omega) (bytesOf s) 0 (by omega) rfl
        refine Ev.congr (f := fun k => (impl_areAll_byte_at_impl_isNameByte.f k (bytesOf s)).bind fun t => some t) (fun k => ?_) (Ev.bind (Ev.congr (fun k => ?_) r) (Ev.now _))
        · unfold impl_IsName.f
          rw [if_pos (by omega), if_pos (by omega), if_pos (by omega), impl_letter, hl, Option.bind_some, if_pos rfl, if_pos (by omega)]
        · unfold impl_areAll_byte_at_impl_isNameByte.f
          rw [bytesOf_length]
          rfl
      | false =>
        rw [Bool.false_and]
        refine Ev.congr (f := fun _ => some false) (fun k => ?_) (Ev.now false)
        unfold impl_IsName.f
        rw [if_pos (by omega), if_pos (by omega), if_pos (by omega), impl_letter, hl]
        rfl
    · rw [decide_eq_false h2]
      simp only [Bool.false_and, Bool.and_false]
      refine Ev.congr (f := fun _ => some false) (fun k => ?_) (Ev.now false)
      unfold impl_IsName.f
      rw [if_pos (by omega), if_neg (by omega)]
  · rw [decide_eq_false h1]
    simp only [Bool.false_and]
    refine Ev.congr (f := fun _ => some false) (fun k => ?_) (Ev.now false)
    unfold impl_IsName.f
    rw [if_neg (by omega)]
-- values: the program's ValidValue and the reference's (behind Name)
theorem plain_eq (a b : Int) (c : ByteArray) (d : Int) (p q s : Bool) : spec_l06Plain.f a b c d p q s = some ((p || b == 0) && ((q || c.toList == ([] : List UInt8)) && (s || d == 0))) := by
  unfold spec_l06Plain.f
  by_cases hb : b = 0 <;> by_cases hc : c.toList = [] <;> by_cases hd : d = 0 <;> cases p <;> cases q <;> cases s <;> simp [hb, hc, hd]
theorem in_eq (a b c : Int) : spec_l00In.f a b c = some (decide (b ≤ a) && decide (a ≤ c)) := by
  unfold spec_l00In.f
  by_cases h : b ≤ a <;> simp [h]
theorem within_eq (a b c : Int) : impl_within.f a b c = some (decide (b ≤ a) && decide (a ≤ c)) := by
  unfold impl_within.f
  by_cases h : b ≤ a <;> simp [h]
theorem objectId_eq (a : Int) : impl_isObjectId.f a = some (decide (1 ≤ a) && decide (a ≤ 1000000)) := by
  unfold impl_isObjectId.f
  rw [within_eq]
  rfl
/-- What a valid value is. -/
def validB (a b : Int) (c : ByteArray) (d : Int) : Bool :=
  if a = 1 then (b == 0 && d == 0) && decide ((c.size : Int) ≤ 200)
  else if a = 2 then (c.toList == ([] : List UInt8) && d == 0) && (decide (-1000000000000 ≤ b) && decide (b ≤ 1000000000000))
  else if a = 3 then (b == 0 && d == 0) && (decide (1 ≤ (c.size : Int)) && decide ((c.size : Int) ≤ 1200))
  else if a = 4 ∨ a = 5 ∨ a = 6 then (b == 0 && c.toList == ([] : List UInt8)) && (decide (1 ≤ d) && decide (d ≤ 1000000))
  else if a = 7 ∨ a = 8 then (b == 0 && d == 0) && isNameB c
  else false
theorem spec_valid (a b : Int) (c : ByteArray) (d : Int) : Ev (fun k => spec_ValidValue.f k a b c d) (validB a b c d) := by
  unfold validB
  by_cases h1 : a = 1
  · refine Ev.congr (f := fun _ => some _) (fun k => ?_) (Ev.now _)
    unfold spec_ValidValue.f
    rw [if_pos h1, if_pos h1, plain_eq]
    by_cases hb : b = 0 <;> by_cases hd : d = 0 <;> simp [hb, hd]
  rw [if_neg h1]
  by_cases h2 : a = 2
  · refine Ev.congr (f := fun _ => some _) (fun k => ?_) (Ev.now _)
    unfold spec_ValidValue.f
    rw [if_neg h1, if_pos h2, if_pos h2, plain_eq, in_eq]
    by_cases hc : c.toList = [] <;> by_cases hd : d = 0 <;> simp [hc, hd]
  rw [if_neg h2]
  by_cases h3 : a = 3
  · refine Ev.congr (f := fun _ => some _) (fun k => ?_) (Ev.now _)
    unfold spec_ValidValue.f
    rw [if_neg h1, if_neg h2, if_pos h3, if_pos h3, plain_eq, in_eq]
    by_cases hb : b = 0 <;> by_cases hd : d = 0 <;> simp [hb, hd]
  rw [if_neg h3]
  have ref : Ev (fun k => spec_ValidValue.j0 k a true a b c d) ((b == 0 && c.toList == ([] : List UInt8)) && (decide (1 ≤ d) && decide (d ≤ 1000000))) := by
    refine Ev.step (f := fun _ => some _) (fun k => ?_) (Ev.now _)
    simp only [spec_ValidValue.j0]
    rw [if_pos trivial, plain_eq, in_eq]
    by_cases hb : b = 0 <;> by_cases hc : c.toList = [] <;> simp [hb, hc]
  have nam : Ev (fun k => spec_ValidValue.j1 k true a b c d) ((b == 0 && d == 0) && isNameB c) := by
    by_cases hq : (b == 0 && d == 0) = true
    · refine Ev.step (f := fun k => (spec_IsName.f k c).bind fun t => some t) (fun k => ?_) ?_
      · simp only [spec_ValidValue.j1]
        rw [if_pos trivial, plain_eq]
        have hb : b = 0 := by simp at hq; exact hq.1
        have hd : d = 0 := by simp at hq; exact hq.2
        simp [hb, hd]
      · rw [hq, Bool.true_and]
        exact Ev.bind (spec_isName c) (Ev.now _)
    · refine Ev.step (f := fun _ => some false) (fun k => ?_) ?_
      · simp only [spec_ValidValue.j1]
        rw [if_pos trivial, plain_eq]
        by_cases hb : b = 0 <;> by_cases hd : d = 0 <;> simp_all
      · rw [Bool.eq_false_iff.mpr hq, Bool.false_and]
        exact Ev.now false
  by_cases h4 : a = 4
  · rw [if_pos (by omega)]
    refine Ev.congr (f := fun k => spec_ValidValue.j0 k a true a b c d) (fun k => ?_) ref
    unfold spec_ValidValue.f
    rw [if_neg h1, if_neg h2, if_neg h3, if_pos h4]
    simp [h4]
  by_cases h5 : a = 5
  · rw [if_pos (by omega)]
    refine Ev.congr (f := fun k => spec_ValidValue.j0 k a true a b c d) (fun k => ?_) ref
    unfold spec_ValidValue.f
    rw [if_neg h1, if_neg h2, if_neg h3, if_neg h4, if_pos h5]
    simp [h5]
  by_cases h6 : a = 6
  · rw [if_pos (by omega)]
    refine Ev.congr (f := fun k => spec_ValidValue.j0 k a true a b c d) (fun k => ?_) ref
    unfold spec_ValidValue.f
    rw [if_neg h1, if_neg h2, if_neg h3, if_neg h4, if_neg h5]
    simp [h6]
  rw [if_neg (by omega)]
  have far : ∀ k, spec_ValidValue.f k a b c d = spec_ValidValue.j0 k a false a b c d := by
    intro k
    unfold spec_ValidValue.f
    rw [if_neg h1, if_neg h2, if_neg h3, if_neg h4, if_neg h5, beq_eq_false_iff_ne.mpr h6]
  refine Ev.congr far ?_
  by_cases h7 : a = 7
  · rw [if_pos (by omega)]
    refine Ev.step (f := fun k => spec_ValidValue.j1 k true a b c d) (fun k => ?_) nam
    simp only [spec_ValidValue.j0]
    rw [if_neg (by simp), if_pos h7]
    simp [h7]
  by_cases h8 : a = 8
  · rw [if_pos (by omega)]
    refine Ev.step (f := fun k => spec_ValidValue.j1 k true a b c d) (fun k => ?_) nam
    simp only [spec_ValidValue.j0]
    rw [if_neg (by simp), if_neg h7]
    simp [h8]
  rw [if_neg (by omega)]
  refine Ev.step (f := fun k => spec_ValidValue.j1 k false a b c d) (fun k => ?_) (Ev.step (f := fun _ => some false) (fun k => ?_) (Ev.now false))
  · simp only [spec_ValidValue.j0]
    rw [if_neg (by simp), if_neg h7, beq_eq_false_iff_ne.mpr h8]
  · simp only [spec_ValidValue.j1]
    rw [if_neg (by simp)]
theorem impl_valid (a b : Int) (c : ByteArray) (d : Int) : Ev (fun k => impl_ValidValue.f k a b c d) (validB a b c d) := by
  unfold validB
  by_cases h1 : a = 1
  · refine Ev.congr (f := fun _ => some _) (fun k => ?_) (Ev.now _)
    unfold impl_ValidValue.f
    rw [if_pos h1, if_pos h1]
    by_cases hb : b = 0 <;> by_cases hd : d = 0 <;> simp [h1, hb, hd]
  rw [if_neg h1]
  by_cases h2 : a = 2
  · refine Ev.congr (f := fun _ => some _) (fun k => ?_) (Ev.now _)
    unfold impl_ValidValue.f
    rw [if_neg h1, if_pos h2, if_pos h2, within_eq]
    by_cases hc : c.toList = [] <;> by_cases hd : d = 0 <;> simp [h2, hc, hd]
  rw [if_neg h2]
  by_cases h3 : a = 3
  · refine Ev.congr (f := fun _ => some _) (fun k => ?_) (Ev.now _)
    unfold impl_ValidValue.f
    rw [if_neg h1, if_neg h2, if_pos h3, if_pos h3]
    by_cases hb : b = 0 <;> by_cases hd : d = 0 <;> by_cases hs : 1 ≤ (c.size : Int) <;> simp [h3, hb, hd, hs]
  rw [if_neg h3]
  have ref : Ev (fun k => impl_ValidValue.j0 k a true a b c d) ((b == 0 && c.toList == ([] : List UInt8)) && (decide (1 ≤ d) && decide (d ≤ 1000000))) := by
    refine Ev.step (f := fun _ => some _) (fun k => ?_) (Ev.now _)
    simp only [impl_ValidValue.j0]
    rw [if_pos trivial, objectId_eq]
    by_cases hb : b = 0 <;> by_cases hc : c.toList = [] <;> simp [hb, hc]
  by_cases h4 : a = 4
  · rw [if_pos (by omega)]
    refine Ev.congr (f := fun k => impl_ValidValue.j0 k a true a b c d) (fun k => ?_) ref
    unfold impl_ValidValue.f
    rw [if_neg h1, if_neg h2, if_neg h3, if_pos h4]
    simp [h4]
  by_cases h5 : a = 5
  · rw [if_pos (by omega)]
    refine Ev.congr (f := fun k => impl_ValidValue.j0 k a true a b c d) (fun k => ?_) ref
    unfold impl_ValidValue.f
    rw [if_neg h1, if_neg h2, if_neg h3, if_neg h4, if_pos h5]
    simp [h5]
  by_cases h6 : a = 6
  · rw [if_pos (by omega)]
    refine Ev.congr (f := fun k => impl_ValidValue.j0 k a true a b c d) (fun k => ?_) ref
    unfold impl_ValidValue.f
    rw [if_neg h1, if_neg h2, if_neg h3, if_neg h4, if_neg h5]
    simp [h6]
  rw [if_neg (by omega)]
  have far : ∀ k, impl_ValidValue.f k a b c d = impl_ValidValue.j0 k a false a b c d := by
    intro k
    unfold impl_ValidValue.f
    rw [if_neg h1, if_neg h2, if_neg h3, if_neg h4, if_neg h5, beq_eq_false_iff_ne.mpr h6]
  refine Ev.congr far ?_
  by_cases h78 : a = 7 ∨ a = 8
  · rw [if_pos h78]
    by_cases hq : (b == 0 && d == 0) = true
    · refine Ev.step (f := fun k => (impl_IsName.f k c).bind fun t => some t) (fun k => ?_) ?_
      · simp only [impl_ValidValue.j0]
        rw [if_neg (by simp)]
        by_cases h7 : a = 7
        · rw [if_pos h7, if_pos hq]
        · rw [if_neg h7, if_pos (by omega), if_pos hq]
      · rw [hq, Bool.true_and]
        exact Ev.bind (impl_isName c) (Ev.now _)
    · refine Ev.step (f := fun _ => some false) (fun k => ?_) ?_
      · simp only [impl_ValidValue.j0]
        rw [if_neg (by simp)]
        by_cases h7 : a = 7
        · rw [if_pos h7, if_neg hq]
        · rw [if_neg h7, if_pos (by omega), if_neg hq]
      · rw [Bool.eq_false_iff.mpr hq, Bool.false_and]
        exact Ev.now false
  · rw [if_neg h78]
    refine Ev.step (f := fun _ => some false) (fun k => ?_) (Ev.now false)
    simp only [impl_ValidValue.j0]
    rw [if_neg (by simp), if_neg (by omega), if_neg (by omega)]
theorem sz_some (a b : Int) (c : ByteArray) (d e : Int) : ∃ r, laws_szValue.f a b c d e = some r := by
  unfold laws_szValue.f
  split
  · exact ⟨_, rfl⟩
  · exact ⟨_, rfl⟩
theorem valid_kind (a b : Int) (c : ByteArray) (d : Int) (h : validB a b c d = true) : a = 1 ∨ a = 2 ∨ a = 3 ∨ a = 4 ∨ a = 5 ∨ a = 6 ∨ a = 7 ∨ a = 8 := by
  have h2 : ¬ (a ≠ 1 ∧ a ≠ 2 ∧ a ≠ 3 ∧ a ≠ 4 ∧ a ≠ 5 ∧ a ≠ 6 ∧ a ≠ 7 ∧ a ≠ 8) := by
    rintro ⟨h1, h2, h3, h4, h5, h6, h7, h8⟩
    unfold validB at h
    simp [h1, h2, h3, h4, h5, h6, h7, h8] at h
  omega
theorem both (a b : Int) (c : ByteArray) (d : Int) : ∃ r, Ev (fun k => spec_DataType.f k a b c d) r ∧ Ev (fun k => impl_DataType.f k a b c d) r := by
  have e1 := spec_valid a b c d
  have e2 := impl_valid a b c d
  unfold spec_DataType.f impl_DataType.f
  cases h : validB a b c d with
  | false =>
    rw [h] at e1 e2
    refine ⟨(⟨#[]⟩ : ByteArray), Ev.bind e1 ?_, Ev.bind e2 ?_⟩
    · exact Ev.congr (f := fun _ => some _) (fun k => by rw [if_neg (by simp)]) (Ev.now _)
    · exact Ev.congr (f := fun _ => some _) (fun k => by rw [if_neg (by simp)]) (Ev.now _)
  | true =>
    rw [h] at e1 e2
    have w : wrap64 (a - 1) = a - 1 := by
      have := valid_kind a b c d h
      unfold wrap64
      omega
    rcases valid_kind a b c d h with rfl | rfl | rfl | rfl | rfl | rfl | rfl | rfl <;>
      refine ⟨_, Ev.bind e1 (Ev.congr (f := fun _ => some _) (fun k => by rw [if_pos rfl, Option.bind_some, w]; rfl) (Ev.now _)), Ev.bind e2 (Ev.congr (f := fun _ => some _) (fun k => by rw [if_pos rfl]; rfl) (Ev.now _))⟩
end DataType
open DataType in
theorem FnExactDataType : laws_FnExactDataType.Pure := by
  intro x _
  apply Ev.rounds
  unfold laws_FnExactDataType.f
  obtain ⟨r, hr⟩ := sz_some x.f0 x.f1 x.f2 x.f3 1048576
  rw [hr]
  simp only [Option.bind_some]
  by_cases c1 : r < 0
  · simp only [if_pos c1]
    exact Ev.now true
  simp only [if_neg c1, laws_toValue.f, Option.bind_some]
  obtain ⟨r2, s1, s2⟩ := both x.f0 x.f1 x.f2 x.f3
  refine Ev.bind s1 (Ev.bind s2 ?_)
  exact Ev.congr (f := fun _ => some true) (fun k => by rw [if_pos rfl]) (Ev.now true)
end Go.Proofs.Ytiebkcikmnbajaa.Pure
