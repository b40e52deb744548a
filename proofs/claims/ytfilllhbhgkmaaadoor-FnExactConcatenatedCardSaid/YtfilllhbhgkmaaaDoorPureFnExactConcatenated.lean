/- FnExactConcatenated answers true for every two values: the program's Concatenated and the reference's give the same value and code. Conditions: none beyond the statement's own. -/
import Derived.Test.YtfilllhbhgkmaaaDoorPFnExactConcatenatedx7
import Derived.Lib.ItoaLen
namespace Go.Proofs.YtfilllhbhgkmaaaDoor.Pure
open Go.RowKit Go.Proofs.YtfilllhbhgkmaaaDoor.PFnExactConcatenated Go.Proofs.YtfilllhbhgkmaaaDoorW.PrintWords Go.Proofs.YtfilllhbhgkmaaaDoorW.PrintLast Go.Proofs.YtfilllhbhgkmaaaDoorW.PrintMore
namespace Concatenated
-- names: the program's IsName and the reference's
def letterB (c : Int) : Bool := (decide (65 ≤ c) && decide (c ≤ 90)) || (decide (97 ≤ c) && decide (c ≤ 122))
def digitB (c : Int) : Bool := decide (48 ≤ c) && decide (c ≤ 57)
def nameB (c : Int) : Bool := letterB c || (digitB c || c == 95)
theorem spec_letter (c : Int) : spec_l02Letter.f c = some (letterB c) := by
  unfold spec_l02Letter.f letterB
  by_cases h1 : 65 ≤ c <;> by_cases h2 : c ≤ 90 <;> by_cases h3 : 97 ≤ c <;> simp [h1, h2, h3]
theorem spec_digit (c : Int) : spec_l02Digit.f c = some (digitB c) := by
  unfold spec_l02Digit.f digitB
  by_cases h1 : 48 ≤ c <;> simp [h1]
theorem impl_letter (c : Int) : impl_isLetter.f c = some (letterB c) := by
  unfold impl_isLetter.f letterB
  by_cases h1 : 65 ≤ c <;> by_cases h2 : c ≤ 90 <;> by_cases h3 : 97 ≤ c <;> simp [h1, h2, h3]
theorem impl_digit (c : Int) : impl_isDigit.f c = some (digitB c) := by
  unfold impl_isDigit.f digitB
  by_cases h1 : 48 ≤ c <;> simp [h1]
theorem impl_nameByte (c : Int) : impl_isNameByte.f c = some (nameB c) := by
  unfold impl_isNameByte.f nameB
  rw [impl_letter, impl_digit]
  cases letterB c <;> cases digitB c <;> simp
theorem bytes_at (s : ByteArray) (i : Nat) (c : Int) (l : List Int) (h : (bytesOf s).drop i = c :: l) : i < s.size ∧ bt s (i : Int) = c ∧ rd (bytesOf s) (i : Int) = c ∧ (bytesOf s).drop (i + 1) = l := by
  have h1 : i < (bytesOf s).length := by
    rcases Nat.lt_or_ge i (bytesOf s).length with h2 | h2
    · exact h2
    · rw [List.drop_eq_nil_of_le h2] at h
      cases h
  rw [List.drop_eq_getElem_cons h1] at h
  injection h with h2 h3
  have h4 : rd (bytesOf s) (i : Int) = c := by
    unfold rd
    rw [Int.toNat_natCast, List.getD_eq_getElem?_getD, List.getElem?_eq_getElem h1]
    exact h2
  refine ⟨by rw [← bytesOf_length]; exact h1, ?_, h4, h3⟩
  rw [← rd_bytesOf]
  exact h4
theorem bytes_end (s : ByteArray) (i : Nat) (h : (bytesOf s).drop i = []) (hi : i ≤ s.size) : i = s.size := by
  have := congrArg List.length h
  rw [List.length_drop, bytesOf_length] at this
  simp at this
  omega
theorem wrapn (i n : Nat) (h : i < n) (hn : n ≤ 9223372036854775807) : wrap64 ((i : Int) + 1) = ((i + 1 : Nat) : Int) := by unfold wrap64; omega
theorem nameEnd_loop (s : ByteArray) (hs : s.size ≤ 9223372036854775807) (l : List Int) : ∀ i : Nat, i ≤ s.size → (bytesOf s).drop i = l → Ev (fun k => spec_l02NameEnd.l0 k s (i : Int)) ((i : Int) + (l.takeWhile nameB).length) := by
  induction l with
  | nil =>
    intro i hi hd
    have h2 := bytes_end s i hd hi
    refine Ev.step (f := fun _ => some (i : Int)) (fun k => ?_) (by simpa using Ev.now (i : Int))
    simp only [spec_l02NameEnd.l0]
    rw [if_neg (by omega)]
  | cons c l ih =>
    intro i hi hd
    obtain ⟨hlt, hb, _, hd'⟩ := bytes_at s i c l hd
    cases hn : nameB c with
    | true =>
      have r := ih (i + 1) (by omega) hd'
      have e : (i : Int) + ((c :: l).takeWhile nameB).length = ((i + 1 : Nat) : Int) + (l.takeWhile nameB).length := by
        rw [List.takeWhile_cons_of_pos hn, List.length_cons]
        omega
      rw [e]
      refine Ev.step (f := fun k => spec_l02NameEnd.l0 k s ((i + 1 : Nat) : Int)) (fun k => ?_) r
      simp only [spec_l02NameEnd.l0]
      rw [if_pos (by omega), if_pos (by omega), hb, spec_letter, spec_digit, wrapn i s.size hlt hs]
      unfold nameB at hn
      cases hl : letterB c with
      | true => simp
      | false =>
        cases hg : digitB c with
        | true => simp
        | false =>
          rw [hl, hg] at hn
          have hc : c = 95 := by simpa using hn
          simp [hc]
    | false =>
      rw [List.takeWhile_cons_of_neg (by simp [hn])]
      refine Ev.step (f := fun _ => some (i : Int)) (fun k => ?_) (by simpa using Ev.now (i : Int))
      simp only [spec_l02NameEnd.l0]
      rw [if_pos (by omega), if_pos (by omega), hb, spec_letter, spec_digit]
      unfold nameB at hn
      cases hl : letterB c with
      | true => rw [hl] at hn; simp at hn
      | false =>
        cases hg : digitB c with
        | true => rw [hl, hg] at hn; simp at hn
        | false =>
          rw [hl, hg] at hn
          have hc : ¬ c = 95 := by simpa using hn
          simp [hc]
theorem takeWhile_all (l : List Int) (p : Int → Bool) : (l.takeWhile p).length = l.length ↔ l.all p = true := by
  induction l with
  | nil => simp
  | cons c l ih =>
    cases h : p c with
    | true => rw [List.takeWhile_cons_of_pos h]; simp [h, ih]
    | false => rw [List.takeWhile_cons_of_neg (by simp [h])]; simp [h]
/-- What a name is. -/
def isNameB (s : ByteArray) : Bool := decide (1 ≤ s.size) && (decide (s.size ≤ 12) && (letterB (bt s 0) && (bytesOf s).all nameB))
theorem spec_isName (s : ByteArray) : Ev (fun k => spec_IsName.f k s) (isNameB s) := by
  unfold isNameB
  by_cases h1 : 1 ≤ s.size
  · have hne : ¬ s.toList = [] := by
      rw [Go.ByteArray.toList_eq]
      intro e
      have := data_length s
      rw [e] at this
      simp at this
      omega
    by_cases h2 : s.size ≤ 12
    · have e : Ev (fun k => spec_l02NameEnd.f k s 0) (if letterB (bt s 0) = true then (((bytesOf s).takeWhile nameB).length : Int) else 0) := by
        cases hl : letterB (bt s 0) with
        | true =>
          have r := nameEnd_loop s (by omega) (bytesOf s) 0 (by omega) rfl
          rw [if_pos rfl]
          simp only [Int.natCast_zero, Int.zero_add] at r
          refine Ev.congr (f := fun k => spec_l02NameEnd.j0 k s 0 false) (fun k => ?_) (Ev.step (f := fun k => spec_l02NameEnd.l0 k s 0) (fun k => by simp only [spec_l02NameEnd.j0]; simp) r)
          unfold spec_l02NameEnd.f
          rw [if_neg (by omega), if_pos (by omega), if_pos (by omega), spec_letter, hl]
          rfl
        | false =>
          rw [if_neg (by simp)]
          refine Ev.congr (f := fun k => spec_l02NameEnd.j0 k s 0 true) (fun k => ?_) (Ev.step (f := fun _ => some 0) (fun k => by simp only [spec_l02NameEnd.j0]; simp) (Ev.now 0))
          unfold spec_l02NameEnd.f
          rw [if_neg (by omega), if_pos (by omega), if_pos (by omega), spec_letter, hl]
          rfl
      refine Ev.congr (f := fun k => (spec_l02NameEnd.f k s 0).bind fun t => some (t == (s.size : Int))) (fun k => ?_) (Ev.bind e ?_)
      · unfold spec_IsName.f
        rw [if_neg hne, if_pos (by omega)]
      · have hx : (decide (1 ≤ s.size) && (decide (s.size ≤ 12) && (letterB (bt s 0) && (bytesOf s).all nameB))) = ((if letterB (bt s 0) = true then (((bytesOf s).takeWhile nameB).length : Int) else 0) == (s.size : Int)) := by
          rw [decide_eq_true h1, decide_eq_true h2]
          simp only [Bool.true_and]
          cases hl : letterB (bt s 0) with
          | true =>
            rw [if_pos rfl, Bool.true_and]
            have h3 := takeWhile_all (bytesOf s) nameB
            rw [bytesOf_length] at h3
            rw [Bool.eq_iff_iff, ← h3, beq_iff_eq]
            omega
          | false =>
            rw [if_neg (by simp), Bool.false_and]
            have h4 : ¬ (0 : Int) = (s.size : Int) := by omega
            simp [h4]
        rw [hx]
        exact Ev.now _
    · rw [decide_eq_false h2]
      simp only [Bool.false_and, Bool.and_false]
      refine Ev.congr (f := fun _ => some false) (fun k => ?_) (Ev.now false)
      unfold spec_IsName.f
      rw [if_neg hne, if_neg (by omega)]
  · rw [decide_eq_false h1]
    simp only [Bool.false_and]
    refine Ev.congr (f := fun _ => some false) (fun k => ?_) (Ev.now false)
    unfold spec_IsName.f
    rw [if_pos (by rw [Go.ByteArray.toList_eq]; exact List.eq_nil_of_length_eq_zero (by rw [data_length]; omega))]
theorem areAllName_loop (s : ByteArray) (hs : s.size ≤ 9223372036854775807) (l : List Int) : ∀ i : Nat, i ≤ s.size → (bytesOf s).drop i = l → Ev (fun k => impl_areAll_byte_at_impl_isNameByte.l0 k (bytesOf s) (s.size : Int) (i : Int)) (l.all nameB) := by
  induction l with
  | nil =>
    intro i hi hd
    have h2 := bytes_end s i hd hi
    refine Ev.step (f := fun _ => some true) (fun k => ?_) (by simpa using Ev.now true)
    simp only [impl_areAll_byte_at_impl_isNameByte.l0]
    rw [if_neg (by omega)]
  | cons c l ih =>
    intro i hi hd
    obtain ⟨hlt, _, hb, hd'⟩ := bytes_at s i c l hd
    rw [List.all_cons]
    cases hn : nameB c with
    | true =>
      rw [Bool.true_and]
      refine Ev.step (f := fun k => impl_areAll_byte_at_impl_isNameByte.l0 k (bytesOf s) (s.size : Int) ((i + 1 : Nat) : Int)) (fun k => ?_) (ih (i + 1) (by omega) hd')
      simp only [impl_areAll_byte_at_impl_isNameByte.l0]
      rw [if_pos (by omega), if_pos (by omega), if_pos (by rw [bytesOf_length]; omega), hb, impl_nameByte, hn, wrapn i s.size hlt hs]
      rfl
    | false =>
      rw [Bool.false_and]
      refine Ev.step (f := fun _ => some false) (fun k => ?_) (Ev.now false)
      simp only [impl_areAll_byte_at_impl_isNameByte.l0]
      rw [if_pos (by omega), if_pos (by omega), if_pos (by rw [bytesOf_length]; omega), hb, impl_nameByte, hn]
      rfl
theorem impl_isName (s : ByteArray) : Ev (fun k => impl_IsName.f k s) (isNameB s) := by
  unfold isNameB
  by_cases h1 : 1 ≤ s.size
  · by_cases h2 : s.size ≤ 12
    · rw [decide_eq_true h1, decide_eq_true h2]
      simp only [Bool.true_and]
      cases hl : letterB (bt s 0) with
      | true =>
        rw [Bool.true_and]
        have r := areAllName_loop s (by omega) (bytesOf s) 0 (by omega) rfl
        refine Ev.congr (f := fun k => (impl_areAll_byte_at_impl_isNameByte.f k (bytesOf s)).bind fun t => some t) (fun k => ?_) (Ev.bind (Ev.congr (fun k => ?_) r) (Ev.now _))
        · unfold impl_IsName.f
          rw [if_pos (by omega), if_pos (by omega), if_pos (by omega), impl_letter, hl, Option.bind_some, if_pos rfl, if_pos (by omega)]
        · unfold impl_areAll_byte_at_impl_isNameByte.f
          rw [bytesOf_length]
          rfl
      | false =>
        rw [Bool.false_and]
        refine Ev.congr (f := fun _ => some false) (fun k => ?_) (Ev.now false)
        unfold impl_IsName.f
        rw [if_pos (by omega), if_pos (by omega), if_pos (by omega), impl_letter, hl]
        rfl
    · rw [decide_eq_false h2]
      simp only [Bool.false_and, Bool.and_false]
      refine Ev.congr (f := fun _ => some false) (fun k => ?_) (Ev.now false)
      unfold impl_IsName.f
      rw [if_pos (by omega), if_neg (by omega)]
  · rw [decide_eq_false h1]
    simp only [Bool.false_and]
    refine Ev.congr (f := fun _ => some false) (fun k => ?_) (Ev.now false)
    unfold impl_IsName.f
    rw [if_neg (by omega)]
-- values: the program's ValidValue and the reference's (behind Name)
theorem plain_eq (a b : Int) (c : ByteArray) (d : Int) (p q s : Bool) : spec_l06Plain.f a b c d p q s = some ((p || b == 0) && ((q || c.toList == ([] : List UInt8)) && (s || d == 0))) := by
  unfold spec_l06Plain.f
  by_cases hb : b = 0 <;> by_cases hc : c.toList = [] <;> by_cases hd : d = 0 <;> cases p <;> cases q <;> cases s <;> simp [hb, hc, hd]
theorem in_eq (a b c : Int) : spec_l00In.f a b c = some (decide (b ≤ a) && decide (a ≤ c)) := by
  unfold spec_l00In.f
  by_cases h : b ≤ a <;> simp [h]
theorem within_eq (a b c : Int) : impl_within.f a b c = some (decide (b ≤ a) && decide (a ≤ c)) := by
  unfold impl_within.f
  by_cases h : b ≤ a <;> simp [h]
theorem objectId_eq (a : Int) : impl_isObjectId.f a = some (decide (1 ≤ a) && decide (a ≤ 1000000)) := by
  unfold impl_isObjectId.f
  rw [within_eq]
  rfl
/-- What a valid value is. -/
def validB (a b : Int) (c : ByteArray) (d : Int) : Bool :=
  if a = 1 then (b == 0 && d == 0) && decide ((c.size : Int) ≤ 200)
  else if a = 2 then (c.toList == ([] : List UInt8) && d == 0) && (decide (-1000000000000 ≤ b) && decide (b ≤ 1000000000000))
  else if a = 3 then (b == 0 && d == 0) && (decide (1 ≤ (c.size : Int)) && decide ((c.size : Int) ≤ 1200))
  else if a = 4 ∨ a = 5 ∨ a = 6 then (b == 0 && c.toList == ([] : List UInt8)) && (decide (1 ≤ d) && decide (d ≤ 1000000))
  else if a = 7 ∨ a = 8 then (b == 0 && d == 0) && isNameB c
  else false
theorem spec_valid (a b : Int) (c : ByteArray) (d : Int) : Ev (fun k => spec_ValidValue.f k a b c d) (validB a b c d) := by
  unfold validB
  by_cases h1 : a = 1
  · refine Ev.congr (f := fun _ => some _) (fun k => ?_) (Ev.now _)
    unfold spec_ValidValue.f
    rw [if_pos h1, if_pos h1, plain_eq]
    by_cases hb : b = 0 <;> by_cases hd : d = 0 <;> simp [hb, hd]
  rw [if_neg h1]
  by_cases h2 : a = 2
  · refine Ev.congr (f := fun _ => some _) (fun k => ?_) (Ev.now _)
    unfold spec_ValidValue.f
    rw [if_neg h1, if_pos h2, if_pos h2, plain_eq, in_eq]
    by_cases hc : c.toList = [] <;> by_cases hd : d = 0 <;> simp [hc, hd]
  rw [if_neg h2]
  by_cases h3 : a = 3
  · refine Ev.congr (f := fun _ => some _) (fun k => ?_) (Ev.now _)
    unfold spec_ValidValue.f
    rw [if_neg h1, if_neg h2, if_pos h3, if_pos h3, plain_eq, in_eq]
    by_cases hb : b = 0 <;> by_cases hd : d = 0 <;> simp [hb, hd]
  rw [if_neg h3]
  have ref : Ev (fun k => spec_ValidValue.j0 k a true a b c d) ((b == 0 && c.toList == ([] : List UInt8)) && (decide (1 ≤ d) && decide (d ≤ 1000000))) := by
    refine Ev.step (f := fun _ => some _) (fun k => ?_) (Ev.now _)
    simp only [spec_ValidValue.j0]
    rw [if_pos trivial, plain_eq, in_eq]
    by_cases hb : b = 0 <;> by_cases hc : c.toList = [] <;> simp [hb, hc]
  have nam : Ev (fun k => spec_ValidValue.j1 k true a b c d) ((b == 0 && d == 0) && isNameB c) := by
    by_cases hq : (b == 0 && d == 0) = true
    · refine Ev.step (f := fun k => (spec_IsName.f k c).bind fun t => some t) (fun k => ?_) ?_
      · simp only [spec_ValidValue.j1]
        rw [if_pos trivial, plain_eq]
        have hb : b = 0 := by simp at hq; exact hq.1
        have hd : d = 0 := by simp at hq; exact hq.2
        simp [hb, hd]
      · rw [hq, Bool.true_and]
        exact Ev.bind (spec_isName c) (Ev.now _)
    · refine Ev.step (f := fun _ => some false) (fun k => ?_) ?_
      · simp only [spec_ValidValue.j1]
        rw [if_pos trivial, plain_eq]
        by_cases hb : b = 0 <;> by_cases hd : d = 0 <;> simp_all
      · rw [Bool.eq_false_iff.mpr hq, Bool.false_and]
        exact Ev.now false
  by_cases h4 : a = 4
  · rw [if_pos (by omega)]
    refine Ev.congr (f := fun k => spec_ValidValue.j0 k a true a b c d) (fun k => ?_) ref
    unfold spec_ValidValue.f
    rw [if_neg h1, if_neg h2, if_neg h3, if_pos h4]
    simp [h4]
  by_cases h5 : a = 5
  · rw [if_pos (by omega)]
    refine Ev.congr (f := fun k => spec_ValidValue.j0 k a true a b c d) (fun k => ?_) ref
    unfold spec_ValidValue.f
    rw [if_neg h1, if_neg h2, if_neg h3, if_neg h4, if_pos h5]
    simp [h5]
  by_cases h6 : a = 6
  · rw [if_pos (by omega)]
    refine Ev.congr (f := fun k => spec_ValidValue.j0 k a true a b c d) (fun k => ?_) ref
    unfold spec_ValidValue.f
    rw [if_neg h1, if_neg h2, if_neg h3, if_neg h4, if_neg h5]
    simp [h6]
  rw [if_neg (by omega)]
  have far : ∀ k, spec_ValidValue.f k a b c d = spec_ValidValue.j0 k a false a b c d := by
    intro k
    unfold spec_ValidValue.f
    rw [if_neg h1, if_neg h2, if_neg h3, if_neg h4, if_neg h5, beq_eq_false_iff_ne.mpr h6]
  refine Ev.congr far ?_
  by_cases h7 : a = 7
  · rw [if_pos (by omega)]
    refine Ev.step (f := fun k => spec_ValidValue.j1 k true a b c d) (fun k => ?_) nam
    simp only [spec_ValidValue.j0]
    rw [if_neg (by simp), if_pos h7]
    simp [h7]
  by_cases h8 : a = 8
  · rw [if_pos (by omega)]
    refine Ev.step (f := fun k => spec_ValidValue.j1 k true a b c d) (fun k => ?_) nam
    simp only [spec_ValidValue.j0]
    rw [if_neg (by simp), if_neg h7]
    simp [h8]
  rw [if_neg (by omega)]
  refine Ev.step (f := fun k => spec_ValidValue.j1 k false a b c d) (fun k => ?_) (Ev.step (f := fun _ => some false) (fun k => ?_) (Ev.now false))
  · simp only [spec_ValidValue.j0]
    rw [if_neg (by simp), if_neg h7, beq_eq_false_iff_ne.mpr h8]
  · simp only [spec_ValidValue.j1]
    rw [if_neg (by simp)]
theorem impl_valid (a b : Int) (c : ByteArray) (d : Int) : Ev (fun k => impl_ValidValue.f k a b c d) (validB a b c d) := by
  unfold validB
  by_cases h1 : a = 1
  · refine Ev.congr (f := fun _ => some _) (fun k => ?_) (Ev.now _)
    unfold impl_ValidValue.f
    rw [if_pos h1, if_pos h1]
    by_cases hb : b = 0 <;> by_cases hd : d = 0 <;> simp [h1, hb, hd]
  rw [if_neg h1]
  by_cases h2 : a = 2
  · refine Ev.congr (f := fun _ => some _) (fun k => ?_) (Ev.now _)
    unfold impl_ValidValue.f
    rw [if_neg h1, if_pos h2, if_pos h2, within_eq]
    by_cases hc : c.toList = [] <;> by_cases hd : d = 0 <;> simp [h2, hc, hd]
  rw [if_neg h2]
  by_cases h3 : a = 3
  · refine Ev.congr (f := fun _ => some _) (fun k => ?_) (Ev.now _)
    unfold impl_ValidValue.f
    rw [if_neg h1, if_neg h2, if_pos h3, if_pos h3]
    by_cases hb : b = 0 <;> by_cases hd : d = 0 <;> by_cases hs : 1 ≤ (c.size : Int) <;> simp [h3, hb, hd, hs]
  rw [if_neg h3]
  have ref : Ev (fun k => impl_ValidValue.j0 k a true a b c d) ((b == 0 && c.toList == ([] : List UInt8)) && (decide (1 ≤ d) && decide (d ≤ 1000000))) := by
    refine Ev.step (f := fun _ => some _) (fun k => ?_) (Ev.now _)
    simp only [impl_ValidValue.j0]
    rw [if_pos trivial, objectId_eq]
    by_cases hb : b = 0 <;> by_cases hc : c.toList = [] <;> simp [hb, hc]
  by_cases h4 : a = 4
  · rw [if_pos (by omega)]
    refine Ev.congr (f := fun k => impl_ValidValue.j0 k a true a b c d) (fun k => ?_) ref
    unfold impl_ValidValue.f
    rw [if_neg h1, if_neg h2, if_neg h3, if_pos h4]
    simp [h4]
  by_cases h5 : a = 5
  · rw [if_pos (by omega)]
    refine Ev.congr (f := fun k => impl_ValidValue.j0 k a true a b c d) (fun k => ?_) ref
    unfold impl_ValidValue.f
    rw [if_neg h1, if_neg h2, if_neg h3, if_neg h4, if_pos h5]
    simp [h5]
  by_cases h6 : a = 6
  · rw [if_pos (by omega)]
    refine Ev.congr (f := fun k => impl_ValidValue.j0 k a true a b c d) (fun k => ?_) ref
    unfold impl_ValidValue.f
    rw [if_neg h1, if_neg h2, if_neg h3, if_neg h4, if_neg h5]
    simp [h6]
  rw [if_neg (by omega)]
  have far : ∀ k, impl_ValidValue.f k a b c d = impl_ValidValue.j0 k a false a b c d := by
    intro k
    unfold impl_ValidValue.f
    rw [if_neg h1, if_neg h2, if_neg h3, if_neg h4, if_neg h5, beq_eq_false_iff_ne.mpr h6]
  refine Ev.congr far ?_
  by_cases h78 : a = 7 ∨ a = 8
  · rw [if_pos h78]
    by_cases hq : (b == 0 && d == 0) = true
    · refine Ev.step (f := fun k => (impl_IsName.f k c).bind fun t => some t) (fun k => ?_) ?_
      · simp only [impl_ValidValue.j0]
        rw [if_neg (by simp)]
        by_cases h7 : a = 7
        · rw [if_pos h7, if_pos hq]
        · rw [if_neg h7, if_pos (by omega), if_pos hq]
      · rw [hq, Bool.true_and]
        exact Ev.bind (impl_isName c) (Ev.now _)
    · refine Ev.step (f := fun _ => some false) (fun k => ?_) ?_
      · simp only [impl_ValidValue.j0]
        rw [if_neg (by simp)]
        by_cases h7 : a = 7
        · rw [if_pos h7, if_neg hq]
        · rw [if_neg h7, if_pos (by omega), if_neg hq]
      · rw [Bool.eq_false_iff.mpr hq, Bool.false_and]
        exact Ev.now false
  · rw [if_neg h78]
    refine Ev.step (f := fun _ => some false) (fun k => ?_) (Ev.now false)
    simp only [impl_ValidValue.j0]
    rw [if_neg (by simp), if_neg (by omega), if_neg (by omega)]
-- numbers written in digits: the reference's l06Digits and strconv's
theorem dec_step (a : Nat) (h : 10 ≤ a) : Lib.decDigits a = Lib.decDigits (a / 10) ++ [UInt8.ofNat (48 + a % 10)] := by
  rw [Lib.decDigits, dif_neg (by omega)]
theorem str_one (c : Nat) (out : ByteArray) : (strOfNums [(c : Int)] ++ out).data.toList = UInt8.ofNat c :: out.data.toList := by
  rw [ByteArray.data_append, Array.toList_append, strOfNums_data]
  simp
theorem tm10 (m : Int) : Int.tmod m 10 = if 0 ≤ m then m % 10 else -((-m) % 10) := by
  by_cases h : 0 ≤ m
  · rw [if_pos h, Int.tmod_eq_emod_of_nonneg h]
  · rw [if_neg h]
    have e : Int.tmod (-(-m)) 10 = -(Int.tmod (-m) 10) := Int.neg_tmod _ _
    rw [Int.neg_neg] at e
    rw [e, Int.tmod_eq_emod_of_nonneg (by omega)]
theorem td10 (m : Int) : Int.tdiv m 10 = if 0 ≤ m then m / 10 else -((-m) / 10) := by
  by_cases h : 0 ≤ m
  · rw [if_pos h, Int.tdiv_eq_ediv_of_nonneg h]
  · rw [if_neg h]
    have e : Int.tdiv (-(-m)) 10 = -(Int.tdiv (-m) 10) := Int.neg_tdiv _ _
    rw [Int.neg_neg] at e
    rw [e, Int.tdiv_eq_ediv_of_nonneg (by omega)]
theorem digits_out (n : Int) : ∀ (b a : Nat) (m : Int) (out : ByteArray), a ≤ b → a = m.natAbs → (m < 0 → n < 0) → a ≤ 9223372036854775807 → out.size + a ≤ 9223372036854775807 - 2 →
    1 ≤ a → ∃ r, Ev (fun k => spec_l06Digits.l0 k n out m) r ∧ r.data.toList = (if n < 0 then [45] else []) ++ Lib.decDigits a ++ out.data.toList := by
  intro b
  induction b with
  | zero => intro a m out h1 _ _ _ _ h2; omega
  | succ b ih =>
    intro a m out hab ha hm hbig hout h1
    have ht : (Int.tmod m 10 < 0 ∧ wrap64 (48 + wrap64 (-(Int.tmod m 10))) % 256 = ((48 + a % 10 : Nat) : Int)) ∨ (¬ Int.tmod m 10 < 0 ∧ wrap64 (48 + Int.tmod m 10) % 256 = ((48 + a % 10 : Nat) : Int)) := by
      have e := tm10 m
      by_cases h0 : 0 ≤ m
      · rw [if_pos h0] at e
        rw [e]
        refine Or.inr ⟨by omega, ?_⟩
        unfold wrap64
        omega
      · rw [if_neg h0] at e
        by_cases hz : (-m) % 10 = 0
        · refine Or.inr ⟨by omega, ?_⟩
          rw [e, hz]
          unfold wrap64
          omega
        · refine Or.inl ⟨by omega, ?_⟩
          rw [e, Int.neg_neg, show wrap64 ((-m) % 10) = (-m) % 10 by unfold wrap64; omega]
          unfold wrap64
          omega
    have hd : wrap64 (Int.tdiv m 10) = Int.tdiv m 10 ∧ (Int.tdiv m 10).natAbs = a / 10 ∧ (Int.tdiv m 10 < 0 → m < 0) := by
      have e := td10 m
      by_cases h0 : 0 ≤ m
      · rw [if_pos h0] at e
        rw [e]
        refine ⟨by unfold wrap64; omega, by omega, by omega⟩
      · rw [if_neg h0] at e
        rw [e]
        refine ⟨by unfold wrap64; omega, by omega, by omega⟩
    have hz : ¬ m = 0 := by omega
    have hs : (strOfNums [((48 + a % 10 : Nat) : Int)] ++ out).size = 1 + out.size := by rw [ByteArray.size_append, strOfNums_size]; rfl
    have st : ∀ k, spec_l06Digits.l0 (k + 1) n out m = spec_l06Digits.l0 k n (strOfNums [((48 + a % 10 : Nat) : Int)] ++ out) (Int.tdiv m 10) := fun k => by
      simp only [spec_l06Digits.l0]
      rw [if_neg hz]
      rcases ht with ⟨c, e⟩ | ⟨c, e⟩
      · rw [if_pos c, e, hd.1, Option.bind_some, if_pos (by rw [strOfNums_size]; simp only [List.length_cons, List.length_nil]; omega)]
      · rw [if_neg c, e, hd.1, Option.bind_some, if_pos (by rw [strOfNums_size]; simp only [List.length_cons, List.length_nil]; omega)]
    by_cases c : a < 10
    · have q : Int.tdiv m 10 = 0 := by have := hd.2.1; omega
      rw [Lib.decDigits_one c]
      have em : a % 10 = a := by omega
      rw [em, q] at st
      rw [em] at hs
      by_cases hn : n < 0
      · refine ⟨(⟨#[45]⟩ : ByteArray) ++ (strOfNums [((48 + a : Nat) : Int)] ++ out), Ev.step st (Ev.step (f := fun _ => some ((⟨#[45]⟩ : ByteArray) ++ (strOfNums [((48 + a : Nat) : Int)] ++ out))) (fun k => ?_) (Ev.now _)), ?_⟩
        · simp only [spec_l06Digits.l0]
          rw [if_pos trivial, if_pos hn, if_pos (by omega)]
        · rw [if_pos hn, ByteArray.data_append, Array.toList_append, str_one]
          rfl
      · refine ⟨strOfNums [((48 + a : Nat) : Int)] ++ out, Ev.step st (Ev.step (f := fun _ => some (strOfNums [((48 + a : Nat) : Int)] ++ out)) (fun k => ?_) (Ev.now _)), ?_⟩
        · simp only [spec_l06Digits.l0]
          rw [if_pos trivial, if_neg hn]
        · rw [if_neg hn, str_one]
          rfl
    · obtain ⟨r, er, hr⟩ := ih (a / 10) (Int.tdiv m 10) (strOfNums [((48 + a % 10 : Nat) : Int)] ++ out) (by omega) hd.2.1.symm (fun z => hm (hd.2.2 z)) (by omega) (by rw [hs]; omega) (by omega)
      refine ⟨r, Ev.step st er, ?_⟩
      rw [hr, str_one, dec_step a (by omega)]
      simp
theorem spec_dec (n : Int) (h1 : -1000000000000 ≤ n) (h2 : n ≤ 1000000000000) : Ev (fun k => spec_l06Digits.f k n) ⟨(Lib.itoa n).toArray⟩ := by
  have bext : ∀ r : ByteArray, r.data.toList = Lib.itoa n → r = ⟨(Lib.itoa n).toArray⟩ := fun r e => by
    cases r with
    | mk d => simp only at e; rw [← e]
  unfold spec_l06Digits.f
  by_cases hz : n = 0
  · subst hz
    refine Ev.congr (f := fun _ => some (⟨#[48]⟩ : ByteArray)) (fun k => by rw [if_pos rfl]) ?_
    have e : (⟨#[48]⟩ : ByteArray) = ⟨(Lib.itoa 0).toArray⟩ := bext _ (by unfold Lib.itoa; rw [if_neg (by omega), show (0 : Int).toNat = 0 from rfl, Lib.decDigits_one (by omega)]; rfl)
    rw [← e]
    exact Ev.now _
  · obtain ⟨r, er, hr⟩ := digits_out n n.natAbs n.natAbs n (⟨#[]⟩ : ByteArray) (Nat.le_refl _) rfl (fun z => z) (by omega) (by show 0 + _ ≤ _; omega) (by omega)
    have e : r.data.toList = Lib.itoa n := by
      rw [hr]
      unfold Lib.itoa
      by_cases hn : n < 0
      · rw [if_pos hn, if_pos hn]; simp
      · rw [if_neg hn, if_neg hn, show n.natAbs = n.toNat by omega]; simp
    rw [bext r e] at er
    exact Ev.congr (f := fun k => spec_l06Digits.l0 k n (⟨#[]⟩ : ByteArray) n) (fun k => by rw [if_neg hz]) er
-- ToText of both sides (behind ValidValue)
def textOf (a b : Int) (c : ByteArray) : ByteArray × Bool := if a = 1 then (c, true) else if a = 2 then (⟨(Lib.itoa b).toArray⟩, true) else ((⟨#[]⟩ : ByteArray), false)
theorem valid_dec (a b : Int) (c : ByteArray) (d : Int) (h : validB a b c d = true) (h2 : a = 2) : -1000000000000 ≤ b ∧ b ≤ 1000000000000 := by
  subst h2
  unfold validB at h
  simp at h
  omega
theorem spec_text (a b : Int) (c : ByteArray) (d : Int) : Ev (fun k => spec_ToText.f k a b c d) (if validB a b c d = true then textOf a b c else ((⟨#[]⟩ : ByteArray), false)) := by
  unfold spec_ToText.f
  refine Ev.bind (spec_valid a b c d) ?_
  cases hv : validB a b c d with
  | false => exact Ev.now _
  | true =>
    simp only [if_true]
    unfold textOf
    by_cases h1 : a = 1
    · simp only [if_pos h1]
      exact Ev.now _
    by_cases h2 : a = 2
    · simp only [if_neg h1, if_pos h2]
      obtain ⟨q1, q2⟩ := valid_dec a b c d hv h2
      exact Ev.bind (spec_dec b q1 q2) (Ev.now _)
    · simp only [if_neg h1, if_neg h2]
      exact Ev.now _
theorem impl_text (a b : Int) (c : ByteArray) (d : Int) : Ev (fun k => impl_ToText.f k a b c d) (if validB a b c d = true then textOf a b c else ((⟨#[]⟩ : ByteArray), false)) := by
  unfold impl_ToText.f
  refine Ev.bind (impl_valid a b c d) ?_
  cases hv : validB a b c d with
  | false => exact Ev.now _
  | true =>
    simp only [if_true]
    unfold textOf
    by_cases h1 : a = 1
    · simp only [if_pos h1]
      exact Ev.now _
    by_cases h2 : a = 2
    · simp only [if_neg h1, if_pos h2]
      obtain ⟨q1, q2⟩ := valid_dec a b c d hv h2
      have e : impl_decimal.f b = some ⟨(Lib.itoa b).toArray⟩ := by unfold impl_decimal.f; rw [if_pos (by omega), if_pos (by omega)]
      rw [e]
      exact Ev.now _
    · simp only [if_neg h1, if_neg h2]
      exact Ev.now _
theorem check2 (x y : S27) : Ev (fun k => impl_checkValues.f k [x, y]) (if (validB x.f0 x.f1 x.f2 x.f3 && validB y.f0 y.f1 y.f2 y.f3) = true then 0 else 1) := by
  have e1 : wrap64 (0 + 1) = 1 := by unfold wrap64; omega
  have e2 : wrap64 (1 + 1) = 2 := by unfold wrap64; omega
  have r0 : rd_T27 [x, y] 0 = x := rfl
  have r1 : rd_T27 [x, y] 1 = y := rfl
  have l2 : (([x, y] : List S27).length : Int) = 2 := rfl
  have all2 : Ev (fun k => impl_Value_at_impl_ValidValue.f k [x, y]) (validB x.f0 x.f1 x.f2 x.f3 && validB y.f0 y.f1 y.f2 y.f3) := by
    unfold impl_Value_at_impl_ValidValue.f
    refine Ev.step (f := fun k => (impl_ValidValue.f k x.f0 x.f1 x.f2 x.f3).bind fun t => if t = true then impl_Value_at_impl_ValidValue.l0 k [x, y] 2 1 else some false) (fun k => ?_) (Ev.bind (impl_valid x.f0 x.f1 x.f2 x.f3) ?_)
    · simp only [impl_Value_at_impl_ValidValue.l0, l2, r0, e1]
      rw [if_pos (by omega), if_pos (by omega), if_pos (by omega)]
    · cases validB x.f0 x.f1 x.f2 x.f3 with
      | false => exact Ev.congr (f := fun _ => some false) (fun k => by rw [if_neg (by simp)]) (Ev.now _)
      | true =>
        rw [Bool.true_and]
        refine Ev.congr (f := fun k => impl_Value_at_impl_ValidValue.l0 k [x, y] 2 1) (fun k => by rw [if_pos rfl]) ?_
        refine Ev.step (f := fun k => (impl_ValidValue.f k y.f0 y.f1 y.f2 y.f3).bind fun t => if t = true then impl_Value_at_impl_ValidValue.l0 k [x, y] 2 2 else some false) (fun k => ?_) (Ev.bind (impl_valid y.f0 y.f1 y.f2 y.f3) ?_)
        · simp only [impl_Value_at_impl_ValidValue.l0, l2, r1, e2]
          rw [if_pos (by omega), if_pos (by omega), if_pos (by omega)]
        · cases validB y.f0 y.f1 y.f2 y.f3 with
          | false => exact Ev.congr (f := fun _ => some false) (fun k => by rw [if_neg (by simp)]) (Ev.now _)
          | true =>
            refine Ev.congr (f := fun k => impl_Value_at_impl_ValidValue.l0 k [x, y] 2 2) (fun k => by rw [if_pos rfl]) ?_
            refine Ev.step (f := fun _ => some true) (fun k => ?_) (Ev.now _)
            simp only [impl_Value_at_impl_ValidValue.l0]
            rw [if_neg (by omega)]
  unfold impl_checkValues.f
  refine Ev.bind all2 ?_
  unfold impl_unless.f
  cases (validB x.f0 x.f1 x.f2 x.f3 && validB y.f0 y.f1 y.f2 y.f3) with
  | true => exact Ev.now _
  | false => exact Ev.now _
theorem spec_str (s : ByteArray) : Ev (fun k => spec_StringValue.f k s) (if validB 1 0 s 0 = true then (1, 0, s, 0, true) else (0, 0, (⟨#[]⟩ : ByteArray), 0, false)) := by
  refine Ev.congr (f := _) (fun k => by rw [spec_StringValue.f, spec_l06Or.f]) (Ev.bind (Ev.bind (spec_valid 1 0 s 0) (a := _) ?_) (Ev.now _) )
  cases validB 1 0 s 0 with
  | true => exact Ev.congr (f := fun _ => some _) (fun k => by rw [if_pos rfl, if_pos rfl]) (Ev.now _)
  | false => exact Ev.congr (f := fun _ => some _) (fun k => by rw [if_neg (by simp), if_neg (by simp)]) (Ev.now _)
theorem impl_str (s : ByteArray) : Ev (fun k => impl_StringValue.f k s) (if validB 1 0 s 0 = true then (1, 0, s, 0, true) else (0, 0, (⟨#[]⟩ : ByteArray), 0, false)) := by
  refine Ev.congr (f := _) (fun k => by rw [impl_StringValue.f, impl_textOf.f, Option.bind_some]) (Ev.bind (impl_valid 1 0 s 0) ?_)
  cases validB 1 0 s 0 with
  | true => exact Ev.congr (f := fun _ => some _) (fun k => by rw [if_pos rfl, if_pos rfl]) (Ev.now _)
  | false => exact Ev.congr (f := fun _ => some _) (fun k => by rw [if_neg (by simp), if_neg (by simp)]) (Ev.now _)
theorem eq_same (a b : Int) (c : ByteArray) (d : Int) : laws_eqValue.f a b c d a b c d = some true := by
  unfold laws_eqValue.f
  simp
def errC (c : Int) : Int × Int × ByteArray × Int × Int := (0, 0, (⟨#[]⟩ : ByteArray), 0, c)
def strEnd (s : ByteArray) : Int × Int × ByteArray × Int × Int := if validB 1 0 s 0 = true then (1, 0, s, 0, 0) else (0, 0, (⟨#[]⟩ : ByteArray), 0, 6)
def nullX (x : S27) : Bool := x.f0 == 1 && (x.f1 == 0 && (x.f2.toList == ([] : List UInt8) && (x.f3 == 0)))
def validX (x : S27) : Bool := validB x.f0 x.f1 x.f2 x.f3
def textX (x : S27) : ByteArray × Bool := textOf x.f0 x.f1 x.f2
def catEnd (x y : S27) : Int × Int × ByteArray × Int × Int :=
  if validX x = true then (if validX y = true then
    (if nullX x = true then (y.f0, y.f1, y.f2, y.f3, 0) else if nullX y = true then (x.f0, x.f1, x.f2, x.f3, 0)
     else if (textX x).2 = true then (if (textX y).2 = true then strEnd ((textX x).1 ++ (textX y).1) else errC 4) else errC 4)
    else errC 1) else errC 1
theorem text_size (x : S27) (h : validX x = true) : (textX x).1.size ≤ 1000 := by
  unfold textX textOf
  unfold validX at h
  by_cases h1 : x.f0 = 1
  · rw [if_pos h1]
    rw [h1] at h
    unfold validB at h
    simp at h
    show x.f2.size ≤ 1000
    omega
  · rw [if_neg h1]
    by_cases h2 : x.f0 = 2
    · rw [if_pos h2]
      obtain ⟨q1, q2⟩ := valid_dec x.f0 x.f1 x.f2 x.f3 h h2
      have := Lib.itoa_length_le x.f1 (by omega) (by omega)
      show (⟨(Lib.itoa x.f1).toArray⟩ : ByteArray).size ≤ 1000
      have e : (⟨(Lib.itoa x.f1).toArray⟩ : ByteArray).size = (Lib.itoa x.f1).length := by rw [← data_length]
      omega
    · rw [if_neg h2]
      show (0 : Nat) ≤ 1000
      omega
theorem spec_cat (x y : S27) : Ev (fun k => spec_Concatenated.f k x.f0 x.f1 x.f2 x.f3 y.f0 y.f1 y.f2 y.f3) (catEnd x y) := by
  have no : Ev (fun k => spec_Concatenated.j0 k true x.f0 x.f1 x.f2 x.f3 y.f0 y.f1 y.f2 y.f3) (errC 1) := Ev.step (f := fun _ => some (errC 1)) (fun k => by simp only [spec_Concatenated.j0]; rfl) (Ev.now _)
  have tx := spec_text x.f0 x.f1 x.f2 x.f3
  have ty := spec_text y.f0 y.f1 y.f2 y.f3
  have sx := text_size x
  have sy := text_size y
  have nn : ∀ z : S27, spec_IsNull.f z.f0 z.f1 z.f2 z.f3 = some (nullX z) := fun z => rfl
  unfold spec_Concatenated.f catEnd
  refine Ev.bind (spec_valid x.f0 x.f1 x.f2 x.f3) ?_
  cases hvx : validB x.f0 x.f1 x.f2 x.f3 with
  | false =>
    rw [if_neg (show ¬ validX x = true by unfold validX; rw [hvx]; simp)]
    exact no
  | true =>
    rw [if_pos (show validX x = true from hvx)]
    rw [hvx] at tx
    have sx := sx hvx
    simp only [if_true] at tx ⊢
    refine Ev.bind (spec_valid y.f0 y.f1 y.f2 y.f3) ?_
    cases hvy : validB y.f0 y.f1 y.f2 y.f3 with
    | false =>
      rw [if_neg (show ¬ validX y = true by unfold validX; rw [hvy]; simp)]
      exact no
    | true =>
      rw [if_pos (show validX y = true from hvy)]
      rw [hvy] at ty
      have sy := sy hvy
      simp only [if_true] at ty
      refine Ev.step (f := fun k => if nullX x = true then some (y.f0, y.f1, y.f2, y.f3, 0) else if nullX y = true then some (x.f0, x.f1, x.f2, x.f3, 0) else (spec_ToText.f k x.f0 x.f1 x.f2 x.f3).bind fun b => (spec_ToText.f k y.f0 y.f1 y.f2 y.f3).bind fun e => if b.2 = true then spec_Concatenated.j1 k b.1 e.1 (!e.2) else spec_Concatenated.j1 k b.1 e.1 true) (fun k => ?_) ?_
      · simp only [spec_Concatenated.j0, nn, Option.bind_some]
        rw [if_neg (by simp)]
      · cases nullX x with
        | true => exact Ev.now _
        | false =>
          simp only [Bool.false_eq_true, if_false]
          cases nullX y with
          | true => exact Ev.now _
          | false =>
            simp only [Bool.false_eq_true, if_false]
            refine Ev.bind tx (Ev.bind ty ?_)
            have bad : ∀ s t, Ev (fun k => spec_Concatenated.j1 k s t true) (errC 4) := fun s t => Ev.step (f := fun _ => some (errC 4)) (fun k => by simp only [spec_Concatenated.j1]; rfl) (Ev.now _)
            show Ev _ (if (textX x).2 = true then (if (textX y).2 = true then strEnd ((textX x).1 ++ (textX y).1) else errC 4) else errC 4)
            change Ev (fun k => if (textX x).2 = true then spec_Concatenated.j1 k (textX x).1 (textX y).1 (!(textX y).2) else spec_Concatenated.j1 k (textX x).1 (textX y).1 true) _
            cases (textX x).2 with
            | false => exact bad _ _
            | true =>
              cases (textX y).2 with
              | false => exact bad _ _
              | true =>
                refine Ev.step (f := fun k => (spec_StringValue.f k ((textX x).1 ++ (textX y).1)).bind fun b => if b.2.2.2.2 = true then some (b.1, b.2.1, b.2.2.1, b.2.2.2.1, 0) else some (errC 6)) (fun k => ?_) (Ev.bind (spec_str _) ?_)
                · have hz : (textX x).1.size + (textX y).1.size ≤ 9223372036854775807 := by omega
                  simp only [spec_Concatenated.j1]
                  rw [if_neg (show ¬ ((!true) = true) by simp), if_pos hz]
                  rfl
                · simp only [if_true]
                  unfold strEnd
                  cases validB 1 0 ((textX x).1 ++ (textX y).1) 0 <;> exact Ev.now _
theorem impl_cat (x y : S27) : Ev (fun k => impl_Concatenated.f k x.f0 x.f1 x.f2 x.f3 y.f0 y.f1 y.f2 y.f3) (catEnd x y) := by
  have eta : ∀ z : S27, (⟨z.f0, z.f1, z.f2, z.f3⟩ : S27) = z := fun z => by cases z; rfl
  have tx := impl_text x.f0 x.f1 x.f2 x.f3
  have ty := impl_text y.f0 y.f1 y.f2 y.f3
  have sx := text_size x
  have sy := text_size y
  have e0 : (⟨#[]⟩ : ByteArray).toList = [] := by rw [Go.ByteArray.toList_eq]
  have nn : ∀ z : S27, impl_IsNull.f z.f0 z.f1 z.f2 z.f3 = some (nullX z) := fun z => by
    unfold impl_IsNull.f impl_null.f impl_textOf.f nullX
    simp [e0]
  unfold impl_Concatenated.f catEnd
  rw [eta, eta]
  refine Ev.bind (check2 x y) ?_
  simp only [nn, Option.bind_some]
  cases hvx : validB x.f0 x.f1 x.f2 x.f3 with
  | false =>
    rw [if_neg (show ¬ validX x = true by unfold validX; rw [hvx]; simp)]
    exact Ev.now _
  | true =>
    rw [if_pos (show validX x = true from hvx)]
    rw [hvx] at tx
    have sx := sx hvx
    cases hvy : validB y.f0 y.f1 y.f2 y.f3 with
    | false =>
      rw [if_neg (show ¬ validX y = true by unfold validX; rw [hvy]; simp)]
      exact Ev.now _
    | true =>
      rw [if_pos (show validX y = true from hvy)]
      rw [hvy] at ty
      have sy := sy hvy
      simp only [if_true, Bool.and_self] at tx ty ⊢
      cases nullX x with
      | true => exact Ev.now _
      | false =>
        simp only [Bool.false_eq_true, if_false]
        cases nullX y with
        | true => exact Ev.now _
        | false =>
          simp only [Bool.false_eq_true, if_false]
          refine Ev.bind tx (Ev.bind ty ?_)
          have bad : ∀ s t, Ev (fun k => impl_Concatenated.j0 k s t true) (errC 4) := fun s t => Ev.step (f := fun _ => some (errC 4)) (fun k => by simp only [impl_Concatenated.j0]; rfl) (Ev.now _)
          change Ev (fun k => if (textX x).2 = true then impl_Concatenated.j0 k (textX x).1 (textX y).1 (!(textX y).2) else impl_Concatenated.j0 k (textX x).1 (textX y).1 true) _
          cases (textX x).2 with
          | false => exact bad _ _
          | true =>
            cases (textX y).2 with
            | false => exact bad _ _
            | true =>
              refine Ev.step (f := fun k => (impl_StringValue.f k ((textX x).1 ++ (textX y).1)).bind fun b => (impl_unless.f b.2.2.2.2 6).bind fun t => some (b.1, b.2.1, b.2.2.1, b.2.2.2.1, t)) (fun k => ?_) (Ev.bind (impl_str _) ?_)
              · have hz : (textX x).1.size + (textX y).1.size ≤ 9223372036854775807 := by omega
                simp only [impl_Concatenated.j0]
                rw [if_neg (show ¬ ((!true) = true) by simp), if_pos hz]
                first | rfl | (rw [if_pos trivial]; done)
              · simp only [if_true]
                unfold strEnd impl_unless.f
                cases validB 1 0 ((textX x).1 ++ (textX y).1) 0 <;> exact Ev.now _
end Concatenated
open Concatenated in
theorem FnExactConcatenated : laws_FnExactConcatenated.Pure := by
  intro x0 y0 gx gy
  apply Ev.rounds
  unfold laws_FnExactConcatenated.f
  have h : ∀ (z : S23) (l : Int), ∃ r, laws_szValue.f z.f0 z.f1 z.f2 z.f3 l = some r := by
    intro z l
    unfold laws_szValue.f
    split
    · exact ⟨_, rfl⟩
    · exact ⟨_, rfl⟩
  obtain ⟨r, hr⟩ := h x0 1048576
  have ht : ∀ z : S23, laws_toValue.f z.f0 z.f1 z.f2 z.f3 = some (z.f0, z.f1, z.f2, z.f3) := fun z => rfl
  simp only [hr, ht, Option.bind_some]
  by_cases q : r < 0
  · simp only [if_pos q]
    exact Ev.now true
  · simp only [if_neg q]
    obtain ⟨r2, hr2⟩ := h y0 r
    simp only [hr2, Option.bind_some]
    by_cases q2 : r2 < 0
    · simp only [if_pos q2]
      exact Ev.now true
    · simp only [if_neg q2]
      have e1 := spec_cat ⟨x0.f0, x0.f1, x0.f2, x0.f3⟩ ⟨y0.f0, y0.f1, y0.f2, y0.f3⟩
      have e2 := impl_cat ⟨x0.f0, x0.f1, x0.f2, x0.f3⟩ ⟨y0.f0, y0.f1, y0.f2, y0.f3⟩
      simp only at e1 e2
      refine Ev.bind e1 (Ev.bind e2 ?_)
      rw [eq_same, Option.bind_some]
      exact Ev.congr (f := fun _ => some true) (fun k => by rw [if_pos rfl, if_pos rfl]) (Ev.now true)
end Go.Proofs.YtfilllhbhgkmaaaDoor.Pure
