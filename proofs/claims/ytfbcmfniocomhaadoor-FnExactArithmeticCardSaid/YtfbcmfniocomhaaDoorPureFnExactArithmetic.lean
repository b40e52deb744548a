/- FnExactArithmetic answers true for every operator and every two values: the program's Arithmetic (bits.Mul64 for products) and the reference's (a division ahead of the product) give the same value and code. Conditions: none beyond the statement's own. -/
import Derived.Test.YtfbcmfniocomhaaDoorPFnExactArithmeticx9
import Derived.Lib.ParseIntBCases
import Derived.Shelf.Bits.Mul64
namespace Go.Proofs.YtfbcmfniocomhaaDoor.Pure
open Go.RowKit Go.Proofs.YtfbcmfniocomhaaDoor.PFnExactArithmetic Go.Proofs.YtfbcmfniocomhaaDoorW.PrintWords Go.Proofs.YtfbcmfniocomhaaDoorW.PrintLast Go.Proofs.YtfbcmfniocomhaaDoorW.PrintMore
namespace Arithmetic
-- the bytes of a string, one after another
theorem byt_at (s : ByteArray) (i : Nat) (c : Int) (l : List Int) (h : (bytesOf s).drop i = c :: l) : i < s.size ∧ bt s (i : Int) = c ∧ rd (bytesOf s) (i : Int) = c ∧ (bytesOf s).drop (i + 1) = l := by
  have h1 : i < (bytesOf s).length := by
    rcases Nat.lt_or_ge i (bytesOf s).length with h2 | h2
    · exact h2
    · rw [List.drop_eq_nil_of_le h2] at h
      cases h
  rw [List.drop_eq_getElem_cons h1] at h
  injection h with h2 h3
  have h4 : rd (bytesOf s) (i : Int) = c := by
    unfold rd
    rw [Int.toNat_natCast, List.getD_eq_getElem?_getD, List.getElem?_eq_getElem h1]
    exact h2
  refine ⟨by rw [← bytesOf_length]; exact h1, ?_, h4, h3⟩
  rw [← rd_bytesOf]
  exact h4
theorem byt_end (s : ByteArray) (i : Nat) (h : (bytesOf s).drop i = []) (hi : i ≤ s.size) : i = s.size := by
  have := congrArg List.length h
  rw [List.length_drop, bytesOf_length] at this
  simp at this
  omega
theorem wrapb (i n : Nat) (h : i < n) (hn : n ≤ 9223372036854775807) : wrap64 ((i : Int) + 1) = ((i + 1 : Nat) : Int) := by unfold wrap64; omega
-- names: the program's IsName and the reference's
def letterB (c : Int) : Bool := (decide (65 ≤ c) && decide (c ≤ 90)) || (decide (97 ≤ c) && decide (c ≤ 122))
def digitB (c : Int) : Bool := decide (48 ≤ c) && decide (c ≤ 57)
def nameB (c : Int) : Bool := letterB c || (digitB c || c == 95)
theorem spec_letter (c : Int) : spec_l02Letter.f c = some (letterB c) := by
  unfold spec_l02Letter.f letterB
  by_cases h1 : 65 ≤ c <;> by_cases h2 : c ≤ 90 <;> by_cases h3 : 97 ≤ c <;> simp [h1, h2, h3]
theorem spec_digit (c : Int) : spec_l02Digit.f c = some (digitB c) := by
  unfold spec_l02Digit.f digitB
  by_cases h1 : 48 ≤ c <;> simp [h1]
theorem impl_letter (c : Int) : impl_isLetter.f c = some (letterB c) := by
  unfold impl_isLetter.f letterB
  by_cases h1 : 65 ≤ c <;> by_cases h2 : c ≤ 90 <;> by_cases h3 : 97 ≤ c <;> simp [h1, h2, h3]
theorem impl_digit (c : Int) : impl_isDigit.f c = some (digitB c) := by
  unfold impl_isDigit.f digitB
  by_cases h1 : 48 ≤ c <;> simp [h1]
theorem impl_nameByte (c : Int) : impl_isNameByte.f c = some (nameB c) := by
  unfold impl_isNameByte.f nameB
  rw [impl_letter, impl_digit]
  cases letterB c <;> cases digitB c <;> simp
theorem bytes_at (s : ByteArray) (i : Nat) (c : Int) (l : List Int) (h : (bytesOf s).drop i = c :: l) : i < s.size ∧ bt s (i : Int) = c ∧ rd (bytesOf s) (i : Int) = c ∧ (bytesOf s).drop (i + 1) = l := by
  have h1 : i < (bytesOf s).length := by
    rcases Nat.lt_or_ge i (bytesOf s).length with h2 | h2
    · exact h2
    · rw [List.drop_eq_nil_of_le h2] at h
      cases h
  rw [List.drop_eq_getElem_cons h1] at h
  injection h with h2 h3
  have h4 : rd (bytesOf s) (i : Int) = c := by
    unfold rd
    rw [Int.toNat_natCast, List.getD_eq_getElem?_getD, List.getElem?_eq_getElem h1]
    exact h2
  refine ⟨by rw [← bytesOf_length]; exact h1, ?_, h4, h3⟩
  rw [← rd_bytesOf]
  exact h4
theorem bytes_end (s : ByteArray) (i : Nat) (h : (bytesOf s).drop i = []) (hi : i ≤ s.size) : i = s.size := by
  have := congrArg List.length h
  rw [List.length_drop, bytesOf_length] at this
  simp at this
  omega
theorem wrapn (i n : Nat) (h : i < n) (hn : n ≤ 9223372036854775807) : wrap64 ((i : Int) + 1) = ((i + 1 : Nat) : Int) := by unfold wrap64; omega
theorem nameEnd_loop (s : ByteArray) (hs : s.size ≤ 9223372036854775807) (l : List Int) : ∀ i : Nat, i ≤ s.size → (bytesOf s).drop i = l → Ev (fun k => spec_l02NameEnd.l0 k s (i : Int)) ((i : Int) + (l.takeWhile nameB).length) := by
  induction l with
  | nil =>
    intro i hi hd
    have h2 := bytes_end s i hd hi
    refine Ev.step (f := fun _ => some (i : Int)) (fun k => ?_) (by simpa using Ev.now (i : Int))
    simp only [spec_l02NameEnd.l0]
    rw [if_neg (by omega)]
  | cons c l ih =>
    intro i hi hd
    obtain ⟨hlt, hb, _, hd'⟩ := bytes_at s i c l hd
    cases hn : nameB c with
    | true =>
      have r := ih (i + 1) (by omega) hd'
      have e : (i : Int) + ((c :: l).takeWhile nameB).length = ((i + 1 : Nat) : Int) + (l.takeWhile nameB).length := by
        rw [List.takeWhile_cons_of_pos hn, List.length_cons]
        omega
      rw [e]
      refine Ev.step (f := fun k => spec_l02NameEnd.l0 k s ((i + 1 : Nat) : Int)) (fun k => ?_) r
      simp only [spec_l02NameEnd.l0]
      rw [if_pos (by omega), if_pos (by omega), hb, spec_letter, spec_digit, wrapn i s.size hlt hs]
      unfold nameB at hn
      cases hl : letterB c with
      | true => simp
      | false =>
        cases hg : digitB c with
        | true => simp
        | false =>
          rw [hl, hg] at hn
          have hc : c = 95 := by simpa using hn
          simp [hc]
    | false =>
      rw [List.takeWhile_cons_of_neg (by simp [hn])]
      refine Ev.step (f := fun _ => some (i : Int)) (fun k => ?_) (by simpa using Ev.now (i : Int))
      simp only [spec_l02NameEnd.l0]
      rw [if_pos (by omega), if_pos (by omega), hb, spec_letter, spec_digit]
      unfold nameB at hn
      cases hl : letterB c with
      | true => rw [hl] at hn; simp at hn
      | false =>
        cases hg : digitB c with
        | true => rw [hl, hg] at hn; simp at hn
        | false =>
          rw [hl, hg] at hn
          have hc : ¬ c = 95 := by simpa using hn
          simp [hc]
theorem takeWhile_all (l : List Int) (p : Int → Bool) : (l.takeWhile p).length = l.length ↔ l.all p = true := by
  induction l with
  | nil => simp
  | cons c l ih =>
    cases h : p c with
    | true => rw [List.takeWhile_cons_of_pos h]; simp [h, ih]
    | false => rw [List.takeWhile_cons_of_neg (by simp [h])]; simp [h]
/-- What a name is. -/
def isNameB (s : ByteArray) : Bool := decide (1 ≤ s.size) && (decide (s.size ≤ 12) && (letterB (bt s 0) && (bytesOf s).all nameB))
theorem spec_isName (s : ByteArray) : Ev (fun k => spec_IsName.f k s) (isNameB s) := by
  unfold isNameB
  by_cases h1 : 1 ≤ s.size
  · have hne : ¬ s.toList = [] := by
      rw [Go.ByteArray.toList_eq]
      intro e
      have := data_length s
      rw [e] at this
      simp at this
      omega
    by_cases h2 : s.size ≤ 12
    · have e : Ev (fun k => spec_l02NameEnd.f k s 0) (if letterB (bt s 0) = true then (((bytesOf s).takeWhile nameB).length : Int) else 0) := by
        cases hl : letterB (bt s 0) with
        | true =>
          have r := nameEnd_loop s (by omega) (bytesOf s) 0 (by omega) rfl
          rw [if_pos rfl]
          simp only [Int.natCast_zero, Int.zero_add] at r
          refine Ev.congr (f := fun k => spec_l02NameEnd.j0 k s 0 false) (fun k => ?_) (Ev.step (f := fun k => spec_l02NameEnd.l0 k s 0) (fun k => by simp only [spec_l02NameEnd.j0]; simp) r)
          unfold spec_l02NameEnd.f
          rw [if_neg (by omega), if_pos (by omega), if_pos (by omega), spec_letter, hl]
          rfl
        | false =>
          rw [if_neg (by simp)]
          refine Ev.congr (f := fun k => spec_l02NameEnd.j0 k s 0 true) (fun k => ?_) (Ev.step (f := fun _ => some 0) (fun k => by simp only [spec_l02NameEnd.j0]; simp) (Ev.now 0))
          unfold spec_l02NameEnd.f
          rw [if_neg (by omega), if_pos (by omega), if_pos (by omega), spec_letter, hl]
          rfl
      refine Ev.congr (f := fun k => (spec_l02NameEnd.f k s 0).bind fun t => some (t == (s.size : Int))) (fun k => ?_) (Ev.bind e ?_)
      · unfold spec_IsName.f
        rw [if_neg hne, if_pos (by omega)]
      · have hx : (decide (1 ≤ s.size) && (decide (s.size ≤ 12) && (letterB (bt s 0) && (bytesOf s).all nameB))) = ((if letterB (bt s 0) = true then (((bytesOf s).takeWhile nameB).length : Int) else 0) == (s.size : Int)) := by
          rw [decide_eq_true h1, decide_eq_true h2]
          simp only [Bool.true_and]
          cases hl : letterB (bt s 0) with
          | true =>
            rw [if_pos rfl, Bool.true_and]
            have h3 := takeWhile_all (bytesOf s) nameB
            rw [bytesOf_length] at h3
            rw [Bool.eq_iff_iff, ← h3, beq_iff_eq]
            omega
          | false =>
            rw [if_neg (by simp), Bool.false_and]
            have h4 : ¬ (0 : Int) = (s.size : Int) := by omega
            simp [h4]
        rw [hx]
        exact Ev.now _
    · rw [decide_eq_false h2]
      simp only [Bool.false_and, Bool.and_false]
      refine Ev.congr (f := fun _ => some false) (fun k => ?_) (Ev.now false)
      unfold spec_IsName.f
      rw [if_neg hne, if_neg (by omega)]
  · rw [decide_eq_false h1]
    simp only [Bool.false_and]
    refine Ev.congr (f := fun _ => some false) (fun k => ?_) (Ev.now false)
    unfold spec_IsName.f
    rw [if_pos (by rw [Go.ByteArray.toList_eq]; exact List.eq_nil_of_length_eq_zero (by rw [data_length]; omega))]
theorem areAllName_loop (s : ByteArray) (hs : s.size ≤ 9223372036854775807) (l : List Int) : ∀ i : Nat, i ≤ s.size → (bytesOf s).drop i = l → Ev (fun k => impl_areAll_byte_at_impl_isNameByte.l0 k (bytesOf s) (s.size : Int) (i : Int)) (l.all nameB) := by
  induction l with
  | nil =>
    intro i hi hd
    have h2 := bytes_end s i hd hi
    refine Ev.step (f := fun _ => some true) (fun k => ?_) (by simpa using Ev.now true)
    simp only [impl_areAll_byte_at_impl_isNameByte.l0]
    rw [if_neg (by omega)]
  | cons c l ih =>
    intro i hi hd
    obtain ⟨hlt, _, hb, hd'⟩ := bytes_at s i c l hd
    rw [List.all_cons]
    cases hn : nameB c with
    | true =>
      rw [Bool.true_and]
      refine Ev.step (f := fun k => impl_areAll_byte_at_impl_isNameByte.l0 k (bytesOf s) (s.size : Int) ((i + 1 : Nat) : Int)) (fun k => ?_) (ih (i + 1) (by omega) hd')
      simp only [impl_areAll_byte_at_impl_isNameByte.l0]
      rw [if_pos (by omega), if_pos (by omega), if_pos (by rw [bytesOf_length]; omega), hb, impl_nameByte, hn, wrapn i s.size hlt hs]
      rfl
    | false =>
      rw [Bool.false_and]
      refine Ev.step (f := fun _ => some false) (fun k => ?_) (Ev.now false)
      simp only [impl_areAll_byte_at_impl_isNameByte.l0]
      rw [if_pos (by omega), if_pos (by omega), if_pos (by rw [bytesOf_length]; omega), hb, impl_nameByte, hn]
      rfl
theorem impl_isName (s : ByteArray) : Ev (fun k => impl_IsName.f k s) (isNameB s) := by
  unfold isNameB
  by_cases h1 : 1 ≤ s.size
  · by_cases h2 : s.size ≤ 12
    · rw [decide_eq_true h1, decide_eq_true h2]
      simp only [Bool.true_and]
      cases hl : letterB (bt s 0) with
      | true =>
        rw [Bool.true_and]
        have r := areAllName_loop s (by omega) (bytesOf s) 0 (by omega) rfl
        refine Ev.congr (f := fun k => (impl_areAll_byte_at_impl_isNameByte.f k (bytesOf s)).bind fun t => some t) (fun k => ?_) (Ev.bind (Ev.congr (fun k => ?_) r) (Ev.now _))
        · unfold impl_IsName.f
          rw [if_pos (by omega), if_pos (by omega), if_pos (by omega), impl_letter, hl, Option.bind_some, if_pos rfl, if_pos (by omega)]
        · unfold impl_areAll_byte_at_impl_isNameByte.f
          rw [bytesOf_length]
          rfl
      | false =>
        rw [Bool.false_and]
        refine Ev.congr (f := fun _ => some false) (fun k => ?_) (Ev.now false)
        unfold impl_IsName.f
        rw [if_pos (by omega), if_pos (by omega), if_pos (by omega), impl_letter, hl]
        rfl
    · rw [decide_eq_false h2]
      simp only [Bool.false_and, Bool.and_false]
      refine Ev.congr (f := fun _ => some false) (fun k => ?_) (Ev.now false)
      unfold impl_IsName.f
      rw [if_pos (by omega), if_neg (by omega)]
  · rw [decide_eq_false h1]
    simp only [Bool.false_and]
    refine Ev.congr (f := fun _ => some false) (fun k => ?_) (Ev.now false)
    unfold impl_IsName.f
    rw [if_neg (by omega)]
-- values: the program's ValidValue and the reference's (behind Name)
theorem plain_eq (a b : Int) (c : ByteArray) (d : Int) (p q s : Bool) : spec_l06Plain.f a b c d p q s = some ((p || b == 0) && ((q || c.toList == ([] : List UInt8)) && (s || d == 0))) := by
  unfold spec_l06Plain.f
  by_cases hb : b = 0 <;> by_cases hc : c.toList = [] <;> by_cases hd : d = 0 <;> cases p <;> cases q <;> cases s <;> simp [hb, hc, hd]
theorem in_eq (a b c : Int) : spec_l00In.f a b c = some (decide (b ≤ a) && decide (a ≤ c)) := by
  unfold spec_l00In.f
  by_cases h : b ≤ a <;> simp [h]
theorem within_eq (a b c : Int) : impl_within.f a b c = some (decide (b ≤ a) && decide (a ≤ c)) := by
  unfold impl_within.f
  by_cases h : b ≤ a <;> simp [h]
theorem objectId_eq (a : Int) : impl_isObjectId.f a = some (decide (1 ≤ a) && decide (a ≤ 1000000)) := by
  unfold impl_isObjectId.f
  rw [within_eq]
  rfl
/-- What a valid value is. -/
def validB (a b : Int) (c : ByteArray) (d : Int) : Bool :=
  if a = 1 then (b == 0 && d == 0) && decide ((c.size : Int) ≤ 200)
  else if a = 2 then (c.toList == ([] : List UInt8) && d == 0) && (decide (-1000000000000 ≤ b) && decide (b ≤ 1000000000000))
  else if a = 3 then (b == 0 && d == 0) && (decide (1 ≤ (c.size : Int)) && decide ((c.size : Int) ≤ 1200))
  else if a = 4 ∨ a = 5 ∨ a = 6 then (b == 0 && c.toList == ([] : List UInt8)) && (decide (1 ≤ d) && decide (d ≤ 1000000))
  else if a = 7 ∨ a = 8 then (b == 0 && d == 0) && isNameB c
  else false
theorem spec_valid (a b : Int) (c : ByteArray) (d : Int) : Ev (fun k => spec_ValidValue.f k a b c d) (validB a b c d) := by
  unfold validB
  by_cases h1 : a = 1
  · refine Ev.congr (f := fun _ => some _) (fun k => ?_) (Ev.now _)
    unfold spec_ValidValue.f
    rw [if_pos h1, if_pos h1, plain_eq]
    by_cases hb : b = 0 <;> by_cases hd : d = 0 <;> simp [hb, hd]
  rw [if_neg h1]
  by_cases h2 : a = 2
  · refine Ev.congr (f := fun _ => some _) (fun k => ?_) (Ev.now _)
    unfold spec_ValidValue.f
    rw [if_neg h1, if_pos h2, if_pos h2, plain_eq, in_eq]
    by_cases hc : c.toList = [] <;> by_cases hd : d = 0 <;> simp [hc, hd]
  rw [if_neg h2]
  by_cases h3 : a = 3
  · refine Ev.congr (f := fun _ => some _) (fun k => ?_) (Ev.now _)
    unfold spec_ValidValue.f
    rw [if_neg h1, if_neg h2, if_pos h3, if_pos h3, plain_eq, in_eq]
    by_cases hb : b = 0 <;> by_cases hd : d = 0 <;> simp [hb, hd]
  rw [if_neg h3]
  have ref : Ev (fun k => spec_ValidValue.j0 k a true a b c d) ((b == 0 && c.toList == ([] : List UInt8)) && (decide (1 ≤ d) && decide (d ≤ 1000000))) := by
    refine Ev.step (f := fun _ => some _) (fun k => ?_) (Ev.now _)
    simp only [spec_ValidValue.j0]
    rw [if_pos trivial, plain_eq, in_eq]
    by_cases hb : b = 0 <;> by_cases hc : c.toList = [] <;> simp [hb, hc]
  have nam : Ev (fun k => spec_ValidValue.j1 k true a b c d) ((b == 0 && d == 0) && isNameB c) := by
    by_cases hq : (b == 0 && d == 0) = true
    · refine Ev.step (f := fun k => (spec_IsName.f k c).bind fun t => some t) (fun k => ?_) ?_
      · simp only [spec_ValidValue.j1]
        rw [if_pos trivial, plain_eq]
        have hb : b = 0 := by simp at hq; exact hq.1
        have hd : d = 0 := by simp at hq; exact hq.2
        simp [hb, hd]
      · rw [hq, Bool.true_and]
        exact Ev.bind (spec_isName c) (Ev.now _)
    · refine Ev.step (f := fun _ => some false) (fun k => ?_) ?_
      · simp only [spec_ValidValue.j1]
        rw [if_pos trivial, plain_eq]
        by_cases hb : b = 0 <;> by_cases hd : d = 0 <;> simp_all
      · rw [Bool.eq_false_iff.mpr hq, Bool.false_and]
        exact Ev.now false
  by_cases h4 : a = 4
  · rw [if_pos (by omega)]
    refine Ev.congr (f := fun k => spec_ValidValue.j0 k a true a b c d) (fun k => ?_) ref
    unfold spec_ValidValue.f
    rw [if_neg h1, if_neg h2, if_neg h3, if_pos h4]
    simp [h4]
  by_cases h5 : a = 5
  · rw [if_pos (by omega)]
    refine Ev.congr (f := fun k => spec_ValidValue.j0 k a true a b c d) (fun k => ?_) ref
    unfold spec_ValidValue.f
    rw [if_neg h1, if_neg h2, if_neg h3, if_neg h4, if_pos h5]
    simp [h5]
  by_cases h6 : a = 6
  · rw [if_pos (by omega)]
    refine Ev.congr (f := fun k => spec_ValidValue.j0 k a true a b c d) (fun k => ?_) ref
    unfold spec_ValidValue.f
    rw [if_neg h1, if_neg h2, if_neg h3, if_neg h4, if_neg h5]
    simp [h6]
  rw [if_neg (by omega)]
  have far : ∀ k, spec_ValidValue.f k a b c d = spec_ValidValue.j0 k a false a b c d := by
    intro k
    unfold spec_ValidValue.f
    rw [if_neg h1, if_neg h2, if_neg h3, if_neg h4, if_neg h5, beq_eq_false_iff_ne.mpr h6]
  refine Ev.congr far ?_
  by_cases h7 : a = 7
  · rw [if_pos (by omega)]
    refine Ev.step (f := fun k => spec_ValidValue.j1 k true a b c d) (fun k => ?_) nam
    simp only [spec_ValidValue.j0]
    rw [if_neg (by simp), if_pos h7]
    simp [h7]
  by_cases h8 : a = 8
  · rw [if_pos (by omega)]
    refine Ev.step (f := fun k => spec_ValidValue.j1 k true a b c d) (fun k => ?_) nam
    simp only [spec_ValidValue.j0]
    rw [if_neg (by simp), if_neg h7]
    simp [h8]
  rw [if_neg (by omega)]
  refine Ev.step (f := fun k => spec_ValidValue.j1 k false a b c d) (fun k => ?_) (Ev.step (f := fun _ => some false) (fun k => ?_) (Ev.now false))
  · simp only [spec_ValidValue.j0]
    rw [if_neg (by simp), if_neg h7, beq_eq_false_iff_ne.mpr h8]
  · simp only [spec_ValidValue.j1]
    rw [if_neg (by simp)]
theorem impl_valid (a b : Int) (c : ByteArray) (d : Int) : Ev (fun k => impl_ValidValue.f k a b c d) (validB a b c d) := by
  unfold validB
  by_cases h1 : a = 1
  · refine Ev.congr (f := fun _ => some _) (fun k => ?_) (Ev.now _)
    unfold impl_ValidValue.f
    rw [if_pos h1, if_pos h1]
    by_cases hb : b = 0 <;> by_cases hd : d = 0 <;> simp [h1, hb, hd]
  rw [if_neg h1]
  by_cases h2 : a = 2
  · refine Ev.congr (f := fun _ => some _) (fun k => ?_) (Ev.now _)
    unfold impl_ValidValue.f
    rw [if_neg h1, if_pos h2, if_pos h2, within_eq]
    by_cases hc : c.toList = [] <;> by_cases hd : d = 0 <;> simp [h2, hc, hd]
  rw [if_neg h2]
  by_cases h3 : a = 3
  · refine Ev.congr (f := fun _ => some _) (fun k => ?_) (Ev.now _)
    unfold impl_ValidValue.f
    rw [if_neg h1, if_neg h2, if_pos h3, if_pos h3]
    by_cases hb : b = 0 <;> by_cases hd : d = 0 <;> by_cases hs : 1 ≤ (c.size : Int) <;> simp [h3, hb, hd, hs]
  rw [if_neg h3]
  have ref : Ev (fun k => impl_ValidValue.j0 k a true a b c d) ((b == 0 && c.toList == ([] : List UInt8)) && (decide (1 ≤ d) && decide (d ≤ 1000000))) := by
    refine Ev.step (f := fun _ => some _) (fun k => ?_) (Ev.now _)
    simp only [impl_ValidValue.j0]
    rw [if_pos trivial, objectId_eq]
    by_cases hb : b = 0 <;> by_cases hc : c.toList = [] <;> simp [hb, hc]
  by_cases h4 : a = 4
  · rw [if_pos (by omega)]
    refine Ev.congr (f := fun k => impl_ValidValue.j0 k a true a b c d) (fun k => ?_) ref
    unfold impl_ValidValue.f
    rw [if_neg h1, if_neg h2, if_neg h3, if_pos h4]
    simp [h4]
  by_cases h5 : a = 5
  · rw [if_pos (by omega)]
    refine Ev.congr (f := fun k => impl_ValidValue.j0 k a true a b c d) (fun k => ?_) ref
    unfold impl_ValidValue.f
    rw [if_neg h1, if_neg h2, if_neg h3, if_neg h4, if_pos h5]
    simp [h5]
  by_cases h6 : a = 6
  · rw [if_pos (by omega)]
    refine Ev.congr (f := fun k => impl_ValidValue.j0 k a true a b c d) (fun k => ?_) ref
    unfold impl_ValidValue.f
    rw [if_neg h1, if_neg h2, if_neg h3, if_neg h4, if_neg h5]
    simp [h6]
  rw [if_neg (by omega)]
  have far : ∀ k, impl_ValidValue.f k a b c d = impl_ValidValue.j0 k a false a b c d := by
    intro k
    unfold impl_ValidValue.f
    rw [if_neg h1, if_neg h2, if_neg h3, if_neg h4, if_neg h5, beq_eq_false_iff_ne.mpr h6]
  refine Ev.congr far ?_
  by_cases h78 : a = 7 ∨ a = 8
  · rw [if_pos h78]
    by_cases hq : (b == 0 && d == 0) = true
    · refine Ev.step (f := fun k => (impl_IsName.f k c).bind fun t => some t) (fun k => ?_) ?_
      · simp only [impl_ValidValue.j0]
        rw [if_neg (by simp)]
        by_cases h7 : a = 7
        · rw [if_pos h7, if_pos hq]
        · rw [if_neg h7, if_pos (by omega), if_pos hq]
      · rw [hq, Bool.true_and]
        exact Ev.bind (impl_isName c) (Ev.now _)
    · refine Ev.step (f := fun _ => some false) (fun k => ?_) ?_
      · simp only [impl_ValidValue.j0]
        rw [if_neg (by simp)]
        by_cases h7 : a = 7
        · rw [if_pos h7, if_neg hq]
        · rw [if_neg h7, if_pos (by omega), if_neg hq]
      · rw [Bool.eq_false_iff.mpr hq, Bool.false_and]
        exact Ev.now false
  · rw [if_neg h78]
    refine Ev.step (f := fun _ => some false) (fun k => ?_) (Ev.now false)
    simp only [impl_ValidValue.j0]
    rw [if_neg (by simp), if_neg (by omega), if_neg (by omega)]
-- numbers in digits (behind Bytes): the reference's l10Digits and the program's (Value).integer
def dval (l : List UInt8) : Nat := l.foldl (fun n c => n * 10 + (c.toNat - 48)) 0
def isDig (c : UInt8) : Bool := decide (48 ≤ c.toNat ∧ c.toNat ≤ 57)
/-- What digits behind a sign or none come to. -/
def digEnd (neg : Bool) (d : List UInt8) : Int × Bool :=
  if d = [] ∨ 13 < d.length ∨ d.all isDig = false ∨ 1000000000000 < dval d then (0, false) else (if neg then -(dval d : Int) else (dval d : Int), true)
def signEnd : List UInt8 → Int × Bool
  | [] => digEnd false []
  | c :: r => if c.toNat = 45 then digEnd true r else if c.toNat = 43 then digEnd false r else digEnd false (c :: r)
theorem dval_snoc (l : List UInt8) (c : UInt8) : dval (l ++ [c]) = dval l * 10 + (c.toNat - 48) := by unfold dval; rw [List.foldl_append]; rfl
theorem dval_lt (l : List UInt8) : l.all isDig = true → dval l < 10 ^ l.length := by
  have key : ∀ (r : List UInt8) (a m : Nat), a < 10 ^ m → r.all isDig = true → r.foldl (fun n c => n * 10 + (c.toNat - 48)) a < 10 ^ (m + r.length) := by
    intro r
    induction r with
    | nil => intro a m h _; simpa using h
    | cons c r ih =>
      intro a m h hd
      rw [List.all_cons, Bool.and_eq_true] at hd
      have hc := of_decide_eq_true hd.1
      rw [List.foldl_cons, List.length_cons, ← Nat.add_assoc, Nat.add_right_comm]
      refine ih _ (m + 1) ?_ hd.2
      rw [Nat.pow_succ]
      omega
  intro h
  have := key l 0 0 (by simp) h
  simpa [dval] using this
theorem parseM (r : List UInt8) : ∀ (p : List UInt8), (p ++ r).all isDig = true → (p ++ r).length ≤ 13 → Lib.parseUintM 18446744073709551615 (dval p) r = .ok (dval (p ++ r)) := by
  induction r with
  | nil => intro p _ _; rw [List.append_nil]; rfl
  | cons c r ih =>
    intro p hd hl
    have e : p ++ c :: r = (p ++ [c]) ++ r := by simp
    have hdp : p.all isDig = true := by rw [List.all_append, Bool.and_eq_true] at hd; exact hd.1
    have hc : 48 ≤ c.toNat ∧ c.toNat ≤ 57 := by
      rw [List.all_append, Bool.and_eq_true, List.all_cons, Bool.and_eq_true] at hd
      exact of_decide_eq_true hd.2.1
    have hlp : p.length ≤ 12 := by simp at hl; omega
    have h1 := dval_lt p hdp
    have h2 : (10 : Nat) ^ p.length ≤ 10 ^ 12 := Nat.pow_le_pow_right (by omega) hlp
    have h3 : (10 : Nat) ^ 12 = 1000000000000 := by decide
    unfold Lib.parseUintM
    rw [if_pos hc, if_neg (by omega), if_neg (by omega), ← dval_snoc, e]
    exact ih (p ++ [c]) (e ▸ hd) (e ▸ hl)
theorem parse_digits (l : List UInt8) (h0 : l ≠ []) (hd : l.all isDig = true) (hl : l.length ≤ 13) : Lib.parseIntB 64 l = .ok (dval l : Int) := by
  cases l with
  | nil => exact absurd rfl h0
  | cons c r =>
    have hc : 48 ≤ c.toNat ∧ c.toNat ≤ 57 := by
      have := hd
      rw [List.all_cons, Bool.and_eq_true] at this
      exact of_decide_eq_true this.1
    have hv := dval_lt (c :: r) hd
    have h2 : (10 : Nat) ^ (c :: r).length ≤ 10 ^ 13 := Nat.pow_le_pow_right (by omega) hl
    have h3 : (10 : Nat) ^ 13 = 10000000000000 := by decide
    have hm := parseM (c :: r) [] (by simpa using hd) (by simpa using hl)
    have hu : Lib.parseUintB 64 (c :: r) = .ok (dval (c :: r)) := by
      unfold Lib.parseUintB
      rw [if_neg (by simp)]
      exact hm
    rw [Lib.parseIntB_plain 64 c r (by omega) (by omega), hu]
    unfold Lib.signlessC
    simp only
    rw [if_neg]
    have h4 : (2 : Nat) ^ (64 - 1) = 9223372036854775808 := by decide
    omega
theorem bt_drop (s : ByteArray) (i : Nat) (c : UInt8) (r : List UInt8) (h : s.data.toList.drop i = c :: r) : i < s.size ∧ bt s (i : Int) = (c.toNat : Int) ∧ s.data.toList.drop (i + 1) = r := by
  have h1 : i < s.data.toList.length := by
    rcases Nat.lt_or_ge i s.data.toList.length with q | q
    · exact q
    · rw [List.drop_eq_nil_of_le q] at h
      cases h
  rw [List.drop_eq_getElem_cons h1] at h
  injection h with h2 h3
  have h4 : i < s.size := by rw [data_length] at h1; exact h1
  refine ⟨h4, ?_, h3⟩
  rw [← h2, ← rd_bytesOf]
  unfold rd bytesOf
  rw [Int.toNat_natCast, List.getD_eq_getElem?_getD, List.getElem?_map, List.getElem?_eq_getElem h1]
  rfl
theorem step_num (n c : Nat) (hn : n < 1000000000000) (hc : 48 ≤ c ∧ c ≤ 57) : wrap64 (wrap64 ((n : Int) * 10) + (((c : Int) - 48) % 256)) = ((n * 10 + (c - 48) : Nat) : Int) := by
  have w1 : wrap64 ((n : Int) * 10) = (n : Int) * 10 := by unfold wrap64; omega
  have w2 : ((c : Int) - 48) % 256 = (c : Int) - 48 := by omega
  have w3 : ((n * 10 + (c - 48) : Nat) : Int) = (n : Int) * 10 + ((c : Int) - 48) := by omega
  rw [w1, w2, w3]
  unfold wrap64
  omega
theorem digits_loop (s : ByteArray) (hs : s.size ≤ 9223372036854775807) (h0 : 0 < s.size) (neg : Bool) (hneg : (bt s 0 = 45) ↔ neg = true) (a : Nat) (d : List UInt8) (hd : s.data.toList.drop a = d) (hl : d.length ≤ 13) (r : List UInt8) :
    ∀ (p : List UInt8), d = p ++ r → p.all isDig = true → Ev (fun k => spec_l10Digits.l0 k s (dval p : Int) ((a + p.length : Nat) : Int)) (if r.all isDig = false ∨ 1000000000000 < dval d then (0, false) else (if neg then -(dval d : Int) else (dval d : Int), true)) := by
  induction r with
  | nil =>
    intro p hp hall
    rw [List.append_nil] at hp
    subst hp
    have hv := dval_lt d hall
    have h2 : (10 : Nat) ^ d.length ≤ 10 ^ 13 := Nat.pow_le_pow_right (by omega) hl
    have h3 : (10 : Nat) ^ 13 = 10000000000000 := by decide
    have he : a + d.length ≥ s.size := by
      have := congrArg List.length hd
      rw [List.length_drop, data_length] at this
      omega
    refine Ev.step (f := fun _ => some (if 1000000000000 < dval d then (0, false) else (if neg then -(dval d : Int) else (dval d : Int), true))) (fun k => ?_) ?_
    · simp only [spec_l10Digits.l0]
      rw [if_neg (by omega)]
      by_cases c : 1000000000000 < dval d
      · rw [if_pos (by omega), if_pos c]
      · rw [if_neg (by omega), if_pos (by omega), if_neg c]
        cases neg with
        | true =>
          rw [if_pos (hneg.mpr rfl), if_pos rfl, show wrap64 (-(dval d : Int)) = -(dval d : Int) by unfold wrap64; omega]
        | false =>
          rw [if_neg (fun q => by have := hneg.mp q; cases this), if_neg (by simp)]
    · have e : (if ([] : List UInt8).all isDig = false ∨ 1000000000000 < dval d then ((0 : Int), false) else (if neg then -(dval d : Int) else (dval d : Int), true)) = (if 1000000000000 < dval d then (0, false) else (if neg then -(dval d : Int) else (dval d : Int), true)) := by
        by_cases c : 1000000000000 < dval d
        · rw [if_pos (Or.inr c), if_pos c]
        · rw [if_neg (by simp; omega), if_neg c]
      rw [e]
      exact Ev.now _
  | cons c r ih =>
    intro p hp hall
    have hdr : s.data.toList.drop (a + p.length) = c :: r := by
      rw [← List.drop_drop, hd, hp, List.drop_left]
    obtain ⟨hlt, hb, _⟩ := bt_drop s (a + p.length) c r hdr
    have w1 : wrap64 (((a + p.length : Nat) : Int) + 1) = ((a + p.length + 1 : Nat) : Int) := by unfold wrap64; omega
    have hlp : p.length ≤ 12 := by rw [hp] at hl; simp at hl; omega
    have hv := dval_lt p hall
    have h2 : (10 : Nat) ^ p.length ≤ 10 ^ 12 := Nat.pow_le_pow_right (by omega) hlp
    have h3 : (10 : Nat) ^ 12 = 1000000000000 := by decide
    have hc255 := c.toNat_lt
    by_cases hc : 48 ≤ c.toNat ∧ c.toNat ≤ 57
    · have hdig : isDig c = true := by unfold isDig; exact decide_eq_true hc
      have r1 := ih (p ++ [c]) (by rw [hp]; simp) (by rw [List.all_append, hall, List.all_cons, hdig]; rfl)
      have e1 : (c :: r).all isDig = r.all isDig := by rw [List.all_cons, hdig, Bool.true_and]
      rw [e1]
      have w2 : wrap64 (wrap64 ((dval p : Int) * 10) + (((c.toNat : Int) - 48) % 256)) = (dval (p ++ [c]) : Int) := by
        rw [dval_snoc]
        exact step_num _ _ (by omega) hc
      have e2 : ((a + (p ++ [c]).length : Nat) : Int) = ((a + p.length + 1 : Nat) : Int) := by rw [List.length_append]; rfl
      rw [e2] at r1
      refine Ev.step (f := fun k => spec_l10Digits.l0 k s (dval (p ++ [c]) : Int) ((a + p.length + 1 : Nat) : Int)) (fun k => ?_) r1
      simp only [spec_l10Digits.l0]
      rw [if_pos (by omega), if_pos (by omega), hb, if_neg (by omega), if_neg (by omega), w1, w2]
    · have hdig : isDig c = false := by unfold isDig; exact decide_eq_false hc
      rw [if_pos (Or.inl (by rw [List.all_cons, hdig, Bool.false_and]))]
      refine Ev.step (f := fun _ => some (0, false)) (fun k => ?_) (Ev.now _)
      simp only [spec_l10Digits.l0]
      rw [if_pos (by omega), if_pos (by omega), hb]
      by_cases q : (c.toNat : Int) < 48
      · rw [if_pos q]
      · rw [if_neg q, if_pos (by omega)]
theorem digits_from (s : ByteArray) (hs : s.size ≤ 9223372036854775807) (neg : Bool) (hneg : 0 < s.size → ((bt s 0 = 45) ↔ neg = true)) (a : Nat) (ha : a ≤ s.size) : Ev (fun k => spec_l10Digits.j1 k s (a : Int)) (digEnd neg (s.data.toList.drop a)) := by
  have hlen : (s.data.toList.drop a).length = s.size - a := by rw [List.length_drop, data_length]
  have no : Ev (fun k => spec_l10Digits.j2 k s (a : Int) true) (0, false) := Ev.step (f := fun _ => some (0, false)) (fun k => by simp only [spec_l10Digits.j2]; rw [if_pos trivial]) (Ev.now _)
  by_cases c : s.size = a
  · unfold digEnd
    rw [if_pos (Or.inl (List.eq_nil_of_length_eq_zero (by omega)))]
    refine Ev.step (f := fun k => spec_l10Digits.j2 k s (a : Int) true) (fun k => ?_) no
    simp only [spec_l10Digits.j1]
    rw [if_pos (by omega)]
  · have w : wrap64 ((s.size : Int) - a) = (s.size : Int) - a := by unfold wrap64; omega
    refine Ev.step (f := fun k => spec_l10Digits.j2 k s (a : Int) (decide ((s.size : Int) - a > 13))) (fun k => ?_) ?_
    · simp only [spec_l10Digits.j1]
      rw [if_neg (by omega), w]
    · by_cases c2 : (s.size : Int) - a > 13
      · rw [decide_eq_true c2]
        unfold digEnd
        rw [if_pos (Or.inr (Or.inl (by omega)))]
        exact no
      · rw [decide_eq_false c2]
        have e : digEnd neg (s.data.toList.drop a) = (if (s.data.toList.drop a).all isDig = false ∨ 1000000000000 < dval (s.data.toList.drop a) then (0, false) else (if neg then -(dval (s.data.toList.drop a) : Int) else (dval (s.data.toList.drop a) : Int), true)) := by
          unfold digEnd
          have hne : ¬ s.data.toList.drop a = [] := fun q => by rw [q] at hlen; simp at hlen; omega
          by_cases q : (s.data.toList.drop a).all isDig = false ∨ 1000000000000 < dval (s.data.toList.drop a)
          · rw [if_pos q, if_pos (Or.inr (Or.inr q))]
          · rw [if_neg q, if_neg]
            rintro (z | z | z)
            · exact hne z
            · omega
            · exact q z
        rw [e]
        refine Ev.step (f := fun k => spec_l10Digits.l0 k s (dval [] : Int) ((a + ([] : List UInt8).length : Nat) : Int)) (fun k => ?_) (digits_loop s hs (by omega) neg (hneg (by omega)) a _ rfl (by omega) _ [] rfl rfl)
        simp only [spec_l10Digits.j2]
        rw [if_neg (by simp)]
        rfl
theorem spec_digits (s : ByteArray) (hs : s.size ≤ 9223372036854775807) : Ev (fun k => spec_l10Digits.f k s) (signEnd s.data.toList) := by
  unfold spec_l10Digits.f
  cases h : s.data.toList with
  | nil =>
    have hz : s.size = 0 := by rw [← data_length, h]; rfl
    have e : s.toList = [] := by rw [Go.ByteArray.toList_eq]; exact h
    have r := digits_from s hs false (fun q => by omega) 0 (by omega)
    rw [h] at r
    rw [show signEnd [] = digEnd false [] from rfl]
    refine Ev.congr (f := fun k => spec_l10Digits.j0 k s 0 false) (fun k => by rw [if_pos e]) ?_
    refine Ev.step (f := fun k => spec_l10Digits.j1 k s ((0 : Nat) : Int)) (fun k => ?_) r
    simp only [spec_l10Digits.j0]
    rw [if_neg (by simp)]
    rfl
  | cons c r =>
    have hz : s.size = r.length + 1 := by rw [← data_length, h]; rfl
    have e : ¬ s.toList = [] := by rw [Go.ByteArray.toList_eq, h]; simp
    obtain ⟨_, hb, _⟩ := bt_drop s 0 c r (by rw [h]; rfl)
    have hb0 : bt s 0 = (c.toNat : Int) := hb
    have d1 : s.data.toList.drop 1 = r := by rw [h]; rfl
    have d0 : s.data.toList.drop 0 = c :: r := by rw [h]; rfl
    have go1 : ∀ neg, ((bt s 0 = 45) ↔ neg = true) → Ev (fun k => spec_l10Digits.j0 k s 0 true) (digEnd neg r) := fun neg hn => by
      have q := digits_from s hs neg (fun _ => hn) 1 (by omega)
      rw [d1] at q
      refine Ev.step (f := fun k => spec_l10Digits.j1 k s ((1 : Nat) : Int)) (fun k => ?_) q
      simp only [spec_l10Digits.j0]
      rw [if_pos trivial]
      rfl
    have es : signEnd (c :: r) = if c.toNat = 45 then digEnd true r else if c.toNat = 43 then digEnd false r else digEnd false (c :: r) := rfl
    rw [es]
    by_cases c43 : c.toNat = 43
    · rw [if_neg (show ¬ c.toNat = 45 by omega), if_pos c43]
      refine Ev.congr (f := fun k => spec_l10Digits.j0 k s 0 true) (fun k => by rw [if_neg e, if_pos (by omega), if_pos (by rw [hb0]; omega)]) ?_
      exact go1 false ⟨fun q => by omega, fun q => by cases q⟩
    · by_cases c45 : c.toNat = 45
      · rw [if_pos c45]
        refine Ev.congr (f := fun k => spec_l10Digits.j0 k s 0 true) (fun k => by rw [if_neg e, if_pos (by omega), if_neg (by rw [hb0]; omega), hb0, beq_iff_eq.mpr (by omega)]) ?_
        exact go1 true ⟨fun _ => rfl, fun _ => by omega⟩
      · rw [if_neg c45, if_neg c43]
        refine Ev.congr (f := fun k => spec_l10Digits.j0 k s 0 false) (fun k => by rw [if_neg e, if_pos (by omega), if_neg (by rw [hb0]; omega), hb0, beq_eq_false_iff_ne.mpr (by omega)]) ?_
        have q := digits_from s hs false (fun _ => ⟨fun q => by omega, fun q => by cases q⟩) 0 (by omega)
        rw [d0] at q
        refine Ev.step (f := fun k => spec_l10Digits.j1 k s ((0 : Nat) : Int)) (fun k => ?_) q
        simp only [spec_l10Digits.j0]
        rw [if_neg (by simp)]
        rfl
-- the program's side
theorem take_b (s : ByteArray) (n : Nat) : (s.extract 0 n).data.toList = s.data.toList.take n := by
  rw [ByteArray.data_extract]
  simp
theorem drop_b (s : ByteArray) (n : Nat) : (s.extract n s.size).data.toList = s.data.toList.drop n := by
  rw [ByteArray.data_extract, Array.toList_extract]
  have : s.size = s.data.toList.length := (data_length s).symm
  rw [this, List.extract_eq_take_drop, List.take_of_length_le (by rw [List.length_drop]; omega)]
theorem has_one (s : ByteArray) (x : UInt8) : stringslite_HasPrefix.f s ⟨#[x]⟩ = some (decide (s.data.toList.head? = some x)) := by
  unfold stringslite_HasPrefix.f
  have e1 : (((⟨#[x]⟩ : ByteArray).size : Nat) : Int) = 1 := rfl
  rw [e1]
  cases h : s.data.toList with
  | nil =>
    have hz : s.size = 0 := by rw [← data_length, h]; rfl
    rw [if_neg (by omega)]
    rfl
  | cons c r =>
    have hz : s.size = r.length + 1 := by rw [← data_length, h]; rfl
    rw [if_pos (by omega), if_pos (by omega), if_pos (by omega)]
    congr 1
    rw [Go.ByteArray.toList_eq, Go.ByteArray.toList_eq, show (1 : Int).toNat = 1 from rfl, take_b, h, Bool.eq_iff_iff, beq_iff_eq, decide_eq_true_iff]
    simp
theorem cut_one (s : ByteArray) (x : UInt8) : ∃ r, strings_CutPrefix.f s ⟨#[x]⟩ = some (r, decide (s.data.toList.head? = some x)) ∧ r.data.toList = if s.data.toList.head? = some x then s.data.toList.drop 1 else s.data.toList := by
  unfold strings_CutPrefix.f stringslite_CutPrefix.f
  rw [has_one, Option.bind_some]
  by_cases h : s.data.toList.head? = some x
  · have hz : 1 ≤ s.size := by
      rw [← data_length]
      cases hh : s.data.toList with
      | nil => rw [hh] at h; cases h
      | cons c r => simp
    refine ⟨s.extract 1 s.size, ?_, by rw [if_pos h, drop_b]⟩
    rw [decide_eq_true h, if_pos rfl]
    have e1 : (((⟨#[x]⟩ : ByteArray).size : Nat) : Int) = 1 := rfl
    rw [e1, if_pos (by omega), if_pos (by omega)]
    rfl
  · refine ⟨s, ?_, by rw [if_neg h]⟩
    rw [decide_eq_false h, if_neg (by simp)]
    rfl
theorem trim_one (s : ByteArray) (x : UInt8) : ∃ r, strings_TrimPrefix.f s ⟨#[x]⟩ = some r ∧ r.data.toList = if s.data.toList.head? = some x then s.data.toList.drop 1 else s.data.toList := by
  unfold strings_TrimPrefix.f stringslite_TrimPrefix.f
  rw [has_one, Option.bind_some]
  by_cases h : s.data.toList.head? = some x
  · have hz : 1 ≤ s.size := by
      rw [← data_length]
      cases hh : s.data.toList with
      | nil => rw [hh] at h; cases h
      | cons c r => simp
    refine ⟨s.extract 1 s.size, ?_, by rw [if_pos h, drop_b]⟩
    rw [decide_eq_true h, if_pos rfl]
    have e1 : (((⟨#[x]⟩ : ByteArray).size : Nat) : Int) = 1 := rfl
    rw [e1, if_pos (by omega), if_pos (by omega)]
    rfl
  · refine ⟨s, ?_, by rw [if_neg h]⟩
    rw [decide_eq_false h, if_neg (by simp)]
    rfl
theorem all_digits (s : ByteArray) : (bytesOf s).all (fun c => decide (48 ≤ c ∧ c ≤ 57)) = s.data.toList.all isDig := by
  unfold bytesOf
  rw [List.all_map]
  congr 1
  funext c
  unfold isDig
  simp only [Function.comp]
  rw [Bool.eq_iff_iff, decide_eq_true_iff, decide_eq_true_iff]
  omega
theorem areAllDigit_loop (s : ByteArray) (hs : s.size ≤ 9223372036854775807) (l : List Int) : ∀ i : Nat, i ≤ s.size → (bytesOf s).drop i = l → Ev (fun k => impl_areAll_byte_at_impl_isDigit.l0 k (bytesOf s) (s.size : Int) (i : Int)) (l.all fun c => decide (48 ≤ c ∧ c ≤ 57)) := by
  induction l with
  | nil =>
    intro i hi hd
    have h2 := byt_end s i hd hi
    refine Ev.step (f := fun _ => some true) (fun k => ?_) (by simpa using Ev.now true)
    simp only [impl_areAll_byte_at_impl_isDigit.l0]
    rw [if_neg (by omega)]
  | cons c l ih =>
    intro i hi hd
    obtain ⟨hlt, _, hr, hd'⟩ := byt_at s i c l hd
    rw [List.all_cons]
    have e : impl_isDigit.f c = some (decide (48 ≤ c ∧ c ≤ 57)) := by
      unfold impl_isDigit.f
      by_cases h : 48 ≤ c
      · rw [if_pos (by omega)]; simp [h]
      · rw [if_neg (by omega)]; simp [h]
    refine Ev.step (f := fun k => if decide (48 ≤ c ∧ c ≤ 57) = true then impl_areAll_byte_at_impl_isDigit.l0 k (bytesOf s) (s.size : Int) ((i + 1 : Nat) : Int) else some false) (fun k => ?_) ?_
    · simp only [impl_areAll_byte_at_impl_isDigit.l0]
      rw [if_pos (by omega), if_pos (by omega), if_pos (by rw [bytesOf_length]; omega), hr, e, Option.bind_some, wrapb i s.size hlt hs]
    · cases decide (48 ≤ c ∧ c ≤ 57) with
      | true =>
        rw [Bool.true_and]
        exact Ev.congr (f := fun k => impl_areAll_byte_at_impl_isDigit.l0 k (bytesOf s) (s.size : Int) ((i + 1 : Nat) : Int)) (fun k => by rw [if_pos rfl]) (ih (i + 1) (by omega) hd')
      | false =>
        rw [Bool.false_and]
        exact Ev.congr (f := fun _ => some false) (fun k => by rw [if_neg (by simp)]) (Ev.now false)
theorem areAllDigit (s : ByteArray) (hs : s.size ≤ 9223372036854775807) : Ev (fun k => impl_areAll_byte_at_impl_isDigit.f k (bytesOf s)) (s.data.toList.all isDig) := by
  rw [← all_digits]
  refine Ev.congr (fun k => ?_) (areAllDigit_loop s hs (bytesOf s) 0 (by omega) rfl)
  unfold impl_areAll_byte_at_impl_isDigit.f
  rw [bytesOf_length]
  rfl
theorem read_digits (s : ByteArray) (h0 : s.data.toList ≠ []) (hd : s.data.toList.all isDig = true) : ∃ v, impl_readInteger.f s = some (v, (digEnd false s.data.toList).2) ∧ ((digEnd false s.data.toList).2 = true → v = dval s.data.toList) ∧ 0 ≤ v ∧ v ≤ 10000000000000 := by
  unfold impl_readInteger.f
  have hl : s.data.toList.length = s.size := data_length s
  by_cases c : (s.size : Int) > 13
  · rw [if_pos c]
    have e : digEnd false s.data.toList = (0, false) := by unfold digEnd; rw [if_pos (Or.inr (Or.inl (by omega)))]
    rw [e]
    exact ⟨0, rfl, (fun q => by cases q), by omega, by omega⟩
  · rw [if_neg c, parse_digits _ h0 hd (by omega)]
    have hv := dval_lt s.data.toList hd
    have h2 : (10 : Nat) ^ s.data.toList.length ≤ 10 ^ 13 := Nat.pow_le_pow_right (by omega) (by omega)
    have h3 : (10 : Nat) ^ 13 = 10000000000000 := by decide
    refine ⟨dval s.data.toList, ?_, fun _ => rfl, by omega, by omega⟩
    simp only
    have e1 : impl_isNumber.f (dval s.data.toList : Int) = some (decide ((dval s.data.toList : Int) ≤ 1000000000000)) := by
      unfold impl_isNumber.f impl_within.f
      rw [if_pos (show (dval s.data.toList : Int) ≥ 0 by omega)]
      rfl
    have e2 : (digEnd false s.data.toList).2 = decide ((dval s.data.toList : Int) ≤ 1000000000000) := by
      unfold digEnd
      by_cases q : 1000000000000 < dval s.data.toList
      · have z : s.data.toList = [] ∨ 13 < s.data.toList.length ∨ s.data.toList.all isDig = false ∨ 1000000000000 < dval s.data.toList := Or.inr (Or.inr (Or.inr q))
        rw [if_pos z, decide_eq_false (by omega)]
      · have z : ¬ (s.data.toList = [] ∨ 13 < s.data.toList.length ∨ s.data.toList.all isDig = false ∨ 1000000000000 < dval s.data.toList) := by
          rintro (z | z | z | z)
          · exact h0 z
          · omega
          · rw [hd] at z; cases z
          · exact q z
        rw [if_neg z, decide_eq_true (by omega)]
    have e : impl_isNumber.f (dval s.data.toList : Int) = some (digEnd false s.data.toList).2 := by rw [e1, e2]
    rw [e]
    rfl
/-- What a value comes to as an integer. -/
def intOf (a b : Int) (c : ByteArray) (d : Int) : Int × Bool :=
  if a = 2 then (b, true) else if (a == 1 && (b == 0 && (c.toList == ([] : List UInt8) && (d == 0)))) = true then (0, true) else if a = 1 then signEnd c.data.toList else (0, false)
theorem dig_neg (l : List UInt8) : digEnd true l = (-(digEnd false l).1, (digEnd false l).2) := by
  unfold digEnd
  split <;> simp
theorem impl_tail (s : ByteArray) (hs : s.size ≤ 9223372036854775807) (neg : Bool) : ∃ v, Ev (fun k => impl_Value_integer.j0 k s neg) (v, (digEnd neg s.data.toList).2) ∧ ((digEnd neg s.data.toList).2 = true → v = (digEnd neg s.data.toList).1) ∧ -10000000000000 ≤ v ∧ v ≤ 10000000000000 := by
  have no : Ev (fun k => impl_Value_integer.j1 k s neg true) (0, false) := Ev.step (f := fun _ => some (0, false)) (fun k => by simp only [impl_Value_integer.j1]; rw [if_pos trivial]) (Ev.now _)
  by_cases h0 : s.data.toList = []
  · have e : ∀ n, digEnd n s.data.toList = (0, false) := fun n => by unfold digEnd; rw [if_pos (Or.inl h0)]
    rw [e]
    refine ⟨0, Ev.step (f := fun k => impl_Value_integer.j1 k s neg true) (fun k => ?_) no, (fun q => by cases q), by omega, by omega⟩
    simp only [impl_Value_integer.j0]
    rw [if_pos (by rw [Go.ByteArray.toList_eq]; exact h0)]
  · have st : ∀ k, impl_Value_integer.j0 (k + 1) s neg = (impl_areAll_byte_at_impl_isDigit.f k (bytesOf s)).bind fun t => impl_Value_integer.j1 k s neg (!t) := fun k => by
      simp only [impl_Value_integer.j0]
      rw [if_neg (by rw [Go.ByteArray.toList_eq]; exact h0), if_pos hs]
    cases hd : s.data.toList.all isDig with
    | false =>
      have e : ∀ n, digEnd n s.data.toList = (0, false) := fun n => by unfold digEnd; rw [if_pos (Or.inr (Or.inr (Or.inl hd)))]
      rw [e]
      refine ⟨0, Ev.step (fun k => st k) (Ev.bind (areAllDigit s hs) ?_), (fun q => by cases q), by omega, by omega⟩
      rw [hd]
      exact no
    | true =>
      obtain ⟨v, hv, hv2, hv3, hv4⟩ := read_digits s h0 hd
      have e2 : (digEnd neg s.data.toList).2 = (digEnd false s.data.toList).2 := by
        cases neg with
        | true => rw [dig_neg]
        | false => rfl
      have e1 : (digEnd neg s.data.toList).2 = true → (digEnd neg s.data.toList).1 = if neg then -(dval s.data.toList : Int) else (dval s.data.toList : Int) := by
        unfold digEnd
        split
        · intro q; cases q
        · intro _; rfl
      refine ⟨if neg then -v else v, Ev.step (fun k => st k) (Ev.bind (areAllDigit s hs) ?_), fun q => ?_, by cases neg <;> simp <;> omega, by cases neg <;> simp <;> omega⟩
      · rw [hd]
        refine Ev.step (f := fun _ => some (if neg then -v else v, (digEnd neg s.data.toList).2)) (fun k => ?_) (Ev.now _)
        simp only [impl_Value_integer.j1]
        rw [if_neg (by simp), hv, Option.bind_some, e2]
        cases neg with
        | true => rw [if_pos rfl, if_pos rfl, show wrap64 (-v) = -v by unfold wrap64; omega]
        | false => rw [if_neg (by simp), if_neg (by simp)]
      · rw [e1 q, hv2 (e2 ▸ q)]
theorem null_eq (a b : Int) (c : ByteArray) (d : Int) : impl_IsNull.f a b c d = some (a == 1 && (b == 0 && (c.toList == ([] : List UInt8) && (d == 0)))) := by
  unfold impl_IsNull.f impl_null.f impl_textOf.f
  have e : (⟨#[]⟩ : ByteArray).toList = [] := by rw [Go.ByteArray.toList_eq]
  simp [e]
theorem signEnd_eq (l : List UInt8) : signEnd l = if l.head? = some 45 then digEnd true (l.drop 1) else digEnd false (if l.head? = some 43 then l.drop 1 else l) := by
  cases l with
  | nil => rfl
  | cons c r =>
    rw [show signEnd (c :: r) = if c.toNat = 45 then digEnd true r else if c.toNat = 43 then digEnd false r else digEnd false (c :: r) from rfl]
    have h45 : ((c :: r).head? = some (45 : UInt8)) ↔ c.toNat = 45 := by
      simp only [List.head?_cons, Option.some.injEq]
      exact ⟨fun q => by rw [q]; rfl, fun q => UInt8.toNat_inj.1 q⟩
    have h43 : ((c :: r).head? = some (43 : UInt8)) ↔ c.toNat = 43 := by
      simp only [List.head?_cons, Option.some.injEq]
      exact ⟨fun q => by rw [q]; rfl, fun q => UInt8.toNat_inj.1 q⟩
    by_cases q : c.toNat = 45
    · rw [if_pos q, if_pos (h45.mpr q)]; rfl
    · rw [if_neg q, if_neg (fun z => q (h45.mp z))]
      by_cases q2 : c.toNat = 43
      · rw [if_pos q2, if_pos (h43.mpr q2)]; rfl
      · rw [if_neg q2, if_neg (fun z => q2 (h43.mp z))]
theorem impl_integer (a b : Int) (c : ByteArray) (d : Int) (hc : c.size ≤ 9223372036854775807) (hb : -10000000000000 ≤ b ∧ b ≤ 10000000000000 ∨ a ≠ 2) : ∃ v, Ev (fun k => impl_Value_integer.f k a b c d) (v, (intOf a b c d).2) ∧ ((intOf a b c d).2 = true → v = (intOf a b c d).1) ∧ -10000000000000 ≤ v ∧ v ≤ 10000000000000 := by
  unfold impl_Value_integer.f intOf
  simp only [null_eq, Option.bind_some]
  by_cases h2 : a = 2
  · simp only [if_pos h2]
    exact ⟨b, Ev.now _, fun _ => rfl, by omega, by omega⟩
  simp only [if_neg h2]
  cases hn : (a == 1 && (b == 0 && (c.toList == ([] : List UInt8) && (d == 0)))) with
  | true =>
    simp only [if_true]
    exact ⟨0, Ev.now _, fun _ => rfl, by omega, by omega⟩
  | false =>
    simp only [Bool.false_eq_true, if_false]
    by_cases h1 : a = 1
    · simp only [if_pos h1]
      obtain ⟨r, er, hr⟩ := cut_one c 45
      have lr : r.size ≤ 9223372036854775807 := by
        rw [← data_length, hr]
        split
        · rw [List.length_drop, data_length]; omega
        · rw [data_length]; exact hc
      rw [signEnd_eq]
      by_cases h45 : c.data.toList.head? = some 45
      · rw [if_pos h45] at hr ⊢
        rw [decide_eq_true h45] at er
        obtain ⟨v, ev, hv⟩ := impl_tail r lr true
        rw [hr] at ev hv
        refine ⟨v, Ev.congr (f := fun k => impl_Value_integer.j0 k r true) (fun k => ?_) ev, hv⟩
        rw [er, Option.bind_some, if_pos rfl]
      · rw [if_neg h45] at hr ⊢
        rw [decide_eq_false h45] at er
        obtain ⟨t, et, ht⟩ := trim_one r 43
        rw [hr] at ht
        have lt : t.size ≤ 9223372036854775807 := by
          rw [← data_length, ht]
          split
          · rw [List.length_drop, data_length]; omega
          · rw [data_length]; exact hc
        obtain ⟨v, ev, hv⟩ := impl_tail t lt false
        rw [ht] at ev hv
        refine ⟨v, Ev.congr (f := fun k => impl_Value_integer.j0 k t false) (fun k => ?_) ev, hv⟩
        rw [er, Option.bind_some, if_neg (by simp), et, Option.bind_some]
    · simp only [if_neg h1]
      exact ⟨0, Ev.now _, (fun q => by cases q), by omega, by omega⟩
-- ToInteger of both sides (behind Bytes, Name, ValidValue, Digits)
theorem spec_null (a b : Int) (c : ByteArray) (d : Int) : spec_IsNull.f a b c d = some (a == 1 && (b == 0 && (c.toList == ([] : List UInt8) && (d == 0)))) := rfl
theorem spec_toint (a b : Int) (c : ByteArray) (d : Int) (hc : c.size ≤ 9223372036854775807) : Ev (fun k => spec_ToInteger.f k a b c d) (if validB a b c d = true then intOf a b c d else (0, false)) := by
  unfold spec_ToInteger.f
  refine Ev.bind (spec_valid a b c d) ?_
  cases validB a b c d with
  | false => exact Ev.congr (f := fun _ => some (0, false)) (fun k => by rw [if_neg (by simp)]) (by rw [if_neg (by simp)]; exact Ev.now _)
  | true =>
    simp only [if_true, spec_null, Option.bind_some]
    unfold intOf
    by_cases h2 : a = 2
    · simp only [if_pos h2]
      exact Ev.now _
    simp only [if_neg h2]
    cases (a == 1 && (b == 0 && (c.toList == ([] : List UInt8) && (d == 0)))) with
    | true =>
      simp only [if_true]
      exact Ev.now _
    | false =>
      simp only [Bool.false_eq_true, if_false]
      by_cases h1 : a = 1
      · simp only [if_pos h1]
        exact Ev.bind (spec_digits c hc) (Ev.now _)
      · simp only [if_neg h1]
        exact Ev.now _
theorem valid_num (a b : Int) (c : ByteArray) (d : Int) (h : validB a b c d = true) : -10000000000000 ≤ b ∧ b ≤ 10000000000000 ∨ a ≠ 2 := by
  by_cases h2 : a = 2
  · subst h2
    refine Or.inl ?_
    unfold validB at h
    simp at h
    omega
  · exact Or.inr h2
theorem intOf_no (a b : Int) (c : ByteArray) (d : Int) (h : (intOf a b c d).2 = false) : intOf a b c d = (0, false) := by
  revert h
  unfold intOf
  have dg : ∀ n l, (digEnd n l).2 = false → digEnd n l = (0, false) := fun n l => by
    unfold digEnd
    split
    · intro _; rfl
    · intro q; cases q
  split
  · intro q; cases q
  · split
    · intro q; cases q
    · split
      · rw [signEnd_eq]
        split <;> exact dg _ _
      · intro _; rfl
theorem same (a b : Int) (c : ByteArray) (d : Int) : (if (intOf a b c d).2 = true then ((intOf a b c d).1, true) else (0, false)) = intOf a b c d := by
  cases h : (intOf a b c d).2 with
  | true => rw [if_pos rfl, ← h]
  | false => rw [if_neg (by simp), intOf_no a b c d h]
-- arithmetic of values (behind Bytes, Name, ValidValue, Digits, IntEnd)
def numEnd (n : Int) : Int × Int × ByteArray × Int × Int := if validB 2 n (⟨#[]⟩ : ByteArray) 0 = true then (2, n, (⟨#[]⟩ : ByteArray), 0, 0) else (0, 0, (⟨#[]⟩ : ByteArray), 0, 3)
def errEnd (c : Int) : Int × Int × ByteArray × Int × Int := (0, 0, (⟨#[]⟩ : ByteArray), 0, c)
theorem spec_num (n : Int) : Ev (fun k => spec_l10Integer.f k n) (numEnd n) := by
  unfold spec_l10Integer.f numEnd
  refine Ev.bind (a := if validB 2 n (⟨#[]⟩ : ByteArray) 0 = true then (2, n, (⟨#[]⟩ : ByteArray), 0, true) else (0, 0, (⟨#[]⟩ : ByteArray), 0, false)) ?_ ?_
  · refine Ev.congr (f := _) (fun k => by rw [spec_IntegerValue.f, spec_l06Or.f]) (Ev.bind (Ev.bind (spec_valid 2 n (⟨#[]⟩ : ByteArray) 0) (a := _) ?_) (Ev.now _))
    cases validB 2 n (⟨#[]⟩ : ByteArray) 0 with
    | true => exact Ev.congr (f := fun _ => some _) (fun k => by rw [if_pos rfl, if_pos rfl]) (Ev.now _)
    | false => exact Ev.congr (f := fun _ => some _) (fun k => by rw [if_neg (by simp), if_neg (by simp)]) (Ev.now _)
  · cases validB 2 n (⟨#[]⟩ : ByteArray) 0 with
    | true => exact Ev.now _
    | false => exact Ev.now _
theorem impl_num (n : Int) : Ev (fun k => impl_bounded.f k n) (numEnd n) := by
  unfold impl_bounded.f numEnd
  refine Ev.bind (a := if validB 2 n (⟨#[]⟩ : ByteArray) 0 = true then (2, n, (⟨#[]⟩ : ByteArray), 0, true) else (0, 0, (⟨#[]⟩ : ByteArray), 0, false)) ?_ ?_
  · refine Ev.congr (f := _) (fun k => by rw [impl_IntegerValue.f, impl_numberOf.f, Option.bind_some]) (Ev.bind (impl_valid 2 n (⟨#[]⟩ : ByteArray) 0) ?_)
    cases validB 2 n (⟨#[]⟩ : ByteArray) 0 with
    | true => exact Ev.congr (f := fun _ => some _) (fun k => by rw [if_pos rfl, if_pos rfl]) (Ev.now _)
    | false => exact Ev.congr (f := fun _ => some _) (fun k => by rw [if_neg (by simp), if_neg (by simp)]) (Ev.now _)
  · cases validB 2 n (⟨#[]⟩ : ByteArray) 0 with
    | true => exact Ev.now _
    | false => exact Ev.now _
theorem ev_res {g : Nat → Option (Int × Int × ByteArray × Int × Int)} {r : Int × Int × ByteArray × Int × Int} (h : Ev g r) : Ev (fun k => (g k).bind fun b => some (b.1, b.2.1, b.2.2.1, b.2.2.2.1, b.2.2.2.2)) r := Ev.bind h (Ev.now _)
theorem mul64 (x y : Nat) (hx : x < 18446744073709551616) (hy : y < 18446744073709551616) : bits_Mul64.f (x : Int) (y : Int) = some (((x * y / 18446744073709551616 : Nat) : Int), ((x * y % 18446744073709551616 : Nat) : Int)) := by
  obtain ⟨bd, bt, bw, hhi⟩ := Lib.mul64_hi x y hx hy
  have ba := Lib.half_mul_le (a := x / 4294967296) (b := y / 4294967296) (by omega) (by omega)
  have bb := Lib.half_mul_le (a := x / 4294967296) (b := y % 4294967296) (by omega) (by omega)
  have bc := Lib.half_mul_le (a := x % 4294967296) (b := y / 4294967296) (by omega) (by omega)
  have ba' : x / 4294967296 * (y / 4294967296) < 18446744073709551616 := by omega
  have bb' : x / 4294967296 * (y % 4294967296) < 18446744073709551616 := by omega
  have bc' : x % 4294967296 * (y / 4294967296) < 18446744073709551616 := by omega
  have bh1 : x / 4294967296 * (y / 4294967296) + (x / 4294967296 * (y % 4294967296) + x % 4294967296 * (y % 4294967296) / 4294967296) / 4294967296 < 18446744073709551616 := by omega
  have bh : x / 4294967296 * (y / 4294967296) + (x / 4294967296 * (y % 4294967296) + x % 4294967296 * (y % 4294967296) / 4294967296) / 4294967296 + ((x / 4294967296 * (y % 4294967296) + x % 4294967296 * (y % 4294967296) / 4294967296) % 4294967296 + x % 4294967296 * (y / 4294967296)) / 4294967296 < 18446744073709551616 := by omega
  unfold bits_Mul64.f
  simp only [Mul64.maskN x hx, Mul64.maskN y hy, Mul64.divN, Mul64.mulN, Mul64.addN, Mul64.wrapN _ bd, Mul64.wrapN _ bb', Mul64.wrapN _ bt, Mul64.maskN _ bt, Mul64.wrapN _ bc', Mul64.wrapN _ bw, Mul64.wrapN _ ba', Mul64.wrapN _ bh1, Mul64.wrapN _ bh, Mul64.wrapM (x * y)]
  rw [hhi]
theorem magnitude (m : Int) (h1 : -10000000000000 ≤ m) (h2 : m ≤ 10000000000000) : impl_magnitude.f m = some (m.natAbs : Int) := by
  unfold impl_magnitude.f
  have w : wrap64 (-m) = -m := by unfold wrap64; omega
  rw [w]
  congr 1
  unfold mx
  split
  · have e : (-m) = ((-m).toNat : Int) := by omega
    rw [e, Mul64.wrapN _ (by omega)]
    omega
  · have e : m = (m.toNat : Int) := by omega
    rw [show IntKind.u64.wrap m = IntKind.u64.wrap (m.toNat : Int) by rw [← e], Mul64.wrapN _ (by omega)]
    omega
def mulEnd (m n : Int) : Int × Int × ByteArray × Int × Int := if 1000000000000 < m.natAbs * n.natAbs then errEnd 3 else numEnd (m * n)
theorem mul_small (m n : Int) (h : m.natAbs * n.natAbs ≤ 1000000000000) : wrap64 (m * n) = m * n := by
  have e := Int.natAbs_mul m n
  unfold wrap64
  omega
theorem impl_mul (m n : Int) (h1 : -10000000000000 ≤ m) (h2 : m ≤ 10000000000000) (h3 : -10000000000000 ≤ n) (h4 : n ≤ 10000000000000) : Ev (fun k => impl_product.f k m n) (mulEnd m n) := by
  unfold impl_product.f mulEnd
  simp only [magnitude m h1 h2, magnitude n h3 h4, Option.bind_some]
  rw [mul64 m.natAbs n.natAbs (by omega) (by omega)]
  simp only [Option.bind_some]
  generalize hp : m.natAbs * n.natAbs = p
  by_cases c : 1000000000000 < p
  · rw [if_pos c]
    by_cases c2 : ((p / 18446744073709551616 : Nat) : Int) > 0
    · simp only [if_pos c2]
      exact Ev.now _
    · have c3 : ((p % 18446744073709551616 : Nat) : Int) > 1000000000000 := by omega
      simp only [if_neg c2, if_pos c3]
      exact Ev.now _
  · rw [if_neg c]
    have c2 : ¬ ((p / 18446744073709551616 : Nat) : Int) > 0 := by omega
    have c3 : ¬ ((p % 18446744073709551616 : Nat) : Int) > 1000000000000 := by omega
    simp only [if_neg c2, if_neg c3]
    rw [mul_small m n (by omega)]
    exact ev_res (impl_num _)
-- the program's checks of two values (behind ValidValue)
theorem first2 (c d : Int) : Ev (fun k => impl_first.f k [c, d]) (if c = 0 then d else c) := by
  have e1 : wrap64 (0 + 1) = 1 := by unfold wrap64; omega
  have e2 : wrap64 (1 + 1) = 2 := by unfold wrap64; omega
  have r0 : rd [c, d] 0 = c := rfl
  have r1 : rd [c, d] 1 = d := rfl
  refine ⟨3, fun n hn => ?_⟩
  obtain ⟨k, rfl⟩ : ∃ k, n = k + 3 := ⟨n - 3, by omega⟩
  have l2 : (([c, d] : List Int).length : Int) = 2 := rfl
  unfold impl_first.f
  simp only [impl_first.l0, l2, r0, e1]
  rw [if_pos (by omega), if_pos (by omega), if_pos (by omega)]
  by_cases hc : c = 0
  · rw [if_pos hc, if_pos hc, if_pos (by omega), if_pos (by omega), if_pos (by omega), r1, e2]
    by_cases hd : d = 0
    · rw [if_pos hd, if_neg (by omega), hd]
    · rw [if_neg hd]
  · rw [if_neg hc, if_neg hc]
theorem check2 (x y : S25) : Ev (fun k => impl_checkValues.f k [x, y]) (if (validB x.f0 x.f1 x.f2 x.f3 && validB y.f0 y.f1 y.f2 y.f3) = true then 0 else 1) := by
  have e1 : wrap64 (0 + 1) = 1 := by unfold wrap64; omega
  have e2 : wrap64 (1 + 1) = 2 := by unfold wrap64; omega
  have r0 : rd_T25 [x, y] 0 = x := rfl
  have r1 : rd_T25 [x, y] 1 = y := rfl
  have l2 : (([x, y] : List S25).length : Int) = 2 := rfl
  have all2 : Ev (fun k => impl_Value_at_impl_ValidValue.f k [x, y]) (validB x.f0 x.f1 x.f2 x.f3 && validB y.f0 y.f1 y.f2 y.f3) := by
    unfold impl_Value_at_impl_ValidValue.f
    refine Ev.step (f := fun k => (impl_ValidValue.f k x.f0 x.f1 x.f2 x.f3).bind fun t => if t = true then impl_Value_at_impl_ValidValue.l0 k [x, y] 2 1 else some false) (fun k => ?_) (Ev.bind (impl_valid x.f0 x.f1 x.f2 x.f3) ?_)
    · simp only [impl_Value_at_impl_ValidValue.l0, l2, r0, e1]
      rw [if_pos (by omega), if_pos (by omega), if_pos (by omega)]
    · cases validB x.f0 x.f1 x.f2 x.f3 with
      | false => exact Ev.congr (f := fun _ => some false) (fun k => by rw [if_neg (by simp)]) (Ev.now _)
      | true =>
        rw [Bool.true_and]
        refine Ev.congr (f := fun k => impl_Value_at_impl_ValidValue.l0 k [x, y] 2 1) (fun k => by rw [if_pos rfl]) ?_
        refine Ev.step (f := fun k => (impl_ValidValue.f k y.f0 y.f1 y.f2 y.f3).bind fun t => if t = true then impl_Value_at_impl_ValidValue.l0 k [x, y] 2 2 else some false) (fun k => ?_) (Ev.bind (impl_valid y.f0 y.f1 y.f2 y.f3) ?_)
        · simp only [impl_Value_at_impl_ValidValue.l0, l2, r1, e2]
          rw [if_pos (by omega), if_pos (by omega), if_pos (by omega)]
        · cases validB y.f0 y.f1 y.f2 y.f3 with
          | false => exact Ev.congr (f := fun _ => some false) (fun k => by rw [if_neg (by simp)]) (Ev.now _)
          | true =>
            refine Ev.congr (f := fun k => impl_Value_at_impl_ValidValue.l0 k [x, y] 2 2) (fun k => by rw [if_pos rfl]) ?_
            refine Ev.step (f := fun _ => some true) (fun k => ?_) (Ev.now _)
            simp only [impl_Value_at_impl_ValidValue.l0]
            rw [if_neg (by omega)]
  unfold impl_checkValues.f
  refine Ev.bind all2 ?_
  unfold impl_unless.f
  cases (validB x.f0 x.f1 x.f2 x.f3 && validB y.f0 y.f1 y.f2 y.f3) with
  | true => exact Ev.now _
  | false => exact Ev.now _
def arithEnd (op m n : Int) : Int × Int × ByteArray × Int × Int :=
  if op = 8 then numEnd (wrap64 (m + n)) else if op = 9 then numEnd (wrap64 (m - n)) else if op = 10 then mulEnd m n else if n = 0 then errEnd 8 else numEnd (wrap64 (Int.tdiv m n))
/-- What Arithmetic answers. -/
def arEnd (op : Int) (x y : S25) : Int × Int × ByteArray × Int × Int :=
  if (validB x.f0 x.f1 x.f2 x.f3 && validB y.f0 y.f1 y.f2 y.f3) = true ∧ 8 ≤ op ∧ op ≤ 11 then
    (if (intOf x.f0 x.f1 x.f2 x.f3).2 = true ∧ (intOf y.f0 y.f1 y.f2 y.f3).2 = true then arithEnd op (intOf x.f0 x.f1 x.f2 x.f3).1 (intOf y.f0 y.f1 y.f2 y.f3).1 else errEnd 4)
  else errEnd 1
theorem impl_ar0 (op m n : Int) (h : 8 ≤ op ∧ op ≤ 11) (h1 : -10000000000000 ≤ m) (h2 : m ≤ 10000000000000) (h3 : -10000000000000 ≤ n) (h4 : n ≤ 10000000000000) (hz : op = 11 → n ≠ 0) : Ev (fun k => impl_Arithmetic.j0 k op m n 0) (arithEnd op m n) := by
  unfold arithEnd
  by_cases c8 : op = 8
  · simp only [if_pos c8]
    refine Ev.step (fun k => ?_) (ev_res (impl_num _))
    simp only [impl_Arithmetic.j0]
    rw [if_pos trivial, if_pos c8]
  by_cases c9 : op = 9
  · simp only [if_neg c8, if_pos c9]
    refine Ev.step (fun k => ?_) (ev_res (impl_num _))
    simp only [impl_Arithmetic.j0]
    rw [if_pos trivial, if_neg c8, if_pos c9]
  by_cases c10 : op = 10
  · simp only [if_neg c8, if_neg c9, if_pos c10]
    refine Ev.step (fun k => ?_) (ev_res (impl_mul m n h1 h2 h3 h4))
    simp only [impl_Arithmetic.j0]
    rw [if_pos trivial, if_neg c8, if_neg c9, if_pos c10]
  · have hn := hz (by omega)
    simp only [if_neg c8, if_neg c9, if_neg c10, if_neg hn]
    refine Ev.step (fun k => ?_) (ev_res (impl_num _))
    simp only [impl_Arithmetic.j0]
    rw [if_pos trivial, if_neg c8, if_neg c9, if_neg c10, if_neg hn]
theorem impl_ar (op : Int) (x y : S25) (hx : x.f2.size ≤ 9223372036854775807) (hy : y.f2.size ≤ 9223372036854775807) : Ev (fun k => impl_Arithmetic.f k op x.f0 x.f1 x.f2 x.f3 y.f0 y.f1 y.f2 y.f3) (arEnd op x y) := by
  have eta : ∀ z : S25, (⟨z.f0, z.f1, z.f2, z.f3⟩ : S25) = z := fun z => by cases z; rfl
  unfold impl_Arithmetic.f arEnd
  rw [eta, eta]
  refine Ev.bind (check2 x y) ?_
  have ew : impl_within.f op 8 11 = some (decide (8 ≤ op ∧ op ≤ 11)) := by rw [within_eq]; congr 1; rw [Bool.eq_iff_iff]; simp
  simp only [ew, Option.bind_some]
  have eu : ∀ (b : Bool) (c : Int), impl_unless.f b c = some (if b = true then 0 else c) := fun b c => by unfold impl_unless.f; split <;> rfl
  simp only [eu, Option.bind_some]
  refine Ev.bind (first2 _ _) ?_
  by_cases hv : (validB x.f0 x.f1 x.f2 x.f3 && validB y.f0 y.f1 y.f2 y.f3) = true
  · by_cases ho : 8 ≤ op ∧ op ≤ 11
    · rw [if_pos (And.intro hv ho)]
      simp only [if_pos hv, decide_eq_true ho, if_true]
      rw [Bool.and_eq_true] at hv
      obtain ⟨m, em, m1, m2, m3⟩ := impl_integer x.f0 x.f1 x.f2 x.f3 hx (valid_num _ _ _ _ hv.1)
      obtain ⟨n, en, n1, n2, n3⟩ := impl_integer y.f0 y.f1 y.f2 y.f3 hy (valid_num _ _ _ _ hv.2)
      have ei : Ev (fun k => impl_integers.f k x.f0 x.f1 x.f2 x.f3 y.f0 y.f1 y.f2 y.f3) (m, n, if ((intOf x.f0 x.f1 x.f2 x.f3).2 = true ∧ (intOf y.f0 y.f1 y.f2 y.f3).2 = true) then 0 else 4) := by
        unfold impl_integers.f
        simp only [eu, Option.bind_some]
        refine Ev.bind em (Ev.bind en ?_)
        cases (intOf x.f0 x.f1 x.f2 x.f3).2 <;> cases (intOf y.f0 y.f1 y.f2 y.f3).2 <;> exact Ev.now _
      refine Ev.bind ei ?_
      by_cases hk : (intOf x.f0 x.f1 x.f2 x.f3).2 = true ∧ (intOf y.f0 y.f1 y.f2 y.f3).2 = true
      · simp only [if_pos hk, ← m1 hk.1, ← n1 hk.2]
        by_cases h11 : op = 11
        · simp only [if_pos h11]
          refine Ev.bind (first2 _ _) ?_
          by_cases hz : n = 0
          · simp only [hz, if_true]
            have e8 : arithEnd op m 0 = errEnd 8 := by unfold arithEnd; rw [if_neg (by omega), if_neg (by omega), if_neg (by omega), if_pos rfl]
            rw [e8]
            refine Ev.step (f := fun _ => some (errEnd 8)) (fun k => ?_) (Ev.now _)
            simp only [impl_Arithmetic.j0]
            rfl
          · have hb : (n != 0) = true := bne_iff_ne.mpr hz
            simp only [hb, if_true]
            exact impl_ar0 op m n ho m2 m3 n2 n3 (fun _ => hz)
        · simp only [if_neg h11]
          refine Ev.bind (first2 _ _) ?_
          simp only [if_true]
          exact impl_ar0 op m n ho m2 m3 n2 n3 (fun q => absurd q h11)
      · simp only [if_neg hk]
        have fin : Ev (fun k => impl_Arithmetic.j0 k op m n 4) (errEnd 4) := Ev.step (f := fun _ => some (errEnd 4)) (fun k => by simp only [impl_Arithmetic.j0]; rfl) (Ev.now _)
        by_cases h11 : op = 11
        · simp only [if_pos h11]
          refine Ev.bind (first2 _ _) ?_
          exact fin
        · simp only [if_neg h11]
          exact Ev.bind (first2 _ _) fin
    · have no : ¬ ((validB x.f0 x.f1 x.f2 x.f3 && validB y.f0 y.f1 y.f2 y.f3) = true ∧ 8 ≤ op ∧ op ≤ 11) := fun z => ho z.2
      rw [if_neg no]
      simp only [if_pos hv, decide_eq_false ho, Bool.false_eq_true, if_false, if_true]
      exact Ev.now _
  · have no : ¬ ((validB x.f0 x.f1 x.f2 x.f3 && validB y.f0 y.f1 y.f2 y.f3) = true ∧ 8 ≤ op ∧ op ≤ 11) := fun z => hv z.1
    rw [if_neg no]
    simp only [if_neg hv]
    exact Ev.now _
-- the reference's product (behind Arith)
theorem ediv_lt (x : Nat) (y : Nat) (hy : 0 < y) : ((x : Int) > (1000000000000 : Int) / (y : Int)) ↔ 1000000000000 < x * y := by
  have e : (1000000000000 : Int) / (y : Int) = ((1000000000000 / y : Nat) : Int) := (Int.natCast_ediv 1000000000000 y).symm
  rw [e]
  constructor
  · intro h
    have h2 : 1000000000000 / y < x := by omega
    exact (Nat.div_lt_iff_lt_mul hy).mp h2
  · intro h
    have h2 := (Nat.div_lt_iff_lt_mul hy).mpr h
    omega
theorem spec_mul (m n : Int) (h1 : -10000000000000 ≤ m) (h2 : m ≤ 10000000000000) (h3 : -10000000000000 ≤ n) (h4 : n ≤ 10000000000000) : Ev (fun k => spec_l10Product.f k m n) (if 1000000000000 < m.natAbs * n.natAbs then (0, false) else (m * n, true)) := by
  have yes : m * n = 0 → ∀ a b, Ev (fun k => spec_l10Product.j0 k a b true) (if 1000000000000 < m.natAbs * n.natAbs then (0, false) else (m * n, true)) := fun q a b => by
    have q2 : m.natAbs * n.natAbs = 0 := by rw [← Int.natAbs_mul, q]; rfl
    rw [if_neg (by omega), q]
    exact Ev.step (f := fun _ => some (0, true)) (fun k => by simp only [spec_l10Product.j0]; rw [if_pos trivial]) (Ev.now _)
  unfold spec_l10Product.f
  by_cases hm : m = 0
  · exact Ev.congr (f := fun k => spec_l10Product.j0 k m n true) (fun k => by rw [if_pos hm]) (yes (by rw [hm, Int.zero_mul]) m n)
  by_cases hn : n = 0
  · exact Ev.congr (f := fun k => spec_l10Product.j0 k m n true) (fun k => by rw [if_neg hm, beq_iff_eq.mpr hn]) (yes (by rw [hn, Int.mul_zero]) m n)
  have wm : wrap64 (-m) = -m := by unfold wrap64; omega
  have wn : wrap64 (-n) = -n := by unfold wrap64; omega
  have hy : 0 < n.natAbs := by omega
  have wq : ∀ y : Int, y = (n.natAbs : Int) → wrap64 ((1000000000000 : Int) / y) = (1000000000000 : Int) / y := fun y e => by
    rw [e]
    have e2 : (1000000000000 : Int) / (n.natAbs : Int) = ((1000000000000 / n.natAbs : Nat) : Int) := (Int.natCast_ediv 1000000000000 n.natAbs).symm
    have e3 : 1000000000000 / n.natAbs ≤ 1000000000000 := Nat.div_le_self _ _
    rw [e2]
    clear e2
    generalize 1000000000000 / n.natAbs = q at e3 ⊢
    unfold wrap64
    omega
  have main : Ev (fun k => spec_l10Product.j1 k m n (m.natAbs : Int)) (if 1000000000000 < m.natAbs * n.natAbs then (0, false) else (m * n, true)) := by
    refine Ev.step (f := fun _ => some (if 1000000000000 < m.natAbs * n.natAbs then (0, false) else (m * n, true))) (fun k => ?_) (Ev.now _)
    simp only [spec_l10Product.j1]
    have key : ∀ y : Int, y = (n.natAbs : Int) → (if (m.natAbs : Int) > wrap64 ((1000000000000 : Int) / y) then some ((0 : Int), false) else some (wrap64 (m * n), true)) = some (if 1000000000000 < m.natAbs * n.natAbs then (0, false) else (m * n, true)) := fun y e => by
      rw [wq y e, e]
      by_cases c : 1000000000000 < m.natAbs * n.natAbs
      · rw [if_pos ((ediv_lt _ _ hy).mpr c), if_pos c]
      · rw [if_neg (fun z => c ((ediv_lt _ _ hy).mp z)), if_neg c, mul_small m n (by omega)]
    by_cases cn : n < 0
    · rw [if_pos cn, wn, if_neg (by omega)]
      exact key (-n) (by omega)
    · rw [if_neg cn, if_neg hn]
      exact key n (by omega)
  refine Ev.congr (f := fun k => spec_l10Product.j0 k m n false) (fun k => by rw [if_neg hm, beq_eq_false_iff_ne.mpr hn]) ?_
  refine Ev.step (f := fun k => spec_l10Product.j1 k m n (m.natAbs : Int)) (fun k => ?_) main
  simp only [spec_l10Product.j0]
  rw [if_neg (by simp)]
  by_cases cm : m < 0
  · rw [if_pos cm, wm, show (-m) = (m.natAbs : Int) by omega]
  · rw [if_neg cm, show (m.natAbs : Int) = m by omega]
theorem eq_same (a b : Int) (c : ByteArray) (d : Int) : laws_eqValue.f a b c d a b c d = some true := by
  unfold laws_eqValue.f
  simp
theorem int_small (a b : Int) (c : ByteArray) (d : Int) (hc : c.size ≤ 9223372036854775807) (h : validB a b c d = true) : -10000000000000 ≤ (intOf a b c d).1 ∧ (intOf a b c d).1 ≤ 10000000000000 := by
  obtain ⟨v, _, h1, h2, h3⟩ := impl_integer a b c d hc (valid_num a b c d h)
  cases hk : (intOf a b c d).2 with
  | true => rw [← h1 hk]; exact ⟨h2, h3⟩
  | false =>
    rw [intOf_no a b c d hk]
    exact ⟨by show (-10000000000000 : Int) ≤ 0; omega, by show (0 : Int) ≤ 10000000000000; omega⟩
theorem spec_ar1 (op m n : Int) (h1 : -10000000000000 ≤ m) (h2 : m ≤ 10000000000000) (h3 : -10000000000000 ≤ n) (h4 : n ≤ 10000000000000) : Ev (fun k => spec_Arithmetic.j1 k op m n false) (arithEnd op m n) := by
  unfold arithEnd
  by_cases c8 : op = 8
  · simp only [if_pos c8]
    refine Ev.step (fun k => ?_) (ev_res (spec_num _))
    simp only [spec_Arithmetic.j1]
    rw [if_neg (by simp), if_pos c8]
  by_cases c9 : op = 9
  · simp only [if_neg c8, if_pos c9]
    refine Ev.step (fun k => ?_) (ev_res (spec_num _))
    simp only [spec_Arithmetic.j1]
    rw [if_neg (by simp), if_neg c8, if_pos c9]
  by_cases c10 : op = 10
  · simp only [if_neg c8, if_neg c9, if_pos c10]
    refine Ev.step (f := fun k => (spec_l10Product.f k m n).bind fun b => if b.2 = true then ((spec_l10Integer.f k b.1).bind fun b => some (b.1, b.2.1, b.2.2.1, b.2.2.2.1, b.2.2.2.2)) else some (errEnd 3)) (fun k => ?_) (Ev.bind (spec_mul m n h1 h2 h3 h4) ?_)
    · simp only [spec_Arithmetic.j1]
      rw [if_neg (by simp), if_neg c8, if_neg c9, if_pos c10]
      rfl
    · unfold mulEnd
      by_cases c : 1000000000000 < m.natAbs * n.natAbs
      · simp only [if_pos c]
        exact Ev.now _
      · simp only [if_neg c]
        exact ev_res (spec_num _)
  · by_cases hn : n = 0
    · simp only [if_neg c8, if_neg c9, if_neg c10, if_pos hn]
      refine Ev.step (f := fun _ => some (errEnd 8)) (fun k => ?_) (Ev.now _)
      simp only [spec_Arithmetic.j1]
      rw [if_neg (by simp), if_neg c8, if_neg c9, if_neg c10, if_pos hn]
      rfl
    · simp only [if_neg c8, if_neg c9, if_neg c10, if_neg hn]
      refine Ev.step (fun k => ?_) (ev_res (spec_num _))
      simp only [spec_Arithmetic.j1]
      rw [if_neg (by simp), if_neg c8, if_neg c9, if_neg c10, if_neg hn]
theorem spec_ar (op : Int) (x y : S25) (hx : x.f2.size ≤ 9223372036854775807) (hy : y.f2.size ≤ 9223372036854775807) : Ev (fun k => spec_Arithmetic.f k op x.f0 x.f1 x.f2 x.f3 y.f0 y.f1 y.f2 y.f3) (arEnd op x y) := by
  have no : Ev (fun k => spec_Arithmetic.j0 k op true x.f0 x.f1 x.f2 x.f3 y.f0 y.f1 y.f2 y.f3) (errEnd 1) := Ev.step (f := fun _ => some (errEnd 1)) (fun k => by simp only [spec_Arithmetic.j0]; rfl) (Ev.now _)
  have hsx := spec_toint x.f0 x.f1 x.f2 x.f3 hx
  have hsy := spec_toint y.f0 y.f1 y.f2 y.f3 hy
  have smx := int_small x.f0 x.f1 x.f2 x.f3 hx
  have smy := int_small y.f0 y.f1 y.f2 y.f3 hy
  unfold spec_Arithmetic.f arEnd
  refine Ev.bind (spec_valid x.f0 x.f1 x.f2 x.f3) ?_
  cases hvx : validB x.f0 x.f1 x.f2 x.f3 with
  | false =>
    have c : ¬ ((false && validB y.f0 y.f1 y.f2 y.f3) = true ∧ 8 ≤ op ∧ op ≤ 11) := fun z => by have := z.1; simp at this
    rw [if_neg c]
    exact no
  | true =>
    simp only [if_true, Bool.true_and]
    refine Ev.bind (spec_valid y.f0 y.f1 y.f2 y.f3) ?_
    cases hvy : validB y.f0 y.f1 y.f2 y.f3 with
    | false =>
      have c : ¬ (false = true ∧ 8 ≤ op ∧ op ≤ 11) := fun z => by have := z.1; simp at this
      rw [if_neg c]
      exact no
    | true =>
      simp only [if_true]
      rw [hvx] at hsx smx
      rw [hvy] at hsy smy
      simp only [if_true] at hsx hsy
      have ei : spec_l00In.f op 8 11 = some (decide (8 ≤ op ∧ op ≤ 11)) := by rw [in_eq]; congr 1; rw [Bool.eq_iff_iff]; simp
      simp only [ei, Option.bind_some]
      by_cases ho : 8 ≤ op ∧ op ≤ 11
      · have c : True ∧ 8 ≤ op ∧ op ≤ 11 := ⟨trivial, ho⟩
        rw [if_pos c, decide_eq_true ho]
        obtain ⟨a1, a2⟩ := smx rfl
        obtain ⟨b1, b2⟩ := smy rfl
        refine Ev.step (f := fun k => (spec_ToInteger.f k x.f0 x.f1 x.f2 x.f3).bind fun b => (spec_ToInteger.f k y.f0 y.f1 y.f2 y.f3).bind fun e => if b.2 = true then spec_Arithmetic.j1 k op b.1 e.1 (!e.2) else spec_Arithmetic.j1 k op b.1 e.1 true) (fun k => ?_) (Ev.bind hsx (Ev.bind hsy ?_))
        · simp only [spec_Arithmetic.j0]
          rw [if_neg (by simp)]
        · have bad : ∀ m n, Ev (fun k => spec_Arithmetic.j1 k op m n true) (errEnd 4) := fun m n => Ev.step (f := fun _ => some (errEnd 4)) (fun k => by simp only [spec_Arithmetic.j1]; rfl) (Ev.now _)
          cases hk : (intOf x.f0 x.f1 x.f2 x.f3).2 with
          | false =>
            have c : ¬ (false = true ∧ (intOf y.f0 y.f1 y.f2 y.f3).2 = true) := fun z => by have := z.1; simp at this
            rw [if_neg c]
            exact bad _ _
          | true =>
            cases hk2 : (intOf y.f0 y.f1 y.f2 y.f3).2 with
            | false =>
              have c : ¬ (true = true ∧ false = true) := fun z => by have := z.2; simp at this
              rw [if_neg c]
              exact bad _ _
            | true =>
              have c : true = true ∧ true = true := ⟨rfl, rfl⟩
              rw [if_pos c]
              exact spec_ar1 op _ _ a1 a2 b1 b2
      · have c : ¬ (True ∧ 8 ≤ op ∧ op ≤ 11) := fun z => ho z.2
        rw [if_neg c, decide_eq_false ho]
        exact no
end Arithmetic
open Arithmetic in
theorem FnExactArithmetic : laws_FnExactArithmetic.Pure := by
  intro op x0 y0 _ gx gy
  have hx : x0.f2.size ≤ 9223372036854775807 := by cases gx; assumption
  have hy : y0.f2.size ≤ 9223372036854775807 := by cases gy; assumption
  apply Ev.rounds
  unfold laws_FnExactArithmetic.f
  have h : ∀ (z : S23) (l : Int), ∃ r, laws_szValue.f z.f0 z.f1 z.f2 z.f3 l = some r := by
    intro z l
    unfold laws_szValue.f
    split
    · exact ⟨_, rfl⟩
    · exact ⟨_, rfl⟩
  obtain ⟨r, hr⟩ := h x0 1048576
  have ht : ∀ z : S23, laws_toValue.f z.f0 z.f1 z.f2 z.f3 = some (z.f0, z.f1, z.f2, z.f3) := fun z => rfl
  simp only [hr, ht, Option.bind_some]
  by_cases q : r < 0
  · simp only [if_pos q]
    exact Ev.now true
  · simp only [if_neg q]
    obtain ⟨r2, hr2⟩ := h y0 r
    simp only [hr2, Option.bind_some]
    by_cases q2 : r2 < 0
    · simp only [if_pos q2]
      exact Ev.now true
    · simp only [if_neg q2]
      have e1 := spec_ar op ⟨x0.f0, x0.f1, x0.f2, x0.f3⟩ ⟨y0.f0, y0.f1, y0.f2, y0.f3⟩ hx hy
      have e2 := impl_ar op ⟨x0.f0, x0.f1, x0.f2, x0.f3⟩ ⟨y0.f0, y0.f1, y0.f2, y0.f3⟩ hx hy
      simp only at e1 e2
      refine Ev.bind e1 (Ev.bind e2 ?_)
      rw [eq_same, Option.bind_some]
      exact Ev.congr (f := fun _ => some true) (fun k => by rw [if_pos rfl, if_pos rfl]) (Ev.now true)
end Go.Proofs.YtfbcmfniocomhaaDoor.Pure
