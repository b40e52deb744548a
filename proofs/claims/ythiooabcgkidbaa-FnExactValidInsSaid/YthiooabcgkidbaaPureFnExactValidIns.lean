/- FnExactValidIns answers true for every instruction: the program's ValidIns and the reference's tell the same instructions valid. Conditions: none beyond the statement's own. -/
import Derived.Test.YthiooabcgkidbaaPFnExactValidInsx5
namespace Go.Proofs.Ythiooabcgkidbaa.Pure
open Go.RowKit Go.Proofs.Ythiooabcgkidbaa.PFnExactValidIns Go.Proofs.YthiooabcgkidbaaW.PrintWords Go.Proofs.YthiooabcgkidbaaW.PrintLast
namespace ValidIns
-- names: the program's IsName and the reference's
def letterB (c : Int) : Bool := (decide (65 ≤ c) && decide (c ≤ 90)) || (decide (97 ≤ c) && decide (c ≤ 122))
def digitB (c : Int) : Bool := decide (48 ≤ c) && decide (c ≤ 57)
def nameB (c : Int) : Bool := letterB c || (digitB c || c == 95)
theorem spec_letter (c : Int) : spec_l02Letter.f c = some (letterB c) := by
  unfold spec_l02Letter.f letterB
  by_cases h1 : 65 ≤ c <;> by_cases h2 : c ≤ 90 <;> by_cases h3 : 97 ≤ c <;> simp [h1, h2, h3]
theorem spec_digit (c : Int) : spec_l02Digit.f c = some (digitB c) := by
  unfold spec_l02Digit.f digitB
  by_cases h1 : 48 ≤ c <;> simp [h1]
theorem impl_letter (c : Int) : impl_isLetter.f c = some (letterB c) := by
  unfold impl_isLetter.f letterB
  by_cases h1 : 65 ≤ c <;> by_cases h2 : c ≤ 90 <;> by_cases h3 : 97 ≤ c <;> simp [h1, h2, h3]
theorem impl_digit (c : Int) : impl_isDigit.f c = some (digitB c) := by
  unfold impl_isDigit.f digitB
  by_cases h1 : 48 ≤ c <;> simp [h1]
theorem impl_nameByte (c : Int) : impl_isNameByte.f c = some (nameB c) := by
  unfold impl_isNameByte.f nameB
  rw [impl_letter, impl_digit]
  cases letterB c <;> cases digitB c <;> simp
theorem bytes_at (s : ByteArray) (i : Nat) (c : Int) (l : List Int) (h : (bytesOf s).drop i = c :: l) : i < s.size ∧ bt s (i : Int) = c ∧ rd (bytesOf s) (i : Int) = c ∧ (bytesOf s).drop (i + 1) = l := by
  have h1 : i < (bytesOf s).length := by
    rcases Nat.lt_or_ge i (bytesOf s).length with h2 | h2
    · exact h2
    · rw [List.drop_eq_nil_of_le h2] at h
      cases h
  rw [List.drop_eq_getElem_cons h1] at h
  injection h with h2 h3
  have h4 : rd (bytesOf s) (i : Int) = c := by
    unfold rd
    rw [Int.toNat_natCast, List.getD_eq_getElem?_getD, List.getElem?_eq_getElem h1]
    exact h2
  refine ⟨by rw [← bytesOf_length]; exact h1, ?_, h4, h3⟩
  rw [← rd_bytesOf]
  exact h4
theorem bytes_end (s : ByteArray) (i : Nat) (h : (bytesOf s).drop i = []) (hi : i ≤ s.size) : i = s.size := by
  have := congrArg List.length h
  rw [List.length_drop, bytesOf_length] at this
  simp at this
  omega
theorem wrapn (i n : Nat) (h : i < n) (hn : n ≤ 9223372036854775807) : wrap64 ((i : Int) + 1) = ((i + 1 : Nat) : Int) := by unfold wrap64; omega
theorem nameEnd_loop (s : ByteArray) (hs : s.size ≤ 9223372036854775807) (l : List Int) : ∀ i : Nat, i ≤ s.size → (bytesOf s).drop i = l → Ev (fun k => spec_l02NameEnd.l0 k s (i : Int)) ((i : Int) + (l.takeWhile nameB).length) := by
  induction l with
  | nil =>
    intro i hi hd
    have h2 := bytes_end s i hd hi
    refine Ev.step (f := fun _ => some (i : Int)) (fun k => ?_) (by simpa using Ev.now (i : Int))
    simp only [spec_l02NameEnd.l0]
    rw [if_neg (by omega)]
  | cons c l ih =>
    intro i hi hd
    obtain ⟨hlt, hb, _, hd'⟩ := bytes_at s i c l hd
    cases hn : nameB c with
    | true =>
      have r := ih (i + 1) (by omega) hd'
      have e : (i : Int) + ((c :: l).takeWhile nameB).length = ((i + 1 : Nat) : Int) + (l.takeWhile nameB).length := by
        rw [List.takeWhile_cons_of_pos hn, List.length_cons]
        omega
      rw [e]
      refine Ev.step (f := fun k => spec_l02NameEnd.l0 k s ((i + 1 : Nat) : Int)) (fun k => ?_) r
      simp only [spec_l02NameEnd.l0]
      rw [if_pos (by omega), if_pos (by omega), hb, spec_letter, spec_digit, wrapn i s.size hlt hs]
      unfold nameB at hn
      cases hl : letterB c with
      | true => simp
      | false =>
        cases hg : digitB c with
        | true => simp
        | false =>
          rw [hl, hg] at hn
          have hc : c = 95 := by simpa using hn
          simp [hc]
    | false =>
      rw [List.takeWhile_cons_of_neg (by simp [hn])]
      refine Ev.step (f := fun _ => some (i : Int)) (fun k => ?_) (by simpa using Ev.now (i : Int))
      simp only [spec_l02NameEnd.l0]
      rw [if_pos (by omega), if_pos (by omega), hb, spec_letter, spec_digit]
      unfold nameB at hn
      cases hl : letterB c with
      | true => rw [hl] at hn; simp at hn
      | false =>
        cases hg : digitB c with
        | true => rw [hl, hg] at hn; simp at hn
        | false =>
          rw [hl, hg] at hn
          have hc : ¬ c = 95 := by simpa using hn
          simp [hc]
theorem takeWhile_all (l : List Int) (p : Int → Bool) : (l.takeWhile p).length = l.length ↔ l.all p = true := by
  induction l with
  | nil => simp
  | cons c l ih =>
    cases h : p c with
    | true => rw [List.takeWhile_cons_of_pos h]; simp [h, ih]
    | false => rw [List.takeWhile_cons_of_neg (by simp [h])]; simp [h]
/-- What a name is. -/
def isNameB (s : ByteArray) : Bool := decide (1 ≤ s.size) && (decide (s.size ≤ 12) && (letterB (bt s 0) && (bytesOf s).all nameB))
theorem spec_isName (s : ByteArray) : Ev (fun k => spec_IsName.f k s) (isNameB s) := by
  unfold isNameB
  by_cases h1 : 1 ≤ s.size
  · have hne : ¬ s.toList = [] := by
      rw [Go.ByteArray.toList_eq]
      intro e
      have := data_length s
      rw [e] at this
      simp at this
      omega
    by_cases h2 : s.size ≤ 12
    · have e : Ev (fun k => spec_l02NameEnd.f k s 0) (if letterB (bt s 0) = true then (((bytesOf s).takeWhile nameB).length : Int) else 0) := by
        cases hl : letterB (bt s 0) with
        | true =>
          have r := nameEnd_loop s (by omega) (bytesOf s) 0 (by omega) rfl
          rw [if_pos rfl]
          simp only [Int.natCast_zero, Int.zero_add] at r
          refine Ev.congr (f := fun k => spec_l02NameEnd.j0 k s 0 false) (fun k => ?_) (Ev.step (f := fun k => spec_l02NameEnd.l0 k s 0) (fun k => by simp only [spec_l02NameEnd.j0]; simp) r)
          unfold spec_l02NameEnd.f
          rw [if_neg (by omega), if_pos (by omega), if_pos (by omega), spec_letter, hl]
          rfl
        | false =>
          rw [if_neg (by simp)]
          refine Ev.congr (f := fun k => spec_l02NameEnd.j0 k s 0 true) (fun k => ?_) (Ev.step (f := fun _ => some 0) (fun k => by simp only [spec_l02NameEnd.j0]; simp) (Ev.now 0))
          unfold spec_l02NameEnd.f
          rw [if_neg (by omega), if_pos (by omega), if_pos (by omega), spec_letter, hl]
          rfl
      refine Ev.congr (f := fun k => (spec_l02NameEnd.f k s 0).bind fun t => some (t == (s.size : Int))) (fun k => ?_) (Ev.bind e ?_)
      · unfold spec_IsName.f
        rw [if_neg hne, if_pos (by omega)]
      · have hx : (decide (1 ≤ s.size) && (decide (s.size ≤ 12) && (letterB (bt s 0) && (bytesOf s).all nameB))) = ((if letterB (bt s 0) = true then (((bytesOf s).takeWhile nameB).length : Int) else 0) == (s.size : Int)) := by
          rw [decide_eq_true h1, decide_eq_true h2]
          simp only [Bool.true_and]
          cases hl : letterB (bt s 0) with
          | true =>
            rw [if_pos rfl, Bool.true_and]
            have h3 := takeWhile_all (bytesOf s) nameB
            rw [bytesOf_length] at h3
            rw [Bool.eq_iff_iff, ← h3, beq_iff_eq]
            omega
          | false =>
            rw [if_neg (by simp), Bool.false_and]
            have h4 : ¬ (0 : Int) = (s.size : Int) := by omega
            simp [h4]
        rw [hx]
        exact Ev.now _
    · rw [decide_eq_false h2]
      simp only [Bool.false_and, Bool.and_false]
      refine Ev.congr (f := fun _ => some false) (fun k => ?_) (Ev.now false)
      unfold spec_IsName.f
      rw [if_neg hne, if_neg (by omega)]
  · rw [decide_eq_false h1]
    simp only [Bool.false_and]
    refine Ev.congr (f := fun _ => some false) (fun k => ?_) (Ev.now false)
    unfold spec_IsName.f
    rw [if_pos (by rw [Go.ByteArray.toList_eq]; exact List.eq_nil_of_length_eq_zero (by rw [data_length]; omega))]
theorem areAllName_loop (s : ByteArray) (hs : s.size ≤ 9223372036854775807) (l : List Int) : ∀ i : Nat, i ≤ s.size → (bytesOf s).drop i = l → Ev (fun k => impl_areAll_byte_at_impl_isNameByte.l0 k (bytesOf s) (s.size : Int) (i : Int)) (l.all nameB) := by
  induction l with
  | nil =>
    intro i hi hd
    have h2 := bytes_end s i hd hi
    refine Ev.step (f := fun _ => some true) (fun k => ?_) (by simpa using Ev.now true)
    simp only [impl_areAll_byte_at_impl_isNameByte.l0]
    rw [if_neg (by omega)]
  | cons c l ih =>
    intro i hi hd
    obtain ⟨hlt, _, hb, hd'⟩ := bytes_at s i c l hd
    rw [List.all_cons]
    cases hn : nameB c with
    | true =>
      rw [Bool.true_and]
      refine Ev.step (f := fun k => impl_areAll_byte_at_impl_isNameByte.l0 k (bytesOf s) (s.size : Int) ((i + 1 : Nat) : Int)) (fun k => ?_) (ih (i + 1) (by omega) hd')
      simp only [impl_areAll_byte_at_impl_isNameByte.l0]
      rw [if_pos (by omega), if_pos (by omega), if_pos (by rw [bytesOf_length]; omega), hb, impl_nameByte, hn, wrapn i s.size hlt hs]
      rfl
    | false =>
      rw [Bool.false_and]
      refine Ev.step (f := fun _ => some false) (fun k => ?_) (Ev.now false)
      simp only [impl_areAll_byte_at_impl_isNameByte.l0]
      rw [if_pos (by omega), if_pos (by omega), if_pos (by rw [bytesOf_length]; omega), hb, impl_nameByte, hn]
      rfl
theorem impl_isName (s : ByteArray) : Ev (fun k => impl_IsName.f k s) (isNameB s) := by
  unfold isNameB
  by_cases h1 : 1 ≤ s.size
  · by_cases h2 : s.size ≤ 12
    · rw [decide_eq_true h1, decide_eq_true h2]
      simp only [Bool.true_and]
      cases hl : letterB (bt s 0) with
      | true =>
        rw [Bool.true_and]
        have r := areAllName_loop s (by omega) (bytesOf s) 0 (by omega) rfl
        refine Ev.congr (f := fun k => (impl_areAll_byte_at_impl_isNameByte.f k (bytesOf s)).bind fun t => some t) (fun k => ?_) (Ev.bind (Ev.congr (fun k => ?_) r) (Ev.now _))
        · unfold impl_IsName.f
          rw [if_pos (by omega), if_pos (by omega), if_pos (by omega), impl_letter, hl, Option.bind_some, if_pos rfl, if_pos (by omega)]
        · unfold impl_areAll_byte_at_impl_isNameByte.f
          rw [bytesOf_length]
          rfl
      | false =>
        rw [Bool.false_and]
        refine Ev.congr (f := fun _ => some false) (fun k => ?_) (Ev.now false)
        unfold impl_IsName.f
        rw [if_pos (by omega), if_pos (by omega), if_pos (by omega), impl_letter, hl]
        rfl
    · rw [decide_eq_false h2]
      simp only [Bool.false_and, Bool.and_false]
      refine Ev.congr (f := fun _ => some false) (fun k => ?_) (Ev.now false)
      unfold impl_IsName.f
      rw [if_pos (by omega), if_neg (by omega)]
  · rw [decide_eq_false h1]
    simp only [Bool.false_and]
    refine Ev.congr (f := fun _ => some false) (fun k => ?_) (Ev.now false)
    unfold impl_IsName.f
    rw [if_neg (by omega)]
-- what a kind of patterns has (behind Name): the program's isArgument, kidsOf and the reference's l11Form, l11Node
set_option linter.unusedSimpArgs false in
theorem ev_three {α : Type} {g : Nat → Option α} {r : α} (h : ∀ k, g (k + 3) = some r) : Ev g r := ⟨3, fun n hn => by
  obtain ⟨m, rfl⟩ : ∃ m, n = m + 3 := ⟨n - 3, by omega⟩
  exact h m⟩
set_option linter.unusedSimpArgs false in
theorem arg_in (a b c : Int) : spec_l00In.f a b c = some (decide (b ≤ a) && decide (a ≤ c)) := by
  unfold spec_l00In.f
  by_cases h : b ≤ a <;> simp [h]
set_option linter.unusedSimpArgs false in
theorem arg_within (a b c : Int) : impl_within.f a b c = some (decide (b ≤ a ∧ a ≤ c)) := by
  unfold impl_within.f
  by_cases h : b ≤ a <;> simp [h]
def kidsN (a : Int) : Int := if a = 18 then 2 else if a = 19 then 2 else if a = 20 then 1 else if a = 21 then 1 else if a = 22 then 1 else 0
def restL (a : Int) : List UInt8 := if a ≤ 5 then [115] else if a ≤ 10 then [110] else if 21 ≤ a then [120] else []
def argB (a b : Int) (s : ByteArray) : Bool :=
  if a = 1 then (b == 0) && decide (s.size ≤ 200)
  else if 2 ≤ a ∧ a ≤ 5 then (b == 0) && (!(s.toList == ([] : List UInt8)) && decide (s.size ≤ 200))
  else if 6 ≤ a ∧ a ≤ 10 then (s.toList == ([] : List UInt8)) && (decide (0 ≤ b) && decide (b ≤ 200))
  else if 21 ≤ a ∧ a ≤ 24 then (b == 0) && isNameB s
  else decide (1 ≤ a ∧ a ≤ 24) && ((b == 0) && (s.toList == ([] : List UInt8)))
set_option linter.unusedSimpArgs false in
theorem impl_kids (a : Int) : Ev (fun k => impl_kidsOf.f k a) (kidsN a) := by
  unfold kidsN
  by_cases h1 : a = 18
  · subst h1
    exact ev_three fun k => rfl
  rw [if_neg h1]
  by_cases h2 : a = 19
  · subst h2
    exact ev_three fun k => rfl
  rw [if_neg h2]
  refine Ev.step (f := fun _ => some (if a = 20 then 1 else if a = 21 then 1 else if a = 22 then 1 else 0)) (fun k => ?_) (Ev.now _)
  unfold impl_kidsOf.f
  rw [if_neg h1, beq_eq_false_iff_ne.mpr h2]
  simp only [impl_kidsOf.j0]
  rw [if_neg (by simp)]
  by_cases h3 : a = 20
  · simp only [if_pos h3]
  by_cases h4 : a = 21
  · simp only [if_neg h3, if_pos h4]
  by_cases h5 : a = 22
  · simp only [if_neg h3, if_neg h4, if_pos h5]
  simp only [if_neg h3, if_neg h4, if_neg h5]
set_option linter.unusedSimpArgs false in
theorem impl_arg (a b : Int) (s : ByteArray) : Ev (fun k => impl_isArgument.f k a b s) (argB a b s) := by
  unfold impl_isArgument.f argB impl_isShort.f impl_hasSet.f impl_hasNumber.f impl_hasName.f impl_isPatternKind.f
  simp only [arg_within, Option.bind_some]
  have hz : (decide ((s.size : Int) ≤ 200)) = decide (s.size ≤ 200) := by rw [Bool.eq_iff_iff, decide_eq_true_iff, decide_eq_true_iff]; omega
  by_cases h1 : a = 1
  · simp only [if_pos h1]
    by_cases hb : b = 0
    · simp only [if_pos hb, beq_iff_eq.mpr hb, Bool.true_and, hz]
      exact Ev.now _
    · simp only [if_neg hb, beq_eq_false_iff_ne.mpr hb, Bool.false_and]
      exact Ev.now _
  simp only [if_neg h1]
  by_cases h2 : 2 ≤ a ∧ a ≤ 5
  · simp only [decide_eq_true h2, if_true, if_pos h2]
    by_cases hb : b = 0
    · by_cases hs : s.toList = []
      · simp only [if_pos hb, if_pos hs, beq_iff_eq.mpr hb, beq_iff_eq.mpr hs, Bool.true_and, Bool.not_true, Bool.false_and]
        exact Ev.now _
      · simp only [if_pos hb, if_neg hs, beq_iff_eq.mpr hb, beq_eq_false_iff_ne.mpr hs, Bool.true_and, Bool.not_false, hz]
        exact Ev.now _
    · simp only [if_neg hb, beq_eq_false_iff_ne.mpr hb, Bool.false_and]
      exact Ev.now _
  simp only [decide_eq_false h2, Bool.false_eq_true, if_false, if_neg h2]
  by_cases h3 : 6 ≤ a ∧ a ≤ 10
  · simp only [decide_eq_true h3, if_true, if_pos h3]
    by_cases hs : s.toList = []
    · simp only [if_pos hs, beq_iff_eq.mpr hs, Bool.true_and]
      rw [show (decide (0 ≤ b) && decide (b ≤ 200)) = decide (0 ≤ b ∧ b ≤ 200) by rw [Bool.eq_iff_iff]; simp]
      exact Ev.now _
    · simp only [if_neg hs, beq_eq_false_iff_ne.mpr hs, Bool.false_and]
      exact Ev.now _
  simp only [decide_eq_false h3, Bool.false_eq_true, if_false, if_neg h3]
  by_cases h4 : 21 ≤ a ∧ a ≤ 24
  · simp only [decide_eq_true h4, if_true, if_pos h4]
    by_cases hb : b = 0
    · simp only [if_pos hb, beq_iff_eq.mpr hb, Bool.true_and]
      exact Ev.bind (impl_isName s) (Ev.now _)
    · simp only [if_neg hb, beq_eq_false_iff_ne.mpr hb, Bool.false_and]
      exact Ev.now _
  simp only [decide_eq_false h4, Bool.false_eq_true, if_false, if_neg h4]
  by_cases h5 : 1 ≤ a ∧ a ≤ 24
  · simp only [decide_eq_true h5, if_true, Bool.true_and]
    by_cases hb : b = 0
    · simp only [if_pos hb, beq_iff_eq.mpr hb, Bool.true_and]
      exact Ev.now _
    · simp only [if_neg hb, beq_eq_false_iff_ne.mpr hb, Bool.false_and]
      exact Ev.now _
  · simp only [decide_eq_false h5, Bool.false_eq_true, if_false, Bool.false_and]
    exact Ev.now _
set_option linter.unusedSimpArgs false in
theorem spec_form (a : Int) (h : 1 ≤ a ∧ a ≤ 24) : ∃ r, Ev (fun k => spec_l11Form.f k a) (kidsN a, r) ∧ r.data.toList = restL a := by
  have w1 : wrap64 (0 + 1) = 1 := by unfold wrap64; omega
  have w2 : wrap64 (1 + 1) = 2 := by unfold wrap64; omega
  have h2 : a = 1 ∨ a = 2 ∨ a = 3 ∨ a = 4 ∨ a = 5 ∨ a = 6 ∨ a = 7 ∨ a = 8 ∨ a = 9 ∨ a = 10 ∨ a = 11 ∨ a = 12 ∨ a = 13 ∨ a = 14 ∨ a = 15 ∨ a = 16 ∨ a = 17 ∨ a = 18 ∨ a = 19 ∨ a = 20 ∨ a = 21 ∨ a = 22 ∨ a = 23 ∨ a = 24 := by omega
  rcases h2 with rfl | rfl | rfl | rfl | rfl | rfl | rfl | rfl | rfl | rfl | rfl | rfl | rfl | rfl | rfl | rfl | rfl | rfl | rfl | rfl | rfl | rfl | rfl | rfl <;>
    first
      | exact ⟨_, ev_three fun k => rfl, rfl⟩
      | (refine ⟨?_, ev_three fun k => ?_, ?_⟩
         rotate_left
         · simp only [spec_l11Form.f, spec_l11Word.f, spec_l11Form.l0, w1, w2]
           rfl
         · rfl)
set_option linter.unusedSimpArgs false in
theorem spec_node (a b : Int) (s : ByteArray) (l : List S70) : Ev (fun k => spec_l11Node.f k a b s l) (decide (1 ≤ a ∧ a ≤ 24) && (decide ((l.length : Int) = kidsN a) && argB a b s)) := by
  unfold spec_l11Node.f
  simp only [arg_in, Option.bind_some]
  by_cases h : 1 ≤ a ∧ a ≤ 24
  · obtain ⟨r, e, hr0⟩ := spec_form a h
    have hr : r.toList = restL a := by rw [Go.ByteArray.toList_eq]; exact hr0
    simp only [decide_eq_true h.1, decide_eq_true h.2, Bool.and_self, if_true, decide_eq_true h, Bool.true_and]
    refine Ev.bind e ?_
    simp only [hr]
    by_cases hk : (l.length : Int) = kidsN a
    · simp only [if_pos hk, decide_eq_true hk, Bool.true_and]
      unfold argB restL
      have hz : ((s.size : Int) ≤ 200) = (s.size ≤ 200) := by rw [eq_iff_iff]; omega
      by_cases h5 : a ≤ 5
      · simp only [if_pos h5, if_true]
        by_cases hb : b = 0
        · by_cases hq : s.size ≤ 200
          · by_cases h1 : a = 1
            · simp only [if_pos hb, hz, if_pos hq, if_pos h1, beq_iff_eq.mpr hb, decide_eq_true hq, Bool.and_self]
              exact Ev.now _
            · simp only [if_pos hb, hz, if_pos hq, if_neg h1, beq_iff_eq.mpr hb, decide_eq_true hq, if_pos (show 2 ≤ a ∧ a ≤ 5 by omega), Bool.true_and, Bool.and_true]
              exact Ev.now _
          · have e2 : (if a = 1 then (b == 0) && decide (s.size ≤ 200) else if 2 ≤ a ∧ a ≤ 5 then (b == 0) && (!(s.toList == ([] : List UInt8)) && decide (s.size ≤ 200)) else if 6 ≤ a ∧ a ≤ 10 then (s.toList == ([] : List UInt8)) && (decide (0 ≤ b) && decide (b ≤ 200)) else if 21 ≤ a ∧ a ≤ 24 then (b == 0) && isNameB s else decide (1 ≤ a ∧ a ≤ 24) && ((b == 0) && (s.toList == ([] : List UInt8)))) = false := by
              by_cases h1 : a = 1
              · rw [if_pos h1, decide_eq_false hq, Bool.and_false]
              · rw [if_neg h1, if_pos (show 2 ≤ a ∧ a ≤ 5 by omega), decide_eq_false hq, Bool.and_false, Bool.and_false]
            rw [e2]
            simp only [if_pos hb, hz, if_neg hq]
            exact Ev.now _
        · have e2 : (if a = 1 then (b == 0) && decide (s.size ≤ 200) else if 2 ≤ a ∧ a ≤ 5 then (b == 0) && (!(s.toList == ([] : List UInt8)) && decide (s.size ≤ 200)) else if 6 ≤ a ∧ a ≤ 10 then (s.toList == ([] : List UInt8)) && (decide (0 ≤ b) && decide (b ≤ 200)) else if 21 ≤ a ∧ a ≤ 24 then (b == 0) && isNameB s else decide (1 ≤ a ∧ a ≤ 24) && ((b == 0) && (s.toList == ([] : List UInt8)))) = false := by
            by_cases h1 : a = 1
            · rw [if_pos h1, beq_eq_false_iff_ne.mpr hb, Bool.false_and]
            · rw [if_neg h1, if_pos (show 2 ≤ a ∧ a ≤ 5 by omega), beq_eq_false_iff_ne.mpr hb, Bool.false_and]
          rw [e2]
          simp only [if_neg hb]
          exact Ev.now _
      · have n1 : ¬ a = 1 := by omega
        have n2 : ¬ (2 ≤ a ∧ a ≤ 5) := by omega
        simp only [if_neg h5, if_neg n1, if_neg n2]
        by_cases h6 : a ≤ 10
        · simp only [if_pos h6, if_pos (show 6 ≤ a ∧ a ≤ 10 by omega), show (([110] : List UInt8) = [115]) = False by simp, if_false, if_true]
          by_cases hs : s.toList = []
          · simp only [if_pos hs, beq_iff_eq.mpr hs, Bool.true_and]
            exact Ev.now _
          · simp only [if_neg hs, beq_eq_false_iff_ne.mpr hs, Bool.false_and]
            exact Ev.now _
        · simp only [if_neg h6, if_neg (show ¬ (6 ≤ a ∧ a ≤ 10) by omega)]
          by_cases h7 : 21 ≤ a
          · simp only [if_pos h7, if_pos (show 21 ≤ a ∧ a ≤ 24 by omega), show (([120] : List UInt8) = [115]) = False by simp, show (([120] : List UInt8) = [110]) = False by simp, if_false, if_true]
            by_cases hb : b = 0
            · simp only [if_pos hb, beq_iff_eq.mpr hb, Bool.true_and]
              exact Ev.bind (spec_isName s) (Ev.now _)
            · simp only [if_neg hb, beq_eq_false_iff_ne.mpr hb, Bool.false_and]
              exact Ev.now _
          · simp only [if_neg h7, if_neg (show ¬ (21 ≤ a ∧ a ≤ 24) by omega), show (([] : List UInt8) = [115]) = False by simp, show (([] : List UInt8) = [110]) = False by simp, show (([] : List UInt8) = [120]) = False by simp, if_false, decide_eq_true h, Bool.true_and]
            by_cases hb : b = 0
            · simp only [if_pos hb, beq_iff_eq.mpr hb, Bool.true_and]
              exact Ev.now _
            · simp only [if_neg hb, beq_eq_false_iff_ne.mpr hb, Bool.false_and]
              exact Ev.now _
    · simp only [if_neg hk, decide_eq_false hk, Bool.false_and]
      exact Ev.now _
  · rw [decide_eq_false h, Bool.false_and]
    have hb : (decide (1 ≤ a) && decide (a ≤ 24)) = false := by
      rw [Bool.and_eq_false_iff, decide_eq_false_iff_not, decide_eq_false_iff_not]
      omega
    simp only [hb, Bool.false_eq_true, if_false]
    exact Ev.now _
-- instructions of pattern code (behind Name, PatArg)
def leafB (a : Int) : Bool := decide (1 ≤ a ∧ a ≤ 24) && (kidsN a == 0)
def insB (a b : Int) (s : ByteArray) : Bool :=
  if leafB a = true then argB a b s
  else if a = 32 ∨ a = 33 ∨ a = 37 then (s.toList == ([] : List UInt8)) && (decide (0 ≤ b) && decide (b < 13000))
  else if a = 35 ∨ a = 36 then (b == 0) && isNameB s
  else decide (31 ≤ a ∧ a ≤ 39) && ((b == 0) && (s.toList == ([] : List UInt8)))
set_option linter.unusedSimpArgs false in
theorem impl_leaf (a : Int) : Ev (fun k => impl_isLeaf.f k a) (leafB a) := by
  unfold impl_isLeaf.f impl_isPatternKind.f leafB
  simp only [arg_within, Option.bind_some]
  cases decide (1 ≤ a ∧ a ≤ 24) with
  | true =>
    simp only [if_true, Bool.true_and]
    exact Ev.bind (impl_kids a) (Ev.now _)
  | false =>
    simp only [Bool.false_eq_true, if_false, Bool.false_and]
    exact Ev.now _
set_option linter.unusedSimpArgs false in
theorem impl_ins (a b : Int) (s : ByteArray) : Ev (fun k => impl_ValidIns.f k a b s) (insB a b s) := by
  unfold impl_ValidIns.f insB
  refine Ev.bind (impl_leaf a) ?_
  cases leafB a with
  | true =>
    simp only [if_true]
    exact Ev.bind (impl_arg a b s) (Ev.now _)
  | false =>
    simp only [Bool.false_eq_true, if_false]
    by_cases h1 : a = 32 ∨ a = 33 ∨ a = 37
    · have e : impl_hasAddress.f a = some true := by
        unfold impl_hasAddress.f
        rcases h1 with rfl | rfl | rfl <;> rfl
      simp only [e, Option.bind_some, if_true, if_pos h1]
      by_cases hs : s.toList = []
      · simp only [if_pos hs, beq_iff_eq.mpr hs, Bool.true_and]
        have e2 : impl_isIndex.f b 13000 = some (decide (0 ≤ b) && decide (b < 13000)) := by
          unfold impl_isIndex.f
          by_cases hb : 0 ≤ b <;> simp [hb]
        simp only [e2, Option.bind_some]
        exact Ev.now _
      · simp only [if_neg hs, beq_eq_false_iff_ne.mpr hs, Bool.false_and]
        exact Ev.now _
    · have e : impl_hasAddress.f a = some false := by
        unfold impl_hasAddress.f
        rw [if_neg (by omega), if_neg (by omega), beq_eq_false_iff_ne.mpr (by omega)]
      simp only [e, Option.bind_some, Bool.false_eq_true, if_false, if_neg h1]
      by_cases h2 : a = 35 ∨ a = 36
      · have e3 : impl_isCapture.f a = some true := by
          unfold impl_isCapture.f
          rcases h2 with rfl | rfl <;> rfl
        simp only [e3, Option.bind_some, if_true, if_pos h2]
        by_cases hb : b = 0
        · simp only [if_pos hb, beq_iff_eq.mpr hb, Bool.true_and]
          exact Ev.bind (impl_isName s) (Ev.now _)
        · simp only [if_neg hb, beq_eq_false_iff_ne.mpr hb, Bool.false_and]
          exact Ev.now _
      · have e3 : impl_isCapture.f a = some false := by
          unfold impl_isCapture.f
          rw [if_neg (by omega), beq_eq_false_iff_ne.mpr (by omega)]
        simp only [e3, Option.bind_some, Bool.false_eq_true, if_false, if_neg h2, arg_within]
        cases decide (31 ≤ a ∧ a ≤ 39) with
        | true =>
          simp only [if_true, Bool.true_and]
          by_cases hb : b = 0
          · simp only [if_pos hb, beq_iff_eq.mpr hb, Bool.true_and]
            exact Ev.now _
          · simp only [if_neg hb, beq_eq_false_iff_ne.mpr hb, Bool.false_and]
            exact Ev.now _
        | false =>
          simp only [Bool.false_eq_true, if_false, Bool.false_and]
          exact Ev.now _
set_option linter.unusedSimpArgs false in
theorem spec_leaf (a : Int) : spec_l13Leaf.f a = some (leafB a) := by
  unfold spec_l13Leaf.f
  simp only [arg_in, Option.bind_some]
  have e : leafB a = decide ((1 ≤ a ∧ a ≤ 17) ∨ a = 23 ∨ a = 24) := by
    unfold leafB kidsN
    rw [Bool.eq_iff_iff, Bool.and_eq_true, decide_eq_true_iff, decide_eq_true_iff, beq_iff_eq]
    by_cases h1 : a = 18
    · subst h1; simp
    by_cases h2 : a = 19
    · subst h2; simp
    by_cases h3 : a = 20
    · subst h3; simp
    by_cases h4 : a = 21
    · subst h4; simp
    by_cases h5 : a = 22
    · subst h5; simp
    simp only [if_neg h1, if_neg h2, if_neg h3, if_neg h4, if_neg h5, and_true]
    omega
  rw [e]
  by_cases h : 1 ≤ a ∧ a ≤ 17
  · simp only [decide_eq_true h.1, decide_eq_true h.2, Bool.and_self, if_true]
    rw [decide_eq_true (Or.inl h)]
  · have hb : (decide (1 ≤ a) && decide (a ≤ 17)) = false := by
      rw [Bool.and_eq_false_iff, decide_eq_false_iff_not, decide_eq_false_iff_not]
      omega
    simp only [hb, Bool.false_eq_true, if_false]
    by_cases h1 : a = 23
    · rw [if_pos h1, decide_eq_true (Or.inr (Or.inl h1))]
    · rw [if_neg h1]
      congr 1
      rw [Bool.eq_iff_iff, beq_iff_eq, decide_eq_true_iff]
      omega
set_option linter.unusedSimpArgs false in
theorem spec_ins (a b : Int) (s : ByteArray) : Ev (fun k => spec_ValidIns.f k a b s) (insB a b s) := by
  have hj0 : ∀ p : Bool, p = decide (a = 31 ∨ a = 34 ∨ a = 38 ∨ a = 39) → Ev (fun k => spec_ValidIns.j0 k a p a b s) (insB a b s) := by
    intro p hp
    subst hp
    by_cases h : a = 31 ∨ a = 34 ∨ a = 38 ∨ a = 39
    · rw [decide_eq_true h]
      have hl : leafB a = false := by
        unfold leafB
        rw [decide_eq_false (by omega), Bool.false_and]
      unfold insB
      rw [hl, if_neg (by simp), if_neg (by omega), if_neg (by omega), decide_eq_true (by omega), Bool.true_and]
      by_cases hb : b = 0
      · rw [beq_iff_eq.mpr hb, Bool.true_and]
        refine Ev.step (f := fun _ => some (s.toList == ([] : List UInt8))) (fun k => ?_) (Ev.now _)
        simp only [spec_ValidIns.j0]
        rw [if_pos trivial, if_pos hb]
      · rw [beq_eq_false_iff_ne.mpr hb, Bool.false_and]
        refine Ev.step (f := fun _ => some false) (fun k => ?_) (Ev.now _)
        simp only [spec_ValidIns.j0]
        rw [if_pos trivial, if_neg hb]
    · rw [decide_eq_false h]
      have hj2 : ∀ q : Bool, ¬ (a = 32 ∨ a = 33 ∨ a = 37) → q = decide (a = 35 ∨ a = 36) → Ev (fun k => spec_ValidIns.j2 k q a b s) (insB a b s) := by
        intro q h1 hq
        subst hq
        by_cases h2 : a = 35 ∨ a = 36
        · rw [decide_eq_true h2]
          have hl : leafB a = false := by
            unfold leafB
            rw [decide_eq_false (by omega), Bool.false_and]
          unfold insB
          rw [hl, if_neg (by simp), if_neg h1, if_pos h2]
          by_cases hb : b = 0
          · rw [beq_iff_eq.mpr hb, Bool.true_and]
            refine Ev.step (f := fun k => (spec_IsName.f k s).bind fun t => some t) (fun k => ?_) (Ev.bind (spec_isName s) (Ev.now _))
            simp only [spec_ValidIns.j2]
            rw [if_pos trivial, if_pos hb]
          · rw [beq_eq_false_iff_ne.mpr hb, Bool.false_and]
            refine Ev.step (f := fun _ => some false) (fun k => ?_) (Ev.now _)
            simp only [spec_ValidIns.j2]
            rw [if_pos trivial, if_neg hb]
        · rw [decide_eq_false h2]
          refine Ev.step (f := fun k => if leafB a = true then (spec_l11Node.f k a b s []).bind fun t => some t else some false) (fun k => ?_) ?_
          · simp only [spec_ValidIns.j2]
            rw [if_neg (by simp), spec_leaf, Option.bind_some]
          · unfold insB
            rw [if_neg h1, if_neg h2]
            cases hl : leafB a with
            | true =>
              simp only [if_true]
              have r := spec_node a b s []
              unfold leafB at hl
              rw [Bool.and_eq_true, beq_iff_eq] at hl
              rw [hl.1, hl.2] at r
              exact Ev.bind r (Ev.now _)
            | false =>
              simp only [Bool.false_eq_true, if_false]
              rw [decide_eq_false (by omega), Bool.false_and]
              exact Ev.now _
      have hj1 : ∀ q : Bool, q = decide (a = 32 ∨ a = 33 ∨ a = 37) → Ev (fun k => spec_ValidIns.j1 k a q a b s) (insB a b s) := by
        intro q hq
        subst hq
        by_cases h1 : a = 32 ∨ a = 33 ∨ a = 37
        · rw [decide_eq_true h1]
          have hl : leafB a = false := by
            unfold leafB
            rw [decide_eq_false (by omega), Bool.false_and]
          unfold insB
          rw [hl, if_neg (by simp), if_pos h1]
          have ein : spec_l00In.f b 0 12999 = some (decide (0 ≤ b) && decide (b < 13000)) := by
            rw [arg_in]
            congr 2
            rw [Bool.eq_iff_iff, decide_eq_true_iff, decide_eq_true_iff]
            omega
          refine Ev.step (f := fun _ => some ((s.toList == ([] : List UInt8)) && (decide (0 ≤ b) && decide (b < 13000)))) (fun k => ?_) (Ev.now _)
          simp only [spec_ValidIns.j1]
          rw [if_pos trivial, ein, Option.bind_some]
          cases (decide (0 ≤ b) && decide (b < 13000)) with
          | true => rw [if_pos rfl, Bool.and_true]
          | false => rw [if_neg (by simp), Bool.and_false]
        · rw [decide_eq_false h1]
          by_cases h5 : a = 35
          · refine Ev.step (f := fun k => spec_ValidIns.j2 k (a == 35) a b s) (fun k => ?_) (hj2 _ h1 (by rw [beq_iff_eq.mpr h5, decide_eq_true (Or.inl h5)]))
            simp only [spec_ValidIns.j1]
            rw [if_neg (by simp), if_pos h5]
          · refine Ev.step (f := fun k => spec_ValidIns.j2 k (a == 36) a b s) (fun k => ?_) (hj2 _ h1 (by rw [Bool.eq_iff_iff, beq_iff_eq, decide_eq_true_iff]; omega))
            simp only [spec_ValidIns.j1]
            rw [if_neg (by simp), if_neg h5]
      by_cases h3 : a = 32
      · refine Ev.step (f := fun k => spec_ValidIns.j1 k a (a == 32) a b s) (fun k => ?_) (hj1 _ (by rw [beq_iff_eq.mpr h3, decide_eq_true (Or.inl h3)]))
        simp only [spec_ValidIns.j0]
        rw [if_neg (by simp), if_pos h3]
      · by_cases h4 : a = 33
        · refine Ev.step (f := fun k => spec_ValidIns.j1 k a (a == 33) a b s) (fun k => ?_) (hj1 _ (by rw [beq_iff_eq.mpr h4, decide_eq_true (Or.inr (Or.inl h4))]))
          simp only [spec_ValidIns.j0]
          rw [if_neg (by simp), if_neg h3, if_pos h4]
        · refine Ev.step (f := fun k => spec_ValidIns.j1 k a (a == 37) a b s) (fun k => ?_) (hj1 _ (by rw [Bool.eq_iff_iff, beq_iff_eq, decide_eq_true_iff]; omega))
          simp only [spec_ValidIns.j0]
          rw [if_neg (by simp), if_neg h3, if_neg h4]
  unfold spec_ValidIns.f
  by_cases h1 : a = 31
  · simp only [if_pos h1]
    exact hj0 _ (by rw [beq_iff_eq.mpr h1, decide_eq_true (Or.inl h1)])
  simp only [if_neg h1]
  by_cases h2 : a = 34
  · simp only [if_pos h2]
    exact hj0 _ (by rw [beq_iff_eq.mpr h2, decide_eq_true (Or.inr (Or.inl h2))])
  simp only [if_neg h2]
  by_cases h3 : a = 38
  · simp only [if_pos h3]
    exact hj0 _ (by rw [beq_iff_eq.mpr h3, decide_eq_true (Or.inr (Or.inr (Or.inl h3)))])
  simp only [if_neg h3]
  exact hj0 _ (by rw [Bool.eq_iff_iff, beq_iff_eq, decide_eq_true_iff]; omega)
theorem sz_some (a b : Int) (s : ByteArray) (e : Int) : ∃ r, laws_szPatternIns.f a b s e = some r := by
  unfold laws_szPatternIns.f
  split
  · exact ⟨_, rfl⟩
  · exact ⟨_, rfl⟩
end ValidIns
open ValidIns in
theorem FnExactValidIns : laws_FnExactValidIns.Pure := by
  intro x _
  apply Ev.rounds
  unfold laws_FnExactValidIns.f
  obtain ⟨r, hr⟩ := sz_some x.f0 x.f1 x.f2 1048576
  rw [hr]
  simp only [Option.bind_some]
  by_cases c1 : r < 0
  · simp only [if_pos c1]
    exact Ev.now true
  simp only [if_neg c1, laws_toPatternIns.f, Option.bind_some]
  refine Ev.bind (spec_ins _ _ _) (Ev.bind (impl_ins _ _ _) ?_)
  exact Ev.congr (f := fun _ => some true) (fun k => by simp) (Ev.now true)
end Go.Proofs.Ythiooabcgkidbaa.Pure
