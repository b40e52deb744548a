/- FnExactIsInfix answers true for every token: the program's IsInfix and the reference's tell the same tokens binary operators. Conditions: none beyond the statement's own. -/
import Derived.Test.YthiooabcgkidbaaPFnExactIsInfixx3
namespace Go.Proofs.Ythiooabcgkidbaa.Pure
open Go.RowKit Go.Proofs.Ythiooabcgkidbaa.PFnExactIsInfix Go.Proofs.YthiooabcgkidbaaW.PrintWords Go.Proofs.YthiooabcgkidbaaW.PrintLast
namespace IsInfix
-- names: the program's IsName and the reference's
def letterB (c : Int) : Bool := (decide (65 ≤ c) && decide (c ≤ 90)) || (decide (97 ≤ c) && decide (c ≤ 122))
def digitB (c : Int) : Bool := decide (48 ≤ c) && decide (c ≤ 57)
def nameB (c : Int) : Bool := letterB c || (digitB c || c == 95)
theorem spec_letter (c : Int) : spec_l02Letter.f c = some (letterB c) := by
  unfold spec_l02Letter.f letterB
  by_cases h1 : 65 ≤ c <;> by_cases h2 : c ≤ 90 <;> by_cases h3 : 97 ≤ c <;> simp [h1, h2, h3]
theorem spec_digit (c : Int) : spec_l02Digit.f c = some (digitB c) := by
  unfold spec_l02Digit.f digitB
  by_cases h1 : 48 ≤ c <;> simp [h1]
theorem impl_letter (c : Int) : impl_isLetter.f c = some (letterB c) := by
  unfold impl_isLetter.f letterB
  by_cases h1 : 65 ≤ c <;> by_cases h2 : c ≤ 90 <;> by_cases h3 : 97 ≤ c <;> simp [h1, h2, h3]
theorem impl_digit (c : Int) : impl_isDigit.f c = some (digitB c) := by
  unfold impl_isDigit.f digitB
  by_cases h1 : 48 ≤ c <;> simp [h1]
theorem impl_nameByte (c : Int) : impl_isNameByte.f c = some (nameB c) := by
  unfold impl_isNameByte.f nameB
  rw [impl_letter, impl_digit]
  cases letterB c <;> cases digitB c <;> simp
theorem bytes_at (s : ByteArray) (i : Nat) (c : Int) (l : List Int) (h : (bytesOf s).drop i = c :: l) : i < s.size ∧ bt s (i : Int) = c ∧ rd (bytesOf s) (i : Int) = c ∧ (bytesOf s).drop (i + 1) = l := by
  have h1 : i < (bytesOf s).length := by
    rcases Nat.lt_or_ge i (bytesOf s).length with h2 | h2
    · exact h2
    · rw [List.drop_eq_nil_of_le h2] at h
      cases h
  rw [List.drop_eq_getElem_cons h1] at h
  injection h with h2 h3
  have h4 : rd (bytesOf s) (i : Int) = c := by
    unfold rd
    rw [Int.toNat_natCast, List.getD_eq_getElem?_getD, List.getElem?_eq_getElem h1]
    exact h2
  refine ⟨by rw [← bytesOf_length]; exact h1, ?_, h4, h3⟩
  rw [← rd_bytesOf]
  exact h4
theorem bytes_end (s : ByteArray) (i : Nat) (h : (bytesOf s).drop i = []) (hi : i ≤ s.size) : i = s.size := by
  have := congrArg List.length h
  rw [List.length_drop, bytesOf_length] at this
  simp at this
  omega
theorem wrapn (i n : Nat) (h : i < n) (hn : n ≤ 9223372036854775807) : wrap64 ((i : Int) + 1) = ((i + 1 : Nat) : Int) := by unfold wrap64; omega
theorem nameEnd_loop (s : ByteArray) (hs : s.size ≤ 9223372036854775807) (l : List Int) : ∀ i : Nat, i ≤ s.size → (bytesOf s).drop i = l → Ev (fun k => spec_l02NameEnd.l0 k s (i : Int)) ((i : Int) + (l.takeWhile nameB).length) := by
  induction l with
  | nil =>
    intro i hi hd
    have h2 := bytes_end s i hd hi
    refine Ev.step (f := fun _ => some (i : Int)) (fun k => ?_) (by simpa using Ev.now (i : Int))
    simp only [spec_l02NameEnd.l0]
    rw [if_neg (by omega)]
  | cons c l ih =>
    intro i hi hd
    obtain ⟨hlt, hb, _, hd'⟩ := bytes_at s i c l hd
    cases hn : nameB c with
    | true =>
      have r := ih (i + 1) (by omega) hd'
      have e : (i : Int) + ((c :: l).takeWhile nameB).length = ((i + 1 : Nat) : Int) + (l.takeWhile nameB).length := by
        rw [List.takeWhile_cons_of_pos hn, List.length_cons]
        omega
      rw [e]
      refine Ev.step (f := fun k => spec_l02NameEnd.l0 k s ((i + 1 : Nat) : Int)) (fun k => ?_) r
      simp only [spec_l02NameEnd.l0]
      rw [if_pos (by omega), if_pos (by omega), hb, spec_letter, spec_digit, wrapn i s.size hlt hs]
      unfold nameB at hn
      cases hl : letterB c with
      | true => simp
      | false =>
        cases hg : digitB c with
        | true => simp
        | false =>
          rw [hl, hg] at hn
          have hc : c = 95 := by simpa using hn
          simp [hc]
    | false =>
      rw [List.takeWhile_cons_of_neg (by simp [hn])]
      refine Ev.step (f := fun _ => some (i : Int)) (fun k => ?_) (by simpa using Ev.now (i : Int))
      simp only [spec_l02NameEnd.l0]
      rw [if_pos (by omega), if_pos (by omega), hb, spec_letter, spec_digit]
      unfold nameB at hn
      cases hl : letterB c with
      | true => rw [hl] at hn; simp at hn
      | false =>
        cases hg : digitB c with
        | true => rw [hl, hg] at hn; simp at hn
        | false =>
          rw [hl, hg] at hn
          have hc : ¬ c = 95 := by simpa using hn
          simp [hc]
theorem takeWhile_all (l : List Int) (p : Int → Bool) : (l.takeWhile p).length = l.length ↔ l.all p = true := by
  induction l with
  | nil => simp
  | cons c l ih =>
    cases h : p c with
    | true => rw [List.takeWhile_cons_of_pos h]; simp [h, ih]
    | false => rw [List.takeWhile_cons_of_neg (by simp [h])]; simp [h]
/-- What a name is. -/
def isNameB (s : ByteArray) : Bool := decide (1 ≤ s.size) && (decide (s.size ≤ 12) && (letterB (bt s 0) && (bytesOf s).all nameB))
theorem spec_isName (s : ByteArray) : Ev (fun k => spec_IsName.f k s) (isNameB s) := by
  unfold isNameB
  by_cases h1 : 1 ≤ s.size
  · have hne : ¬ s.toList = [] := by
      rw [Go.ByteArray.toList_eq]
      intro e
      have := data_length s
      rw [e] at this
      simp at this
      omega
    by_cases h2 : s.size ≤ 12
    · have e : Ev (fun k => spec_l02NameEnd.f k s 0) (if letterB (bt s 0) = true then (((bytesOf s).takeWhile nameB).length : Int) else 0) := by
        cases hl : letterB (bt s 0) with
        | true =>
          have r := nameEnd_loop s (by omega) (bytesOf s) 0 (by omega) rfl
          rw [if_pos rfl]
          simp only [Int.natCast_zero, Int.zero_add] at r
          refine Ev.congr (f := fun k => spec_l02NameEnd.j0 k s 0 false) (fun k => ?_) (Ev.step (f := fun k => spec_l02NameEnd.l0 k s 0) (fun k => by simp only [spec_l02NameEnd.j0]; simp) r)
          unfold spec_l02NameEnd.f
          rw [if_neg (by omega), if_pos (by omega), if_pos (by omega), spec_letter, hl]
          rfl
        | false =>
          rw [if_neg (by simp)]
          refine Ev.congr (f := fun k => spec_l02NameEnd.j0 k s 0 true) (fun k => ?_) (Ev.step (f := fun _ => some 0) (fun k => by simp only [spec_l02NameEnd.j0]; simp) (Ev.now 0))
          unfold spec_l02NameEnd.f
          rw [if_neg (by omega), if_pos (by omega), if_pos (by omega), spec_letter, hl]
          rfl
      refine Ev.congr (f := fun k => (spec_l02NameEnd.f k s 0).bind fun t => some (t == (s.size : Int))) (fun k => ?_) (Ev.bind e ?_)
      · unfold spec_IsName.f
        rw [if_neg hne, if_pos (by omega)]
      · have hx : (decide (1 ≤ s.size) && (decide (s.size ≤ 12) && (letterB (bt s 0) && (bytesOf s).all nameB))) = ((if letterB (bt s 0) = true then (((bytesOf s).takeWhile nameB).length : Int) else 0) == (s.size : Int)) := by
          rw [decide_eq_true h1, decide_eq_true h2]
          simp only [Bool.true_and]
          cases hl : letterB (bt s 0) with
          | true =>
            rw [if_pos rfl, Bool.true_and]
            have h3 := takeWhile_all (bytesOf s) nameB
            rw [bytesOf_length] at h3
            rw [Bool.eq_iff_iff, ← h3, beq_iff_eq]
            omega
          | false =>
            rw [if_neg (by simp), Bool.false_and]
            have h4 : ¬ (0 : Int) = (s.size : Int) := by omega
            simp [h4]
        rw [hx]
        exact Ev.now _
    · rw [decide_eq_false h2]
      simp only [Bool.false_and, Bool.and_false]
      refine Ev.congr (f := fun _ => some false) (fun k => ?_) (Ev.now false)
      unfold spec_IsName.f
      rw [if_neg hne, if_neg (by omega)]
  · rw [decide_eq_false h1]
    simp only [Bool.false_and]
    refine Ev.congr (f := fun _ => some false) (fun k => ?_) (Ev.now false)
    unfold spec_IsName.f
    rw [if_pos (by rw [Go.ByteArray.toList_eq]; exact List.eq_nil_of_length_eq_zero (by rw [data_length]; omega))]
theorem areAllName_loop (s : ByteArray) (hs : s.size ≤ 9223372036854775807) (l : List Int) : ∀ i : Nat, i ≤ s.size → (bytesOf s).drop i = l → Ev (fun k => impl_areAll_byte_at_impl_isNameByte.l0 k (bytesOf s) (s.size : Int) (i : Int)) (l.all nameB) := by
  induction l with
  | nil =>
    intro i hi hd
    have h2 := bytes_end s i hd hi
    refine Ev.step (f := fun _ => some true) (fun k => ?_) (by simpa using Ev.now true)
    simp only [impl_areAll_byte_at_impl_isNameByte.l0]
    rw [if_neg (by omega)]
  | cons c l ih =>
    intro i hi hd
    obtain ⟨hlt, _, hb, hd'⟩ := bytes_at s i c l hd
    rw [List.all_cons]
    cases hn : nameB c with
    | true =>
      rw [Bool.true_and]
      refine Ev.step (f := fun k => impl_areAll_byte_at_impl_isNameByte.l0 k (bytesOf s) (s.size : Int) ((i + 1 : Nat) : Int)) (fun k => ?_) (ih (i + 1) (by omega) hd')
      simp only [impl_areAll_byte_at_impl_isNameByte.l0]
      rw [if_pos (by omega), if_pos (by omega), if_pos (by rw [bytesOf_length]; omega), hb, impl_nameByte, hn, wrapn i s.size hlt hs]
      rfl
    | false =>
      rw [Bool.false_and]
      refine Ev.step (f := fun _ => some false) (fun k => ?_) (Ev.now false)
      simp only [impl_areAll_byte_at_impl_isNameByte.l0]
      rw [if_pos (by omega), if_pos (by omega), if_pos (by rw [bytesOf_length]; omega), hb, impl_nameByte, hn]
      rfl
theorem impl_isName (s : ByteArray) : Ev (fun k => impl_IsName.f k s) (isNameB s) := by
  unfold isNameB
  by_cases h1 : 1 ≤ s.size
  · by_cases h2 : s.size ≤ 12
    · rw [decide_eq_true h1, decide_eq_true h2]
      simp only [Bool.true_and]
      cases hl : letterB (bt s 0) with
      | true =>
        rw [Bool.true_and]
        have r := areAllName_loop s (by omega) (bytesOf s) 0 (by omega) rfl
        refine Ev.congr (f := fun k => (impl_areAll_byte_at_impl_isNameByte.f k (bytesOf s)).bind fun t => some t) (fun k => ?_) (Ev.bind (Ev.congr (fun k => ?_) r) (Ev.now _))
        · unfold impl_IsName.f
          rw [if_pos (by omega), if_pos (by omega), if_pos (by omega), impl_letter, hl, Option.bind_some, if_pos rfl, if_pos (by omega)]
        · unfold impl_areAll_byte_at_impl_isNameByte.f
          rw [bytesOf_length]
          rfl
      | false =>
        rw [Bool.false_and]
        refine Ev.congr (f := fun _ => some false) (fun k => ?_) (Ev.now false)
        unfold impl_IsName.f
        rw [if_pos (by omega), if_pos (by omega), if_pos (by omega), impl_letter, hl]
        rfl
    · rw [decide_eq_false h2]
      simp only [Bool.false_and, Bool.and_false]
      refine Ev.congr (f := fun _ => some false) (fun k => ?_) (Ev.now false)
      unfold impl_IsName.f
      rw [if_pos (by omega), if_neg (by omega)]
  · rw [decide_eq_false h1]
    simp only [Bool.false_and]
    refine Ev.congr (f := fun _ => some false) (fun k => ?_) (Ev.now false)
    unfold impl_IsName.f
    rw [if_neg (by omega)]
-- the bytes of a string, one after another
theorem byt_at (s : ByteArray) (i : Nat) (c : Int) (l : List Int) (h : (bytesOf s).drop i = c :: l) : i < s.size ∧ bt s (i : Int) = c ∧ rd (bytesOf s) (i : Int) = c ∧ (bytesOf s).drop (i + 1) = l := by
  have h1 : i < (bytesOf s).length := by
    rcases Nat.lt_or_ge i (bytesOf s).length with h2 | h2
    · exact h2
    · rw [List.drop_eq_nil_of_le h2] at h
      cases h
  rw [List.drop_eq_getElem_cons h1] at h
  injection h with h2 h3
  have h4 : rd (bytesOf s) (i : Int) = c := by
    unfold rd
    rw [Int.toNat_natCast, List.getD_eq_getElem?_getD, List.getElem?_eq_getElem h1]
    exact h2
  refine ⟨by rw [← bytesOf_length]; exact h1, ?_, h4, h3⟩
  rw [← rd_bytesOf]
  exact h4
theorem byt_end (s : ByteArray) (i : Nat) (h : (bytesOf s).drop i = []) (hi : i ≤ s.size) : i = s.size := by
  have := congrArg List.length h
  rw [List.length_drop, bytesOf_length] at this
  simp at this
  omega
theorem wrapb (i n : Nat) (h : i < n) (hn : n ≤ 9223372036854775807) : wrap64 ((i : Int) + 1) = ((i + 1 : Nat) : Int) := by unfold wrap64; omega
-- plain texts: the program's isPlainText and the reference's l01Printable (behind Bytes)
def plainB (c : Int) : Bool := decide (32 ≤ c) && decide (c ≤ 126)
theorem spec_print_loop (s : ByteArray) (hs : s.size ≤ 9223372036854775807) (l : List Int) : ∀ i : Nat, i ≤ s.size → (bytesOf s).drop i = l → Ev (fun k => spec_l01Printable.l0 k s false (i : Int)) (l.all plainB) := by
  induction l with
  | nil =>
    intro i hi hd
    have h2 := byt_end s i hd hi
    refine Ev.step (f := fun _ => some true) (fun k => ?_) (by simpa using Ev.now true)
    simp only [spec_l01Printable.l0]
    rw [if_neg (by omega)]
  | cons c l ih =>
    intro i hi hd
    obtain ⟨hlt, hb, _, hd'⟩ := byt_at s i c l hd
    rw [List.all_cons]
    by_cases h1 : c < 32
    · rw [show plainB c = false by unfold plainB; rw [decide_eq_false (by omega), Bool.false_and], Bool.false_and]
      refine Ev.step (f := fun _ => some false) (fun k => ?_) (Ev.now false)
      simp only [spec_l01Printable.l0]
      rw [if_pos (by omega), if_pos (by omega), hb, if_pos h1]
      simp
    · by_cases h2 : c > 126
      · rw [show plainB c = false by unfold plainB; rw [decide_eq_false (show ¬ c ≤ 126 by omega), Bool.and_false], Bool.false_and]
        refine Ev.step (f := fun _ => some false) (fun k => ?_) (Ev.now false)
        simp only [spec_l01Printable.l0]
        rw [if_pos (by omega), if_pos (by omega), hb, if_neg h1, if_pos h2]
        simp
      · rw [show plainB c = true by unfold plainB; rw [decide_eq_true (show 32 ≤ c by omega), decide_eq_true (show c ≤ 126 by omega)]; rfl, Bool.true_and]
        refine Ev.step (f := fun k => spec_l01Printable.l0 k s false ((i + 1 : Nat) : Int)) (fun k => ?_) (ih (i + 1) (by omega) hd')
        simp only [spec_l01Printable.l0]
        rw [if_pos (by omega), if_pos (by omega), hb, if_neg h1, if_neg h2, wrapb i s.size hlt hs]
theorem impl_isPlain_ev (c : Int) : impl_isPlain.f c = some (plainB c) := by
  unfold impl_isPlain.f plainB
  by_cases h1 : 32 ≤ c <;> simp [h1]
theorem areAllPlain_loop (s : ByteArray) (hs : s.size ≤ 9223372036854775807) (l : List Int) : ∀ i : Nat, i ≤ s.size → (bytesOf s).drop i = l → Ev (fun k => impl_areAll_byte_at_impl_isPlain.l0 k (bytesOf s) (s.size : Int) (i : Int)) (l.all plainB) := by
  induction l with
  | nil =>
    intro i hi hd
    have h2 := byt_end s i hd hi
    refine Ev.step (f := fun _ => some true) (fun k => ?_) (by simpa using Ev.now true)
    simp only [impl_areAll_byte_at_impl_isPlain.l0]
    rw [if_neg (by omega)]
  | cons c l ih =>
    intro i hi hd
    obtain ⟨hlt, _, hb, hd'⟩ := byt_at s i c l hd
    rw [List.all_cons]
    cases hn : plainB c with
    | true =>
      rw [Bool.true_and]
      refine Ev.step (f := fun k => impl_areAll_byte_at_impl_isPlain.l0 k (bytesOf s) (s.size : Int) ((i + 1 : Nat) : Int)) (fun k => ?_) (ih (i + 1) (by omega) hd')
      simp only [impl_areAll_byte_at_impl_isPlain.l0]
      rw [if_pos (by omega), if_pos (by omega), if_pos (by rw [bytesOf_length]; omega), hb, impl_isPlain_ev, hn, wrapb i s.size hlt hs]
      rfl
    | false =>
      rw [Bool.false_and]
      refine Ev.step (f := fun _ => some false) (fun k => ?_) (Ev.now false)
      simp only [impl_areAll_byte_at_impl_isPlain.l0]
      rw [if_pos (by omega), if_pos (by omega), if_pos (by rw [bytesOf_length]; omega), hb, impl_isPlain_ev, hn]
      rfl
theorem impl_plainText (s : ByteArray) (hs : s.size ≤ 9223372036854775807) : Ev (fun k => impl_isPlainText.f k s) ((bytesOf s).all plainB) := by
  have r := areAllPlain_loop s hs (bytesOf s) 0 (by omega) rfl
  refine Ev.congr (f := fun k => (impl_areAll_byte_at_impl_isPlain.f k (bytesOf s)).bind fun t => some t) (fun k => ?_) (Ev.bind (Ev.congr (fun k => ?_) r) (Ev.now _))
  · unfold impl_isPlainText.f
    rw [if_pos hs]
  · unfold impl_areAll_byte_at_impl_isPlain.f
    rw [bytesOf_length]
    rfl
theorem spec_printable (s : ByteArray) (hs : s.size ≤ 9223372036854775807) : Ev (fun k => spec_l01Printable.f k s false) ((bytesOf s).all plainB) := by
  refine Ev.congr (fun k => ?_) (spec_print_loop s hs (bytesOf s) 0 (by omega) rfl)
  unfold spec_l01Printable.f
  rfl
-- what strings.Contains tells where one byte is sought
theorem idx_mem (l : List UInt8) (c : UInt8) : (0 ≤ Lib.indexByte l c) ↔ c ∈ l := by
  induction l with
  | nil => simp [Lib.indexByte]
  | cons b l ih =>
    unfold Lib.indexByte
    by_cases h : b = c
    · simp [h]
    · have hb : (b == c) = false := by simp [h]
      have hc : ¬ c = b := fun e => h e.symm
      have g := Lib.indexByte_ge l c
      rw [hb, List.mem_cons, ← ih]
      simp only [Bool.false_eq_true, if_false]
      by_cases e : Lib.indexByte l c = -1
      · rw [if_pos (by simp [e]), e]
        simp [hc]
      · rw [if_neg (by simp [e])]
        constructor
        · intro _
          exact Or.inr (by omega)
        · intro h2
          rcases h2 with h2 | h2
          · exact absurd h2 hc
          · omega
theorem contains_one (s : ByteArray) (c : UInt8) : strings_Contains.f s ⟨#[c]⟩ = some (decide (c ∈ s.data.toList)) := by
  unfold strings_Contains.f
  rw [if_pos (show (⟨#[c]⟩ : ByteArray).data.size = 1 from rfl)]
  simp only [show ((⟨#[c]⟩ : ByteArray).data.toList.headD 0) = c from rfl, idx_mem]
theorem any_byte (s : ByteArray) (c : UInt8) : (bytesOf s).any (fun b => b == (c.toNat : Int)) = decide (c ∈ s.data.toList) := by
  unfold bytesOf
  rw [Bool.eq_iff_iff, List.any_eq_true, decide_eq_true_iff]
  constructor
  · rintro ⟨x, hx, e⟩
    obtain ⟨b, hb, rfl⟩ := List.mem_map.1 hx
    have : b = c := UInt8.toNat_inj.1 (by have := beq_iff_eq.1 e; omega)
    exact this ▸ hb
  · intro h
    exact ⟨_, List.mem_map.2 ⟨c, h, rfl⟩, by simp⟩
-- what can be quoted (behind Bytes, Plain, OneByte)
theorem spec_holds_loop (s : ByteArray) (x : Int) (hs : s.size ≤ 9223372036854775807) (l : List Int) : ∀ i : Nat, i ≤ s.size → (bytesOf s).drop i = l → Ev (fun k => spec_l02Holds.l0 k s x (i : Int)) (l.any fun b => b == x) := by
  induction l with
  | nil =>
    intro i hi hd
    have h2 := byt_end s i hd hi
    refine Ev.step (f := fun _ => some false) (fun k => ?_) (by simpa using Ev.now false)
    simp only [spec_l02Holds.l0]
    rw [if_neg (by omega)]
  | cons c l ih =>
    intro i hi hd
    obtain ⟨hlt, hb, _, hd'⟩ := byt_at s i c l hd
    rw [List.any_cons]
    by_cases h1 : c = x
    · rw [beq_iff_eq.mpr h1, Bool.true_or]
      refine Ev.step (f := fun _ => some true) (fun k => ?_) (Ev.now true)
      simp only [spec_l02Holds.l0]
      rw [if_pos (by omega), if_pos (by omega), hb, if_pos h1]
    · rw [beq_eq_false_iff_ne.mpr h1, Bool.false_or]
      refine Ev.step (f := fun k => spec_l02Holds.l0 k s x ((i + 1 : Nat) : Int)) (fun k => ?_) (ih (i + 1) (by omega) hd')
      simp only [spec_l02Holds.l0]
      rw [if_pos (by omega), if_pos (by omega), hb, if_neg h1, wrapb i s.size hlt hs]
theorem spec_holds (s : ByteArray) (c : UInt8) (hs : s.size ≤ 9223372036854775807) : Ev (fun k => spec_l02Holds.f k s (c.toNat : Int)) (decide (c ∈ s.data.toList)) := by
  rw [← any_byte]
  refine Ev.congr (fun k => ?_) (spec_holds_loop s (c.toNat : Int) hs (bytesOf s) 0 (by omega) rfl)
  unfold spec_l02Holds.f
  rfl
/-- What can be quoted. -/
def quoteB (s : ByteArray) : Bool := decide (s.size ≤ 200) && ((bytesOf s).all plainB && (!(decide ((39 : UInt8) ∈ s.data.toList) && decide ((34 : UInt8) ∈ s.data.toList))))
theorem spec_quote (s : ByteArray) : Ev (fun k => spec_CanQuote.f k s) (quoteB s) := by
  unfold spec_CanQuote.f quoteB
  by_cases h : s.size ≤ 200
  · simp only [if_pos (show (s.size : Int) ≤ 200 by omega)]
    rw [decide_eq_true h, Bool.true_and]
    refine Ev.bind (spec_printable s (by omega)) ?_
    cases (bytesOf s).all plainB with
    | false => exact Ev.congr (f := fun _ => some false) (fun k => by rw [if_neg (by simp)]) (Ev.now false)
    | true =>
      simp only [if_true, Bool.true_and]
      refine Ev.bind (spec_holds s 39 (by omega)) ?_
      cases decide ((39 : UInt8) ∈ s.data.toList) with
      | false => exact Ev.congr (f := fun _ => some true) (fun k => by rw [if_neg (by simp)]; rfl) (Ev.now true)
      | true =>
        simp only [if_true, Bool.true_and]
        exact Ev.bind (spec_holds s 34 (by omega)) (Ev.now _)
  · simp only [if_neg (show ¬ (s.size : Int) ≤ 200 by omega)]
    rw [decide_eq_false h, Bool.false_and]
    exact Ev.now false
theorem impl_quote (s : ByteArray) : Ev (fun k => impl_CanQuote.f k s) (quoteB s) := by
  unfold impl_CanQuote.f quoteB
  by_cases h : s.size ≤ 200
  · simp only [if_pos (show (s.size : Int) ≤ 200 by omega)]
    rw [decide_eq_true h, Bool.true_and]
    refine Ev.bind (impl_plainText s (by omega)) ?_
    cases (bytesOf s).all plainB with
    | false => exact Ev.congr (f := fun _ => some false) (fun k => by rw [if_neg (by simp)]) (Ev.now false)
    | true =>
      simp only [if_true, Bool.true_and, contains_one, Option.bind_some]
      cases decide ((39 : UInt8) ∈ s.data.toList) with
      | false => exact Ev.congr (f := fun _ => some true) (fun k => by rw [if_neg (by simp)]; rfl) (Ev.now true)
      | true =>
        simp only [if_true, Bool.true_and]
        exact Ev.now _
  · simp only [if_neg (show ¬ (s.size : Int) ≤ 200 by omega)]
    rw [decide_eq_false h, Bool.false_and]
    exact Ev.now false
-- operators (behind OneByte)
theorem op_byte (c : UInt8) : spec_l02Operator.f (c.toNat : Int) = some (decide (c ∈ [43, 45, 42, 47, 124, 46, 36, 64, 61])) := by
  unfold spec_l02Operator.f
  have z : ∀ n : UInt8, ((c.toNat : Int) = (n.toNat : Int)) ↔ c = n := fun n => ⟨fun e => UInt8.toNat_inj.1 (by omega), fun e => by rw [e]⟩
  have e0 := z 43; have e1 := z 45; have e2 := z 42; have e3 := z 47; have e4 := z 124; have e5 := z 46; have e6 := z 36; have e7 := z 64; have e8 := z 61
  simp only [show ((43 : UInt8).toNat : Int) = 43 from rfl, show ((45 : UInt8).toNat : Int) = 45 from rfl, show ((42 : UInt8).toNat : Int) = 42 from rfl, show ((47 : UInt8).toNat : Int) = 47 from rfl, show ((124 : UInt8).toNat : Int) = 124 from rfl, show ((46 : UInt8).toNat : Int) = 46 from rfl, show ((36 : UInt8).toNat : Int) = 36 from rfl, show ((64 : UInt8).toNat : Int) = 64 from rfl, show ((61 : UInt8).toNat : Int) = 61 from rfl] at e0 e1 e2 e3 e4 e5 e6 e7 e8
  simp only [e0, e1, e2, e3, e4, e5, e6, e7, e8, List.mem_cons, List.not_mem_nil, or_false]
  by_cases h0 : c = 43
  · simp [h0]
  by_cases h1 : c = 45
  · simp [h1]
  by_cases h2 : c = 42
  · simp [h2]
  by_cases h3 : c = 47
  · simp [h3]
  by_cases h4 : c = 124
  · simp [h4]
  by_cases h5 : c = 46
  · simp [h5]
  by_cases h6 : c = 36
  · simp [h6]
  by_cases h7 : c = 64
  · simp [h7]
  by_cases h8 : c = 61
  · simp [h8]
  simp [h0, h1, h2, h3, h4, h5, h6, h7, h8]
/-- What an operator is. -/
def opB (s : ByteArray) : Bool := decide (s.size = 1) && decide (s.data.toList.headD 0 ∈ [(43 : UInt8), 45, 42, 47, 124, 46, 36, 64, 61])
theorem one_byte (s : ByteArray) (h : s.size = 1) : ∃ c : UInt8, s = ⟨#[c]⟩ := by
  obtain ⟨⟨l⟩⟩ := s
  match l, h with
  | [c], _ => exact ⟨c, rfl⟩
theorem spec_op (s : ByteArray) : spec_IsOperator.f s = some (opB s) := by
  unfold spec_IsOperator.f opB
  by_cases h : s.size = 1
  · obtain ⟨c, rfl⟩ := one_byte s h
    rw [if_pos (by omega), if_pos (by omega), show bt (⟨#[c]⟩ : ByteArray) 0 = (c.toNat : Int) from rfl, op_byte]
    rfl
  · rw [if_neg (by omega), decide_eq_false h, Bool.false_and]
theorem impl_op (s : ByteArray) : impl_IsOperator.f s = some (opB s) := by
  unfold impl_IsOperator.f opB
  by_cases h : s.size = 1
  · obtain ⟨c, rfl⟩ := one_byte s h
    rw [if_pos (by omega), contains_one]
    rfl
  · rw [if_neg (by omega), decide_eq_false h, Bool.false_and]
-- tokens: the program's ValidToken and the reference's (behind Name, Bytes, Plain, OneByte, Quote, Operator)
theorem and_l {F : Nat → Option Bool} {b : Bool} (p : Bool) (h : Ev F b) : Ev (fun k => (F k).bind fun t => if t = true then some p else some false) (p && b) := by
  refine Ev.bind h ?_
  cases b <;> cases p <;> exact Ev.now _
theorem and_r {F : Nat → Option Bool} {b : Bool} (p : Bool) (c : Prop) [Decidable c] (e : p = decide c) (h : Ev F b) : Ev (fun k => if c then (F k).bind fun t => some t else some false) (p && b) := by
  subst e
  by_cases hc : c
  · simp only [if_pos hc, decide_eq_true hc, Bool.true_and]
    exact Ev.bind h (Ev.now _)
  · simp only [if_neg hc, decide_eq_false hc, Bool.false_and]
    exact Ev.now _
theorem tok_in (a b c : Int) : spec_l00In.f a b c = some (decide (b ≤ a) && decide (a ≤ c)) := by
  unfold spec_l00In.f
  by_cases h : b ≤ a <;> simp [h]
theorem tok_within (a b c : Int) : impl_within.f a b c = some (decide (b ≤ a) && decide (a ≤ c)) := by
  unfold impl_within.f
  by_cases h : b ≤ a <;> simp [h]
/-- What a valid token is. -/
def tokB (a b : Int) (s : ByteArray) : Bool :=
  if a = 1 then (b == 0) && isNameB s
  else if a = 2 then (s.toList == ([] : List UInt8)) && (decide (0 ≤ b) && decide (b ≤ 1000000000000))
  else if a = 3 then (b == 0) && quoteB s
  else if a = 4 then (b == 0) && opB s
  else (decide (5 ≤ a) && decide (a ≤ 10)) && ((b == 0) && (s.toList == ([] : List UInt8)))
set_option linter.unusedSimpArgs false in
theorem spec_tok (a b : Int) (s : ByteArray) (x y : Bool) : Ev (fun k => spec_ValidToken.f k a b s x y) (tokB a b s) := by
  unfold spec_ValidToken.f tokB
  by_cases h1 : a = 1
  · simp only [if_pos h1]
    exact and_l _ (spec_isName s)
  simp only [if_neg h1]
  by_cases h2 : a = 2
  · simp only [if_pos h2, tok_in]
    exact and_r _ _ (by rw [Bool.eq_iff_iff]; simp) (Ev.now _)
  simp only [if_neg h2]
  by_cases h3 : a = 3
  · simp only [if_pos h3]
    exact and_l _ (spec_quote s)
  simp only [if_neg h3]
  by_cases h4 : a = 4
  · simp only [if_pos h4, spec_op]
    exact and_l _ (Ev.now _)
  simp only [if_neg h4, tok_in, Option.bind_some]
  cases (decide (5 ≤ a) && decide (a ≤ 10)) with
  | false => exact Ev.congr (f := fun _ => some false) (fun k => by rw [if_neg (by simp)]) (Ev.now _)
  | true =>
    by_cases hs : s.toList = []
    · rw [beq_iff_eq.mpr hs]
      simp only [if_true, if_pos hs, Bool.true_and, Bool.and_true]
      exact Ev.now _
    · rw [beq_eq_false_iff_ne.mpr hs]
      simp only [if_true, if_neg hs, Bool.true_and, Bool.and_false]
      exact Ev.now _
set_option linter.unusedSimpArgs false in
theorem impl_tok (a b : Int) (s : ByteArray) (x y : Bool) : Ev (fun k => impl_ValidToken.f k a b s x y) (tokB a b s) := by
  have z : (b == 0) = decide (b = 0) := by rw [Bool.eq_iff_iff]; simp
  unfold impl_ValidToken.f tokB
  by_cases h1 : a = 1
  · simp only [if_pos h1]
    exact and_r _ _ z (impl_isName s)
  simp only [if_neg h1]
  by_cases h2 : a = 2
  · simp only [if_pos h2, impl_isNumber.f, tok_within, Option.bind_some]
    exact and_r _ _ (by rw [Bool.eq_iff_iff]; simp) (Ev.now _)
  simp only [if_neg h2]
  by_cases h3 : a = 3
  · simp only [if_pos h3]
    exact and_r _ _ z (impl_quote s)
  simp only [if_neg h3]
  by_cases h4 : a = 4
  · simp only [if_pos h4, impl_op]
    exact and_r _ _ z (Ev.now _)
  simp only [if_neg h4, tok_within, Option.bind_some]
  cases (decide (5 ≤ a) && decide (a ≤ 10)) with
  | false => exact Ev.congr (f := fun _ => some false) (fun k => by rw [if_neg (by simp)]) (Ev.now _)
  | true =>
    by_cases hb : b = 0
    · rw [beq_iff_eq.mpr hb]
      simp only [if_true, if_pos hb, Bool.true_and]
      exact Ev.now _
    · rw [beq_eq_false_iff_ne.mpr hb]
      simp only [if_true, if_neg hb, Bool.true_and, Bool.false_and]
      exact Ev.now _
set_option linter.unusedSimpArgs false in
theorem szTok_some (a : Int) (b : Int) (s : ByteArray) (x y : Bool) (e : Int) : ∃ r, laws_szToken.f a b s x y e = some r := by
  unfold laws_szToken.f
  split
  · exact ⟨_, rfl⟩
  · exact ⟨_, rfl⟩
def infixB (a b : Int) (s : ByteArray) (x y : Bool) : Bool := tokB a b s && (decide (a = 4) && (x && y))
theorem spec_infix (a b : Int) (s : ByteArray) (x y : Bool) : Ev (fun k => spec_IsInfix.f k a b s x y) (infixB a b s x y) := by
  unfold spec_IsInfix.f infixB
  refine Ev.bind (spec_tok a b s x y) ?_
  cases tokB a b s with
  | false => exact Ev.congr (f := fun _ => some false) (fun k => by rw [if_neg (by simp)]) (Ev.now _)
  | true =>
    by_cases h : a = 4
    · rw [decide_eq_true h]
      simp only [if_true, if_pos h, Bool.true_and]
      cases x <;> cases y <;> exact Ev.now _
    · rw [decide_eq_false h]
      simp only [if_true, if_neg h, Bool.true_and, Bool.false_and]
      exact Ev.now _
theorem impl_infix (a b : Int) (s : ByteArray) (x y : Bool) : Ev (fun k => impl_IsInfix.f k a b s x y) (infixB a b s x y) := by
  unfold impl_IsInfix.f infixB
  refine Ev.bind (impl_tok a b s x y) ?_
  cases tokB a b s with
  | false => exact Ev.congr (f := fun _ => some false) (fun k => by rw [if_neg (by simp)]) (Ev.now _)
  | true =>
    by_cases h : a = 4
    · rw [decide_eq_true h]
      simp only [if_true, if_pos h, Bool.true_and]
      cases x <;> cases y <;> exact Ev.now _
    · rw [decide_eq_false h]
      simp only [if_true, if_neg h, Bool.true_and, Bool.false_and]
      exact Ev.now _
end IsInfix
open IsInfix in
theorem FnExactIsInfix : laws_FnExactIsInfix.Pure := by
  intro x _
  apply Ev.rounds
  unfold laws_FnExactIsInfix.f
  obtain ⟨r, hr⟩ := szTok_some x.f0 x.f1 x.f2 x.f3 x.f4 1048576
  rw [hr]
  simp only [Option.bind_some]
  by_cases c1 : r < 0
  · simp only [if_pos c1]
    exact Ev.now true
  simp only [if_neg c1, laws_toToken.f, Option.bind_some]
  refine Ev.bind (spec_infix _ _ _ _ _) (Ev.bind (impl_infix _ _ _ _ _) ?_)
  exact Ev.congr (f := fun _ => some true) (fun k => by simp) (Ev.now true)
end Go.Proofs.Ythiooabcgkidbaa.Pure
