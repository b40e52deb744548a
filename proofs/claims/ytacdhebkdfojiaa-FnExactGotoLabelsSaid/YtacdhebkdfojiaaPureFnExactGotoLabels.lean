/- FnExactGotoLabels answers true for every goto: the program's GotoLabels and the reference's give the non-empty labels of a valid goto in the same order, and the results share no memory. Conditions: none beyond the statement's own. -/
import Derived.Test.YtacdhebkdfojiaaPFnExactGotoLabelsx4
namespace Go.Proofs.Ytacdhebkdfojiaa.Pure
open Go.RowKit Go.Proofs.Ytacdhebkdfojiaa.PFnExactGotoLabels Go.Proofs.YtacdhebkdfojiaaW.PrintWords Go.Proofs.YtacdhebkdfojiaaW.PrintLast
namespace GotoLabels
-- names: the program's IsName and the reference's
def letterB (c : Int) : Bool := (decide (65 ≤ c) && decide (c ≤ 90)) || (decide (97 ≤ c) && decide (c ≤ 122))
def digitB (c : Int) : Bool := decide (48 ≤ c) && decide (c ≤ 57)
def nameB (c : Int) : Bool := letterB c || (digitB c || c == 95)
theorem spec_letter (c : Int) : spec_l02Letter.f c = some (letterB c) := by
  unfold spec_l02Letter.f letterB
  by_cases h1 : 65 ≤ c <;> by_cases h2 : c ≤ 90 <;> by_cases h3 : 97 ≤ c <;> simp [h1, h2, h3]
theorem spec_digit (c : Int) : spec_l02Digit.f c = some (digitB c) := by
  unfold spec_l02Digit.f digitB
  by_cases h1 : 48 ≤ c <;> simp [h1]
theorem impl_letter (c : Int) : impl_isLetter.f c = some (letterB c) := by
  unfold impl_isLetter.f letterB
  by_cases h1 : 65 ≤ c <;> by_cases h2 : c ≤ 90 <;> by_cases h3 : 97 ≤ c <;> simp [h1, h2, h3]
theorem impl_digit (c : Int) : impl_isDigit.f c = some (digitB c) := by
  unfold impl_isDigit.f digitB
  by_cases h1 : 48 ≤ c <;> simp [h1]
theorem impl_nameByte (c : Int) : impl_isNameByte.f c = some (nameB c) := by
  unfold impl_isNameByte.f nameB
  rw [impl_letter, impl_digit]
  cases letterB c <;> cases digitB c <;> simp
theorem bytes_at (s : ByteArray) (i : Nat) (c : Int) (l : List Int) (h : (bytesOf s).drop i = c :: l) : i < s.size ∧ bt s (i : Int) = c ∧ rd (bytesOf s) (i : Int) = c ∧ (bytesOf s).drop (i + 1) = l := by
  have h1 : i < (bytesOf s).length := by
    rcases Nat.lt_or_ge i (bytesOf s).length with h2 | h2
    · exact h2
    · rw [List.drop_eq_nil_of_le h2] at h
      cases h
  rw [List.drop_eq_getElem_cons h1] at h
  injection h with h2 h3
  have h4 : rd (bytesOf s) (i : Int) = c := by
    unfold rd
    rw [Int.toNat_natCast, List.getD_eq_getElem?_getD, List.getElem?_eq_getElem h1]
    exact h2
  refine ⟨by rw [← bytesOf_length]; exact h1, ?_, h4, h3⟩
  rw [← rd_bytesOf]
  exact h4
theorem bytes_end (s : ByteArray) (i : Nat) (h : (bytesOf s).drop i = []) (hi : i ≤ s.size) : i = s.size := by
  have := congrArg List.length h
  rw [List.length_drop, bytesOf_length] at this
  simp at this
  omega
theorem wrapn (i n : Nat) (h : i < n) (hn : n ≤ 9223372036854775807) : wrap64 ((i : Int) + 1) = ((i + 1 : Nat) : Int) := by unfold wrap64; omega
theorem nameEnd_loop (s : ByteArray) (hs : s.size ≤ 9223372036854775807) (l : List Int) : ∀ i : Nat, i ≤ s.size → (bytesOf s).drop i = l → Ev (fun k => spec_l02NameEnd.l0 k s (i : Int)) ((i : Int) + (l.takeWhile nameB).length) := by
  induction l with
  | nil =>
    intro i hi hd
    have h2 := bytes_end s i hd hi
    refine Ev.step (f := fun _ => some (i : Int)) (fun k => ?_) (by simpa using Ev.now (i : Int))
    simp only [spec_l02NameEnd.l0]
    rw [if_neg (by omega)]
  | cons c l ih =>
    intro i hi hd
    obtain ⟨hlt, hb, _, hd'⟩ := bytes_at s i c l hd
    cases hn : nameB c with
    | true =>
      have r := ih (i + 1) (by omega) hd'
      have e : (i : Int) + ((c :: l).takeWhile nameB).length = ((i + 1 : Nat) : Int) + (l.takeWhile nameB).length := by
        rw [List.takeWhile_cons_of_pos hn, List.length_cons]
        omega
      rw [e]
      refine Ev.step (f := fun k => spec_l02NameEnd.l0 k s ((i + 1 : Nat) : Int)) (fun k => ?_) r
      simp only [spec_l02NameEnd.l0]
      rw [if_pos (by omega), if_pos (by omega), hb, spec_letter, spec_digit, wrapn i s.size hlt hs]
      unfold nameB at hn
      cases hl : letterB c with
      | true => simp
      | false =>
        cases hg : digitB c with
        | true => simp
        | false =>
          rw [hl, hg] at hn
          have hc : c = 95 := by simpa using hn
          simp [hc]
    | false =>
      rw [List.takeWhile_cons_of_neg (by simp [hn])]
      refine Ev.step (f := fun _ => some (i : Int)) (fun k => ?_) (by simpa using Ev.now (i : Int))
      simp only [spec_l02NameEnd.l0]
      rw [if_pos (by omega), if_pos (by omega), hb, spec_letter, spec_digit]
      unfold nameB at hn
      cases hl : letterB c with
      | true => rw [hl] at hn; simp at hn
      | false =>
        cases hg : digitB c with
        | true => rw [hl, hg] at hn; simp at hn
        | false =>
          rw [hl, hg] at hn
          have hc : ¬ c = 95 := by simpa using hn
          simp [hc]
theorem takeWhile_all (l : List Int) (p : Int → Bool) : (l.takeWhile p).length = l.length ↔ l.all p = true := by
  induction l with
  | nil => simp
  | cons c l ih =>
    cases h : p c with
    | true => rw [List.takeWhile_cons_of_pos h]; simp [h, ih]
    | false => rw [List.takeWhile_cons_of_neg (by simp [h])]; simp [h]
/-- What a name is. -/
def isNameB (s : ByteArray) : Bool := decide (1 ≤ s.size) && (decide (s.size ≤ 12) && (letterB (bt s 0) && (bytesOf s).all nameB))
theorem spec_isName (s : ByteArray) : Ev (fun k => spec_IsName.f k s) (isNameB s) := by
  unfold isNameB
  by_cases h1 : 1 ≤ s.size
  · have hne : ¬ s.toList = [] := by
      rw [Go.ByteArray.toList_eq]
      intro e
      have := data_length s
      rw [e] at this
      simp at this
      omega
    by_cases h2 : s.size ≤ 12
    · have e : Ev (fun k => spec_l02NameEnd.f k s 0) (if letterB (bt s 0) = true then (((bytesOf s).takeWhile nameB).length : Int) else 0) := by
        cases hl : letterB (bt s 0) with
        | true =>
          have r := nameEnd_loop s (by omega) (bytesOf s) 0 (by omega) rfl
          rw [if_pos rfl]
          simp only [Int.natCast_zero, Int.zero_add] at r
          refine Ev.congr (f := fun k => spec_l02NameEnd.j0 k s 0 false) (fun k => ?_) (Ev.step (f := fun k => spec_l02NameEnd.l0 k s 0) (fun k => by simp only [spec_l02NameEnd.j0]; simp) r)
          unfold spec_l02NameEnd.f
          rw [if_neg (by omega), if_pos (by omega), if_pos (by omega), spec_letter, hl]
          rfl
        | false =>
          rw [if_neg (by simp)]
          refine Ev.congr (f := fun k => spec_l02NameEnd.j0 k s 0 true) (fun k => ?_) (Ev.step (f := fun _ => some 0) (fun k => by simp only [spec_l02NameEnd.j0]; simp) (Ev.now 0))
          unfold spec_l02NameEnd.f
          rw [if_neg (by omega), if_pos (by omega), if_pos (by omega), spec_letter, hl]
          rfl
      refine Ev.congr (f := fun k => (spec_l02NameEnd.f k s 0).bind fun t => some (t == (s.size : Int))) (fun k => ?_) (Ev.bind e ?_)
      · unfold spec_IsName.f
        rw [if_neg hne, if_pos (by omega)]
      · have hx : (decide (1 ≤ s.size) && (decide (s.size ≤ 12) && (letterB (bt s 0) && (bytesOf s).all nameB))) = ((if letterB (bt s 0) = true then (((bytesOf s).takeWhile nameB).length : Int) else 0) == (s.size : Int)) := by
          rw [decide_eq_true h1, decide_eq_true h2]
          simp only [Bool.true_and]
          cases hl : letterB (bt s 0) with
          | true =>
            rw [if_pos rfl, Bool.true_and]
            have h3 := takeWhile_all (bytesOf s) nameB
            rw [bytesOf_length] at h3
            rw [Bool.eq_iff_iff, ← h3, beq_iff_eq]
            omega
          | false =>
            rw [if_neg (by simp), Bool.false_and]
            have h4 : ¬ (0 : Int) = (s.size : Int) := by omega
            simp [h4]
        rw [hx]
        exact Ev.now _
    · rw [decide_eq_false h2]
      simp only [Bool.false_and, Bool.and_false]
      refine Ev.congr (f := fun _ => some false) (fun k => ?_) (Ev.now false)
      unfold spec_IsName.f
      rw [if_neg hne, if_neg (by omega)]
  · rw [decide_eq_false h1]
    simp only [Bool.false_and]
    refine Ev.congr (f := fun _ => some false) (fun k => ?_) (Ev.now false)
    unfold spec_IsName.f
    rw [if_pos (by rw [Go.ByteArray.toList_eq]; exact List.eq_nil_of_length_eq_zero (by rw [data_length]; omega))]
theorem areAllName_loop (s : ByteArray) (hs : s.size ≤ 9223372036854775807) (l : List Int) : ∀ i : Nat, i ≤ s.size → (bytesOf s).drop i = l → Ev (fun k => impl_areAll_byte_at_impl_isNameByte.l0 k (bytesOf s) (s.size : Int) (i : Int)) (l.all nameB) := by
  induction l with
  | nil =>
    intro i hi hd
    have h2 := bytes_end s i hd hi
    refine Ev.step (f := fun _ => some true) (fun k => ?_) (by simpa using Ev.now true)
    simp only [impl_areAll_byte_at_impl_isNameByte.l0]
    rw [if_neg (by omega)]
  | cons c l ih =>
    intro i hi hd
    obtain ⟨hlt, _, hb, hd'⟩ := bytes_at s i c l hd
    rw [List.all_cons]
    cases hn : nameB c with
    | true =>
      rw [Bool.true_and]
      refine Ev.step (f := fun k => impl_areAll_byte_at_impl_isNameByte.l0 k (bytesOf s) (s.size : Int) ((i + 1 : Nat) : Int)) (fun k => ?_) (ih (i + 1) (by omega) hd')
      simp only [impl_areAll_byte_at_impl_isNameByte.l0]
      rw [if_pos (by omega), if_pos (by omega), if_pos (by rw [bytesOf_length]; omega), hb, impl_nameByte, hn, wrapn i s.size hlt hs]
      rfl
    | false =>
      rw [Bool.false_and]
      refine Ev.step (f := fun _ => some false) (fun k => ?_) (Ev.now false)
      simp only [impl_areAll_byte_at_impl_isNameByte.l0]
      rw [if_pos (by omega), if_pos (by omega), if_pos (by rw [bytesOf_length]; omega), hb, impl_nameByte, hn]
      rfl
theorem impl_isName (s : ByteArray) : Ev (fun k => impl_IsName.f k s) (isNameB s) := by
  unfold isNameB
  by_cases h1 : 1 ≤ s.size
  · by_cases h2 : s.size ≤ 12
    · rw [decide_eq_true h1, decide_eq_true h2]
      simp only [Bool.true_and]
      cases hl : letterB (bt s 0) with
      | true =>
        rw [Bool.true_and]
        have r := areAllName_loop s (by omega) (bytesOf s) 0 (by omega) rfl
        refine Ev.congr (f := fun k => (impl_areAll_byte_at_impl_isNameByte.f k (bytesOf s)).bind fun t => some t) (fun k => ?_) (Ev.bind (Ev.congr (fun k => ?_) r) (Ev.now _))
        · unfold impl_IsName.f
          rw [if_pos (by omega), if_pos (by omega), if_pos (by omega), impl_letter, hl, Option.bind_some, if_pos rfl, if_pos (by omega)]
        · unfold impl_areAll_byte_at_impl_isNameByte.f
          rw [bytesOf_length]
          rfl
      | false =>
        rw [Bool.false_and]
        refine Ev.congr (f := fun _ => some false) (fun k => ?_) (Ev.now false)
        unfold impl_IsName.f
        rw [if_pos (by omega), if_pos (by omega), if_pos (by omega), impl_letter, hl]
        rfl
    · rw [decide_eq_false h2]
      simp only [Bool.false_and, Bool.and_false]
      refine Ev.congr (f := fun _ => some false) (fun k => ?_) (Ev.now false)
      unfold impl_IsName.f
      rw [if_pos (by omega), if_neg (by omega)]
  · rw [decide_eq_false h1]
    simp only [Bool.false_and]
    refine Ev.congr (f := fun _ => some false) (fun k => ?_) (Ev.now false)
    unfold impl_IsName.f
    rw [if_neg (by omega)]
-- gotos: the program's ValidGoto and the reference's (behind Name)
theorem spec_l04 (s : ByteArray) : Ev (fun k => spec_l04Name.f k s) (s.toList == ([] : List UInt8) || isNameB s) := by
  by_cases h : s.toList = []
  · refine Ev.congr (f := fun _ => some true) (fun k => ?_) (by rw [beq_iff_eq.mpr h, Bool.true_or]; exact Ev.now true)
    unfold spec_l04Name.f
    rw [if_pos h]
  · rw [beq_eq_false_iff_ne.mpr h, Bool.false_or]
    refine Ev.congr (f := fun k => (spec_IsName.f k s).bind fun t => some t) (fun k => ?_) (Ev.bind (spec_isName s) (Ev.now _))
    unfold spec_l04Name.f
    rw [if_neg h]
theorem impl_label (s : ByteArray) : Ev (fun k => impl_IsLabel.f k s) (isNameB s) := by
  refine Ev.congr (f := fun k => (impl_IsName.f k s).bind fun t => some t) (fun k => ?_) (Ev.bind (impl_isName s) (Ev.now _))
  rfl
theorem strs_at (l : List ByteArray) (i : Nat) (c : ByteArray) (m : List ByteArray) (h : l.drop i = c :: m) : i < l.length ∧ rdOf ByteArray.empty l (i : Int) = c ∧ l.drop (i + 1) = m := by
  have h1 : i < l.length := by
    rcases Nat.lt_or_ge i l.length with h2 | h2
    · exact h2
    · rw [List.drop_eq_nil_of_le h2] at h
      cases h
  rw [List.drop_eq_getElem_cons h1] at h
  injection h with h2 h3
  refine ⟨h1, ?_, h3⟩
  unfold rdOf
  rw [Int.toNat_natCast, List.getD_eq_getElem?_getD, List.getElem?_eq_getElem h1]
  exact h2
theorem strs_end (l : List ByteArray) (i : Nat) (h : l.drop i = []) (hi : i ≤ l.length) : i = l.length := by
  have := congrArg List.length h
  simp at this
  omega
theorem labels_loop (l : List ByteArray) (hl : l.length ≤ 1000) (m : List ByteArray) : ∀ (i : Nat) (out : List ByteArray), i ≤ l.length → l.drop i = m → out.length ≤ i → Ev (fun k => impl_Goto_labels.l0 k out l (l.length : Int) (i : Int)) (out ++ m.filter fun s => !(s.toList == ([] : List UInt8))) := by
  induction m with
  | nil =>
    intro i out hi hd ho
    have h2 := strs_end l i hd hi
    refine Ev.step (f := fun _ => some out) (fun k => ?_) (by simpa using Ev.now out)
    simp only [impl_Goto_labels.l0]
    rw [if_neg (by omega)]
  | cons c m ih =>
    intro i out hi hd ho
    obtain ⟨hlt, hb, hd'⟩ := strs_at l i c m hd
    by_cases hc : c.toList = []
    · rw [List.filter_cons_of_neg (by simp [hc])]
      refine Ev.step (f := fun k => impl_Goto_labels.l0 k out l (l.length : Int) ((i + 1 : Nat) : Int)) (fun k => ?_) (ih (i + 1) out (by omega) hd' (by omega))
      simp only [impl_Goto_labels.l0]
      rw [if_pos (by omega), if_pos (by omega), if_pos (by omega), hb, if_pos hc, wrapn i l.length hlt (by omega)]
    · rw [List.filter_cons_of_pos (by simp [hc])]
      have r := ih (i + 1) (out ++ [c]) (by omega) hd' (by simp; omega)
      rw [List.append_assoc] at r
      refine Ev.step (f := fun k => impl_Goto_labels.l0 k (out ++ [c]) l (l.length : Int) ((i + 1 : Nat) : Int)) (fun k => ?_) r
      simp only [impl_Goto_labels.l0]
      rw [if_pos (by omega), if_pos (by omega), if_pos (by omega), hb, if_neg hc, if_pos (by omega), wrapn i l.length hlt (by omega)]
theorem labels_ev (a b c : ByteArray) : Ev (fun k => impl_Goto_labels.f k a b c) ([a, b, c].filter fun s => !(s.toList == ([] : List UInt8))) := by
  refine Ev.congr (fun k => ?_) (labels_loop [a, b, c] (by simp) [a, b, c] 0 [] (by omega) rfl (by simp))
  unfold impl_Goto_labels.f
  rfl
theorem allLabels_loop (l : List ByteArray) (hl : l.length ≤ 1000) (m : List ByteArray) : ∀ (i : Nat), i ≤ l.length → l.drop i = m → Ev (fun k => impl_areAll_string_at_impl_IsLabel.l0 k l (l.length : Int) (i : Int)) (m.all isNameB) := by
  induction m with
  | nil =>
    intro i hi hd
    have h2 := strs_end l i hd hi
    refine Ev.step (f := fun _ => some true) (fun k => ?_) (by simpa using Ev.now true)
    simp only [impl_areAll_string_at_impl_IsLabel.l0]
    rw [if_neg (by omega)]
  | cons c m ih =>
    intro i hi hd
    obtain ⟨hlt, hb, hd'⟩ := strs_at l i c m hd
    refine Ev.step (f := fun k => (impl_IsLabel.f k c).bind fun t => if t = true then impl_areAll_string_at_impl_IsLabel.l0 k l (l.length : Int) ((i + 1 : Nat) : Int) else some false) (fun k => ?_) (Ev.bind (impl_label c) ?_)
    · simp only [impl_areAll_string_at_impl_IsLabel.l0]
      rw [if_pos (by omega), if_pos (by omega), if_pos (by omega), hb, wrapn i l.length hlt (by omega)]
    · rw [List.all_cons]
      cases isNameB c with
      | true =>
        rw [Bool.true_and]
        exact Ev.congr (fun k => by rw [if_pos rfl]) (ih (i + 1) (by omega) hd')
      | false =>
        rw [Bool.false_and]
        exact Ev.congr (f := fun _ => some false) (fun k => by rw [if_neg (by simp)]) (Ev.now false)
/-- What a valid goto is. -/
def gotoB (a b c : ByteArray) : Bool := ((a.toList == ([] : List UInt8) || isNameB a) && ((b.toList == ([] : List UInt8) || isNameB b) && (c.toList == ([] : List UInt8) || isNameB c))) && (a.toList == ([] : List UInt8) || (b.toList == ([] : List UInt8) && c.toList == ([] : List UInt8)))
theorem spec_goto (a b c : ByteArray) : Ev (fun k => spec_ValidGoto.f k a b c) (gotoB a b c) := by
  have names : Ev (fun k => spec_ValidGoto.j0 k false a b c) ((a.toList == ([] : List UInt8) || isNameB a) && ((b.toList == ([] : List UInt8) || isNameB b) && (c.toList == ([] : List UInt8) || isNameB c))) := by
    refine Ev.step (f := fun k => (spec_l04Name.f k a).bind fun t => if t = true then (spec_l04Name.f k b).bind fun u => if u = true then (spec_l04Name.f k c).bind fun v => some v else some false else some false) (fun k => by simp only [spec_ValidGoto.j0]; rw [if_neg (by simp)]) (Ev.bind (spec_l04 a) ?_)
    cases (a.toList == ([] : List UInt8) || isNameB a) with
    | true =>
      rw [Bool.true_and]
      refine Ev.congr (f := _) (fun k => by rw [if_pos rfl]) (Ev.bind (spec_l04 b) ?_)
      cases (b.toList == ([] : List UInt8) || isNameB b) with
      | true =>
        rw [Bool.true_and]
        exact Ev.congr (f := _) (fun k => by rw [if_pos rfl]) (Ev.bind (spec_l04 c) (Ev.now _))
      | false =>
        rw [Bool.false_and]
        exact Ev.congr (f := fun _ => some false) (fun k => by rw [if_neg (by simp)]) (Ev.now false)
    | false =>
      rw [Bool.false_and]
      exact Ev.congr (f := fun _ => some false) (fun k => by rw [if_neg (by simp)]) (Ev.now false)
  have no : Ev (fun k => spec_ValidGoto.j0 k true a b c) false := Ev.step (f := fun _ => some false) (fun k => by simp only [spec_ValidGoto.j0]; rw [if_pos trivial]) (Ev.now false)
  unfold gotoB
  by_cases ha : a.toList = []
  · refine Ev.congr (f := fun k => spec_ValidGoto.j0 k false a b c) (fun k => by unfold spec_ValidGoto.f; rw [if_pos ha]) ?_
    rw [show (a.toList == ([] : List UInt8) || (b.toList == ([] : List UInt8) && c.toList == ([] : List UInt8))) = true by simp [ha], Bool.and_true]
    exact names
  · by_cases hb : b.toList = []
    · by_cases hc : c.toList = []
      · refine Ev.congr (f := fun k => spec_ValidGoto.j0 k false a b c) (fun k => by unfold spec_ValidGoto.f; rw [if_neg ha, if_pos hb, bne_eq_false_iff_eq.mpr hc]) ?_
        rw [show (a.toList == ([] : List UInt8) || (b.toList == ([] : List UInt8) && c.toList == ([] : List UInt8))) = true by simp [hb, hc], Bool.and_true]
        exact names
      · refine Ev.congr (f := fun k => spec_ValidGoto.j0 k true a b c) (fun k => by unfold spec_ValidGoto.f; rw [if_neg ha, if_pos hb, bne_iff_ne.mpr hc]) ?_
        rw [show (a.toList == ([] : List UInt8) || (b.toList == ([] : List UInt8) && c.toList == ([] : List UInt8))) = false by simp [ha, hc], Bool.and_false]
        exact no
    · refine Ev.congr (f := fun k => spec_ValidGoto.j0 k true a b c) (fun k => by unfold spec_ValidGoto.f; rw [if_neg ha, if_neg hb]) ?_
      rw [show (a.toList == ([] : List UInt8) || (b.toList == ([] : List UInt8) && c.toList == ([] : List UInt8))) = false by simp [ha, hb], Bool.and_false]
      exact no
theorem filter_all (a b c : ByteArray) : ([a, b, c].filter fun s => !(s.toList == ([] : List UInt8))).all isNameB = ((a.toList == ([] : List UInt8) || isNameB a) && ((b.toList == ([] : List UInt8) || isNameB b) && (c.toList == ([] : List UInt8) || isNameB c))) := by
  simp only [List.filter_cons, List.filter_nil]
  generalize (a.toList == ([] : List UInt8)) = p
  generalize (b.toList == ([] : List UInt8)) = q
  generalize (c.toList == ([] : List UInt8)) = r
  cases p <;> cases q <;> cases r <;> simp
theorem impl_goto (a b c : ByteArray) : Ev (fun k => impl_ValidGoto.f k a b c) (gotoB a b c) := by
  have all : Ev (fun k => impl_areAll_string_at_impl_IsLabel.f k ([a, b, c].filter fun s => !(s.toList == ([] : List UInt8)))) ((a.toList == ([] : List UInt8) || isNameB a) && ((b.toList == ([] : List UInt8) || isNameB b) && (c.toList == ([] : List UInt8) || isNameB c))) := by
    rw [← filter_all]
    have hlen : ([a, b, c].filter fun s => !(s.toList == ([] : List UInt8))).length ≤ 1000 := Nat.le_trans (List.length_filter_le _ _) (by simp)
    refine Ev.congr (fun k => ?_) (allLabels_loop _ hlen _ 0 (by omega) rfl)
    unfold impl_areAll_string_at_impl_IsLabel.f
    rfl
  refine Ev.congr (f := _) (fun k => by rw [impl_ValidGoto.f]) (Ev.bind (labels_ev a b c) (Ev.bind all ?_))
  unfold gotoB
  cases ((a.toList == ([] : List UInt8) || isNameB a) && ((b.toList == ([] : List UInt8) || isNameB b) && (c.toList == ([] : List UInt8) || isNameB c))) with
  | true =>
    rw [Bool.true_and]
    refine Ev.congr (f := fun _ => some _) (fun k => ?_) (Ev.now _)
    rw [if_pos rfl]
    by_cases ha : a.toList = [] <;> by_cases hb : b.toList = [] <;> simp [ha, hb]
  | false =>
    rw [Bool.false_and]
    exact Ev.congr (f := fun _ => some false) (fun k => by rw [if_neg (by simp)]) (Ev.now false)
-- the reference's loop over the labels of a goto (behind Goto)
theorem spec_labels_loop (l : List ByteArray) (hl : l.length ≤ 1000) (m : List ByteArray) : ∀ (i : Nat) (out : List ByteArray), i ≤ l.length → l.drop i = m → out.length ≤ i → Ev (fun k => spec_GotoLabels.l0 k out l (l.length : Int) (i : Int)) (out ++ m.filter fun s => !(s.toList == ([] : List UInt8))) := by
  induction m with
  | nil =>
    intro i out hi hd ho
    have h2 := strs_end l i hd hi
    refine Ev.step (f := fun _ => some out) (fun k => ?_) (by simpa using Ev.now out)
    simp only [spec_GotoLabels.l0]
    rw [if_neg (by omega)]
  | cons c m ih =>
    intro i out hi hd ho
    obtain ⟨hlt, hb, hd'⟩ := strs_at l i c m hd
    by_cases hc : c.toList = []
    · rw [List.filter_cons_of_neg (by simp [hc])]
      refine Ev.step (f := fun k => spec_GotoLabels.l0 k out l (l.length : Int) ((i + 1 : Nat) : Int)) (fun k => ?_) (ih (i + 1) out (by omega) hd' (by omega))
      simp only [spec_GotoLabels.l0]
      rw [if_pos (by omega), if_pos (by omega), if_pos (by omega), hb, if_pos hc, wrapn i l.length hlt (by omega)]
    · rw [List.filter_cons_of_pos (by simp [hc])]
      have r := ih (i + 1) (out ++ [c]) (by omega) hd' (by simp; omega)
      rw [List.append_assoc] at r
      refine Ev.step (f := fun k => spec_GotoLabels.l0 k (out ++ [c]) l (l.length : Int) ((i + 1 : Nat) : Int)) (fun k => ?_) r
      simp only [spec_GotoLabels.l0]
      rw [if_pos (by omega), if_pos (by omega), if_pos (by omega), hb, if_neg hc, if_pos (by omega), wrapn i l.length hlt (by omega)]
-- []string: eqStringS, markText, markStringS, heldStringS of the laws
theorem eqStringS_loop (l : List ByteArray) (hl : l.length ≤ 9223372036854775807) (d : Nat) : ∀ i : Nat, i + d = l.length → Ev (fun k => laws_eqStringS.l0 k l l (i : Int)) true := by
  induction d with
  | zero =>
    intro i hi
    refine Ev.step (f := fun _ => some true) (fun k => ?_) (Ev.now true)
    simp only [laws_eqStringS.l0]
    rw [if_neg (by omega)]
  | succ d ih =>
    intro i hi
    refine Ev.step (f := fun k => laws_eqStringS.l0 k l l ((i + 1 : Nat) : Int)) (fun k => ?_) (ih (i + 1) (by omega))
    simp only [laws_eqStringS.l0]
    rw [if_pos (by omega), if_pos (by omega), if_pos (by omega), if_pos trivial, show wrap64 ((i : Int) + 1) = ((i + 1 : Nat) : Int) by unfold wrap64; omega]
theorem eqStringS_ev (l : List ByteArray) (hl : l.length ≤ 9223372036854775807) : Ev (fun k => laws_eqStringS.f k l l) true := by
  refine Ev.congr (f := fun k => laws_eqStringS.l0 k l l ((0 : Nat) : Int)) (fun k => ?_) (eqStringS_loop l hl l.length 0 (by omega))
  unfold laws_eqStringS.f
  rw [if_pos rfl]
  rfl
theorem strOfNums_one (c : Int) : (strOfNums [c]).size = 1 := by
  unfold strOfNums
  rfl
theorem markText_loop (d : Nat) : ∀ (n : Int) (t : ByteArray), n < 10 ^ d → n ≤ 9223372036854775807 → t.size + d ≤ 1000 → ∃ r, Ev (fun k => laws_markText.l0 k n t) r := by
  induction d with
  | zero =>
    intro n t hn _ ht
    refine ⟨_, Ev.step (f := fun _ => some ((⟨#[109]⟩ : ByteArray) ++ t)) (fun k => ?_) (Ev.now _)⟩
    simp only [laws_markText.l0]
    rw [if_neg (by omega), if_pos (by omega)]
  | succ d ih =>
    intro n t hn hm ht
    by_cases h : n > 0
    · have hw : wrap64 (Int.tdiv n 10) = n / 10 := by
        rw [Int.tdiv_eq_ediv_of_nonneg (by omega)]
        unfold wrap64
        omega
      have hp : (10 : Int) ^ (d + 1) = 10 ^ d * 10 := by rw [Int.pow_succ]
      have h2 : n / 10 < 10 ^ d := by
        rw [hp] at hn
        exact Int.ediv_lt_of_lt_mul (by omega) hn
      obtain ⟨r, hr⟩ := ih (n / 10) (strOfNums [(wrap64 (48 + Int.tmod n 10)) % 256] ++ t) h2 (by omega) (by rw [ByteArray.size_append, strOfNums_one]; omega)
      refine ⟨r, Ev.step (f := fun k => laws_markText.l0 k (n / 10) (strOfNums [(wrap64 (48 + Int.tmod n 10)) % 256] ++ t)) (fun k => ?_) hr⟩
      simp only [laws_markText.l0]
      rw [if_pos h, hw, Option.bind_some, if_pos (by rw [strOfNums_one]; omega)]
    · refine ⟨_, Ev.step (f := fun _ => some ((⟨#[109]⟩ : ByteArray) ++ t)) (fun k => ?_) (Ev.now _)⟩
      simp only [laws_markText.l0]
      rw [if_neg h, if_pos (by omega)]
theorem markText_ev (n : Int) (hn : n ≤ 9223372036854775807) : ∃ r, Ev (fun k => laws_markText.f k n) r := by
  by_cases h : n ≤ 0
  · refine ⟨(⟨#[109, 48]⟩ : ByteArray), Ev.congr (f := fun _ => some (⟨#[109, 48]⟩ : ByteArray)) (fun k => ?_) (Ev.now _)⟩
    unfold laws_markText.f
    rw [if_pos h]
  · have hp : (10 : Int) ^ 19 = 10000000000000000000 := by decide
    obtain ⟨r, hr⟩ := markText_loop 19 n (⟨#[]⟩ : ByteArray) (by omega) hn (by show 0 + 19 ≤ 1000; omega)
    refine ⟨r, Ev.congr (fun k => ?_) hr⟩
    unfold laws_markText.f
    rw [if_neg h]
theorem markStringS_loop (d : Nat) : ∀ (l : List ByteArray) (i : Nat), i + d = l.length → l.length ≤ 9223372036854775000 → ∃ r, Ev (fun k => laws_markStringS.l0 k l ((i + 1 : Nat) : Int) (i : Int)) (((l.length + 1 : Nat) : Int), r) ∧ r.length = l.length ∧ (∀ j, j < i → r[j]? = l[j]?) ∧
    ∀ j, i ≤ j → j < l.length → ∃ t, r[j]? = some t ∧ Ev (fun k => laws_markText.f k ((j + 1 : Nat) : Int)) t := by
  induction d with
  | zero =>
    intro l i hi hl
    refine ⟨l, Ev.step (f := fun _ => some (((l.length + 1 : Nat) : Int), l)) (fun k => ?_) (Ev.now _), rfl, fun _ _ => rfl, fun j h1 h2 => by omega⟩
    simp only [laws_markStringS.l0]
    rw [if_neg (by omega), show i = l.length by omega]
  | succ d ih =>
    intro l i hi hl
    obtain ⟨t, ht⟩ := markText_ev ((i + 1 : Nat) : Int) (by omega)
    obtain ⟨r, hr, hrl, hlo, hhi⟩ := ih (l.set i t) (i + 1) (by rw [List.length_set]; omega) (by rw [List.length_set]; omega)
    rw [List.length_set] at hr hrl hhi
    refine ⟨r, Ev.step (f := fun k => (laws_markText.f k ((i + 1 : Nat) : Int)).bind fun u => laws_markStringS.l0 k (l.set i u) ((i + 1 + 1 : Nat) : Int) ((i + 1 : Nat) : Int)) (fun k => ?_) (Ev.bind ht hr), hrl, fun j hj => ?_, fun j h1 h2 => ?_⟩
    · simp only [laws_markStringS.l0]
      rw [if_pos (by omega), show wrap64 ((i : Int) + 1) = ((i + 1 : Nat) : Int) by unfold wrap64; omega, show wrap64 (((i + 1 : Nat) : Int) + 1) = ((i + 1 + 1 : Nat) : Int) by unfold wrap64; omega]
      first | rfl | (congr 1; funext u; rw [if_pos (by omega), Int.toNat_natCast])
    · rw [hlo j (by omega), List.getElem?_set_ne (by omega)]
    · by_cases hj : j = i
      · subst hj
        refine ⟨t, ?_, ht⟩
        rw [hlo j (by omega), List.getElem?_set_self (by omega)]
      · exact hhi j (by omega) h2
theorem heldStringS_loop (r : List ByteArray) (hl : r.length ≤ 9223372036854775000) (hr : ∀ j, j < r.length → ∃ t, r[j]? = some t ∧ Ev (fun k => laws_markText.f k ((j + 1 : Nat) : Int)) t) (d : Nat) : ∀ i : Nat, i + d = r.length → Ev (fun k => laws_heldStringS.l0 k r ((i + 1 : Nat) : Int) (i : Int)) ((r.length + 1 : Nat) : Int) := by
  induction d with
  | zero =>
    intro i hi
    refine Ev.step (f := fun _ => some ((i + 1 : Nat) : Int)) (fun k => ?_) (by rw [show r.length = i by omega]; exact Ev.now _)
    simp only [laws_heldStringS.l0]
    rw [if_neg (by omega)]
  | succ d ih =>
    intro i hi
    obtain ⟨t, h1, h2⟩ := hr i (by omega)
    have hrd : rdOf ByteArray.empty r (i : Int) = t := by
      unfold rdOf
      rw [Int.toNat_natCast, List.getD_eq_getElem?_getD, h1]
      rfl
    refine Ev.step (f := fun k => (laws_markText.f k ((i + 1 : Nat) : Int)).bind fun u => if t.toList = u.toList then laws_heldStringS.l0 k r ((i + 1 + 1 : Nat) : Int) ((i + 1 : Nat) : Int) else some (-1)) (fun k => ?_) (Ev.bind h2 ?_)
    · simp only [laws_heldStringS.l0]
      rw [if_pos (by omega), if_pos (by omega), hrd, show wrap64 ((i : Int) + 1) = ((i + 1 : Nat) : Int) by unfold wrap64; omega, show wrap64 (((i + 1 : Nat) : Int) + 1) = ((i + 1 + 1 : Nat) : Int) by unfold wrap64; omega]
    · exact Ev.congr (fun k => by rw [if_pos rfl]) (ih (i + 1) (by omega))
/-- What is marked is held. -/
theorem marks_ev (l : List ByteArray) (hl : l.length ≤ 9223372036854775000) : ∃ r, Ev (fun k => laws_markStringS.f k l 1) (((l.length + 1 : Nat) : Int), r) ∧ Ev (fun k => laws_heldStringS.f k r 1) ((l.length + 1 : Nat) : Int) := by
  obtain ⟨r, h1, h2, _, h4⟩ := markStringS_loop l.length l 0 (by omega) hl
  refine ⟨r, h1, ?_⟩
  have := heldStringS_loop r (by omega) (fun j hj => h4 j (by omega) (by omega)) r.length 0 (by omega)
  rw [h2] at this
  exact this
def labs (a b c : ByteArray) : List ByteArray := if gotoB a b c = true then [a, b, c].filter fun s => !(s.toList == ([] : List UInt8)) else []
theorem labs_len (a b c : ByteArray) : (labs a b c).length ≤ 3 := by
  unfold labs
  split
  · exact List.length_filter_le _ [a, b, c]
  · simp
theorem spec_ev (a b c : ByteArray) : Ev (fun k => spec_GotoLabels.f k a b c) (labs a b c) := by
  unfold spec_GotoLabels.f labs
  simp only [Option.bind_some]
  refine Ev.bind (spec_goto a b c) ?_
  cases gotoB a b c with
  | true =>
    simp only [if_true]
    exact spec_labels_loop [a, b, c] (by simp) [a, b, c] 0 [] (by omega) rfl (by simp)
  | false => exact Ev.congr (f := fun _ => some []) (fun k => by rw [if_neg (by simp)]) (Ev.now _)
theorem impl_ev (a b c : ByteArray) : Ev (fun k => impl_GotoLabels.f k a b c) (labs a b c) := by
  unfold impl_GotoLabels.f labs
  refine Ev.bind (impl_goto a b c) ?_
  cases gotoB a b c with
  | true =>
    simp only [if_true]
    exact Ev.bind (labels_ev a b c) (Ev.now _)
  | false => exact Ev.congr (f := fun _ => some []) (fun k => by rw [if_neg (by simp)]) (Ev.now _)
theorem sz_some (a b c : ByteArray) (e : Int) : ∃ r, laws_szGoto.f a b c e = some r := by
  unfold laws_szGoto.f
  split
  · exact ⟨_, rfl⟩
  · split
    · exact ⟨_, rfl⟩
    · split
      · exact ⟨_, rfl⟩
      · exact ⟨_, rfl⟩
end GotoLabels
open GotoLabels in
theorem FnExactGotoLabels : laws_FnExactGotoLabels.Pure := by
  intro x _
  apply Ev.rounds
  unfold laws_FnExactGotoLabels.f
  obtain ⟨r0, hr0⟩ := sz_some x.f0 x.f1 x.f2 1048576
  rw [hr0]
  simp only [Option.bind_some]
  by_cases c1 : r0 < 0
  · simp only [if_pos c1]
    exact Ev.now true
  simp only [if_neg c1, laws_toGoto.f, Option.bind_some]
  have e1 := spec_ev x.f0 x.f1 x.f2
  have e2 := impl_ev x.f0 x.f1 x.f2
  have hlen := labs_len x.f0 x.f1 x.f2
  obtain ⟨r, hm, hh⟩ := marks_ev (labs x.f0 x.f1 x.f2) (by omega)
  have q := eqStringS_ev (labs x.f0 x.f1 x.f2) (by omega)
  refine Ev.bind e1 (Ev.bind e2 (Ev.bind q ?_))
  refine Ev.congr (f := _) (fun k => by rw [if_pos rfl]) (Ev.bind hm (Ev.bind hh ?_))
  refine Ev.congr (f := _) (fun k => by rw [if_neg (by omega), if_pos rfl]) (Ev.bind e2 (Ev.bind q ?_))
  refine Ev.congr (f := _) (fun k => by rw [if_pos rfl]) (Ev.bind hh ?_)
  exact Ev.congr (f := fun _ => some true) (fun k => by rw [if_neg (by omega), if_pos rfl]) (Ev.now true)
end Go.Proofs.Ytacdhebkdfojiaa.Pure
