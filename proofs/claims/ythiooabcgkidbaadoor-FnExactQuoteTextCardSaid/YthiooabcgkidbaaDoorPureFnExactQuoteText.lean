/- FnExactQuoteText answers true for every string: the program's QuoteText (strings.ReplaceAll) and the reference's (a byte at a time) double the same bytes. Conditions: none beyond the statement's own. -/
import Derived.Test.YthiooabcgkidbaaDoorPFnExactQuoteTextx1
import Derived.Lib.ReplaceLaws
namespace Go.Proofs.YthiooabcgkidbaaDoor.Pure
open Go.RowKit Go.Proofs.YthiooabcgkidbaaDoor.PFnExactQuoteText Go.Proofs.YthiooabcgkidbaaDoorW.PrintWords Go.Proofs.YthiooabcgkidbaaDoorW.PrintLast Go.Proofs.YthiooabcgkidbaaDoorW.PrintMore
namespace QuoteText
/-- Each quotation mark twice. -/
def dbl : List UInt8 → List UInt8
  | [] => []
  | c :: l => if c = 34 then 34 :: 34 :: dbl l else c :: dbl l
theorem dbl_length : ∀ l : List UInt8, (dbl l).length ≤ 2 * l.length
  | [] => by unfold dbl; simp
  | c :: l => by
    have ih := dbl_length l
    unfold dbl
    split <;> simp <;> omega
theorem rep : ∀ l : List UInt8, Lib.replaceK [34] [34, 34] (Lib.count l [34]) l = dbl l
  | [] => by
    rw [Lib.count_one]
    rfl
  | c :: l => by
    have ih := rep l
    by_cases h : c = 34
    · subst h
      have e : Lib.index ((34 : UInt8) :: l) [34] = ((0 : Nat) : Int) := by
        rw [Lib.index_one]
        rfl
      rw [Lib.count_cons_eq, Nat.add_comm, Lib.replaceK_hit _ _ _ _ 0 e]
      show [] ++ [34, 34] ++ Lib.replaceK [34] [34, 34] (Lib.count l [34]) l = dbl (34 :: l)
      rw [ih]
      rfl
    · have hd : dbl (c :: l) = c :: dbl l := by
        show (if c = 34 then 34 :: 34 :: dbl l else c :: dbl l) = _
        rw [if_neg h]
      rw [Lib.count_cons_ne c 34 l h, hd]
      cases hn : Lib.count l [34] with
      | zero =>
        rw [hn] at ih
        rw [← ih]
        rfl
      | succ m =>
        rw [hn] at ih
        obtain ⟨i, hi⟩ := Lib.index_of_count (s := l) (old := [34]) (by omega)
        have h1 : Lib.index (c :: l) [34] = ((i + 1 : Nat) : Int) := by
          rw [Lib.index_one] at hi ⊢
          show (if c == 34 then 0 else if Lib.indexByte l 34 == -1 then -1 else Lib.indexByte l 34 + 1) = _
          have q1 : ¬ (c == 34) = true := fun q => h (beq_iff_eq.mp q)
          have q2 : ¬ (Lib.indexByte l 34 == -1) = true := fun q => by
            have := beq_iff_eq.mp q
            omega
          rw [if_neg q1, if_neg q2, hi]
          omega
        rw [Lib.replaceK_hit _ _ _ _ i hi] at ih
        rw [Lib.replaceK_hit _ _ _ _ (i + 1) h1, ← ih]
        rfl
theorem at_b (s : ByteArray) (i : Nat) (c : UInt8) (l : List UInt8) (h : s.data.toList.drop i = c :: l) : i < s.size ∧ bt s (i : Int) = (c.toNat : Int) ∧ (s.extract i (i + 1)).data.toList = [c] ∧ s.data.toList.drop (i + 1) = l := by
  have hl : s.data.toList.length = s.size := by rw [Array.length_toList]; rfl
  have h1 : i < s.data.toList.length := by
    rcases Nat.lt_or_ge i s.data.toList.length with h2 | h2
    · exact h2
    · rw [List.drop_eq_nil_of_le h2] at h
      cases h
  have h' := h
  rw [List.drop_eq_getElem_cons h1] at h'
  injection h' with h2 h3
  have h4 : i < s.size := by omega
  refine ⟨h4, ?_, ?_, h3⟩
  · unfold bt
    rw [dif_pos (show ((i : Int)).toNat < s.size by omega), ← h2]
    rfl
  · rw [ByteArray.data_extract, Array.toList_extract, List.extract_eq_take_drop, h, show i + 1 - i = 1 by omega]
    rfl
theorem spec_loop (s : ByteArray) (hs : s.size ≤ 1048576) (l : List UInt8) : ∀ (i : Nat) (out : ByteArray), i ≤ s.size → s.data.toList.drop i = l → out.size ≤ 2 * i + 1 →
    ∃ r, Ev (fun k => spec_QuoteText.l0 k s out (i : Int)) r ∧ r.data.toList = out.data.toList ++ (dbl l ++ [34]) := by
  induction l with
  | nil =>
    intro i out hi hd ho
    have hl : s.data.toList.length = s.size := by rw [Array.length_toList]; rfl
    have h2 : s.size ≤ i := by
      have := congrArg List.length hd
      rw [List.length_drop] at this
      simp only [List.length_nil] at this
      omega
    refine ⟨out ++ ⟨#[34]⟩, Ev.step (f := fun _ => some (out ++ (⟨#[34]⟩ : ByteArray))) (fun k => ?_) (Ev.now _), ?_⟩
    · simp only [spec_QuoteText.l0]
      rw [if_neg (show ¬ (i : Int) < (s.size : Int) by omega), if_pos (show out.size + 1 ≤ 9223372036854775807 by omega)]
    · rw [ByteArray.data_append, Array.toList_append]
      rfl
  | cons c l ih =>
    intro i out hi hd ho
    obtain ⟨hlt, hb, he, hd'⟩ := at_b s i c l hd
    have hw : wrap64 ((i : Int) + 1) = ((i + 1 : Nat) : Int) := by unfold wrap64; omega
    have hz : (s.extract i (i + 1)).size = 1 := by rw [ByteArray.size_extract]; omega
    have o1 : (out ++ (⟨#[34]⟩ : ByteArray)).size = out.size + 1 := by rw [ByteArray.size_append]; rfl
    by_cases h : c = 34
    · have hc : bt s (i : Int) = 34 := by rw [hb, h]; rfl
      obtain ⟨r, hr, hl⟩ := ih (i + 1) ((out ++ ⟨#[34]⟩) ++ s.extract i (i + 1)) (by omega) hd' (by rw [ByteArray.size_append, o1, hz]; omega)
      refine ⟨r, Ev.step (f := fun k => spec_QuoteText.l0 k s ((out ++ ⟨#[34]⟩) ++ s.extract i (i + 1)) ((i + 1 : Nat) : Int)) (fun k => ?_) hr, ?_⟩
      · simp only [spec_QuoteText.l0, hw, hc, o1, Int.toNat_natCast, hz]
        rw [if_pos (show (i : Int) < (s.size : Int) by omega), if_pos (show (0 : Int) ≤ (i : Int) by omega), if_pos trivial, if_pos (show out.size + 1 ≤ 9223372036854775807 by omega), if_pos (show (i : Int) ≤ ((i + 1 : Nat) : Int) by omega), if_pos (show ((i + 1 : Nat) : Int) ≤ (s.size : Int) by omega), if_pos (show out.size + 1 + 1 ≤ 9223372036854775807 by omega)]
      · rw [hl, ByteArray.data_append, Array.toList_append, ByteArray.data_append, Array.toList_append, he, h]
        show _ = out.data.toList ++ ((34 :: 34 :: dbl l) ++ [34])
        simp
    · have hc : ¬ bt s (i : Int) = 34 := by
        rw [hb]
        intro q
        apply h
        apply UInt8.toNat_inj.mp
        show c.toNat = 34
        omega
      obtain ⟨r, hr, hl⟩ := ih (i + 1) (out ++ s.extract i (i + 1)) (by omega) hd' (by rw [ByteArray.size_append, hz]; omega)
      refine ⟨r, Ev.step (f := fun k => spec_QuoteText.l0 k s (out ++ s.extract i (i + 1)) ((i + 1 : Nat) : Int)) (fun k => ?_) hr, ?_⟩
      · simp only [spec_QuoteText.l0, hw, Int.toNat_natCast, hz]
        rw [if_pos (show (i : Int) < (s.size : Int) by omega), if_pos (show (0 : Int) ≤ (i : Int) by omega), if_neg hc, if_pos (show (i : Int) ≤ ((i + 1 : Nat) : Int) by omega), if_pos (show ((i + 1 : Nat) : Int) ≤ (s.size : Int) by omega), if_pos (show out.size + 1 ≤ 9223372036854775807 by omega)]
      · have e : dbl (c :: l) = c :: dbl l := by
          show (if c = 34 then 34 :: 34 :: dbl l else c :: dbl l) = _
          rw [if_neg h]
        rw [hl, ByteArray.data_append, Array.toList_append, he, e]
        simp
theorem impl_q (s : ByteArray) (hs : s.size ≤ 1048576) : ∃ r, impl_QuoteText.f s = some r ∧ r.data.toList = 34 :: (dbl s.data.toList ++ [34]) := by
  have hm := Lib.countB_mul_le (⟨#[34]⟩ : ByteArray) (by decide) s.size s (Nat.le_refl _)
  have z1 : (⟨#[34]⟩ : ByteArray).size = 1 := rfl
  have z2 : (⟨#[34, 34]⟩ : ByteArray).size = 2 := rfl
  have hl : s.data.toList.length = s.size := by rw [Array.length_toList]; rfl
  have er : Lib.replaceAll s.data.toList (⟨#[34]⟩ : ByteArray).data.toList (⟨#[34, 34]⟩ : ByteArray).data.toList = dbl s.data.toList := by
    show (if ([34] : List UInt8) == [34, 34] then s.data.toList else Lib.replaceK [34] [34, 34] (Lib.replaceNum s.data.toList [34] (-1)) s.data.toList) = _
    rw [if_neg (show ¬ (([34] : List UInt8) == [34, 34]) = true by decide)]
    unfold Lib.replaceNum
    rw [if_pos (Or.inl (show (-1 : Int) < 0 by omega)), rep]
  have hR : strings_ReplaceAll.f s (⟨#[34]⟩ : ByteArray) (⟨#[34, 34]⟩ : ByteArray) = some ⟨(dbl s.data.toList).toArray⟩ := by
    unfold strings_ReplaceAll.f
    rw [z1, z2]
    rw [z1] at hm
    rw [if_pos (show s.size < 4294967281 by omega), if_pos (Nat.le_refl 1), if_pos (show s.size + Lib.countB s (⟨#[34]⟩ : ByteArray) * 2 ≤ 140737488355328 by omega), er]
  have hd := dbl_length s.data.toList
  have hz : (⟨(dbl s.data.toList).toArray⟩ : ByteArray).size = (dbl s.data.toList).length := by
    show (dbl s.data.toList).toArray.size = _
    simp
  have o1 : ((⟨#[34]⟩ : ByteArray) ++ (⟨(dbl s.data.toList).toArray⟩ : ByteArray)).size = 1 + (dbl s.data.toList).length := by rw [ByteArray.size_append, hz, z1]
  refine ⟨((⟨#[34]⟩ : ByteArray) ++ (⟨(dbl s.data.toList).toArray⟩ : ByteArray)) ++ (⟨#[34]⟩ : ByteArray), ?_, ?_⟩
  · unfold impl_QuoteText.f
    rw [hR, Option.bind_some, hz, o1, if_pos (show 1 + (dbl s.data.toList).length ≤ 9223372036854775807 by omega), if_pos (show 1 + (dbl s.data.toList).length + 1 ≤ 9223372036854775807 by omega)]
  · rw [ByteArray.data_append, Array.toList_append, ByteArray.data_append, Array.toList_append]
    rfl
end QuoteText
open QuoteText in
theorem FnExactQuoteText : laws_FnExactQuoteText.Pure := by
  intro s _
  apply Ev.rounds
  unfold laws_FnExactQuoteText.f
  by_cases h : (s.size : Int) > 1048576
  · simp only [if_pos h]
    exact Ev.now true
  simp only [if_neg h]
  obtain ⟨r1, h1, e1⟩ := spec_loop s (by omega) s.data.toList 0 ⟨#[34]⟩ (by omega) rfl (by decide)
  obtain ⟨r2, h2, e2⟩ := impl_q s (by omega)
  have e : r2.toList = r1.toList := by
    rw [Go.ByteArray.toList_eq, Go.ByteArray.toList_eq, e1, e2]
    rfl
  refine Ev.bind h1 ?_
  simp only [h2, Option.bind_some]
  rw [if_pos e]
  exact Ev.now true
end Go.Proofs.YthiooabcgkidbaaDoor.Pure
