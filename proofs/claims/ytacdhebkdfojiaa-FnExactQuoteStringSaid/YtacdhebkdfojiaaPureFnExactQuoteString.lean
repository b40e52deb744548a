/- FnExactQuoteString answers true for every string: the program's QuoteString and the reference's put the same quotes around the same texts. Conditions: none beyond the statement's own. -/
import Derived.Test.YtacdhebkdfojiaaPFnExactQuoteStringx2
namespace Go.Proofs.Ytacdhebkdfojiaa.Pure
open Go.RowKit Go.Proofs.Ytacdhebkdfojiaa.PFnExactQuoteString Go.Proofs.YtacdhebkdfojiaaW.PrintWords Go.Proofs.YtacdhebkdfojiaaW.PrintLast
namespace QuoteString
-- the bytes of a string, one after another
theorem byt_at (s : ByteArray) (i : Nat) (c : Int) (l : List Int) (h : (bytesOf s).drop i = c :: l) : i < s.size ∧ bt s (i : Int) = c ∧ rd (bytesOf s) (i : Int) = c ∧ (bytesOf s).drop (i + 1) = l := by
  have h1 : i < (bytesOf s).length := by
    rcases Nat.lt_or_ge i (bytesOf s).length with h2 | h2
    · exact h2
    · rw [List.drop_eq_nil_of_le h2] at h
      cases h
  rw [List.drop_eq_getElem_cons h1] at h
  injection h with h2 h3
  have h4 : rd (bytesOf s) (i : Int) = c := by
    unfold rd
    rw [Int.toNat_natCast, List.getD_eq_getElem?_getD, List.getElem?_eq_getElem h1]
    exact h2
  refine ⟨by rw [← bytesOf_length]; exact h1, ?_, h4, h3⟩
  rw [← rd_bytesOf]
  exact h4
theorem byt_end (s : ByteArray) (i : Nat) (h : (bytesOf s).drop i = []) (hi : i ≤ s.size) : i = s.size := by
  have := congrArg List.length h
  rw [List.length_drop, bytesOf_length] at this
  simp at this
  omega
theorem wrapb (i n : Nat) (h : i < n) (hn : n ≤ 9223372036854775807) : wrap64 ((i : Int) + 1) = ((i + 1 : Nat) : Int) := by unfold wrap64; omega
-- plain texts: the program's isPlainText and the reference's l01Printable (behind Bytes)
def plainB (c : Int) : Bool := decide (32 ≤ c) && decide (c ≤ 126)
theorem spec_print_loop (s : ByteArray) (hs : s.size ≤ 9223372036854775807) (l : List Int) : ∀ i : Nat, i ≤ s.size → (bytesOf s).drop i = l → Ev (fun k => spec_l01Printable.l0 k s false (i : Int)) (l.all plainB) := by
  induction l with
  | nil =>
    intro i hi hd
    have h2 := byt_end s i hd hi
    refine Ev.step (f := fun _ => some true) (fun k => ?_) (by simpa using Ev.now true)
    simp only [spec_l01Printable.l0]
    rw [if_neg (by omega)]
  | cons c l ih =>
    intro i hi hd
    obtain ⟨hlt, hb, _, hd'⟩ := byt_at s i c l hd
    rw [List.all_cons]
    by_cases h1 : c < 32
    · rw [show plainB c = false by unfold plainB; rw [decide_eq_false (by omega), Bool.false_and], Bool.false_and]
      refine Ev.step (f := fun _ => some false) (fun k => ?_) (Ev.now false)
      simp only [spec_l01Printable.l0]
      rw [if_pos (by omega), if_pos (by omega), hb, if_pos h1]
      simp
    · by_cases h2 : c > 126
      · rw [show plainB c = false by unfold plainB; rw [decide_eq_false (show ¬ c ≤ 126 by omega), Bool.and_false], Bool.false_and]
        refine Ev.step (f := fun _ => some false) (fun k => ?_) (Ev.now false)
        simp only [spec_l01Printable.l0]
        rw [if_pos (by omega), if_pos (by omega), hb, if_neg h1, if_pos h2]
        simp
      · rw [show plainB c = true by unfold plainB; rw [decide_eq_true (show 32 ≤ c by omega), decide_eq_true (show c ≤ 126 by omega)]; rfl, Bool.true_and]
        refine Ev.step (f := fun k => spec_l01Printable.l0 k s false ((i + 1 : Nat) : Int)) (fun k => ?_) (ih (i + 1) (by omega) hd')
        simp only [spec_l01Printable.l0]
        rw [if_pos (by omega), if_pos (by omega), hb, if_neg h1, if_neg h2, wrapb i s.size hlt hs]
theorem impl_isPlain_ev (c : Int) : impl_isPlain.f c = some (plainB c) := by
  unfold impl_isPlain.f plainB
  by_cases h1 : 32 ≤ c <;> simp [h1]
theorem areAllPlain_loop (s : ByteArray) (hs : s.size ≤ 9223372036854775807) (l : List Int) : ∀ i : Nat, i ≤ s.size → (bytesOf s).drop i = l → Ev (fun k => impl_areAll_byte_at_impl_isPlain.l0 k (bytesOf s) (s.size : Int) (i : Int)) (l.all plainB) := by
  induction l with
  | nil =>
    intro i hi hd
    have h2 := byt_end s i hd hi
    refine Ev.step (f := fun _ => some true) (fun k => ?_) (by simpa using Ev.now true)
    simp only [impl_areAll_byte_at_impl_isPlain.l0]
    rw [if_neg (by omega)]
  | cons c l ih =>
    intro i hi hd
    obtain ⟨hlt, _, hb, hd'⟩ := byt_at s i c l hd
    rw [List.all_cons]
    cases hn : plainB c with
    | true =>
      rw [Bool.true_and]
      refine Ev.step (f := fun k => impl_areAll_byte_at_impl_isPlain.l0 k (bytesOf s) (s.size : Int) ((i + 1 : Nat) : Int)) (fun k => ?_) (ih (i + 1) (by omega) hd')
      simp only [impl_areAll_byte_at_impl_isPlain.l0]
      rw [if_pos (by omega), if_pos (by omega), if_pos (by rw [bytesOf_length]; omega), hb, impl_isPlain_ev, hn, wrapb i s.size hlt hs]
      rfl
    | false =>
      rw [Bool.false_and]
      refine Ev.step (f := fun _ => some false) (fun k => ?_) (Ev.now false)
      simp only [impl_areAll_byte_at_impl_isPlain.l0]
      rw [if_pos (by omega), if_pos (by omega), if_pos (by rw [bytesOf_length]; omega), hb, impl_isPlain_ev, hn]
      rfl
theorem impl_plainText (s : ByteArray) (hs : s.size ≤ 9223372036854775807) : Ev (fun k => impl_isPlainText.f k s) ((bytesOf s).all plainB) := by
  have r := areAllPlain_loop s hs (bytesOf s) 0 (by omega) rfl
  refine Ev.congr (f := fun k => (impl_areAll_byte_at_impl_isPlain.f k (bytesOf s)).bind fun t => some t) (fun k => ?_) (Ev.bind (Ev.congr (fun k => ?_) r) (Ev.now _))
  · unfold impl_isPlainText.f
    rw [if_pos hs]
  · unfold impl_areAll_byte_at_impl_isPlain.f
    rw [bytesOf_length]
    rfl
theorem spec_printable (s : ByteArray) (hs : s.size ≤ 9223372036854775807) : Ev (fun k => spec_l01Printable.f k s false) ((bytesOf s).all plainB) := by
  refine Ev.congr (fun k => ?_) (spec_print_loop s hs (bytesOf s) 0 (by omega) rfl)
  unfold spec_l01Printable.f
  rfl
-- what strings.Contains tells where one byte is sought
theorem idx_mem (l : List UInt8) (c : UInt8) : (0 ≤ Lib.indexByte l c) ↔ c ∈ l := by
  induction l with
  | nil => simp [Lib.indexByte]
  | cons b l ih =>
    unfold Lib.indexByte
    by_cases h : b = c
    · simp [h]
    · have hb : (b == c) = false := by simp [h]
      have hc : ¬ c = b := fun e => h e.symm
      have g := Lib.indexByte_ge l c
      rw [hb, List.mem_cons, ← ih]
      simp only [Bool.false_eq_true, if_false]
      by_cases e : Lib.indexByte l c = -1
      · rw [if_pos (by simp [e]), e]
        simp [hc]
      · rw [if_neg (by simp [e])]
        constructor
        · intro _
          exact Or.inr (by omega)
        · intro h2
          rcases h2 with h2 | h2
          · exact absurd h2 hc
          · omega
theorem contains_one (s : ByteArray) (c : UInt8) : strings_Contains.f s ⟨#[c]⟩ = some (decide (c ∈ s.data.toList)) := by
  unfold strings_Contains.f
  rw [if_pos (show (⟨#[c]⟩ : ByteArray).data.size = 1 from rfl)]
  simp only [show ((⟨#[c]⟩ : ByteArray).data.toList.headD 0) = c from rfl, idx_mem]
theorem any_byte (s : ByteArray) (c : UInt8) : (bytesOf s).any (fun b => b == (c.toNat : Int)) = decide (c ∈ s.data.toList) := by
  unfold bytesOf
  rw [Bool.eq_iff_iff, List.any_eq_true, decide_eq_true_iff]
  constructor
  · rintro ⟨x, hx, e⟩
    obtain ⟨b, hb, rfl⟩ := List.mem_map.1 hx
    have : b = c := UInt8.toNat_inj.1 (by have := beq_iff_eq.1 e; omega)
    exact this ▸ hb
  · intro h
    exact ⟨_, List.mem_map.2 ⟨c, h, rfl⟩, by simp⟩
-- what can be quoted (behind Bytes, Plain, OneByte)
theorem spec_holds_loop (s : ByteArray) (x : Int) (hs : s.size ≤ 9223372036854775807) (l : List Int) : ∀ i : Nat, i ≤ s.size → (bytesOf s).drop i = l → Ev (fun k => spec_l02Holds.l0 k s x (i : Int)) (l.any fun b => b == x) := by
  induction l with
  | nil =>
    intro i hi hd
    have h2 := byt_end s i hd hi
    refine Ev.step (f := fun _ => some false) (fun k => ?_) (by simpa using Ev.now false)
    simp only [spec_l02Holds.l0]
    rw [if_neg (by omega)]
  | cons c l ih =>
    intro i hi hd
    obtain ⟨hlt, hb, _, hd'⟩ := byt_at s i c l hd
    rw [List.any_cons]
    by_cases h1 : c = x
    · rw [beq_iff_eq.mpr h1, Bool.true_or]
      refine Ev.step (f := fun _ => some true) (fun k => ?_) (Ev.now true)
      simp only [spec_l02Holds.l0]
      rw [if_pos (by omega), if_pos (by omega), hb, if_pos h1]
    · rw [beq_eq_false_iff_ne.mpr h1, Bool.false_or]
      refine Ev.step (f := fun k => spec_l02Holds.l0 k s x ((i + 1 : Nat) : Int)) (fun k => ?_) (ih (i + 1) (by omega) hd')
      simp only [spec_l02Holds.l0]
      rw [if_pos (by omega), if_pos (by omega), hb, if_neg h1, wrapb i s.size hlt hs]
theorem spec_holds (s : ByteArray) (c : UInt8) (hs : s.size ≤ 9223372036854775807) : Ev (fun k => spec_l02Holds.f k s (c.toNat : Int)) (decide (c ∈ s.data.toList)) := by
  rw [← any_byte]
  refine Ev.congr (fun k => ?_) (spec_holds_loop s (c.toNat : Int) hs (bytesOf s) 0 (by omega) rfl)
  unfold spec_l02Holds.f
  rfl
/-- What can be quoted. -/
def quoteB (s : ByteArray) : Bool := decide (s.size ≤ 200) && ((bytesOf s).all plainB && (!(decide ((39 : UInt8) ∈ s.data.toList) && decide ((34 : UInt8) ∈ s.data.toList))))
theorem spec_quote (s : ByteArray) : Ev (fun k => spec_CanQuote.f k s) (quoteB s) := by
  unfold spec_CanQuote.f quoteB
  by_cases h : s.size ≤ 200
  · simp only [if_pos (show (s.size : Int) ≤ 200 by omega)]
    rw [decide_eq_true h, Bool.true_and]
    refine Ev.bind (spec_printable s (by omega)) ?_
    cases (bytesOf s).all plainB with
    | false => exact Ev.congr (f := fun _ => some false) (fun k => by rw [if_neg (by simp)]) (Ev.now false)
    | true =>
      simp only [if_true, Bool.true_and]
      refine Ev.bind (spec_holds s 39 (by omega)) ?_
      cases decide ((39 : UInt8) ∈ s.data.toList) with
      | false => exact Ev.congr (f := fun _ => some true) (fun k => by rw [if_neg (by simp)]; rfl) (Ev.now true)
      | true =>
        simp only [if_true, Bool.true_and]
        exact Ev.bind (spec_holds s 34 (by omega)) (Ev.now _)
  · simp only [if_neg (show ¬ (s.size : Int) ≤ 200 by omega)]
    rw [decide_eq_false h, Bool.false_and]
    exact Ev.now false
theorem impl_quote (s : ByteArray) : Ev (fun k => impl_CanQuote.f k s) (quoteB s) := by
  unfold impl_CanQuote.f quoteB
  by_cases h : s.size ≤ 200
  · simp only [if_pos (show (s.size : Int) ≤ 200 by omega)]
    rw [decide_eq_true h, Bool.true_and]
    refine Ev.bind (impl_plainText s (by omega)) ?_
    cases (bytesOf s).all plainB with
    | false => exact Ev.congr (f := fun _ => some false) (fun k => by rw [if_neg (by simp)]) (Ev.now false)
    | true =>
      simp only [if_true, Bool.true_and, contains_one, Option.bind_some]
      cases decide ((39 : UInt8) ∈ s.data.toList) with
      | false => exact Ev.congr (f := fun _ => some true) (fun k => by rw [if_neg (by simp)]; rfl) (Ev.now true)
      | true =>
        simp only [if_true, Bool.true_and]
        exact Ev.now _
  · simp only [if_neg (show ¬ (s.size : Int) ≤ 200 by omega)]
    rw [decide_eq_false h, Bool.false_and]
    exact Ev.now false
-- the literal of a text (behind Quote)
def quoteStr (s : ByteArray) : ByteArray := if quoteB s = true then (if decide ((39 : UInt8) ∈ s.data.toList) = true then ((⟨#[34]⟩ : ByteArray) ++ s) ++ (⟨#[34]⟩ : ByteArray) else ((⟨#[39]⟩ : ByteArray) ++ s) ++ (⟨#[39]⟩ : ByteArray)) else (⟨#[]⟩ : ByteArray)
theorem quoteB_short (s : ByteArray) (h : quoteB s = true) : s.size ≤ 200 := by
  unfold quoteB at h
  rw [Bool.and_eq_true] at h
  exact of_decide_eq_true h.1
theorem spec_str (s : ByteArray) : Ev (fun k => spec_QuoteString.f k s) (quoteStr s) := by
  unfold spec_QuoteString.f quoteStr
  refine Ev.bind (spec_quote s) ?_
  cases h : quoteB s with
  | false => exact Ev.congr (f := fun _ => some _) (fun k => by rw [if_neg (by simp)]; rfl) (Ev.now _)
  | true =>
    have hs := quoteB_short s h
    simp only [if_true]
    refine Ev.bind (spec_holds s 39 (by omega)) ?_
    have z1 : (⟨#[34]⟩ : ByteArray).size = 1 := rfl
    have z2 : (⟨#[39]⟩ : ByteArray).size = 1 := rfl
    simp only [if_pos (show 1 + s.size ≤ 9223372036854775807 by omega), if_pos (show ((⟨#[34]⟩ : ByteArray) ++ s).size + 1 ≤ 9223372036854775807 by rw [ByteArray.size_append]; omega), if_pos (show ((⟨#[39]⟩ : ByteArray) ++ s).size + 1 ≤ 9223372036854775807 by rw [ByteArray.size_append]; omega)]
    cases decide ((39 : UInt8) ∈ s.data.toList) with
    | false => exact Ev.congr (f := fun _ => some _) (fun k => by rw [if_neg (by simp)]; rfl) (Ev.now _)
    | true => exact Ev.congr (f := fun _ => some _) (fun k => by rw [if_pos rfl]; rfl) (Ev.now _)
theorem impl_str (s : ByteArray) : Ev (fun k => impl_QuoteString.f k s) (quoteStr s) := by
  unfold impl_QuoteString.f quoteStr
  refine Ev.bind (impl_quote s) ?_
  cases h : quoteB s with
  | false => exact Ev.congr (f := fun _ => some _) (fun k => by rw [if_neg (by simp)]; rfl) (Ev.now _)
  | true =>
    have hs := quoteB_short s h
    simp only [if_true, contains_one, Option.bind_some]
    have z1 : (⟨#[34]⟩ : ByteArray).size = 1 := rfl
    have z2 : (⟨#[39]⟩ : ByteArray).size = 1 := rfl
    simp only [if_pos (show 1 + s.size ≤ 9223372036854775807 by omega), if_pos (show ((⟨#[34]⟩ : ByteArray) ++ s).size + 1 ≤ 9223372036854775807 by rw [ByteArray.size_append]; omega), if_pos (show ((⟨#[39]⟩ : ByteArray) ++ s).size + 1 ≤ 9223372036854775807 by rw [ByteArray.size_append]; omega)]
    cases decide ((39 : UInt8) ∈ s.data.toList) with
    | false => exact Ev.congr (f := fun _ => some _) (fun k => by rw [if_neg (by simp)]; rfl) (Ev.now _)
    | true => exact Ev.congr (f := fun _ => some _) (fun k => by rw [if_pos rfl]; rfl) (Ev.now _)
end QuoteString
open QuoteString in
theorem FnExactQuoteString : laws_FnExactQuoteString.Pure := by
  intro s _
  apply Ev.rounds
  unfold laws_FnExactQuoteString.f
  by_cases h : (s.size : Int) > 1048576
  · simp only [if_pos h]
    exact Ev.now true
  · simp only [if_neg h]
    refine Ev.bind (spec_str s) (Ev.bind (impl_str s) ?_)
    exact Ev.congr (f := fun _ => some true) (fun k => by simp) (Ev.now true)
end Go.Proofs.Ytacdhebkdfojiaa.Pure
