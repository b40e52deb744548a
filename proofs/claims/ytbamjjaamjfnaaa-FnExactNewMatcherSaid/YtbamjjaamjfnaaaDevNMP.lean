/- By hand: what the law FnExactNewMatcher reaches beyond the printed texts, and the law's own function. Conditions: none beyond each statement. -/
import Derived.Test.YtbamjjaamjfnaaaProg
import Derived.Below
import Derived.Deep.Draws
import Derived.Deep.AppendLies
import Derived.Maps.AppendAt
import Derived.OwnWalk
import Derived.Laws.BytesArg
import Derived.Laws.MakeOwn
import Derived.Laws.OwnMore
import Derived.Deep.OwnRows
import Derived.Tactics
import Derived.Lib.ConvBytes
import Derived.Laws.Slices
import Derived.WalkKit
import Derived.KernelRfl
import Derived.RowKit3
import Derived.Deep.LoopGhost
import Derived.Deep.QuietTactic
import Derived.BigQuiet
import Derived.WideLaws
import Derived.Deep.DeepCutAuto
import Derived.Deep.CutBlock
import Derived.Deep.RegionHeld3
import Derived.Laws.Rows
import Derived.Lib.AppendStr
import Derived.ArgAppend
import Derived.Laws.IdiomCopy
import Derived.OrdersHeld
import Derived.Laws.BitsLemmas
import Derived.RowKit
import Derived.Lib.SliceRun
import Derived.Test.YtbamjjaamjfnaaaRowLaw
import Derived.Test.YtbamjjaamjfnaaaWWords
import Derived.Test.YtbamjjaamjfnaaaWLast
import Derived.Test.YtbamjjaamjfnaaaWTab
import Derived.Test.YtbamjjaamjfnaaaWFour
import Derived.Test.YtbamjjaamjfnaaaWQPut
import Derived.Test.YtbamjjaamjfnaaaWApart
import Derived.Test.YtbamjjaamjfnaaaWArr
import Derived.Test.YtbamjjaamjfnaaaWZeros
import Derived.Test.YtbamjjaamjfnaaaWFoot
import Derived.Test.YtbamjjaamjfnaaaWKept
import Derived.Test.YtbamjjaamjfnaaaWShare
import Derived.Test.YtbamjjaamjfnaaaWN
import Derived.Test.YtbamjjaamjfnaaaWFootNe
import Derived.Test.YtbamjjaamjfnaaaWAt
import Derived.Test.YtbamjjaamjfnaaaWEqStruct
import Derived.Test.YtbamjjaamjfnaaaWRepsOne
import Derived.Test.YtbamjjaamjfnaaaWInv
import Derived.Test.YtbamjjaamjfnaaaWInvWords
import Derived.Test.YtbamjjaamjfnaaaWGuard
import Derived.Test.YtbamjjaamjfnaaaWNEv
import Derived.Test.YtbamjjaamjfnaaaWMore
import Derived.Test.YtbamjjaamjfnaaaPFnExactNewMatcherx0
import Derived.Test.YtbamjjaamjfnaaaPFnExactNewMatcherx1
import Derived.Test.YtbamjjaamjfnaaaPFnExactNewMatcherx2
import Derived.Test.YtbamjjaamjfnaaaPFnExactNewMatcherx3
import Derived.Test.YtbamjjaamjfnaaaPFnExactNewMatcherx9
import Derived.Test.YtbamjjaamjfnaaaPFnExactNewMatcherx16
import Derived.Test.YtbamjjaamjfnaaaRowLaw
namespace Go.Proofs.Ytbamjjaamjfnaaa.PFnExactNewMatcher
open Go.RowKit Go.Proofs.YtbamjjaamjfnaaaW.PrintWords Go.Proofs.YtbamjjaamjfnaaaW.PrintLast Go.Proofs.YtbamjjaamjfnaaaW.PrintMore
attribute [local go_sem] max2_int min2_int max_two min_two max_three min_three max_four min_four
set_option linter.unusedVariables false
set_option linter.unusedSimpArgs false
def letterB (c : Int) : Bool := (decide (65 ≤ c) && decide (c ≤ 90)) || (decide (97 ≤ c) && decide (c ≤ 122))
def digitB (c : Int) : Bool := decide (48 ≤ c) && decide (c ≤ 57)
def nameB (c : Int) : Bool := letterB c || (digitB c || c == 95)
theorem spec_letter (c : Int) : spec_l02Letter.f c = some (letterB c) := by
 unfold spec_l02Letter.f letterB
 by_cases h1 : 65 ≤ c <;> by_cases h2 : c ≤ 90 <;> by_cases h3 : 97 ≤ c <;> simp [h1, h2, h3]
theorem spec_digit (c : Int) : spec_l02Digit.f c = some (digitB c) := by
 unfold spec_l02Digit.f digitB
 by_cases h1 : 48 ≤ c <;> simp [h1]
theorem impl_letter (c : Int) : impl_isLetter.f c = some (letterB c) := by
 unfold impl_isLetter.f letterB
 by_cases h1 : 65 ≤ c <;> by_cases h2 : c ≤ 90 <;> by_cases h3 : 97 ≤ c <;> simp [h1, h2, h3]
theorem impl_digit (c : Int) : impl_isDigit.f c = some (digitB c) := by
 unfold impl_isDigit.f digitB
 by_cases h1 : 48 ≤ c <;> simp [h1]
theorem impl_nameByte (c : Int) : impl_isNameByte.f c = some (nameB c) := by
 unfold impl_isNameByte.f nameB
 rw [impl_letter, impl_digit]
 cases letterB c <;> cases digitB c <;> simp
theorem bytes_at (s : ByteArray) (i : Nat) (c : Int) (l : List Int) (h : (bytesOf s).drop i = c :: l) : i < s.size ∧ bt s (i : Int) = c ∧ rd (bytesOf s) (i : Int) = c ∧ (bytesOf s).drop (i + 1) = l := by
 have h1 : i < (bytesOf s).length := by
  rcases Nat.lt_or_ge i (bytesOf s).length with h2 | h2
  ·exact h2
  ·rw [List.drop_eq_nil_of_le h2] at h
   cases h
 rw [List.drop_eq_getElem_cons h1] at h
 injection h with h2 h3
 have h4 : rd (bytesOf s) (i : Int) = c := by
  unfold rd
  rw [Int.toNat_natCast, List.getD_eq_getElem?_getD, List.getElem?_eq_getElem h1]
  exact h2
 refine ⟨by rw [← bytesOf_length]; exact h1, ?_, h4, h3⟩
 rw [← rd_bytesOf]
 exact h4
theorem bytes_end (s : ByteArray) (i : Nat) (h : (bytesOf s).drop i = []) (hi : i ≤ s.size) : i = s.size := by
 have := congrArg List.length h
 rw [List.length_drop, bytesOf_length] at this
 simp at this
 omega
theorem wrapn (i n : Nat) (h : i < n) (hn : n ≤ 9223372036854775807) : wrap64 ((i : Int) + 1) = ((i + 1 : Nat) : Int) := by unfold wrap64; omega
theorem nameEnd_loop (s : ByteArray) (hs : s.size ≤ 9223372036854775807) (l : List Int) : ∀ i : Nat, i ≤ s.size → (bytesOf s).drop i = l → Ev (fun k => F12.l0 k s (i : Int)) ((i : Int) + (l.takeWhile nameB).length) := by
 induction l with
 | nil =>
  intro i hi hd
  have h2 := bytes_end s i hd hi
  refine Ev.step (f := fun _ => some (i : Int)) (fun k => ?_) (by simpa using Ev.now (i : Int))
  simp only [F12.l0]
  rw [if_neg (by omega)]
 | cons c l ih =>
  intro i hi hd
  obtain ⟨hlt, hb, _, hd'⟩ := bytes_at s i c l hd
  cases hn : nameB c with
  | true =>
   have r := ih (i + 1) (by omega) hd'
   have e : (i : Int) + ((c :: l).takeWhile nameB).length = ((i + 1 : Nat) : Int) + (l.takeWhile nameB).length := by
    rw [List.takeWhile_cons_of_pos hn, List.length_cons]
    omega
   rw [e]
   refine Ev.step (f := fun k => F12.l0 k s ((i + 1 : Nat) : Int)) (fun k => ?_) r
   simp only [F12.l0]
   rw [if_pos (by omega), if_pos (by omega), hb, spec_letter, spec_digit, wrapn i s.size hlt hs]
   unfold nameB at hn
   cases hl : letterB c with
   | true => simp
   | false =>
    cases hg : digitB c with
    | true => simp
    | false =>
     rw [hl, hg] at hn
     have hc : c = 95 := by simpa using hn
     simp [hc]
  | false =>
   rw [List.takeWhile_cons_of_neg (by simp [hn])]
   refine Ev.step (f := fun _ => some (i : Int)) (fun k => ?_) (by simpa using Ev.now (i : Int))
   simp only [F12.l0]
   rw [if_pos (by omega), if_pos (by omega), hb, spec_letter, spec_digit]
   unfold nameB at hn
   cases hl : letterB c with
   | true => rw [hl] at hn; simp at hn
   | false =>
    cases hg : digitB c with
    | true => rw [hl, hg] at hn; simp at hn
    | false =>
     rw [hl, hg] at hn
     have hc : ¬ c = 95 := by simpa using hn
     simp [hc]
theorem takeWhile_all (l : List Int) (p : Int → Bool) : (l.takeWhile p).length = l.length ↔ l.all p = true := by
 induction l with
 | nil => simp
 | cons c l ih =>
  cases h : p c with
  | true => rw [List.takeWhile_cons_of_pos h]; simp [h, ih]
  | false => rw [List.takeWhile_cons_of_neg (by simp [h])]; simp [h]
def isNameB (s : ByteArray) : Bool := decide (1 ≤ s.size) && (decide (s.size ≤ 12) && (letterB (bt s 0) && (bytesOf s).all nameB))
theorem spec_isName (s : ByteArray) : Ev (fun k => F21.f k s) (isNameB s) := by
 unfold isNameB
 by_cases h1 : 1 ≤ s.size
 ·have hne : ¬ s.toList = [] := by
   rw [Go.ByteArray.toList_eq]
   intro e
   have := data_length s
   rw [e] at this
   simp at this
   omega
  by_cases h2 : s.size ≤ 12
  ·have e : Ev (fun k => F12.f k s 0) (if letterB (bt s 0) = true then (((bytesOf s).takeWhile nameB).length : Int) else 0) := by
    cases hl : letterB (bt s 0) with
    | true =>
     have r := nameEnd_loop s (by omega) (bytesOf s) 0 (by omega) rfl
     rw [if_pos rfl]
     simp only [Int.natCast_zero, Int.zero_add] at r
     refine Ev.congr (f := fun k => F12.j0 k s 0 false) (fun k => ?_) (Ev.step (f := fun k => F12.l0 k s 0) (fun k => by simp only [F12.j0]; simp) r)
     unfold F12.f
     rw [if_neg (by omega), if_pos (by omega), if_pos (by omega), spec_letter, hl]
     rfl
    | false =>
     rw [if_neg (by simp)]
     refine Ev.congr (f := fun k => F12.j0 k s 0 true) (fun k => ?_) (Ev.step (f := fun _ => some 0) (fun k => by simp only [F12.j0]; simp) (Ev.now 0))
     unfold F12.f
     rw [if_neg (by omega), if_pos (by omega), if_pos (by omega), spec_letter, hl]
     rfl
   refine Ev.congr (f := fun k => (F12.f k s 0).bind fun t => some (t == (s.size : Int))) (fun k => ?_) (Ev.bind e ?_)
   ·unfold F21.f
    rw [if_neg hne, if_pos (by omega)]
   ·have hx : (decide (1 ≤ s.size) && (decide (s.size ≤ 12) && (letterB (bt s 0) && (bytesOf s).all nameB))) = ((if letterB (bt s 0) = true then (((bytesOf s).takeWhile nameB).length : Int) else 0) == (s.size : Int)) := by
     rw [decide_eq_true h1, decide_eq_true h2]
     simp only [Bool.true_and]
     cases hl : letterB (bt s 0) with
     | true =>
      rw [if_pos rfl, Bool.true_and]
      have h3 := takeWhile_all (bytesOf s) nameB
      rw [bytesOf_length] at h3
      rw [Bool.eq_iff_iff, ← h3, beq_iff_eq]
      omega
     | false =>
      rw [if_neg (by simp), Bool.false_and]
      have h4 : ¬ (0 : Int) = (s.size : Int) := by omega
      simp [h4]
    rw [hx]
    exact Ev.now _
  ·rw [decide_eq_false h2]
   simp only [Bool.false_and, Bool.and_false]
   refine Ev.congr (f := fun _ => some false) (fun k => ?_) (Ev.now false)
   unfold F21.f
   rw [if_neg hne, if_neg (by omega)]
 ·rw [decide_eq_false h1]
  simp only [Bool.false_and]
  refine Ev.congr (f := fun _ => some false) (fun k => ?_) (Ev.now false)
  unfold F21.f
  rw [if_pos (by rw [Go.ByteArray.toList_eq]; exact List.eq_nil_of_length_eq_zero (by rw [data_length]; omega))]
theorem areAllName_loop (s : ByteArray) (hs : s.size ≤ 9223372036854775807) (l : List Int) : ∀ i : Nat, i ≤ s.size → (bytesOf s).drop i = l → Ev (fun k => F7.l0 k (bytesOf s) (s.size : Int) (i : Int)) (l.all nameB) := by
 induction l with
 | nil =>
  intro i hi hd
  have h2 := bytes_end s i hd hi
  refine Ev.step (f := fun _ => some true) (fun k => ?_) (by simpa using Ev.now true)
  simp only [F7.l0]
  rw [if_neg (by omega)]
 | cons c l ih =>
  intro i hi hd
  obtain ⟨hlt, _, hb, hd'⟩ := bytes_at s i c l hd
  rw [List.all_cons]
  cases hn : nameB c with
  | true =>
   rw [Bool.true_and]
   refine Ev.step (f := fun k => F7.l0 k (bytesOf s) (s.size : Int) ((i + 1 : Nat) : Int)) (fun k => ?_) (ih (i + 1) (by omega) hd')
   simp only [F7.l0]
   rw [if_pos (by omega), if_pos (by omega), if_pos (by rw [bytesOf_length]; omega), hb, impl_nameByte, hn, wrapn i s.size hlt hs]
   rfl
  | false =>
   rw [Bool.false_and]
   refine Ev.step (f := fun _ => some false) (fun k => ?_) (Ev.now false)
   simp only [F7.l0]
   rw [if_pos (by omega), if_pos (by omega), if_pos (by rw [bytesOf_length]; omega), hb, impl_nameByte, hn]
   rfl
theorem impl_isName (s : ByteArray) : Ev (fun k => F26.f k s) (isNameB s) := by
 unfold isNameB
 by_cases h1 : 1 ≤ s.size
 ·by_cases h2 : s.size ≤ 12
  ·rw [decide_eq_true h1, decide_eq_true h2]
   simp only [Bool.true_and]
   cases hl : letterB (bt s 0) with
   | true =>
    rw [Bool.true_and]
    have r := areAllName_loop s (by omega) (bytesOf s) 0 (by omega) rfl
    refine Ev.congr (f := fun k => (F7.f k (bytesOf s)).bind fun t => some t) (fun k => ?_) (Ev.bind (Ev.congr (fun k => ?_) r) (Ev.now _))
    ·unfold F26.f
     rw [if_pos (by omega), if_pos (by omega), if_pos (by omega), impl_letter, hl, Option.bind_some, if_pos rfl, if_pos (by omega)]
    ·unfold F7.f
     rw [bytesOf_length]
     rfl
   | false =>
    rw [Bool.false_and]
    refine Ev.congr (f := fun _ => some false) (fun k => ?_) (Ev.now false)
    unfold F26.f
    rw [if_pos (by omega), if_pos (by omega), if_pos (by omega), impl_letter, hl]
    rfl
  ·rw [decide_eq_false h2]
   simp only [Bool.false_and, Bool.and_false]
   refine Ev.congr (f := fun _ => some false) (fun k => ?_) (Ev.now false)
   unfold F26.f
   rw [if_pos (by omega), if_neg (by omega)]
 ·rw [decide_eq_false h1]
  simp only [Bool.false_and]
  refine Ev.congr (f := fun _ => some false) (fun k => ?_) (Ev.now false)
  unfold F26.f
  rw [if_neg (by omega)]
set_option linter.unusedSimpArgs false in
theorem ev_three {α : Type} {g : Nat → Option α} {r : α} (h : ∀ k, g (k + 3) = some r) : Ev g r := ⟨3, fun n hn => by
 obtain ⟨m, rfl⟩ : ∃ m, n = m + 3 := ⟨n - 3, by omega⟩
 exact h m⟩
set_option linter.unusedSimpArgs false in
theorem arg_in (a b c : Int) : F24.f a b c = some (decide (b ≤ a) && decide (a ≤ c)) := by
 unfold F24.f
 by_cases h : b ≤ a <;> simp [h]
set_option linter.unusedSimpArgs false in
theorem arg_within (a b c : Int) : F28.f a b c = some (decide (b ≤ a ∧ a ≤ c)) := by
 unfold F28.f
 by_cases h : b ≤ a <;> simp [h]
def kidsN (a : Int) : Int := if a = 18 then 2 else if a = 19 then 2 else if a = 20 then 1 else if a = 21 then 1 else if a = 22 then 1 else 0
def restL (a : Int) : List UInt8 := if a ≤ 5 then [115] else if a ≤ 10 then [110] else if 21 ≤ a then [120] else []
def argB (a b : Int) (s : ByteArray) : Bool :=
 if a = 1 then (b == 0) && decide (s.size ≤ 200)
 else if 2 ≤ a ∧ a ≤ 5 then (b == 0) && (!(s.toList == ([] : List UInt8)) && decide (s.size ≤ 200))
 else if 6 ≤ a ∧ a ≤ 10 then (s.toList == ([] : List UInt8)) && (decide (0 ≤ b) && decide (b ≤ 200))
 else if 21 ≤ a ∧ a ≤ 24 then (b == 0) && isNameB s
 else decide (1 ≤ a ∧ a ≤ 24) && ((b == 0) && (s.toList == ([] : List UInt8)))
set_option linter.unusedSimpArgs false in
theorem impl_kids (a : Int) : Ev (fun k => F32.f k a) (kidsN a) := by
 unfold kidsN
 by_cases h1 : a = 18
 ·subst h1
  exact ev_three fun k => rfl
 rw [if_neg h1]
 by_cases h2 : a = 19
 ·subst h2
  exact ev_three fun k => rfl
 rw [if_neg h2]
 refine Ev.step (f := fun _ => some (if a = 20 then 1 else if a = 21 then 1 else if a = 22 then 1 else 0)) (fun k => ?_) (Ev.now _)
 unfold F32.f
 rw [if_neg h1, beq_eq_false_iff_ne.mpr h2]
 simp only [F32.j0]
 rw [if_neg (by simp)]
 by_cases h3 : a = 20
 ·simp only [if_pos h3]
 by_cases h4 : a = 21
 ·simp only [if_neg h3, if_pos h4]
 by_cases h5 : a = 22
 ·simp only [if_neg h3, if_neg h4, if_pos h5]
 simp only [if_neg h3, if_neg h4, if_neg h5]
set_option linter.unusedSimpArgs false in
theorem impl_arg (a b : Int) (s : ByteArray) : Ev (fun k => impl_isArgument.f k a b s) (argB a b s) := by
 unfold impl_isArgument.f argB impl_isShort.f impl_hasSet.f impl_hasNumber.f impl_hasName.f F30.f
 simp only [arg_within, Option.bind_some]
 have hz : (decide ((s.size : Int) ≤ 200)) = decide (s.size ≤ 200) := by rw [Bool.eq_iff_iff, decide_eq_true_iff, decide_eq_true_iff]; omega
 by_cases h1 : a = 1
 ·simp only [if_pos h1]
  by_cases hb : b = 0
  ·simp only [if_pos hb, beq_iff_eq.mpr hb, Bool.true_and, hz]
   exact Ev.now _
  ·simp only [if_neg hb, beq_eq_false_iff_ne.mpr hb, Bool.false_and]
   exact Ev.now _
 simp only [if_neg h1]
 by_cases h2 : 2 ≤ a ∧ a ≤ 5
 ·simp only [decide_eq_true h2, if_true, if_pos h2]
  by_cases hb : b = 0
  ·by_cases hs : s.toList = []
   ·simp only [if_pos hb, if_pos hs, beq_iff_eq.mpr hb, beq_iff_eq.mpr hs, Bool.true_and, Bool.not_true, Bool.false_and]
    exact Ev.now _
   ·simp only [if_pos hb, if_neg hs, beq_iff_eq.mpr hb, beq_eq_false_iff_ne.mpr hs, Bool.true_and, Bool.not_false, hz]
    exact Ev.now _
  ·simp only [if_neg hb, beq_eq_false_iff_ne.mpr hb, Bool.false_and]
   exact Ev.now _
 simp only [decide_eq_false h2, Bool.false_eq_true, if_false, if_neg h2]
 by_cases h3 : 6 ≤ a ∧ a ≤ 10
 ·simp only [decide_eq_true h3, if_true, if_pos h3]
  by_cases hs : s.toList = []
  ·simp only [if_pos hs, beq_iff_eq.mpr hs, Bool.true_and]
   rw [show (decide (0 ≤ b) && decide (b ≤ 200)) = decide (0 ≤ b ∧ b ≤ 200) by rw [Bool.eq_iff_iff]; simp]
   exact Ev.now _
  ·simp only [if_neg hs, beq_eq_false_iff_ne.mpr hs, Bool.false_and]
   exact Ev.now _
 simp only [decide_eq_false h3, Bool.false_eq_true, if_false, if_neg h3]
 by_cases h4 : 21 ≤ a ∧ a ≤ 24
 ·simp only [decide_eq_true h4, if_true, if_pos h4]
  by_cases hb : b = 0
  ·simp only [if_pos hb, beq_iff_eq.mpr hb, Bool.true_and]
   exact Ev.bind (impl_isName s) (Ev.now _)
  ·simp only [if_neg hb, beq_eq_false_iff_ne.mpr hb, Bool.false_and]
   exact Ev.now _
 simp only [decide_eq_false h4, Bool.false_eq_true, if_false, if_neg h4]
 by_cases h5 : 1 ≤ a ∧ a ≤ 24
 ·simp only [decide_eq_true h5, if_true, Bool.true_and]
  by_cases hb : b = 0
  ·simp only [if_pos hb, beq_iff_eq.mpr hb, Bool.true_and]
   exact Ev.now _
  ·simp only [if_neg hb, beq_eq_false_iff_ne.mpr hb, Bool.false_and]
   exact Ev.now _
 ·simp only [decide_eq_false h5, Bool.false_eq_true, if_false, Bool.false_and]
  exact Ev.now _
set_option linter.unusedSimpArgs false in
theorem spec_form (a : Int) (h : 1 ≤ a ∧ a ≤ 24) : ∃ r, Ev (fun k => F25.f k a) (kidsN a, r) ∧ r.data.toList = restL a := by
 have w1 : wrap64 (0 + 1) = 1 := by unfold wrap64; omega
 have w2 : wrap64 (1 + 1) = 2 := by unfold wrap64; omega
 have h2 : a = 1 ∨ a = 2 ∨ a = 3 ∨ a = 4 ∨ a = 5 ∨ a = 6 ∨ a = 7 ∨ a = 8 ∨ a = 9 ∨ a = 10 ∨ a = 11 ∨ a = 12 ∨ a = 13 ∨ a = 14 ∨ a = 15 ∨ a = 16 ∨ a = 17 ∨ a = 18 ∨ a = 19 ∨ a = 20 ∨ a = 21 ∨ a = 22 ∨ a = 23 ∨ a = 24 := by omega
 rcases h2 with rfl | rfl | rfl | rfl | rfl | rfl | rfl | rfl | rfl | rfl | rfl | rfl | rfl | rfl | rfl | rfl | rfl | rfl | rfl | rfl | rfl | rfl | rfl | rfl <;>
  first
   | exact ⟨_, ev_three fun k => rfl, rfl⟩
   | (refine ⟨?_, ev_three fun k => ?_, ?_⟩; rotate_left; (· simp only [F25.f, spec_l11Word.f, F25.l0, w1, w2]; rfl); rfl)
set_option linter.unusedSimpArgs false in
theorem spec_node (a b : Int) (s : ByteArray) (l : List S105) : Ev (fun k => F33.f k a b s l) (decide (1 ≤ a ∧ a ≤ 24) && (decide ((l.length : Int) = kidsN a) && argB a b s)) := by
 unfold F33.f
 simp only [arg_in, Option.bind_some]
 by_cases h : 1 ≤ a ∧ a ≤ 24
 ·obtain ⟨r, e, hr0⟩ := spec_form a h
  have hr : r.toList = restL a := by rw [Go.ByteArray.toList_eq]; exact hr0
  simp only [decide_eq_true h.1, decide_eq_true h.2, Bool.and_self, if_true, decide_eq_true h, Bool.true_and]
  refine Ev.bind e ?_
  simp only [hr]
  by_cases hk : (l.length : Int) = kidsN a
  ·simp only [if_pos hk, decide_eq_true hk, Bool.true_and]
   unfold argB restL
   have hz : ((s.size : Int) ≤ 200) = (s.size ≤ 200) := by rw [eq_iff_iff]; omega
   by_cases h5 : a ≤ 5
   ·simp only [if_pos h5, if_true]
    by_cases hb : b = 0
    ·by_cases hq : s.size ≤ 200
     ·by_cases h1 : a = 1
      ·simp only [if_pos hb, hz, if_pos hq, if_pos h1, beq_iff_eq.mpr hb, decide_eq_true hq, Bool.and_self]
       exact Ev.now _
      ·simp only [if_pos hb, hz, if_pos hq, if_neg h1, beq_iff_eq.mpr hb, decide_eq_true hq, if_pos (show 2 ≤ a ∧ a ≤ 5 by omega), Bool.true_and, Bool.and_true]
       exact Ev.now _
     ·have e2 : (if a = 1 then (b == 0) && decide (s.size ≤ 200) else if 2 ≤ a ∧ a ≤ 5 then (b == 0) && (!(s.toList == ([] : List UInt8)) && decide (s.size ≤ 200)) else if 6 ≤ a ∧ a ≤ 10 then (s.toList == ([] : List UInt8)) && (decide (0 ≤ b) && decide (b ≤ 200)) else if 21 ≤ a ∧ a ≤ 24 then (b == 0) && isNameB s else decide (1 ≤ a ∧ a ≤ 24) && ((b == 0) && (s.toList == ([] : List UInt8)))) = false := by
       by_cases h1 : a = 1
       ·rw [if_pos h1, decide_eq_false hq, Bool.and_false]
       ·rw [if_neg h1, if_pos (show 2 ≤ a ∧ a ≤ 5 by omega), decide_eq_false hq, Bool.and_false, Bool.and_false]
      rw [e2]
      simp only [if_pos hb, hz, if_neg hq]
      exact Ev.now _
    ·have e2 : (if a = 1 then (b == 0) && decide (s.size ≤ 200) else if 2 ≤ a ∧ a ≤ 5 then (b == 0) && (!(s.toList == ([] : List UInt8)) && decide (s.size ≤ 200)) else if 6 ≤ a ∧ a ≤ 10 then (s.toList == ([] : List UInt8)) && (decide (0 ≤ b) && decide (b ≤ 200)) else if 21 ≤ a ∧ a ≤ 24 then (b == 0) && isNameB s else decide (1 ≤ a ∧ a ≤ 24) && ((b == 0) && (s.toList == ([] : List UInt8)))) = false := by
      by_cases h1 : a = 1
      ·rw [if_pos h1, beq_eq_false_iff_ne.mpr hb, Bool.false_and]
      ·rw [if_neg h1, if_pos (show 2 ≤ a ∧ a ≤ 5 by omega), beq_eq_false_iff_ne.mpr hb, Bool.false_and]
     rw [e2]
     simp only [if_neg hb]
     exact Ev.now _
   ·have n1 : ¬ a = 1 := by omega
    have n2 : ¬ (2 ≤ a ∧ a ≤ 5) := by omega
    simp only [if_neg h5, if_neg n1, if_neg n2]
    by_cases h6 : a ≤ 10
    ·simp only [if_pos h6, if_pos (show 6 ≤ a ∧ a ≤ 10 by omega), show (([110] : List UInt8) = [115]) = False by simp, if_false, if_true]
     by_cases hs : s.toList = []
     ·simp only [if_pos hs, beq_iff_eq.mpr hs, Bool.true_and]
      exact Ev.now _
     ·simp only [if_neg hs, beq_eq_false_iff_ne.mpr hs, Bool.false_and]
      exact Ev.now _
    ·simp only [if_neg h6, if_neg (show ¬ (6 ≤ a ∧ a ≤ 10) by omega)]
     by_cases h7 : 21 ≤ a
     ·simp only [if_pos h7, if_pos (show 21 ≤ a ∧ a ≤ 24 by omega), show (([120] : List UInt8) = [115]) = False by simp, show (([120] : List UInt8) = [110]) = False by simp, if_false, if_true]
      by_cases hb : b = 0
      ·simp only [if_pos hb, beq_iff_eq.mpr hb, Bool.true_and]
       exact Ev.bind (spec_isName s) (Ev.now _)
      ·simp only [if_neg hb, beq_eq_false_iff_ne.mpr hb, Bool.false_and]
       exact Ev.now _
     ·simp only [if_neg h7, if_neg (show ¬ (21 ≤ a ∧ a ≤ 24) by omega), show (([] : List UInt8) = [115]) = False by simp, show (([] : List UInt8) = [110]) = False by simp, show (([] : List UInt8) = [120]) = False by simp, if_false, decide_eq_true h, Bool.true_and]
      by_cases hb : b = 0
      ·simp only [if_pos hb, beq_iff_eq.mpr hb, Bool.true_and]
       exact Ev.now _
      ·simp only [if_neg hb, beq_eq_false_iff_ne.mpr hb, Bool.false_and]
       exact Ev.now _
  ·simp only [if_neg hk, decide_eq_false hk, Bool.false_and]
   exact Ev.now _
 ·rw [decide_eq_false h, Bool.false_and]
  have hb : (decide (1 ≤ a) && decide (a ≤ 24)) = false := by
   rw [Bool.and_eq_false_iff, decide_eq_false_iff_not, decide_eq_false_iff_not]
   omega
  simp only [hb, Bool.false_eq_true, if_false]
  exact Ev.now _
def leafB (a : Int) : Bool := decide (1 ≤ a ∧ a ≤ 24) && (kidsN a == 0)
def insB (a b : Int) (s : ByteArray) : Bool :=
 if leafB a = true then argB a b s
 else if a = 32 ∨ a = 33 ∨ a = 37 then (s.toList == ([] : List UInt8)) && (decide (0 ≤ b) && decide (b < 13000))
 else if a = 35 ∨ a = 36 then (b == 0) && isNameB s
 else decide (31 ≤ a ∧ a ≤ 39) && ((b == 0) && (s.toList == ([] : List UInt8)))
set_option linter.unusedSimpArgs false in
theorem impl_leaf (a : Int) : Ev (fun k => impl_isLeaf.f k a) (leafB a) := by
 unfold impl_isLeaf.f F30.f leafB
 simp only [arg_within, Option.bind_some]
 cases decide (1 ≤ a ∧ a ≤ 24) with
 | true =>
  simp only [if_true, Bool.true_and]
  exact Ev.bind (impl_kids a) (Ev.now _)
 | false =>
  simp only [Bool.false_eq_true, if_false, Bool.false_and]
  exact Ev.now _
set_option linter.unusedSimpArgs false in
theorem impl_ins (a b : Int) (s : ByteArray) : Ev (fun k => impl_ValidIns.f k a b s) (insB a b s) := by
 unfold impl_ValidIns.f insB
 refine Ev.bind (impl_leaf a) ?_
 cases leafB a with
 | true =>
  simp only [if_true]
  exact Ev.bind (impl_arg a b s) (Ev.now _)
 | false =>
  simp only [Bool.false_eq_true, if_false]
  by_cases h1 : a = 32 ∨ a = 33 ∨ a = 37
  ·have e : F27.f a = some true := by
    unfold F27.f
    rcases h1 with rfl | rfl | rfl <;> rfl
   simp only [e, Option.bind_some, if_true, if_pos h1]
   by_cases hs : s.toList = []
   ·simp only [if_pos hs, beq_iff_eq.mpr hs, Bool.true_and]
    have e2 : impl_isIndex.f b 13000 = some (decide (0 ≤ b) && decide (b < 13000)) := by
     unfold impl_isIndex.f
     by_cases hb : 0 ≤ b <;> simp [hb]
    simp only [e2, Option.bind_some]
    exact Ev.now _
   ·simp only [if_neg hs, beq_eq_false_iff_ne.mpr hs, Bool.false_and]
    exact Ev.now _
  ·have e : F27.f a = some false := by
    unfold F27.f
    rw [if_neg (by omega), if_neg (by omega), beq_eq_false_iff_ne.mpr (by omega)]
   simp only [e, Option.bind_some, Bool.false_eq_true, if_false, if_neg h1]
   by_cases h2 : a = 35 ∨ a = 36
   ·have e3 : F29.f a = some true := by
     unfold F29.f
     rcases h2 with rfl | rfl <;> rfl
    simp only [e3, Option.bind_some, if_true, if_pos h2]
    by_cases hb : b = 0
    ·simp only [if_pos hb, beq_iff_eq.mpr hb, Bool.true_and]
     exact Ev.bind (impl_isName s) (Ev.now _)
    ·simp only [if_neg hb, beq_eq_false_iff_ne.mpr hb, Bool.false_and]
     exact Ev.now _
   ·have e3 : F29.f a = some false := by
     unfold F29.f
     rw [if_neg (by omega), beq_eq_false_iff_ne.mpr (by omega)]
    simp only [e3, Option.bind_some, Bool.false_eq_true, if_false, if_neg h2, arg_within]
    cases decide (31 ≤ a ∧ a ≤ 39) with
    | true =>
     simp only [if_true, Bool.true_and]
     by_cases hb : b = 0
     ·simp only [if_pos hb, beq_iff_eq.mpr hb, Bool.true_and]
      exact Ev.now _
     ·simp only [if_neg hb, beq_eq_false_iff_ne.mpr hb, Bool.false_and]
      exact Ev.now _
    | false =>
     simp only [Bool.false_eq_true, if_false, Bool.false_and]
     exact Ev.now _
set_option linter.unusedSimpArgs false in
theorem spec_leaf (a : Int) : spec_l13Leaf.f a = some (leafB a) := by
 unfold spec_l13Leaf.f
 simp only [arg_in, Option.bind_some]
 have e : leafB a = decide ((1 ≤ a ∧ a ≤ 17) ∨ a = 23 ∨ a = 24) := by
  unfold leafB kidsN
  rw [Bool.eq_iff_iff, Bool.and_eq_true, decide_eq_true_iff, decide_eq_true_iff, beq_iff_eq]
  by_cases h1 : a = 18
  ·subst h1; simp
  by_cases h2 : a = 19
  ·subst h2; simp
  by_cases h3 : a = 20
  ·subst h3; simp
  by_cases h4 : a = 21
  ·subst h4; simp
  by_cases h5 : a = 22
  ·subst h5; simp
  simp only [if_neg h1, if_neg h2, if_neg h3, if_neg h4, if_neg h5, and_true]
  omega
 rw [e]
 by_cases h : 1 ≤ a ∧ a ≤ 17
 ·simp only [decide_eq_true h.1, decide_eq_true h.2, Bool.and_self, if_true]
  rw [decide_eq_true (Or.inl h)]
 ·have hb : (decide (1 ≤ a) && decide (a ≤ 17)) = false := by
   rw [Bool.and_eq_false_iff, decide_eq_false_iff_not, decide_eq_false_iff_not]
   omega
  simp only [hb, Bool.false_eq_true, if_false]
  by_cases h1 : a = 23
  ·rw [if_pos h1, decide_eq_true (Or.inr (Or.inl h1))]
  ·rw [if_neg h1]
   congr 1
   rw [Bool.eq_iff_iff, beq_iff_eq, decide_eq_true_iff]
   omega
set_option linter.unusedSimpArgs false in
theorem spec_ins (a b : Int) (s : ByteArray) : Ev (fun k => F5.f k a b s) (insB a b s) := by
 have hj0 : ∀ p : Bool, p = decide (a = 31 ∨ a = 34 ∨ a = 38 ∨ a = 39) → Ev (fun k => F5.j0 k a p a b s) (insB a b s) := by
  intro p hp
  subst hp
  by_cases h : a = 31 ∨ a = 34 ∨ a = 38 ∨ a = 39
  ·rw [decide_eq_true h]
   have hl : leafB a = false := by
    unfold leafB
    rw [decide_eq_false (by omega), Bool.false_and]
   unfold insB
   rw [hl, if_neg (by simp), if_neg (by omega), if_neg (by omega), decide_eq_true (by omega), Bool.true_and]
   by_cases hb : b = 0
   ·rw [beq_iff_eq.mpr hb, Bool.true_and]
    refine Ev.step (f := fun _ => some (s.toList == ([] : List UInt8))) (fun k => ?_) (Ev.now _)
    simp only [F5.j0]
    rw [if_pos trivial, if_pos hb]
   ·rw [beq_eq_false_iff_ne.mpr hb, Bool.false_and]
    refine Ev.step (f := fun _ => some false) (fun k => ?_) (Ev.now _)
    simp only [F5.j0]
    rw [if_pos trivial, if_neg hb]
  ·rw [decide_eq_false h]
   have hj2 : ∀ q : Bool, ¬ (a = 32 ∨ a = 33 ∨ a = 37) → q = decide (a = 35 ∨ a = 36) → Ev (fun k => F5.j2 k q a b s) (insB a b s) := by
    intro q h1 hq
    subst hq
    by_cases h2 : a = 35 ∨ a = 36
    ·rw [decide_eq_true h2]
     have hl : leafB a = false := by
      unfold leafB
      rw [decide_eq_false (by omega), Bool.false_and]
     unfold insB
     rw [hl, if_neg (by simp), if_neg h1, if_pos h2]
     by_cases hb : b = 0
     ·rw [beq_iff_eq.mpr hb, Bool.true_and]
      refine Ev.step (f := fun k => (F21.f k s).bind fun t => some t) (fun k => ?_) (Ev.bind (spec_isName s) (Ev.now _))
      simp only [F5.j2]
      rw [if_pos trivial, if_pos hb]
     ·rw [beq_eq_false_iff_ne.mpr hb, Bool.false_and]
      refine Ev.step (f := fun _ => some false) (fun k => ?_) (Ev.now _)
      simp only [F5.j2]
      rw [if_pos trivial, if_neg hb]
    ·rw [decide_eq_false h2]
     refine Ev.step (f := fun k => if leafB a = true then (F33.f k a b s []).bind fun t => some t else some false) (fun k => ?_) ?_
     ·simp only [F5.j2]
      rw [if_neg (by simp), spec_leaf, Option.bind_some]
     ·unfold insB
      rw [if_neg h1, if_neg h2]
      cases hl : leafB a with
      | true =>
       simp only [if_true]
       have r := spec_node a b s []
       unfold leafB at hl
       rw [Bool.and_eq_true, beq_iff_eq] at hl
       rw [hl.1, hl.2] at r
       exact Ev.bind r (Ev.now _)
      | false =>
       simp only [Bool.false_eq_true, if_false]
       rw [decide_eq_false (by omega), Bool.false_and]
       exact Ev.now _
   have hj1 : ∀ q : Bool, q = decide (a = 32 ∨ a = 33 ∨ a = 37) → Ev (fun k => F5.j1 k a q a b s) (insB a b s) := by
    intro q hq
    subst hq
    by_cases h1 : a = 32 ∨ a = 33 ∨ a = 37
    ·rw [decide_eq_true h1]
     have hl : leafB a = false := by
      unfold leafB
      rw [decide_eq_false (by omega), Bool.false_and]
     unfold insB
     rw [hl, if_neg (by simp), if_pos h1]
     have ein : F24.f b 0 12999 = some (decide (0 ≤ b) && decide (b < 13000)) := by
      rw [arg_in]
      congr 2
      rw [Bool.eq_iff_iff, decide_eq_true_iff, decide_eq_true_iff]
      omega
     refine Ev.step (f := fun _ => some ((s.toList == ([] : List UInt8)) && (decide (0 ≤ b) && decide (b < 13000)))) (fun k => ?_) (Ev.now _)
     simp only [F5.j1]
     rw [if_pos trivial, ein, Option.bind_some]
     cases (decide (0 ≤ b) && decide (b < 13000)) with
     | true => rw [if_pos rfl, Bool.and_true]
     | false => rw [if_neg (by simp), Bool.and_false]
    ·rw [decide_eq_false h1]
     by_cases h5 : a = 35
     ·refine Ev.step (f := fun k => F5.j2 k (a == 35) a b s) (fun k => ?_) (hj2 _ h1 (by rw [beq_iff_eq.mpr h5, decide_eq_true (Or.inl h5)]))
      simp only [F5.j1]
      rw [if_neg (by simp), if_pos h5]
     ·refine Ev.step (f := fun k => F5.j2 k (a == 36) a b s) (fun k => ?_) (hj2 _ h1 (by rw [Bool.eq_iff_iff, beq_iff_eq, decide_eq_true_iff]; omega))
      simp only [F5.j1]
      rw [if_neg (by simp), if_neg h5]
   by_cases h3 : a = 32
   ·refine Ev.step (f := fun k => F5.j1 k a (a == 32) a b s) (fun k => ?_) (hj1 _ (by rw [beq_iff_eq.mpr h3, decide_eq_true (Or.inl h3)]))
    simp only [F5.j0]
    rw [if_neg (by simp), if_pos h3]
   ·by_cases h4 : a = 33
    ·refine Ev.step (f := fun k => F5.j1 k a (a == 33) a b s) (fun k => ?_) (hj1 _ (by rw [beq_iff_eq.mpr h4, decide_eq_true (Or.inr (Or.inl h4))]))
     simp only [F5.j0]
     rw [if_neg (by simp), if_neg h3, if_pos h4]
    ·refine Ev.step (f := fun k => F5.j1 k a (a == 37) a b s) (fun k => ?_) (hj1 _ (by rw [Bool.eq_iff_iff, beq_iff_eq, decide_eq_true_iff]; omega))
     simp only [F5.j0]
     rw [if_neg (by simp), if_neg h3, if_neg h4]
 unfold F5.f
 by_cases h1 : a = 31
 ·simp only [if_pos h1]
  exact hj0 _ (by rw [beq_iff_eq.mpr h1, decide_eq_true (Or.inl h1)])
 simp only [if_neg h1]
 by_cases h2 : a = 34
 ·simp only [if_pos h2]
  exact hj0 _ (by rw [beq_iff_eq.mpr h2, decide_eq_true (Or.inr (Or.inl h2))])
 simp only [if_neg h2]
 by_cases h3 : a = 38
 ·simp only [if_pos h3]
  exact hj0 _ (by rw [beq_iff_eq.mpr h3, decide_eq_true (Or.inr (Or.inr (Or.inl h3)))])
 simp only [if_neg h3]
 exact hj0 _ (by rw [Bool.eq_iff_iff, beq_iff_eq, decide_eq_true_iff]; omega)
def nextI (i : S80) (a : Int) : List Int := if i.f0 = 33 ∨ i.f0 = 37 then [i.f1] else if i.f0 = 32 then [a + 1, i.f1] else if i.f0 = 38 ∨ i.f0 = 39 then [] else [a + 1]
def stepI (i : S80) (m : Int) : Int := if i.f0 = 34 then m + 1 else if i.f0 = 35 ∨ i.f0 = 36 ∨ i.f0 = 37 then m - 1 else m
def badI (i : S80) (m : Int) : Prop := stepI i m < 0 ∨ ((i.f0 = 38 ∨ i.f0 = 39) ∧ m ≠ 0)
def pushI (m : Int) : List Int → List Int → List Int → Option (List Int × List Int)
 | [], ms, td => some (ms, td)
 | n :: ns, ms, td => if ms.getD n.toNat 0 = -1 then pushI m ns (ms.set n.toNat m) (td ++ [n]) else if ms.getD n.toNat 0 = m then pushI m ns ms td else none
inductive Run (code : List S80) : List Int → List Int → Option (List Int) → Prop where
 | done (ms : List Int) : Run code ms [] (some ms)
 | bad (ms td : List Int) (a : Nat) (i : S80) (hi : code[a]? = some i) (hb : badI i (ms.getD a 0)) : Run code ms (td ++ [(a : Int)]) none
 | clash (ms td : List Int) (a : Nat) (i : S80) (hi : code[a]? = some i) (hb : ¬ badI i (ms.getD a 0)) (hp : pushI (stepI i (ms.getD a 0)) (nextI i a) ms td = none) : Run code ms (td ++ [(a : Int)]) none
 | step (ms td : List Int) (a : Nat) (i : S80) (hi : code[a]? = some i) (hb : ¬ badI i (ms.getD a 0)) (ms' td' : List Int) (hp : pushI (stepI i (ms.getD a 0)) (nextI i a) ms td = some (ms', td')) (r : Option (List Int)) (h : Run code ms' td' r) : Run code ms (td ++ [(a : Int)]) r
structure MInv (n : Nat) (ms td : List Int) : Prop where
 len : ms.length = n
 val : ∀ j, j < n → -1 ≤ ms.getD j 0 ∧ ms.getD j 0 + (ms.count (-1) : Int) ≤ n
 todo : ∀ t, t ∈ td → ∃ a : Nat, t = a ∧ a < n ∧ ms.getD a 0 ≠ -1
theorem getD_set_self {l : List Int} {i : Nat} {x d : Int} (h : i < l.length) : (l.set i x).getD i d = x := by
 rw [List.getD_eq_getElem?_getD, List.getElem?_set_self h]
 rfl
theorem getD_set_ne {l : List Int} {i j : Nat} {x d : Int} (h : i ≠ j) : (l.set i x).getD j d = l.getD j d := by
 rw [List.getD_eq_getElem?_getD, List.getElem?_set_ne h, List.getD_eq_getElem?_getD]
theorem count_set_neg {l : List Int} {i : Nat} {x : Int} (h : i < l.length) (h1 : l.getD i 0 = -1) (hx : x ≠ -1) : (l.set i x).count (-1) + 1 = l.count (-1) := by
 have e : l[i] = -1 := by rw [List.getD_eq_getElem?_getD, List.getElem?_eq_getElem h] at h1; exact h1
 have hp : 0 < l.count (-1) := List.count_pos_iff.2 (by rw [← e]; exact List.getElem_mem h)
 rw [List.count_set (h := h)]
 simp only [e, beq_self_eq_true, if_true]
 rw [if_neg (by simpa using hx)]
 omega
theorem count_le {l : List Int} : l.count (-1) ≤ l.length := List.count_le_length
theorem push_inv (n : Nat) (m : Int) (hm : 0 ≤ m) : ∀ (ns ms td : List Int), MInv n ms td → (∀ k, k ∈ ns → 0 ≤ k ∧ k < n) → (ns ≠ [] → m + (ms.count (-1) : Int) ≤ n + 1) → ∀ ms' td', pushI m ns ms td = some (ms', td') → MInv n ms' td' ∧ ms'.count (-1) + td'.length = ms.count (-1) + td.length := by
 intro ns
 induction ns with
 | nil =>
  intro ms td h _ _ ms' td' hp
  simp only [pushI, Option.some.injEq, Prod.mk.injEq] at hp
  obtain ⟨rfl, rfl⟩ := hp
  exact ⟨h, rfl⟩
 | cons k ns ih =>
  intro ms td h hr hb ms' td' hp
  simp only [pushI] at hp
  obtain ⟨hk0, hk1⟩ := hr k List.mem_cons_self
  have hkl : k.toNat < ms.length := by rw [h.len]; omega
  split at hp
  ·rename_i he
   have hc := count_set_neg hkl he (x := m) (by omega)
   have hbm := hb (by simp)
   have hi : MInv n (ms.set k.toNat m) (td ++ [k]) := by
    refine ⟨by rw [List.length_set]; exact h.len, fun j hj => ?_, fun t ht => ?_⟩
    ·by_cases hjk : k.toNat = j
     ·subst hjk
      rw [getD_set_self hkl]
      omega
     ·rw [getD_set_ne hjk]
      have := h.val j hj
      omega
    ·rw [List.mem_append, List.mem_singleton] at ht
     rcases ht with ht | rfl
     ·obtain ⟨a, h1, h2, h3⟩ := h.todo t ht
      refine ⟨a, h1, h2, ?_⟩
      by_cases hak : k.toNat = a
      ·subst hak
       rw [getD_set_self hkl]
       omega
      ·rw [getD_set_ne hak]
       exact h3
     ·refine ⟨t.toNat, by omega, by omega, ?_⟩
      rw [getD_set_self hkl]
      omega
   obtain ⟨i1, i2⟩ := ih _ _ hi (fun j hj => hr j (List.mem_cons_of_mem _ hj)) (fun _ => by omega) _ _ hp
   refine ⟨i1, ?_⟩
   rw [i2, List.length_append, List.length_singleton]
   omega
  ·split at hp
   ·exact ih _ _ h (fun j hj => hr j (List.mem_cons_of_mem _ hj)) (fun _ => hb (by simp)) _ _ hp
   ·cases hp
theorem run_total (code : List S80) (hr : ∀ (a : Nat) (i : S80), code[a]? = some i → ∀ k, k ∈ nextI i a → 0 ≤ k ∧ k < code.length) (N : Nat) : ∀ (ms td : List Int), ms.count (-1) + td.length ≤ N → MInv code.length ms td → ∃ r, Run code ms td r := by
 induction N with
 | zero =>
  intro ms td hN h
  obtain rfl : td = [] := List.length_eq_zero_iff.1 (by omega)
  exact ⟨_, .done ms⟩
 | succ N ih =>
  intro ms td hN h
  rcases List.eq_nil_or_concat td with rfl | ⟨td0, t, e⟩
  ·exact ⟨_, .done ms⟩
  ·rw [List.concat_eq_append] at e
   subst e
   obtain ⟨a, rfl, ha, hn⟩ := h.todo t (by simp)
   obtain ⟨i, hi⟩ : ∃ i, code[a]? = some i := ⟨_, List.getElem?_eq_getElem ha⟩
   by_cases hb : badI i (ms.getD a 0)
   ·exact ⟨_, .bad ms td0 a i hi hb⟩
   ·have hv := h.val a ha
    have hs : 0 ≤ stepI i (ms.getD a 0) := by unfold badI at hb; omega
    have hs2 : stepI i (ms.getD a 0) ≤ ms.getD a 0 + 1 := by unfold stepI; split <;> (try split) <;> omega
    have h0 : MInv code.length ms td0 := ⟨h.len, h.val, fun t ht => h.todo t (by simp [ht])⟩
    cases hp : pushI (stepI i (ms.getD a 0)) (nextI i a) ms td0 with
    | none => exact ⟨_, .clash ms td0 a i hi hb hp⟩
    | some q =>
     obtain ⟨ms', td'⟩ := q
     obtain ⟨i1, i2⟩ := push_inv code.length _ hs _ ms td0 h0 (hr a i hi) (fun _ => by omega) ms' td' hp
     simp only [List.length_append, List.length_singleton] at hN
     obtain ⟨r, hR⟩ := ih ms' td' (by omega) i1
     exact ⟨r, .step ms td0 a i hi hb ms' td' hp r hR⟩
theorem spec_next_ev (i : S80) (a : Int) (h0 : 0 ≤ a) (h1 : a ≤ 1000000) : Ev (fun k => F22.f k i.f0 i.f1 i.f2 a) (nextI i a) := by
 have hw : wrap64 (a + 1) = a + 1 := by unfold wrap64; omega
 have key : ∀ b : Bool, b = decide (i.f0 = 33 ∨ i.f0 = 37) → Ev (fun k => F22.j0 k a i.f0 b i.f0 i.f1 i.f2) (nextI i a) := by
  intro b hb
  refine Ev.step (f := fun _ => some (nextI i a)) (fun k => ?_) (Ev.now _)
  simp only [F22.j0, nextI, hw]
  by_cases c1 : i.f0 = 33 ∨ i.f0 = 37
  ·rw [if_pos (by rw [hb]; exact decide_eq_true c1), if_pos c1]
  ·rw [if_neg (by rw [hb, decide_eq_false c1]; simp), if_neg c1]
   by_cases c2 : i.f0 = 32
   ·rw [if_pos c2, if_pos c2]
   ·rw [if_neg c2, if_neg c2]
    by_cases c3 : i.f0 = 39
    ·rw [if_pos c3, if_pos (Or.inr c3)]
    ·rw [if_neg c3]
     by_cases c4 : i.f0 = 38
     ·rw [if_pos c4, if_pos (Or.inl c4)]
     ·rw [if_neg c4, if_neg (by omega)]
 by_cases c : i.f0 = 33
 ·refine Ev.congr (f := fun k => F22.j0 k a i.f0 (i.f0 == 33) i.f0 i.f1 i.f2) (fun k => ?_) (key _ ?_)
  ·unfold F22.f
   rw [if_pos c]
  ·rw [beq_iff_eq.mpr c, decide_eq_true (Or.inl c)]
 ·refine Ev.congr (f := fun k => F22.j0 k a i.f0 (i.f0 == 37) i.f0 i.f1 i.f2) (fun k => ?_) (key _ ?_)
  ·unfold F22.f
   rw [if_neg c]
  ·by_cases c7 : i.f0 = 37
   ·rw [beq_iff_eq.mpr c7, decide_eq_true (Or.inr c7)]
   ·rw [beq_eq_false_iff_ne.mpr c7, decide_eq_false (by omega)]
theorem rd_drop {l : List Int} {i : Nat} {x : Int} {s : List Int} (h : l.drop i = x :: s) : i < l.length ∧ rd l (i : Int) = x ∧ l.drop (i + 1) = s := by
 have hl : i < l.length := by
  rcases Nat.lt_or_ge i l.length with h2 | h2
  ·exact h2
  ·rw [List.drop_eq_nil_of_le h2] at h; cases h
 rw [List.drop_eq_getElem_cons hl] at h
 injection h with h1 h2
 refine ⟨hl, ?_, h2⟩
 simp [rd, List.getD_eq_getElem?_getD, List.getElem?_eq_getElem hl, h1]
theorem spec_l3_ev (n : Nat) (hn : n ≤ 1000000) (code : List S80) (ents : List S77) (m : Int) (hm : 0 ≤ m) (ns : List Int) (hns : ns.length ≤ 2) (s : List Int) : ∀ (i : Nat) (ms td : List Int), ns.drop i = s → i ≤ ns.length → ms.length = n → td.length + s.length ≤ 2000000 → (∀ k, k ∈ s → 0 ≤ k ∧ k < n) →
  (pushI m s ms td = none → Ev (fun k => F3.l3 k ms td m ns (i : Int) code ents) (([] : List Int), false)) ∧
  (∀ ms' td' r, pushI m s ms td = some (ms', td') → Ev (fun k => F3.l2 k ms' td' code ents) r → Ev (fun k => F3.l3 k ms td m ns (i : Int) code ents) r) := by
 induction s with
 | nil =>
  intro i ms td hd hi hl ht hr
  have hi2 : i = ns.length := by
   have := congrArg List.length hd
   simp only [List.length_drop, List.length_nil] at this
   omega
  refine ⟨fun h => by simp [pushI] at h, fun ms' td' r hp he => ?_⟩
  simp only [pushI, Option.some.injEq, Prod.mk.injEq] at hp
  obtain ⟨rfl, rfl⟩ := hp
  refine Ev.step (f := fun k => F3.l2 k ms td code ents) (fun k => ?_) he
  simp only [F3.l3]
  rw [if_neg (by omega)]
 | cons x s ih =>
  intro i ms td hd hi hl ht hr
  obtain ⟨hlt, hx, hd2⟩ := rd_drop hd
  obtain ⟨hx0, hx1⟩ := hr x List.mem_cons_self
  simp only [List.length_cons] at ht
  have hw : wrap64 ((i : Int) + 1) = ((i + 1 : Nat) : Int) := by unfold wrap64; omega
  have hrd : rd ms x = ms.getD x.toNat 0 := rfl
  have un : ∀ k, F3.l3 (k + 1) ms td m ns (i : Int) code ents = (if ms.getD x.toNat 0 = (-1) then F3.l3 k (ms.set x.toNat m) (td ++ [x]) m ns ((i + 1 : Nat) : Int) code ents else if ms.getD x.toNat 0 = m then F3.l3 k ms td m ns ((i + 1 : Nat) : Int) code ents else some (([] : List Int), false)) := by
   intro k
   simp only [F3.l3, hx, hrd, hw]
   rw [if_pos (show (i : Int) < (ns.length : Int) by omega), if_pos (show (0 : Int) ≤ (i : Int) by omega), if_pos hx0, if_pos (show x < (ms.length : Int) by omega), if_pos (show td.length < 17592186044416 by omega)]
  by_cases c1 : ms.getD x.toNat 0 = -1
  ·obtain ⟨i1, i2⟩ := ih (i + 1) (ms.set x.toNat m) (td ++ [x]) hd2 (by omega) (by rw [List.length_set]; exact hl) (by rw [List.length_append, List.length_singleton]; omega) (fun k hk => hr k (List.mem_cons_of_mem _ hk))
   simp only [pushI, if_pos c1]
   exact ⟨fun h => Ev.step (fun k => by rw [un, if_pos c1]) (i1 h), fun ms' td' r hp he => Ev.step (fun k => by rw [un, if_pos c1]) (i2 ms' td' r hp he)⟩
  ·by_cases c2 : ms.getD x.toNat 0 = m
   ·obtain ⟨i1, i2⟩ := ih (i + 1) ms td hd2 (by omega) hl (by omega) (fun k hk => hr k (List.mem_cons_of_mem _ hk))
    simp only [pushI, if_neg c1, if_pos c2]
    exact ⟨fun h => Ev.step (fun k => by rw [un, if_neg c1, if_pos c2]) (i1 h), fun ms' td' r hp he => Ev.step (fun k => by rw [un, if_neg c1, if_pos c2]) (i2 ms' td' r hp he)⟩
   ·simp only [pushI, if_neg c1, if_neg c2]
    exact ⟨fun _ => Ev.step (f := fun _ => some (([] : List Int), false)) (fun k => by rw [un, if_neg c1, if_neg c2]) (Ev.now _), fun ms' td' r hp => by cases hp⟩
theorem next_len (i : S80) (a : Int) : (nextI i a).length ≤ 2 := by
 unfold nextI
 split
 ·simp
 split
 ·simp
 split
 ·simp
 ·simp
theorem spec_j5_ev (n : Nat) (hn : n ≤ 1000000) (code : List S80) (ents : List S77) (i : S80) (a : Nat) (ha : a < n) (m : Int) (ms td : List Int) (hl : ms.length = n) (ht : td.length ≤ 1000001) (hr : ∀ k, k ∈ nextI i a → 0 ≤ k ∧ k < n) :
  (m < 0 → Ev (fun k => F3.j5 k ms td (a : Int) m code ents i.f0 i.f1 i.f2) (([] : List Int), false)) ∧
  (0 ≤ m → pushI m (nextI i a) ms td = none → Ev (fun k => F3.j5 k ms td (a : Int) m code ents i.f0 i.f1 i.f2) (([] : List Int), false)) ∧
  (∀ ms' td' r, 0 ≤ m → pushI m (nextI i a) ms td = some (ms', td') → Ev (fun k => F3.l2 k ms' td' code ents) r → Ev (fun k => F3.j5 k ms td (a : Int) m code ents i.f0 i.f1 i.f2) r) := by
 have hx := spec_next_ev i (a : Int) (by omega) (by omega)
 have un : ∀ k, F3.j5 (k + 1) ms td (a : Int) m code ents i.f0 i.f1 i.f2 = (if m < 0 then some (([] : List Int), false) else (F22.f k i.f0 i.f1 i.f2 (a : Int)).bind fun t => F3.l3 k ms td m t 0 code ents) := fun k => by simp only [F3.j5]
 have hl2 := next_len i (a : Int)
 have l3 := fun hm => spec_l3_ev n hn code ents m hm (nextI i a) hl2 (nextI i a) 0 ms td rfl (Nat.zero_le _) hl (by omega) hr
 refine ⟨fun h => Ev.step (f := fun _ => some (([] : List Int), false)) (fun k => by rw [un, if_pos h]) (Ev.now _), fun h hp => ?_, fun ms' td' r h hp he => ?_⟩
 ·exact Ev.step (f := fun k => (F22.f k i.f0 i.f1 i.f2 (a : Int)).bind fun t => F3.l3 k ms td m t 0 code ents) (fun k => by rw [un, if_neg (by omega)]) (Ev.bind hx ((l3 h).1 hp))
 ·exact Ev.step (f := fun k => (F22.f k i.f0 i.f1 i.f2 (a : Int)).bind fun t => F3.l3 k ms td m t 0 code ents) (fun k => by rw [un, if_neg (by omega)]) (Ev.bind hx ((l3 h).2 ms' td' r hp he))
theorem spec_l2_ev (n : Nat) (hn : n ≤ 1000000) (code : List S80) (hc : code.length = n) (ents : List S77) (i : S80) (a : Nat) (hi : code[a]? = some i) (ms td : List Int) (hl : ms.length = n) (ht : td.length ≤ 1000000) (h0 : 0 ≤ ms.getD a 0) (h1 : ms.getD a 0 ≤ 1000000) (res : List Int × Bool)
  (hb : badI i (ms.getD a 0) → res = (([] : List Int), false)) (hg : ¬ badI i (ms.getD a 0) → Ev (fun k => F3.j5 k ms td (a : Int) (stepI i (ms.getD a 0)) code ents i.f0 i.f1 i.f2) res) (hneg : stepI i (ms.getD a 0) < 0 → Ev (fun k => F3.j5 k ms td (a : Int) (stepI i (ms.getD a 0)) code ents i.f0 i.f1 i.f2) (([] : List Int), false)) :
  Ev (fun k => F3.l2 k ms (td ++ [(a : Int)]) code ents) res := by
 have ha : a < n := by rw [← hc]; exact (List.getElem?_eq_some_iff.1 hi).1
 have hlen : ((td ++ [(a : Int)]).length : Int) = (td.length : Int) + 1 := by simp
 have hw : wrap64 (((td ++ [(a : Int)]).length : Int) - 1) = (td.length : Int) := by rw [hlen]; unfold wrap64; omega
 have hrd : rd (td ++ [(a : Int)]) (td.length : Int) = (a : Int) := by simp [rd]
 have htk : (td ++ [(a : Int)]).take ((td.length : Int)).toNat = td := by simp
 have hri : rd_T80 code (a : Int) = i := by simp [rd_T80, List.getD_eq_getElem?_getD, hi]
 have hrm : rd ms (a : Int) = ms.getD a 0 := by simp [rd]
 generalize hm0 : ms.getD a 0 = m0 at *
 have hw1 : wrap64 (m0 + 1) = m0 + 1 := by unfold wrap64; omega
 have hw2 : wrap64 (m0 - 1) = m0 - 1 := by unfold wrap64; omega
 have un : ∀ k, F3.l2 (k + 1) ms (td ++ [(a : Int)]) code ents = (if i.f0 = 34 then F3.j5 k ms td (a : Int) (m0 + 1) code ents i.f0 i.f1 i.f2 else if i.f0 = 35 then F3.j3 k ms td (a : Int) m0 i.f0 (i.f0 == 35) code ents i.f0 i.f1 i.f2 else if i.f0 = 36 then F3.j3 k ms td (a : Int) m0 i.f0 (i.f0 == 36) code ents i.f0 i.f1 i.f2 else F3.j3 k ms td (a : Int) m0 i.f0 (i.f0 == 37) code ents i.f0 i.f1 i.f2) := by
  intro k
  simp only [F3.l2, hw, hrd, htk, hri, hrm, hw1, Option.bind_some]
  rw [if_pos (show ((td ++ [(a : Int)]).length : Int) > 0 by omega), if_pos (show (0 : Int) ≤ (td.length : Int) by omega), if_pos (show (td.length : Int) < ((td ++ [(a : Int)]).length : Int) by omega), if_pos (show (td.length : Int) ≤ ((td ++ [(a : Int)]).length : Int) by omega), if_pos (show (0 : Int) ≤ (a : Int) by omega), if_pos (show (a : Int) < (code.length : Int) by omega), if_pos (show (a : Int) < (ms.length : Int) by omega)]
 have j3t : ∀ r, Ev (fun k => F3.j5 k ms td (a : Int) (m0 - 1) code ents i.f0 i.f1 i.f2) r → Ev (fun k => F3.j3 k ms td (a : Int) m0 i.f0 true code ents i.f0 i.f1 i.f2) r := fun r he => Ev.step (fun k => by simp only [F3.j3, hw2, if_true]) he
 by_cases c34 : i.f0 = 34
 ·have es : stepI i m0 = m0 + 1 := by unfold stepI; rw [if_pos c34]
  have nb : ¬ badI i m0 := by unfold badI; rw [es]; omega
  rw [← es] at un
  exact Ev.step (fun k => by rw [un, if_pos c34]) (hg nb)
 by_cases c3 : i.f0 = 35 ∨ i.f0 = 36 ∨ i.f0 = 37
 ·have es : stepI i m0 = m0 - 1 := by unfold stepI; rw [if_neg c34, if_pos c3]
  have fin : Ev (fun k => F3.j5 k ms td (a : Int) (m0 - 1) code ents i.f0 i.f1 i.f2) res := by
   rw [← es]
   by_cases hbd : badI i m0
   ·rw [hb hbd]
    refine hneg ?_
    unfold badI at hbd
    omega
   ·exact hg hbd
  have hj := j3t res fin
  refine Ev.step (f := fun k => F3.j3 k ms td (a : Int) m0 i.f0 true code ents i.f0 i.f1 i.f2) (fun k => ?_) hj
  rw [un, if_neg c34]
  by_cases c35 : i.f0 = 35
  ·rw [if_pos c35, beq_iff_eq.mpr c35]
  ·rw [if_neg c35]
   by_cases c36 : i.f0 = 36
   ·rw [if_pos c36, beq_iff_eq.mpr c36]
   ·rw [if_neg c36, beq_iff_eq.mpr (show i.f0 = 37 by omega)]
 ·have es : stepI i m0 = m0 := by unfold stepI; rw [if_neg c34, if_neg c3]
  have j4 : ∀ b : Bool, b = decide (i.f0 = 38 ∨ i.f0 = 39) → Ev (fun k => F3.j4 k ms td (a : Int) m0 b code ents i.f0 i.f1 i.f2) res := by
   intro b hbb
   by_cases c : i.f0 = 38 ∨ i.f0 = 39
   ·by_cases cz : m0 = 0
    ·have nb : ¬ badI i m0 := by unfold badI; omega
     have := hg nb
     rw [es] at this
     exact Ev.step (fun k => by simp only [F3.j4]; rw [if_pos (by rw [hbb]; exact decide_eq_true c), if_pos cz]) this
    ·rw [hb (by unfold badI; exact Or.inr ⟨c, cz⟩)]
     exact Ev.step (f := fun _ => some (([] : List Int), false)) (fun k => by simp only [F3.j4]; rw [if_pos (by rw [hbb]; exact decide_eq_true c), if_neg cz]) (Ev.now _)
   ·have nb : ¬ badI i m0 := by unfold badI; omega
    have := hg nb
    rw [es] at this
    exact Ev.step (fun k => by simp only [F3.j4]; rw [if_neg (by rw [hbb, decide_eq_false c]; simp)]) this
  have j3 : Ev (fun k => F3.j3 k ms td (a : Int) m0 i.f0 false code ents i.f0 i.f1 i.f2) res := by
   by_cases c39 : i.f0 = 39
   ·exact Ev.step (fun k => by simp only [F3.j3]; rw [if_neg (by simp), if_pos c39]) (j4 (i.f0 == 39) (by rw [beq_iff_eq.mpr c39, decide_eq_true (Or.inr c39)]))
   ·refine Ev.step (fun k => by simp only [F3.j3]; rw [if_neg (by simp), if_neg c39]) (j4 (i.f0 == 38) ?_)
    by_cases c38 : i.f0 = 38
    ·rw [beq_iff_eq.mpr c38, decide_eq_true (Or.inl c38)]
    ·rw [beq_eq_false_iff_ne.mpr c38, decide_eq_false (by omega)]
  refine Ev.step (fun k => ?_) j3
  rw [un, if_neg c34, if_neg (by omega), if_neg (by omega), beq_eq_false_iff_ne.mpr (show i.f0 ≠ 37 by omega)]
def ansM : Option (List Int) → List Int × Bool
 | some ms => (ms, true)
 | none => (([] : List Int), false)
theorem spec_run_ev (n : Nat) (hn : n ≤ 1000000) (code : List S80) (hc : code.length = n) (ents : List S77) (hr : ∀ (a : Nat) (i : S80), code[a]? = some i → ∀ k, k ∈ nextI i a → 0 ≤ k ∧ k < n) (ms td : List Int) (r : Option (List Int)) (h : Run code ms td r) :
  MInv n ms td → ms.count (-1) + td.length ≤ 1000000 → Ev (fun k => F3.l2 k ms td code ents) (ansM r) := by
 induction h with
 | done ms =>
  intro _ _
  refine Ev.step (f := fun _ => some (ms, true)) (fun k => ?_) (Ev.now _)
  simp only [F3.l2]
  rw [if_neg (by simp)]
 | bad ms td a i hi hb =>
  intro hv hs
  rw [List.length_append, List.length_singleton] at hs
  have ha : a < n := by rw [← hc]; exact (List.getElem?_eq_some_iff.1 hi).1
  obtain ⟨b, hb1, hb2, hb3⟩ := hv.todo (a : Int) (by simp)
  have hval := hv.val a ha
  have e : b = a := by omega
  subst e
  exact spec_l2_ev n hn code hc ents i b hi ms td hv.len (by omega) (by omega) (by omega) _ (fun _ => rfl) (fun nb => absurd hb nb) ((spec_j5_ev n hn code ents i b ha _ ms td hv.len (by omega) (hr b i hi)).1)
 | clash ms td a i hi hb hp =>
  intro hv hs
  rw [List.length_append, List.length_singleton] at hs
  have ha : a < n := by rw [← hc]; exact (List.getElem?_eq_some_iff.1 hi).1
  obtain ⟨b, hb1, hb2, hb3⟩ := hv.todo (a : Int) (by simp)
  have hval := hv.val a ha
  have e : b = a := by omega
  subst e
  have j := spec_j5_ev n hn code ents i b ha (stepI i (ms.getD b 0)) ms td hv.len (by omega) (hr b i hi)
  have h0 : 0 ≤ stepI i (ms.getD b 0) := by unfold badI at hb; omega
  exact spec_l2_ev n hn code hc ents i b hi ms td hv.len (by omega) (by omega) (by omega) _ (fun q => absurd q hb) (fun _ => j.2.1 h0 hp) j.1
 | step ms td a i hi hb ms' td' hp r h ih =>
  intro hv hs
  rw [List.length_append, List.length_singleton] at hs
  have ha : a < n := by rw [← hc]; exact (List.getElem?_eq_some_iff.1 hi).1
  obtain ⟨b, hb1, hb2, hb3⟩ := hv.todo (a : Int) (by simp)
  have hval := hv.val a ha
  have e : b = a := by omega
  subst e
  have j := spec_j5_ev n hn code ents i b ha (stepI i (ms.getD b 0)) ms td hv.len (by omega) (hr b i hi)
  have h0 : 0 ≤ stepI i (ms.getD b 0) := by unfold badI at hb; omega
  have h1 : stepI i (ms.getD b 0) ≤ ms.getD b 0 + 1 := by unfold stepI; split <;> (try split) <;> omega
  obtain ⟨i1, i2⟩ := push_inv n _ h0 _ ms td ⟨hv.len, hv.val, fun t ht => hv.todo t (by simp [ht])⟩ (hr b i hi) (fun _ => by omega) ms' td' hp
  exact spec_l2_ev n hn code hc ents i b hi ms td hv.len (by omega) (by omega) (by omega) _ (fun q => absurd q hb) (fun _ => j.2.2 ms' td' _ h0 hp (ih i1 (by omega))) j.1
theorem impl_next_ev (code : List S80) (ents : List S77) (i : S80) (a : Nat) (hi : code[a]? = some i) (h1 : a ≤ 1000000) : Ev (fun k => F10.f k code ents (a : Int)) (nextI i a) := by
 have hw : wrap64 ((a : Int) + 1) = (a : Int) + 1 := by unfold wrap64; omega
 have ha := (List.getElem?_eq_some_iff.1 hi).1
 have hri : rd_T80 code (a : Int) = i := by simp [rd_T80, List.getD_eq_getElem?_getD, hi]
 have key : ∀ b : Bool, b = decide (i.f0 = 33 ∨ i.f0 = 37) → Ev (fun k => F10.j0 k (a : Int) i.f0 b i.f0 i.f1 i.f2) (nextI i a) := by
  intro b hb
  refine Ev.step (f := fun _ => some (nextI i a)) (fun k => ?_) (Ev.now _)
  simp only [F10.j0, nextI, hw]
  by_cases c1 : i.f0 = 33 ∨ i.f0 = 37
  ·rw [if_pos (by rw [hb]; exact decide_eq_true c1), if_pos c1]
  ·rw [if_neg (by rw [hb, decide_eq_false c1]; simp), if_neg c1]
   by_cases c2 : i.f0 = 32
   ·rw [if_pos c2, if_pos c2]
   ·rw [if_neg c2, if_neg c2]
    by_cases c3 : i.f0 = 39
    ·rw [if_pos c3, if_pos (Or.inr c3)]
    ·rw [if_neg c3]
     by_cases c4 : i.f0 = 38
     ·rw [if_pos c4, if_pos (Or.inl c4)]
     ·rw [if_neg c4, if_neg (by omega)]
 by_cases c : i.f0 = 33
 ·refine Ev.congr (f := fun k => F10.j0 k (a : Int) i.f0 (i.f0 == 33) i.f0 i.f1 i.f2) (fun k => ?_) (key _ ?_)
  ·unfold F10.f
   rw [hri, if_pos (by omega), if_pos (show (a : Int) < (code.length : Int) by omega), if_pos c]
  ·rw [beq_iff_eq.mpr c, decide_eq_true (Or.inl c)]
 ·refine Ev.congr (f := fun k => F10.j0 k (a : Int) i.f0 (i.f0 == 37) i.f0 i.f1 i.f2) (fun k => ?_) (key _ ?_)
  ·unfold F10.f
   rw [hri, if_pos (by omega), if_pos (show (a : Int) < (code.length : Int) by omega), if_neg c]
  ·by_cases c7 : i.f0 = 37
   ·rw [beq_iff_eq.mpr c7, decide_eq_true (Or.inr c7)]
   ·rw [beq_eq_false_iff_ne.mpr c7, decide_eq_false (by omega)]
theorem impl_l2_ev (n : Nat) (hn : n ≤ 1000000) (code : List S80) (ents : List S77) (m : Int) (hm : 0 ≤ m) (ns : List Int) (hns : ns.length ≤ 2) (s : List Int) : ∀ (i : Nat) (ms td : List Int), ns.drop i = s → i ≤ ns.length → ms.length = n → (∀ j, j < n → -1 ≤ ms.getD j 0) → td.length + s.length ≤ 2000000 → (∀ k, k ∈ s → 0 ≤ k ∧ k < n) →
  (pushI m s ms td = none → Ev (fun k => F0.l2 k ms td m ns (ns.length : Int) (i : Int) code ents) (([] : List Int), false)) ∧
  (∀ ms' td' r, pushI m s ms td = some (ms', td') → Ev (fun k => F0.l1 k ms' td' code ents) r → Ev (fun k => F0.l2 k ms td m ns (ns.length : Int) (i : Int) code ents) r) := by
 induction s with
 | nil =>
  intro i ms td hd hi hl hv ht hr
  have hi2 : i = ns.length := by
   have := congrArg List.length hd
   simp only [List.length_drop, List.length_nil] at this
   omega
  refine ⟨fun h => by simp [pushI] at h, fun ms' td' r hp he => ?_⟩
  simp only [pushI, Option.some.injEq, Prod.mk.injEq] at hp
  obtain ⟨rfl, rfl⟩ := hp
  refine Ev.step (f := fun k => F0.l1 k ms td code ents) (fun k => ?_) he
  simp only [F0.l2]
  rw [if_neg (by omega)]
 | cons x s ih =>
  intro i ms td hd hi hl hv ht hr
  obtain ⟨hlt, hx, hd2⟩ := rd_drop hd
  obtain ⟨hx0, hx1⟩ := hr x List.mem_cons_self
  simp only [List.length_cons] at ht
  have hw : wrap64 ((i : Int) + 1) = ((i + 1 : Nat) : Int) := by unfold wrap64; omega
  have hrd : rd ms x = ms.getD x.toNat 0 := rfl
  have hvx := hv x.toNat (by omega)
  have un : ∀ k, F0.l2 (k + 1) ms td m ns (ns.length : Int) (i : Int) code ents = (if ms.getD x.toNat 0 < 0 then F0.l2 k (ms.set x.toNat m) (td ++ [x]) m ns (ns.length : Int) ((i + 1 : Nat) : Int) code ents else if ms.getD x.toNat 0 = m then F0.l2 k ms td m ns (ns.length : Int) ((i + 1 : Nat) : Int) code ents else some (([] : List Int), false)) := by
   intro k
   simp only [F0.l2, hx, hrd, hw]
   rw [if_pos (show (i : Int) < (ns.length : Int) by omega), if_pos (show (0 : Int) ≤ (i : Int) by omega), if_pos hx0, if_pos (show x < (ms.length : Int) by omega), if_pos (show td.length < 17592186044416 by omega)]
   try rw [if_pos (show (i : Int) < (ns.length : Int) by omega)]
  by_cases c1 : ms.getD x.toNat 0 = -1
  ·obtain ⟨i1, i2⟩ := ih (i + 1) (ms.set x.toNat m) (td ++ [x]) hd2 (by omega) (by rw [List.length_set]; exact hl) (fun j hj => by
    by_cases hjx : x.toNat = j
    ·subst hjx
     rw [getD_set_self (by omega)]
     omega
    ·rw [getD_set_ne hjx]
     exact hv j hj) (by rw [List.length_append, List.length_singleton]; omega) (fun k hk => hr k (List.mem_cons_of_mem _ hk))
   simp only [pushI, if_pos c1]
   exact ⟨fun h => Ev.step (fun k => by rw [un, if_pos (by omega)]) (i1 h), fun ms' td' r hp he => Ev.step (fun k => by rw [un, if_pos (by omega)]) (i2 ms' td' r hp he)⟩
  ·by_cases c2 : ms.getD x.toNat 0 = m
   ·obtain ⟨i1, i2⟩ := ih (i + 1) ms td hd2 (by omega) hl hv (by omega) (fun k hk => hr k (List.mem_cons_of_mem _ hk))
    simp only [pushI, if_neg c1, if_pos c2]
    exact ⟨fun h => Ev.step (fun k => by rw [un, if_neg (by omega), if_pos c2]) (i1 h), fun ms' td' r hp he => Ev.step (fun k => by rw [un, if_neg (by omega), if_pos c2]) (i2 ms' td' r hp he)⟩
   ·simp only [pushI, if_neg c1, if_neg c2]
    exact ⟨fun _ => Ev.step (f := fun _ => some (([] : List Int), false)) (fun k => by rw [un, if_neg (by omega), if_neg c2]) (Ev.now _), fun ms' td' r hp => by cases hp⟩
theorem impl_j3_ev (n : Nat) (hn : n ≤ 1000000) (code : List S80) (ents : List S77) (i : S80) (a : Nat) (hi : code[a]? = some i) (ha : a < n) (m : Int) (hm : 0 ≤ m) (ms td : List Int) (hl : ms.length = n) (hv : ∀ j, j < n → -1 ≤ ms.getD j 0) (ht : td.length ≤ 1000001) (hr : ∀ k, k ∈ nextI i a → 0 ≤ k ∧ k < n) :
  (pushI m (nextI i a) ms td = none → Ev (fun k => F0.j3 k ms td (a : Int) m false code ents) (([] : List Int), false)) ∧
  (∀ ms' td' r, pushI m (nextI i a) ms td = some (ms', td') → Ev (fun k => F0.l1 k ms' td' code ents) r → Ev (fun k => F0.j3 k ms td (a : Int) m false code ents) r) := by
 have hx := impl_next_ev code ents i a hi (by omega)
 have un : ∀ k, F0.j3 (k + 1) ms td (a : Int) m false code ents = (F10.f k code ents (a : Int)).bind fun t => F0.l2 k ms td m t (t.length : Int) 0 code ents := fun k => by simp only [F0.j3]; rw [if_neg (by simp)]
 have hl2 := next_len i (a : Int)
 have l2 := impl_l2_ev n hn code ents m hm (nextI i a) hl2 (nextI i a) 0 ms td rfl (Nat.zero_le _) hl hv (by omega) hr
 exact ⟨fun hp => Ev.step (fun k => un k) (Ev.bind hx (l2.1 hp)), fun ms' td' r hp he => Ev.step (fun k => un k) (Ev.bind hx (l2.2 ms' td' r hp he))⟩
theorem impl_l1_ev (n : Nat) (hn : n ≤ 1000000) (code : List S80) (hc : code.length = n) (ents : List S77) (i : S80) (a : Nat) (hi : code[a]? = some i) (ms td : List Int) (hl : ms.length = n) (ht : td.length ≤ 1000000) (h0 : 0 ≤ ms.getD a 0) (h1 : ms.getD a 0 ≤ 1000000) (res : List Int × Bool)
  (hb : badI i (ms.getD a 0) → res = (([] : List Int), false)) (hg : ¬ badI i (ms.getD a 0) → Ev (fun k => F0.j3 k ms td (a : Int) (stepI i (ms.getD a 0)) false code ents) res) :
  Ev (fun k => F0.l1 k ms (td ++ [(a : Int)]) code ents) res := by
 have ha : a < n := by rw [← hc]; exact (List.getElem?_eq_some_iff.1 hi).1
 have hlen : ((td ++ [(a : Int)]).length : Int) = (td.length : Int) + 1 := by simp
 have hw : wrap64 (((td ++ [(a : Int)]).length : Int) - 1) = (td.length : Int) := by rw [hlen]; unfold wrap64; omega
 have hrd : rd (td ++ [(a : Int)]) (td.length : Int) = (a : Int) := by simp [rd]
 have htk : (td ++ [(a : Int)]).take ((td.length : Int)).toNat = td := by simp
 have hri : rd_T80 code (a : Int) = i := by simp [rd_T80, List.getD_eq_getElem?_getD, hi]
 have hrm : rd ms (a : Int) = ms.getD a 0 := by simp [rd]
 generalize hm0 : ms.getD a 0 = m0 at *
 have hw1 : wrap64 (m0 + 1) = m0 + 1 := by unfold wrap64; omega
 have hw2 : wrap64 (m0 - 1) = m0 - 1 := by unfold wrap64; omega
 have hcap : F29.f i.f0 = some (decide (i.f0 = 35 ∨ i.f0 = 36)) := by
  unfold F29.f
  by_cases c : i.f0 = 35
  ·rw [if_pos c, decide_eq_true (Or.inl c)]
  ·rw [if_neg c]
   by_cases c2 : i.f0 = 36
   ·rw [beq_iff_eq.mpr c2, decide_eq_true (Or.inr c2)]
   ·rw [beq_eq_false_iff_ne.mpr c2, decide_eq_false (by omega)]
 have hlast : impl_isLast.f i.f0 = some (decide (i.f0 = 38 ∨ i.f0 = 39)) := by
  unfold impl_isLast.f
  by_cases c : i.f0 = 39
  ·rw [if_pos c, decide_eq_true (Or.inr c)]
  ·rw [if_neg c]
   by_cases c2 : i.f0 = 38
   ·rw [beq_iff_eq.mpr c2, decide_eq_true (Or.inl c2)]
   ·rw [beq_eq_false_iff_ne.mpr c2, decide_eq_false (by omega)]
 have un : ∀ k, F0.l1 (k + 1) ms (td ++ [(a : Int)]) code ents = F0.j2 k ms td (a : Int) (stepI i m0) code ents := by
  intro k
  simp only [F0.l1, hw, hrd, htk, hri, hrm, hw1, hw2, Option.bind_some, hcap]
  rw [if_pos (show ((td ++ [(a : Int)]).length : Int) > 0 by omega), if_pos (show (0 : Int) ≤ (td.length : Int) by omega), if_pos (show (td.length : Int) < ((td ++ [(a : Int)]).length : Int) by omega), if_pos (show (td.length : Int) ≤ ((td ++ [(a : Int)]).length : Int) by omega), if_pos (show (0 : Int) ≤ (a : Int) by omega), if_pos (show (a : Int) < (ms.length : Int) by omega), if_pos (show (a : Int) < (code.length : Int) by omega)]
  unfold stepI
  by_cases c34 : i.f0 = 34
  ·rw [if_pos c34, if_pos c34]
  ·rw [if_neg c34, if_neg c34]
   by_cases cc : i.f0 = 35 ∨ i.f0 = 36
   ·rw [if_pos (decide_eq_true cc), if_pos (show i.f0 = 35 ∨ i.f0 = 36 ∨ i.f0 = 37 by omega)]
   ·rw [if_neg (by rw [decide_eq_false cc]; simp)]
    by_cases c37 : i.f0 = 37
    ·rw [if_pos c37, if_pos (show i.f0 = 35 ∨ i.f0 = 36 ∨ i.f0 = 37 by omega)]
    ·rw [if_neg c37, if_neg (show ¬ (i.f0 = 35 ∨ i.f0 = 36 ∨ i.f0 = 37) by omega)]
 have j3t : Ev (fun k => F0.j3 k ms td (a : Int) (stepI i m0) true code ents) (([] : List Int), false) := Ev.step (f := fun _ => some (([] : List Int), false)) (fun k => by simp only [F0.j3, if_true]) (Ev.now _)
 refine Ev.step (fun k => un k) ?_
 by_cases hneg : stepI i m0 < 0
 ·rw [hb (by unfold badI; exact Or.inl hneg)]
  exact Ev.step (fun k => by simp only [F0.j2]; rw [if_pos hneg]) j3t
 ·have un2 : ∀ k, F0.j2 (k + 1) ms td (a : Int) (stepI i m0) code ents = (if i.f0 = 38 ∨ i.f0 = 39 then F0.j3 k ms td (a : Int) (stepI i m0) (decide (stepI i m0 > 0)) code ents else F0.j3 k ms td (a : Int) (stepI i m0) false code ents) := by
   intro k
   simp only [F0.j2, hri, hlast, Option.bind_some]
   rw [if_neg hneg, if_pos (show (0 : Int) ≤ (a : Int) by omega), if_pos (show (a : Int) < (code.length : Int) by omega)]
   by_cases c : i.f0 = 38 ∨ i.f0 = 39
   ·rw [if_pos (decide_eq_true c), if_pos c]
   ·rw [if_neg (by rw [decide_eq_false c]; simp), if_neg c]
  by_cases c : i.f0 = 38 ∨ i.f0 = 39
  ·have es : stepI i m0 = m0 := by unfold stepI; rw [if_neg (by omega), if_neg (by omega)]
   by_cases cz : m0 = 0
   ·have nb : ¬ badI i m0 := by unfold badI; omega
    exact Ev.step (fun k => by rw [un2, if_pos c, es, decide_eq_false (by omega)]) (by have := hg nb; rwa [es] at this)
   ·rw [hb (by unfold badI; exact Or.inr ⟨c, cz⟩)]
    exact Ev.step (fun k => by rw [un2, if_pos c, decide_eq_true (by omega)]) j3t
  ·have nb : ¬ badI i m0 := by unfold badI; omega
   exact Ev.step (fun k => by rw [un2, if_neg c]) (hg nb)
theorem impl_run_ev (n : Nat) (hn : n ≤ 1000000) (code : List S80) (hc : code.length = n) (ents : List S77) (hr : ∀ (a : Nat) (i : S80), code[a]? = some i → ∀ k, k ∈ nextI i a → 0 ≤ k ∧ k < n) (ms td : List Int) (r : Option (List Int)) (h : Run code ms td r) :
  MInv n ms td → ms.count (-1) + td.length ≤ 1000000 → Ev (fun k => F0.l1 k ms td code ents) (ansM r) := by
 induction h with
 | done ms =>
  intro _ _
  refine Ev.step (f := fun _ => some (ms, true)) (fun k => ?_) (Ev.now _)
  simp only [F0.l1]
  rw [if_neg (by simp)]
 | bad ms td a i hi hb =>
  intro hv hs
  rw [List.length_append, List.length_singleton] at hs
  have ha : a < n := by rw [← hc]; exact (List.getElem?_eq_some_iff.1 hi).1
  obtain ⟨b, hb1, hb2, hb3⟩ := hv.todo (a : Int) (by simp)
  have hval := hv.val a ha
  have e : b = a := by omega
  subst e
  exact impl_l1_ev n hn code hc ents i b hi ms td hv.len (by omega) (by omega) (by omega) _ (fun _ => rfl) (fun nb => absurd hb nb)
 | clash ms td a i hi hb hp =>
  intro hv hs
  rw [List.length_append, List.length_singleton] at hs
  have ha : a < n := by rw [← hc]; exact (List.getElem?_eq_some_iff.1 hi).1
  obtain ⟨b, hb1, hb2, hb3⟩ := hv.todo (a : Int) (by simp)
  have hval := hv.val a ha
  have e : b = a := by omega
  subst e
  have h0 : 0 ≤ stepI i (ms.getD b 0) := by unfold badI at hb; omega
  have j := impl_j3_ev n hn code ents i b hi ha (stepI i (ms.getD b 0)) h0 ms td hv.len (fun j hj => (hv.val j hj).1) (by omega) (hr b i hi)
  exact impl_l1_ev n hn code hc ents i b hi ms td hv.len (by omega) (by omega) (by omega) _ (fun q => absurd q hb) (fun _ => j.1 hp)
 | step ms td a i hi hb ms' td' hp r h ih =>
  intro hv hs
  rw [List.length_append, List.length_singleton] at hs
  have ha : a < n := by rw [← hc]; exact (List.getElem?_eq_some_iff.1 hi).1
  obtain ⟨b, hb1, hb2, hb3⟩ := hv.todo (a : Int) (by simp)
  have hval := hv.val a ha
  have e : b = a := by omega
  subst e
  have h0 : 0 ≤ stepI i (ms.getD b 0) := by unfold badI at hb; omega
  have h1 : stepI i (ms.getD b 0) ≤ ms.getD b 0 + 1 := by unfold stepI; split <;> (try split) <;> omega
  have j := impl_j3_ev n hn code ents i b hi ha (stepI i (ms.getD b 0)) h0 ms td hv.len (fun j hj => (hv.val j hj).1) (by omega) (hr b i hi)
  obtain ⟨i1, i2⟩ := push_inv n _ h0 _ ms td ⟨hv.len, hv.val, fun t ht => hv.todo t (by simp [ht])⟩ (hr b i hi) (fun _ => by omega) ms' td' hp
  exact impl_l1_ev n hn code hc ents i b hi ms td hv.len (by omega) (by omega) (by omega) _ (fun q => absurd q hb) (fun _ => j.2 ms' td' _ hp (ih i1 (by omega)))
def marks0 : List Int → List S77 → List Int
 | ms, [] => ms
 | ms, e :: es => marks0 (ms.set e.f1.toNat 0) es
theorem spec_l0_ev (n : Nat) (hn : n ≤ 1000000) (h0 : 0 < n) (code : List S80) (hc : code.length = n) (ents : List S77) (r : List Int × Bool) (he : Ev (fun k => F3.l1 k ((List.replicate n (-1)).set 0 0) [0] 0 code ents) r) (d : Nat) : ∀ i : Nat, i + d = n → Ev (fun k => F3.l0 k (List.replicate i (-1)) (i : Int) code ents) r := by
 induction d with
 | zero =>
  intro i hi
  obtain rfl : i = n := by omega
  refine Ev.step (fun k => ?_) he
  simp only [F3.l0]
  rw [if_neg (show ¬ ((i : Int) < (code.length : Int)) by omega), if_pos (show (0 : Int) < ((List.replicate i (-1 : Int)).length : Int) by rw [List.length_replicate]; omega)]
  rfl
 | succ d ih =>
  intro i hi
  have hw : wrap64 ((i : Int) + 1) = ((i + 1 : Nat) : Int) := by unfold wrap64; omega
  refine Ev.step (fun k => ?_) (ih (i + 1) (by omega))
  simp only [F3.l0, hw]
  rw [if_pos (show (i : Int) < (code.length : Int) by omega), if_pos (show (List.replicate i (-1 : Int)).length < 17592186044416 by rw [List.length_replicate]; omega), List.replicate_succ']
theorem spec_l1_ev (n : Nat) (hn : n ≤ 1000000) (code : List S80) (ents : List S77) (hl : ents.length ≤ 1000000) (r : List Int × Bool) (s : List S77) : ∀ (i : Nat) (ms td : List Int), ents.drop i = s → i ≤ ents.length → ms.length = n → td.length = i + 1 → (∀ e, e ∈ s → 0 ≤ e.f1 ∧ e.f1 < n) →
  Ev (fun k => F3.l2 k (marks0 ms s) (td ++ s.map (·.f1)) code ents) r → Ev (fun k => F3.l1 k ms td (i : Int) code ents) r := by
 induction s with
 | nil =>
  intro i ms td hd hi hm ht hr he
  have hi2 : i = ents.length := by
   have := congrArg List.length hd
   simp only [List.length_drop, List.length_nil] at this
   omega
  refine Ev.step (fun k => ?_) he
  simp only [F3.l1, marks0, List.map_nil, List.append_nil]
  rw [if_neg (by omega)]
 | cons e s ih =>
  intro i ms td hd hi hm ht hr he
  have hlt : i < ents.length := by
   rcases Nat.lt_or_ge i ents.length with h2 | h2
   ·exact h2
   ·rw [List.drop_eq_nil_of_le h2] at hd; cases hd
  have hd2 := hd
  rw [List.drop_eq_getElem_cons hlt] at hd2
  injection hd2 with hx hs
  have hrd : rd_T77 ents (i : Int) = e := by simp [rd_T77, List.getD_eq_getElem?_getD, List.getElem?_eq_getElem hlt, hx]
  obtain ⟨h0, h1⟩ := hr e List.mem_cons_self
  have hw : wrap64 ((i : Int) + 1) = ((i + 1 : Nat) : Int) := by unfold wrap64; omega
  refine Ev.step (fun k => ?_) (ih (i + 1) (ms.set e.f1.toNat 0) (td ++ [e.f1]) hs (by omega) (by rw [List.length_set]; exact hm) (by rw [List.length_append, List.length_singleton]; omega) (fun q hq => hr q (List.mem_cons_of_mem _ hq)) (by simpa [marks0] using he))
  simp only [F3.l1, hrd, hw]
  rw [if_pos (show (i : Int) < (ents.length : Int) by omega), if_pos (show (0 : Int) ≤ (i : Int) by omega), if_pos h0, if_pos (show e.f1 < (ms.length : Int) by omega), if_pos (show td.length < 17592186044416 by omega)]
theorem spec_marks_ev (n : Nat) (hn : n ≤ 1000000) (h0 : 0 < n) (code : List S80) (hc : code.length = n) (ents : List S77) (hl : ents.length ≤ 1000000) (hr : ∀ e, e ∈ ents → 0 ≤ e.f1 ∧ e.f1 < n) (r : List Int × Bool)
  (he : Ev (fun k => F3.l2 k (marks0 ((List.replicate n (-1)).set 0 0) ents) (0 :: ents.map (·.f1)) code ents) r) : Ev (fun k => F3.f k code ents) r := by
 have h1 := spec_l1_ev n hn code ents hl r ents 0 ((List.replicate n (-1)).set 0 0) [0] rfl (Nat.zero_le _) (by rw [List.length_set, List.length_replicate]) rfl hr he
 exact spec_l0_ev n hn h0 code hc ents r h1 n 0 (by omega)
theorem impl_regions_ev (n : Nat) (hn : n ≤ 1000000) (code : List S80) (hc : code.length = n) (ents : List S77) (hl : ents.length ≤ 1000000) : Ev (fun k => F6.f k code ents) ((0 :: ents.map (·.f1)) ++ [(n : Int)]) := by
 have key : ∀ (s : List S77) (i : Nat) (out : List Int), ents.drop i = s → i ≤ ents.length → out.length = i + 1 → Ev (fun k => F6.l0 k out ents (ents.length : Int) (i : Int) code ents) ((out ++ s.map (·.f1)) ++ [(n : Int)]) := by
  intro s
  induction s with
  | nil =>
   intro i out hd hi ho
   have hi2 : i = ents.length := by
    have := congrArg List.length hd
    simp only [List.length_drop, List.length_nil] at this
    omega
   refine Ev.step (f := fun _ => some ((out ++ ([] : List S77).map (·.f1)) ++ [(n : Int)])) (fun k => ?_) (Ev.now _)
   simp only [F6.l0, List.map_nil, List.append_nil]
   rw [if_neg (by omega), if_pos (show out.length < 17592186044416 by omega), hc]
  | cons e s ih =>
   intro i out hd hi ho
   have hlt : i < ents.length := by
    rcases Nat.lt_or_ge i ents.length with h2 | h2
    ·exact h2
    ·rw [List.drop_eq_nil_of_le h2] at hd; cases hd
   have hd2 := hd
   rw [List.drop_eq_getElem_cons hlt] at hd2
   injection hd2 with hx hs
   have hrd : rd_T77 ents (i : Int) = e := by simp [rd_T77, List.getD_eq_getElem?_getD, List.getElem?_eq_getElem hlt, hx]
   have hw : wrap64 ((i : Int) + 1) = ((i + 1 : Nat) : Int) := by unfold wrap64; omega
   have hq := ih (i + 1) (out ++ [e.f1]) hs (by omega) (by rw [List.length_append, List.length_singleton]; omega)
   have e3 : (out ++ (e :: s).map (·.f1)) ++ [(n : Int)] = ((out ++ [e.f1]) ++ s.map (·.f1)) ++ [(n : Int)] := by simp
   rw [e3]
   refine Ev.step (fun k => ?_) hq
   simp only [F6.l0, hrd, hw]
   rw [if_pos (show (i : Int) < (ents.length : Int) by omega), if_pos (show (0 : Int) ≤ (i : Int) by omega), if_pos (show out.length < 17592186044416 by omega)]
   try rw [if_pos (show (i : Int) < (ents.length : Int) by omega)]
 exact key ents 0 [0] rfl (Nat.zero_le _) rfl
def marksI : List Int → List Int → List Int
 | ms, [] => ms
 | ms, x :: xs => marksI (ms.set x.toNat 0) xs
theorem marksI_map (es : List S77) : ∀ ms, marksI ms (es.map (·.f1)) = marks0 ms es := by
 induction es with
 | nil => intro ms; rfl
 | cons e es ih => intro ms; simp only [List.map_cons, marksI, marks0]; exact ih _
theorem impl_l0_ev (n : Nat) (code : List S80) (ents : List S77) (xs : List Int) (hl : xs.length ≤ 1000001) (td : List Int) (r : List Int × Bool) (s : List Int) : ∀ (i : Nat) (ms : List Int), xs.drop i = s → i ≤ xs.length → ms.length = n → (∀ x, x ∈ s → 0 ≤ x ∧ x < n) →
  Ev (fun k => F0.l1 k (marksI ms s) td code ents) r → Ev (fun k => F0.l0 k ms td xs (xs.length : Int) (i : Int) code ents) r := by
 induction s with
 | nil =>
  intro i ms hd hi hm hr he
  have hi2 : i = xs.length := by
   have := congrArg List.length hd
   simp only [List.length_drop, List.length_nil] at this
   omega
  refine Ev.step (fun k => ?_) he
  simp only [F0.l0, marksI]
  rw [if_neg (by omega)]
 | cons x s ih =>
  intro i ms hd hi hm hr he
  obtain ⟨hlt, hx, hd2⟩ := rd_drop hd
  obtain ⟨h0, h1⟩ := hr x List.mem_cons_self
  have hw : wrap64 ((i : Int) + 1) = ((i + 1 : Nat) : Int) := by unfold wrap64; omega
  refine Ev.step (fun k => ?_) (ih (i + 1) (ms.set x.toNat 0) hd2 (by omega) (by rw [List.length_set]; exact hm) (fun q hq => hr q (List.mem_cons_of_mem _ hq)) he)
  simp only [F0.l0, hx, hw]
  rw [if_pos (show (i : Int) < (xs.length : Int) by omega), if_pos (show (0 : Int) ≤ (i : Int) by omega), if_pos h0, if_pos (show x < (ms.length : Int) by omega)]
  try rw [if_pos (show (i : Int) < (xs.length : Int) by omega)]
theorem impl_marks_ev (n : Nat) (hn : n ≤ 1000000) (h0 : 0 < n) (code : List S80) (hc : code.length = n) (ents : List S77) (hl : ents.length ≤ 100000) (hr : ∀ e, e ∈ ents → 0 ≤ e.f1 ∧ e.f1 < n) (r : List Int × Bool)
  (he : Ev (fun k => F0.l1 k (marks0 ((List.replicate n (-1)).set 0 0) ents) (0 :: ents.map (·.f1)) code ents) r) : Ev (fun k => F0.f k code ents) r := by
 have e1 : slices_Repeat_int64_int64.f [(-1 : Int)] (code.length : Int) = some (List.replicate n (-1)) := by
  unfold slices_Repeat_int64_int64.f
  rw [if_pos (show [(-1 : Int)].length = 1 from rfl), if_pos (show (1 : Int) ≤ (code.length : Int) by omega), if_pos (show (code.length : Int) ≤ 1000000 by omega), hc, Int.toNat_natCast]
  rfl
 have hlen : (((0 : Int) :: ents.map (·.f1)) ++ [(n : Int)]).length = ents.length + 2 := by simp
 have hw : wrap64 (((((0 : Int) :: ents.map (·.f1)) ++ [(n : Int)]).length : Int) - 1) = ((ents.length + 1 : Nat) : Int) := by rw [hlen]; unfold wrap64; omega
 have htk : (((0 : Int) :: ents.map (·.f1)) ++ [(n : Int)]).take (ents.length + 1) = 0 :: ents.map (·.f1) := by
  rw [List.take_append_of_le_length (by simp), List.take_of_length_le (by simp)]
 have e2 : F31.f ((0 : Int) :: ents.map (·.f1)) = some (0 :: ents.map (·.f1)) := by
  unfold F31.f
  rw [if_pos (by simp), if_pos (by simp; omega)]
 have hl0 := impl_l0_ev n code ents (0 :: ents.map (·.f1)) (by simp; omega) (0 :: ents.map (·.f1)) r (0 :: ents.map (·.f1)) 0 (List.replicate n (-1)) rfl (Nat.zero_le _) (by rw [List.length_replicate]) (fun x hx => by
  rcases List.mem_cons.1 hx with rfl | hx
  ·omega
  ·obtain ⟨e, he, rfl⟩ := List.mem_map.1 hx
   exact hr e he) (by simp only [marksI]; rw [marksI_map]; exact he)
 refine Ev.congr (f := fun k => (F6.f k code ents).bind fun t302 => (if 0 ≤ (wrap64 ((t302.length : Int) - 1)) then (if (wrap64 ((t302.length : Int) - 1)) ≤ (t302.length : Int) then ((F31.f (t302.take ((wrap64 ((t302.length : Int) - 1)) : Int).toNat)).bind fun t309 => (F0.l0 k (List.replicate n (-1)) t309 t309 (t309.length : Int) 0 code ents)) else (none)) else (none))) (fun k => ?_) ?_
 ·unfold F0.f
  rw [e1]
  rfl
 ·refine Ev.bind (impl_regions_ev n hn code hc ents (by omega)) ?_
  refine Ev.congr (fun k => ?_) hl0
  rw [hw, if_pos (by omega), if_pos (by rw [hlen]; omega), Int.toNat_natCast, htk, e2]
  rfl
theorem marksI_val (n : Nat) (xs : List Int) : ∀ ms : List Int, ms.length = n → (∀ x, x ∈ xs → 0 ≤ x ∧ x < n) → (∀ j, j < n → ms.getD j 0 = -1 ∨ ms.getD j 0 = 0) →
  (marksI ms xs).length = n ∧ (∀ j, j < n → (marksI ms xs).getD j 0 = -1 ∨ (marksI ms xs).getD j 0 = 0) ∧ (∀ j, j < n → ms.getD j 0 = 0 → (marksI ms xs).getD j 0 = 0) ∧ ∀ x, x ∈ xs → (marksI ms xs).getD x.toNat 0 = 0 := by
 induction xs with
 | nil => intro ms hl _ hv; exact ⟨hl, hv, fun _ _ h => h, fun x hx => by cases hx⟩
 | cons x xs ih =>
  intro ms hl hr hv
  obtain ⟨hx0, hx1⟩ := hr x List.mem_cons_self
  have hxl : x.toNat < ms.length := by omega
  obtain ⟨i1, i2, i3, i4⟩ := ih (ms.set x.toNat 0) (by rw [List.length_set]; exact hl) (fun y hy => hr y (List.mem_cons_of_mem _ hy)) (fun j hj => by
   by_cases h : x.toNat = j
   ·subst h; exact Or.inr (getD_set_self hxl)
   ·rw [getD_set_ne h]; exact hv j hj)
  refine ⟨i1, i2, fun j hj h0 => i3 j hj ?_, fun y hy => ?_⟩
  ·by_cases h : x.toNat = j
   ·subst h; exact getD_set_self hxl
   ·rw [getD_set_ne h]; exact h0
  ·rcases List.mem_cons.1 hy with rfl | hy
   ·exact i3 y.toNat (by omega) (getD_set_self hxl)
   ·exact i4 y hy
theorem start_inv (n : Nat) (h0 : 0 < n) (ents : List S77) (hr : ∀ e, e ∈ ents → 0 ≤ e.f1 ∧ e.f1 < n) : MInv n (marks0 ((List.replicate n (-1)).set 0 0) ents) (0 :: ents.map (·.f1)) := by
 have hv := marksI_val n (ents.map (·.f1)) ((List.replicate n (-1)).set 0 0) (by rw [List.length_set, List.length_replicate]) (fun x hx => by
  obtain ⟨e, he, rfl⟩ := List.mem_map.1 hx
  exact hr e he) (fun j hj => by
  by_cases h : 0 = j
  ·subst h; exact Or.inr (getD_set_self (by rw [List.length_replicate]; exact h0))
  ·rw [getD_set_ne h, List.getD_eq_getElem?_getD, List.getElem?_replicate]
   rw [if_pos hj]; exact Or.inl rfl)
 rw [marksI_map] at hv
 obtain ⟨i1, i2, i3, i4⟩ := hv
 have hcl := count_le (l := marks0 ((List.replicate n (-1)).set 0 0) ents)
 refine ⟨i1, fun j hj => ?_, fun t ht => ?_⟩
 ·rcases i2 j hj with h | h <;> omega
 ·rcases List.mem_cons.1 ht with rfl | ht
  ·refine ⟨0, rfl, h0, ?_⟩
   rw [i3 0 h0 (getD_set_self (by rw [List.length_replicate]; exact h0))]
   decide
  ·obtain ⟨e, he, rfl⟩ := List.mem_map.1 ht
   have := hr e he
   refine ⟨e.f1.toNat, by omega, by omega, ?_⟩
   have h4 := i4 e.f1 ht
   rw [h4]
   decide
theorem push_len (m : Int) (ns : List Int) : ∀ (ms td ms' td' : List Int), pushI m ns ms td = some (ms', td') → ms'.length = ms.length := by
 induction ns with
 | nil =>
  intro ms td ms' td' h
  simp only [pushI, Option.some.injEq, Prod.mk.injEq] at h
  rw [h.1]
 | cons n ns ih =>
  intro ms td ms' td' h
  simp only [pushI] at h
  split at h
  ·rw [ih _ _ _ _ h, List.length_set]
  ·split at h
   ·exact ih _ _ _ _ h
   ·cases h
theorem run_len (code : List S80) (ms td : List Int) (r : Option (List Int)) (h : Run code ms td r) : ∀ ms', r = some ms' → ms'.length = ms.length := by
 induction h with
 | done ms => intro ms' e; rw [← Option.some.inj e]
 | bad ms td a i hi hb => intro ms' e; cases e
 | clash ms td a i hi hb hp => intro ms' e; cases e
 | step ms td a i hi hb ms1 td1 hp r h ih => intro ms' e; rw [ih ms' e, push_len _ _ _ _ _ _ hp]
theorem marks_same (n : Nat) (hn : n ≤ 100000) (h0 : 0 < n) (code : List S80) (hc : code.length = n) (ents : List S77) (hl : ents.length ≤ 100000) (he : ∀ e, e ∈ ents → 0 ≤ e.f1 ∧ e.f1 < n) (hr : ∀ (a : Nat) (i : S80), code[a]? = some i → ∀ k, k ∈ nextI i a → 0 ≤ k ∧ k < n) :
  ∃ r : Option (List Int), Ev (fun k => F3.f k code ents) (ansM r) ∧ Ev (fun k => F0.f k code ents) (ansM r) ∧ ∀ ms, r = some ms → ms.length = n := by
 have hi := start_inv n h0 ents he
 have hcl := count_le (l := marks0 ((List.replicate n (-1)).set 0 0) ents)
 have hlen := hi.len
 have hs : (marks0 ((List.replicate n (-1)).set 0 0) ents).count (-1) + (0 :: ents.map (·.f1)).length ≤ 1000000 := by rw [List.length_cons, List.length_map]; omega
 obtain ⟨r, hR⟩ := run_total code (by rw [hc]; exact hr) 1000000 _ _ hs (by rw [hc]; exact hi)
 exact ⟨r, spec_marks_ev n (by omega) h0 code hc ents (by omega) he _ (spec_run_ev n (by omega) code hc ents hr _ _ r hR hi hs), impl_marks_ev n (by omega) h0 code hc ents hl he _ (impl_run_ev n (by omega) code hc ents hr _ _ r hR hi hs), fun ms e => (run_len code _ _ r hR ms e).trans hlen⟩
def entG (isn : ByteArray → Bool) (n : Int) (l : List S77) : Nat → Int → List S77 → Bool
 | _, _, [] => true
 | i, last, e :: es => !(l.take i).any (sameName e) && (isn e.f0 && (decide (last < e.f1) && (decide (e.f1 < n) && entG isn n l (i + 1) e.f1 es)))
theorem spec_names_ev (n : Int) (code : List S80) (ents : List S77) (hl : ents.length ≤ 1000000) (i : Nat) (hi : i < ents.length) (e : S77) (d : Nat) : ∀ j : Nat, j + d = i →
  (((ents.take i).drop j).any (sameName e) = true → Ev (fun k => F1.l1 k n (i : Int) (j : Int) code ents e.f0 e.f1) false) ∧
  (((ents.take i).drop j).any (sameName e) = false → ∀ r, Ev (fun k => F1.l0 k n ((i + 1 : Nat) : Int) code ents) r → Ev (fun k => F1.l1 k n (i : Int) (j : Int) code ents e.f0 e.f1) r) := by
 induction d with
 | zero =>
  intro j hj
  obtain rfl : j = i := by omega
  have hw : wrap64 ((j : Int) + 1) = ((j + 1 : Nat) : Int) := by unfold wrap64; omega
  have e0 : (ents.take j).drop j = [] := List.drop_eq_nil_of_le (by rw [List.length_take]; omega)
  rw [e0]
  refine ⟨fun h => by simp at h, fun _ r he => Ev.step (fun k => ?_) he⟩
  simp only [F1.l1, hw]
  rw [if_neg (show ¬ ((j : Int) < (j : Int)) by omega)]
 | succ d ih =>
  intro j hj
  have hlt : j < (ents.take i).length := by rw [List.length_take]; omega
  have hjl : j < ents.length := by omega
  have hw : wrap64 ((j : Int) + 1) = ((j + 1 : Nat) : Int) := by unfold wrap64; omega
  have hrd : rd_T77 ents (j : Int) = ents[j] := by simp [rd_T77, List.getD_eq_getElem?_getD, List.getElem?_eq_getElem hjl]
  have un : ∀ k, F1.l1 (k + 1) n (i : Int) (j : Int) code ents e.f0 e.f1 = (if (ents[j].f0).toList = e.f0.toList then some false else F1.l1 k n (i : Int) ((j + 1 : Nat) : Int) code ents e.f0 e.f1) := by
   intro k
   simp only [F1.l1, hrd, hw]
   rw [if_pos (show (j : Int) < (i : Int) by omega), if_pos (show (0 : Int) ≤ (j : Int) by omega), if_pos (show (j : Int) < (ents.length : Int) by omega)]
  obtain ⟨i1, i2⟩ := ih (j + 1) (by omega)
  rw [List.drop_eq_getElem_cons hlt, List.any_cons, List.getElem_take]
  by_cases c : (ents[j].f0).toList = e.f0.toList
  ·have hs : sameName e ents[j] = true := by unfold sameName; exact beq_iff_eq.mpr c
   rw [hs]
   exact ⟨fun _ => Ev.step (f := fun _ => some false) (fun k => by rw [un, if_pos c]) (Ev.now _), fun h => by simp at h⟩
  ·have hs : sameName e ents[j] = false := by unfold sameName; exact beq_eq_false_iff_ne.mpr c
   rw [hs, Bool.false_or]
   exact ⟨fun h => Ev.step (fun k => by rw [un, if_neg c]) (i1 h), fun h r he => Ev.step (fun k => by rw [un, if_neg c]) (i2 h r he)⟩
theorem spec_ents_ev (isn : ByteArray → Bool) (n : Int) (hn0 : 1 ≤ n) (hn : n ≤ 1000000) (code : List S80) (ents : List S77) (hl : ents.length ≤ 1000000) (hisn : ∀ e, e ∈ ents → Ev (fun k => F21.f k e.f0) (isn e.f0)) (s : List S77) : ∀ (i : Nat) (last : Int), ents.drop i = s → i ≤ ents.length → 0 ≤ last → (0 < i → last = (rd_T77 ents ((i : Int) - 1)).f1) → (i = 0 → last = 0) →
  (entG isn n ents i last s = false → Ev (fun k => F1.l0 k n (i : Int) code ents) false) ∧
  (entG isn n ents i last s = true → ∀ r, Ev (fun k => F1.l2 k n 0 (-1) 0 code ents) r → Ev (fun k => F1.l0 k n (i : Int) code ents) r) := by
 induction s with
 | nil =>
  intro i last hd hi _ _ _
  have hi2 : i = ents.length := by
   have := congrArg List.length hd
   simp only [List.length_drop, List.length_nil] at this
   omega
  refine ⟨fun h => by simp [entG] at h, fun _ r he => Ev.step (fun k => ?_) he⟩
  simp only [F1.l0]
  rw [if_neg (show ¬ ((i : Int) < (ents.length : Int)) by omega)]
 | cons e s ih =>
  intro i last hd hi hl0 hlp hlz
  have hlt : i < ents.length := by
   rcases Nat.lt_or_ge i ents.length with h2 | h2
   ·exact h2
   ·rw [List.drop_eq_nil_of_le h2] at hd; cases hd
  have hd2 := hd
  rw [List.drop_eq_getElem_cons hlt] at hd2
  injection hd2 with hx hs
  have hrd : rd_T77 ents (i : Int) = e := by simp [rd_T77, List.getD_eq_getElem?_getD, List.getElem?_eq_getElem hlt, hx]
  have hmem : e ∈ ents := by rw [← hx]; exact List.getElem_mem hlt
  have hwn : wrap64 (n - 1) = n - 1 := by unfold wrap64; omega
  have hwi : wrap64 ((i : Int) - 1) = (i : Int) - 1 := by unfold wrap64; omega
  have j2t : Ev (fun k => F1.j2 k n (i : Int) true code ents e.f0 e.f1) false := Ev.step (f := fun _ => some false) (fun k => by simp only [F1.j2, if_true]) (Ev.now _)
  have names := spec_names_ev n code ents hl i hlt e i 0 (by omega)
  simp only [List.drop_zero] at names
  have j2f : ∀ r, Ev (fun k => F1.l1 k n (i : Int) 0 code ents e.f0 e.f1) r → Ev (fun k => F1.j2 k n (i : Int) false code ents e.f0 e.f1) r := fun r he => Ev.step (fun k => by simp only [F1.j2]; rw [if_neg (by simp)]) he
  have un : ∀ k, F1.l0 (k + 1) n (i : Int) code ents = (F21.f k e.f0).bind fun t => if t = true then (if 1 ≤ e.f1 ∧ e.f1 < n ∧ last < e.f1 then F1.j2 k n (i : Int) false code ents e.f0 e.f1 else F1.j2 k n (i : Int) true code ents e.f0 e.f1) else F1.j2 k n (i : Int) true code ents e.f0 e.f1 := by
   intro k
   simp only [F1.l0, hrd, hwn, hwi, F24.f]
   rw [if_pos (show (i : Int) < (ents.length : Int) by omega), if_pos (show (0 : Int) ≤ (i : Int) by omega)]
   congr 1
   funext t
   cases t with
   | false => simp
   | true =>
    simp only [if_true]
    by_cases c1 : e.f1 ≥ 1
    ·rw [if_pos c1, Option.bind_some]
     by_cases c2 : e.f1 ≤ n - 1
     ·rw [if_pos (decide_eq_true c2)]
      by_cases c3 : (i : Int) > 0
      ·rw [if_pos c3, if_pos (show (0 : Int) ≤ (i : Int) - 1 by omega), if_pos (show (i : Int) - 1 < (ents.length : Int) by omega), ← hlp (by omega)]
       by_cases c4 : last < e.f1
       ·rw [decide_eq_false (by omega), if_pos ⟨c1, by omega, c4⟩]
       ·rw [decide_eq_true (by omega), if_neg (by omega)]
      ·have := hlz (by omega)
       rw [if_neg c3, if_pos ⟨c1, by omega, by omega⟩]
     ·rw [if_neg (by rw [decide_eq_false c2]; simp), if_neg (by omega)]
    ·rw [if_neg c1, Option.bind_some, if_neg (by simp), if_neg (by omega)]
  simp only [entG]
  have hq := hisn e hmem
  cases hb : isn e.f0 with
  | false =>
   rw [hb] at hq
   refine ⟨fun _ => Ev.step (fun k => un k) (Ev.bind hq ?_), fun h => by simp at h⟩
   exact Ev.congr (fun k => by rw [if_neg (by simp)]) j2t
  | true =>
   rw [hb] at hq
   by_cases c : 1 ≤ e.f1 ∧ e.f1 < n ∧ last < e.f1
   ·rw [decide_eq_true c.2.2, decide_eq_true c.2.1]
    simp only [Bool.true_and]
    obtain ⟨i1, i2⟩ := ih (i + 1) e.f1 hs (by omega) (by omega) (fun _ => by rw [show ((i + 1 : Nat) : Int) - 1 = (i : Int) from by omega, hrd]) (fun h => by omega)
    have st : ∀ r, Ev (fun k => F1.l1 k n (i : Int) 0 code ents e.f0 e.f1) r → Ev (fun k => F1.l0 k n (i : Int) code ents) r := fun r he => Ev.step (fun k => un k) (Ev.bind hq (Ev.congr (fun k => by rw [if_pos rfl, if_pos c]) (j2f r he)))
    cases hdup : (ents.take i).any (sameName e) with
    | true => exact ⟨fun _ => st _ (names.1 hdup), fun h => by simp at h⟩
    | false => exact ⟨fun h => st _ (names.2 hdup _ (i1 (by simpa using h))), fun h r he => st _ (names.2 hdup _ (i2 (by simpa using h) r he))⟩
   ·refine ⟨fun _ => Ev.step (fun k => un k) (Ev.bind hq (Ev.congr (fun k => by rw [if_pos rfl, if_neg c]) j2t)), fun h => ?_⟩
    simp only [Bool.and_eq_true, decide_eq_true_eq, Bool.true_and] at h
    exact absurd ⟨by omega, h.2.2.1, h.2.1⟩ c
theorem impl_g_ev (isn : ByteArray → Bool) (n : Int) (l : List S77) (s : List S77) : ∀ (i : Nat) (last : Int), (∀ e, e ∈ s → Ev (fun k => F26.f k e.f0) (isn e.f0)) → 0 ≤ last → Ev (fun k => F9.g k n l i last s) (entG isn n l i last s) := by
 induction s with
 | nil => intro i last _ _; exact Ev.congr (f := fun _ => some true) (fun k => by simp only [F9.g]) (Ev.now _)
 | cons e s ih =>
  intro i last hisn hl0
  have hq := hisn e List.mem_cons_self
  cases hdup : (l.take i).any (sameName e) with
  | true =>
   refine Ev.congr (f := fun _ => some false) (fun k => ?_) ?_
   ·simp only [F9.g]
    rw [if_pos hdup]
   ·simp only [entG, hdup]
    exact Ev.now _
  | false =>
   refine Ev.congr (f := fun k => (F26.f k e.f0).bind fun b => if b = false then some false else if e.f1 ≤ last then some false else (impl_isIndex.f e.f1 n).bind fun q => if q = true then F9.g k n l (i + 1) e.f1 s else some false) (fun k => ?_) ?_
   ·simp only [F9.g]
    rw [if_neg (by rw [hdup]; simp)]
   ·refine Ev.bind hq ?_
    simp only [entG, hdup, Bool.not_false, Bool.true_and]
    cases hb : isn e.f0 with
    | false => exact Ev.congr (f := fun _ => some false) (fun k => by rw [if_pos rfl]) (Ev.now _)
    | true =>
     by_cases c1 : e.f1 ≤ last
     ·rw [decide_eq_false (show ¬ last < e.f1 by omega)]
      exact Ev.congr (f := fun _ => some false) (fun k => by rw [if_neg (by simp), if_pos c1]) (Ev.now _)
     ·rw [decide_eq_true (show last < e.f1 by omega)]
      by_cases c2 : e.f1 < n
      ·rw [decide_eq_true c2]
       refine Ev.congr (f := fun k => F9.g k n l (i + 1) e.f1 s) (fun k => ?_) (by simpa using ih (i + 1) e.f1 (fun q hq => hisn q (List.mem_cons_of_mem _ hq)) (by omega))
       rw [if_neg (by simp), if_neg c1, impl_isIndex.f, if_pos (show e.f1 ≥ 0 by omega), Option.bind_some, if_pos (decide_eq_true c2)]
      ·rw [decide_eq_false c2]
       refine Ev.congr (f := fun _ => some false) (fun k => ?_) (Ev.now _)
       rw [if_neg (by simp), if_neg c1, impl_isIndex.f, if_pos (show e.f1 ≥ 0 by omega), Option.bind_some, if_neg (by rw [decide_eq_false c2]; simp)]
def addrG (code : List S80) (low high : Int) (a : Nat) (i : S80) : Bool :=
 if i.f0 = 32 ∨ i.f0 = 33 then decide ((a : Int) + 1 ≤ i.f1 ∧ i.f1 ≤ high) else if i.f0 = 37 then decide (low ≤ i.f1 ∧ i.f1 ≤ (a : Int) - 1 ∧ (rd_T80 code i.f1).f0 = 31) else true
def lastG (low : Int) : Int := if low = 0 then 39 else 38
def goodAt (vi : S80 → Bool) (code : List S80) (low high : Int) (a : Nat) (i : S80) : Bool :=
 vi i && (((i.f0 == lastG low) == ((a : Int) == high)) && (!(decide ((a : Int) < high) && decide (i.f0 = 38 ∨ i.f0 = 39)) && addrG code low high a i))
theorem spec_addr_ev (n low high : Int) (code : List S80) (ents : List S77) (a : Nat) (i : S80) (hn : (code.length : Int) = n) (hn2 : n ≤ 1000000) (hl : 0 ≤ low) (ha : (a : Int) ≤ high) (hh : high < n) :
  (addrG code low high a i = false → Ev (fun k => F1.j7 k n low high (a : Int) false code ents i.f0 i.f1 i.f2) false) ∧
  (addrG code low high a i = true → ∀ r, Ev (fun k => F1.l2 k n low high ((a + 1 : Nat) : Int) code ents) r → Ev (fun k => F1.j7 k n low high (a : Int) false code ents i.f0 i.f1 i.f2) r) := by
 have hw : wrap64 ((a : Int) + 1) = ((a + 1 : Nat) : Int) := by unfold wrap64; omega
 have hw2 : wrap64 ((a : Int) - 1) = (a : Int) - 1 := by unfold wrap64; omega
 have u8 : ∀ b k, F1.j8 (k + 1) n low high (a : Int) i.f0 b code ents i.f0 i.f1 i.f2 = (if b = true then (if (a : Int) + 1 ≤ i.f1 ∧ i.f1 ≤ high then F1.l2 k n low high ((a + 1 : Nat) : Int) code ents else some false) else if i.f0 = 37 then (if low ≤ i.f1 ∧ i.f1 ≤ (a : Int) - 1 ∧ (rd_T80 code i.f1).f0 = 31 then F1.l2 k n low high ((a + 1 : Nat) : Int) code ents else some false) else F1.l2 k n low high ((a + 1 : Nat) : Int) code ents) := by
  intro b k
  simp only [F1.j8, hw, hw2, F24.f]
  cases b with
  | true =>
   simp only [if_true]
   by_cases c1 : i.f1 ≥ ((a + 1 : Nat) : Int)
   ·rw [if_pos c1, Option.bind_some]
    by_cases c2 : i.f1 ≤ high
    ·rw [if_pos (decide_eq_true c2), if_pos ⟨by omega, c2⟩]
    ·rw [if_neg (by rw [decide_eq_false c2]; simp), if_neg (by omega)]
   ·rw [if_neg c1, Option.bind_some, if_neg (by simp), if_neg (by omega)]
  | false =>
   simp only [Bool.false_eq_true, if_false]
   by_cases c37 : i.f0 = 37
   ·rw [if_pos c37, if_pos c37]
    by_cases c1 : i.f1 ≥ low
    ·rw [if_pos c1, Option.bind_some]
     by_cases c2 : i.f1 ≤ (a : Int) - 1
     ·rw [if_pos (decide_eq_true c2), if_pos (show (0 : Int) ≤ i.f1 by omega), if_pos (show i.f1 < (code.length : Int) by omega)]
      by_cases c3 : (rd_T80 code i.f1).f0 = 31
      ·rw [if_pos c3, if_pos ⟨c1, c2, c3⟩]
      ·rw [if_neg c3, if_neg (fun h => c3 h.2.2)]
     ·rw [if_neg (by rw [decide_eq_false c2]; simp), if_neg (fun h => c2 h.2.1)]
    ·rw [if_neg c1, Option.bind_some, if_neg (by simp), if_neg (fun h => c1 h.1)]
   ·rw [if_neg c37, if_neg c37]
 have j8 : ∀ b, b = decide (i.f0 = 32 ∨ i.f0 = 33) → (addrG code low high a i = false → Ev (fun k => F1.j8 k n low high (a : Int) i.f0 b code ents i.f0 i.f1 i.f2) false) ∧ (addrG code low high a i = true → ∀ r, Ev (fun k => F1.l2 k n low high ((a + 1 : Nat) : Int) code ents) r → Ev (fun k => F1.j8 k n low high (a : Int) i.f0 b code ents i.f0 i.f1 i.f2) r) := by
  intro b hb
  unfold addrG
  by_cases c : i.f0 = 32 ∨ i.f0 = 33
  ·rw [if_pos c]
   have hbt : b = true := by rw [hb]; exact decide_eq_true c
   exact ⟨fun h => Ev.step (f := fun _ => some false) (fun k => by rw [u8, if_pos hbt, if_neg (of_decide_eq_false h)]) (Ev.now _), fun h r he => Ev.step (fun k => by rw [u8, if_pos hbt, if_pos (of_decide_eq_true h)]) he⟩
  ·rw [if_neg c]
   have hbf : ¬ b = true := by rw [hb, decide_eq_false c]; simp
   by_cases c37 : i.f0 = 37
   ·rw [if_pos c37]
    exact ⟨fun h => Ev.step (f := fun _ => some false) (fun k => by rw [u8, if_neg hbf, if_pos c37, if_neg (of_decide_eq_false h)]) (Ev.now _), fun h r he => Ev.step (fun k => by rw [u8, if_neg hbf, if_pos c37, if_pos (of_decide_eq_true h)]) he⟩
   ·rw [if_neg c37]
    exact ⟨fun h => by simp at h, fun _ r he => Ev.step (fun k => by rw [u8, if_neg hbf, if_neg c37]) he⟩
 by_cases c32 : i.f0 = 32
 ·have h8 := j8 (i.f0 == 32) (by rw [beq_iff_eq.mpr c32, decide_eq_true (Or.inl c32)])
  exact ⟨fun h => Ev.step (fun k => by simp only [F1.j7]; rw [if_neg (by simp), if_pos c32]) (h8.1 h), fun h r he => Ev.step (fun k => by simp only [F1.j7]; rw [if_neg (by simp), if_pos c32]) (h8.2 h r he)⟩
 ·have h8 := j8 (i.f0 == 33) (by
   by_cases c33 : i.f0 = 33
   ·rw [beq_iff_eq.mpr c33, decide_eq_true (Or.inr c33)]
   ·rw [beq_eq_false_iff_ne.mpr c33, decide_eq_false (by omega)])
  exact ⟨fun h => Ev.step (fun k => by simp only [F1.j7]; rw [if_neg (by simp), if_neg c32]) (h8.1 h), fun h r he => Ev.step (fun k => by simp only [F1.j7]; rw [if_neg (by simp), if_neg c32]) (h8.2 h r he)⟩
def upG (vi : S80 → Bool) (code : List S80) (low high : Int) : Nat → Nat → Bool
 | 0, _ => true
 | d + 1, a => goodAt vi code low high a (rd_T80 code (a : Int)) && upG vi code low high d (a + 1)
def Incr (n : Int) : Int → List S77 → Prop
 | _, [] => True
 | last, e :: es => last < e.f1 ∧ e.f1 < n ∧ Incr n e.f1 es
def nextE (n : Int) : List S77 → Int
 | [] => n
 | e :: _ => e.f1
def regsG (vi : S80 → Bool) (code : List S80) (n : Int) : Int → List S77 → Bool
 | low, [] => upG vi code low (n - 1) (n - low).toNat low.toNat
 | low, e :: es => upG vi code low (e.f1 - 1) (e.f1 - low).toNat low.toNat && regsG vi code n e.f1 es
theorem entG_incr (isn : ByteArray → Bool) (n : Int) (l s : List S77) : ∀ (i : Nat) (last : Int), entG isn n l i last s = true → Incr n last s := by
 induction s with
 | nil => intro i last _; exact trivial
 | cons e s ih =>
  intro i last h
  simp only [entG, Bool.and_eq_true, decide_eq_true_eq] at h
  exact ⟨h.2.2.1, h.2.2.2.1, ih _ _ h.2.2.2.2⟩
theorem Incr.next {n last : Int} {s : List S77} (h : Incr n last s) (hl : last < n) : last < nextE n s ∧ nextE n s ≤ n := by
 cases s with
 | nil => exact ⟨hl, Int.le_refl _⟩
 | cons e s => exact ⟨h.1, Int.le_of_lt h.2.1⟩
def k6 (n low high : Int) (code : List S80) (ents : List S77) (a : Nat) (i : S80) (k : Nat) (t : Bool) : Option Bool := if t = true then (if ((i.f0 == lastG low) != ((a : Int) == high)) = true then (F1.j7 k n low high (a : Int) true code ents i.f0 i.f1 i.f2) else (if (a : Int) < high then (if i.f0 = 39 then (F1.j7 k n low high (a : Int) true code ents i.f0 i.f1 i.f2) else (F1.j7 k n low high (a : Int) (i.f0 == 38) code ents i.f0 i.f1 i.f2)) else (F1.j7 k n low high (a : Int) false code ents i.f0 i.f1 i.f2))) else (F1.j7 k n low high (a : Int) true code ents i.f0 i.f1 i.f2)
theorem spec_at_ev (vi : S80 → Bool) (n low high : Int) (code : List S80) (ents : List S77) (a : Nat) (hv : Ev (fun k => F5.f k (rd_T80 code (a : Int)).f0 (rd_T80 code (a : Int)).f1 (rd_T80 code (a : Int)).f2) (vi (rd_T80 code (a : Int)))) (hn : (code.length : Int) = n) (hn2 : n ≤ 1000000) (hl : 0 ≤ low) (ha : (a : Int) ≤ high) (hh : high < n) :
  (goodAt vi code low high a (rd_T80 code (a : Int)) = false → Ev (fun k => F1.j5 k n low high (a : Int) code ents) false) ∧
  (goodAt vi code low high a (rd_T80 code (a : Int)) = true → ∀ r, Ev (fun k => F1.l2 k n low high ((a + 1 : Nat) : Int) code ents) r → Ev (fun k => F1.j5 k n low high (a : Int) code ents) r) := by
 generalize hi : rd_T80 code (a : Int) = i at hv
 have addr := spec_addr_ev n low high code ents a i hn hn2 hl ha hh
 have j7t : Ev (fun k => F1.j7 k n low high (a : Int) true code ents i.f0 i.f1 i.f2) false := Ev.step (f := fun _ => some false) (fun k => by simp only [F1.j7, if_true]) (Ev.now _)
 have u5 : ∀ k, F1.j5 (k + 1) n low high (a : Int) code ents = F1.j6 k n low high (a : Int) (lastG low) code ents i.f0 i.f1 i.f2 := by
  intro k
  simp only [F1.j5, hi, lastG]
  rw [if_pos (show (0 : Int) ≤ (a : Int) by omega), if_pos (show (a : Int) < (code.length : Int) by omega)]
  by_cases c : low = 0
  ·rw [if_pos c, if_pos c]
  ·rw [if_neg c, if_neg c]
 have s5 : ∀ r, Ev (fun k => F1.j6 k n low high (a : Int) (lastG low) code ents i.f0 i.f1 i.f2) r → Ev (fun k => F1.j5 k n low high (a : Int) code ents) r := fun r he => Ev.step u5 he
 have s6 : ∀ r, Ev (fun k => k6 n low high code ents a i k (vi i)) r → Ev (fun k => F1.j5 k n low high (a : Int) code ents) r :=
  fun r he => s5 r (Ev.step (f := fun k => (F5.f k i.f0 i.f1 i.f2).bind (k6 n low high code ents a i k)) (fun k => by simp only [F1.j6]; rfl) (Ev.bind hv he))
 unfold goodAt
 cases hvi : vi i with
 | false =>
  simp only [hvi, k6, Bool.false_eq_true, if_false] at s6
  exact ⟨fun _ => s6 _ (Ev.congr (fun k => by (try rw [if_neg (by simp)]); first | done | rfl) j7t), fun h => by simp at h⟩
 | true =>
  simp only [hvi, k6, if_true] at s6
  have hb : ∀ x y : Bool, (x != y) = !(x == y) := fun x y => by cases x <;> cases y <;> rfl
  cases hx : ((i.f0 == lastG low) == ((a : Int) == high)) with
  | false =>
   exact ⟨fun _ => s6 _ (Ev.congr (fun k => by rw [if_pos (by rw [hb, hx]; rfl)]) j7t), fun h => by simp at h⟩
  | true =>
   simp only [Bool.true_and]
   by_cases c : (a : Int) < high
   ·rw [decide_eq_true c]
    by_cases c39 : i.f0 = 39
    ·rw [decide_eq_true (Or.inr c39)]
     exact ⟨fun _ => s6 _ (Ev.congr (fun k => by rw [if_neg (by rw [hb, hx]; simp), if_pos c, if_pos c39]) j7t), fun h => by simp at h⟩
    ·by_cases c38 : i.f0 = 38
     ·rw [decide_eq_true (Or.inl c38)]
      exact ⟨fun _ => s6 _ (Ev.congr (fun k => by rw [if_neg (by rw [hb, hx]; simp), if_pos c, if_neg c39, beq_iff_eq.mpr c38]) j7t), fun h => by simp at h⟩
     ·rw [decide_eq_false (show ¬ (i.f0 = 38 ∨ i.f0 = 39) by omega)]
      simp only [Bool.and_false, Bool.not_false, Bool.true_and]
      have s : ∀ r, Ev (fun k => F1.j7 k n low high (a : Int) false code ents i.f0 i.f1 i.f2) r → Ev (fun k => F1.j5 k n low high (a : Int) code ents) r := fun r he => s6 _ (Ev.congr (fun k => by rw [if_neg (by rw [hb, hx]; simp), if_pos c, if_neg c39, beq_eq_false_iff_ne.mpr c38]) he)
      exact ⟨fun h => s _ (addr.1 h), fun h r he => s _ (addr.2 h r he)⟩
   ·rw [decide_eq_false c]
    simp only [Bool.false_and, Bool.not_false, Bool.true_and]
    have s : ∀ r, Ev (fun k => F1.j7 k n low high (a : Int) false code ents i.f0 i.f1 i.f2) r → Ev (fun k => F1.j5 k n low high (a : Int) code ents) r := fun r he => s6 _ (Ev.congr (fun k => by rw [if_neg (by rw [hb, hx]; simp), if_neg c]) he)
    exact ⟨fun h => s _ (addr.1 h), fun h r he => s _ (addr.2 h r he)⟩
theorem spec_up_ev (vi : S80 → Bool) (n low high : Int) (code : List S80) (ents : List S77) (hv : ∀ a : Nat, (a : Int) < n → Ev (fun k => F5.f k (rd_T80 code (a : Int)).f0 (rd_T80 code (a : Int)).f1 (rd_T80 code (a : Int)).f2) (vi (rd_T80 code (a : Int)))) (hn : (code.length : Int) = n) (hn2 : n ≤ 1000000) (hl : 0 ≤ low) (hh : high < n) (d : Nat) : ∀ a : Nat, (a : Int) + d = high →
  (upG vi code low high (d + 1) a = false → Ev (fun k => F1.j5 k n low high (a : Int) code ents) false) ∧
  (upG vi code low high (d + 1) a = true → ∀ r, Ev (fun k => F1.l2 k n low high (high + 1) code ents) r → Ev (fun k => F1.j5 k n low high (a : Int) code ents) r) := by
 induction d with
 | zero =>
  intro a ha
  obtain ⟨p, q⟩ := spec_at_ev vi n low high code ents a (hv a (by omega)) hn hn2 hl (by omega) hh
  simp only [upG, Bool.and_true]
  refine ⟨p, fun h r he => q h r ?_⟩
  rw [show ((a + 1 : Nat) : Int) = high + 1 by omega]
  exact he
 | succ d ih =>
  intro a ha
  obtain ⟨p, q⟩ := spec_at_ev vi n low high code ents a (hv a (by omega)) hn hn2 hl (by omega) hh
  obtain ⟨p2, q2⟩ := ih (a + 1) (by omega)
  have st : ∀ r, Ev (fun k => F1.j5 k n low high ((a + 1 : Nat) : Int) code ents) r → Ev (fun k => F1.l2 k n low high ((a + 1 : Nat) : Int) code ents) r := fun r he => Ev.step (fun k => by
   simp only [F1.l2]
   rw [if_pos (show ((a + 1 : Nat) : Int) < n by omega), if_neg (show ¬ ((a + 1 : Nat) : Int) > high by omega)]) he
  rw [upG]
  cases hg : goodAt vi code low high a (rd_T80 code (a : Int)) with
  | false => exact ⟨fun _ => p hg, fun h => by simp at h⟩
  | true =>
   rw [Bool.true_and]
   exact ⟨fun h => q hg _ (st _ (p2 h)), fun h r he => q hg _ (st _ (q2 h r he))⟩
def regionOf (n a : Int) : Int → List S77 → Int × Int
 | low, [] => (low, n - 1)
 | low, e :: es => if e.f1 ≤ a then regionOf n a e.f1 es else (low, e.f1 - 1)
def lastE : Int → List S77 → Int
 | low, [] => low
 | _, e :: es => lastE e.f1 es
theorem lastE_ge (n : Int) (pre s : List S77) : ∀ low : Int, Incr n low (pre ++ s) → low ≤ lastE low pre ∧ Incr n (lastE low pre) s ∧ (low < n → lastE low pre < n) := by
 induction pre with
 | nil => intro low h; exact ⟨Int.le_refl _, h, id⟩
 | cons e pre ih =>
  intro low h
  obtain ⟨h1, h2, h3⟩ := h
  obtain ⟨i1, i2, i3⟩ := ih e.f1 h3
  exact ⟨by rw [lastE]; omega, i2, fun _ => i3 h2⟩
theorem lastE_snoc (pre : List S77) (e : S77) : ∀ low : Int, lastE low (pre ++ [e]) = e.f1 := by
 induction pre with
 | nil => intro low; rfl
 | cons x pre ih => intro low; exact ih x.f1
theorem regionOf_app (n : Int) (s pre : List S77) : ∀ low : Int, Incr n low (pre ++ s) → regionOf n (lastE low pre) low (pre ++ s) = (lastE low pre, nextE n s - 1) := by
 induction pre with
 | nil =>
  intro low h
  cases s with
  | nil => rfl
  | cons e s =>
   have := h.1
   simp only [List.nil_append, regionOf, lastE, nextE]
   rw [if_neg (by omega)]
 | cons e pre ih =>
  intro low h
  have h2 := ih e.f1 h.2.2
  have h3 := (lastE_ge n pre s e.f1 h.2.2).1
  simp only [List.cons_append, regionOf, lastE]
  rw [if_pos h3]
  exact h2
theorem spec_region_ev (n : Int) (hn0 : 0 ≤ n) (hn : n ≤ 1000000) (code : List S80) (ents : List S77) (hl : ents.length ≤ 1000000) (a : Int) (s : List S77) : ∀ (i : Nat) (low : Int), ents.drop i = s → i ≤ ents.length → 0 ≤ low → Incr n low s →
  Ev (fun k => F17.l0 k a low (n - 1) (i : Int) code ents) (regionOf n a low s) := by
 induction s with
 | nil =>
  intro i low hd hi _ _
  refine Ev.step (f := fun _ => some (low, n - 1)) (fun k => ?_) (Ev.now _)
  have hi2 : i = ents.length := by
   have := congrArg List.length hd
   simp only [List.length_drop, List.length_nil] at this
   omega
  simp only [F17.l0]
  rw [if_neg (show ¬ ((i : Int) < (ents.length : Int)) by omega)]
 | cons e s ih =>
  intro i low hd hi h0 hI
  have hlt : i < ents.length := by
   rcases Nat.lt_or_ge i ents.length with h2 | h2
   ·exact h2
   ·rw [List.drop_eq_nil_of_le h2] at hd; cases hd
  have hd2 := hd
  rw [List.drop_eq_getElem_cons hlt] at hd2
  injection hd2 with hx hs
  have hrd : rd_T77 ents (i : Int) = e := by simp [rd_T77, List.getD_eq_getElem?_getD, List.getElem?_eq_getElem hlt, hx]
  have hw : wrap64 ((i : Int) + 1) = ((i + 1 : Nat) : Int) := by unfold wrap64; omega
  have h1 := hI.1
  have h2 := hI.2.1
  have hw2 : wrap64 (e.f1 - 1) = e.f1 - 1 := by unfold wrap64; omega
  have un : ∀ k, F17.l0 (k + 1) a low (n - 1) (i : Int) code ents = if e.f1 ≤ a then F17.l0 k a e.f1 (n - 1) ((i + 1 : Nat) : Int) code ents else some (low, e.f1 - 1) := by
   intro k
   simp only [F17.l0, hrd, hw, hw2]
   rw [if_pos (show (i : Int) < (ents.length : Int) by omega), if_pos (show (0 : Int) ≤ (i : Int) by omega)]
  simp only [regionOf]
  by_cases c : e.f1 ≤ a
  ·rw [if_pos c]
   exact Ev.step (fun k => by rw [un, if_pos c]) (ih (i + 1) e.f1 hs (by omega) (by omega) hI.2.2)
  ·rw [if_neg c]
   exact Ev.step (f := fun _ => some (low, e.f1 - 1)) (fun k => by rw [un, if_neg c]) (Ev.now _)
theorem spec_regs_ev (vi : S80 → Bool) (n : Int) (code : List S80) (ents : List S77) (hv : ∀ a : Nat, (a : Int) < n → Ev (fun k => F5.f k (rd_T80 code (a : Int)).f0 (rd_T80 code (a : Int)).f1 (rd_T80 code (a : Int)).f2) (vi (rd_T80 code (a : Int)))) (hn : (code.length : Int) = n) (hn1 : 1 ≤ n) (hn2 : n ≤ 1000000) (hl : ents.length ≤ 1000000) (hI : Incr n 0 ents) (s : List S77) : ∀ (pre : List S77) (low0 high0 : Int), ents = pre ++ s → high0 < lastE 0 pre →
  Ev (fun k => F1.l2 k n low0 high0 (lastE 0 pre) code ents) (regsG vi code n (lastE 0 pre) s) := by
 have key : ∀ (s pre : List S77) (low0 high0 : Int), ents = pre ++ s → high0 < lastE 0 pre →
   (upG vi code (lastE 0 pre) (nextE n s - 1) (nextE n s - lastE 0 pre).toNat (lastE 0 pre).toNat = false → Ev (fun k => F1.l2 k n low0 high0 (lastE 0 pre) code ents) false) ∧
   (upG vi code (lastE 0 pre) (nextE n s - 1) (nextE n s - lastE 0 pre).toNat (lastE 0 pre).toNat = true → ∀ r, Ev (fun k => F1.l2 k n (lastE 0 pre) (nextE n s - 1) (nextE n s) code ents) r → Ev (fun k => F1.l2 k n low0 high0 (lastE 0 pre) code ents) r) := by
  intro s pre low0 high0 he hh
  rw [he] at hI
  obtain ⟨g1, g2, g3⟩ := lastE_ge n pre s 0 hI
  have g4 := g3 (by omega)
  obtain ⟨g5, g6⟩ := g2.next g4
  have hr := regionOf_app n s pre 0 hI
  have ev := spec_region_ev n (by omega) hn2 code ents hl (lastE 0 pre) (pre ++ s) 0 0 (by rw [he]; rfl) (Nat.zero_le _) (Int.le_refl _) hI
  rw [hr] at ev
  generalize hA : lastE 0 pre = A at *
  obtain ⟨a, rfl⟩ : ∃ a : Nat, A = (a : Int) := ⟨A.toNat, by omega⟩
  have hw : wrap64 ((code.length : Int) - 1) = n - 1 := by unfold wrap64; omega
  obtain ⟨d, hd⟩ : ∃ d : Nat, (a : Int) + d = nextE n s - 1 := ⟨(nextE n s - 1 - a).toNat, by omega⟩
  have up := spec_up_ev vi n (a : Int) (nextE n s - 1) code ents hv hn hn2 (by omega) (by omega) d a hd
  rw [show (nextE n s - (a : Int)).toNat = d + 1 by omega, Int.toNat_natCast]
  rw [show nextE n s - 1 + 1 = nextE n s by omega] at up
  have st : ∀ r, Ev (fun k => F1.j5 k n (a : Int) (nextE n s - 1) (a : Int) code ents) r → Ev (fun k => F1.l2 k n low0 high0 (a : Int) code ents) r := fun r h => Ev.step (f := fun k => (F17.f k code ents (a : Int)).bind fun bt => F1.j5 k n bt.1 bt.2 (a : Int) code ents) (fun k => by
   simp only [F1.l2]
   rw [if_pos (show (a : Int) < n by omega), if_pos (show (a : Int) > high0 by omega)]) (Ev.bind (a := ((a : Int), nextE n s - 1)) (by unfold F17.f; rw [hw]; exact ev) h)
  exact ⟨fun h => st _ (up.1 h), fun h r he => st _ (up.2 h r he)⟩
 induction s with
 | nil =>
  intro pre low0 high0 he hh
  obtain ⟨p, q⟩ := key [] pre low0 high0 he hh
  simp only [regsG]
  simp only [nextE] at p q
  cases hu : upG vi code (lastE 0 pre) (n - 1) (n - lastE 0 pre).toNat (lastE 0 pre).toNat with
  | false => exact p hu
  | true => exact q hu _ (Ev.step (f := fun _ => some true) (fun k => by
    simp only [F1.l2]
    rw [if_neg (show ¬ n < n by omega)]) (Ev.now _))
 | cons e s ih =>
  intro pre low0 high0 he hh
  obtain ⟨p, q⟩ := key (e :: s) pre low0 high0 he hh
  simp only [regsG]
  simp only [nextE] at p q
  cases hu : upG vi code (lastE 0 pre) (e.f1 - 1) (e.f1 - lastE 0 pre).toNat (lastE 0 pre).toNat with
  | false => exact p hu
  | true =>
   have h := ih (pre ++ [e]) (lastE 0 pre) (e.f1 - 1) (by rw [he, List.append_assoc]; rfl) (by rw [lastE_snoc]; omega)
   rw [lastE_snoc] at h
   exact q hu _ (by rw [Bool.true_and]; exact h)
theorem impl_all_ev (vi : S80 → Bool) (code : List S80) (hl : code.length ≤ 1000000) (hv : ∀ i, i ∈ code → Ev (fun k => impl_ValidIns.f k i.f0 i.f1 i.f2) (vi i)) : Ev (fun k => F8.f k code) (code.all vi) := by
 have key : ∀ (s : List S80) (i : Nat), code.drop i = s → i ≤ code.length → Ev (fun k => F8.l0 k code (code.length : Int) (i : Int)) (s.all vi) := by
  intro s
  induction s with
  | nil =>
   intro i hd hi
   have hi2 : i = code.length := by
    have := congrArg List.length hd
    simp only [List.length_drop, List.length_nil] at this
    omega
   refine Ev.step (f := fun _ => some true) (fun k => ?_) (Ev.now _)
   simp only [F8.l0]
   rw [if_neg (show ¬ ((i : Int) < (code.length : Int)) by omega)]
  | cons e s ih =>
   intro i hd hi
   have hlt : i < code.length := by
    rcases Nat.lt_or_ge i code.length with h2 | h2
    ·exact h2
    ·rw [List.drop_eq_nil_of_le h2] at hd; cases hd
   have hd2 := hd
   rw [List.drop_eq_getElem_cons hlt] at hd2
   injection hd2 with hx hs
   have hrd : rd_T80 code (i : Int) = e := by simp [rd_T80, List.getD_eq_getElem?_getD, List.getElem?_eq_getElem hlt, hx]
   have hmem : e ∈ code := by rw [← hx]; exact List.getElem_mem hlt
   have hw : wrap64 ((i : Int) + 1) = ((i + 1 : Nat) : Int) := by unfold wrap64; omega
   refine Ev.step (f := fun k => (impl_ValidIns.f k e.f0 e.f1 e.f2).bind fun t => if t = true then F8.l0 k code (code.length : Int) ((i + 1 : Nat) : Int) else some false) (fun k => ?_) (Ev.bind (hv e hmem) ?_)
   ·simp only [F8.l0, hrd, hw]
    rw [if_pos (show (i : Int) < (code.length : Int) by omega), if_pos (show (0 : Int) ≤ (i : Int) by omega)]
    try rw [if_pos (show (i : Int) < (code.length : Int) by omega)]
   ·rw [List.all_cons]
    cases vi e with
    | false => exact Ev.congr (f := fun _ => some false) (fun k => by rw [if_neg (by simp)]) (Ev.now _)
    | true => exact Ev.congr (fun k => by rw [if_pos rfl]) (by rw [Bool.true_and]; exact ih (i + 1) hs (by omega))
 exact key code 0 rfl (Nat.zero_le _)
theorem impl_up_ev (vi : S80 → Bool) (n low high : Int) (code : List S80) (ents : List S77) (hv : ∀ a : Nat, (a : Int) < n → vi (rd_T80 code (a : Int)) = true) (hn : (code.length : Int) = n) (hn2 : n ≤ 1000000) (hl : 0 ≤ low) (hh : high < n) (d : Nat) : ∀ a : Nat, (a : Int) + d = high + 1 →
  Ev (fun k => F4.l0 k low (high + 1) (lastG low) (a : Int) code ents) (upG vi code low high d a) := by
 induction d with
 | zero =>
  intro a ha
  refine Ev.step (f := fun _ => some true) (fun k => ?_) (Ev.now _)
  simp only [F4.l0]
  rw [if_neg (show ¬ ((a : Int) < high + 1) by omega)]
 | succ d ih =>
  intro a ha
  have h := ih (a + 1) (by omega)
  have hva := hv a (by omega)
  rw [upG]
  generalize hi : rd_T80 code (a : Int) = i at hva
  have hw : wrap64 ((a : Int) + 1) = ((a + 1 : Nat) : Int) := by unfold wrap64; omega
  have hw2 : wrap64 (high + 1 - 1) = high := by unfold wrap64; omega
  have un : ∀ k, F4.l0 (k + 1) low (high + 1) (lastG low) (a : Int) code ents = if goodAt vi code low high a i = true then F4.l0 k low (high + 1) (lastG low) ((a + 1 : Nat) : Int) code ents else some false := by
   intro k
   simp only [F4.l0, hi, hw, hw2, impl_isLast.f, F27.f]
   rw [if_pos (show (a : Int) < high + 1 by omega), if_pos (show (0 : Int) ≤ (a : Int) by omega), if_pos (show (a : Int) < (code.length : Int) by omega)]
   have hlast : lastG low = 39 ∨ lastG low = 38 := by unfold lastG; split <;> simp
   generalize hL : lastG low = L at *
   unfold goodAt addrG
   rw [hva, Bool.true_and, hL]
   by_cases c : i.f0 = 38 ∨ i.f0 = 39
   ·have e1 : (if i.f0 = 39 then some true else some (i.f0 == 38)) = some true := by
     by_cases c2 : i.f0 = 39
     ·rw [if_pos c2]
     ·rw [if_neg c2, beq_iff_eq.mpr (by omega)]
    rw [e1, Option.bind_some, if_pos rfl, decide_eq_true c, if_neg (show ¬ (i.f0 = 32 ∨ i.f0 = 33) by omega), if_neg (show ¬ i.f0 = 37 by omega)]
    by_cases c3 : (a : Int) = high
    ·rw [if_pos c3, beq_iff_eq.mpr c3, decide_eq_false (by omega)]
     by_cases c4 : i.f0 = L
     ·rw [if_pos c4, beq_iff_eq.mpr c4]; rfl
     ·rw [if_neg c4, beq_eq_false_iff_ne.mpr c4]; rfl
    ·rw [if_neg c3, decide_eq_true (show (a : Int) < high by omega)]
     simp
   ·have e1 : (if i.f0 = 39 then some true else some (i.f0 == 38)) = some false := by
     rw [if_neg (by omega), beq_eq_false_iff_ne.mpr (by omega)]
    have cL : ¬ i.f0 = L := by omega
    rw [e1, Option.bind_some, if_neg (by simp), decide_eq_false c, Bool.and_false, Bool.not_false, Bool.true_and, beq_eq_false_iff_ne.mpr cL]
    by_cases c3 : (a : Int) = high
    ·rw [if_pos c3, beq_iff_eq.mpr c3]; rfl
    ·rw [if_neg c3, beq_eq_false_iff_ne.mpr c3]
     simp only [beq_self_eq_true, Bool.true_and]
     by_cases c37 : i.f0 = 37
     ·rw [if_pos c37, if_neg (show ¬ (i.f0 = 32 ∨ i.f0 = 33) by omega), if_pos c37]
      by_cases d1 : low ≤ i.f1
      ·rw [if_pos (show i.f1 ≥ low by omega)]
       by_cases d2 : i.f1 ≤ (a : Int) - 1
       ·rw [if_pos (show i.f1 < (a : Int) by omega), if_pos (show 0 ≤ i.f1 by omega), if_pos (show i.f1 < (code.length : Int) by omega)]
        by_cases d3 : (rd_T80 code i.f1).f0 = 31
        ·rw [if_pos d3, decide_eq_true ⟨d1, d2, d3⟩]; rfl
        ·rw [if_neg d3, decide_eq_false (fun h => d3 h.2.2)]; rfl
       ·rw [if_neg (show ¬ i.f1 < (a : Int) by omega), decide_eq_false (fun h => d2 h.2.1)]; rfl
      ·rw [if_neg (show ¬ i.f1 ≥ low by omega), decide_eq_false (fun h => d1 h.1)]; rfl
     ·rw [if_neg c37, if_neg c37]
      by_cases c32 : i.f0 = 32 ∨ i.f0 = 33
      ·have e2 : (if i.f0 = 32 then some true else if i.f0 = 33 then some true else some (i.f0 == 37)) = some true := by
        rcases c32 with c | c <;> simp [c]
       rw [e2, Option.bind_some, if_pos rfl, if_pos c32]
       by_cases d1 : i.f1 > (a : Int)
       ·rw [if_pos d1]
        by_cases d2 : i.f1 < high + 1
        ·rw [if_pos d2, decide_eq_true (show (a : Int) + 1 ≤ i.f1 ∧ i.f1 ≤ high by omega)]; rfl
        ·rw [if_neg d2, decide_eq_false (show ¬ ((a : Int) + 1 ≤ i.f1 ∧ i.f1 ≤ high) by omega)]; rfl
       ·rw [if_neg d1, decide_eq_false (show ¬ ((a : Int) + 1 ≤ i.f1 ∧ i.f1 ≤ high) by omega)]; rfl
      ·have e2 : (if i.f0 = 32 then some true else if i.f0 = 33 then some true else some (i.f0 == 37)) = some false := by
        rw [if_neg (by omega), if_neg (by omega), beq_eq_false_iff_ne.mpr c37]
       rw [e2, Option.bind_some, if_neg (by simp), if_neg c32]; rfl
  cases hg : goodAt vi code low high a i with
  | false => exact Ev.step (f := fun _ => some false) (fun k => by rw [un, hg, if_neg (by simp)]) (Ev.now _)
  | true => exact Ev.step (fun k => by rw [un, hg, if_pos rfl]) (by rw [Bool.true_and]; exact h)
theorem starts_at (rest : List Int) (pre : List S77) : ∀ low : Int, rd ((low :: pre.map (·.f1)) ++ rest) (pre.length : Int) = lastE low pre := by
 induction pre with
 | nil => intro low; rfl
 | cons e pre ih =>
  intro low
  have h := ih e.f1
  simp only [rd, Int.toNat_natCast, List.getD_eq_getElem?_getD] at h ⊢
  simp only [List.map_cons, List.length_cons, List.cons_append, List.getElem?_cons_succ, lastE]
  exact h
theorem ends_at (n : Int) (pre s : List S77) : rd ((pre ++ s).map (·.f1) ++ [n]) (pre.length : Int) = nextE n s := by
 simp only [rd, Int.toNat_natCast, List.getD_eq_getElem?_getD, List.map_append, List.append_assoc]
 rw [List.getElem?_append_right (by simp), List.length_map, Nat.sub_self]
 cases s <;> rfl
theorem impl_regs_ev (vi : S80 → Bool) (n : Int) (code : List S80) (ents : List S77) (hv : ∀ a : Nat, (a : Int) < n → vi (rd_T80 code (a : Int)) = true) (hn : (code.length : Int) = n) (hn1 : 1 ≤ n) (hn2 : n ≤ 1000000) (hl : ents.length ≤ 1000000) (hI : Incr n 0 ents) (X Y : List Int) (hX : X = (0 :: ents.map (·.f1)) ++ [n]) (hY : Y = ents.map (·.f1) ++ [n]) (s : List S77) : ∀ (pre : List S77), ents = pre ++ s →
  (regsG vi code n (lastE 0 pre) s = false → Ev (fun k => F2.l0 k X Y (Y.length : Int) (pre.length : Int) code ents) (([] : List Int), false)) ∧
  (regsG vi code n (lastE 0 pre) s = true → ∀ r, Ev (fun k => F0.f k code ents) r → Ev (fun k => F2.l0 k X Y (Y.length : Int) (pre.length : Int) code ents) r) := by
 have hlen : Y.length = ents.length + 1 := by rw [hY]; simp
 have hlen2 : X.length = ents.length + 2 := by rw [hX]; simp
 have key : ∀ (s pre : List S77), ents = pre ++ s →
   (upG vi code (lastE 0 pre) (nextE n s - 1) (nextE n s - lastE 0 pre).toNat (lastE 0 pre).toNat = false → Ev (fun k => F2.l0 k X Y (Y.length : Int) (pre.length : Int) code ents) (([] : List Int), false)) ∧
   (upG vi code (lastE 0 pre) (nextE n s - 1) (nextE n s - lastE 0 pre).toNat (lastE 0 pre).toNat = true → ∀ r, Ev (fun k => F2.l0 k X Y (Y.length : Int) ((pre.length + 1 : Nat) : Int) code ents) r → Ev (fun k => F2.l0 k X Y (Y.length : Int) (pre.length : Int) code ents) r) := by
  intro s pre he
  have hpl : pre.length ≤ ents.length := by rw [he, List.length_append]; omega
  have q1 : (pre.length : Int) < (Y.length : Int) := by rw [hlen]; omega
  have q2 : (pre.length : Int) < (X.length : Int) := by rw [hlen2]; omega
  have hw : wrap64 ((pre.length : Int) + 1) = ((pre.length + 1 : Nat) : Int) := by unfold wrap64; omega
  have hI2 := hI
  rw [he] at hI2
  obtain ⟨g1, g2, g3⟩ := lastE_ge n pre s 0 hI2
  have g4 := g3 (by omega)
  obtain ⟨g5, g6⟩ := g2.next g4
  have hz : (lastE 0 pre = 0) ↔ pre.length = 0 := by
   cases pre with
   | nil => simp [lastE]
   | cons e pre =>
    have h3 := (lastE_ge n pre s e.f1 hI2.2.2).1
    have h4 := hI2.1
    simp only [lastE, List.length_cons]
    omega
  obtain ⟨a, ha⟩ : ∃ a : Nat, lastE 0 pre = (a : Int) := ⟨(lastE 0 pre).toNat, by omega⟩
  rw [ha] at g1 g2 g4 g5 hz ⊢
  have up := impl_up_ev vi n (a : Int) (nextE n s - 1) code ents hv hn hn2 (by omega) (by omega) (nextE n s - (a : Int)).toNat a (by omega)
  rw [show nextE n s - 1 + 1 = nextE n s by omega] at up
  have r1 : rd X (pre.length : Int) = (a : Int) := by
   rw [← ha]
   have := starts_at (s.map (·.f1) ++ [n]) pre 0
   rw [← this, hX, he, List.map_append, List.cons_append, List.append_assoc, List.cons_append]
  have r2 : rd Y (pre.length : Int) = nextE n s := by rw [hY, he]; exact ends_at n pre s
  have un : ∀ k, F2.l0 (k + 1) X Y (Y.length : Int) (pre.length : Int) code ents = (F4.f k code ents (a : Int) (nextE n s) (lastG (a : Int))).bind fun t => if t = true then F2.l0 k X Y (Y.length : Int) ((pre.length + 1 : Nat) : Int) code ents else some (([] : List Int), false) := by
   intro k
   simp only [F2.l0, r1, r2, hw]
   rw [if_pos q1, if_pos (Int.natCast_nonneg _)]
   try rw [if_pos q1]
   unfold lastG
   by_cases c : (pre.length : Int) = 0
   ·rw [if_pos c, if_pos q2, if_pos (hz.2 (Int.ofNat_eq_zero.1 c))]
   ·rw [if_neg c, if_pos q2, if_neg (fun h => c (Int.ofNat_eq_zero.2 (hz.1 h)))]
  rw [Int.toNat_natCast]
  refine ⟨fun h => ?_, fun h r hr => ?_⟩
  ·rw [h] at up
   exact Ev.step un (Ev.bind (by unfold F4.f; exact up) (Ev.congr (f := fun _ => some (([] : List Int), false)) (fun k => by rw [if_neg (by simp)]) (Ev.now _)))
  ·rw [h] at up
   exact Ev.step un (Ev.bind (by unfold F4.f; exact up) (Ev.congr (fun k => by rw [if_pos rfl]) hr))
 induction s with
 | nil =>
  intro pre he
  obtain ⟨p, q⟩ := key [] pre he
  simp only [nextE] at p q
  have hpl : pre.length = ents.length := by rw [he, List.append_nil]
  refine ⟨p, fun h r hr => q h r (Ev.step (f := fun k => (F0.f k code ents).bind fun bt => some (bt.1, bt.2)) (fun k => ?_) (Ev.bind hr (Ev.now _)))⟩
  simp only [F2.l0]
  rw [if_neg (by rw [hlen]; omega)]
 | cons e s ih =>
  intro pre he
  obtain ⟨p, q⟩ := key (e :: s) pre he
  simp only [regsG]
  simp only [nextE] at p q
  obtain ⟨i1, i2⟩ := ih (pre ++ [e]) (by rw [he, List.append_assoc]; rfl)
  rw [lastE_snoc, show (pre ++ [e]).length = pre.length + 1 by simp] at i1 i2
  cases hu : upG vi code (lastE 0 pre) (e.f1 - 1) (e.f1 - lastE 0 pre).toNat (lastE 0 pre).toNat with
  | false => exact ⟨fun _ => p hu, fun h => by simp at h⟩
  | true =>
   rw [Bool.true_and]
   exact ⟨fun h => q hu _ (i1 h), fun h r hr => q hu _ (i2 h r hr)⟩
theorem up_at (vi : S80 → Bool) (code : List S80) (low high : Int) (d : Nat) : ∀ a : Nat, upG vi code low high d a = true → ∀ b : Nat, a ≤ b → b < a + d → goodAt vi code low high b (rd_T80 code (b : Int)) = true := by
 induction d with
 | zero => intro a _ b h1 h2; omega
 | succ d ih =>
  intro a h b h1 h2
  rw [upG, Bool.and_eq_true] at h
  rcases Nat.eq_or_lt_of_le h1 with rfl | h3
  ·exact h.1
  ·exact ih (a + 1) h.2 b h3 (by omega)
theorem regs_at (vi : S80 → Bool) (code : List S80) (n : Int) (s : List S77) : ∀ low : Int, 0 ≤ low → low < n → Incr n low s → regsG vi code n low s = true → ∀ b : Nat, low ≤ b → (b : Int) < n →
  ∃ lo hi : Int, 0 ≤ lo ∧ lo ≤ b ∧ (b : Int) ≤ hi ∧ hi < n ∧ goodAt vi code lo hi b (rd_T80 code (b : Int)) = true := by
 induction s with
 | nil =>
  intro low h0 h1 _ h b h2 h3
  exact ⟨low, n - 1, h0, h2, by omega, by omega, up_at vi code low (n - 1) _ _ h b (by omega) (by omega)⟩
 | cons e s ih =>
  intro low h0 h1 hI h b h2 h3
  have g1 := hI.1
  have g2 := hI.2.1
  rw [regsG, Bool.and_eq_true] at h
  rcases Int.lt_or_le (b : Int) e.f1 with h4 | h4
  ·exact ⟨low, e.f1 - 1, h0, h2, by omega, by omega, up_at vi code low (e.f1 - 1) _ _ h.1 b (by omega) (by omega)⟩
  ·exact ih e.f1 (by omega) g2 hI.2.2 h.2 b h4 h3
theorem good_next (vi : S80 → Bool) (code : List S80) (lo hi : Int) (a : Nat) (i : S80) (h0 : 0 ≤ lo) (h1 : lo ≤ a) (h2 : (a : Int) ≤ hi) (hg : goodAt vi code lo hi a i = true) : ∀ k, k ∈ nextI i a → 0 ≤ k ∧ k ≤ hi := by
 unfold goodAt at hg
 rw [Bool.and_eq_true, Bool.and_eq_true, Bool.and_eq_true] at hg
 obtain ⟨_, g1, _, g3⟩ := hg
 have hL : lastG lo = 39 ∨ lastG lo = 38 := by unfold lastG; split <;> simp
 have hlt : ¬ (i.f0 = 38 ∨ i.f0 = 39) → (a : Int) < hi := by
  intro c
  rw [beq_eq_false_iff_ne.mpr (show i.f0 ≠ lastG lo by omega)] at g1
  have : ¬ (a : Int) = hi := by
   intro e
   rw [beq_iff_eq.mpr e] at g1
   simp at g1
  omega
 intro k hk
 unfold nextI at hk
 unfold addrG at g3
 by_cases c1 : i.f0 = 33 ∨ i.f0 = 37
 ·rw [if_pos c1] at hk
  obtain rfl : k = i.f1 := by simpa using hk
  rcases c1 with c | c
  ·rw [if_pos (Or.inr c), decide_eq_true_eq] at g3
   omega
  ·rw [if_neg (by omega), if_pos c, decide_eq_true_eq] at g3
   omega
 ·rw [if_neg c1] at hk
  by_cases c2 : i.f0 = 32
  ·have := hlt (by omega)
   rw [if_pos c2] at hk
   rw [if_pos (Or.inl c2), decide_eq_true_eq] at g3
   have : k = (a : Int) + 1 ∨ k = i.f1 := by simpa using hk
   omega
  ·rw [if_neg c2] at hk
   by_cases c3 : i.f0 = 38 ∨ i.f0 = 39
   ·rw [if_pos c3] at hk
    cases hk
   ·rw [if_neg c3] at hk
    have := hlt c3
    have : k = (a : Int) + 1 := by simpa using hk
    omega
def viG (i : S80) : Bool := insB i.f0 i.f1 i.f2
def isnG (s : ByteArray) : Bool := isNameB s
def lenG (code : List S80) : Bool := decide (1 ≤ code.length ∧ code.length ≤ 13000)
def shapeG (code : List S80) (ents : List S77) : Bool :=
 lenG code && (decide (ents.length ≤ 40) && (entG isnG (code.length : Int) ents 0 0 ents && regsG viG code (code.length : Int) 0 ents))
theorem spec_shape_ev (code : List S80) (ents : List S77) : Ev (fun k => F1.f k code ents) (shapeG code ents) := by
 have j0t : Ev (fun k => F1.j0 k (code.length : Int) true code ents) false := Ev.step (f := fun _ => some false) (fun k => by simp only [F1.j0, if_true]) (Ev.now _)
 unfold F1.f shapeG lenG
 simp only [arg_in, Option.bind_some]
 by_cases c1 : 1 ≤ code.length ∧ code.length ≤ 13000
 ·rw [decide_eq_true (show (1 : Int) ≤ (code.length : Int) by omega), decide_eq_true (show (code.length : Int) ≤ 13000 by omega), decide_eq_true c1]
  simp only [Bool.true_and, if_true]
  by_cases c2 : ents.length ≤ 40
  ·rw [decide_eq_true c2, decide_eq_false (show ¬ ((ents.length : Int) > 40) by omega), Bool.true_and]
   have en := spec_ents_ev isnG (code.length : Int) (by omega) (by omega) code ents (by omega) (fun e _ => spec_isName e.f0) ents 0 0 rfl (Nat.zero_le _) (Int.le_refl _) (fun h => absurd h (by omega)) (fun _ => rfl)
   have st : ∀ r, Ev (fun k => F1.l0 k (code.length : Int) ((0 : Nat) : Int) code ents) r → Ev (fun k => F1.j0 k (code.length : Int) false code ents) r := fun r he => Ev.step (fun k => by
    simp only [F1.j0]
    rw [if_neg (by simp)]
    rfl) he
   cases he : entG isnG (code.length : Int) ents 0 0 ents with
   | false =>
    rw [Bool.false_and]
    exact st _ (en.1 he)
   | true =>
    rw [Bool.true_and]
    exact st _ (en.2 he _ (spec_regs_ev viG (code.length : Int) code ents (fun a _ => spec_ins _ _ _) rfl (by omega) (by omega) (by omega) (entG_incr isnG _ ents ents 0 0 he) ents [] 0 (-1) rfl (by simp [lastE])))
  ·rw [decide_eq_false c2, decide_eq_true (show (ents.length : Int) > 40 by omega), Bool.false_and]
   exact j0t
 ·rw [decide_eq_false c1, Bool.false_and]
  refine Ev.congr (fun k => ?_) j0t
  by_cases c2 : (1 : Int) ≤ (code.length : Int)
  ·rw [decide_eq_true c2, decide_eq_false (show ¬ (code.length : Int) ≤ 13000 by omega)]
   rfl
  ·rw [decide_eq_false c2]
   rfl
theorem shape_marks (code : List S80) (ents : List S77) (h : shapeG code ents = true) :
  ∃ r : Option (List Int), Ev (fun k => F3.f k code ents) (ansM r) ∧ Ev (fun k => F0.f k code ents) (ansM r) ∧ ∀ ms, r = some ms → ms.length = code.length := by
 unfold shapeG lenG at h
 rw [Bool.and_eq_true, Bool.and_eq_true, Bool.and_eq_true, decide_eq_true_eq, decide_eq_true_eq] at h
 obtain ⟨h1, h2, h3, h4⟩ := h
 have hI := entG_incr isnG _ ents ents 0 0 h3
 have hmem : ∀ (s : List S77) (low : Int), 0 ≤ low → Incr (code.length : Int) low s → ∀ e, e ∈ s → 0 ≤ e.f1 ∧ e.f1 < (code.length : Int) := by
  intro s
  induction s with
  | nil => intro low _ _ e he; cases he
  | cons x s ih =>
   intro low h0 hI e he
   have g1 := hI.1
   have g2 := hI.2.1
   rcases List.mem_cons.1 he with rfl | he
   ·exact ⟨by omega, g2⟩
   ·exact ih x.f1 (by omega) hI.2.2 e he
 refine marks_same code.length (by omega) (by omega) code rfl ents (by omega) (hmem ents 0 (Int.le_refl _) hI) (fun a i hi k hk => ?_)
 have hlt : a < code.length := by
  rcases Nat.lt_or_ge a code.length with h5 | h5
  ·exact h5
  ·rw [List.getElem?_eq_none h5] at hi; cases hi
 have hrd : rd_T80 code (a : Int) = i := by simp [rd_T80, List.getD_eq_getElem?_getD, hi]
 obtain ⟨lo, hi2, g0, g1, g2, g3, g4⟩ := regs_at viG code (code.length : Int) ents 0 (Int.le_refl _) (by omega) hI h4 a (by omega) (by omega)
 rw [hrd] at g4
 have := good_next viG code lo hi2 a i g0 g1 g2 g4 k hk
 omega
theorem impl_checked_ev (code : List S80) (ents : List S77) :
  (shapeG code ents = false → Ev (fun k => F2.f k code ents) (([] : List Int), false)) ∧
  (shapeG code ents = true → ∀ r, Ev (fun k => F0.f k code ents) r → Ev (fun k => F2.f k code ents) r) := by
 have j0t : Ev (fun k => F2.j0 k true code ents) (([] : List Int), false) := Ev.step (f := fun _ => some (([] : List Int), false)) (fun k => by simp only [F2.j0, if_true]) (Ev.now _)
 unfold F2.f shapeG lenG
 by_cases c1 : 1 ≤ code.length ∧ code.length ≤ 13000
 ·rw [decide_eq_true c1, Bool.true_and]
  simp only [if_neg (show ¬ (code.length : Int) < 1 by omega), if_neg (show ¬ (code.length : Int) > 13000 by omega)]
  have all := impl_all_ev viG code (by omega) (fun i _ => impl_ins i.f0 i.f1 i.f2)
  cases ha : code.all viG with
  | false =>
   rw [ha] at all
   have hf : Ev (fun k => (F8.f k code).bind fun t337 => (if t337 = true then ((F9.f k code ents).bind fun t338 => (F2.j0 k (!t338) code ents)) else (F2.j0 k true code ents))) (([] : List Int), false) := Ev.bind all (Ev.congr (fun k => by rw [if_neg (by simp)]) j0t)
   refine ⟨fun _ => hf, fun h => ?_⟩
   rw [Bool.and_eq_true, Bool.and_eq_true] at h
   obtain ⟨_, h3, h4⟩ := h
   have hI := entG_incr isnG _ ents ents 0 0 h3
   exfalso
   have : code.all viG = true := by
    rw [List.all_eq_true]
    intro i hi
    obtain ⟨a, ha2, hx⟩ := List.getElem_of_mem hi
    have hrd : rd_T80 code (a : Int) = i := by simp [rd_T80, List.getD_eq_getElem?_getD, List.getElem?_eq_getElem ha2, hx]
    obtain ⟨lo, hi2, g0, g1, g2, g3, g4⟩ := regs_at viG code (code.length : Int) ents 0 (Int.le_refl _) (by omega) hI h4 a (by omega) (by omega)
    rw [hrd] at g4
    unfold goodAt at g4
    rw [Bool.and_eq_true] at g4
    exact g4.1
   rw [this] at ha
   cases ha
  | true =>
   rw [ha] at all
   have hv : ∀ a : Nat, (a : Int) < (code.length : Int) → viG (rd_T80 code (a : Int)) = true := by
    intro a hlt
    have hlt2 : a < code.length := by omega
    have hrd : rd_T80 code (a : Int) = code[a] := by simp [rd_T80, List.getD_eq_getElem?_getD, List.getElem?_eq_getElem hlt2]
    rw [hrd]
    exact List.all_eq_true.1 ha _ (List.getElem_mem hlt2)
   have en : Ev (fun k => F9.f k code ents) (entG isnG (code.length : Int) ents 0 0 ents && decide (ents.length ≤ 40)) := by
    unfold F9.f
    refine Ev.bind (impl_g_ev isnG (code.length : Int) ents ents 0 0 (fun e _ => impl_isName e.f0) (Int.le_refl _)) ?_
    rw [show decide ((ents.length : Int) ≤ 40) = decide (ents.length ≤ 40) from decide_eq_decide.2 (by omega)]
    exact Ev.now _
   have st : ∀ r, Ev (fun k => F2.j0 k (!(entG isnG (code.length : Int) ents 0 0 ents && decide (ents.length ≤ 40))) code ents) r → Ev (fun k => (F8.f k code).bind fun t337 => (if t337 = true then ((F9.f k code ents).bind fun t338 => (F2.j0 k (!t338) code ents)) else (F2.j0 k true code ents))) r := fun r he => Ev.bind all (Ev.congr (fun k => by rw [if_pos rfl]) (Ev.bind en he))
   by_cases c2 : ents.length ≤ 40
   ·rw [decide_eq_true c2, Bool.and_true] at st
    rw [decide_eq_true c2, Bool.true_and]
    cases he : entG isnG (code.length : Int) ents 0 0 ents with
    | false =>
     rw [he] at st
     exact ⟨fun _ => st _ j0t, fun h => by simp at h⟩
    | true =>
     rw [he] at st
     rw [Bool.true_and]
     have rg := impl_regs_ev viG (code.length : Int) code ents hv rfl (by omega) (by omega) (by omega) (entG_incr isnG _ ents ents 0 0 he) _ _ rfl rfl ents [] rfl
     have s2 : ∀ r, Ev (fun k => F2.l0 k ((0 :: ents.map (·.f1)) ++ [(code.length : Int)]) (ents.map (·.f1) ++ [(code.length : Int)]) ((ents.map (·.f1) ++ [(code.length : Int)]).length : Int) 0 code ents) r → Ev (fun k => F2.j0 k false code ents) r := fun r hr =>
      Ev.step (f := fun k => (F6.f k code ents).bind fun t339 => (if 1 ≤ (t339.length : Int) then ((some (t339.drop 1 : List Int)).bind fun y342 => (F2.l0 k t339 y342 (y342.length : Int) 0 code ents)) else (none))) (fun k => by
       simp only [F2.j0]
       rw [if_neg (by simp)]) (Ev.bind (impl_regions_ev code.length (by omega) code rfl ents (by omega)) (Ev.congr (fun k => by
        rw [if_pos (by simp; omega), Option.bind_some]
        rfl) hr))
     exact ⟨fun h => st _ (s2 _ (rg.1 h)), fun h r hr => st _ (s2 _ (rg.2 h r hr))⟩
   ·rw [decide_eq_false c2, Bool.and_false] at st
    rw [decide_eq_false c2, Bool.false_and]
    exact ⟨fun _ => st _ j0t, fun h => by simp at h⟩
 ·rw [decide_eq_false c1, Bool.false_and]
  refine ⟨fun _ => ?_, fun h => by simp at h⟩
  by_cases c2 : (code.length : Int) < 1
  ·exact Ev.congr (fun k => by rw [if_pos c2]) j0t
  ·exact Ev.congr (fun k => by rw [if_neg c2, if_pos (show (code.length : Int) > 13000 by omega)]) j0t
theorem strOfNums_one (c : Int) : (strOfNums [c]).size = 1 := by
 unfold strOfNums
 rfl
theorem markText_loop (d : Nat) : ∀ (n : Int) (t : ByteArray), n < 10 ^ d → n ≤ 9223372036854775807 → t.size + d ≤ 1000 → ∃ r, Ev (fun k => F23.l0 k n t) r := by
 induction d with
 | zero =>
  intro n t hn _ ht
  refine ⟨_, Ev.step (f := fun _ => some ((⟨#[109]⟩ : ByteArray) ++ t)) (fun k => ?_) (Ev.now _)⟩
  simp only [F23.l0]
  rw [if_neg (by omega), if_pos (by omega)]
 | succ d ih =>
  intro n t hn hm ht
  by_cases h : n > 0
  ·have hw : wrap64 (Int.tdiv n 10) = n / 10 := by
    rw [Int.tdiv_eq_ediv_of_nonneg (by omega)]
    unfold wrap64
    omega
   have hp : (10 : Int) ^ (d + 1) = 10 ^ d * 10 := by rw [Int.pow_succ]
   have h2 : n / 10 < 10 ^ d := by
    rw [hp] at hn
    exact Int.ediv_lt_of_lt_mul (by omega) hn
   obtain ⟨r, hr⟩ := ih (n / 10) (strOfNums [(wrap64 (48 + Int.tmod n 10)) % 256] ++ t) h2 (by omega) (by rw [ByteArray.size_append, strOfNums_one]; omega)
   refine ⟨r, Ev.step (f := fun k => F23.l0 k (n / 10) (strOfNums [(wrap64 (48 + Int.tmod n 10)) % 256] ++ t)) (fun k => ?_) hr⟩
   simp only [F23.l0]
   rw [if_pos h, hw, Option.bind_some, if_pos (by rw [strOfNums_one]; omega)]
  ·refine ⟨_, Ev.step (f := fun _ => some ((⟨#[109]⟩ : ByteArray) ++ t)) (fun k => ?_) (Ev.now _)⟩
   simp only [F23.l0]
   rw [if_neg h, if_pos (by omega)]
theorem markText_ev (n : Int) (hn : n ≤ 9223372036854775807) : ∃ r, Ev (fun k => F23.f k n) r := by
 by_cases h : n ≤ 0
 ·refine ⟨(⟨#[109, 48]⟩ : ByteArray), Ev.congr (f := fun _ => some (⟨#[109, 48]⟩ : ByteArray)) (fun k => ?_) (Ev.now _)⟩
  unfold F23.f
  rw [if_pos h]
 ·have hp : (10 : Int) ^ 19 = 10000000000000000000 := by decide
  obtain ⟨r, hr⟩ := markText_loop 19 n (⟨#[]⟩ : ByteArray) (by omega) hn (by show 0 + 19 ≤ 1000; omega)
  refine ⟨r, Ev.congr (fun k => ?_) hr⟩
  unfold F23.f
  rw [if_neg h]
def mi1 (l : List S80) (i : Nat) (m : Int) : List S80 := l.set i (⟨m, (rd_T80 l (i : Int)).f1, (rd_T80 l (i : Int)).f2⟩ : S80)
def mi2 (l : List S80) (i : Nat) (m : Int) : List S80 := (mi1 l i m).set i (⟨(rd_T80 (mi1 l i m) (i : Int)).f0, m + 1, (rd_T80 (mi1 l i m) (i : Int)).f2⟩ : S80)
def mi3 (l : List S80) (i : Nat) (m : Int) (t : ByteArray) : List S80 := (mi2 l i m).set i (⟨(rd_T80 (mi2 l i m) (i : Int)).f0, (rd_T80 (mi2 l i m) (i : Int)).f1, t⟩ : S80)
theorem mi3_len (l : List S80) (i : Nat) (m : Int) (t : ByteArray) : (mi3 l i m t).length = l.length := by simp only [mi3, mi2, mi1, List.length_set]
theorem markIns_loop (d : Nat) : ∀ (l : List S80) (i : Nat) (m : Int), i + d = l.length → l.length ≤ 2000000 → 0 ≤ m → m + 3 * d ≤ 100000000 → ∃ q r, 0 ≤ q ∧ q ≤ m + 3 * d ∧ Ev (fun k => F19.l0 k l m (i : Int)) (q, r) := by
 induction d with
 | zero =>
  intro l i m hi hl h0 h1
  refine ⟨m, l, h0, by omega, Ev.step (f := fun _ => some (m, l)) (fun k => ?_) (Ev.now _)⟩
  simp only [F19.l0]
  rw [if_neg (by omega)]
 | succ d ih =>
  intro l i m hi hl h0 h1
  have w0 : wrap64 ((i : Int) + 1) = ((i + 1 : Nat) : Int) := by unfold wrap64; omega
  have w1 : wrap64 (m + 1) = m + 1 := by unfold wrap64; omega
  have w2 : wrap64 (m + 1 + 1) = m + 1 + 1 := by unfold wrap64; omega
  have w3 : wrap64 (m + 1 + 1 + 1) = m + 3 := by unfold wrap64; omega
  have q1 : (i : Int) < (l.length : Int) := by omega
  obtain ⟨t, ht⟩ := markText_ev (m + 1 + 1) (by omega)
  obtain ⟨q, r, g0, g1, hr⟩ := ih (mi3 l i m t) (i + 1) (m + 3) (by rw [mi3_len]; omega) (by rw [mi3_len]; omega) (by omega) (by omega)
  refine ⟨q, r, g0, by omega, Ev.step (fun k => ?_) (Ev.bind (f := fun k t => F19.l0 k (mi3 l i m t) (m + 3) ((i + 1 : Nat) : Int)) ht hr)⟩
  simp only [F19.l0, w0, w1, w2, w3, Option.bind_some, Int.toNat_natCast]
  rw [if_pos q1, if_pos (Int.natCast_nonneg _)]
  rfl
def me1 (l : List S77) (i : Nat) (t : ByteArray) : List S77 := l.set i (⟨t, (rd_T77 l (i : Int)).f1⟩ : S77)
def me2 (l : List S77) (i : Nat) (m : Int) (t : ByteArray) : List S77 := (me1 l i t).set i (⟨(rd_T77 (me1 l i t) (i : Int)).f0, m⟩ : S77)
theorem me2_len (l : List S77) (i : Nat) (m : Int) (t : ByteArray) : (me2 l i m t).length = l.length := by simp only [me2, me1, List.length_set]
theorem markEntry_loop (d : Nat) : ∀ (l : List S77) (i : Nat) (m : Int), i + d = l.length → l.length ≤ 2000000 → 0 ≤ m → m + 2 * d ≤ 100000000 → ∃ q r, 0 ≤ q ∧ Ev (fun k => F16.l0 k l m (i : Int)) (q, r) := by
 induction d with
 | zero =>
  intro l i m hi hl h0 h1
  refine ⟨m, l, h0, Ev.step (f := fun _ => some (m, l)) (fun k => ?_) (Ev.now _)⟩
  simp only [F16.l0]
  rw [if_neg (by omega)]
 | succ d ih =>
  intro l i m hi hl h0 h1
  have w0 : wrap64 ((i : Int) + 1) = ((i + 1 : Nat) : Int) := by unfold wrap64; omega
  have w1 : wrap64 (m + 1) = m + 1 := by unfold wrap64; omega
  have w2 : wrap64 (m + 1 + 1) = m + 2 := by unfold wrap64; omega
  have q1 : (i : Int) < (l.length : Int) := by omega
  obtain ⟨t, ht⟩ := markText_ev m (by omega)
  obtain ⟨q, r, g0, hr⟩ := ih (me2 l i (m + 1) t) (i + 1) (m + 2) (by rw [me2_len]; omega) (by rw [me2_len]; omega) (by omega) (by omega)
  refine ⟨q, r, g0, Ev.step (fun k => ?_) (Ev.bind (f := fun k t => F16.l0 k (me2 l i (m + 1) t) (m + 2) ((i + 1 : Nat) : Int)) ht hr)⟩
  simp only [F16.l0, w0, w1, w2, Option.bind_some, Int.toNat_natCast]
  rw [if_pos q1]
  congr 1
theorem markCode_ev (a : List S80) (b : List S77) (ha : a.length ≤ 1048576) (hb : b.length ≤ 1048576) : ∃ q r, 0 ≤ q ∧ Ev (fun k => laws_markPatternCode.f k a b 1) (q, r) := by
 unfold laws_markPatternCode.f
 obtain ⟨q1, r1, g0, g1, e1⟩ := markIns_loop a.length a 0 1 (by omega) (by omega) (by omega) (by omega)
 obtain ⟨q2, r2, g2, e2⟩ := markEntry_loop b.length b 0 q1 (by omega) (by omega) g0 (by omega)
 exact ⟨q2, (r1, r2), g2, Ev.bind e1 (Ev.bind e2 (Ev.now _))⟩
inductive G72 : S72 → Prop where
 | mk (x : S72) (h0 : (Lit.int .i64 x.f0).wf = true) (h1 : (Lit.int .i64 x.f1).wf = true) (h2 : x.f2.size ≤ 9223372036854775807) : G72 x
inductive G75 : S75 → Prop where
 | mk (x : S75) (h0 : x.f0.size ≤ 9223372036854775807) (h1 : (Lit.int .i64 x.f1).wf = true) : G75 x
inductive G25 : S25 → Prop where
 | mk (x : S25) (h0 : x.f0.length ≤ 9223372036854775807) (h0k : ∀ y_, y_ ∈ x.f0 → G72 y_) (h1 : x.f1.length ≤ 9223372036854775807) (h1k : ∀ y_, y_ ∈ x.f1 → G75 y_) : G25 x
theorem ev_ex {α β : Type} {E : Nat → Option α} {R : Nat → α → Option β} {Q : β → Prop} {a : α} (h : Ev E a) (h2 : ∃ r, Ev (fun k => R k a) r ∧ Q r) : ∃ r, Ev (fun k => (E k).bind (R k)) r ∧ Q r := by
 obtain ⟨r, h3, h4⟩ := h2
 exact ⟨r, Ev.bind h h3, h4⟩
theorem drop_at {α : Type} (l : List α) (i : Nat) (x : α) (s : List α) (h : l.drop i = x :: s) : i < l.length ∧ l[i]? = some x ∧ l.drop (i + 1) = s := by
 have h1 : i < l.length := by
  rcases Nat.lt_or_ge i l.length with h2 | h2
  ·exact h2
  ·rw [List.drop_eq_nil_of_le h2] at h
   cases h
 rw [List.drop_eq_getElem_cons h1] at h
 injection h with h2 h3
 exact ⟨h1, by rw [List.getElem?_eq_getElem h1, h2], h3⟩
theorem drop_end {α : Type} (l : List α) (i : Nat) (h : l.drop i = []) (hi : i ≤ l.length) : i = l.length := by
 have := congrArg List.length h
 simp at this
 omega
theorem wrapl (i n : Nat) (h : i < n) (hn : n ≤ 9223372036854775807) : wrap64 ((i : Int) + 1) = ((i + 1 : Nat) : Int) := by unfold wrap64; omega
def convPatternIns (x : S72) : S80 := ⟨x.f0, x.f1, x.f2⟩
theorem szPatternIns_ev (x : S72) (g : G72 x) (left : Int) (hl0 : 0 ≤ left) (hl1 : left ≤ 1048576) : ∃ r, Ev (fun _ => laws_szPatternIns.f x.f0 x.f1 x.f2 left) r ∧ (r < 0 ∨ (0 ≤ r ∧ r ≤ left)) := by
 obtain ⟨h0, h1, h2⟩ := g
 unfold laws_szPatternIns.f
 have w0 : wrap64 (left - (x.f2.size : Int)) = left - (x.f2.size : Int) := by unfold wrap64; omega
 simp only [w0]
 by_cases c0 : left - (x.f2.size : Int) < 0
 ·simp only [if_pos c0]
  exact ⟨-1, Ev.now _, Or.inl (by omega)⟩
 simp only [if_neg c0]
 exact ⟨_, Ev.now _, Or.inr ⟨by omega, by omega⟩⟩
theorem toPatternIns_ev (x : S72) : Ev (fun _ => laws_toPatternIns.f x.f0 x.f1 x.f2) ((convPatternIns x).f0, (convPatternIns x).f1, (convPatternIns x).f2) := by
 unfold laws_toPatternIns.f
 exact Ev.now _
theorem eqPatternIns_ev (x : S80) : Ev (fun _ => laws_eqPatternIns.f x.f0 x.f1 x.f2 x.f0 x.f1 x.f2) true := by
 unfold laws_eqPatternIns.f
 try simp only [if_true]
 exact Ev.now _
theorem rdaPatternIns (l : List S72) (i : Nat) (x : S72) (h : l[i]? = some x) : rd_T72 l (i : Int) = x := by
 unfold rd_T72
 rw [List.getD_eq_getElem?_getD, Int.toNat_natCast, h]
 rfl
theorem rdbPatternIns (l : List S80) (i : Nat) (x : S80) (h : l[i]? = some x) : rd_T80 l (i : Int) = x := by
 unfold rd_T80
 rw [List.getD_eq_getElem?_getD, Int.toNat_natCast, h]
 rfl
theorem szPatternInsS_loop (l : List S72) (hl : l.length ≤ 9223372036854775807) (s : List S72) : ∀ (i : Nat) (left : Int), i ≤ l.length → l.drop i = s → (∀ y, y ∈ s → G72 y) → 0 ≤ left → left ≤ 1048576 →
  ∃ r, Ev (fun k => F18.l0 k l left (i : Int)) r ∧ (r < 0 ∨ (0 ≤ r ∧ r ≤ left)) := by
 induction s with
 | nil =>
  intro i left hi hd _ h0 h1
  have := drop_end l i hd hi
  refine ⟨left, Ev.step (f := fun _ => some left) (fun k => ?_) (Ev.now _), Or.inr ⟨h0, by omega⟩⟩
  simp only [F18.l0]
  rw [if_neg (by omega)]
 | cons y s ih =>
  intro i left hi hd hy h0 h1
  obtain ⟨hlt, hx, hd'⟩ := drop_at l i y s hd
  have hrd := rdaPatternIns l i y hx
  obtain ⟨r1, e1, c1 | ⟨p1, q1⟩⟩ := szPatternIns_ev y (hy y List.mem_cons_self) left h0 h1
  ·refine ⟨-1, Ev.step (f := fun k => (laws_szPatternIns.f y.f0 y.f1 y.f2 left).bind fun t => if t < 0 then some (-1) else F18.l0 k l t ((i + 1 : Nat) : Int)) (fun k => ?_) (Ev.bind e1 (Ev.congr (f := fun _ => some (-1)) (fun k => by rw [if_pos c1]) (Ev.now _))), Or.inl (by omega)⟩
   simp only [F18.l0]
   rw [if_pos (by omega), if_pos (by omega), hrd, wrapl i l.length hlt hl]
  ·obtain ⟨r, er, q⟩ := ih (i + 1) r1 (by omega) hd' (fun z hz => hy z (List.mem_cons_of_mem _ hz)) (by omega) (by omega)
   refine ⟨r, Ev.step (f := fun k => (laws_szPatternIns.f y.f0 y.f1 y.f2 left).bind fun t => if t < 0 then some (-1) else F18.l0 k l t ((i + 1 : Nat) : Int)) (fun k => ?_) (Ev.bind e1 (Ev.congr (fun k => by rw [if_neg (by omega)]) er)), ?_⟩
   ·simp only [F18.l0]
    rw [if_pos (by omega), if_pos (by omega), hrd, wrapl i l.length hlt hl]
   ·rcases q with q | q
    ·exact Or.inl q
    ·exact Or.inr ⟨q.1, by omega⟩
theorem szPatternInsS_ev (l : List S72) (g : l.length ≤ 9223372036854775807) (gk : ∀ y_, y_ ∈ l → G72 y_) (left : Int) (hl0 : 0 ≤ left) (hl1 : left ≤ 1048576) : ∃ r, Ev (fun k => F18.f k l left) r ∧ (r < 0 ∨ (0 ≤ r ∧ r ≤ left ∧ l.length ≤ 1048576)) := by
 have w : wrap64 (left - (l.length : Int)) = left - (l.length : Int) := by unfold wrap64; omega
 by_cases c : left - (l.length : Int) < 0
 ·refine ⟨-1, Ev.congr (f := fun _ => some (-1)) (fun k => ?_) (Ev.now _), Or.inl (by omega)⟩
  unfold F18.f
  rw [w, if_pos c]
 ·obtain ⟨r, er, q⟩ := szPatternInsS_loop l g l 0 (left - (l.length : Int)) (by omega) rfl gk (by omega) (by omega)
  refine ⟨r, Ev.congr (fun k => ?_) er, ?_⟩
  ·unfold F18.f
   rw [w, if_neg c]
   first | done | rfl
  ·rcases q with q | q
   ·exact Or.inl q
   ·exact Or.inr ⟨q.1, by omega, by omega⟩
theorem toPatternInsS_loop (l : List S72) (hl : l.length ≤ 1048576) (s : List S72) : ∀ (i : Nat) (out : List S80), i ≤ l.length → l.drop i = s → out.length = l.length → out.take i = (l.map convPatternIns).take i →
  (∀ y, y ∈ s → Ev (fun _ => laws_toPatternIns.f y.f0 y.f1 y.f2) ((convPatternIns y).f0, (convPatternIns y).f1, (convPatternIns y).f2)) → Ev (fun k => F20.l0 k l out (i : Int)) (l.map convPatternIns) := by
 induction s with
 | nil =>
  intro i out hi hd ho ht _
  have hi2 := drop_end l i hd hi
  have e : out = l.map convPatternIns := by
   rw [List.take_of_length_le (by omega), List.take_of_length_le (by rw [List.length_map]; omega)] at ht
   exact ht
  refine Ev.step (f := fun _ => some out) (fun k => ?_) (e ▸ Ev.now out)
  simp only [F20.l0]
  rw [if_neg (by omega)]
 | cons y s ih =>
  intro i out hi hd ho ht hy
  obtain ⟨hlt, hx, hd'⟩ := drop_at l i y s hd
  have hrd := rdaPatternIns l i y hx
  have ey := hy y List.mem_cons_self
  have hly : (l.map convPatternIns)[i]? = some (convPatternIns y) := by rw [List.getElem?_map, hx]; rfl
  have r := ih (i + 1) (out.set i (convPatternIns y)) (by omega) hd' (by rw [List.length_set]; exact ho) (by
   rw [List.take_add_one, List.take_add_one, hly, List.take_set_of_le (Nat.le_refl _), ht, List.getElem?_set_self (by omega)]) (fun z hz => hy z (List.mem_cons_of_mem _ hz))
  have r2 : Ev (fun k => (laws_toPatternIns.f y.f0 y.f1 y.f2).bind fun b => if (i : Int) < (out.length : Int) then F20.l0 k l (out.set ((i : Int) : Int).toNat (⟨b.1, b.2.1, b.2.2⟩ : S80)) ((i + 1 : Nat) : Int) else none) (l.map convPatternIns) := by
   refine Ev.bind ey ?_
   refine Ev.congr (f := fun k => F20.l0 k l (out.set i (convPatternIns y)) ((i + 1 : Nat) : Int)) (fun k => ?_) r
   rw [if_pos (by omega), Int.toNat_natCast]
   first | done | rfl
  refine Ev.step (fun k => ?_) r2
  simp only [F20.l0]
  rw [if_pos (by omega), if_pos (by omega), hrd, wrapl i l.length hlt (by omega)]
  first | done | rfl
theorem toPatternInsS_ev (l : List S72) (g : l.length ≤ 1048576) : Ev (fun k => F20.f k l) (l.map convPatternIns) := by
 refine Ev.congr (f := fun k => F20.l0 k l (List.replicate l.length z80) ((0 : Nat) : Int)) (fun k => ?_) ?_
 ·unfold F20.f
  rw [if_pos (by omega), if_pos (by omega), Int.toNat_natCast]
  first | done | rfl
 ·exact toPatternInsS_loop l (by omega) l 0 _ (by omega) rfl (by simp) (by simp) (fun y hy => toPatternIns_ev y)
theorem eqPatternInsS_loop (l : List S80) (hl : l.length ≤ 9223372036854775807) (s : List S80) : ∀ (i : Nat), i ≤ l.length → l.drop i = s →
  (∀ y, y ∈ s → Ev (fun _ => laws_eqPatternIns.f y.f0 y.f1 y.f2 y.f0 y.f1 y.f2) true) → Ev (fun k => F13.l0 k l l (i : Int)) true := by
 induction s with
 | nil =>
  intro i hi hd _
  have hi2 := drop_end l i hd hi
  refine Ev.step (f := fun _ => some true) (fun k => ?_) (Ev.now true)
  simp only [F13.l0]
  rw [if_neg (by omega)]
 | cons y s ih =>
  intro i hi hd hy
  obtain ⟨hlt, hx, hd'⟩ := drop_at l i y s hd
  have hrd := rdbPatternIns l i y hx
  refine Ev.step (f := fun k => (laws_eqPatternIns.f y.f0 y.f1 y.f2 y.f0 y.f1 y.f2).bind fun t => if t = true then F13.l0 k l l ((i + 1 : Nat) : Int) else some false) (fun k => ?_) ?_
  ·simp only [F13.l0]
   rw [if_pos (by omega), if_pos (by omega), if_pos (by omega), hrd, wrapl i l.length hlt hl]
  ·refine Ev.bind (hy y List.mem_cons_self) ?_
   refine Ev.congr (f := fun k => F13.l0 k l l ((i + 1 : Nat) : Int)) (fun k => by rw [if_pos rfl]) ?_
   exact ih (i + 1) (by omega) hd' (fun z hz => hy z (List.mem_cons_of_mem _ hz))
theorem eqPatternInsS_ev (l : List S80) (g : l.length ≤ 9223372036854775807) : Ev (fun k => F13.f k l l) true := by
 refine Ev.congr (f := fun k => F13.l0 k l l ((0 : Nat) : Int)) (fun k => ?_) ?_
 ·unfold F13.f
  rw [if_pos rfl]
  first | done | rfl
 ·exact eqPatternInsS_loop l g l 0 (by omega) rfl (fun y hy => eqPatternIns_ev y)
theorem finePatternInsS_conv (l : List S72) (g : l.length ≤ 1048576) : (l.map convPatternIns).length ≤ 9223372036854775807 := by
 rw [List.length_map]
 omega
def convPatternEntry (x : S75) : S77 := ⟨x.f0, x.f1⟩
theorem szPatternEntry_ev (x : S75) (g : G75 x) (left : Int) (hl0 : 0 ≤ left) (hl1 : left ≤ 1048576) : ∃ r, Ev (fun _ => laws_szPatternEntry.f x.f0 x.f1 left) r ∧ (r < 0 ∨ (0 ≤ r ∧ r ≤ left)) := by
 obtain ⟨h0, h1⟩ := g
 unfold laws_szPatternEntry.f
 have w0 : wrap64 (left - (x.f0.size : Int)) = left - (x.f0.size : Int) := by unfold wrap64; omega
 simp only [w0]
 by_cases c0 : left - (x.f0.size : Int) < 0
 ·simp only [if_pos c0]
  exact ⟨-1, Ev.now _, Or.inl (by omega)⟩
 simp only [if_neg c0]
 exact ⟨_, Ev.now _, Or.inr ⟨by omega, by omega⟩⟩
theorem toPatternEntry_ev (x : S75) : Ev (fun _ => laws_toPatternEntry.f x.f0 x.f1) ((convPatternEntry x).f0, (convPatternEntry x).f1) := by
 unfold laws_toPatternEntry.f
 exact Ev.now _
theorem eqPatternEntry_ev (x : S77) : Ev (fun _ => laws_eqPatternEntry.f x.f0 x.f1 x.f0 x.f1) true := by
 unfold laws_eqPatternEntry.f
 try simp only [if_true]
 exact Ev.now _
theorem rdaPatternEntry (l : List S75) (i : Nat) (x : S75) (h : l[i]? = some x) : rd_T75 l (i : Int) = x := by
 unfold rd_T75
 rw [List.getD_eq_getElem?_getD, Int.toNat_natCast, h]
 rfl
theorem rdbPatternEntry (l : List S77) (i : Nat) (x : S77) (h : l[i]? = some x) : rd_T77 l (i : Int) = x := by
 unfold rd_T77
 rw [List.getD_eq_getElem?_getD, Int.toNat_natCast, h]
 rfl
theorem szPatternEntryS_loop (l : List S75) (hl : l.length ≤ 9223372036854775807) (s : List S75) : ∀ (i : Nat) (left : Int), i ≤ l.length → l.drop i = s → (∀ y, y ∈ s → G75 y) → 0 ≤ left → left ≤ 1048576 →
  ∃ r, Ev (fun k => F14.l0 k l left (i : Int)) r ∧ (r < 0 ∨ (0 ≤ r ∧ r ≤ left)) := by
 induction s with
 | nil =>
  intro i left hi hd _ h0 h1
  have := drop_end l i hd hi
  refine ⟨left, Ev.step (f := fun _ => some left) (fun k => ?_) (Ev.now _), Or.inr ⟨h0, by omega⟩⟩
  simp only [F14.l0]
  rw [if_neg (by omega)]
 | cons y s ih =>
  intro i left hi hd hy h0 h1
  obtain ⟨hlt, hx, hd'⟩ := drop_at l i y s hd
  have hrd := rdaPatternEntry l i y hx
  obtain ⟨r1, e1, c1 | ⟨p1, q1⟩⟩ := szPatternEntry_ev y (hy y List.mem_cons_self) left h0 h1
  ·refine ⟨-1, Ev.step (f := fun k => (laws_szPatternEntry.f y.f0 y.f1 left).bind fun t => if t < 0 then some (-1) else F14.l0 k l t ((i + 1 : Nat) : Int)) (fun k => ?_) (Ev.bind e1 (Ev.congr (f := fun _ => some (-1)) (fun k => by rw [if_pos c1]) (Ev.now _))), Or.inl (by omega)⟩
   simp only [F14.l0]
   rw [if_pos (by omega), if_pos (by omega), hrd, wrapl i l.length hlt hl]
  ·obtain ⟨r, er, q⟩ := ih (i + 1) r1 (by omega) hd' (fun z hz => hy z (List.mem_cons_of_mem _ hz)) (by omega) (by omega)
   refine ⟨r, Ev.step (f := fun k => (laws_szPatternEntry.f y.f0 y.f1 left).bind fun t => if t < 0 then some (-1) else F14.l0 k l t ((i + 1 : Nat) : Int)) (fun k => ?_) (Ev.bind e1 (Ev.congr (fun k => by rw [if_neg (by omega)]) er)), ?_⟩
   ·simp only [F14.l0]
    rw [if_pos (by omega), if_pos (by omega), hrd, wrapl i l.length hlt hl]
   ·rcases q with q | q
    ·exact Or.inl q
    ·exact Or.inr ⟨q.1, by omega⟩
theorem szPatternEntryS_ev (l : List S75) (g : l.length ≤ 9223372036854775807) (gk : ∀ y_, y_ ∈ l → G75 y_) (left : Int) (hl0 : 0 ≤ left) (hl1 : left ≤ 1048576) : ∃ r, Ev (fun k => F14.f k l left) r ∧ (r < 0 ∨ (0 ≤ r ∧ r ≤ left ∧ l.length ≤ 1048576)) := by
 have w : wrap64 (left - (l.length : Int)) = left - (l.length : Int) := by unfold wrap64; omega
 by_cases c : left - (l.length : Int) < 0
 ·refine ⟨-1, Ev.congr (f := fun _ => some (-1)) (fun k => ?_) (Ev.now _), Or.inl (by omega)⟩
  unfold F14.f
  rw [w, if_pos c]
 ·obtain ⟨r, er, q⟩ := szPatternEntryS_loop l g l 0 (left - (l.length : Int)) (by omega) rfl gk (by omega) (by omega)
  refine ⟨r, Ev.congr (fun k => ?_) er, ?_⟩
  ·unfold F14.f
   rw [w, if_neg c]
   first | done | rfl
  ·rcases q with q | q
   ·exact Or.inl q
   ·exact Or.inr ⟨q.1, by omega, by omega⟩
theorem toPatternEntryS_loop (l : List S75) (hl : l.length ≤ 1048576) (s : List S75) : ∀ (i : Nat) (out : List S77), i ≤ l.length → l.drop i = s → out.length = l.length → out.take i = (l.map convPatternEntry).take i →
  (∀ y, y ∈ s → Ev (fun _ => laws_toPatternEntry.f y.f0 y.f1) ((convPatternEntry y).f0, (convPatternEntry y).f1)) → Ev (fun k => F15.l0 k l out (i : Int)) (l.map convPatternEntry) := by
 induction s with
 | nil =>
  intro i out hi hd ho ht _
  have hi2 := drop_end l i hd hi
  have e : out = l.map convPatternEntry := by
   rw [List.take_of_length_le (by omega), List.take_of_length_le (by rw [List.length_map]; omega)] at ht
   exact ht
  refine Ev.step (f := fun _ => some out) (fun k => ?_) (e ▸ Ev.now out)
  simp only [F15.l0]
  rw [if_neg (by omega)]
 | cons y s ih =>
  intro i out hi hd ho ht hy
  obtain ⟨hlt, hx, hd'⟩ := drop_at l i y s hd
  have hrd := rdaPatternEntry l i y hx
  have ey := hy y List.mem_cons_self
  have hly : (l.map convPatternEntry)[i]? = some (convPatternEntry y) := by rw [List.getElem?_map, hx]; rfl
  have r := ih (i + 1) (out.set i (convPatternEntry y)) (by omega) hd' (by rw [List.length_set]; exact ho) (by
   rw [List.take_add_one, List.take_add_one, hly, List.take_set_of_le (Nat.le_refl _), ht, List.getElem?_set_self (by omega)]) (fun z hz => hy z (List.mem_cons_of_mem _ hz))
  have r2 : Ev (fun k => (laws_toPatternEntry.f y.f0 y.f1).bind fun b => if (i : Int) < (out.length : Int) then F15.l0 k l (out.set ((i : Int) : Int).toNat (⟨b.1, b.2⟩ : S77)) ((i + 1 : Nat) : Int) else none) (l.map convPatternEntry) := by
   refine Ev.bind ey ?_
   refine Ev.congr (f := fun k => F15.l0 k l (out.set i (convPatternEntry y)) ((i + 1 : Nat) : Int)) (fun k => ?_) r
   rw [if_pos (by omega), Int.toNat_natCast]
   first | done | rfl
  refine Ev.step (fun k => ?_) r2
  simp only [F15.l0]
  rw [if_pos (by omega), if_pos (by omega), hrd, wrapl i l.length hlt (by omega)]
  first | done | rfl
theorem toPatternEntryS_ev (l : List S75) (g : l.length ≤ 1048576) : Ev (fun k => F15.f k l) (l.map convPatternEntry) := by
 refine Ev.congr (f := fun k => F15.l0 k l (List.replicate l.length z77) ((0 : Nat) : Int)) (fun k => ?_) ?_
 ·unfold F15.f
  rw [if_pos (by omega), if_pos (by omega), Int.toNat_natCast]
  first | done | rfl
 ·exact toPatternEntryS_loop l (by omega) l 0 _ (by omega) rfl (by simp) (by simp) (fun y hy => toPatternEntry_ev y)
theorem eqPatternEntryS_loop (l : List S77) (hl : l.length ≤ 9223372036854775807) (s : List S77) : ∀ (i : Nat), i ≤ l.length → l.drop i = s →
  (∀ y, y ∈ s → Ev (fun _ => laws_eqPatternEntry.f y.f0 y.f1 y.f0 y.f1) true) → Ev (fun k => F11.l0 k l l (i : Int)) true := by
 induction s with
 | nil =>
  intro i hi hd _
  have hi2 := drop_end l i hd hi
  refine Ev.step (f := fun _ => some true) (fun k => ?_) (Ev.now true)
  simp only [F11.l0]
  rw [if_neg (by omega)]
 | cons y s ih =>
  intro i hi hd hy
  obtain ⟨hlt, hx, hd'⟩ := drop_at l i y s hd
  have hrd := rdbPatternEntry l i y hx
  refine Ev.step (f := fun k => (laws_eqPatternEntry.f y.f0 y.f1 y.f0 y.f1).bind fun t => if t = true then F11.l0 k l l ((i + 1 : Nat) : Int) else some false) (fun k => ?_) ?_
  ·simp only [F11.l0]
   rw [if_pos (by omega), if_pos (by omega), if_pos (by omega), hrd, wrapl i l.length hlt hl]
  ·refine Ev.bind (hy y List.mem_cons_self) ?_
   refine Ev.congr (f := fun k => F11.l0 k l l ((i + 1 : Nat) : Int)) (fun k => by rw [if_pos rfl]) ?_
   exact ih (i + 1) (by omega) hd' (fun z hz => hy z (List.mem_cons_of_mem _ hz))
theorem eqPatternEntryS_ev (l : List S77) (g : l.length ≤ 9223372036854775807) : Ev (fun k => F11.f k l l) true := by
 refine Ev.congr (f := fun k => F11.l0 k l l ((0 : Nat) : Int)) (fun k => ?_) ?_
 ·unfold F11.f
  rw [if_pos rfl]
  first | done | rfl
 ·exact eqPatternEntryS_loop l g l 0 (by omega) rfl (fun y hy => eqPatternEntry_ev y)
theorem finePatternEntryS_conv (l : List S75) (g : l.length ≤ 1048576) : (l.map convPatternEntry).length ≤ 9223372036854775807 := by
 rw [List.length_map]
 omega
def smallPatternCode (x : S25) : Prop := (x.f0.length ≤ 1048576) ∧ (x.f1.length ≤ 1048576)
theorem szPatternCode_ev (x : S25) (g : G25 x) (left : Int) (hl0 : 0 ≤ left) (hl1 : left ≤ 1048576) : ∃ r, Ev (fun k => laws_szPatternCode.f k x.f0 x.f1 left) r ∧ (r < 0 ∨ (0 ≤ r ∧ r ≤ left ∧ smallPatternCode x)) := by
 obtain ⟨h0, h0k, h1, h1k⟩ := g
 unfold laws_szPatternCode.f
 obtain ⟨r0, e0, c0 | ⟨p0, q0, s0⟩⟩ := szPatternInsS_ev x.f0 h0 h0k (left) (by omega) (by omega)
 ·refine ev_ex e0 ?_
  simp only [if_pos c0]
  exact ⟨-1, Ev.now _, Or.inl (by omega)⟩
 refine ev_ex e0 ?_
 simp only [if_neg (show ¬ r0 < 0 by omega)]
 obtain ⟨r1, e1, c1 | ⟨p1, q1, s1⟩⟩ := szPatternEntryS_ev x.f1 h1 h1k (r0) (by omega) (by omega)
 ·refine ev_ex e1 ?_
  simp only [if_pos c1]
  exact ⟨-1, Ev.now _, Or.inl (by omega)⟩
 refine ev_ex e1 ?_
 simp only [if_neg (show ¬ r1 < 0 by omega)]
 exact ⟨_, Ev.now _, Or.inr ⟨by omega, by omega, ⟨s0, s1⟩⟩⟩
theorem toPatternCode_ev (x : S25) (g : smallPatternCode x) : Ev (fun k => laws_toPatternCode.f k x.f0 x.f1) ((x.f0.map convPatternIns), (x.f1.map convPatternEntry)) := by
 unfold laws_toPatternCode.f
 refine Ev.bind (toPatternInsS_ev x.f0 (g.1)) ?_
 refine Ev.bind (toPatternEntryS_ev x.f1 (g.2)) ?_
 exact Ev.now _
theorem eqPatternCode_ev (x : S25) (g : smallPatternCode x) : Ev (fun k => laws_eqPatternCode.f k (x.f0.map convPatternIns) (x.f1.map convPatternEntry) (x.f0.map convPatternIns) (x.f1.map convPatternEntry)) true := by
 unfold laws_eqPatternCode.f
 try simp only [if_true]
 refine Ev.bind (eqPatternInsS_ev (x.f0.map convPatternIns) (finePatternInsS_conv x.f0 (g.1))) ?_
 try simp only [if_true]
 refine Ev.bind (eqPatternEntryS_ev (x.f1.map convPatternEntry) (finePatternEntryS_conv x.f1 (g.2))) ?_
 try simp only [if_true]
 exact Ev.now _
theorem vpc_same (code : List S80) (ents : List S77) : ∃ b : Bool, Ev (fun k => F34.f k code ents) b ∧ Ev (fun k => F35.f k code ents) b := by
 have sh := spec_shape_ev code ents
 have ch := impl_checked_ev code ents
 unfold F34.f F35.f
 cases h : shapeG code ents with
 | false =>
  rw [h] at sh
  exact ⟨false, Ev.bind sh (Ev.congr (f := fun _ => some false) (fun k => by rw [if_neg (by simp)]) (Ev.now _)), Ev.bind (ch.1 h) (Ev.now _)⟩
 | true =>
  rw [h] at sh
  obtain ⟨r, e1, e2, _⟩ := shape_marks code ents h
  exact ⟨(ansM r).2, Ev.bind sh (Ev.congr (fun k => by rw [if_pos rfl]) (Ev.bind e1 (Ev.now _))), Ev.bind (ch.2 h _ e2) (Ev.now _)⟩
end Go.Proofs.Ytbamjjaamjfnaaa.PFnExactNewMatcher
