/- By hand: what the law FnExactJoinPatterns reaches beyond the printed texts, and the law's own function. Conditions: none beyond each statement. -/
import Derived.Test.YtomakpfmghekfaaProg
import Derived.Below
import Derived.Deep.Draws
import Derived.Deep.AppendLies
import Derived.Maps.AppendAt
import Derived.OwnWalk
import Derived.Laws.BytesArg
import Derived.Laws.MakeOwn
import Derived.Laws.OwnMore
import Derived.Deep.OwnRows
import Derived.Tactics
import Derived.Lib.ConvBytes
import Derived.Laws.Slices
import Derived.WalkKit
import Derived.KernelRfl
import Derived.RowKit3
import Derived.Deep.LoopGhost
import Derived.Deep.QuietTactic
import Derived.BigQuiet
import Derived.WideLaws
import Derived.Deep.DeepCutAuto
import Derived.Deep.CutBlock
import Derived.Deep.RegionHeld3
import Derived.Laws.Rows
import Derived.Lib.AppendStr
import Derived.ArgAppend
import Derived.Laws.IdiomCopy
import Derived.OrdersHeld
import Derived.Laws.BitsLemmas
import Derived.RowKit
import Derived.Test.YtomakpfmghekfaaWWords
import Derived.Test.YtomakpfmghekfaaWLast
import Derived.Test.YtomakpfmghekfaaWTab
import Derived.Test.YtomakpfmghekfaaWFour
import Derived.Test.YtomakpfmghekfaaWQPut
import Derived.Test.YtomakpfmghekfaaWApart
import Derived.Test.YtomakpfmghekfaaWArr
import Derived.Test.YtomakpfmghekfaaWZeros
import Derived.Test.YtomakpfmghekfaaWFoot
import Derived.Test.YtomakpfmghekfaaWKept
import Derived.Test.YtomakpfmghekfaaWShare
import Derived.Test.YtomakpfmghekfaaWN
import Derived.Test.YtomakpfmghekfaaWFootNe
import Derived.Test.YtomakpfmghekfaaWAt
import Derived.Test.YtomakpfmghekfaaWEqStruct
import Derived.Test.YtomakpfmghekfaaWRepsOne
import Derived.Test.YtomakpfmghekfaaWInv
import Derived.Test.YtomakpfmghekfaaWInvWords
import Derived.Test.YtomakpfmghekfaaWGuard
import Derived.Test.YtomakpfmghekfaaWNEv
import Derived.Test.YtomakpfmghekfaaWMore
import Derived.Test.YtomakpfmghekfaaPFnExactJoinPatternsx0
import Derived.Test.YtomakpfmghekfaaPFnExactJoinPatternsx1
import Derived.Test.YtomakpfmghekfaaPFnExactJoinPatternsx2
import Derived.Test.YtomakpfmghekfaaPFnExactJoinPatternsx3
import Derived.Test.YtomakpfmghekfaaPFnExactJoinPatternsx4
import Derived.Test.YtomakpfmghekfaaPFnExactJoinPatternsx5
import Derived.Test.YtomakpfmghekfaaPFnExactJoinPatternsx6
import Derived.Test.YtomakpfmghekfaaDevJPa
import Derived.Test.YtomakpfmghekfaaRowLaw
namespace Go.Proofs.Ytomakpfmghekfaa.PFnExactJoinPatterns
open Go.RowKit Go.Proofs.YtomakpfmghekfaaW.PrintWords Go.Proofs.YtomakpfmghekfaaW.PrintLast Go.Proofs.YtomakpfmghekfaaW.PrintMore
attribute [local go_sem] max2_int min2_int max_two min_two max_three min_three max_four min_four
set_option linter.unusedVariables false
set_option linter.unusedSimpArgs false
inductive G24 : S24 → Prop where
  | mk (x : S24) (h0 : (Lit.int .i64 x.f0).wf = true) (h1 : (Lit.int .i64 x.f1).wf = true) (h2 : x.f2.size ≤ 9223372036854775807) (h3 : x.f3.length ≤ 9223372036854775807) (h3k : ∀ y_, y_ ∈ x.f3 → G24 y_) : G24 x
mutual
def convPattern : S24 → S30
  | ⟨a, b, c, d⟩ => ⟨a, b, c, convPatternS d⟩
def convPatternS : List S24 → List S30
  | [] => []
  | x :: xs => convPattern x :: convPatternS xs
end
mutual
def sizePattern : S24 → Nat
  | ⟨_, _, c, d⟩ => c.size + (d.length + sizePatternS d)
def sizePatternS : List S24 → Nat
  | [] => 0
  | x :: xs => sizePattern x + sizePatternS xs
end
theorem convPattern_f0 (x : S24) : (convPattern x).f0 = x.f0 := by cases x; simp [convPattern]
theorem convPattern_f1 (x : S24) : (convPattern x).f1 = x.f1 := by cases x; simp [convPattern]
theorem convPattern_f2 (x : S24) : (convPattern x).f2 = x.f2 := by cases x; simp [convPattern]
theorem convPattern_f3 (x : S24) : (convPattern x).f3 = convPatternS x.f3 := by cases x; simp [convPattern]
theorem sizePattern_eq (x : S24) : sizePattern x = x.f2.size + (x.f3.length + sizePatternS x.f3) := by cases x; simp [sizePattern]
theorem sizePatternS_nil : sizePatternS ([] : List S24) = 0 := by simp [sizePatternS]
theorem sizePatternS_cons (y : S24) (s : List S24) : sizePatternS (y :: s) = sizePattern y + sizePatternS s := by simp [sizePatternS]
theorem convPatternS_map (l : List S24) : convPatternS l = l.map convPattern := by
  induction l with
  | nil => rfl
  | cons x l ih => simp [convPatternS, ih]
theorem convPatternS_length (l : List S24) : (convPatternS l).length = l.length := by rw [convPatternS_map, List.length_map]
theorem rd24_at (l : List S24) (i : Nat) (x : S24) (s : List S24) (h : l.drop i = x :: s) : i < l.length ∧ rd_T24 l (i : Int) = x ∧ l.drop (i + 1) = s := by
  have h1 : i < l.length := by
    rcases Nat.lt_or_ge i l.length with h2 | h2
    · exact h2
    · rw [List.drop_eq_nil_of_le h2] at h
      cases h
  rw [List.drop_eq_getElem_cons h1] at h
  injection h with h2 h3
  refine ⟨h1, ?_, h3⟩
  unfold rd_T24
  rw [List.getD_eq_getElem?_getD, Int.toNat_natCast, List.getElem?_eq_getElem h1]
  exact h2
theorem rd30_at (l : List S30) (i : Nat) (x : S30) (s : List S30) (h : l.drop i = x :: s) : i < l.length ∧ rd_T30 l (i : Int) = x ∧ l.drop (i + 1) = s := by
  have h1 : i < l.length := by
    rcases Nat.lt_or_ge i l.length with h2 | h2
    · exact h2
    · rw [List.drop_eq_nil_of_le h2] at h
      cases h
  rw [List.drop_eq_getElem_cons h1] at h
  injection h with h2 h3
  refine ⟨h1, ?_, h3⟩
  unfold rd_T30
  rw [List.getD_eq_getElem?_getD, Int.toNat_natCast, List.getElem?_eq_getElem h1]
  exact h2
theorem drop24_end (l : List S24) (i : Nat) (h : l.drop i = []) (hi : i ≤ l.length) : i = l.length := by
  have := congrArg List.length h
  simp at this
  omega
theorem drop30_end (l : List S30) (i : Nat) (h : l.drop i = []) (hi : i ≤ l.length) : i = l.length := by
  have := congrArg List.length h
  simp at this
  omega
theorem eta30 (x : S30) : (⟨x.f0, x.f1, x.f2, x.f3⟩ : S30) = x := by cases x; rfl
theorem wrapiPattern (i n : Nat) (h : i < n) (hn : n ≤ 9223372036854775807) : wrap64 ((i : Int) + 1) = ((i + 1 : Nat) : Int) := by unfold wrap64; omega
theorem szPattern_loop (l : List S24) (hl : l.length ≤ 9223372036854775807) (s : List S24) : ∀ (i : Nat) (left : Int), i ≤ l.length → l.drop i = s →
    (∀ y, y ∈ s → ∀ left : Int, 0 ≤ left → left ≤ 1048576 → Ev (fun k => laws_szPattern.f k y.f0 y.f1 y.f2 y.f3 left) (if (sizePattern y : Int) ≤ left then left - sizePattern y else -1)) →
    0 ≤ left → left ≤ 1048576 → Ev (fun k => laws_szPatternS.l0 k l left (i : Int)) (if (sizePatternS s : Int) ≤ left then left - sizePatternS s else -1) := by
  induction s with
  | nil =>
    intro i left hi hd _ h0 h1
    have := drop24_end l i hd hi
    refine Ev.step (f := fun _ => some left) (fun k => ?_) ?_
    · simp only [laws_szPatternS.l0]
      rw [if_neg (by omega)]
    · rw [sizePatternS_nil, if_pos (by simpa using h0)]
      simpa using Ev.now left
  | cons y s ih =>
    intro i left hi hd hy h0 h1
    obtain ⟨hlt, hrd, hd'⟩ := rd24_at l i y s hd
    have e := hy y List.mem_cons_self left h0 h1
    by_cases hs : (sizePattern y : Int) ≤ left
    · rw [if_pos hs] at e
      have r := ih (i + 1) (left - sizePattern y) (by omega) hd' (fun z hz => hy z (List.mem_cons_of_mem _ hz)) (by omega) (by omega)
      refine Ev.step (f := fun k => (laws_szPattern.f k y.f0 y.f1 y.f2 y.f3 left).bind fun t => if t < 0 then some (-1) else laws_szPatternS.l0 k l t ((i + 1 : Nat) : Int)) (fun k => ?_) ?_
      · simp only [laws_szPatternS.l0]
        rw [if_pos (by omega), if_pos (by omega), hrd, wrapiPattern i l.length hlt hl]
      · refine Ev.bind e ?_
        refine Ev.congr (f := fun k => laws_szPatternS.l0 k l (left - sizePattern y) ((i + 1 : Nat) : Int)) (fun k => by rw [if_neg (by omega)]) ?_
        have e3 : (if (sizePatternS (y :: s) : Int) ≤ left then left - (sizePatternS (y :: s) : Int) else -1) = if (sizePatternS s : Int) ≤ left - sizePattern y then left - sizePattern y - sizePatternS s else -1 := by
          rw [sizePatternS_cons]
          split <;> split <;> omega
        rw [e3]
        exact r
    · rw [if_neg hs] at e
      refine Ev.step (f := fun k => (laws_szPattern.f k y.f0 y.f1 y.f2 y.f3 left).bind fun t => if t < 0 then some (-1) else laws_szPatternS.l0 k l t ((i + 1 : Nat) : Int)) (fun k => ?_) ?_
      · simp only [laws_szPatternS.l0]
        rw [if_pos (by omega), if_pos (by omega), hrd, wrapiPattern i l.length hlt hl]
      · refine Ev.bind e ?_
        rw [if_neg (by rw [sizePatternS_cons]; omega)]
        exact Ev.congr (f := fun _ => some (-1)) (fun k => by rw [if_pos (by omega)]) (Ev.now _)
theorem szPattern_ev (x : S24) (g : G24 x) : ∀ left : Int, 0 ≤ left → left ≤ 1048576 → Ev (fun k => laws_szPattern.f k x.f0 x.f1 x.f2 x.f3 left) (if (sizePattern x : Int) ≤ left then left - sizePattern x else -1) := by
  induction g with
  | mk x h0 h1 h2 h3 h3k ih =>
    intro left hl0 hl1
    have w1 : wrap64 (left - (x.f2.size : Int)) = left - x.f2.size := by unfold wrap64; omega
    by_cases hs : left - (x.f2.size : Int) < 0
    · rw [if_neg (by rw [sizePattern_eq]; omega)]
      refine Ev.step (f := fun _ => some (-1)) (fun k => ?_) (Ev.now _)
      simp only [laws_szPattern.f]
      rw [w1, if_pos hs]
    · refine Ev.step (f := fun k => (laws_szPatternS.f k x.f3 (left - x.f2.size)).bind fun t => if t < 0 then some (-1) else some t) (fun k => ?_) ?_
      · simp only [laws_szPattern.f]
        rw [w1, if_neg hs]
      · have w2 : wrap64 (left - (x.f2.size : Int) - (x.f3.length : Int)) = left - x.f2.size - x.f3.length := by unfold wrap64; omega
        have e : Ev (fun k => laws_szPatternS.f k x.f3 (left - x.f2.size)) (if (sizePattern x : Int) ≤ left then left - sizePattern x else -1) := by
          by_cases hs2 : left - (x.f2.size : Int) - x.f3.length < 0
          · rw [if_neg (by rw [sizePattern_eq]; omega)]
            refine Ev.step (f := fun _ => some (-1)) (fun k => ?_) (Ev.now _)
            simp only [laws_szPatternS.f]
            rw [w2, if_pos hs2]
          · refine Ev.step (f := fun k => laws_szPatternS.l0 k x.f3 (left - x.f2.size - x.f3.length) ((0 : Nat) : Int)) (fun k => ?_) ?_
            · simp only [laws_szPatternS.f]
              rw [w2, if_neg hs2]
              rfl
            · have r := szPattern_loop x.f3 h3 x.f3 0 (left - x.f2.size - x.f3.length) (by omega) rfl ih (by omega) (by omega)
              have e3 : (if (sizePattern x : Int) ≤ left then left - (sizePattern x : Int) else -1) = if (sizePatternS x.f3 : Int) ≤ left - x.f2.size - x.f3.length then left - x.f2.size - x.f3.length - sizePatternS x.f3 else -1 := by
                rw [sizePattern_eq]
                split <;> split <;> omega
              rw [e3]
              exact r
        refine Ev.bind e ?_
        by_cases hz : (sizePattern x : Int) ≤ left
        · rw [if_pos hz]
          exact Ev.congr (f := fun _ => some (left - sizePattern x)) (fun k => by rw [if_neg (by omega)]) (Ev.now _)
        · rw [if_neg hz]
          exact Ev.congr (f := fun _ => some (-1)) (fun k => by rw [if_pos (by omega)]) (Ev.now _)
theorem toPattern_loop (l : List S24) (hl : l.length ≤ 9223372036854775807) (s : List S24) : ∀ (i : Nat) (out : List S30), i ≤ l.length → l.drop i = s → out.length = l.length → out.take i = (convPatternS l).take i →
    (∀ y, y ∈ s → Ev (fun k => laws_toPattern.f k y.f0 y.f1 y.f2 y.f3) ((convPattern y).f0, (convPattern y).f1, (convPattern y).f2, (convPattern y).f3)) →
    Ev (fun k => laws_toPatternS.l0 k l out (i : Int)) (convPatternS l) := by
  induction s with
  | nil =>
    intro i out hi hd ho ht _
    have hi2 := drop24_end l i hd hi
    have e : out = convPatternS l := by
      rw [List.take_of_length_le (by omega), List.take_of_length_le (by rw [convPatternS_length]; omega)] at ht
      exact ht
    refine Ev.step (f := fun _ => some out) (fun k => ?_) (e ▸ Ev.now out)
    simp only [laws_toPatternS.l0]
    rw [if_neg (by omega)]
  | cons y s ih =>
    intro i out hi hd ho ht hy
    obtain ⟨hlt, hrd, hd'⟩ := rd24_at l i y s hd
    have e := hy y List.mem_cons_self
    have hly : (convPatternS l)[i]? = some (convPattern y) := by
      rw [convPatternS_map, List.getElem?_map]
      have : l[i]? = some y := by
        have := congrArg List.head? hd
        simpa [List.head?_drop] using this
      rw [this]
      rfl
    have r := ih (i + 1) (out.set i (convPattern y)) (by omega) hd' (by rw [List.length_set]; exact ho) (by
      rw [List.take_add_one, List.take_add_one, hly, List.take_set_of_le (Nat.le_refl _), ht, List.getElem?_set_self (by omega)]) (fun z hz => hy z (List.mem_cons_of_mem _ hz))
    refine Ev.step (f := fun k => (laws_toPattern.f k y.f0 y.f1 y.f2 y.f3).bind fun b => if (i : Int) < (out.length : Int) then laws_toPatternS.l0 k l (out.set ((i : Int) : Int).toNat (⟨b.1, b.2.1, b.2.2.1, b.2.2.2⟩ : S30)) ((i + 1 : Nat) : Int) else none) (fun k => ?_) ?_
    · simp only [laws_toPatternS.l0]
      rw [if_pos (by omega), if_pos (by omega), hrd, wrapiPattern i l.length hlt hl]
    · refine Ev.bind e ?_
      refine Ev.congr (f := fun k => laws_toPatternS.l0 k l (out.set i (convPattern y)) ((i + 1 : Nat) : Int)) (fun k => ?_) r
      rw [if_pos (by omega), Int.toNat_natCast]
      show laws_toPatternS.l0 k l (out.set i (⟨(convPattern y).f0, (convPattern y).f1, (convPattern y).f2, (convPattern y).f3⟩ : S30)) _ = _
      rw [eta30]
theorem toPattern_ev (x : S24) (g : G24 x) : sizePattern x ≤ 1048576 → Ev (fun k => laws_toPattern.f k x.f0 x.f1 x.f2 x.f3) ((convPattern x).f0, (convPattern x).f1, (convPattern x).f2, (convPattern x).f3) := by
  induction g with
  | mk x h0 h1 h2 h3 h3k ih =>
    intro hsz
    rw [sizePattern_eq] at hsz
    have hmem : ∀ y, y ∈ x.f3 → sizePattern y ≤ sizePatternS x.f3 := by
      have : ∀ (l : List S24) (y : S24), y ∈ l → sizePattern y ≤ sizePatternS l := by
        intro l
        induction l with
        | nil => intro y hy; cases hy
        | cons z l ihl =>
          intro y hy
          simp only [sizePatternS]
          rcases List.mem_cons.1 hy with rfl | hy
          · omega
          · have := ihl y hy; omega
      exact this x.f3
    have e : Ev (fun k => laws_toPatternS.f k x.f3) (convPatternS x.f3) := by
      refine Ev.step (f := fun k => laws_toPatternS.l0 k x.f3 (List.replicate x.f3.length z30) ((0 : Nat) : Int)) (fun k => ?_) ?_
      · simp only [laws_toPatternS.f]
        rw [if_pos (by omega), if_pos (by omega), Int.toNat_natCast]
        rfl
      · exact toPattern_loop x.f3 h3 x.f3 0 _ (by omega) rfl (by simp) (by simp) (fun y hy => ih y hy (by have := hmem y hy; omega))
    refine Ev.step (f := fun k => (laws_toPatternS.f k x.f3).bind fun t => some (x.f0, x.f1, x.f2, t)) (fun k => ?_) ?_
    · simp only [laws_toPattern.f]
    · refine Ev.bind e ?_
      rw [convPattern_f0, convPattern_f1, convPattern_f2, convPattern_f3]
      exact Ev.now _
theorem eqPattern_loop (l : List S30) (hl : l.length ≤ 9223372036854775807) (s : List S30) : ∀ (i : Nat), i ≤ l.length → l.drop i = s →
    (∀ y, y ∈ s → Ev (fun k => laws_eqPattern.f k y.f0 y.f1 y.f2 y.f3 y.f0 y.f1 y.f2 y.f3) true) → Ev (fun k => laws_eqPatternS.l0 k l l (i : Int)) true := by
  induction s with
  | nil =>
    intro i hi hd _
    have hi2 := drop30_end l i hd hi
    refine Ev.step (f := fun _ => some true) (fun k => ?_) (Ev.now true)
    simp only [laws_eqPatternS.l0]
    rw [if_neg (by omega)]
  | cons y s ih =>
    intro i hi hd hy
    obtain ⟨hlt, hrd, hd'⟩ := rd30_at l i y s hd
    refine Ev.step (f := fun k => (laws_eqPattern.f k y.f0 y.f1 y.f2 y.f3 y.f0 y.f1 y.f2 y.f3).bind fun t => if t = true then laws_eqPatternS.l0 k l l ((i + 1 : Nat) : Int) else some false) (fun k => ?_) ?_
    · simp only [laws_eqPatternS.l0]
      rw [if_pos (by omega), if_pos (by omega), if_pos (by omega), hrd, wrapiPattern i l.length hlt hl]
    · refine Ev.bind (hy y List.mem_cons_self) ?_
      refine Ev.congr (f := fun k => laws_eqPatternS.l0 k l l ((i + 1 : Nat) : Int)) (fun k => by rw [if_pos rfl]) ?_
      exact ih (i + 1) (by omega) hd' (fun z hz => hy z (List.mem_cons_of_mem _ hz))
inductive FinePattern : S30 → Prop where
  | mk (x : S30) (h0 : (Lit.int .i64 x.f0).wf = true) (h1 : (Lit.int .i64 x.f1).wf = true) (h2 : x.f2.size ≤ 9223372036854775807) (h3 : x.f3.length ≤ 9223372036854775807) (h3k : ∀ y, y ∈ x.f3 → FinePattern y) : FinePattern x
theorem FinePattern.kids {x : S30} (h : FinePattern x) : x.f3.length ≤ 9223372036854775807 ∧ ∀ y, y ∈ x.f3 → FinePattern y := by
  cases h with
  | mk x h0 h1 h2 h3 h3k => exact ⟨h3, h3k⟩
theorem finePattern_conv (x : S24) (g : G24 x) : FinePattern (convPattern x) := by
  induction g with
  | mk x h0 h1 h2 h3 h3k ih =>
    refine FinePattern.mk _ (by rw [convPattern_f0]; exact h0) (by rw [convPattern_f1]; exact h1) (by rw [convPattern_f2]; exact h2) (by rw [convPattern_f3, convPatternS_length]; exact h3) ?_
    intro y hy
    rw [convPattern_f3, convPatternS_map] at hy
    obtain ⟨z, hz, rfl⟩ := List.mem_map.1 hy
    exact ih z hz
def letterB (c : Int) : Bool := (decide (65 ≤ c) && decide (c ≤ 90)) || (decide (97 ≤ c) && decide (c ≤ 122))
def digitB (c : Int) : Bool := decide (48 ≤ c) && decide (c ≤ 57)
def nameB (c : Int) : Bool := letterB c || (digitB c || c == 95)
theorem spec_letter (c : Int) : spec_l02Letter.f c = some (letterB c) := by
  unfold spec_l02Letter.f letterB
  by_cases h1 : 65 ≤ c <;> by_cases h2 : c ≤ 90 <;> by_cases h3 : 97 ≤ c <;> simp [h1, h2, h3]
theorem spec_digit (c : Int) : spec_l02Digit.f c = some (digitB c) := by
  unfold spec_l02Digit.f digitB
  by_cases h1 : 48 ≤ c <;> simp [h1]
theorem impl_letter (c : Int) : impl_isLetter.f c = some (letterB c) := by
  unfold impl_isLetter.f letterB
  by_cases h1 : 65 ≤ c <;> by_cases h2 : c ≤ 90 <;> by_cases h3 : 97 ≤ c <;> simp [h1, h2, h3]
theorem impl_digit (c : Int) : impl_isDigit.f c = some (digitB c) := by
  unfold impl_isDigit.f digitB
  by_cases h1 : 48 ≤ c <;> simp [h1]
theorem impl_nameByte (c : Int) : impl_isNameByte.f c = some (nameB c) := by
  unfold impl_isNameByte.f nameB
  rw [impl_letter, impl_digit]
  cases letterB c <;> cases digitB c <;> simp
theorem bytes_at (s : ByteArray) (i : Nat) (c : Int) (l : List Int) (h : (bytesOf s).drop i = c :: l) : i < s.size ∧ bt s (i : Int) = c ∧ rd (bytesOf s) (i : Int) = c ∧ (bytesOf s).drop (i + 1) = l := by
  have h1 : i < (bytesOf s).length := by
    rcases Nat.lt_or_ge i (bytesOf s).length with h2 | h2
    · exact h2
    · rw [List.drop_eq_nil_of_le h2] at h
      cases h
  rw [List.drop_eq_getElem_cons h1] at h
  injection h with h2 h3
  have h4 : rd (bytesOf s) (i : Int) = c := by
    unfold rd
    rw [Int.toNat_natCast, List.getD_eq_getElem?_getD, List.getElem?_eq_getElem h1]
    exact h2
  refine ⟨by rw [← bytesOf_length]; exact h1, ?_, h4, h3⟩
  rw [← rd_bytesOf]
  exact h4
theorem bytes_end (s : ByteArray) (i : Nat) (h : (bytesOf s).drop i = []) (hi : i ≤ s.size) : i = s.size := by
  have := congrArg List.length h
  rw [List.length_drop, bytesOf_length] at this
  simp at this
  omega
theorem wrapn (i n : Nat) (h : i < n) (hn : n ≤ 9223372036854775807) : wrap64 ((i : Int) + 1) = ((i + 1 : Nat) : Int) := by unfold wrap64; omega
theorem nameEnd_loop (s : ByteArray) (hs : s.size ≤ 9223372036854775807) (l : List Int) : ∀ i : Nat, i ≤ s.size → (bytesOf s).drop i = l → Ev (fun k => spec_l02NameEnd.l0 k s (i : Int)) ((i : Int) + (l.takeWhile nameB).length) := by
  induction l with
  | nil =>
    intro i hi hd
    have h2 := bytes_end s i hd hi
    refine Ev.step (f := fun _ => some (i : Int)) (fun k => ?_) (by simpa using Ev.now (i : Int))
    simp only [spec_l02NameEnd.l0]
    rw [if_neg (by omega)]
  | cons c l ih =>
    intro i hi hd
    obtain ⟨hlt, hb, _, hd'⟩ := bytes_at s i c l hd
    cases hn : nameB c with
    | true =>
      have r := ih (i + 1) (by omega) hd'
      have e : (i : Int) + ((c :: l).takeWhile nameB).length = ((i + 1 : Nat) : Int) + (l.takeWhile nameB).length := by
        rw [List.takeWhile_cons_of_pos hn, List.length_cons]
        omega
      rw [e]
      refine Ev.step (f := fun k => spec_l02NameEnd.l0 k s ((i + 1 : Nat) : Int)) (fun k => ?_) r
      simp only [spec_l02NameEnd.l0]
      rw [if_pos (by omega), if_pos (by omega), hb, spec_letter, spec_digit, wrapn i s.size hlt hs]
      unfold nameB at hn
      cases hl : letterB c with
      | true => simp
      | false =>
        cases hg : digitB c with
        | true => simp
        | false =>
          rw [hl, hg] at hn
          have hc : c = 95 := by simpa using hn
          simp [hc]
    | false =>
      rw [List.takeWhile_cons_of_neg (by simp [hn])]
      refine Ev.step (f := fun _ => some (i : Int)) (fun k => ?_) (by simpa using Ev.now (i : Int))
      simp only [spec_l02NameEnd.l0]
      rw [if_pos (by omega), if_pos (by omega), hb, spec_letter, spec_digit]
      unfold nameB at hn
      cases hl : letterB c with
      | true => rw [hl] at hn; simp at hn
      | false =>
        cases hg : digitB c with
        | true => rw [hl, hg] at hn; simp at hn
        | false =>
          rw [hl, hg] at hn
          have hc : ¬ c = 95 := by simpa using hn
          simp [hc]
theorem takeWhile_all (l : List Int) (p : Int → Bool) : (l.takeWhile p).length = l.length ↔ l.all p = true := by
  induction l with
  | nil => simp
  | cons c l ih =>
    cases h : p c with
    | true => rw [List.takeWhile_cons_of_pos h]; simp [h, ih]
    | false => rw [List.takeWhile_cons_of_neg (by simp [h])]; simp [h]
def isNameB (s : ByteArray) : Bool := decide (1 ≤ s.size) && (decide (s.size ≤ 12) && (letterB (bt s 0) && (bytesOf s).all nameB))
theorem spec_isName (s : ByteArray) : Ev (fun k => spec_IsName.f k s) (isNameB s) := by
  unfold isNameB
  by_cases h1 : 1 ≤ s.size
  · have hne : ¬ s.toList = [] := by
      rw [Go.ByteArray.toList_eq]
      intro e
      have := data_length s
      rw [e] at this
      simp at this
      omega
    by_cases h2 : s.size ≤ 12
    · have e : Ev (fun k => spec_l02NameEnd.f k s 0) (if letterB (bt s 0) = true then (((bytesOf s).takeWhile nameB).length : Int) else 0) := by
        cases hl : letterB (bt s 0) with
        | true =>
          have r := nameEnd_loop s (by omega) (bytesOf s) 0 (by omega) rfl
          rw [if_pos rfl]
          simp only [Int.natCast_zero, Int.zero_add] at r
          refine Ev.congr (f := fun k => spec_l02NameEnd.j0 k s 0 false) (fun k => ?_) (Ev.step (f := fun k => spec_l02NameEnd.l0 k s 0) (fun k => by simp only [spec_l02NameEnd.j0]; simp) r)
          unfold spec_l02NameEnd.f
          rw [if_neg (by omega), if_pos (by omega), if_pos (by omega), spec_letter, hl]
          rfl
        | false =>
          rw [if_neg (by simp)]
          refine Ev.congr (f := fun k => spec_l02NameEnd.j0 k s 0 true) (fun k => ?_) (Ev.step (f := fun _ => some 0) (fun k => by simp only [spec_l02NameEnd.j0]; simp) (Ev.now 0))
          unfold spec_l02NameEnd.f
          rw [if_neg (by omega), if_pos (by omega), if_pos (by omega), spec_letter, hl]
          rfl
      refine Ev.congr (f := fun k => (spec_l02NameEnd.f k s 0).bind fun t => some (t == (s.size : Int))) (fun k => ?_) (Ev.bind e ?_)
      · unfold spec_IsName.f
        rw [if_neg hne, if_pos (by omega)]
      · have hx : (decide (1 ≤ s.size) && (decide (s.size ≤ 12) && (letterB (bt s 0) && (bytesOf s).all nameB))) = ((if letterB (bt s 0) = true then (((bytesOf s).takeWhile nameB).length : Int) else 0) == (s.size : Int)) := by
          rw [decide_eq_true h1, decide_eq_true h2]
          simp only [Bool.true_and]
          cases hl : letterB (bt s 0) with
          | true =>
            rw [if_pos rfl, Bool.true_and]
            have h3 := takeWhile_all (bytesOf s) nameB
            rw [bytesOf_length] at h3
            rw [Bool.eq_iff_iff, ← h3, beq_iff_eq]
            omega
          | false =>
            rw [if_neg (by simp), Bool.false_and]
            have h4 : ¬ (0 : Int) = (s.size : Int) := by omega
            simp [h4]
        rw [hx]
        exact Ev.now _
    · rw [decide_eq_false h2]
      simp only [Bool.false_and, Bool.and_false]
      refine Ev.congr (f := fun _ => some false) (fun k => ?_) (Ev.now false)
      unfold spec_IsName.f
      rw [if_neg hne, if_neg (by omega)]
  · rw [decide_eq_false h1]
    simp only [Bool.false_and]
    refine Ev.congr (f := fun _ => some false) (fun k => ?_) (Ev.now false)
    unfold spec_IsName.f
    rw [if_pos (by rw [Go.ByteArray.toList_eq]; exact List.eq_nil_of_length_eq_zero (by rw [data_length]; omega))]
theorem areAllName_loop (s : ByteArray) (hs : s.size ≤ 9223372036854775807) (l : List Int) : ∀ i : Nat, i ≤ s.size → (bytesOf s).drop i = l → Ev (fun k => impl_areAll_byte_at_impl_isNameByte.l0 k (bytesOf s) (s.size : Int) (i : Int)) (l.all nameB) := by
  induction l with
  | nil =>
    intro i hi hd
    have h2 := bytes_end s i hd hi
    refine Ev.step (f := fun _ => some true) (fun k => ?_) (by simpa using Ev.now true)
    simp only [impl_areAll_byte_at_impl_isNameByte.l0]
    rw [if_neg (by omega)]
  | cons c l ih =>
    intro i hi hd
    obtain ⟨hlt, _, hb, hd'⟩ := bytes_at s i c l hd
    rw [List.all_cons]
    cases hn : nameB c with
    | true =>
      rw [Bool.true_and]
      refine Ev.step (f := fun k => impl_areAll_byte_at_impl_isNameByte.l0 k (bytesOf s) (s.size : Int) ((i + 1 : Nat) : Int)) (fun k => ?_) (ih (i + 1) (by omega) hd')
      simp only [impl_areAll_byte_at_impl_isNameByte.l0]
      rw [if_pos (by omega), if_pos (by omega), if_pos (by rw [bytesOf_length]; omega), hb, impl_nameByte, hn, wrapn i s.size hlt hs]
      rfl
    | false =>
      rw [Bool.false_and]
      refine Ev.step (f := fun _ => some false) (fun k => ?_) (Ev.now false)
      simp only [impl_areAll_byte_at_impl_isNameByte.l0]
      rw [if_pos (by omega), if_pos (by omega), if_pos (by rw [bytesOf_length]; omega), hb, impl_nameByte, hn]
      rfl
theorem impl_isName (s : ByteArray) : Ev (fun k => impl_IsName.f k s) (isNameB s) := by
  unfold isNameB
  by_cases h1 : 1 ≤ s.size
  · by_cases h2 : s.size ≤ 12
    · rw [decide_eq_true h1, decide_eq_true h2]
      simp only [Bool.true_and]
      cases hl : letterB (bt s 0) with
      | true =>
        rw [Bool.true_and]
        have r := areAllName_loop s (by omega) (bytesOf s) 0 (by omega) rfl
        refine Ev.congr (f := fun k => (impl_areAll_byte_at_impl_isNameByte.f k (bytesOf s)).bind fun t => some t) (fun k => ?_) (Ev.bind (Ev.congr (fun k => ?_) r) (Ev.now _))
        · unfold impl_IsName.f
          rw [if_pos (by omega), if_pos (by omega), if_pos (by omega), impl_letter, hl, Option.bind_some, if_pos rfl, if_pos (by omega)]
        · unfold impl_areAll_byte_at_impl_isNameByte.f
          rw [bytesOf_length]
          rfl
      | false =>
        rw [Bool.false_and]
        refine Ev.congr (f := fun _ => some false) (fun k => ?_) (Ev.now false)
        unfold impl_IsName.f
        rw [if_pos (by omega), if_pos (by omega), if_pos (by omega), impl_letter, hl]
        rfl
    · rw [decide_eq_false h2]
      simp only [Bool.false_and, Bool.and_false]
      refine Ev.congr (f := fun _ => some false) (fun k => ?_) (Ev.now false)
      unfold impl_IsName.f
      rw [if_pos (by omega), if_neg (by omega)]
  · rw [decide_eq_false h1]
    simp only [Bool.false_and]
    refine Ev.congr (f := fun _ => some false) (fun k => ?_) (Ev.now false)
    unfold impl_IsName.f
    rw [if_neg (by omega)]
set_option linter.unusedSimpArgs false in
theorem ev_three {α : Type} {g : Nat → Option α} {r : α} (h : ∀ k, g (k + 3) = some r) : Ev g r := ⟨3, fun n hn => by
  obtain ⟨m, rfl⟩ : ∃ m, n = m + 3 := ⟨n - 3, by omega⟩
  exact h m⟩
set_option linter.unusedSimpArgs false in
theorem arg_in (a b c : Int) : spec_l00In.f a b c = some (decide (b ≤ a) && decide (a ≤ c)) := by
  unfold spec_l00In.f
  by_cases h : b ≤ a <;> simp [h]
set_option linter.unusedSimpArgs false in
theorem arg_within (a b c : Int) : impl_within.f a b c = some (decide (b ≤ a ∧ a ≤ c)) := by
  unfold impl_within.f
  by_cases h : b ≤ a <;> simp [h]
def kidsN (a : Int) : Int := if a = 18 then 2 else if a = 19 then 2 else if a = 20 then 1 else if a = 21 then 1 else if a = 22 then 1 else 0
def restL (a : Int) : List UInt8 := if a ≤ 5 then [115] else if a ≤ 10 then [110] else if 21 ≤ a then [120] else []
def argB (a b : Int) (s : ByteArray) : Bool :=
  if a = 1 then (b == 0) && decide (s.size ≤ 200)
  else if 2 ≤ a ∧ a ≤ 5 then (b == 0) && (!(s.toList == ([] : List UInt8)) && decide (s.size ≤ 200))
  else if 6 ≤ a ∧ a ≤ 10 then (s.toList == ([] : List UInt8)) && (decide (0 ≤ b) && decide (b ≤ 200))
  else if 21 ≤ a ∧ a ≤ 24 then (b == 0) && isNameB s
  else decide (1 ≤ a ∧ a ≤ 24) && ((b == 0) && (s.toList == ([] : List UInt8)))
set_option linter.unusedSimpArgs false in
theorem impl_kids (a : Int) : Ev (fun k => impl_kidsOf.f k a) (kidsN a) := by
  unfold kidsN
  by_cases h1 : a = 18
  · subst h1
    exact ev_three fun k => rfl
  rw [if_neg h1]
  by_cases h2 : a = 19
  · subst h2
    exact ev_three fun k => rfl
  rw [if_neg h2]
  refine Ev.step (f := fun _ => some (if a = 20 then 1 else if a = 21 then 1 else if a = 22 then 1 else 0)) (fun k => ?_) (Ev.now _)
  unfold impl_kidsOf.f
  rw [if_neg h1, beq_eq_false_iff_ne.mpr h2]
  simp only [impl_kidsOf.j0]
  rw [if_neg (by simp)]
  by_cases h3 : a = 20
  · simp only [if_pos h3]
  by_cases h4 : a = 21
  · simp only [if_neg h3, if_pos h4]
  by_cases h5 : a = 22
  · simp only [if_neg h3, if_neg h4, if_pos h5]
  simp only [if_neg h3, if_neg h4, if_neg h5]
set_option linter.unusedSimpArgs false in
theorem impl_arg (a b : Int) (s : ByteArray) : Ev (fun k => impl_isArgument.f k a b s) (argB a b s) := by
  unfold impl_isArgument.f argB impl_isShort.f impl_hasSet.f impl_hasNumber.f impl_hasName.f impl_isPatternKind.f
  simp only [arg_within, Option.bind_some]
  have hz : (decide ((s.size : Int) ≤ 200)) = decide (s.size ≤ 200) := by rw [Bool.eq_iff_iff, decide_eq_true_iff, decide_eq_true_iff]; omega
  by_cases h1 : a = 1
  · simp only [if_pos h1]
    by_cases hb : b = 0
    · simp only [if_pos hb, beq_iff_eq.mpr hb, Bool.true_and, hz]
      exact Ev.now _
    · simp only [if_neg hb, beq_eq_false_iff_ne.mpr hb, Bool.false_and]
      exact Ev.now _
  simp only [if_neg h1]
  by_cases h2 : 2 ≤ a ∧ a ≤ 5
  · simp only [decide_eq_true h2, if_true, if_pos h2]
    by_cases hb : b = 0
    · by_cases hs : s.toList = []
      · simp only [if_pos hb, if_pos hs, beq_iff_eq.mpr hb, beq_iff_eq.mpr hs, Bool.true_and, Bool.not_true, Bool.false_and]
        exact Ev.now _
      · simp only [if_pos hb, if_neg hs, beq_iff_eq.mpr hb, beq_eq_false_iff_ne.mpr hs, Bool.true_and, Bool.not_false, hz]
        exact Ev.now _
    · simp only [if_neg hb, beq_eq_false_iff_ne.mpr hb, Bool.false_and]
      exact Ev.now _
  simp only [decide_eq_false h2, Bool.false_eq_true, if_false, if_neg h2]
  by_cases h3 : 6 ≤ a ∧ a ≤ 10
  · simp only [decide_eq_true h3, if_true, if_pos h3]
    by_cases hs : s.toList = []
    · simp only [if_pos hs, beq_iff_eq.mpr hs, Bool.true_and]
      rw [show (decide (0 ≤ b) && decide (b ≤ 200)) = decide (0 ≤ b ∧ b ≤ 200) by rw [Bool.eq_iff_iff]; simp]
      exact Ev.now _
    · simp only [if_neg hs, beq_eq_false_iff_ne.mpr hs, Bool.false_and]
      exact Ev.now _
  simp only [decide_eq_false h3, Bool.false_eq_true, if_false, if_neg h3]
  by_cases h4 : 21 ≤ a ∧ a ≤ 24
  · simp only [decide_eq_true h4, if_true, if_pos h4]
    by_cases hb : b = 0
    · simp only [if_pos hb, beq_iff_eq.mpr hb, Bool.true_and]
      exact Ev.bind (impl_isName s) (Ev.now _)
    · simp only [if_neg hb, beq_eq_false_iff_ne.mpr hb, Bool.false_and]
      exact Ev.now _
  simp only [decide_eq_false h4, Bool.false_eq_true, if_false, if_neg h4]
  by_cases h5 : 1 ≤ a ∧ a ≤ 24
  · simp only [decide_eq_true h5, if_true, Bool.true_and]
    by_cases hb : b = 0
    · simp only [if_pos hb, beq_iff_eq.mpr hb, Bool.true_and]
      exact Ev.now _
    · simp only [if_neg hb, beq_eq_false_iff_ne.mpr hb, Bool.false_and]
      exact Ev.now _
  · simp only [decide_eq_false h5, Bool.false_eq_true, if_false, Bool.false_and]
    exact Ev.now _
set_option linter.unusedSimpArgs false in
theorem spec_form (a : Int) (h : 1 ≤ a ∧ a ≤ 24) : ∃ r, Ev (fun k => spec_l11Form.f k a) (kidsN a, r) ∧ r.data.toList = restL a := by
  have w1 : wrap64 (0 + 1) = 1 := by unfold wrap64; omega
  have w2 : wrap64 (1 + 1) = 2 := by unfold wrap64; omega
  have h2 : a = 1 ∨ a = 2 ∨ a = 3 ∨ a = 4 ∨ a = 5 ∨ a = 6 ∨ a = 7 ∨ a = 8 ∨ a = 9 ∨ a = 10 ∨ a = 11 ∨ a = 12 ∨ a = 13 ∨ a = 14 ∨ a = 15 ∨ a = 16 ∨ a = 17 ∨ a = 18 ∨ a = 19 ∨ a = 20 ∨ a = 21 ∨ a = 22 ∨ a = 23 ∨ a = 24 := by omega
  rcases h2 with rfl | rfl | rfl | rfl | rfl | rfl | rfl | rfl | rfl | rfl | rfl | rfl | rfl | rfl | rfl | rfl | rfl | rfl | rfl | rfl | rfl | rfl | rfl | rfl <;>
    first
      | exact ⟨_, ev_three fun k => rfl, rfl⟩
      | (refine ⟨?_, ev_three fun k => ?_, ?_⟩
         rotate_left
         · simp only [spec_l11Form.f, spec_l11Word.f, spec_l11Form.l0, w1, w2]
           rfl
         · rfl)
set_option linter.unusedSimpArgs false in
theorem spec_node (a b : Int) (s : ByteArray) (l : List S30) : Ev (fun k => spec_l11Node.f k a b s l) (decide (1 ≤ a ∧ a ≤ 24) && (decide ((l.length : Int) = kidsN a) && argB a b s)) := by
  unfold spec_l11Node.f
  simp only [arg_in, Option.bind_some]
  by_cases h : 1 ≤ a ∧ a ≤ 24
  · obtain ⟨r, e, hr0⟩ := spec_form a h
    have hr : r.toList = restL a := by rw [Go.ByteArray.toList_eq]; exact hr0
    simp only [decide_eq_true h.1, decide_eq_true h.2, Bool.and_self, if_true, decide_eq_true h, Bool.true_and]
    refine Ev.bind e ?_
    simp only [hr]
    by_cases hk : (l.length : Int) = kidsN a
    · simp only [if_pos hk, decide_eq_true hk, Bool.true_and]
      unfold argB restL
      have hz : ((s.size : Int) ≤ 200) = (s.size ≤ 200) := by rw [eq_iff_iff]; omega
      by_cases h5 : a ≤ 5
      · simp only [if_pos h5, if_true]
        by_cases hb : b = 0
        · by_cases hq : s.size ≤ 200
          · by_cases h1 : a = 1
            · simp only [if_pos hb, hz, if_pos hq, if_pos h1, beq_iff_eq.mpr hb, decide_eq_true hq, Bool.and_self]
              exact Ev.now _
            · simp only [if_pos hb, hz, if_pos hq, if_neg h1, beq_iff_eq.mpr hb, decide_eq_true hq, if_pos (show 2 ≤ a ∧ a ≤ 5 by omega), Bool.true_and, Bool.and_true]
              exact Ev.now _
          · have e2 : (if a = 1 then (b == 0) && decide (s.size ≤ 200) else if 2 ≤ a ∧ a ≤ 5 then (b == 0) && (!(s.toList == ([] : List UInt8)) && decide (s.size ≤ 200)) else if 6 ≤ a ∧ a ≤ 10 then (s.toList == ([] : List UInt8)) && (decide (0 ≤ b) && decide (b ≤ 200)) else if 21 ≤ a ∧ a ≤ 24 then (b == 0) && isNameB s else decide (1 ≤ a ∧ a ≤ 24) && ((b == 0) && (s.toList == ([] : List UInt8)))) = false := by
              by_cases h1 : a = 1
              · rw [if_pos h1, decide_eq_false hq, Bool.and_false]
              · rw [if_neg h1, if_pos (show 2 ≤ a ∧ a ≤ 5 by omega), decide_eq_false hq, Bool.and_false, Bool.and_false]
            rw [e2]
            simp only [if_pos hb, hz, if_neg hq]
            exact Ev.now _
        · have e2 : (if a = 1 then (b == 0) && decide (s.size ≤ 200) else if 2 ≤ a ∧ a ≤ 5 then (b == 0) && (!(s.toList == ([] : List UInt8)) && decide (s.size ≤ 200)) else if 6 ≤ a ∧ a ≤ 10 then (s.toList == ([] : List UInt8)) && (decide (0 ≤ b) && decide (b ≤ 200)) else if 21 ≤ a ∧ a ≤ 24 then (b == 0) && isNameB s else decide (1 ≤ a ∧ a ≤ 24) && ((b == 0) && (s.toList == ([] : List UInt8)))) = false := by
            by_cases h1 : a = 1
            · rw [if_pos h1, beq_eq_false_iff_ne.mpr hb, Bool.false_and]
            · rw [if_neg h1, if_pos (show 2 ≤ a ∧ a ≤ 5 by omega), beq_eq_false_iff_ne.mpr hb, Bool.false_and]
          rw [e2]
          simp only [if_neg hb]
          exact Ev.now _
      · have n1 : ¬ a = 1 := by omega
        have n2 : ¬ (2 ≤ a ∧ a ≤ 5) := by omega
        simp only [if_neg h5, if_neg n1, if_neg n2]
        by_cases h6 : a ≤ 10
        · simp only [if_pos h6, if_pos (show 6 ≤ a ∧ a ≤ 10 by omega), show (([110] : List UInt8) = [115]) = False by simp, if_false, if_true]
          by_cases hs : s.toList = []
          · simp only [if_pos hs, beq_iff_eq.mpr hs, Bool.true_and]
            exact Ev.now _
          · simp only [if_neg hs, beq_eq_false_iff_ne.mpr hs, Bool.false_and]
            exact Ev.now _
        · simp only [if_neg h6, if_neg (show ¬ (6 ≤ a ∧ a ≤ 10) by omega)]
          by_cases h7 : 21 ≤ a
          · simp only [if_pos h7, if_pos (show 21 ≤ a ∧ a ≤ 24 by omega), show (([120] : List UInt8) = [115]) = False by simp, show (([120] : List UInt8) = [110]) = False by simp, if_false, if_true]
            by_cases hb : b = 0
            · simp only [if_pos hb, beq_iff_eq.mpr hb, Bool.true_and]
              exact Ev.bind (spec_isName s) (Ev.now _)
            · simp only [if_neg hb, beq_eq_false_iff_ne.mpr hb, Bool.false_and]
              exact Ev.now _
          · simp only [if_neg h7, if_neg (show ¬ (21 ≤ a ∧ a ≤ 24) by omega), show (([] : List UInt8) = [115]) = False by simp, show (([] : List UInt8) = [110]) = False by simp, show (([] : List UInt8) = [120]) = False by simp, if_false, decide_eq_true h, Bool.true_and]
            by_cases hb : b = 0
            · simp only [if_pos hb, beq_iff_eq.mpr hb, Bool.true_and]
              exact Ev.now _
            · simp only [if_neg hb, beq_eq_false_iff_ne.mpr hb, Bool.false_and]
              exact Ev.now _
    · simp only [if_neg hk, decide_eq_false hk, Bool.false_and]
      exact Ev.now _
  · rw [decide_eq_false h, Bool.false_and]
    have hb : (decide (1 ≤ a) && decide (a ≤ 24)) = false := by
      rw [Bool.and_eq_false_iff, decide_eq_false_iff_not, decide_eq_false_iff_not]
      omega
    simp only [hb, Bool.false_eq_true, if_false]
    exact Ev.now _
mutual
def nodesP : S30 → Nat
  | ⟨_, _, _, d⟩ => 1 + nodesPS d
def nodesPS : List S30 → Nat
  | [] => 0
  | x :: xs => nodesP x + nodesPS xs
end
mutual
def okP : S30 → Bool
  | ⟨a, b, c, d⟩ => (decide ((d.length : Int) = kidsN a) && argB a b c) && okPS d
def okPS : List S30 → Bool
  | [] => true
  | x :: xs => okP x && okPS xs
end
theorem nodesP_eq (x : S30) : nodesP x = 1 + nodesPS x.f3 := by cases x; simp [nodesP]
theorem okP_eq (x : S30) : okP x = ((decide ((x.f3.length : Int) = kidsN x.f0) && argB x.f0 x.f1 x.f2) && okPS x.f3) := by cases x; simp [okP]
theorem nodesPS_nil : nodesPS ([] : List S30) = 0 := by simp [nodesPS]
theorem nodesPS_cons (y : S30) (s : List S30) : nodesPS (y :: s) = nodesP y + nodesPS s := by simp [nodesPS]
theorem okPS_nil : okPS ([] : List S30) = true := by simp [okPS]
theorem okPS_cons (y : S30) (s : List S30) : okPS (y :: s) = (okP y && okPS s) := by simp [okPS]
theorem argB_range (a b : Int) (s : ByteArray) (h : argB a b s = true) : 1 ≤ a ∧ a ≤ 24 := by
  by_cases h5 : 1 ≤ a ∧ a ≤ 24
  · exact h5
  · exfalso
    unfold argB at h
    rw [if_neg (by omega), if_neg (by omega), if_neg (by omega), if_neg (by omega), decide_eq_false h5, Bool.false_and] at h
    cases h
theorem specV_loop (a b : Int) (c : ByteArray) (l : List S30) (hl : l.length ≤ 9223372036854775807) (limit : Int) (hlim : limit ≤ 60) (s : List S30) : ∀ (i : Nat) (n : Int), i ≤ l.length → l.drop i = s → 1 ≤ n → n ≤ limit →
    (∀ y, y ∈ s → ∀ lim : Int, 0 ≤ lim → lim ≤ 60 → Ev (fun k => spec_l11Valid.f k y.f0 y.f1 y.f2 y.f3 lim) (if okP y = true ∧ (nodesP y : Int) ≤ lim then (nodesP y : Int) else -1)) →
    Ev (fun k => spec_l11Valid.l0 k limit n (i : Int) a b c l) (if okPS s = true ∧ n + (nodesPS s : Int) ≤ limit then n + (nodesPS s : Int) else -1) := by
  induction s with
  | nil =>
    intro i n hi hd h1 h2 _
    have hi2 := drop30_end l i hd hi
    have e : (nodesPS ([] : List S30) : Int) = 0 := by rw [nodesPS_nil]; rfl
    rw [if_pos ⟨okPS_nil, by omega⟩, e, Int.add_zero]
    refine Ev.step (f := fun _ => some n) (fun k => ?_) (Ev.now _)
    simp only [spec_l11Valid.l0]
    rw [if_neg (by omega)]
  | cons y s ih =>
    intro i n hi hd h1 h2 hy
    obtain ⟨hlt, hrd, hd'⟩ := rd30_at l i y s hd
    have w : wrap64 (limit - n) = limit - n := by unfold wrap64; omega
    have e : (nodesPS (y :: s) : Int) = (nodesP y : Int) + (nodesPS s : Int) := by rw [nodesPS_cons]; omega
    have ey := hy y List.mem_cons_self (limit - n) (by omega) (by omega)
    refine Ev.step (f := fun k => (spec_l11Valid.f k y.f0 y.f1 y.f2 y.f3 (limit - n)).bind fun t => if t < 0 then some (-1) else spec_l11Valid.l0 k limit (wrap64 (n + t)) ((i + 1 : Nat) : Int) a b c l) (fun k => ?_) (Ev.bind ey ?_)
    · simp only [spec_l11Valid.l0]
      rw [if_pos (by omega), if_pos (by omega), hrd, w, wrapiPattern i l.length hlt hl]
    · by_cases q : okP y = true ∧ (nodesP y : Int) ≤ limit - n
      · rw [if_pos q]
        have w2 : wrap64 (n + (nodesP y : Int)) = n + (nodesP y : Int) := by unfold wrap64; omega
        have r := ih (i + 1) (n + (nodesP y : Int)) (by omega) hd' (by omega) (by omega) (fun z hz => hy z (List.mem_cons_of_mem _ hz))
        have v : (if okPS (y :: s) = true ∧ n + (nodesPS (y :: s) : Int) ≤ limit then n + (nodesPS (y :: s) : Int) else -1) = (if okPS s = true ∧ n + (nodesP y : Int) + (nodesPS s : Int) ≤ limit then n + (nodesP y : Int) + (nodesPS s : Int) else -1) := by
          rw [okPS_cons, q.1, Bool.true_and, e, Int.add_assoc]
        rw [v]
        refine Ev.congr (f := fun k => spec_l11Valid.l0 k limit (n + (nodesP y : Int)) ((i + 1 : Nat) : Int) a b c l) (fun k => ?_) r
        rw [if_neg (by omega), w2]
      · rw [if_neg q]
        rw [if_neg (fun z => q ⟨by have := z.1; rw [okPS_cons, Bool.and_eq_true] at this; exact this.1, by have := z.2; omega⟩)]
        exact Ev.congr (f := fun _ => some (-1)) (fun k => by rw [if_pos (by omega)]) (Ev.now _)
theorem specV_ev (x : S30) (g : FinePattern x) : ∀ lim : Int, 0 ≤ lim → lim ≤ 60 → Ev (fun k => spec_l11Valid.f k x.f0 x.f1 x.f2 x.f3 lim) (if okP x = true ∧ (nodesP x : Int) ≤ lim then (nodesP x : Int) else -1) := by
  induction g with
  | mk x h0 h1 h2 h3 h3k ih =>
    intro lim hl0 hl1
    have e := nodesP_eq x
    by_cases c : lim < 1
    · rw [if_neg (by omega)]
      refine Ev.step (f := fun k => spec_l11Valid.j0 k lim true x.f0 x.f1 x.f2 x.f3) (fun k => ?_) (Ev.step (f := fun _ => some (-1)) (fun k => ?_) (Ev.now _))
      · simp only [spec_l11Valid.f]
        rw [if_pos c]
      · simp only [spec_l11Valid.j0]
        rw [if_pos trivial]
    · refine Ev.step (f := fun k => (spec_l11Node.f k x.f0 x.f1 x.f2 x.f3).bind fun t => spec_l11Valid.j0 k lim (!t) x.f0 x.f1 x.f2 x.f3) (fun k => ?_) (Ev.bind (spec_node x.f0 x.f1 x.f2 x.f3) ?_)
      · simp only [spec_l11Valid.f]
        rw [if_neg c]
      · cases hn : (decide ((x.f3.length : Int) = kidsN x.f0) && argB x.f0 x.f1 x.f2) with
        | true =>
          have hr := argB_range x.f0 x.f1 x.f2 (by rw [Bool.and_eq_true] at hn; exact hn.2)
          rw [decide_eq_true hr, Bool.true_and]
          refine Ev.step (f := fun k => spec_l11Valid.l0 k lim 1 ((0 : Nat) : Int) x.f0 x.f1 x.f2 x.f3) (fun k => ?_) ?_
          · simp only [spec_l11Valid.j0]
            rw [if_neg (by simp)]
            first | done | rfl
          · have r := specV_loop x.f0 x.f1 x.f2 x.f3 h3 lim hl1 x.f3 0 1 (by omega) rfl (by omega) (by omega) (fun y hy lim' a b => ih y hy lim' a b)
            have v : (if okP x = true ∧ (nodesP x : Int) ≤ lim then (nodesP x : Int) else -1) = (if okPS x.f3 = true ∧ 1 + (nodesPS x.f3 : Int) ≤ lim then 1 + (nodesPS x.f3 : Int) else -1) := by
              have e2 : (nodesP x : Int) = 1 + (nodesPS x.f3 : Int) := by omega
              rw [okP_eq, hn, Bool.true_and, e2]
            rw [v]
            exact r
        | false =>
          rw [Bool.and_false, if_neg (fun z => by have := z.1; rw [okP_eq, hn] at this; cases this)]
          refine Ev.step (f := fun _ => some (-1)) (fun k => ?_) (Ev.now _)
          simp only [spec_l11Valid.j0]
          rw [if_pos (by simp)]
theorem implV_loop (l : List S30) (hl : l.length ≤ 9223372036854775807) (s : List S30) : ∀ (i : Nat) (n : Int), i ≤ l.length → l.drop i = s → 0 ≤ n → n ≤ 60 →
    (∀ y, y ∈ s → ∀ m : Int, 0 ≤ m → m ≤ 60 → Ev (fun k => impl_countPattern.f k y.f0 y.f1 y.f2 y.f3 m) (if okP y = true ∧ m + (nodesP y : Int) ≤ 60 then m + (nodesP y : Int) else 61)) →
    Ev (fun k => impl_countPattern.l0 k n l (l.length : Int) (i : Int)) (if okPS s = true ∧ n + (nodesPS s : Int) ≤ 60 then n + (nodesPS s : Int) else 61) := by
  induction s with
  | nil =>
    intro i n hi hd h1 h2 _
    have hi2 := drop30_end l i hd hi
    have e : (nodesPS ([] : List S30) : Int) = 0 := by rw [nodesPS_nil]; rfl
    rw [if_pos ⟨okPS_nil, by omega⟩, e, Int.add_zero]
    refine Ev.step (f := fun _ => some n) (fun k => ?_) (Ev.now _)
    simp only [impl_countPattern.l0]
    rw [if_neg (by omega)]
  | cons y s ih =>
    intro i n hi hd h1 h2 hy
    obtain ⟨hlt, hrd, hd'⟩ := rd30_at l i y s hd
    have e : (nodesPS (y :: s) : Int) = (nodesP y : Int) + (nodesPS s : Int) := by rw [nodesPS_cons]; omega
    have ey := hy y List.mem_cons_self n h1 h2
    refine Ev.step (f := fun k => (impl_countPattern.f k y.f0 y.f1 y.f2 y.f3 n).bind fun t => if t > 60 then some t else impl_countPattern.l0 k t l (l.length : Int) ((i + 1 : Nat) : Int)) (fun k => ?_) (Ev.bind ey ?_)
    · simp only [impl_countPattern.l0]
      rw [if_pos (by omega), if_pos (by omega), if_pos (by omega), hrd, wrapiPattern i l.length hlt hl]
    · by_cases q : okP y = true ∧ n + (nodesP y : Int) ≤ 60
      · rw [if_pos q]
        have r := ih (i + 1) (n + (nodesP y : Int)) (by omega) hd' (by omega) (by omega) (fun z hz => hy z (List.mem_cons_of_mem _ hz))
        have v : (if okPS (y :: s) = true ∧ n + (nodesPS (y :: s) : Int) ≤ 60 then n + (nodesPS (y :: s) : Int) else 61) = (if okPS s = true ∧ n + (nodesP y : Int) + (nodesPS s : Int) ≤ 60 then n + (nodesP y : Int) + (nodesPS s : Int) else 61) := by
          rw [okPS_cons, q.1, Bool.true_and, e, Int.add_assoc]
        rw [v]
        refine Ev.congr (f := fun k => impl_countPattern.l0 k (n + (nodesP y : Int)) l (l.length : Int) ((i + 1 : Nat) : Int)) (fun k => ?_) r
        rw [if_neg (by omega)]
      · rw [if_neg q]
        rw [if_neg (fun z => q ⟨by have := z.1; rw [okPS_cons, Bool.and_eq_true] at this; exact this.1, by have := z.2; omega⟩)]
        exact Ev.congr (f := fun _ => some 61) (fun k => by rw [if_pos (by omega)]) (Ev.now _)
theorem implV_ev (x : S30) (g : FinePattern x) : ∀ m : Int, 0 ≤ m → m ≤ 60 → Ev (fun k => impl_countPattern.f k x.f0 x.f1 x.f2 x.f3 m) (if okP x = true ∧ m + (nodesP x : Int) ≤ 60 then m + (nodesP x : Int) else 61) := by
  induction g with
  | mk x h0 h1 h2 h3 h3k ih =>
    intro m hm0 hm1
    have e := nodesP_eq x
    have w : wrap64 (m + 1) = m + 1 := by unfold wrap64; omega
    have no : ∀ m' : Int, Ev (fun k => impl_countPattern.j0 k m' true x.f0 x.f1 x.f2 x.f3) 61 := fun m' => Ev.step (f := fun _ => some 61) (fun k => by simp only [impl_countPattern.j0]; rw [if_pos trivial]) (Ev.now _)
    by_cases c : m + 1 > 60
    · rw [if_neg (by omega)]
      refine Ev.step (f := fun k => impl_countPattern.j0 k (m + 1) true x.f0 x.f1 x.f2 x.f3) (fun k => ?_) (no _)
      simp only [impl_countPattern.f]
      rw [w, if_pos c]
    · refine Ev.step (f := fun k => (impl_isArgument.f k x.f0 x.f1 x.f2).bind fun t => if t = true then (impl_kidsOf.f k x.f0).bind fun u => impl_countPattern.j0 k (m + 1) ((x.f3.length : Int) != u) x.f0 x.f1 x.f2 x.f3 else impl_countPattern.j0 k (m + 1) true x.f0 x.f1 x.f2 x.f3) (fun k => ?_) (Ev.bind (impl_arg x.f0 x.f1 x.f2) ?_)
      · simp only [impl_countPattern.f]
        rw [w, if_neg c]
      · cases ha : argB x.f0 x.f1 x.f2 with
        | false =>
          rw [if_neg (fun z => by have := z.1; rw [okP_eq, ha, Bool.and_false, Bool.false_and] at this; cases this)]
          exact Ev.congr (fun k => by rw [if_neg (by simp)]) (no (m + 1))
        | true =>
          simp only [if_true]
          refine Ev.bind (impl_kids x.f0) ?_
          by_cases hk : (x.f3.length : Int) = kidsN x.f0
          · have hb : ((x.f3.length : Int) != kidsN x.f0) = false := bne_eq_false_iff_eq.mpr hk
            rw [hb]
            refine Ev.step (f := fun k => impl_countPattern.l0 k (m + 1) x.f3 (x.f3.length : Int) ((0 : Nat) : Int)) (fun k => ?_) ?_
            · simp only [impl_countPattern.j0]
              rw [if_neg (by simp)]
              first | done | rfl
            · have r := implV_loop x.f3 h3 x.f3 0 (m + 1) (by omega) rfl (by omega) (by omega) (fun y hy m' a b => ih y hy m' a b)
              have v : (if okP x = true ∧ m + (nodesP x : Int) ≤ 60 then m + (nodesP x : Int) else 61) = (if okPS x.f3 = true ∧ m + 1 + (nodesPS x.f3 : Int) ≤ 60 then m + 1 + (nodesPS x.f3 : Int) else 61) := by
                have e2 : m + (nodesP x : Int) = m + 1 + (nodesPS x.f3 : Int) := by omega
                rw [okP_eq, ha, decide_eq_true hk, Bool.true_and, Bool.true_and, e2]
              rw [v]
              exact r
          · have hb : ((x.f3.length : Int) != kidsN x.f0) = true := bne_iff_ne.mpr hk
            rw [hb, if_neg (fun z => by have := z.1; rw [okP_eq, decide_eq_false hk, Bool.false_and, Bool.false_and] at this; cases this)]
            exact no (m + 1)
def validP (x : S30) : Bool := decide (okP x = true ∧ (nodesP x : Int) ≤ 60)
theorem spec_validP (x : S30) (g : FinePattern x) : Ev (fun k => spec_ValidPattern.f k x.f0 x.f1 x.f2 x.f3) (validP x) := by
  unfold spec_ValidPattern.f validP
  refine Ev.bind (specV_ev x g 60 (by omega) (by omega)) ?_
  have e := nodesP_eq x
  by_cases q : okP x = true ∧ (nodesP x : Int) ≤ 60
  · rw [if_pos q, decide_eq_true q, decide_eq_true (by omega)]
    exact Ev.now _
  · rw [if_neg q, decide_eq_false q, decide_eq_false (by omega)]
    exact Ev.now _
theorem impl_validP (x : S30) (g : FinePattern x) : Ev (fun k => impl_ValidPattern.f k x.f0 x.f1 x.f2 x.f3) (validP x) := by
  unfold impl_ValidPattern.f validP
  refine Ev.bind (implV_ev x g 0 (by omega) (by omega)) ?_
  rw [Int.zero_add]
  by_cases q : okP x = true ∧ (nodesP x : Int) ≤ 60
  · rw [if_pos q, decide_eq_true q, decide_eq_true q.2]
    exact Ev.now _
  · rw [if_neg q, decide_eq_false q, decide_eq_false (by omega)]
    exact Ev.now _
theorem name_short (s : ByteArray) (h : isNameB s = true) : s.size ≤ 200 := by
  unfold isNameB at h
  simp only [Bool.and_eq_true, decide_eq_true_eq] at h
  omega
theorem vp_of (n : Nat) : ∀ x : PT, cntT x ≤ n → okP x = true → VP x := by
  induction n using Nat.strongRecOn with
  | _ n ih =>
  intro x hn ho
  have kids : ∀ (s : List PT), cntL s < n → okPS s = true → ∀ y, y ∈ s → VP y := by
    intro s
    induction s with
    | nil => intro _ _ y hy; cases hy
    | cons z zs ihs =>
      intro hs ho y hy
      rw [okPS_cons, Bool.and_eq_true] at ho
      simp only [cntL] at hs
      have h1 := cntT_eq z
      rcases List.mem_cons.mp hy with rfl | hy
      · exact ih _ (by omega) y (Nat.le_refl _) ho.1
      · exact ihs (by omega) ho.2 y hy
  rw [cntT_eq] at hn
  rw [okP_eq, Bool.and_eq_true, Bool.and_eq_true] at ho
  have hk := of_decide_eq_true ho.1.1
  have ha := ho.1.2
  unfold argB at ha
  refine .mk x ?_ ?_ ?_ ?_ ?_ (kids x.f3 (by omega) ho.2)
  · intro h
    have e : kidsN x.f0 = 2 := by rcases h with h | h <;> rw [h] <;> decide
    omega
  · intro h
    have e : kidsN x.f0 = 1 := by rcases h with h | h | h <;> rw [h] <;> decide
    refine ⟨by omega, ?_⟩
    rw [if_neg (by omega), if_neg (by omega), if_neg (by omega)] at ha
    split at ha <;> simp_all
  · intro h
    rw [if_neg (by omega), if_neg (by omega), if_neg (by omega), if_neg (by omega)] at ha
    simp_all
  · intro h1 h2 h3 h4 h5
    have e : kidsN x.f0 = 0 := by unfold kidsN; rw [if_neg h2, if_neg h1, if_neg h3, if_neg h4, if_neg h5]
    exact List.eq_nil_of_length_eq_zero (by omega)
  · split at ha
    · simp_all
    split at ha
    · simp_all
    split at ha
    · simp only [Bool.and_eq_true] at ha
      rw [bytes_nil (beq_iff_eq.mp ha.1)]
      exact Nat.zero_le _
    split at ha
    · rw [Bool.and_eq_true] at ha
      exact name_short x.f2 ha.2
    · simp only [Bool.and_eq_true] at ha
      rw [bytes_nil (beq_iff_eq.mp ha.2.2)]
      exact Nat.zero_le _
theorem cnt_mem (s : List PT) (y : PT) (h : y ∈ s) : cntT y ≤ cntL s := by
  induction s with
  | nil => cases h
  | cons z zs ih =>
    simp only [cntL]
    rcases List.mem_cons.mp h with rfl | h
    · omega
    · have := ih h
      omega
theorem eq_self (n : Nat) : ∀ x : PT, cntT x ≤ n → cntT x ≤ 2000000 → Ev (fun k => laws_eqPattern.f k x.f0 x.f1 x.f2 x.f3 x.f0 x.f1 x.f2 x.f3) true := by
  induction n using Nat.strongRecOn with
  | _ n ih =>
  intro x hn hN
  have hc := cntT_eq x
  have hl := len_cnt x.f3
  have e : Ev (fun k => laws_eqPatternS.f k x.f3 x.f3) true := by
    refine Ev.step (f := fun k => laws_eqPatternS.l0 k x.f3 x.f3 ((0 : Nat) : Int)) (fun k => ?_) ?_
    · simp only [laws_eqPatternS.f]
      rw [if_pos trivial]
      rfl
    · refine eqPattern_loop x.f3 (by omega) x.f3 0 (by omega) rfl ?_
      intro y hy
      have := cnt_mem x.f3 y hy
      exact ih (cntT y) (by omega) y (Nat.le_refl _) (by omega)
  refine Ev.step (f := fun k => (laws_eqPatternS.f k x.f3 x.f3).bind fun t => if t = true then some true else some false) (fun k => ?_) ?_
  · simp only [laws_eqPattern.f]
    rw [if_pos trivial, if_pos trivial, if_pos trivial]
  · refine Ev.bind e ?_
    exact Ev.congr (f := fun _ => some true) (fun k => by rw [if_pos rfl]) (Ev.now true)
theorem copy_loop (a b : Int) (c : ByteArray) (l : List PT) (hl : l.length ≤ 2000000) (s : List PT) : ∀ (i : Nat) (out : List PT), i ≤ l.length → l.drop i = s → out = l.take i →
    (∀ y, y ∈ s → Ev (fun k => spec_l11Copy.f k y.f0 y.f1 y.f2 y.f3) (y.f0, y.f1, y.f2, y.f3)) → Ev (fun k => spec_l11Copy.l0 k (i : Int) a b c l a b c out) (a, b, c, l) := by
  induction s with
  | nil =>
    intro i out hi hd ho _
    have hi2 := drop30_end l i hd hi
    refine Ev.step (f := fun _ => some (a, b, c, l)) (fun k => ?_) (Ev.now _)
    simp only [spec_l11Copy.l0]
    rw [if_neg (by omega), ho, hi2, List.take_length]
  | cons y s ih =>
    intro i out hi hd ho hy
    obtain ⟨hlt, hrd, hd'⟩ := rd30_at l i y s hd
    have hout : out.length = i := by rw [ho, List.length_take]; omega
    have ey : (⟨y.f0, y.f1, y.f2, y.f3⟩ : PT) = y := by cases y; rfl
    have hx : l[i]? = some y := by rw [← List.head?_drop, hd]; rfl
    refine Ev.step (f := fun k => (spec_l11Copy.f k y.f0 y.f1 y.f2 y.f3).bind fun bt => spec_l11Copy.l0 k ((i + 1 : Nat) : Int) a b c l a b c (out ++ [(⟨bt.1, bt.2.1, bt.2.2.1, bt.2.2.2⟩ : PT)])) (fun k => ?_) ?_
    · simp only [spec_l11Copy.l0]
      rw [if_pos (by omega), if_pos (by omega), hrd, wrapiPattern i l.length hlt (by omega)]
      congr 1
      funext bt
      rw [if_pos (by omega)]
    · refine Ev.bind (hy y List.mem_cons_self) ?_
      simp only [ey]
      exact ih (i + 1) _ (by omega) hd' (by rw [ho, List.take_add_one, hx]; rfl) (fun z hz => hy z (List.mem_cons_of_mem _ hz))
theorem copy_self (n : Nat) : ∀ x : PT, cntT x ≤ n → cntT x ≤ 2000000 → Ev (fun k => spec_l11Copy.f k x.f0 x.f1 x.f2 x.f3) (x.f0, x.f1, x.f2, x.f3) := by
  induction n using Nat.strongRecOn with
  | _ n ih =>
  intro x hn hN
  have hc := cntT_eq x
  have hl := len_cnt x.f3
  refine Ev.step (f := fun k => spec_l11Copy.l0 k ((0 : Nat) : Int) x.f0 x.f1 x.f2 x.f3 x.f0 x.f1 x.f2 ([] : List PT)) (fun k => by simp only [spec_l11Copy.f]; rfl) ?_
  refine copy_loop x.f0 x.f1 x.f2 x.f3 (by omega) x.f3 0 [] (by omega) rfl rfl ?_
  intro y hy
  have := cnt_mem x.f3 y hy
  exact ih (cntT y) (by omega) y (Nat.le_refl _) (by omega)
end Go.Proofs.Ytomakpfmghekfaa.PFnExactJoinPatterns
