/- By hand: what the law FnExactDeferredNames reaches beyond the printed texts, and the law's own function. Conditions: none beyond each statement. -/
import Derived.Test.YtomakpfmghekfaaProg
import Derived.Below
import Derived.Deep.Draws
import Derived.Deep.AppendLies
import Derived.Maps.AppendAt
import Derived.OwnWalk
import Derived.Laws.BytesArg
import Derived.Laws.MakeOwn
import Derived.Laws.OwnMore
import Derived.Deep.OwnRows
import Derived.Tactics
import Derived.Lib.ConvBytes
import Derived.Laws.Slices
import Derived.WalkKit
import Derived.KernelRfl
import Derived.RowKit3
import Derived.Deep.LoopGhost
import Derived.Deep.QuietTactic
import Derived.BigQuiet
import Derived.WideLaws
import Derived.Deep.DeepCutAuto
import Derived.Deep.CutBlock
import Derived.Deep.RegionHeld3
import Derived.Laws.Rows
import Derived.Lib.AppendStr
import Derived.ArgAppend
import Derived.Laws.IdiomCopy
import Derived.OrdersHeld
import Derived.Laws.BitsLemmas
import Derived.RowKit
import Derived.Test.YtomakpfmghekfaaWWords
import Derived.Test.YtomakpfmghekfaaWLast
import Derived.Test.YtomakpfmghekfaaWTab
import Derived.Test.YtomakpfmghekfaaWFour
import Derived.Test.YtomakpfmghekfaaWQPut
import Derived.Test.YtomakpfmghekfaaWApart
import Derived.Test.YtomakpfmghekfaaWArr
import Derived.Test.YtomakpfmghekfaaWZeros
import Derived.Test.YtomakpfmghekfaaWFoot
import Derived.Test.YtomakpfmghekfaaWKept
import Derived.Test.YtomakpfmghekfaaWShare
import Derived.Test.YtomakpfmghekfaaWN
import Derived.Test.YtomakpfmghekfaaWFootNe
import Derived.Test.YtomakpfmghekfaaWAt
import Derived.Test.YtomakpfmghekfaaWEqStruct
import Derived.Test.YtomakpfmghekfaaWRepsOne
import Derived.Test.YtomakpfmghekfaaWInv
import Derived.Test.YtomakpfmghekfaaWInvWords
import Derived.Test.YtomakpfmghekfaaWGuard
import Derived.Test.YtomakpfmghekfaaWNEv
import Derived.Test.YtomakpfmghekfaaWMore
import Derived.Test.YtomakpfmghekfaaPFnExactDeferredNamesx0
import Derived.Test.YtomakpfmghekfaaPFnExactDeferredNamesx1
import Derived.Test.YtomakpfmghekfaaPFnExactDeferredNamesx2
import Derived.Test.YtomakpfmghekfaaPFnExactDeferredNamesx3
import Derived.Test.YtomakpfmghekfaaPFnExactDeferredNamesx4
import Derived.Test.YtomakpfmghekfaaPFnExactDeferredNamesx5
import Derived.Test.YtomakpfmghekfaaPFnExactDeferredNamesx6
import Derived.Test.YtomakpfmghekfaaPFnExactDeferredNamesx7
import Derived.Test.YtomakpfmghekfaaRowLaw
namespace Go.Proofs.Ytomakpfmghekfaa.PFnExactDeferredNames
open Go.RowKit Go.Proofs.YtomakpfmghekfaaW.PrintWords Go.Proofs.YtomakpfmghekfaaW.PrintLast Go.Proofs.YtomakpfmghekfaaW.PrintMore
attribute [local go_sem] max2_int min2_int max_two min_two max_three min_three max_four min_four
set_option linter.unusedVariables false
set_option linter.unusedSimpArgs false
/-- What a pattern that comes in has. -/
inductive G24 : S24 → Prop where
  | mk (x : S24) (h0 : (Lit.int .i64 x.f0).wf = true) (h1 : (Lit.int .i64 x.f1).wf = true) (h2 : x.f2.size ≤ 9223372036854775807) (h3 : x.f3.length ≤ 9223372036854775807) (h3k : ∀ y_, y_ ∈ x.f3 → G24 y_) : G24 x
-- the tree type Pattern: szPattern, toPattern, eqPattern (S24: as it comes in; S30: the program's)
mutual
def convPattern : S24 → S30
  | ⟨a, b, c, d⟩ => ⟨a, b, c, convPatternS d⟩
def convPatternS : List S24 → List S30
  | [] => []
  | x :: xs => convPattern x :: convPatternS xs
end
mutual
def sizePattern : S24 → Nat
  | ⟨_, _, c, d⟩ => c.size + (d.length + sizePatternS d)
def sizePatternS : List S24 → Nat
  | [] => 0
  | x :: xs => sizePattern x + sizePatternS xs
end
theorem convPattern_f0 (x : S24) : (convPattern x).f0 = x.f0 := by cases x; simp [convPattern]
theorem convPattern_f1 (x : S24) : (convPattern x).f1 = x.f1 := by cases x; simp [convPattern]
theorem convPattern_f2 (x : S24) : (convPattern x).f2 = x.f2 := by cases x; simp [convPattern]
theorem convPattern_f3 (x : S24) : (convPattern x).f3 = convPatternS x.f3 := by cases x; simp [convPattern]
theorem sizePattern_eq (x : S24) : sizePattern x = x.f2.size + (x.f3.length + sizePatternS x.f3) := by cases x; simp [sizePattern]
theorem sizePatternS_nil : sizePatternS ([] : List S24) = 0 := by simp [sizePatternS]
theorem sizePatternS_cons (y : S24) (s : List S24) : sizePatternS (y :: s) = sizePattern y + sizePatternS s := by simp [sizePatternS]
theorem convPatternS_map (l : List S24) : convPatternS l = l.map convPattern := by
  induction l with
  | nil => rfl
  | cons x l ih => simp [convPatternS, ih]
theorem convPatternS_length (l : List S24) : (convPatternS l).length = l.length := by rw [convPatternS_map, List.length_map]
theorem rd24_at (l : List S24) (i : Nat) (x : S24) (s : List S24) (h : l.drop i = x :: s) : i < l.length ∧ rd_T24 l (i : Int) = x ∧ l.drop (i + 1) = s := by
  have h1 : i < l.length := by
    rcases Nat.lt_or_ge i l.length with h2 | h2
    · exact h2
    · rw [List.drop_eq_nil_of_le h2] at h
      cases h
  rw [List.drop_eq_getElem_cons h1] at h
  injection h with h2 h3
  refine ⟨h1, ?_, h3⟩
  unfold rd_T24
  rw [List.getD_eq_getElem?_getD, Int.toNat_natCast, List.getElem?_eq_getElem h1]
  exact h2
theorem rd30_at (l : List S30) (i : Nat) (x : S30) (s : List S30) (h : l.drop i = x :: s) : i < l.length ∧ rd_T30 l (i : Int) = x ∧ l.drop (i + 1) = s := by
  have h1 : i < l.length := by
    rcases Nat.lt_or_ge i l.length with h2 | h2
    · exact h2
    · rw [List.drop_eq_nil_of_le h2] at h
      cases h
  rw [List.drop_eq_getElem_cons h1] at h
  injection h with h2 h3
  refine ⟨h1, ?_, h3⟩
  unfold rd_T30
  rw [List.getD_eq_getElem?_getD, Int.toNat_natCast, List.getElem?_eq_getElem h1]
  exact h2
theorem drop24_end (l : List S24) (i : Nat) (h : l.drop i = []) (hi : i ≤ l.length) : i = l.length := by
  have := congrArg List.length h
  simp at this
  omega
theorem drop30_end (l : List S30) (i : Nat) (h : l.drop i = []) (hi : i ≤ l.length) : i = l.length := by
  have := congrArg List.length h
  simp at this
  omega
theorem eta30 (x : S30) : (⟨x.f0, x.f1, x.f2, x.f3⟩ : S30) = x := by cases x; rfl
theorem wrapiPattern (i n : Nat) (h : i < n) (hn : n ≤ 9223372036854775807) : wrap64 ((i : Int) + 1) = ((i + 1 : Nat) : Int) := by unfold wrap64; omega

theorem szPattern_loop (l : List S24) (hl : l.length ≤ 9223372036854775807) (s : List S24) : ∀ (i : Nat) (left : Int), i ≤ l.length → l.drop i = s →
    (∀ y, y ∈ s → ∀ left : Int, 0 ≤ left → left ≤ 1048576 → Ev (fun k => laws_szPattern.f k y.f0 y.f1 y.f2 y.f3 left) (if (sizePattern y : Int) ≤ left then left - sizePattern y else -1)) →
    0 ≤ left → left ≤ 1048576 → Ev (fun k => laws_szPatternS.l0 k l left (i : Int)) (if (sizePatternS s : Int) ≤ left then left - sizePatternS s else -1) := by
  induction s with
  | nil =>
    intro i left hi hd _ h0 h1
    have := drop24_end l i hd hi
    refine Ev.step (f := fun _ => some left) (fun k => ?_) ?_
    · simp only [laws_szPatternS.l0]
      rw [if_neg (by omega)]
    · rw [sizePatternS_nil, if_pos (by simpa using h0)]
      simpa using Ev.now left
  | cons y s ih =>
    intro i left hi hd hy h0 h1
    obtain ⟨hlt, hrd, hd'⟩ := rd24_at l i y s hd
    have e := hy y List.mem_cons_self left h0 h1
    by_cases hs : (sizePattern y : Int) ≤ left
    · rw [if_pos hs] at e
      have r := ih (i + 1) (left - sizePattern y) (by omega) hd' (fun z hz => hy z (List.mem_cons_of_mem _ hz)) (by omega) (by omega)
      refine Ev.step (f := fun k => (laws_szPattern.f k y.f0 y.f1 y.f2 y.f3 left).bind fun t => if t < 0 then some (-1) else laws_szPatternS.l0 k l t ((i + 1 : Nat) : Int)) (fun k => ?_) ?_
      · simp only [laws_szPatternS.l0]
        rw [if_pos (by omega), if_pos (by omega), hrd, wrapiPattern i l.length hlt hl]
      · refine Ev.bind e ?_
        refine Ev.congr (f := fun k => laws_szPatternS.l0 k l (left - sizePattern y) ((i + 1 : Nat) : Int)) (fun k => by rw [if_neg (by omega)]) ?_
        have e3 : (if (sizePatternS (y :: s) : Int) ≤ left then left - (sizePatternS (y :: s) : Int) else -1) = if (sizePatternS s : Int) ≤ left - sizePattern y then left - sizePattern y - sizePatternS s else -1 := by
          rw [sizePatternS_cons]
          split <;> split <;> omega
        rw [e3]
        exact r
    · rw [if_neg hs] at e
      refine Ev.step (f := fun k => (laws_szPattern.f k y.f0 y.f1 y.f2 y.f3 left).bind fun t => if t < 0 then some (-1) else laws_szPatternS.l0 k l t ((i + 1 : Nat) : Int)) (fun k => ?_) ?_
      · simp only [laws_szPatternS.l0]
        rw [if_pos (by omega), if_pos (by omega), hrd, wrapiPattern i l.length hlt hl]
      · refine Ev.bind e ?_
        rw [if_neg (by rw [sizePatternS_cons]; omega)]
        exact Ev.congr (f := fun _ => some (-1)) (fun k => by rw [if_pos (by omega)]) (Ev.now _)

theorem szPattern_ev (x : S24) (g : G24 x) : ∀ left : Int, 0 ≤ left → left ≤ 1048576 → Ev (fun k => laws_szPattern.f k x.f0 x.f1 x.f2 x.f3 left) (if (sizePattern x : Int) ≤ left then left - sizePattern x else -1) := by
  induction g with
  | mk x h0 h1 h2 h3 h3k ih =>
    intro left hl0 hl1
    have w1 : wrap64 (left - (x.f2.size : Int)) = left - x.f2.size := by unfold wrap64; omega
    by_cases hs : left - (x.f2.size : Int) < 0
    · rw [if_neg (by rw [sizePattern_eq]; omega)]
      refine Ev.step (f := fun _ => some (-1)) (fun k => ?_) (Ev.now _)
      simp only [laws_szPattern.f]
      rw [w1, if_pos hs]
    · refine Ev.step (f := fun k => (laws_szPatternS.f k x.f3 (left - x.f2.size)).bind fun t => if t < 0 then some (-1) else some t) (fun k => ?_) ?_
      · simp only [laws_szPattern.f]
        rw [w1, if_neg hs]
      · have w2 : wrap64 (left - (x.f2.size : Int) - (x.f3.length : Int)) = left - x.f2.size - x.f3.length := by unfold wrap64; omega
        have e : Ev (fun k => laws_szPatternS.f k x.f3 (left - x.f2.size)) (if (sizePattern x : Int) ≤ left then left - sizePattern x else -1) := by
          by_cases hs2 : left - (x.f2.size : Int) - x.f3.length < 0
          · rw [if_neg (by rw [sizePattern_eq]; omega)]
            refine Ev.step (f := fun _ => some (-1)) (fun k => ?_) (Ev.now _)
            simp only [laws_szPatternS.f]
            rw [w2, if_pos hs2]
          · refine Ev.step (f := fun k => laws_szPatternS.l0 k x.f3 (left - x.f2.size - x.f3.length) ((0 : Nat) : Int)) (fun k => ?_) ?_
            · simp only [laws_szPatternS.f]
              rw [w2, if_neg hs2]
              rfl
            · have r := szPattern_loop x.f3 h3 x.f3 0 (left - x.f2.size - x.f3.length) (by omega) rfl ih (by omega) (by omega)
              have e3 : (if (sizePattern x : Int) ≤ left then left - (sizePattern x : Int) else -1) = if (sizePatternS x.f3 : Int) ≤ left - x.f2.size - x.f3.length then left - x.f2.size - x.f3.length - sizePatternS x.f3 else -1 := by
                rw [sizePattern_eq]
                split <;> split <;> omega
              rw [e3]
              exact r
        refine Ev.bind e ?_
        by_cases hz : (sizePattern x : Int) ≤ left
        · rw [if_pos hz]
          exact Ev.congr (f := fun _ => some (left - sizePattern x)) (fun k => by rw [if_neg (by omega)]) (Ev.now _)
        · rw [if_neg hz]
          exact Ev.congr (f := fun _ => some (-1)) (fun k => by rw [if_pos (by omega)]) (Ev.now _)

theorem toPattern_loop (l : List S24) (hl : l.length ≤ 9223372036854775807) (s : List S24) : ∀ (i : Nat) (out : List S30), i ≤ l.length → l.drop i = s → out.length = l.length → out.take i = (convPatternS l).take i →
    (∀ y, y ∈ s → Ev (fun k => laws_toPattern.f k y.f0 y.f1 y.f2 y.f3) ((convPattern y).f0, (convPattern y).f1, (convPattern y).f2, (convPattern y).f3)) →
    Ev (fun k => laws_toPatternS.l0 k l out (i : Int)) (convPatternS l) := by
  induction s with
  | nil =>
    intro i out hi hd ho ht _
    have hi2 := drop24_end l i hd hi
    have e : out = convPatternS l := by
      rw [List.take_of_length_le (by omega), List.take_of_length_le (by rw [convPatternS_length]; omega)] at ht
      exact ht
    refine Ev.step (f := fun _ => some out) (fun k => ?_) (e ▸ Ev.now out)
    simp only [laws_toPatternS.l0]
    rw [if_neg (by omega)]
  | cons y s ih =>
    intro i out hi hd ho ht hy
    obtain ⟨hlt, hrd, hd'⟩ := rd24_at l i y s hd
    have e := hy y List.mem_cons_self
    have hly : (convPatternS l)[i]? = some (convPattern y) := by
      rw [convPatternS_map, List.getElem?_map]
      have : l[i]? = some y := by
        have := congrArg List.head? hd
        simpa [List.head?_drop] using this
      rw [this]
      rfl
    have r := ih (i + 1) (out.set i (convPattern y)) (by omega) hd' (by rw [List.length_set]; exact ho) (by
      rw [List.take_add_one, List.take_add_one, hly, List.take_set_of_le (Nat.le_refl _), ht, List.getElem?_set_self (by omega)]) (fun z hz => hy z (List.mem_cons_of_mem _ hz))
    refine Ev.step (f := fun k => (laws_toPattern.f k y.f0 y.f1 y.f2 y.f3).bind fun b => if (i : Int) < (out.length : Int) then laws_toPatternS.l0 k l (out.set ((i : Int) : Int).toNat (⟨b.1, b.2.1, b.2.2.1, b.2.2.2⟩ : S30)) ((i + 1 : Nat) : Int) else none) (fun k => ?_) ?_
    · simp only [laws_toPatternS.l0]
      rw [if_pos (by omega), if_pos (by omega), hrd, wrapiPattern i l.length hlt hl]
    · refine Ev.bind e ?_
      refine Ev.congr (f := fun k => laws_toPatternS.l0 k l (out.set i (convPattern y)) ((i + 1 : Nat) : Int)) (fun k => ?_) r
      rw [if_pos (by omega), Int.toNat_natCast]
      show laws_toPatternS.l0 k l (out.set i (⟨(convPattern y).f0, (convPattern y).f1, (convPattern y).f2, (convPattern y).f3⟩ : S30)) _ = _
      rw [eta30]

theorem toPattern_ev (x : S24) (g : G24 x) : sizePattern x ≤ 1048576 → Ev (fun k => laws_toPattern.f k x.f0 x.f1 x.f2 x.f3) ((convPattern x).f0, (convPattern x).f1, (convPattern x).f2, (convPattern x).f3) := by
  induction g with
  | mk x h0 h1 h2 h3 h3k ih =>
    intro hsz
    rw [sizePattern_eq] at hsz
    have hmem : ∀ y, y ∈ x.f3 → sizePattern y ≤ sizePatternS x.f3 := by
      have : ∀ (l : List S24) (y : S24), y ∈ l → sizePattern y ≤ sizePatternS l := by
        intro l
        induction l with
        | nil => intro y hy; cases hy
        | cons z l ihl =>
          intro y hy
          simp only [sizePatternS]
          rcases List.mem_cons.1 hy with rfl | hy
          · omega
          · have := ihl y hy; omega
      exact this x.f3
    have e : Ev (fun k => laws_toPatternS.f k x.f3) (convPatternS x.f3) := by
      refine Ev.step (f := fun k => laws_toPatternS.l0 k x.f3 (List.replicate x.f3.length z30) ((0 : Nat) : Int)) (fun k => ?_) ?_
      · simp only [laws_toPatternS.f]
        rw [if_pos (by omega), if_pos (by omega), Int.toNat_natCast]
        rfl
      · exact toPattern_loop x.f3 h3 x.f3 0 _ (by omega) rfl (by simp) (by simp) (fun y hy => ih y hy (by have := hmem y hy; omega))
    refine Ev.step (f := fun k => (laws_toPatternS.f k x.f3).bind fun t => some (x.f0, x.f1, x.f2, t)) (fun k => ?_) ?_
    · simp only [laws_toPattern.f]
    · refine Ev.bind e ?_
      rw [convPattern_f0, convPattern_f1, convPattern_f2, convPattern_f3]
      exact Ev.now _

theorem eqPattern_loop (l : List S30) (hl : l.length ≤ 9223372036854775807) (s : List S30) : ∀ (i : Nat), i ≤ l.length → l.drop i = s →
    (∀ y, y ∈ s → Ev (fun k => laws_eqPattern.f k y.f0 y.f1 y.f2 y.f3 y.f0 y.f1 y.f2 y.f3) true) → Ev (fun k => laws_eqPatternS.l0 k l l (i : Int)) true := by
  induction s with
  | nil =>
    intro i hi hd _
    have hi2 := drop30_end l i hd hi
    refine Ev.step (f := fun _ => some true) (fun k => ?_) (Ev.now true)
    simp only [laws_eqPatternS.l0]
    rw [if_neg (by omega)]
  | cons y s ih =>
    intro i hi hd hy
    obtain ⟨hlt, hrd, hd'⟩ := rd30_at l i y s hd
    refine Ev.step (f := fun k => (laws_eqPattern.f k y.f0 y.f1 y.f2 y.f3 y.f0 y.f1 y.f2 y.f3).bind fun t => if t = true then laws_eqPatternS.l0 k l l ((i + 1 : Nat) : Int) else some false) (fun k => ?_) ?_
    · simp only [laws_eqPatternS.l0]
      rw [if_pos (by omega), if_pos (by omega), if_pos (by omega), hrd, wrapiPattern i l.length hlt hl]
    · refine Ev.bind (hy y List.mem_cons_self) ?_
      refine Ev.congr (f := fun k => laws_eqPatternS.l0 k l l ((i + 1 : Nat) : Int)) (fun k => by rw [if_pos rfl]) ?_
      exact ih (i + 1) (by omega) hd' (fun z hz => hy z (List.mem_cons_of_mem _ hz))

theorem eqPattern_ev (x : S24) (g : G24 x) : Ev (fun k => laws_eqPattern.f k (convPattern x).f0 (convPattern x).f1 (convPattern x).f2 (convPattern x).f3 (convPattern x).f0 (convPattern x).f1 (convPattern x).f2 (convPattern x).f3) true := by
  induction g with
  | mk x h0 h1 h2 h3 h3k ih =>
    have e : Ev (fun k => laws_eqPatternS.f k (convPattern x).f3 (convPattern x).f3) true := by
      refine Ev.step (f := fun k => laws_eqPatternS.l0 k (convPattern x).f3 (convPattern x).f3 ((0 : Nat) : Int)) (fun k => ?_) ?_
      · simp only [laws_eqPatternS.f]
        rw [if_pos trivial]
        rfl
      · refine eqPattern_loop (convPattern x).f3 (by rw [convPattern_f3, convPatternS_length]; exact h3) (convPattern x).f3 0 (by omega) rfl ?_
        intro y hy
        rw [convPattern_f3, convPatternS_map] at hy
        obtain ⟨z, hz, rfl⟩ := List.mem_map.1 hy
        exact ih z hz
    refine Ev.step (f := fun k => (laws_eqPatternS.f k (convPattern x).f3 (convPattern x).f3).bind fun t => if t = true then some true else some false) (fun k => ?_) ?_
    · simp only [laws_eqPattern.f]
      rw [if_pos trivial, if_pos trivial, if_pos trivial]
    · refine Ev.bind e ?_
      exact Ev.congr (f := fun _ => some true) (fun k => by rw [if_pos rfl]) (Ev.now true)

/-- A tree of the program's type whose numbers and sizes fit. -/
inductive FinePattern : S30 → Prop where
  | mk (x : S30) (h0 : (Lit.int .i64 x.f0).wf = true) (h1 : (Lit.int .i64 x.f1).wf = true) (h2 : x.f2.size ≤ 9223372036854775807) (h3 : x.f3.length ≤ 9223372036854775807) (h3k : ∀ y, y ∈ x.f3 → FinePattern y) : FinePattern x
theorem FinePattern.kids {x : S30} (h : FinePattern x) : x.f3.length ≤ 9223372036854775807 ∧ ∀ y, y ∈ x.f3 → FinePattern y := by
  cases h with
  | mk x h0 h1 h2 h3 h3k => exact ⟨h3, h3k⟩
theorem finePattern_conv (x : S24) (g : G24 x) : FinePattern (convPattern x) := by
  induction g with
  | mk x h0 h1 h2 h3 h3k ih =>
    refine FinePattern.mk _ (by rw [convPattern_f0]; exact h0) (by rw [convPattern_f1]; exact h1) (by rw [convPattern_f2]; exact h2) (by rw [convPattern_f3, convPatternS_length]; exact h3) ?_
    intro y hy
    rw [convPattern_f3, convPatternS_map] at hy
    obtain ⟨z, hz, rfl⟩ := List.mem_map.1 hy
    exact ih z hz
-- names: the program's IsName and the reference's
def letterB (c : Int) : Bool := (decide (65 ≤ c) && decide (c ≤ 90)) || (decide (97 ≤ c) && decide (c ≤ 122))
def digitB (c : Int) : Bool := decide (48 ≤ c) && decide (c ≤ 57)
def nameB (c : Int) : Bool := letterB c || (digitB c || c == 95)
theorem spec_letter (c : Int) : spec_l02Letter.f c = some (letterB c) := by
  unfold spec_l02Letter.f letterB
  by_cases h1 : 65 ≤ c <;> by_cases h2 : c ≤ 90 <;> by_cases h3 : 97 ≤ c <;> simp [h1, h2, h3]
theorem spec_digit (c : Int) : spec_l02Digit.f c = some (digitB c) := by
  unfold spec_l02Digit.f digitB
  by_cases h1 : 48 ≤ c <;> simp [h1]
theorem impl_letter (c : Int) : impl_isLetter.f c = some (letterB c) := by
  unfold impl_isLetter.f letterB
  by_cases h1 : 65 ≤ c <;> by_cases h2 : c ≤ 90 <;> by_cases h3 : 97 ≤ c <;> simp [h1, h2, h3]
theorem impl_digit (c : Int) : impl_isDigit.f c = some (digitB c) := by
  unfold impl_isDigit.f digitB
  by_cases h1 : 48 ≤ c <;> simp [h1]
theorem impl_nameByte (c : Int) : impl_isNameByte.f c = some (nameB c) := by
  unfold impl_isNameByte.f nameB
  rw [impl_letter, impl_digit]
  cases letterB c <;> cases digitB c <;> simp
theorem bytes_at (s : ByteArray) (i : Nat) (c : Int) (l : List Int) (h : (bytesOf s).drop i = c :: l) : i < s.size ∧ bt s (i : Int) = c ∧ rd (bytesOf s) (i : Int) = c ∧ (bytesOf s).drop (i + 1) = l := by
  have h1 : i < (bytesOf s).length := by
    rcases Nat.lt_or_ge i (bytesOf s).length with h2 | h2
    · exact h2
    · rw [List.drop_eq_nil_of_le h2] at h
      cases h
  rw [List.drop_eq_getElem_cons h1] at h
  injection h with h2 h3
  have h4 : rd (bytesOf s) (i : Int) = c := by
    unfold rd
    rw [Int.toNat_natCast, List.getD_eq_getElem?_getD, List.getElem?_eq_getElem h1]
    exact h2
  refine ⟨by rw [← bytesOf_length]; exact h1, ?_, h4, h3⟩
  rw [← rd_bytesOf]
  exact h4
theorem bytes_end (s : ByteArray) (i : Nat) (h : (bytesOf s).drop i = []) (hi : i ≤ s.size) : i = s.size := by
  have := congrArg List.length h
  rw [List.length_drop, bytesOf_length] at this
  simp at this
  omega
theorem wrapn (i n : Nat) (h : i < n) (hn : n ≤ 9223372036854775807) : wrap64 ((i : Int) + 1) = ((i + 1 : Nat) : Int) := by unfold wrap64; omega
theorem nameEnd_loop (s : ByteArray) (hs : s.size ≤ 9223372036854775807) (l : List Int) : ∀ i : Nat, i ≤ s.size → (bytesOf s).drop i = l → Ev (fun k => spec_l02NameEnd.l0 k s (i : Int)) ((i : Int) + (l.takeWhile nameB).length) := by
  induction l with
  | nil =>
    intro i hi hd
    have h2 := bytes_end s i hd hi
    refine Ev.step (f := fun _ => some (i : Int)) (fun k => ?_) (by simpa using Ev.now (i : Int))
    simp only [spec_l02NameEnd.l0]
    rw [if_neg (by omega)]
  | cons c l ih =>
    intro i hi hd
    obtain ⟨hlt, hb, _, hd'⟩ := bytes_at s i c l hd
    cases hn : nameB c with
    | true =>
      have r := ih (i + 1) (by omega) hd'
      have e : (i : Int) + ((c :: l).takeWhile nameB).length = ((i + 1 : Nat) : Int) + (l.takeWhile nameB).length := by
        rw [List.takeWhile_cons_of_pos hn, List.length_cons]
        omega
      rw [e]
      refine Ev.step (f := fun k => spec_l02NameEnd.l0 k s ((i + 1 : Nat) : Int)) (fun k => ?_) r
      simp only [spec_l02NameEnd.l0]
      rw [if_pos (by omega), if_pos (by omega), hb, spec_letter, spec_digit, wrapn i s.size hlt hs]
      unfold nameB at hn
      cases hl : letterB c with
      | true => simp
      | false =>
        cases hg : digitB c with
        | true => simp
        | false =>
          rw [hl, hg] at hn
          have hc : c = 95 := by simpa using hn
          simp [hc]
    | false =>
      rw [List.takeWhile_cons_of_neg (by simp [hn])]
      refine Ev.step (f := fun _ => some (i : Int)) (fun k => ?_) (by simpa using Ev.now (i : Int))
      simp only [spec_l02NameEnd.l0]
      rw [if_pos (by omega), if_pos (by omega), hb, spec_letter, spec_digit]
      unfold nameB at hn
      cases hl : letterB c with
      | true => rw [hl] at hn; simp at hn
      | false =>
        cases hg : digitB c with
        | true => rw [hl, hg] at hn; simp at hn
        | false =>
          rw [hl, hg] at hn
          have hc : ¬ c = 95 := by simpa using hn
          simp [hc]
theorem takeWhile_all (l : List Int) (p : Int → Bool) : (l.takeWhile p).length = l.length ↔ l.all p = true := by
  induction l with
  | nil => simp
  | cons c l ih =>
    cases h : p c with
    | true => rw [List.takeWhile_cons_of_pos h]; simp [h, ih]
    | false => rw [List.takeWhile_cons_of_neg (by simp [h])]; simp [h]
/-- What a name is. -/
def isNameB (s : ByteArray) : Bool := decide (1 ≤ s.size) && (decide (s.size ≤ 12) && (letterB (bt s 0) && (bytesOf s).all nameB))
theorem spec_isName (s : ByteArray) : Ev (fun k => spec_IsName.f k s) (isNameB s) := by
  unfold isNameB
  by_cases h1 : 1 ≤ s.size
  · have hne : ¬ s.toList = [] := by
      rw [Go.ByteArray.toList_eq]
      intro e
      have := data_length s
      rw [e] at this
      simp at this
      omega
    by_cases h2 : s.size ≤ 12
    · have e : Ev (fun k => spec_l02NameEnd.f k s 0) (if letterB (bt s 0) = true then (((bytesOf s).takeWhile nameB).length : Int) else 0) := by
        cases hl : letterB (bt s 0) with
        | true =>
          have r := nameEnd_loop s (by omega) (bytesOf s) 0 (by omega) rfl
          rw [if_pos rfl]
          simp only [Int.natCast_zero, Int.zero_add] at r
          refine Ev.congr (f := fun k => spec_l02NameEnd.j0 k s 0 false) (fun k => ?_) (Ev.step (f := fun k => spec_l02NameEnd.l0 k s 0) (fun k => by simp only [spec_l02NameEnd.j0]; simp) r)
          unfold spec_l02NameEnd.f
          rw [if_neg (by omega), if_pos (by omega), if_pos (by omega), spec_letter, hl]
          rfl
        | false =>
          rw [if_neg (by simp)]
          refine Ev.congr (f := fun k => spec_l02NameEnd.j0 k s 0 true) (fun k => ?_) (Ev.step (f := fun _ => some 0) (fun k => by simp only [spec_l02NameEnd.j0]; simp) (Ev.now 0))
          unfold spec_l02NameEnd.f
          rw [if_neg (by omega), if_pos (by omega), if_pos (by omega), spec_letter, hl]
          rfl
      refine Ev.congr (f := fun k => (spec_l02NameEnd.f k s 0).bind fun t => some (t == (s.size : Int))) (fun k => ?_) (Ev.bind e ?_)
      · unfold spec_IsName.f
        rw [if_neg hne, if_pos (by omega)]
      · have hx : (decide (1 ≤ s.size) && (decide (s.size ≤ 12) && (letterB (bt s 0) && (bytesOf s).all nameB))) = ((if letterB (bt s 0) = true then (((bytesOf s).takeWhile nameB).length : Int) else 0) == (s.size : Int)) := by
          rw [decide_eq_true h1, decide_eq_true h2]
          simp only [Bool.true_and]
          cases hl : letterB (bt s 0) with
          | true =>
            rw [if_pos rfl, Bool.true_and]
            have h3 := takeWhile_all (bytesOf s) nameB
            rw [bytesOf_length] at h3
            rw [Bool.eq_iff_iff, ← h3, beq_iff_eq]
            omega
          | false =>
            rw [if_neg (by simp), Bool.false_and]
            have h4 : ¬ (0 : Int) = (s.size : Int) := by omega
            simp [h4]
        rw [hx]
        exact Ev.now _
    · rw [decide_eq_false h2]
      simp only [Bool.false_and, Bool.and_false]
      refine Ev.congr (f := fun _ => some false) (fun k => ?_) (Ev.now false)
      unfold spec_IsName.f
      rw [if_neg hne, if_neg (by omega)]
  · rw [decide_eq_false h1]
    simp only [Bool.false_and]
    refine Ev.congr (f := fun _ => some false) (fun k => ?_) (Ev.now false)
    unfold spec_IsName.f
    rw [if_pos (by rw [Go.ByteArray.toList_eq]; exact List.eq_nil_of_length_eq_zero (by rw [data_length]; omega))]
theorem areAllName_loop (s : ByteArray) (hs : s.size ≤ 9223372036854775807) (l : List Int) : ∀ i : Nat, i ≤ s.size → (bytesOf s).drop i = l → Ev (fun k => impl_areAll_byte_at_impl_isNameByte.l0 k (bytesOf s) (s.size : Int) (i : Int)) (l.all nameB) := by
  induction l with
  | nil =>
    intro i hi hd
    have h2 := bytes_end s i hd hi
    refine Ev.step (f := fun _ => some true) (fun k => ?_) (by simpa using Ev.now true)
    simp only [impl_areAll_byte_at_impl_isNameByte.l0]
    rw [if_neg (by omega)]
  | cons c l ih =>
    intro i hi hd
    obtain ⟨hlt, _, hb, hd'⟩ := bytes_at s i c l hd
    rw [List.all_cons]
    cases hn : nameB c with
    | true =>
      rw [Bool.true_and]
      refine Ev.step (f := fun k => impl_areAll_byte_at_impl_isNameByte.l0 k (bytesOf s) (s.size : Int) ((i + 1 : Nat) : Int)) (fun k => ?_) (ih (i + 1) (by omega) hd')
      simp only [impl_areAll_byte_at_impl_isNameByte.l0]
      rw [if_pos (by omega), if_pos (by omega), if_pos (by rw [bytesOf_length]; omega), hb, impl_nameByte, hn, wrapn i s.size hlt hs]
      rfl
    | false =>
      rw [Bool.false_and]
      refine Ev.step (f := fun _ => some false) (fun k => ?_) (Ev.now false)
      simp only [impl_areAll_byte_at_impl_isNameByte.l0]
      rw [if_pos (by omega), if_pos (by omega), if_pos (by rw [bytesOf_length]; omega), hb, impl_nameByte, hn]
      rfl
theorem impl_isName (s : ByteArray) : Ev (fun k => impl_IsName.f k s) (isNameB s) := by
  unfold isNameB
  by_cases h1 : 1 ≤ s.size
  · by_cases h2 : s.size ≤ 12
    · rw [decide_eq_true h1, decide_eq_true h2]
      simp only [Bool.true_and]
      cases hl : letterB (bt s 0) with
      | true =>
        rw [Bool.true_and]
        have r := areAllName_loop s (by omega) (bytesOf s) 0 (by omega) rfl
        refine Ev.congr (f := fun k => (impl_areAll_byte_at_impl_isNameByte.f k (bytesOf s)).bind fun t => some t) (fun k => ?_) (Ev.bind (Ev.congr (fun k => ?_) r) (Ev.now _))
        · unfold impl_IsName.f
          rw [if_pos (by omega), if_pos (by omega), if_pos (by omega), impl_letter, hl, Option.bind_some, if_pos rfl, if_pos (by omega)]
        · unfold impl_areAll_byte_at_impl_isNameByte.f
          rw [bytesOf_length]
          rfl
      | false =>
        rw [Bool.false_and]
        refine Ev.congr (f := fun _ => some false) (fun k => ?_) (Ev.now false)
        unfold impl_IsName.f
        rw [if_pos (by omega), if_pos (by omega), if_pos (by omega), impl_letter, hl]
        rfl
    · rw [decide_eq_false h2]
      simp only [Bool.false_and, Bool.and_false]
      refine Ev.congr (f := fun _ => some false) (fun k => ?_) (Ev.now false)
      unfold impl_IsName.f
      rw [if_pos (by omega), if_neg (by omega)]
  · rw [decide_eq_false h1]
    simp only [Bool.false_and]
    refine Ev.congr (f := fun _ => some false) (fun k => ?_) (Ev.now false)
    unfold impl_IsName.f
    rw [if_neg (by omega)]
-- what a kind of patterns has (behind Name): the program's isArgument, kidsOf and the reference's l11Form, l11Node
set_option linter.unusedSimpArgs false in
theorem ev_three {α : Type} {g : Nat → Option α} {r : α} (h : ∀ k, g (k + 3) = some r) : Ev g r := ⟨3, fun n hn => by
  obtain ⟨m, rfl⟩ : ∃ m, n = m + 3 := ⟨n - 3, by omega⟩
  exact h m⟩
set_option linter.unusedSimpArgs false in
theorem arg_in (a b c : Int) : spec_l00In.f a b c = some (decide (b ≤ a) && decide (a ≤ c)) := by
  unfold spec_l00In.f
  by_cases h : b ≤ a <;> simp [h]
set_option linter.unusedSimpArgs false in
theorem arg_within (a b c : Int) : impl_within.f a b c = some (decide (b ≤ a ∧ a ≤ c)) := by
  unfold impl_within.f
  by_cases h : b ≤ a <;> simp [h]
def kidsN (a : Int) : Int := if a = 18 then 2 else if a = 19 then 2 else if a = 20 then 1 else if a = 21 then 1 else if a = 22 then 1 else 0
def restL (a : Int) : List UInt8 := if a ≤ 5 then [115] else if a ≤ 10 then [110] else if 21 ≤ a then [120] else []
def argB (a b : Int) (s : ByteArray) : Bool :=
  if a = 1 then (b == 0) && decide (s.size ≤ 200)
  else if 2 ≤ a ∧ a ≤ 5 then (b == 0) && (!(s.toList == ([] : List UInt8)) && decide (s.size ≤ 200))
  else if 6 ≤ a ∧ a ≤ 10 then (s.toList == ([] : List UInt8)) && (decide (0 ≤ b) && decide (b ≤ 200))
  else if 21 ≤ a ∧ a ≤ 24 then (b == 0) && isNameB s
  else decide (1 ≤ a ∧ a ≤ 24) && ((b == 0) && (s.toList == ([] : List UInt8)))
set_option linter.unusedSimpArgs false in
theorem impl_kids (a : Int) : Ev (fun k => impl_kidsOf.f k a) (kidsN a) := by
  unfold kidsN
  by_cases h1 : a = 18
  · subst h1
    exact ev_three fun k => rfl
  rw [if_neg h1]
  by_cases h2 : a = 19
  · subst h2
    exact ev_three fun k => rfl
  rw [if_neg h2]
  refine Ev.step (f := fun _ => some (if a = 20 then 1 else if a = 21 then 1 else if a = 22 then 1 else 0)) (fun k => ?_) (Ev.now _)
  unfold impl_kidsOf.f
  rw [if_neg h1, beq_eq_false_iff_ne.mpr h2]
  simp only [impl_kidsOf.j0]
  rw [if_neg (by simp)]
  by_cases h3 : a = 20
  · simp only [if_pos h3]
  by_cases h4 : a = 21
  · simp only [if_neg h3, if_pos h4]
  by_cases h5 : a = 22
  · simp only [if_neg h3, if_neg h4, if_pos h5]
  simp only [if_neg h3, if_neg h4, if_neg h5]
set_option linter.unusedSimpArgs false in
theorem impl_arg (a b : Int) (s : ByteArray) : Ev (fun k => impl_isArgument.f k a b s) (argB a b s) := by
  unfold impl_isArgument.f argB impl_isShort.f impl_hasSet.f impl_hasNumber.f impl_hasName.f impl_isPatternKind.f
  simp only [arg_within, Option.bind_some]
  have hz : (decide ((s.size : Int) ≤ 200)) = decide (s.size ≤ 200) := by rw [Bool.eq_iff_iff, decide_eq_true_iff, decide_eq_true_iff]; omega
  by_cases h1 : a = 1
  · simp only [if_pos h1]
    by_cases hb : b = 0
    · simp only [if_pos hb, beq_iff_eq.mpr hb, Bool.true_and, hz]
      exact Ev.now _
    · simp only [if_neg hb, beq_eq_false_iff_ne.mpr hb, Bool.false_and]
      exact Ev.now _
  simp only [if_neg h1]
  by_cases h2 : 2 ≤ a ∧ a ≤ 5
  · simp only [decide_eq_true h2, if_true, if_pos h2]
    by_cases hb : b = 0
    · by_cases hs : s.toList = []
      · simp only [if_pos hb, if_pos hs, beq_iff_eq.mpr hb, beq_iff_eq.mpr hs, Bool.true_and, Bool.not_true, Bool.false_and]
        exact Ev.now _
      · simp only [if_pos hb, if_neg hs, beq_iff_eq.mpr hb, beq_eq_false_iff_ne.mpr hs, Bool.true_and, Bool.not_false, hz]
        exact Ev.now _
    · simp only [if_neg hb, beq_eq_false_iff_ne.mpr hb, Bool.false_and]
      exact Ev.now _
  simp only [decide_eq_false h2, Bool.false_eq_true, if_false, if_neg h2]
  by_cases h3 : 6 ≤ a ∧ a ≤ 10
  · simp only [decide_eq_true h3, if_true, if_pos h3]
    by_cases hs : s.toList = []
    · simp only [if_pos hs, beq_iff_eq.mpr hs, Bool.true_and]
      rw [show (decide (0 ≤ b) && decide (b ≤ 200)) = decide (0 ≤ b ∧ b ≤ 200) by rw [Bool.eq_iff_iff]; simp]
      exact Ev.now _
    · simp only [if_neg hs, beq_eq_false_iff_ne.mpr hs, Bool.false_and]
      exact Ev.now _
  simp only [decide_eq_false h3, Bool.false_eq_true, if_false, if_neg h3]
  by_cases h4 : 21 ≤ a ∧ a ≤ 24
  · simp only [decide_eq_true h4, if_true, if_pos h4]
    by_cases hb : b = 0
    · simp only [if_pos hb, beq_iff_eq.mpr hb, Bool.true_and]
      exact Ev.bind (impl_isName s) (Ev.now _)
    · simp only [if_neg hb, beq_eq_false_iff_ne.mpr hb, Bool.false_and]
      exact Ev.now _
  simp only [decide_eq_false h4, Bool.false_eq_true, if_false, if_neg h4]
  by_cases h5 : 1 ≤ a ∧ a ≤ 24
  · simp only [decide_eq_true h5, if_true, Bool.true_and]
    by_cases hb : b = 0
    · simp only [if_pos hb, beq_iff_eq.mpr hb, Bool.true_and]
      exact Ev.now _
    · simp only [if_neg hb, beq_eq_false_iff_ne.mpr hb, Bool.false_and]
      exact Ev.now _
  · simp only [decide_eq_false h5, Bool.false_eq_true, if_false, Bool.false_and]
    exact Ev.now _
set_option linter.unusedSimpArgs false in
theorem spec_form (a : Int) (h : 1 ≤ a ∧ a ≤ 24) : ∃ r, Ev (fun k => spec_l11Form.f k a) (kidsN a, r) ∧ r.data.toList = restL a := by
  have w1 : wrap64 (0 + 1) = 1 := by unfold wrap64; omega
  have w2 : wrap64 (1 + 1) = 2 := by unfold wrap64; omega
  have h2 : a = 1 ∨ a = 2 ∨ a = 3 ∨ a = 4 ∨ a = 5 ∨ a = 6 ∨ a = 7 ∨ a = 8 ∨ a = 9 ∨ a = 10 ∨ a = 11 ∨ a = 12 ∨ a = 13 ∨ a = 14 ∨ a = 15 ∨ a = 16 ∨ a = 17 ∨ a = 18 ∨ a = 19 ∨ a = 20 ∨ a = 21 ∨ a = 22 ∨ a = 23 ∨ a = 24 := by omega
  rcases h2 with rfl | rfl | rfl | rfl | rfl | rfl | rfl | rfl | rfl | rfl | rfl | rfl | rfl | rfl | rfl | rfl | rfl | rfl | rfl | rfl | rfl | rfl | rfl | rfl <;>
    first
      | exact ⟨_, ev_three fun k => rfl, rfl⟩
      | (refine ⟨?_, ev_three fun k => ?_, ?_⟩
         rotate_left
         · simp only [spec_l11Form.f, spec_l11Word.f, spec_l11Form.l0, w1, w2]
           rfl
         · rfl)
set_option linter.unusedSimpArgs false in
theorem spec_node (a b : Int) (s : ByteArray) (l : List S30) : Ev (fun k => spec_l11Node.f k a b s l) (decide (1 ≤ a ∧ a ≤ 24) && (decide ((l.length : Int) = kidsN a) && argB a b s)) := by
  unfold spec_l11Node.f
  simp only [arg_in, Option.bind_some]
  by_cases h : 1 ≤ a ∧ a ≤ 24
  · obtain ⟨r, e, hr0⟩ := spec_form a h
    have hr : r.toList = restL a := by rw [Go.ByteArray.toList_eq]; exact hr0
    simp only [decide_eq_true h.1, decide_eq_true h.2, Bool.and_self, if_true, decide_eq_true h, Bool.true_and]
    refine Ev.bind e ?_
    simp only [hr]
    by_cases hk : (l.length : Int) = kidsN a
    · simp only [if_pos hk, decide_eq_true hk, Bool.true_and]
      unfold argB restL
      have hz : ((s.size : Int) ≤ 200) = (s.size ≤ 200) := by rw [eq_iff_iff]; omega
      by_cases h5 : a ≤ 5
      · simp only [if_pos h5, if_true]
        by_cases hb : b = 0
        · by_cases hq : s.size ≤ 200
          · by_cases h1 : a = 1
            · simp only [if_pos hb, hz, if_pos hq, if_pos h1, beq_iff_eq.mpr hb, decide_eq_true hq, Bool.and_self]
              exact Ev.now _
            · simp only [if_pos hb, hz, if_pos hq, if_neg h1, beq_iff_eq.mpr hb, decide_eq_true hq, if_pos (show 2 ≤ a ∧ a ≤ 5 by omega), Bool.true_and, Bool.and_true]
              exact Ev.now _
          · have e2 : (if a = 1 then (b == 0) && decide (s.size ≤ 200) else if 2 ≤ a ∧ a ≤ 5 then (b == 0) && (!(s.toList == ([] : List UInt8)) && decide (s.size ≤ 200)) else if 6 ≤ a ∧ a ≤ 10 then (s.toList == ([] : List UInt8)) && (decide (0 ≤ b) && decide (b ≤ 200)) else if 21 ≤ a ∧ a ≤ 24 then (b == 0) && isNameB s else decide (1 ≤ a ∧ a ≤ 24) && ((b == 0) && (s.toList == ([] : List UInt8)))) = false := by
              by_cases h1 : a = 1
              · rw [if_pos h1, decide_eq_false hq, Bool.and_false]
              · rw [if_neg h1, if_pos (show 2 ≤ a ∧ a ≤ 5 by omega), decide_eq_false hq, Bool.and_false, Bool.and_false]
            rw [e2]
            simp only [if_pos hb, hz, if_neg hq]
            exact Ev.now _
        · have e2 : (if a = 1 then (b == 0) && decide (s.size ≤ 200) else if 2 ≤ a ∧ a ≤ 5 then (b == 0) && (!(s.toList == ([] : List UInt8)) && decide (s.size ≤ 200)) else if 6 ≤ a ∧ a ≤ 10 then (s.toList == ([] : List UInt8)) && (decide (0 ≤ b) && decide (b ≤ 200)) else if 21 ≤ a ∧ a ≤ 24 then (b == 0) && isNameB s else decide (1 ≤ a ∧ a ≤ 24) && ((b == 0) && (s.toList == ([] : List UInt8)))) = false := by
            by_cases h1 : a = 1
            · rw [if_pos h1, beq_eq_false_iff_ne.mpr hb, Bool.false_and]
            · rw [if_neg h1, if_pos (show 2 ≤ a ∧ a ≤ 5 by omega), beq_eq_false_iff_ne.mpr hb, Bool.false_and]
          rw [e2]
          simp only [if_neg hb]
          exact Ev.now _
      · have n1 : ¬ a = 1 := by omega
        have n2 : ¬ (2 ≤ a ∧ a ≤ 5) := by omega
        simp only [if_neg h5, if_neg n1, if_neg n2]
        by_cases h6 : a ≤ 10
        · simp only [if_pos h6, if_pos (show 6 ≤ a ∧ a ≤ 10 by omega), show (([110] : List UInt8) = [115]) = False by simp, if_false, if_true]
          by_cases hs : s.toList = []
          · simp only [if_pos hs, beq_iff_eq.mpr hs, Bool.true_and]
            exact Ev.now _
          · simp only [if_neg hs, beq_eq_false_iff_ne.mpr hs, Bool.false_and]
            exact Ev.now _
        · simp only [if_neg h6, if_neg (show ¬ (6 ≤ a ∧ a ≤ 10) by omega)]
          by_cases h7 : 21 ≤ a
          · simp only [if_pos h7, if_pos (show 21 ≤ a ∧ a ≤ 24 by omega), show (([120] : List UInt8) = [115]) = False by simp, show (([120] : List UInt8) = [110]) = False by simp, if_false, if_true]
            by_cases hb : b = 0
            · simp only [if_pos hb, beq_iff_eq.mpr hb, Bool.true_and]
              exact Ev.bind (spec_isName s) (Ev.now _)
            · simp only [if_neg hb, beq_eq_false_iff_ne.mpr hb, Bool.false_and]
              exact Ev.now _
          · simp only [if_neg h7, if_neg (show ¬ (21 ≤ a ∧ a ≤ 24) by omega), show (([] : List UInt8) = [115]) = False by simp, show (([] : List UInt8) = [110]) = False by simp, show (([] : List UInt8) = [120]) = False by simp, if_false, decide_eq_true h, Bool.true_and]
            by_cases hb : b = 0
            · simp only [if_pos hb, beq_iff_eq.mpr hb, Bool.true_and]
              exact Ev.now _
            · simp only [if_neg hb, beq_eq_false_iff_ne.mpr hb, Bool.false_and]
              exact Ev.now _
    · simp only [if_neg hk, decide_eq_false hk, Bool.false_and]
      exact Ev.now _
  · rw [decide_eq_false h, Bool.false_and]
    have hb : (decide (1 ≤ a) && decide (a ≤ 24)) = false := by
      rw [Bool.and_eq_false_iff, decide_eq_false_iff_not, decide_eq_false_iff_not]
      omega
    simp only [hb, Bool.false_eq_true, if_false]
    exact Ev.now _
-- valid patterns (behind Tree of Pattern, Name, PatArg)
mutual
def nodesP : S30 → Nat
  | ⟨_, _, _, d⟩ => 1 + nodesPS d
def nodesPS : List S30 → Nat
  | [] => 0
  | x :: xs => nodesP x + nodesPS xs
end
mutual
def okP : S30 → Bool
  | ⟨a, b, c, d⟩ => (decide ((d.length : Int) = kidsN a) && argB a b c) && okPS d
def okPS : List S30 → Bool
  | [] => true
  | x :: xs => okP x && okPS xs
end
theorem nodesP_eq (x : S30) : nodesP x = 1 + nodesPS x.f3 := by cases x; simp [nodesP]
theorem okP_eq (x : S30) : okP x = ((decide ((x.f3.length : Int) = kidsN x.f0) && argB x.f0 x.f1 x.f2) && okPS x.f3) := by cases x; simp [okP]
theorem nodesPS_nil : nodesPS ([] : List S30) = 0 := by simp [nodesPS]
theorem nodesPS_cons (y : S30) (s : List S30) : nodesPS (y :: s) = nodesP y + nodesPS s := by simp [nodesPS]
theorem okPS_nil : okPS ([] : List S30) = true := by simp [okPS]
theorem okPS_cons (y : S30) (s : List S30) : okPS (y :: s) = (okP y && okPS s) := by simp [okPS]
theorem argB_range (a b : Int) (s : ByteArray) (h : argB a b s = true) : 1 ≤ a ∧ a ≤ 24 := by
  by_cases h5 : 1 ≤ a ∧ a ≤ 24
  · exact h5
  · exfalso
    unfold argB at h
    rw [if_neg (by omega), if_neg (by omega), if_neg (by omega), if_neg (by omega), decide_eq_false h5, Bool.false_and] at h
    cases h
theorem specV_loop (a b : Int) (c : ByteArray) (l : List S30) (hl : l.length ≤ 9223372036854775807) (limit : Int) (hlim : limit ≤ 60) (s : List S30) : ∀ (i : Nat) (n : Int), i ≤ l.length → l.drop i = s → 1 ≤ n → n ≤ limit →
    (∀ y, y ∈ s → ∀ lim : Int, 0 ≤ lim → lim ≤ 60 → Ev (fun k => spec_l11Valid.f k y.f0 y.f1 y.f2 y.f3 lim) (if okP y = true ∧ (nodesP y : Int) ≤ lim then (nodesP y : Int) else -1)) →
    Ev (fun k => spec_l11Valid.l0 k limit n (i : Int) a b c l) (if okPS s = true ∧ n + (nodesPS s : Int) ≤ limit then n + (nodesPS s : Int) else -1) := by
  induction s with
  | nil =>
    intro i n hi hd h1 h2 _
    have hi2 := drop30_end l i hd hi
    have e : (nodesPS ([] : List S30) : Int) = 0 := by rw [nodesPS_nil]; rfl
    rw [if_pos ⟨okPS_nil, by omega⟩, e, Int.add_zero]
    refine Ev.step (f := fun _ => some n) (fun k => ?_) (Ev.now _)
    simp only [spec_l11Valid.l0]
    rw [if_neg (by omega)]
  | cons y s ih =>
    intro i n hi hd h1 h2 hy
    obtain ⟨hlt, hrd, hd'⟩ := rd30_at l i y s hd
    have w : wrap64 (limit - n) = limit - n := by unfold wrap64; omega
    have e : (nodesPS (y :: s) : Int) = (nodesP y : Int) + (nodesPS s : Int) := by rw [nodesPS_cons]; omega
    have ey := hy y List.mem_cons_self (limit - n) (by omega) (by omega)
    refine Ev.step (f := fun k => (spec_l11Valid.f k y.f0 y.f1 y.f2 y.f3 (limit - n)).bind fun t => if t < 0 then some (-1) else spec_l11Valid.l0 k limit (wrap64 (n + t)) ((i + 1 : Nat) : Int) a b c l) (fun k => ?_) (Ev.bind ey ?_)
    · simp only [spec_l11Valid.l0]
      rw [if_pos (by omega), if_pos (by omega), hrd, w, wrapiPattern i l.length hlt hl]
    · by_cases q : okP y = true ∧ (nodesP y : Int) ≤ limit - n
      · rw [if_pos q]
        have w2 : wrap64 (n + (nodesP y : Int)) = n + (nodesP y : Int) := by unfold wrap64; omega
        have r := ih (i + 1) (n + (nodesP y : Int)) (by omega) hd' (by omega) (by omega) (fun z hz => hy z (List.mem_cons_of_mem _ hz))
        have v : (if okPS (y :: s) = true ∧ n + (nodesPS (y :: s) : Int) ≤ limit then n + (nodesPS (y :: s) : Int) else -1) = (if okPS s = true ∧ n + (nodesP y : Int) + (nodesPS s : Int) ≤ limit then n + (nodesP y : Int) + (nodesPS s : Int) else -1) := by
          rw [okPS_cons, q.1, Bool.true_and, e, Int.add_assoc]
        rw [v]
        refine Ev.congr (f := fun k => spec_l11Valid.l0 k limit (n + (nodesP y : Int)) ((i + 1 : Nat) : Int) a b c l) (fun k => ?_) r
        rw [if_neg (by omega), w2]
      · rw [if_neg q]
        rw [if_neg (fun z => q ⟨by have := z.1; rw [okPS_cons, Bool.and_eq_true] at this; exact this.1, by have := z.2; omega⟩)]
        exact Ev.congr (f := fun _ => some (-1)) (fun k => by rw [if_pos (by omega)]) (Ev.now _)
theorem specV_ev (x : S30) (g : FinePattern x) : ∀ lim : Int, 0 ≤ lim → lim ≤ 60 → Ev (fun k => spec_l11Valid.f k x.f0 x.f1 x.f2 x.f3 lim) (if okP x = true ∧ (nodesP x : Int) ≤ lim then (nodesP x : Int) else -1) := by
  induction g with
  | mk x h0 h1 h2 h3 h3k ih =>
    intro lim hl0 hl1
    have e := nodesP_eq x
    by_cases c : lim < 1
    · rw [if_neg (by omega)]
      refine Ev.step (f := fun k => spec_l11Valid.j0 k lim true x.f0 x.f1 x.f2 x.f3) (fun k => ?_) (Ev.step (f := fun _ => some (-1)) (fun k => ?_) (Ev.now _))
      · simp only [spec_l11Valid.f]
        rw [if_pos c]
      · simp only [spec_l11Valid.j0]
        rw [if_pos trivial]
    · refine Ev.step (f := fun k => (spec_l11Node.f k x.f0 x.f1 x.f2 x.f3).bind fun t => spec_l11Valid.j0 k lim (!t) x.f0 x.f1 x.f2 x.f3) (fun k => ?_) (Ev.bind (spec_node x.f0 x.f1 x.f2 x.f3) ?_)
      · simp only [spec_l11Valid.f]
        rw [if_neg c]
      · cases hn : (decide ((x.f3.length : Int) = kidsN x.f0) && argB x.f0 x.f1 x.f2) with
        | true =>
          have hr := argB_range x.f0 x.f1 x.f2 (by rw [Bool.and_eq_true] at hn; exact hn.2)
          rw [decide_eq_true hr, Bool.true_and]
          refine Ev.step (f := fun k => spec_l11Valid.l0 k lim 1 ((0 : Nat) : Int) x.f0 x.f1 x.f2 x.f3) (fun k => ?_) ?_
          · simp only [spec_l11Valid.j0]
            rw [if_neg (by simp)]
            first | done | rfl
          · have r := specV_loop x.f0 x.f1 x.f2 x.f3 h3 lim hl1 x.f3 0 1 (by omega) rfl (by omega) (by omega) (fun y hy lim' a b => ih y hy lim' a b)
            have v : (if okP x = true ∧ (nodesP x : Int) ≤ lim then (nodesP x : Int) else -1) = (if okPS x.f3 = true ∧ 1 + (nodesPS x.f3 : Int) ≤ lim then 1 + (nodesPS x.f3 : Int) else -1) := by
              have e2 : (nodesP x : Int) = 1 + (nodesPS x.f3 : Int) := by omega
              rw [okP_eq, hn, Bool.true_and, e2]
            rw [v]
            exact r
        | false =>
          rw [Bool.and_false, if_neg (fun z => by have := z.1; rw [okP_eq, hn] at this; cases this)]
          refine Ev.step (f := fun _ => some (-1)) (fun k => ?_) (Ev.now _)
          simp only [spec_l11Valid.j0]
          rw [if_pos (by simp)]
theorem implV_loop (l : List S30) (hl : l.length ≤ 9223372036854775807) (s : List S30) : ∀ (i : Nat) (n : Int), i ≤ l.length → l.drop i = s → 0 ≤ n → n ≤ 60 →
    (∀ y, y ∈ s → ∀ m : Int, 0 ≤ m → m ≤ 60 → Ev (fun k => impl_countPattern.f k y.f0 y.f1 y.f2 y.f3 m) (if okP y = true ∧ m + (nodesP y : Int) ≤ 60 then m + (nodesP y : Int) else 61)) →
    Ev (fun k => impl_countPattern.l0 k n l (l.length : Int) (i : Int)) (if okPS s = true ∧ n + (nodesPS s : Int) ≤ 60 then n + (nodesPS s : Int) else 61) := by
  induction s with
  | nil =>
    intro i n hi hd h1 h2 _
    have hi2 := drop30_end l i hd hi
    have e : (nodesPS ([] : List S30) : Int) = 0 := by rw [nodesPS_nil]; rfl
    rw [if_pos ⟨okPS_nil, by omega⟩, e, Int.add_zero]
    refine Ev.step (f := fun _ => some n) (fun k => ?_) (Ev.now _)
    simp only [impl_countPattern.l0]
    rw [if_neg (by omega)]
  | cons y s ih =>
    intro i n hi hd h1 h2 hy
    obtain ⟨hlt, hrd, hd'⟩ := rd30_at l i y s hd
    have e : (nodesPS (y :: s) : Int) = (nodesP y : Int) + (nodesPS s : Int) := by rw [nodesPS_cons]; omega
    have ey := hy y List.mem_cons_self n h1 h2
    refine Ev.step (f := fun k => (impl_countPattern.f k y.f0 y.f1 y.f2 y.f3 n).bind fun t => if t > 60 then some t else impl_countPattern.l0 k t l (l.length : Int) ((i + 1 : Nat) : Int)) (fun k => ?_) (Ev.bind ey ?_)
    · simp only [impl_countPattern.l0]
      rw [if_pos (by omega), if_pos (by omega), if_pos (by omega), hrd, wrapiPattern i l.length hlt hl]
    · by_cases q : okP y = true ∧ n + (nodesP y : Int) ≤ 60
      · rw [if_pos q]
        have r := ih (i + 1) (n + (nodesP y : Int)) (by omega) hd' (by omega) (by omega) (fun z hz => hy z (List.mem_cons_of_mem _ hz))
        have v : (if okPS (y :: s) = true ∧ n + (nodesPS (y :: s) : Int) ≤ 60 then n + (nodesPS (y :: s) : Int) else 61) = (if okPS s = true ∧ n + (nodesP y : Int) + (nodesPS s : Int) ≤ 60 then n + (nodesP y : Int) + (nodesPS s : Int) else 61) := by
          rw [okPS_cons, q.1, Bool.true_and, e, Int.add_assoc]
        rw [v]
        refine Ev.congr (f := fun k => impl_countPattern.l0 k (n + (nodesP y : Int)) l (l.length : Int) ((i + 1 : Nat) : Int)) (fun k => ?_) r
        rw [if_neg (by omega)]
      · rw [if_neg q]
        rw [if_neg (fun z => q ⟨by have := z.1; rw [okPS_cons, Bool.and_eq_true] at this; exact this.1, by have := z.2; omega⟩)]
        exact Ev.congr (f := fun _ => some 61) (fun k => by rw [if_pos (by omega)]) (Ev.now _)
theorem implV_ev (x : S30) (g : FinePattern x) : ∀ m : Int, 0 ≤ m → m ≤ 60 → Ev (fun k => impl_countPattern.f k x.f0 x.f1 x.f2 x.f3 m) (if okP x = true ∧ m + (nodesP x : Int) ≤ 60 then m + (nodesP x : Int) else 61) := by
  induction g with
  | mk x h0 h1 h2 h3 h3k ih =>
    intro m hm0 hm1
    have e := nodesP_eq x
    have w : wrap64 (m + 1) = m + 1 := by unfold wrap64; omega
    have no : ∀ m' : Int, Ev (fun k => impl_countPattern.j0 k m' true x.f0 x.f1 x.f2 x.f3) 61 := fun m' => Ev.step (f := fun _ => some 61) (fun k => by simp only [impl_countPattern.j0]; rw [if_pos trivial]) (Ev.now _)
    by_cases c : m + 1 > 60
    · rw [if_neg (by omega)]
      refine Ev.step (f := fun k => impl_countPattern.j0 k (m + 1) true x.f0 x.f1 x.f2 x.f3) (fun k => ?_) (no _)
      simp only [impl_countPattern.f]
      rw [w, if_pos c]
    · refine Ev.step (f := fun k => (impl_isArgument.f k x.f0 x.f1 x.f2).bind fun t => if t = true then (impl_kidsOf.f k x.f0).bind fun u => impl_countPattern.j0 k (m + 1) ((x.f3.length : Int) != u) x.f0 x.f1 x.f2 x.f3 else impl_countPattern.j0 k (m + 1) true x.f0 x.f1 x.f2 x.f3) (fun k => ?_) (Ev.bind (impl_arg x.f0 x.f1 x.f2) ?_)
      · simp only [impl_countPattern.f]
        rw [w, if_neg c]
      · cases ha : argB x.f0 x.f1 x.f2 with
        | false =>
          rw [if_neg (fun z => by have := z.1; rw [okP_eq, ha, Bool.and_false, Bool.false_and] at this; cases this)]
          exact Ev.congr (fun k => by rw [if_neg (by simp)]) (no (m + 1))
        | true =>
          simp only [if_true]
          refine Ev.bind (impl_kids x.f0) ?_
          by_cases hk : (x.f3.length : Int) = kidsN x.f0
          · have hb : ((x.f3.length : Int) != kidsN x.f0) = false := bne_eq_false_iff_eq.mpr hk
            rw [hb]
            refine Ev.step (f := fun k => impl_countPattern.l0 k (m + 1) x.f3 (x.f3.length : Int) ((0 : Nat) : Int)) (fun k => ?_) ?_
            · simp only [impl_countPattern.j0]
              rw [if_neg (by simp)]
              first | done | rfl
            · have r := implV_loop x.f3 h3 x.f3 0 (m + 1) (by omega) rfl (by omega) (by omega) (fun y hy m' a b => ih y hy m' a b)
              have v : (if okP x = true ∧ m + (nodesP x : Int) ≤ 60 then m + (nodesP x : Int) else 61) = (if okPS x.f3 = true ∧ m + 1 + (nodesPS x.f3 : Int) ≤ 60 then m + 1 + (nodesPS x.f3 : Int) else 61) := by
                have e2 : m + (nodesP x : Int) = m + 1 + (nodesPS x.f3 : Int) := by omega
                rw [okP_eq, ha, decide_eq_true hk, Bool.true_and, Bool.true_and, e2]
              rw [v]
              exact r
          · have hb : ((x.f3.length : Int) != kidsN x.f0) = true := bne_iff_ne.mpr hk
            rw [hb, if_neg (fun z => by have := z.1; rw [okP_eq, decide_eq_false hk, Bool.false_and, Bool.false_and] at this; cases this)]
            exact no (m + 1)
def validP (x : S30) : Bool := decide (okP x = true ∧ (nodesP x : Int) ≤ 60)
theorem spec_validP (x : S30) (g : FinePattern x) : Ev (fun k => spec_ValidPattern.f k x.f0 x.f1 x.f2 x.f3) (validP x) := by
  unfold spec_ValidPattern.f validP
  refine Ev.bind (specV_ev x g 60 (by omega) (by omega)) ?_
  have e := nodesP_eq x
  by_cases q : okP x = true ∧ (nodesP x : Int) ≤ 60
  · rw [if_pos q, decide_eq_true q, decide_eq_true (by omega)]
    exact Ev.now _
  · rw [if_neg q, decide_eq_false q, decide_eq_false (by omega)]
    exact Ev.now _
theorem impl_validP (x : S30) (g : FinePattern x) : Ev (fun k => impl_ValidPattern.f k x.f0 x.f1 x.f2 x.f3) (validP x) := by
  unfold impl_ValidPattern.f validP
  refine Ev.bind (implV_ev x g 0 (by omega) (by omega)) ?_
  rw [Int.zero_add]
  by_cases q : okP x = true ∧ (nodesP x : Int) ≤ 60
  · rw [if_pos q, decide_eq_true q, decide_eq_true q.2]
    exact Ev.now _
  · rw [if_neg q, decide_eq_false q, decide_eq_false (by omega)]
    exact Ev.now _

-- []string: eqStringS, markText, markStringS, heldStringS of the laws
theorem eqStringS_loop (l : List ByteArray) (hl : l.length ≤ 9223372036854775807) (d : Nat) : ∀ i : Nat, i + d = l.length → Ev (fun k => laws_eqStringS.l0 k l l (i : Int)) true := by
  induction d with
  | zero =>
    intro i hi
    refine Ev.step (f := fun _ => some true) (fun k => ?_) (Ev.now true)
    simp only [laws_eqStringS.l0]
    rw [if_neg (by omega)]
  | succ d ih =>
    intro i hi
    refine Ev.step (f := fun k => laws_eqStringS.l0 k l l ((i + 1 : Nat) : Int)) (fun k => ?_) (ih (i + 1) (by omega))
    simp only [laws_eqStringS.l0]
    rw [if_pos (by omega), if_pos (by omega), if_pos (by omega), if_pos trivial, show wrap64 ((i : Int) + 1) = ((i + 1 : Nat) : Int) by unfold wrap64; omega]
theorem eqStringS_ev (l : List ByteArray) (hl : l.length ≤ 9223372036854775807) : Ev (fun k => laws_eqStringS.f k l l) true := by
  refine Ev.congr (f := fun k => laws_eqStringS.l0 k l l ((0 : Nat) : Int)) (fun k => ?_) (eqStringS_loop l hl l.length 0 (by omega))
  unfold laws_eqStringS.f
  rw [if_pos rfl]
  rfl
theorem strOfNums_one (c : Int) : (strOfNums [c]).size = 1 := by
  unfold strOfNums
  rfl
theorem markText_loop (d : Nat) : ∀ (n : Int) (t : ByteArray), n < 10 ^ d → n ≤ 9223372036854775807 → t.size + d ≤ 1000 → ∃ r, Ev (fun k => laws_markText.l0 k n t) r := by
  induction d with
  | zero =>
    intro n t hn _ ht
    refine ⟨_, Ev.step (f := fun _ => some ((⟨#[109]⟩ : ByteArray) ++ t)) (fun k => ?_) (Ev.now _)⟩
    simp only [laws_markText.l0]
    rw [if_neg (by omega), if_pos (by omega)]
  | succ d ih =>
    intro n t hn hm ht
    by_cases h : n > 0
    · have hw : wrap64 (Int.tdiv n 10) = n / 10 := by
        rw [Int.tdiv_eq_ediv_of_nonneg (by omega)]
        unfold wrap64
        omega
      have hp : (10 : Int) ^ (d + 1) = 10 ^ d * 10 := by rw [Int.pow_succ]
      have h2 : n / 10 < 10 ^ d := by
        rw [hp] at hn
        exact Int.ediv_lt_of_lt_mul (by omega) hn
      obtain ⟨r, hr⟩ := ih (n / 10) (strOfNums [(wrap64 (48 + Int.tmod n 10)) % 256] ++ t) h2 (by omega) (by rw [ByteArray.size_append, strOfNums_one]; omega)
      refine ⟨r, Ev.step (f := fun k => laws_markText.l0 k (n / 10) (strOfNums [(wrap64 (48 + Int.tmod n 10)) % 256] ++ t)) (fun k => ?_) hr⟩
      simp only [laws_markText.l0]
      rw [if_pos h, hw, Option.bind_some, if_pos (by rw [strOfNums_one]; omega)]
    · refine ⟨_, Ev.step (f := fun _ => some ((⟨#[109]⟩ : ByteArray) ++ t)) (fun k => ?_) (Ev.now _)⟩
      simp only [laws_markText.l0]
      rw [if_neg h, if_pos (by omega)]
theorem markText_ev (n : Int) (hn : n ≤ 9223372036854775807) : ∃ r, Ev (fun k => laws_markText.f k n) r := by
  by_cases h : n ≤ 0
  · refine ⟨(⟨#[109, 48]⟩ : ByteArray), Ev.congr (f := fun _ => some (⟨#[109, 48]⟩ : ByteArray)) (fun k => ?_) (Ev.now _)⟩
    unfold laws_markText.f
    rw [if_pos h]
  · have hp : (10 : Int) ^ 19 = 10000000000000000000 := by decide
    obtain ⟨r, hr⟩ := markText_loop 19 n (⟨#[]⟩ : ByteArray) (by omega) hn (by show 0 + 19 ≤ 1000; omega)
    refine ⟨r, Ev.congr (fun k => ?_) hr⟩
    unfold laws_markText.f
    rw [if_neg h]
theorem markStringS_loop (d : Nat) : ∀ (l : List ByteArray) (i : Nat), i + d = l.length → l.length ≤ 9223372036854775000 → ∃ r, Ev (fun k => laws_markStringS.l0 k l ((i + 1 : Nat) : Int) (i : Int)) (((l.length + 1 : Nat) : Int), r) ∧ r.length = l.length ∧ (∀ j, j < i → r[j]? = l[j]?) ∧
    ∀ j, i ≤ j → j < l.length → ∃ t, r[j]? = some t ∧ Ev (fun k => laws_markText.f k ((j + 1 : Nat) : Int)) t := by
  induction d with
  | zero =>
    intro l i hi hl
    refine ⟨l, Ev.step (f := fun _ => some (((l.length + 1 : Nat) : Int), l)) (fun k => ?_) (Ev.now _), rfl, fun _ _ => rfl, fun j h1 h2 => by omega⟩
    simp only [laws_markStringS.l0]
    rw [if_neg (by omega), show i = l.length by omega]
  | succ d ih =>
    intro l i hi hl
    obtain ⟨t, ht⟩ := markText_ev ((i + 1 : Nat) : Int) (by omega)
    obtain ⟨r, hr, hrl, hlo, hhi⟩ := ih (l.set i t) (i + 1) (by rw [List.length_set]; omega) (by rw [List.length_set]; omega)
    rw [List.length_set] at hr hrl hhi
    refine ⟨r, Ev.step (f := fun k => (laws_markText.f k ((i + 1 : Nat) : Int)).bind fun u => laws_markStringS.l0 k (l.set i u) ((i + 1 + 1 : Nat) : Int) ((i + 1 : Nat) : Int)) (fun k => ?_) (Ev.bind ht hr), hrl, fun j hj => ?_, fun j h1 h2 => ?_⟩
    · simp only [laws_markStringS.l0]
      rw [if_pos (by omega), show wrap64 ((i : Int) + 1) = ((i + 1 : Nat) : Int) by unfold wrap64; omega, show wrap64 (((i + 1 : Nat) : Int) + 1) = ((i + 1 + 1 : Nat) : Int) by unfold wrap64; omega]
      first | rfl | (congr 1; funext u; rw [if_pos (by omega), Int.toNat_natCast])
    · rw [hlo j (by omega), List.getElem?_set_ne (by omega)]
    · by_cases hj : j = i
      · subst hj
        refine ⟨t, ?_, ht⟩
        rw [hlo j (by omega), List.getElem?_set_self (by omega)]
      · exact hhi j (by omega) h2
theorem heldStringS_loop (r : List ByteArray) (hl : r.length ≤ 9223372036854775000) (hr : ∀ j, j < r.length → ∃ t, r[j]? = some t ∧ Ev (fun k => laws_markText.f k ((j + 1 : Nat) : Int)) t) (d : Nat) : ∀ i : Nat, i + d = r.length → Ev (fun k => laws_heldStringS.l0 k r ((i + 1 : Nat) : Int) (i : Int)) ((r.length + 1 : Nat) : Int) := by
  induction d with
  | zero =>
    intro i hi
    refine Ev.step (f := fun _ => some ((i + 1 : Nat) : Int)) (fun k => ?_) (by rw [show r.length = i by omega]; exact Ev.now _)
    simp only [laws_heldStringS.l0]
    rw [if_neg (by omega)]
  | succ d ih =>
    intro i hi
    obtain ⟨t, h1, h2⟩ := hr i (by omega)
    have hrd : rdOf ByteArray.empty r (i : Int) = t := by
      unfold rdOf
      rw [Int.toNat_natCast, List.getD_eq_getElem?_getD, h1]
      rfl
    refine Ev.step (f := fun k => (laws_markText.f k ((i + 1 : Nat) : Int)).bind fun u => if t.toList = u.toList then laws_heldStringS.l0 k r ((i + 1 + 1 : Nat) : Int) ((i + 1 : Nat) : Int) else some (-1)) (fun k => ?_) (Ev.bind h2 ?_)
    · simp only [laws_heldStringS.l0]
      rw [if_pos (by omega), if_pos (by omega), hrd, show wrap64 ((i : Int) + 1) = ((i + 1 : Nat) : Int) by unfold wrap64; omega, show wrap64 (((i + 1 : Nat) : Int) + 1) = ((i + 1 + 1 : Nat) : Int) by unfold wrap64; omega]
    · exact Ev.congr (fun k => by rw [if_pos rfl]) (ih (i + 1) (by omega))
/-- What is marked is held. -/
theorem marks_ev (l : List ByteArray) (hl : l.length ≤ 9223372036854775000) : ∃ r, Ev (fun k => laws_markStringS.f k l 1) (((l.length + 1 : Nat) : Int), r) ∧ Ev (fun k => laws_heldStringS.f k r 1) ((l.length + 1 : Nat) : Int) := by
  obtain ⟨r, h1, h2, _, h4⟩ := markStringS_loop l.length l 0 (by omega) hl
  refine ⟨r, h1, ?_⟩
  have := heldStringS_loop r (by omega) (fun j hj => h4 j (by omega) (by omega)) r.length 0 (by omega)
  rw [h2] at this
  exact this

/-! ### laws.markPatternS: marks laid into a tree that came in, by hand -/
mutual
def cntT : S30 → Nat
  | ⟨_, _, _, d⟩ => 1 + cntL d
def cntL : List S30 → Nat
  | [] => 0
  | x :: xs => cntT x + cntL xs
end
theorem cntT_eq (x : S30) : cntT x = 1 + cntL x.f3 := by cases x; simp [cntT]
theorem cntL_take (xs : List S30) (i : Nat) (x : S30) (h : xs[i]? = some x) : cntL (xs.take (i + 1)) = cntL (xs.take i) + (1 + cntL x.f3) := by
  induction xs generalizing i with
  | nil => simp at h
  | cons y ys ih =>
    cases i with
    | zero =>
      obtain rfl : y = x := by simpa using h
      simp [cntL, cntT_eq]
    | succ i =>
      have := ih i (by simpa using h)
      simp only [List.take_succ_cons, cntL]
      omega
theorem cntL_mem (xs : List S30) (i : Nat) (x : S30) (h : xs[i]? = some x) : cntL (xs.take i) + (1 + cntL x.f3) ≤ cntL xs := by
  induction xs generalizing i with
  | nil => simp at h
  | cons y ys ih =>
    cases i with
    | zero =>
      obtain rfl : y = x := by simpa using h
      simp [cntL, cntT_eq]
    | succ i =>
      have := ih i (by simpa using h)
      simp only [List.take_succ_cons, cntL]
      omega
theorem len_cnt (xs : List S30) : xs.length ≤ cntL xs := by
  induction xs with
  | nil => simp [cntL]
  | cons y ys ih =>
    simp only [List.length_cons, cntL, cntT_eq]
    omega
/-- An element of a tree's row that may be marked: its cells' kinds, and the row of its kids. -/
structure Elt (w : World) (lo hi b m : Nat) (v : Value) : Prop where
  lo_ : lo ≤ b
  hi_ : b < hi
  c0 : ∃ x, w.cell? ⟨b, m * 4 + 0, none⟩ = some (.int .i64 x)
  c1 : ∃ x, w.cell? ⟨b, m * 4 + 1, none⟩ = some (.int .i64 x)
  c2 : ∃ x, w.cell? ⟨b, m * 4 + 2, none⟩ = some (.string x)
  c3 : w.cell? ⟨b, m * 4 + 3, none⟩ = some v
  fz : ∀ j, w.frozen? ⟨b, j, none⟩ = false
inductive Shp (w : World) (lo hi : Nat) : Value → List S30 → Prop where
  | nil (A : Option Addr) (c : Nat) : Shp w lo hi (.slice A 0 c) []
  | row (b c : Nat) (xs : List S30) (vs : Nat → Value) (hE : ∀ i x, xs[i]? = some x → Elt w lo hi b i (vs i)) (hS : ∀ i x, xs[i]? = some x → Shp w lo hi (vs i) x.f3) : Shp w lo hi (.slice (some ⟨b, 0, none⟩) xs.length c) xs
theorem Shp.inv {w : World} {lo hi : Nat} {v : Value} {xs : List S30} (h : Shp w lo hi v xs) : ∃ A c, v = .slice A xs.length c ∧ ∀ i x, xs[i]? = some x → ∃ b u, A = some ⟨b, 0, none⟩ ∧ Elt w lo hi b i u ∧ Shp w lo hi u x.f3 := by
  cases h with
  | nil A c => exact ⟨A, c, rfl, fun i x hx => by simp at hx⟩
  | row b c xs vs hE hS => exact ⟨_, c, rfl, fun i x hx => ⟨b, vs i, rfl, hE i x hx, hS i x hx⟩⟩
theorem Elt.below {w w1 : World} {lo hi b m : Nat} {v : Value} (e : Elt w lo hi b m v) (hb : Below w.heap.size w w1) : Elt w1 lo hi b m v := by
  have hl : b < w.heap.size := World.block_lt_of_cell? w _ e.c3
  have c (q : Nat) : w1.cell? ⟨b, q, none⟩ = w.cell? ⟨b, q, none⟩ := hb.cell (p := ⟨b, q, none⟩) hl
  exact ⟨e.lo_, e.hi_, by rw [c]; exact e.c0, by rw [c]; exact e.c1, by rw [c]; exact e.c2, by rw [c]; exact e.c3, fun j => (hb.frozen (p := ⟨b, j, none⟩) hl).trans (e.fz j)⟩
theorem Elt.set {w : World} {lo hi b' m' : Nat} {v : Value} (e : Elt w lo hi b' m' v) {b m j : Nat} {u : Value} (hk : (j < 2 ∧ ∃ x, u = .int .i64 x) ∨ (j = 2 ∧ ∃ x, u = .string x)) : Elt (w.setCell ⟨b, m * 4 + j, none⟩ u) lo hi b' m' v := by
  have far : ∀ q (x : Value), w.cell? ⟨b', m' * 4 + q, none⟩ = some x → (⟨b, m * 4 + j, none⟩ : Addr) ≠ ⟨b', m' * 4 + q, none⟩ → (w.setCell ⟨b, m * 4 + j, none⟩ u).cell? ⟨b', m' * 4 + q, none⟩ = some x := fun q x h hn => (World.cell?_setCell_other _ _ _ _ hn).trans h
  have same : ∀ q (x : Value), w.cell? ⟨b', m' * 4 + q, none⟩ = some x → (⟨b, m * 4 + j, none⟩ : Addr) = ⟨b', m' * 4 + q, none⟩ → (w.setCell ⟨b, m * 4 + j, none⟩ u).cell? ⟨b', m' * 4 + q, none⟩ = some u := fun q x h he => by rw [he]; exact World.cell?_setCell_same _ _ _ h
  refine ⟨e.lo_, e.hi_, ?_, ?_, ?_, ?_, fun q => by rw [World.frozen?_setCell]; exact e.fz q⟩
  · obtain ⟨x, hx⟩ := e.c0
    by_cases he : (⟨b, m * 4 + j, none⟩ : Addr) = ⟨b', m' * 4 + 0, none⟩
    · rcases hk with ⟨_, y, rfl⟩ | ⟨rfl, _⟩
      · exact ⟨y, same 0 _ hx he⟩
      · injection he with _ he2
        omega
    · exact ⟨x, far 0 _ hx he⟩
  · obtain ⟨x, hx⟩ := e.c1
    by_cases he : (⟨b, m * 4 + j, none⟩ : Addr) = ⟨b', m' * 4 + 1, none⟩
    · rcases hk with ⟨_, y, rfl⟩ | ⟨rfl, _⟩
      · exact ⟨y, same 1 _ hx he⟩
      · injection he with _ he2
        omega
    · exact ⟨x, far 1 _ hx he⟩
  · obtain ⟨x, hx⟩ := e.c2
    by_cases he : (⟨b, m * 4 + j, none⟩ : Addr) = ⟨b', m' * 4 + 2, none⟩
    · rcases hk with ⟨hj, _⟩ | ⟨_, y, rfl⟩
      · injection he with _ he2
        omega
      · exact ⟨y, same 2 _ hx he⟩
    · exact ⟨x, far 2 _ hx he⟩
  · refine far 3 _ e.c3 (fun he => ?_)
    injection he with _ he2
    rcases hk with ⟨hj, _⟩ | ⟨hj, _⟩ <;> omega
/-- What laying marks between blocks lo and hi leaves. -/
structure Mk (lo hi : Nat) (w w' : World) : Prop where
  bel : Below lo w w'
  out : ∀ j, hi ≤ j → j < w.heap.size → w'.heap[j]? = w.heap[j]?
  shp : ∀ v xs, Shp w lo hi v xs → Shp w' lo hi v xs
theorem Mk.refl (lo hi : Nat) (w : World) : Mk lo hi w w := ⟨Below.refl _ _, fun _ _ _ => rfl, fun _ _ h => h⟩
theorem Mk.trans {lo hi : Nat} {a b c : World} (h : Mk lo hi a b) (k : Mk lo hi b c) : Mk lo hi a c :=
  ⟨h.bel.trans k.bel, fun j h1 h2 => (k.out j h1 (Nat.lt_of_lt_of_le h2 h.bel.size)).trans (h.out j h1 h2), fun v xs hs => k.shp v xs (h.shp v xs hs)⟩
theorem Mk.of_below {lo hi : Nat} {w w' : World} (hb : Below w.heap.size w w') (hlo : lo ≤ w.heap.size) : Mk lo hi w w' := by
  refine ⟨hb.mono hlo, fun j _ h2 => hb.block j h2, fun v xs hs => ?_⟩
  induction hs with
  | nil A c => exact .nil A c
  | row b c xs vs hE hS ih => exact .row b c xs vs (fun i x hx => (hE i x hx).below hb) (fun i x hx => ih i x hx)
theorem Mk.set {lo hi : Nat} {w : World} {b m j : Nat} {u : Value} (h1 : lo ≤ b) (h2 : b < hi) (hk : (j < 2 ∧ ∃ x, u = .int .i64 x) ∨ (j = 2 ∧ ∃ x, u = .string x)) : Mk lo hi w (w.setCell ⟨b, m * 4 + j, none⟩ u) := by
  refine ⟨(Below.refl lo w).setCell (p := ⟨b, m * 4 + j, none⟩) h1 u, fun q hq _ => Below.heap_setCell w _ u q (show q ≠ b by omega), fun v xs hs => ?_⟩
  induction hs with
  | nil A c => exact .nil A c
  | row b' c xs vs hE hS ih => exact .row b' c xs vs (fun i x hx => (hE i x hx).set hk) (fun i x hx => ih i x hx)
/-- A row of the call's own has a shape. -/
theorem Shp.of_R {w : World} {lo hi : Nat} : ∀ (n : Nat) (xs : List S30), cntL xs ≤ n → ∀ v, Kd.R k30 30 w lo (fun k => lo ≤ k ∧ k < hi) v xs → Shp w lo hi v xs := by
  intro n
  induction n using Nat.strongRecOn with
  | _ n ih =>
  intro xs hn v h
  by_cases h0 : 0 < xs.length
  · obtain ⟨g, cap, rfl, hlo, hgl, _⟩ := Kd.R_form h h0
    have hg : lo ≤ g ∧ g < hi := h.1 g (by simp [Value.ownBlock])
    have key : ∀ i : Nat, ∃ u : Value, ∀ x, xs[i]? = some x → Elt w lo hi g i u ∧ Shp w lo hi u x.f3 := by
      intro i
      by_cases hi2 : i < xs.length
      · obtain ⟨c, hcl, hM, hcc, hfr⟩ := Kd.R_elem h z30 (i : Int) (by omega) (by omega)
        obtain ⟨v3, rfl, o3⟩ := k30_openM hM
        refine ⟨v3, fun x hx => ?_⟩
        have hxe : xs.getD ((i : Int)).toNat z30 = x := by
          rw [List.getD_eq_getElem?_getD, Int.toNat_natCast, hx]
          rfl
        rw [hxe] at o3
        refine ⟨⟨hg.1, hg.2, ⟨_, hcc 0 _ rfl⟩, ⟨_, hcc 1 _ rfl⟩, ⟨_, hcc 2 _ rfl⟩, hcc 3 _ rfl, fun j => ?_⟩, ?_⟩
        · obtain ⟨_, inner, ho, _⟩ := h
          obtain ⟨cells, hc⟩ := own_typed ho g (by simp [Value.ownBlock])
          exact blk_frozen hc j
        · have hle := cntL_mem xs i x hx
          exact ih (cntL x.f3) (by omega) x.f3 (Nat.le_refl _) v3 (Kd.R_mono o3 (fun _ hk => hk.1))
      · exact ⟨.slice none 0 0, fun x hx => by rw [List.getElem?_eq_none (by omega)] at hx; cases hx⟩
    have hvs := fun i => Classical.choose_spec (key i)
    exact .row g cap xs (fun i => Classical.choose (key i)) (fun i x hx => (hvs i x hx).1) (fun i x hx => (hvs i x hx).2)
  · obtain rfl : xs = [] := List.length_eq_zero_iff.1 (by omega)
    obtain ⟨A, c, rfl⟩ := Kd.R_slice h
    exact .nil A c
/-- A mark laid into one cell. -/
theorem mark_event {P : Program} {ops : Array Oper} {rest : List Oper} {o : Oper} {a : Act} {w : World} {Q : Exit → Act → World → Prop} (hgd : o.guard = none) (ty : TypeId) (x y : Operand) (ho : o.op = .store ty x y)
    (A : Addr) (b off : Nat) (u old : Value) (hx : a.eval x = .pointer (some A)) (hA : A = ⟨b, off, none⟩) (hy : a.eval y = u) (hu : u.cells = #[u]) (h1 : u.oneCell' = true) (hi : (P.info? ty).map (·.size) = some 1)
    (hc : w.cell? ⟨b, off, none⟩ = some old) (hf : w.frozen? ⟨b, off, none⟩ = false)
    (h : ∀ w2 : World, w2 = w.setCell ⟨b, off, none⟩ u → wpList P ops Q rest (a.put o.dst undef) w2) : wpList P ops Q (o :: rest) a w :=
  wpList_plain hgd fun _ hK => by
    subst hA
    have hadd : (⟨b, off, none⟩ : Addr).add 0 = ⟨b, off, none⟩ := by unfold Addr.add; simp
    have hsv : (storeVar ty ⟨b, off, none⟩ u).run P w = .ok () (w.setCell ⟨b, off, none⟩ u) := by
      cases hq : P.info? ty with
      | none => simp [hq] at hi
      | some i =>
        have hs : i.size = 1 := by simpa [hq] using hi
        have hst : (store (⟨b, off, none⟩ : Addr) u).run P w = .ok () (w.setCell ⟨b, off, none⟩ u) := by
          rw [run_store P w _ u _ h1, hc]
          simp [hf]
        simp [storeVar, sizeOf, typeInfo, hq, hu, hs, storeCells, hadd, Sem.run_bind, hst]
    unfold Oper.wp execOp
    simp only [ho, hx, hy, Instr.storeAt, Instr.sureAddr, Sem.run_bind, Sem.run_pure, Result.andThen_ok, hsv]
    exact hK _ _ (h _ rfl)
/-- One cell at an address, read. -/
theorem cellat_event {P : Program} {ops : Array Oper} {rest : List Oper} {o : Oper} {a : Act} {w : World} {Q : Exit → Act → World → Prop} (hgd : o.guard = none) (ty : TypeId) (x : Operand) (ho : o.op = .load ty x)
    (A : Addr) (b off : Nat) (hx : a.eval x = .pointer (some A)) (hA : A = ⟨b, off, none⟩) (d : TypeDesc) (v : Value) (hu : P.underlying ty = some d) (hd : (match d with | .struct _ | .array _ _ => true | _ => false) = false) (hp : w.cell? ⟨b, off, none⟩ = some v)
    (h : wpList P ops Q rest (a.put o.dst v) w) : wpList P ops Q (o :: rest) a w :=
  wpList_plain hgd fun _ hK => by
    subst hA
    have hagg : (isAgg ty).run P w = .ok false w := by
      unfold isAgg
      rw [Sem.run_bind, run_underlying hu w]
      cases d <;> simp_all
    have hl : (loadVar ty ⟨b, off, none⟩).run P w = .ok v w := by simp [loadVar, Sem.run_bind, hagg, hp]
    unfold Oper.wp execOp
    simp only [ho, hx, Instr.loadAt, Instr.sureAddr, Sem.run_bind, Sem.run_pure, Result.andThen_ok, hl]
    exact hK _ _ h

theorem mt_calls (t : Int) (ht : t ≤ 9223372036854775807) (w : World) : Calls Try.prog 28 #[.int .i64 t] w fun e w' => ∃ r : ByteArray, e = .returned (.string r) ∧ Below w.heap.size w w' := by
  obtain ⟨r, hr⟩ := markText_ev t ht
  obtain ⟨k, hk⟩ := hr.rounds
  refine (laws_markText.calls k t r w hk).mono ?_
  rintro e w' ⟨rfl, hb⟩
  exact ⟨r, rfl, hb⟩
set_option maxHeartbeats 4000000 in
set_option maxRecDepth 100000 in
theorem marks_calls : ∀ (n : Nat) (xs : List S30), cntL xs ≤ n → ∀ (v : Value) (t : Int) (lo hi : Nat) (w : World) (_ : Shp w lo hi v xs) (_ : lo ≤ w.heap.size) (_ : 0 ≤ t) (_ : t + 3 * (cntL xs : Int) ≤ 100000000),
    Calls Try.prog 27 #[v, .int .i64 t] w fun e w' => e = .returned (.int .i64 (t + 3 * (cntL xs : Int))) ∧ Mk lo hi w w' := by
  intro n
  induction n using Nat.strongRecOn with
  | _ n ih =>
  intro xs hn v t lo hi w hS hlo ht0 ht1
  obtain ⟨A, c, rfl, _⟩ := hS.inv
  have HS := Aside0.mk hS
  have HLO := Aside0.mk hlo
  have HT0 := Aside0.mk ht0
  have HT1 := Aside0.mk ht1
  have HN := Aside0.mk hn
  have huS := Try.underlying28
  clear hS hlo ht0 ht1 hn
  go_enter Try.func27, Try.ntmps27
  go_wp2
  go_loopg [1, 5] xs.length (fun kq v1 v5 w' => ∃ (i : Nat) (T : Int), v5 = .int .i64 (i : Int) ∧ v1 = .int .i64 T ∧ Aside0 (T = t + 3 * (cntL (xs.take i) : Int)) ∧ Aside0 (kq + i = xs.length) ∧ Aside0 (Mk lo hi w w'))
  case atStart => exact ⟨0, t, rfl, rfl, ⟨by simp [cntL]⟩, ⟨by omega⟩, ⟨Mk.refl _ _ _⟩⟩
  case round =>
    obtain ⟨i, T, rfl, rfl, HT, HK, HM⟩ := hrel
    by_cases hi2 : i < xs.length
    · obtain ⟨x, hx⟩ : ∃ x, xs[i]? = some x := ⟨_, List.getElem?_eq_getElem hi2⟩
      obtain ⟨kp, rfl⟩ : ∃ kp, gk = kp + 1 := ⟨gk - 1, by have := HK.out; omega⟩
      have hkp : kp + (i + 1) = xs.length := by have := HK.out; omega
      obtain ⟨A2, c2, e2, hin⟩ := (HM.out.shp _ _ HS.out).inv
      obtain ⟨b, u, rfl, hE, hU⟩ := hin i x hx
      injection e2 with eA _ ec
      subst eA
      subst ec
      have HE := Aside0.mk hE
      have HU := Aside0.mk hU
      have HX := Aside0.mk hx
      have hc1 := cntL_mem xs i x hx
      have hc2 := cntL_take xs i x hx
      have C1 := Aside0.mk hc1
      have C2 := Aside0.mk hc2
      have hT0 : 0 ≤ T := by have := HT.out; have := HT0.out; omega
      have hT1 : T ≤ 100000000 := by have := HT.out; have := HT1.out; omega
      have HT3 := Aside0.mk (by have := HT.out; have := HT1.out; omega : T + 1 + 1 + 1 + 3 * (cntL x.f3 : Int) ≤ 100000000)
      have HI := Aside0.mk hi2
      have HW := Aside0.mk (by have := len_cnt xs; have := HT0.out; have := HT1.out; unfold wrap64; omega : wrap64 ((i : Int) + 1) = ((i + 1 : Nat) : Int))
      have HLW := Aside0.mk (Nat.le_trans HLO.out HM.out.bel.size)
      clear hE hU hx hc1 hc2 hin
      have c5 : ((i : Int) < (xs.length : Int)) = True := eq_true (by omega)
      have c5b : decide ((i : Int) < (xs.length : Int)) = true := decide_eq_true (by omega)
      have c5n : decide (i < xs.length) = true := decide_eq_true hi2
      have c6 : (0 ≤ (i : Int)) = True := eq_true (by omega)
      clear hi2
      go_wp2_with (first | ((with_reducible refine gate_store (t := 2) (p := 16) rfl ?_); obtain ⟨o0, ho0⟩ := HE.out.c0; refine mark_event rfl 2 _ _ rfl _ b (i * 4 + 0) (.int .i64 T) (.int .i64 o0) rfl (by first | rfl | (rw [Go.Proofs.Ytomakpfmghekfaa.RowLaw.add_zero]) | (rw [Go.Proofs.Ytomakpfmghekfaa.RowLaw.add_zero]; rfl)) rfl rfl rfl (by kernel_rfl) ho0 (HE.out.fz _) ?_; intro w6 hw6; have hm := fun wz : World => Mk.set (lo := lo) (hi := hi) (w := wz) (b := b) (m := i) (j := 0) (u := .int .i64 T) HE.out.lo_ HE.out.hi_ (.inl ⟨by omega, _, rfl⟩); have n0_ := Aside0.mk (show Mk lo hi w w6 from by rw [hw6]; exact HM.out.trans (hm _)); have n1_ := Aside0.mk (show Elt w6 lo hi b i u from by rw [hw6]; exact HE.out.set (.inl ⟨by omega, _, rfl⟩)); have n2_ := Aside0.mk (show Shp w6 lo hi u x.f3 from by rw [hw6]; exact (hm _).shp _ _ HU.out); clear HM HE HU hm ho0; have HM := n0_; have HE := n1_; have HU := n2_; clear n0_ n1_ n2_ hw6; (try simp only [Act.put, List.setIfInBounds_toArray, List.set_cons_zero, List.set_cons_succ])) | ((with_reducible refine gate_store (t := 2) (p := 23) rfl ?_); obtain ⟨o0, ho0⟩ := HE.out.c1; refine mark_event rfl 2 _ _ rfl _ b (i * 4 + 1) (.int .i64 (T + 1)) (.int .i64 o0) rfl (by first | rfl | (rw [Go.Proofs.Ytomakpfmghekfaa.RowLaw.add_zero]) | (rw [Go.Proofs.Ytomakpfmghekfaa.RowLaw.add_zero]; rfl)) rfl rfl rfl (by kernel_rfl) ho0 (HE.out.fz _) ?_; intro w6 hw6; have hm := fun wz : World => Mk.set (lo := lo) (hi := hi) (w := wz) (b := b) (m := i) (j := 1) (u := .int .i64 (T + 1)) HE.out.lo_ HE.out.hi_ (.inl ⟨by omega, _, rfl⟩); have n0_ := Aside0.mk (show Mk lo hi w w6 from by rw [hw6]; exact HM.out.trans (hm _)); have n1_ := Aside0.mk (show Elt w6 lo hi b i u from by rw [hw6]; exact HE.out.set (.inl ⟨by omega, _, rfl⟩)); have n2_ := Aside0.mk (show Shp w6 lo hi u x.f3 from by rw [hw6]; exact (hm _).shp _ _ HU.out); clear HM HE HU hm ho0; have HM := n0_; have HE := n1_; have HU := n2_; clear n0_ n1_ n2_ hw6; (try simp only [Act.put, List.setIfInBounds_toArray, List.set_cons_zero, List.set_cons_succ])) | ((with_reducible refine gate_callee (f := 28) rfl ?_); refine goesL_ (some 29) rfl rfl Try.func28 (by kernel_rfl) rfl #[.int .i64 (T + 1 + 1)] rfl (by (try simp only [List.map_toArray, List.map_cons, List.map_nil]); first | done | rfl) ?_; (with_reducible refine (mt_calls (T + 1 + 1) ?side1 _).mono ?_); (case side1 => omega); rintro e wc ⟨rt, rfl, hb⟩; refine ⟨_, rfl, ?_⟩; have hm := Mk.of_below (lo := lo) (hi := hi) hb (Nat.le_trans HLO.out HM.out.bel.size); have n0_ := Aside0.mk (HM.out.trans hm); have n1_ := Aside0.mk (HE.out.below hb); have n2_ := Aside0.mk (hm.shp _ _ HU.out); clear HM HE HU hm hb; have HM := n0_; have HE := n1_; have HU := n2_; clear n0_ n1_ n2_; (try simp only [Act.put, List.setIfInBounds_toArray, List.set_cons_zero, List.set_cons_succ])) | ((with_reducible refine gate_store (t := 9) (p := 31) rfl ?_); obtain ⟨o0, ho0⟩ := HE.out.c2; refine mark_event rfl 9 _ _ rfl _ b (i * 4 + 2) (.string rt) (.string o0) rfl (by first | rfl | (rw [Go.Proofs.Ytomakpfmghekfaa.RowLaw.add_zero]) | (rw [Go.Proofs.Ytomakpfmghekfaa.RowLaw.add_zero]; rfl)) rfl rfl rfl (by kernel_rfl) ho0 (HE.out.fz _) ?_; intro w6 hw6; have hm := fun wz : World => Mk.set (lo := lo) (hi := hi) (w := wz) (b := b) (m := i) (j := 2) (u := .string rt) HE.out.lo_ HE.out.hi_ (.inr ⟨rfl, _, rfl⟩); have n0_ := Aside0.mk (show Mk lo hi w w6 from by rw [hw6]; exact HM.out.trans (hm _)); have n1_ := Aside0.mk (show Elt w6 lo hi b i u from by rw [hw6]; exact HE.out.set (.inr ⟨rfl, _, rfl⟩)); have n2_ := Aside0.mk (show Shp w6 lo hi u x.f3 from by rw [hw6]; exact (hm _).shp _ _ HU.out); clear HM HE HU hm ho0; have HM := n0_; have HE := n1_; have HU := n2_; clear n0_ n1_ n2_ hw6; (try simp only [Act.put, List.setIfInBounds_toArray, List.set_cons_zero, List.set_cons_succ])) | ((with_reducible refine gate_dst (N := 38) rfl ?_); refine cellat_event rfl 28 _ rfl _ b (i * 4 + 3) rfl (by first | rfl | (rw [Go.Proofs.Ytomakpfmghekfaa.RowLaw.add_zero]) | (rw [Go.Proofs.Ytomakpfmghekfaa.RowLaw.add_zero]; rfl)) _ u huS rfl HE.out.c3 ?_; (try simp only [Act.put, List.setIfInBounds_toArray, List.set_cons_zero, List.set_cons_succ])) | (go_at_call 27; refine (ih (cntL x.f3) (by have := C1.out; have := HN.out; omega) x.f3 (Nat.le_refl _) u (T + 1 + 1 + 1) lo hi _ HU.out (Nat.le_trans HLO.out HM.out.bel.size) (by omega) HT3.out).mono ?_; rintro e wd ⟨rfl, hm⟩; have n0_ := Aside0.mk (HM.out.trans hm); clear HM HE HU hm; have HM := n0_; clear n0_))
      go_roundg kp
      case measure => omega
      case rel => exact ⟨i + 1, _, by rw [HW.out], rfl, ⟨by have := HT.out; have := C2.out; omega⟩, ⟨by omega⟩, HM⟩
    · obtain rfl : i = xs.length := by have := HK.out; omega
      have HE := Aside0.mk (show T = t + 3 * (cntL xs : Int) from by rw [HT.out, List.take_length])
      have c5 : ((xs.length : Int) < (xs.length : Int)) = False := eq_false (by omega)
      clear hi2
      go_wp2
      go_ret
      exact ⟨by rw [HE.out]; rfl, HM.out⟩

/-! ### the names of a pattern, by hand -/
theorem dn_info : (Try.prog.info? 9).map (fun i => (i.zero, i.size, i.bytes)) = some (some (.string ⟨#[]⟩), 1, 16) := by kernel_rfl
def anyEq (l : List ByteArray) (c : ByteArray) : Bool := l.any (fun z => z.toList == c.toList)
theorem anyEq_take (l : List ByteArray) (c : ByteArray) (i : Nat) (x : ByteArray) (h : l[i]? = some x) : anyEq (l.take (i + 1)) c = (anyEq (l.take i) c || (x.toList == c.toList)) := by
  unfold anyEq
  rw [List.take_add_one, h]
  simp
theorem anyEq_of (l : List ByteArray) (c : ByteArray) (i : Nat) (x : ByteArray) (h : l[i]? = some x) (he : x.toList = c.toList) : anyEq l c = true := by
  unfold anyEq
  rw [List.any_eq_true]
  exact ⟨x, List.mem_of_getElem? h, beq_iff_eq.mpr he⟩
mutual
def namesS : S30 → List ByteArray → List ByteArray
  | ⟨a, _, c, d⟩, l => if a = 24 then (if anyEq l c = true then l else l ++ [c]) else namesSL d l
def namesSL : List S30 → List ByteArray → List ByteArray
  | [], l => l
  | x :: xs, l => namesSL xs (namesS x l)
end
mutual
def namesI : S30 → List ByteArray → List ByteArray
  | ⟨a, _, c, d⟩, l => namesIL d (if a = 24 ∧ anyEq l c = false then l ++ [c] else l)
def namesIL : List S30 → List ByteArray → List ByteArray
  | [], l => l
  | x :: xs, l => namesIL xs (namesI x l)
end
theorem namesS_eq (x : S30) (l : List ByteArray) : namesS x l = if x.f0 = 24 then (if anyEq l x.f2 = true then l else l ++ [x.f2]) else namesSL x.f3 l := by cases x; simp [namesS]
theorem namesI_eq (x : S30) (l : List ByteArray) : namesI x l = namesIL x.f3 (if x.f0 = 24 ∧ anyEq l x.f2 = false then l ++ [x.f2] else l) := by cases x; simp [namesI]
theorem namesSL_snoc (xs : List S30) (x : S30) (l : List ByteArray) : namesSL (xs ++ [x]) l = namesS x (namesSL xs l) := by
  induction xs generalizing l with
  | nil => simp [namesSL]
  | cons y ys ih => simp only [List.cons_append, namesSL]; exact ih _
theorem namesIL_snoc (xs : List S30) (x : S30) (l : List ByteArray) : namesIL (xs ++ [x]) l = namesI x (namesIL xs l) := by
  induction xs generalizing l with
  | nil => simp [namesIL]
  | cons y ys ih => simp only [List.cons_append, namesIL]; exact ih _
theorem namesS_len (n : Nat) : ∀ x : S30, cntT x ≤ n → ∀ l, (namesS x l).length ≤ l.length + cntT x := by
  induction n using Nat.strongRecOn with
  | _ n ih =>
  intro x hn l
  have kids : ∀ (s : List S30), (cntL s < n) → ∀ l, (namesSL s l).length ≤ l.length + cntL s := by
    intro s
    induction s with
    | nil => intro _ l; simp [namesSL, cntL]
    | cons y ys ihs =>
      intro hs l
      simp only [cntL] at hs ⊢
      simp only [namesSL]
      have h1 := ih (cntT y) (by omega) y (Nat.le_refl _) l
      have h2 := ihs (by omega) (namesS y l)
      omega
  rw [cntT_eq] at hn
  rw [namesS_eq, cntT_eq]
  split
  · split
    · omega
    · simp
  · have := kids x.f3 (by omega) l
    omega
theorem namesI_len (n : Nat) : ∀ x : S30, cntT x ≤ n → ∀ l, (namesI x l).length ≤ l.length + cntT x := by
  induction n using Nat.strongRecOn with
  | _ n ih =>
  intro x hn l
  have kids : ∀ (s : List S30), (cntL s < n) → ∀ l, (namesIL s l).length ≤ l.length + cntL s := by
    intro s
    induction s with
    | nil => intro _ l; simp [namesIL, cntL]
    | cons y ys ihs =>
      intro hs l
      simp only [cntL] at hs ⊢
      simp only [namesIL]
      have h1 := ih (cntT y) (by omega) y (Nat.le_refl _) l
      have h2 := ihs (by omega) (namesI y l)
      omega
  rw [cntT_eq] at hn
  rw [namesI_eq, cntT_eq]
  have h1 := kids x.f3 (by omega) (if x.f0 = 24 ∧ anyEq l x.f2 = false then l ++ [x.f2] else l)
  have h2 : (if x.f0 = 24 ∧ anyEq l x.f2 = false then l ++ [x.f2] else l).length ≤ l.length + 1 := by
    split
    · simp
    · omega
  omega
/-- A row handed on: what else there was stays, and the row that comes back is the old one's block or a newer. -/
structure Gr (w : World) (v : Value) (w' : World) (v' : Value) : Prop where
  size : w.heap.size ≤ w'.heap.size
  same : ∀ j, j < w.heap.size → some j ≠ v.ownBlock → w'.heap[j]? = w.heap[j]?
  own : ∀ j, v'.ownBlock = some j → v.ownBlock = some j ∨ w.heap.size ≤ j
theorem Gr.refl (w : World) (v : Value) : Gr w v w v := ⟨Nat.le_refl _, fun _ _ _ => rfl, fun _ h => .inl h⟩
theorem Gr.trans {a b c : World} {u v x : Value} (h : Gr a u b v) (k : Gr b v c x) : Gr a u c x := by
  refine ⟨Nat.le_trans h.size k.size, fun j h1 h2 => (k.same j (Nat.lt_of_lt_of_le h1 h.size) (fun e => ?_)).trans (h.same j h1 h2), fun j hj => ?_⟩
  · rcases h.own j e.symm with h3 | h3
    · exact h2 h3.symm
    · omega
  · rcases k.own j hj with h3 | h3
    · exact h.own j h3
    · exact .inr (Nat.le_trans h.size h3)
theorem Gr.of_below {w w' : World} (v : Value) (hb : Below w.heap.size w w') : Gr w v w' v := ⟨hb.size, fun j hj _ => hb.block j hj, fun _ h => .inl h⟩
theorem Gr.of_grown {w w' : World} {v v' : Value} (hg : w.grownBy w' v.ownBlock) (hat : v'.ownBlock = v.ownBlock ∨ ∃ b, v'.ownBlock = some b ∧ w.heap.size ≤ b) : Gr w v w' v' := by
  refine ⟨hg.size, hg.block, fun j hj => ?_⟩
  rcases hat with h | ⟨b, h, hb⟩
  · exact .inl (h ▸ hj)
  · rw [h] at hj
    injection hj with hj
    exact .inr (hj ▸ hb)
theorem Gr.drewN {a b : World} {u v : Value} (h : Gr a u b v) (n : Nat) : Gr a u (b.drewN n) v := h.trans (Gr.of_below v (pw_below_drewN (Below.refl _ _) n))
theorem own_fresh {α : Type} {d : Kd α} {e base : Nat} {ok : Nat → Prop} {w : World} {v : Value} {xs : List α} (h : d.R e w base ok v xs) {g : Nat} (hg : w.heap.size ≤ g) : some g ≠ v.ownBlock := by
  intro he
  obtain ⟨inner, ho⟩ := Kd.R_own h
  have := own_lt ho g he.symm
  omega

set_option maxHeartbeats 4000000 in
set_option maxRecDepth 100000 in
theorem names_calls : ∀ (n : Nat) (x : S30), cntT x ≤ n → ∀ (cs : Array Value) (v : Value) (l : List ByteArray) (w0 w : World) (_ : k30.K w0 x cs.toList) (_ : Below w0.heap.size w0 w) (_ : Kd.R Kd.string 9 w w0.heap.size (fun _ => True) v l) (_ : l.length + cntT x ≤ 2000000),
    Calls Try.prog 22 #[.agg cs, v] w fun e w' => ∃ v' : Value, e = .returned v' ∧ Kd.R Kd.string 9 w' w0.heap.size (fun _ => True) v' (namesS x l) ∧ Below w0.heap.size w0 w' ∧ Gr w v w' v' := by
  intro n
  induction n using Nat.strongRecOn with
  | _ n ih =>
  intro x hn cs v l w0 w hK hB hR hl
  obtain ⟨A, c, e, l3, g3⟩ := k30_open hK
  obtain rfl : cs = List.toArray _ := Array.ext' e
  clear e hK
  have HN := Aside0.mk hn
  have HB := Aside0.mk hB
  have HR := Aside0.mk hR
  have HL := Aside0.mk hl
  have G3 := Aside0.mk g3
  have HG := Aside0.mk (Gr.refl w v)
  have huP := Try.underlying30
  clear hn hB hR hl g3 l3
  by_cases c0 : x.f0 = 24
  · have c0b : (x.f0 == 24) = true := beq_iff_eq.mpr c0
    have EQ := Aside0.mk (by rw [namesS_eq, if_pos c0] : namesS x l = if anyEq l x.f2 = true then l else l ++ [x.f2])
    clear c0
    obtain ⟨Av, cv, ev⟩ := Kd.R_slice HR.out
    have EV := Aside0.mk ev
    clear ev
    obtain rfl := EV.out
    clear EV
    go_enter Try.func22, Try.ntmps22
    go_wp2_with (first | ((with_reducible refine gate_dst (N := 2) rfl ?_); refine box_event ?hg (N := 2) ?hd (cs := #[.int .i64 x.f0, .int .i64 x.f1, .string x.f2, .slice A x.f3.length c]) (t := 30) ?hr ?_; (case hd => rfl); (case hg => rfl); (case hr => first | (go_simp; done) | (go_simp; rfl)); intro g2 hg w1 hbox hb; have NE := Aside0.mk (own_fresh HR.out (Nat.le_of_eq hg.symm)); have n0_ := Aside0.mk (below_step HB.out hb); have n1_ := Aside0.mk (Kd.R_below HR.out hb); have n2_ := Aside0.mk (HG.out.trans (Gr.of_below _ hb)); clear HB HR HG; have HB := n0_; have HR := n1_; have HG := n2_; clear n0_ n1_ n2_; have BK := Aside0.mk hbox; have zb0 : w1.cell? ⟨g2, 0, none⟩ = some (.int .i64 x.f0) := (blk_cell BK.out 0).trans rfl; have zb1 : w1.cell? ⟨g2, 1, none⟩ = some (.int .i64 x.f1) := (blk_cell BK.out 1).trans rfl; have zb2 : w1.cell? ⟨g2, 2, none⟩ = some (.string x.f2) := (blk_cell BK.out 2).trans rfl; have zb3 : w1.cell? ⟨g2, 3, none⟩ = some (.slice A x.f3.length c) := (blk_cell BK.out 3).trans rfl; clear hg hbox hb; (try simp only [Act.put, List.setIfInBounds_toArray, List.set_cons_zero, List.set_cons_succ])))
    go_loopg [5] l.length (fun kq v5 w' => ∃ i : Nat, v5 = .int .i64 (i : Int) ∧ Aside0 (anyEq (l.take i) x.f2 = false) ∧ Aside0 (kq + i = l.length) ∧ Drawn0 w1 w')
    case atStart => exact ⟨0, rfl, ⟨by simp [anyEq]⟩, ⟨by omega⟩, Drawn0.refl _⟩
    case round =>
      obtain ⟨i, rfl, HA, HK, ⟨m1, rfl⟩⟩ := hrel
      by_cases hi : i < l.length
      · obtain ⟨y, hy⟩ : ∃ y, l[i]? = some y := ⟨_, List.getElem?_eq_getElem hi⟩
        have hyr : rdOf ByteArray.empty l (i : Int) = y := by unfold rdOf; rw [Int.toNat_natCast, List.getD_eq_getElem?_getD, hy]; rfl
        obtain ⟨ad, ea, hc⟩ := Kd.at_string (Kd.R_reads' HR.out).2.2 (i : Int) (by omega) (by omega)
        rw [hyr, Int.toNat_natCast] at hc
        cases ea
        have HY := Aside0.mk hy
        have HW := Aside0.mk (by have := HL.out; unfold wrap64; omega : wrap64 ((i : Int) + 1) = ((i + 1 : Nat) : Int))
        obtain ⟨kp, rfl⟩ : ∃ kp, gk = kp + 1 := ⟨gk - 1, by have := HK.out; omega⟩
        have hkp : kp + (i + 1) = l.length := by have := HK.out; omega
        have c5 : ((i : Int) < (l.length : Int)) = True := eq_true (by omega)
        have c5n : decide (i < l.length) = true := decide_eq_true hi
        have c6 : (0 ≤ (i : Int)) = True := eq_true (by omega)
        clear hi hy hyr
        by_cases he : y.toList = x.f2.toList
        · have heb := beq_iff_eq.mpr he
          have EA := Aside0.mk (anyEq_of l x.f2 i y HY.out he)
          clear he
          go_wp2
          go_quiet (fail)
          go_wp2
          go_ret
          exact ⟨_, rfl, by rw [EQ.out, if_pos EA.out]; exact Kd.R_drewN (Kd.R_drewN HR.out _) _, pw_below_drewN (pw_below_drewN HB.out _) _, (HG.out.drewN _).drewN _⟩
        · have heb := beq_eq_false_iff_ne.mpr he
          have EA := Aside0.mk (by rw [anyEq_take l x.f2 i y HY.out, HA.out, heb]; rfl : anyEq (l.take (i + 1)) x.f2 = false)
          clear he
          go_wp2
          go_quiet (fail)
          go_wp2
          go_roundg kp
          case measure => omega
          case rel => exact ⟨i + 1, by rw [HW.out], EA, ⟨by omega⟩, by repeat (first | exact Drawn0.refl _ | apply Drawn0.step)⟩
      · obtain rfl : i = l.length := by have := HK.out; omega
        have EA := Aside0.mk (by have := HA.out; rw [List.take_length] at this; rw [EQ.out, if_neg (by rw [this]; simp)] : namesS x l = l ++ [x.f2])
        have c5 : ((l.length : Int) < (l.length : Int)) = False := eq_false (by omega)
        clear hi
        have n0_ := Aside0.mk (pw_below_drewN HB.out m1); have n1_ := Aside0.mk (Kd.R_drewN HR.out m1); have n2_ := Aside0.mk (HG.out.drewN m1); have n3_ := Aside0.mk (blk_drewN BK.out m1); clear HB HR HG BK; have HB := n0_; have HR := n1_; have HG := n2_; have BK := n3_; clear n0_ n1_ n2_ n3_
        go_wp2_with (first | ((with_reducible refine gate_builtin (b := .append) (xs := #[.tmp 24, .tmp 27]) rfl ?_); at_builtin; refine Kd.R_append Kd.string (w0 := w0) w0.heap.size rfl (.tmp 24) (.tmp 27) 26 9 (.string ⟨#[]⟩) 16 rfl Try.underlying26 dn_info rfl (by decide) (by omega) _ l x.f2 [.string x.f2] (fun _ => True) (fun _ => False) rfl rfl ?aP (fun _ hk => hk.elim) ?aF ?aO ?aB ?aS ?aL ?_; (case aP => exact rfl); (case aB => exact HB.out); (case aF => exact (fun _ _ => trivial)); (case aO => exact HR.out); (case aS => exact HB.out.size); (case aL => have := HL.out; have := cntT_eq x; omega); intro v1 w5 ho hb hg hat; have hgr := Gr.of_grown hg hat; have n0_ := Aside0.mk (hb); have n1_ := Aside0.mk (ho); have n2_ := Aside0.mk (HG.out.trans hgr); clear HB HR HG; have HB := n0_; have HR := n1_; have HG := n2_; clear n0_ n1_ n2_; have NE1 := Aside0.mk (fun he : some g2 = v1.ownBlock => (hgr.own g2 he.symm).elim (fun h => NE.out h.symm) (fun h => Nat.lt_irrefl _ (Nat.lt_of_lt_of_le (blk_lt BK.out) h))); have BK1 := Aside0.mk ((hgr.same g2 (blk_lt BK.out) NE.out).trans BK.out); clear ho hb hg hat hgr BK NE; have BK := BK1; have NE := NE1; clear BK1 NE1; (try simp only [Act.put, List.setIfInBounds_toArray, List.set_cons_zero, List.set_cons_succ])))
        go_ret
        exact ⟨_, rfl, by rw [EA.out]; exact HR.out, HB.out, HG.out⟩
  · have c0b : (x.f0 == 24) = false := beq_eq_false_iff_ne.mpr c0
    have EQ := Aside0.mk (by rw [namesS_eq, if_neg c0] : namesS x l = namesSL x.f3 l)
    clear c0
    go_enter Try.func22, Try.ntmps22
    go_wp2_with (first | ((with_reducible refine gate_dst (N := 2) rfl ?_); refine box_event ?hg (N := 2) ?hd (cs := #[.int .i64 x.f0, .int .i64 x.f1, .string x.f2, .slice A x.f3.length c]) (t := 30) ?hr ?_; (case hd => rfl); (case hg => rfl); (case hr => first | (go_simp; done) | (go_simp; rfl)); intro g2 hg w1 hbox hb; have NE := Aside0.mk (own_fresh HR.out (Nat.le_of_eq hg.symm)); have n0_ := Aside0.mk (below_step HB.out hb); have n1_ := Aside0.mk (Kd.R_below HR.out hb); have n2_ := Aside0.mk (HG.out.trans (Gr.of_below _ hb)); clear HB HR HG; have HB := n0_; have HR := n1_; have HG := n2_; clear n0_ n1_ n2_; have BK := Aside0.mk hbox; have zb0 : w1.cell? ⟨g2, 0, none⟩ = some (.int .i64 x.f0) := (blk_cell BK.out 0).trans rfl; have zb1 : w1.cell? ⟨g2, 1, none⟩ = some (.int .i64 x.f1) := (blk_cell BK.out 1).trans rfl; have zb2 : w1.cell? ⟨g2, 2, none⟩ = some (.string x.f2) := (blk_cell BK.out 2).trans rfl; have zb3 : w1.cell? ⟨g2, 3, none⟩ = some (.slice A x.f3.length c) := (blk_cell BK.out 3).trans rfl; clear hg hbox hb; (try simp only [Act.put, List.setIfInBounds_toArray, List.set_cons_zero, List.set_cons_succ])))
    obtain ⟨lb, HLB⟩ : ∃ lb, Aside0 (lb = l) := ⟨l, ⟨rfl⟩⟩
    go_loopg [1, 6] x.f3.length (fun kq v1 v6 w' => ∃ (i : Nat) (vc : Value) (lc : List ByteArray), v6 = .int .i64 (i : Int) ∧ v1 = vc ∧ Aside0 (lc = namesSL (x.f3.take i) lb) ∧ Aside0 (lc.length ≤ lb.length + cntL (x.f3.take i)) ∧ Aside0 (kq + i = x.f3.length) ∧ Aside0 (Kd.R Kd.string 9 w' w0.heap.size (fun _ => True) vc lc) ∧ Aside0 (Below w0.heap.size w0 w') ∧ Aside0 (Gr w v w' vc) ∧ Aside0 (w'.heap[g2]? = some (.cells #[.int .i64 x.f0, .int .i64 x.f1, .string x.f2, .slice A x.f3.length c] 30 (0, 0))) ∧ Aside0 (some g2 ≠ vc.ownBlock))
    case atStart => exact ⟨0, v, l, rfl, rfl, ⟨by rw [HLB.out]; simp [namesSL]⟩, ⟨by rw [HLB.out]; omega⟩, ⟨by omega⟩, HR, HB, HG, BK, NE⟩
    case round =>
      clear HR HB HG BK NE zb0 zb1 zb2 zb3
      obtain ⟨i, vc, lc, rfl, rfl, HC, HCL, HK, HR, HB, HG, BK, NE⟩ := hrel
      have zb0 : wr.cell? ⟨g2, 0, none⟩ = some (.int .i64 x.f0) := (blk_cell BK.out 0).trans rfl
      have zb1 : wr.cell? ⟨g2, 1, none⟩ = some (.int .i64 x.f1) := (blk_cell BK.out 1).trans rfl
      have zb2 : wr.cell? ⟨g2, 2, none⟩ = some (.string x.f2) := (blk_cell BK.out 2).trans rfl
      have zb3 : wr.cell? ⟨g2, 3, none⟩ = some (.slice A x.f3.length c) := (blk_cell BK.out 3).trans rfl
      by_cases hi : i < x.f3.length
      · obtain ⟨y, hy⟩ : ∃ y, x.f3[i]? = some y := ⟨_, List.getElem?_eq_getElem hi⟩
        obtain ⟨ad, ce, ea, el, eK, eC⟩ := Go.Proofs.Ytomakpfmghekfaa.RowLaw.elem_of G3.out z30 (i : Int) (by omega) (by omega)
        rw [show x.f3.getD ((i : Int)).toNat z30 = y from by rw [List.getD_eq_getElem?_getD, Int.toNat_natCast, hy]; rfl] at eK
        cases ea
        have HY := Aside0.mk hy
        have EC := Aside0.mk eC
        have EK := Aside0.mk eK
        have EL := Aside0.mk ((by rw [el]; kernel_rfl) : (Try.prog.info? 30).map (·.size) = some ce.length)
        have EZ := Aside0.mk (el.symm : k30.sz = ce.length)
        have C1 := Aside0.mk (cntL_mem x.f3 i y hy)
        have C2 := Aside0.mk (cntL_take x.f3 i y hy)
        have HW := Aside0.mk (by have := HL.out; have := len_cnt x.f3; have := cntT_eq x; unfold wrap64; omega : wrap64 ((i : Int) + 1) = ((i + 1 : Nat) : Int))
        obtain ⟨kp, rfl⟩ : ∃ kp, gk = kp + 1 := ⟨gk - 1, by have := HK.out; omega⟩
        have hkp : kp + (i + 1) = x.f3.length := by have := HK.out; omega
        have c5 : ((i : Int) < (x.f3.length : Int)) = True := eq_true (by omega)
        have c5n : decide (i < x.f3.length) = true := decide_eq_true hi
        have c6 : (0 ≤ (i : Int)) = True := eq_true (by omega)
        clear hi hy eK eC el
        have ES := Aside0.mk (by have h := congrArg (fun s => namesSL s lb) (List.take_add_one (l := x.f3) (i := i)); rw [HY.out] at h; simp only [Option.toList_some] at h; rw [namesSL_snoc] at h; exact h.trans (by rw [HC.out]) : namesSL (x.f3.take (i + 1)) lb = namesS y lc)
        have EN := Aside0.mk (by have h1 := namesS_len (cntT y) y (Nat.le_refl _) lc; have h2 := cntT_eq y; have h3 := HCL.out; have h4 := C2.out; omega : (namesS y lc).length ≤ lb.length + cntL (x.f3.take (i + 1)))
        go_wp2_with (first | ((with_reducible refine gate_dst (N := 40) rfl ?_); refine Go.Proofs.Ytomakpfmghekfaa.RowLaw.at_event rfl 30 _ rfl (ad.add (((i : Int)).toNat * k30.sz)) rfl _ ce huP rfl EL.out (EC.out.below HB.out) ?_; (try simp only [Act.put, List.setIfInBounds_toArray, List.set_cons_zero, List.set_cons_succ])) | (go_at_call 22; refine (ih (cntT y) (by have := C1.out; have := HN.out; have := cntT_eq x; have := cntT_eq y; omega) y (Nat.le_refl _) ce.toArray _ lc w0 _ EK.out HB.out HR.out (by have := HCL.out; have := C1.out; have := cntT_eq x; have := cntT_eq y; have := HL.out; have := congrArg List.length HLB.out; omega)).mono ?_; rintro e wd ⟨v1, rfl, ho, hb, hgr⟩; have n0_ := Aside0.mk (hb); have n1_ := Aside0.mk (ho); have n2_ := Aside0.mk (HG.out.trans hgr); clear HB HR HG; have HB := n0_; have HR := n1_; have HG := n2_; clear n0_ n1_ n2_; have NE1 := Aside0.mk (fun he : some g2 = v1.ownBlock => (hgr.own g2 he.symm).elim (fun h => NE.out h.symm) (fun h => Nat.lt_irrefl _ (Nat.lt_of_lt_of_le (blk_lt BK.out) h))); have BK1 := Aside0.mk ((hgr.same g2 (blk_lt BK.out) NE.out).trans BK.out); clear ho hb hgr BK NE; have BK := BK1; have NE := NE1; clear BK1 NE1))
        go_roundg kp
        case measure => omega
        case rel => exact ⟨i + 1, _, _, by rw [HW.out], rfl, ⟨ES.out.symm⟩, EN, ⟨by omega⟩, HR, HB, HG, BK, NE⟩
      · obtain rfl : i = x.f3.length := by have := HK.out; omega
        have EA := Aside0.mk (by rw [EQ.out, HC.out, List.take_length, HLB.out] : namesS x l = lc)
        have c5 : ((x.f3.length : Int) < (x.f3.length : Int)) = False := eq_false (by omega)
        clear hi
        go_wp2
        go_ret
        exact ⟨_, rfl, by rw [EA.out]; exact HR.out, HB.out, HG.out⟩
theorem index_ev (l : List ByteArray) (c : ByteArray) (hl : l.length ≤ 1000000000) (d : Nat) : ∀ i : Nat, i + d = l.length → anyEq (l.take i) c = false → ∃ r, Ev (fun k => slices_Index_string_string.l0 k l c (l.length : Int) (i : Int)) r ∧ decide (r ≥ 0) = anyEq l c := by
  induction d with
  | zero =>
    intro i hi ha
    refine ⟨-1, Ev.step (f := fun _ => some (-1)) (fun k => ?_) (Ev.now _), ?_⟩
    · simp only [slices_Index_string_string.l0]
      rw [if_neg (by omega)]
    · rw [show i = l.length by omega, List.take_length] at ha
      rw [ha]
      rfl
  | succ d ih =>
    intro i hi ha
    obtain ⟨y, hy⟩ : ∃ y, l[i]? = some y := ⟨_, List.getElem?_eq_getElem (by omega)⟩
    have hyr : rdOf ByteArray.empty l (i : Int) = y := by unfold rdOf; rw [Int.toNat_natCast, List.getD_eq_getElem?_getD, hy]; rfl
    have hw : wrap64 ((i : Int) + 1) = ((i + 1 : Nat) : Int) := by unfold wrap64; omega
    by_cases he : y.toList = c.toList
    · refine ⟨(i : Int), Ev.step (f := fun _ => some (i : Int)) (fun k => ?_) (Ev.now _), ?_⟩
      · simp only [slices_Index_string_string.l0]
        rw [if_pos (by omega), if_pos (by omega), if_pos (by omega), hyr, if_pos he.symm]
      · rw [anyEq_of l c i y hy he]
        exact decide_eq_true (by omega)
    · obtain ⟨r, hr, hd⟩ := ih (i + 1) (by omega) (by rw [anyEq_take l c i y hy, ha, beq_eq_false_iff_ne.mpr he]; rfl)
      refine ⟨r, Ev.step (fun k => ?_) hr, hd⟩
      simp only [slices_Index_string_string.l0]
      rw [if_pos (by omega), if_pos (by omega), if_pos (by omega), hyr, if_neg (fun h => he h.symm), hw]
theorem contains_ev (l : List ByteArray) (c : ByteArray) (hl : l.length ≤ 1000000000) : ∃ k, slices_Contains_string_string.f k l c = some (anyEq l c) := by
  obtain ⟨r, hr, hd⟩ := index_ev l c hl l.length 0 (by omega) (by simp [anyEq])
  have e : Ev (fun k => slices_Contains_string_string.f k l c) (anyEq l c) := by
    unfold slices_Contains_string_string.f slices_Index_string_string.f
    rw [← hd]
    exact Ev.bind hr (Ev.now _)
  exact e.rounds
set_option maxHeartbeats 4000000 in
set_option maxRecDepth 100000 in
theorem deferred_calls : ∀ (n : Nat) (x : S30), cntT x ≤ n → ∀ (cs : Array Value) (v : Value) (l : List ByteArray) (w0 w : World) (_ : k30.K w0 x cs.toList) (_ : Below w0.heap.size w0 w) (_ : Kd.R Kd.string 9 w w0.heap.size (fun _ => True) v l) (_ : l.length + cntT x ≤ 2000000),
    Calls Try.prog 25 #[.agg cs, v] w fun e w' => ∃ v' : Value, e = .returned v' ∧ Kd.R Kd.string 9 w' w0.heap.size (fun _ => True) v' (namesI x l) ∧ Below w0.heap.size w0 w' ∧ Gr w v w' v' := by
  intro n
  induction n using Nat.strongRecOn with
  | _ n ih =>
  intro x hn cs v l w0 w hK hB hR hl
  obtain ⟨A, c, e, l3, g3⟩ := k30_open hK
  obtain rfl : cs = List.toArray _ := Array.ext' e
  clear e hK
  have HN := Aside0.mk hn
  have HB := Aside0.mk hB
  have HR := Aside0.mk hR
  have HL := Aside0.mk hl
  have G3 := Aside0.mk g3
  have HG := Aside0.mk (Gr.refl w v)
  have huP := Try.underlying30
  clear hn hB hR hl g3 l3
  by_cases c0 : x.f0 = 24
  · have c0b : (x.f0 == 24) = true := beq_iff_eq.mpr c0
    obtain ⟨Av, cv, ev⟩ := Kd.R_slice HR.out
    have EV := Aside0.mk ev
    clear ev
    obtain rfl := EV.out
    clear EV
    obtain ⟨kc, hkc⟩ := contains_ev l x.f2 (by have := HL.out; omega)
    cases ha : anyEq l x.f2 with
    | true =>
      have HCON := Aside0.mk (ha ▸ hkc : slices_Contains_string_string.f kc l x.f2 = some true)
      obtain ⟨lb, HLB⟩ : ∃ lb, Aside0 (lb = l) := ⟨_, ⟨rfl⟩⟩
      have EQ := Aside0.mk (by rw [namesI_eq, if_neg (by rw [ha]; simp), HLB.out] : namesI x l = namesIL x.f3 lb)
      have HLL := Aside0.mk (by have := HL.out; have := cntT_eq x; rw [HLB.out]; simp; omega : lb.length + cntL x.f3 ≤ 2000000)
      clear ha hkc c0
      go_enter Try.func25, Try.ntmps25
      go_wp2_with (first | ((with_reducible refine gate_dst (N := 2) rfl ?_); refine box_event ?hg (N := 2) ?hd (cs := #[.int .i64 x.f0, .int .i64 x.f1, .string x.f2, .slice A x.f3.length c]) (t := 30) ?hr ?_; (case hd => rfl); (case hg => rfl); (case hr => first | (go_simp; done) | (go_simp; rfl)); intro g2 hg w1 hbox hb; have NE := Aside0.mk (own_fresh HR.out (Nat.le_of_eq hg.symm)); have n0_ := Aside0.mk (below_step HB.out hb); have n1_ := Aside0.mk (Kd.R_below HR.out hb); have n2_ := Aside0.mk (HG.out.trans (Gr.of_below _ hb)); clear HB HR HG; have HB := n0_; have HR := n1_; have HG := n2_; clear n0_ n1_ n2_; have BK := Aside0.mk hbox; have zb0 : w1.cell? ⟨g2, 0, none⟩ = some (.int .i64 x.f0) := (blk_cell BK.out 0).trans rfl; have zb1 : w1.cell? ⟨g2, 1, none⟩ = some (.int .i64 x.f1) := (blk_cell BK.out 1).trans rfl; have zb2 : w1.cell? ⟨g2, 2, none⟩ = some (.string x.f2) := (blk_cell BK.out 2).trans rfl; have zb3 : w1.cell? ⟨g2, 3, none⟩ = some (.slice A x.f3.length c) := (blk_cell BK.out 3).trans rfl; clear hg hbox hb; (try simp only [Act.put, List.setIfInBounds_toArray, List.set_cons_zero, List.set_cons_succ])) | (go_at_call 37; refine (slices_Contains_string_string.calls kc Av cv l x.f2 true _ ?side1 ?side2 HCON.out).mono ?_; (case side1 => exact (Kd.R_reads' HR.out).2.2); (case side2 => exact (Kd.R_reads' HR.out).2.1); rintro e wc ⟨rfl, ⟨md, rfl⟩⟩; have n0_ := Aside0.mk (pw_below_drewN HB.out md); have n1_ := Aside0.mk (Kd.R_drewN HR.out md); have n2_ := Aside0.mk (HG.out.drewN md); have n3_ := Aside0.mk (blk_drewN BK.out md); clear HB HR HG BK; have HB := n0_; have HR := n1_; have HG := n2_; have BK := n3_; clear n0_ n1_ n2_ n3_))
      go_loopg [1, 25] x.f3.length (fun kq v1 v6 w' => ∃ (i : Nat) (vc : Value) (lc : List ByteArray), v6 = .int .i64 (i : Int) ∧ v1 = vc ∧ Aside0 (lc = namesIL (x.f3.take i) lb) ∧ Aside0 (lc.length ≤ lb.length + cntL (x.f3.take i)) ∧ Aside0 (kq + i = x.f3.length) ∧ Aside0 (Kd.R Kd.string 9 w' w0.heap.size (fun _ => True) vc lc) ∧ Aside0 (Below w0.heap.size w0 w') ∧ Aside0 (Gr w (.slice Av l.length cv) w' vc))
      case atStart => exact ⟨0, _, lb, rfl, rfl, ⟨by simp [namesIL]⟩, ⟨by omega⟩, ⟨by omega⟩, ⟨by rw [HLB.out]; exact HR.out⟩, HB, HG⟩
      case round =>
        clear HR HB HG BK NE zb0 zb1 zb2 zb3
        obtain ⟨i, vc, lc, rfl, rfl, HC, HCL, HK, HR, HB, HG⟩ := hrel
        by_cases hi : i < x.f3.length
        · obtain ⟨y, hy⟩ : ∃ y, x.f3[i]? = some y := ⟨_, List.getElem?_eq_getElem hi⟩
          obtain ⟨ad, ce, ea, el, eK, eC⟩ := Go.Proofs.Ytomakpfmghekfaa.RowLaw.elem_of G3.out z30 (i : Int) (by omega) (by omega)
          rw [show x.f3.getD ((i : Int)).toNat z30 = y from by rw [List.getD_eq_getElem?_getD, Int.toNat_natCast, hy]; rfl] at eK
          cases ea
          have HY := Aside0.mk hy
          have EC := Aside0.mk eC
          have EK := Aside0.mk eK
          have EL := Aside0.mk ((by rw [el]; kernel_rfl) : (Try.prog.info? 30).map (·.size) = some ce.length)
          have EZ := Aside0.mk (el.symm : k30.sz = ce.length)
          have C1 := Aside0.mk (cntL_mem x.f3 i y hy)
          have C2 := Aside0.mk (cntL_take x.f3 i y hy)
          have HW := Aside0.mk (by have := HL.out; have := len_cnt x.f3; have := cntT_eq x; unfold wrap64; omega : wrap64 ((i : Int) + 1) = ((i + 1 : Nat) : Int))
          obtain ⟨kp, rfl⟩ : ∃ kp, gk = kp + 1 := ⟨gk - 1, by have := HK.out; omega⟩
          have hkp : kp + (i + 1) = x.f3.length := by have := HK.out; omega
          have c5 : ((i : Int) < (x.f3.length : Int)) = True := eq_true (by omega)
          have c5n : decide (i < x.f3.length) = true := decide_eq_true hi
          have c6 : (0 ≤ (i : Int)) = True := eq_true (by omega)
          clear hi hy eK eC el
          have ES := Aside0.mk (by have h := congrArg (fun s => namesIL s lb) (List.take_add_one (l := x.f3) (i := i)); rw [HY.out] at h; simp only [Option.toList_some] at h; rw [namesIL_snoc] at h; exact h.trans (by rw [HC.out]) : namesIL (x.f3.take (i + 1)) lb = namesI y lc)
          have EN := Aside0.mk (by have h1 := namesI_len (cntT y) y (Nat.le_refl _) lc; have h2 := cntT_eq y; have h3 := HCL.out; have h4 := C2.out; omega : (namesI y lc).length ≤ lb.length + cntL (x.f3.take (i + 1)))
          go_wp2_with (first | ((with_reducible refine gate_dst (N := 28) rfl ?_); refine Go.Proofs.Ytomakpfmghekfaa.RowLaw.at_event rfl 30 _ rfl (ad.add (((i : Int)).toNat * k30.sz)) rfl _ ce huP rfl EL.out (EC.out.below HB.out) ?_; (try simp only [Act.put, List.setIfInBounds_toArray, List.set_cons_zero, List.set_cons_succ])) | ((with_reducible refine gate_dst (N := 6) rfl ?_); refine box_event ?hg (N := 6) ?hd (cs := #[.int .i64 0, .int .i64 0, .string (⟨#[]⟩ : ByteArray), .slice none 0 0]) (t := 30) ?hr ?_; (case hd => rfl); (case hg => rfl); (case hr => first | (go_simp; done) | (go_simp; rfl)); intro g6 hg w6 hbox hb; have HX := Aside0.mk hb; have HGE := Aside0.mk (Nat.le_of_eq hg.symm); have BK6 := Aside0.mk hbox; clear hg hbox hb; (try simp only [Act.put, List.setIfInBounds_toArray, List.set_cons_zero, List.set_cons_succ])) | ((with_reducible refine gate_store (t := 30) (p := 6) rfl ?_); refine Go.Proofs.Ytomakpfmghekfaa.RowLaw.put_event rfl 30 _ _ rfl g6 0 (.agg ce.toArray) rfl rfl ce rfl 30 _ ce.toArray BK6.out EL.out (Nat.le_of_eq (by rw [Nat.zero_add, ← EZ.out]; rfl)) (Go.Proofs.Ytomakpfmghekfaa.RowLaw.one_list EK.out) (Go.Proofs.Ytomakpfmghekfaa.RowLaw.whole_put EZ.out rfl) ?_; intro w7 hk hoth hbel hz; have hb := hbel _ _ HX.out HGE.out; have BK7 := Aside0.mk hk; have n0_ := Aside0.mk (below_step HB.out hb); have n1_ := Aside0.mk (Kd.R_below HR.out hb); have n2_ := Aside0.mk (HG.out.trans (Gr.of_below _ hb)); clear HB HR HG; have HB := n0_; have HR := n1_; have HG := n2_; clear n0_ n1_ n2_; clear hk hoth hbel hz hb HX HGE BK6; (try simp only [Act.put, List.setIfInBounds_toArray, List.set_cons_zero, List.set_cons_succ])) | ((with_reducible refine gate_dst (N := 29) rfl ?_); refine wpList_load_row rfl 30 _ rfl g6 rfl 30 ce.toArray (0, 0) _ BK7.out huP rfl EL.out ?_; (try simp only [Act.put, List.setIfInBounds_toArray, List.set_cons_zero, List.set_cons_succ])) | (go_at_call 25; refine (ih (cntT y) (by have := C1.out; have := HN.out; have := cntT_eq x; have := cntT_eq y; omega) y (Nat.le_refl _) ce.toArray _ lc w0 _ EK.out HB.out HR.out (by have := HCL.out; have := C1.out; have := cntT_eq x; have := cntT_eq y; have := HLL.out; omega)).mono ?_; rintro e wd ⟨v1, rfl, ho, hb, hgr⟩; have n0_ := Aside0.mk (hb); have n1_ := Aside0.mk (ho); have n2_ := Aside0.mk (HG.out.trans hgr); clear HB HR HG; have HB := n0_; have HR := n1_; have HG := n2_; clear n0_ n1_ n2_; clear ho hb hgr))
          go_roundg kp
          case measure => omega
          case rel => exact ⟨i + 1, _, _, by rw [HW.out], rfl, ⟨ES.out.symm⟩, EN, ⟨by omega⟩, HR, HB, HG⟩
        · obtain rfl : i = x.f3.length := by have := HK.out; omega
          have EA := Aside0.mk (by rw [EQ.out, HC.out, List.take_length] : namesI x l = lc)
          have c5 : ((x.f3.length : Int) < (x.f3.length : Int)) = False := eq_false (by omega)
          clear hi
          go_wp2
          go_ret
          exact ⟨_, rfl, by rw [EA.out]; exact HR.out, HB.out, HG.out⟩
    | false =>
      have HCON := Aside0.mk (ha ▸ hkc : slices_Contains_string_string.f kc l x.f2 = some false)
      obtain ⟨lb, HLB⟩ : ∃ lb, Aside0 (lb = (l ++ [x.f2])) := ⟨_, ⟨rfl⟩⟩
      have EQ := Aside0.mk (by rw [namesI_eq, if_pos ⟨c0, ha⟩, HLB.out] : namesI x l = namesIL x.f3 lb)
      have HLL := Aside0.mk (by have := HL.out; have := cntT_eq x; rw [HLB.out]; simp; omega : lb.length + cntL x.f3 ≤ 2000000)
      clear ha hkc c0
      go_enter Try.func25, Try.ntmps25
      go_wp2_with (first | ((with_reducible refine gate_dst (N := 2) rfl ?_); refine box_event ?hg (N := 2) ?hd (cs := #[.int .i64 x.f0, .int .i64 x.f1, .string x.f2, .slice A x.f3.length c]) (t := 30) ?hr ?_; (case hd => rfl); (case hg => rfl); (case hr => first | (go_simp; done) | (go_simp; rfl)); intro g2 hg w1 hbox hb; have NE := Aside0.mk (own_fresh HR.out (Nat.le_of_eq hg.symm)); have n0_ := Aside0.mk (below_step HB.out hb); have n1_ := Aside0.mk (Kd.R_below HR.out hb); have n2_ := Aside0.mk (HG.out.trans (Gr.of_below _ hb)); clear HB HR HG; have HB := n0_; have HR := n1_; have HG := n2_; clear n0_ n1_ n2_; have BK := Aside0.mk hbox; have zb0 : w1.cell? ⟨g2, 0, none⟩ = some (.int .i64 x.f0) := (blk_cell BK.out 0).trans rfl; have zb1 : w1.cell? ⟨g2, 1, none⟩ = some (.int .i64 x.f1) := (blk_cell BK.out 1).trans rfl; have zb2 : w1.cell? ⟨g2, 2, none⟩ = some (.string x.f2) := (blk_cell BK.out 2).trans rfl; have zb3 : w1.cell? ⟨g2, 3, none⟩ = some (.slice A x.f3.length c) := (blk_cell BK.out 3).trans rfl; clear hg hbox hb; (try simp only [Act.put, List.setIfInBounds_toArray, List.set_cons_zero, List.set_cons_succ])) | (go_at_call 37; refine (slices_Contains_string_string.calls kc Av cv l x.f2 false _ ?side1 ?side2 HCON.out).mono ?_; (case side1 => exact (Kd.R_reads' HR.out).2.2); (case side2 => exact (Kd.R_reads' HR.out).2.1); rintro e wc ⟨rfl, ⟨md, rfl⟩⟩; have n0_ := Aside0.mk (pw_below_drewN HB.out md); have n1_ := Aside0.mk (Kd.R_drewN HR.out md); have n2_ := Aside0.mk (HG.out.drewN md); have n3_ := Aside0.mk (blk_drewN BK.out md); clear HB HR HG BK; have HB := n0_; have HR := n1_; have HG := n2_; have BK := n3_; clear n0_ n1_ n2_ n3_) | ((with_reducible refine gate_builtin (b := .append) (xs := #[.tmp 17, .tmp 20]) rfl ?_); at_builtin; refine Kd.R_append Kd.string (w0 := w0) w0.heap.size rfl (.tmp 17) (.tmp 20) 26 9 (.string ⟨#[]⟩) 16 rfl Try.underlying26 dn_info rfl (by decide) (by omega) _ l x.f2 [.string x.f2] (fun _ => True) (fun _ => False) rfl rfl ?aP (fun _ hk => hk.elim) ?aF ?aO ?aB ?aS ?aL ?_; (case aP => exact rfl); (case aB => exact HB.out); (case aF => exact (fun _ _ => trivial)); (case aO => exact HR.out); (case aS => exact HB.out.size); (case aL => have := HL.out; have := cntT_eq x; omega); intro v1 w5 ho hb hg hat; have hgr := Gr.of_grown hg hat; have n0_ := Aside0.mk (hb); have n1_ := Aside0.mk (ho); have n2_ := Aside0.mk (HG.out.trans hgr); clear HB HR HG; have HB := n0_; have HR := n1_; have HG := n2_; clear n0_ n1_ n2_; have NE1 := Aside0.mk (fun he : some g2 = v1.ownBlock => (hgr.own g2 he.symm).elim (fun h => NE.out h.symm) (fun h => Nat.lt_irrefl _ (Nat.lt_of_lt_of_le (blk_lt BK.out) h))); have BK1 := Aside0.mk ((hgr.same g2 (blk_lt BK.out) NE.out).trans BK.out); clear ho hb hg hat hgr BK NE; have BK := BK1; have NE := NE1; clear BK1 NE1; clear zb0 zb1 zb2 zb3; have zb0 : w5.cell? ⟨g2, 0, none⟩ = some (.int .i64 x.f0) := (blk_cell BK.out 0).trans rfl; have zb1 : w5.cell? ⟨g2, 1, none⟩ = some (.int .i64 x.f1) := (blk_cell BK.out 1).trans rfl; have zb2 : w5.cell? ⟨g2, 2, none⟩ = some (.string x.f2) := (blk_cell BK.out 2).trans rfl; have zb3 : w5.cell? ⟨g2, 3, none⟩ = some (.slice A x.f3.length c) := (blk_cell BK.out 3).trans rfl; (try simp only [Act.put, List.setIfInBounds_toArray, List.set_cons_zero, List.set_cons_succ])))
      go_loopg [1, 25] x.f3.length (fun kq v1 v6 w' => ∃ (i : Nat) (vc : Value) (lc : List ByteArray), v6 = .int .i64 (i : Int) ∧ v1 = vc ∧ Aside0 (lc = namesIL (x.f3.take i) lb) ∧ Aside0 (lc.length ≤ lb.length + cntL (x.f3.take i)) ∧ Aside0 (kq + i = x.f3.length) ∧ Aside0 (Kd.R Kd.string 9 w' w0.heap.size (fun _ => True) vc lc) ∧ Aside0 (Below w0.heap.size w0 w') ∧ Aside0 (Gr w (.slice Av l.length cv) w' vc))
      case atStart => exact ⟨0, _, lb, rfl, rfl, ⟨by simp [namesIL]⟩, ⟨by omega⟩, ⟨by omega⟩, ⟨by rw [HLB.out]; exact HR.out⟩, HB, HG⟩
      case round =>
        clear HR HB HG BK NE zb0 zb1 zb2 zb3
        obtain ⟨i, vc, lc, rfl, rfl, HC, HCL, HK, HR, HB, HG⟩ := hrel
        by_cases hi : i < x.f3.length
        · obtain ⟨y, hy⟩ : ∃ y, x.f3[i]? = some y := ⟨_, List.getElem?_eq_getElem hi⟩
          obtain ⟨ad, ce, ea, el, eK, eC⟩ := Go.Proofs.Ytomakpfmghekfaa.RowLaw.elem_of G3.out z30 (i : Int) (by omega) (by omega)
          rw [show x.f3.getD ((i : Int)).toNat z30 = y from by rw [List.getD_eq_getElem?_getD, Int.toNat_natCast, hy]; rfl] at eK
          cases ea
          have HY := Aside0.mk hy
          have EC := Aside0.mk eC
          have EK := Aside0.mk eK
          have EL := Aside0.mk ((by rw [el]; kernel_rfl) : (Try.prog.info? 30).map (·.size) = some ce.length)
          have EZ := Aside0.mk (el.symm : k30.sz = ce.length)
          have C1 := Aside0.mk (cntL_mem x.f3 i y hy)
          have C2 := Aside0.mk (cntL_take x.f3 i y hy)
          have HW := Aside0.mk (by have := HL.out; have := len_cnt x.f3; have := cntT_eq x; unfold wrap64; omega : wrap64 ((i : Int) + 1) = ((i + 1 : Nat) : Int))
          obtain ⟨kp, rfl⟩ : ∃ kp, gk = kp + 1 := ⟨gk - 1, by have := HK.out; omega⟩
          have hkp : kp + (i + 1) = x.f3.length := by have := HK.out; omega
          have c5 : ((i : Int) < (x.f3.length : Int)) = True := eq_true (by omega)
          have c5n : decide (i < x.f3.length) = true := decide_eq_true hi
          have c6 : (0 ≤ (i : Int)) = True := eq_true (by omega)
          clear hi hy eK eC el
          have ES := Aside0.mk (by have h := congrArg (fun s => namesIL s lb) (List.take_add_one (l := x.f3) (i := i)); rw [HY.out] at h; simp only [Option.toList_some] at h; rw [namesIL_snoc] at h; exact h.trans (by rw [HC.out]) : namesIL (x.f3.take (i + 1)) lb = namesI y lc)
          have EN := Aside0.mk (by have h1 := namesI_len (cntT y) y (Nat.le_refl _) lc; have h2 := cntT_eq y; have h3 := HCL.out; have h4 := C2.out; omega : (namesI y lc).length ≤ lb.length + cntL (x.f3.take (i + 1)))
          go_wp2_with (first | ((with_reducible refine gate_dst (N := 28) rfl ?_); refine Go.Proofs.Ytomakpfmghekfaa.RowLaw.at_event rfl 30 _ rfl (ad.add (((i : Int)).toNat * k30.sz)) rfl _ ce huP rfl EL.out (EC.out.below HB.out) ?_; (try simp only [Act.put, List.setIfInBounds_toArray, List.set_cons_zero, List.set_cons_succ])) | ((with_reducible refine gate_dst (N := 6) rfl ?_); refine box_event ?hg (N := 6) ?hd (cs := #[.int .i64 0, .int .i64 0, .string (⟨#[]⟩ : ByteArray), .slice none 0 0]) (t := 30) ?hr ?_; (case hd => rfl); (case hg => rfl); (case hr => first | (go_simp; done) | (go_simp; rfl)); intro g6 hg w6 hbox hb; have HX := Aside0.mk hb; have HGE := Aside0.mk (Nat.le_of_eq hg.symm); have BK6 := Aside0.mk hbox; clear hg hbox hb; (try simp only [Act.put, List.setIfInBounds_toArray, List.set_cons_zero, List.set_cons_succ])) | ((with_reducible refine gate_store (t := 30) (p := 6) rfl ?_); refine Go.Proofs.Ytomakpfmghekfaa.RowLaw.put_event rfl 30 _ _ rfl g6 0 (.agg ce.toArray) rfl rfl ce rfl 30 _ ce.toArray BK6.out EL.out (Nat.le_of_eq (by rw [Nat.zero_add, ← EZ.out]; rfl)) (Go.Proofs.Ytomakpfmghekfaa.RowLaw.one_list EK.out) (Go.Proofs.Ytomakpfmghekfaa.RowLaw.whole_put EZ.out rfl) ?_; intro w7 hk hoth hbel hz; have hb := hbel _ _ HX.out HGE.out; have BK7 := Aside0.mk hk; have n0_ := Aside0.mk (below_step HB.out hb); have n1_ := Aside0.mk (Kd.R_below HR.out hb); have n2_ := Aside0.mk (HG.out.trans (Gr.of_below _ hb)); clear HB HR HG; have HB := n0_; have HR := n1_; have HG := n2_; clear n0_ n1_ n2_; clear hk hoth hbel hz hb HX HGE BK6; (try simp only [Act.put, List.setIfInBounds_toArray, List.set_cons_zero, List.set_cons_succ])) | ((with_reducible refine gate_dst (N := 29) rfl ?_); refine wpList_load_row rfl 30 _ rfl g6 rfl 30 ce.toArray (0, 0) _ BK7.out huP rfl EL.out ?_; (try simp only [Act.put, List.setIfInBounds_toArray, List.set_cons_zero, List.set_cons_succ])) | (go_at_call 25; refine (ih (cntT y) (by have := C1.out; have := HN.out; have := cntT_eq x; have := cntT_eq y; omega) y (Nat.le_refl _) ce.toArray _ lc w0 _ EK.out HB.out HR.out (by have := HCL.out; have := C1.out; have := cntT_eq x; have := cntT_eq y; have := HLL.out; omega)).mono ?_; rintro e wd ⟨v1, rfl, ho, hb, hgr⟩; have n0_ := Aside0.mk (hb); have n1_ := Aside0.mk (ho); have n2_ := Aside0.mk (HG.out.trans hgr); clear HB HR HG; have HB := n0_; have HR := n1_; have HG := n2_; clear n0_ n1_ n2_; clear ho hb hgr))
          go_roundg kp
          case measure => omega
          case rel => exact ⟨i + 1, _, _, by rw [HW.out], rfl, ⟨ES.out.symm⟩, EN, ⟨by omega⟩, HR, HB, HG⟩
        · obtain rfl : i = x.f3.length := by have := HK.out; omega
          have EA := Aside0.mk (by rw [EQ.out, HC.out, List.take_length] : namesI x l = lc)
          have c5 : ((x.f3.length : Int) < (x.f3.length : Int)) = False := eq_false (by omega)
          clear hi
          go_wp2
          go_ret
          exact ⟨_, rfl, by rw [EA.out]; exact HR.out, HB.out, HG.out⟩
  · have c0b : (x.f0 == 24) = false := beq_eq_false_iff_ne.mpr c0
    obtain ⟨lb, HLB⟩ : ∃ lb, Aside0 (lb = l) := ⟨_, ⟨rfl⟩⟩
    have EQ := Aside0.mk (by rw [namesI_eq, if_neg (fun h => c0 h.1), HLB.out] : namesI x l = namesIL x.f3 lb)
    have HLL := Aside0.mk (by have := HL.out; have := cntT_eq x; rw [HLB.out]; omega : lb.length + cntL x.f3 ≤ 2000000)
    clear c0
    go_enter Try.func25, Try.ntmps25
    go_wp2_with (first | ((with_reducible refine gate_dst (N := 2) rfl ?_); refine box_event ?hg (N := 2) ?hd (cs := #[.int .i64 x.f0, .int .i64 x.f1, .string x.f2, .slice A x.f3.length c]) (t := 30) ?hr ?_; (case hd => rfl); (case hg => rfl); (case hr => first | (go_simp; done) | (go_simp; rfl)); intro g2 hg w1 hbox hb; have NE := Aside0.mk (own_fresh HR.out (Nat.le_of_eq hg.symm)); have n0_ := Aside0.mk (below_step HB.out hb); have n1_ := Aside0.mk (Kd.R_below HR.out hb); have n2_ := Aside0.mk (HG.out.trans (Gr.of_below _ hb)); clear HB HR HG; have HB := n0_; have HR := n1_; have HG := n2_; clear n0_ n1_ n2_; have BK := Aside0.mk hbox; have zb0 : w1.cell? ⟨g2, 0, none⟩ = some (.int .i64 x.f0) := (blk_cell BK.out 0).trans rfl; have zb1 : w1.cell? ⟨g2, 1, none⟩ = some (.int .i64 x.f1) := (blk_cell BK.out 1).trans rfl; have zb2 : w1.cell? ⟨g2, 2, none⟩ = some (.string x.f2) := (blk_cell BK.out 2).trans rfl; have zb3 : w1.cell? ⟨g2, 3, none⟩ = some (.slice A x.f3.length c) := (blk_cell BK.out 3).trans rfl; clear hg hbox hb; (try simp only [Act.put, List.setIfInBounds_toArray, List.set_cons_zero, List.set_cons_succ])))
    go_loopg [1, 25] x.f3.length (fun kq v1 v6 w' => ∃ (i : Nat) (vc : Value) (lc : List ByteArray), v6 = .int .i64 (i : Int) ∧ v1 = vc ∧ Aside0 (lc = namesIL (x.f3.take i) lb) ∧ Aside0 (lc.length ≤ lb.length + cntL (x.f3.take i)) ∧ Aside0 (kq + i = x.f3.length) ∧ Aside0 (Kd.R Kd.string 9 w' w0.heap.size (fun _ => True) vc lc) ∧ Aside0 (Below w0.heap.size w0 w') ∧ Aside0 (Gr w (v) w' vc))
    case atStart => exact ⟨0, _, lb, rfl, rfl, ⟨by simp [namesIL]⟩, ⟨by omega⟩, ⟨by omega⟩, ⟨by rw [HLB.out]; exact HR.out⟩, HB, HG⟩
    case round =>
      clear HR HB HG BK NE zb0 zb1 zb2 zb3
      obtain ⟨i, vc, lc, rfl, rfl, HC, HCL, HK, HR, HB, HG⟩ := hrel
      by_cases hi : i < x.f3.length
      · obtain ⟨y, hy⟩ : ∃ y, x.f3[i]? = some y := ⟨_, List.getElem?_eq_getElem hi⟩
        obtain ⟨ad, ce, ea, el, eK, eC⟩ := Go.Proofs.Ytomakpfmghekfaa.RowLaw.elem_of G3.out z30 (i : Int) (by omega) (by omega)
        rw [show x.f3.getD ((i : Int)).toNat z30 = y from by rw [List.getD_eq_getElem?_getD, Int.toNat_natCast, hy]; rfl] at eK
        cases ea
        have HY := Aside0.mk hy
        have EC := Aside0.mk eC
        have EK := Aside0.mk eK
        have EL := Aside0.mk ((by rw [el]; kernel_rfl) : (Try.prog.info? 30).map (·.size) = some ce.length)
        have EZ := Aside0.mk (el.symm : k30.sz = ce.length)
        have C1 := Aside0.mk (cntL_mem x.f3 i y hy)
        have C2 := Aside0.mk (cntL_take x.f3 i y hy)
        have HW := Aside0.mk (by have := HL.out; have := len_cnt x.f3; have := cntT_eq x; unfold wrap64; omega : wrap64 ((i : Int) + 1) = ((i + 1 : Nat) : Int))
        obtain ⟨kp, rfl⟩ : ∃ kp, gk = kp + 1 := ⟨gk - 1, by have := HK.out; omega⟩
        have hkp : kp + (i + 1) = x.f3.length := by have := HK.out; omega
        have c5 : ((i : Int) < (x.f3.length : Int)) = True := eq_true (by omega)
        have c5n : decide (i < x.f3.length) = true := decide_eq_true hi
        have c6 : (0 ≤ (i : Int)) = True := eq_true (by omega)
        clear hi hy eK eC el
        have ES := Aside0.mk (by have h := congrArg (fun s => namesIL s lb) (List.take_add_one (l := x.f3) (i := i)); rw [HY.out] at h; simp only [Option.toList_some] at h; rw [namesIL_snoc] at h; exact h.trans (by rw [HC.out]) : namesIL (x.f3.take (i + 1)) lb = namesI y lc)
        have EN := Aside0.mk (by have h1 := namesI_len (cntT y) y (Nat.le_refl _) lc; have h2 := cntT_eq y; have h3 := HCL.out; have h4 := C2.out; omega : (namesI y lc).length ≤ lb.length + cntL (x.f3.take (i + 1)))
        go_wp2_with (first | ((with_reducible refine gate_dst (N := 28) rfl ?_); refine Go.Proofs.Ytomakpfmghekfaa.RowLaw.at_event rfl 30 _ rfl (ad.add (((i : Int)).toNat * k30.sz)) rfl _ ce huP rfl EL.out (EC.out.below HB.out) ?_; (try simp only [Act.put, List.setIfInBounds_toArray, List.set_cons_zero, List.set_cons_succ])) | ((with_reducible refine gate_dst (N := 6) rfl ?_); refine box_event ?hg (N := 6) ?hd (cs := #[.int .i64 0, .int .i64 0, .string (⟨#[]⟩ : ByteArray), .slice none 0 0]) (t := 30) ?hr ?_; (case hd => rfl); (case hg => rfl); (case hr => first | (go_simp; done) | (go_simp; rfl)); intro g6 hg w6 hbox hb; have HX := Aside0.mk hb; have HGE := Aside0.mk (Nat.le_of_eq hg.symm); have BK6 := Aside0.mk hbox; clear hg hbox hb; (try simp only [Act.put, List.setIfInBounds_toArray, List.set_cons_zero, List.set_cons_succ])) | ((with_reducible refine gate_store (t := 30) (p := 6) rfl ?_); refine Go.Proofs.Ytomakpfmghekfaa.RowLaw.put_event rfl 30 _ _ rfl g6 0 (.agg ce.toArray) rfl rfl ce rfl 30 _ ce.toArray BK6.out EL.out (Nat.le_of_eq (by rw [Nat.zero_add, ← EZ.out]; rfl)) (Go.Proofs.Ytomakpfmghekfaa.RowLaw.one_list EK.out) (Go.Proofs.Ytomakpfmghekfaa.RowLaw.whole_put EZ.out rfl) ?_; intro w7 hk hoth hbel hz; have hb := hbel _ _ HX.out HGE.out; have BK7 := Aside0.mk hk; have n0_ := Aside0.mk (below_step HB.out hb); have n1_ := Aside0.mk (Kd.R_below HR.out hb); have n2_ := Aside0.mk (HG.out.trans (Gr.of_below _ hb)); clear HB HR HG; have HB := n0_; have HR := n1_; have HG := n2_; clear n0_ n1_ n2_; clear hk hoth hbel hz hb HX HGE BK6; (try simp only [Act.put, List.setIfInBounds_toArray, List.set_cons_zero, List.set_cons_succ])) | ((with_reducible refine gate_dst (N := 29) rfl ?_); refine wpList_load_row rfl 30 _ rfl g6 rfl 30 ce.toArray (0, 0) _ BK7.out huP rfl EL.out ?_; (try simp only [Act.put, List.setIfInBounds_toArray, List.set_cons_zero, List.set_cons_succ])) | (go_at_call 25; refine (ih (cntT y) (by have := C1.out; have := HN.out; have := cntT_eq x; have := cntT_eq y; omega) y (Nat.le_refl _) ce.toArray _ lc w0 _ EK.out HB.out HR.out (by have := HCL.out; have := C1.out; have := cntT_eq x; have := cntT_eq y; have := HLL.out; omega)).mono ?_; rintro e wd ⟨v1, rfl, ho, hb, hgr⟩; have n0_ := Aside0.mk (hb); have n1_ := Aside0.mk (ho); have n2_ := Aside0.mk (HG.out.trans hgr); clear HB HR HG; have HB := n0_; have HR := n1_; have HG := n2_; clear n0_ n1_ n2_; clear ho hb hgr))
        go_roundg kp
        case measure => omega
        case rel => exact ⟨i + 1, _, _, by rw [HW.out], rfl, ⟨ES.out.symm⟩, EN, ⟨by omega⟩, HR, HB, HG⟩
      · obtain rfl : i = x.f3.length := by have := HK.out; omega
        have EA := Aside0.mk (by rw [EQ.out, HC.out, List.take_length] : namesI x l = lc)
        have c5 : ((x.f3.length : Int) < (x.f3.length : Int)) = False := eq_false (by omega)
        clear hi
        go_wp2
        go_ret
        exact ⟨_, rfl, by rw [EA.out]; exact HR.out, HB.out, HG.out⟩

theorem names_same (n : Nat) : ∀ x : S30, cntT x ≤ n → okP x = true → ∀ l, namesI x l = namesS x l := by
  induction n using Nat.strongRecOn with
  | _ n ih =>
  intro x hn ho l
  have kids : ∀ (s : List S30), cntL s < n → okPS s = true → ∀ l, namesIL s l = namesSL s l := by
    intro s
    induction s with
    | nil => intro _ _ l; simp [namesIL, namesSL]
    | cons y ys ihs =>
      intro hs ho l
      rw [okPS_cons, Bool.and_eq_true] at ho
      simp only [cntL] at hs
      simp only [namesIL, namesSL]
      have h1 := cntT_eq y
      rw [ih (cntT y) (by omega) y (Nat.le_refl _) ho.1 l]
      exact ihs (by omega) ho.2 _
  rw [cntT_eq] at hn
  rw [okP_eq, Bool.and_eq_true, Bool.and_eq_true] at ho
  rw [namesI_eq, namesS_eq]
  by_cases h : x.f0 = 24
  · have hk := of_decide_eq_true ho.1.1
    rw [h] at hk
    have hk24 : kidsN 24 = 0 := by decide
    have hz : x.f3 = [] := List.eq_nil_of_length_eq_zero (by omega)
    rw [hz, if_pos h]
    simp only [namesIL]
    cases ha : anyEq l x.f2 with
    | true => rw [if_neg (by simp), if_pos rfl]
    | false => rw [if_pos ⟨h, rfl⟩, if_neg (by simp)]
  · rw [if_neg (fun z => h z.1), if_neg h]
    exact kids x.f3 (by omega) ho.2 l
theorem size_cnt (n : Nat) : ∀ x : S24, cntT (convPattern x) ≤ n → cntT (convPattern x) ≤ 1 + sizePattern x := by
  induction n using Nat.strongRecOn with
  | _ n ih =>
  intro x hn
  have kids : ∀ (s : List S24), cntL (convPatternS s) < n → cntL (convPatternS s) ≤ s.length + sizePatternS s := by
    intro s
    induction s with
    | nil => intro _; simp [convPatternS, cntL]
    | cons y ys ihs =>
      intro hs
      simp only [convPatternS, cntL] at hs ⊢
      rw [sizePatternS_cons, List.length_cons]
      have h0 := cntT_eq (convPattern y)
      have h1 := ih (cntT (convPattern y)) (by omega) y (Nat.le_refl _)
      have h2 := ihs (by omega)
      omega
  rw [cntT_eq] at hn ⊢
  rw [convPattern_f3] at hn ⊢
  have := kids x.f3 (by omega)
  rw [sizePattern_eq]
  omega
def dnames (x : S30) : List ByteArray := if validP x = true then namesS x [] else []

end Go.Proofs.Ytomakpfmghekfaa.PFnExactDeferredNames
