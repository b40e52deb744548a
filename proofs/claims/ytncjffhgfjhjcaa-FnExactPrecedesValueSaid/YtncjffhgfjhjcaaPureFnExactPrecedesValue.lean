/- FnExactPrecedesValue answers true for every two values: the program's order (cmp.Or of four comparisons) and the reference's (field by field) agree. Conditions: none beyond the statement's own. -/
import Derived.Test.YtncjffhgfjhjcaaPFnExactPrecedesValuex2
namespace Go.Proofs.Ytncjffhgfjhjcaa.Pure
open Go.RowKit Go.Proofs.Ytncjffhgfjhjcaa.PFnExactPrecedesValue Go.Proofs.YtncjffhgfjhjcaaW.PrintWords Go.Proofs.YtncjffhgfjhjcaaW.PrintLast
namespace PrecedesValue
theorem less_irrefl : ∀ x : List UInt8, Op.bytesLess x x = false
  | [] => rfl
  | a :: x => by simp [Op.bytesLess, less_irrefl x]
theorem less_total : ∀ x y : List UInt8, Op.bytesLess x y = false → Op.bytesLess y x = false → x = y
  | [], [] => fun _ _ => rfl
  | [], _ :: _ => fun h _ => by simp [Op.bytesLess] at h
  | _ :: _, [] => fun _ h => by simp [Op.bytesLess] at h
  | a :: x, b :: y => fun h1 h2 => by
    simp only [Op.bytesLess, Bool.or_eq_false_iff, decide_eq_false_iff_not, UInt8.not_lt, Bool.and_eq_false_iff] at h1 h2
    have e : a = b := UInt8.le_antisymm h2.1 h1.1
    subst e
    have e1 : Op.bytesLess x y = false := by
      rcases h1.2 with h | h
      · simp at h
      · exact h
    have e2 : Op.bytesLess y x = false := by
      rcases h2.2 with h | h
      · simp at h
      · exact h
    rw [less_total x y e1 e2]
theorem int_ev (a b : Int) : cmp_Compare_int64.f a b = some (if a < b then -1 else if b < a then 1 else 0) := by
  unfold cmp_Compare_int64.f cmp_isNaN_int64.f
  simp only [bne_self_eq_false, Option.bind_some]
  by_cases h : a < b
  · simp [h]
  · by_cases h2 : b < a
    · simp [h, h2]
    · simp [h, h2]
theorem str_ev (a b : ByteArray) : cmp_Compare_string.f a b = some (if Op.bytesLess a.toList b.toList = true then -1 else if Op.bytesLess b.toList a.toList = true then 1 else 0) := by
  unfold cmp_Compare_string.f cmp_isNaN_string.f
  simp only [bne_self_eq_false, Option.bind_some]
  cases h : Op.bytesLess a.toList b.toList <;> cases h2 : Op.bytesLess b.toList a.toList <;> simp
def orOf : List Int → Int
  | [] => 0
  | x :: l => if x = 0 then orOf l else x
theorem or_ev (a b c d : Int) : Ev (fun k => cmp_Or_int.f k [a, b, c, d]) (orOf [a, b, c, d]) := by
  refine Ev.congr (f := fun k => cmp_Or_int.l0 k 0 [a, b, c, d] 4 0) (fun k => by simp only [cmp_Or_int.f]; rfl) ?_
  have w0 : wrap64 (0 + 1) = 1 := by unfold wrap64; omega
  have w1 : wrap64 (1 + 1) = 2 := by unfold wrap64; omega
  have w2 : wrap64 (2 + 1) = 3 := by unfold wrap64; omega
  have w3 : wrap64 (3 + 1) = 4 := by unfold wrap64; omega
  have r0 : rd [a, b, c, d] 0 = a := rfl
  have r1 : rd [a, b, c, d] 1 = b := rfl
  have r2 : rd [a, b, c, d] 2 = c := rfl
  have r3 : rd [a, b, c, d] 3 = d := rfl
  have l4 : (([a, b, c, d] : List Int).length : Int) = 4 := rfl
  by_cases ha : a = 0
  · refine Ev.step (f := fun k => cmp_Or_int.l0 k 0 [a, b, c, d] 4 1) (fun k => by simp only [cmp_Or_int.l0]; rw [if_pos (by omega), if_pos (by omega), if_pos (by rw [l4]; omega), r0, if_pos ha, w0]) ?_
    by_cases hb : b = 0
    · refine Ev.step (f := fun k => cmp_Or_int.l0 k 0 [a, b, c, d] 4 2) (fun k => by simp only [cmp_Or_int.l0]; rw [if_pos (by omega), if_pos (by omega), if_pos (by rw [l4]; omega), r1, if_pos hb, w1]) ?_
      by_cases hc : c = 0
      · refine Ev.step (f := fun k => cmp_Or_int.l0 k 0 [a, b, c, d] 4 3) (fun k => by simp only [cmp_Or_int.l0]; rw [if_pos (by omega), if_pos (by omega), if_pos (by rw [l4]; omega), r2, if_pos hc, w2]) ?_
        by_cases hd : d = 0
        · refine Ev.step (f := fun k => cmp_Or_int.l0 k 0 [a, b, c, d] 4 4) (fun k => by simp only [cmp_Or_int.l0]; rw [if_pos (by omega), if_pos (by omega), if_pos (by rw [l4]; omega), r3, if_pos hd, w3]) ?_
          refine Ev.step (f := fun _ => some 0) (fun k => by simp only [cmp_Or_int.l0]; rw [if_neg (by omega)]) ?_
          simp only [orOf, ha, hb, hc, hd, if_true]
          exact Ev.now 0
        · refine Ev.step (f := fun _ => some d) (fun k => by simp only [cmp_Or_int.l0]; rw [if_pos (by omega), if_pos (by omega), if_pos (by rw [l4]; omega), r3, if_neg hd]) ?_
          simp only [orOf, ha, hb, hc, if_neg hd, if_true]
          exact Ev.now d
      · refine Ev.step (f := fun _ => some c) (fun k => by simp only [cmp_Or_int.l0]; rw [if_pos (by omega), if_pos (by omega), if_pos (by rw [l4]; omega), r2, if_neg hc]) ?_
        simp only [orOf, ha, hb, if_neg hc, if_true]
        exact Ev.now c
    · refine Ev.step (f := fun _ => some b) (fun k => by simp only [cmp_Or_int.l0]; rw [if_pos (by omega), if_pos (by omega), if_pos (by rw [l4]; omega), r1, if_neg hb]) ?_
      simp only [orOf, ha, if_neg hb, if_true]
      exact Ev.now b
  · refine Ev.step (f := fun _ => some a) (fun k => by simp only [cmp_Or_int.l0]; rw [if_pos (by omega), if_pos (by omega), if_pos (by rw [l4]; omega), r0, if_neg ha]) ?_
    simp only [orOf, if_neg ha]
    exact Ev.now a
theorem impl_ev (x0 x1 : Int) (x2 : ByteArray) (x3 y0 y1 : Int) (y2 : ByteArray) (y3 : Int) : ∃ r, spec_PrecedesValue.f x0 x1 x2 x3 y0 y1 y2 y3 = some r ∧ Ev (fun k => impl_PrecedesValue.f k x0 x1 x2 x3 y0 y1 y2 y3) r := by
  have e : Ev (fun k => impl_PrecedesValue.f k x0 x1 x2 x3 y0 y1 y2 y3) (decide (orOf [if x0 < y0 then -1 else if y0 < x0 then 1 else 0, if x1 < y1 then -1 else if y1 < x1 then 1 else 0, if Op.bytesLess x2.toList y2.toList = true then -1 else if Op.bytesLess y2.toList x2.toList = true then 1 else 0, if x3 < y3 then -1 else if y3 < x3 then 1 else 0] < 0)) := by
    refine Ev.congr (f := fun k => ((cmp_Or_int.f k [if x0 < y0 then -1 else if y0 < x0 then 1 else 0, if x1 < y1 then -1 else if y1 < x1 then 1 else 0, if Op.bytesLess x2.toList y2.toList = true then -1 else if Op.bytesLess y2.toList x2.toList = true then 1 else 0, if x3 < y3 then -1 else if y3 < x3 then 1 else 0]).bind fun t => some t).bind fun t => some (decide (t < 0))) (fun k => ?_) (Ev.bind (Ev.bind (or_ev _ _ _ _) (Ev.now _)) (Ev.now _))
    unfold impl_PrecedesValue.f impl_compareValues.f
    rw [int_ev, int_ev, str_ev, int_ev]
    rfl
  refine ⟨_, ?_, e⟩
  unfold spec_PrecedesValue.f
  by_cases h0 : x0 = y0
  · subst h0
    rw [if_pos rfl]
    by_cases h1 : x1 = y1
    · subst h1
      rw [if_pos rfl]
      by_cases h2 : x2.toList = y2.toList
      · rw [if_pos h2, h2, less_irrefl]
        by_cases h3 : x3 < y3
        · simp [orOf, h3]
        · by_cases h4 : y3 < x3
          · simp [orOf, h3, h4]
          · simp [orOf, h3, h4]
      · rw [if_neg h2]
        cases hl : Op.bytesLess x2.toList y2.toList with
        | true => simp [orOf]
        | false =>
          cases hr : Op.bytesLess y2.toList x2.toList with
          | true => simp [orOf]
          | false => exact absurd (less_total _ _ hl hr) h2
    · rw [if_neg h1]
      by_cases h3 : x1 < y1
      · simp [orOf, h3]
      · have h4 : y1 < x1 := by omega
        simp [orOf, h3, h4]
  · rw [if_neg h0]
    by_cases h3 : x0 < y0
    · simp [orOf, h3]
    · have h4 : y0 < x0 := by omega
      simp [orOf, h3, h4]
end PrecedesValue
open PrecedesValue in
theorem FnExactPrecedesValue : laws_FnExactPrecedesValue.Pure := by
  intro x y _ _
  apply Ev.rounds
  unfold laws_FnExactPrecedesValue.f
  have h : ∀ (a b : Int) (c : ByteArray) (d e : Int), ∃ r, laws_szValue.f a b c d e = some r := by
    intro a b c d e
    unfold laws_szValue.f
    split
    · exact ⟨_, rfl⟩
    · exact ⟨_, rfl⟩
  obtain ⟨r, hr⟩ := h x.f0 x.f1 x.f2 x.f3 1048576
  rw [hr]
  simp only [Option.bind_some]
  by_cases c1 : r < 0
  · simp only [if_pos c1]
    exact Ev.now true
  simp only [if_neg c1]
  obtain ⟨r2, hr2⟩ := h y.f0 y.f1 y.f2 y.f3 r
  rw [hr2]
  simp only [Option.bind_some]
  by_cases c2 : r2 < 0
  · simp only [if_pos c2]
    exact Ev.now true
  simp only [if_neg c2, laws_toValue.f, Option.bind_some]
  obtain ⟨b, hb, eb⟩ := impl_ev x.f0 x.f1 x.f2 x.f3 y.f0 y.f1 y.f2 y.f3
  rw [hb]
  simp only [Option.bind_some]
  refine Ev.bind eb ?_
  exact Ev.congr (f := fun _ => some true) (fun k => by simp) (Ev.now true)
end Go.Proofs.Ytncjffhgfjhjcaa.Pure
