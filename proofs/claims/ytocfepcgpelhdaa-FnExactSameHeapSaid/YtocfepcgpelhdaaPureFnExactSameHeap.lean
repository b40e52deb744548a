/- FnExactSameHeap answers true for every two heaps: the program's SameHeap (slices.EqualFunc over the objects) and the reference's (a loop over objects read through pointers) both tell that they are the same, and the arguments read as before. Conditions: none beyond the statement's own. -/
import Derived.Test.YtocfepcgpelhdaaPFnExactSameHeapx6
namespace Go.Proofs.Ytocfepcgpelhdaa.Pure
open Go.RowKit Go.Proofs.Ytocfepcgpelhdaa.PFnExactSameHeap Go.Proofs.YtocfepcgpelhdaaW.PrintWords Go.Proofs.YtocfepcgpelhdaaW.PrintLast
namespace SameHeap
-- printed by wip/gen/conv.py =Value Heap
theorem ev_ex {α β : Type} {E : Nat → Option α} {R : Nat → α → Option β} {Q : β → Prop} {a : α} (h : Ev E a) (h2 : ∃ r, Ev (fun k => R k a) r ∧ Q r) : ∃ r, Ev (fun k => (E k).bind (R k)) r ∧ Q r := by
  obtain ⟨r, h3, h4⟩ := h2
  exact ⟨r, Ev.bind h h3, h4⟩
theorem drop_at {α : Type} (l : List α) (i : Nat) (x : α) (s : List α) (h : l.drop i = x :: s) : i < l.length ∧ l[i]? = some x ∧ l.drop (i + 1) = s := by
  have h1 : i < l.length := by
    rcases Nat.lt_or_ge i l.length with h2 | h2
    · exact h2
    · rw [List.drop_eq_nil_of_le h2] at h
      cases h
  rw [List.drop_eq_getElem_cons h1] at h
  injection h with h2 h3
  exact ⟨h1, by rw [List.getElem?_eq_getElem h1, h2], h3⟩
theorem drop_end {α : Type} (l : List α) (i : Nat) (h : l.drop i = []) (hi : i ≤ l.length) : i = l.length := by
  have := congrArg List.length h
  simp at this
  omega
theorem wrapl (i n : Nat) (h : i < n) (hn : n ≤ 9223372036854775807) : wrap64 ((i : Int) + 1) = ((i + 1 : Nat) : Int) := by unfold wrap64; omega
def neValue (y z : S105) : Bool := (!((y.f0) == (z.f0)) || (!((y.f1) == (z.f1)) || (!((y.f2.toList) == (z.f2.toList)) || (!((y.f3) == (z.f3))))))
def sameValueS : List S105 → List S105 → Bool
  | [], _ => true
  | _ :: _, [] => true
  | y :: s, z :: t => !neValue y z && sameValueS s t
def convValue (x : S128) : S105 := ⟨x.f0, x.f1, x.f2, x.f3⟩
theorem szValue_ev (x : S128) (g : G128 x) (left : Int) (hl0 : 0 ≤ left) (hl1 : left ≤ 1048576) : ∃ r, Ev (fun _ => laws_szValue.f x.f0 x.f1 x.f2 x.f3 left) r ∧ (r < 0 ∨ (0 ≤ r ∧ r ≤ left)) := by
  obtain ⟨h0, h1, h2, h3⟩ := g
  unfold laws_szValue.f
  have w0 : wrap64 (left - (x.f2.size : Int)) = left - (x.f2.size : Int) := by unfold wrap64; omega
  simp only [w0]
  by_cases c0 : left - (x.f2.size : Int) < 0
  · simp only [if_pos c0]
    exact ⟨-1, Ev.now _, Or.inl (by omega)⟩
  simp only [if_neg c0]
  exact ⟨_, Ev.now _, Or.inr ⟨by omega, by omega⟩⟩
theorem toValue_ev (x : S128) : Ev (fun _ => laws_toValue.f x.f0 x.f1 x.f2 x.f3) ((convValue x).f0, (convValue x).f1, (convValue x).f2, (convValue x).f3) := by
  unfold laws_toValue.f
  exact Ev.now _
theorem eqValue_ev (x : S105) : Ev (fun _ => laws_eqValue.f x.f0 x.f1 x.f2 x.f3 x.f0 x.f1 x.f2 x.f3) true := by
  unfold laws_eqValue.f
  try simp only [if_true]
  exact Ev.now _
theorem rdaValue (l : List S128) (i : Nat) (x : S128) (h : l[i]? = some x) : rd_T128 l (i : Int) = x := by
  unfold rd_T128
  rw [List.getD_eq_getElem?_getD, Int.toNat_natCast, h]
  rfl
theorem rdbValue (l : List S105) (i : Nat) (x : S105) (h : l[i]? = some x) : rd_T105 l (i : Int) = x := by
  unfold rd_T105
  rw [List.getD_eq_getElem?_getD, Int.toNat_natCast, h]
  rfl
theorem szValueS_loop (l : List S128) (hl : l.length ≤ 9223372036854775807) (s : List S128) : ∀ (i : Nat) (left : Int), i ≤ l.length → l.drop i = s → (∀ y, y ∈ s → G128 y) → 0 ≤ left → left ≤ 1048576 →
    ∃ r, Ev (fun k => laws_szValueS.l0 k l left (i : Int)) r ∧ (r < 0 ∨ (0 ≤ r ∧ r ≤ left)) := by
  induction s with
  | nil =>
    intro i left hi hd _ h0 h1
    have := drop_end l i hd hi
    refine ⟨left, Ev.step (f := fun _ => some left) (fun k => ?_) (Ev.now _), Or.inr ⟨h0, by omega⟩⟩
    simp only [laws_szValueS.l0]
    rw [if_neg (by omega)]
  | cons y s ih =>
    intro i left hi hd hy h0 h1
    obtain ⟨hlt, hx, hd'⟩ := drop_at l i y s hd
    have hrd := rdaValue l i y hx
    obtain ⟨r1, e1, c1 | ⟨p1, q1⟩⟩ := szValue_ev y (hy y List.mem_cons_self) left h0 h1
    · refine ⟨-1, Ev.step (f := fun k => (laws_szValue.f y.f0 y.f1 y.f2 y.f3 left).bind fun t => if t < 0 then some (-1) else laws_szValueS.l0 k l t ((i + 1 : Nat) : Int)) (fun k => ?_) (Ev.bind e1 (Ev.congr (f := fun _ => some (-1)) (fun k => by rw [if_pos c1]) (Ev.now _))), Or.inl (by omega)⟩
      simp only [laws_szValueS.l0]
      rw [if_pos (by omega), if_pos (by omega), hrd, wrapl i l.length hlt hl]
    · obtain ⟨r, er, q⟩ := ih (i + 1) r1 (by omega) hd' (fun z hz => hy z (List.mem_cons_of_mem _ hz)) (by omega) (by omega)
      refine ⟨r, Ev.step (f := fun k => (laws_szValue.f y.f0 y.f1 y.f2 y.f3 left).bind fun t => if t < 0 then some (-1) else laws_szValueS.l0 k l t ((i + 1 : Nat) : Int)) (fun k => ?_) (Ev.bind e1 (Ev.congr (fun k => by rw [if_neg (by omega)]) er)), ?_⟩
      · simp only [laws_szValueS.l0]
        rw [if_pos (by omega), if_pos (by omega), hrd, wrapl i l.length hlt hl]
      · rcases q with q | q
        · exact Or.inl q
        · exact Or.inr ⟨q.1, by omega⟩
theorem szValueS_ev (l : List S128) (g : l.length ≤ 9223372036854775807) (gk : ∀ y_, y_ ∈ l → G128 y_) (left : Int) (hl0 : 0 ≤ left) (hl1 : left ≤ 1048576) : ∃ r, Ev (fun k => laws_szValueS.f k l left) r ∧ (r < 0 ∨ (0 ≤ r ∧ r ≤ left ∧ l.length ≤ 1048576)) := by
  have w : wrap64 (left - (l.length : Int)) = left - (l.length : Int) := by unfold wrap64; omega
  by_cases c : left - (l.length : Int) < 0
  · refine ⟨-1, Ev.congr (f := fun _ => some (-1)) (fun k => ?_) (Ev.now _), Or.inl (by omega)⟩
    unfold laws_szValueS.f
    rw [w, if_pos c]
  · obtain ⟨r, er, q⟩ := szValueS_loop l g l 0 (left - (l.length : Int)) (by omega) rfl gk (by omega) (by omega)
    refine ⟨r, Ev.congr (fun k => ?_) er, ?_⟩
    · unfold laws_szValueS.f
      rw [w, if_neg c]
      first | done | rfl
    · rcases q with q | q
      · exact Or.inl q
      · exact Or.inr ⟨q.1, by omega, by omega⟩
theorem toValueS_loop (l : List S128) (hl : l.length ≤ 1048576) (s : List S128) : ∀ (i : Nat) (out : List S105), i ≤ l.length → l.drop i = s → out.length = l.length → out.take i = (l.map convValue).take i →
    (∀ y, y ∈ s → Ev (fun _ => laws_toValue.f y.f0 y.f1 y.f2 y.f3) ((convValue y).f0, (convValue y).f1, (convValue y).f2, (convValue y).f3)) → Ev (fun k => laws_toValueS.l0 k l out (i : Int)) (l.map convValue) := by
  induction s with
  | nil =>
    intro i out hi hd ho ht _
    have hi2 := drop_end l i hd hi
    have e : out = l.map convValue := by
      rw [List.take_of_length_le (by omega), List.take_of_length_le (by rw [List.length_map]; omega)] at ht
      exact ht
    refine Ev.step (f := fun _ => some out) (fun k => ?_) (e ▸ Ev.now out)
    simp only [laws_toValueS.l0]
    rw [if_neg (by omega)]
  | cons y s ih =>
    intro i out hi hd ho ht hy
    obtain ⟨hlt, hx, hd'⟩ := drop_at l i y s hd
    have hrd := rdaValue l i y hx
    have ey := hy y List.mem_cons_self
    have hly : (l.map convValue)[i]? = some (convValue y) := by rw [List.getElem?_map, hx]; rfl
    have r := ih (i + 1) (out.set i (convValue y)) (by omega) hd' (by rw [List.length_set]; exact ho) (by
      rw [List.take_add_one, List.take_add_one, hly, List.take_set_of_le (Nat.le_refl _), ht, List.getElem?_set_self (by omega)]) (fun z hz => hy z (List.mem_cons_of_mem _ hz))
    have r2 : Ev (fun k => (laws_toValue.f y.f0 y.f1 y.f2 y.f3).bind fun b => if (i : Int) < (out.length : Int) then laws_toValueS.l0 k l (out.set ((i : Int) : Int).toNat (⟨b.1, b.2.1, b.2.2.1, b.2.2.2⟩ : S105)) ((i + 1 : Nat) : Int) else none) (l.map convValue) := by
      refine Ev.bind ey ?_
      refine Ev.congr (f := fun k => laws_toValueS.l0 k l (out.set i (convValue y)) ((i + 1 : Nat) : Int)) (fun k => ?_) r
      rw [if_pos (by omega), Int.toNat_natCast]
      first | done | rfl
    refine Ev.step (fun k => ?_) r2
    simp only [laws_toValueS.l0]
    rw [if_pos (by omega), if_pos (by omega), hrd, wrapl i l.length hlt (by omega)]
    first | done | rfl
theorem toValueS_ev (l : List S128) (g : l.length ≤ 1048576) : Ev (fun k => laws_toValueS.f k l) (l.map convValue) := by
  refine Ev.congr (f := fun k => laws_toValueS.l0 k l (List.replicate l.length z105) ((0 : Nat) : Int)) (fun k => ?_) ?_
  · unfold laws_toValueS.f
    rw [if_pos (by omega), if_pos (by omega), Int.toNat_natCast]
    first | done | rfl
  · exact toValueS_loop l (by omega) l 0 _ (by omega) rfl (by simp) (by simp) (fun y hy => toValue_ev y)
theorem eqValueS_loop (l : List S105) (hl : l.length ≤ 9223372036854775807) (s : List S105) : ∀ (i : Nat), i ≤ l.length → l.drop i = s →
    (∀ y, y ∈ s → Ev (fun _ => laws_eqValue.f y.f0 y.f1 y.f2 y.f3 y.f0 y.f1 y.f2 y.f3) true) → Ev (fun k => laws_eqValueS.l0 k l l (i : Int)) true := by
  induction s with
  | nil =>
    intro i hi hd _
    have hi2 := drop_end l i hd hi
    refine Ev.step (f := fun _ => some true) (fun k => ?_) (Ev.now true)
    simp only [laws_eqValueS.l0]
    rw [if_neg (by omega)]
  | cons y s ih =>
    intro i hi hd hy
    obtain ⟨hlt, hx, hd'⟩ := drop_at l i y s hd
    have hrd := rdbValue l i y hx
    refine Ev.step (f := fun k => (laws_eqValue.f y.f0 y.f1 y.f2 y.f3 y.f0 y.f1 y.f2 y.f3).bind fun t => if t = true then laws_eqValueS.l0 k l l ((i + 1 : Nat) : Int) else some false) (fun k => ?_) ?_
    · simp only [laws_eqValueS.l0]
      rw [if_pos (by omega), if_pos (by omega), if_pos (by omega), hrd, wrapl i l.length hlt hl]
    · refine Ev.bind (hy y List.mem_cons_self) ?_
      refine Ev.congr (f := fun k => laws_eqValueS.l0 k l l ((i + 1 : Nat) : Int)) (fun k => by rw [if_pos rfl]) ?_
      exact ih (i + 1) (by omega) hd' (fun z hz => hy z (List.mem_cons_of_mem _ hz))
theorem eqValueS_ev (l : List S105) (g : l.length ≤ 9223372036854775807) : Ev (fun k => laws_eqValueS.f k l l) true := by
  refine Ev.congr (f := fun k => laws_eqValueS.l0 k l l ((0 : Nat) : Int)) (fun k => ?_) ?_
  · unfold laws_eqValueS.f
    rw [if_pos rfl]
    first | done | rfl
  · exact eqValueS_loop l g l 0 (by omega) rfl (fun y hy => eqValue_ev y)
theorem fineValueS_conv (l : List S128) (g : l.length ≤ 1048576) : (l.map convValue).length ≤ 9223372036854775807 := by
  rw [List.length_map]
  omega
def smallObject (x : S130) : Prop := (x.f4.length ≤ 1048576) ∧ (x.f5.length ≤ 1048576)
def fineObject (x : S107) : Prop := (x.f4.length ≤ 9223372036854775807) ∧ (x.f5.length ≤ 9223372036854775807)
def convObject (x : S130) : S107 := ⟨x.f0, x.f1, x.f2, x.f3, (x.f4.map convValue), (x.f5.map convValue), (convValue x.f6)⟩
theorem szObject_ev (x : S130) (g : G130 x) (left : Int) (hl0 : 0 ≤ left) (hl1 : left ≤ 1048576) : ∃ r, Ev (fun k => laws_szObject.f k x.f0 x.f1 x.f2 x.f3 x.f4 x.f5 x.f6.f0 x.f6.f1 x.f6.f2 x.f6.f3 left) r ∧ (r < 0 ∨ (0 ≤ r ∧ r ≤ left ∧ smallObject x)) := by
  obtain ⟨h0, h1, h2, h3, h4, h4k, h5, h5k, h6⟩ := g
  unfold laws_szObject.f
  have w0 : wrap64 (left - (x.f2.size : Int)) = left - (x.f2.size : Int) := by unfold wrap64; omega
  simp only [w0]
  by_cases c0 : left - (x.f2.size : Int) < 0
  · simp only [if_pos c0]
    exact ⟨-1, Ev.now _, Or.inl (by omega)⟩
  simp only [if_neg c0]
  obtain ⟨r1, e1, c1 | ⟨p1, q1, s1⟩⟩ := szValueS_ev x.f4 h4 h4k (left - (x.f2.size : Int)) (by omega) (by omega)
  · refine ev_ex e1 ?_
    simp only [if_pos c1]
    exact ⟨-1, Ev.now _, Or.inl (by omega)⟩
  refine ev_ex e1 ?_
  simp only [if_neg (show ¬ r1 < 0 by omega)]
  obtain ⟨r2, e2, c2 | ⟨p2, q2, s2⟩⟩ := szValueS_ev x.f5 h5 h5k (r1) (by omega) (by omega)
  · refine ev_ex e2 ?_
    simp only [if_pos c2]
    exact ⟨-1, Ev.now _, Or.inl (by omega)⟩
  refine ev_ex e2 ?_
  simp only [if_neg (show ¬ r2 < 0 by omega)]
  obtain ⟨r3, e3, c3 | ⟨p3, q3⟩⟩ := szValue_ev x.f6 (h6) (r2) (by omega) (by omega)
  · refine ev_ex e3 ?_
    simp only [if_pos c3]
    exact ⟨-1, Ev.now _, Or.inl (by omega)⟩
  refine ev_ex e3 ?_
  simp only [if_neg (show ¬ r3 < 0 by omega)]
  exact ⟨_, Ev.now _, Or.inr ⟨by omega, by omega, ⟨s1, s2⟩⟩⟩
theorem toObject_ev (x : S130) (g : smallObject x) : Ev (fun k => laws_toObject.f k x.f0 x.f1 x.f2 x.f3 x.f4 x.f5 x.f6.f0 x.f6.f1 x.f6.f2 x.f6.f3) ((convObject x).f0, (convObject x).f1, (convObject x).f2, (convObject x).f3, (convObject x).f4, (convObject x).f5, (convObject x).f6.f0, (convObject x).f6.f1, (convObject x).f6.f2, (convObject x).f6.f3) := by
  unfold laws_toObject.f
  refine Ev.bind (toValueS_ev x.f4 (g.1)) ?_
  refine Ev.bind (toValueS_ev x.f5 (g.2)) ?_
  refine Ev.bind (toValue_ev x.f6) ?_
  exact Ev.now _
theorem eqObject_ev (x : S107) (g : fineObject x) : Ev (fun k => laws_eqObject.f k x.f0 x.f1 x.f2 x.f3 x.f4 x.f5 x.f6.f0 x.f6.f1 x.f6.f2 x.f6.f3 x.f0 x.f1 x.f2 x.f3 x.f4 x.f5 x.f6.f0 x.f6.f1 x.f6.f2 x.f6.f3) true := by
  unfold laws_eqObject.f
  try simp only [if_true]
  refine Ev.bind (eqValueS_ev x.f4 (g.1)) ?_
  try simp only [if_true]
  refine Ev.bind (eqValueS_ev x.f5 (g.2)) ?_
  try simp only [if_true]
  refine Ev.bind (eqValue_ev x.f6) ?_
  try simp only [if_true]
  exact Ev.now _
theorem fineObject_conv (x : S130) (g : smallObject x) : fineObject (convObject x) := by
  exact ⟨(fineValueS_conv x.f4 (g.1)), (fineValueS_conv x.f5 (g.2))⟩
theorem rdaObject (l : List S130) (i : Nat) (x : S130) (h : l[i]? = some x) : rd_T130 l (i : Int) = x := by
  unfold rd_T130
  rw [List.getD_eq_getElem?_getD, Int.toNat_natCast, h]
  rfl
theorem rdbObject (l : List S107) (i : Nat) (x : S107) (h : l[i]? = some x) : rd_T107 l (i : Int) = x := by
  unfold rd_T107
  rw [List.getD_eq_getElem?_getD, Int.toNat_natCast, h]
  rfl
theorem szObjectS_loop (l : List S130) (hl : l.length ≤ 9223372036854775807) (s : List S130) : ∀ (i : Nat) (left : Int), i ≤ l.length → l.drop i = s → (∀ y, y ∈ s → G130 y) → 0 ≤ left → left ≤ 1048576 →
    ∃ r, Ev (fun k => laws_szObjectS.l0 k l left (i : Int)) r ∧ (r < 0 ∨ (0 ≤ r ∧ r ≤ left ∧ ∀ y, y ∈ s → smallObject y)) := by
  induction s with
  | nil =>
    intro i left hi hd _ h0 h1
    have := drop_end l i hd hi
    refine ⟨left, Ev.step (f := fun _ => some left) (fun k => ?_) (Ev.now _), Or.inr ⟨h0, by omega, fun y hy => by cases hy⟩⟩
    simp only [laws_szObjectS.l0]
    rw [if_neg (by omega)]
  | cons y s ih =>
    intro i left hi hd hy h0 h1
    obtain ⟨hlt, hx, hd'⟩ := drop_at l i y s hd
    have hrd := rdaObject l i y hx
    obtain ⟨r1, e1, c1 | ⟨p1, q1, s1⟩⟩ := szObject_ev y (hy y List.mem_cons_self) left h0 h1
    · refine ⟨-1, Ev.step (f := fun k => (laws_szObject.f k y.f0 y.f1 y.f2 y.f3 y.f4 y.f5 y.f6.f0 y.f6.f1 y.f6.f2 y.f6.f3 left).bind fun t => if t < 0 then some (-1) else laws_szObjectS.l0 k l t ((i + 1 : Nat) : Int)) (fun k => ?_) (Ev.bind e1 (Ev.congr (f := fun _ => some (-1)) (fun k => by rw [if_pos c1]) (Ev.now _))), Or.inl (by omega)⟩
      simp only [laws_szObjectS.l0]
      rw [if_pos (by omega), if_pos (by omega), hrd, wrapl i l.length hlt hl]
    · obtain ⟨r, er, q⟩ := ih (i + 1) r1 (by omega) hd' (fun z hz => hy z (List.mem_cons_of_mem _ hz)) (by omega) (by omega)
      refine ⟨r, Ev.step (f := fun k => (laws_szObject.f k y.f0 y.f1 y.f2 y.f3 y.f4 y.f5 y.f6.f0 y.f6.f1 y.f6.f2 y.f6.f3 left).bind fun t => if t < 0 then some (-1) else laws_szObjectS.l0 k l t ((i + 1 : Nat) : Int)) (fun k => ?_) (Ev.bind e1 (Ev.congr (fun k => by rw [if_neg (by omega)]) er)), ?_⟩
      · simp only [laws_szObjectS.l0]
        rw [if_pos (by omega), if_pos (by omega), hrd, wrapl i l.length hlt hl]
      · rcases q with q | q
        · exact Or.inl q
        · exact Or.inr ⟨q.1, by omega, fun z hz => by
          rcases List.mem_cons.1 hz with rfl | hz
          · exact s1
          · exact q.2.2 z hz⟩
theorem szObjectS_ev (l : List S130) (g : l.length ≤ 9223372036854775807) (gk : ∀ y_, y_ ∈ l → G130 y_) (left : Int) (hl0 : 0 ≤ left) (hl1 : left ≤ 1048576) : ∃ r, Ev (fun k => laws_szObjectS.f k l left) r ∧ (r < 0 ∨ (0 ≤ r ∧ r ≤ left ∧ l.length ≤ 1048576 ∧ ∀ y, y ∈ l → smallObject y)) := by
  have w : wrap64 (left - (l.length : Int)) = left - (l.length : Int) := by unfold wrap64; omega
  by_cases c : left - (l.length : Int) < 0
  · refine ⟨-1, Ev.congr (f := fun _ => some (-1)) (fun k => ?_) (Ev.now _), Or.inl (by omega)⟩
    unfold laws_szObjectS.f
    rw [w, if_pos c]
  · obtain ⟨r, er, q⟩ := szObjectS_loop l g l 0 (left - (l.length : Int)) (by omega) rfl gk (by omega) (by omega)
    refine ⟨r, Ev.congr (fun k => ?_) er, ?_⟩
    · unfold laws_szObjectS.f
      rw [w, if_neg c]
      first | done | rfl
    · rcases q with q | q
      · exact Or.inl q
      · exact Or.inr ⟨q.1, by omega, by omega, q.2.2⟩
theorem toObjectS_loop (l : List S130) (hl : l.length ≤ 1048576) (s : List S130) : ∀ (i : Nat) (out : List S107), i ≤ l.length → l.drop i = s → out.length = l.length → out.take i = (l.map convObject).take i →
    (∀ y, y ∈ s → Ev (fun k => laws_toObject.f k y.f0 y.f1 y.f2 y.f3 y.f4 y.f5 y.f6.f0 y.f6.f1 y.f6.f2 y.f6.f3) ((convObject y).f0, (convObject y).f1, (convObject y).f2, (convObject y).f3, (convObject y).f4, (convObject y).f5, (convObject y).f6.f0, (convObject y).f6.f1, (convObject y).f6.f2, (convObject y).f6.f3)) → Ev (fun k => laws_toObjectS.l0 k l out (i : Int)) (l.map convObject) := by
  induction s with
  | nil =>
    intro i out hi hd ho ht _
    have hi2 := drop_end l i hd hi
    have e : out = l.map convObject := by
      rw [List.take_of_length_le (by omega), List.take_of_length_le (by rw [List.length_map]; omega)] at ht
      exact ht
    refine Ev.step (f := fun _ => some out) (fun k => ?_) (e ▸ Ev.now out)
    simp only [laws_toObjectS.l0]
    rw [if_neg (by omega)]
  | cons y s ih =>
    intro i out hi hd ho ht hy
    obtain ⟨hlt, hx, hd'⟩ := drop_at l i y s hd
    have hrd := rdaObject l i y hx
    have ey := hy y List.mem_cons_self
    have hly : (l.map convObject)[i]? = some (convObject y) := by rw [List.getElem?_map, hx]; rfl
    have r := ih (i + 1) (out.set i (convObject y)) (by omega) hd' (by rw [List.length_set]; exact ho) (by
      rw [List.take_add_one, List.take_add_one, hly, List.take_set_of_le (Nat.le_refl _), ht, List.getElem?_set_self (by omega)]) (fun z hz => hy z (List.mem_cons_of_mem _ hz))
    have r2 : Ev (fun k => (laws_toObject.f k y.f0 y.f1 y.f2 y.f3 y.f4 y.f5 y.f6.f0 y.f6.f1 y.f6.f2 y.f6.f3).bind fun b => if (i : Int) < (out.length : Int) then laws_toObjectS.l0 k l (out.set ((i : Int) : Int).toNat (⟨b.1, b.2.1, b.2.2.1, b.2.2.2.1, b.2.2.2.2.1, b.2.2.2.2.2.1, (⟨b.2.2.2.2.2.2.1, b.2.2.2.2.2.2.2.1, b.2.2.2.2.2.2.2.2.1, b.2.2.2.2.2.2.2.2.2⟩ : S105)⟩ : S107)) ((i + 1 : Nat) : Int) else none) (l.map convObject) := by
      refine Ev.bind ey ?_
      refine Ev.congr (f := fun k => laws_toObjectS.l0 k l (out.set i (convObject y)) ((i + 1 : Nat) : Int)) (fun k => ?_) r
      rw [if_pos (by omega), Int.toNat_natCast]
      first | done | rfl
    refine Ev.step (fun k => ?_) r2
    simp only [laws_toObjectS.l0]
    rw [if_pos (by omega), if_pos (by omega), hrd, wrapl i l.length hlt (by omega)]
    first | done | rfl
theorem toObjectS_ev (l : List S130) (g : l.length ≤ 1048576 ∧ ∀ y, y ∈ l → smallObject y) : Ev (fun k => laws_toObjectS.f k l) (l.map convObject) := by
  refine Ev.congr (f := fun k => laws_toObjectS.l0 k l (List.replicate l.length z107) ((0 : Nat) : Int)) (fun k => ?_) ?_
  · unfold laws_toObjectS.f
    rw [if_pos (by omega), if_pos (by omega), Int.toNat_natCast]
    first | done | rfl
  · exact toObjectS_loop l (by omega) l 0 _ (by omega) rfl (by simp) (by simp) (fun y hy => toObject_ev y (g.2 y hy))
theorem eqObjectS_loop (l : List S107) (hl : l.length ≤ 9223372036854775807) (s : List S107) : ∀ (i : Nat), i ≤ l.length → l.drop i = s →
    (∀ y, y ∈ s → Ev (fun k => laws_eqObject.f k y.f0 y.f1 y.f2 y.f3 y.f4 y.f5 y.f6.f0 y.f6.f1 y.f6.f2 y.f6.f3 y.f0 y.f1 y.f2 y.f3 y.f4 y.f5 y.f6.f0 y.f6.f1 y.f6.f2 y.f6.f3) true) → Ev (fun k => laws_eqObjectS.l0 k l l (i : Int)) true := by
  induction s with
  | nil =>
    intro i hi hd _
    have hi2 := drop_end l i hd hi
    refine Ev.step (f := fun _ => some true) (fun k => ?_) (Ev.now true)
    simp only [laws_eqObjectS.l0]
    rw [if_neg (by omega)]
  | cons y s ih =>
    intro i hi hd hy
    obtain ⟨hlt, hx, hd'⟩ := drop_at l i y s hd
    have hrd := rdbObject l i y hx
    refine Ev.step (f := fun k => (laws_eqObject.f k y.f0 y.f1 y.f2 y.f3 y.f4 y.f5 y.f6.f0 y.f6.f1 y.f6.f2 y.f6.f3 y.f0 y.f1 y.f2 y.f3 y.f4 y.f5 y.f6.f0 y.f6.f1 y.f6.f2 y.f6.f3).bind fun t => if t = true then laws_eqObjectS.l0 k l l ((i + 1 : Nat) : Int) else some false) (fun k => ?_) ?_
    · simp only [laws_eqObjectS.l0]
      rw [if_pos (by omega), if_pos (by omega), if_pos (by omega), hrd, wrapl i l.length hlt hl]
    · refine Ev.bind (hy y List.mem_cons_self) ?_
      refine Ev.congr (f := fun k => laws_eqObjectS.l0 k l l ((i + 1 : Nat) : Int)) (fun k => by rw [if_pos rfl]) ?_
      exact ih (i + 1) (by omega) hd' (fun z hz => hy z (List.mem_cons_of_mem _ hz))
theorem eqObjectS_ev (l : List S107) (g : l.length ≤ 9223372036854775807 ∧ ∀ y, y ∈ l → fineObject y) : Ev (fun k => laws_eqObjectS.f k l l) true := by
  refine Ev.congr (f := fun k => laws_eqObjectS.l0 k l l ((0 : Nat) : Int)) (fun k => ?_) ?_
  · unfold laws_eqObjectS.f
    rw [if_pos rfl]
    first | done | rfl
  · exact eqObjectS_loop l g.1 l 0 (by omega) rfl (fun y hy => eqObject_ev y (g.2 y hy))
theorem fineObjectS_conv (l : List S130) (g : l.length ≤ 1048576 ∧ ∀ y, y ∈ l → smallObject y) : (l.map convObject).length ≤ 9223372036854775807 ∧ ∀ y, y ∈ l.map convObject → fineObject y := by
  rw [List.length_map]
  refine ⟨by omega, fun y hy => ?_⟩
  obtain ⟨z, hz, rfl⟩ := List.mem_map.1 hy
  exact fineObject_conv z (g.2 z hz)
def smallHeap (x : S65) : Prop := (x.f1.length ≤ 1048576 ∧ ∀ y, y ∈ x.f1 → smallObject y)
def fineHeap (x : S70) : Prop := (x.f1.length ≤ 9223372036854775807 ∧ ∀ y, y ∈ x.f1 → fineObject y)
def convHeap (x : S65) : S70 := ⟨x.f0, (x.f1.map convObject)⟩
theorem szHeap_ev (x : S65) (g : G65 x) (left : Int) (hl0 : 0 ≤ left) (hl1 : left ≤ 1048576) : ∃ r, Ev (fun k => laws_szHeap.f k x.f0 x.f1 left) r ∧ (r < 0 ∨ (0 ≤ r ∧ r ≤ left ∧ smallHeap x)) := by
  obtain ⟨h0, h1, h1k⟩ := g
  unfold laws_szHeap.f
  obtain ⟨r0, e0, c0 | ⟨p0, q0, s0⟩⟩ := szObjectS_ev x.f1 h1 h1k (left) (by omega) (by omega)
  · refine ev_ex e0 ?_
    simp only [if_pos c0]
    exact ⟨-1, Ev.now _, Or.inl (by omega)⟩
  refine ev_ex e0 ?_
  simp only [if_neg (show ¬ r0 < 0 by omega)]
  exact ⟨_, Ev.now _, Or.inr ⟨by omega, by omega, s0⟩⟩
theorem toHeap_ev (x : S65) (g : smallHeap x) : Ev (fun k => laws_toHeap.f k x.f0 x.f1) ((convHeap x).f0, (convHeap x).f1) := by
  unfold laws_toHeap.f
  refine Ev.bind (toObjectS_ev x.f1 (g)) ?_
  exact Ev.now _
theorem eqHeap_ev (x : S70) (g : fineHeap x) : Ev (fun k => laws_eqHeap.f k x.f0 x.f1 x.f0 x.f1) true := by
  unfold laws_eqHeap.f
  try simp only [if_true]
  refine Ev.bind (eqObjectS_ev x.f1 (g)) ?_
  try simp only [if_true]
  exact Ev.now _
theorem fineHeap_conv (x : S65) (g : smallHeap x) : fineHeap (convHeap x) := by
  exact (fineObjectS_conv x.f1 (g))
-- spec_l07SameValues: equality of two rows of Value by '!=' (X: the length, where it is handed on)
theorem spec_l07SameValues_loop (l m : List S105) (hl : l.length ≤ 9223372036854775807) (hm : l.length = m.length) (s : List S105) : ∀ (t : List S105) (i : Nat), i ≤ l.length → l.drop i = s → m.drop i = t →
    Ev (fun k => spec_l07SameValues.l0 k l m  (i : Int)) (sameValueS s t) := by
  induction s with
  | nil =>
    intro t i hi hd _
    have hi2 := drop_end l i hd hi
    refine Ev.step (f := fun _ => some true) (fun k => ?_) (by rw [sameValueS]; exact Ev.now true)
    simp only [spec_l07SameValues.l0]
    rw [if_neg (by omega)]
  | cons y s ih =>
    intro t i hi hd ht
    obtain ⟨hlt, hx, hd'⟩ := drop_at l i y s hd
    have hrd := rdbValue l i y hx
    cases t with
    | nil =>
      have := drop_end m i ht (by omega)
      omega
    | cons z t =>
      obtain ⟨_, hx2, ht'⟩ := drop_at m i z t ht
      have hrd2 := rdbValue m i z hx2
      have w := wrapl i l.length hlt hl
      rw [sameValueS]
      cases h : neValue y z with
      | true =>
        refine Ev.step (f := fun _ => some false) (fun k => ?_) (Ev.now false)
        simp only [spec_l07SameValues.l0]
        rw [if_pos (by omega), if_pos (by omega), if_pos (by omega)]
        first
          | rw [if_pos (by omega), hrd, hrd2]; exact if_pos h
          | rw [hrd, hrd2]; exact if_pos h
      | false =>
        have h2 : ¬ neValue y z = true := by rw [h]; simp
        refine Ev.step (f := fun k => spec_l07SameValues.l0 k l m  ((i + 1 : Nat) : Int)) (fun k => ?_) (ih t (i + 1) (by omega) hd' ht')
        simp only [spec_l07SameValues.l0]
        rw [if_pos (by omega), if_pos (by omega), if_pos (by omega)]
        first
          | rw [if_pos (by omega), hrd, hrd2, w]; exact if_neg h2
          | rw [hrd, hrd2, w]; exact if_neg h2
theorem spec_l07SameValues_ev (l m : List S105) (hl : l.length ≤ 9223372036854775807) : Ev (fun k => spec_l07SameValues.f k l m) ((l.length == m.length) && sameValueS l m) := by
  by_cases h : l.length = m.length
  · rw [beq_iff_eq.mpr h, Bool.true_and]
    refine Ev.congr (fun k => ?_) (spec_l07SameValues_loop l m hl h l m 0 (by omega) rfl rfl)
    unfold spec_l07SameValues.f
    rw [if_pos (by omega)]
    rfl
  · rw [beq_eq_false_iff_ne.mpr h, Bool.false_and]
    refine Ev.congr (f := fun _ => some false) (fun k => ?_) (Ev.now false)
    unfold spec_l07SameValues.f
    rw [if_neg (by omega)]
-- impl_Value: equality of two rows of Value by '!=' (X: the length, where it is handed on)
theorem impl_Value_loop (l m : List S105) (hl : l.length ≤ 9223372036854775807) (hm : l.length = m.length) (s : List S105) : ∀ (t : List S105) (i : Nat), i ≤ l.length → l.drop i = s → m.drop i = t →
    Ev (fun k => impl_Value.l0 k l m (l.length:Int) (i : Int)) (sameValueS s t) := by
  induction s with
  | nil =>
    intro t i hi hd _
    have hi2 := drop_end l i hd hi
    refine Ev.step (f := fun _ => some true) (fun k => ?_) (by rw [sameValueS]; exact Ev.now true)
    simp only [impl_Value.l0]
    rw [if_neg (by omega)]
  | cons y s ih =>
    intro t i hi hd ht
    obtain ⟨hlt, hx, hd'⟩ := drop_at l i y s hd
    have hrd := rdbValue l i y hx
    cases t with
    | nil =>
      have := drop_end m i ht (by omega)
      omega
    | cons z t =>
      obtain ⟨_, hx2, ht'⟩ := drop_at m i z t ht
      have hrd2 := rdbValue m i z hx2
      have w := wrapl i l.length hlt hl
      rw [sameValueS]
      cases h : neValue y z with
      | true =>
        refine Ev.step (f := fun _ => some false) (fun k => ?_) (Ev.now false)
        simp only [impl_Value.l0]
        rw [if_pos (by omega), if_pos (by omega), if_pos (by omega)]
        first
          | rw [if_pos (by omega), hrd, hrd2]; exact if_pos h
          | rw [hrd, hrd2]; exact if_pos h
      | false =>
        have h2 : ¬ neValue y z = true := by rw [h]; simp
        refine Ev.step (f := fun k => impl_Value.l0 k l m (l.length:Int) ((i + 1 : Nat) : Int)) (fun k => ?_) (ih t (i + 1) (by omega) hd' ht')
        simp only [impl_Value.l0]
        rw [if_pos (by omega), if_pos (by omega), if_pos (by omega)]
        first
          | rw [if_pos (by omega), hrd, hrd2, w]; exact if_neg h2
          | rw [hrd, hrd2, w]; exact if_neg h2
theorem impl_Value_ev (l m : List S105) (hl : l.length ≤ 9223372036854775807) : Ev (fun k => impl_Value.f k l m) ((l.length == m.length) && sameValueS l m) := by
  by_cases h : l.length = m.length
  · rw [beq_iff_eq.mpr h, Bool.true_and]
    refine Ev.congr (fun k => ?_) (impl_Value_loop l m hl h l m 0 (by omega) rfl rfl)
    unfold impl_Value.f
    rw [if_pos (by omega)]
    rfl
  · rw [beq_eq_false_iff_ne.mpr h, Bool.false_and]
    refine Ev.congr (f := fun _ => some false) (fun k => ?_) (Ev.now false)
    unfold impl_Value.f
    rw [if_neg (by omega)]
theorem ev_map {α β : Type} {F : Nat → Option α} {a : α} (g : α → β) (h : Ev F a) : Ev (fun k => (F k).map g) (g a) :=
  Ev.congr (f := fun k => (F k).bind fun t => some (g t)) (fun k => by cases F k <;> rfl) (Ev.bind h (Ev.now _))
theorem ev_and {E : Nat → Option Bool} {b c : Bool} (h : Ev E c) : Ev (fun k => if b = true then E k else some false) (b && c) := by
  cases b with
  | true => exact Ev.congr (fun k => by rw [if_pos rfl]) h
  | false => exact Ev.congr (f := fun _ => some false) (fun k => by simp) (Ev.now false)
def sameObject (y z : S107) : Bool := (y.f0 == z.f0) && ((y.f1 == z.f1) && ((y.f2.toList == z.f2.toList) && ((y.f3 == z.f3) && (((y.f4.length == z.f4.length) && sameValueS y.f4 z.f4) && (((y.f5.length == z.f5.length) && sameValueS y.f5 z.f5) && (y.f6.f0 == z.f6.f0 && (y.f6.f1 == z.f6.f1 && (y.f6.f2.toList == z.f6.f2.toList && (y.f6.f3 == z.f6.f3)))))))))
def sameObjectS : List S107 → List S107 → Bool
  | [], _ => true
  | _ :: _, [] => true
  | y :: s, z :: t => sameObject y z && sameObjectS s t
theorem spec_l07SameObject_ev (y z : S107) (gy : fineObject y) : Ev (fun k => spec_l07SameObject.f k y.f0 y.f1 y.f2 y.f3 y.f4 y.f5 y.f6.f0 y.f6.f1 y.f6.f2 y.f6.f3 z.f0 z.f1 z.f2 z.f3 z.f4 z.f5 z.f6.f0 z.f6.f1 z.f6.f2 z.f6.f3) (sameObject y z) := by
  unfold spec_l07SameObject.f sameObject
  have no : ∀ T : Bool, Ev (fun _ => (some false : Option Bool)) (false && T) := fun T => by rw [Bool.false_and]; exact Ev.now false
  by_cases h0 : y.f0 = z.f0
  · rw [beq_iff_eq.mpr h0, Bool.true_and]
    refine Ev.congr (fun k => by rw [if_pos h0]) ?_
    by_cases h1 : y.f1 = z.f1
    · rw [beq_iff_eq.mpr h1, Bool.true_and]
      refine Ev.congr (fun k => by rw [if_pos h1]) ?_
      by_cases h2 : y.f2.toList = z.f2.toList
      · rw [beq_iff_eq.mpr h2, Bool.true_and]
        refine Ev.congr (fun k => by rw [if_pos h2]) ?_
        by_cases h3 : y.f3 = z.f3
        · rw [beq_iff_eq.mpr h3, Bool.true_and]
          refine Ev.congr (fun k => by rw [if_pos h3]) ?_
          exact Ev.bind (spec_l07SameValues_ev _ _ gy.1) (ev_and (Ev.bind (spec_l07SameValues_ev _ _ gy.2) (ev_and (Ev.now _))))
        · rw [beq_eq_false_iff_ne.mpr h3]
          exact Ev.congr (fun k => by rw [if_neg h3]) (no _)
      · rw [beq_eq_false_iff_ne.mpr h2]
        exact Ev.congr (fun k => by rw [if_neg h2]) (no _)
    · rw [beq_eq_false_iff_ne.mpr h1]
      exact Ev.congr (fun k => by rw [if_neg h1]) (no _)
  · rw [beq_eq_false_iff_ne.mpr h0]
    exact Ev.congr (fun k => by rw [if_neg h0]) (no _)
theorem impl_sameObject_ev (y z : S107) (gy : fineObject y) : Ev (fun k => impl_sameObject.f k y.f0 y.f1 y.f2 y.f3 y.f4 y.f5 y.f6.f0 y.f6.f1 y.f6.f2 y.f6.f3 z.f0 z.f1 z.f2 z.f3 z.f4 z.f5 z.f6.f0 z.f6.f1 z.f6.f2 z.f6.f3) (sameObject y z) := by
  unfold impl_sameObject.f sameObject
  have no : ∀ T : Bool, Ev (fun _ => (some false : Option Bool)) (false && T) := fun T => by rw [Bool.false_and]; exact Ev.now false
  by_cases h0 : y.f0 = z.f0
  · rw [beq_iff_eq.mpr h0, Bool.true_and]
    refine Ev.congr (fun k => by rw [if_pos h0]) ?_
    by_cases h1 : y.f1 = z.f1
    · rw [beq_iff_eq.mpr h1, Bool.true_and]
      refine Ev.congr (fun k => by rw [if_pos h1]) ?_
      by_cases h2 : y.f2.toList = z.f2.toList
      · rw [beq_iff_eq.mpr h2, Bool.true_and]
        refine Ev.congr (fun k => by rw [if_pos h2]) ?_
        by_cases h3 : y.f3 = z.f3
        · rw [beq_iff_eq.mpr h3, Bool.true_and]
          refine Ev.congr (fun k => by rw [if_pos h3]) ?_
          exact Ev.bind (impl_Value_ev _ _ gy.1) (ev_and (Ev.bind (impl_Value_ev _ _ gy.2) (ev_and (Ev.now _))))
        · rw [beq_eq_false_iff_ne.mpr h3]
          exact Ev.congr (fun k => by rw [if_neg h3]) (no _)
      · rw [beq_eq_false_iff_ne.mpr h2]
        exact Ev.congr (fun k => by rw [if_neg h2]) (no _)
    · rw [beq_eq_false_iff_ne.mpr h1]
      exact Ev.congr (fun k => by rw [if_neg h1]) (no _)
  · rw [beq_eq_false_iff_ne.mpr h0]
    exact Ev.congr (fun k => by rw [if_neg h0]) (no _)
-- spec_l07Same: equality of two rows of Object by a function spec_l07SameObject that counts rounds (LM: the order of the rows, X: the length, where it is handed on)
theorem spec_l07Same_loop (l m : List S107) (hl : l.length ≤ 9223372036854775807) (hm : l.length = m.length) (s : List S107) : ∀ (t : List S107) (i : Nat), i ≤ l.length → l.drop i = s → m.drop i = t →
    (∀ y, y ∈ s → ∀ z, z ∈ t → Ev (fun k => spec_l07SameObject.f k y.f0 y.f1 y.f2 y.f3 y.f4 y.f5 y.f6.f0 y.f6.f1 y.f6.f2 y.f6.f3 z.f0 z.f1 z.f2 z.f3 z.f4 z.f5 z.f6.f0 z.f6.f1 z.f6.f2 z.f6.f3) (sameObject y z)) → Ev (fun k => spec_l07Same.l0 k l m  (i : Int)) (sameObjectS s t) := by
  induction s with
  | nil =>
    intro t i hi hd _ _
    have hi2 := drop_end l i hd hi
    refine Ev.step (f := fun _ => some true) (fun k => ?_) (by rw [sameObjectS]; exact Ev.now true)
    simp only [spec_l07Same.l0]
    rw [if_neg (by omega)]
  | cons y s ih =>
    intro t i hi hd ht hy
    obtain ⟨hlt, hx, hd'⟩ := drop_at l i y s hd
    have hrd := rdbObject l i y hx
    cases t with
    | nil =>
      have := drop_end m i ht (by omega)
      omega
    | cons z t =>
      obtain ⟨_, hx2, ht'⟩ := drop_at m i z t ht
      have hrd2 := rdbObject m i z hx2
      have w := wrapl i l.length hlt hl
      rw [sameObjectS]
      refine Ev.step (f := fun k => (spec_l07SameObject.f k y.f0 y.f1 y.f2 y.f3 y.f4 y.f5 y.f6.f0 y.f6.f1 y.f6.f2 y.f6.f3 z.f0 z.f1 z.f2 z.f3 z.f4 z.f5 z.f6.f0 z.f6.f1 z.f6.f2 z.f6.f3).bind fun r => if r = true then spec_l07Same.l0 k l m  ((i + 1 : Nat) : Int) else some false) (fun k => ?_) (Ev.bind (hy y List.mem_cons_self z List.mem_cons_self) ?_)
      · simp only [spec_l07Same.l0]
        rw [if_pos (by omega), if_pos (by omega), if_pos (by omega)]
        first
          | rw [if_pos (by omega), hrd, hrd2, w]
          | rw [hrd, hrd2, w]
      · cases sameObject y z with
        | true =>
          rw [Bool.true_and]
          exact Ev.congr (fun k => by rw [if_pos rfl]) (ih t (i + 1) (by omega) hd' ht' (fun u hu v hv => hy u (List.mem_cons_of_mem _ hu) v (List.mem_cons_of_mem _ hv)))
        | false =>
          rw [Bool.false_and]
          exact Ev.congr (f := fun _ => some false) (fun k => by rw [if_neg (by simp)]) (Ev.now false)
theorem spec_l07Same_ev (l m : List S107) (hl : l.length ≤ 9223372036854775807) (hy : ∀ y, y ∈ l → ∀ z, z ∈ m → Ev (fun k => spec_l07SameObject.f k y.f0 y.f1 y.f2 y.f3 y.f4 y.f5 y.f6.f0 y.f6.f1 y.f6.f2 y.f6.f3 z.f0 z.f1 z.f2 z.f3 z.f4 z.f5 z.f6.f0 z.f6.f1 z.f6.f2 z.f6.f3) (sameObject y z)) : Ev (fun k => spec_l07Same.f k l m) ((l.length == m.length) && sameObjectS l m) := by
  by_cases h : l.length = m.length
  · rw [beq_iff_eq.mpr h, Bool.true_and]
    refine Ev.congr (fun k => ?_) (spec_l07Same_loop l m hl h l m 0 (by omega) rfl rfl hy)
    unfold spec_l07Same.f
    rw [if_pos (by omega)]
    rfl
  · rw [beq_eq_false_iff_ne.mpr h, Bool.false_and]
    refine Ev.congr (f := fun _ => some false) (fun k => ?_) (Ev.now false)
    unfold spec_l07Same.f
    rw [if_neg (by omega)]
-- impl_Object_at_impl_sameObject: equality of two rows of Object by a function impl_sameObject that counts rounds (LM: the order of the rows, X: the length, where it is handed on)
theorem impl_Object_at_impl_sameObject_loop (l m : List S107) (hl : l.length ≤ 9223372036854775807) (hm : l.length = m.length) (s : List S107) : ∀ (t : List S107) (i : Nat), i ≤ l.length → l.drop i = s → m.drop i = t →
    (∀ y, y ∈ s → ∀ z, z ∈ t → Ev (fun k => impl_sameObject.f k y.f0 y.f1 y.f2 y.f3 y.f4 y.f5 y.f6.f0 y.f6.f1 y.f6.f2 y.f6.f3 z.f0 z.f1 z.f2 z.f3 z.f4 z.f5 z.f6.f0 z.f6.f1 z.f6.f2 z.f6.f3) (sameObject y z)) → Ev (fun k => impl_Object_at_impl_sameObject.l0 k m l (l.length:Int) (i : Int)) (sameObjectS s t) := by
  induction s with
  | nil =>
    intro t i hi hd _ _
    have hi2 := drop_end l i hd hi
    refine Ev.step (f := fun _ => some true) (fun k => ?_) (by rw [sameObjectS]; exact Ev.now true)
    simp only [impl_Object_at_impl_sameObject.l0]
    rw [if_neg (by omega)]
  | cons y s ih =>
    intro t i hi hd ht hy
    obtain ⟨hlt, hx, hd'⟩ := drop_at l i y s hd
    have hrd := rdbObject l i y hx
    cases t with
    | nil =>
      have := drop_end m i ht (by omega)
      omega
    | cons z t =>
      obtain ⟨_, hx2, ht'⟩ := drop_at m i z t ht
      have hrd2 := rdbObject m i z hx2
      have w := wrapl i l.length hlt hl
      rw [sameObjectS]
      refine Ev.step (f := fun k => (impl_sameObject.f k y.f0 y.f1 y.f2 y.f3 y.f4 y.f5 y.f6.f0 y.f6.f1 y.f6.f2 y.f6.f3 z.f0 z.f1 z.f2 z.f3 z.f4 z.f5 z.f6.f0 z.f6.f1 z.f6.f2 z.f6.f3).bind fun r => if r = true then impl_Object_at_impl_sameObject.l0 k m l (l.length:Int) ((i + 1 : Nat) : Int) else some false) (fun k => ?_) (Ev.bind (hy y List.mem_cons_self z List.mem_cons_self) ?_)
      · simp only [impl_Object_at_impl_sameObject.l0]
        rw [if_pos (by omega), if_pos (by omega), if_pos (by omega)]
        first
          | rw [if_pos (by omega), hrd, hrd2, w]
          | rw [hrd, hrd2, w]
      · cases sameObject y z with
        | true =>
          rw [Bool.true_and]
          exact Ev.congr (fun k => by rw [if_pos rfl]) (ih t (i + 1) (by omega) hd' ht' (fun u hu v hv => hy u (List.mem_cons_of_mem _ hu) v (List.mem_cons_of_mem _ hv)))
        | false =>
          rw [Bool.false_and]
          exact Ev.congr (f := fun _ => some false) (fun k => by rw [if_neg (by simp)]) (Ev.now false)
theorem impl_Object_at_impl_sameObject_ev (l m : List S107) (hl : l.length ≤ 9223372036854775807) (hy : ∀ y, y ∈ l → ∀ z, z ∈ m → Ev (fun k => impl_sameObject.f k y.f0 y.f1 y.f2 y.f3 y.f4 y.f5 y.f6.f0 y.f6.f1 y.f6.f2 y.f6.f3 z.f0 z.f1 z.f2 z.f3 z.f4 z.f5 z.f6.f0 z.f6.f1 z.f6.f2 z.f6.f3) (sameObject y z)) : Ev (fun k => impl_Object_at_impl_sameObject.f k l m) ((l.length == m.length) && sameObjectS l m) := by
  by_cases h : l.length = m.length
  · rw [beq_iff_eq.mpr h, Bool.true_and]
    refine Ev.congr (fun k => ?_) (impl_Object_at_impl_sameObject_loop l m hl h l m 0 (by omega) rfl rfl hy)
    unfold impl_Object_at_impl_sameObject.f
    rw [if_pos (by omega)]
    rfl
  · rw [beq_eq_false_iff_ne.mpr h, Bool.false_and]
    refine Ev.congr (f := fun _ => some false) (fun k => ?_) (Ev.now false)
    unfold impl_Object_at_impl_sameObject.f
    rw [if_neg (by omega)]
def sameHeap (y z : S70) : Bool := (y.f0 == z.f0) && ((y.f1.length == z.f1.length) && sameObjectS y.f1 z.f1)
theorem specS_ev (y z : S70) (gy : fineHeap y) : Ev (fun k => specO k y z) (sameHeap y z) := by
  unfold specO spec_SameHeap.f sameHeap
  by_cases h0 : y.f0 = z.f0
  · rw [beq_iff_eq.mpr h0, Bool.true_and]
    refine Ev.congr (fun k => by rw [if_pos h0]) ?_
    exact spec_l07Same_ev _ _ gy.1 (fun u hu v _ => spec_l07SameObject_ev u v (gy.2 u hu))
  · rw [beq_eq_false_iff_ne.mpr h0, Bool.false_and]
    exact Ev.congr (f := fun _ => some false) (fun k => by rw [if_neg h0]) (Ev.now false)
theorem implS_ev (y z : S70) (gy : fineHeap y) : Ev (fun k => implO k y z) (sameHeap y z) := by
  unfold implO impl_SameHeap.f sameHeap
  by_cases h0 : y.f0 = z.f0
  · rw [beq_iff_eq.mpr h0, Bool.true_and]
    refine Ev.congr (fun k => by rw [if_pos h0]) ?_
    exact Ev.bind (impl_Object_at_impl_sameObject_ev _ _ gy.1 (fun u hu v _ => impl_sameObject_ev u v (gy.2 u hu))) (Ev.now _)
  · rw [beq_eq_false_iff_ne.mpr h0, Bool.false_and]
    exact Ev.congr (f := fun _ => some false) (fun k => by rw [if_neg h0]) (Ev.now false)
theorem sz_ok (x : S65) (g : G65 x) (left : Int) (h0 : 0 ≤ left) (h1 : left ≤ 1048576) : ∃ r, Ev (fun k => szO k x left) r ∧ (r < 0 ∨ (0 ≤ r ∧ r ≤ left ∧ smallHeap x)) := szHeap_ev x g left h0 h1
theorem to_ok (x : S65) (_ : G65 x) (hs : smallHeap x) : Ev (fun k => toO k x) (convHeap x) := ev_map _ (toHeap_ev x hs)
end SameHeap
open SameHeap in
theorem FnExactSameHeap : laws_FnExactSameHeap.Pure := by
  intro x y g gy
  apply Ev.rounds
  unfold laws_FnExactSameHeap.f
  obtain ⟨r, e, c | ⟨p, q, sm⟩⟩ := sz_ok x g 1048576 (by omega) (by omega)
  · exact Ev.bind e (Ev.congr (f := fun _ => some true) (fun k => by rw [if_pos c]) (Ev.now true))
  refine Ev.bind e (Ev.congr (fun k => by rw [if_neg (show ¬ r < 0 by omega)]) ?_)
  obtain ⟨r2, e2, c2 | ⟨p2, q2, sm2⟩⟩ := sz_ok y gy r (by omega) (by omega)
  · exact Ev.bind e2 (Ev.congr (f := fun _ => some true) (fun k => by rw [if_pos c2]) (Ev.now true))
  refine Ev.bind e2 (Ev.congr (fun k => by rw [if_neg (show ¬ r2 < 0 by omega)]) ?_)
  have t := to_ok x g sm
  have t2 := to_ok y gy sm2
  have fx := fineHeap_conv x sm
  have fy := fineHeap_conv y sm2
  refine Ev.bind t (Ev.bind t2 (Ev.bind (specS_ev _ _ fx) (Ev.bind t (Ev.bind t2 (Ev.bind (implS_ev _ _ fx) (Ev.congr (fun k => by rw [if_pos rfl]) ?_))))))
  refine Ev.bind t (Ev.bind (a := true) (eqHeap_ev _ fx) (Ev.congr (fun k => by rw [if_pos rfl]) ?_))
  refine Ev.bind t2 (Ev.bind (a := true) (eqHeap_ev _ fy) ?_)
  exact Ev.congr (f := fun _ => some true) (fun k => by rw [if_pos rfl]) (Ev.now true)
end Go.Proofs.Ytocfepcgpelhdaa.Pure
