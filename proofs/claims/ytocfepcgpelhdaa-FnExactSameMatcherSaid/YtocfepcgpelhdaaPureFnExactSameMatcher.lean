/- FnExactSameMatcher answers true for every two matchers: the program's SameMatcher (its fields, then slices.Equal four times) and the reference's (a chain of tests, two loops, two calls) both tell that they are the same, and the arguments read as before. Conditions: none beyond the statement's own. -/
import Derived.Test.YtocfepcgpelhdaaPFnExactSameMatcherx12
namespace Go.Proofs.Ytocfepcgpelhdaa.Pure
open Go.RowKit Go.Proofs.Ytocfepcgpelhdaa.PFnExactSameMatcher Go.Proofs.YtocfepcgpelhdaaW.PrintWords Go.Proofs.YtocfepcgpelhdaaW.PrintLast
namespace SameMatcher
-- printed by wip/gen/conv.py =MatchFrame =MatchChoice =Capture Matcher
theorem ev_ex {α β : Type} {E : Nat → Option α} {R : Nat → α → Option β} {Q : β → Prop} {a : α} (h : Ev E a) (h2 : ∃ r, Ev (fun k => R k a) r ∧ Q r) : ∃ r, Ev (fun k => (E k).bind (R k)) r ∧ Q r := by
  obtain ⟨r, h3, h4⟩ := h2
  exact ⟨r, Ev.bind h h3, h4⟩
theorem drop_at {α : Type} (l : List α) (i : Nat) (x : α) (s : List α) (h : l.drop i = x :: s) : i < l.length ∧ l[i]? = some x ∧ l.drop (i + 1) = s := by
  have h1 : i < l.length := by
    rcases Nat.lt_or_ge i l.length with h2 | h2
    · exact h2
    · rw [List.drop_eq_nil_of_le h2] at h
      cases h
  rw [List.drop_eq_getElem_cons h1] at h
  injection h with h2 h3
  exact ⟨h1, by rw [List.getElem?_eq_getElem h1, h2], h3⟩
theorem drop_end {α : Type} (l : List α) (i : Nat) (h : l.drop i = []) (hi : i ≤ l.length) : i = l.length := by
  have := congrArg List.length h
  simp at this
  omega
theorem wrapl (i n : Nat) (h : i < n) (hn : n ≤ 9223372036854775807) : wrap64 ((i : Int) + 1) = ((i + 1 : Nat) : Int) := by unfold wrap64; omega
def neMatchFrame (y z : S87) : Bool := (!((y.f0) == (z.f0)) || (!((y.f1) == (z.f1)) || (!((y.f2) == (z.f2)))))
def sameMatchFrameS : List S87 → List S87 → Bool
  | [], _ => true
  | _ :: _, [] => true
  | y :: s, z :: t => !neMatchFrame y z && sameMatchFrameS s t
def neMatchChoice (y z : S89) : Bool := (!((y.f0) == (z.f0)) || (!((y.f1) == (z.f1)) || (!((y.f2) == (z.f2)) || (!((y.f3) == (z.f3)) || (!((y.f4) == (z.f4)) || (!((y.f5) == (z.f5))))))))
def sameMatchChoiceS : List S89 → List S89 → Bool
  | [], _ => true
  | _ :: _, [] => true
  | y :: s, z :: t => !neMatchChoice y z && sameMatchChoiceS s t
def neCapture (y z : S97) : Bool := (!((y.f0.toList) == (z.f0.toList)) || (!((y.f1.toList) == (z.f1.toList)) || (!((y.f2) == (z.f2)) || (!((y.f3) == (z.f3))))))
def sameCaptureS : List S97 → List S97 → Bool
  | [], _ => true
  | _ :: _, [] => true
  | y :: s, z :: t => !neCapture y z && sameCaptureS s t
def convMatchFrame (x : S119) : S87 := ⟨x.f0, x.f1, x.f2⟩
theorem toMatchFrame_ev (x : S119) : Ev (fun _ => laws_toMatchFrame.f x.f0 x.f1 x.f2) ((convMatchFrame x).f0, (convMatchFrame x).f1, (convMatchFrame x).f2) := by
  unfold laws_toMatchFrame.f
  exact Ev.now _
theorem eqMatchFrame_ev (x : S87) : Ev (fun _ => laws_eqMatchFrame.f x.f0 x.f1 x.f2 x.f0 x.f1 x.f2) true := by
  unfold laws_eqMatchFrame.f
  try simp only [if_true, bne_self_eq_false, Bool.false_eq_true, if_false]
  exact Ev.now _
theorem rdaMatchFrame (l : List S119) (i : Nat) (x : S119) (h : l[i]? = some x) : rd_T119 l (i : Int) = x := by
  unfold rd_T119
  rw [List.getD_eq_getElem?_getD, Int.toNat_natCast, h]
  rfl
theorem rdbMatchFrame (l : List S87) (i : Nat) (x : S87) (h : l[i]? = some x) : rd_T87 l (i : Int) = x := by
  unfold rd_T87
  rw [List.getD_eq_getElem?_getD, Int.toNat_natCast, h]
  rfl
theorem szMatchFrameS_ev (l : List S119) (g : l.length ≤ 9223372036854775807) (_ : ∀ y_, y_ ∈ l → G119 y_) (left : Int) (hl0 : 0 ≤ left) (hl1 : left ≤ 1048576) : ∃ r, Ev (fun _ => laws_szMatchFrameS.f l left) r ∧ (r < 0 ∨ (0 ≤ r ∧ r ≤ left ∧ l.length ≤ 1048576)) := by
  unfold laws_szMatchFrameS.f
  have w : wrap64 (left - (l.length : Int)) = left - (l.length : Int) := by unfold wrap64; omega
  simp only [w]
  by_cases c : left - (l.length : Int) < 0
  · simp only [if_pos c]
    exact ⟨-1, Ev.now _, Or.inl (by omega)⟩
  simp only [if_neg c]
  exact ⟨_, Ev.now _, Or.inr ⟨by omega, by omega, by omega⟩⟩
theorem toMatchFrameS_loop (l : List S119) (hl : l.length ≤ 1048576) (s : List S119) : ∀ (i : Nat) (out : List S87), i ≤ l.length → l.drop i = s → out.length = l.length → out.take i = (l.map convMatchFrame).take i →
    (∀ y, y ∈ s → Ev (fun _ => laws_toMatchFrame.f y.f0 y.f1 y.f2) ((convMatchFrame y).f0, (convMatchFrame y).f1, (convMatchFrame y).f2)) → Ev (fun k => laws_toMatchFrameS.l0 k l out (i : Int)) (l.map convMatchFrame) := by
  induction s with
  | nil =>
    intro i out hi hd ho ht _
    have hi2 := drop_end l i hd hi
    have e : out = l.map convMatchFrame := by
      rw [List.take_of_length_le (by omega), List.take_of_length_le (by rw [List.length_map]; omega)] at ht
      exact ht
    refine Ev.step (f := fun _ => some out) (fun k => ?_) (e ▸ Ev.now out)
    simp only [laws_toMatchFrameS.l0]
    rw [if_neg (by omega)]
  | cons y s ih =>
    intro i out hi hd ho ht hy
    obtain ⟨hlt, hx, hd'⟩ := drop_at l i y s hd
    have hrd := rdaMatchFrame l i y hx
    have ey := hy y List.mem_cons_self
    have hly : (l.map convMatchFrame)[i]? = some (convMatchFrame y) := by rw [List.getElem?_map, hx]; rfl
    have r := ih (i + 1) (out.set i (convMatchFrame y)) (by omega) hd' (by rw [List.length_set]; exact ho) (by
      rw [List.take_add_one, List.take_add_one, hly, List.take_set_of_le (Nat.le_refl _), ht, List.getElem?_set_self (by omega)]) (fun z hz => hy z (List.mem_cons_of_mem _ hz))
    have r2 : Ev (fun k => (laws_toMatchFrame.f y.f0 y.f1 y.f2).bind fun b => if (i : Int) < (out.length : Int) then laws_toMatchFrameS.l0 k l (out.set ((i : Int) : Int).toNat (⟨b.1, b.2.1, b.2.2⟩ : S87)) ((i + 1 : Nat) : Int) else none) (l.map convMatchFrame) := by
      refine Ev.bind ey ?_
      refine Ev.congr (f := fun k => laws_toMatchFrameS.l0 k l (out.set i (convMatchFrame y)) ((i + 1 : Nat) : Int)) (fun k => ?_) r
      rw [if_pos (by omega), Int.toNat_natCast]
      first | done | rfl
    refine Ev.step (fun k => ?_) r2
    simp only [laws_toMatchFrameS.l0]
    rw [if_pos (by omega), if_pos (by omega), hrd, wrapl i l.length hlt (by omega)]
    first | done | rfl
theorem toMatchFrameS_ev (l : List S119) (g : l.length ≤ 1048576) : Ev (fun k => laws_toMatchFrameS.f k l) (l.map convMatchFrame) := by
  refine Ev.congr (f := fun k => laws_toMatchFrameS.l0 k l (List.replicate l.length z87) ((0 : Nat) : Int)) (fun k => ?_) ?_
  · unfold laws_toMatchFrameS.f
    rw [if_pos (by omega), if_pos (by omega), Int.toNat_natCast]
    first | done | rfl
  · exact toMatchFrameS_loop l (by omega) l 0 _ (by omega) rfl (by simp) (by simp) (fun y hy => toMatchFrame_ev y)
theorem eqMatchFrameS_loop (l : List S87) (hl : l.length ≤ 9223372036854775807) (s : List S87) : ∀ (i : Nat), i ≤ l.length → l.drop i = s →
    (∀ y, y ∈ s → Ev (fun _ => laws_eqMatchFrame.f y.f0 y.f1 y.f2 y.f0 y.f1 y.f2) true) → Ev (fun k => laws_eqMatchFrameS.l0 k l l (i : Int)) true := by
  induction s with
  | nil =>
    intro i hi hd _
    have hi2 := drop_end l i hd hi
    refine Ev.step (f := fun _ => some true) (fun k => ?_) (Ev.now true)
    simp only [laws_eqMatchFrameS.l0]
    rw [if_neg (by omega)]
  | cons y s ih =>
    intro i hi hd hy
    obtain ⟨hlt, hx, hd'⟩ := drop_at l i y s hd
    have hrd := rdbMatchFrame l i y hx
    refine Ev.step (f := fun k => (laws_eqMatchFrame.f y.f0 y.f1 y.f2 y.f0 y.f1 y.f2).bind fun t => if t = true then laws_eqMatchFrameS.l0 k l l ((i + 1 : Nat) : Int) else some false) (fun k => ?_) ?_
    · simp only [laws_eqMatchFrameS.l0]
      rw [if_pos (by omega), if_pos (by omega), if_pos (by omega), hrd, wrapl i l.length hlt hl]
    · refine Ev.bind (hy y List.mem_cons_self) ?_
      refine Ev.congr (f := fun k => laws_eqMatchFrameS.l0 k l l ((i + 1 : Nat) : Int)) (fun k => by rw [if_pos rfl]) ?_
      exact ih (i + 1) (by omega) hd' (fun z hz => hy z (List.mem_cons_of_mem _ hz))
theorem eqMatchFrameS_ev (l : List S87) (g : l.length ≤ 9223372036854775807) : Ev (fun k => laws_eqMatchFrameS.f k l l) true := by
  refine Ev.congr (f := fun k => laws_eqMatchFrameS.l0 k l l ((0 : Nat) : Int)) (fun k => ?_) ?_
  · unfold laws_eqMatchFrameS.f
    rw [if_pos rfl]
    first | done | rfl
  · exact eqMatchFrameS_loop l g l 0 (by omega) rfl (fun y hy => eqMatchFrame_ev y)
theorem fineMatchFrameS_conv (l : List S119) (g : l.length ≤ 1048576) : (l.map convMatchFrame).length ≤ 9223372036854775807 := by
  rw [List.length_map]
  omega
def convMatchChoice (x : S121) : S89 := ⟨x.f0, x.f1, x.f2, x.f3, x.f4, x.f5⟩
theorem toMatchChoice_ev (x : S121) : Ev (fun _ => laws_toMatchChoice.f x.f0 x.f1 x.f2 x.f3 x.f4 x.f5) ((convMatchChoice x).f0, (convMatchChoice x).f1, (convMatchChoice x).f2, (convMatchChoice x).f3, (convMatchChoice x).f4, (convMatchChoice x).f5) := by
  unfold laws_toMatchChoice.f
  exact Ev.now _
theorem eqMatchChoice_ev (x : S89) : Ev (fun _ => laws_eqMatchChoice.f x.f0 x.f1 x.f2 x.f3 x.f4 x.f5 x.f0 x.f1 x.f2 x.f3 x.f4 x.f5) true := by
  unfold laws_eqMatchChoice.f
  try simp only [if_true]
  exact Ev.now _
theorem rdaMatchChoice (l : List S121) (i : Nat) (x : S121) (h : l[i]? = some x) : rd_T121 l (i : Int) = x := by
  unfold rd_T121
  rw [List.getD_eq_getElem?_getD, Int.toNat_natCast, h]
  rfl
theorem rdbMatchChoice (l : List S89) (i : Nat) (x : S89) (h : l[i]? = some x) : rd_T89 l (i : Int) = x := by
  unfold rd_T89
  rw [List.getD_eq_getElem?_getD, Int.toNat_natCast, h]
  rfl
theorem szMatchChoiceS_ev (l : List S121) (g : l.length ≤ 9223372036854775807) (_ : ∀ y_, y_ ∈ l → G121 y_) (left : Int) (hl0 : 0 ≤ left) (hl1 : left ≤ 1048576) : ∃ r, Ev (fun _ => laws_szMatchChoiceS.f l left) r ∧ (r < 0 ∨ (0 ≤ r ∧ r ≤ left ∧ l.length ≤ 1048576)) := by
  unfold laws_szMatchChoiceS.f
  have w : wrap64 (left - (l.length : Int)) = left - (l.length : Int) := by unfold wrap64; omega
  simp only [w]
  by_cases c : left - (l.length : Int) < 0
  · simp only [if_pos c]
    exact ⟨-1, Ev.now _, Or.inl (by omega)⟩
  simp only [if_neg c]
  exact ⟨_, Ev.now _, Or.inr ⟨by omega, by omega, by omega⟩⟩
theorem toMatchChoiceS_loop (l : List S121) (hl : l.length ≤ 1048576) (s : List S121) : ∀ (i : Nat) (out : List S89), i ≤ l.length → l.drop i = s → out.length = l.length → out.take i = (l.map convMatchChoice).take i →
    (∀ y, y ∈ s → Ev (fun _ => laws_toMatchChoice.f y.f0 y.f1 y.f2 y.f3 y.f4 y.f5) ((convMatchChoice y).f0, (convMatchChoice y).f1, (convMatchChoice y).f2, (convMatchChoice y).f3, (convMatchChoice y).f4, (convMatchChoice y).f5)) → Ev (fun k => laws_toMatchChoiceS.l0 k l out (i : Int)) (l.map convMatchChoice) := by
  induction s with
  | nil =>
    intro i out hi hd ho ht _
    have hi2 := drop_end l i hd hi
    have e : out = l.map convMatchChoice := by
      rw [List.take_of_length_le (by omega), List.take_of_length_le (by rw [List.length_map]; omega)] at ht
      exact ht
    refine Ev.step (f := fun _ => some out) (fun k => ?_) (e ▸ Ev.now out)
    simp only [laws_toMatchChoiceS.l0]
    rw [if_neg (by omega)]
  | cons y s ih =>
    intro i out hi hd ho ht hy
    obtain ⟨hlt, hx, hd'⟩ := drop_at l i y s hd
    have hrd := rdaMatchChoice l i y hx
    have ey := hy y List.mem_cons_self
    have hly : (l.map convMatchChoice)[i]? = some (convMatchChoice y) := by rw [List.getElem?_map, hx]; rfl
    have r := ih (i + 1) (out.set i (convMatchChoice y)) (by omega) hd' (by rw [List.length_set]; exact ho) (by
      rw [List.take_add_one, List.take_add_one, hly, List.take_set_of_le (Nat.le_refl _), ht, List.getElem?_set_self (by omega)]) (fun z hz => hy z (List.mem_cons_of_mem _ hz))
    have r2 : Ev (fun k => (laws_toMatchChoice.f y.f0 y.f1 y.f2 y.f3 y.f4 y.f5).bind fun b => if (i : Int) < (out.length : Int) then laws_toMatchChoiceS.l0 k l (out.set ((i : Int) : Int).toNat (⟨b.1, b.2.1, b.2.2.1, b.2.2.2.1, b.2.2.2.2.1, b.2.2.2.2.2⟩ : S89)) ((i + 1 : Nat) : Int) else none) (l.map convMatchChoice) := by
      refine Ev.bind ey ?_
      refine Ev.congr (f := fun k => laws_toMatchChoiceS.l0 k l (out.set i (convMatchChoice y)) ((i + 1 : Nat) : Int)) (fun k => ?_) r
      rw [if_pos (by omega), Int.toNat_natCast]
      first | done | rfl
    refine Ev.step (fun k => ?_) r2
    simp only [laws_toMatchChoiceS.l0]
    rw [if_pos (by omega), if_pos (by omega), hrd, wrapl i l.length hlt (by omega)]
    first | done | rfl
theorem toMatchChoiceS_ev (l : List S121) (g : l.length ≤ 1048576) : Ev (fun k => laws_toMatchChoiceS.f k l) (l.map convMatchChoice) := by
  refine Ev.congr (f := fun k => laws_toMatchChoiceS.l0 k l (List.replicate l.length z89) ((0 : Nat) : Int)) (fun k => ?_) ?_
  · unfold laws_toMatchChoiceS.f
    rw [if_pos (by omega), if_pos (by omega), Int.toNat_natCast]
    first | done | rfl
  · exact toMatchChoiceS_loop l (by omega) l 0 _ (by omega) rfl (by simp) (by simp) (fun y hy => toMatchChoice_ev y)
theorem eqMatchChoiceS_loop (l : List S89) (hl : l.length ≤ 9223372036854775807) (s : List S89) : ∀ (i : Nat), i ≤ l.length → l.drop i = s →
    (∀ y, y ∈ s → Ev (fun _ => laws_eqMatchChoice.f y.f0 y.f1 y.f2 y.f3 y.f4 y.f5 y.f0 y.f1 y.f2 y.f3 y.f4 y.f5) true) → Ev (fun k => laws_eqMatchChoiceS.l0 k l l (i : Int)) true := by
  induction s with
  | nil =>
    intro i hi hd _
    have hi2 := drop_end l i hd hi
    refine Ev.step (f := fun _ => some true) (fun k => ?_) (Ev.now true)
    simp only [laws_eqMatchChoiceS.l0]
    rw [if_neg (by omega)]
  | cons y s ih =>
    intro i hi hd hy
    obtain ⟨hlt, hx, hd'⟩ := drop_at l i y s hd
    have hrd := rdbMatchChoice l i y hx
    refine Ev.step (f := fun k => (laws_eqMatchChoice.f y.f0 y.f1 y.f2 y.f3 y.f4 y.f5 y.f0 y.f1 y.f2 y.f3 y.f4 y.f5).bind fun t => if t = true then laws_eqMatchChoiceS.l0 k l l ((i + 1 : Nat) : Int) else some false) (fun k => ?_) ?_
    · simp only [laws_eqMatchChoiceS.l0]
      rw [if_pos (by omega), if_pos (by omega), if_pos (by omega), hrd, wrapl i l.length hlt hl]
    · refine Ev.bind (hy y List.mem_cons_self) ?_
      refine Ev.congr (f := fun k => laws_eqMatchChoiceS.l0 k l l ((i + 1 : Nat) : Int)) (fun k => by rw [if_pos rfl]) ?_
      exact ih (i + 1) (by omega) hd' (fun z hz => hy z (List.mem_cons_of_mem _ hz))
theorem eqMatchChoiceS_ev (l : List S89) (g : l.length ≤ 9223372036854775807) : Ev (fun k => laws_eqMatchChoiceS.f k l l) true := by
  refine Ev.congr (f := fun k => laws_eqMatchChoiceS.l0 k l l ((0 : Nat) : Int)) (fun k => ?_) ?_
  · unfold laws_eqMatchChoiceS.f
    rw [if_pos rfl]
    first | done | rfl
  · exact eqMatchChoiceS_loop l g l 0 (by omega) rfl (fun y hy => eqMatchChoice_ev y)
theorem fineMatchChoiceS_conv (l : List S121) (g : l.length ≤ 1048576) : (l.map convMatchChoice).length ≤ 9223372036854775807 := by
  rw [List.length_map]
  omega
def convCapture (x : S117) : S97 := ⟨x.f0, x.f1, x.f2, x.f3⟩
theorem szCapture_ev (x : S117) (g : G117 x) (left : Int) (hl0 : 0 ≤ left) (hl1 : left ≤ 1048576) : ∃ r, Ev (fun _ => laws_szCapture.f x.f0 x.f1 x.f2 x.f3 left) r ∧ (r < 0 ∨ (0 ≤ r ∧ r ≤ left)) := by
  obtain ⟨h0, h1, h2, h3⟩ := g
  unfold laws_szCapture.f
  have w0 : wrap64 (left - (x.f0.size : Int)) = left - (x.f0.size : Int) := by unfold wrap64; omega
  simp only [w0]
  by_cases c0 : left - (x.f0.size : Int) < 0
  · simp only [if_pos c0]
    exact ⟨-1, Ev.now _, Or.inl (by omega)⟩
  simp only [if_neg c0]
  have w1 : wrap64 (left - (x.f0.size : Int) - (x.f1.size : Int)) = left - (x.f0.size : Int) - (x.f1.size : Int) := by unfold wrap64; omega
  simp only [w1]
  by_cases c1 : left - (x.f0.size : Int) - (x.f1.size : Int) < 0
  · simp only [if_pos c1]
    exact ⟨-1, Ev.now _, Or.inl (by omega)⟩
  simp only [if_neg c1]
  exact ⟨_, Ev.now _, Or.inr ⟨by omega, by omega⟩⟩
theorem toCapture_ev (x : S117) : Ev (fun _ => laws_toCapture.f x.f0 x.f1 x.f2 x.f3) ((convCapture x).f0, (convCapture x).f1, (convCapture x).f2, (convCapture x).f3) := by
  unfold laws_toCapture.f
  exact Ev.now _
theorem eqCapture_ev (x : S97) : Ev (fun _ => laws_eqCapture.f x.f0 x.f1 x.f2 x.f3 x.f0 x.f1 x.f2 x.f3) true := by
  unfold laws_eqCapture.f
  try simp only [if_true]
  exact Ev.now _
theorem rdaCapture (l : List S117) (i : Nat) (x : S117) (h : l[i]? = some x) : rd_T117 l (i : Int) = x := by
  unfold rd_T117
  rw [List.getD_eq_getElem?_getD, Int.toNat_natCast, h]
  rfl
theorem rdbCapture (l : List S97) (i : Nat) (x : S97) (h : l[i]? = some x) : rd_T97 l (i : Int) = x := by
  unfold rd_T97
  rw [List.getD_eq_getElem?_getD, Int.toNat_natCast, h]
  rfl
theorem szCaptureS_loop (l : List S117) (hl : l.length ≤ 9223372036854775807) (s : List S117) : ∀ (i : Nat) (left : Int), i ≤ l.length → l.drop i = s → (∀ y, y ∈ s → G117 y) → 0 ≤ left → left ≤ 1048576 →
    ∃ r, Ev (fun k => laws_szCaptureS.l0 k l left (i : Int)) r ∧ (r < 0 ∨ (0 ≤ r ∧ r ≤ left)) := by
  induction s with
  | nil =>
    intro i left hi hd _ h0 h1
    have := drop_end l i hd hi
    refine ⟨left, Ev.step (f := fun _ => some left) (fun k => ?_) (Ev.now _), Or.inr ⟨h0, by omega⟩⟩
    simp only [laws_szCaptureS.l0]
    rw [if_neg (by omega)]
  | cons y s ih =>
    intro i left hi hd hy h0 h1
    obtain ⟨hlt, hx, hd'⟩ := drop_at l i y s hd
    have hrd := rdaCapture l i y hx
    obtain ⟨r1, e1, c1 | ⟨p1, q1⟩⟩ := szCapture_ev y (hy y List.mem_cons_self) left h0 h1
    · refine ⟨-1, Ev.step (f := fun k => (laws_szCapture.f y.f0 y.f1 y.f2 y.f3 left).bind fun t => if t < 0 then some (-1) else laws_szCaptureS.l0 k l t ((i + 1 : Nat) : Int)) (fun k => ?_) (Ev.bind e1 (Ev.congr (f := fun _ => some (-1)) (fun k => by rw [if_pos c1]) (Ev.now _))), Or.inl (by omega)⟩
      simp only [laws_szCaptureS.l0]
      rw [if_pos (by omega), if_pos (by omega), hrd, wrapl i l.length hlt hl]
    · obtain ⟨r, er, q⟩ := ih (i + 1) r1 (by omega) hd' (fun z hz => hy z (List.mem_cons_of_mem _ hz)) (by omega) (by omega)
      refine ⟨r, Ev.step (f := fun k => (laws_szCapture.f y.f0 y.f1 y.f2 y.f3 left).bind fun t => if t < 0 then some (-1) else laws_szCaptureS.l0 k l t ((i + 1 : Nat) : Int)) (fun k => ?_) (Ev.bind e1 (Ev.congr (fun k => by rw [if_neg (by omega)]) er)), ?_⟩
      · simp only [laws_szCaptureS.l0]
        rw [if_pos (by omega), if_pos (by omega), hrd, wrapl i l.length hlt hl]
      · rcases q with q | q
        · exact Or.inl q
        · exact Or.inr ⟨q.1, by omega⟩
theorem szCaptureS_ev (l : List S117) (g : l.length ≤ 9223372036854775807) (gk : ∀ y_, y_ ∈ l → G117 y_) (left : Int) (hl0 : 0 ≤ left) (hl1 : left ≤ 1048576) : ∃ r, Ev (fun k => laws_szCaptureS.f k l left) r ∧ (r < 0 ∨ (0 ≤ r ∧ r ≤ left ∧ l.length ≤ 1048576)) := by
  have w : wrap64 (left - (l.length : Int)) = left - (l.length : Int) := by unfold wrap64; omega
  by_cases c : left - (l.length : Int) < 0
  · refine ⟨-1, Ev.congr (f := fun _ => some (-1)) (fun k => ?_) (Ev.now _), Or.inl (by omega)⟩
    unfold laws_szCaptureS.f
    rw [w, if_pos c]
  · obtain ⟨r, er, q⟩ := szCaptureS_loop l g l 0 (left - (l.length : Int)) (by omega) rfl gk (by omega) (by omega)
    refine ⟨r, Ev.congr (fun k => ?_) er, ?_⟩
    · unfold laws_szCaptureS.f
      rw [w, if_neg c]
      first | done | rfl
    · rcases q with q | q
      · exact Or.inl q
      · exact Or.inr ⟨q.1, by omega, by omega⟩
theorem toCaptureS_loop (l : List S117) (hl : l.length ≤ 1048576) (s : List S117) : ∀ (i : Nat) (out : List S97), i ≤ l.length → l.drop i = s → out.length = l.length → out.take i = (l.map convCapture).take i →
    (∀ y, y ∈ s → Ev (fun _ => laws_toCapture.f y.f0 y.f1 y.f2 y.f3) ((convCapture y).f0, (convCapture y).f1, (convCapture y).f2, (convCapture y).f3)) → Ev (fun k => laws_toCaptureS.l0 k l out (i : Int)) (l.map convCapture) := by
  induction s with
  | nil =>
    intro i out hi hd ho ht _
    have hi2 := drop_end l i hd hi
    have e : out = l.map convCapture := by
      rw [List.take_of_length_le (by omega), List.take_of_length_le (by rw [List.length_map]; omega)] at ht
      exact ht
    refine Ev.step (f := fun _ => some out) (fun k => ?_) (e ▸ Ev.now out)
    simp only [laws_toCaptureS.l0]
    rw [if_neg (by omega)]
  | cons y s ih =>
    intro i out hi hd ho ht hy
    obtain ⟨hlt, hx, hd'⟩ := drop_at l i y s hd
    have hrd := rdaCapture l i y hx
    have ey := hy y List.mem_cons_self
    have hly : (l.map convCapture)[i]? = some (convCapture y) := by rw [List.getElem?_map, hx]; rfl
    have r := ih (i + 1) (out.set i (convCapture y)) (by omega) hd' (by rw [List.length_set]; exact ho) (by
      rw [List.take_add_one, List.take_add_one, hly, List.take_set_of_le (Nat.le_refl _), ht, List.getElem?_set_self (by omega)]) (fun z hz => hy z (List.mem_cons_of_mem _ hz))
    have r2 : Ev (fun k => (laws_toCapture.f y.f0 y.f1 y.f2 y.f3).bind fun b => if (i : Int) < (out.length : Int) then laws_toCaptureS.l0 k l (out.set ((i : Int) : Int).toNat (⟨b.1, b.2.1, b.2.2.1, b.2.2.2⟩ : S97)) ((i + 1 : Nat) : Int) else none) (l.map convCapture) := by
      refine Ev.bind ey ?_
      refine Ev.congr (f := fun k => laws_toCaptureS.l0 k l (out.set i (convCapture y)) ((i + 1 : Nat) : Int)) (fun k => ?_) r
      rw [if_pos (by omega), Int.toNat_natCast]
      first | done | rfl
    refine Ev.step (fun k => ?_) r2
    simp only [laws_toCaptureS.l0]
    rw [if_pos (by omega), if_pos (by omega), hrd, wrapl i l.length hlt (by omega)]
    first | done | rfl
theorem toCaptureS_ev (l : List S117) (g : l.length ≤ 1048576) : Ev (fun k => laws_toCaptureS.f k l) (l.map convCapture) := by
  refine Ev.congr (f := fun k => laws_toCaptureS.l0 k l (List.replicate l.length z97) ((0 : Nat) : Int)) (fun k => ?_) ?_
  · unfold laws_toCaptureS.f
    rw [if_pos (by omega), if_pos (by omega), Int.toNat_natCast]
    first | done | rfl
  · exact toCaptureS_loop l (by omega) l 0 _ (by omega) rfl (by simp) (by simp) (fun y hy => toCapture_ev y)
theorem eqCaptureS_loop (l : List S97) (hl : l.length ≤ 9223372036854775807) (s : List S97) : ∀ (i : Nat), i ≤ l.length → l.drop i = s →
    (∀ y, y ∈ s → Ev (fun _ => laws_eqCapture.f y.f0 y.f1 y.f2 y.f3 y.f0 y.f1 y.f2 y.f3) true) → Ev (fun k => laws_eqCaptureS.l0 k l l (i : Int)) true := by
  induction s with
  | nil =>
    intro i hi hd _
    have hi2 := drop_end l i hd hi
    refine Ev.step (f := fun _ => some true) (fun k => ?_) (Ev.now true)
    simp only [laws_eqCaptureS.l0]
    rw [if_neg (by omega)]
  | cons y s ih =>
    intro i hi hd hy
    obtain ⟨hlt, hx, hd'⟩ := drop_at l i y s hd
    have hrd := rdbCapture l i y hx
    refine Ev.step (f := fun k => (laws_eqCapture.f y.f0 y.f1 y.f2 y.f3 y.f0 y.f1 y.f2 y.f3).bind fun t => if t = true then laws_eqCaptureS.l0 k l l ((i + 1 : Nat) : Int) else some false) (fun k => ?_) ?_
    · simp only [laws_eqCaptureS.l0]
      rw [if_pos (by omega), if_pos (by omega), if_pos (by omega), hrd, wrapl i l.length hlt hl]
    · refine Ev.bind (hy y List.mem_cons_self) ?_
      refine Ev.congr (f := fun k => laws_eqCaptureS.l0 k l l ((i + 1 : Nat) : Int)) (fun k => by rw [if_pos rfl]) ?_
      exact ih (i + 1) (by omega) hd' (fun z hz => hy z (List.mem_cons_of_mem _ hz))
theorem eqCaptureS_ev (l : List S97) (g : l.length ≤ 9223372036854775807) : Ev (fun k => laws_eqCaptureS.f k l l) true := by
  refine Ev.congr (f := fun k => laws_eqCaptureS.l0 k l l ((0 : Nat) : Int)) (fun k => ?_) ?_
  · unfold laws_eqCaptureS.f
    rw [if_pos rfl]
    first | done | rfl
  · exact eqCaptureS_loop l g l 0 (by omega) rfl (fun y hy => eqCapture_ev y)
theorem fineCaptureS_conv (l : List S117) (g : l.length ≤ 1048576) : (l.map convCapture).length ≤ 9223372036854775807 := by
  rw [List.length_map]
  omega
def smallMatcher (x : S53) : Prop := (x.f11.length ≤ 1048576) ∧ (x.f12.length ≤ 1048576) ∧ (x.f13.length ≤ 1048576) ∧ (x.f14.length ≤ 1048576)
def fineMatcher (x : S60) : Prop := (x.f11.length ≤ 9223372036854775807) ∧ (x.f12.length ≤ 9223372036854775807) ∧ (x.f13.length ≤ 9223372036854775807) ∧ (x.f14.length ≤ 9223372036854775807)
def convMatcher (x : S53) : S60 := ⟨x.f0, x.f1, x.f2, x.f3, x.f4, x.f5, x.f6, x.f7, x.f8, x.f9, x.f10, (x.f11.map convMatchFrame), (x.f12.map convMatchChoice), (x.f13.map convCapture), (x.f14.map convCapture)⟩
theorem szMatcher_ev (x : S53) (g : G53 x) (left : Int) (hl0 : 0 ≤ left) (hl1 : left ≤ 1048576) : ∃ r, Ev (fun k => laws_szMatcher.f k x.f0 x.f1 x.f2 x.f3 x.f4 x.f5 x.f6 x.f7 x.f8 x.f9 x.f10 x.f11 x.f12 x.f13 x.f14 left) r ∧ (r < 0 ∨ (0 ≤ r ∧ r ≤ left ∧ smallMatcher x)) := by
  obtain ⟨h0, h1, h2, h4, h5, h6, h7, h9, h10, h11, h11k, h12, h12k, h13, h13k, h14, h14k⟩ := g
  unfold laws_szMatcher.f
  have w0 : wrap64 (left - (x.f2.size : Int)) = left - (x.f2.size : Int) := by unfold wrap64; omega
  simp only [w0]
  by_cases c0 : left - (x.f2.size : Int) < 0
  · simp only [if_pos c0]
    exact ⟨-1, Ev.now _, Or.inl (by omega)⟩
  simp only [if_neg c0]
  obtain ⟨r1, e1, c1 | ⟨p1, q1, s1⟩⟩ := szMatchFrameS_ev x.f11 h11 h11k (left - (x.f2.size : Int)) (by omega) (by omega)
  · refine ev_ex e1 ?_
    simp only [if_pos c1]
    exact ⟨-1, Ev.now _, Or.inl (by omega)⟩
  refine ev_ex e1 ?_
  simp only [if_neg (show ¬ r1 < 0 by omega)]
  obtain ⟨r2, e2, c2 | ⟨p2, q2, s2⟩⟩ := szMatchChoiceS_ev x.f12 h12 h12k (r1) (by omega) (by omega)
  · refine ev_ex e2 ?_
    simp only [if_pos c2]
    exact ⟨-1, Ev.now _, Or.inl (by omega)⟩
  refine ev_ex e2 ?_
  simp only [if_neg (show ¬ r2 < 0 by omega)]
  obtain ⟨r3, e3, c3 | ⟨p3, q3, s3⟩⟩ := szCaptureS_ev x.f13 h13 h13k (r2) (by omega) (by omega)
  · refine ev_ex e3 ?_
    simp only [if_pos c3]
    exact ⟨-1, Ev.now _, Or.inl (by omega)⟩
  refine ev_ex e3 ?_
  simp only [if_neg (show ¬ r3 < 0 by omega)]
  obtain ⟨r4, e4, c4 | ⟨p4, q4, s4⟩⟩ := szCaptureS_ev x.f14 h14 h14k (r3) (by omega) (by omega)
  · refine ev_ex e4 ?_
    simp only [if_pos c4]
    exact ⟨-1, Ev.now _, Or.inl (by omega)⟩
  refine ev_ex e4 ?_
  simp only [if_neg (show ¬ r4 < 0 by omega)]
  exact ⟨_, Ev.now _, Or.inr ⟨by omega, by omega, ⟨s1, s2, s3, s4⟩⟩⟩
theorem toMatcher_ev (x : S53) (g : smallMatcher x) : Ev (fun k => laws_toMatcher.f k x.f0 x.f1 x.f2 x.f3 x.f4 x.f5 x.f6 x.f7 x.f8 x.f9 x.f10 x.f11 x.f12 x.f13 x.f14) ((convMatcher x).f0, (convMatcher x).f1, (convMatcher x).f2, (convMatcher x).f3, (convMatcher x).f4, (convMatcher x).f5, (convMatcher x).f6, (convMatcher x).f7, (convMatcher x).f8, (convMatcher x).f9, (convMatcher x).f10, (convMatcher x).f11, (convMatcher x).f12, (convMatcher x).f13, (convMatcher x).f14) := by
  unfold laws_toMatcher.f
  refine Ev.bind (toMatchFrameS_ev x.f11 (g.1)) ?_
  refine Ev.bind (toMatchChoiceS_ev x.f12 (g.2.1)) ?_
  refine Ev.bind (toCaptureS_ev x.f13 (g.2.2.1)) ?_
  refine Ev.bind (toCaptureS_ev x.f14 (g.2.2.2)) ?_
  exact Ev.now _
theorem eqMatcher_ev (x : S60) (g : fineMatcher x) : Ev (fun k => laws_eqMatcher.f k x.f0 x.f1 x.f2 x.f3 x.f4 x.f5 x.f6 x.f7 x.f8 x.f9 x.f10 x.f11 x.f12 x.f13 x.f14 x.f0 x.f1 x.f2 x.f3 x.f4 x.f5 x.f6 x.f7 x.f8 x.f9 x.f10 x.f11 x.f12 x.f13 x.f14) true := by
  unfold laws_eqMatcher.f
  try simp only [if_true, bne_self_eq_false, Bool.false_eq_true, if_false]
  refine Ev.bind (eqMatchFrameS_ev x.f11 (g.1)) ?_
  try simp only [if_true]
  refine Ev.bind (eqMatchChoiceS_ev x.f12 (g.2.1)) ?_
  try simp only [if_true]
  refine Ev.bind (eqCaptureS_ev x.f13 (g.2.2.1)) ?_
  try simp only [if_true]
  refine Ev.bind (eqCaptureS_ev x.f14 (g.2.2.2)) ?_
  try simp only [if_true]
  exact Ev.now _
theorem fineMatcher_conv (x : S53) (g : smallMatcher x) : fineMatcher (convMatcher x) := by
  exact ⟨(fineMatchFrameS_conv x.f11 (g.1)), (fineMatchChoiceS_conv x.f12 (g.2.1)), (fineCaptureS_conv x.f13 (g.2.2.1)), (fineCaptureS_conv x.f14 (g.2.2.2))⟩
-- spec_l12SameCaptures: equality of two rows of Capture by '!=' (X: the length, where it is handed on)
theorem spec_l12SameCaptures_loop (l m : List S97) (hl : l.length ≤ 9223372036854775807) (hm : l.length = m.length) (s : List S97) : ∀ (t : List S97) (i : Nat), i ≤ l.length → l.drop i = s → m.drop i = t →
    Ev (fun k => spec_l12SameCaptures.l0 k l m  (i : Int)) (sameCaptureS s t) := by
  induction s with
  | nil =>
    intro t i hi hd _
    have hi2 := drop_end l i hd hi
    refine Ev.step (f := fun _ => some true) (fun k => ?_) (by rw [sameCaptureS]; exact Ev.now true)
    simp only [spec_l12SameCaptures.l0]
    rw [if_neg (by omega)]
  | cons y s ih =>
    intro t i hi hd ht
    obtain ⟨hlt, hx, hd'⟩ := drop_at l i y s hd
    have hrd := rdbCapture l i y hx
    cases t with
    | nil =>
      have := drop_end m i ht (by omega)
      omega
    | cons z t =>
      obtain ⟨_, hx2, ht'⟩ := drop_at m i z t ht
      have hrd2 := rdbCapture m i z hx2
      have w := wrapl i l.length hlt hl
      rw [sameCaptureS]
      cases h : neCapture y z with
      | true =>
        refine Ev.step (f := fun _ => some false) (fun k => ?_) (Ev.now false)
        simp only [spec_l12SameCaptures.l0]
        rw [if_pos (by omega), if_pos (by omega), if_pos (by omega)]
        first
          | rw [if_pos (by omega), hrd, hrd2]; exact if_pos h
          | rw [hrd, hrd2]; exact if_pos h
      | false =>
        have h2 : ¬ neCapture y z = true := by rw [h]; simp
        refine Ev.step (f := fun k => spec_l12SameCaptures.l0 k l m  ((i + 1 : Nat) : Int)) (fun k => ?_) (ih t (i + 1) (by omega) hd' ht')
        simp only [spec_l12SameCaptures.l0]
        rw [if_pos (by omega), if_pos (by omega), if_pos (by omega)]
        first
          | rw [if_pos (by omega), hrd, hrd2, w]; exact if_neg h2
          | rw [hrd, hrd2, w]; exact if_neg h2
theorem spec_l12SameCaptures_ev (l m : List S97) (hl : l.length ≤ 9223372036854775807) : Ev (fun k => spec_l12SameCaptures.f k l m) ((l.length == m.length) && sameCaptureS l m) := by
  by_cases h : l.length = m.length
  · rw [beq_iff_eq.mpr h, Bool.true_and]
    refine Ev.congr (fun k => ?_) (spec_l12SameCaptures_loop l m hl h l m 0 (by omega) rfl rfl)
    unfold spec_l12SameCaptures.f
    rw [if_pos (by omega)]
    rfl
  · rw [beq_eq_false_iff_ne.mpr h, Bool.false_and]
    refine Ev.congr (f := fun _ => some false) (fun k => ?_) (Ev.now false)
    unfold spec_l12SameCaptures.f
    rw [if_neg (by omega)]
-- impl_MatchFrame: equality of two rows of MatchFrame by '!=' (X: the length, where it is handed on)
theorem impl_MatchFrame_loop (l m : List S87) (hl : l.length ≤ 9223372036854775807) (hm : l.length = m.length) (s : List S87) : ∀ (t : List S87) (i : Nat), i ≤ l.length → l.drop i = s → m.drop i = t →
    Ev (fun k => impl_MatchFrame.l0 k l m (l.length:Int) (i : Int)) (sameMatchFrameS s t) := by
  induction s with
  | nil =>
    intro t i hi hd _
    have hi2 := drop_end l i hd hi
    refine Ev.step (f := fun _ => some true) (fun k => ?_) (by rw [sameMatchFrameS]; exact Ev.now true)
    simp only [impl_MatchFrame.l0]
    rw [if_neg (by omega)]
  | cons y s ih =>
    intro t i hi hd ht
    obtain ⟨hlt, hx, hd'⟩ := drop_at l i y s hd
    have hrd := rdbMatchFrame l i y hx
    cases t with
    | nil =>
      have := drop_end m i ht (by omega)
      omega
    | cons z t =>
      obtain ⟨_, hx2, ht'⟩ := drop_at m i z t ht
      have hrd2 := rdbMatchFrame m i z hx2
      have w := wrapl i l.length hlt hl
      rw [sameMatchFrameS]
      cases h : neMatchFrame y z with
      | true =>
        refine Ev.step (f := fun _ => some false) (fun k => ?_) (Ev.now false)
        simp only [impl_MatchFrame.l0]
        rw [if_pos (by omega), if_pos (by omega), if_pos (by omega)]
        first
          | rw [if_pos (by omega), hrd, hrd2]; exact if_pos h
          | rw [hrd, hrd2]; exact if_pos h
      | false =>
        have h2 : ¬ neMatchFrame y z = true := by rw [h]; simp
        refine Ev.step (f := fun k => impl_MatchFrame.l0 k l m (l.length:Int) ((i + 1 : Nat) : Int)) (fun k => ?_) (ih t (i + 1) (by omega) hd' ht')
        simp only [impl_MatchFrame.l0]
        rw [if_pos (by omega), if_pos (by omega), if_pos (by omega)]
        first
          | rw [if_pos (by omega), hrd, hrd2, w]; exact if_neg h2
          | rw [hrd, hrd2, w]; exact if_neg h2
theorem impl_MatchFrame_ev (l m : List S87) (hl : l.length ≤ 9223372036854775807) : Ev (fun k => impl_MatchFrame.f k l m) ((l.length == m.length) && sameMatchFrameS l m) := by
  by_cases h : l.length = m.length
  · rw [beq_iff_eq.mpr h, Bool.true_and]
    refine Ev.congr (fun k => ?_) (impl_MatchFrame_loop l m hl h l m 0 (by omega) rfl rfl)
    unfold impl_MatchFrame.f
    rw [if_pos (by omega)]
    rfl
  · rw [beq_eq_false_iff_ne.mpr h, Bool.false_and]
    refine Ev.congr (f := fun _ => some false) (fun k => ?_) (Ev.now false)
    unfold impl_MatchFrame.f
    rw [if_neg (by omega)]
-- impl_MatchChoice: equality of two rows of MatchChoice by '!=' (X: the length, where it is handed on)
theorem impl_MatchChoice_loop (l m : List S89) (hl : l.length ≤ 9223372036854775807) (hm : l.length = m.length) (s : List S89) : ∀ (t : List S89) (i : Nat), i ≤ l.length → l.drop i = s → m.drop i = t →
    Ev (fun k => impl_MatchChoice.l0 k l m (l.length:Int) (i : Int)) (sameMatchChoiceS s t) := by
  induction s with
  | nil =>
    intro t i hi hd _
    have hi2 := drop_end l i hd hi
    refine Ev.step (f := fun _ => some true) (fun k => ?_) (by rw [sameMatchChoiceS]; exact Ev.now true)
    simp only [impl_MatchChoice.l0]
    rw [if_neg (by omega)]
  | cons y s ih =>
    intro t i hi hd ht
    obtain ⟨hlt, hx, hd'⟩ := drop_at l i y s hd
    have hrd := rdbMatchChoice l i y hx
    cases t with
    | nil =>
      have := drop_end m i ht (by omega)
      omega
    | cons z t =>
      obtain ⟨_, hx2, ht'⟩ := drop_at m i z t ht
      have hrd2 := rdbMatchChoice m i z hx2
      have w := wrapl i l.length hlt hl
      rw [sameMatchChoiceS]
      cases h : neMatchChoice y z with
      | true =>
        refine Ev.step (f := fun _ => some false) (fun k => ?_) (Ev.now false)
        simp only [impl_MatchChoice.l0]
        rw [if_pos (by omega), if_pos (by omega), if_pos (by omega)]
        first
          | rw [if_pos (by omega), hrd, hrd2]; exact if_pos h
          | rw [hrd, hrd2]; exact if_pos h
      | false =>
        have h2 : ¬ neMatchChoice y z = true := by rw [h]; simp
        refine Ev.step (f := fun k => impl_MatchChoice.l0 k l m (l.length:Int) ((i + 1 : Nat) : Int)) (fun k => ?_) (ih t (i + 1) (by omega) hd' ht')
        simp only [impl_MatchChoice.l0]
        rw [if_pos (by omega), if_pos (by omega), if_pos (by omega)]
        first
          | rw [if_pos (by omega), hrd, hrd2, w]; exact if_neg h2
          | rw [hrd, hrd2, w]; exact if_neg h2
theorem impl_MatchChoice_ev (l m : List S89) (hl : l.length ≤ 9223372036854775807) : Ev (fun k => impl_MatchChoice.f k l m) ((l.length == m.length) && sameMatchChoiceS l m) := by
  by_cases h : l.length = m.length
  · rw [beq_iff_eq.mpr h, Bool.true_and]
    refine Ev.congr (fun k => ?_) (impl_MatchChoice_loop l m hl h l m 0 (by omega) rfl rfl)
    unfold impl_MatchChoice.f
    rw [if_pos (by omega)]
    rfl
  · rw [beq_eq_false_iff_ne.mpr h, Bool.false_and]
    refine Ev.congr (f := fun _ => some false) (fun k => ?_) (Ev.now false)
    unfold impl_MatchChoice.f
    rw [if_neg (by omega)]
-- impl_Capture: equality of two rows of Capture by '!=' (X: the length, where it is handed on)
theorem impl_Capture_loop (l m : List S97) (hl : l.length ≤ 9223372036854775807) (hm : l.length = m.length) (s : List S97) : ∀ (t : List S97) (i : Nat), i ≤ l.length → l.drop i = s → m.drop i = t →
    Ev (fun k => impl_Capture.l0 k l m (l.length:Int) (i : Int)) (sameCaptureS s t) := by
  induction s with
  | nil =>
    intro t i hi hd _
    have hi2 := drop_end l i hd hi
    refine Ev.step (f := fun _ => some true) (fun k => ?_) (by rw [sameCaptureS]; exact Ev.now true)
    simp only [impl_Capture.l0]
    rw [if_neg (by omega)]
  | cons y s ih =>
    intro t i hi hd ht
    obtain ⟨hlt, hx, hd'⟩ := drop_at l i y s hd
    have hrd := rdbCapture l i y hx
    cases t with
    | nil =>
      have := drop_end m i ht (by omega)
      omega
    | cons z t =>
      obtain ⟨_, hx2, ht'⟩ := drop_at m i z t ht
      have hrd2 := rdbCapture m i z hx2
      have w := wrapl i l.length hlt hl
      rw [sameCaptureS]
      cases h : neCapture y z with
      | true =>
        refine Ev.step (f := fun _ => some false) (fun k => ?_) (Ev.now false)
        simp only [impl_Capture.l0]
        rw [if_pos (by omega), if_pos (by omega), if_pos (by omega)]
        first
          | rw [if_pos (by omega), hrd, hrd2]; exact if_pos h
          | rw [hrd, hrd2]; exact if_pos h
      | false =>
        have h2 : ¬ neCapture y z = true := by rw [h]; simp
        refine Ev.step (f := fun k => impl_Capture.l0 k l m (l.length:Int) ((i + 1 : Nat) : Int)) (fun k => ?_) (ih t (i + 1) (by omega) hd' ht')
        simp only [impl_Capture.l0]
        rw [if_pos (by omega), if_pos (by omega), if_pos (by omega)]
        first
          | rw [if_pos (by omega), hrd, hrd2, w]; exact if_neg h2
          | rw [hrd, hrd2, w]; exact if_neg h2
theorem impl_Capture_ev (l m : List S97) (hl : l.length ≤ 9223372036854775807) : Ev (fun k => impl_Capture.f k l m) ((l.length == m.length) && sameCaptureS l m) := by
  by_cases h : l.length = m.length
  · rw [beq_iff_eq.mpr h, Bool.true_and]
    refine Ev.congr (fun k => ?_) (impl_Capture_loop l m hl h l m 0 (by omega) rfl rfl)
    unfold impl_Capture.f
    rw [if_pos (by omega)]
    rfl
  · rw [beq_eq_false_iff_ne.mpr h, Bool.false_and]
    refine Ev.congr (f := fun _ => some false) (fun k => ?_) (Ev.now false)
    unfold impl_Capture.f
    rw [if_neg (by omega)]
theorem ev_map {α β : Type} {F : Nat → Option α} {a : α} (g : α → β) (h : Ev F a) : Ev (fun k => (F k).map g) (g a) :=
  Ev.congr (f := fun k => (F k).bind fun t => some (g t)) (fun k => by cases F k <;> rfl) (Ev.bind h (Ev.now _))
theorem ev_and {E : Nat → Option Bool} {b c : Bool} (h : Ev E c) : Ev (fun k => if b = true then E k else some false) (b && c) := by
  cases b with
  | true => exact Ev.congr (fun k => by rw [if_pos rfl]) h
  | false => exact Ev.congr (f := fun _ => some false) (fun k => by simp) (Ev.now false)
-- spec_l1: a loop by '!=' over two rows p.f12, q.f12 of MatchChoice that goes on with NEXT behind
theorem spec_l1 (p q : S60) (hl : p.f12.length ≤ 9223372036854775807) (hm : p.f12.length = q.f12.length) (v : Bool) (hv : Ev (fun k => (spec_l12SameCaptures.f k p.f13 q.f13).bind fun t => (if t = true then ((spec_l12SameCaptures.f k p.f14 q.f14).bind fun t => (some t)) else (some false))) v) (s : List S89) : ∀ (t : List S89) (i : Nat), i ≤ p.f12.length → p.f12.drop i = s → q.f12.drop i = t →
    Ev (fun k => spec_SameMatcher.l1 k  (i : Int) p.f0 p.f1 p.f2 p.f3 p.f4 p.f5 p.f6 p.f7 p.f8 p.f9 p.f10 p.f11 p.f12 p.f13 p.f14 q.f0 q.f1 q.f2 q.f3 q.f4 q.f5 q.f6 q.f7 q.f8 q.f9 q.f10 q.f11 q.f12 q.f13 q.f14) (sameMatchChoiceS s t && v) := by
  induction s with
  | nil =>
    intro t i hi hd _
    have hi2 := drop_end p.f12 i hd hi
    refine Ev.step (f := fun k => (spec_l12SameCaptures.f k p.f13 q.f13).bind fun t => (if t = true then ((spec_l12SameCaptures.f k p.f14 q.f14).bind fun t => (some t)) else (some false))) (fun k => ?_) (by rw [sameMatchChoiceS, Bool.true_and]; exact hv)
    simp only [spec_SameMatcher.l1]
    rw [if_neg (by omega)]
    first | done | rfl
  | cons y s ih =>
    intro t i hi hd ht
    obtain ⟨hlt, hx, hd'⟩ := drop_at p.f12 i y s hd
    have hrd := rdbMatchChoice p.f12 i y hx
    cases t with
    | nil =>
      have := drop_end q.f12 i ht (by omega)
      omega
    | cons z t =>
      obtain ⟨_, hx2, ht'⟩ := drop_at q.f12 i z t ht
      have hrd2 := rdbMatchChoice q.f12 i z hx2
      have w := wrapl i p.f12.length hlt hl
      rw [sameMatchChoiceS]
      cases h : neMatchChoice y z with
      | true =>
        refine Ev.step (f := fun _ => some false) (fun k => ?_) (Ev.now false)
        simp only [spec_SameMatcher.l1]
        rw [if_pos (by omega), if_pos (by omega), if_pos (by omega), hrd, hrd2]
        exact if_pos h
      | false =>
        have h2 : ¬ neMatchChoice y z = true := by rw [h]; simp
        refine Ev.step (f := fun k => spec_SameMatcher.l1 k  ((i + 1 : Nat) : Int) p.f0 p.f1 p.f2 p.f3 p.f4 p.f5 p.f6 p.f7 p.f8 p.f9 p.f10 p.f11 p.f12 p.f13 p.f14 q.f0 q.f1 q.f2 q.f3 q.f4 q.f5 q.f6 q.f7 q.f8 q.f9 q.f10 q.f11 q.f12 q.f13 q.f14) (fun k => ?_) (ih t (i + 1) (by omega) hd' ht')
        simp only [spec_SameMatcher.l1]
        rw [if_pos (by omega), if_pos (by omega), if_pos (by omega), hrd, hrd2, w]
        exact if_neg h2
-- spec_l0: a loop by '!=' over two rows p.f11, q.f11 of MatchFrame that goes on with NEXT behind
theorem spec_l0 (p q : S60) (hl : p.f11.length ≤ 9223372036854775807) (hm : p.f11.length = q.f11.length) (v : Bool) (hv : Ev (fun k => spec_SameMatcher.l1 k ((0 : Nat) : Int) p.f0 p.f1 p.f2 p.f3 p.f4 p.f5 p.f6 p.f7 p.f8 p.f9 p.f10 p.f11 p.f12 p.f13 p.f14 q.f0 q.f1 q.f2 q.f3 q.f4 q.f5 q.f6 q.f7 q.f8 q.f9 q.f10 q.f11 q.f12 q.f13 q.f14) v) (s : List S87) : ∀ (t : List S87) (i : Nat), i ≤ p.f11.length → p.f11.drop i = s → q.f11.drop i = t →
    Ev (fun k => spec_SameMatcher.l0 k  (i : Int) p.f0 p.f1 p.f2 p.f3 p.f4 p.f5 p.f6 p.f7 p.f8 p.f9 p.f10 p.f11 p.f12 p.f13 p.f14 q.f0 q.f1 q.f2 q.f3 q.f4 q.f5 q.f6 q.f7 q.f8 q.f9 q.f10 q.f11 q.f12 q.f13 q.f14) (sameMatchFrameS s t && v) := by
  induction s with
  | nil =>
    intro t i hi hd _
    have hi2 := drop_end p.f11 i hd hi
    refine Ev.step (f := fun k => spec_SameMatcher.l1 k ((0 : Nat) : Int) p.f0 p.f1 p.f2 p.f3 p.f4 p.f5 p.f6 p.f7 p.f8 p.f9 p.f10 p.f11 p.f12 p.f13 p.f14 q.f0 q.f1 q.f2 q.f3 q.f4 q.f5 q.f6 q.f7 q.f8 q.f9 q.f10 q.f11 q.f12 q.f13 q.f14) (fun k => ?_) (by rw [sameMatchFrameS, Bool.true_and]; exact hv)
    simp only [spec_SameMatcher.l0]
    rw [if_neg (by omega)]
    first | done | rfl
  | cons y s ih =>
    intro t i hi hd ht
    obtain ⟨hlt, hx, hd'⟩ := drop_at p.f11 i y s hd
    have hrd := rdbMatchFrame p.f11 i y hx
    cases t with
    | nil =>
      have := drop_end q.f11 i ht (by omega)
      omega
    | cons z t =>
      obtain ⟨_, hx2, ht'⟩ := drop_at q.f11 i z t ht
      have hrd2 := rdbMatchFrame q.f11 i z hx2
      have w := wrapl i p.f11.length hlt hl
      rw [sameMatchFrameS]
      cases h : neMatchFrame y z with
      | true =>
        refine Ev.step (f := fun _ => some false) (fun k => ?_) (Ev.now false)
        simp only [spec_SameMatcher.l0]
        rw [if_pos (by omega), if_pos (by omega), if_pos (by omega), hrd, hrd2]
        exact if_pos h
      | false =>
        have h2 : ¬ neMatchFrame y z = true := by rw [h]; simp
        refine Ev.step (f := fun k => spec_SameMatcher.l0 k  ((i + 1 : Nat) : Int) p.f0 p.f1 p.f2 p.f3 p.f4 p.f5 p.f6 p.f7 p.f8 p.f9 p.f10 p.f11 p.f12 p.f13 p.f14 q.f0 q.f1 q.f2 q.f3 q.f4 q.f5 q.f6 q.f7 q.f8 q.f9 q.f10 q.f11 q.f12 q.f13 q.f14) (fun k => ?_) (ih t (i + 1) (by omega) hd' ht')
        simp only [spec_SameMatcher.l0]
        rw [if_pos (by omega), if_pos (by omega), if_pos (by omega), hrd, hrd2, w]
        exact if_neg h2
def sameMatcher (p q : S60) : Bool := ((p.f0 == q.f0) && ((p.f1 == q.f1) && ((p.f2.toList == q.f2.toList) && ((p.f3 == q.f3) && (p.f4 == q.f4))))) && (((p.f5 == q.f5) && ((p.f6 == q.f6) && ((p.f7 == q.f7) && ((p.f8 == q.f8) && ((p.f9 == q.f9) && (p.f10 == q.f10)))))) && ((((p.f11.length == q.f11.length) && sameMatchFrameS p.f11 q.f11) && ((p.f12.length == q.f12.length) && sameMatchChoiceS p.f12 q.f12)) && (((p.f13.length == q.f13.length) && sameCaptureS p.f13 q.f13) && ((p.f14.length == q.f14.length) && sameCaptureS p.f14 q.f14))))
theorem spec_tail (p q : S60) (g : fineMatcher p) (h11 : p.f11.length = q.f11.length) (h12 : p.f12.length = q.f12.length) : Ev (fun k => spec_SameMatcher.l0 k ((0 : Nat) : Int) p.f0 p.f1 p.f2 p.f3 p.f4 p.f5 p.f6 p.f7 p.f8 p.f9 p.f10 p.f11 p.f12 p.f13 p.f14 q.f0 q.f1 q.f2 q.f3 q.f4 q.f5 q.f6 q.f7 q.f8 q.f9 q.f10 q.f11 q.f12 q.f13 q.f14) ((((p.f11.length == q.f11.length) && sameMatchFrameS p.f11 q.f11) && ((p.f12.length == q.f12.length) && sameMatchChoiceS p.f12 q.f12)) && (((p.f13.length == q.f13.length) && sameCaptureS p.f13 q.f13) && ((p.f14.length == q.f14.length) && sameCaptureS p.f14 q.f14))) := by
  have r1 := spec_l1 p q g.2.1 h12 (((p.f13.length == q.f13.length) && sameCaptureS p.f13 q.f13) && ((p.f14.length == q.f14.length) && sameCaptureS p.f14 q.f14)) (Ev.bind (spec_l12SameCaptures_ev _ _ g.2.2.1) (ev_and (Ev.bind (spec_l12SameCaptures_ev _ _ g.2.2.2) (Ev.now _)))) p.f12 q.f12 0 (by omega) rfl rfl
  have r0 := spec_l0 p q g.1 h11 _ r1 p.f11 q.f11 0 (by omega) rfl rfl
  rw [beq_iff_eq.mpr h11, beq_iff_eq.mpr h12, Bool.true_and, Bool.true_and, Bool.and_assoc (sameMatchFrameS p.f11 q.f11)]
  exact r0
theorem spec_no (p q : S60) : Ev (fun k => spec_SameMatcher.j0 k true p.f0 p.f1 p.f2 p.f3 p.f4 p.f5 p.f6 p.f7 p.f8 p.f9 p.f10 p.f11 p.f12 p.f13 p.f14 q.f0 q.f1 q.f2 q.f3 q.f4 q.f5 q.f6 q.f7 q.f8 q.f9 q.f10 q.f11 q.f12 q.f13 q.f14) false := Ev.step (f := fun _ => some false) (fun k => by simp only [spec_SameMatcher.j0]; first | rw [if_pos rfl] | rw [if_pos trivial] | rfl) (Ev.now false)
theorem specS_ev (p q : S60) (g : fineMatcher p) : Ev (fun k => specO k p q) (sameMatcher p q) := by
  have no := spec_no p q
  unfold specO spec_SameMatcher.f sameMatcher
  by_cases h0 : p.f0 = q.f0
  rotate_left
  · rw [beq_eq_false_iff_ne.mpr h0]
    refine Ev.congr (fun k => by rw [if_neg h0]) ?_
    simpa using no
  rw [beq_iff_eq.mpr h0]
  refine Ev.congr (fun k => by rw [if_pos h0]) ?_
  by_cases h1 : p.f1 = q.f1
  rotate_left
  · rw [beq_eq_false_iff_ne.mpr h1]
    refine Ev.congr (fun k => by rw [if_neg h1]) ?_
    simpa using no
  rw [beq_iff_eq.mpr h1]
  refine Ev.congr (fun k => by rw [if_pos h1]) ?_
  by_cases h2 : p.f2.toList = q.f2.toList
  rotate_left
  · rw [beq_eq_false_iff_ne.mpr h2]
    refine Ev.congr (fun k => by rw [if_neg h2]) ?_
    simpa using no
  rw [beq_iff_eq.mpr h2]
  refine Ev.congr (fun k => by rw [if_pos h2]) ?_
  by_cases h3 : p.f3 = q.f3
  rotate_left
  · rw [beq_eq_false_iff_ne.mpr h3]
    refine Ev.congr (fun k => by rw [if_pos (by simpa using h3)]) ?_
    simpa using no
  rw [beq_iff_eq.mpr h3]
  refine Ev.congr (fun k => by rw [if_neg (by simp [h3])]) ?_
  by_cases h4 : p.f4 = q.f4
  rotate_left
  · rw [beq_eq_false_iff_ne.mpr h4]
    refine Ev.congr (fun k => by rw [if_neg h4]) ?_
    simpa using no
  rw [beq_iff_eq.mpr h4]
  refine Ev.congr (fun k => by rw [if_pos h4]) ?_
  by_cases h5 : p.f5 = q.f5
  rotate_left
  · rw [beq_eq_false_iff_ne.mpr h5]
    refine Ev.congr (fun k => by rw [if_neg h5]) ?_
    simpa using no
  rw [beq_iff_eq.mpr h5]
  refine Ev.congr (fun k => by rw [if_pos h5]) ?_
  by_cases h6 : p.f6 = q.f6
  rotate_left
  · rw [beq_eq_false_iff_ne.mpr h6]
    refine Ev.congr (fun k => by rw [if_neg h6]) ?_
    simpa using no
  rw [beq_iff_eq.mpr h6]
  refine Ev.congr (fun k => by rw [if_pos h6]) ?_
  by_cases h7 : p.f7 = q.f7
  rotate_left
  · rw [beq_eq_false_iff_ne.mpr h7]
    refine Ev.congr (fun k => by rw [if_neg h7]) ?_
    simpa using no
  rw [beq_iff_eq.mpr h7]
  refine Ev.congr (fun k => by rw [if_pos h7]) ?_
  by_cases h8 : p.f8 = q.f8
  rotate_left
  · rw [beq_eq_false_iff_ne.mpr h8]
    refine Ev.congr (fun k => by rw [if_pos (by simpa using h8)]) ?_
    simpa using no
  rw [beq_iff_eq.mpr h8]
  refine Ev.congr (fun k => by rw [if_neg (by simp [h8])]) ?_
  by_cases h9 : p.f9 = q.f9
  rotate_left
  · rw [beq_eq_false_iff_ne.mpr h9]
    refine Ev.congr (fun k => by rw [if_neg h9]) ?_
    simpa using no
  rw [beq_iff_eq.mpr h9]
  refine Ev.congr (fun k => by rw [if_pos h9]) ?_
  by_cases h10 : p.f10 = q.f10
  rotate_left
  · rw [beq_eq_false_iff_ne.mpr h10]
    refine Ev.congr (fun k => by rw [if_neg h10]) ?_
    simpa using no
  rw [beq_iff_eq.mpr h10]
  refine Ev.congr (fun k => by rw [if_pos h10]) ?_
  simp only [Bool.true_and]
  by_cases h11 : p.f11.length = q.f11.length
  rotate_left
  · rw [beq_eq_false_iff_ne.mpr h11]
    refine Ev.congr (fun k => by rw [if_neg (by omega)]) ?_
    simpa using no
  refine Ev.congr (fun k => by rw [if_pos (by omega)]) ?_
  by_cases h12 : p.f12.length = q.f12.length
  rotate_left
  · rw [beq_eq_false_iff_ne.mpr h12]
    rw [show ((p.f12.length : Int) != (q.f12.length : Int)) = true from bne_iff_ne.mpr (by omega)]
    simpa using no
  rw [show ((p.f12.length : Int) != (q.f12.length : Int)) = false from bne_eq_false_iff_eq.mpr (by omega)]
  exact Ev.step (f := fun k => spec_SameMatcher.l0 k ((0 : Nat) : Int) p.f0 p.f1 p.f2 p.f3 p.f4 p.f5 p.f6 p.f7 p.f8 p.f9 p.f10 p.f11 p.f12 p.f13 p.f14 q.f0 q.f1 q.f2 q.f3 q.f4 q.f5 q.f6 q.f7 q.f8 q.f9 q.f10 q.f11 q.f12 q.f13 q.f14) (fun k => by simp only [spec_SameMatcher.j0]; rw [if_neg (by simp)]; rfl) (spec_tail p q g h11 h12)
theorem j1_ev (p q : S60) (g : fineMatcher p) (b c : Bool) : Ev (fun k => impl_SameMatcher.j1 k b c p.f0 p.f1 p.f2 p.f3 p.f4 p.f5 p.f6 p.f7 p.f8 p.f9 p.f10 p.f11 p.f12 p.f13 p.f14 q.f0 q.f1 q.f2 q.f3 q.f4 q.f5 q.f6 q.f7 q.f8 q.f9 q.f10 q.f11 q.f12 q.f13 q.f14) (b && (c && ((((p.f11.length == q.f11.length) && sameMatchFrameS p.f11 q.f11) && ((p.f12.length == q.f12.length) && sameMatchChoiceS p.f12 q.f12)) && (((p.f13.length == q.f13.length) && sameCaptureS p.f13 q.f13) && ((p.f14.length == q.f14.length) && sameCaptureS p.f14 q.f14))))) := by
  have h11 := impl_MatchFrame_ev p.f11 q.f11 g.1
  have h12 := impl_MatchChoice_ev p.f12 q.f12 g.2.1
  have h13 := impl_Capture_ev p.f13 q.f13 g.2.2.1
  have h14 := impl_Capture_ev p.f14 q.f14 g.2.2.2
  generalize ((p.f11.length == q.f11.length) && sameMatchFrameS p.f11 q.f11) = fe at h11 ⊢
  generalize ((p.f12.length == q.f12.length) && sameMatchChoiceS p.f12 q.f12) = ce at h12 ⊢
  generalize ((p.f13.length == q.f13.length) && sameCaptureS p.f13 q.f13) = c13 at h13 ⊢
  generalize ((p.f14.length == q.f14.length) && sameCaptureS p.f14 q.f14) = c14 at h14 ⊢
  refine Ev.step (f := fun k => (impl_MatchFrame.f k p.f11 q.f11).bind fun t => (if t = true then ((impl_MatchChoice.f k p.f12 q.f12).bind fun u => (if b = true then (if c = true then (if u = true then ((impl_Capture.f k p.f13 q.f13).bind fun t => (if t = true then ((impl_Capture.f k p.f14 q.f14).bind fun t => (some t)) else (some false))) else (some false)) else (some false)) else (some false))) else (if b = true then (if c = true then (some false) else (some false)) else (some false)))) (fun k => by simp only [impl_SameMatcher.j1]) ?_
  refine Ev.bind h11 ?_
  cases fe with
  | false =>
    have e : (b && (c && ((false && ce) && (c13 && c14)))) = false := by simp
    rw [e]
    exact Ev.congr (f := fun _ => some false) (fun k => by cases b <;> cases c <;> simp) (Ev.now false)
  | true =>
    refine Ev.congr (fun k => by rw [if_pos rfl]) ?_
    refine Ev.bind h12 ?_
    rw [Bool.true_and]
    exact ev_and (ev_and (ev_and (Ev.bind h13 (ev_and (Ev.bind h14 (Ev.now _))))))
theorem j0_ev (p q : S60) (g : fineMatcher p) (b : Bool) : Ev (fun k => impl_SameMatcher.j0 k b p.f0 p.f1 p.f2 p.f3 p.f4 p.f5 p.f6 p.f7 p.f8 p.f9 p.f10 p.f11 p.f12 p.f13 p.f14 q.f0 q.f1 q.f2 q.f3 q.f4 q.f5 q.f6 q.f7 q.f8 q.f9 q.f10 q.f11 q.f12 q.f13 q.f14) (b && (((p.f5 == q.f5) && ((p.f6 == q.f6) && ((p.f7 == q.f7) && ((p.f8 == q.f8) && ((p.f9 == q.f9) && (p.f10 == q.f10)))))) && ((((p.f11.length == q.f11.length) && sameMatchFrameS p.f11 q.f11) && ((p.f12.length == q.f12.length) && sameMatchChoiceS p.f12 q.f12)) && (((p.f13.length == q.f13.length) && sameCaptureS p.f13 q.f13) && ((p.f14.length == q.f14.length) && sameCaptureS p.f14 q.f14))))) := by
  have j := fun c => j1_ev p q g b c
  have no : Ev (fun k => impl_SameMatcher.j1 k b false p.f0 p.f1 p.f2 p.f3 p.f4 p.f5 p.f6 p.f7 p.f8 p.f9 p.f10 p.f11 p.f12 p.f13 p.f14 q.f0 q.f1 q.f2 q.f3 q.f4 q.f5 q.f6 q.f7 q.f8 q.f9 q.f10 q.f11 q.f12 q.f13 q.f14) (b && (false && ((((p.f11.length == q.f11.length) && sameMatchFrameS p.f11 q.f11) && ((p.f12.length == q.f12.length) && sameMatchChoiceS p.f12 q.f12)) && (((p.f13.length == q.f13.length) && sameCaptureS p.f13 q.f13) && ((p.f14.length == q.f14.length) && sameCaptureS p.f14 q.f14))))) := j false
  generalize ((((p.f11.length == q.f11.length) && sameMatchFrameS p.f11 q.f11) && ((p.f12.length == q.f12.length) && sameMatchChoiceS p.f12 q.f12)) && (((p.f13.length == q.f13.length) && sameCaptureS p.f13 q.f13) && ((p.f14.length == q.f14.length) && sameCaptureS p.f14 q.f14))) = T at j no ⊢
  refine Ev.step (f := fun k => if p.f5 = q.f5 then (if p.f6 = q.f6 then (if p.f7 = q.f7 then (if (p.f8 == q.f8) = true then (if p.f9 = q.f9 then (impl_SameMatcher.j1 k b (p.f10 == q.f10) p.f0 p.f1 p.f2 p.f3 p.f4 p.f5 p.f6 p.f7 p.f8 p.f9 p.f10 p.f11 p.f12 p.f13 p.f14 q.f0 q.f1 q.f2 q.f3 q.f4 q.f5 q.f6 q.f7 q.f8 q.f9 q.f10 q.f11 q.f12 q.f13 q.f14) else (impl_SameMatcher.j1 k b false p.f0 p.f1 p.f2 p.f3 p.f4 p.f5 p.f6 p.f7 p.f8 p.f9 p.f10 p.f11 p.f12 p.f13 p.f14 q.f0 q.f1 q.f2 q.f3 q.f4 q.f5 q.f6 q.f7 q.f8 q.f9 q.f10 q.f11 q.f12 q.f13 q.f14)) else (impl_SameMatcher.j1 k b false p.f0 p.f1 p.f2 p.f3 p.f4 p.f5 p.f6 p.f7 p.f8 p.f9 p.f10 p.f11 p.f12 p.f13 p.f14 q.f0 q.f1 q.f2 q.f3 q.f4 q.f5 q.f6 q.f7 q.f8 q.f9 q.f10 q.f11 q.f12 q.f13 q.f14)) else (impl_SameMatcher.j1 k b false p.f0 p.f1 p.f2 p.f3 p.f4 p.f5 p.f6 p.f7 p.f8 p.f9 p.f10 p.f11 p.f12 p.f13 p.f14 q.f0 q.f1 q.f2 q.f3 q.f4 q.f5 q.f6 q.f7 q.f8 q.f9 q.f10 q.f11 q.f12 q.f13 q.f14)) else (impl_SameMatcher.j1 k b false p.f0 p.f1 p.f2 p.f3 p.f4 p.f5 p.f6 p.f7 p.f8 p.f9 p.f10 p.f11 p.f12 p.f13 p.f14 q.f0 q.f1 q.f2 q.f3 q.f4 q.f5 q.f6 q.f7 q.f8 q.f9 q.f10 q.f11 q.f12 q.f13 q.f14)) else (impl_SameMatcher.j1 k b false p.f0 p.f1 p.f2 p.f3 p.f4 p.f5 p.f6 p.f7 p.f8 p.f9 p.f10 p.f11 p.f12 p.f13 p.f14 q.f0 q.f1 q.f2 q.f3 q.f4 q.f5 q.f6 q.f7 q.f8 q.f9 q.f10 q.f11 q.f12 q.f13 q.f14)) (fun k => by simp only [impl_SameMatcher.j0]) ?_
  by_cases h5 : p.f5 = q.f5
  rotate_left
  · rw [beq_eq_false_iff_ne.mpr h5]
    refine Ev.congr (fun k => by rw [if_neg h5]) ?_
    simpa using no
  rw [beq_iff_eq.mpr h5]
  refine Ev.congr (fun k => by rw [if_pos h5]) ?_
  by_cases h6 : p.f6 = q.f6
  rotate_left
  · rw [beq_eq_false_iff_ne.mpr h6]
    refine Ev.congr (fun k => by rw [if_neg h6]) ?_
    simpa using no
  rw [beq_iff_eq.mpr h6]
  refine Ev.congr (fun k => by rw [if_pos h6]) ?_
  by_cases h7 : p.f7 = q.f7
  rotate_left
  · rw [beq_eq_false_iff_ne.mpr h7]
    refine Ev.congr (fun k => by rw [if_neg h7]) ?_
    simpa using no
  rw [beq_iff_eq.mpr h7]
  refine Ev.congr (fun k => by rw [if_pos h7]) ?_
  by_cases h8 : p.f8 = q.f8
  rotate_left
  · rw [beq_eq_false_iff_ne.mpr h8]
    refine Ev.congr (fun k => by rw [if_neg (by simp)]) ?_
    simpa using no
  rw [beq_iff_eq.mpr h8]
  refine Ev.congr (fun k => by rw [if_pos rfl]) ?_
  by_cases h9 : p.f9 = q.f9
  rotate_left
  · rw [beq_eq_false_iff_ne.mpr h9]
    refine Ev.congr (fun k => by rw [if_neg h9]) ?_
    simpa using no
  rw [beq_iff_eq.mpr h9]
  refine Ev.congr (fun k => by rw [if_pos h9]) ?_
  simp only [Bool.true_and]
  exact j _
theorem implS_ev (p q : S60) (g : fineMatcher p) : Ev (fun k => implO k p q) (sameMatcher p q) := by
  have j := fun b => j0_ev p q g b
  unfold implO impl_SameMatcher.f sameMatcher
  generalize (((p.f5 == q.f5) && ((p.f6 == q.f6) && ((p.f7 == q.f7) && ((p.f8 == q.f8) && ((p.f9 == q.f9) && (p.f10 == q.f10)))))) && ((((p.f11.length == q.f11.length) && sameMatchFrameS p.f11 q.f11) && ((p.f12.length == q.f12.length) && sameMatchChoiceS p.f12 q.f12)) && (((p.f13.length == q.f13.length) && sameCaptureS p.f13 q.f13) && ((p.f14.length == q.f14.length) && sameCaptureS p.f14 q.f14)))) = T at j ⊢
  have no : Ev (fun k => impl_SameMatcher.j0 k false p.f0 p.f1 p.f2 p.f3 p.f4 p.f5 p.f6 p.f7 p.f8 p.f9 p.f10 p.f11 p.f12 p.f13 p.f14 q.f0 q.f1 q.f2 q.f3 q.f4 q.f5 q.f6 q.f7 q.f8 q.f9 q.f10 q.f11 q.f12 q.f13 q.f14) (false && T) := j false
  by_cases h0 : p.f0 = q.f0
  rotate_left
  · rw [beq_eq_false_iff_ne.mpr h0]
    refine Ev.congr (fun k => by rw [if_neg h0]) ?_
    simpa using no
  rw [beq_iff_eq.mpr h0]
  refine Ev.congr (fun k => by rw [if_pos h0]) ?_
  by_cases h1 : p.f1 = q.f1
  rotate_left
  · rw [beq_eq_false_iff_ne.mpr h1]
    refine Ev.congr (fun k => by rw [if_neg h1]) ?_
    simpa using no
  rw [beq_iff_eq.mpr h1]
  refine Ev.congr (fun k => by rw [if_pos h1]) ?_
  by_cases h2 : p.f2.toList = q.f2.toList
  rotate_left
  · rw [beq_eq_false_iff_ne.mpr h2]
    refine Ev.congr (fun k => by rw [if_neg h2]) ?_
    simpa using no
  rw [beq_iff_eq.mpr h2]
  refine Ev.congr (fun k => by rw [if_pos h2]) ?_
  by_cases h3 : p.f3 = q.f3
  rotate_left
  · rw [beq_eq_false_iff_ne.mpr h3]
    refine Ev.congr (fun k => by rw [if_neg (by simp)]) ?_
    simpa using no
  rw [beq_iff_eq.mpr h3]
  refine Ev.congr (fun k => by rw [if_pos rfl]) ?_
  simp only [Bool.true_and]
  exact j _
theorem sz_ok (x : S53) (g : G53 x) (left : Int) (h0 : 0 ≤ left) (h1 : left ≤ 1048576) : ∃ r, Ev (fun k => szO k x left) r ∧ (r < 0 ∨ (0 ≤ r ∧ r ≤ left ∧ smallMatcher x)) := szMatcher_ev x g left h0 h1
theorem to_ok (x : S53) (_ : G53 x) (hs : smallMatcher x) : Ev (fun k => toO k x) (convMatcher x) := ev_map _ (toMatcher_ev x hs)
end SameMatcher
open SameMatcher in
theorem FnExactSameMatcher : laws_FnExactSameMatcher.Pure := by
  intro x y g gy
  apply Ev.rounds
  unfold laws_FnExactSameMatcher.f
  obtain ⟨r, e, c | ⟨p, q, sm⟩⟩ := sz_ok x g 1048576 (by omega) (by omega)
  · exact Ev.bind e (Ev.congr (f := fun _ => some true) (fun k => by rw [if_pos c]) (Ev.now true))
  refine Ev.bind e (Ev.congr (fun k => by rw [if_neg (show ¬ r < 0 by omega)]) ?_)
  obtain ⟨r2, e2, c2 | ⟨p2, q2, sm2⟩⟩ := sz_ok y gy r (by omega) (by omega)
  · exact Ev.bind e2 (Ev.congr (f := fun _ => some true) (fun k => by rw [if_pos c2]) (Ev.now true))
  refine Ev.bind e2 (Ev.congr (fun k => by rw [if_neg (show ¬ r2 < 0 by omega)]) ?_)
  have t := to_ok x g sm
  have t2 := to_ok y gy sm2
  have fx := fineMatcher_conv x sm
  have fy := fineMatcher_conv y sm2
  refine Ev.bind t (Ev.bind t2 (Ev.bind (specS_ev _ _ fx) (Ev.bind t (Ev.bind t2 (Ev.bind (implS_ev _ _ fx) (Ev.congr (fun k => by rw [if_pos rfl]) ?_))))))
  refine Ev.bind t (Ev.bind (a := true) (eqMatcher_ev _ fx) (Ev.congr (fun k => by rw [if_pos rfl]) ?_))
  refine Ev.bind t2 (Ev.bind (a := true) (eqMatcher_ev _ fy) ?_)
  exact Ev.congr (f := fun _ => some true) (fun k => by rw [if_pos rfl]) (Ev.now true)
end Go.Proofs.Ytocfepcgpelhdaa.Pure
