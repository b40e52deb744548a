/- FnExactSameMatch answers true for every two matches: the program's SameMatch (slices.Equal over the captures) and the reference's (a loop of its own) agree, and the arguments read as before. Conditions: none beyond the statement's own. -/
import Derived.Test.YtacdhebkdfojiaaPFnExactSameMatchx4
namespace Go.Proofs.Ytacdhebkdfojiaa.Pure
open Go.RowKit Go.Proofs.Ytacdhebkdfojiaa.PFnExactSameMatch Go.Proofs.YtacdhebkdfojiaaW.PrintWords Go.Proofs.YtacdhebkdfojiaaW.PrintLast
namespace SameMatch
-- printed by wip/gen/conv.py =Capture Match!
theorem ev_ex {α β : Type} {E : Nat → Option α} {R : Nat → α → Option β} {Q : β → Prop} {a : α} (h : Ev E a) (h2 : ∃ r, Ev (fun k => R k a) r ∧ Q r) : ∃ r, Ev (fun k => (E k).bind (R k)) r ∧ Q r := by
  obtain ⟨r, h3, h4⟩ := h2
  exact ⟨r, Ev.bind h h3, h4⟩
theorem drop_at {α : Type} (l : List α) (i : Nat) (x : α) (s : List α) (h : l.drop i = x :: s) : i < l.length ∧ l[i]? = some x ∧ l.drop (i + 1) = s := by
  have h1 : i < l.length := by
    rcases Nat.lt_or_ge i l.length with h2 | h2
    · exact h2
    · rw [List.drop_eq_nil_of_le h2] at h
      cases h
  rw [List.drop_eq_getElem_cons h1] at h
  injection h with h2 h3
  exact ⟨h1, by rw [List.getElem?_eq_getElem h1, h2], h3⟩
theorem drop_end {α : Type} (l : List α) (i : Nat) (h : l.drop i = []) (hi : i ≤ l.length) : i = l.length := by
  have := congrArg List.length h
  simp at this
  omega
theorem wrapl (i n : Nat) (h : i < n) (hn : n ≤ 9223372036854775807) : wrap64 ((i : Int) + 1) = ((i + 1 : Nat) : Int) := by unfold wrap64; omega
def neCapture (y z : S82) : Bool := (!((y.f0.toList) == (z.f0.toList)) || (!((y.f1.toList) == (z.f1.toList)) || (!((y.f2) == (z.f2)) || (!((y.f3) == (z.f3))))))
def sameCaptureS : List S82 → List S82 → Bool
  | [], _ => true
  | _ :: _, [] => true
  | y :: s, z :: t => !neCapture y z && sameCaptureS s t
def convCapture (x : S103) : S82 := ⟨x.f0, x.f1, x.f2, x.f3⟩
theorem szCapture_ev (x : S103) (g : G103 x) (left : Int) (hl0 : 0 ≤ left) (hl1 : left ≤ 1048576) : ∃ r, Ev (fun _ => laws_szCapture.f x.f0 x.f1 x.f2 x.f3 left) r ∧ (r < 0 ∨ (0 ≤ r ∧ r ≤ left)) := by
  obtain ⟨h0, h1, h2, h3⟩ := g
  unfold laws_szCapture.f
  have w0 : wrap64 (left - (x.f0.size : Int)) = left - (x.f0.size : Int) := by unfold wrap64; omega
  simp only [w0]
  by_cases c0 : left - (x.f0.size : Int) < 0
  · simp only [if_pos c0]
    exact ⟨-1, Ev.now _, Or.inl (by omega)⟩
  simp only [if_neg c0]
  have w1 : wrap64 (left - (x.f0.size : Int) - (x.f1.size : Int)) = left - (x.f0.size : Int) - (x.f1.size : Int) := by unfold wrap64; omega
  simp only [w1]
  by_cases c1 : left - (x.f0.size : Int) - (x.f1.size : Int) < 0
  · simp only [if_pos c1]
    exact ⟨-1, Ev.now _, Or.inl (by omega)⟩
  simp only [if_neg c1]
  exact ⟨_, Ev.now _, Or.inr ⟨by omega, by omega⟩⟩
theorem toCapture_ev (x : S103) : Ev (fun _ => laws_toCapture.f x.f0 x.f1 x.f2 x.f3) ((convCapture x).f0, (convCapture x).f1, (convCapture x).f2, (convCapture x).f3) := by
  unfold laws_toCapture.f
  exact Ev.now _
theorem eqCapture_ev (x : S82) : Ev (fun _ => laws_eqCapture.f x.f0 x.f1 x.f2 x.f3 x.f0 x.f1 x.f2 x.f3) true := by
  unfold laws_eqCapture.f
  try simp only [if_true]
  exact Ev.now _
theorem rdaCapture (l : List S103) (i : Nat) (x : S103) (h : l[i]? = some x) : rd_T103 l (i : Int) = x := by
  unfold rd_T103
  rw [List.getD_eq_getElem?_getD, Int.toNat_natCast, h]
  rfl
theorem rdbCapture (l : List S82) (i : Nat) (x : S82) (h : l[i]? = some x) : rd_T82 l (i : Int) = x := by
  unfold rd_T82
  rw [List.getD_eq_getElem?_getD, Int.toNat_natCast, h]
  rfl
theorem szCaptureS_loop (l : List S103) (hl : l.length ≤ 9223372036854775807) (s : List S103) : ∀ (i : Nat) (left : Int), i ≤ l.length → l.drop i = s → (∀ y, y ∈ s → G103 y) → 0 ≤ left → left ≤ 1048576 →
    ∃ r, Ev (fun k => laws_szCaptureS.l0 k l left (i : Int)) r ∧ (r < 0 ∨ (0 ≤ r ∧ r ≤ left)) := by
  induction s with
  | nil =>
    intro i left hi hd _ h0 h1
    have := drop_end l i hd hi
    refine ⟨left, Ev.step (f := fun _ => some left) (fun k => ?_) (Ev.now _), Or.inr ⟨h0, by omega⟩⟩
    simp only [laws_szCaptureS.l0]
    rw [if_neg (by omega)]
  | cons y s ih =>
    intro i left hi hd hy h0 h1
    obtain ⟨hlt, hx, hd'⟩ := drop_at l i y s hd
    have hrd := rdaCapture l i y hx
    obtain ⟨r1, e1, c1 | ⟨p1, q1⟩⟩ := szCapture_ev y (hy y List.mem_cons_self) left h0 h1
    · refine ⟨-1, Ev.step (f := fun k => (laws_szCapture.f y.f0 y.f1 y.f2 y.f3 left).bind fun t => if t < 0 then some (-1) else laws_szCaptureS.l0 k l t ((i + 1 : Nat) : Int)) (fun k => ?_) (Ev.bind e1 (Ev.congr (f := fun _ => some (-1)) (fun k => by rw [if_pos c1]) (Ev.now _))), Or.inl (by omega)⟩
      simp only [laws_szCaptureS.l0]
      rw [if_pos (by omega), if_pos (by omega), hrd, wrapl i l.length hlt hl]
    · obtain ⟨r, er, q⟩ := ih (i + 1) r1 (by omega) hd' (fun z hz => hy z (List.mem_cons_of_mem _ hz)) (by omega) (by omega)
      refine ⟨r, Ev.step (f := fun k => (laws_szCapture.f y.f0 y.f1 y.f2 y.f3 left).bind fun t => if t < 0 then some (-1) else laws_szCaptureS.l0 k l t ((i + 1 : Nat) : Int)) (fun k => ?_) (Ev.bind e1 (Ev.congr (fun k => by rw [if_neg (by omega)]) er)), ?_⟩
      · simp only [laws_szCaptureS.l0]
        rw [if_pos (by omega), if_pos (by omega), hrd, wrapl i l.length hlt hl]
      · rcases q with q | q
        · exact Or.inl q
        · exact Or.inr ⟨q.1, by omega⟩
theorem szCaptureS_ev (l : List S103) (g : l.length ≤ 9223372036854775807) (gk : ∀ y_, y_ ∈ l → G103 y_) (left : Int) (hl0 : 0 ≤ left) (hl1 : left ≤ 1048576) : ∃ r, Ev (fun k => laws_szCaptureS.f k l left) r ∧ (r < 0 ∨ (0 ≤ r ∧ r ≤ left ∧ l.length ≤ 1048576)) := by
  have w : wrap64 (left - (l.length : Int)) = left - (l.length : Int) := by unfold wrap64; omega
  by_cases c : left - (l.length : Int) < 0
  · refine ⟨-1, Ev.congr (f := fun _ => some (-1)) (fun k => ?_) (Ev.now _), Or.inl (by omega)⟩
    unfold laws_szCaptureS.f
    rw [w, if_pos c]
  · obtain ⟨r, er, q⟩ := szCaptureS_loop l g l 0 (left - (l.length : Int)) (by omega) rfl gk (by omega) (by omega)
    refine ⟨r, Ev.congr (fun k => ?_) er, ?_⟩
    · unfold laws_szCaptureS.f
      rw [w, if_neg c]
      first | done | rfl
    · rcases q with q | q
      · exact Or.inl q
      · exact Or.inr ⟨q.1, by omega, by omega⟩
theorem toCaptureS_loop (l : List S103) (hl : l.length ≤ 1048576) (s : List S103) : ∀ (i : Nat) (out : List S82), i ≤ l.length → l.drop i = s → out.length = l.length → out.take i = (l.map convCapture).take i →
    (∀ y, y ∈ s → Ev (fun _ => laws_toCapture.f y.f0 y.f1 y.f2 y.f3) ((convCapture y).f0, (convCapture y).f1, (convCapture y).f2, (convCapture y).f3)) → Ev (fun k => laws_toCaptureS.l0 k l out (i : Int)) (l.map convCapture) := by
  induction s with
  | nil =>
    intro i out hi hd ho ht _
    have hi2 := drop_end l i hd hi
    have e : out = l.map convCapture := by
      rw [List.take_of_length_le (by omega), List.take_of_length_le (by rw [List.length_map]; omega)] at ht
      exact ht
    refine Ev.step (f := fun _ => some out) (fun k => ?_) (e ▸ Ev.now out)
    simp only [laws_toCaptureS.l0]
    rw [if_neg (by omega)]
  | cons y s ih =>
    intro i out hi hd ho ht hy
    obtain ⟨hlt, hx, hd'⟩ := drop_at l i y s hd
    have hrd := rdaCapture l i y hx
    have ey := hy y List.mem_cons_self
    have hly : (l.map convCapture)[i]? = some (convCapture y) := by rw [List.getElem?_map, hx]; rfl
    have r := ih (i + 1) (out.set i (convCapture y)) (by omega) hd' (by rw [List.length_set]; exact ho) (by
      rw [List.take_add_one, List.take_add_one, hly, List.take_set_of_le (Nat.le_refl _), ht, List.getElem?_set_self (by omega)]) (fun z hz => hy z (List.mem_cons_of_mem _ hz))
    have r2 : Ev (fun k => (laws_toCapture.f y.f0 y.f1 y.f2 y.f3).bind fun b => if (i : Int) < (out.length : Int) then laws_toCaptureS.l0 k l (out.set ((i : Int) : Int).toNat (⟨b.1, b.2.1, b.2.2.1, b.2.2.2⟩ : S82)) ((i + 1 : Nat) : Int) else none) (l.map convCapture) := by
      refine Ev.bind ey ?_
      refine Ev.congr (f := fun k => laws_toCaptureS.l0 k l (out.set i (convCapture y)) ((i + 1 : Nat) : Int)) (fun k => ?_) r
      rw [if_pos (by omega), Int.toNat_natCast]
      first | done | rfl
    refine Ev.step (fun k => ?_) r2
    simp only [laws_toCaptureS.l0]
    rw [if_pos (by omega), if_pos (by omega), hrd, wrapl i l.length hlt (by omega)]
    first | done | rfl
theorem toCaptureS_ev (l : List S103) (g : l.length ≤ 1048576) : Ev (fun k => laws_toCaptureS.f k l) (l.map convCapture) := by
  refine Ev.congr (f := fun k => laws_toCaptureS.l0 k l (List.replicate l.length z82) ((0 : Nat) : Int)) (fun k => ?_) ?_
  · unfold laws_toCaptureS.f
    rw [if_pos (by omega), if_pos (by omega), Int.toNat_natCast]
    first | done | rfl
  · exact toCaptureS_loop l (by omega) l 0 _ (by omega) rfl (by simp) (by simp) (fun y hy => toCapture_ev y)
theorem eqCaptureS_loop (l : List S82) (hl : l.length ≤ 9223372036854775807) (s : List S82) : ∀ (i : Nat), i ≤ l.length → l.drop i = s →
    (∀ y, y ∈ s → Ev (fun _ => laws_eqCapture.f y.f0 y.f1 y.f2 y.f3 y.f0 y.f1 y.f2 y.f3) true) → Ev (fun k => laws_eqCaptureS.l0 k l l (i : Int)) true := by
  induction s with
  | nil =>
    intro i hi hd _
    have hi2 := drop_end l i hd hi
    refine Ev.step (f := fun _ => some true) (fun k => ?_) (Ev.now true)
    simp only [laws_eqCaptureS.l0]
    rw [if_neg (by omega)]
  | cons y s ih =>
    intro i hi hd hy
    obtain ⟨hlt, hx, hd'⟩ := drop_at l i y s hd
    have hrd := rdbCapture l i y hx
    refine Ev.step (f := fun k => (laws_eqCapture.f y.f0 y.f1 y.f2 y.f3 y.f0 y.f1 y.f2 y.f3).bind fun t => if t = true then laws_eqCaptureS.l0 k l l ((i + 1 : Nat) : Int) else some false) (fun k => ?_) ?_
    · simp only [laws_eqCaptureS.l0]
      rw [if_pos (by omega), if_pos (by omega), if_pos (by omega), hrd, wrapl i l.length hlt hl]
    · refine Ev.bind (hy y List.mem_cons_self) ?_
      refine Ev.congr (f := fun k => laws_eqCaptureS.l0 k l l ((i + 1 : Nat) : Int)) (fun k => by rw [if_pos rfl]) ?_
      exact ih (i + 1) (by omega) hd' (fun z hz => hy z (List.mem_cons_of_mem _ hz))
theorem eqCaptureS_ev (l : List S82) (g : l.length ≤ 9223372036854775807) : Ev (fun k => laws_eqCaptureS.f k l l) true := by
  refine Ev.congr (f := fun k => laws_eqCaptureS.l0 k l l ((0 : Nat) : Int)) (fun k => ?_) ?_
  · unfold laws_eqCaptureS.f
    rw [if_pos rfl]
    first | done | rfl
  · exact eqCaptureS_loop l g l 0 (by omega) rfl (fun y hy => eqCapture_ev y)
theorem fineCaptureS_conv (l : List S103) (g : l.length ≤ 1048576) : (l.map convCapture).length ≤ 9223372036854775807 := by
  rw [List.length_map]
  omega
def smallMatch (x : S30) : Prop := (x.f2.length ≤ 1048576)
theorem szMatch_ev (x : S30) (g : G30 x) (left : Int) (hl0 : 0 ≤ left) (hl1 : left ≤ 1048576) : ∃ r, Ev (fun k => laws_szMatch.f k x.f0 x.f1 x.f2 left) r ∧ (r < 0 ∨ (0 ≤ r ∧ r ≤ left ∧ smallMatch x)) := by
  obtain ⟨h0, h1, h2, h2k⟩ := g
  unfold laws_szMatch.f
  obtain ⟨r0, e0, c0 | ⟨p0, q0, s0⟩⟩ := szCaptureS_ev x.f2 h2 h2k (left) (by omega) (by omega)
  · refine ev_ex e0 ?_
    simp only [if_pos c0]
    exact ⟨-1, Ev.now _, Or.inl (by omega)⟩
  refine ev_ex e0 ?_
  simp only [if_neg (show ¬ r0 < 0 by omega)]
  exact ⟨_, Ev.now _, Or.inr ⟨by omega, by omega, s0⟩⟩
theorem toMatch_ev (x : S30) (g : smallMatch x) : Ev (fun k => laws_toMatch.f k x.f0 x.f1 x.f2) (x.f0, x.f1, (x.f2.map convCapture)) := by
  unfold laws_toMatch.f
  refine Ev.bind (toCaptureS_ev x.f2 (g)) ?_
  exact Ev.now _
theorem eqMatch_ev (x : S30) (g : smallMatch x) : Ev (fun k => laws_eqMatch.f k x.f0 x.f1 (x.f2.map convCapture) x.f0 x.f1 (x.f2.map convCapture)) true := by
  unfold laws_eqMatch.f
  try simp only [if_true]
  refine Ev.bind (eqCaptureS_ev (x.f2.map convCapture) (fineCaptureS_conv x.f2 (g))) ?_
  try simp only [if_true]
  exact Ev.now _
-- SameMatch of the program and of the reference (behind CMatch or CMatchS)
-- spec_l12SameCaptures: equality of two rows of Capture by '!=' (X: the length, where it is handed on)
theorem spec_l12SameCaptures_loop (l m : List S82) (hl : l.length ≤ 9223372036854775807) (hm : l.length = m.length) (s : List S82) : ∀ (t : List S82) (i : Nat), i ≤ l.length → l.drop i = s → m.drop i = t →
    Ev (fun k => spec_l12SameCaptures.l0 k l m  (i : Int)) (sameCaptureS s t) := by
  induction s with
  | nil =>
    intro t i hi hd _
    have hi2 := drop_end l i hd hi
    refine Ev.step (f := fun _ => some true) (fun k => ?_) (by rw [sameCaptureS]; exact Ev.now true)
    simp only [spec_l12SameCaptures.l0]
    rw [if_neg (by omega)]
  | cons y s ih =>
    intro t i hi hd ht
    obtain ⟨hlt, hx, hd'⟩ := drop_at l i y s hd
    have hrd := rdbCapture l i y hx
    cases t with
    | nil =>
      have := drop_end m i ht (by omega)
      omega
    | cons z t =>
      obtain ⟨_, hx2, ht'⟩ := drop_at m i z t ht
      have hrd2 := rdbCapture m i z hx2
      have w := wrapl i l.length hlt hl
      rw [sameCaptureS]
      cases h : neCapture y z with
      | true =>
        refine Ev.step (f := fun _ => some false) (fun k => ?_) (Ev.now false)
        simp only [spec_l12SameCaptures.l0]
        rw [if_pos (by omega), if_pos (by omega), if_pos (by omega)]
        first
          | rw [if_pos (by omega), hrd, hrd2]; exact if_pos h
          | rw [hrd, hrd2]; exact if_pos h
      | false =>
        have h2 : ¬ neCapture y z = true := by rw [h]; simp
        refine Ev.step (f := fun k => spec_l12SameCaptures.l0 k l m  ((i + 1 : Nat) : Int)) (fun k => ?_) (ih t (i + 1) (by omega) hd' ht')
        simp only [spec_l12SameCaptures.l0]
        rw [if_pos (by omega), if_pos (by omega), if_pos (by omega)]
        first
          | rw [if_pos (by omega), hrd, hrd2, w]; exact if_neg h2
          | rw [hrd, hrd2, w]; exact if_neg h2
theorem spec_l12SameCaptures_ev (l m : List S82) (hl : l.length ≤ 9223372036854775807) : Ev (fun k => spec_l12SameCaptures.f k l m) ((l.length == m.length) && sameCaptureS l m) := by
  by_cases h : l.length = m.length
  · rw [beq_iff_eq.mpr h, Bool.true_and]
    refine Ev.congr (fun k => ?_) (spec_l12SameCaptures_loop l m hl h l m 0 (by omega) rfl rfl)
    unfold spec_l12SameCaptures.f
    rw [if_pos (by omega)]
    rfl
  · rw [beq_eq_false_iff_ne.mpr h, Bool.false_and]
    refine Ev.congr (f := fun _ => some false) (fun k => ?_) (Ev.now false)
    unfold spec_l12SameCaptures.f
    rw [if_neg (by omega)]
-- impl_Capture: equality of two rows of Capture by '!=' (X: the length, where it is handed on)
theorem impl_Capture_loop (l m : List S82) (hl : l.length ≤ 9223372036854775807) (hm : l.length = m.length) (s : List S82) : ∀ (t : List S82) (i : Nat), i ≤ l.length → l.drop i = s → m.drop i = t →
    Ev (fun k => impl_Capture.l0 k l m (l.length:Int) (i : Int)) (sameCaptureS s t) := by
  induction s with
  | nil =>
    intro t i hi hd _
    have hi2 := drop_end l i hd hi
    refine Ev.step (f := fun _ => some true) (fun k => ?_) (by rw [sameCaptureS]; exact Ev.now true)
    simp only [impl_Capture.l0]
    rw [if_neg (by omega)]
  | cons y s ih =>
    intro t i hi hd ht
    obtain ⟨hlt, hx, hd'⟩ := drop_at l i y s hd
    have hrd := rdbCapture l i y hx
    cases t with
    | nil =>
      have := drop_end m i ht (by omega)
      omega
    | cons z t =>
      obtain ⟨_, hx2, ht'⟩ := drop_at m i z t ht
      have hrd2 := rdbCapture m i z hx2
      have w := wrapl i l.length hlt hl
      rw [sameCaptureS]
      cases h : neCapture y z with
      | true =>
        refine Ev.step (f := fun _ => some false) (fun k => ?_) (Ev.now false)
        simp only [impl_Capture.l0]
        rw [if_pos (by omega), if_pos (by omega), if_pos (by omega)]
        first
          | rw [if_pos (by omega), hrd, hrd2]; exact if_pos h
          | rw [hrd, hrd2]; exact if_pos h
      | false =>
        have h2 : ¬ neCapture y z = true := by rw [h]; simp
        refine Ev.step (f := fun k => impl_Capture.l0 k l m (l.length:Int) ((i + 1 : Nat) : Int)) (fun k => ?_) (ih t (i + 1) (by omega) hd' ht')
        simp only [impl_Capture.l0]
        rw [if_pos (by omega), if_pos (by omega), if_pos (by omega)]
        first
          | rw [if_pos (by omega), hrd, hrd2, w]; exact if_neg h2
          | rw [hrd, hrd2, w]; exact if_neg h2
theorem impl_Capture_ev (l m : List S82) (hl : l.length ≤ 9223372036854775807) : Ev (fun k => impl_Capture.f k l m) ((l.length == m.length) && sameCaptureS l m) := by
  by_cases h : l.length = m.length
  · rw [beq_iff_eq.mpr h, Bool.true_and]
    refine Ev.congr (fun k => ?_) (impl_Capture_loop l m hl h l m 0 (by omega) rfl rfl)
    unfold impl_Capture.f
    rw [if_pos (by omega)]
    rfl
  · rw [beq_eq_false_iff_ne.mpr h, Bool.false_and]
    refine Ev.congr (f := fun _ => some false) (fun k => ?_) (Ev.now false)
    unfold impl_Capture.f
    rw [if_neg (by omega)]
def sameM (a b : Int) (l : List S82) (c d : Int) (m : List S82) : Bool := if a = c then (if b = d then ((l.length == m.length) && sameCaptureS l m) else false) else false
theorem spec_sameM (a b : Int) (l : List S82) (c d : Int) (m : List S82) (hl : l.length ≤ 9223372036854775807) : Ev (fun k => spec_SameMatch.f k a b l c d m) (sameM a b l c d m) := by
  unfold spec_SameMatch.f sameM
  by_cases h0 : a = c
  · by_cases h1 : b = d
    · simp only [if_pos h0, if_pos h1]
      exact Ev.bind (spec_l12SameCaptures_ev l m hl) (Ev.now _)
    · simp only [if_pos h0, if_neg h1]
      exact Ev.now _
  · simp only [if_neg h0]
    exact Ev.now _
theorem impl_sameM (a b : Int) (l : List S82) (c d : Int) (m : List S82) (hl : l.length ≤ 9223372036854775807) : Ev (fun k => impl_SameMatch.f k a b l c d m) (sameM a b l c d m) := by
  unfold impl_SameMatch.f sameM
  by_cases h0 : a = c
  · by_cases h1 : b = d
    · simp only [if_pos h0, if_pos h1]
      exact Ev.bind (impl_Capture_ev l m hl) (Ev.now _)
    · simp only [if_pos h0, if_neg h1]
      exact Ev.now _
  · simp only [if_neg h0]
    exact Ev.now _
end SameMatch
open SameMatch in
theorem FnExactSameMatch : laws_FnExactSameMatch.Pure := by
  intro x y g gy
  apply Ev.rounds
  unfold laws_FnExactSameMatch.f
  obtain ⟨r, e, c | ⟨p, q, sm⟩⟩ := szMatch_ev x g 1048576 (by omega) (by omega)
  · refine Ev.bind e ?_
    simp only [if_pos c]
    exact Ev.now true
  refine Ev.bind e ?_
  simp only [if_neg (show ¬ r < 0 by omega)]
  obtain ⟨r2, e2, c2 | ⟨p2, q2, sm2⟩⟩ := szMatch_ev y gy r (by omega) (by omega)
  · refine Ev.bind e2 ?_
    simp only [if_pos c2]
    exact Ev.now true
  refine Ev.bind e2 ?_
  simp only [if_neg (show ¬ r2 < 0 by omega)]
  have t := toMatch_ev x sm
  have t2 := toMatch_ev y sm2
  have hf := fineCaptureS_conv x.f2 sm
  refine Ev.bind t (Ev.bind t2 (Ev.bind (spec_sameM _ _ _ _ _ _ hf) (Ev.bind t (Ev.bind t2 (Ev.bind (impl_sameM _ _ _ _ _ _ hf) ?_)))))
  refine Ev.congr (f := _) (fun k => by rw [if_neg (by simp)]) ?_
  refine Ev.bind t (Ev.bind (eqMatch_ev x sm) ?_)
  refine Ev.congr (f := _) (fun k => by rw [if_pos rfl]) ?_
  refine Ev.bind t2 (Ev.bind (eqMatch_ev y sm2) ?_)
  exact Ev.congr (f := fun _ => some true) (fun k => by rw [if_pos rfl]) (Ev.now true)
end Go.Proofs.Ytacdhebkdfojiaa.Pure
