/- FnExactSameMatches answers true for every two lists of matches: the program's SameMatches (slices.EqualFunc) and the reference's (a loop) agree, and the arguments read as before. Conditions: none beyond the statement's own. -/
import Derived.Test.YtacdhebkdfojiaaPFnExactSameMatchesx6
namespace Go.Proofs.Ytacdhebkdfojiaa.Pure
open Go.RowKit Go.Proofs.Ytacdhebkdfojiaa.PFnExactSameMatches Go.Proofs.YtacdhebkdfojiaaW.PrintWords Go.Proofs.YtacdhebkdfojiaaW.PrintLast
namespace SameMatches
-- printed by wip/gen/conv.py =Capture []Match
theorem ev_ex {α β : Type} {E : Nat → Option α} {R : Nat → α → Option β} {Q : β → Prop} {a : α} (h : Ev E a) (h2 : ∃ r, Ev (fun k => R k a) r ∧ Q r) : ∃ r, Ev (fun k => (E k).bind (R k)) r ∧ Q r := by
  obtain ⟨r, h3, h4⟩ := h2
  exact ⟨r, Ev.bind h h3, h4⟩
theorem drop_at {α : Type} (l : List α) (i : Nat) (x : α) (s : List α) (h : l.drop i = x :: s) : i < l.length ∧ l[i]? = some x ∧ l.drop (i + 1) = s := by
  have h1 : i < l.length := by
    rcases Nat.lt_or_ge i l.length with h2 | h2
    · exact h2
    · rw [List.drop_eq_nil_of_le h2] at h
      cases h
  rw [List.drop_eq_getElem_cons h1] at h
  injection h with h2 h3
  exact ⟨h1, by rw [List.getElem?_eq_getElem h1, h2], h3⟩
theorem drop_end {α : Type} (l : List α) (i : Nat) (h : l.drop i = []) (hi : i ≤ l.length) : i = l.length := by
  have := congrArg List.length h
  simp at this
  omega
theorem wrapl (i n : Nat) (h : i < n) (hn : n ≤ 9223372036854775807) : wrap64 ((i : Int) + 1) = ((i + 1 : Nat) : Int) := by unfold wrap64; omega
def neCapture (y z : S82) : Bool := (!((y.f0.toList) == (z.f0.toList)) || (!((y.f1.toList) == (z.f1.toList)) || (!((y.f2) == (z.f2)) || (!((y.f3) == (z.f3))))))
def sameCaptureS : List S82 → List S82 → Bool
  | [], _ => true
  | _ :: _, [] => true
  | y :: s, z :: t => !neCapture y z && sameCaptureS s t
def convCapture (x : S103) : S82 := ⟨x.f0, x.f1, x.f2, x.f3⟩
theorem szCapture_ev (x : S103) (g : G103 x) (left : Int) (hl0 : 0 ≤ left) (hl1 : left ≤ 1048576) : ∃ r, Ev (fun _ => laws_szCapture.f x.f0 x.f1 x.f2 x.f3 left) r ∧ (r < 0 ∨ (0 ≤ r ∧ r ≤ left)) := by
  obtain ⟨h0, h1, h2, h3⟩ := g
  unfold laws_szCapture.f
  have w0 : wrap64 (left - (x.f0.size : Int)) = left - (x.f0.size : Int) := by unfold wrap64; omega
  simp only [w0]
  by_cases c0 : left - (x.f0.size : Int) < 0
  · simp only [if_pos c0]
    exact ⟨-1, Ev.now _, Or.inl (by omega)⟩
  simp only [if_neg c0]
  have w1 : wrap64 (left - (x.f0.size : Int) - (x.f1.size : Int)) = left - (x.f0.size : Int) - (x.f1.size : Int) := by unfold wrap64; omega
  simp only [w1]
  by_cases c1 : left - (x.f0.size : Int) - (x.f1.size : Int) < 0
  · simp only [if_pos c1]
    exact ⟨-1, Ev.now _, Or.inl (by omega)⟩
  simp only [if_neg c1]
  exact ⟨_, Ev.now _, Or.inr ⟨by omega, by omega⟩⟩
theorem toCapture_ev (x : S103) : Ev (fun _ => laws_toCapture.f x.f0 x.f1 x.f2 x.f3) ((convCapture x).f0, (convCapture x).f1, (convCapture x).f2, (convCapture x).f3) := by
  unfold laws_toCapture.f
  exact Ev.now _
theorem eqCapture_ev (x : S82) : Ev (fun _ => laws_eqCapture.f x.f0 x.f1 x.f2 x.f3 x.f0 x.f1 x.f2 x.f3) true := by
  unfold laws_eqCapture.f
  try simp only [if_true]
  exact Ev.now _
theorem rdaCapture (l : List S103) (i : Nat) (x : S103) (h : l[i]? = some x) : rd_T103 l (i : Int) = x := by
  unfold rd_T103
  rw [List.getD_eq_getElem?_getD, Int.toNat_natCast, h]
  rfl
theorem rdbCapture (l : List S82) (i : Nat) (x : S82) (h : l[i]? = some x) : rd_T82 l (i : Int) = x := by
  unfold rd_T82
  rw [List.getD_eq_getElem?_getD, Int.toNat_natCast, h]
  rfl
theorem szCaptureS_loop (l : List S103) (hl : l.length ≤ 9223372036854775807) (s : List S103) : ∀ (i : Nat) (left : Int), i ≤ l.length → l.drop i = s → (∀ y, y ∈ s → G103 y) → 0 ≤ left → left ≤ 1048576 →
    ∃ r, Ev (fun k => laws_szCaptureS.l0 k l left (i : Int)) r ∧ (r < 0 ∨ (0 ≤ r ∧ r ≤ left)) := by
  induction s with
  | nil =>
    intro i left hi hd _ h0 h1
    have := drop_end l i hd hi
    refine ⟨left, Ev.step (f := fun _ => some left) (fun k => ?_) (Ev.now _), Or.inr ⟨h0, by omega⟩⟩
    simp only [laws_szCaptureS.l0]
    rw [if_neg (by omega)]
  | cons y s ih =>
    intro i left hi hd hy h0 h1
    obtain ⟨hlt, hx, hd'⟩ := drop_at l i y s hd
    have hrd := rdaCapture l i y hx
    obtain ⟨r1, e1, c1 | ⟨p1, q1⟩⟩ := szCapture_ev y (hy y List.mem_cons_self) left h0 h1
    · refine ⟨-1, Ev.step (f := fun k => (laws_szCapture.f y.f0 y.f1 y.f2 y.f3 left).bind fun t => if t < 0 then some (-1) else laws_szCaptureS.l0 k l t ((i + 1 : Nat) : Int)) (fun k => ?_) (Ev.bind e1 (Ev.congr (f := fun _ => some (-1)) (fun k => by rw [if_pos c1]) (Ev.now _))), Or.inl (by omega)⟩
      simp only [laws_szCaptureS.l0]
      rw [if_pos (by omega), if_pos (by omega), hrd, wrapl i l.length hlt hl]
    · obtain ⟨r, er, q⟩ := ih (i + 1) r1 (by omega) hd' (fun z hz => hy z (List.mem_cons_of_mem _ hz)) (by omega) (by omega)
      refine ⟨r, Ev.step (f := fun k => (laws_szCapture.f y.f0 y.f1 y.f2 y.f3 left).bind fun t => if t < 0 then some (-1) else laws_szCaptureS.l0 k l t ((i + 1 : Nat) : Int)) (fun k => ?_) (Ev.bind e1 (Ev.congr (fun k => by rw [if_neg (by omega)]) er)), ?_⟩
      · simp only [laws_szCaptureS.l0]
        rw [if_pos (by omega), if_pos (by omega), hrd, wrapl i l.length hlt hl]
      · rcases q with q | q
        · exact Or.inl q
        · exact Or.inr ⟨q.1, by omega⟩
theorem szCaptureS_ev (l : List S103) (g : l.length ≤ 9223372036854775807) (gk : ∀ y_, y_ ∈ l → G103 y_) (left : Int) (hl0 : 0 ≤ left) (hl1 : left ≤ 1048576) : ∃ r, Ev (fun k => laws_szCaptureS.f k l left) r ∧ (r < 0 ∨ (0 ≤ r ∧ r ≤ left ∧ l.length ≤ 1048576)) := by
  have w : wrap64 (left - (l.length : Int)) = left - (l.length : Int) := by unfold wrap64; omega
  by_cases c : left - (l.length : Int) < 0
  · refine ⟨-1, Ev.congr (f := fun _ => some (-1)) (fun k => ?_) (Ev.now _), Or.inl (by omega)⟩
    unfold laws_szCaptureS.f
    rw [w, if_pos c]
  · obtain ⟨r, er, q⟩ := szCaptureS_loop l g l 0 (left - (l.length : Int)) (by omega) rfl gk (by omega) (by omega)
    refine ⟨r, Ev.congr (fun k => ?_) er, ?_⟩
    · unfold laws_szCaptureS.f
      rw [w, if_neg c]
      first | done | rfl
    · rcases q with q | q
      · exact Or.inl q
      · exact Or.inr ⟨q.1, by omega, by omega⟩
theorem toCaptureS_loop (l : List S103) (hl : l.length ≤ 1048576) (s : List S103) : ∀ (i : Nat) (out : List S82), i ≤ l.length → l.drop i = s → out.length = l.length → out.take i = (l.map convCapture).take i →
    (∀ y, y ∈ s → Ev (fun _ => laws_toCapture.f y.f0 y.f1 y.f2 y.f3) ((convCapture y).f0, (convCapture y).f1, (convCapture y).f2, (convCapture y).f3)) → Ev (fun k => laws_toCaptureS.l0 k l out (i : Int)) (l.map convCapture) := by
  induction s with
  | nil =>
    intro i out hi hd ho ht _
    have hi2 := drop_end l i hd hi
    have e : out = l.map convCapture := by
      rw [List.take_of_length_le (by omega), List.take_of_length_le (by rw [List.length_map]; omega)] at ht
      exact ht
    refine Ev.step (f := fun _ => some out) (fun k => ?_) (e ▸ Ev.now out)
    simp only [laws_toCaptureS.l0]
    rw [if_neg (by omega)]
  | cons y s ih =>
    intro i out hi hd ho ht hy
    obtain ⟨hlt, hx, hd'⟩ := drop_at l i y s hd
    have hrd := rdaCapture l i y hx
    have ey := hy y List.mem_cons_self
    have hly : (l.map convCapture)[i]? = some (convCapture y) := by rw [List.getElem?_map, hx]; rfl
    have r := ih (i + 1) (out.set i (convCapture y)) (by omega) hd' (by rw [List.length_set]; exact ho) (by
      rw [List.take_add_one, List.take_add_one, hly, List.take_set_of_le (Nat.le_refl _), ht, List.getElem?_set_self (by omega)]) (fun z hz => hy z (List.mem_cons_of_mem _ hz))
    have r2 : Ev (fun k => (laws_toCapture.f y.f0 y.f1 y.f2 y.f3).bind fun b => if (i : Int) < (out.length : Int) then laws_toCaptureS.l0 k l (out.set ((i : Int) : Int).toNat (⟨b.1, b.2.1, b.2.2.1, b.2.2.2⟩ : S82)) ((i + 1 : Nat) : Int) else none) (l.map convCapture) := by
      refine Ev.bind ey ?_
      refine Ev.congr (f := fun k => laws_toCaptureS.l0 k l (out.set i (convCapture y)) ((i + 1 : Nat) : Int)) (fun k => ?_) r
      rw [if_pos (by omega), Int.toNat_natCast]
      first | done | rfl
    refine Ev.step (fun k => ?_) r2
    simp only [laws_toCaptureS.l0]
    rw [if_pos (by omega), if_pos (by omega), hrd, wrapl i l.length hlt (by omega)]
    first | done | rfl
theorem toCaptureS_ev (l : List S103) (g : l.length ≤ 1048576) : Ev (fun k => laws_toCaptureS.f k l) (l.map convCapture) := by
  refine Ev.congr (f := fun k => laws_toCaptureS.l0 k l (List.replicate l.length z82) ((0 : Nat) : Int)) (fun k => ?_) ?_
  · unfold laws_toCaptureS.f
    rw [if_pos (by omega), if_pos (by omega), Int.toNat_natCast]
    first | done | rfl
  · exact toCaptureS_loop l (by omega) l 0 _ (by omega) rfl (by simp) (by simp) (fun y hy => toCapture_ev y)
theorem eqCaptureS_loop (l : List S82) (hl : l.length ≤ 9223372036854775807) (s : List S82) : ∀ (i : Nat), i ≤ l.length → l.drop i = s →
    (∀ y, y ∈ s → Ev (fun _ => laws_eqCapture.f y.f0 y.f1 y.f2 y.f3 y.f0 y.f1 y.f2 y.f3) true) → Ev (fun k => laws_eqCaptureS.l0 k l l (i : Int)) true := by
  induction s with
  | nil =>
    intro i hi hd _
    have hi2 := drop_end l i hd hi
    refine Ev.step (f := fun _ => some true) (fun k => ?_) (Ev.now true)
    simp only [laws_eqCaptureS.l0]
    rw [if_neg (by omega)]
  | cons y s ih =>
    intro i hi hd hy
    obtain ⟨hlt, hx, hd'⟩ := drop_at l i y s hd
    have hrd := rdbCapture l i y hx
    refine Ev.step (f := fun k => (laws_eqCapture.f y.f0 y.f1 y.f2 y.f3 y.f0 y.f1 y.f2 y.f3).bind fun t => if t = true then laws_eqCaptureS.l0 k l l ((i + 1 : Nat) : Int) else some false) (fun k => ?_) ?_
    · simp only [laws_eqCaptureS.l0]
      rw [if_pos (by omega), if_pos (by omega), if_pos (by omega), hrd, wrapl i l.length hlt hl]
    · refine Ev.bind (hy y List.mem_cons_self) ?_
      refine Ev.congr (f := fun k => laws_eqCaptureS.l0 k l l ((i + 1 : Nat) : Int)) (fun k => by rw [if_pos rfl]) ?_
      exact ih (i + 1) (by omega) hd' (fun z hz => hy z (List.mem_cons_of_mem _ hz))
theorem eqCaptureS_ev (l : List S82) (g : l.length ≤ 9223372036854775807) : Ev (fun k => laws_eqCaptureS.f k l l) true := by
  refine Ev.congr (f := fun k => laws_eqCaptureS.l0 k l l ((0 : Nat) : Int)) (fun k => ?_) ?_
  · unfold laws_eqCaptureS.f
    rw [if_pos rfl]
    first | done | rfl
  · exact eqCaptureS_loop l g l 0 (by omega) rfl (fun y hy => eqCapture_ev y)
theorem fineCaptureS_conv (l : List S103) (g : l.length ≤ 1048576) : (l.map convCapture).length ≤ 9223372036854775807 := by
  rw [List.length_map]
  omega
def smallMatch (x : S30) : Prop := (x.f2.length ≤ 1048576)
def fineMatch (x : S35) : Prop := (x.f2.length ≤ 9223372036854775807)
def convMatch (x : S30) : S35 := ⟨x.f0, x.f1, (x.f2.map convCapture)⟩
theorem szMatch_ev (x : S30) (g : G30 x) (left : Int) (hl0 : 0 ≤ left) (hl1 : left ≤ 1048576) : ∃ r, Ev (fun k => laws_szMatch.f k x.f0 x.f1 x.f2 left) r ∧ (r < 0 ∨ (0 ≤ r ∧ r ≤ left ∧ smallMatch x)) := by
  obtain ⟨h0, h1, h2, h2k⟩ := g
  unfold laws_szMatch.f
  obtain ⟨r0, e0, c0 | ⟨p0, q0, s0⟩⟩ := szCaptureS_ev x.f2 h2 h2k (left) (by omega) (by omega)
  · refine ev_ex e0 ?_
    simp only [if_pos c0]
    exact ⟨-1, Ev.now _, Or.inl (by omega)⟩
  refine ev_ex e0 ?_
  simp only [if_neg (show ¬ r0 < 0 by omega)]
  exact ⟨_, Ev.now _, Or.inr ⟨by omega, by omega, s0⟩⟩
theorem toMatch_ev (x : S30) (g : smallMatch x) : Ev (fun k => laws_toMatch.f k x.f0 x.f1 x.f2) ((convMatch x).f0, (convMatch x).f1, (convMatch x).f2) := by
  unfold laws_toMatch.f
  refine Ev.bind (toCaptureS_ev x.f2 (g)) ?_
  exact Ev.now _
theorem eqMatch_ev (x : S35) (g : fineMatch x) : Ev (fun k => laws_eqMatch.f k x.f0 x.f1 x.f2 x.f0 x.f1 x.f2) true := by
  unfold laws_eqMatch.f
  try simp only [if_true]
  refine Ev.bind (eqCaptureS_ev x.f2 (g)) ?_
  try simp only [if_true]
  exact Ev.now _
theorem fineMatch_conv (x : S30) (g : smallMatch x) : fineMatch (convMatch x) := by
  exact (fineCaptureS_conv x.f2 (g))
theorem rdaMatch (l : List S30) (i : Nat) (x : S30) (h : l[i]? = some x) : rd_T30 l (i : Int) = x := by
  unfold rd_T30
  rw [List.getD_eq_getElem?_getD, Int.toNat_natCast, h]
  rfl
theorem rdbMatch (l : List S35) (i : Nat) (x : S35) (h : l[i]? = some x) : rd_T35 l (i : Int) = x := by
  unfold rd_T35
  rw [List.getD_eq_getElem?_getD, Int.toNat_natCast, h]
  rfl
theorem szMatchS_loop (l : List S30) (hl : l.length ≤ 9223372036854775807) (s : List S30) : ∀ (i : Nat) (left : Int), i ≤ l.length → l.drop i = s → (∀ y, y ∈ s → G30 y) → 0 ≤ left → left ≤ 1048576 →
    ∃ r, Ev (fun k => laws_szMatchS.l0 k l left (i : Int)) r ∧ (r < 0 ∨ (0 ≤ r ∧ r ≤ left ∧ ∀ y, y ∈ s → smallMatch y)) := by
  induction s with
  | nil =>
    intro i left hi hd _ h0 h1
    have := drop_end l i hd hi
    refine ⟨left, Ev.step (f := fun _ => some left) (fun k => ?_) (Ev.now _), Or.inr ⟨h0, by omega, fun y hy => by cases hy⟩⟩
    simp only [laws_szMatchS.l0]
    rw [if_neg (by omega)]
  | cons y s ih =>
    intro i left hi hd hy h0 h1
    obtain ⟨hlt, hx, hd'⟩ := drop_at l i y s hd
    have hrd := rdaMatch l i y hx
    obtain ⟨r1, e1, c1 | ⟨p1, q1, s1⟩⟩ := szMatch_ev y (hy y List.mem_cons_self) left h0 h1
    · refine ⟨-1, Ev.step (f := fun k => (laws_szMatch.f k y.f0 y.f1 y.f2 left).bind fun t => if t < 0 then some (-1) else laws_szMatchS.l0 k l t ((i + 1 : Nat) : Int)) (fun k => ?_) (Ev.bind e1 (Ev.congr (f := fun _ => some (-1)) (fun k => by rw [if_pos c1]) (Ev.now _))), Or.inl (by omega)⟩
      simp only [laws_szMatchS.l0]
      rw [if_pos (by omega), if_pos (by omega), hrd, wrapl i l.length hlt hl]
    · obtain ⟨r, er, q⟩ := ih (i + 1) r1 (by omega) hd' (fun z hz => hy z (List.mem_cons_of_mem _ hz)) (by omega) (by omega)
      refine ⟨r, Ev.step (f := fun k => (laws_szMatch.f k y.f0 y.f1 y.f2 left).bind fun t => if t < 0 then some (-1) else laws_szMatchS.l0 k l t ((i + 1 : Nat) : Int)) (fun k => ?_) (Ev.bind e1 (Ev.congr (fun k => by rw [if_neg (by omega)]) er)), ?_⟩
      · simp only [laws_szMatchS.l0]
        rw [if_pos (by omega), if_pos (by omega), hrd, wrapl i l.length hlt hl]
      · rcases q with q | q
        · exact Or.inl q
        · exact Or.inr ⟨q.1, by omega, fun z hz => by
          rcases List.mem_cons.1 hz with rfl | hz
          · exact s1
          · exact q.2.2 z hz⟩
theorem szMatchS_ev (l : List S30) (g : l.length ≤ 9223372036854775807) (gk : ∀ y_, y_ ∈ l → G30 y_) (left : Int) (hl0 : 0 ≤ left) (hl1 : left ≤ 1048576) : ∃ r, Ev (fun k => laws_szMatchS.f k l left) r ∧ (r < 0 ∨ (0 ≤ r ∧ r ≤ left ∧ l.length ≤ 1048576 ∧ ∀ y, y ∈ l → smallMatch y)) := by
  have w : wrap64 (left - (l.length : Int)) = left - (l.length : Int) := by unfold wrap64; omega
  by_cases c : left - (l.length : Int) < 0
  · refine ⟨-1, Ev.congr (f := fun _ => some (-1)) (fun k => ?_) (Ev.now _), Or.inl (by omega)⟩
    unfold laws_szMatchS.f
    rw [w, if_pos c]
  · obtain ⟨r, er, q⟩ := szMatchS_loop l g l 0 (left - (l.length : Int)) (by omega) rfl gk (by omega) (by omega)
    refine ⟨r, Ev.congr (fun k => ?_) er, ?_⟩
    · unfold laws_szMatchS.f
      rw [w, if_neg c]
      first | done | rfl
    · rcases q with q | q
      · exact Or.inl q
      · exact Or.inr ⟨q.1, by omega, by omega, q.2.2⟩
theorem toMatchS_loop (l : List S30) (hl : l.length ≤ 1048576) (s : List S30) : ∀ (i : Nat) (out : List S35), i ≤ l.length → l.drop i = s → out.length = l.length → out.take i = (l.map convMatch).take i →
    (∀ y, y ∈ s → Ev (fun k => laws_toMatch.f k y.f0 y.f1 y.f2) ((convMatch y).f0, (convMatch y).f1, (convMatch y).f2)) → Ev (fun k => laws_toMatchS.l0 k l out (i : Int)) (l.map convMatch) := by
  induction s with
  | nil =>
    intro i out hi hd ho ht _
    have hi2 := drop_end l i hd hi
    have e : out = l.map convMatch := by
      rw [List.take_of_length_le (by omega), List.take_of_length_le (by rw [List.length_map]; omega)] at ht
      exact ht
    refine Ev.step (f := fun _ => some out) (fun k => ?_) (e ▸ Ev.now out)
    simp only [laws_toMatchS.l0]
    rw [if_neg (by omega)]
  | cons y s ih =>
    intro i out hi hd ho ht hy
    obtain ⟨hlt, hx, hd'⟩ := drop_at l i y s hd
    have hrd := rdaMatch l i y hx
    have ey := hy y List.mem_cons_self
    have hly : (l.map convMatch)[i]? = some (convMatch y) := by rw [List.getElem?_map, hx]; rfl
    have r := ih (i + 1) (out.set i (convMatch y)) (by omega) hd' (by rw [List.length_set]; exact ho) (by
      rw [List.take_add_one, List.take_add_one, hly, List.take_set_of_le (Nat.le_refl _), ht, List.getElem?_set_self (by omega)]) (fun z hz => hy z (List.mem_cons_of_mem _ hz))
    have r2 : Ev (fun k => (laws_toMatch.f k y.f0 y.f1 y.f2).bind fun b => if (i : Int) < (out.length : Int) then laws_toMatchS.l0 k l (out.set ((i : Int) : Int).toNat (⟨b.1, b.2.1, b.2.2⟩ : S35)) ((i + 1 : Nat) : Int) else none) (l.map convMatch) := by
      refine Ev.bind ey ?_
      refine Ev.congr (f := fun k => laws_toMatchS.l0 k l (out.set i (convMatch y)) ((i + 1 : Nat) : Int)) (fun k => ?_) r
      rw [if_pos (by omega), Int.toNat_natCast]
      first | done | rfl
    refine Ev.step (fun k => ?_) r2
    simp only [laws_toMatchS.l0]
    rw [if_pos (by omega), if_pos (by omega), hrd, wrapl i l.length hlt (by omega)]
    first | done | rfl
theorem toMatchS_ev (l : List S30) (g : l.length ≤ 1048576 ∧ ∀ y, y ∈ l → smallMatch y) : Ev (fun k => laws_toMatchS.f k l) (l.map convMatch) := by
  refine Ev.congr (f := fun k => laws_toMatchS.l0 k l (List.replicate l.length z35) ((0 : Nat) : Int)) (fun k => ?_) ?_
  · unfold laws_toMatchS.f
    rw [if_pos (by omega), if_pos (by omega), Int.toNat_natCast]
    first | done | rfl
  · exact toMatchS_loop l (by omega) l 0 _ (by omega) rfl (by simp) (by simp) (fun y hy => toMatch_ev y (g.2 y hy))
theorem eqMatchS_loop (l : List S35) (hl : l.length ≤ 9223372036854775807) (s : List S35) : ∀ (i : Nat), i ≤ l.length → l.drop i = s →
    (∀ y, y ∈ s → Ev (fun k => laws_eqMatch.f k y.f0 y.f1 y.f2 y.f0 y.f1 y.f2) true) → Ev (fun k => laws_eqMatchS.l0 k l l (i : Int)) true := by
  induction s with
  | nil =>
    intro i hi hd _
    have hi2 := drop_end l i hd hi
    refine Ev.step (f := fun _ => some true) (fun k => ?_) (Ev.now true)
    simp only [laws_eqMatchS.l0]
    rw [if_neg (by omega)]
  | cons y s ih =>
    intro i hi hd hy
    obtain ⟨hlt, hx, hd'⟩ := drop_at l i y s hd
    have hrd := rdbMatch l i y hx
    refine Ev.step (f := fun k => (laws_eqMatch.f k y.f0 y.f1 y.f2 y.f0 y.f1 y.f2).bind fun t => if t = true then laws_eqMatchS.l0 k l l ((i + 1 : Nat) : Int) else some false) (fun k => ?_) ?_
    · simp only [laws_eqMatchS.l0]
      rw [if_pos (by omega), if_pos (by omega), if_pos (by omega), hrd, wrapl i l.length hlt hl]
    · refine Ev.bind (hy y List.mem_cons_self) ?_
      refine Ev.congr (f := fun k => laws_eqMatchS.l0 k l l ((i + 1 : Nat) : Int)) (fun k => by rw [if_pos rfl]) ?_
      exact ih (i + 1) (by omega) hd' (fun z hz => hy z (List.mem_cons_of_mem _ hz))
theorem eqMatchS_ev (l : List S35) (g : l.length ≤ 9223372036854775807 ∧ ∀ y, y ∈ l → fineMatch y) : Ev (fun k => laws_eqMatchS.f k l l) true := by
  refine Ev.congr (f := fun k => laws_eqMatchS.l0 k l l ((0 : Nat) : Int)) (fun k => ?_) ?_
  · unfold laws_eqMatchS.f
    rw [if_pos rfl]
    first | done | rfl
  · exact eqMatchS_loop l g.1 l 0 (by omega) rfl (fun y hy => eqMatch_ev y (g.2 y hy))
theorem fineMatchS_conv (l : List S30) (g : l.length ≤ 1048576 ∧ ∀ y, y ∈ l → smallMatch y) : (l.map convMatch).length ≤ 9223372036854775807 ∧ ∀ y, y ∈ l.map convMatch → fineMatch y := by
  rw [List.length_map]
  refine ⟨by omega, fun y hy => ?_⟩
  obtain ⟨z, hz, rfl⟩ := List.mem_map.1 hy
  exact fineMatch_conv z (g.2 z hz)
-- SameMatch of the program and of the reference (behind CMatch or CMatchS)
-- spec_l12SameCaptures: equality of two rows of Capture by '!=' (X: the length, where it is handed on)
theorem spec_l12SameCaptures_loop (l m : List S82) (hl : l.length ≤ 9223372036854775807) (hm : l.length = m.length) (s : List S82) : ∀ (t : List S82) (i : Nat), i ≤ l.length → l.drop i = s → m.drop i = t →
    Ev (fun k => spec_l12SameCaptures.l0 k l m  (i : Int)) (sameCaptureS s t) := by
  induction s with
  | nil =>
    intro t i hi hd _
    have hi2 := drop_end l i hd hi
    refine Ev.step (f := fun _ => some true) (fun k => ?_) (by rw [sameCaptureS]; exact Ev.now true)
    simp only [spec_l12SameCaptures.l0]
    rw [if_neg (by omega)]
  | cons y s ih =>
    intro t i hi hd ht
    obtain ⟨hlt, hx, hd'⟩ := drop_at l i y s hd
    have hrd := rdbCapture l i y hx
    cases t with
    | nil =>
      have := drop_end m i ht (by omega)
      omega
    | cons z t =>
      obtain ⟨_, hx2, ht'⟩ := drop_at m i z t ht
      have hrd2 := rdbCapture m i z hx2
      have w := wrapl i l.length hlt hl
      rw [sameCaptureS]
      cases h : neCapture y z with
      | true =>
        refine Ev.step (f := fun _ => some false) (fun k => ?_) (Ev.now false)
        simp only [spec_l12SameCaptures.l0]
        rw [if_pos (by omega), if_pos (by omega), if_pos (by omega)]
        first
          | rw [if_pos (by omega), hrd, hrd2]; exact if_pos h
          | rw [hrd, hrd2]; exact if_pos h
      | false =>
        have h2 : ¬ neCapture y z = true := by rw [h]; simp
        refine Ev.step (f := fun k => spec_l12SameCaptures.l0 k l m  ((i + 1 : Nat) : Int)) (fun k => ?_) (ih t (i + 1) (by omega) hd' ht')
        simp only [spec_l12SameCaptures.l0]
        rw [if_pos (by omega), if_pos (by omega), if_pos (by omega)]
        first
          | rw [if_pos (by omega), hrd, hrd2, w]; exact if_neg h2
          | rw [hrd, hrd2, w]; exact if_neg h2
theorem spec_l12SameCaptures_ev (l m : List S82) (hl : l.length ≤ 9223372036854775807) : Ev (fun k => spec_l12SameCaptures.f k l m) ((l.length == m.length) && sameCaptureS l m) := by
  by_cases h : l.length = m.length
  · rw [beq_iff_eq.mpr h, Bool.true_and]
    refine Ev.congr (fun k => ?_) (spec_l12SameCaptures_loop l m hl h l m 0 (by omega) rfl rfl)
    unfold spec_l12SameCaptures.f
    rw [if_pos (by omega)]
    rfl
  · rw [beq_eq_false_iff_ne.mpr h, Bool.false_and]
    refine Ev.congr (f := fun _ => some false) (fun k => ?_) (Ev.now false)
    unfold spec_l12SameCaptures.f
    rw [if_neg (by omega)]
-- impl_Capture: equality of two rows of Capture by '!=' (X: the length, where it is handed on)
theorem impl_Capture_loop (l m : List S82) (hl : l.length ≤ 9223372036854775807) (hm : l.length = m.length) (s : List S82) : ∀ (t : List S82) (i : Nat), i ≤ l.length → l.drop i = s → m.drop i = t →
    Ev (fun k => impl_Capture.l0 k l m (l.length:Int) (i : Int)) (sameCaptureS s t) := by
  induction s with
  | nil =>
    intro t i hi hd _
    have hi2 := drop_end l i hd hi
    refine Ev.step (f := fun _ => some true) (fun k => ?_) (by rw [sameCaptureS]; exact Ev.now true)
    simp only [impl_Capture.l0]
    rw [if_neg (by omega)]
  | cons y s ih =>
    intro t i hi hd ht
    obtain ⟨hlt, hx, hd'⟩ := drop_at l i y s hd
    have hrd := rdbCapture l i y hx
    cases t with
    | nil =>
      have := drop_end m i ht (by omega)
      omega
    | cons z t =>
      obtain ⟨_, hx2, ht'⟩ := drop_at m i z t ht
      have hrd2 := rdbCapture m i z hx2
      have w := wrapl i l.length hlt hl
      rw [sameCaptureS]
      cases h : neCapture y z with
      | true =>
        refine Ev.step (f := fun _ => some false) (fun k => ?_) (Ev.now false)
        simp only [impl_Capture.l0]
        rw [if_pos (by omega), if_pos (by omega), if_pos (by omega)]
        first
          | rw [if_pos (by omega), hrd, hrd2]; exact if_pos h
          | rw [hrd, hrd2]; exact if_pos h
      | false =>
        have h2 : ¬ neCapture y z = true := by rw [h]; simp
        refine Ev.step (f := fun k => impl_Capture.l0 k l m (l.length:Int) ((i + 1 : Nat) : Int)) (fun k => ?_) (ih t (i + 1) (by omega) hd' ht')
        simp only [impl_Capture.l0]
        rw [if_pos (by omega), if_pos (by omega), if_pos (by omega)]
        first
          | rw [if_pos (by omega), hrd, hrd2, w]; exact if_neg h2
          | rw [hrd, hrd2, w]; exact if_neg h2
theorem impl_Capture_ev (l m : List S82) (hl : l.length ≤ 9223372036854775807) : Ev (fun k => impl_Capture.f k l m) ((l.length == m.length) && sameCaptureS l m) := by
  by_cases h : l.length = m.length
  · rw [beq_iff_eq.mpr h, Bool.true_and]
    refine Ev.congr (fun k => ?_) (impl_Capture_loop l m hl h l m 0 (by omega) rfl rfl)
    unfold impl_Capture.f
    rw [if_pos (by omega)]
    rfl
  · rw [beq_eq_false_iff_ne.mpr h, Bool.false_and]
    refine Ev.congr (f := fun _ => some false) (fun k => ?_) (Ev.now false)
    unfold impl_Capture.f
    rw [if_neg (by omega)]
def sameM (a b : Int) (l : List S82) (c d : Int) (m : List S82) : Bool := if a = c then (if b = d then ((l.length == m.length) && sameCaptureS l m) else false) else false
theorem spec_sameM (a b : Int) (l : List S82) (c d : Int) (m : List S82) (hl : l.length ≤ 9223372036854775807) : Ev (fun k => spec_SameMatch.f k a b l c d m) (sameM a b l c d m) := by
  unfold spec_SameMatch.f sameM
  by_cases h0 : a = c
  · by_cases h1 : b = d
    · simp only [if_pos h0, if_pos h1]
      exact Ev.bind (spec_l12SameCaptures_ev l m hl) (Ev.now _)
    · simp only [if_pos h0, if_neg h1]
      exact Ev.now _
  · simp only [if_neg h0]
    exact Ev.now _
theorem impl_sameM (a b : Int) (l : List S82) (c d : Int) (m : List S82) (hl : l.length ≤ 9223372036854775807) : Ev (fun k => impl_SameMatch.f k a b l c d m) (sameM a b l c d m) := by
  unfold impl_SameMatch.f sameM
  by_cases h0 : a = c
  · by_cases h1 : b = d
    · simp only [if_pos h0, if_pos h1]
      exact Ev.bind (impl_Capture_ev l m hl) (Ev.now _)
    · simp only [if_pos h0, if_neg h1]
      exact Ev.now _
  · simp only [if_neg h0]
    exact Ev.now _
def sameMatch (y z : S35) : Bool := sameM y.f0 y.f1 y.f2 z.f0 z.f1 z.f2
def sameMatchS : List S35 → List S35 → Bool
  | [], _ => true
  | _ :: _, [] => true
  | y :: s, z :: t => sameMatch y z && sameMatchS s t
-- spec_SameMatches: equality of two rows of Match by a function spec_SameMatch that counts rounds (LM: the order of the rows, X: the length, where it is handed on)
theorem spec_SameMatches_loop (l m : List S35) (hl : l.length ≤ 9223372036854775807) (hm : l.length = m.length) (s : List S35) : ∀ (t : List S35) (i : Nat), i ≤ l.length → l.drop i = s → m.drop i = t →
    (∀ y, y ∈ s → ∀ z, z ∈ t → Ev (fun k => spec_SameMatch.f k y.f0 y.f1 y.f2 z.f0 z.f1 z.f2) (sameMatch y z)) → Ev (fun k => spec_SameMatches.l0 k l m  (i : Int)) (sameMatchS s t) := by
  induction s with
  | nil =>
    intro t i hi hd _ _
    have hi2 := drop_end l i hd hi
    refine Ev.step (f := fun _ => some true) (fun k => ?_) (by rw [sameMatchS]; exact Ev.now true)
    simp only [spec_SameMatches.l0]
    rw [if_neg (by omega)]
  | cons y s ih =>
    intro t i hi hd ht hy
    obtain ⟨hlt, hx, hd'⟩ := drop_at l i y s hd
    have hrd := rdbMatch l i y hx
    cases t with
    | nil =>
      have := drop_end m i ht (by omega)
      omega
    | cons z t =>
      obtain ⟨_, hx2, ht'⟩ := drop_at m i z t ht
      have hrd2 := rdbMatch m i z hx2
      have w := wrapl i l.length hlt hl
      rw [sameMatchS]
      refine Ev.step (f := fun k => (spec_SameMatch.f k y.f0 y.f1 y.f2 z.f0 z.f1 z.f2).bind fun r => if r = true then spec_SameMatches.l0 k l m  ((i + 1 : Nat) : Int) else some false) (fun k => ?_) (Ev.bind (hy y List.mem_cons_self z List.mem_cons_self) ?_)
      · simp only [spec_SameMatches.l0]
        rw [if_pos (by omega), if_pos (by omega), if_pos (by omega)]
        first
          | rw [if_pos (by omega), hrd, hrd2, w]
          | rw [hrd, hrd2, w]
      · cases sameMatch y z with
        | true =>
          rw [Bool.true_and]
          exact Ev.congr (fun k => by rw [if_pos rfl]) (ih t (i + 1) (by omega) hd' ht' (fun u hu v hv => hy u (List.mem_cons_of_mem _ hu) v (List.mem_cons_of_mem _ hv)))
        | false =>
          rw [Bool.false_and]
          exact Ev.congr (f := fun _ => some false) (fun k => by rw [if_neg (by simp)]) (Ev.now false)
theorem spec_SameMatches_ev (l m : List S35) (hl : l.length ≤ 9223372036854775807) (hy : ∀ y, y ∈ l → ∀ z, z ∈ m → Ev (fun k => spec_SameMatch.f k y.f0 y.f1 y.f2 z.f0 z.f1 z.f2) (sameMatch y z)) : Ev (fun k => spec_SameMatches.f k l m) ((l.length == m.length) && sameMatchS l m) := by
  by_cases h : l.length = m.length
  · rw [beq_iff_eq.mpr h, Bool.true_and]
    refine Ev.congr (fun k => ?_) (spec_SameMatches_loop l m hl h l m 0 (by omega) rfl rfl hy)
    unfold spec_SameMatches.f
    rw [if_pos (by omega)]
    rfl
  · rw [beq_eq_false_iff_ne.mpr h, Bool.false_and]
    refine Ev.congr (f := fun _ => some false) (fun k => ?_) (Ev.now false)
    unfold spec_SameMatches.f
    rw [if_neg (by omega)]
-- impl_Match_at_impl_SameMatch: equality of two rows of Match by a function impl_SameMatch that counts rounds (LM: the order of the rows, X: the length, where it is handed on)
theorem impl_Match_at_impl_SameMatch_loop (l m : List S35) (hl : l.length ≤ 9223372036854775807) (hm : l.length = m.length) (s : List S35) : ∀ (t : List S35) (i : Nat), i ≤ l.length → l.drop i = s → m.drop i = t →
    (∀ y, y ∈ s → ∀ z, z ∈ t → Ev (fun k => impl_SameMatch.f k y.f0 y.f1 y.f2 z.f0 z.f1 z.f2) (sameMatch y z)) → Ev (fun k => impl_Match_at_impl_SameMatch.l0 k m l (l.length:Int) (i : Int)) (sameMatchS s t) := by
  induction s with
  | nil =>
    intro t i hi hd _ _
    have hi2 := drop_end l i hd hi
    refine Ev.step (f := fun _ => some true) (fun k => ?_) (by rw [sameMatchS]; exact Ev.now true)
    simp only [impl_Match_at_impl_SameMatch.l0]
    rw [if_neg (by omega)]
  | cons y s ih =>
    intro t i hi hd ht hy
    obtain ⟨hlt, hx, hd'⟩ := drop_at l i y s hd
    have hrd := rdbMatch l i y hx
    cases t with
    | nil =>
      have := drop_end m i ht (by omega)
      omega
    | cons z t =>
      obtain ⟨_, hx2, ht'⟩ := drop_at m i z t ht
      have hrd2 := rdbMatch m i z hx2
      have w := wrapl i l.length hlt hl
      rw [sameMatchS]
      refine Ev.step (f := fun k => (impl_SameMatch.f k y.f0 y.f1 y.f2 z.f0 z.f1 z.f2).bind fun r => if r = true then impl_Match_at_impl_SameMatch.l0 k m l (l.length:Int) ((i + 1 : Nat) : Int) else some false) (fun k => ?_) (Ev.bind (hy y List.mem_cons_self z List.mem_cons_self) ?_)
      · simp only [impl_Match_at_impl_SameMatch.l0]
        rw [if_pos (by omega), if_pos (by omega), if_pos (by omega)]
        first
          | rw [if_pos (by omega), hrd, hrd2, w]
          | rw [hrd, hrd2, w]
      · cases sameMatch y z with
        | true =>
          rw [Bool.true_and]
          exact Ev.congr (fun k => by rw [if_pos rfl]) (ih t (i + 1) (by omega) hd' ht' (fun u hu v hv => hy u (List.mem_cons_of_mem _ hu) v (List.mem_cons_of_mem _ hv)))
        | false =>
          rw [Bool.false_and]
          exact Ev.congr (f := fun _ => some false) (fun k => by rw [if_neg (by simp)]) (Ev.now false)
theorem impl_Match_at_impl_SameMatch_ev (l m : List S35) (hl : l.length ≤ 9223372036854775807) (hy : ∀ y, y ∈ l → ∀ z, z ∈ m → Ev (fun k => impl_SameMatch.f k y.f0 y.f1 y.f2 z.f0 z.f1 z.f2) (sameMatch y z)) : Ev (fun k => impl_Match_at_impl_SameMatch.f k l m) ((l.length == m.length) && sameMatchS l m) := by
  by_cases h : l.length = m.length
  · rw [beq_iff_eq.mpr h, Bool.true_and]
    refine Ev.congr (fun k => ?_) (impl_Match_at_impl_SameMatch_loop l m hl h l m 0 (by omega) rfl rfl hy)
    unfold impl_Match_at_impl_SameMatch.f
    rw [if_pos (by omega)]
    rfl
  · rw [beq_eq_false_iff_ne.mpr h, Bool.false_and]
    refine Ev.congr (f := fun _ => some false) (fun k => ?_) (Ev.now false)
    unfold impl_Match_at_impl_SameMatch.f
    rw [if_neg (by omega)]
end SameMatches
open SameMatches in
theorem FnExactSameMatches : laws_FnExactSameMatches.Pure := by
  intro x y g gy
  apply Ev.rounds
  unfold laws_FnExactSameMatches.f
  obtain ⟨r, e, c | ⟨p, q, sm⟩⟩ := szMatchS_ev x g.1 g.2 1048576 (by omega) (by omega)
  · refine Ev.bind e ?_
    simp only [if_pos c]
    exact Ev.now true
  refine Ev.bind e ?_
  simp only [if_neg (show ¬ r < 0 by omega)]
  obtain ⟨r2, e2, c2 | ⟨p2, q2, sm2⟩⟩ := szMatchS_ev y gy.1 gy.2 r (by omega) (by omega)
  · refine Ev.bind e2 ?_
    simp only [if_pos c2]
    exact Ev.now true
  refine Ev.bind e2 ?_
  simp only [if_neg (show ¬ r2 < 0 by omega)]
  have t := toMatchS_ev x sm
  have t2 := toMatchS_ev y sm2
  have hf := fineMatchS_conv x sm
  have hf2 := fineMatchS_conv y sm2
  refine Ev.bind t (Ev.bind t2 (Ev.bind (spec_SameMatches_ev _ _ hf.1 (fun u hu v _ => spec_sameM _ _ _ _ _ _ (hf.2 u hu))) (Ev.bind t (Ev.bind t2 (Ev.bind (Ev.bind (impl_Match_at_impl_SameMatch_ev _ _ hf.1 (fun u hu v _ => impl_sameM _ _ _ _ _ _ (hf.2 u hu))) (Ev.now _)) ?_)))))
  refine Ev.congr (f := _) (fun k => by rw [if_neg (by simp)]) ?_
  refine Ev.bind t (Ev.bind (eqMatchS_ev _ hf) ?_)
  refine Ev.congr (f := _) (fun k => by rw [if_pos rfl]) ?_
  refine Ev.bind t2 (Ev.bind (eqMatchS_ev _ hf2) ?_)
  exact Ev.congr (f := fun _ => some true) (fun k => by rw [if_pos rfl]) (Ev.now true)
end Go.Proofs.Ytacdhebkdfojiaa.Pure
