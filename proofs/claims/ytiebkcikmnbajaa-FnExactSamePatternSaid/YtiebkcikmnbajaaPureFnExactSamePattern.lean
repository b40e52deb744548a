/- FnExactSamePattern answers true for every two patterns: the program's SamePattern (slices.EqualFunc over the kids) and the reference's (a loop over the kids) both tell deep equality, and the arguments read as before. Conditions: none beyond the statement's own. -/
import Derived.Test.YtiebkcikmnbajaaPFnExactSamePatternx5
namespace Go.Proofs.Ytiebkcikmnbajaa.Pure
open Go.RowKit Go.Proofs.Ytiebkcikmnbajaa.PFnExactSamePattern Go.Proofs.YtiebkcikmnbajaaW.PrintWords Go.Proofs.YtiebkcikmnbajaaW.PrintLast
namespace SamePattern
-- the tree type Pattern: szPattern, toPattern, eqPattern (S65: as it comes in; S70: the program's)
mutual
def convPattern : S65 → S70
  | ⟨a, b, c, d⟩ => ⟨a, b, c, convPatternS d⟩
def convPatternS : List S65 → List S70
  | [] => []
  | x :: xs => convPattern x :: convPatternS xs
end
mutual
def sizePattern : S65 → Nat
  | ⟨_, _, c, d⟩ => c.size + (d.length + sizePatternS d)
def sizePatternS : List S65 → Nat
  | [] => 0
  | x :: xs => sizePattern x + sizePatternS xs
end
theorem convPattern_f0 (x : S65) : (convPattern x).f0 = x.f0 := by cases x; simp [convPattern]
theorem convPattern_f1 (x : S65) : (convPattern x).f1 = x.f1 := by cases x; simp [convPattern]
theorem convPattern_f2 (x : S65) : (convPattern x).f2 = x.f2 := by cases x; simp [convPattern]
theorem convPattern_f3 (x : S65) : (convPattern x).f3 = convPatternS x.f3 := by cases x; simp [convPattern]
theorem sizePattern_eq (x : S65) : sizePattern x = x.f2.size + (x.f3.length + sizePatternS x.f3) := by cases x; simp [sizePattern]
theorem sizePatternS_nil : sizePatternS ([] : List S65) = 0 := by simp [sizePatternS]
theorem sizePatternS_cons (y : S65) (s : List S65) : sizePatternS (y :: s) = sizePattern y + sizePatternS s := by simp [sizePatternS]
theorem convPatternS_map (l : List S65) : convPatternS l = l.map convPattern := by
  induction l with
  | nil => rfl
  | cons x l ih => simp [convPatternS, ih]
theorem convPatternS_length (l : List S65) : (convPatternS l).length = l.length := by rw [convPatternS_map, List.length_map]
theorem rd65_at (l : List S65) (i : Nat) (x : S65) (s : List S65) (h : l.drop i = x :: s) : i < l.length ∧ rd_T65 l (i : Int) = x ∧ l.drop (i + 1) = s := by
  have h1 : i < l.length := by
    rcases Nat.lt_or_ge i l.length with h2 | h2
    · exact h2
    · rw [List.drop_eq_nil_of_le h2] at h
      cases h
  rw [List.drop_eq_getElem_cons h1] at h
  injection h with h2 h3
  refine ⟨h1, ?_, h3⟩
  unfold rd_T65
  rw [List.getD_eq_getElem?_getD, Int.toNat_natCast, List.getElem?_eq_getElem h1]
  exact h2
theorem rd70_at (l : List S70) (i : Nat) (x : S70) (s : List S70) (h : l.drop i = x :: s) : i < l.length ∧ rd_T70 l (i : Int) = x ∧ l.drop (i + 1) = s := by
  have h1 : i < l.length := by
    rcases Nat.lt_or_ge i l.length with h2 | h2
    · exact h2
    · rw [List.drop_eq_nil_of_le h2] at h
      cases h
  rw [List.drop_eq_getElem_cons h1] at h
  injection h with h2 h3
  refine ⟨h1, ?_, h3⟩
  unfold rd_T70
  rw [List.getD_eq_getElem?_getD, Int.toNat_natCast, List.getElem?_eq_getElem h1]
  exact h2
theorem drop65_end (l : List S65) (i : Nat) (h : l.drop i = []) (hi : i ≤ l.length) : i = l.length := by
  have := congrArg List.length h
  simp at this
  omega
theorem drop70_end (l : List S70) (i : Nat) (h : l.drop i = []) (hi : i ≤ l.length) : i = l.length := by
  have := congrArg List.length h
  simp at this
  omega
theorem eta70 (x : S70) : (⟨x.f0, x.f1, x.f2, x.f3⟩ : S70) = x := by cases x; rfl
theorem wrapiPattern (i n : Nat) (h : i < n) (hn : n ≤ 9223372036854775807) : wrap64 ((i : Int) + 1) = ((i + 1 : Nat) : Int) := by unfold wrap64; omega

theorem szPattern_loop (l : List S65) (hl : l.length ≤ 9223372036854775807) (s : List S65) : ∀ (i : Nat) (left : Int), i ≤ l.length → l.drop i = s →
    (∀ y, y ∈ s → ∀ left : Int, 0 ≤ left → left ≤ 1048576 → Ev (fun k => laws_szPattern.f k y.f0 y.f1 y.f2 y.f3 left) (if (sizePattern y : Int) ≤ left then left - sizePattern y else -1)) →
    0 ≤ left → left ≤ 1048576 → Ev (fun k => laws_szPatternS.l0 k l left (i : Int)) (if (sizePatternS s : Int) ≤ left then left - sizePatternS s else -1) := by
  induction s with
  | nil =>
    intro i left hi hd _ h0 h1
    have := drop65_end l i hd hi
    refine Ev.step (f := fun _ => some left) (fun k => ?_) ?_
    · simp only [laws_szPatternS.l0]
      rw [if_neg (by omega)]
    · rw [sizePatternS_nil, if_pos (by simpa using h0)]
      simpa using Ev.now left
  | cons y s ih =>
    intro i left hi hd hy h0 h1
    obtain ⟨hlt, hrd, hd'⟩ := rd65_at l i y s hd
    have e := hy y List.mem_cons_self left h0 h1
    by_cases hs : (sizePattern y : Int) ≤ left
    · rw [if_pos hs] at e
      have r := ih (i + 1) (left - sizePattern y) (by omega) hd' (fun z hz => hy z (List.mem_cons_of_mem _ hz)) (by omega) (by omega)
      refine Ev.step (f := fun k => (laws_szPattern.f k y.f0 y.f1 y.f2 y.f3 left).bind fun t => if t < 0 then some (-1) else laws_szPatternS.l0 k l t ((i + 1 : Nat) : Int)) (fun k => ?_) ?_
      · simp only [laws_szPatternS.l0]
        rw [if_pos (by omega), if_pos (by omega), hrd, wrapiPattern i l.length hlt hl]
      · refine Ev.bind e ?_
        refine Ev.congr (f := fun k => laws_szPatternS.l0 k l (left - sizePattern y) ((i + 1 : Nat) : Int)) (fun k => by rw [if_neg (by omega)]) ?_
        have e3 : (if (sizePatternS (y :: s) : Int) ≤ left then left - (sizePatternS (y :: s) : Int) else -1) = if (sizePatternS s : Int) ≤ left - sizePattern y then left - sizePattern y - sizePatternS s else -1 := by
          rw [sizePatternS_cons]
          split <;> split <;> omega
        rw [e3]
        exact r
    · rw [if_neg hs] at e
      refine Ev.step (f := fun k => (laws_szPattern.f k y.f0 y.f1 y.f2 y.f3 left).bind fun t => if t < 0 then some (-1) else laws_szPatternS.l0 k l t ((i + 1 : Nat) : Int)) (fun k => ?_) ?_
      · simp only [laws_szPatternS.l0]
        rw [if_pos (by omega), if_pos (by omega), hrd, wrapiPattern i l.length hlt hl]
      · refine Ev.bind e ?_
        rw [if_neg (by rw [sizePatternS_cons]; omega)]
        exact Ev.congr (f := fun _ => some (-1)) (fun k => by rw [if_pos (by omega)]) (Ev.now _)

theorem szPattern_ev (x : S65) (g : G65 x) : ∀ left : Int, 0 ≤ left → left ≤ 1048576 → Ev (fun k => laws_szPattern.f k x.f0 x.f1 x.f2 x.f3 left) (if (sizePattern x : Int) ≤ left then left - sizePattern x else -1) := by
  induction g with
  | mk x h0 h1 h2 h3 h3k ih =>
    intro left hl0 hl1
    have w1 : wrap64 (left - (x.f2.size : Int)) = left - x.f2.size := by unfold wrap64; omega
    by_cases hs : left - (x.f2.size : Int) < 0
    · rw [if_neg (by rw [sizePattern_eq]; omega)]
      refine Ev.step (f := fun _ => some (-1)) (fun k => ?_) (Ev.now _)
      simp only [laws_szPattern.f]
      rw [w1, if_pos hs]
    · refine Ev.step (f := fun k => (laws_szPatternS.f k x.f3 (left - x.f2.size)).bind fun t => if t < 0 then some (-1) else some t) (fun k => ?_) ?_
      · simp only [laws_szPattern.f]
        rw [w1, if_neg hs]
      · have w2 : wrap64 (left - (x.f2.size : Int) - (x.f3.length : Int)) = left - x.f2.size - x.f3.length := by unfold wrap64; omega
        have e : Ev (fun k => laws_szPatternS.f k x.f3 (left - x.f2.size)) (if (sizePattern x : Int) ≤ left then left - sizePattern x else -1) := by
          by_cases hs2 : left - (x.f2.size : Int) - x.f3.length < 0
          · rw [if_neg (by rw [sizePattern_eq]; omega)]
            refine Ev.step (f := fun _ => some (-1)) (fun k => ?_) (Ev.now _)
            simp only [laws_szPatternS.f]
            rw [w2, if_pos hs2]
          · refine Ev.step (f := fun k => laws_szPatternS.l0 k x.f3 (left - x.f2.size - x.f3.length) ((0 : Nat) : Int)) (fun k => ?_) ?_
            · simp only [laws_szPatternS.f]
              rw [w2, if_neg hs2]
              rfl
            · have r := szPattern_loop x.f3 h3 x.f3 0 (left - x.f2.size - x.f3.length) (by omega) rfl ih (by omega) (by omega)
              have e3 : (if (sizePattern x : Int) ≤ left then left - (sizePattern x : Int) else -1) = if (sizePatternS x.f3 : Int) ≤ left - x.f2.size - x.f3.length then left - x.f2.size - x.f3.length - sizePatternS x.f3 else -1 := by
                rw [sizePattern_eq]
                split <;> split <;> omega
              rw [e3]
              exact r
        refine Ev.bind e ?_
        by_cases hz : (sizePattern x : Int) ≤ left
        · rw [if_pos hz]
          exact Ev.congr (f := fun _ => some (left - sizePattern x)) (fun k => by rw [if_neg (by omega)]) (Ev.now _)
        · rw [if_neg hz]
          exact Ev.congr (f := fun _ => some (-1)) (fun k => by rw [if_pos (by omega)]) (Ev.now _)

theorem toPattern_loop (l : List S65) (hl : l.length ≤ 9223372036854775807) (s : List S65) : ∀ (i : Nat) (out : List S70), i ≤ l.length → l.drop i = s → out.length = l.length → out.take i = (convPatternS l).take i →
    (∀ y, y ∈ s → Ev (fun k => laws_toPattern.f k y.f0 y.f1 y.f2 y.f3) ((convPattern y).f0, (convPattern y).f1, (convPattern y).f2, (convPattern y).f3)) →
    Ev (fun k => laws_toPatternS.l0 k l out (i : Int)) (convPatternS l) := by
  induction s with
  | nil =>
    intro i out hi hd ho ht _
    have hi2 := drop65_end l i hd hi
    have e : out = convPatternS l := by
      rw [List.take_of_length_le (by omega), List.take_of_length_le (by rw [convPatternS_length]; omega)] at ht
      exact ht
    refine Ev.step (f := fun _ => some out) (fun k => ?_) (e ▸ Ev.now out)
    simp only [laws_toPatternS.l0]
    rw [if_neg (by omega)]
  | cons y s ih =>
    intro i out hi hd ho ht hy
    obtain ⟨hlt, hrd, hd'⟩ := rd65_at l i y s hd
    have e := hy y List.mem_cons_self
    have hly : (convPatternS l)[i]? = some (convPattern y) := by
      rw [convPatternS_map, List.getElem?_map]
      have : l[i]? = some y := by
        have := congrArg List.head? hd
        simpa [List.head?_drop] using this
      rw [this]
      rfl
    have r := ih (i + 1) (out.set i (convPattern y)) (by omega) hd' (by rw [List.length_set]; exact ho) (by
      rw [List.take_add_one, List.take_add_one, hly, List.take_set_of_le (Nat.le_refl _), ht, List.getElem?_set_self (by omega)]) (fun z hz => hy z (List.mem_cons_of_mem _ hz))
    refine Ev.step (f := fun k => (laws_toPattern.f k y.f0 y.f1 y.f2 y.f3).bind fun b => if (i : Int) < (out.length : Int) then laws_toPatternS.l0 k l (out.set ((i : Int) : Int).toNat (⟨b.1, b.2.1, b.2.2.1, b.2.2.2⟩ : S70)) ((i + 1 : Nat) : Int) else none) (fun k => ?_) ?_
    · simp only [laws_toPatternS.l0]
      rw [if_pos (by omega), if_pos (by omega), hrd, wrapiPattern i l.length hlt hl]
    · refine Ev.bind e ?_
      refine Ev.congr (f := fun k => laws_toPatternS.l0 k l (out.set i (convPattern y)) ((i + 1 : Nat) : Int)) (fun k => ?_) r
      rw [if_pos (by omega), Int.toNat_natCast]
      show laws_toPatternS.l0 k l (out.set i (⟨(convPattern y).f0, (convPattern y).f1, (convPattern y).f2, (convPattern y).f3⟩ : S70)) _ = _
      rw [eta70]

theorem toPattern_ev (x : S65) (g : G65 x) : sizePattern x ≤ 1048576 → Ev (fun k => laws_toPattern.f k x.f0 x.f1 x.f2 x.f3) ((convPattern x).f0, (convPattern x).f1, (convPattern x).f2, (convPattern x).f3) := by
  induction g with
  | mk x h0 h1 h2 h3 h3k ih =>
    intro hsz
    rw [sizePattern_eq] at hsz
    have hmem : ∀ y, y ∈ x.f3 → sizePattern y ≤ sizePatternS x.f3 := by
      have : ∀ (l : List S65) (y : S65), y ∈ l → sizePattern y ≤ sizePatternS l := by
        intro l
        induction l with
        | nil => intro y hy; cases hy
        | cons z l ihl =>
          intro y hy
          simp only [sizePatternS]
          rcases List.mem_cons.1 hy with rfl | hy
          · omega
          · have := ihl y hy; omega
      exact this x.f3
    have e : Ev (fun k => laws_toPatternS.f k x.f3) (convPatternS x.f3) := by
      refine Ev.step (f := fun k => laws_toPatternS.l0 k x.f3 (List.replicate x.f3.length z70) ((0 : Nat) : Int)) (fun k => ?_) ?_
      · simp only [laws_toPatternS.f]
        rw [if_pos (by omega), if_pos (by omega), Int.toNat_natCast]
        rfl
      · exact toPattern_loop x.f3 h3 x.f3 0 _ (by omega) rfl (by simp) (by simp) (fun y hy => ih y hy (by have := hmem y hy; omega))
    refine Ev.step (f := fun k => (laws_toPatternS.f k x.f3).bind fun t => some (x.f0, x.f1, x.f2, t)) (fun k => ?_) ?_
    · simp only [laws_toPattern.f]
    · refine Ev.bind e ?_
      rw [convPattern_f0, convPattern_f1, convPattern_f2, convPattern_f3]
      exact Ev.now _

theorem eqPattern_loop (l : List S70) (hl : l.length ≤ 9223372036854775807) (s : List S70) : ∀ (i : Nat), i ≤ l.length → l.drop i = s →
    (∀ y, y ∈ s → Ev (fun k => laws_eqPattern.f k y.f0 y.f1 y.f2 y.f3 y.f0 y.f1 y.f2 y.f3) true) → Ev (fun k => laws_eqPatternS.l0 k l l (i : Int)) true := by
  induction s with
  | nil =>
    intro i hi hd _
    have hi2 := drop70_end l i hd hi
    refine Ev.step (f := fun _ => some true) (fun k => ?_) (Ev.now true)
    simp only [laws_eqPatternS.l0]
    rw [if_neg (by omega)]
  | cons y s ih =>
    intro i hi hd hy
    obtain ⟨hlt, hrd, hd'⟩ := rd70_at l i y s hd
    refine Ev.step (f := fun k => (laws_eqPattern.f k y.f0 y.f1 y.f2 y.f3 y.f0 y.f1 y.f2 y.f3).bind fun t => if t = true then laws_eqPatternS.l0 k l l ((i + 1 : Nat) : Int) else some false) (fun k => ?_) ?_
    · simp only [laws_eqPatternS.l0]
      rw [if_pos (by omega), if_pos (by omega), if_pos (by omega), hrd, wrapiPattern i l.length hlt hl]
    · refine Ev.bind (hy y List.mem_cons_self) ?_
      refine Ev.congr (f := fun k => laws_eqPatternS.l0 k l l ((i + 1 : Nat) : Int)) (fun k => by rw [if_pos rfl]) ?_
      exact ih (i + 1) (by omega) hd' (fun z hz => hy z (List.mem_cons_of_mem _ hz))

theorem eqPattern_ev (x : S65) (g : G65 x) : Ev (fun k => laws_eqPattern.f k (convPattern x).f0 (convPattern x).f1 (convPattern x).f2 (convPattern x).f3 (convPattern x).f0 (convPattern x).f1 (convPattern x).f2 (convPattern x).f3) true := by
  induction g with
  | mk x h0 h1 h2 h3 h3k ih =>
    have e : Ev (fun k => laws_eqPatternS.f k (convPattern x).f3 (convPattern x).f3) true := by
      refine Ev.step (f := fun k => laws_eqPatternS.l0 k (convPattern x).f3 (convPattern x).f3 ((0 : Nat) : Int)) (fun k => ?_) ?_
      · simp only [laws_eqPatternS.f]
        rw [if_pos trivial]
        rfl
      · refine eqPattern_loop (convPattern x).f3 (by rw [convPattern_f3, convPatternS_length]; exact h3) (convPattern x).f3 0 (by omega) rfl ?_
        intro y hy
        rw [convPattern_f3, convPatternS_map] at hy
        obtain ⟨z, hz, rfl⟩ := List.mem_map.1 hy
        exact ih z hz
    refine Ev.step (f := fun k => (laws_eqPatternS.f k (convPattern x).f3 (convPattern x).f3).bind fun t => if t = true then some true else some false) (fun k => ?_) ?_
    · simp only [laws_eqPattern.f]
      rw [if_pos trivial, if_pos trivial, if_pos trivial]
    · refine Ev.bind e ?_
      exact Ev.congr (f := fun _ => some true) (fun k => by rw [if_pos rfl]) (Ev.now true)

/-- A tree of the program's type whose numbers and sizes fit. -/
inductive FinePattern : S70 → Prop where
  | mk (x : S70) (h0 : (Lit.int .i64 x.f0).wf = true) (h1 : (Lit.int .i64 x.f1).wf = true) (h2 : x.f2.size ≤ 9223372036854775807) (h3 : x.f3.length ≤ 9223372036854775807) (h3k : ∀ y, y ∈ x.f3 → FinePattern y) : FinePattern x
theorem FinePattern.kids {x : S70} (h : FinePattern x) : x.f3.length ≤ 9223372036854775807 ∧ ∀ y, y ∈ x.f3 → FinePattern y := by
  cases h with
  | mk x h0 h1 h2 h3 h3k => exact ⟨h3, h3k⟩
theorem finePattern_conv (x : S65) (g : G65 x) : FinePattern (convPattern x) := by
  induction g with
  | mk x h0 h1 h2 h3 h3k ih =>
    refine FinePattern.mk _ (by rw [convPattern_f0]; exact h0) (by rw [convPattern_f1]; exact h1) (by rw [convPattern_f2]; exact h2) (by rw [convPattern_f3, convPatternS_length]; exact h3) ?_
    intro y hy
    rw [convPattern_f3, convPatternS_map] at hy
    obtain ⟨z, hz, rfl⟩ := List.mem_map.1 hy
    exact ih z hz
-- equality of trees of type S70
mutual
def samePattern : S70 → S70 → Bool
  | ⟨a, b, c, d⟩, y => (a == y.f0) && ((b == y.f1) && ((c.toList == y.f2.toList) && ((d.length == y.f3.length) && samePatternS d y.f3)))
def samePatternS : List S70 → List S70 → Bool
  | [], _ => true
  | _ :: _, [] => true
  | x :: xs, y :: ys => samePattern x y && samePatternS xs ys
end
theorem samePattern_eq (x y : S70) : samePattern x y = ((x.f0 == y.f0) && ((x.f1 == y.f1) && ((x.f2.toList == y.f2.toList) && ((x.f3.length == y.f3.length) && samePatternS x.f3 y.f3)))) := by cases x; simp [samePattern]
theorem samePatternS_nil (m : List S70) : samePatternS [] m = true := by simp [samePatternS]
theorem samePatternS_cons (x y : S70) (l m : List S70) : samePatternS (x :: l) (y :: m) = (samePattern x y && samePatternS l m) := by simp [samePatternS]
theorem spec_loop (a a' b b' : Int) (c c' : ByteArray) (l m : List S70) (hl : l.length ≤ 9223372036854775807) (hm : l.length = m.length) (s : List S70) : ∀ (t : List S70) (i : Nat), i ≤ l.length → l.drop i = s → m.drop i = t →
    (∀ y, y ∈ s → ∀ z, z ∈ t → Ev (fun k => spec_SamePattern.f k y.f0 y.f1 y.f2 y.f3 z.f0 z.f1 z.f2 z.f3) (samePattern y z)) → Ev (fun k => spec_SamePattern.l0 k (i : Int) a b c l a' b' c' m) (samePatternS s t) := by
  induction s with
  | nil =>
    intro t i hi hd _ _
    have hi2 := drop70_end l i hd hi
    rw [samePatternS_nil]
    refine Ev.step (f := fun _ => some true) (fun k => ?_) (Ev.now true)
    simp only [spec_SamePattern.l0]
    rw [if_neg (by omega)]
  | cons y s ih =>
    intro t i hi hd ht hy
    obtain ⟨hlt, hrd, hd'⟩ := rd70_at l i y s hd
    cases t with
    | nil =>
      have := drop70_end m i ht (by omega)
      omega
    | cons z t =>
      obtain ⟨_, hrd2, ht'⟩ := rd70_at m i z t ht
      refine Ev.step (f := fun k => (spec_SamePattern.f k y.f0 y.f1 y.f2 y.f3 z.f0 z.f1 z.f2 z.f3).bind fun r => if r = true then spec_SamePattern.l0 k ((i + 1 : Nat) : Int) a b c l a' b' c' m else some false) (fun k => ?_) ?_
      · simp only [spec_SamePattern.l0]
        rw [if_pos (by omega), if_pos (by omega), if_pos (by omega), hrd, hrd2, wrapiPattern i l.length hlt hl]
      · refine Ev.bind (hy y List.mem_cons_self z List.mem_cons_self) ?_
        rw [samePatternS_cons]
        cases h : samePattern y z with
        | true =>
          refine Ev.congr (f := fun k => spec_SamePattern.l0 k ((i + 1 : Nat) : Int) a b c l a' b' c' m) (fun k => by rw [if_pos rfl]) ?_
          rw [Bool.true_and]
          exact ih t (i + 1) (by omega) hd' ht' (fun u hu v hv => hy u (List.mem_cons_of_mem _ hu) v (List.mem_cons_of_mem _ hv))
        | false =>
          rw [Bool.false_and]
          exact Ev.congr (f := fun _ => some false) (fun k => by simp) (Ev.now false)
theorem spec_ev (x : S70) (g : FinePattern x) : ∀ y, FinePattern y → Ev (fun k => spec_SamePattern.f k x.f0 x.f1 x.f2 x.f3 y.f0 y.f1 y.f2 y.f3) (samePattern x y) := by
  induction g with
  | mk x h0 h1 h2 h3 h3k ih =>
    intro y gy
    rw [samePattern_eq]
    by_cases e0 : x.f0 = y.f0
    · by_cases e1 : x.f1 = y.f1
      · by_cases e2 : x.f2.toList = y.f2.toList
        · refine Ev.step (f := fun k => spec_SamePattern.j0 k ((x.f3.length : Int) != (y.f3.length : Int)) x.f0 x.f1 x.f2 x.f3 y.f0 y.f1 y.f2 y.f3) (fun k => by simp only [spec_SamePattern.f]; rw [if_pos e0, if_pos e1, if_pos e2]) ?_
          by_cases e3 : x.f3.length = y.f3.length
          · refine Ev.step (f := fun k => spec_SamePattern.l0 k ((0 : Nat) : Int) x.f0 x.f1 x.f2 x.f3 y.f0 y.f1 y.f2 y.f3) (fun k => by simp only [spec_SamePattern.j0]; simp [e3]) ?_
            rw [beq_iff_eq.mpr e0, beq_iff_eq.mpr e1, beq_iff_eq.mpr e2, beq_iff_eq.mpr e3]
            simp only [Bool.true_and]
            exact spec_loop _ _ _ _ _ _ _ _ h3 e3 x.f3 y.f3 0 (by omega) rfl rfl (fun u hu v hv => ih u hu v (gy.kids.2 v hv))
          · rw [beq_eq_false_iff_ne.mpr e3]
            simp only [Bool.false_and, Bool.and_false]
            exact Ev.step (f := fun _ => some false) (fun k => by simp only [spec_SamePattern.j0]; rw [if_pos (by simp; omega)]) (Ev.now false)
        · rw [beq_eq_false_iff_ne.mpr e2]
          simp only [Bool.false_and, Bool.and_false]
          refine Ev.step (f := fun k => spec_SamePattern.j0 k true x.f0 x.f1 x.f2 x.f3 y.f0 y.f1 y.f2 y.f3) (fun k => by simp only [spec_SamePattern.f]; rw [if_pos e0, if_pos e1, if_neg e2]) ?_
          exact Ev.step (f := fun _ => some false) (fun k => by simp only [spec_SamePattern.j0]; rw [if_pos trivial]) (Ev.now false)
      · rw [beq_eq_false_iff_ne.mpr e1]
        simp only [Bool.false_and, Bool.and_false]
        refine Ev.step (f := fun k => spec_SamePattern.j0 k true x.f0 x.f1 x.f2 x.f3 y.f0 y.f1 y.f2 y.f3) (fun k => by simp only [spec_SamePattern.f]; rw [if_pos e0, if_neg e1]) ?_
        exact Ev.step (f := fun _ => some false) (fun k => by simp only [spec_SamePattern.j0]; rw [if_pos trivial]) (Ev.now false)
    · rw [beq_eq_false_iff_ne.mpr e0]
      simp only [Bool.false_and]
      refine Ev.step (f := fun k => spec_SamePattern.j0 k true x.f0 x.f1 x.f2 x.f3 y.f0 y.f1 y.f2 y.f3) (fun k => by simp only [spec_SamePattern.f]; rw [if_neg e0]) ?_
      exact Ev.step (f := fun _ => some false) (fun k => by simp only [spec_SamePattern.j0]; rw [if_pos trivial]) (Ev.now false)
-- impl.SamePattern by slices.EqualFunc
theorem impl_loop (l m : List S70) (hl : l.length ≤ 9223372036854775807) (hm : l.length = m.length) (s : List S70) : ∀ (t : List S70) (i : Nat), i ≤ l.length → l.drop i = s → m.drop i = t →
    (∀ y, y ∈ s → ∀ z, z ∈ t → Ev (fun k => impl_SamePattern.f k y.f0 y.f1 y.f2 y.f3 z.f0 z.f1 z.f2 z.f3) (samePattern y z)) → Ev (fun k => impl_Pattern_at_impl_SamePattern.l0 k m l (l.length : Int) (i : Int)) (samePatternS s t) := by
  induction s with
  | nil =>
    intro t i hi hd _ _
    have hi2 := drop70_end l i hd hi
    rw [samePatternS_nil]
    refine Ev.step (f := fun _ => some true) (fun k => ?_) (Ev.now true)
    simp only [impl_Pattern_at_impl_SamePattern.l0]
    rw [if_neg (by omega)]
  | cons y s ih =>
    intro t i hi hd ht hy
    obtain ⟨hlt, hrd, hd'⟩ := rd70_at l i y s hd
    cases t with
    | nil =>
      have := drop70_end m i ht (by omega)
      omega
    | cons z t =>
      obtain ⟨_, hrd2, ht'⟩ := rd70_at m i z t ht
      refine Ev.step (f := fun k => (impl_SamePattern.f k y.f0 y.f1 y.f2 y.f3 z.f0 z.f1 z.f2 z.f3).bind fun r => if r = true then impl_Pattern_at_impl_SamePattern.l0 k m l (l.length : Int) ((i + 1 : Nat) : Int) else some false) (fun k => ?_) ?_
      · simp only [impl_Pattern_at_impl_SamePattern.l0]
        rw [if_pos (by omega), if_pos (by omega), if_pos (by omega), if_pos (by omega), hrd, hrd2, wrapiPattern i l.length hlt hl]
      · refine Ev.bind (hy y List.mem_cons_self z List.mem_cons_self) ?_
        rw [samePatternS_cons]
        cases h : samePattern y z with
        | true =>
          refine Ev.congr (f := fun k => impl_Pattern_at_impl_SamePattern.l0 k m l (l.length : Int) ((i + 1 : Nat) : Int)) (fun k => by rw [if_pos rfl]) ?_
          rw [Bool.true_and]
          exact ih t (i + 1) (by omega) hd' ht' (fun u hu v hv => hy u (List.mem_cons_of_mem _ hu) v (List.mem_cons_of_mem _ hv))
        | false =>
          rw [Bool.false_and]
          exact Ev.congr (f := fun _ => some false) (fun k => by simp) (Ev.now false)
theorem impl_ev (x : S70) (g : FinePattern x) : ∀ y, FinePattern y → Ev (fun k => impl_SamePattern.f k x.f0 x.f1 x.f2 x.f3 y.f0 y.f1 y.f2 y.f3) (samePattern x y) := by
  induction g with
  | mk x h0 h1 h2 h3 h3k ih =>
    intro y gy
    rw [samePattern_eq]
    by_cases e0 : x.f0 = y.f0
    · by_cases e1 : x.f1 = y.f1
      · by_cases e2 : x.f2.toList = y.f2.toList
        · refine Ev.step (f := fun k => (impl_Pattern_at_impl_SamePattern.f k x.f3 y.f3).bind fun t => some t) (fun k => by simp only [impl_SamePattern.f]; rw [if_pos e0, if_pos e1, if_pos e2]) ?_
          rw [beq_iff_eq.mpr e0, beq_iff_eq.mpr e1, beq_iff_eq.mpr e2]
          simp only [Bool.true_and]
          refine Ev.bind (a := ((x.f3.length == y.f3.length) && samePatternS x.f3 y.f3)) ?_ (Ev.now _)
          by_cases e3 : x.f3.length = y.f3.length
          · refine Ev.step (f := fun k => impl_Pattern_at_impl_SamePattern.l0 k y.f3 x.f3 (x.f3.length : Int) ((0 : Nat) : Int)) (fun k => by simp only [impl_Pattern_at_impl_SamePattern.f]; rw [if_pos (by omega)]; rfl) ?_
            rw [beq_iff_eq.mpr e3]
            simp only [Bool.true_and]
            exact impl_loop _ _ h3 e3 x.f3 y.f3 0 (by omega) rfl rfl (fun u hu v hv => ih u hu v (gy.kids.2 v hv))
          · rw [beq_eq_false_iff_ne.mpr e3]
            simp only [Bool.false_and]
            exact Ev.step (f := fun _ => some false) (fun k => by simp only [impl_Pattern_at_impl_SamePattern.f]; rw [if_neg (by omega)]) (Ev.now false)
        · rw [beq_eq_false_iff_ne.mpr e2]
          simp only [Bool.false_and, Bool.and_false]
          exact Ev.step (f := fun _ => some false) (fun k => by simp only [impl_SamePattern.f]; rw [if_pos e0, if_pos e1, if_neg e2]) (Ev.now false)
      · rw [beq_eq_false_iff_ne.mpr e1]
        simp only [Bool.false_and, Bool.and_false]
        exact Ev.step (f := fun _ => some false) (fun k => by simp only [impl_SamePattern.f]; rw [if_pos e0, if_neg e1]) (Ev.now false)
    · rw [beq_eq_false_iff_ne.mpr e0]
      simp only [Bool.false_and]
      exact Ev.step (f := fun _ => some false) (fun k => by simp only [impl_SamePattern.f]; rw [if_neg e0]) (Ev.now false)
end SamePattern
open SamePattern in
theorem FnExactSamePattern : laws_FnExactSamePattern.Pure := by
  intro x y g gy
  apply Ev.rounds
  have e := szPattern_ev x g 1048576 (by omega) (by omega)
  unfold laws_FnExactSamePattern.f
  refine Ev.bind e ?_
  by_cases h : (sizePattern x : Int) ≤ 1048576
  · rw [if_pos h]
    refine Ev.congr (f := _) (fun k => by rw [if_neg (by omega)]) ?_
    have e2 := szPattern_ev y gy (1048576 - sizePattern x) (by omega) (by omega)
    refine Ev.bind e2 ?_
    by_cases h2 : (sizePattern y : Int) ≤ 1048576 - sizePattern x
    · rw [if_pos h2]
      refine Ev.congr (f := _) (fun k => by rw [if_neg (by omega)]) ?_
      have t := toPattern_ev x g (by omega)
      have t2 := toPattern_ev y gy (by omega)
      have fx := finePattern_conv x g
      have fy := finePattern_conv y gy
      refine Ev.bind t (Ev.bind t2 (Ev.bind (spec_ev _ fx _ fy) (Ev.bind t (Ev.bind t2 (Ev.bind (impl_ev _ fx _ fy) ?_)))))
      refine Ev.congr (f := _) (fun k => by rw [if_neg (by simp)]) ?_
      refine Ev.bind t (Ev.bind (eqPattern_ev x g) ?_)
      refine Ev.congr (f := _) (fun k => by rw [if_pos rfl]) ?_
      refine Ev.bind t2 (Ev.bind (eqPattern_ev y gy) ?_)
      exact Ev.congr (f := fun _ => some true) (fun k => by rw [if_pos rfl]) (Ev.now true)
    · rw [if_neg h2]
      exact Ev.congr (f := fun _ => some true) (fun k => by rw [if_pos (by omega)]) (Ev.now true)
  · rw [if_neg h]
    exact Ev.congr (f := fun _ => some true) (fun k => by rw [if_pos (by omega)]) (Ev.now true)
end Go.Proofs.Ytiebkcikmnbajaa.Pure
