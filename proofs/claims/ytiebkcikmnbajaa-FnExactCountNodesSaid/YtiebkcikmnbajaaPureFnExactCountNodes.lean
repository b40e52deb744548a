/- FnExactCountNodes answers true for every pattern: the program's CountNodes and the reference's add the same numbers in the same order, and the argument reads as before. Conditions: none beyond the statement's own. -/
import Derived.Test.YtiebkcikmnbajaaPFnExactCountNodesx3
namespace Go.Proofs.Ytiebkcikmnbajaa.Pure
open Go.RowKit Go.Proofs.Ytiebkcikmnbajaa.PFnExactCountNodes Go.Proofs.YtiebkcikmnbajaaW.PrintWords Go.Proofs.YtiebkcikmnbajaaW.PrintLast
namespace CountNodes
-- the tree type Pattern: szPattern, toPattern, eqPattern (S65: as it comes in; S70: the program's)
mutual
def convPattern : S65 → S70
  | ⟨a, b, c, d⟩ => ⟨a, b, c, convPatternS d⟩
def convPatternS : List S65 → List S70
  | [] => []
  | x :: xs => convPattern x :: convPatternS xs
end
mutual
def sizePattern : S65 → Nat
  | ⟨_, _, c, d⟩ => c.size + (d.length + sizePatternS d)
def sizePatternS : List S65 → Nat
  | [] => 0
  | x :: xs => sizePattern x + sizePatternS xs
end
theorem convPattern_f0 (x : S65) : (convPattern x).f0 = x.f0 := by cases x; simp [convPattern]
theorem convPattern_f1 (x : S65) : (convPattern x).f1 = x.f1 := by cases x; simp [convPattern]
theorem convPattern_f2 (x : S65) : (convPattern x).f2 = x.f2 := by cases x; simp [convPattern]
theorem convPattern_f3 (x : S65) : (convPattern x).f3 = convPatternS x.f3 := by cases x; simp [convPattern]
theorem sizePattern_eq (x : S65) : sizePattern x = x.f2.size + (x.f3.length + sizePatternS x.f3) := by cases x; simp [sizePattern]
theorem sizePatternS_nil : sizePatternS ([] : List S65) = 0 := by simp [sizePatternS]
theorem sizePatternS_cons (y : S65) (s : List S65) : sizePatternS (y :: s) = sizePattern y + sizePatternS s := by simp [sizePatternS]
theorem convPatternS_map (l : List S65) : convPatternS l = l.map convPattern := by
  induction l with
  | nil => rfl
  | cons x l ih => simp [convPatternS, ih]
theorem convPatternS_length (l : List S65) : (convPatternS l).length = l.length := by rw [convPatternS_map, List.length_map]
theorem rd65_at (l : List S65) (i : Nat) (x : S65) (s : List S65) (h : l.drop i = x :: s) : i < l.length ∧ rd_T65 l (i : Int) = x ∧ l.drop (i + 1) = s := by
  have h1 : i < l.length := by
    rcases Nat.lt_or_ge i l.length with h2 | h2
    · exact h2
    · rw [List.drop_eq_nil_of_le h2] at h
      cases h
  rw [List.drop_eq_getElem_cons h1] at h
  injection h with h2 h3
  refine ⟨h1, ?_, h3⟩
  unfold rd_T65
  rw [List.getD_eq_getElem?_getD, Int.toNat_natCast, List.getElem?_eq_getElem h1]
  exact h2
theorem rd70_at (l : List S70) (i : Nat) (x : S70) (s : List S70) (h : l.drop i = x :: s) : i < l.length ∧ rd_T70 l (i : Int) = x ∧ l.drop (i + 1) = s := by
  have h1 : i < l.length := by
    rcases Nat.lt_or_ge i l.length with h2 | h2
    · exact h2
    · rw [List.drop_eq_nil_of_le h2] at h
      cases h
  rw [List.drop_eq_getElem_cons h1] at h
  injection h with h2 h3
  refine ⟨h1, ?_, h3⟩
  unfold rd_T70
  rw [List.getD_eq_getElem?_getD, Int.toNat_natCast, List.getElem?_eq_getElem h1]
  exact h2
theorem drop65_end (l : List S65) (i : Nat) (h : l.drop i = []) (hi : i ≤ l.length) : i = l.length := by
  have := congrArg List.length h
  simp at this
  omega
theorem drop70_end (l : List S70) (i : Nat) (h : l.drop i = []) (hi : i ≤ l.length) : i = l.length := by
  have := congrArg List.length h
  simp at this
  omega
theorem eta70 (x : S70) : (⟨x.f0, x.f1, x.f2, x.f3⟩ : S70) = x := by cases x; rfl
theorem wrapiPattern (i n : Nat) (h : i < n) (hn : n ≤ 9223372036854775807) : wrap64 ((i : Int) + 1) = ((i + 1 : Nat) : Int) := by unfold wrap64; omega

theorem szPattern_loop (l : List S65) (hl : l.length ≤ 9223372036854775807) (s : List S65) : ∀ (i : Nat) (left : Int), i ≤ l.length → l.drop i = s →
    (∀ y, y ∈ s → ∀ left : Int, 0 ≤ left → left ≤ 1048576 → Ev (fun k => laws_szPattern.f k y.f0 y.f1 y.f2 y.f3 left) (if (sizePattern y : Int) ≤ left then left - sizePattern y else -1)) →
    0 ≤ left → left ≤ 1048576 → Ev (fun k => laws_szPatternS.l0 k l left (i : Int)) (if (sizePatternS s : Int) ≤ left then left - sizePatternS s else -1) := by
  induction s with
  | nil =>
    intro i left hi hd _ h0 h1
    have := drop65_end l i hd hi
    refine Ev.step (f := fun _ => some left) (fun k => ?_) ?_
    · simp only [laws_szPatternS.l0]
      rw [if_neg (by omega)]
    · rw [sizePatternS_nil, if_pos (by simpa using h0)]
      simpa using Ev.now left
  | cons y s ih =>
    intro i left hi hd hy h0 h1
    obtain ⟨hlt, hrd, hd'⟩ := rd65_at l i y s hd
    have e := hy y List.mem_cons_self left h0 h1
    by_cases hs : (sizePattern y : Int) ≤ left
    · rw [if_pos hs] at e
      have r := ih (i + 1) (left - sizePattern y) (by omega) hd' (fun z hz => hy z (List.mem_cons_of_mem _ hz)) (by omega) (by omega)
      refine Ev.step (f := fun k => (laws_szPattern.f k y.f0 y.f1 y.f2 y.f3 left).bind fun t => if t < 0 then some (-1) else laws_szPatternS.l0 k l t ((i + 1 : Nat) : Int)) (fun k => ?_) ?_
      · simp only [laws_szPatternS.l0]
        rw [if_pos (by omega), if_pos (by omega), hrd, wrapiPattern i l.length hlt hl]
      · refine Ev.bind e ?_
        refine Ev.congr (f := fun k => laws_szPatternS.l0 k l (left - sizePattern y) ((i + 1 : Nat) : Int)) (fun k => by rw [if_neg (by omega)]) ?_
        have e3 : (if (sizePatternS (y :: s) : Int) ≤ left then left - (sizePatternS (y :: s) : Int) else -1) = if (sizePatternS s : Int) ≤ left - sizePattern y then left - sizePattern y - sizePatternS s else -1 := by
          rw [sizePatternS_cons]
          split <;> split <;> omega
        rw [e3]
        exact r
    · rw [if_neg hs] at e
      refine Ev.step (f := fun k => (laws_szPattern.f k y.f0 y.f1 y.f2 y.f3 left).bind fun t => if t < 0 then some (-1) else laws_szPatternS.l0 k l t ((i + 1 : Nat) : Int)) (fun k => ?_) ?_
      · simp only [laws_szPatternS.l0]
        rw [if_pos (by omega), if_pos (by omega), hrd, wrapiPattern i l.length hlt hl]
      · refine Ev.bind e ?_
        rw [if_neg (by rw [sizePatternS_cons]; omega)]
        exact Ev.congr (f := fun _ => some (-1)) (fun k => by rw [if_pos (by omega)]) (Ev.now _)

theorem szPattern_ev (x : S65) (g : G65 x) : ∀ left : Int, 0 ≤ left → left ≤ 1048576 → Ev (fun k => laws_szPattern.f k x.f0 x.f1 x.f2 x.f3 left) (if (sizePattern x : Int) ≤ left then left - sizePattern x else -1) := by
  induction g with
  | mk x h0 h1 h2 h3 h3k ih =>
    intro left hl0 hl1
    have w1 : wrap64 (left - (x.f2.size : Int)) = left - x.f2.size := by unfold wrap64; omega
    by_cases hs : left - (x.f2.size : Int) < 0
    · rw [if_neg (by rw [sizePattern_eq]; omega)]
      refine Ev.step (f := fun _ => some (-1)) (fun k => ?_) (Ev.now _)
      simp only [laws_szPattern.f]
      rw [w1, if_pos hs]
    · refine Ev.step (f := fun k => (laws_szPatternS.f k x.f3 (left - x.f2.size)).bind fun t => if t < 0 then some (-1) else some t) (fun k => ?_) ?_
      · simp only [laws_szPattern.f]
        rw [w1, if_neg hs]
      · have w2 : wrap64 (left - (x.f2.size : Int) - (x.f3.length : Int)) = left - x.f2.size - x.f3.length := by unfold wrap64; omega
        have e : Ev (fun k => laws_szPatternS.f k x.f3 (left - x.f2.size)) (if (sizePattern x : Int) ≤ left then left - sizePattern x else -1) := by
          by_cases hs2 : left - (x.f2.size : Int) - x.f3.length < 0
          · rw [if_neg (by rw [sizePattern_eq]; omega)]
            refine Ev.step (f := fun _ => some (-1)) (fun k => ?_) (Ev.now _)
            simp only [laws_szPatternS.f]
            rw [w2, if_pos hs2]
          · refine Ev.step (f := fun k => laws_szPatternS.l0 k x.f3 (left - x.f2.size - x.f3.length) ((0 : Nat) : Int)) (fun k => ?_) ?_
            · simp only [laws_szPatternS.f]
              rw [w2, if_neg hs2]
              rfl
            · have r := szPattern_loop x.f3 h3 x.f3 0 (left - x.f2.size - x.f3.length) (by omega) rfl ih (by omega) (by omega)
              have e3 : (if (sizePattern x : Int) ≤ left then left - (sizePattern x : Int) else -1) = if (sizePatternS x.f3 : Int) ≤ left - x.f2.size - x.f3.length then left - x.f2.size - x.f3.length - sizePatternS x.f3 else -1 := by
                rw [sizePattern_eq]
                split <;> split <;> omega
              rw [e3]
              exact r
        refine Ev.bind e ?_
        by_cases hz : (sizePattern x : Int) ≤ left
        · rw [if_pos hz]
          exact Ev.congr (f := fun _ => some (left - sizePattern x)) (fun k => by rw [if_neg (by omega)]) (Ev.now _)
        · rw [if_neg hz]
          exact Ev.congr (f := fun _ => some (-1)) (fun k => by rw [if_pos (by omega)]) (Ev.now _)

theorem toPattern_loop (l : List S65) (hl : l.length ≤ 9223372036854775807) (s : List S65) : ∀ (i : Nat) (out : List S70), i ≤ l.length → l.drop i = s → out.length = l.length → out.take i = (convPatternS l).take i →
    (∀ y, y ∈ s → Ev (fun k => laws_toPattern.f k y.f0 y.f1 y.f2 y.f3) ((convPattern y).f0, (convPattern y).f1, (convPattern y).f2, (convPattern y).f3)) →
    Ev (fun k => laws_toPatternS.l0 k l out (i : Int)) (convPatternS l) := by
  induction s with
  | nil =>
    intro i out hi hd ho ht _
    have hi2 := drop65_end l i hd hi
    have e : out = convPatternS l := by
      rw [List.take_of_length_le (by omega), List.take_of_length_le (by rw [convPatternS_length]; omega)] at ht
      exact ht
    refine Ev.step (f := fun _ => some out) (fun k => ?_) (e ▸ Ev.now out)
    simp only [laws_toPatternS.l0]
    rw [if_neg (by omega)]
  | cons y s ih =>
    intro i out hi hd ho ht hy
    obtain ⟨hlt, hrd, hd'⟩ := rd65_at l i y s hd
    have e := hy y List.mem_cons_self
    have hly : (convPatternS l)[i]? = some (convPattern y) := by
      rw [convPatternS_map, List.getElem?_map]
      have : l[i]? = some y := by
        have := congrArg List.head? hd
        simpa [List.head?_drop] using this
      rw [this]
      rfl
    have r := ih (i + 1) (out.set i (convPattern y)) (by omega) hd' (by rw [List.length_set]; exact ho) (by
      rw [List.take_add_one, List.take_add_one, hly, List.take_set_of_le (Nat.le_refl _), ht, List.getElem?_set_self (by omega)]) (fun z hz => hy z (List.mem_cons_of_mem _ hz))
    refine Ev.step (f := fun k => (laws_toPattern.f k y.f0 y.f1 y.f2 y.f3).bind fun b => if (i : Int) < (out.length : Int) then laws_toPatternS.l0 k l (out.set ((i : Int) : Int).toNat (⟨b.1, b.2.1, b.2.2.1, b.2.2.2⟩ : S70)) ((i + 1 : Nat) : Int) else none) (fun k => ?_) ?_
    · simp only [laws_toPatternS.l0]
      rw [if_pos (by omega), if_pos (by omega), hrd, wrapiPattern i l.length hlt hl]
    · refine Ev.bind e ?_
      refine Ev.congr (f := fun k => laws_toPatternS.l0 k l (out.set i (convPattern y)) ((i + 1 : Nat) : Int)) (fun k => ?_) r
      rw [if_pos (by omega), Int.toNat_natCast]
      show laws_toPatternS.l0 k l (out.set i (⟨(convPattern y).f0, (convPattern y).f1, (convPattern y).f2, (convPattern y).f3⟩ : S70)) _ = _
      rw [eta70]

theorem toPattern_ev (x : S65) (g : G65 x) : sizePattern x ≤ 1048576 → Ev (fun k => laws_toPattern.f k x.f0 x.f1 x.f2 x.f3) ((convPattern x).f0, (convPattern x).f1, (convPattern x).f2, (convPattern x).f3) := by
  induction g with
  | mk x h0 h1 h2 h3 h3k ih =>
    intro hsz
    rw [sizePattern_eq] at hsz
    have hmem : ∀ y, y ∈ x.f3 → sizePattern y ≤ sizePatternS x.f3 := by
      have : ∀ (l : List S65) (y : S65), y ∈ l → sizePattern y ≤ sizePatternS l := by
        intro l
        induction l with
        | nil => intro y hy; cases hy
        | cons z l ihl =>
          intro y hy
          simp only [sizePatternS]
          rcases List.mem_cons.1 hy with rfl | hy
          · omega
          · have := ihl y hy; omega
      exact this x.f3
    have e : Ev (fun k => laws_toPatternS.f k x.f3) (convPatternS x.f3) := by
      refine Ev.step (f := fun k => laws_toPatternS.l0 k x.f3 (List.replicate x.f3.length z70) ((0 : Nat) : Int)) (fun k => ?_) ?_
      · simp only [laws_toPatternS.f]
        rw [if_pos (by omega), if_pos (by omega), Int.toNat_natCast]
        rfl
      · exact toPattern_loop x.f3 h3 x.f3 0 _ (by omega) rfl (by simp) (by simp) (fun y hy => ih y hy (by have := hmem y hy; omega))
    refine Ev.step (f := fun k => (laws_toPatternS.f k x.f3).bind fun t => some (x.f0, x.f1, x.f2, t)) (fun k => ?_) ?_
    · simp only [laws_toPattern.f]
    · refine Ev.bind e ?_
      rw [convPattern_f0, convPattern_f1, convPattern_f2, convPattern_f3]
      exact Ev.now _

theorem eqPattern_loop (l : List S70) (hl : l.length ≤ 9223372036854775807) (s : List S70) : ∀ (i : Nat), i ≤ l.length → l.drop i = s →
    (∀ y, y ∈ s → Ev (fun k => laws_eqPattern.f k y.f0 y.f1 y.f2 y.f3 y.f0 y.f1 y.f2 y.f3) true) → Ev (fun k => laws_eqPatternS.l0 k l l (i : Int)) true := by
  induction s with
  | nil =>
    intro i hi hd _
    have hi2 := drop70_end l i hd hi
    refine Ev.step (f := fun _ => some true) (fun k => ?_) (Ev.now true)
    simp only [laws_eqPatternS.l0]
    rw [if_neg (by omega)]
  | cons y s ih =>
    intro i hi hd hy
    obtain ⟨hlt, hrd, hd'⟩ := rd70_at l i y s hd
    refine Ev.step (f := fun k => (laws_eqPattern.f k y.f0 y.f1 y.f2 y.f3 y.f0 y.f1 y.f2 y.f3).bind fun t => if t = true then laws_eqPatternS.l0 k l l ((i + 1 : Nat) : Int) else some false) (fun k => ?_) ?_
    · simp only [laws_eqPatternS.l0]
      rw [if_pos (by omega), if_pos (by omega), if_pos (by omega), hrd, wrapiPattern i l.length hlt hl]
    · refine Ev.bind (hy y List.mem_cons_self) ?_
      refine Ev.congr (f := fun k => laws_eqPatternS.l0 k l l ((i + 1 : Nat) : Int)) (fun k => by rw [if_pos rfl]) ?_
      exact ih (i + 1) (by omega) hd' (fun z hz => hy z (List.mem_cons_of_mem _ hz))

theorem eqPattern_ev (x : S65) (g : G65 x) : Ev (fun k => laws_eqPattern.f k (convPattern x).f0 (convPattern x).f1 (convPattern x).f2 (convPattern x).f3 (convPattern x).f0 (convPattern x).f1 (convPattern x).f2 (convPattern x).f3) true := by
  induction g with
  | mk x h0 h1 h2 h3 h3k ih =>
    have e : Ev (fun k => laws_eqPatternS.f k (convPattern x).f3 (convPattern x).f3) true := by
      refine Ev.step (f := fun k => laws_eqPatternS.l0 k (convPattern x).f3 (convPattern x).f3 ((0 : Nat) : Int)) (fun k => ?_) ?_
      · simp only [laws_eqPatternS.f]
        rw [if_pos trivial]
        rfl
      · refine eqPattern_loop (convPattern x).f3 (by rw [convPattern_f3, convPatternS_length]; exact h3) (convPattern x).f3 0 (by omega) rfl ?_
        intro y hy
        rw [convPattern_f3, convPatternS_map] at hy
        obtain ⟨z, hz, rfl⟩ := List.mem_map.1 hy
        exact ih z hz
    refine Ev.step (f := fun k => (laws_eqPatternS.f k (convPattern x).f3 (convPattern x).f3).bind fun t => if t = true then some true else some false) (fun k => ?_) ?_
    · simp only [laws_eqPattern.f]
      rw [if_pos trivial, if_pos trivial, if_pos trivial]
    · refine Ev.bind e ?_
      exact Ev.congr (f := fun _ => some true) (fun k => by rw [if_pos rfl]) (Ev.now true)
mutual
def count : S70 → Int
  | ⟨_, _, _, d⟩ => countS 1 d
def countS : Int → List S70 → Int
  | n, [] => n
  | n, x :: xs => countS (wrap64 (n + count x)) xs
end
theorem count_eq (x : S70) : count x = countS 1 x.f3 := by cases x; simp [count]
theorem spec_loop (a : Int) (b : Int) (c : ByteArray) (l : List S70) (hl : l.length ≤ 9223372036854775807) (s : List S70) : ∀ (i : Nat) (n : Int), i ≤ l.length → l.drop i = s →
    (∀ y, y ∈ s → Ev (fun k => spec_CountNodes.f k y.f0 y.f1 y.f2 y.f3) (count y)) → Ev (fun k => spec_CountNodes.l0 k n (i : Int) a b c l) (countS n s) := by
  induction s with
  | nil =>
    intro i n hi hd _
    have hi2 := drop70_end l i hd hi
    refine Ev.step (f := fun _ => some n) (fun k => ?_) (by simp only [countS]; exact Ev.now n)
    simp only [spec_CountNodes.l0]
    rw [if_neg (by omega)]
  | cons y s ih =>
    intro i n hi hd hy
    obtain ⟨hlt, hrd, hd'⟩ := rd70_at l i y s hd
    refine Ev.step (f := fun k => (spec_CountNodes.f k y.f0 y.f1 y.f2 y.f3).bind fun t => spec_CountNodes.l0 k (wrap64 (n + t)) ((i + 1 : Nat) : Int) a b c l) (fun k => ?_) ?_
    · simp only [spec_CountNodes.l0]
      rw [if_pos (by omega), if_pos (by omega), hrd, wrapiPattern i l.length hlt hl]
    · refine Ev.bind (hy y List.mem_cons_self) ?_
      simp only [countS]
      exact ih (i + 1) _ (by omega) hd' (fun z hz => hy z (List.mem_cons_of_mem _ hz))
theorem spec_ev (x : S65) (g : G65 x) : Ev (fun k => spec_CountNodes.f k (convPattern x).f0 (convPattern x).f1 (convPattern x).f2 (convPattern x).f3) (count (convPattern x)) := by
  induction g with
  | mk x h0 h1 h2 h3 h3k ih =>
    refine Ev.step (f := fun k => spec_CountNodes.l0 k 1 ((0 : Nat) : Int) (convPattern x).f0 (convPattern x).f1 (convPattern x).f2 (convPattern x).f3) (fun k => by simp only [spec_CountNodes.f]; rfl) ?_
    rw [count_eq]
    refine spec_loop _ _ _ _ (by rw [convPattern_f3, convPatternS_length]; exact h3) (convPattern x).f3 0 1 (by omega) rfl ?_
    intro y hy
    rw [convPattern_f3, convPatternS_map] at hy
    obtain ⟨z, hz, rfl⟩ := List.mem_map.1 hy
    exact ih z hz
theorem impl_loop (l : List S70) (hl : l.length ≤ 9223372036854775807) (s : List S70) : ∀ (i : Nat) (n : Int), i ≤ l.length → l.drop i = s →
    (∀ y, y ∈ s → Ev (fun k => impl_CountNodes.f k y.f0 y.f1 y.f2 y.f3) (count y)) → Ev (fun k => impl_CountNodes.l0 k n l (l.length : Int) (i : Int)) (countS n s) := by
  induction s with
  | nil =>
    intro i n hi hd _
    have hi2 := drop70_end l i hd hi
    refine Ev.step (f := fun _ => some n) (fun k => ?_) (by simp only [countS]; exact Ev.now n)
    simp only [impl_CountNodes.l0]
    rw [if_neg (by omega)]
  | cons y s ih =>
    intro i n hi hd hy
    obtain ⟨hlt, hrd, hd'⟩ := rd70_at l i y s hd
    refine Ev.step (f := fun k => (impl_CountNodes.f k y.f0 y.f1 y.f2 y.f3).bind fun t => impl_CountNodes.l0 k (wrap64 (n + t)) l (l.length : Int) ((i + 1 : Nat) : Int)) (fun k => ?_) ?_
    · simp only [impl_CountNodes.l0]
      rw [if_pos (by omega), if_pos (by omega), if_pos (by omega), hrd, wrapiPattern i l.length hlt hl]
    · refine Ev.bind (hy y List.mem_cons_self) ?_
      simp only [countS]
      exact ih (i + 1) _ (by omega) hd' (fun z hz => hy z (List.mem_cons_of_mem _ hz))
theorem impl_ev (x : S65) (g : G65 x) : Ev (fun k => impl_CountNodes.f k (convPattern x).f0 (convPattern x).f1 (convPattern x).f2 (convPattern x).f3) (count (convPattern x)) := by
  induction g with
  | mk x h0 h1 h2 h3 h3k ih =>
    refine Ev.step (f := fun k => impl_CountNodes.l0 k 1 (convPattern x).f3 ((convPattern x).f3.length : Int) ((0 : Nat) : Int)) (fun k => by simp only [impl_CountNodes.f]; rfl) ?_
    rw [count_eq]
    refine impl_loop _ (by rw [convPattern_f3, convPatternS_length]; exact h3) (convPattern x).f3 0 1 (by omega) rfl ?_
    intro y hy
    rw [convPattern_f3, convPatternS_map] at hy
    obtain ⟨z, hz, rfl⟩ := List.mem_map.1 hy
    exact ih z hz
end CountNodes
open CountNodes in
theorem FnExactCountNodes : laws_FnExactCountNodes.Pure := by
  intro x g
  apply Ev.rounds
  have e := szPattern_ev x g 1048576 (by omega) (by omega)
  unfold laws_FnExactCountNodes.f
  refine Ev.bind e ?_
  by_cases h : (sizePattern x : Int) ≤ 1048576
  · rw [if_pos h]
    refine Ev.congr (f := _) (fun k => by rw [if_neg (by omega)]) ?_
    have t := toPattern_ev x g (by omega)
    refine Ev.bind t (Ev.bind (spec_ev x g) (Ev.bind t (Ev.bind (impl_ev x g) ?_)))
    refine Ev.congr (f := _) (fun k => by rw [if_pos rfl]) ?_
    refine Ev.bind t (Ev.bind (eqPattern_ev x g) ?_)
    exact Ev.congr (f := fun _ => some true) (fun k => by rw [if_pos rfl]) (Ev.now true)
  · rw [if_neg h]
    exact Ev.congr (f := fun _ => some true) (fun k => by rw [if_pos (by omega)]) (Ev.now true)
end Go.Proofs.Ytiebkcikmnbajaa.Pure
