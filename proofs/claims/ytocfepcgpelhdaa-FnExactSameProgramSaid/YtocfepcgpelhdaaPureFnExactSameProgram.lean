/- FnExactSameProgram answers true for every two programs: the program's SameProgram (slices.EqualFunc over the statements) and the reference's (a loop) both tell that they are the same, and the arguments read as before. Conditions: none beyond the statement's own. -/
import Derived.Test.YtocfepcgpelhdaaPFnExactSameProgramx8
namespace Go.Proofs.Ytocfepcgpelhdaa.Pure
open Go.RowKit Go.Proofs.Ytocfepcgpelhdaa.PFnExactSameProgram Go.Proofs.YtocfepcgpelhdaaW.PrintWords Go.Proofs.YtocfepcgpelhdaaW.PrintLast
namespace SameProgram
-- the tree type Expr: szExpr, toExpr, eqExpr (S24: as it comes in; S33: the program's)
mutual
def convExpr : S24 → S33
  | ⟨a, b, c, d⟩ => ⟨a, b, c, convExprS d⟩
def convExprS : List S24 → List S33
  | [] => []
  | x :: xs => convExpr x :: convExprS xs
end
mutual
def sizeExpr : S24 → Nat
  | ⟨_, _, c, d⟩ => c.size + (d.length + sizeExprS d)
def sizeExprS : List S24 → Nat
  | [] => 0
  | x :: xs => sizeExpr x + sizeExprS xs
end
theorem convExpr_f0 (x : S24) : (convExpr x).f0 = x.f0 := by cases x; simp [convExpr]
theorem convExpr_f1 (x : S24) : (convExpr x).f1 = x.f1 := by cases x; simp [convExpr]
theorem convExpr_f2 (x : S24) : (convExpr x).f2 = x.f2 := by cases x; simp [convExpr]
theorem convExpr_f3 (x : S24) : (convExpr x).f3 = convExprS x.f3 := by cases x; simp [convExpr]
theorem sizeExpr_eq (x : S24) : sizeExpr x = x.f2.size + (x.f3.length + sizeExprS x.f3) := by cases x; simp [sizeExpr]
theorem sizeExprS_nil : sizeExprS ([] : List S24) = 0 := by simp [sizeExprS]
theorem sizeExprS_cons (y : S24) (s : List S24) : sizeExprS (y :: s) = sizeExpr y + sizeExprS s := by simp [sizeExprS]
theorem convExprS_map (l : List S24) : convExprS l = l.map convExpr := by
  induction l with
  | nil => rfl
  | cons x l ih => simp [convExprS, ih]
theorem convExprS_length (l : List S24) : (convExprS l).length = l.length := by rw [convExprS_map, List.length_map]
theorem rd24_at (l : List S24) (i : Nat) (x : S24) (s : List S24) (h : l.drop i = x :: s) : i < l.length ∧ rd_T24 l (i : Int) = x ∧ l.drop (i + 1) = s := by
  have h1 : i < l.length := by
    rcases Nat.lt_or_ge i l.length with h2 | h2
    · exact h2
    · rw [List.drop_eq_nil_of_le h2] at h
      cases h
  rw [List.drop_eq_getElem_cons h1] at h
  injection h with h2 h3
  refine ⟨h1, ?_, h3⟩
  unfold rd_T24
  rw [List.getD_eq_getElem?_getD, Int.toNat_natCast, List.getElem?_eq_getElem h1]
  exact h2
theorem rd33_at (l : List S33) (i : Nat) (x : S33) (s : List S33) (h : l.drop i = x :: s) : i < l.length ∧ rd_T33 l (i : Int) = x ∧ l.drop (i + 1) = s := by
  have h1 : i < l.length := by
    rcases Nat.lt_or_ge i l.length with h2 | h2
    · exact h2
    · rw [List.drop_eq_nil_of_le h2] at h
      cases h
  rw [List.drop_eq_getElem_cons h1] at h
  injection h with h2 h3
  refine ⟨h1, ?_, h3⟩
  unfold rd_T33
  rw [List.getD_eq_getElem?_getD, Int.toNat_natCast, List.getElem?_eq_getElem h1]
  exact h2
theorem drop24_end (l : List S24) (i : Nat) (h : l.drop i = []) (hi : i ≤ l.length) : i = l.length := by
  have := congrArg List.length h
  simp at this
  omega
theorem drop33_end (l : List S33) (i : Nat) (h : l.drop i = []) (hi : i ≤ l.length) : i = l.length := by
  have := congrArg List.length h
  simp at this
  omega
theorem eta33 (x : S33) : (⟨x.f0, x.f1, x.f2, x.f3⟩ : S33) = x := by cases x; rfl
theorem wrapiExpr (i n : Nat) (h : i < n) (hn : n ≤ 9223372036854775807) : wrap64 ((i : Int) + 1) = ((i + 1 : Nat) : Int) := by unfold wrap64; omega

theorem szExpr_loop (l : List S24) (hl : l.length ≤ 9223372036854775807) (s : List S24) : ∀ (i : Nat) (left : Int), i ≤ l.length → l.drop i = s →
    (∀ y, y ∈ s → ∀ left : Int, 0 ≤ left → left ≤ 1048576 → Ev (fun k => laws_szExpr.f k y.f0 y.f1 y.f2 y.f3 left) (if (sizeExpr y : Int) ≤ left then left - sizeExpr y else -1)) →
    0 ≤ left → left ≤ 1048576 → Ev (fun k => laws_szExprS.l0 k l left (i : Int)) (if (sizeExprS s : Int) ≤ left then left - sizeExprS s else -1) := by
  induction s with
  | nil =>
    intro i left hi hd _ h0 h1
    have := drop24_end l i hd hi
    refine Ev.step (f := fun _ => some left) (fun k => ?_) ?_
    · simp only [laws_szExprS.l0]
      rw [if_neg (by omega)]
    · rw [sizeExprS_nil, if_pos (by simpa using h0)]
      simpa using Ev.now left
  | cons y s ih =>
    intro i left hi hd hy h0 h1
    obtain ⟨hlt, hrd, hd'⟩ := rd24_at l i y s hd
    have e := hy y List.mem_cons_self left h0 h1
    by_cases hs : (sizeExpr y : Int) ≤ left
    · rw [if_pos hs] at e
      have r := ih (i + 1) (left - sizeExpr y) (by omega) hd' (fun z hz => hy z (List.mem_cons_of_mem _ hz)) (by omega) (by omega)
      refine Ev.step (f := fun k => (laws_szExpr.f k y.f0 y.f1 y.f2 y.f3 left).bind fun t => if t < 0 then some (-1) else laws_szExprS.l0 k l t ((i + 1 : Nat) : Int)) (fun k => ?_) ?_
      · simp only [laws_szExprS.l0]
        rw [if_pos (by omega), if_pos (by omega), hrd, wrapiExpr i l.length hlt hl]
      · refine Ev.bind e ?_
        refine Ev.congr (f := fun k => laws_szExprS.l0 k l (left - sizeExpr y) ((i + 1 : Nat) : Int)) (fun k => by rw [if_neg (by omega)]) ?_
        have e3 : (if (sizeExprS (y :: s) : Int) ≤ left then left - (sizeExprS (y :: s) : Int) else -1) = if (sizeExprS s : Int) ≤ left - sizeExpr y then left - sizeExpr y - sizeExprS s else -1 := by
          rw [sizeExprS_cons]
          split <;> split <;> omega
        rw [e3]
        exact r
    · rw [if_neg hs] at e
      refine Ev.step (f := fun k => (laws_szExpr.f k y.f0 y.f1 y.f2 y.f3 left).bind fun t => if t < 0 then some (-1) else laws_szExprS.l0 k l t ((i + 1 : Nat) : Int)) (fun k => ?_) ?_
      · simp only [laws_szExprS.l0]
        rw [if_pos (by omega), if_pos (by omega), hrd, wrapiExpr i l.length hlt hl]
      · refine Ev.bind e ?_
        rw [if_neg (by rw [sizeExprS_cons]; omega)]
        exact Ev.congr (f := fun _ => some (-1)) (fun k => by rw [if_pos (by omega)]) (Ev.now _)

theorem szExpr_ev (x : S24) (g : G24 x) : ∀ left : Int, 0 ≤ left → left ≤ 1048576 → Ev (fun k => laws_szExpr.f k x.f0 x.f1 x.f2 x.f3 left) (if (sizeExpr x : Int) ≤ left then left - sizeExpr x else -1) := by
  induction g with
  | mk x h0 h1 h2 h3 h3k ih =>
    intro left hl0 hl1
    have w1 : wrap64 (left - (x.f2.size : Int)) = left - x.f2.size := by unfold wrap64; omega
    by_cases hs : left - (x.f2.size : Int) < 0
    · rw [if_neg (by rw [sizeExpr_eq]; omega)]
      refine Ev.step (f := fun _ => some (-1)) (fun k => ?_) (Ev.now _)
      simp only [laws_szExpr.f]
      rw [w1, if_pos hs]
    · refine Ev.step (f := fun k => (laws_szExprS.f k x.f3 (left - x.f2.size)).bind fun t => if t < 0 then some (-1) else some t) (fun k => ?_) ?_
      · simp only [laws_szExpr.f]
        rw [w1, if_neg hs]
      · have w2 : wrap64 (left - (x.f2.size : Int) - (x.f3.length : Int)) = left - x.f2.size - x.f3.length := by unfold wrap64; omega
        have e : Ev (fun k => laws_szExprS.f k x.f3 (left - x.f2.size)) (if (sizeExpr x : Int) ≤ left then left - sizeExpr x else -1) := by
          by_cases hs2 : left - (x.f2.size : Int) - x.f3.length < 0
          · rw [if_neg (by rw [sizeExpr_eq]; omega)]
            refine Ev.step (f := fun _ => some (-1)) (fun k => ?_) (Ev.now _)
            simp only [laws_szExprS.f]
            rw [w2, if_pos hs2]
          · refine Ev.step (f := fun k => laws_szExprS.l0 k x.f3 (left - x.f2.size - x.f3.length) ((0 : Nat) : Int)) (fun k => ?_) ?_
            · simp only [laws_szExprS.f]
              rw [w2, if_neg hs2]
              rfl
            · have r := szExpr_loop x.f3 h3 x.f3 0 (left - x.f2.size - x.f3.length) (by omega) rfl ih (by omega) (by omega)
              have e3 : (if (sizeExpr x : Int) ≤ left then left - (sizeExpr x : Int) else -1) = if (sizeExprS x.f3 : Int) ≤ left - x.f2.size - x.f3.length then left - x.f2.size - x.f3.length - sizeExprS x.f3 else -1 := by
                rw [sizeExpr_eq]
                split <;> split <;> omega
              rw [e3]
              exact r
        refine Ev.bind e ?_
        by_cases hz : (sizeExpr x : Int) ≤ left
        · rw [if_pos hz]
          exact Ev.congr (f := fun _ => some (left - sizeExpr x)) (fun k => by rw [if_neg (by omega)]) (Ev.now _)
        · rw [if_neg hz]
          exact Ev.congr (f := fun _ => some (-1)) (fun k => by rw [if_pos (by omega)]) (Ev.now _)

theorem toExpr_loop (l : List S24) (hl : l.length ≤ 9223372036854775807) (s : List S24) : ∀ (i : Nat) (out : List S33), i ≤ l.length → l.drop i = s → out.length = l.length → out.take i = (convExprS l).take i →
    (∀ y, y ∈ s → Ev (fun k => laws_toExpr.f k y.f0 y.f1 y.f2 y.f3) ((convExpr y).f0, (convExpr y).f1, (convExpr y).f2, (convExpr y).f3)) →
    Ev (fun k => laws_toExprS.l0 k l out (i : Int)) (convExprS l) := by
  induction s with
  | nil =>
    intro i out hi hd ho ht _
    have hi2 := drop24_end l i hd hi
    have e : out = convExprS l := by
      rw [List.take_of_length_le (by omega), List.take_of_length_le (by rw [convExprS_length]; omega)] at ht
      exact ht
    refine Ev.step (f := fun _ => some out) (fun k => ?_) (e ▸ Ev.now out)
    simp only [laws_toExprS.l0]
    rw [if_neg (by omega)]
  | cons y s ih =>
    intro i out hi hd ho ht hy
    obtain ⟨hlt, hrd, hd'⟩ := rd24_at l i y s hd
    have e := hy y List.mem_cons_self
    have hly : (convExprS l)[i]? = some (convExpr y) := by
      rw [convExprS_map, List.getElem?_map]
      have : l[i]? = some y := by
        have := congrArg List.head? hd
        simpa [List.head?_drop] using this
      rw [this]
      rfl
    have r := ih (i + 1) (out.set i (convExpr y)) (by omega) hd' (by rw [List.length_set]; exact ho) (by
      rw [List.take_add_one, List.take_add_one, hly, List.take_set_of_le (Nat.le_refl _), ht, List.getElem?_set_self (by omega)]) (fun z hz => hy z (List.mem_cons_of_mem _ hz))
    refine Ev.step (f := fun k => (laws_toExpr.f k y.f0 y.f1 y.f2 y.f3).bind fun b => if (i : Int) < (out.length : Int) then laws_toExprS.l0 k l (out.set ((i : Int) : Int).toNat (⟨b.1, b.2.1, b.2.2.1, b.2.2.2⟩ : S33)) ((i + 1 : Nat) : Int) else none) (fun k => ?_) ?_
    · simp only [laws_toExprS.l0]
      rw [if_pos (by omega), if_pos (by omega), hrd, wrapiExpr i l.length hlt hl]
    · refine Ev.bind e ?_
      refine Ev.congr (f := fun k => laws_toExprS.l0 k l (out.set i (convExpr y)) ((i + 1 : Nat) : Int)) (fun k => ?_) r
      rw [if_pos (by omega), Int.toNat_natCast]
      show laws_toExprS.l0 k l (out.set i (⟨(convExpr y).f0, (convExpr y).f1, (convExpr y).f2, (convExpr y).f3⟩ : S33)) _ = _
      rw [eta33]

theorem toExpr_ev (x : S24) (g : G24 x) : sizeExpr x ≤ 1048576 → Ev (fun k => laws_toExpr.f k x.f0 x.f1 x.f2 x.f3) ((convExpr x).f0, (convExpr x).f1, (convExpr x).f2, (convExpr x).f3) := by
  induction g with
  | mk x h0 h1 h2 h3 h3k ih =>
    intro hsz
    rw [sizeExpr_eq] at hsz
    have hmem : ∀ y, y ∈ x.f3 → sizeExpr y ≤ sizeExprS x.f3 := by
      have : ∀ (l : List S24) (y : S24), y ∈ l → sizeExpr y ≤ sizeExprS l := by
        intro l
        induction l with
        | nil => intro y hy; cases hy
        | cons z l ihl =>
          intro y hy
          simp only [sizeExprS]
          rcases List.mem_cons.1 hy with rfl | hy
          · omega
          · have := ihl y hy; omega
      exact this x.f3
    have e : Ev (fun k => laws_toExprS.f k x.f3) (convExprS x.f3) := by
      refine Ev.step (f := fun k => laws_toExprS.l0 k x.f3 (List.replicate x.f3.length z33) ((0 : Nat) : Int)) (fun k => ?_) ?_
      · simp only [laws_toExprS.f]
        rw [if_pos (by omega), if_pos (by omega), Int.toNat_natCast]
        rfl
      · exact toExpr_loop x.f3 h3 x.f3 0 _ (by omega) rfl (by simp) (by simp) (fun y hy => ih y hy (by have := hmem y hy; omega))
    refine Ev.step (f := fun k => (laws_toExprS.f k x.f3).bind fun t => some (x.f0, x.f1, x.f2, t)) (fun k => ?_) ?_
    · simp only [laws_toExpr.f]
    · refine Ev.bind e ?_
      rw [convExpr_f0, convExpr_f1, convExpr_f2, convExpr_f3]
      exact Ev.now _

theorem eqExpr_loop (l : List S33) (hl : l.length ≤ 9223372036854775807) (s : List S33) : ∀ (i : Nat), i ≤ l.length → l.drop i = s →
    (∀ y, y ∈ s → Ev (fun k => laws_eqExpr.f k y.f0 y.f1 y.f2 y.f3 y.f0 y.f1 y.f2 y.f3) true) → Ev (fun k => laws_eqExprS.l0 k l l (i : Int)) true := by
  induction s with
  | nil =>
    intro i hi hd _
    have hi2 := drop33_end l i hd hi
    refine Ev.step (f := fun _ => some true) (fun k => ?_) (Ev.now true)
    simp only [laws_eqExprS.l0]
    rw [if_neg (by omega)]
  | cons y s ih =>
    intro i hi hd hy
    obtain ⟨hlt, hrd, hd'⟩ := rd33_at l i y s hd
    refine Ev.step (f := fun k => (laws_eqExpr.f k y.f0 y.f1 y.f2 y.f3 y.f0 y.f1 y.f2 y.f3).bind fun t => if t = true then laws_eqExprS.l0 k l l ((i + 1 : Nat) : Int) else some false) (fun k => ?_) ?_
    · simp only [laws_eqExprS.l0]
      rw [if_pos (by omega), if_pos (by omega), if_pos (by omega), hrd, wrapiExpr i l.length hlt hl]
    · refine Ev.bind (hy y List.mem_cons_self) ?_
      refine Ev.congr (f := fun k => laws_eqExprS.l0 k l l ((i + 1 : Nat) : Int)) (fun k => by rw [if_pos rfl]) ?_
      exact ih (i + 1) (by omega) hd' (fun z hz => hy z (List.mem_cons_of_mem _ hz))

theorem eqExpr_ev (x : S24) (g : G24 x) : Ev (fun k => laws_eqExpr.f k (convExpr x).f0 (convExpr x).f1 (convExpr x).f2 (convExpr x).f3 (convExpr x).f0 (convExpr x).f1 (convExpr x).f2 (convExpr x).f3) true := by
  induction g with
  | mk x h0 h1 h2 h3 h3k ih =>
    have e : Ev (fun k => laws_eqExprS.f k (convExpr x).f3 (convExpr x).f3) true := by
      refine Ev.step (f := fun k => laws_eqExprS.l0 k (convExpr x).f3 (convExpr x).f3 ((0 : Nat) : Int)) (fun k => ?_) ?_
      · simp only [laws_eqExprS.f]
        rw [if_pos trivial]
        rfl
      · refine eqExpr_loop (convExpr x).f3 (by rw [convExpr_f3, convExprS_length]; exact h3) (convExpr x).f3 0 (by omega) rfl ?_
        intro y hy
        rw [convExpr_f3, convExprS_map] at hy
        obtain ⟨z, hz, rfl⟩ := List.mem_map.1 hy
        exact ih z hz
    refine Ev.step (f := fun k => (laws_eqExprS.f k (convExpr x).f3 (convExpr x).f3).bind fun t => if t = true then some true else some false) (fun k => ?_) ?_
    · simp only [laws_eqExpr.f]
      rw [if_pos trivial, if_pos trivial, if_pos trivial]
    · refine Ev.bind e ?_
      exact Ev.congr (f := fun _ => some true) (fun k => by rw [if_pos rfl]) (Ev.now true)

/-- A tree of the program's type whose numbers and sizes fit. -/
inductive FineExpr : S33 → Prop where
  | mk (x : S33) (h0 : (Lit.int .i64 x.f0).wf = true) (h1 : (Lit.int .i64 x.f1).wf = true) (h2 : x.f2.size ≤ 9223372036854775807) (h3 : x.f3.length ≤ 9223372036854775807) (h3k : ∀ y, y ∈ x.f3 → FineExpr y) : FineExpr x
theorem FineExpr.kids {x : S33} (h : FineExpr x) : x.f3.length ≤ 9223372036854775807 ∧ ∀ y, y ∈ x.f3 → FineExpr y := by
  cases h with
  | mk x h0 h1 h2 h3 h3k => exact ⟨h3, h3k⟩
theorem fineExpr_conv (x : S24) (g : G24 x) : FineExpr (convExpr x) := by
  induction g with
  | mk x h0 h1 h2 h3 h3k ih =>
    refine FineExpr.mk _ (by rw [convExpr_f0]; exact h0) (by rw [convExpr_f1]; exact h1) (by rw [convExpr_f2]; exact h2) (by rw [convExpr_f3, convExprS_length]; exact h3) ?_
    intro y hy
    rw [convExpr_f3, convExprS_map] at hy
    obtain ⟨z, hz, rfl⟩ := List.mem_map.1 hy
    exact ih z hz
-- equality of trees of type S33
mutual
def sameExpr : S33 → S33 → Bool
  | ⟨a, b, c, d⟩, y => (a == y.f0) && ((b == y.f1) && ((c.toList == y.f2.toList) && ((d.length == y.f3.length) && sameExprS d y.f3)))
def sameExprS : List S33 → List S33 → Bool
  | [], _ => true
  | _ :: _, [] => true
  | x :: xs, y :: ys => sameExpr x y && sameExprS xs ys
end
theorem sameExpr_eq (x y : S33) : sameExpr x y = ((x.f0 == y.f0) && ((x.f1 == y.f1) && ((x.f2.toList == y.f2.toList) && ((x.f3.length == y.f3.length) && sameExprS x.f3 y.f3)))) := by cases x; simp [sameExpr]
theorem sameExprS_nil (m : List S33) : sameExprS [] m = true := by simp [sameExprS]
theorem sameExprS_cons (x y : S33) (l m : List S33) : sameExprS (x :: l) (y :: m) = (sameExpr x y && sameExprS l m) := by simp [sameExprS]
-- the reference's l03Same (behind Tree and Same of Expr)
theorem spec_loop (l m : List S33) (hl : l.length ≤ 9223372036854775807) (hm : l.length = m.length) (s : List S33) : ∀ (t : List S33) (i : Nat), i ≤ l.length → l.drop i = s → m.drop i = t →
    (∀ y, y ∈ s → ∀ z, z ∈ t → Ev (fun k => spec_l03Same.f k y z) (sameExpr y z)) → Ev (fun k => spec_l03Same.l0 k (i : Int) l m) (sameExprS s t) := by
  induction s with
  | nil =>
    intro t i hi hd _ _
    have hi2 := drop33_end l i hd hi
    rw [sameExprS_nil]
    refine Ev.step (f := fun _ => some true) (fun k => ?_) (Ev.now true)
    simp only [spec_l03Same.l0]
    rw [if_neg (by omega)]
  | cons y s ih =>
    intro t i hi hd ht hy
    obtain ⟨hlt, hrd, hd'⟩ := rd33_at l i y s hd
    cases t with
    | nil =>
      have := drop33_end m i ht (by omega)
      omega
    | cons z t =>
      obtain ⟨_, hrd2, ht'⟩ := rd33_at m i z t ht
      refine Ev.step (f := fun k => (spec_l03Same.f k y z).bind fun r => if r = true then spec_l03Same.l0 k ((i + 1 : Nat) : Int) l m else some false) (fun k => ?_) ?_
      · simp only [spec_l03Same.l0]
        rw [if_pos (by omega), if_pos (by omega), if_pos (by omega), hrd, hrd2, wrapiExpr i l.length hlt hl]
      · refine Ev.bind (hy y List.mem_cons_self z List.mem_cons_self) ?_
        rw [sameExprS_cons]
        cases h : sameExpr y z with
        | true =>
          refine Ev.congr (f := fun k => spec_l03Same.l0 k ((i + 1 : Nat) : Int) l m) (fun k => by rw [if_pos rfl]) ?_
          rw [Bool.true_and]
          exact ih t (i + 1) (by omega) hd' ht' (fun u hu v hv => hy u (List.mem_cons_of_mem _ hu) v (List.mem_cons_of_mem _ hv))
        | false =>
          rw [Bool.false_and]
          exact Ev.congr (f := fun _ => some false) (fun k => by simp) (Ev.now false)
theorem spec_ev0 (x : S33) (g : FineExpr x) : ∀ y, FineExpr y → Ev (fun k => spec_l03Same.f k x y) (sameExpr x y) := by
  induction g with
  | mk x h0 h1 h2 h3 h3k ih =>
    intro y gy
    rw [sameExpr_eq]
    have no : Ev (fun _ => (some false : Option Bool)) false := Ev.now false
    by_cases e0 : x.f0 = y.f0
    · by_cases e1 : x.f1 = y.f1
      · by_cases e2 : x.f2.toList = y.f2.toList
        · by_cases e3 : x.f3.length = y.f3.length
          · refine Ev.step (f := fun k => spec_l03Same.l0 k ((0 : Nat) : Int) x.f3 y.f3) (fun k => by simp only [spec_l03Same.f]; rw [if_pos e0, if_pos e1, if_pos e2, if_pos (by omega)]; rfl) ?_
            rw [beq_iff_eq.mpr e0, beq_iff_eq.mpr e1, beq_iff_eq.mpr e2, beq_iff_eq.mpr e3]
            simp only [Bool.true_and]
            exact spec_loop _ _ h3 e3 x.f3 y.f3 0 (by omega) rfl rfl (fun u hu v hv => ih u hu v (gy.kids.2 v hv))
          · rw [beq_eq_false_iff_ne.mpr e3]
            simp only [Bool.false_and, Bool.and_false]
            exact Ev.step (f := fun _ => some false) (fun k => by simp only [spec_l03Same.f]; rw [if_pos e0, if_pos e1, if_pos e2, if_neg (by omega)]) no
        · rw [beq_eq_false_iff_ne.mpr e2]
          simp only [Bool.false_and, Bool.and_false]
          exact Ev.step (f := fun _ => some false) (fun k => by simp only [spec_l03Same.f]; rw [if_pos e0, if_pos e1, if_neg e2]) no
      · rw [beq_eq_false_iff_ne.mpr e1]
        simp only [Bool.false_and, Bool.and_false]
        exact Ev.step (f := fun _ => some false) (fun k => by simp only [spec_l03Same.f]; rw [if_pos e0, if_neg e1]) no
    · rw [beq_eq_false_iff_ne.mpr e0]
      simp only [Bool.false_and]
      exact Ev.step (f := fun _ => some false) (fun k => by simp only [spec_l03Same.f]; rw [if_neg e0]) no
theorem spec_ev (x : S33) (g : FineExpr x) (y : S33) (gy : FineExpr y) : Ev (fun k => spec_SameExpr.f k x.f0 x.f1 x.f2 x.f3 y.f0 y.f1 y.f2 y.f3) (sameExpr x y) := by
  unfold spec_SameExpr.f
  rw [eta33, eta33]
  exact spec_ev0 x g y gy
-- impl.SameExpr by slices.EqualFunc
theorem impl_loop (l m : List S33) (hl : l.length ≤ 9223372036854775807) (hm : l.length = m.length) (s : List S33) : ∀ (t : List S33) (i : Nat), i ≤ l.length → l.drop i = s → m.drop i = t →
    (∀ y, y ∈ s → ∀ z, z ∈ t → Ev (fun k => impl_SameExpr.f k y.f0 y.f1 y.f2 y.f3 z.f0 z.f1 z.f2 z.f3) (sameExpr y z)) → Ev (fun k => impl_Expr_at_impl_SameExpr.l0 k m l (l.length : Int) (i : Int)) (sameExprS s t) := by
  induction s with
  | nil =>
    intro t i hi hd _ _
    have hi2 := drop33_end l i hd hi
    rw [sameExprS_nil]
    refine Ev.step (f := fun _ => some true) (fun k => ?_) (Ev.now true)
    simp only [impl_Expr_at_impl_SameExpr.l0]
    rw [if_neg (by omega)]
  | cons y s ih =>
    intro t i hi hd ht hy
    obtain ⟨hlt, hrd, hd'⟩ := rd33_at l i y s hd
    cases t with
    | nil =>
      have := drop33_end m i ht (by omega)
      omega
    | cons z t =>
      obtain ⟨_, hrd2, ht'⟩ := rd33_at m i z t ht
      refine Ev.step (f := fun k => (impl_SameExpr.f k y.f0 y.f1 y.f2 y.f3 z.f0 z.f1 z.f2 z.f3).bind fun r => if r = true then impl_Expr_at_impl_SameExpr.l0 k m l (l.length : Int) ((i + 1 : Nat) : Int) else some false) (fun k => ?_) ?_
      · simp only [impl_Expr_at_impl_SameExpr.l0]
        rw [if_pos (by omega), if_pos (by omega), if_pos (by omega), if_pos (by omega), hrd, hrd2, wrapiExpr i l.length hlt hl]
      · refine Ev.bind (hy y List.mem_cons_self z List.mem_cons_self) ?_
        rw [sameExprS_cons]
        cases h : sameExpr y z with
        | true =>
          refine Ev.congr (f := fun k => impl_Expr_at_impl_SameExpr.l0 k m l (l.length : Int) ((i + 1 : Nat) : Int)) (fun k => by rw [if_pos rfl]) ?_
          rw [Bool.true_and]
          exact ih t (i + 1) (by omega) hd' ht' (fun u hu v hv => hy u (List.mem_cons_of_mem _ hu) v (List.mem_cons_of_mem _ hv))
        | false =>
          rw [Bool.false_and]
          exact Ev.congr (f := fun _ => some false) (fun k => by simp) (Ev.now false)
theorem impl_ev (x : S33) (g : FineExpr x) : ∀ y, FineExpr y → Ev (fun k => impl_SameExpr.f k x.f0 x.f1 x.f2 x.f3 y.f0 y.f1 y.f2 y.f3) (sameExpr x y) := by
  induction g with
  | mk x h0 h1 h2 h3 h3k ih =>
    intro y gy
    rw [sameExpr_eq]
    by_cases e0 : x.f0 = y.f0
    · by_cases e1 : x.f1 = y.f1
      · by_cases e2 : x.f2.toList = y.f2.toList
        · refine Ev.step (f := fun k => (impl_Expr_at_impl_SameExpr.f k x.f3 y.f3).bind fun t => some t) (fun k => by simp only [impl_SameExpr.f]; rw [if_pos e0, if_pos e1, if_pos e2]) ?_
          rw [beq_iff_eq.mpr e0, beq_iff_eq.mpr e1, beq_iff_eq.mpr e2]
          simp only [Bool.true_and]
          refine Ev.bind (a := ((x.f3.length == y.f3.length) && sameExprS x.f3 y.f3)) ?_ (Ev.now _)
          by_cases e3 : x.f3.length = y.f3.length
          · refine Ev.step (f := fun k => impl_Expr_at_impl_SameExpr.l0 k y.f3 x.f3 (x.f3.length : Int) ((0 : Nat) : Int)) (fun k => by simp only [impl_Expr_at_impl_SameExpr.f]; rw [if_pos (by omega)]; rfl) ?_
            rw [beq_iff_eq.mpr e3]
            simp only [Bool.true_and]
            exact impl_loop _ _ h3 e3 x.f3 y.f3 0 (by omega) rfl rfl (fun u hu v hv => ih u hu v (gy.kids.2 v hv))
          · rw [beq_eq_false_iff_ne.mpr e3]
            simp only [Bool.false_and]
            exact Ev.step (f := fun _ => some false) (fun k => by simp only [impl_Expr_at_impl_SameExpr.f]; rw [if_neg (by omega)]) (Ev.now false)
        · rw [beq_eq_false_iff_ne.mpr e2]
          simp only [Bool.false_and, Bool.and_false]
          exact Ev.step (f := fun _ => some false) (fun k => by simp only [impl_SameExpr.f]; rw [if_pos e0, if_pos e1, if_neg e2]) (Ev.now false)
      · rw [beq_eq_false_iff_ne.mpr e1]
        simp only [Bool.false_and, Bool.and_false]
        exact Ev.step (f := fun _ => some false) (fun k => by simp only [impl_SameExpr.f]; rw [if_pos e0, if_neg e1]) (Ev.now false)
    · rw [beq_eq_false_iff_ne.mpr e0]
      simp only [Bool.false_and]
      exact Ev.step (f := fun _ => some false) (fun k => by simp only [impl_SameExpr.f]; rw [if_neg e0]) (Ev.now false)
-- statements (behind Tree, Same, SameSpecExpr, SameImpl of Expr): sz, to, eq, the program's and the reference's equality
theorem ev_map {α β : Type} {F : Nat → Option α} {a : α} (g : α → β) (h : Ev F a) : Ev (fun k => (F k).map g) (g a) :=
  Ev.congr (f := fun k => (F k).bind fun t => some (g t)) (fun k => by cases F k <;> rfl) (Ev.bind h (Ev.now _))
theorem ev_and {E : Nat → Option Bool} {b c : Bool} (h : Ev E c) : Ev (fun k => if b = true then E k else some false) (b && c) := by
  cases b with
  | true => exact Ev.congr (fun k => by rw [if_pos rfl]) h
  | false => exact Ev.congr (f := fun _ => some false) (fun k => by simp) (Ev.now false)
theorem sz_step {E : Nat → Option Int} {R : Nat → Int → Option Int} {s t : Nat} {left : Int} (_h0 : 0 ≤ left) (hE : Ev E (if (s : Int) ≤ left then left - s else -1)) (hR : 0 ≤ left - s → Ev (fun k => R k (left - s)) (if (t : Int) ≤ left - s then left - s - t else -1)) :
    Ev (fun k => (E k).bind fun r => if r < 0 then some (-1) else R k r) (if ((s + t : Nat) : Int) ≤ left then left - ((s + t : Nat) : Int) else -1) := by
  refine Ev.bind hE ?_
  by_cases hs : (s : Int) ≤ left
  · rw [if_pos hs]
    have r := hR (by omega)
    have e : (if ((s + t : Nat) : Int) ≤ left then left - ((s + t : Nat) : Int) else -1) = if (t : Int) ≤ left - s then left - s - t else -1 := by split <;> split <;> omega
    rw [e]
    exact Ev.congr (fun k => by rw [if_neg (by omega)]) r
  · rw [if_neg hs, if_neg (by omega)]
    exact Ev.congr (f := fun _ => some (-1)) (fun k => by rw [if_pos (by omega)]) (Ev.now _)
def convGoto (x : S26) : S34 := ⟨x.f0, x.f1, x.f2⟩
def convStatement (x : S28) : S36 := ⟨x.f0, x.f1, convExpr x.f2, x.f3, convExpr x.f4, x.f5, convExpr x.f6, convGoto x.f7⟩
def sizeGoto (x : S26) : Nat := x.f0.size + (x.f1.size + x.f2.size)
def sizeStatement (x : S28) : Nat := x.f0.size + (sizeExpr x.f2 + (sizeExpr x.f4 + (sizeExpr x.f6 + (sizeGoto x.f7 + 0))))
theorem szGoto_eq (x : S26) (g : G26 x) (left : Int) (_h0 : 0 ≤ left) (h1 : left ≤ 1048576) : laws_szGoto.f x.f0 x.f1 x.f2 left = some (if (sizeGoto x : Int) ≤ left then left - sizeGoto x else -1) := by
  cases g with
  | mk a0 a1 a2 =>
  unfold laws_szGoto.f sizeGoto
  have w1 : wrap64 (left - (x.f0.size : Int)) = left - x.f0.size := by unfold wrap64; omega
  rw [w1]
  by_cases c1 : left - (x.f0.size : Int) < 0
  · rw [if_pos c1, if_neg (by omega)]
  rw [if_neg c1]
  have w2 : wrap64 (left - (x.f0.size : Int) - (x.f1.size : Int)) = left - x.f0.size - x.f1.size := by unfold wrap64; omega
  rw [w2]
  by_cases c2 : left - (x.f0.size : Int) - (x.f1.size : Int) < 0
  · rw [if_pos c2, if_neg (by omega)]
  rw [if_neg c2]
  have w3 : wrap64 (left - (x.f0.size : Int) - (x.f1.size : Int) - (x.f2.size : Int)) = left - x.f0.size - x.f1.size - x.f2.size := by unfold wrap64; omega
  rw [w3]
  by_cases c3 : left - (x.f0.size : Int) - (x.f1.size : Int) - (x.f2.size : Int) < 0
  · rw [if_pos c3, if_neg (by omega)]
  rw [if_neg c3, if_pos (by omega)]
  congr 1
  omega
theorem szStatement_ev (x : S28) (g : G28 x) (left : Int) (h0 : 0 ≤ left) (h1 : left ≤ 1048576) :
    Ev (fun k => laws_szStatement.f k x.f0 x.f1 x.f2.f0 x.f2.f1 x.f2.f2 x.f2.f3 x.f3 x.f4.f0 x.f4.f1 x.f4.f2 x.f4.f3 x.f5 x.f6.f0 x.f6.f1 x.f6.f2 x.f6.f3 x.f7.f0 x.f7.f1 x.f7.f2 left) (if (sizeStatement x : Int) ≤ left then left - sizeStatement x else -1) := by
  cases g with
  | mk a0 a2 a4 a6 a7 =>
  have w1 : wrap64 (left - (x.f0.size : Int)) = left - x.f0.size := by unfold wrap64; omega
  by_cases c1 : left - (x.f0.size : Int) < 0
  · rw [if_neg (by unfold sizeStatement; omega)]
    exact Ev.congr (f := fun _ => some (-1)) (fun k => by unfold laws_szStatement.f; rw [w1, if_pos c1]) (Ev.now _)
  have e : (if (sizeStatement x : Int) ≤ left then left - sizeStatement x else -1) = if ((sizeExpr x.f2 + (sizeExpr x.f4 + (sizeExpr x.f6 + (sizeGoto x.f7 + 0))) : Nat) : Int) ≤ left - x.f0.size then left - x.f0.size - ((sizeExpr x.f2 + (sizeExpr x.f4 + (sizeExpr x.f6 + (sizeGoto x.f7 + 0))) : Nat) : Int) else -1 := by
    unfold sizeStatement
    split <;> split <;> omega
  rw [e]
  refine Ev.congr (fun k => by unfold laws_szStatement.f; rw [w1, if_neg c1]) ?_
  refine sz_step (by omega) (szExpr_ev x.f2 a2 _ (by omega) (by omega)) (fun q => ?_)
  refine sz_step (by omega) (szExpr_ev x.f4 a4 _ (by omega) (by omega)) (fun q => ?_)
  refine sz_step (by omega) (szExpr_ev x.f6 a6 _ (by omega) (by omega)) (fun q => ?_)
  refine sz_step (by omega) (Ev.congr (fun k => szGoto_eq x.f7 a7 _ (by omega) (by omega)) (Ev.now _)) (fun q => ?_)
  rw [if_pos (by omega)]
  have e2 : ∀ z : Int, z - ((0 : Nat) : Int) = z := fun z => by omega
  rw [e2]
  exact Ev.now _
theorem toStatement_ev (x : S28) (g : G28 x) (hs : sizeStatement x ≤ 1048576) :
    Ev (fun k => laws_toStatement.f k x.f0 x.f1 x.f2.f0 x.f2.f1 x.f2.f2 x.f2.f3 x.f3 x.f4.f0 x.f4.f1 x.f4.f2 x.f4.f3 x.f5 x.f6.f0 x.f6.f1 x.f6.f2 x.f6.f3 x.f7.f0 x.f7.f1 x.f7.f2) (x.f0, x.f1, (convExpr x.f2).f0, (convExpr x.f2).f1, (convExpr x.f2).f2, (convExpr x.f2).f3, x.f3, (convExpr x.f4).f0, (convExpr x.f4).f1, (convExpr x.f4).f2, (convExpr x.f4).f3, x.f5, (convExpr x.f6).f0, (convExpr x.f6).f1, (convExpr x.f6).f2, (convExpr x.f6).f3, x.f7.f0, x.f7.f1, x.f7.f2) := by
  cases g with
  | mk a0 a2 a4 a6 a7 =>
  unfold sizeStatement at hs
  unfold laws_toStatement.f
  refine Ev.bind (toExpr_ev x.f2 a2 (by omega)) (Ev.bind (toExpr_ev x.f4 a4 (by omega)) (Ev.bind (toExpr_ev x.f6 a6 (by omega)) ?_))
  exact Ev.now _
theorem eqGoto_eq (x : S34) : laws_eqGoto.f x.f0 x.f1 x.f2 x.f0 x.f1 x.f2 = some true := by
  unfold laws_eqGoto.f
  rw [if_pos rfl, if_pos rfl, if_pos rfl]
theorem eqStatement_ev (x : S28) (g : G28 x) :
    Ev (fun k => laws_eqStatement.f k x.f0 x.f1 (convExpr x.f2).f0 (convExpr x.f2).f1 (convExpr x.f2).f2 (convExpr x.f2).f3 x.f3 (convExpr x.f4).f0 (convExpr x.f4).f1 (convExpr x.f4).f2 (convExpr x.f4).f3 x.f5 (convExpr x.f6).f0 (convExpr x.f6).f1 (convExpr x.f6).f2 (convExpr x.f6).f3 x.f7.f0 x.f7.f1 x.f7.f2 x.f0 x.f1 (convExpr x.f2).f0 (convExpr x.f2).f1 (convExpr x.f2).f2 (convExpr x.f2).f3 x.f3 (convExpr x.f4).f0 (convExpr x.f4).f1 (convExpr x.f4).f2 (convExpr x.f4).f3 x.f5 (convExpr x.f6).f0 (convExpr x.f6).f1 (convExpr x.f6).f2 (convExpr x.f6).f3 x.f7.f0 x.f7.f1 x.f7.f2) true := by
  cases g with
  | mk a0 a2 a4 a6 a7 =>
  have b (q : Bool) : ¬ (q != q) = true := by simp
  refine Ev.congr (fun k => by unfold laws_eqStatement.f; rw [if_pos rfl, if_neg (b _)]) ?_
  refine Ev.bind (eqExpr_ev x.f2 a2) ?_
  refine Ev.congr (fun k => by rw [if_pos rfl, if_neg (b _)]) ?_
  refine Ev.bind (eqExpr_ev x.f4 a4) ?_
  refine Ev.congr (fun k => by rw [if_pos rfl, if_neg (b _)]) ?_
  refine Ev.bind (eqExpr_ev x.f6 a6) ?_
  refine Ev.congr (fun k => by rw [if_pos rfl, show laws_eqGoto.f x.f7.f0 x.f7.f1 x.f7.f2 x.f7.f0 x.f7.f1 x.f7.f2 = some true from eqGoto_eq ⟨x.f7.f0, x.f7.f1, x.f7.f2⟩]) ?_
  exact Ev.congr (f := fun _ => some true) (fun k => by rfl) (Ev.now true)
def sameStatement (y z : S36) : Bool := (y.f0.toList == z.f0.toList) && (((y.f7.f0.toList == z.f7.f0.toList) && ((y.f7.f1.toList == z.f7.f1.toList) && (y.f7.f2.toList == z.f7.f2.toList))) && (((y.f1 == z.f1) && ((y.f3 == z.f3) && (y.f5 == z.f5))) && (sameExpr y.f2 z.f2 && (sameExpr y.f4 z.f4 && sameExpr y.f6 z.f6))))
inductive FineStatement : S36 → Prop where
  | mk (x : S36) (h2 : FineExpr x.f2) (h4 : FineExpr x.f4) (h6 : FineExpr x.f6) : FineStatement x
theorem fineStatement_conv (x : S28) (g : G28 x) : FineStatement (convStatement x) := by
  cases g with
  | mk a0 a2 a4 a6 a7 => exact FineStatement.mk (convStatement x) (fineExpr_conv _ a2) (fineExpr_conv _ a4) (fineExpr_conv _ a6)
theorem implS_ev (y z : S36) (gy : FineStatement y) (gz : FineStatement z) :
    Ev (fun k => impl_SameStatement.f k y.f0 y.f1 y.f2.f0 y.f2.f1 y.f2.f2 y.f2.f3 y.f3 y.f4.f0 y.f4.f1 y.f4.f2 y.f4.f3 y.f5 y.f6.f0 y.f6.f1 y.f6.f2 y.f6.f3 y.f7.f0 y.f7.f1 y.f7.f2 z.f0 z.f1 z.f2.f0 z.f2.f1 z.f2.f2 z.f2.f3 z.f3 z.f4.f0 z.f4.f1 z.f4.f2 z.f4.f3 z.f5 z.f6.f0 z.f6.f1 z.f6.f2 z.f6.f3 z.f7.f0 z.f7.f1 z.f7.f2) (sameStatement y z) := by
  cases gy with
  | mk y2 y4 y6 =>
  cases gz with
  | mk z2 z4 z6 =>
  unfold impl_SameStatement.f sameStatement
  refine Ev.bind (impl_ev y.f2 y2 z.f2 z2) (Ev.bind (ev_and (impl_ev y.f4 y4 z.f4 z4)) (Ev.bind (ev_and (impl_ev y.f6 y6 z.f6 z6)) ?_))
  rw [Bool.and_assoc (sameExpr y.f2 z.f2)]
  exact Ev.now _
theorem j0_ev (q : Bool) (y z : S36) (gy : FineStatement y) (gz : FineStatement z) :
    Ev (fun k => spec_SameStatement.j0 k q y.f0 y.f1 y.f2.f0 y.f2.f1 y.f2.f2 y.f2.f3 y.f3 y.f4.f0 y.f4.f1 y.f4.f2 y.f4.f3 y.f5 y.f6.f0 y.f6.f1 y.f6.f2 y.f6.f3 y.f7.f0 y.f7.f1 y.f7.f2 z.f0 z.f1 z.f2.f0 z.f2.f1 z.f2.f2 z.f2.f3 z.f3 z.f4.f0 z.f4.f1 z.f4.f2 z.f4.f3 z.f5 z.f6.f0 z.f6.f1 z.f6.f2 z.f6.f3 z.f7.f0 z.f7.f1 z.f7.f2) (!q && (sameExpr y.f2 z.f2 && (sameExpr y.f4 z.f4 && sameExpr y.f6 z.f6))) := by
  cases gy with
  | mk y2 y4 y6 =>
  cases gz with
  | mk z2 z4 z6 =>
  cases q with
  | true => exact Ev.step (f := fun _ => some false) (fun k => by simp only [spec_SameStatement.j0]; first | rw [if_pos rfl] | rw [if_pos trivial]) (Ev.now false)
  | false =>
    refine Ev.step (f := fun k => (spec_SameExpr.f k y.f2.f0 y.f2.f1 y.f2.f2 y.f2.f3 z.f2.f0 z.f2.f1 z.f2.f2 z.f2.f3).bind fun t => if t = true then ((spec_SameExpr.f k y.f4.f0 y.f4.f1 y.f4.f2 y.f4.f3 z.f4.f0 z.f4.f1 z.f4.f2 z.f4.f3).bind fun t => if t = true then (spec_SameExpr.f k y.f6.f0 y.f6.f1 y.f6.f2 y.f6.f3 z.f6.f0 z.f6.f1 z.f6.f2 z.f6.f3).bind fun t => some t else some false) else some false) (fun k => by simp only [spec_SameStatement.j0]; rw [if_neg (by simp)]) ?_
    exact Ev.bind (spec_ev y.f2 y2 z.f2 z2) (ev_and (Ev.bind (spec_ev y.f4 y4 z.f4 z4) (ev_and (Ev.bind (spec_ev y.f6 y6 z.f6 z6) (Ev.now _)))))
theorem specS_ev (y z : S36) (gy : FineStatement y) (gz : FineStatement z) :
    Ev (fun k => spec_SameStatement.f k y.f0 y.f1 y.f2.f0 y.f2.f1 y.f2.f2 y.f2.f3 y.f3 y.f4.f0 y.f4.f1 y.f4.f2 y.f4.f3 y.f5 y.f6.f0 y.f6.f1 y.f6.f2 y.f6.f3 y.f7.f0 y.f7.f1 y.f7.f2 z.f0 z.f1 z.f2.f0 z.f2.f1 z.f2.f2 z.f2.f3 z.f3 z.f4.f0 z.f4.f1 z.f4.f2 z.f4.f3 z.f5 z.f6.f0 z.f6.f1 z.f6.f2 z.f6.f3 z.f7.f0 z.f7.f1 z.f7.f2) (sameStatement y z) := by
  have j := fun q => j0_ev q y z gy gz
  unfold sameStatement
  generalize (sameExpr y.f2 z.f2 && (sameExpr y.f4 z.f4 && sameExpr y.f6 z.f6)) = T at j ⊢
  have bq (p q : Bool) : (p == q) = !(p != q) := by cases p <;> cases q <;> rfl
  rw [bq y.f1, bq y.f3, bq y.f5]
  by_cases h0 : y.f0.toList = z.f0.toList
  · refine Ev.congr (fun k => by unfold spec_SameStatement.f; rw [if_pos h0]) ?_
    rw [beq_iff_eq.mpr h0, Bool.true_and]
    cases (y.f1 != z.f1) with
    | true => exact Ev.congr (fun k => by rw [if_pos rfl]) (by simpa using j true)
    | false =>
    refine Ev.congr (fun k => by rw [if_neg (by simp)]) ?_
    cases (y.f3 != z.f3) with
    | true => exact Ev.congr (fun k => by rw [if_pos rfl]) (by simpa using j true)
    | false =>
    refine Ev.congr (fun k => by rw [if_neg (by simp)]) ?_
    cases (y.f5 != z.f5) with
    | true => exact Ev.congr (fun k => by rw [if_pos rfl]) (by simpa using j true)
    | false =>
    refine Ev.congr (fun k => by rw [if_neg (by simp)]) ?_
    have r := j (!(y.f7.f0.toList == z.f7.f0.toList) || (!(y.f7.f1.toList == z.f7.f1.toList) || (!(y.f7.f2.toList == z.f7.f2.toList))))
    have e : (!(!(y.f7.f0.toList == z.f7.f0.toList) || (!(y.f7.f1.toList == z.f7.f1.toList) || (!(y.f7.f2.toList == z.f7.f2.toList))))) = ((y.f7.f0.toList == z.f7.f0.toList) && ((y.f7.f1.toList == z.f7.f1.toList) && (y.f7.f2.toList == z.f7.f2.toList))) := by
      cases (y.f7.f0.toList == z.f7.f0.toList) <;> cases (y.f7.f1.toList == z.f7.f1.toList) <;> cases (y.f7.f2.toList == z.f7.f2.toList) <;> rfl
    rw [e] at r
    simpa using r
  · refine Ev.congr (fun k => by unfold spec_SameStatement.f; rw [if_neg h0]) ?_
    rw [beq_eq_false_iff_ne.mpr h0]
    simpa using j true
theorem convStatement_eta (x : S28) : (⟨x.f0, x.f1, ⟨(convExpr x.f2).f0, (convExpr x.f2).f1, (convExpr x.f2).f2, (convExpr x.f2).f3⟩, x.f3, ⟨(convExpr x.f4).f0, (convExpr x.f4).f1, (convExpr x.f4).f2, (convExpr x.f4).f3⟩, x.f5, ⟨(convExpr x.f6).f0, (convExpr x.f6).f1, (convExpr x.f6).f2, (convExpr x.f6).f3⟩, ⟨x.f7.f0, x.f7.f1, x.f7.f2⟩⟩ : S36) = convStatement x := by
  rw [eta33, eta33, eta33]
  rfl
theorem drop_at {α : Type} (l : List α) (i : Nat) (x : α) (s : List α) (h : l.drop i = x :: s) : i < l.length ∧ l[i]? = some x ∧ l.drop (i + 1) = s := by
  have h1 : i < l.length := by
    rcases Nat.lt_or_ge i l.length with h2 | h2
    · exact h2
    · rw [List.drop_eq_nil_of_le h2] at h
      cases h
  rw [List.drop_eq_getElem_cons h1] at h
  injection h with h2 h3
  exact ⟨h1, by rw [List.getElem?_eq_getElem h1, h2], h3⟩
theorem drop_end {α : Type} (l : List α) (i : Nat) (h : l.drop i = []) (hi : i ≤ l.length) : i = l.length := by
  have := congrArg List.length h
  simp at this
  omega
theorem wrapl (i n : Nat) (h : i < n) (hn : n ≤ 9223372036854775807) : wrap64 ((i : Int) + 1) = ((i + 1 : Nat) : Int) := by unfold wrap64; omega
theorem rdaStatement (l : List S28) (i : Nat) (x : S28) (h : l[i]? = some x) : rd_T28 l (i : Int) = x := by
  unfold rd_T28
  rw [List.getD_eq_getElem?_getD, Int.toNat_natCast, h]
  rfl
theorem rdbStatement (l : List S36) (i : Nat) (x : S36) (h : l[i]? = some x) : rd_T36 l (i : Int) = x := by
  unfold rd_T36
  rw [List.getD_eq_getElem?_getD, Int.toNat_natCast, h]
  rfl
def sizeStatementS : List S28 → Nat
  | [] => 0
  | x :: xs => sizeStatement x + sizeStatementS xs
theorem sizeStatementS_le (l : List S28) (y : S28) (hy : y ∈ l) : sizeStatement y ≤ sizeStatementS l := by
  induction l with
  | nil => cases hy
  | cons z l ih =>
    unfold sizeStatementS
    rcases List.mem_cons.1 hy with rfl | hy
    · omega
    · have := ih hy
      omega
theorem szStatementS_loop (l : List S28) (hl : l.length ≤ 9223372036854775807) (s : List S28) : ∀ (i : Nat) (left : Int), i ≤ l.length → l.drop i = s → (∀ y, y ∈ s → G28 y) →
    0 ≤ left → left ≤ 1048576 → Ev (fun k => laws_szStatementS.l0 k l left (i : Int)) (if (sizeStatementS s : Int) ≤ left then left - sizeStatementS s else -1) := by
  induction s with
  | nil =>
    intro i left hi hd _ h0 _
    have := drop_end l i hd hi
    refine Ev.step (f := fun _ => some left) (fun k => ?_) ?_
    · simp only [laws_szStatementS.l0]
      rw [if_neg (by omega)]
    · unfold sizeStatementS
      rw [if_pos (by simpa using h0)]
      simpa using Ev.now left
  | cons y s ih =>
    intro i left hi hd hy h0 h1
    obtain ⟨hlt, hx, hd'⟩ := drop_at l i y s hd
    have hrd := rdaStatement l i y hx
    refine Ev.step (f := fun k => (laws_szStatement.f k y.f0 y.f1 y.f2.f0 y.f2.f1 y.f2.f2 y.f2.f3 y.f3 y.f4.f0 y.f4.f1 y.f4.f2 y.f4.f3 y.f5 y.f6.f0 y.f6.f1 y.f6.f2 y.f6.f3 y.f7.f0 y.f7.f1 y.f7.f2 left).bind fun t => if t < 0 then some (-1) else laws_szStatementS.l0 k l t ((i + 1 : Nat) : Int)) (fun k => ?_) ?_
    · simp only [laws_szStatementS.l0]
      rw [if_pos (by omega), if_pos (by omega), hrd, wrapl i l.length hlt hl]
    · unfold sizeStatementS
      refine sz_step h0 (szStatement_ev y (hy y List.mem_cons_self) left h0 h1) (fun q => ?_)
      exact ih (i + 1) _ (by omega) hd' (fun z hz => hy z (List.mem_cons_of_mem _ hz)) q (by omega)
theorem sz_ok (x : S41) (g : G41 x) (left : Int) (h0 : 0 ≤ left) (h1 : left ≤ 1048576) : ∃ r, Ev (fun k => szO k x left) r ∧ (r < 0 ∨ (0 ≤ r ∧ r ≤ left ∧ x.f0.length ≤ 1048576 ∧ sizeStatementS x.f0 ≤ 1048576)) := by
  cases g with
  | mk b0 b1 =>
  have w : wrap64 (left - (x.f0.length : Int)) = left - x.f0.length := by unfold wrap64; omega
  have e : ∃ r, Ev (fun k => laws_szStatementS.f k x.f0 left) r ∧ (r < 0 ∨ (0 ≤ r ∧ r ≤ left ∧ x.f0.length ≤ 1048576 ∧ sizeStatementS x.f0 ≤ 1048576)) := by
    by_cases c : left - (x.f0.length : Int) < 0
    · exact ⟨-1, Ev.congr (f := fun _ => some (-1)) (fun k => by unfold laws_szStatementS.f; rw [w, if_pos c]) (Ev.now _), Or.inl (by omega)⟩
    · refine ⟨_, Ev.congr (fun k => by unfold laws_szStatementS.f; rw [w, if_neg c]; rfl) (szStatementS_loop x.f0 b0 x.f0 0 _ (by omega) rfl b1 (by omega) (by omega)), ?_⟩
      split
      · right; omega
      · left; omega
  obtain ⟨r, e, q⟩ := e
  rcases q with q | q
  · refine ⟨-1, ?_, Or.inl (by omega)⟩
    unfold szO laws_szProgram.f
    exact Ev.bind e (Ev.congr (f := fun _ => some (-1)) (fun k => by rw [if_pos q]) (Ev.now _))
  · refine ⟨r, ?_, Or.inr q⟩
    unfold szO laws_szProgram.f
    exact Ev.bind e (Ev.congr (f := fun _ => some r) (fun k => by rw [if_neg (by omega)]) (Ev.now _))
def convProgram (x : S41) : S46 := ⟨x.f0.map convStatement⟩
theorem toStatementS_loop (l : List S28) (hl : l.length ≤ 1048576) (s : List S28) : ∀ (i : Nat) (out : List S36), i ≤ l.length → l.drop i = s → out.length = l.length → out.take i = (l.map convStatement).take i →
    (∀ y, y ∈ s → G28 y ∧ sizeStatement y ≤ 1048576) → Ev (fun k => laws_toStatementS.l0 k l out (i : Int)) (l.map convStatement) := by
  induction s with
  | nil =>
    intro i out hi hd ho ht _
    have hi2 := drop_end l i hd hi
    have e : out = l.map convStatement := by
      rw [List.take_of_length_le (by omega), List.take_of_length_le (by rw [List.length_map]; omega)] at ht
      exact ht
    refine Ev.step (f := fun _ => some out) (fun k => ?_) (e ▸ Ev.now out)
    simp only [laws_toStatementS.l0]
    rw [if_neg (by omega)]
  | cons y s ih =>
    intro i out hi hd ho ht hy
    obtain ⟨hlt, hx, hd'⟩ := drop_at l i y s hd
    have hrd := rdaStatement l i y hx
    have ey := toStatement_ev y (hy y List.mem_cons_self).1 (hy y List.mem_cons_self).2
    have hly : (l.map convStatement)[i]? = some (convStatement y) := by rw [List.getElem?_map, hx]; rfl
    have r := ih (i + 1) (out.set i (convStatement y)) (by omega) hd' (by rw [List.length_set]; exact ho) (by
      rw [List.take_add_one, List.take_add_one, hly, List.take_set_of_le (Nat.le_refl _), ht, List.getElem?_set_self (by omega)]) (fun z hz => hy z (List.mem_cons_of_mem _ hz))
    have r2 : Ev (fun k => (laws_toStatement.f k y.f0 y.f1 y.f2.f0 y.f2.f1 y.f2.f2 y.f2.f3 y.f3 y.f4.f0 y.f4.f1 y.f4.f2 y.f4.f3 y.f5 y.f6.f0 y.f6.f1 y.f6.f2 y.f6.f3 y.f7.f0 y.f7.f1 y.f7.f2).bind fun b => if (i : Int) < (out.length : Int) then laws_toStatementS.l0 k l (out.set ((i : Int) : Int).toNat (⟨b.1, b.2.1, (⟨b.2.2.1, b.2.2.2.1, b.2.2.2.2.1, b.2.2.2.2.2.1⟩ : S33), b.2.2.2.2.2.2.1, (⟨b.2.2.2.2.2.2.2.1, b.2.2.2.2.2.2.2.2.1, b.2.2.2.2.2.2.2.2.2.1, b.2.2.2.2.2.2.2.2.2.2.1⟩ : S33), b.2.2.2.2.2.2.2.2.2.2.2.1, (⟨b.2.2.2.2.2.2.2.2.2.2.2.2.1, b.2.2.2.2.2.2.2.2.2.2.2.2.2.1, b.2.2.2.2.2.2.2.2.2.2.2.2.2.2.1, b.2.2.2.2.2.2.2.2.2.2.2.2.2.2.2.1⟩ : S33), (⟨b.2.2.2.2.2.2.2.2.2.2.2.2.2.2.2.2.1, b.2.2.2.2.2.2.2.2.2.2.2.2.2.2.2.2.2.1, b.2.2.2.2.2.2.2.2.2.2.2.2.2.2.2.2.2.2⟩ : S34)⟩ : S36)) ((i + 1 : Nat) : Int) else none) (l.map convStatement) := by
      refine Ev.bind ey ?_
      refine Ev.congr (f := fun k => laws_toStatementS.l0 k l (out.set i (convStatement y)) ((i + 1 : Nat) : Int)) (fun k => ?_) r
      rw [if_pos (by omega), Int.toNat_natCast, ← convStatement_eta y]
    refine Ev.step (fun k => ?_) r2
    simp only [laws_toStatementS.l0]
    rw [if_pos (by omega), if_pos (by omega), hrd, wrapl i l.length hlt (by omega)]
    first | done | rfl
theorem to_ok (x : S41) (g : G41 x) (hs : x.f0.length ≤ 1048576 ∧ sizeStatementS x.f0 ≤ 1048576) : Ev (fun k => toO k x) (convProgram x) := by
  cases g with
  | mk b0 b1 =>
  have e : Ev (fun k => laws_toStatementS.f k x.f0) (x.f0.map convStatement) := by
    refine Ev.congr (f := fun k => laws_toStatementS.l0 k x.f0 (List.replicate x.f0.length z36) ((0 : Nat) : Int)) (fun k => ?_) ?_
    · unfold laws_toStatementS.f
      rw [if_pos (by omega), if_pos (by omega), Int.toNat_natCast]
      first | done | rfl
    · exact toStatementS_loop x.f0 hs.1 x.f0 0 _ (by omega) rfl (by simp) (by simp) (fun y hy => ⟨b1 y hy, Nat.le_trans (sizeStatementS_le _ y hy) hs.2⟩)
  have e2 : Ev (fun k => laws_toProgram.f k x.f0) (x.f0.map convStatement) := by
    unfold laws_toProgram.f
    exact Ev.bind e (Ev.now _)
  exact ev_map _ e2
theorem eqStatementS_loop (l : List S28) (hl : l.length ≤ 9223372036854775807) (s : List S28) : ∀ (i : Nat), i ≤ l.length → l.drop i = s → (∀ y, y ∈ s → G28 y) →
    Ev (fun k => laws_eqStatementS.l0 k (l.map convStatement) (l.map convStatement) (i : Int)) true := by
  induction s with
  | nil =>
    intro i hi hd _
    have hi2 := drop_end l i hd hi
    refine Ev.step (f := fun _ => some true) (fun k => ?_) (Ev.now true)
    simp only [laws_eqStatementS.l0]
    rw [if_neg (by rw [List.length_map]; omega)]
  | cons y s ih =>
    intro i hi hd hy
    obtain ⟨hlt, hx, hd'⟩ := drop_at l i y s hd
    have hrd := rdbStatement (l.map convStatement) i (convStatement y) (by rw [List.getElem?_map, hx]; rfl)
    refine Ev.step (f := fun k => (laws_eqStatement.f k (convStatement y).f0 (convStatement y).f1 (convStatement y).f2.f0 (convStatement y).f2.f1 (convStatement y).f2.f2 (convStatement y).f2.f3 (convStatement y).f3 (convStatement y).f4.f0 (convStatement y).f4.f1 (convStatement y).f4.f2 (convStatement y).f4.f3 (convStatement y).f5 (convStatement y).f6.f0 (convStatement y).f6.f1 (convStatement y).f6.f2 (convStatement y).f6.f3 (convStatement y).f7.f0 (convStatement y).f7.f1 (convStatement y).f7.f2 (convStatement y).f0 (convStatement y).f1 (convStatement y).f2.f0 (convStatement y).f2.f1 (convStatement y).f2.f2 (convStatement y).f2.f3 (convStatement y).f3 (convStatement y).f4.f0 (convStatement y).f4.f1 (convStatement y).f4.f2 (convStatement y).f4.f3 (convStatement y).f5 (convStatement y).f6.f0 (convStatement y).f6.f1 (convStatement y).f6.f2 (convStatement y).f6.f3 (convStatement y).f7.f0 (convStatement y).f7.f1 (convStatement y).f7.f2).bind fun t => if t = true then laws_eqStatementS.l0 k (l.map convStatement) (l.map convStatement) ((i + 1 : Nat) : Int) else some false) (fun k => ?_) ?_
    · simp only [laws_eqStatementS.l0]
      rw [if_pos (by rw [List.length_map]; omega), if_pos (by omega), if_pos (by rw [List.length_map]; omega), hrd, wrapl i l.length hlt hl]
    · refine Ev.bind (a := true) (eqStatement_ev y (hy y List.mem_cons_self)) ?_
      exact Ev.congr (fun k => by rw [if_pos rfl]) (ih (i + 1) (by omega) hd' (fun z hz => hy z (List.mem_cons_of_mem _ hz)))
theorem eq_ok (x : S41) (g : G41 x) : Ev (fun k => eqO k (convProgram x) (convProgram x)) true := by
  cases g with
  | mk b0 b1 =>
  have e : Ev (fun k => laws_eqStatementS.f k (x.f0.map convStatement) (x.f0.map convStatement)) true := by
    refine Ev.congr (fun k => by unfold laws_eqStatementS.f; rw [if_pos rfl]; rfl) (eqStatementS_loop x.f0 b0 x.f0 0 (by omega) rfl b1)
  unfold eqO laws_eqProgram.f
  exact Ev.bind (a := true) e (Ev.congr (f := fun _ => some true) (fun k => by rw [if_pos rfl]) (Ev.now true))
def sameStatementS : List S36 → List S36 → Bool
  | [], _ => true
  | _ :: _, [] => true
  | y :: s, z :: t => sameStatement y z && sameStatementS s t
-- spec_SameProgramRows: equality of two rows of Statement by a function spec_SameStatement that counts rounds (LM: the order of the rows, X: the length, where it is handed on)
theorem spec_SameProgramRows_loop (l m : List S36) (hl : l.length ≤ 9223372036854775807) (hm : l.length = m.length) (s : List S36) : ∀ (t : List S36) (i : Nat), i ≤ l.length → l.drop i = s → m.drop i = t →
    (∀ y, y ∈ s → ∀ z, z ∈ t → Ev (fun k => spec_SameStatement.f k y.f0 y.f1 y.f2.f0 y.f2.f1 y.f2.f2 y.f2.f3 y.f3 y.f4.f0 y.f4.f1 y.f4.f2 y.f4.f3 y.f5 y.f6.f0 y.f6.f1 y.f6.f2 y.f6.f3 y.f7.f0 y.f7.f1 y.f7.f2 z.f0 z.f1 z.f2.f0 z.f2.f1 z.f2.f2 z.f2.f3 z.f3 z.f4.f0 z.f4.f1 z.f4.f2 z.f4.f3 z.f5 z.f6.f0 z.f6.f1 z.f6.f2 z.f6.f3 z.f7.f0 z.f7.f1 z.f7.f2) (sameStatement y z)) → Ev (fun k => spec_SameProgramRows.l0 k l m  (i : Int)) (sameStatementS s t) := by
  induction s with
  | nil =>
    intro t i hi hd _ _
    have hi2 := drop_end l i hd hi
    refine Ev.step (f := fun _ => some true) (fun k => ?_) (by rw [sameStatementS]; exact Ev.now true)
    simp only [spec_SameProgramRows.l0]
    rw [if_neg (by omega)]
  | cons y s ih =>
    intro t i hi hd ht hy
    obtain ⟨hlt, hx, hd'⟩ := drop_at l i y s hd
    have hrd := rdbStatement l i y hx
    cases t with
    | nil =>
      have := drop_end m i ht (by omega)
      omega
    | cons z t =>
      obtain ⟨_, hx2, ht'⟩ := drop_at m i z t ht
      have hrd2 := rdbStatement m i z hx2
      have w := wrapl i l.length hlt hl
      rw [sameStatementS]
      refine Ev.step (f := fun k => (spec_SameStatement.f k y.f0 y.f1 y.f2.f0 y.f2.f1 y.f2.f2 y.f2.f3 y.f3 y.f4.f0 y.f4.f1 y.f4.f2 y.f4.f3 y.f5 y.f6.f0 y.f6.f1 y.f6.f2 y.f6.f3 y.f7.f0 y.f7.f1 y.f7.f2 z.f0 z.f1 z.f2.f0 z.f2.f1 z.f2.f2 z.f2.f3 z.f3 z.f4.f0 z.f4.f1 z.f4.f2 z.f4.f3 z.f5 z.f6.f0 z.f6.f1 z.f6.f2 z.f6.f3 z.f7.f0 z.f7.f1 z.f7.f2).bind fun r => if r = true then spec_SameProgramRows.l0 k l m  ((i + 1 : Nat) : Int) else some false) (fun k => ?_) (Ev.bind (hy y List.mem_cons_self z List.mem_cons_self) ?_)
      · simp only [spec_SameProgramRows.l0]
        rw [if_pos (by omega), if_pos (by omega), if_pos (by omega)]
        first
          | rw [if_pos (by omega), hrd, hrd2, w]
          | rw [hrd, hrd2, w]
      · cases sameStatement y z with
        | true =>
          rw [Bool.true_and]
          exact Ev.congr (fun k => by rw [if_pos rfl]) (ih t (i + 1) (by omega) hd' ht' (fun u hu v hv => hy u (List.mem_cons_of_mem _ hu) v (List.mem_cons_of_mem _ hv)))
        | false =>
          rw [Bool.false_and]
          exact Ev.congr (f := fun _ => some false) (fun k => by rw [if_neg (by simp)]) (Ev.now false)
theorem spec_SameProgramRows_ev (l m : List S36) (hl : l.length ≤ 9223372036854775807) (hy : ∀ y, y ∈ l → ∀ z, z ∈ m → Ev (fun k => spec_SameStatement.f k y.f0 y.f1 y.f2.f0 y.f2.f1 y.f2.f2 y.f2.f3 y.f3 y.f4.f0 y.f4.f1 y.f4.f2 y.f4.f3 y.f5 y.f6.f0 y.f6.f1 y.f6.f2 y.f6.f3 y.f7.f0 y.f7.f1 y.f7.f2 z.f0 z.f1 z.f2.f0 z.f2.f1 z.f2.f2 z.f2.f3 z.f3 z.f4.f0 z.f4.f1 z.f4.f2 z.f4.f3 z.f5 z.f6.f0 z.f6.f1 z.f6.f2 z.f6.f3 z.f7.f0 z.f7.f1 z.f7.f2) (sameStatement y z)) : Ev (fun k => spec_SameProgramRows.f k l m) ((l.length == m.length) && sameStatementS l m) := by
  by_cases h : l.length = m.length
  · rw [beq_iff_eq.mpr h, Bool.true_and]
    refine Ev.congr (fun k => ?_) (spec_SameProgramRows_loop l m hl h l m 0 (by omega) rfl rfl hy)
    unfold spec_SameProgramRows.f
    rw [if_pos (by omega)]
    rfl
  · rw [beq_eq_false_iff_ne.mpr h, Bool.false_and]
    refine Ev.congr (f := fun _ => some false) (fun k => ?_) (Ev.now false)
    unfold spec_SameProgramRows.f
    rw [if_neg (by omega)]
-- impl_SameProgramRows: equality of two rows of Statement by a function impl_SameStatement that counts rounds (LM: the order of the rows, X: the length, where it is handed on)
theorem impl_SameProgramRows_loop (l m : List S36) (hl : l.length ≤ 9223372036854775807) (hm : l.length = m.length) (s : List S36) : ∀ (t : List S36) (i : Nat), i ≤ l.length → l.drop i = s → m.drop i = t →
    (∀ y, y ∈ s → ∀ z, z ∈ t → Ev (fun k => impl_SameStatement.f k y.f0 y.f1 y.f2.f0 y.f2.f1 y.f2.f2 y.f2.f3 y.f3 y.f4.f0 y.f4.f1 y.f4.f2 y.f4.f3 y.f5 y.f6.f0 y.f6.f1 y.f6.f2 y.f6.f3 y.f7.f0 y.f7.f1 y.f7.f2 z.f0 z.f1 z.f2.f0 z.f2.f1 z.f2.f2 z.f2.f3 z.f3 z.f4.f0 z.f4.f1 z.f4.f2 z.f4.f3 z.f5 z.f6.f0 z.f6.f1 z.f6.f2 z.f6.f3 z.f7.f0 z.f7.f1 z.f7.f2) (sameStatement y z)) → Ev (fun k => impl_SameProgramRows.l0 k l m  (i : Int)) (sameStatementS s t) := by
  induction s with
  | nil =>
    intro t i hi hd _ _
    have hi2 := drop_end l i hd hi
    refine Ev.step (f := fun _ => some true) (fun k => ?_) (by rw [sameStatementS]; exact Ev.now true)
    simp only [impl_SameProgramRows.l0]
    rw [if_neg (by omega)]
  | cons y s ih =>
    intro t i hi hd ht hy
    obtain ⟨hlt, hx, hd'⟩ := drop_at l i y s hd
    have hrd := rdbStatement l i y hx
    cases t with
    | nil =>
      have := drop_end m i ht (by omega)
      omega
    | cons z t =>
      obtain ⟨_, hx2, ht'⟩ := drop_at m i z t ht
      have hrd2 := rdbStatement m i z hx2
      have w := wrapl i l.length hlt hl
      rw [sameStatementS]
      refine Ev.step (f := fun k => (impl_SameStatement.f k y.f0 y.f1 y.f2.f0 y.f2.f1 y.f2.f2 y.f2.f3 y.f3 y.f4.f0 y.f4.f1 y.f4.f2 y.f4.f3 y.f5 y.f6.f0 y.f6.f1 y.f6.f2 y.f6.f3 y.f7.f0 y.f7.f1 y.f7.f2 z.f0 z.f1 z.f2.f0 z.f2.f1 z.f2.f2 z.f2.f3 z.f3 z.f4.f0 z.f4.f1 z.f4.f2 z.f4.f3 z.f5 z.f6.f0 z.f6.f1 z.f6.f2 z.f6.f3 z.f7.f0 z.f7.f1 z.f7.f2).bind fun r => if r = true then impl_SameProgramRows.l0 k l m  ((i + 1 : Nat) : Int) else some false) (fun k => ?_) (Ev.bind (hy y List.mem_cons_self z List.mem_cons_self) ?_)
      · simp only [impl_SameProgramRows.l0]
        rw [if_pos (by omega), if_pos (by omega), if_pos (by omega)]
        first
          | rw [if_pos (by omega), hrd, hrd2, w]
          | rw [hrd, hrd2, w]
      · cases sameStatement y z with
        | true =>
          rw [Bool.true_and]
          exact Ev.congr (fun k => by rw [if_pos rfl]) (ih t (i + 1) (by omega) hd' ht' (fun u hu v hv => hy u (List.mem_cons_of_mem _ hu) v (List.mem_cons_of_mem _ hv)))
        | false =>
          rw [Bool.false_and]
          exact Ev.congr (f := fun _ => some false) (fun k => by rw [if_neg (by simp)]) (Ev.now false)
theorem impl_SameProgramRows_ev (l m : List S36) (hl : l.length ≤ 9223372036854775807) (hy : ∀ y, y ∈ l → ∀ z, z ∈ m → Ev (fun k => impl_SameStatement.f k y.f0 y.f1 y.f2.f0 y.f2.f1 y.f2.f2 y.f2.f3 y.f3 y.f4.f0 y.f4.f1 y.f4.f2 y.f4.f3 y.f5 y.f6.f0 y.f6.f1 y.f6.f2 y.f6.f3 y.f7.f0 y.f7.f1 y.f7.f2 z.f0 z.f1 z.f2.f0 z.f2.f1 z.f2.f2 z.f2.f3 z.f3 z.f4.f0 z.f4.f1 z.f4.f2 z.f4.f3 z.f5 z.f6.f0 z.f6.f1 z.f6.f2 z.f6.f3 z.f7.f0 z.f7.f1 z.f7.f2) (sameStatement y z)) : Ev (fun k => impl_SameProgramRows.f k l m) ((l.length == m.length) && sameStatementS l m) := by
  by_cases h : l.length = m.length
  · rw [beq_iff_eq.mpr h, Bool.true_and]
    refine Ev.congr (fun k => ?_) (impl_SameProgramRows_loop l m hl h l m 0 (by omega) rfl rfl hy)
    unfold impl_SameProgramRows.f
    rw [if_pos (by omega)]
    rfl
  · rw [beq_eq_false_iff_ne.mpr h, Bool.false_and]
    refine Ev.congr (f := fun _ => some false) (fun k => ?_) (Ev.now false)
    unfold impl_SameProgramRows.f
    rw [if_neg (by omega)]
def sameProgram (y z : S46) : Bool := (y.f0.length == z.f0.length) && sameStatementS y.f0 z.f0
def fineProgram (y : S46) : Prop := y.f0.length ≤ 9223372036854775807 ∧ ∀ u, u ∈ y.f0 → FineStatement u
theorem fineProgram_conv (x : S41) (g : G41 x) : fineProgram (convProgram x) := by
  cases g with
  | mk b0 b1 =>
  refine ⟨by unfold convProgram; rw [List.length_map]; exact b0, fun u hu => ?_⟩
  obtain ⟨z, hz, rfl⟩ := List.mem_map.1 hu
  exact fineStatement_conv z (b1 z hz)
theorem specP_ev (y z : S46) (gy : fineProgram y) (gz : fineProgram z) : Ev (fun k => specO k y z) (sameProgram y z) := spec_SameProgramRows_ev _ _ gy.1 (fun u hu v hv => specS_ev u v (gy.2 u hu) (gz.2 v hv))
theorem implP_ev (y z : S46) (gy : fineProgram y) (gz : fineProgram z) : Ev (fun k => implO k y z) (sameProgram y z) := impl_SameProgramRows_ev _ _ gy.1 (fun u hu v hv => implS_ev u v (gy.2 u hu) (gz.2 v hv))
end SameProgram
open SameProgram in
theorem FnExactSameProgram : laws_FnExactSameProgram.Pure := by
  intro x y g gy
  apply Ev.rounds
  unfold laws_FnExactSameProgram.f
  obtain ⟨r, e, c | ⟨p, q, sm⟩⟩ := sz_ok x g 1048576 (by omega) (by omega)
  · exact Ev.bind e (Ev.congr (f := fun _ => some true) (fun k => by rw [if_pos c]) (Ev.now true))
  refine Ev.bind e (Ev.congr (fun k => by rw [if_neg (show ¬ r < 0 by omega)]) ?_)
  obtain ⟨r2, e2, c2 | ⟨p2, q2, sm2⟩⟩ := sz_ok y gy r (by omega) (by omega)
  · exact Ev.bind e2 (Ev.congr (f := fun _ => some true) (fun k => by rw [if_pos c2]) (Ev.now true))
  refine Ev.bind e2 (Ev.congr (fun k => by rw [if_neg (show ¬ r2 < 0 by omega)]) ?_)
  have t := to_ok x g sm
  have t2 := to_ok y gy sm2
  have fx := fineProgram_conv x g
  have fy := fineProgram_conv y gy
  refine Ev.bind t (Ev.bind t2 (Ev.bind (specP_ev _ _ fx fy) (Ev.bind t (Ev.bind t2 (Ev.bind (implP_ev _ _ fx fy) (Ev.congr (fun k => by rw [if_pos rfl]) ?_))))))
  refine Ev.bind t (Ev.bind (a := true) (eq_ok x g) (Ev.congr (fun k => by rw [if_pos rfl]) ?_))
  refine Ev.bind t2 (Ev.bind (a := true) (eq_ok y gy) ?_)
  exact Ev.congr (f := fun _ => some true) (fun k => by rw [if_pos rfl]) (Ev.now true)
end Go.Proofs.Ytocfepcgpelhdaa.Pure
