/- FnExactExprNodes answers true for every expression: the program's ExprNodes (one count up to the limit) and the reference's (a size, if each node is valid, through pointers) tell the same number, and the argument reads as before. Conditions: none beyond the statement's own. -/
import Derived.Test.YtfilllhbhgkmaaaPFnExactExprNodesx7
namespace Go.Proofs.Ytfilllhbhgkmaaa.Pure
open Go.RowKit Go.Proofs.Ytfilllhbhgkmaaa.PFnExactExprNodes Go.Proofs.YtfilllhbhgkmaaaW.PrintWords Go.Proofs.YtfilllhbhgkmaaaW.PrintLast
namespace ExprNodes
-- the tree type Expr: szExpr, toExpr, eqExpr (S24: as it comes in; S29: the program's)
mutual
def convExpr : S24 → S29
  | ⟨a, b, c, d⟩ => ⟨a, b, c, convExprS d⟩
def convExprS : List S24 → List S29
  | [] => []
  | x :: xs => convExpr x :: convExprS xs
end
mutual
def sizeExpr : S24 → Nat
  | ⟨_, _, c, d⟩ => c.size + (d.length + sizeExprS d)
def sizeExprS : List S24 → Nat
  | [] => 0
  | x :: xs => sizeExpr x + sizeExprS xs
end
theorem convExpr_f0 (x : S24) : (convExpr x).f0 = x.f0 := by cases x; simp [convExpr]
theorem convExpr_f1 (x : S24) : (convExpr x).f1 = x.f1 := by cases x; simp [convExpr]
theorem convExpr_f2 (x : S24) : (convExpr x).f2 = x.f2 := by cases x; simp [convExpr]
theorem convExpr_f3 (x : S24) : (convExpr x).f3 = convExprS x.f3 := by cases x; simp [convExpr]
theorem sizeExpr_eq (x : S24) : sizeExpr x = x.f2.size + (x.f3.length + sizeExprS x.f3) := by cases x; simp [sizeExpr]
theorem sizeExprS_nil : sizeExprS ([] : List S24) = 0 := by simp [sizeExprS]
theorem sizeExprS_cons (y : S24) (s : List S24) : sizeExprS (y :: s) = sizeExpr y + sizeExprS s := by simp [sizeExprS]
theorem convExprS_map (l : List S24) : convExprS l = l.map convExpr := by
  induction l with
  | nil => rfl
  | cons x l ih => simp [convExprS, ih]
theorem convExprS_length (l : List S24) : (convExprS l).length = l.length := by rw [convExprS_map, List.length_map]
theorem rd24_at (l : List S24) (i : Nat) (x : S24) (s : List S24) (h : l.drop i = x :: s) : i < l.length ∧ rd_T24 l (i : Int) = x ∧ l.drop (i + 1) = s := by
  have h1 : i < l.length := by
    rcases Nat.lt_or_ge i l.length with h2 | h2
    · exact h2
    · rw [List.drop_eq_nil_of_le h2] at h
      cases h
  rw [List.drop_eq_getElem_cons h1] at h
  injection h with h2 h3
  refine ⟨h1, ?_, h3⟩
  unfold rd_T24
  rw [List.getD_eq_getElem?_getD, Int.toNat_natCast, List.getElem?_eq_getElem h1]
  exact h2
theorem rd29_at (l : List S29) (i : Nat) (x : S29) (s : List S29) (h : l.drop i = x :: s) : i < l.length ∧ rd_T29 l (i : Int) = x ∧ l.drop (i + 1) = s := by
  have h1 : i < l.length := by
    rcases Nat.lt_or_ge i l.length with h2 | h2
    · exact h2
    · rw [List.drop_eq_nil_of_le h2] at h
      cases h
  rw [List.drop_eq_getElem_cons h1] at h
  injection h with h2 h3
  refine ⟨h1, ?_, h3⟩
  unfold rd_T29
  rw [List.getD_eq_getElem?_getD, Int.toNat_natCast, List.getElem?_eq_getElem h1]
  exact h2
theorem drop24_end (l : List S24) (i : Nat) (h : l.drop i = []) (hi : i ≤ l.length) : i = l.length := by
  have := congrArg List.length h
  simp at this
  omega
theorem drop29_end (l : List S29) (i : Nat) (h : l.drop i = []) (hi : i ≤ l.length) : i = l.length := by
  have := congrArg List.length h
  simp at this
  omega
theorem eta29 (x : S29) : (⟨x.f0, x.f1, x.f2, x.f3⟩ : S29) = x := by cases x; rfl
theorem wrapiExpr (i n : Nat) (h : i < n) (hn : n ≤ 9223372036854775807) : wrap64 ((i : Int) + 1) = ((i + 1 : Nat) : Int) := by unfold wrap64; omega

theorem szExpr_loop (l : List S24) (hl : l.length ≤ 9223372036854775807) (s : List S24) : ∀ (i : Nat) (left : Int), i ≤ l.length → l.drop i = s →
    (∀ y, y ∈ s → ∀ left : Int, 0 ≤ left → left ≤ 1048576 → Ev (fun k => laws_szExpr.f k y.f0 y.f1 y.f2 y.f3 left) (if (sizeExpr y : Int) ≤ left then left - sizeExpr y else -1)) →
    0 ≤ left → left ≤ 1048576 → Ev (fun k => laws_szExprS.l0 k l left (i : Int)) (if (sizeExprS s : Int) ≤ left then left - sizeExprS s else -1) := by
  induction s with
  | nil =>
    intro i left hi hd _ h0 h1
    have := drop24_end l i hd hi
    refine Ev.step (f := fun _ => some left) (fun k => ?_) ?_
    · simp only [laws_szExprS.l0]
      rw [if_neg (by omega)]
    · rw [sizeExprS_nil, if_pos (by simpa using h0)]
      simpa using Ev.now left
  | cons y s ih =>
    intro i left hi hd hy h0 h1
    obtain ⟨hlt, hrd, hd'⟩ := rd24_at l i y s hd
    have e := hy y List.mem_cons_self left h0 h1
    by_cases hs : (sizeExpr y : Int) ≤ left
    · rw [if_pos hs] at e
      have r := ih (i + 1) (left - sizeExpr y) (by omega) hd' (fun z hz => hy z (List.mem_cons_of_mem _ hz)) (by omega) (by omega)
      refine Ev.step (f := fun k => (laws_szExpr.f k y.f0 y.f1 y.f2 y.f3 left).bind fun t => if t < 0 then some (-1) else laws_szExprS.l0 k l t ((i + 1 : Nat) : Int)) (fun k => ?_) ?_
      · simp only [laws_szExprS.l0]
        rw [if_pos (by omega), if_pos (by omega), hrd, wrapiExpr i l.length hlt hl]
      · refine Ev.bind e ?_
        refine Ev.congr (f := fun k => laws_szExprS.l0 k l (left - sizeExpr y) ((i + 1 : Nat) : Int)) (fun k => by rw [if_neg (by omega)]) ?_
        have e3 : (if (sizeExprS (y :: s) : Int) ≤ left then left - (sizeExprS (y :: s) : Int) else -1) = if (sizeExprS s : Int) ≤ left - sizeExpr y then left - sizeExpr y - sizeExprS s else -1 := by
          rw [sizeExprS_cons]
          split <;> split <;> omega
        rw [e3]
        exact r
    · rw [if_neg hs] at e
      refine Ev.step (f := fun k => (laws_szExpr.f k y.f0 y.f1 y.f2 y.f3 left).bind fun t => if t < 0 then some (-1) else laws_szExprS.l0 k l t ((i + 1 : Nat) : Int)) (fun k => ?_) ?_
      · simp only [laws_szExprS.l0]
        rw [if_pos (by omega), if_pos (by omega), hrd, wrapiExpr i l.length hlt hl]
      · refine Ev.bind e ?_
        rw [if_neg (by rw [sizeExprS_cons]; omega)]
        exact Ev.congr (f := fun _ => some (-1)) (fun k => by rw [if_pos (by omega)]) (Ev.now _)

theorem szExpr_ev (x : S24) (g : G24 x) : ∀ left : Int, 0 ≤ left → left ≤ 1048576 → Ev (fun k => laws_szExpr.f k x.f0 x.f1 x.f2 x.f3 left) (if (sizeExpr x : Int) ≤ left then left - sizeExpr x else -1) := by
  induction g with
  | mk x h0 h1 h2 h3 h3k ih =>
    intro left hl0 hl1
    have w1 : wrap64 (left - (x.f2.size : Int)) = left - x.f2.size := by unfold wrap64; omega
    by_cases hs : left - (x.f2.size : Int) < 0
    · rw [if_neg (by rw [sizeExpr_eq]; omega)]
      refine Ev.step (f := fun _ => some (-1)) (fun k => ?_) (Ev.now _)
      simp only [laws_szExpr.f]
      rw [w1, if_pos hs]
    · refine Ev.step (f := fun k => (laws_szExprS.f k x.f3 (left - x.f2.size)).bind fun t => if t < 0 then some (-1) else some t) (fun k => ?_) ?_
      · simp only [laws_szExpr.f]
        rw [w1, if_neg hs]
      · have w2 : wrap64 (left - (x.f2.size : Int) - (x.f3.length : Int)) = left - x.f2.size - x.f3.length := by unfold wrap64; omega
        have e : Ev (fun k => laws_szExprS.f k x.f3 (left - x.f2.size)) (if (sizeExpr x : Int) ≤ left then left - sizeExpr x else -1) := by
          by_cases hs2 : left - (x.f2.size : Int) - x.f3.length < 0
          · rw [if_neg (by rw [sizeExpr_eq]; omega)]
            refine Ev.step (f := fun _ => some (-1)) (fun k => ?_) (Ev.now _)
            simp only [laws_szExprS.f]
            rw [w2, if_pos hs2]
          · refine Ev.step (f := fun k => laws_szExprS.l0 k x.f3 (left - x.f2.size - x.f3.length) ((0 : Nat) : Int)) (fun k => ?_) ?_
            · simp only [laws_szExprS.f]
              rw [w2, if_neg hs2]
              rfl
            · have r := szExpr_loop x.f3 h3 x.f3 0 (left - x.f2.size - x.f3.length) (by omega) rfl ih (by omega) (by omega)
              have e3 : (if (sizeExpr x : Int) ≤ left then left - (sizeExpr x : Int) else -1) = if (sizeExprS x.f3 : Int) ≤ left - x.f2.size - x.f3.length then left - x.f2.size - x.f3.length - sizeExprS x.f3 else -1 := by
                rw [sizeExpr_eq]
                split <;> split <;> omega
              rw [e3]
              exact r
        refine Ev.bind e ?_
        by_cases hz : (sizeExpr x : Int) ≤ left
        · rw [if_pos hz]
          exact Ev.congr (f := fun _ => some (left - sizeExpr x)) (fun k => by rw [if_neg (by omega)]) (Ev.now _)
        · rw [if_neg hz]
          exact Ev.congr (f := fun _ => some (-1)) (fun k => by rw [if_pos (by omega)]) (Ev.now _)

theorem toExpr_loop (l : List S24) (hl : l.length ≤ 9223372036854775807) (s : List S24) : ∀ (i : Nat) (out : List S29), i ≤ l.length → l.drop i = s → out.length = l.length → out.take i = (convExprS l).take i →
    (∀ y, y ∈ s → Ev (fun k => laws_toExpr.f k y.f0 y.f1 y.f2 y.f3) ((convExpr y).f0, (convExpr y).f1, (convExpr y).f2, (convExpr y).f3)) →
    Ev (fun k => laws_toExprS.l0 k l out (i : Int)) (convExprS l) := by
  induction s with
  | nil =>
    intro i out hi hd ho ht _
    have hi2 := drop24_end l i hd hi
    have e : out = convExprS l := by
      rw [List.take_of_length_le (by omega), List.take_of_length_le (by rw [convExprS_length]; omega)] at ht
      exact ht
    refine Ev.step (f := fun _ => some out) (fun k => ?_) (e ▸ Ev.now out)
    simp only [laws_toExprS.l0]
    rw [if_neg (by omega)]
  | cons y s ih =>
    intro i out hi hd ho ht hy
    obtain ⟨hlt, hrd, hd'⟩ := rd24_at l i y s hd
    have e := hy y List.mem_cons_self
    have hly : (convExprS l)[i]? = some (convExpr y) := by
      rw [convExprS_map, List.getElem?_map]
      have : l[i]? = some y := by
        have := congrArg List.head? hd
        simpa [List.head?_drop] using this
      rw [this]
      rfl
    have r := ih (i + 1) (out.set i (convExpr y)) (by omega) hd' (by rw [List.length_set]; exact ho) (by
      rw [List.take_add_one, List.take_add_one, hly, List.take_set_of_le (Nat.le_refl _), ht, List.getElem?_set_self (by omega)]) (fun z hz => hy z (List.mem_cons_of_mem _ hz))
    refine Ev.step (f := fun k => (laws_toExpr.f k y.f0 y.f1 y.f2 y.f3).bind fun b => if (i : Int) < (out.length : Int) then laws_toExprS.l0 k l (out.set ((i : Int) : Int).toNat (⟨b.1, b.2.1, b.2.2.1, b.2.2.2⟩ : S29)) ((i + 1 : Nat) : Int) else none) (fun k => ?_) ?_
    · simp only [laws_toExprS.l0]
      rw [if_pos (by omega), if_pos (by omega), hrd, wrapiExpr i l.length hlt hl]
    · refine Ev.bind e ?_
      refine Ev.congr (f := fun k => laws_toExprS.l0 k l (out.set i (convExpr y)) ((i + 1 : Nat) : Int)) (fun k => ?_) r
      rw [if_pos (by omega), Int.toNat_natCast]
      show laws_toExprS.l0 k l (out.set i (⟨(convExpr y).f0, (convExpr y).f1, (convExpr y).f2, (convExpr y).f3⟩ : S29)) _ = _
      rw [eta29]

theorem toExpr_ev (x : S24) (g : G24 x) : sizeExpr x ≤ 1048576 → Ev (fun k => laws_toExpr.f k x.f0 x.f1 x.f2 x.f3) ((convExpr x).f0, (convExpr x).f1, (convExpr x).f2, (convExpr x).f3) := by
  induction g with
  | mk x h0 h1 h2 h3 h3k ih =>
    intro hsz
    rw [sizeExpr_eq] at hsz
    have hmem : ∀ y, y ∈ x.f3 → sizeExpr y ≤ sizeExprS x.f3 := by
      have : ∀ (l : List S24) (y : S24), y ∈ l → sizeExpr y ≤ sizeExprS l := by
        intro l
        induction l with
        | nil => intro y hy; cases hy
        | cons z l ihl =>
          intro y hy
          simp only [sizeExprS]
          rcases List.mem_cons.1 hy with rfl | hy
          · omega
          · have := ihl y hy; omega
      exact this x.f3
    have e : Ev (fun k => laws_toExprS.f k x.f3) (convExprS x.f3) := by
      refine Ev.step (f := fun k => laws_toExprS.l0 k x.f3 (List.replicate x.f3.length z29) ((0 : Nat) : Int)) (fun k => ?_) ?_
      · simp only [laws_toExprS.f]
        rw [if_pos (by omega), if_pos (by omega), Int.toNat_natCast]
        rfl
      · exact toExpr_loop x.f3 h3 x.f3 0 _ (by omega) rfl (by simp) (by simp) (fun y hy => ih y hy (by have := hmem y hy; omega))
    refine Ev.step (f := fun k => (laws_toExprS.f k x.f3).bind fun t => some (x.f0, x.f1, x.f2, t)) (fun k => ?_) ?_
    · simp only [laws_toExpr.f]
    · refine Ev.bind e ?_
      rw [convExpr_f0, convExpr_f1, convExpr_f2, convExpr_f3]
      exact Ev.now _

theorem eqExpr_loop (l : List S29) (hl : l.length ≤ 9223372036854775807) (s : List S29) : ∀ (i : Nat), i ≤ l.length → l.drop i = s →
    (∀ y, y ∈ s → Ev (fun k => laws_eqExpr.f k y.f0 y.f1 y.f2 y.f3 y.f0 y.f1 y.f2 y.f3) true) → Ev (fun k => laws_eqExprS.l0 k l l (i : Int)) true := by
  induction s with
  | nil =>
    intro i hi hd _
    have hi2 := drop29_end l i hd hi
    refine Ev.step (f := fun _ => some true) (fun k => ?_) (Ev.now true)
    simp only [laws_eqExprS.l0]
    rw [if_neg (by omega)]
  | cons y s ih =>
    intro i hi hd hy
    obtain ⟨hlt, hrd, hd'⟩ := rd29_at l i y s hd
    refine Ev.step (f := fun k => (laws_eqExpr.f k y.f0 y.f1 y.f2 y.f3 y.f0 y.f1 y.f2 y.f3).bind fun t => if t = true then laws_eqExprS.l0 k l l ((i + 1 : Nat) : Int) else some false) (fun k => ?_) ?_
    · simp only [laws_eqExprS.l0]
      rw [if_pos (by omega), if_pos (by omega), if_pos (by omega), hrd, wrapiExpr i l.length hlt hl]
    · refine Ev.bind (hy y List.mem_cons_self) ?_
      refine Ev.congr (f := fun k => laws_eqExprS.l0 k l l ((i + 1 : Nat) : Int)) (fun k => by rw [if_pos rfl]) ?_
      exact ih (i + 1) (by omega) hd' (fun z hz => hy z (List.mem_cons_of_mem _ hz))

theorem eqExpr_ev (x : S24) (g : G24 x) : Ev (fun k => laws_eqExpr.f k (convExpr x).f0 (convExpr x).f1 (convExpr x).f2 (convExpr x).f3 (convExpr x).f0 (convExpr x).f1 (convExpr x).f2 (convExpr x).f3) true := by
  induction g with
  | mk x h0 h1 h2 h3 h3k ih =>
    have e : Ev (fun k => laws_eqExprS.f k (convExpr x).f3 (convExpr x).f3) true := by
      refine Ev.step (f := fun k => laws_eqExprS.l0 k (convExpr x).f3 (convExpr x).f3 ((0 : Nat) : Int)) (fun k => ?_) ?_
      · simp only [laws_eqExprS.f]
        rw [if_pos trivial]
        rfl
      · refine eqExpr_loop (convExpr x).f3 (by rw [convExpr_f3, convExprS_length]; exact h3) (convExpr x).f3 0 (by omega) rfl ?_
        intro y hy
        rw [convExpr_f3, convExprS_map] at hy
        obtain ⟨z, hz, rfl⟩ := List.mem_map.1 hy
        exact ih z hz
    refine Ev.step (f := fun k => (laws_eqExprS.f k (convExpr x).f3 (convExpr x).f3).bind fun t => if t = true then some true else some false) (fun k => ?_) ?_
    · simp only [laws_eqExpr.f]
      rw [if_pos trivial, if_pos trivial, if_pos trivial]
    · refine Ev.bind e ?_
      exact Ev.congr (f := fun _ => some true) (fun k => by rw [if_pos rfl]) (Ev.now true)

/-- A tree of the program's type whose numbers and sizes fit. -/
inductive FineExpr : S29 → Prop where
  | mk (x : S29) (h0 : (Lit.int .i64 x.f0).wf = true) (h1 : (Lit.int .i64 x.f1).wf = true) (h2 : x.f2.size ≤ 9223372036854775807) (h3 : x.f3.length ≤ 9223372036854775807) (h3k : ∀ y, y ∈ x.f3 → FineExpr y) : FineExpr x
theorem FineExpr.kids {x : S29} (h : FineExpr x) : x.f3.length ≤ 9223372036854775807 ∧ ∀ y, y ∈ x.f3 → FineExpr y := by
  cases h with
  | mk x h0 h1 h2 h3 h3k => exact ⟨h3, h3k⟩
theorem fineExpr_conv (x : S24) (g : G24 x) : FineExpr (convExpr x) := by
  induction g with
  | mk x h0 h1 h2 h3 h3k ih =>
    refine FineExpr.mk _ (by rw [convExpr_f0]; exact h0) (by rw [convExpr_f1]; exact h1) (by rw [convExpr_f2]; exact h2) (by rw [convExpr_f3, convExprS_length]; exact h3) ?_
    intro y hy
    rw [convExpr_f3, convExprS_map] at hy
    obtain ⟨z, hz, rfl⟩ := List.mem_map.1 hy
    exact ih z hz
-- the bytes of a string, one after another
theorem byt_at (s : ByteArray) (i : Nat) (c : Int) (l : List Int) (h : (bytesOf s).drop i = c :: l) : i < s.size ∧ bt s (i : Int) = c ∧ rd (bytesOf s) (i : Int) = c ∧ (bytesOf s).drop (i + 1) = l := by
  have h1 : i < (bytesOf s).length := by
    rcases Nat.lt_or_ge i (bytesOf s).length with h2 | h2
    · exact h2
    · rw [List.drop_eq_nil_of_le h2] at h
      cases h
  rw [List.drop_eq_getElem_cons h1] at h
  injection h with h2 h3
  have h4 : rd (bytesOf s) (i : Int) = c := by
    unfold rd
    rw [Int.toNat_natCast, List.getD_eq_getElem?_getD, List.getElem?_eq_getElem h1]
    exact h2
  refine ⟨by rw [← bytesOf_length]; exact h1, ?_, h4, h3⟩
  rw [← rd_bytesOf]
  exact h4
theorem byt_end (s : ByteArray) (i : Nat) (h : (bytesOf s).drop i = []) (hi : i ≤ s.size) : i = s.size := by
  have := congrArg List.length h
  rw [List.length_drop, bytesOf_length] at this
  simp at this
  omega
theorem wrapb (i n : Nat) (h : i < n) (hn : n ≤ 9223372036854775807) : wrap64 ((i : Int) + 1) = ((i + 1 : Nat) : Int) := by unfold wrap64; omega
-- names: the program's IsName and the reference's
def letterB (c : Int) : Bool := (decide (65 ≤ c) && decide (c ≤ 90)) || (decide (97 ≤ c) && decide (c ≤ 122))
def digitB (c : Int) : Bool := decide (48 ≤ c) && decide (c ≤ 57)
def nameB (c : Int) : Bool := letterB c || (digitB c || c == 95)
theorem spec_letter (c : Int) : spec_l02Letter.f c = some (letterB c) := by
  unfold spec_l02Letter.f letterB
  by_cases h1 : 65 ≤ c <;> by_cases h2 : c ≤ 90 <;> by_cases h3 : 97 ≤ c <;> simp [h1, h2, h3]
theorem spec_digit (c : Int) : spec_l02Digit.f c = some (digitB c) := by
  unfold spec_l02Digit.f digitB
  by_cases h1 : 48 ≤ c <;> simp [h1]
theorem impl_letter (c : Int) : impl_isLetter.f c = some (letterB c) := by
  unfold impl_isLetter.f letterB
  by_cases h1 : 65 ≤ c <;> by_cases h2 : c ≤ 90 <;> by_cases h3 : 97 ≤ c <;> simp [h1, h2, h3]
theorem impl_digit (c : Int) : impl_isDigit.f c = some (digitB c) := by
  unfold impl_isDigit.f digitB
  by_cases h1 : 48 ≤ c <;> simp [h1]
theorem impl_nameByte (c : Int) : impl_isNameByte.f c = some (nameB c) := by
  unfold impl_isNameByte.f nameB
  rw [impl_letter, impl_digit]
  cases letterB c <;> cases digitB c <;> simp
theorem bytes_at (s : ByteArray) (i : Nat) (c : Int) (l : List Int) (h : (bytesOf s).drop i = c :: l) : i < s.size ∧ bt s (i : Int) = c ∧ rd (bytesOf s) (i : Int) = c ∧ (bytesOf s).drop (i + 1) = l := by
  have h1 : i < (bytesOf s).length := by
    rcases Nat.lt_or_ge i (bytesOf s).length with h2 | h2
    · exact h2
    · rw [List.drop_eq_nil_of_le h2] at h
      cases h
  rw [List.drop_eq_getElem_cons h1] at h
  injection h with h2 h3
  have h4 : rd (bytesOf s) (i : Int) = c := by
    unfold rd
    rw [Int.toNat_natCast, List.getD_eq_getElem?_getD, List.getElem?_eq_getElem h1]
    exact h2
  refine ⟨by rw [← bytesOf_length]; exact h1, ?_, h4, h3⟩
  rw [← rd_bytesOf]
  exact h4
theorem bytes_end (s : ByteArray) (i : Nat) (h : (bytesOf s).drop i = []) (hi : i ≤ s.size) : i = s.size := by
  have := congrArg List.length h
  rw [List.length_drop, bytesOf_length] at this
  simp at this
  omega
theorem wrapn (i n : Nat) (h : i < n) (hn : n ≤ 9223372036854775807) : wrap64 ((i : Int) + 1) = ((i + 1 : Nat) : Int) := by unfold wrap64; omega
theorem nameEnd_loop (s : ByteArray) (hs : s.size ≤ 9223372036854775807) (l : List Int) : ∀ i : Nat, i ≤ s.size → (bytesOf s).drop i = l → Ev (fun k => spec_l02NameEnd.l0 k s (i : Int)) ((i : Int) + (l.takeWhile nameB).length) := by
  induction l with
  | nil =>
    intro i hi hd
    have h2 := bytes_end s i hd hi
    refine Ev.step (f := fun _ => some (i : Int)) (fun k => ?_) (by simpa using Ev.now (i : Int))
    simp only [spec_l02NameEnd.l0]
    rw [if_neg (by omega)]
  | cons c l ih =>
    intro i hi hd
    obtain ⟨hlt, hb, _, hd'⟩ := bytes_at s i c l hd
    cases hn : nameB c with
    | true =>
      have r := ih (i + 1) (by omega) hd'
      have e : (i : Int) + ((c :: l).takeWhile nameB).length = ((i + 1 : Nat) : Int) + (l.takeWhile nameB).length := by
        rw [List.takeWhile_cons_of_pos hn, List.length_cons]
        omega
      rw [e]
      refine Ev.step (f := fun k => spec_l02NameEnd.l0 k s ((i + 1 : Nat) : Int)) (fun k => ?_) r
      simp only [spec_l02NameEnd.l0]
      rw [if_pos (by omega), if_pos (by omega), hb, spec_letter, spec_digit, wrapn i s.size hlt hs]
      unfold nameB at hn
      cases hl : letterB c with
      | true => simp
      | false =>
        cases hg : digitB c with
        | true => simp
        | false =>
          rw [hl, hg] at hn
          have hc : c = 95 := by simpa using hn
          simp [hc]
    | false =>
      rw [List.takeWhile_cons_of_neg (by simp [hn])]
      refine Ev.step (f := fun _ => some (i : Int)) (fun k => ?_) (by simpa using Ev.now (i : Int))
      simp only [spec_l02NameEnd.l0]
      rw [if_pos (by omega), if_pos (by omega), hb, spec_letter, spec_digit]
      unfold nameB at hn
      cases hl : letterB c with
      | true => rw [hl] at hn; simp at hn
      | false =>
        cases hg : digitB c with
        | true => rw [hl, hg] at hn; simp at hn
        | false =>
          rw [hl, hg] at hn
          have hc : ¬ c = 95 := by simpa using hn
          simp [hc]
theorem takeWhile_all (l : List Int) (p : Int → Bool) : (l.takeWhile p).length = l.length ↔ l.all p = true := by
  induction l with
  | nil => simp
  | cons c l ih =>
    cases h : p c with
    | true => rw [List.takeWhile_cons_of_pos h]; simp [h, ih]
    | false => rw [List.takeWhile_cons_of_neg (by simp [h])]; simp [h]
/-- What a name is. -/
def isNameB (s : ByteArray) : Bool := decide (1 ≤ s.size) && (decide (s.size ≤ 12) && (letterB (bt s 0) && (bytesOf s).all nameB))
theorem spec_isName (s : ByteArray) : Ev (fun k => spec_IsName.f k s) (isNameB s) := by
  unfold isNameB
  by_cases h1 : 1 ≤ s.size
  · have hne : ¬ s.toList = [] := by
      rw [Go.ByteArray.toList_eq]
      intro e
      have := data_length s
      rw [e] at this
      simp at this
      omega
    by_cases h2 : s.size ≤ 12
    · have e : Ev (fun k => spec_l02NameEnd.f k s 0) (if letterB (bt s 0) = true then (((bytesOf s).takeWhile nameB).length : Int) else 0) := by
        cases hl : letterB (bt s 0) with
        | true =>
          have r := nameEnd_loop s (by omega) (bytesOf s) 0 (by omega) rfl
          rw [if_pos rfl]
          simp only [Int.natCast_zero, Int.zero_add] at r
          refine Ev.congr (f := fun k => spec_l02NameEnd.j0 k s 0 false) (fun k => ?_) (Ev.step (f := fun k => spec_l02NameEnd.l0 k s 0) (fun k => by simp only [spec_l02NameEnd.j0]; simp) r)
          unfold spec_l02NameEnd.f
          rw [if_neg (by omega), if_pos (by omega), if_pos (by omega), spec_letter, hl]
          rfl
        | false =>
          rw [if_neg (by simp)]
          refine Ev.congr (f := fun k => spec_l02NameEnd.j0 k s 0 true) (fun k => ?_) (Ev.step (f := fun _ => some 0) (fun k => by simp only [spec_l02NameEnd.j0]; simp) (Ev.now 0))
          unfold spec_l02NameEnd.f
          rw [if_neg (by omega), if_pos (by omega), if_pos (by omega), spec_letter, hl]
          rfl
      refine Ev.congr (f := fun k => (spec_l02NameEnd.f k s 0).bind fun t => some (t == (s.size : Int))) (fun k => ?_) (Ev.bind e ?_)
      · unfold spec_IsName.f
        rw [if_neg hne, if_pos (by omega)]
      · have hx : (decide (1 ≤ s.size) && (decide (s.size ≤ 12) && (letterB (bt s 0) && (bytesOf s).all nameB))) = ((if letterB (bt s 0) = true then (((bytesOf s).takeWhile nameB).length : Int) else 0) == (s.size : Int)) := by
          rw [decide_eq_true h1, decide_eq_true h2]
          simp only [Bool.true_and]
          cases hl : letterB (bt s 0) with
          | true =>
            rw [if_pos rfl, Bool.true_and]
            have h3 := takeWhile_all (bytesOf s) nameB
            rw [bytesOf_length] at h3
            rw [Bool.eq_iff_iff, ← h3, beq_iff_eq]
            omega
          | false =>
            rw [if_neg (by simp), Bool.false_and]
            have h4 : ¬ (0 : Int) = (s.size : Int) := by omega
            simp [h4]
        rw [hx]
        exact Ev.now _
    · rw [decide_eq_false h2]
      simp only [Bool.false_and, Bool.and_false]
      refine Ev.congr (f := fun _ => some false) (fun k => ?_) (Ev.now false)
      unfold spec_IsName.f
      rw [if_neg hne, if_neg (by omega)]
  · rw [decide_eq_false h1]
    simp only [Bool.false_and]
    refine Ev.congr (f := fun _ => some false) (fun k => ?_) (Ev.now false)
    unfold spec_IsName.f
    rw [if_pos (by rw [Go.ByteArray.toList_eq]; exact List.eq_nil_of_length_eq_zero (by rw [data_length]; omega))]
theorem areAllName_loop (s : ByteArray) (hs : s.size ≤ 9223372036854775807) (l : List Int) : ∀ i : Nat, i ≤ s.size → (bytesOf s).drop i = l → Ev (fun k => impl_areAll_byte_at_impl_isNameByte.l0 k (bytesOf s) (s.size : Int) (i : Int)) (l.all nameB) := by
  induction l with
  | nil =>
    intro i hi hd
    have h2 := bytes_end s i hd hi
    refine Ev.step (f := fun _ => some true) (fun k => ?_) (by simpa using Ev.now true)
    simp only [impl_areAll_byte_at_impl_isNameByte.l0]
    rw [if_neg (by omega)]
  | cons c l ih =>
    intro i hi hd
    obtain ⟨hlt, _, hb, hd'⟩ := bytes_at s i c l hd
    rw [List.all_cons]
    cases hn : nameB c with
    | true =>
      rw [Bool.true_and]
      refine Ev.step (f := fun k => impl_areAll_byte_at_impl_isNameByte.l0 k (bytesOf s) (s.size : Int) ((i + 1 : Nat) : Int)) (fun k => ?_) (ih (i + 1) (by omega) hd')
      simp only [impl_areAll_byte_at_impl_isNameByte.l0]
      rw [if_pos (by omega), if_pos (by omega), if_pos (by rw [bytesOf_length]; omega), hb, impl_nameByte, hn, wrapn i s.size hlt hs]
      rfl
    | false =>
      rw [Bool.false_and]
      refine Ev.step (f := fun _ => some false) (fun k => ?_) (Ev.now false)
      simp only [impl_areAll_byte_at_impl_isNameByte.l0]
      rw [if_pos (by omega), if_pos (by omega), if_pos (by rw [bytesOf_length]; omega), hb, impl_nameByte, hn]
      rfl
theorem impl_isName (s : ByteArray) : Ev (fun k => impl_IsName.f k s) (isNameB s) := by
  unfold isNameB
  by_cases h1 : 1 ≤ s.size
  · by_cases h2 : s.size ≤ 12
    · rw [decide_eq_true h1, decide_eq_true h2]
      simp only [Bool.true_and]
      cases hl : letterB (bt s 0) with
      | true =>
        rw [Bool.true_and]
        have r := areAllName_loop s (by omega) (bytesOf s) 0 (by omega) rfl
        refine Ev.congr (f := fun k => (impl_areAll_byte_at_impl_isNameByte.f k (bytesOf s)).bind fun t => some t) (fun k => ?_) (Ev.bind (Ev.congr (fun k => ?_) r) (Ev.now _))
        · unfold impl_IsName.f
          rw [if_pos (by omega), if_pos (by omega), if_pos (by omega), impl_letter, hl, Option.bind_some, if_pos rfl, if_pos (by omega)]
        · unfold impl_areAll_byte_at_impl_isNameByte.f
          rw [bytesOf_length]
          rfl
      | false =>
        rw [Bool.false_and]
        refine Ev.congr (f := fun _ => some false) (fun k => ?_) (Ev.now false)
        unfold impl_IsName.f
        rw [if_pos (by omega), if_pos (by omega), if_pos (by omega), impl_letter, hl]
        rfl
    · rw [decide_eq_false h2]
      simp only [Bool.false_and, Bool.and_false]
      refine Ev.congr (f := fun _ => some false) (fun k => ?_) (Ev.now false)
      unfold impl_IsName.f
      rw [if_pos (by omega), if_neg (by omega)]
  · rw [decide_eq_false h1]
    simp only [Bool.false_and]
    refine Ev.congr (f := fun _ => some false) (fun k => ?_) (Ev.now false)
    unfold impl_IsName.f
    rw [if_neg (by omega)]
-- plain texts: the program's isPlainText and the reference's l01Printable (behind Bytes)
def plainB (c : Int) : Bool := decide (32 ≤ c) && decide (c ≤ 126)
theorem spec_print_loop (s : ByteArray) (hs : s.size ≤ 9223372036854775807) (l : List Int) : ∀ i : Nat, i ≤ s.size → (bytesOf s).drop i = l → Ev (fun k => spec_l01Printable.l0 k s false (i : Int)) (l.all plainB) := by
  induction l with
  | nil =>
    intro i hi hd
    have h2 := byt_end s i hd hi
    refine Ev.step (f := fun _ => some true) (fun k => ?_) (by simpa using Ev.now true)
    simp only [spec_l01Printable.l0]
    rw [if_neg (by omega)]
  | cons c l ih =>
    intro i hi hd
    obtain ⟨hlt, hb, _, hd'⟩ := byt_at s i c l hd
    rw [List.all_cons]
    by_cases h1 : c < 32
    · rw [show plainB c = false by unfold plainB; rw [decide_eq_false (by omega), Bool.false_and], Bool.false_and]
      refine Ev.step (f := fun _ => some false) (fun k => ?_) (Ev.now false)
      simp only [spec_l01Printable.l0]
      rw [if_pos (by omega), if_pos (by omega), hb, if_pos h1]
      simp
    · by_cases h2 : c > 126
      · rw [show plainB c = false by unfold plainB; rw [decide_eq_false (show ¬ c ≤ 126 by omega), Bool.and_false], Bool.false_and]
        refine Ev.step (f := fun _ => some false) (fun k => ?_) (Ev.now false)
        simp only [spec_l01Printable.l0]
        rw [if_pos (by omega), if_pos (by omega), hb, if_neg h1, if_pos h2]
        simp
      · rw [show plainB c = true by unfold plainB; rw [decide_eq_true (show 32 ≤ c by omega), decide_eq_true (show c ≤ 126 by omega)]; rfl, Bool.true_and]
        refine Ev.step (f := fun k => spec_l01Printable.l0 k s false ((i + 1 : Nat) : Int)) (fun k => ?_) (ih (i + 1) (by omega) hd')
        simp only [spec_l01Printable.l0]
        rw [if_pos (by omega), if_pos (by omega), hb, if_neg h1, if_neg h2, wrapb i s.size hlt hs]
theorem impl_isPlain_ev (c : Int) : impl_isPlain.f c = some (plainB c) := by
  unfold impl_isPlain.f plainB
  by_cases h1 : 32 ≤ c <;> simp [h1]
theorem areAllPlain_loop (s : ByteArray) (hs : s.size ≤ 9223372036854775807) (l : List Int) : ∀ i : Nat, i ≤ s.size → (bytesOf s).drop i = l → Ev (fun k => impl_areAll_byte_at_impl_isPlain.l0 k (bytesOf s) (s.size : Int) (i : Int)) (l.all plainB) := by
  induction l with
  | nil =>
    intro i hi hd
    have h2 := byt_end s i hd hi
    refine Ev.step (f := fun _ => some true) (fun k => ?_) (by simpa using Ev.now true)
    simp only [impl_areAll_byte_at_impl_isPlain.l0]
    rw [if_neg (by omega)]
  | cons c l ih =>
    intro i hi hd
    obtain ⟨hlt, _, hb, hd'⟩ := byt_at s i c l hd
    rw [List.all_cons]
    cases hn : plainB c with
    | true =>
      rw [Bool.true_and]
      refine Ev.step (f := fun k => impl_areAll_byte_at_impl_isPlain.l0 k (bytesOf s) (s.size : Int) ((i + 1 : Nat) : Int)) (fun k => ?_) (ih (i + 1) (by omega) hd')
      simp only [impl_areAll_byte_at_impl_isPlain.l0]
      rw [if_pos (by omega), if_pos (by omega), if_pos (by rw [bytesOf_length]; omega), hb, impl_isPlain_ev, hn, wrapb i s.size hlt hs]
      rfl
    | false =>
      rw [Bool.false_and]
      refine Ev.step (f := fun _ => some false) (fun k => ?_) (Ev.now false)
      simp only [impl_areAll_byte_at_impl_isPlain.l0]
      rw [if_pos (by omega), if_pos (by omega), if_pos (by rw [bytesOf_length]; omega), hb, impl_isPlain_ev, hn]
      rfl
theorem impl_plainText (s : ByteArray) (hs : s.size ≤ 9223372036854775807) : Ev (fun k => impl_isPlainText.f k s) ((bytesOf s).all plainB) := by
  have r := areAllPlain_loop s hs (bytesOf s) 0 (by omega) rfl
  refine Ev.congr (f := fun k => (impl_areAll_byte_at_impl_isPlain.f k (bytesOf s)).bind fun t => some t) (fun k => ?_) (Ev.bind (Ev.congr (fun k => ?_) r) (Ev.now _))
  · unfold impl_isPlainText.f
    rw [if_pos hs]
  · unfold impl_areAll_byte_at_impl_isPlain.f
    rw [bytesOf_length]
    rfl
theorem spec_printable (s : ByteArray) (hs : s.size ≤ 9223372036854775807) : Ev (fun k => spec_l01Printable.f k s false) ((bytesOf s).all plainB) := by
  refine Ev.congr (fun k => ?_) (spec_print_loop s hs (bytesOf s) 0 (by omega) rfl)
  unfold spec_l01Printable.f
  rfl
-- what strings.Contains tells where one byte is sought
theorem idx_mem (l : List UInt8) (c : UInt8) : (0 ≤ Lib.indexByte l c) ↔ c ∈ l := by
  induction l with
  | nil => simp [Lib.indexByte]
  | cons b l ih =>
    unfold Lib.indexByte
    by_cases h : b = c
    · simp [h]
    · have hb : (b == c) = false := by simp [h]
      have hc : ¬ c = b := fun e => h e.symm
      have g := Lib.indexByte_ge l c
      rw [hb, List.mem_cons, ← ih]
      simp only [Bool.false_eq_true, if_false]
      by_cases e : Lib.indexByte l c = -1
      · rw [if_pos (by simp [e]), e]
        simp [hc]
      · rw [if_neg (by simp [e])]
        constructor
        · intro _
          exact Or.inr (by omega)
        · intro h2
          rcases h2 with h2 | h2
          · exact absurd h2 hc
          · omega
theorem contains_one (s : ByteArray) (c : UInt8) : strings_Contains.f s ⟨#[c]⟩ = some (decide (c ∈ s.data.toList)) := by
  unfold strings_Contains.f
  rw [if_pos (show (⟨#[c]⟩ : ByteArray).data.size = 1 from rfl)]
  simp only [show ((⟨#[c]⟩ : ByteArray).data.toList.headD 0) = c from rfl, idx_mem]
theorem any_byte (s : ByteArray) (c : UInt8) : (bytesOf s).any (fun b => b == (c.toNat : Int)) = decide (c ∈ s.data.toList) := by
  unfold bytesOf
  rw [Bool.eq_iff_iff, List.any_eq_true, decide_eq_true_iff]
  constructor
  · rintro ⟨x, hx, e⟩
    obtain ⟨b, hb, rfl⟩ := List.mem_map.1 hx
    have : b = c := UInt8.toNat_inj.1 (by have := beq_iff_eq.1 e; omega)
    exact this ▸ hb
  · intro h
    exact ⟨_, List.mem_map.2 ⟨c, h, rfl⟩, by simp⟩
-- what can be quoted (behind Bytes, Plain, OneByte)
theorem spec_holds_loop (s : ByteArray) (x : Int) (hs : s.size ≤ 9223372036854775807) (l : List Int) : ∀ i : Nat, i ≤ s.size → (bytesOf s).drop i = l → Ev (fun k => spec_l02Holds.l0 k s x (i : Int)) (l.any fun b => b == x) := by
  induction l with
  | nil =>
    intro i hi hd
    have h2 := byt_end s i hd hi
    refine Ev.step (f := fun _ => some false) (fun k => ?_) (by simpa using Ev.now false)
    simp only [spec_l02Holds.l0]
    rw [if_neg (by omega)]
  | cons c l ih =>
    intro i hi hd
    obtain ⟨hlt, hb, _, hd'⟩ := byt_at s i c l hd
    rw [List.any_cons]
    by_cases h1 : c = x
    · rw [beq_iff_eq.mpr h1, Bool.true_or]
      refine Ev.step (f := fun _ => some true) (fun k => ?_) (Ev.now true)
      simp only [spec_l02Holds.l0]
      rw [if_pos (by omega), if_pos (by omega), hb, if_pos h1]
    · rw [beq_eq_false_iff_ne.mpr h1, Bool.false_or]
      refine Ev.step (f := fun k => spec_l02Holds.l0 k s x ((i + 1 : Nat) : Int)) (fun k => ?_) (ih (i + 1) (by omega) hd')
      simp only [spec_l02Holds.l0]
      rw [if_pos (by omega), if_pos (by omega), hb, if_neg h1, wrapb i s.size hlt hs]
theorem spec_holds (s : ByteArray) (c : UInt8) (hs : s.size ≤ 9223372036854775807) : Ev (fun k => spec_l02Holds.f k s (c.toNat : Int)) (decide (c ∈ s.data.toList)) := by
  rw [← any_byte]
  refine Ev.congr (fun k => ?_) (spec_holds_loop s (c.toNat : Int) hs (bytesOf s) 0 (by omega) rfl)
  unfold spec_l02Holds.f
  rfl
/-- What can be quoted. -/
def quoteB (s : ByteArray) : Bool := decide (s.size ≤ 200) && ((bytesOf s).all plainB && (!(decide ((39 : UInt8) ∈ s.data.toList) && decide ((34 : UInt8) ∈ s.data.toList))))
theorem spec_quote (s : ByteArray) : Ev (fun k => spec_CanQuote.f k s) (quoteB s) := by
  unfold spec_CanQuote.f quoteB
  by_cases h : s.size ≤ 200
  · simp only [if_pos (show (s.size : Int) ≤ 200 by omega)]
    rw [decide_eq_true h, Bool.true_and]
    refine Ev.bind (spec_printable s (by omega)) ?_
    cases (bytesOf s).all plainB with
    | false => exact Ev.congr (f := fun _ => some false) (fun k => by rw [if_neg (by simp)]) (Ev.now false)
    | true =>
      simp only [if_true, Bool.true_and]
      refine Ev.bind (spec_holds s 39 (by omega)) ?_
      cases decide ((39 : UInt8) ∈ s.data.toList) with
      | false => exact Ev.congr (f := fun _ => some true) (fun k => by rw [if_neg (by simp)]; rfl) (Ev.now true)
      | true =>
        simp only [if_true, Bool.true_and]
        exact Ev.bind (spec_holds s 34 (by omega)) (Ev.now _)
  · simp only [if_neg (show ¬ (s.size : Int) ≤ 200 by omega)]
    rw [decide_eq_false h, Bool.false_and]
    exact Ev.now false
theorem impl_quote (s : ByteArray) : Ev (fun k => impl_CanQuote.f k s) (quoteB s) := by
  unfold impl_CanQuote.f quoteB
  by_cases h : s.size ≤ 200
  · simp only [if_pos (show (s.size : Int) ≤ 200 by omega)]
    rw [decide_eq_true h, Bool.true_and]
    refine Ev.bind (impl_plainText s (by omega)) ?_
    cases (bytesOf s).all plainB with
    | false => exact Ev.congr (f := fun _ => some false) (fun k => by rw [if_neg (by simp)]) (Ev.now false)
    | true =>
      simp only [if_true, Bool.true_and, contains_one, Option.bind_some]
      cases decide ((39 : UInt8) ∈ s.data.toList) with
      | false => exact Ev.congr (f := fun _ => some true) (fun k => by rw [if_neg (by simp)]; rfl) (Ev.now true)
      | true =>
        simp only [if_true, Bool.true_and]
        exact Ev.now _
  · simp only [if_neg (show ¬ (s.size : Int) ≤ 200 by omega)]
    rw [decide_eq_false h, Bool.false_and]
    exact Ev.now false
-- the fields of a node of its kind (behind Name, Quote; Tree of Expr): the reference's l03Shape and the program's hasFields
set_option linter.unusedSimpArgs false in
theorem e_within (a b c : Int) : impl_within.f a b c = some (decide (b ≤ a ∧ a ≤ c)) := by
  unfold impl_within.f
  by_cases h : b ≤ a <;> simp [h]
set_option linter.unusedSimpArgs false in
theorem e_in (a b c : Int) : spec_l00In.f a b c = some (decide (b ≤ a ∧ a ≤ c)) := by
  unfold spec_l00In.f
  by_cases h : b ≤ a <;> simp [h]
def shapeB (a b : Int) (c : ByteArray) (d : List S29) : Bool :=
  if a = 1 then (b == 0) && (((d.length : Int) == 0) && quoteB c)
  else if a = 2 then (c.toList == ([] : List UInt8)) && (((d.length : Int) == 0) && decide (0 ≤ b ∧ b ≤ 1000000000000))
  else if a = 3 ∨ 16 ≤ a ∧ a ≤ 18 then (b == 0) && (((d.length : Int) == 0) && isNameB c)
  else if a = 4 then (b == 0) && (isNameB c && decide ((d.length : Int) ≤ 6))
  else if a = 14 ∨ a = 15 then (b == 0) && (((d.length : Int) == 1) && (c.toList == ([] : List UInt8)))
  else if a = 12 ∨ a = 13 then ((d.length : Int) == 2) && (((rd_T29 d 1).f0 == 3) && ((b == 0) && (c.toList == ([] : List UInt8))))
  else if 5 ≤ a ∧ a ≤ 11 then (b == 0) && (((d.length : Int) == 2) && (c.toList == ([] : List UInt8)))
  else false
theorem ev_test {p : Prop} [Decidable p] {b : Bool} {g : Nat → Option Bool} {r : Bool} (hb : b = decide p) (h : p → Ev g r) : Ev (fun k => if p then g k else some false) (b && r) := by
  by_cases q : p
  · rw [hb, decide_eq_true q, Bool.true_and]
    exact Ev.congr (fun k => by rw [if_pos q]) (h q)
  · rw [hb, decide_eq_false q, Bool.false_and]
    exact Ev.congr (f := fun _ => some false) (fun k => by rw [if_neg q]) (Ev.now false)
theorem beq_dec (a b : Int) : (a == b) = decide (a = b) := by rw [Bool.eq_iff_iff, beq_iff_eq, decide_eq_true_iff]
theorem beq_decL (a b : List UInt8) : (a == b) = decide (a = b) := by rw [Bool.eq_iff_iff, beq_iff_eq, decide_eq_true_iff]
theorem ev_some {g : Nat → Option Bool} {r : Bool} (h : Ev g r) : Ev (fun k => (g k).bind fun t => some t) r := Ev.bind h (Ev.now r)
theorem name_arm (b : Int) (c : ByteArray) (d : List S29) : Ev (fun k => if b = 0 then (if (d.length : Int) = 0 then ((spec_IsName.f k c).bind fun t => some t) else (some false)) else (some false)) ((b == 0) && (((d.length : Int) == 0) && isNameB c)) :=
  ev_test (beq_dec _ _) (fun _ => ev_test (beq_dec _ _) (fun _ => ev_some (spec_isName c)))
theorem kid_arm (n : Int) (b : Int) (c : ByteArray) (d : List S29) : Ev (fun _ => if b = 0 then (if (d.length : Int) = n then (some (c.toList == ([] : List UInt8))) else (some false)) else (some false)) ((b == 0) && (((d.length : Int) == n) && (c.toList == ([] : List UInt8)))) :=
  ev_test (beq_dec _ _) (fun _ => ev_test (beq_dec _ _) (fun _ => Ev.now _))
theorem pair_arm (b : Int) (c : ByteArray) (d : List S29) : Ev (fun _ => if (d.length : Int) = 2 then (if (rd_T29 d 1).f0 = 3 then (if b = 0 then (some (c.toList == ([] : List UInt8))) else (some false)) else (some false)) else (some false)) (((d.length : Int) == 2) && (((rd_T29 d 1).f0 == 3) && ((b == 0) && (c.toList == ([] : List UInt8))))) :=
  ev_test (beq_dec _ _) (fun _ => ev_test (beq_dec _ _) (fun _ => ev_test (beq_dec _ _) (fun _ => Ev.now _)))
set_option linter.unusedSimpArgs false in
theorem spec_shape (x : S29) : Ev (fun k => spec_l03ShapeP.f k x) (shapeB x.f0 x.f1 x.f2 x.f3) := by
  obtain ⟨a, b, c, d⟩ := x
  simp only
  unfold spec_l03ShapeP.f
  simp only
  by_cases h1 : a = 1
  · subst h1
    exact Ev.congr (fun k => by rw [if_pos rfl]) (ev_test (beq_dec _ _) (fun _ => ev_test (beq_dec _ _) (fun _ => ev_some (spec_quote c))))
  by_cases h2 : a = 2
  · subst h2
    refine Ev.congr (fun k => by rw [if_neg (by omega), if_pos rfl]) (ev_test (beq_decL _ _) (fun _ => ev_test (beq_dec _ _) (fun _ => ?_)))
    rw [e_in]
    exact Ev.now _
  by_cases h3 : a = 3
  · subst h3
    exact Ev.congr (fun k => by rw [if_neg (by omega), if_neg (by omega), if_pos rfl]) (name_arm b c d)
  by_cases h16 : a = 16
  · subst h16
    exact Ev.congr (fun k => by rw [if_neg (by omega), if_neg (by omega), if_neg (by omega), if_pos rfl]) (name_arm b c d)
  by_cases h17 : a = 17
  · subst h17
    exact Ev.congr (fun k => by rw [if_neg (by omega), if_neg (by omega), if_neg (by omega), if_neg (by omega), if_pos rfl]) (name_arm b c d)
  by_cases h18 : a = 18
  · subst h18
    exact Ev.congr (fun k => by rw [if_neg (by omega), if_neg (by omega), if_neg (by omega), if_neg (by omega), if_neg (by omega), if_pos rfl]) (name_arm b c d)
  simp only [if_neg h1, if_neg h2, if_neg h3, if_neg h16, if_neg h17, if_neg h18]
  by_cases h4 : a = 4
  · subst h4
    refine Ev.congr (fun k => by rw [if_pos rfl]) (ev_test (beq_dec _ _) (fun _ => ?_))
    refine Ev.bind (spec_isName c) ?_
    cases isNameB c with
    | true =>
      rw [Bool.true_and]
      exact Ev.congr (f := fun _ => some (decide ((d.length : Int) ≤ 6))) (fun k => by rw [if_pos rfl]) (Ev.now _)
    | false =>
      rw [Bool.false_and]
      exact Ev.congr (f := fun _ => some false) (fun k => by rw [if_neg (by simp)]) (Ev.now _)
  simp only [if_neg h4]
  by_cases h14 : a = 14
  · subst h14
    exact Ev.congr (fun k => by rw [if_pos rfl]) (kid_arm 1 b c d)
  by_cases h15 : a = 15
  · subst h15
    exact Ev.congr (fun k => by rw [if_neg h14, if_pos rfl]) (kid_arm 1 b c d)
  simp only [if_neg h14, if_neg h15]
  have e0 : shapeB a b c d = if a = 12 ∨ a = 13 then ((d.length : Int) == 2) && (((rd_T29 d 1).f0 == 3) && ((b == 0) && (c.toList == ([] : List UInt8)))) else if 5 ≤ a ∧ a ≤ 11 then (b == 0) && (((d.length : Int) == 2) && (c.toList == ([] : List UInt8))) else false := by
    unfold shapeB
    rw [if_neg h1, if_neg h2, if_neg (by omega), if_neg h4, if_neg (by omega)]
  rw [e0]
  by_cases hm : 5 ≤ a ∧ a ≤ 11
  · rw [if_neg (show ¬ (a = 12 ∨ a = 13) by omega), if_pos hm]
    have h9 : a = 5 ∨ a = 6 ∨ a = 7 ∨ a = 8 ∨ a = 9 ∨ a = 10 ∨ a = 11 := by omega
    rcases h9 with rfl | rfl | rfl | rfl | rfl | rfl | rfl <;> exact kid_arm 2 b c d
  · have n5 : ¬ a = 5 := by omega
    have n6 : ¬ a = 6 := by omega
    have n7 : ¬ a = 7 := by omega
    have n8 : ¬ a = 8 := by omega
    have n9 : ¬ a = 9 := by omega
    have n10 : ¬ a = 10 := by omega
    have n11 : ¬ a = 11 := by omega
    simp only [if_neg n5, if_neg n6, if_neg n7, if_neg n8, if_neg n9, if_neg n10, if_neg n11]
    rw [if_neg hm]
    by_cases h12 : a = 12
    · subst h12
      rw [if_pos (show (12 : Int) = 12 ∨ (12 : Int) = 13 from Or.inl rfl)]
      exact Ev.congr (fun k => by rw [if_pos rfl]) (pair_arm b c d)
    by_cases h13 : a = 13
    · subst h13
      rw [if_pos (show (13 : Int) = 12 ∨ (13 : Int) = 13 from Or.inr rfl)]
      exact Ev.congr (fun k => by rw [if_neg h12, if_pos rfl]) (pair_arm b c d)
    rw [if_neg (show ¬ (a = 12 ∨ a = 13) by omega)]
    exact Ev.congr (fun k => by rw [if_neg h12, if_neg h13]) (Ev.now false)
theorem impl_j2 (n a : Int) (q : Bool) (b : Int) (c : ByteArray) (d : List S29) (hn : n = d.length) (r : Bool)
    (h1 : q = true → r = ((n == 2) && ((rd_T29 d 1).f0 == 3))) (h2 : q = false → (a = 14 ∨ a = 15) → r = (n == 1)) (h3 : q = false → ¬ (a = 14 ∨ a = 15) → r = ((n == 2) && (decide (a = 5) || decide (6 ≤ a ∧ a ≤ 13)))) :
    Ev (fun k => impl_Expr_hasFields.j2 k n a q a b c d) r := by
  refine Ev.step (f := fun k => if q = true then (if n = 2 then (if 1 < (d.length : Int) then (some (((rd_T29 d 1).f0) == 3)) else (none)) else (some false)) else (if a = 14 then (some (n == 1)) else (if a = 15 then (some (n == 1)) else (if n = 2 then (if a = 5 then (some true) else ((impl_isBinary.f a).bind fun t166 => (some t166))) else (some false))))) (fun k => by simp only [impl_Expr_hasFields.j2]) ?_
  cases q with
  | true =>
    rw [h1 rfl]
    refine Ev.congr (f := fun _ => if n = 2 then some ((rd_T29 d 1).f0 == 3) else some false) (fun k => ?_) (ev_test (beq_dec _ _) (fun _ => Ev.now _))
    rw [if_pos rfl]
    by_cases e : n = 2
    · rw [if_pos e, if_pos e, if_pos (by omega)]
    · rw [if_neg e, if_neg e]
  | false =>
    by_cases e : a = 14 ∨ a = 15
    · rw [h2 rfl e]
      refine Ev.congr (f := fun _ => some (n == 1)) (fun k => ?_) (Ev.now _)
      rw [if_neg (by simp)]
      rcases e with e | e
      · rw [if_pos e]
      · rw [if_neg (by omega), if_pos e]
    · rw [h3 rfl e]
      refine Ev.congr (f := fun _ => if n = 2 then some (decide (a = 5) || decide (6 ≤ a ∧ a ≤ 13)) else some false) (fun k => ?_) (ev_test (beq_dec _ _) (fun _ => Ev.now _))
      rw [if_neg (by simp), if_neg (by omega), if_neg (by omega)]
      by_cases e2 : n = 2
      · rw [if_pos e2, if_pos e2]
        by_cases e5 : a = 5
        · rw [if_pos e5, decide_eq_true e5, Bool.true_or]
        · rw [if_neg e5, decide_eq_false e5, Bool.false_or]
          unfold impl_isBinary.f
          rw [e_within]
          rfl
      · rw [if_neg e2, if_neg e2]
theorem impl_shape (a b : Int) (c : ByteArray) (d : List S29) : Ev (fun k => impl_Expr_hasFields.f k a b c d) (shapeB a b c d) := by
  unfold impl_Expr_hasFields.f
  by_cases h1 : a = 1
  · subst h1
    refine Ev.congr (fun k => by rw [if_pos rfl]) (?_ : Ev _ (shapeB 1 b c d))
    rw [show shapeB 1 b c d = (((d.length : Int) == 0) && ((b == 0) && quoteB c)) by unfold shapeB; rw [if_pos rfl, Bool.and_left_comm]]
    exact ev_test (beq_dec _ _) (fun _ => ev_test (beq_dec _ _) (fun _ => ev_some (impl_quote c)))
  by_cases h2 : a = 2
  · subst h2
    refine Ev.congr (fun k => by rw [if_neg (by omega), if_pos rfl]) (?_ : Ev _ (shapeB 2 b c d))
    rw [show shapeB 2 b c d = (((d.length : Int) == 0) && ((c.toList == ([] : List UInt8)) && decide (0 ≤ b ∧ b ≤ 1000000000000))) by unfold shapeB; rw [if_neg (by omega), if_pos rfl, Bool.and_left_comm]]
    refine ev_test (beq_dec _ _) (fun _ => ev_test (beq_decL _ _) (fun _ => ?_))
    unfold impl_isNumber.f
    rw [e_within]
    exact Ev.now _
  have nm : Ev (fun k => impl_Expr_hasFields.j0 k (d.length : Int) true a b c d) ((b == 0) && (((d.length : Int) == 0) && isNameB c)) := by
    rw [Bool.and_left_comm]
    refine Ev.step (f := fun k => if (d.length : Int) = 0 then (if b = 0 then ((impl_IsName.f k c).bind fun t163 => (some t163)) else (some false)) else (some false)) (fun k => by simp only [impl_Expr_hasFields.j0]; rw [if_pos trivial]) ?_
    exact ev_test (beq_dec _ _) (fun _ => ev_test (beq_dec _ _) (fun _ => ev_some (impl_isName c)))
  by_cases h3 : a = 3
  · subst h3
    exact Ev.congr (fun k => by rw [if_neg h1, if_neg h2, if_pos rfl]) nm
  have en : impl_isNamed.f a = some (decide (16 ≤ a ∧ a ≤ 18)) := by
    unfold impl_isNamed.f
    rw [e_within]
    rfl
  simp only [if_neg h1, if_neg h2, if_neg h3, en, Option.bind_some]
  by_cases hn : 16 ≤ a ∧ a ≤ 18
  · rw [decide_eq_true hn]
    rw [show shapeB a b c d = ((b == 0) && (((d.length : Int) == 0) && isNameB c)) by unfold shapeB; rw [if_neg h1, if_neg h2, if_pos (by omega)]]
    exact nm
  rw [decide_eq_false hn]
  refine Ev.step (f := fun k => if a = 4 then (if (d.length : Int) ≤ 6 then (if b = 0 then ((impl_IsName.f k c).bind fun t164 => (some t164)) else (some false)) else (some false)) else (if b = 0 then (impl_Expr_hasFields.j1 k (d.length : Int) (c.toList != ([] : List UInt8)) a b c d) else (impl_Expr_hasFields.j1 k (d.length : Int) true a b c d))) (fun k => by simp only [impl_Expr_hasFields.j0]; rw [if_neg (by simp)]) ?_
  by_cases h4 : a = 4
  · subst h4
    refine Ev.congr (fun k => by rw [if_pos rfl]) (?_ : Ev _ (shapeB 4 b c d))
    rw [show shapeB 4 b c d = (decide ((d.length : Int) ≤ 6) && ((b == 0) && isNameB c)) by
      unfold shapeB
      rw [if_neg (by omega), if_neg (by omega), if_neg (by omega), if_pos rfl]
      cases (b == 0) <;> cases isNameB c <;> cases decide ((d.length : Int) ≤ 6) <;> rfl]
    exact ev_test rfl (fun _ => ev_test (beq_dec _ _) (fun _ => ev_some (impl_isName c)))
  have e0 : shapeB a b c d = ((b == 0) && (!(c.toList != ([] : List UInt8)) && (if a = 14 ∨ a = 15 then ((d.length : Int) == 1) else if a = 12 ∨ a = 13 then ((d.length : Int) == 2) && ((rd_T29 d 1).f0 == 3) else if 5 ≤ a ∧ a ≤ 11 then ((d.length : Int) == 2) else false))) := by
    unfold shapeB
    rw [if_neg h1, if_neg h2, if_neg (by omega), if_neg h4, bne, Bool.not_not]
    by_cases q1 : a = 14 ∨ a = 15
    · rw [if_pos q1, if_pos q1]
      cases (b == 0) <;> cases ((d.length : Int) == 1) <;> cases (c.toList == ([] : List UInt8)) <;> rfl
    · rw [if_neg q1, if_neg q1]
      by_cases q2 : a = 12 ∨ a = 13
      · rw [if_pos q2, if_pos q2]
        cases (b == 0) <;> cases ((d.length : Int) == 2) <;> cases ((rd_T29 d 1).f0 == 3) <;> cases (c.toList == ([] : List UInt8)) <;> rfl
      · rw [if_neg q2, if_neg q2]
        by_cases q3 : 5 ≤ a ∧ a ≤ 11
        · rw [if_pos q3, if_pos q3]
          cases (b == 0) <;> cases ((d.length : Int) == 2) <;> cases (c.toList == ([] : List UInt8)) <;> rfl
        · rw [if_neg q3, if_neg q3]
          cases (b == 0) <;> cases (c.toList == ([] : List UInt8)) <;> rfl
  rw [e0]
  have no : Ev (fun k => impl_Expr_hasFields.j1 k (d.length : Int) true a b c d) false := Ev.step (f := fun _ => some false) (fun k => by simp only [impl_Expr_hasFields.j1]; rw [if_pos trivial]) (Ev.now _)
  by_cases hb : b = 0
  · rw [beq_iff_eq.mpr hb, Bool.true_and]
    refine Ev.congr (f := fun k => impl_Expr_hasFields.j1 k (d.length : Int) (c.toList != ([] : List UInt8)) a b c d) (fun k => by rw [if_neg h4, if_pos hb]) ?_
    cases hc : (c.toList != ([] : List UInt8)) with
    | true => exact no
    | false =>
      rw [Bool.not_false, Bool.true_and]
      refine Ev.step (f := fun k => if a = 12 then (impl_Expr_hasFields.j2 k (d.length : Int) a (a == 12) a b c d) else (impl_Expr_hasFields.j2 k (d.length : Int) a (a == 13) a b c d)) (fun k => by simp only [impl_Expr_hasFields.j1]; rw [if_neg (by simp)]) ?_
      by_cases h12 : a = 12
      · refine Ev.congr (f := fun k => impl_Expr_hasFields.j2 k (d.length : Int) a (a == 12) a b c d) (fun k => by rw [if_pos h12]) ?_
        refine impl_j2 _ a _ b c d rfl _ (fun _ => ?_) (fun q => ?_) (fun q => ?_)
        · rw [if_neg (by omega), if_pos (Or.inl h12)]
        · rw [beq_iff_eq.mpr h12] at q
          cases q
        · rw [beq_iff_eq.mpr h12] at q
          cases q
      · refine Ev.congr (f := fun k => impl_Expr_hasFields.j2 k (d.length : Int) a (a == 13) a b c d) (fun k => by rw [if_neg h12]) ?_
        refine impl_j2 _ a _ b c d rfl _ (fun q => ?_) (fun q q2 => ?_) (fun q q2 => ?_)
        · have q3 := beq_iff_eq.mp q
          rw [if_neg (by omega), if_pos (Or.inr q3)]
        · rw [if_pos q2]
        · have q3 := beq_eq_false_iff_ne.mp q
          rw [if_neg q2, if_neg (by omega)]
          by_cases q4 : 5 ≤ a ∧ a ≤ 11
          · rw [if_pos q4]
            by_cases q5 : a = 5
            · rw [decide_eq_true q5, Bool.true_or, Bool.and_true]
            · rw [decide_eq_true (show 6 ≤ a ∧ a ≤ 13 by omega), Bool.or_true, Bool.and_true]
          · rw [if_neg q4, decide_eq_false (by omega), decide_eq_false (by omega), Bool.or_false, Bool.and_false]
  · rw [beq_eq_false_iff_ne.mpr hb, Bool.false_and]
    exact Ev.congr (f := fun k => impl_Expr_hasFields.j1 k (d.length : Int) true a b c d) (fun k => by rw [if_neg h4, if_neg hb]) no
-- valid expressions (behind ExprShape): the reference's l03Size, l03Nodes, l03Ok and the program's countNodes
mutual
def nodesE : S29 → Nat
  | ⟨_, _, _, d⟩ => 1 + nodesES d
def nodesES : List S29 → Nat
  | [] => 0
  | x :: xs => nodesE x + nodesES xs
end
mutual
def okE : S29 → Bool
  | ⟨a, b, c, d⟩ => shapeB a b c d && okES d
def okES : List S29 → Bool
  | [] => true
  | x :: xs => okE x && okES xs
end
theorem nodesE_eq (x : S29) : nodesE x = 1 + nodesES x.f3 := by cases x; simp [nodesE]
theorem okE_eq (x : S29) : okE x = (shapeB x.f0 x.f1 x.f2 x.f3 && okES x.f3) := by cases x; simp [okE]
theorem nodesES_nil : nodesES ([] : List S29) = 0 := by simp [nodesES]
theorem nodesES_cons (y : S29) (s : List S29) : nodesES (y :: s) = nodesE y + nodesES s := by simp [nodesES]
theorem okES_nil : okES ([] : List S29) = true := by simp [okES]
theorem okES_cons (y : S29) (s : List S29) : okES (y :: s) = (okE y && okES s) := by simp [okES]
theorem nodes_mem (y : S29) : ∀ s : List S29, y ∈ s → nodesE y ≤ nodesES s
  | [], h => by cases h
  | z :: s, h => by
    rw [nodesES_cons]
    rcases List.mem_cons.1 h with rfl | h
    · omega
    · have := nodes_mem y s h; omega
/-- What l03Size may answer: the number of nodes up to the limit, a greater one above it. -/
def sizeIs (n : Nat) (v : Int) : Prop := (n ≤ 60 → v = n) ∧ (60 < n → 60 < v) ∧ v ≤ n ∧ 1 ≤ v
theorem size_loop (l : List S29) (hl : l.length ≤ 9223372036854775807) (s : List S29) : ∀ (i : Nat) (n : Nat) (v : Int), i ≤ l.length → l.drop i = s → n + nodesES s ≤ 4611686018427387904 → sizeIs n v →
    (∀ y, y ∈ s → ∃ u, Ev (fun k => spec_l03Size.f k y) u ∧ sizeIs (nodesE y) u) → ∃ r, Ev (fun k => spec_l03Size.l0 k v (i : Int) l) r ∧ sizeIs (n + nodesES s) r := by
  induction s with
  | nil =>
    intro i n v hi hd hb hv _
    have hi2 := drop29_end l i hd hi
    refine ⟨v, Ev.step (f := fun _ => some v) (fun k => ?_) (Ev.now _), by rw [nodesES_nil]; exact hv⟩
    simp only [spec_l03Size.l0]
    rw [if_neg (by omega)]
  | cons y s ih =>
    intro i n v hi hd hb hv hy
    obtain ⟨hlt, hrd, hd'⟩ := rd29_at l i y s hd
    rw [nodesES_cons] at hb ⊢
    have hn1 := nodesE_eq y
    by_cases c : v ≤ 60
    · have hn : n ≤ 60 := by
        rcases Nat.lt_or_ge 60 n with q | q
        · have := hv.2.1 q; omega
        · exact q
      have e := hv.1 hn
      obtain ⟨u, eu, hu⟩ := hy y List.mem_cons_self
      have w : wrap64 (v + u) = v + u := by have := hu.2.2; unfold wrap64; omega
      have h2 : sizeIs (n + nodesE y) (v + u) := by
        obtain ⟨u1, u2, u3, u4⟩ := hu
        refine ⟨fun q => ?_, fun q => ?_, by omega, by omega⟩
        · rw [u1 (by omega)]; omega
        · rcases Nat.lt_or_ge 60 (nodesE y) with q2 | q2
          · have := u2 q2; omega
          · have := u1 q2; omega
      obtain ⟨r, er, hr⟩ := ih (i + 1) (n + nodesE y) (v + u) (by omega) hd' (by omega) h2 (fun z hz => hy z (List.mem_cons_of_mem _ hz))
      refine ⟨r, Ev.step (f := fun k => (spec_l03Size.f k y).bind fun t => spec_l03Size.l0 k (wrap64 (v + t)) ((i + 1 : Nat) : Int) l) (fun k => ?_) (Ev.bind eu ?_), by rw [← Nat.add_assoc]; exact hr⟩
      · simp only [spec_l03Size.l0]
        rw [if_pos (by omega), if_pos c, if_pos (by omega), hrd, wrapiExpr i l.length hlt hl]
      · rw [w]
        exact er
    · refine ⟨v, Ev.step (f := fun _ => some v) (fun k => ?_) (Ev.now _), ⟨fun q => ?_, fun _ => by omega, by have := hv.2.2.1; omega, hv.2.2.2⟩⟩
      · simp only [spec_l03Size.l0]
        rw [if_pos (by omega), if_neg c]
      · have := hv.1 (by omega)
        omega
theorem size_ev (x : S29) (g : FineExpr x) : nodesE x ≤ 4611686018427387904 → ∃ r, Ev (fun k => spec_l03Size.f k x) r ∧ sizeIs (nodesE x) r := by
  induction g with
  | mk x h0 h1 h2 h3 h3k ih =>
    intro hb
    have e := nodesE_eq x
    obtain ⟨r, er, hr⟩ := size_loop x.f3 h3 x.f3 0 1 1 (by omega) rfl (by omega) ⟨fun _ => rfl, fun q => by omega, by omega, by omega⟩ (fun y hy => ih y hy (by have := nodes_mem y x.f3 hy; omega))
    refine ⟨r, Ev.step (f := fun k => spec_l03Size.l0 k 1 ((0 : Nat) : Int) x.f3) (fun k => ?_) er, by rw [e]; exact hr⟩
    simp only [spec_l03Size.f]
    rfl
theorem nodes_loop (l : List S29) (hl : l.length ≤ 9223372036854775807) (s : List S29) : ∀ i : Nat, i ≤ l.length → l.drop i = s →
    (∀ y, y ∈ s → Ev (fun k => spec_l03Nodes.f k y) (okE y)) → Ev (fun k => spec_l03Nodes.l0 k (i : Int) l) (okES s) := by
  induction s with
  | nil =>
    intro i hi hd _
    have hi2 := drop29_end l i hd hi
    rw [okES_nil]
    refine Ev.step (f := fun _ => some true) (fun k => ?_) (Ev.now _)
    simp only [spec_l03Nodes.l0]
    rw [if_neg (by omega)]
  | cons y s ih =>
    intro i hi hd hy
    obtain ⟨hlt, hrd, hd'⟩ := rd29_at l i y s hd
    rw [okES_cons]
    refine Ev.step (f := fun k => (spec_l03Nodes.f k y).bind fun t => if t = true then spec_l03Nodes.l0 k ((i + 1 : Nat) : Int) l else some false) (fun k => ?_) (Ev.bind (hy y List.mem_cons_self) ?_)
    · simp only [spec_l03Nodes.l0]
      rw [if_pos (by omega), if_pos (by omega), hrd, wrapiExpr i l.length hlt hl]
    · cases okE y with
      | true =>
        rw [Bool.true_and]
        exact Ev.congr (f := fun k => spec_l03Nodes.l0 k ((i + 1 : Nat) : Int) l) (fun k => by rw [if_pos rfl]) (ih (i + 1) (by omega) hd' (fun z hz => hy z (List.mem_cons_of_mem _ hz)))
      | false =>
        rw [Bool.false_and]
        exact Ev.congr (f := fun _ => some false) (fun k => by rw [if_neg (by simp)]) (Ev.now false)
theorem nodes_ev (x : S29) (g : FineExpr x) : Ev (fun k => spec_l03Nodes.f k x) (okE x) := by
  induction g with
  | mk x h0 h1 h2 h3 h3k ih =>
    rw [okE_eq]
    refine Ev.step (f := fun k => (spec_l03ShapeP.f k x).bind fun t => if t = true then spec_l03Nodes.l0 k ((0 : Nat) : Int) x.f3 else some false) (fun k => by simp only [spec_l03Nodes.f]; rfl) (Ev.bind (spec_shape x) ?_)
    cases shapeB x.f0 x.f1 x.f2 x.f3 with
    | true =>
      rw [Bool.true_and]
      exact Ev.congr (f := fun k => spec_l03Nodes.l0 k ((0 : Nat) : Int) x.f3) (fun k => by rw [if_pos rfl]) (nodes_loop x.f3 h3 x.f3 0 (by omega) rfl ih)
    | false =>
      rw [Bool.false_and]
      exact Ev.congr (f := fun _ => some false) (fun k => by rw [if_neg (by simp)]) (Ev.now false)
def validE (x : S29) : Bool := decide (okE x = true ∧ (nodesE x : Int) ≤ 60)
theorem ok_ev (x : S29) (g : FineExpr x) (hb : nodesE x ≤ 4611686018427387904) : Ev (fun k => spec_l03Ok.f k x) (validE x) := by
  obtain ⟨n, en, hn⟩ := size_ev x g hb
  unfold spec_l03Ok.f validE
  refine Ev.bind en ?_
  by_cases c : nodesE x ≤ 60
  · have := hn.1 c
    refine Ev.congr (f := fun k => (spec_l03Nodes.f k x).bind fun t => some t) (fun k => by rw [if_pos (by omega)]) ?_
    rw [show decide (okE x = true ∧ (nodesE x : Int) ≤ 60) = okE x by rw [Bool.eq_iff_iff, decide_eq_true_iff]; exact ⟨fun q => q.1, fun q => ⟨q, by omega⟩⟩]
    exact Ev.bind (nodes_ev x g) (Ev.now _)
  · have := hn.2.1 (by omega)
    rw [decide_eq_false (by omega)]
    exact Ev.congr (f := fun _ => some false) (fun k => by rw [if_neg (by omega)]) (Ev.now false)
theorem implE_loop (l : List S29) (hl : l.length ≤ 9223372036854775807) (s : List S29) : ∀ (i : Nat) (n : Int), i ≤ l.length → l.drop i = s → 0 ≤ n → n ≤ 60 →
    (∀ y, y ∈ s → ∀ m : Int, 0 ≤ m → m ≤ 60 → Ev (fun k => impl_countNodes.f k y.f0 y.f1 y.f2 y.f3 m) (if okE y = true ∧ m + (nodesE y : Int) ≤ 60 then m + (nodesE y : Int) else 61)) →
    Ev (fun k => impl_countNodes.l0 k n l (l.length : Int) (i : Int)) (if okES s = true ∧ n + (nodesES s : Int) ≤ 60 then n + (nodesES s : Int) else 61) := by
  induction s with
  | nil =>
    intro i n hi hd h1 h2 _
    have hi2 := drop29_end l i hd hi
    have e : (nodesES ([] : List S29) : Int) = 0 := by rw [nodesES_nil]; rfl
    rw [if_pos ⟨okES_nil, by omega⟩, e, Int.add_zero]
    refine Ev.step (f := fun _ => some n) (fun k => ?_) (Ev.now _)
    simp only [impl_countNodes.l0]
    rw [if_neg (by omega)]
  | cons y s ih =>
    intro i n hi hd h1 h2 hy
    obtain ⟨hlt, hrd, hd'⟩ := rd29_at l i y s hd
    have e : (nodesES (y :: s) : Int) = (nodesE y : Int) + (nodesES s : Int) := by rw [nodesES_cons]; omega
    have ey := hy y List.mem_cons_self n h1 h2
    refine Ev.step (f := fun k => (impl_countNodes.f k y.f0 y.f1 y.f2 y.f3 n).bind fun t => if t > 60 then some t else impl_countNodes.l0 k t l (l.length : Int) ((i + 1 : Nat) : Int)) (fun k => ?_) (Ev.bind ey ?_)
    · simp only [impl_countNodes.l0]
      rw [if_pos (by omega), if_pos (by omega), if_pos (by omega), hrd, wrapiExpr i l.length hlt hl]
    · by_cases q : okE y = true ∧ n + (nodesE y : Int) ≤ 60
      · rw [if_pos q]
        have r := ih (i + 1) (n + (nodesE y : Int)) (by omega) hd' (by omega) (by omega) (fun z hz => hy z (List.mem_cons_of_mem _ hz))
        have v : (if okES (y :: s) = true ∧ n + (nodesES (y :: s) : Int) ≤ 60 then n + (nodesES (y :: s) : Int) else 61) = (if okES s = true ∧ n + (nodesE y : Int) + (nodesES s : Int) ≤ 60 then n + (nodesE y : Int) + (nodesES s : Int) else 61) := by
          rw [okES_cons, q.1, Bool.true_and, e, Int.add_assoc]
        rw [v]
        refine Ev.congr (f := fun k => impl_countNodes.l0 k (n + (nodesE y : Int)) l (l.length : Int) ((i + 1 : Nat) : Int)) (fun k => ?_) r
        rw [if_neg (by omega)]
      · rw [if_neg q]
        rw [if_neg (fun z => q ⟨by have := z.1; rw [okES_cons, Bool.and_eq_true] at this; exact this.1, by have := z.2; omega⟩)]
        exact Ev.congr (f := fun _ => some 61) (fun k => by rw [if_pos (by omega)]) (Ev.now _)
theorem implE_ev (x : S29) (g : FineExpr x) : ∀ m : Int, 0 ≤ m → m ≤ 60 → Ev (fun k => impl_countNodes.f k x.f0 x.f1 x.f2 x.f3 m) (if okE x = true ∧ m + (nodesE x : Int) ≤ 60 then m + (nodesE x : Int) else 61) := by
  induction g with
  | mk x h0 h1 h2 h3 h3k ih =>
    intro m hm0 hm1
    have e := nodesE_eq x
    have w : wrap64 (m + 1) = m + 1 := by unfold wrap64; omega
    have no : ∀ m' : Int, Ev (fun k => impl_countNodes.j0 k m' true x.f0 x.f1 x.f2 x.f3) 61 := fun m' => Ev.step (f := fun _ => some 61) (fun k => by simp only [impl_countNodes.j0]; rw [if_pos trivial]) (Ev.now _)
    by_cases c : m + 1 > 60
    · rw [if_neg (by omega)]
      refine Ev.step (f := fun k => impl_countNodes.j0 k (m + 1) true x.f0 x.f1 x.f2 x.f3) (fun k => ?_) (no _)
      simp only [impl_countNodes.f]
      rw [w, if_pos c]
    · refine Ev.step (f := fun k => (impl_Expr_hasFields.f k x.f0 x.f1 x.f2 x.f3).bind fun t => impl_countNodes.j0 k (m + 1) (!t) x.f0 x.f1 x.f2 x.f3) (fun k => ?_) (Ev.bind (impl_shape x.f0 x.f1 x.f2 x.f3) ?_)
      · simp only [impl_countNodes.f]
        rw [w, if_neg c]
      · cases ha : shapeB x.f0 x.f1 x.f2 x.f3 with
        | false =>
          rw [if_neg (fun z => by have := z.1; rw [okE_eq, ha, Bool.false_and] at this; cases this)]
          exact no (m + 1)
        | true =>
          refine Ev.step (f := fun k => impl_countNodes.l0 k (m + 1) x.f3 (x.f3.length : Int) ((0 : Nat) : Int)) (fun k => ?_) ?_
          · simp only [impl_countNodes.j0]
            rw [if_neg (by simp)]
            first | done | rfl
          · have r := implE_loop x.f3 h3 x.f3 0 (m + 1) (by omega) rfl (by omega) (by omega) (fun y hy m' a b => ih y hy m' a b)
            have v : (if okE x = true ∧ m + (nodesE x : Int) ≤ 60 then m + (nodesE x : Int) else 61) = (if okES x.f3 = true ∧ m + 1 + (nodesES x.f3 : Int) ≤ 60 then m + 1 + (nodesES x.f3 : Int) else 61) := by
              have e2 : m + (nodesE x : Int) = m + 1 + (nodesES x.f3 : Int) := by omega
              rw [okE_eq, ha, Bool.true_and, e2]
            rw [v]
            exact r
-- the number of nodes of what comes in
mutual
theorem nodes_size : ∀ x : S24, nodesE (convExpr x) ≤ 1 + sizeExpr x
  | ⟨a, b, c, d⟩ => by
    have := nodes_sizeS d
    simp only [convExpr, nodesE, sizeExpr]
    omega
theorem nodes_sizeS : ∀ l : List S24, nodesES (convExprS l) ≤ l.length + sizeExprS l
  | [] => by simp [convExprS, nodesES]
  | x :: xs => by
    have h1 := nodes_size x
    have h2 := nodes_sizeS xs
    simp only [convExprS, nodesES, sizeExprS, List.length_cons]
    omega
end
theorem spec_nodesE (x : S29) (g : FineExpr x) (hb : nodesE x ≤ 4611686018427387904) : Ev (fun k => spec_ExprNodes.f k x.f0 x.f1 x.f2 x.f3) (if validE x = true then (nodesE x : Int) else 0) := by
  unfold spec_ExprNodes.f
  rw [eta29]
  refine Ev.bind (ok_ev x g hb) ?_
  cases h : validE x with
  | true =>
    have h2 : okE x = true ∧ (nodesE x : Int) ≤ 60 := by unfold validE at h; exact of_decide_eq_true h
    obtain ⟨n, en, hn⟩ := size_ev x g hb
    rw [hn.1 (by omega)] at en
    exact Ev.congr (f := fun k => (spec_l03Size.f k x).bind fun n => some n) (fun k => by rw [if_pos rfl]) (Ev.bind en (by rw [if_pos rfl]; exact Ev.now _))
  | false => exact Ev.congr (f := fun _ => some 0) (fun k => by rw [if_neg (by simp)]) (by rw [if_neg (by simp)]; exact Ev.now _)
theorem impl_nodesE (x : S29) (g : FineExpr x) : Ev (fun k => impl_ExprNodes.f k x.f0 x.f1 x.f2 x.f3) (if validE x = true then (nodesE x : Int) else 0) := by
  unfold impl_ExprNodes.f
  refine Ev.bind (implE_ev x g 0 (by omega) (by omega)) ?_
  rw [Int.zero_add]
  by_cases q : okE x = true ∧ (nodesE x : Int) ≤ 60
  · have hv : validE x = true := by unfold validE; exact decide_eq_true q
    rw [if_pos q, if_pos hv]
    exact Ev.congr (f := fun _ => some (nodesE x : Int)) (fun k => by rw [if_pos q.2]) (Ev.now _)
  · have hv : ¬ validE x = true := by unfold validE; rw [decide_eq_false q]; simp
    rw [if_neg q, if_neg hv]
    exact Ev.congr (f := fun _ => some 0) (fun k => by rw [if_neg (show ¬ (61 : Int) ≤ 60 by omega)]) (Ev.now _)
end ExprNodes
open ExprNodes in
theorem FnExactExprNodes : laws_FnExactExprNodes.Pure := by
  intro x g
  apply Ev.rounds
  have e := szExpr_ev x g 1048576 (by omega) (by omega)
  unfold laws_FnExactExprNodes.f
  refine Ev.bind e ?_
  by_cases h : (sizeExpr x : Int) ≤ 1048576
  · rw [if_pos h]
    refine Ev.congr (f := _) (fun k => by rw [if_neg (by omega)]) ?_
    have t := toExpr_ev x g (by omega)
    have fx := fineExpr_conv x g
    have nb : nodesE (convExpr x) ≤ 4611686018427387904 := by have := nodes_size x; omega
    refine Ev.bind t (Ev.bind (spec_nodesE _ fx nb) (Ev.bind t (Ev.bind (impl_nodesE _ fx) ?_)))
    refine Ev.congr (f := _) (fun k => by rw [if_pos rfl]) ?_
    refine Ev.bind t (Ev.bind (eqExpr_ev x g) ?_)
    exact Ev.congr (f := fun _ => some true) (fun k => by rw [if_pos rfl]) (Ev.now true)
  · rw [if_neg h]
    exact Ev.congr (f := fun _ => some true) (fun k => by rw [if_pos (by omega)]) (Ev.now true)
end Go.Proofs.Ytfilllhbhgkmaaa.Pure
