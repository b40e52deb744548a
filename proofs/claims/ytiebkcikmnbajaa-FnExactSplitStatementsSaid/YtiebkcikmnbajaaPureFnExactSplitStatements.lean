/- FnExactSplitStatements answers true for every string: the program's SplitStatements and the reference's walk the same bytes with the same quotes, and the results share no memory. Conditions: none beyond the statement's own. -/
import Derived.Test.YtiebkcikmnbajaaPFnExactSplitStatementsx2
namespace Go.Proofs.Ytiebkcikmnbajaa.Pure
open Go.RowKit Go.Proofs.Ytiebkcikmnbajaa.PFnExactSplitStatements Go.Proofs.YtiebkcikmnbajaaW.PrintWords Go.Proofs.YtiebkcikmnbajaaW.PrintLast
namespace SplitStatements
-- []string: eqStringS, markText, markStringS, heldStringS of the laws
theorem eqStringS_loop (l : List ByteArray) (hl : l.length ≤ 9223372036854775807) (d : Nat) : ∀ i : Nat, i + d = l.length → Ev (fun k => laws_eqStringS.l0 k l l (i : Int)) true := by
  induction d with
  | zero =>
    intro i hi
    refine Ev.step (f := fun _ => some true) (fun k => ?_) (Ev.now true)
    simp only [laws_eqStringS.l0]
    rw [if_neg (by omega)]
  | succ d ih =>
    intro i hi
    refine Ev.step (f := fun k => laws_eqStringS.l0 k l l ((i + 1 : Nat) : Int)) (fun k => ?_) (ih (i + 1) (by omega))
    simp only [laws_eqStringS.l0]
    rw [if_pos (by omega), if_pos (by omega), if_pos (by omega), if_pos trivial, show wrap64 ((i : Int) + 1) = ((i + 1 : Nat) : Int) by unfold wrap64; omega]
theorem eqStringS_ev (l : List ByteArray) (hl : l.length ≤ 9223372036854775807) : Ev (fun k => laws_eqStringS.f k l l) true := by
  refine Ev.congr (f := fun k => laws_eqStringS.l0 k l l ((0 : Nat) : Int)) (fun k => ?_) (eqStringS_loop l hl l.length 0 (by omega))
  unfold laws_eqStringS.f
  rw [if_pos rfl]
  rfl
theorem strOfNums_one (c : Int) : (strOfNums [c]).size = 1 := by
  unfold strOfNums
  rfl
theorem markText_loop (d : Nat) : ∀ (n : Int) (t : ByteArray), n < 10 ^ d → n ≤ 9223372036854775807 → t.size + d ≤ 1000 → ∃ r, Ev (fun k => laws_markText.l0 k n t) r := by
  induction d with
  | zero =>
    intro n t hn _ ht
    refine ⟨_, Ev.step (f := fun _ => some ((⟨#[109]⟩ : ByteArray) ++ t)) (fun k => ?_) (Ev.now _)⟩
    simp only [laws_markText.l0]
    rw [if_neg (by omega), if_pos (by omega)]
  | succ d ih =>
    intro n t hn hm ht
    by_cases h : n > 0
    · have hw : wrap64 (Int.tdiv n 10) = n / 10 := by
        rw [Int.tdiv_eq_ediv_of_nonneg (by omega)]
        unfold wrap64
        omega
      have hp : (10 : Int) ^ (d + 1) = 10 ^ d * 10 := by rw [Int.pow_succ]
      have h2 : n / 10 < 10 ^ d := by
        rw [hp] at hn
        exact Int.ediv_lt_of_lt_mul (by omega) hn
      obtain ⟨r, hr⟩ := ih (n / 10) (strOfNums [(wrap64 (48 + Int.tmod n 10)) % 256] ++ t) h2 (by omega) (by rw [ByteArray.size_append, strOfNums_one]; omega)
      refine ⟨r, Ev.step (f := fun k => laws_markText.l0 k (n / 10) (strOfNums [(wrap64 (48 + Int.tmod n 10)) % 256] ++ t)) (fun k => ?_) hr⟩
      simp only [laws_markText.l0]
      rw [if_pos h, hw, Option.bind_some, if_pos (by rw [strOfNums_one]; omega)]
    · refine ⟨_, Ev.step (f := fun _ => some ((⟨#[109]⟩ : ByteArray) ++ t)) (fun k => ?_) (Ev.now _)⟩
      simp only [laws_markText.l0]
      rw [if_neg h, if_pos (by omega)]
theorem markText_ev (n : Int) (hn : n ≤ 9223372036854775807) : ∃ r, Ev (fun k => laws_markText.f k n) r := by
  by_cases h : n ≤ 0
  · refine ⟨(⟨#[109, 48]⟩ : ByteArray), Ev.congr (f := fun _ => some (⟨#[109, 48]⟩ : ByteArray)) (fun k => ?_) (Ev.now _)⟩
    unfold laws_markText.f
    rw [if_pos h]
  · have hp : (10 : Int) ^ 19 = 10000000000000000000 := by decide
    obtain ⟨r, hr⟩ := markText_loop 19 n (⟨#[]⟩ : ByteArray) (by omega) hn (by show 0 + 19 ≤ 1000; omega)
    refine ⟨r, Ev.congr (fun k => ?_) hr⟩
    unfold laws_markText.f
    rw [if_neg h]
theorem markStringS_loop (d : Nat) : ∀ (l : List ByteArray) (i : Nat), i + d = l.length → l.length ≤ 9223372036854775000 → ∃ r, Ev (fun k => laws_markStringS.l0 k l ((i + 1 : Nat) : Int) (i : Int)) (((l.length + 1 : Nat) : Int), r) ∧ r.length = l.length ∧ (∀ j, j < i → r[j]? = l[j]?) ∧
    ∀ j, i ≤ j → j < l.length → ∃ t, r[j]? = some t ∧ Ev (fun k => laws_markText.f k ((j + 1 : Nat) : Int)) t := by
  induction d with
  | zero =>
    intro l i hi hl
    refine ⟨l, Ev.step (f := fun _ => some (((l.length + 1 : Nat) : Int), l)) (fun k => ?_) (Ev.now _), rfl, fun _ _ => rfl, fun j h1 h2 => by omega⟩
    simp only [laws_markStringS.l0]
    rw [if_neg (by omega), show i = l.length by omega]
  | succ d ih =>
    intro l i hi hl
    obtain ⟨t, ht⟩ := markText_ev ((i + 1 : Nat) : Int) (by omega)
    obtain ⟨r, hr, hrl, hlo, hhi⟩ := ih (l.set i t) (i + 1) (by rw [List.length_set]; omega) (by rw [List.length_set]; omega)
    rw [List.length_set] at hr hrl hhi
    refine ⟨r, Ev.step (f := fun k => (laws_markText.f k ((i + 1 : Nat) : Int)).bind fun u => laws_markStringS.l0 k (l.set i u) ((i + 1 + 1 : Nat) : Int) ((i + 1 : Nat) : Int)) (fun k => ?_) (Ev.bind ht hr), hrl, fun j hj => ?_, fun j h1 h2 => ?_⟩
    · simp only [laws_markStringS.l0]
      rw [if_pos (by omega), show wrap64 ((i : Int) + 1) = ((i + 1 : Nat) : Int) by unfold wrap64; omega, show wrap64 (((i + 1 : Nat) : Int) + 1) = ((i + 1 + 1 : Nat) : Int) by unfold wrap64; omega]
      first | rfl | (congr 1; funext u; rw [if_pos (by omega), Int.toNat_natCast])
    · rw [hlo j (by omega), List.getElem?_set_ne (by omega)]
    · by_cases hj : j = i
      · subst hj
        refine ⟨t, ?_, ht⟩
        rw [hlo j (by omega), List.getElem?_set_self (by omega)]
      · exact hhi j (by omega) h2
theorem heldStringS_loop (r : List ByteArray) (hl : r.length ≤ 9223372036854775000) (hr : ∀ j, j < r.length → ∃ t, r[j]? = some t ∧ Ev (fun k => laws_markText.f k ((j + 1 : Nat) : Int)) t) (d : Nat) : ∀ i : Nat, i + d = r.length → Ev (fun k => laws_heldStringS.l0 k r ((i + 1 : Nat) : Int) (i : Int)) ((r.length + 1 : Nat) : Int) := by
  induction d with
  | zero =>
    intro i hi
    refine Ev.step (f := fun _ => some ((i + 1 : Nat) : Int)) (fun k => ?_) (by rw [show r.length = i by omega]; exact Ev.now _)
    simp only [laws_heldStringS.l0]
    rw [if_neg (by omega)]
  | succ d ih =>
    intro i hi
    obtain ⟨t, h1, h2⟩ := hr i (by omega)
    have hrd : rdOf ByteArray.empty r (i : Int) = t := by
      unfold rdOf
      rw [Int.toNat_natCast, List.getD_eq_getElem?_getD, h1]
      rfl
    refine Ev.step (f := fun k => (laws_markText.f k ((i + 1 : Nat) : Int)).bind fun u => if t.toList = u.toList then laws_heldStringS.l0 k r ((i + 1 + 1 : Nat) : Int) ((i + 1 : Nat) : Int) else some (-1)) (fun k => ?_) (Ev.bind h2 ?_)
    · simp only [laws_heldStringS.l0]
      rw [if_pos (by omega), if_pos (by omega), hrd, show wrap64 ((i : Int) + 1) = ((i + 1 : Nat) : Int) by unfold wrap64; omega, show wrap64 (((i + 1 : Nat) : Int) + 1) = ((i + 1 + 1 : Nat) : Int) by unfold wrap64; omega]
    · exact Ev.congr (fun k => by rw [if_pos rfl]) (ih (i + 1) (by omega))
/-- What is marked is held. -/
theorem marks_ev (l : List ByteArray) (hl : l.length ≤ 9223372036854775000) : ∃ r, Ev (fun k => laws_markStringS.f k l 1) (((l.length + 1 : Nat) : Int), r) ∧ Ev (fun k => laws_heldStringS.f k r 1) ((l.length + 1 : Nat) : Int) := by
  obtain ⟨r, h1, h2, _, h4⟩ := markStringS_loop l.length l 0 (by omega) hl
  refine ⟨r, h1, ?_⟩
  have := heldStringS_loop r (by omega) (fun j hj => h4 j (by omega) (by omega)) r.length 0 (by omega)
  rw [h2] at this
  exact this
/-- The state of the walk: what is cut, from where the next part goes, the quote (0: none). -/
def step (s : ByteArray) (i : Nat) : List ByteArray × Nat × Int → List ByteArray × Nat × Int
  | (out, a, q) =>
    if q = 0 then
      if bt s i = 39 ∨ bt s i = 34 then (out, a, bt s i)
      else if bt s i = 59 then (out ++ [s.extract a i], i + 1, q) else (out, a, q)
    else if bt s i = q then (out, a, 0) else (out, a, q)
def run (s : ByteArray) : Nat → Nat → List ByteArray × Nat × Int → List ByteArray
  | 0, _, (out, a, _) => out ++ [s.extract a s.size]
  | d + 1, i, st => run s d (i + 1) (step s i st)
theorem run_len (s : ByteArray) : ∀ (d i : Nat) (out : List ByteArray) (a : Nat) (q : Int), (run s d i (out, a, q)).length ≤ out.length + d + 1 := by
  intro d
  induction d with
  | zero => intro i out a q; simp [run]
  | succ d ih =>
    intro i out a q
    simp only [run, step]
    split
    · split
      · have := ih (i + 1) out a (bt s i); omega
      · split
        · have := ih (i + 1) (out ++ [s.extract a i]) (i + 1) q
          simp at this ⊢
          omega
        · have := ih (i + 1) out a q; omega
    · split
      · have := ih (i + 1) out a 0; omega
      · have := ih (i + 1) out a q; omega
theorem spec_ev (s : ByteArray) (hs : s.size ≤ 1048576) (d : Nat) : ∀ (i : Nat) (out : List ByteArray) (a : Nat) (q : Int), i + d = s.size → a ≤ i → out.length ≤ i → Ev (fun k => spec_SplitStatements.l0 k s out (a : Int) q (i : Int)) (run s d i (out, a, q)) := by
  induction d with
  | zero =>
    intro i out a q hi ha ho
    refine Ev.step (f := fun _ => some (out ++ [s.extract a s.size])) (fun k => ?_) (Ev.now _)
    simp only [spec_SplitStatements.l0]
    rw [if_neg (by omega), if_pos (by omega), if_pos (by omega), if_pos (by omega), Int.toNat_natCast]
  | succ d ih =>
    intro i out a q hi ha ho
    have w : wrap64 ((i : Int) + 1) = ((i + 1 : Nat) : Int) := by unfold wrap64; omega
    simp only [run, step]
    by_cases hq : q = 0
    · rw [if_pos hq]
      by_cases h39 : bt s i = 39
      · rw [if_pos (Or.inl h39)]
        refine Ev.step (f := fun k => spec_SplitStatements.j1 k s out (a : Int) q (i : Int) (bt s i) true) (fun k => ?_) (Ev.step (f := fun k => spec_SplitStatements.l0 k s out (a : Int) (bt s i) ((i + 1 : Nat) : Int)) (fun k => ?_) (ih (i + 1) out a _ (by omega) (by omega) (by omega)))
        · simp only [spec_SplitStatements.l0]
          rw [if_pos (by omega), if_pos (by omega), if_pos hq, if_pos h39]
        · simp only [spec_SplitStatements.j1]
          rw [if_pos trivial, w]
      · have e : spec_SplitStatements.l0 = spec_SplitStatements.l0 := rfl
        by_cases h34 : bt s i = 34
        · rw [if_pos (Or.inr h34)]
          refine Ev.step (f := fun k => spec_SplitStatements.j1 k s out (a : Int) q (i : Int) (bt s i) true) (fun k => ?_) (Ev.step (f := fun k => spec_SplitStatements.l0 k s out (a : Int) (bt s i) ((i + 1 : Nat) : Int)) (fun k => ?_) (ih (i + 1) out a _ (by omega) (by omega) (by omega)))
          · simp only [spec_SplitStatements.l0]
            rw [if_pos (by omega), if_pos (by omega), if_pos hq, if_neg h39, beq_iff_eq.mpr h34]
          · simp only [spec_SplitStatements.j1]
            rw [if_pos trivial, w]
        · rw [if_neg (by omega)]
          by_cases h59 : bt s i = 59
          · rw [if_pos h59]
            refine Ev.step (f := fun k => spec_SplitStatements.j1 k s out (a : Int) q (i : Int) (bt s i) false) (fun k => ?_) (Ev.step (f := fun k => spec_SplitStatements.l0 k s (out ++ [s.extract a i]) ((i + 1 : Nat) : Int) q ((i + 1 : Nat) : Int)) (fun k => ?_) (ih (i + 1) _ (i + 1) _ (by omega) (by omega) (by simp; omega)))
            · simp only [spec_SplitStatements.l0]
              rw [if_pos (by omega), if_pos (by omega), if_pos hq, if_neg h39, beq_eq_false_iff_ne.mpr h34]
            · simp only [spec_SplitStatements.j1]
              rw [if_neg (by simp), if_pos h59, if_pos (by omega), if_pos (by omega), if_pos (by omega), if_pos (by omega), w, Int.toNat_natCast, Int.toNat_natCast]
          · rw [if_neg h59]
            refine Ev.step (f := fun k => spec_SplitStatements.j1 k s out (a : Int) q (i : Int) (bt s i) false) (fun k => ?_) (Ev.step (f := fun k => spec_SplitStatements.l0 k s out (a : Int) q ((i + 1 : Nat) : Int)) (fun k => ?_) (ih (i + 1) out a _ (by omega) (by omega) (by omega)))
            · simp only [spec_SplitStatements.l0]
              rw [if_pos (by omega), if_pos (by omega), if_pos hq, if_neg h39, beq_eq_false_iff_ne.mpr h34]
            · simp only [spec_SplitStatements.j1]
              rw [if_neg (by simp), if_neg h59, w]
    · rw [if_neg hq]
      by_cases hb : bt s i = q
      · rw [if_pos hb]
        refine Ev.step (f := fun k => spec_SplitStatements.l0 k s out (a : Int) 0 ((i + 1 : Nat) : Int)) (fun k => ?_) (ih (i + 1) out a _ (by omega) (by omega) (by omega))
        simp only [spec_SplitStatements.l0]
        rw [if_pos (by omega), if_pos (by omega), if_neg hq, if_pos hb, w]
      · rw [if_neg hb]
        refine Ev.step (f := fun k => spec_SplitStatements.l0 k s out (a : Int) q ((i + 1 : Nat) : Int)) (fun k => ?_) (ih (i + 1) out a _ (by omega) (by omega) (by omega))
        simp only [spec_SplitStatements.l0]
        rw [if_pos (by omega), if_pos (by omega), if_neg hq, if_neg hb, w]
theorem impl_ev (s : ByteArray) (hs : s.size ≤ 1048576) (d : Nat) : ∀ (i : Nat) (out : List ByteArray) (a : Nat) (q : Int), i + d = s.size → a ≤ i → out.length ≤ i → Ev (fun k => impl_SplitStatements.l0 k s out (a : Int) q (s.size : Int) (i : Int)) (run s d i (out, a, q)) := by
  induction d with
  | zero =>
    intro i out a q hi ha ho
    refine Ev.step (f := fun _ => some (out ++ [s.extract a s.size])) (fun k => ?_) (Ev.now _)
    simp only [impl_SplitStatements.l0]
    rw [if_neg (by omega), if_pos (by omega), if_pos (by omega), if_pos (by omega), Int.toNat_natCast]
  | succ d ih =>
    intro i out a q hi ha ho
    have w : wrap64 ((i : Int) + 1) = ((i + 1 : Nat) : Int) := by unfold wrap64; omega
    simp only [run, step]
    by_cases hq : q = 0
    · rw [if_pos hq]
      by_cases h39 : bt s i = 39
      · rw [if_pos (Or.inl h39)]
        refine Ev.step (f := fun k => impl_SplitStatements.j1 k s out (a : Int) q (i : Int) (bt s i) (s.size : Int) (i : Int) true) (fun k => ?_) (Ev.step (f := fun k => impl_SplitStatements.l0 k s out (a : Int) (bt s i) (s.size : Int) ((i + 1 : Nat) : Int)) (fun k => ?_) (ih (i + 1) out a _ (by omega) (by omega) (by omega)))
        · simp only [impl_SplitStatements.l0]
          rw [if_pos (by omega), if_pos (by omega), if_pos (by omega), if_pos hq, if_pos h39]
        · simp only [impl_SplitStatements.j1]
          rw [if_pos trivial, w]
      · by_cases h34 : bt s i = 34
        · rw [if_pos (Or.inr h34)]
          refine Ev.step (f := fun k => impl_SplitStatements.j1 k s out (a : Int) q (i : Int) (bt s i) (s.size : Int) (i : Int) true) (fun k => ?_) (Ev.step (f := fun k => impl_SplitStatements.l0 k s out (a : Int) (bt s i) (s.size : Int) ((i + 1 : Nat) : Int)) (fun k => ?_) (ih (i + 1) out a _ (by omega) (by omega) (by omega)))
          · simp only [impl_SplitStatements.l0]
            rw [if_pos (by omega), if_pos (by omega), if_pos (by omega), if_pos hq, if_neg h39, beq_iff_eq.mpr h34]
          · simp only [impl_SplitStatements.j1]
            rw [if_pos trivial, w]
        · rw [if_neg (by omega)]
          by_cases h59 : bt s i = 59
          · rw [if_pos h59]
            refine Ev.step (f := fun k => impl_SplitStatements.j1 k s out (a : Int) q (i : Int) (bt s i) (s.size : Int) (i : Int) false) (fun k => ?_) (Ev.step (f := fun k => impl_SplitStatements.l0 k s (out ++ [s.extract a i]) ((i + 1 : Nat) : Int) q (s.size : Int) ((i + 1 : Nat) : Int)) (fun k => ?_) (ih (i + 1) _ (i + 1) _ (by omega) (by omega) (by simp; omega)))
            · simp only [impl_SplitStatements.l0]
              rw [if_pos (by omega), if_pos (by omega), if_pos (by omega), if_pos hq, if_neg h39, beq_eq_false_iff_ne.mpr h34]
            · simp only [impl_SplitStatements.j1]
              rw [if_neg (by simp), if_pos h59, if_pos (by omega), if_pos (by omega), if_pos (by omega), if_pos (by omega), w, Int.toNat_natCast, Int.toNat_natCast]
          · rw [if_neg h59]
            refine Ev.step (f := fun k => impl_SplitStatements.j1 k s out (a : Int) q (i : Int) (bt s i) (s.size : Int) (i : Int) false) (fun k => ?_) (Ev.step (f := fun k => impl_SplitStatements.l0 k s out (a : Int) q (s.size : Int) ((i + 1 : Nat) : Int)) (fun k => ?_) (ih (i + 1) out a _ (by omega) (by omega) (by omega)))
            · simp only [impl_SplitStatements.l0]
              rw [if_pos (by omega), if_pos (by omega), if_pos (by omega), if_pos hq, if_neg h39, beq_eq_false_iff_ne.mpr h34]
            · simp only [impl_SplitStatements.j1]
              rw [if_neg (by simp), if_neg h59, w]
    · rw [if_neg hq]
      by_cases hb : bt s i = q
      · rw [if_pos hb]
        refine Ev.step (f := fun k => impl_SplitStatements.l0 k s out (a : Int) 0 (s.size : Int) ((i + 1 : Nat) : Int)) (fun k => ?_) (ih (i + 1) out a _ (by omega) (by omega) (by omega))
        simp only [impl_SplitStatements.l0]
        rw [if_pos (by omega), if_pos (by omega), if_pos (by omega), if_neg hq, if_pos hb, w]
      · rw [if_neg hb]
        refine Ev.step (f := fun k => impl_SplitStatements.l0 k s out (a : Int) q (s.size : Int) ((i + 1 : Nat) : Int)) (fun k => ?_) (ih (i + 1) out a _ (by omega) (by omega) (by omega))
        simp only [impl_SplitStatements.l0]
        rw [if_pos (by omega), if_pos (by omega), if_pos (by omega), if_neg hq, if_neg hb, w]
end SplitStatements
open SplitStatements in
theorem FnExactSplitStatements : laws_FnExactSplitStatements.Pure := by
  intro s _
  apply Ev.rounds
  unfold laws_FnExactSplitStatements.f
  by_cases h : (s.size : Int) > 1048576
  · simp only [if_pos h]
    exact Ev.now true
  · simp only [if_neg h]
    have e1 : Ev (fun k => spec_SplitStatements.f k s) (run s s.size 0 ([], 0, 0)) := spec_ev s (by omega) s.size 0 [] 0 0 (by omega) (by omega) (by simp)
    have e2 : Ev (fun k => impl_SplitStatements.f k s) (run s s.size 0 ([], 0, 0)) := impl_ev s (by omega) s.size 0 [] 0 0 (by omega) (by omega) (by simp)
    have hlen : (run s s.size 0 ([], 0, 0)).length ≤ 1048577 := by
      have := run_len s s.size 0 [] 0 0
      simp at this
      omega
    obtain ⟨r, hm, hh⟩ := marks_ev (run s s.size 0 ([], 0, 0)) (by omega)
    have q := eqStringS_ev (run s s.size 0 ([], 0, 0)) (by omega)
    refine Ev.bind e1 (Ev.bind e2 (Ev.bind q ?_))
    refine Ev.congr (f := _) (fun k => by rw [if_pos rfl]) (Ev.bind hm (Ev.bind hh ?_))
    refine Ev.congr (f := _) (fun k => by rw [if_neg (by omega), if_pos rfl]) (Ev.bind e2 (Ev.bind q ?_))
    refine Ev.congr (f := _) (fun k => by rw [if_pos rfl]) (Ev.bind hh ?_)
    exact Ev.congr (f := fun _ => some true) (fun k => by rw [if_neg (by omega), if_pos rfl]) (Ev.now true)
end Go.Proofs.Ytiebkcikmnbajaa.Pure
