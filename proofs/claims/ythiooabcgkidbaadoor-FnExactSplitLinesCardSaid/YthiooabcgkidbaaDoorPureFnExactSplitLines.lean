/- FnExactSplitLines answers true for every string: the program's SplitLines (strings.TrimSuffix, strings.Split) and the reference's (a byte at a time) cut the same lines, and the results share no memory. Conditions: none beyond the statement's own. -/
import Derived.Test.YthiooabcgkidbaaDoorPFnExactSplitLinesx2
import Derived.Lib.ReplaceLaws
namespace Go.Proofs.YthiooabcgkidbaaDoor.Pure
open Go.RowKit Go.Proofs.YthiooabcgkidbaaDoor.PFnExactSplitLines Go.Proofs.YthiooabcgkidbaaDoorW.PrintWords Go.Proofs.YthiooabcgkidbaaDoorW.PrintLast Go.Proofs.YthiooabcgkidbaaDoorW.PrintMore
namespace SplitLines
-- []string: eqStringS, markText, markStringS, heldStringS of the laws
theorem eqStringS_loop (l : List ByteArray) (hl : l.length ≤ 9223372036854775807) (d : Nat) : ∀ i : Nat, i + d = l.length → Ev (fun k => laws_eqStringS.l0 k l l (i : Int)) true := by
  induction d with
  | zero =>
    intro i hi
    refine Ev.step (f := fun _ => some true) (fun k => ?_) (Ev.now true)
    simp only [laws_eqStringS.l0]
    rw [if_neg (by omega)]
  | succ d ih =>
    intro i hi
    refine Ev.step (f := fun k => laws_eqStringS.l0 k l l ((i + 1 : Nat) : Int)) (fun k => ?_) (ih (i + 1) (by omega))
    simp only [laws_eqStringS.l0]
    rw [if_pos (by omega), if_pos (by omega), if_pos (by omega), if_pos trivial, show wrap64 ((i : Int) + 1) = ((i + 1 : Nat) : Int) by unfold wrap64; omega]
theorem eqStringS_ev (l : List ByteArray) (hl : l.length ≤ 9223372036854775807) : Ev (fun k => laws_eqStringS.f k l l) true := by
  refine Ev.congr (f := fun k => laws_eqStringS.l0 k l l ((0 : Nat) : Int)) (fun k => ?_) (eqStringS_loop l hl l.length 0 (by omega))
  unfold laws_eqStringS.f
  rw [if_pos rfl]
  rfl
theorem strOfNums_one (c : Int) : (strOfNums [c]).size = 1 := by
  unfold strOfNums
  rfl
theorem markText_loop (d : Nat) : ∀ (n : Int) (t : ByteArray), n < 10 ^ d → n ≤ 9223372036854775807 → t.size + d ≤ 1000 → ∃ r, Ev (fun k => laws_markText.l0 k n t) r := by
  induction d with
  | zero =>
    intro n t hn _ ht
    refine ⟨_, Ev.step (f := fun _ => some ((⟨#[109]⟩ : ByteArray) ++ t)) (fun k => ?_) (Ev.now _)⟩
    simp only [laws_markText.l0]
    rw [if_neg (by omega), if_pos (by omega)]
  | succ d ih =>
    intro n t hn hm ht
    by_cases h : n > 0
    · have hw : wrap64 (Int.tdiv n 10) = n / 10 := by
        rw [Int.tdiv_eq_ediv_of_nonneg (by omega)]
        unfold wrap64
        omega
      have hp : (10 : Int) ^ (d + 1) = 10 ^ d * 10 := by rw [Int.pow_succ]
      have h2 : n / 10 < 10 ^ d := by
        rw [hp] at hn
        exact Int.ediv_lt_of_lt_mul (by omega) hn
      obtain ⟨r, hr⟩ := ih (n / 10) (strOfNums [(wrap64 (48 + Int.tmod n 10)) % 256] ++ t) h2 (by omega) (by rw [ByteArray.size_append, strOfNums_one]; omega)
      refine ⟨r, Ev.step (f := fun k => laws_markText.l0 k (n / 10) (strOfNums [(wrap64 (48 + Int.tmod n 10)) % 256] ++ t)) (fun k => ?_) hr⟩
      simp only [laws_markText.l0]
      rw [if_pos h, hw, Option.bind_some, if_pos (by rw [strOfNums_one]; omega)]
    · refine ⟨_, Ev.step (f := fun _ => some ((⟨#[109]⟩ : ByteArray) ++ t)) (fun k => ?_) (Ev.now _)⟩
      simp only [laws_markText.l0]
      rw [if_neg h, if_pos (by omega)]
theorem markText_ev (n : Int) (hn : n ≤ 9223372036854775807) : ∃ r, Ev (fun k => laws_markText.f k n) r := by
  by_cases h : n ≤ 0
  · refine ⟨(⟨#[109, 48]⟩ : ByteArray), Ev.congr (f := fun _ => some (⟨#[109, 48]⟩ : ByteArray)) (fun k => ?_) (Ev.now _)⟩
    unfold laws_markText.f
    rw [if_pos h]
  · have hp : (10 : Int) ^ 19 = 10000000000000000000 := by decide
    obtain ⟨r, hr⟩ := markText_loop 19 n (⟨#[]⟩ : ByteArray) (by omega) hn (by show 0 + 19 ≤ 1000; omega)
    refine ⟨r, Ev.congr (fun k => ?_) hr⟩
    unfold laws_markText.f
    rw [if_neg h]
theorem markStringS_loop (d : Nat) : ∀ (l : List ByteArray) (i : Nat), i + d = l.length → l.length ≤ 9223372036854775000 → ∃ r, Ev (fun k => laws_markStringS.l0 k l ((i + 1 : Nat) : Int) (i : Int)) (((l.length + 1 : Nat) : Int), r) ∧ r.length = l.length ∧ (∀ j, j < i → r[j]? = l[j]?) ∧
    ∀ j, i ≤ j → j < l.length → ∃ t, r[j]? = some t ∧ Ev (fun k => laws_markText.f k ((j + 1 : Nat) : Int)) t := by
  induction d with
  | zero =>
    intro l i hi hl
    refine ⟨l, Ev.step (f := fun _ => some (((l.length + 1 : Nat) : Int), l)) (fun k => ?_) (Ev.now _), rfl, fun _ _ => rfl, fun j h1 h2 => by omega⟩
    simp only [laws_markStringS.l0]
    rw [if_neg (by omega), show i = l.length by omega]
  | succ d ih =>
    intro l i hi hl
    obtain ⟨t, ht⟩ := markText_ev ((i + 1 : Nat) : Int) (by omega)
    obtain ⟨r, hr, hrl, hlo, hhi⟩ := ih (l.set i t) (i + 1) (by rw [List.length_set]; omega) (by rw [List.length_set]; omega)
    rw [List.length_set] at hr hrl hhi
    refine ⟨r, Ev.step (f := fun k => (laws_markText.f k ((i + 1 : Nat) : Int)).bind fun u => laws_markStringS.l0 k (l.set i u) ((i + 1 + 1 : Nat) : Int) ((i + 1 : Nat) : Int)) (fun k => ?_) (Ev.bind ht hr), hrl, fun j hj => ?_, fun j h1 h2 => ?_⟩
    · simp only [laws_markStringS.l0]
      rw [if_pos (by omega), show wrap64 ((i : Int) + 1) = ((i + 1 : Nat) : Int) by unfold wrap64; omega, show wrap64 (((i + 1 : Nat) : Int) + 1) = ((i + 1 + 1 : Nat) : Int) by unfold wrap64; omega]
      first | rfl | (congr 1; funext u; rw [if_pos (by omega), Int.toNat_natCast])
    · rw [hlo j (by omega), List.getElem?_set_ne (by omega)]
    · by_cases hj : j = i
      · subst hj
        refine ⟨t, ?_, ht⟩
        rw [hlo j (by omega), List.getElem?_set_self (by omega)]
      · exact hhi j (by omega) h2
theorem heldStringS_loop (r : List ByteArray) (hl : r.length ≤ 9223372036854775000) (hr : ∀ j, j < r.length → ∃ t, r[j]? = some t ∧ Ev (fun k => laws_markText.f k ((j + 1 : Nat) : Int)) t) (d : Nat) : ∀ i : Nat, i + d = r.length → Ev (fun k => laws_heldStringS.l0 k r ((i + 1 : Nat) : Int) (i : Int)) ((r.length + 1 : Nat) : Int) := by
  induction d with
  | zero =>
    intro i hi
    refine Ev.step (f := fun _ => some ((i + 1 : Nat) : Int)) (fun k => ?_) (by rw [show r.length = i by omega]; exact Ev.now _)
    simp only [laws_heldStringS.l0]
    rw [if_neg (by omega)]
  | succ d ih =>
    intro i hi
    obtain ⟨t, h1, h2⟩ := hr i (by omega)
    have hrd : rdOf ByteArray.empty r (i : Int) = t := by
      unfold rdOf
      rw [Int.toNat_natCast, List.getD_eq_getElem?_getD, h1]
      rfl
    refine Ev.step (f := fun k => (laws_markText.f k ((i + 1 : Nat) : Int)).bind fun u => if t.toList = u.toList then laws_heldStringS.l0 k r ((i + 1 + 1 : Nat) : Int) ((i + 1 : Nat) : Int) else some (-1)) (fun k => ?_) (Ev.bind h2 ?_)
    · simp only [laws_heldStringS.l0]
      rw [if_pos (by omega), if_pos (by omega), hrd, show wrap64 ((i : Int) + 1) = ((i + 1 : Nat) : Int) by unfold wrap64; omega, show wrap64 (((i + 1 : Nat) : Int) + 1) = ((i + 1 + 1 : Nat) : Int) by unfold wrap64; omega]
    · exact Ev.congr (fun k => by rw [if_pos rfl]) (ih (i + 1) (by omega))
/-- What is marked is held. -/
theorem marks_ev (l : List ByteArray) (hl : l.length ≤ 9223372036854775000) : ∃ r, Ev (fun k => laws_markStringS.f k l 1) (((l.length + 1 : Nat) : Int), r) ∧ Ev (fun k => laws_heldStringS.f k r 1) ((l.length + 1 : Nat) : Int) := by
  obtain ⟨r, h1, h2, _, h4⟩ := markStringS_loop l.length l 0 (by omega) hl
  refine ⟨r, h1, ?_⟩
  have := heldStringS_loop r (by omega) (fun j hj => h4 j (by omega) (by omega)) r.length 0 (by omega)
  rw [h2] at this
  exact this
-- a text's lines: the reference's cuts and the program's strings.Split
/-- The parts between newlines; what stands before the first is cur. -/
def goL (cur : List UInt8) : List UInt8 → List (List UInt8)
  | [] => [cur]
  | c :: l => if c = 10 then cur :: goL [] l else goL (cur ++ [c]) l
theorem goL_hit (cur l : List UInt8) : goL cur (10 :: l) = cur :: goL [] l := by
  show (if (10 : UInt8) = 10 then cur :: goL [] l else goL (cur ++ [10]) l) = _
  rw [if_pos rfl]
theorem goL_miss (cur l : List UInt8) (c : UInt8) (h : ¬ c = 10) : goL cur (c :: l) = goL (cur ++ [c]) l := by
  show (if c = 10 then cur :: goL [] l else goL (cur ++ [c]) l) = _
  rw [if_neg h]
theorem goL_length (l : List UInt8) : ∀ cur, (goL cur l).length ≤ l.length + 1 := by
  induction l with
  | nil => intro cur; simp [goL]
  | cons c l ih =>
    intro cur
    by_cases h : c = 10
    · rw [h, goL_hit]
      have := ih []
      simp only [List.length_cons]
      omega
    · rw [goL_miss cur l c h]
      have := ih (cur ++ [c])
      simp only [List.length_cons]
      omega
theorem goL_pos (l : List UInt8) : ∀ cur, 1 ≤ (goL cur l).length := by
  induction l with
  | nil => intro cur; simp [goL]
  | cons c l ih =>
    intro cur
    by_cases h : c = 10
    · rw [h, goL_hit]
      simp
    · rw [goL_miss cur l c h]
      exact ih _
theorem goL_snoc (t : List UInt8) : ∀ cur, goL cur (t ++ [10]) = goL cur t ++ [[]] := by
  induction t with
  | nil =>
    intro cur
    show goL cur (10 :: []) = _
    rw [goL_hit]
    rfl
  | cons c t ih =>
    intro cur
    show goL cur (c :: (t ++ [10])) = _
    by_cases h : c = 10
    · rw [h, goL_hit, goL_hit, ih]
      rfl
    · rw [goL_miss _ _ _ h, goL_miss _ _ _ h, ih]
theorem goL_last (t : List UInt8) (c : UInt8) (hc : ¬ c = 10) : ∀ cur, ∃ ys x, goL cur (t ++ [c]) = ys ++ [x ++ [c]] := by
  induction t with
  | nil =>
    intro cur
    refine ⟨[], cur, ?_⟩
    show goL cur (c :: []) = _
    rw [goL_miss _ _ _ hc]
    rfl
  | cons d t ih =>
    intro cur
    show ∃ ys x, goL cur (d :: (t ++ [c])) = ys ++ [x ++ [c]]
    by_cases h : d = 10
    · rw [h, goL_hit]
      obtain ⟨ys, x, e⟩ := ih []
      exact ⟨cur :: ys, x, by rw [e]; rfl⟩
    · rw [goL_miss _ _ _ h]
      exact ih _
theorem split_go (l : List UInt8) : ∃ h t, Lib.splitK [10] 0 (Lib.count l [10]) l = h :: t ∧ ∀ cur, goL cur l = (cur ++ h) :: t := by
  induction l with
  | nil =>
    refine ⟨[], [], ?_, fun cur => by simp [goL]⟩
    rw [Lib.count_one]
    rfl
  | cons c l ih =>
    obtain ⟨h, t, e, hg⟩ := ih
    by_cases hc : c = 10
    · subst hc
      refine ⟨[], h :: t, ?_, fun cur => ?_⟩
      · have ei : Lib.index ((10 : UInt8) :: l) [10] = 0 := by
          rw [Lib.index_one]
          rfl
        rw [Lib.count_cons_eq, Nat.add_comm]
        show (if Lib.index ((10 : UInt8) :: l) [10] == -1 then [(10 : UInt8) :: l] else ((10 : UInt8) :: l).take ((Lib.index ((10 : UInt8) :: l) [10]).toNat + 0) :: Lib.splitK [10] 0 (Lib.count l [10]) (((10 : UInt8) :: l).drop ((Lib.index ((10 : UInt8) :: l) [10]).toNat + 1))) = _
        rw [ei, if_neg (show ¬ ((0 : Int) == -1) = true by decide)]
        show [] :: Lib.splitK [10] 0 (Lib.count l [10]) l = _
        rw [e]
      · rw [goL_hit, hg]
        simp
    · refine ⟨c :: h, t, ?_, fun cur => ?_⟩
      · rw [Lib.count_cons_ne c 10 l hc]
        cases hn : Lib.count l [10] with
        | zero =>
          rw [hn] at e
          injection (show [l] = h :: t from e) with e1 e2
          rw [← e1, ← e2]
          rfl
        | succ m =>
          rw [hn] at e
          obtain ⟨i, hi⟩ := Lib.index_of_count (s := l) (old := [10]) (by omega)
          have h1 : Lib.index (c :: l) [10] = ((i + 1 : Nat) : Int) := by
            rw [Lib.index_one] at hi ⊢
            show (if c == 10 then 0 else if Lib.indexByte l 10 == -1 then -1 else Lib.indexByte l 10 + 1) = _
            have q1 : ¬ (c == 10) = true := fun q => hc (beq_iff_eq.mp q)
            have q2 : ¬ (Lib.indexByte l 10 == -1) = true := fun q => by
              have := beq_iff_eq.mp q
              omega
            rw [if_neg q1, if_neg q2, hi]
            omega
          have hit : ∀ (s : List UInt8) (j : Nat), Lib.index s [10] = (j : Int) → Lib.splitK [10] 0 (m + 1) s = s.take j :: Lib.splitK [10] 0 m (s.drop (j + 1)) := by
            intro s j hj
            show (if Lib.index s [10] == -1 then [s] else s.take ((Lib.index s [10]).toNat + 0) :: Lib.splitK [10] 0 m (s.drop ((Lib.index s [10]).toNat + 1))) = _
            have q2 : ¬ (((j : Nat) : Int) == -1) = true := fun q => by
              have := beq_iff_eq.mp q
              omega
            rw [hj, if_neg q2]
            rfl
          rw [hit l i hi] at e
          injection e with e1 e2
          rw [hit (c :: l) (i + 1) h1, ← e1, ← e2]
          rfl
      · rw [goL_miss _ _ _ hc, hg]
        simp
theorem at_c (s : ByteArray) (i : Nat) (c : UInt8) (l : List UInt8) (h : s.data.toList.drop i = c :: l) : i < s.size ∧ bt s (i : Int) = (c.toNat : Int) ∧ s.data.toList.drop (i + 1) = l ∧ ∀ a, a ≤ i → (s.extract a (i + 1)).data.toList = (s.extract a i).data.toList ++ [c] := by
  have hl : s.data.toList.length = s.size := by rw [Array.length_toList]; rfl
  have h1 : i < s.data.toList.length := by
    rcases Nat.lt_or_ge i s.data.toList.length with h2 | h2
    · exact h2
    · rw [List.drop_eq_nil_of_le h2] at h
      cases h
  have h' := h
  rw [List.drop_eq_getElem_cons h1] at h'
  injection h' with h2 h3
  have h4 : i < s.size := by omega
  refine ⟨h4, ?_, h3, ?_⟩
  · unfold bt
    rw [dif_pos (show ((i : Int)).toNat < s.size by omega), ← h2]
    rfl
  · intro a ha
    rw [ByteArray.data_extract, Array.toList_extract, ByteArray.data_extract, Array.toList_extract, List.extract_eq_take_drop, List.extract_eq_take_drop, show i + 1 - a = (i - a) + 1 by omega]
    rw [List.take_add_one, List.getElem?_drop, show a + (i - a) = i by omega, List.getElem?_eq_getElem h1, h2]
    rfl
theorem cut_loop (s : ByteArray) (hs : s.size ≤ 1048576) (l : List UInt8) : ∀ (i a : Nat) (out : List ByteArray), s.data.toList.drop i = l → a ≤ i → i ≤ s.size → out.length ≤ i →
    ∃ r, Ev (fun k => spec_l01Cut.l0 k s 10 out (a : Int) (i : Int)) r ∧ r.map (·.data.toList) = out.map (·.data.toList) ++ goL (s.extract a i).data.toList l := by
  induction l with
  | nil =>
    intro i a out hd ha hi ho
    have hl : s.data.toList.length = s.size := by rw [Array.length_toList]; rfl
    have h2 : s.size ≤ i := by
      have := congrArg List.length hd
      rw [List.length_drop] at this
      simp only [List.length_nil] at this
      omega
    have hh : i = s.size := by omega
    refine ⟨out ++ [s.extract a s.size], Ev.step (f := fun _ => some (out ++ [s.extract a s.size])) (fun k => ?_) (Ev.now _), ?_⟩
    · simp only [spec_l01Cut.l0]
      rw [if_neg (show ¬ (i : Int) < (s.size : Int) by omega), if_pos (show (0 : Int) ≤ (a : Int) by omega), if_pos (show (a : Int) ≤ (s.size : Int) by omega), if_pos (show out.length < 8796093022208 by omega), Int.toNat_natCast]
    · rw [hh, List.map_append]
      rfl
  | cons c l ih =>
    intro i a out hd ha hi ho
    obtain ⟨hlt, hb, hd', he⟩ := at_c s i c l hd
    have hw : wrap64 ((i : Int) + 1) = ((i + 1 : Nat) : Int) := by unfold wrap64; omega
    by_cases h : c = 10
    · have hc : bt s (i : Int) = 10 := by rw [hb, h]; rfl
      obtain ⟨r, hr, hl⟩ := ih (i + 1) (i + 1) (out ++ [s.extract a i]) hd' (by omega) (by omega) (by simp; omega)
      refine ⟨r, Ev.step (f := fun k => spec_l01Cut.l0 k s 10 (out ++ [s.extract a i]) ((i + 1 : Nat) : Int) ((i + 1 : Nat) : Int)) (fun k => ?_) hr, ?_⟩
      · simp only [spec_l01Cut.l0, hw, Int.toNat_natCast]
        rw [if_pos (show (i : Int) < (s.size : Int) by omega), if_pos (show (0 : Int) ≤ (i : Int) by omega), if_pos hc, if_pos (show (0 : Int) ≤ (a : Int) by omega), if_pos (show (a : Int) ≤ (i : Int) by omega), if_pos (show (i : Int) ≤ (s.size : Int) by omega), if_pos (show out.length < 8796093022208 by omega)]
      · have e0 : (s.extract (i + 1) (i + 1)).data.toList = [] := by
          rw [ByteArray.data_extract, Array.toList_extract, List.extract_eq_take_drop, show i + 1 - (i + 1) = 0 by omega]
          rfl
        rw [hl, h, goL_hit, e0, List.map_append]
        simp
    · have hc : ¬ bt s (i : Int) = 10 := by
        rw [hb]
        intro q
        apply h
        apply UInt8.toNat_inj.mp
        show c.toNat = 10
        omega
      obtain ⟨r, hr, hl⟩ := ih (i + 1) a out hd' (by omega) (by omega) (by omega)
      refine ⟨r, Ev.step (f := fun k => spec_l01Cut.l0 k s 10 out (a : Int) ((i + 1 : Nat) : Int)) (fun k => ?_) hr, ?_⟩
      · simp only [spec_l01Cut.l0, hw]
        rw [if_pos (show (i : Int) < (s.size : Int) by omega), if_pos (show (0 : Int) ≤ (i : Int) by omega), if_neg hc]
      · rw [hl, he a ha, goL_miss _ _ _ h]
/-- A text's lines. -/
def linesL (l : List UInt8) : List (List UInt8) := if l = [] then [] else if l.getLast? = some 10 then goL [] l.dropLast else goL [] l
theorem linesL_length (l : List UInt8) : (linesL l).length ≤ l.length + 1 := by
  unfold linesL
  split
  · simp
  · split
    · have := goL_length l.dropLast []
      rw [List.length_dropLast] at this
      omega
    · exact goL_length l []
theorem spec_lines (s : ByteArray) (hs : s.size ≤ 1048576) : ∃ r, Ev (fun k => spec_SplitLines.f k s) r ∧ r.map (·.data.toList) = linesL s.data.toList := by
  obtain ⟨r, hr, hl⟩ := cut_loop s hs s.data.toList 0 0 [] rfl (by omega) (by omega) (by simp)
  have e0 : (s.extract 0 0).data.toList = [] := by
    rw [ByteArray.data_extract, Array.toList_extract, List.extract_eq_take_drop]
    rfl
  rw [e0, List.map_nil, List.nil_append] at hl
  have hsz : s.data.toList.length = s.size := by rw [Array.length_toList]; rfl
  have hlen : r.length = (goL [] s.data.toList).length := by rw [← hl, List.length_map]
  have h1 := goL_length s.data.toList []
  have h2 := goL_pos s.data.toList []
  have hw : wrap64 ((r.length : Int) - 1) = ((r.length - 1 : Nat) : Int) := by unfold wrap64; omega
  have hx : r.length - 1 < r.length := by omega
  have hrd : rdOf ByteArray.empty r ((r.length - 1 : Nat) : Int) = r[r.length - 1] := by
    unfold rdOf
    rw [Int.toNat_natCast, List.getD_eq_getElem?_getD, List.getElem?_eq_getElem hx]
    rfl
  have hlast : r[r.length - 1].data.toList = (goL [] s.data.toList)[(goL [] s.data.toList).length - 1]'(by omega) := by
    have q : (r.map (·.data.toList))[r.length - 1]? = some (r[r.length - 1].data.toList) := by
      rw [List.getElem?_map, List.getElem?_eq_getElem hx]
      rfl
    rw [hl] at q
    have q2 : (goL [] s.data.toList)[(goL [] s.data.toList).length - 1]? = some (r[r.length - 1].data.toList) := by
      rw [← hlen]
      exact q
    rw [List.getElem?_eq_getElem (by omega)] at q2
    exact (Option.some.inj q2).symm
  have key : ∀ (p : Prop) [Decidable p], ((r[r.length - 1].data.toList = []) ↔ p) → Ev (fun k => spec_SplitLines.f k s) (if p then r.take (r.length - 1) else r) := by
    intro p _ hp
    unfold spec_SplitLines.f
    refine Ev.bind (a := r) hr ?_
    simp only [hw, hrd, Int.toNat_natCast, Go.ByteArray.toList_eq]
    rw [if_pos (show (0 : Int) ≤ ((r.length - 1 : Nat) : Int) by omega), if_pos (show ((r.length - 1 : Nat) : Int) < (r.length : Int) by omega), if_pos (show ((r.length - 1 : Nat) : Int) ≤ (r.length : Int) by omega)]
    by_cases q : p
    · rw [if_pos (hp.mpr q), if_pos q]
      exact Ev.now _
    · rw [if_neg (fun z => q (hp.mp z)), if_neg q]
      exact Ev.now _
  rcases List.eq_nil_or_concat s.data.toList with hn | ⟨t, c, hn⟩
  · refine ⟨_, key True ⟨fun _ => trivial, fun _ => ?_⟩, ?_⟩
    · rw [hlast]
      simp only [hn]
      rfl
    · rw [if_pos trivial, List.map_take, hl, hlen, hn]
      rfl
  · rw [List.concat_eq_append] at hn
    have nn : ¬ (t ++ [c] = []) := by simp
    by_cases hc : c = 10
    · subst hc
      refine ⟨_, key True ⟨fun _ => trivial, fun _ => ?_⟩, ?_⟩
      · rw [hlast]
        simp only [hn, goL_snoc]
        simp
      · rw [if_pos trivial, List.map_take, hl, hlen, hn, goL_snoc]
        unfold linesL
        rw [if_neg nn, if_pos (by simp), List.dropLast_concat]
        simp
    · obtain ⟨ys, x, he⟩ := goL_last t c hc []
      refine ⟨_, key False ⟨fun q => ?_, fun q => q.elim⟩, ?_⟩
      · rw [hlast] at q
        simp only [hn, he] at q
        simp at q
      · rw [if_neg (fun q => q), hl, hn]
        unfold linesL
        rw [if_neg nn, if_neg (by simpa using hc)]
theorem impl_lines (s : ByteArray) (hs : s.size ≤ 1048576) : ∃ r, impl_SplitLines.f s = some r ∧ r.map (·.data.toList) = linesL s.data.toList := by
  have hsz : s.data.toList.length = s.size := by rw [Array.length_toList]; rfl
  have z1 : (⟨#[10]⟩ : ByteArray).size = 1 := rfl
  have b1 : (⟨#[10]⟩ : ByteArray).toList = [10] := by rw [Go.ByteArray.toList_eq]
  by_cases hn : s.data.toList = []
  · refine ⟨[], ?_, ?_⟩
    · unfold impl_SplitLines.f
      rw [Go.ByteArray.toList_eq, if_pos hn]
    · rw [hn]
      rfl
  · have hp : 1 ≤ s.size := by
      rw [← hsz]
      exact List.length_pos_iff.mpr hn
    have hsp : ∀ t : ByteArray, t.size ≤ 1048576 → ∃ r, strings_Split.f t (⟨#[10]⟩ : ByteArray) = some r ∧ r.map (·.data.toList) = goL [] t.data.toList := by
      intro t ht
      refine ⟨Lib.splitB (⟨#[10]⟩ : ByteArray) 0 (Lib.countB t (⟨#[10]⟩ : ByteArray)) t, ?_, ?_⟩
      · unfold strings_Split.f
        rw [z1, if_pos (show t.size < 4294967281 by omega), if_pos (Nat.le_refl 1)]
      · rw [Lib.splitB_data]
        obtain ⟨h, r, e, hg⟩ := split_go t.data.toList
        rw [hg]
        show Lib.splitK [10] 0 (Lib.count t.data.toList [10]) t.data.toList = _
        rw [e]
        rfl
    have hw : wrap64 ((s.size : Int) - 1) = ((s.size - 1 : Nat) : Int) := by unfold wrap64; omega
    have hx : s.size - 1 < s.data.toList.length := by omega
    have he : (s.extract (s.size - 1) s.size).data.toList = [s.data.toList[s.size - 1]] := by
      rw [ByteArray.data_extract, Array.toList_extract, List.extract_eq_take_drop, List.drop_eq_getElem_cons hx, show s.size - (s.size - 1) = 1 by omega]
      rfl
    have hgl : s.data.toList.getLast? = some s.data.toList[s.size - 1] := by
      rw [List.getLast?_eq_getElem?, hsz, List.getElem?_eq_getElem hx]
    have hT : strings_TrimSuffix.f s (⟨#[10]⟩ : ByteArray) = some (if s.data.toList[s.size - 1] = 10 then s.extract 0 (s.size - 1) else s) := by
      have hS : stringslite_HasSuffix.f s (⟨#[10]⟩ : ByteArray) = some ([s.data.toList[s.size - 1]] == [10]) := by
        unfold stringslite_HasSuffix.f
        simp only [z1, b1, Int.natCast_one, hw, Int.toNat_natCast]
        rw [if_pos (show (s.size : Int) ≥ 1 by omega), if_pos (show (0 : Int) ≤ ((s.size - 1 : Nat) : Int) by omega), if_pos (show ((s.size - 1 : Nat) : Int) ≤ (s.size : Int) by omega), Go.ByteArray.toList_eq, he]
      unfold strings_TrimSuffix.f stringslite_TrimSuffix.f
      rw [hS]
      simp only [Option.bind_some, z1, Int.natCast_one, hw, Int.toNat_natCast]
      rw [if_pos (show (0 : Int) ≤ ((s.size - 1 : Nat) : Int) by omega), if_pos (show ((s.size - 1 : Nat) : Int) ≤ (s.size : Int) by omega)]
      by_cases q : s.data.toList[s.size - 1] = 10
      · rw [if_pos q, q]
        rfl
      · rw [if_neg q, if_neg (fun z => q (by simpa using z))]
        rfl
    have hz : (if s.data.toList[s.size - 1] = 10 then s.extract 0 (s.size - 1) else s).size ≤ 1048576 := by
      split
      · rw [ByteArray.size_extract]
        omega
      · omega
    obtain ⟨r, hr, hl⟩ := hsp _ hz
    refine ⟨r, ?_, ?_⟩
    · unfold impl_SplitLines.f
      rw [Go.ByteArray.toList_eq, if_neg hn, hT, Option.bind_some, hr, Option.bind_some]
    · rw [hl]
      unfold linesL
      rw [if_neg hn, hgl]
      by_cases q : s.data.toList[s.size - 1] = 10
      · rw [if_pos q, if_pos (by rw [q])]
        congr 1
        rw [ByteArray.data_extract, Array.toList_extract, List.extract_eq_take_drop, List.dropLast_eq_take, hsz]
        rfl
      · rw [if_neg q, if_neg (fun z => q (Option.some.inj z))]
theorem data_inj {r1 r2 : List ByteArray} (h : r1.map (·.data.toList) = r2.map (·.data.toList)) : r1 = r2 := by
  induction r1 generalizing r2 with
  | nil =>
    cases r2 with
    | nil => rfl
    | cons b r2 => cases h
  | cons a r1 ih =>
    cases r2 with
    | nil => cases h
    | cons b r2 =>
      injection h with h1 h2
      rw [ih h2]
      congr 1
      have : a.data = b.data := Array.toList_inj.mp h1
      cases a
      cases b
      cases this
      rfl
theorem lines_both (s : ByteArray) (hs : s.size ≤ 1048576) : ∃ r, Ev (fun k => spec_SplitLines.f k s) r ∧ impl_SplitLines.f s = some r ∧ r.length ≤ 1048577 := by
  obtain ⟨r1, h1, e1⟩ := spec_lines s hs
  obtain ⟨r2, h2, e2⟩ := impl_lines s hs
  have e := data_inj (e1.trans e2.symm)
  subst e
  refine ⟨r1, h1, h2, ?_⟩
  have hsz : s.data.toList.length = s.size := by rw [Array.length_toList]; rfl
  have := linesL_length s.data.toList
  rw [← e1, List.length_map] at this
  omega
end SplitLines
open SplitLines in
theorem FnExactSplitLines : laws_FnExactSplitLines.Pure := by
  intro s _
  apply Ev.rounds
  unfold laws_FnExactSplitLines.f
  by_cases h : (s.size : Int) > 1048576
  · simp only [if_pos h]
    exact Ev.now true
  · simp only [if_neg h]
    obtain ⟨l, e1, e2, hlen⟩ := lines_both s (by omega)
    obtain ⟨r, hm, hh⟩ := marks_ev l (by omega)
    have q := eqStringS_ev l (by omega)
    simp only [e2, Option.bind_some]
    refine Ev.bind e1 (Ev.bind q ?_)
    refine Ev.congr (f := _) (fun k => by rw [if_pos rfl]) (Ev.bind hm (Ev.bind hh ?_))
    refine Ev.congr (f := _) (fun k => by rw [if_neg (show ¬ ((l.length + 1 : Nat) : Int) < 0 by omega), if_pos rfl]) (Ev.bind q ?_)
    refine Ev.congr (f := _) (fun k => by rw [if_pos rfl]) (Ev.bind hh ?_)
    exact Ev.congr (f := fun _ => some true) (fun k => by rw [if_neg (show ¬ ((l.length + 1 : Nat) : Int) < 0 by omega), if_pos rfl]) (Ev.now true)
end Go.Proofs.YthiooabcgkidbaaDoor.Pure
