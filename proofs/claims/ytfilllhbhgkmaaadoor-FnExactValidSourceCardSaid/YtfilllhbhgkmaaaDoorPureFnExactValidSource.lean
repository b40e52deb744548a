/- FnExactValidSource answers true for every string: the program's ValidSource (strings.ReplaceAll, strings.Split) and the reference's (a byte at a time) let in the same texts. Conditions: none beyond the statement's own. -/
import Derived.Test.YtfilllhbhgkmaaaDoorPFnExactValidSourcex2
import Derived.Lib.ReplaceLaws
namespace Go.Proofs.YtfilllhbhgkmaaaDoor.Pure
open Go.RowKit Go.Proofs.YtfilllhbhgkmaaaDoor.PFnExactValidSource Go.Proofs.YtfilllhbhgkmaaaDoorW.PrintWords Go.Proofs.YtfilllhbhgkmaaaDoorW.PrintLast Go.Proofs.YtfilllhbhgkmaaaDoorW.PrintMore
namespace ValidSource
-- the bytes of a string, one after another
theorem byt_at (s : ByteArray) (i : Nat) (c : Int) (l : List Int) (h : (bytesOf s).drop i = c :: l) : i < s.size ∧ bt s (i : Int) = c ∧ rd (bytesOf s) (i : Int) = c ∧ (bytesOf s).drop (i + 1) = l := by
  have h1 : i < (bytesOf s).length := by
    rcases Nat.lt_or_ge i (bytesOf s).length with h2 | h2
    · exact h2
    · rw [List.drop_eq_nil_of_le h2] at h
      cases h
  rw [List.drop_eq_getElem_cons h1] at h
  injection h with h2 h3
  have h4 : rd (bytesOf s) (i : Int) = c := by
    unfold rd
    rw [Int.toNat_natCast, List.getD_eq_getElem?_getD, List.getElem?_eq_getElem h1]
    exact h2
  refine ⟨by rw [← bytesOf_length]; exact h1, ?_, h4, h3⟩
  rw [← rd_bytesOf]
  exact h4
theorem byt_end (s : ByteArray) (i : Nat) (h : (bytesOf s).drop i = []) (hi : i ≤ s.size) : i = s.size := by
  have := congrArg List.length h
  rw [List.length_drop, bytesOf_length] at this
  simp at this
  omega
theorem wrapb (i n : Nat) (h : i < n) (hn : n ≤ 9223372036854775807) : wrap64 ((i : Int) + 1) = ((i + 1 : Nat) : Int) := by unfold wrap64; omega
-- plain texts: the program's isPlainText (behind Bytes)
def plainB (c : Int) : Bool := decide (32 ≤ c) && decide (c ≤ 126)
theorem impl_isPlain_ev (c : Int) : impl_isPlain.f c = some (plainB c) := by
  unfold impl_isPlain.f plainB
  by_cases h1 : 32 ≤ c <;> simp [h1]
theorem areAllPlain_loop (s : ByteArray) (hs : s.size ≤ 9223372036854775807) (l : List Int) : ∀ i : Nat, i ≤ s.size → (bytesOf s).drop i = l → Ev (fun k => impl_areAll_byte_at_impl_isPlain.l0 k (bytesOf s) (s.size : Int) (i : Int)) (l.all plainB) := by
  induction l with
  | nil =>
    intro i hi hd
    have h2 := byt_end s i hd hi
    refine Ev.step (f := fun _ => some true) (fun k => ?_) (by simpa using Ev.now true)
    simp only [impl_areAll_byte_at_impl_isPlain.l0]
    rw [if_neg (by omega)]
  | cons c l ih =>
    intro i hi hd
    obtain ⟨hlt, _, hb, hd'⟩ := byt_at s i c l hd
    rw [List.all_cons]
    cases hn : plainB c with
    | true =>
      rw [Bool.true_and]
      refine Ev.step (f := fun k => impl_areAll_byte_at_impl_isPlain.l0 k (bytesOf s) (s.size : Int) ((i + 1 : Nat) : Int)) (fun k => ?_) (ih (i + 1) (by omega) hd')
      simp only [impl_areAll_byte_at_impl_isPlain.l0]
      rw [if_pos (by omega), if_pos (by omega), if_pos (by rw [bytesOf_length]; omega), hb, impl_isPlain_ev, hn, wrapb i s.size hlt hs]
      rfl
    | false =>
      rw [Bool.false_and]
      refine Ev.step (f := fun _ => some false) (fun k => ?_) (Ev.now false)
      simp only [impl_areAll_byte_at_impl_isPlain.l0]
      rw [if_pos (by omega), if_pos (by omega), if_pos (by rw [bytesOf_length]; omega), hb, impl_isPlain_ev, hn]
      rfl
theorem impl_plainText (s : ByteArray) (hs : s.size ≤ 9223372036854775807) : Ev (fun k => impl_isPlainText.f k s) ((bytesOf s).all plainB) := by
  have r := areAllPlain_loop s hs (bytesOf s) 0 (by omega) rfl
  refine Ev.congr (f := fun k => (impl_areAll_byte_at_impl_isPlain.f k (bytesOf s)).bind fun t => some t) (fun k => ?_) (Ev.bind (Ev.congr (fun k => ?_) r) (Ev.now _))
  · unfold impl_isPlainText.f
    rw [if_pos hs]
  · unfold impl_areAll_byte_at_impl_isPlain.f
    rw [bytesOf_length]
    rfl
-- a text's lines: the reference's cuts and the program's strings.Split
/-- The parts between newlines; what stands before the first is cur. -/
def goL (cur : List UInt8) : List UInt8 → List (List UInt8)
  | [] => [cur]
  | c :: l => if c = 10 then cur :: goL [] l else goL (cur ++ [c]) l
theorem goL_hit (cur l : List UInt8) : goL cur (10 :: l) = cur :: goL [] l := by
  show (if (10 : UInt8) = 10 then cur :: goL [] l else goL (cur ++ [10]) l) = _
  rw [if_pos rfl]
theorem goL_miss (cur l : List UInt8) (c : UInt8) (h : ¬ c = 10) : goL cur (c :: l) = goL (cur ++ [c]) l := by
  show (if c = 10 then cur :: goL [] l else goL (cur ++ [c]) l) = _
  rw [if_neg h]
theorem goL_length (l : List UInt8) : ∀ cur, (goL cur l).length ≤ l.length + 1 := by
  induction l with
  | nil => intro cur; simp [goL]
  | cons c l ih =>
    intro cur
    by_cases h : c = 10
    · rw [h, goL_hit]
      have := ih []
      simp only [List.length_cons]
      omega
    · rw [goL_miss cur l c h]
      have := ih (cur ++ [c])
      simp only [List.length_cons]
      omega
theorem goL_pos (l : List UInt8) : ∀ cur, 1 ≤ (goL cur l).length := by
  induction l with
  | nil => intro cur; simp [goL]
  | cons c l ih =>
    intro cur
    by_cases h : c = 10
    · rw [h, goL_hit]
      simp
    · rw [goL_miss cur l c h]
      exact ih _
theorem goL_snoc (t : List UInt8) : ∀ cur, goL cur (t ++ [10]) = goL cur t ++ [[]] := by
  induction t with
  | nil =>
    intro cur
    show goL cur (10 :: []) = _
    rw [goL_hit]
    rfl
  | cons c t ih =>
    intro cur
    show goL cur (c :: (t ++ [10])) = _
    by_cases h : c = 10
    · rw [h, goL_hit, goL_hit, ih]
      rfl
    · rw [goL_miss _ _ _ h, goL_miss _ _ _ h, ih]
theorem goL_last (t : List UInt8) (c : UInt8) (hc : ¬ c = 10) : ∀ cur, ∃ ys x, goL cur (t ++ [c]) = ys ++ [x ++ [c]] := by
  induction t with
  | nil =>
    intro cur
    refine ⟨[], cur, ?_⟩
    show goL cur (c :: []) = _
    rw [goL_miss _ _ _ hc]
    rfl
  | cons d t ih =>
    intro cur
    show ∃ ys x, goL cur (d :: (t ++ [c])) = ys ++ [x ++ [c]]
    by_cases h : d = 10
    · rw [h, goL_hit]
      obtain ⟨ys, x, e⟩ := ih []
      exact ⟨cur :: ys, x, by rw [e]; rfl⟩
    · rw [goL_miss _ _ _ h]
      exact ih _
theorem split_go (l : List UInt8) : ∃ h t, Lib.splitK [10] 0 (Lib.count l [10]) l = h :: t ∧ ∀ cur, goL cur l = (cur ++ h) :: t := by
  induction l with
  | nil =>
    refine ⟨[], [], ?_, fun cur => by simp [goL]⟩
    rw [Lib.count_one]
    rfl
  | cons c l ih =>
    obtain ⟨h, t, e, hg⟩ := ih
    by_cases hc : c = 10
    · subst hc
      refine ⟨[], h :: t, ?_, fun cur => ?_⟩
      · have ei : Lib.index ((10 : UInt8) :: l) [10] = 0 := by
          rw [Lib.index_one]
          rfl
        rw [Lib.count_cons_eq, Nat.add_comm]
        show (if Lib.index ((10 : UInt8) :: l) [10] == -1 then [(10 : UInt8) :: l] else ((10 : UInt8) :: l).take ((Lib.index ((10 : UInt8) :: l) [10]).toNat + 0) :: Lib.splitK [10] 0 (Lib.count l [10]) (((10 : UInt8) :: l).drop ((Lib.index ((10 : UInt8) :: l) [10]).toNat + 1))) = _
        rw [ei, if_neg (show ¬ ((0 : Int) == -1) = true by decide)]
        show [] :: Lib.splitK [10] 0 (Lib.count l [10]) l = _
        rw [e]
      · rw [goL_hit, hg]
        simp
    · refine ⟨c :: h, t, ?_, fun cur => ?_⟩
      · rw [Lib.count_cons_ne c 10 l hc]
        cases hn : Lib.count l [10] with
        | zero =>
          rw [hn] at e
          injection (show [l] = h :: t from e) with e1 e2
          rw [← e1, ← e2]
          rfl
        | succ m =>
          rw [hn] at e
          obtain ⟨i, hi⟩ := Lib.index_of_count (s := l) (old := [10]) (by omega)
          have h1 : Lib.index (c :: l) [10] = ((i + 1 : Nat) : Int) := by
            rw [Lib.index_one] at hi ⊢
            show (if c == 10 then 0 else if Lib.indexByte l 10 == -1 then -1 else Lib.indexByte l 10 + 1) = _
            have q1 : ¬ (c == 10) = true := fun q => hc (beq_iff_eq.mp q)
            have q2 : ¬ (Lib.indexByte l 10 == -1) = true := fun q => by
              have := beq_iff_eq.mp q
              omega
            rw [if_neg q1, if_neg q2, hi]
            omega
          have hit : ∀ (s : List UInt8) (j : Nat), Lib.index s [10] = (j : Int) → Lib.splitK [10] 0 (m + 1) s = s.take j :: Lib.splitK [10] 0 m (s.drop (j + 1)) := by
            intro s j hj
            show (if Lib.index s [10] == -1 then [s] else s.take ((Lib.index s [10]).toNat + 0) :: Lib.splitK [10] 0 m (s.drop ((Lib.index s [10]).toNat + 1))) = _
            have q2 : ¬ (((j : Nat) : Int) == -1) = true := fun q => by
              have := beq_iff_eq.mp q
              omega
            rw [hj, if_neg q2]
            rfl
          rw [hit l i hi] at e
          injection e with e1 e2
          rw [hit (c :: l) (i + 1) h1, ← e1, ← e2]
          rfl
      · rw [goL_miss _ _ _ hc, hg]
        simp
theorem at_c (s : ByteArray) (i : Nat) (c : UInt8) (l : List UInt8) (h : s.data.toList.drop i = c :: l) : i < s.size ∧ bt s (i : Int) = (c.toNat : Int) ∧ s.data.toList.drop (i + 1) = l ∧ ∀ a, a ≤ i → (s.extract a (i + 1)).data.toList = (s.extract a i).data.toList ++ [c] := by
  have hl : s.data.toList.length = s.size := by rw [Array.length_toList]; rfl
  have h1 : i < s.data.toList.length := by
    rcases Nat.lt_or_ge i s.data.toList.length with h2 | h2
    · exact h2
    · rw [List.drop_eq_nil_of_le h2] at h
      cases h
  have h' := h
  rw [List.drop_eq_getElem_cons h1] at h'
  injection h' with h2 h3
  have h4 : i < s.size := by omega
  refine ⟨h4, ?_, h3, ?_⟩
  · unfold bt
    rw [dif_pos (show ((i : Int)).toNat < s.size by omega), ← h2]
    rfl
  · intro a ha
    rw [ByteArray.data_extract, Array.toList_extract, ByteArray.data_extract, Array.toList_extract, List.extract_eq_take_drop, List.extract_eq_take_drop, show i + 1 - a = (i - a) + 1 by omega]
    rw [List.take_add_one, List.getElem?_drop, show a + (i - a) = i by omega, List.getElem?_eq_getElem h1, h2]
    rfl
theorem cut_loop (s : ByteArray) (hs : s.size ≤ 1048576) (l : List UInt8) : ∀ (i a : Nat) (out : List ByteArray), s.data.toList.drop i = l → a ≤ i → i ≤ s.size → out.length ≤ i →
    ∃ r, Ev (fun k => spec_l01Cut.l0 k s 10 out (a : Int) (i : Int)) r ∧ r.map (·.data.toList) = out.map (·.data.toList) ++ goL (s.extract a i).data.toList l := by
  induction l with
  | nil =>
    intro i a out hd ha hi ho
    have hl : s.data.toList.length = s.size := by rw [Array.length_toList]; rfl
    have h2 : s.size ≤ i := by
      have := congrArg List.length hd
      rw [List.length_drop] at this
      simp only [List.length_nil] at this
      omega
    have hh : i = s.size := by omega
    refine ⟨out ++ [s.extract a s.size], Ev.step (f := fun _ => some (out ++ [s.extract a s.size])) (fun k => ?_) (Ev.now _), ?_⟩
    · simp only [spec_l01Cut.l0]
      rw [if_neg (show ¬ (i : Int) < (s.size : Int) by omega), if_pos (show (0 : Int) ≤ (a : Int) by omega), if_pos (show (a : Int) ≤ (s.size : Int) by omega), if_pos (show out.length < 8796093022208 by omega), Int.toNat_natCast]
    · rw [hh, List.map_append]
      rfl
  | cons c l ih =>
    intro i a out hd ha hi ho
    obtain ⟨hlt, hb, hd', he⟩ := at_c s i c l hd
    have hw : wrap64 ((i : Int) + 1) = ((i + 1 : Nat) : Int) := by unfold wrap64; omega
    by_cases h : c = 10
    · have hc : bt s (i : Int) = 10 := by rw [hb, h]; rfl
      obtain ⟨r, hr, hl⟩ := ih (i + 1) (i + 1) (out ++ [s.extract a i]) hd' (by omega) (by omega) (by simp; omega)
      refine ⟨r, Ev.step (f := fun k => spec_l01Cut.l0 k s 10 (out ++ [s.extract a i]) ((i + 1 : Nat) : Int) ((i + 1 : Nat) : Int)) (fun k => ?_) hr, ?_⟩
      · simp only [spec_l01Cut.l0, hw, Int.toNat_natCast]
        rw [if_pos (show (i : Int) < (s.size : Int) by omega), if_pos (show (0 : Int) ≤ (i : Int) by omega), if_pos hc, if_pos (show (0 : Int) ≤ (a : Int) by omega), if_pos (show (a : Int) ≤ (i : Int) by omega), if_pos (show (i : Int) ≤ (s.size : Int) by omega), if_pos (show out.length < 8796093022208 by omega)]
      · have e0 : (s.extract (i + 1) (i + 1)).data.toList = [] := by
          rw [ByteArray.data_extract, Array.toList_extract, List.extract_eq_take_drop, show i + 1 - (i + 1) = 0 by omega]
          rfl
        rw [hl, h, goL_hit, e0, List.map_append]
        simp
    · have hc : ¬ bt s (i : Int) = 10 := by
        rw [hb]
        intro q
        apply h
        apply UInt8.toNat_inj.mp
        show c.toNat = 10
        omega
      obtain ⟨r, hr, hl⟩ := ih (i + 1) a out hd' (by omega) (by omega) (by omega)
      refine ⟨r, Ev.step (f := fun k => spec_l01Cut.l0 k s 10 out (a : Int) ((i + 1 : Nat) : Int)) (fun k => ?_) hr, ?_⟩
      · simp only [spec_l01Cut.l0, hw]
        rw [if_pos (show (i : Int) < (s.size : Int) by omega), if_pos (show (0 : Int) ≤ (i : Int) by omega), if_neg hc]
      · rw [hl, he a ha, goL_miss _ _ _ h]
/-- A text's lines. -/
def linesL (l : List UInt8) : List (List UInt8) := if l = [] then [] else if l.getLast? = some 10 then goL [] l.dropLast else goL [] l
theorem linesL_length (l : List UInt8) : (linesL l).length ≤ l.length + 1 := by
  unfold linesL
  split
  · simp
  · split
    · have := goL_length l.dropLast []
      rw [List.length_dropLast] at this
      omega
    · exact goL_length l []
theorem spec_lines (s : ByteArray) (hs : s.size ≤ 1048576) : ∃ r, Ev (fun k => spec_SplitLines.f k s) r ∧ r.map (·.data.toList) = linesL s.data.toList := by
  obtain ⟨r, hr, hl⟩ := cut_loop s hs s.data.toList 0 0 [] rfl (by omega) (by omega) (by simp)
  have e0 : (s.extract 0 0).data.toList = [] := by
    rw [ByteArray.data_extract, Array.toList_extract, List.extract_eq_take_drop]
    rfl
  rw [e0, List.map_nil, List.nil_append] at hl
  have hsz : s.data.toList.length = s.size := by rw [Array.length_toList]; rfl
  have hlen : r.length = (goL [] s.data.toList).length := by rw [← hl, List.length_map]
  have h1 := goL_length s.data.toList []
  have h2 := goL_pos s.data.toList []
  have hw : wrap64 ((r.length : Int) - 1) = ((r.length - 1 : Nat) : Int) := by unfold wrap64; omega
  have hx : r.length - 1 < r.length := by omega
  have hrd : rdOf ByteArray.empty r ((r.length - 1 : Nat) : Int) = r[r.length - 1] := by
    unfold rdOf
    rw [Int.toNat_natCast, List.getD_eq_getElem?_getD, List.getElem?_eq_getElem hx]
    rfl
  have hlast : r[r.length - 1].data.toList = (goL [] s.data.toList)[(goL [] s.data.toList).length - 1]'(by omega) := by
    have q : (r.map (·.data.toList))[r.length - 1]? = some (r[r.length - 1].data.toList) := by
      rw [List.getElem?_map, List.getElem?_eq_getElem hx]
      rfl
    rw [hl] at q
    have q2 : (goL [] s.data.toList)[(goL [] s.data.toList).length - 1]? = some (r[r.length - 1].data.toList) := by
      rw [← hlen]
      exact q
    rw [List.getElem?_eq_getElem (by omega)] at q2
    exact (Option.some.inj q2).symm
  have key : ∀ (p : Prop) [Decidable p], ((r[r.length - 1].data.toList = []) ↔ p) → Ev (fun k => spec_SplitLines.f k s) (if p then r.take (r.length - 1) else r) := by
    intro p _ hp
    unfold spec_SplitLines.f
    refine Ev.bind (a := r) hr ?_
    simp only [hw, hrd, Int.toNat_natCast, Go.ByteArray.toList_eq]
    rw [if_pos (show (0 : Int) ≤ ((r.length - 1 : Nat) : Int) by omega), if_pos (show ((r.length - 1 : Nat) : Int) < (r.length : Int) by omega), if_pos (show ((r.length - 1 : Nat) : Int) ≤ (r.length : Int) by omega)]
    by_cases q : p
    · rw [if_pos (hp.mpr q), if_pos q]
      exact Ev.now _
    · rw [if_neg (fun z => q (hp.mp z)), if_neg q]
      exact Ev.now _
  rcases List.eq_nil_or_concat s.data.toList with hn | ⟨t, c, hn⟩
  · refine ⟨_, key True ⟨fun _ => trivial, fun _ => ?_⟩, ?_⟩
    · rw [hlast]
      simp only [hn]
      rfl
    · rw [if_pos trivial, List.map_take, hl, hlen, hn]
      rfl
  · rw [List.concat_eq_append] at hn
    have nn : ¬ (t ++ [c] = []) := by simp
    by_cases hc : c = 10
    · subst hc
      refine ⟨_, key True ⟨fun _ => trivial, fun _ => ?_⟩, ?_⟩
      · rw [hlast]
        simp only [hn, goL_snoc]
        simp
      · rw [if_pos trivial, List.map_take, hl, hlen, hn, goL_snoc]
        unfold linesL
        rw [if_neg nn, if_pos (by simp), List.dropLast_concat]
        simp
    · obtain ⟨ys, x, he⟩ := goL_last t c hc []
      refine ⟨_, key False ⟨fun q => ?_, fun q => q.elim⟩, ?_⟩
      · rw [hlast] at q
        simp only [hn, he] at q
        simp at q
      · rw [if_neg (fun q => q), hl, hn]
        unfold linesL
        rw [if_neg nn, if_neg (by simpa using hc)]
theorem impl_lines (s : ByteArray) (hs : s.size ≤ 1048576) : ∃ r, impl_SplitLines.f s = some r ∧ r.map (·.data.toList) = linesL s.data.toList := by
  have hsz : s.data.toList.length = s.size := by rw [Array.length_toList]; rfl
  have z1 : (⟨#[10]⟩ : ByteArray).size = 1 := rfl
  have b1 : (⟨#[10]⟩ : ByteArray).toList = [10] := by rw [Go.ByteArray.toList_eq]
  by_cases hn : s.data.toList = []
  · refine ⟨[], ?_, ?_⟩
    · unfold impl_SplitLines.f
      rw [Go.ByteArray.toList_eq, if_pos hn]
    · rw [hn]
      rfl
  · have hp : 1 ≤ s.size := by
      rw [← hsz]
      exact List.length_pos_iff.mpr hn
    have hsp : ∀ t : ByteArray, t.size ≤ 1048576 → ∃ r, strings_Split.f t (⟨#[10]⟩ : ByteArray) = some r ∧ r.map (·.data.toList) = goL [] t.data.toList := by
      intro t ht
      refine ⟨Lib.splitB (⟨#[10]⟩ : ByteArray) 0 (Lib.countB t (⟨#[10]⟩ : ByteArray)) t, ?_, ?_⟩
      · unfold strings_Split.f
        rw [z1, if_pos (show t.size < 4294967281 by omega), if_pos (Nat.le_refl 1)]
      · rw [Lib.splitB_data]
        obtain ⟨h, r, e, hg⟩ := split_go t.data.toList
        rw [hg]
        show Lib.splitK [10] 0 (Lib.count t.data.toList [10]) t.data.toList = _
        rw [e]
        rfl
    have hw : wrap64 ((s.size : Int) - 1) = ((s.size - 1 : Nat) : Int) := by unfold wrap64; omega
    have hx : s.size - 1 < s.data.toList.length := by omega
    have he : (s.extract (s.size - 1) s.size).data.toList = [s.data.toList[s.size - 1]] := by
      rw [ByteArray.data_extract, Array.toList_extract, List.extract_eq_take_drop, List.drop_eq_getElem_cons hx, show s.size - (s.size - 1) = 1 by omega]
      rfl
    have hgl : s.data.toList.getLast? = some s.data.toList[s.size - 1] := by
      rw [List.getLast?_eq_getElem?, hsz, List.getElem?_eq_getElem hx]
    have hT : strings_TrimSuffix.f s (⟨#[10]⟩ : ByteArray) = some (if s.data.toList[s.size - 1] = 10 then s.extract 0 (s.size - 1) else s) := by
      have hS : stringslite_HasSuffix.f s (⟨#[10]⟩ : ByteArray) = some ([s.data.toList[s.size - 1]] == [10]) := by
        unfold stringslite_HasSuffix.f
        simp only [z1, b1, Int.natCast_one, hw, Int.toNat_natCast]
        rw [if_pos (show (s.size : Int) ≥ 1 by omega), if_pos (show (0 : Int) ≤ ((s.size - 1 : Nat) : Int) by omega), if_pos (show ((s.size - 1 : Nat) : Int) ≤ (s.size : Int) by omega), Go.ByteArray.toList_eq, he]
      unfold strings_TrimSuffix.f stringslite_TrimSuffix.f
      rw [hS]
      simp only [Option.bind_some, z1, Int.natCast_one, hw, Int.toNat_natCast]
      rw [if_pos (show (0 : Int) ≤ ((s.size - 1 : Nat) : Int) by omega), if_pos (show ((s.size - 1 : Nat) : Int) ≤ (s.size : Int) by omega)]
      by_cases q : s.data.toList[s.size - 1] = 10
      · rw [if_pos q, q]
        rfl
      · rw [if_neg q, if_neg (fun z => q (by simpa using z))]
        rfl
    have hz : (if s.data.toList[s.size - 1] = 10 then s.extract 0 (s.size - 1) else s).size ≤ 1048576 := by
      split
      · rw [ByteArray.size_extract]
        omega
      · omega
    obtain ⟨r, hr, hl⟩ := hsp _ hz
    refine ⟨r, ?_, ?_⟩
    · unfold impl_SplitLines.f
      rw [Go.ByteArray.toList_eq, if_neg hn, hT, Option.bind_some, hr, Option.bind_some]
    · rw [hl]
      unfold linesL
      rw [if_neg hn, hgl]
      by_cases q : s.data.toList[s.size - 1] = 10
      · rw [if_pos q, if_pos (by rw [q])]
        congr 1
        rw [ByteArray.data_extract, Array.toList_extract, List.extract_eq_take_drop, List.dropLast_eq_take, hsz]
        rfl
      · rw [if_neg q, if_neg (fun z => q (Option.some.inj z))]
theorem data_inj {r1 r2 : List ByteArray} (h : r1.map (·.data.toList) = r2.map (·.data.toList)) : r1 = r2 := by
  induction r1 generalizing r2 with
  | nil =>
    cases r2 with
    | nil => rfl
    | cons b r2 => cases h
  | cons a r1 ih =>
    cases r2 with
    | nil => cases h
    | cons b r2 =>
      injection h with h1 h2
      rw [ih h2]
      congr 1
      have : a.data = b.data := Array.toList_inj.mp h1
      cases a
      cases b
      cases this
      rfl
theorem lines_both (s : ByteArray) (hs : s.size ≤ 1048576) : ∃ r, Ev (fun k => spec_SplitLines.f k s) r ∧ impl_SplitLines.f s = some r ∧ r.length ≤ 1048577 := by
  obtain ⟨r1, h1, e1⟩ := spec_lines s hs
  obtain ⟨r2, h2, e2⟩ := impl_lines s hs
  have e := data_inj (e1.trans e2.symm)
  subst e
  refine ⟨r1, h1, h2, ?_⟩
  have hsz : s.data.toList.length = s.size := by rw [Array.length_toList]; rfl
  have := linesL_length s.data.toList
  rw [← e1, List.length_map] at this
  omega
theorem spec_printN_loop (s : ByteArray) (hs : s.size ≤ 9223372036854775807) (l : List Int) : ∀ i : Nat, i ≤ s.size → (bytesOf s).drop i = l → Ev (fun k => spec_l01Printable.l0 k s true (i : Int)) (l.all fun c => c == 10 || plainB c) := by
  induction l with
  | nil =>
    intro i hi hd
    have h2 := byt_end s i hd hi
    refine Ev.step (f := fun _ => some true) (fun k => ?_) (by simpa using Ev.now true)
    simp only [spec_l01Printable.l0]
    rw [if_neg (show ¬ (i : Int) < (s.size : Int) by omega)]
  | cons c l ih =>
    intro i hi hd
    obtain ⟨hlt, hb, _, hd'⟩ := byt_at s i c l hd
    have go := ih (i + 1) (by omega) hd'
    have hw := wrapb i s.size hlt hs
    rw [List.all_cons]
    have g1 : (i : Int) < (s.size : Int) := by omega
    have g2 : (0 : Int) ≤ (i : Int) := by omega
    by_cases h10 : c = 10
    · rw [beq_iff_eq.mpr h10, Bool.true_or, Bool.true_and]
      refine Ev.step (f := fun k => spec_l01Printable.l0 k s true ((i + 1 : Nat) : Int)) (fun k => ?_) go
      simp only [spec_l01Printable.l0]
      rw [if_pos g1, if_pos g2, hb, if_pos (show c < 32 by omega), if_pos trivial, if_pos h10, hw]
    · rw [beq_eq_false_iff_ne.mpr h10, Bool.false_or]
      by_cases h1 : c < 32
      · rw [show plainB c = false by unfold plainB; rw [decide_eq_false (show ¬ 32 ≤ c by omega), Bool.false_and], Bool.false_and]
        refine Ev.step (f := fun _ => some false) (fun k => ?_) (Ev.now false)
        simp only [spec_l01Printable.l0]
        rw [if_pos g1, if_pos g2, hb, if_pos h1, if_pos trivial, if_neg h10]
      · by_cases h2 : c > 126
        · rw [show plainB c = false by unfold plainB; rw [decide_eq_false (show ¬ c ≤ 126 by omega), Bool.and_false], Bool.false_and]
          refine Ev.step (f := fun _ => some false) (fun k => ?_) (Ev.now false)
          simp only [spec_l01Printable.l0]
          rw [if_pos g1, if_pos g2, hb, if_neg h1, if_pos h2, if_pos trivial, if_neg h10]
        · rw [show plainB c = true by unfold plainB; rw [decide_eq_true (show 32 ≤ c by omega), decide_eq_true (show c ≤ 126 by omega)]; rfl, Bool.true_and]
          refine Ev.step (f := fun k => spec_l01Printable.l0 k s true ((i + 1 : Nat) : Int)) (fun k => ?_) go
          simp only [spec_l01Printable.l0]
          rw [if_pos g1, if_pos g2, hb, if_neg h1, if_neg h2, hw]
theorem rep0 : ∀ l : List UInt8, Lib.replaceK [10] [] (Lib.count l [10]) l = l.filter (fun c => !(c == 10))
  | [] => by
    rw [Lib.count_one]
    rfl
  | c :: l => by
    have ih := rep0 l
    by_cases h : c = 10
    · subst h
      have e : Lib.index ((10 : UInt8) :: l) [10] = ((0 : Nat) : Int) := by
        rw [Lib.index_one]
        rfl
      rw [Lib.count_cons_eq, Nat.add_comm, Lib.replaceK_hit _ _ _ _ 0 e]
      show [] ++ [] ++ Lib.replaceK [10] [] (Lib.count l [10]) l = _
      rw [ih]
      rfl
    · have hq : (!(c == 10)) = true := by simp [h]
      rw [Lib.count_cons_ne c 10 l h, List.filter_cons, if_pos hq]
      cases hn : Lib.count l [10] with
      | zero =>
        rw [hn] at ih
        rw [← ih]
        rfl
      | succ m =>
        rw [hn] at ih
        obtain ⟨i, hi⟩ := Lib.index_of_count (s := l) (old := [10]) (by omega)
        have h1 : Lib.index (c :: l) [10] = ((i + 1 : Nat) : Int) := by
          rw [Lib.index_one] at hi ⊢
          show (if c == 10 then 0 else if Lib.indexByte l 10 == -1 then -1 else Lib.indexByte l 10 + 1) = _
          have q1 : ¬ (c == 10) = true := fun q => h (beq_iff_eq.mp q)
          have q2 : ¬ (Lib.indexByte l 10 == -1) = true := fun q => by
            have := beq_iff_eq.mp q
            omega
          rw [if_neg q1, if_neg q2, hi]
          omega
        rw [Lib.replaceK_hit _ _ _ _ i hi] at ih
        rw [Lib.replaceK_hit _ _ _ _ (i + 1) h1, ← ih]
        rfl
theorem all_left (l : List UInt8) : ((l.filter (fun c => !(c == 10))).map (fun b : UInt8 => (b.toNat : Int))).all plainB = (l.map (fun b : UInt8 => (b.toNat : Int))).all (fun c => c == 10 || plainB c) := by
  induction l with
  | nil => rfl
  | cons c l ih =>
    rw [List.map_cons, List.all_cons, ← ih, List.filter_cons]
    by_cases h : c = 10
    · rw [h]
      rfl
    · have hq : (!(c == 10)) = true := by simp [h]
      have hn : ¬ ((c.toNat : Int) = 10) := by
        intro q
        apply h
        apply UInt8.toNat_inj.mp
        show c.toNat = 10
        omega
      rw [if_pos hq, List.map_cons, List.all_cons, beq_eq_false_iff_ne.mpr hn, Bool.false_or]
theorem rep_nl (s : ByteArray) (hs : s.size ≤ 4000) : ∃ r, strings_ReplaceAll.f s (⟨#[10]⟩ : ByteArray) (⟨#[]⟩ : ByteArray) = some r ∧ r.size ≤ 4000 ∧ (bytesOf r).all plainB = (bytesOf s).all (fun c => c == 10 || plainB c) := by
  have er : Lib.replaceAll s.data.toList (⟨#[10]⟩ : ByteArray).data.toList (⟨#[]⟩ : ByteArray).data.toList = s.data.toList.filter (fun c => !(c == 10)) := by
    show (if ([10] : List UInt8) == [] then s.data.toList else Lib.replaceK [10] [] (Lib.replaceNum s.data.toList [10] (-1)) s.data.toList) = _
    rw [if_neg (show ¬ (([10] : List UInt8) == []) = true by decide)]
    unfold Lib.replaceNum
    rw [if_pos (Or.inl (show (-1 : Int) < 0 by omega)), rep0]
  have hl : s.data.toList.length = s.size := by rw [Array.length_toList]; rfl
  have hf := List.length_filter_le (fun c : UInt8 => !(c == 10)) s.data.toList
  refine ⟨⟨(s.data.toList.filter (fun c => !(c == 10))).toArray⟩, ?_, ?_, ?_⟩
  · unfold strings_ReplaceAll.f
    have z1 : (⟨#[10]⟩ : ByteArray).size = 1 := rfl
    have z0 : (⟨#[]⟩ : ByteArray).size = 0 := rfl
    rw [z1, z0, Nat.mul_zero, Nat.add_zero, if_pos (show s.size < 4294967281 by omega), if_pos (Nat.le_refl 1), if_pos (show s.size ≤ 140737488355328 by omega), er]
  · show (s.data.toList.filter (fun c => !(c == 10))).toArray.size ≤ 4000
    simp only [List.size_toArray]
    omega
  · unfold bytesOf
    exact all_left s.data.toList
theorem spec_ps (s : ByteArray) (l : List ByteArray) (h : s.size ≤ 4000 → Ev (fun k => spec_SplitLines.f k s) l) : Ev (fun k => spec_ValidSource.f k s) (decide (s.size ≤ 4000) && ((bytesOf s).all (fun c => c == 10 || plainB c) && decide ((l.length : Int) ≤ 120))) := by
  unfold spec_ValidSource.f
  by_cases hs : s.size ≤ 4000
  · simp only [if_pos (show (s.size : Int) ≤ 4000 by omega)]
    rw [decide_eq_true hs, Bool.true_and]
    refine Ev.bind (Ev.congr (f := fun k => spec_l01Printable.l0 k s true ((0 : Nat) : Int)) (fun k => by unfold spec_l01Printable.f; rfl) (spec_printN_loop s (by omega) (bytesOf s) 0 (by omega) rfl)) ?_
    cases (bytesOf s).all (fun c => c == 10 || plainB c) with
    | false => exact Ev.congr (f := fun _ => some false) (fun k => by rw [if_neg (by simp)]) (Ev.now false)
    | true =>
      simp only [if_true, Bool.true_and]
      exact Ev.bind (h hs) (Ev.now _)
  · simp only [if_neg (show ¬ (s.size : Int) ≤ 4000 by omega)]
    rw [decide_eq_false hs, Bool.false_and]
    exact Ev.now false
theorem impl_ps (s : ByteArray) (l : List ByteArray) (h : s.size ≤ 4000 → impl_SplitLines.f s = some l) : Ev (fun k => impl_ValidSource.f k s) (decide (s.size ≤ 4000) && ((bytesOf s).all (fun c => c == 10 || plainB c) && decide ((l.length : Int) ≤ 120))) := by
  unfold impl_ValidSource.f
  by_cases hs : s.size ≤ 4000
  · simp only [if_pos (show (s.size : Int) ≤ 4000 by omega)]
    rw [decide_eq_true hs, Bool.true_and]
    obtain ⟨r, hr, hz, ha⟩ := rep_nl s hs
    simp only [hr, Option.bind_some, h hs]
    rw [← ha]
    refine Ev.bind (impl_plainText r (by omega)) ?_
    cases (bytesOf r).all plainB with
    | false => exact Ev.congr (f := fun _ => some false) (fun k => by rw [if_neg (by simp)]) (Ev.now false)
    | true =>
      simp only [if_true, Bool.true_and]
      exact Ev.now _
  · simp only [if_neg (show ¬ (s.size : Int) ≤ 4000 by omega)]
    rw [decide_eq_false hs, Bool.false_and]
    exact Ev.now false
end ValidSource
open ValidSource in
theorem FnExactValidSource : laws_FnExactValidSource.Pure := by
  intro s _
  apply Ev.rounds
  unfold laws_FnExactValidSource.f
  by_cases h : (s.size : Int) > 1048576
  · simp only [if_pos h]
    exact Ev.now true
  · simp only [if_neg h]
    obtain ⟨l, e1, e2, hlen⟩ := lines_both s (by omega)
    refine Ev.bind (spec_ps s l (fun _ => e1)) (Ev.bind (impl_ps s l (fun _ => e2)) ?_)
    exact Ev.congr (f := fun _ => some true) (fun k => by rw [if_neg (by simp)]) (Ev.now true)
end Go.Proofs.YtfilllhbhgkmaaaDoor.Pure
