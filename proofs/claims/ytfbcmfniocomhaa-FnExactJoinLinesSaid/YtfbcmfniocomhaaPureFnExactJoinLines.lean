/- FnExactJoinLines answers true for every list of lines: the program's JoinLines (strings.Builder) and the reference's (one string behind another) give the same text, and the argument stays as it was. Conditions: none beyond the statement's own. -/
import Derived.Test.YtfbcmfniocomhaaPFnExactJoinLinesx2
namespace Go.Proofs.Ytfbcmfniocomhaa.Pure
open Go.RowKit Go.Proofs.Ytfbcmfniocomhaa.PFnExactJoinLines Go.Proofs.YtfbcmfniocomhaaW.PrintWords Go.Proofs.YtfbcmfniocomhaaW.PrintLast Go.Proofs.YtfbcmfniocomhaaW.PrintMore
namespace JoinLines
theorem dat {α : Type} (l : List α) (i : Nat) (x : α) (s : List α) (h : l.drop i = x :: s) : i < l.length ∧ l[i]? = some x ∧ l.drop (i + 1) = s ∧ l.take (i + 1) = l.take i ++ [x] := by
  have h1 : i < l.length := by
    rcases Nat.lt_or_ge i l.length with h2 | h2
    · exact h2
    · rw [List.drop_eq_nil_of_le h2] at h
      cases h
  rw [List.drop_eq_getElem_cons h1] at h
  injection h with h2 h3
  refine ⟨h1, by rw [List.getElem?_eq_getElem h1, h2], h3, ?_⟩
  rw [List.take_add_one, List.getElem?_eq_getElem h1, h2]
  rfl
theorem dend {α : Type} (l : List α) (i : Nat) (h : l.drop i = []) : l.length ≤ i := by
  have := congrArg List.length h
  rw [List.length_drop] at this
  simp only [List.length_nil] at this
  omega
def tot : List S87 → Nat
  | [] => 0
  | x :: s => x.f1.size + tot s
theorem sz_loop (l : List S87) (hl : l.length ≤ 9223372036854775807) (s : List S87) : ∀ (i : Nat) (a : Int), l.drop i = s → (∀ y, y ∈ s → y.f1.size ≤ 9223372036854775807) → 0 ≤ a → a ≤ 1048576 →
    Ev (fun k => laws_szLineS.l0 k l a (i : Int)) (if (tot s : Int) ≤ a then a - (tot s : Int) else -1) := by
  induction s with
  | nil =>
    intro i a hd _ h0 h1
    have he := dend l i hd
    refine Ev.step (f := fun _ => some a) (fun k => ?_) (by
      rw [if_pos (show ((tot [] : Nat) : Int) ≤ a from h0)]
      have : a - ((tot [] : Nat) : Int) = a := by show a - 0 = a; omega
      rw [this]
      exact Ev.now a)
    simp only [laws_szLineS.l0]
    rw [if_neg (show ¬ (i : Int) < (l.length : Int) by omega)]
  | cons x s ih =>
    intro i a hd hy h0 h1
    obtain ⟨hlt, hx, hd', _⟩ := dat l i x s hd
    have hr : rd_T87 l (i : Int) = x := by
      unfold rd_T87
      rw [Int.toNat_natCast, List.getD_eq_getElem?_getD, hx]
      rfl
    have hxs := hy x List.mem_cons_self
    have hw : wrap64 (a - (x.f1.size : Int)) = a - (x.f1.size : Int) := by unfold wrap64; omega
    have hw2 : wrap64 ((i : Int) + 1) = ((i + 1 : Nat) : Int) := by unfold wrap64; omega
    have ht : tot (x :: s) = x.f1.size + tot s := rfl
    by_cases hn : a - (x.f1.size : Int) < 0
    · rw [if_neg (show ¬ ((tot (x :: s) : Nat) : Int) ≤ a by omega)]
      refine Ev.step (f := fun _ => some (-1)) (fun k => ?_) (Ev.now _)
      simp only [laws_szLineS.l0, hr]
      rw [if_pos (show (i : Int) < (l.length : Int) by omega), if_pos (show (0 : Int) ≤ (i : Int) by omega)]
      unfold laws_szLine.f
      rw [hw, if_pos hn]
      rfl
    · have q := ih (i + 1) (a - (x.f1.size : Int)) hd' (fun y h => hy y (List.mem_cons_of_mem _ h)) (by omega) (by omega)
      have e : (if (tot s : Int) ≤ a - (x.f1.size : Int) then a - (x.f1.size : Int) - (tot s : Int) else -1) = (if ((tot (x :: s) : Nat) : Int) ≤ a then a - ((tot (x :: s) : Nat) : Int) else -1) := by
        by_cases c : (tot s : Int) ≤ a - (x.f1.size : Int)
        · rw [if_pos c, if_pos (show ((tot (x :: s) : Nat) : Int) ≤ a by omega)]
          omega
        · rw [if_neg c, if_neg (show ¬ ((tot (x :: s) : Nat) : Int) ≤ a by omega)]
      rw [e] at q
      refine Ev.step (f := fun k => laws_szLineS.l0 k l (a - (x.f1.size : Int)) ((i + 1 : Nat) : Int)) (fun k => ?_) q
      simp only [laws_szLineS.l0, hr]
      rw [if_pos (show (i : Int) < (l.length : Int) by omega), if_pos (show (0 : Int) ≤ (i : Int) by omega)]
      unfold laws_szLine.f
      rw [hw, if_neg hn, Option.bind_some, if_neg hn, hw2]
theorem sz_ev (l : List S87) (hl : l.length ≤ 9223372036854775807) (hy : ∀ y, y ∈ l → y.f1.size ≤ 9223372036854775807) : ∃ r, Ev (fun k => laws_szLineS.f k l 1048576) r ∧ (r < 0 ∨ l.length + tot l ≤ 1048576) := by
  have hw : wrap64 (1048576 - (l.length : Int)) = 1048576 - (l.length : Int) := by unfold wrap64; omega
  unfold laws_szLineS.f
  rw [hw]
  by_cases hn : 1048576 - (l.length : Int) < 0
  · refine ⟨-1, ?_, .inl (by omega)⟩
    simp only [if_pos hn]
    exact Ev.now _
  · have q := sz_loop l hl l 0 (1048576 - (l.length : Int)) rfl hy (by omega) (by omega)
    simp only [if_neg hn]
    refine ⟨_, q, ?_⟩
    by_cases c : (tot l : Int) ≤ 1048576 - (l.length : Int)
    · right
      omega
    · left
      rw [if_neg c]
      omega
def cv (x : S87) : S88 := ⟨x.f0, x.f1⟩
theorem to_loop (l : List S87) (hl : l.length ≤ 1048576) (s : List S87) : ∀ i : Nat, l.drop i = s → i ≤ l.length → Ev (fun k => laws_toLineS.l0 k l ((l.take i).map cv ++ List.replicate s.length z88) (i : Int)) (l.map cv) := by
  induction s with
  | nil =>
    intro i hd hi
    have he := dend l i hd
    refine Ev.step (f := fun _ => some (l.map cv)) (fun k => ?_) (Ev.now _)
    simp only [laws_toLineS.l0]
    rw [if_neg (show ¬ (i : Int) < (l.length : Int) by omega), List.take_of_length_le he]
    simp
  | cons x s ih =>
    intro i hd hi
    obtain ⟨hlt, hx, hd', ht⟩ := dat l i x s hd
    have hr : rd_T87 l (i : Int) = x := by
      unfold rd_T87
      rw [Int.toNat_natCast, List.getD_eq_getElem?_getD, hx]
      rfl
    have hw2 : wrap64 ((i : Int) + 1) = ((i + 1 : Nat) : Int) := by unfold wrap64; omega
    have hA : ((l.take i).map cv).length = i := by rw [List.length_map, List.length_take]; omega
    have hL : ((l.take i).map cv ++ List.replicate (x :: s).length z88).length = l.length := by
      have := congrArg List.length hd
      rw [List.length_drop] at this
      rw [List.length_append, hA, List.length_replicate]
      omega
    have hset : ((l.take i).map cv ++ List.replicate (x :: s).length z88).set i ⟨x.f0, x.f1⟩ = (l.take (i + 1)).map cv ++ List.replicate s.length z88 := by
      rw [List.set_append, if_neg (show ¬ i < ((l.take i).map cv).length by omega), hA, Nat.sub_self, ht, List.map_append, List.append_assoc]
      rfl
    refine Ev.step (f := fun k => laws_toLineS.l0 k l ((l.take (i + 1)).map cv ++ List.replicate s.length z88) ((i + 1 : Nat) : Int)) (fun k => ?_) (ih (i + 1) hd' (by omega))
    simp only [laws_toLineS.l0, hr, laws_toLine.f, Option.bind_some, hL, Int.toNat_natCast, hset, hw2]
    rw [if_pos (show (i : Int) < (l.length : Int) by omega), if_pos (show (0 : Int) ≤ (i : Int) by omega), if_pos (show (i : Int) < (l.length : Int) by omega)]
theorem to_ev (l : List S87) (hl : l.length ≤ 1048576) : Ev (fun k => laws_toLineS.f k l) (l.map cv) := by
  refine Ev.congr (fun k => ?_) (to_loop l hl l 0 rfl (Nat.zero_le _))
  unfold laws_toLineS.f
  rw [if_pos (show (0 : Int) ≤ (l.length : Int) by omega), Int.toNat_natCast, if_pos (show l.length ≤ 11728124029610 by omega)]
  rfl
theorem joinL_cv (l : List S87) : (joinL (l.map cv)).length = l.length + tot l := by
  induction l with
  | nil => rfl
  | cons x l ih =>
    show (x.f1.data.toList ++ (10 :: joinL (l.map cv))).length = (l.length + 1) + (x.f1.size + tot l)
    have hs : x.f1.data.toList.length = x.f1.size := by rw [Array.length_toList]; rfl
    rw [List.length_append, List.length_cons, ih, hs]
    omega
theorem spec_loop (m : List S88) (hm : m.length ≤ 1048576) (s : List S88) : ∀ (i : Nat) (out : ByteArray), m.drop i = s → out.size + (joinL s).length ≤ 1048576 →
    ∃ r, Ev (fun k => spec_JoinLines.l0 k m out (i : Int)) r ∧ r.data.toList = out.data.toList ++ joinL s := by
  induction s with
  | nil =>
    intro i out hd _
    have he := dend m i hd
    refine ⟨out, Ev.step (f := fun _ => some out) (fun k => ?_) (Ev.now _), by simp [joinL]⟩
    simp only [spec_JoinLines.l0]
    rw [if_neg (show ¬ (i : Int) < (m.length : Int) by omega)]
  | cons x s ih =>
    intro i out hd hz
    obtain ⟨hlt, hx, hd', _⟩ := dat m i x s hd
    have hr : rd_T88 m (i : Int) = x := by
      unfold rd_T88
      rw [Int.toNat_natCast, List.getD_eq_getElem?_getD, hx]
      rfl
    have hw2 : wrap64 ((i : Int) + 1) = ((i + 1 : Nat) : Int) := by unfold wrap64; omega
    have hs : x.f1.data.toList.length = x.f1.size := by rw [Array.length_toList]; rfl
    have hj : joinL (x :: s) = x.f1.data.toList ++ (10 :: joinL s) := rfl
    rw [hj, List.length_append, List.length_cons, hs] at hz
    have h1 : (x.f1 ++ (⟨#[10]⟩ : ByteArray)).size = x.f1.size + 1 := by rw [ByteArray.size_append]; rfl
    obtain ⟨r, q, e⟩ := ih (i + 1) (out ++ (x.f1 ++ (⟨#[10]⟩ : ByteArray))) hd' (by rw [ByteArray.size_append, h1]; omega)
    refine ⟨r, Ev.step (f := fun k => spec_JoinLines.l0 k m (out ++ (x.f1 ++ (⟨#[10]⟩ : ByteArray))) ((i + 1 : Nat) : Int)) (fun k => ?_) q, ?_⟩
    · simp only [spec_JoinLines.l0, hr, hw2, h1]
      rw [if_pos (show (i : Int) < (m.length : Int) by omega), if_pos (show (0 : Int) ≤ (i : Int) by omega), if_pos (show x.f1.size + 1 ≤ 9223372036854775807 by omega), if_pos (show out.size + (x.f1.size + 1) ≤ 9223372036854775807 by omega)]
    · rw [e, hj, ByteArray.data_append, Array.toList_append, ByteArray.data_append, Array.toList_append]
      simp
theorem eq_loop (m : List S88) (hm : m.length ≤ 1048576) (d : Nat) : ∀ i : Nat, i + d = m.length → Ev (fun k => laws_eqLineS.l0 k m m (i : Int)) true := by
  induction d with
  | zero =>
    intro i hi
    refine Ev.step (f := fun _ => some true) (fun k => ?_) (Ev.now _)
    simp only [laws_eqLineS.l0]
    rw [if_neg (show ¬ (i : Int) < (m.length : Int) by omega)]
  | succ d ih =>
    intro i hi
    have hw2 : wrap64 ((i : Int) + 1) = ((i + 1 : Nat) : Int) := by unfold wrap64; omega
    refine Ev.step (f := fun k => laws_eqLineS.l0 k m m ((i + 1 : Nat) : Int)) (fun k => ?_) (ih (i + 1) (by omega))
    simp only [laws_eqLineS.l0, laws_eqLine.f, hw2]
    rw [if_pos (show (i : Int) < (m.length : Int) by omega), if_pos (show (0 : Int) ≤ (i : Int) by omega), if_pos (show (i : Int) < (m.length : Int) by omega), if_pos trivial, if_pos trivial, Option.bind_some, if_pos rfl]
theorem eq_ev (m : List S88) (hm : m.length ≤ 1048576) : Ev (fun k => laws_eqLineS.f k m m) true := by
  refine Ev.congr (fun k => ?_) (eq_loop m hm m.length 0 (by omega))
  unfold laws_eqLineS.f
  rw [if_pos rfl]
  rfl
end JoinLines
open JoinLines in
theorem FnExactJoinLines : laws_FnExactJoinLines.Pure := by
  intro l g
  apply Ev.rounds
  unfold laws_FnExactJoinLines.f
  obtain ⟨r, hr, hb⟩ := sz_ev l g.1 (fun y hy => by
    cases g.2 y hy with
    | mk _ h1 => exact h1)
  refine Ev.bind hr ?_
  by_cases c : r < 0
  · simp only [if_pos c]
    exact Ev.now true
  · have hz : l.length + tot l ≤ 1048576 := by
      rcases hb with h | h
      · exact absurd h c
      · exact h
    simp only [if_neg c]
    have ht := to_ev l (by omega)
    have hm : (l.map cv).length ≤ 1048576 := by rw [List.length_map]; omega
    have hj := joinL_cv l
    obtain ⟨r1, q1, e1⟩ := spec_loop (l.map cv) hm (l.map cv) 0 ⟨#[]⟩ rfl (by
      show 0 + _ ≤ 1048576
      omega)
    have hi : impl_JoinLines.f (l.map cv) = some ⟨(joinL (l.map cv)).toArray⟩ := by
      unfold impl_JoinLines.f
      rw [if_pos (show (joinL (l.map cv)).length ≤ 1000000000000 by omega)]
    have e : (⟨(joinL (l.map cv)).toArray⟩ : ByteArray).toList = r1.toList := by
      rw [Go.ByteArray.toList_eq, Go.ByteArray.toList_eq, e1]
      rfl
    refine Ev.bind ht (Ev.bind q1 (Ev.bind ht ?_))
    simp only [hi, Option.bind_some, if_pos e]
    refine Ev.bind ht (Ev.bind (eq_ev (l.map cv) hm) ?_)
    exact Ev.congr (f := fun _ => some true) (fun k => by rw [if_pos rfl]) (Ev.now true)
end Go.Proofs.Ytfbcmfniocomhaa.Pure
