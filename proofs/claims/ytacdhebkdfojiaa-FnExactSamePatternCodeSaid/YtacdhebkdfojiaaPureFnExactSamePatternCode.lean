/- FnExactSamePatternCode answers true for every two codes: the program's SamePatternCode (slices.Equal twice) and the reference's (lengths, then two loops) agree, and the arguments read as before. Conditions: none beyond the statement's own. -/
import Derived.Test.YtacdhebkdfojiaaPFnExactSamePatternCodex7
namespace Go.Proofs.Ytacdhebkdfojiaa.Pure
open Go.RowKit Go.Proofs.Ytacdhebkdfojiaa.PFnExactSamePatternCode Go.Proofs.YtacdhebkdfojiaaW.PrintWords Go.Proofs.YtacdhebkdfojiaaW.PrintLast
namespace SamePatternCode
-- printed by wip/gen/conv.py =PatternIns =PatternEntry PatternCode!
theorem ev_ex {α β : Type} {E : Nat → Option α} {R : Nat → α → Option β} {Q : β → Prop} {a : α} (h : Ev E a) (h2 : ∃ r, Ev (fun k => R k a) r ∧ Q r) : ∃ r, Ev (fun k => (E k).bind (R k)) r ∧ Q r := by
  obtain ⟨r, h3, h4⟩ := h2
  exact ⟨r, Ev.bind h h3, h4⟩
theorem drop_at {α : Type} (l : List α) (i : Nat) (x : α) (s : List α) (h : l.drop i = x :: s) : i < l.length ∧ l[i]? = some x ∧ l.drop (i + 1) = s := by
  have h1 : i < l.length := by
    rcases Nat.lt_or_ge i l.length with h2 | h2
    · exact h2
    · rw [List.drop_eq_nil_of_le h2] at h
      cases h
  rw [List.drop_eq_getElem_cons h1] at h
  injection h with h2 h3
  exact ⟨h1, by rw [List.getElem?_eq_getElem h1, h2], h3⟩
theorem drop_end {α : Type} (l : List α) (i : Nat) (h : l.drop i = []) (hi : i ≤ l.length) : i = l.length := by
  have := congrArg List.length h
  simp at this
  omega
theorem wrapl (i n : Nat) (h : i < n) (hn : n ≤ 9223372036854775807) : wrap64 ((i : Int) + 1) = ((i + 1 : Nat) : Int) := by unfold wrap64; omega
def nePatternIns (y z : S91) : Bool := (!((y.f0) == (z.f0)) || (!((y.f1) == (z.f1)) || (!((y.f2.toList) == (z.f2.toList)))))
def samePatternInsS : List S91 → List S91 → Bool
  | [], _ => true
  | _ :: _, [] => true
  | y :: s, z :: t => !nePatternIns y z && samePatternInsS s t
def nePatternEntry (y z : S93) : Bool := (!((y.f0.toList) == (z.f0.toList)) || (!((y.f1) == (z.f1))))
def samePatternEntryS : List S93 → List S93 → Bool
  | [], _ => true
  | _ :: _, [] => true
  | y :: s, z :: t => !nePatternEntry y z && samePatternEntryS s t
def convPatternIns (x : S111) : S91 := ⟨x.f0, x.f1, x.f2⟩
theorem szPatternIns_ev (x : S111) (g : G111 x) (left : Int) (hl0 : 0 ≤ left) (hl1 : left ≤ 1048576) : ∃ r, Ev (fun _ => laws_szPatternIns.f x.f0 x.f1 x.f2 left) r ∧ (r < 0 ∨ (0 ≤ r ∧ r ≤ left)) := by
  obtain ⟨h0, h1, h2⟩ := g
  unfold laws_szPatternIns.f
  have w0 : wrap64 (left - (x.f2.size : Int)) = left - (x.f2.size : Int) := by unfold wrap64; omega
  simp only [w0]
  by_cases c0 : left - (x.f2.size : Int) < 0
  · simp only [if_pos c0]
    exact ⟨-1, Ev.now _, Or.inl (by omega)⟩
  simp only [if_neg c0]
  exact ⟨_, Ev.now _, Or.inr ⟨by omega, by omega⟩⟩
theorem toPatternIns_ev (x : S111) : Ev (fun _ => laws_toPatternIns.f x.f0 x.f1 x.f2) ((convPatternIns x).f0, (convPatternIns x).f1, (convPatternIns x).f2) := by
  unfold laws_toPatternIns.f
  exact Ev.now _
theorem eqPatternIns_ev (x : S91) : Ev (fun _ => laws_eqPatternIns.f x.f0 x.f1 x.f2 x.f0 x.f1 x.f2) true := by
  unfold laws_eqPatternIns.f
  try simp only [if_true]
  exact Ev.now _
theorem rdaPatternIns (l : List S111) (i : Nat) (x : S111) (h : l[i]? = some x) : rd_T111 l (i : Int) = x := by
  unfold rd_T111
  rw [List.getD_eq_getElem?_getD, Int.toNat_natCast, h]
  rfl
theorem rdbPatternIns (l : List S91) (i : Nat) (x : S91) (h : l[i]? = some x) : rd_T91 l (i : Int) = x := by
  unfold rd_T91
  rw [List.getD_eq_getElem?_getD, Int.toNat_natCast, h]
  rfl
theorem szPatternInsS_loop (l : List S111) (hl : l.length ≤ 9223372036854775807) (s : List S111) : ∀ (i : Nat) (left : Int), i ≤ l.length → l.drop i = s → (∀ y, y ∈ s → G111 y) → 0 ≤ left → left ≤ 1048576 →
    ∃ r, Ev (fun k => laws_szPatternInsS.l0 k l left (i : Int)) r ∧ (r < 0 ∨ (0 ≤ r ∧ r ≤ left)) := by
  induction s with
  | nil =>
    intro i left hi hd _ h0 h1
    have := drop_end l i hd hi
    refine ⟨left, Ev.step (f := fun _ => some left) (fun k => ?_) (Ev.now _), Or.inr ⟨h0, by omega⟩⟩
    simp only [laws_szPatternInsS.l0]
    rw [if_neg (by omega)]
  | cons y s ih =>
    intro i left hi hd hy h0 h1
    obtain ⟨hlt, hx, hd'⟩ := drop_at l i y s hd
    have hrd := rdaPatternIns l i y hx
    obtain ⟨r1, e1, c1 | ⟨p1, q1⟩⟩ := szPatternIns_ev y (hy y List.mem_cons_self) left h0 h1
    · refine ⟨-1, Ev.step (f := fun k => (laws_szPatternIns.f y.f0 y.f1 y.f2 left).bind fun t => if t < 0 then some (-1) else laws_szPatternInsS.l0 k l t ((i + 1 : Nat) : Int)) (fun k => ?_) (Ev.bind e1 (Ev.congr (f := fun _ => some (-1)) (fun k => by rw [if_pos c1]) (Ev.now _))), Or.inl (by omega)⟩
      simp only [laws_szPatternInsS.l0]
      rw [if_pos (by omega), if_pos (by omega), hrd, wrapl i l.length hlt hl]
    · obtain ⟨r, er, q⟩ := ih (i + 1) r1 (by omega) hd' (fun z hz => hy z (List.mem_cons_of_mem _ hz)) (by omega) (by omega)
      refine ⟨r, Ev.step (f := fun k => (laws_szPatternIns.f y.f0 y.f1 y.f2 left).bind fun t => if t < 0 then some (-1) else laws_szPatternInsS.l0 k l t ((i + 1 : Nat) : Int)) (fun k => ?_) (Ev.bind e1 (Ev.congr (fun k => by rw [if_neg (by omega)]) er)), ?_⟩
      · simp only [laws_szPatternInsS.l0]
        rw [if_pos (by omega), if_pos (by omega), hrd, wrapl i l.length hlt hl]
      · rcases q with q | q
        · exact Or.inl q
        · exact Or.inr ⟨q.1, by omega⟩
theorem szPatternInsS_ev (l : List S111) (g : l.length ≤ 9223372036854775807) (gk : ∀ y_, y_ ∈ l → G111 y_) (left : Int) (hl0 : 0 ≤ left) (hl1 : left ≤ 1048576) : ∃ r, Ev (fun k => laws_szPatternInsS.f k l left) r ∧ (r < 0 ∨ (0 ≤ r ∧ r ≤ left ∧ l.length ≤ 1048576)) := by
  have w : wrap64 (left - (l.length : Int)) = left - (l.length : Int) := by unfold wrap64; omega
  by_cases c : left - (l.length : Int) < 0
  · refine ⟨-1, Ev.congr (f := fun _ => some (-1)) (fun k => ?_) (Ev.now _), Or.inl (by omega)⟩
    unfold laws_szPatternInsS.f
    rw [w, if_pos c]
  · obtain ⟨r, er, q⟩ := szPatternInsS_loop l g l 0 (left - (l.length : Int)) (by omega) rfl gk (by omega) (by omega)
    refine ⟨r, Ev.congr (fun k => ?_) er, ?_⟩
    · unfold laws_szPatternInsS.f
      rw [w, if_neg c]
      first | done | rfl
    · rcases q with q | q
      · exact Or.inl q
      · exact Or.inr ⟨q.1, by omega, by omega⟩
theorem toPatternInsS_loop (l : List S111) (hl : l.length ≤ 1048576) (s : List S111) : ∀ (i : Nat) (out : List S91), i ≤ l.length → l.drop i = s → out.length = l.length → out.take i = (l.map convPatternIns).take i →
    (∀ y, y ∈ s → Ev (fun _ => laws_toPatternIns.f y.f0 y.f1 y.f2) ((convPatternIns y).f0, (convPatternIns y).f1, (convPatternIns y).f2)) → Ev (fun k => laws_toPatternInsS.l0 k l out (i : Int)) (l.map convPatternIns) := by
  induction s with
  | nil =>
    intro i out hi hd ho ht _
    have hi2 := drop_end l i hd hi
    have e : out = l.map convPatternIns := by
      rw [List.take_of_length_le (by omega), List.take_of_length_le (by rw [List.length_map]; omega)] at ht
      exact ht
    refine Ev.step (f := fun _ => some out) (fun k => ?_) (e ▸ Ev.now out)
    simp only [laws_toPatternInsS.l0]
    rw [if_neg (by omega)]
  | cons y s ih =>
    intro i out hi hd ho ht hy
    obtain ⟨hlt, hx, hd'⟩ := drop_at l i y s hd
    have hrd := rdaPatternIns l i y hx
    have ey := hy y List.mem_cons_self
    have hly : (l.map convPatternIns)[i]? = some (convPatternIns y) := by rw [List.getElem?_map, hx]; rfl
    have r := ih (i + 1) (out.set i (convPatternIns y)) (by omega) hd' (by rw [List.length_set]; exact ho) (by
      rw [List.take_add_one, List.take_add_one, hly, List.take_set_of_le (Nat.le_refl _), ht, List.getElem?_set_self (by omega)]) (fun z hz => hy z (List.mem_cons_of_mem _ hz))
    have r2 : Ev (fun k => (laws_toPatternIns.f y.f0 y.f1 y.f2).bind fun b => if (i : Int) < (out.length : Int) then laws_toPatternInsS.l0 k l (out.set ((i : Int) : Int).toNat (⟨b.1, b.2.1, b.2.2⟩ : S91)) ((i + 1 : Nat) : Int) else none) (l.map convPatternIns) := by
      refine Ev.bind ey ?_
      refine Ev.congr (f := fun k => laws_toPatternInsS.l0 k l (out.set i (convPatternIns y)) ((i + 1 : Nat) : Int)) (fun k => ?_) r
      rw [if_pos (by omega), Int.toNat_natCast]
      first | done | rfl
    refine Ev.step (fun k => ?_) r2
    simp only [laws_toPatternInsS.l0]
    rw [if_pos (by omega), if_pos (by omega), hrd, wrapl i l.length hlt (by omega)]
    first | done | rfl
theorem toPatternInsS_ev (l : List S111) (g : l.length ≤ 1048576) : Ev (fun k => laws_toPatternInsS.f k l) (l.map convPatternIns) := by
  refine Ev.congr (f := fun k => laws_toPatternInsS.l0 k l (List.replicate l.length z91) ((0 : Nat) : Int)) (fun k => ?_) ?_
  · unfold laws_toPatternInsS.f
    rw [if_pos (by omega), if_pos (by omega), Int.toNat_natCast]
    first | done | rfl
  · exact toPatternInsS_loop l (by omega) l 0 _ (by omega) rfl (by simp) (by simp) (fun y hy => toPatternIns_ev y)
theorem eqPatternInsS_loop (l : List S91) (hl : l.length ≤ 9223372036854775807) (s : List S91) : ∀ (i : Nat), i ≤ l.length → l.drop i = s →
    (∀ y, y ∈ s → Ev (fun _ => laws_eqPatternIns.f y.f0 y.f1 y.f2 y.f0 y.f1 y.f2) true) → Ev (fun k => laws_eqPatternInsS.l0 k l l (i : Int)) true := by
  induction s with
  | nil =>
    intro i hi hd _
    have hi2 := drop_end l i hd hi
    refine Ev.step (f := fun _ => some true) (fun k => ?_) (Ev.now true)
    simp only [laws_eqPatternInsS.l0]
    rw [if_neg (by omega)]
  | cons y s ih =>
    intro i hi hd hy
    obtain ⟨hlt, hx, hd'⟩ := drop_at l i y s hd
    have hrd := rdbPatternIns l i y hx
    refine Ev.step (f := fun k => (laws_eqPatternIns.f y.f0 y.f1 y.f2 y.f0 y.f1 y.f2).bind fun t => if t = true then laws_eqPatternInsS.l0 k l l ((i + 1 : Nat) : Int) else some false) (fun k => ?_) ?_
    · simp only [laws_eqPatternInsS.l0]
      rw [if_pos (by omega), if_pos (by omega), if_pos (by omega), hrd, wrapl i l.length hlt hl]
    · refine Ev.bind (hy y List.mem_cons_self) ?_
      refine Ev.congr (f := fun k => laws_eqPatternInsS.l0 k l l ((i + 1 : Nat) : Int)) (fun k => by rw [if_pos rfl]) ?_
      exact ih (i + 1) (by omega) hd' (fun z hz => hy z (List.mem_cons_of_mem _ hz))
theorem eqPatternInsS_ev (l : List S91) (g : l.length ≤ 9223372036854775807) : Ev (fun k => laws_eqPatternInsS.f k l l) true := by
  refine Ev.congr (f := fun k => laws_eqPatternInsS.l0 k l l ((0 : Nat) : Int)) (fun k => ?_) ?_
  · unfold laws_eqPatternInsS.f
    rw [if_pos rfl]
    first | done | rfl
  · exact eqPatternInsS_loop l g l 0 (by omega) rfl (fun y hy => eqPatternIns_ev y)
theorem finePatternInsS_conv (l : List S111) (g : l.length ≤ 1048576) : (l.map convPatternIns).length ≤ 9223372036854775807 := by
  rw [List.length_map]
  omega
def convPatternEntry (x : S113) : S93 := ⟨x.f0, x.f1⟩
theorem szPatternEntry_ev (x : S113) (g : G113 x) (left : Int) (hl0 : 0 ≤ left) (hl1 : left ≤ 1048576) : ∃ r, Ev (fun _ => laws_szPatternEntry.f x.f0 x.f1 left) r ∧ (r < 0 ∨ (0 ≤ r ∧ r ≤ left)) := by
  obtain ⟨h0, h1⟩ := g
  unfold laws_szPatternEntry.f
  have w0 : wrap64 (left - (x.f0.size : Int)) = left - (x.f0.size : Int) := by unfold wrap64; omega
  simp only [w0]
  by_cases c0 : left - (x.f0.size : Int) < 0
  · simp only [if_pos c0]
    exact ⟨-1, Ev.now _, Or.inl (by omega)⟩
  simp only [if_neg c0]
  exact ⟨_, Ev.now _, Or.inr ⟨by omega, by omega⟩⟩
theorem toPatternEntry_ev (x : S113) : Ev (fun _ => laws_toPatternEntry.f x.f0 x.f1) ((convPatternEntry x).f0, (convPatternEntry x).f1) := by
  unfold laws_toPatternEntry.f
  exact Ev.now _
theorem eqPatternEntry_ev (x : S93) : Ev (fun _ => laws_eqPatternEntry.f x.f0 x.f1 x.f0 x.f1) true := by
  unfold laws_eqPatternEntry.f
  try simp only [if_true]
  exact Ev.now _
theorem rdaPatternEntry (l : List S113) (i : Nat) (x : S113) (h : l[i]? = some x) : rd_T113 l (i : Int) = x := by
  unfold rd_T113
  rw [List.getD_eq_getElem?_getD, Int.toNat_natCast, h]
  rfl
theorem rdbPatternEntry (l : List S93) (i : Nat) (x : S93) (h : l[i]? = some x) : rd_T93 l (i : Int) = x := by
  unfold rd_T93
  rw [List.getD_eq_getElem?_getD, Int.toNat_natCast, h]
  rfl
theorem szPatternEntryS_loop (l : List S113) (hl : l.length ≤ 9223372036854775807) (s : List S113) : ∀ (i : Nat) (left : Int), i ≤ l.length → l.drop i = s → (∀ y, y ∈ s → G113 y) → 0 ≤ left → left ≤ 1048576 →
    ∃ r, Ev (fun k => laws_szPatternEntryS.l0 k l left (i : Int)) r ∧ (r < 0 ∨ (0 ≤ r ∧ r ≤ left)) := by
  induction s with
  | nil =>
    intro i left hi hd _ h0 h1
    have := drop_end l i hd hi
    refine ⟨left, Ev.step (f := fun _ => some left) (fun k => ?_) (Ev.now _), Or.inr ⟨h0, by omega⟩⟩
    simp only [laws_szPatternEntryS.l0]
    rw [if_neg (by omega)]
  | cons y s ih =>
    intro i left hi hd hy h0 h1
    obtain ⟨hlt, hx, hd'⟩ := drop_at l i y s hd
    have hrd := rdaPatternEntry l i y hx
    obtain ⟨r1, e1, c1 | ⟨p1, q1⟩⟩ := szPatternEntry_ev y (hy y List.mem_cons_self) left h0 h1
    · refine ⟨-1, Ev.step (f := fun k => (laws_szPatternEntry.f y.f0 y.f1 left).bind fun t => if t < 0 then some (-1) else laws_szPatternEntryS.l0 k l t ((i + 1 : Nat) : Int)) (fun k => ?_) (Ev.bind e1 (Ev.congr (f := fun _ => some (-1)) (fun k => by rw [if_pos c1]) (Ev.now _))), Or.inl (by omega)⟩
      simp only [laws_szPatternEntryS.l0]
      rw [if_pos (by omega), if_pos (by omega), hrd, wrapl i l.length hlt hl]
    · obtain ⟨r, er, q⟩ := ih (i + 1) r1 (by omega) hd' (fun z hz => hy z (List.mem_cons_of_mem _ hz)) (by omega) (by omega)
      refine ⟨r, Ev.step (f := fun k => (laws_szPatternEntry.f y.f0 y.f1 left).bind fun t => if t < 0 then some (-1) else laws_szPatternEntryS.l0 k l t ((i + 1 : Nat) : Int)) (fun k => ?_) (Ev.bind e1 (Ev.congr (fun k => by rw [if_neg (by omega)]) er)), ?_⟩
      · simp only [laws_szPatternEntryS.l0]
        rw [if_pos (by omega), if_pos (by omega), hrd, wrapl i l.length hlt hl]
      · rcases q with q | q
        · exact Or.inl q
        · exact Or.inr ⟨q.1, by omega⟩
theorem szPatternEntryS_ev (l : List S113) (g : l.length ≤ 9223372036854775807) (gk : ∀ y_, y_ ∈ l → G113 y_) (left : Int) (hl0 : 0 ≤ left) (hl1 : left ≤ 1048576) : ∃ r, Ev (fun k => laws_szPatternEntryS.f k l left) r ∧ (r < 0 ∨ (0 ≤ r ∧ r ≤ left ∧ l.length ≤ 1048576)) := by
  have w : wrap64 (left - (l.length : Int)) = left - (l.length : Int) := by unfold wrap64; omega
  by_cases c : left - (l.length : Int) < 0
  · refine ⟨-1, Ev.congr (f := fun _ => some (-1)) (fun k => ?_) (Ev.now _), Or.inl (by omega)⟩
    unfold laws_szPatternEntryS.f
    rw [w, if_pos c]
  · obtain ⟨r, er, q⟩ := szPatternEntryS_loop l g l 0 (left - (l.length : Int)) (by omega) rfl gk (by omega) (by omega)
    refine ⟨r, Ev.congr (fun k => ?_) er, ?_⟩
    · unfold laws_szPatternEntryS.f
      rw [w, if_neg c]
      first | done | rfl
    · rcases q with q | q
      · exact Or.inl q
      · exact Or.inr ⟨q.1, by omega, by omega⟩
theorem toPatternEntryS_loop (l : List S113) (hl : l.length ≤ 1048576) (s : List S113) : ∀ (i : Nat) (out : List S93), i ≤ l.length → l.drop i = s → out.length = l.length → out.take i = (l.map convPatternEntry).take i →
    (∀ y, y ∈ s → Ev (fun _ => laws_toPatternEntry.f y.f0 y.f1) ((convPatternEntry y).f0, (convPatternEntry y).f1)) → Ev (fun k => laws_toPatternEntryS.l0 k l out (i : Int)) (l.map convPatternEntry) := by
  induction s with
  | nil =>
    intro i out hi hd ho ht _
    have hi2 := drop_end l i hd hi
    have e : out = l.map convPatternEntry := by
      rw [List.take_of_length_le (by omega), List.take_of_length_le (by rw [List.length_map]; omega)] at ht
      exact ht
    refine Ev.step (f := fun _ => some out) (fun k => ?_) (e ▸ Ev.now out)
    simp only [laws_toPatternEntryS.l0]
    rw [if_neg (by omega)]
  | cons y s ih =>
    intro i out hi hd ho ht hy
    obtain ⟨hlt, hx, hd'⟩ := drop_at l i y s hd
    have hrd := rdaPatternEntry l i y hx
    have ey := hy y List.mem_cons_self
    have hly : (l.map convPatternEntry)[i]? = some (convPatternEntry y) := by rw [List.getElem?_map, hx]; rfl
    have r := ih (i + 1) (out.set i (convPatternEntry y)) (by omega) hd' (by rw [List.length_set]; exact ho) (by
      rw [List.take_add_one, List.take_add_one, hly, List.take_set_of_le (Nat.le_refl _), ht, List.getElem?_set_self (by omega)]) (fun z hz => hy z (List.mem_cons_of_mem _ hz))
    have r2 : Ev (fun k => (laws_toPatternEntry.f y.f0 y.f1).bind fun b => if (i : Int) < (out.length : Int) then laws_toPatternEntryS.l0 k l (out.set ((i : Int) : Int).toNat (⟨b.1, b.2⟩ : S93)) ((i + 1 : Nat) : Int) else none) (l.map convPatternEntry) := by
      refine Ev.bind ey ?_
      refine Ev.congr (f := fun k => laws_toPatternEntryS.l0 k l (out.set i (convPatternEntry y)) ((i + 1 : Nat) : Int)) (fun k => ?_) r
      rw [if_pos (by omega), Int.toNat_natCast]
      first | done | rfl
    refine Ev.step (fun k => ?_) r2
    simp only [laws_toPatternEntryS.l0]
    rw [if_pos (by omega), if_pos (by omega), hrd, wrapl i l.length hlt (by omega)]
    first | done | rfl
theorem toPatternEntryS_ev (l : List S113) (g : l.length ≤ 1048576) : Ev (fun k => laws_toPatternEntryS.f k l) (l.map convPatternEntry) := by
  refine Ev.congr (f := fun k => laws_toPatternEntryS.l0 k l (List.replicate l.length z93) ((0 : Nat) : Int)) (fun k => ?_) ?_
  · unfold laws_toPatternEntryS.f
    rw [if_pos (by omega), if_pos (by omega), Int.toNat_natCast]
    first | done | rfl
  · exact toPatternEntryS_loop l (by omega) l 0 _ (by omega) rfl (by simp) (by simp) (fun y hy => toPatternEntry_ev y)
theorem eqPatternEntryS_loop (l : List S93) (hl : l.length ≤ 9223372036854775807) (s : List S93) : ∀ (i : Nat), i ≤ l.length → l.drop i = s →
    (∀ y, y ∈ s → Ev (fun _ => laws_eqPatternEntry.f y.f0 y.f1 y.f0 y.f1) true) → Ev (fun k => laws_eqPatternEntryS.l0 k l l (i : Int)) true := by
  induction s with
  | nil =>
    intro i hi hd _
    have hi2 := drop_end l i hd hi
    refine Ev.step (f := fun _ => some true) (fun k => ?_) (Ev.now true)
    simp only [laws_eqPatternEntryS.l0]
    rw [if_neg (by omega)]
  | cons y s ih =>
    intro i hi hd hy
    obtain ⟨hlt, hx, hd'⟩ := drop_at l i y s hd
    have hrd := rdbPatternEntry l i y hx
    refine Ev.step (f := fun k => (laws_eqPatternEntry.f y.f0 y.f1 y.f0 y.f1).bind fun t => if t = true then laws_eqPatternEntryS.l0 k l l ((i + 1 : Nat) : Int) else some false) (fun k => ?_) ?_
    · simp only [laws_eqPatternEntryS.l0]
      rw [if_pos (by omega), if_pos (by omega), if_pos (by omega), hrd, wrapl i l.length hlt hl]
    · refine Ev.bind (hy y List.mem_cons_self) ?_
      refine Ev.congr (f := fun k => laws_eqPatternEntryS.l0 k l l ((i + 1 : Nat) : Int)) (fun k => by rw [if_pos rfl]) ?_
      exact ih (i + 1) (by omega) hd' (fun z hz => hy z (List.mem_cons_of_mem _ hz))
theorem eqPatternEntryS_ev (l : List S93) (g : l.length ≤ 9223372036854775807) : Ev (fun k => laws_eqPatternEntryS.f k l l) true := by
  refine Ev.congr (f := fun k => laws_eqPatternEntryS.l0 k l l ((0 : Nat) : Int)) (fun k => ?_) ?_
  · unfold laws_eqPatternEntryS.f
    rw [if_pos rfl]
    first | done | rfl
  · exact eqPatternEntryS_loop l g l 0 (by omega) rfl (fun y hy => eqPatternEntry_ev y)
theorem finePatternEntryS_conv (l : List S113) (g : l.length ≤ 1048576) : (l.map convPatternEntry).length ≤ 9223372036854775807 := by
  rw [List.length_map]
  omega
def smallPatternCode (x : S54) : Prop := (x.f0.length ≤ 1048576) ∧ (x.f1.length ≤ 1048576)
theorem szPatternCode_ev (x : S54) (g : G54 x) (left : Int) (hl0 : 0 ≤ left) (hl1 : left ≤ 1048576) : ∃ r, Ev (fun k => laws_szPatternCode.f k x.f0 x.f1 left) r ∧ (r < 0 ∨ (0 ≤ r ∧ r ≤ left ∧ smallPatternCode x)) := by
  obtain ⟨h0, h0k, h1, h1k⟩ := g
  unfold laws_szPatternCode.f
  obtain ⟨r0, e0, c0 | ⟨p0, q0, s0⟩⟩ := szPatternInsS_ev x.f0 h0 h0k (left) (by omega) (by omega)
  · refine ev_ex e0 ?_
    simp only [if_pos c0]
    exact ⟨-1, Ev.now _, Or.inl (by omega)⟩
  refine ev_ex e0 ?_
  simp only [if_neg (show ¬ r0 < 0 by omega)]
  obtain ⟨r1, e1, c1 | ⟨p1, q1, s1⟩⟩ := szPatternEntryS_ev x.f1 h1 h1k (r0) (by omega) (by omega)
  · refine ev_ex e1 ?_
    simp only [if_pos c1]
    exact ⟨-1, Ev.now _, Or.inl (by omega)⟩
  refine ev_ex e1 ?_
  simp only [if_neg (show ¬ r1 < 0 by omega)]
  exact ⟨_, Ev.now _, Or.inr ⟨by omega, by omega, ⟨s0, s1⟩⟩⟩
theorem toPatternCode_ev (x : S54) (g : smallPatternCode x) : Ev (fun k => laws_toPatternCode.f k x.f0 x.f1) ((x.f0.map convPatternIns), (x.f1.map convPatternEntry)) := by
  unfold laws_toPatternCode.f
  refine Ev.bind (toPatternInsS_ev x.f0 (g.1)) ?_
  refine Ev.bind (toPatternEntryS_ev x.f1 (g.2)) ?_
  exact Ev.now _
theorem eqPatternCode_ev (x : S54) (g : smallPatternCode x) : Ev (fun k => laws_eqPatternCode.f k (x.f0.map convPatternIns) (x.f1.map convPatternEntry) (x.f0.map convPatternIns) (x.f1.map convPatternEntry)) true := by
  unfold laws_eqPatternCode.f
  try simp only [if_true]
  refine Ev.bind (eqPatternInsS_ev (x.f0.map convPatternIns) (finePatternInsS_conv x.f0 (g.1))) ?_
  try simp only [if_true]
  refine Ev.bind (eqPatternEntryS_ev (x.f1.map convPatternEntry) (finePatternEntryS_conv x.f1 (g.2))) ?_
  try simp only [if_true]
  exact Ev.now _
-- impl_PatternIns: equality of two rows of PatternIns by '!=' (X: the length, where it is handed on)
theorem impl_PatternIns_loop (l m : List S91) (hl : l.length ≤ 9223372036854775807) (hm : l.length = m.length) (s : List S91) : ∀ (t : List S91) (i : Nat), i ≤ l.length → l.drop i = s → m.drop i = t →
    Ev (fun k => impl_PatternIns.l0 k l m (l.length:Int) (i : Int)) (samePatternInsS s t) := by
  induction s with
  | nil =>
    intro t i hi hd _
    have hi2 := drop_end l i hd hi
    refine Ev.step (f := fun _ => some true) (fun k => ?_) (by rw [samePatternInsS]; exact Ev.now true)
    simp only [impl_PatternIns.l0]
    rw [if_neg (by omega)]
  | cons y s ih =>
    intro t i hi hd ht
    obtain ⟨hlt, hx, hd'⟩ := drop_at l i y s hd
    have hrd := rdbPatternIns l i y hx
    cases t with
    | nil =>
      have := drop_end m i ht (by omega)
      omega
    | cons z t =>
      obtain ⟨_, hx2, ht'⟩ := drop_at m i z t ht
      have hrd2 := rdbPatternIns m i z hx2
      have w := wrapl i l.length hlt hl
      rw [samePatternInsS]
      cases h : nePatternIns y z with
      | true =>
        refine Ev.step (f := fun _ => some false) (fun k => ?_) (Ev.now false)
        simp only [impl_PatternIns.l0]
        rw [if_pos (by omega), if_pos (by omega), if_pos (by omega)]
        first
          | rw [if_pos (by omega), hrd, hrd2]; exact if_pos h
          | rw [hrd, hrd2]; exact if_pos h
      | false =>
        have h2 : ¬ nePatternIns y z = true := by rw [h]; simp
        refine Ev.step (f := fun k => impl_PatternIns.l0 k l m (l.length:Int) ((i + 1 : Nat) : Int)) (fun k => ?_) (ih t (i + 1) (by omega) hd' ht')
        simp only [impl_PatternIns.l0]
        rw [if_pos (by omega), if_pos (by omega), if_pos (by omega)]
        first
          | rw [if_pos (by omega), hrd, hrd2, w]; exact if_neg h2
          | rw [hrd, hrd2, w]; exact if_neg h2
theorem impl_PatternIns_ev (l m : List S91) (hl : l.length ≤ 9223372036854775807) : Ev (fun k => impl_PatternIns.f k l m) ((l.length == m.length) && samePatternInsS l m) := by
  by_cases h : l.length = m.length
  · rw [beq_iff_eq.mpr h, Bool.true_and]
    refine Ev.congr (fun k => ?_) (impl_PatternIns_loop l m hl h l m 0 (by omega) rfl rfl)
    unfold impl_PatternIns.f
    rw [if_pos (by omega)]
    rfl
  · rw [beq_eq_false_iff_ne.mpr h, Bool.false_and]
    refine Ev.congr (f := fun _ => some false) (fun k => ?_) (Ev.now false)
    unfold impl_PatternIns.f
    rw [if_neg (by omega)]
-- impl_PatternEntry: equality of two rows of PatternEntry by '!=' (X: the length, where it is handed on)
theorem impl_PatternEntry_loop (l m : List S93) (hl : l.length ≤ 9223372036854775807) (hm : l.length = m.length) (s : List S93) : ∀ (t : List S93) (i : Nat), i ≤ l.length → l.drop i = s → m.drop i = t →
    Ev (fun k => impl_PatternEntry.l0 k l m (l.length:Int) (i : Int)) (samePatternEntryS s t) := by
  induction s with
  | nil =>
    intro t i hi hd _
    have hi2 := drop_end l i hd hi
    refine Ev.step (f := fun _ => some true) (fun k => ?_) (by rw [samePatternEntryS]; exact Ev.now true)
    simp only [impl_PatternEntry.l0]
    rw [if_neg (by omega)]
  | cons y s ih =>
    intro t i hi hd ht
    obtain ⟨hlt, hx, hd'⟩ := drop_at l i y s hd
    have hrd := rdbPatternEntry l i y hx
    cases t with
    | nil =>
      have := drop_end m i ht (by omega)
      omega
    | cons z t =>
      obtain ⟨_, hx2, ht'⟩ := drop_at m i z t ht
      have hrd2 := rdbPatternEntry m i z hx2
      have w := wrapl i l.length hlt hl
      rw [samePatternEntryS]
      cases h : nePatternEntry y z with
      | true =>
        refine Ev.step (f := fun _ => some false) (fun k => ?_) (Ev.now false)
        simp only [impl_PatternEntry.l0]
        rw [if_pos (by omega), if_pos (by omega), if_pos (by omega)]
        first
          | rw [if_pos (by omega), hrd, hrd2]; exact if_pos h
          | rw [hrd, hrd2]; exact if_pos h
      | false =>
        have h2 : ¬ nePatternEntry y z = true := by rw [h]; simp
        refine Ev.step (f := fun k => impl_PatternEntry.l0 k l m (l.length:Int) ((i + 1 : Nat) : Int)) (fun k => ?_) (ih t (i + 1) (by omega) hd' ht')
        simp only [impl_PatternEntry.l0]
        rw [if_pos (by omega), if_pos (by omega), if_pos (by omega)]
        first
          | rw [if_pos (by omega), hrd, hrd2, w]; exact if_neg h2
          | rw [hrd, hrd2, w]; exact if_neg h2
theorem impl_PatternEntry_ev (l m : List S93) (hl : l.length ≤ 9223372036854775807) : Ev (fun k => impl_PatternEntry.f k l m) ((l.length == m.length) && samePatternEntryS l m) := by
  by_cases h : l.length = m.length
  · rw [beq_iff_eq.mpr h, Bool.true_and]
    refine Ev.congr (fun k => ?_) (impl_PatternEntry_loop l m hl h l m 0 (by omega) rfl rfl)
    unfold impl_PatternEntry.f
    rw [if_pos (by omega)]
    rfl
  · rw [beq_eq_false_iff_ne.mpr h, Bool.false_and]
    refine Ev.congr (f := fun _ => some false) (fun k => ?_) (Ev.now false)
    unfold impl_PatternEntry.f
    rw [if_neg (by omega)]
-- spec_l1: a loop by '!=' over two rows l, m of PatternEntry that goes on with NEXT behind
theorem spec_l1 (a c : List S91) (l m : List S93) (hl : l.length ≤ 9223372036854775807) (hm : l.length = m.length) (v : Bool) (hv : Ev (fun _ => some true) v) (s : List S93) : ∀ (t : List S93) (i : Nat), i ≤ l.length → l.drop i = s → m.drop i = t →
    Ev (fun k => spec_SamePatternCode.l1 k  (i : Int) a l c m) (samePatternEntryS s t && v) := by
  induction s with
  | nil =>
    intro t i hi hd _
    have hi2 := drop_end l i hd hi
    refine Ev.step (f := fun _ => some true) (fun k => ?_) (by rw [samePatternEntryS, Bool.true_and]; exact hv)
    simp only [spec_SamePatternCode.l1]
    rw [if_neg (by omega)]
    first | done | rfl
  | cons y s ih =>
    intro t i hi hd ht
    obtain ⟨hlt, hx, hd'⟩ := drop_at l i y s hd
    have hrd := rdbPatternEntry l i y hx
    cases t with
    | nil =>
      have := drop_end m i ht (by omega)
      omega
    | cons z t =>
      obtain ⟨_, hx2, ht'⟩ := drop_at m i z t ht
      have hrd2 := rdbPatternEntry m i z hx2
      have w := wrapl i l.length hlt hl
      rw [samePatternEntryS]
      cases h : nePatternEntry y z with
      | true =>
        refine Ev.step (f := fun _ => some false) (fun k => ?_) (Ev.now false)
        simp only [spec_SamePatternCode.l1]
        rw [if_pos (by omega), if_pos (by omega), if_pos (by omega), hrd, hrd2]
        exact if_pos h
      | false =>
        have h2 : ¬ nePatternEntry y z = true := by rw [h]; simp
        refine Ev.step (f := fun k => spec_SamePatternCode.l1 k  ((i + 1 : Nat) : Int) a l c m) (fun k => ?_) (ih t (i + 1) (by omega) hd' ht')
        simp only [spec_SamePatternCode.l1]
        rw [if_pos (by omega), if_pos (by omega), if_pos (by omega), hrd, hrd2, w]
        exact if_neg h2
-- spec_l0: a loop by '!=' over two rows a, c of PatternIns that goes on with NEXT behind
theorem spec_l0 (a c : List S91) (l m : List S93) (hl : a.length ≤ 9223372036854775807) (hm : a.length = c.length) (v : Bool) (hv : Ev (fun k => spec_SamePatternCode.l1 k ((0 : Nat) : Int) a l c m) v) (s : List S91) : ∀ (t : List S91) (i : Nat), i ≤ a.length → a.drop i = s → c.drop i = t →
    Ev (fun k => spec_SamePatternCode.l0 k  (i : Int) a l c m) (samePatternInsS s t && v) := by
  induction s with
  | nil =>
    intro t i hi hd _
    have hi2 := drop_end a i hd hi
    refine Ev.step (f := fun k => spec_SamePatternCode.l1 k ((0 : Nat) : Int) a l c m) (fun k => ?_) (by rw [samePatternInsS, Bool.true_and]; exact hv)
    simp only [spec_SamePatternCode.l0]
    rw [if_neg (by omega)]
    first | done | rfl
  | cons y s ih =>
    intro t i hi hd ht
    obtain ⟨hlt, hx, hd'⟩ := drop_at a i y s hd
    have hrd := rdbPatternIns a i y hx
    cases t with
    | nil =>
      have := drop_end c i ht (by omega)
      omega
    | cons z t =>
      obtain ⟨_, hx2, ht'⟩ := drop_at c i z t ht
      have hrd2 := rdbPatternIns c i z hx2
      have w := wrapl i a.length hlt hl
      rw [samePatternInsS]
      cases h : nePatternIns y z with
      | true =>
        refine Ev.step (f := fun _ => some false) (fun k => ?_) (Ev.now false)
        simp only [spec_SamePatternCode.l0]
        rw [if_pos (by omega), if_pos (by omega), if_pos (by omega), hrd, hrd2]
        exact if_pos h
      | false =>
        have h2 : ¬ nePatternIns y z = true := by rw [h]; simp
        refine Ev.step (f := fun k => spec_SamePatternCode.l0 k  ((i + 1 : Nat) : Int) a l c m) (fun k => ?_) (ih t (i + 1) (by omega) hd' ht')
        simp only [spec_SamePatternCode.l0]
        rw [if_pos (by omega), if_pos (by omega), if_pos (by omega), hrd, hrd2, w]
        exact if_neg h2
def sameP (a : List S91) (l : List S93) (c : List S91) (m : List S93) : Bool := ((a.length == c.length) && samePatternInsS a c) && ((l.length == m.length) && samePatternEntryS l m)
theorem spec_ev (a : List S91) (l : List S93) (c : List S91) (m : List S93) (ha : a.length ≤ 9223372036854775807) (hl : l.length ≤ 9223372036854775807) : Ev (fun k => spec_SamePatternCode.f k a l c m) (sameP a l c m) := by
  unfold spec_SamePatternCode.f sameP
  by_cases h0 : a.length = c.length
  · simp only [if_pos (show (a.length : Int) = (c.length : Int) by omega)]
    rw [beq_iff_eq.mpr h0, Bool.true_and]
    by_cases h1 : l.length = m.length
    · rw [beq_iff_eq.mpr h1, Bool.true_and]
      refine Ev.step (f := fun k => spec_SamePatternCode.l0 k ((0 : Nat) : Int) a l c m) (fun k => ?_) ?_
      · simp only [spec_SamePatternCode.j0]
        rw [if_neg (by simp [h1])]
        rfl
      · refine spec_l0 a c l m ha h0 _ ?_ a c 0 (by omega) rfl rfl
        have r := spec_l1 a c l m hl h1 true (Ev.now true) l m 0 (by omega) rfl rfl
        rw [Bool.and_true] at r
        exact r
    · rw [beq_eq_false_iff_ne.mpr h1, Bool.false_and, Bool.and_false]
      refine Ev.step (f := fun _ => some false) (fun k => ?_) (Ev.now false)
      simp only [spec_SamePatternCode.j0]
      rw [if_pos (by simp; omega)]
  · simp only [if_neg (show ¬ (a.length : Int) = (c.length : Int) by omega)]
    rw [beq_eq_false_iff_ne.mpr h0, Bool.false_and, Bool.false_and]
    refine Ev.step (f := fun _ => some false) (fun k => ?_) (Ev.now false)
    simp only [spec_SamePatternCode.j0]
    first | rfl | rw [if_pos trivial] | rw [if_pos rfl]
theorem impl_ev (a : List S91) (l : List S93) (c : List S91) (m : List S93) (ha : a.length ≤ 9223372036854775807) (hl : l.length ≤ 9223372036854775807) : Ev (fun k => impl_SamePatternCode.f k a l c m) (sameP a l c m) := by
  unfold impl_SamePatternCode.f sameP
  refine Ev.bind (impl_PatternIns_ev a c ha) ?_
  cases ((a.length == c.length) && samePatternInsS a c) with
  | true =>
    simp only [if_true, Bool.true_and]
    exact Ev.bind (impl_PatternEntry_ev l m hl) (Ev.now _)
  | false =>
    rw [Bool.false_and]
    exact Ev.congr (f := fun _ => some false) (fun k => by rw [if_neg (by simp)]) (Ev.now _)
end SamePatternCode
open SamePatternCode in
theorem FnExactSamePatternCode : laws_FnExactSamePatternCode.Pure := by
  intro x y g gy
  apply Ev.rounds
  unfold laws_FnExactSamePatternCode.f
  obtain ⟨r, e, c | ⟨p, q, sm⟩⟩ := szPatternCode_ev x g 1048576 (by omega) (by omega)
  · refine Ev.bind e ?_
    simp only [if_pos c]
    exact Ev.now true
  refine Ev.bind e ?_
  simp only [if_neg (show ¬ r < 0 by omega)]
  obtain ⟨r2, e2, c2 | ⟨p2, q2, sm2⟩⟩ := szPatternCode_ev y gy r (by omega) (by omega)
  · refine Ev.bind e2 ?_
    simp only [if_pos c2]
    exact Ev.now true
  refine Ev.bind e2 ?_
  simp only [if_neg (show ¬ r2 < 0 by omega)]
  have t := toPatternCode_ev x sm
  have t2 := toPatternCode_ev y sm2
  have hf := finePatternInsS_conv x.f0 sm.1
  have hf2 := finePatternEntryS_conv x.f1 sm.2
  refine Ev.bind t (Ev.bind t2 (Ev.bind (spec_ev _ _ _ _ hf hf2) (Ev.bind t (Ev.bind t2 (Ev.bind (impl_ev _ _ _ _ hf hf2) ?_)))))
  refine Ev.congr (f := _) (fun k => by rw [if_neg (by simp)]) ?_
  refine Ev.bind t (Ev.bind (eqPatternCode_ev x sm) ?_)
  refine Ev.congr (f := _) (fun k => by rw [if_pos rfl]) ?_
  refine Ev.bind t2 (Ev.bind (eqPatternCode_ev y sm2) ?_)
  exact Ev.congr (f := fun _ => some true) (fun k => by rw [if_pos rfl]) (Ev.now true)
end Go.Proofs.Ytacdhebkdfojiaa.Pure
