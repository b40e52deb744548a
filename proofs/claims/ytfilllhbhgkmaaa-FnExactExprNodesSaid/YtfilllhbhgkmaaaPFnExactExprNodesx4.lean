/- By a program of this session: for each Go function that the law reaches, a Lean function with the same answers, and that the code comes to exactly these answers. Conditions: none beyond each statement. -/
import Derived.Test.YtfilllhbhgkmaaaPFnExactExprNodesx0
import Derived.Test.YtfilllhbhgkmaaaPFnExactExprNodesx2
import Derived.Test.YtfilllhbhgkmaaaPFnExactExprNodesx3
namespace Go.Proofs.Ytfilllhbhgkmaaa.PFnExactExprNodes
open Go.RowKit Go.Proofs.YtfilllhbhgkmaaaW.PrintWords Go.Proofs.YtfilllhbhgkmaaaW.PrintLast Go.Proofs.YtfilllhbhgkmaaaW.PrintMore
attribute [local go_sem] max2_int min2_int max_two min_two max_three min_three max_four min_four   -- for this text's walks alone
set_option linter.unusedVariables false
set_option linter.unusedSimpArgs false

/-! ### spec_ExprNodes: function 14, by hand -/
-- NEEDS spec_l00In
-- NEEDS spec_IsName
-- NEEDS spec_CanQuote
/-- The cells at an address are those of a tree. -/
def PtV (w : World) (A : Addr) (x : S29) : Prop := ∃ A3 c3, w.cell? A = some (.int .i64 x.f0) ∧ w.cell? ⟨A.block, A.off + 1, none⟩ = some (.int .i64 x.f1) ∧ w.cell? ⟨A.block, A.off + 2, none⟩ = some (.string x.f2) ∧ w.cell? ⟨A.block, A.off + 3, none⟩ = some (.slice A3 x.f3.length c3) ∧ x.f3.length ≤ c3 ∧ Kd.C k29 w A3 x.f3.length x.f3
theorem PtV_drawn {w w' : World} {A : Addr} {x : S29} (h : PtV w A x) (hd : Drawn0 w w') : PtV w' A x := by
  obtain ⟨A3, c3, h0, h1, h2, h3, hl, hC⟩ := h
  have hb := hd.below
  exact ⟨A3, c3, pw_cell_below hb h0, pw_cell_below hb h1, pw_cell_below hb h2, pw_cell_below hb h3, hl, Kd.C_below hC hb⟩
theorem PtV_elem {w : World} {A : Option Addr} {n : Nat} {xs : List S29} (h : Kd.C k29 w A n xs) (i : Int) (h0 : 0 ≤ i) (h1 : i < n) : ∃ ad, A = some ad ∧ PtV w (ad.add (i.toNat * 4)) (rd_T29 xs i) := by
  obtain ⟨ad, A3, c3, e, g0, g1, g2, g3, hl, hC⟩ := at_T29 h i h0 h1
  exact ⟨ad, e, A3, c3, g0, g1, g2, g3, hl, hC⟩
theorem PtV_blk {w w1 : World} {g : Nat} {T : TypeId} {x0 x1 : Int} {x2 : ByteArray} {A3 : Option Addr} {c3 : Nat} {x3 : List S29} (hk : w1.heap[g]? = some (.cells #[.int .i64 x0, .int .i64 x1, .string x2, .slice A3 x3.length c3] T (0, 0))) (hl : x3.length ≤ c3) (hC : Kd.C k29 w A3 x3.length x3) (hb : Below w.heap.size w w1) : PtV w1 ⟨g, 0, none⟩ ⟨x0, x1, x2, x3⟩ :=
  ⟨A3, c3, (blk_cell hk 0).trans rfl, (blk_cell hk 1).trans rfl, (blk_cell hk 2).trans rfl, (blk_cell hk 3).trans rfl, hl, Kd.C_below hC hb⟩
theorem drawn_trans_ {w w1 w2 : World} (h : Drawn0 w w1) (h2 : Drawn0 w1 w2) : Drawn0 w w2 := by
  obtain ⟨n, rfl⟩ := h2
  exact h.step n
mutual
def spec_l03Size.l0 : Nat → Int → Int → List S29 → Option Int
  | 0, _, _, _ => none
  | k + 1, n, i, l => if i < (l.length : Int) then (if n ≤ 60 then (if 0 ≤ i then ((spec_l03Size.f k (rd_T29 l i)).bind fun t => spec_l03Size.l0 k (wrap64 (n + t)) (wrap64 (i + 1)) l) else (none)) else (some n)) else (some n)
def spec_l03Size.f : Nat → S29 → Option Int
  | 0, _ => none
  | k + 1, x => spec_l03Size.l0 k 1 0 x.f3
end
theorem spec_l03Size.mono_l : ∀ k, (∀ n i l, LeO (spec_l03Size.l0 k n i l) (spec_l03Size.l0 (k + 1) n i l)) ∧ (∀ x, LeO (spec_l03Size.f k x) (spec_l03Size.f (k + 1) x)) := by
  intro k
  induction k with
  | zero => exact ⟨fun n i l => by unfold spec_l03Size.l0; exact LeO.none _, fun x => by unfold spec_l03Size.f; exact LeO.none _⟩
  | succ k ih =>
    obtain ⟨ih0, ih1⟩ := ih
    refine ⟨?_, ?_⟩
    · intro n i l
      unfold spec_l03Size.l0
      repeat' first
      | (with_reducible exact ih0 _ _ _)
      | (with_reducible exact ih1 _)
      | (with_reducible exact LeO.refl _)
      | (with_reducible exact LeO.none _)
      | (with_reducible refine LeO.ite ?_ ?_)
      | (with_reducible refine LeO.bind ?_ (fun _ => ?_))
    · intro x
      unfold spec_l03Size.f
      exact ih0 _ _ _
set_option maxHeartbeats 4000000 in
set_option maxRecDepth 100000 in
theorem spec_l03Size.calls (k : Nat) : ∀ (A : Addr) (x : S29) (r : Int) (w : World) (hA : PtV w A x) (h : spec_l03Size.f k x = some r),
    Calls Try.prog 40 #[.pointer (some A)] w fun e w' => e = .returned (.int .i64 r) ∧ Drawn0 w w' := by
  induction k using Nat.strongRecOn with
  | _ k ih =>
  intro A x r w hA h
  cases k with
  | zero => exact absurd h (by simp [spec_l03Size.f])
  | succ k =>
  simp only [spec_l03Size.f] at h
  have hu := Try.underlying29
  have HA := Aside0.mk hA
  have H := Aside0.mk h
  clear hA h
  go_enter Try.func40, Try.ntmps40
  go_wp2
  go_loopg [3, 4] k (fun kq v3 v4 w' => ∃ (x3 x4 : Int), v3 = .int .i64 x3 ∧ v4 = .int .i64 x4 ∧ Aside0 (spec_l03Size.l0 kq x3 x4 x.f3 = some r) ∧ Aside0 (kq ≤ k) ∧ Aside0 (Drawn0 w w'))
  case atStart => exact ⟨1, 0, rfl, rfl, H, ⟨Nat.le_refl _⟩, ⟨Drawn0.refl _⟩⟩
  case round =>
    clear H
    obtain ⟨x3, x4, rfl, rfl, HL, HK, HD⟩ := hrel
    obtain ⟨A4, c4, a0, a1, a2, a3, al2, aC⟩ := PtV_drawn HA.out HD.out
    have AC2 := Aside0.mk aC
    clear aC
    cases gk with
    | zero => exact absurd HL.out (by simp [spec_l03Size.l0])
    | succ kp =>
      have H := HL.out
      clear HL
      simp only [spec_l03Size.l0] at H
      by_cases c5 : x4 < (x.f3.length : Int)
      · rw [if_pos c5] at H
        have c5b := decide_eq_true c5
        by_cases c6 : x3 ≤ 60
        · rw [if_pos c6] at H
          have c6b := decide_eq_true c6
          clear c6
          by_cases c7 : 0 ≤ x4
          · rw [if_pos c7] at H
            replace H := Option.bind_eq_some_iff.mp H
            obtain ⟨t, ht, H⟩ := H
            have HT := Aside0.mk ht
            have H' := Aside0.mk H
            clear ht H
            obtain ⟨ad, ea, pa⟩ := PtV_elem AC2.out x4 c7 c5
            cases ea
            have PA := Aside0.mk pa
            clear pa
            replace c5 := eq_true c5
            replace c7 := eq_true c7
            go_wp2_with (go_at_call 40; refine (ih kp (by have := HK.out; omega) _ _ t _ (by first | exact PA.out | exact PtV_drawn PA.out ⟨⟨_, rfl⟩⟩) HT.out).mono ?_; rintro e w9 ⟨rfl, hd⟩; have HD9 := Aside0.mk (drawn_trans_ HD.out hd); clear hd)
            go_roundg kp
            case measure => have := HK.out; omega
            case rel => exact ⟨_, _, rfl, rfl, H', ⟨by have := HK.out; omega⟩, HD9⟩
          · rw [if_neg c7] at H
            exact absurd H (by simp)
        · rw [if_neg c6] at H
          obtain rfl := Option.some.inj H
          have c6b := decide_eq_false c6
          clear c6 c5
          go_wp2
          go_ret
          exact ⟨rfl, HD.out⟩
      · rw [if_neg c5] at H
        obtain rfl := Option.some.inj H
        have c5b := decide_eq_false c5
        clear c5
        go_wp2
        go_ret
        exact ⟨rfl, HD.out⟩
def spec_l03ShapeP.f (k : Nat) (x : S29) : Option Bool := (if x.f0 = 1 then (if x.f1 = 0 then (if (x.f3.length : Int) = 0 then ((spec_CanQuote.f k x.f2).bind fun t => some t) else (some false)) else (some false)) else (if x.f0 = 2 then (if x.f2.toList = ([] : List UInt8) then (if (x.f3.length : Int) = 0 then ((spec_l00In.f x.f1 0 1000000000000).bind fun t => some t) else (some false)) else (some false)) else (if x.f0 = 3 then (if x.f1 = 0 then (if (x.f3.length : Int) = 0 then ((spec_IsName.f k x.f2).bind fun t => some t) else (some false)) else (some false)) else (if x.f0 = 16 then (if x.f1 = 0 then (if (x.f3.length : Int) = 0 then ((spec_IsName.f k x.f2).bind fun t => some t) else (some false)) else (some false)) else (if x.f0 = 17 then (if x.f1 = 0 then (if (x.f3.length : Int) = 0 then ((spec_IsName.f k x.f2).bind fun t => some t) else (some false)) else (some false)) else (if x.f0 = 18 then (if x.f1 = 0 then (if (x.f3.length : Int) = 0 then ((spec_IsName.f k x.f2).bind fun t => some t) else (some false)) else (some false)) else (if x.f0 = 4 then (if x.f1 = 0 then ((spec_IsName.f k x.f2).bind fun t => (if t = true then (some (decide ((x.f3.length : Int) ≤ 6))) else (some false))) else (some false)) else (if x.f0 = 14 then (if x.f1 = 0 then (if (x.f3.length : Int) = 1 then (some (x.f2.toList == ([] : List UInt8))) else (some false)) else (some false)) else (if x.f0 = 15 then (if x.f1 = 0 then (if (x.f3.length : Int) = 1 then (some (x.f2.toList == ([] : List UInt8))) else (some false)) else (some false)) else (if x.f0 = 5 then (if x.f1 = 0 then (if (x.f3.length : Int) = 2 then (some (x.f2.toList == ([] : List UInt8))) else (some false)) else (some false)) else (if x.f0 = 6 then (if x.f1 = 0 then (if (x.f3.length : Int) = 2 then (some (x.f2.toList == ([] : List UInt8))) else (some false)) else (some false)) else (if x.f0 = 7 then (if x.f1 = 0 then (if (x.f3.length : Int) = 2 then (some (x.f2.toList == ([] : List UInt8))) else (some false)) else (some false)) else (if x.f0 = 8 then (if x.f1 = 0 then (if (x.f3.length : Int) = 2 then (some (x.f2.toList == ([] : List UInt8))) else (some false)) else (some false)) else (if x.f0 = 9 then (if x.f1 = 0 then (if (x.f3.length : Int) = 2 then (some (x.f2.toList == ([] : List UInt8))) else (some false)) else (some false)) else (if x.f0 = 10 then (if x.f1 = 0 then (if (x.f3.length : Int) = 2 then (some (x.f2.toList == ([] : List UInt8))) else (some false)) else (some false)) else (if x.f0 = 11 then (if x.f1 = 0 then (if (x.f3.length : Int) = 2 then (some (x.f2.toList == ([] : List UInt8))) else (some false)) else (some false)) else (if x.f0 = 12 then (if (x.f3.length : Int) = 2 then (if (rd_T29 x.f3 1).f0 = 3 then (if x.f1 = 0 then (some (x.f2.toList == ([] : List UInt8))) else (some false)) else (some false)) else (some false)) else (if x.f0 = 13 then (if (x.f3.length : Int) = 2 then (if (rd_T29 x.f3 1).f0 = 3 then (if x.f1 = 0 then (some (x.f2.toList == ([] : List UInt8))) else (some false)) else (some false)) else (some false)) else (some false)))))))))))))))))))
theorem spec_l03ShapeP.mono : ∀ x k, LeO (spec_l03ShapeP.f k x) (spec_l03ShapeP.f (k + 1) x) := by
  intro x k
  unfold spec_l03ShapeP.f
  repeat' first
  | (with_reducible exact LeO.refl _)
  | (with_reducible exact spec_IsName.mono _ _)
  | (with_reducible exact spec_CanQuote.mono _ _)
  | (with_reducible refine LeO.ite ?_ ?_)
  | (with_reducible refine LeO.bind ?_ (fun _ => ?_))
set_option maxHeartbeats 8000000 in
set_option maxRecDepth 100000 in
theorem spec_l03ShapeP.calls (k : Nat) (A : Addr) (x : S29) (r : Bool) (w : World) (hA : PtV w A x) (h : spec_l03ShapeP.f k x = some r) :
    Calls Try.prog 92 #[.pointer (some A)] w fun e w' => e = .returned (.bool r) ∧ Drawn0 w w' := by
  obtain ⟨a, b, c, d⟩ := x
  have hu := Try.underlying29
  obtain ⟨A3, c3, a0, a1, a2, a3, al, aC⟩ := hA
  have AC := Aside0.mk aC
  clear aC
  simp only at a0 a1 a2 a3 al AC
  unfold spec_l03ShapeP.f at h
  simp only at h
  by_cases q1 : a = 1
  · rw [if_pos q1] at h
    subst q1
    by_cases e1 : b = 0
    · rw [if_pos e1] at h
      have e1a : (b == 0) = true := beq_iff_eq.mpr e1
      have e1b : (b != 0) = false := bne_eq_false_iff_eq.mpr e1
      clear e1
      by_cases e2 : (d.length : Int) = 0
      · rw [if_pos e2] at h
        have e2a : ((d.length : Int) == 0) = true := beq_iff_eq.mpr e2
        have e2b : ((d.length : Int) != 0) = false := bne_eq_false_iff_eq.mpr e2
        clear e2
        obtain ⟨t, ht, h⟩ := Option.bind_eq_some_iff.mp h
        obtain rfl := Option.some.inj h
        have HT := Aside0.mk ht
        clear ht
        go_enter Try.func92, Try.ntmps92
        go_wp2_with (first | (go_at_call 115; refine (spec_CanQuote.calls k _ _ _ HT.out).mono ?_; rintro e w9 ⟨rfl, hd⟩; have HD9 := Aside0.mk hd; clear hd))
        go_ret
        exact ⟨rfl, HD9.out⟩
      · rw [if_neg e2] at h
        have e2a : ((d.length : Int) == 0) = false := beq_eq_false_iff_ne.mpr e2
        have e2b : ((d.length : Int) != 0) = true := bne_iff_ne.mpr e2
        clear e2
        obtain rfl := Option.some.inj h
        go_enter Try.func92, Try.ntmps92
        go_wp2
        go_ret
        exact ⟨rfl, Drawn0.refl _⟩
    · rw [if_neg e1] at h
      have e1a : (b == 0) = false := beq_eq_false_iff_ne.mpr e1
      have e1b : (b != 0) = true := bne_iff_ne.mpr e1
      clear e1
      obtain rfl := Option.some.inj h
      go_enter Try.func92, Try.ntmps92
      go_wp2
      go_ret
      exact ⟨rfl, Drawn0.refl _⟩
  rw [if_neg q1] at h
  have q1a : (a == 1) = false := beq_eq_false_iff_ne.mpr q1
  clear q1
  by_cases q2 : a = 2
  · rw [if_pos q2] at h
    subst q2
    by_cases e1 : c.toList = ([] : List UInt8)
    · rw [if_pos e1] at h
      have e1a : (c.toList == ([] : List UInt8)) = true := beq_iff_eq.mpr e1
      have e1b : (c.toList != ([] : List UInt8)) = false := bne_eq_false_iff_eq.mpr e1
      clear e1
      by_cases e2 : (d.length : Int) = 0
      · rw [if_pos e2] at h
        have e2a : ((d.length : Int) == 0) = true := beq_iff_eq.mpr e2
        have e2b : ((d.length : Int) != 0) = false := bne_eq_false_iff_eq.mpr e2
        clear e2
        obtain ⟨t, ht, h⟩ := Option.bind_eq_some_iff.mp h
        obtain rfl := Option.some.inj h
        have HT := Aside0.mk ht
        clear ht
        go_enter Try.func92, Try.ntmps92
        go_wp2_with (first | (go_at_call 77; refine (spec_l00In.calls _ _ _ _ _ HT.out).mono ?_; rintro e w9 ⟨rfl, hd⟩; have HD9 := Aside0.mk hd; clear hd))
        go_ret
        exact ⟨rfl, HD9.out⟩
      · rw [if_neg e2] at h
        have e2a : ((d.length : Int) == 0) = false := beq_eq_false_iff_ne.mpr e2
        have e2b : ((d.length : Int) != 0) = true := bne_iff_ne.mpr e2
        clear e2
        obtain rfl := Option.some.inj h
        go_enter Try.func92, Try.ntmps92
        go_wp2
        go_ret
        exact ⟨rfl, Drawn0.refl _⟩
    · rw [if_neg e1] at h
      have e1a : (c.toList == ([] : List UInt8)) = false := beq_eq_false_iff_ne.mpr e1
      have e1b : (c.toList != ([] : List UInt8)) = true := bne_iff_ne.mpr e1
      clear e1
      obtain rfl := Option.some.inj h
      go_enter Try.func92, Try.ntmps92
      go_wp2
      go_ret
      exact ⟨rfl, Drawn0.refl _⟩
  rw [if_neg q2] at h
  have q2a : (a == 2) = false := beq_eq_false_iff_ne.mpr q2
  clear q2
  by_cases q3 : a = 3
  · rw [if_pos q3] at h
    subst q3
    by_cases e1 : b = 0
    · rw [if_pos e1] at h
      have e1a : (b == 0) = true := beq_iff_eq.mpr e1
      have e1b : (b != 0) = false := bne_eq_false_iff_eq.mpr e1
      clear e1
      by_cases e2 : (d.length : Int) = 0
      · rw [if_pos e2] at h
        have e2a : ((d.length : Int) == 0) = true := beq_iff_eq.mpr e2
        have e2b : ((d.length : Int) != 0) = false := bne_eq_false_iff_eq.mpr e2
        clear e2
        obtain ⟨t, ht, h⟩ := Option.bind_eq_some_iff.mp h
        obtain rfl := Option.some.inj h
        have HT := Aside0.mk ht
        clear ht
        cases t with
        | true =>
          go_enter Try.func92, Try.ntmps92
          go_wp2_with (first | (go_at_call 78; refine (spec_IsName.calls k _ _ _ HT.out).mono ?_; rintro e w9 ⟨rfl, hd⟩; have HD9 := Aside0.mk hd; clear hd))
          go_ret
          exact ⟨rfl, HD9.out⟩
        | false =>
          go_enter Try.func92, Try.ntmps92
          go_wp2_with (first | (go_at_call 78; refine (spec_IsName.calls k _ _ _ HT.out).mono ?_; rintro e w9 ⟨rfl, hd⟩; have HD9 := Aside0.mk hd; clear hd))
          go_ret
          exact ⟨rfl, HD9.out⟩
      · rw [if_neg e2] at h
        have e2a : ((d.length : Int) == 0) = false := beq_eq_false_iff_ne.mpr e2
        have e2b : ((d.length : Int) != 0) = true := bne_iff_ne.mpr e2
        clear e2
        obtain rfl := Option.some.inj h
        go_enter Try.func92, Try.ntmps92
        go_wp2
        go_ret
        exact ⟨rfl, Drawn0.refl _⟩
    · rw [if_neg e1] at h
      have e1a : (b == 0) = false := beq_eq_false_iff_ne.mpr e1
      have e1b : (b != 0) = true := bne_iff_ne.mpr e1
      clear e1
      obtain rfl := Option.some.inj h
      go_enter Try.func92, Try.ntmps92
      go_wp2
      go_ret
      exact ⟨rfl, Drawn0.refl _⟩
  rw [if_neg q3] at h
  have q3a : (a == 3) = false := beq_eq_false_iff_ne.mpr q3
  clear q3
  by_cases q16 : a = 16
  · rw [if_pos q16] at h
    subst q16
    by_cases e1 : b = 0
    · rw [if_pos e1] at h
      have e1a : (b == 0) = true := beq_iff_eq.mpr e1
      have e1b : (b != 0) = false := bne_eq_false_iff_eq.mpr e1
      clear e1
      by_cases e2 : (d.length : Int) = 0
      · rw [if_pos e2] at h
        have e2a : ((d.length : Int) == 0) = true := beq_iff_eq.mpr e2
        have e2b : ((d.length : Int) != 0) = false := bne_eq_false_iff_eq.mpr e2
        clear e2
        obtain ⟨t, ht, h⟩ := Option.bind_eq_some_iff.mp h
        obtain rfl := Option.some.inj h
        have HT := Aside0.mk ht
        clear ht
        cases t with
        | true =>
          go_enter Try.func92, Try.ntmps92
          go_wp2_with (first | (go_at_call 78; refine (spec_IsName.calls k _ _ _ HT.out).mono ?_; rintro e w9 ⟨rfl, hd⟩; have HD9 := Aside0.mk hd; clear hd))
          go_ret
          exact ⟨rfl, HD9.out⟩
        | false =>
          go_enter Try.func92, Try.ntmps92
          go_wp2_with (first | (go_at_call 78; refine (spec_IsName.calls k _ _ _ HT.out).mono ?_; rintro e w9 ⟨rfl, hd⟩; have HD9 := Aside0.mk hd; clear hd))
          go_ret
          exact ⟨rfl, HD9.out⟩
      · rw [if_neg e2] at h
        have e2a : ((d.length : Int) == 0) = false := beq_eq_false_iff_ne.mpr e2
        have e2b : ((d.length : Int) != 0) = true := bne_iff_ne.mpr e2
        clear e2
        obtain rfl := Option.some.inj h
        go_enter Try.func92, Try.ntmps92
        go_wp2
        go_ret
        exact ⟨rfl, Drawn0.refl _⟩
    · rw [if_neg e1] at h
      have e1a : (b == 0) = false := beq_eq_false_iff_ne.mpr e1
      have e1b : (b != 0) = true := bne_iff_ne.mpr e1
      clear e1
      obtain rfl := Option.some.inj h
      go_enter Try.func92, Try.ntmps92
      go_wp2
      go_ret
      exact ⟨rfl, Drawn0.refl _⟩
  rw [if_neg q16] at h
  have q16a : (a == 16) = false := beq_eq_false_iff_ne.mpr q16
  clear q16
  by_cases q17 : a = 17
  · rw [if_pos q17] at h
    subst q17
    by_cases e1 : b = 0
    · rw [if_pos e1] at h
      have e1a : (b == 0) = true := beq_iff_eq.mpr e1
      have e1b : (b != 0) = false := bne_eq_false_iff_eq.mpr e1
      clear e1
      by_cases e2 : (d.length : Int) = 0
      · rw [if_pos e2] at h
        have e2a : ((d.length : Int) == 0) = true := beq_iff_eq.mpr e2
        have e2b : ((d.length : Int) != 0) = false := bne_eq_false_iff_eq.mpr e2
        clear e2
        obtain ⟨t, ht, h⟩ := Option.bind_eq_some_iff.mp h
        obtain rfl := Option.some.inj h
        have HT := Aside0.mk ht
        clear ht
        cases t with
        | true =>
          go_enter Try.func92, Try.ntmps92
          go_wp2_with (first | (go_at_call 78; refine (spec_IsName.calls k _ _ _ HT.out).mono ?_; rintro e w9 ⟨rfl, hd⟩; have HD9 := Aside0.mk hd; clear hd))
          go_ret
          exact ⟨rfl, HD9.out⟩
        | false =>
          go_enter Try.func92, Try.ntmps92
          go_wp2_with (first | (go_at_call 78; refine (spec_IsName.calls k _ _ _ HT.out).mono ?_; rintro e w9 ⟨rfl, hd⟩; have HD9 := Aside0.mk hd; clear hd))
          go_ret
          exact ⟨rfl, HD9.out⟩
      · rw [if_neg e2] at h
        have e2a : ((d.length : Int) == 0) = false := beq_eq_false_iff_ne.mpr e2
        have e2b : ((d.length : Int) != 0) = true := bne_iff_ne.mpr e2
        clear e2
        obtain rfl := Option.some.inj h
        go_enter Try.func92, Try.ntmps92
        go_wp2
        go_ret
        exact ⟨rfl, Drawn0.refl _⟩
    · rw [if_neg e1] at h
      have e1a : (b == 0) = false := beq_eq_false_iff_ne.mpr e1
      have e1b : (b != 0) = true := bne_iff_ne.mpr e1
      clear e1
      obtain rfl := Option.some.inj h
      go_enter Try.func92, Try.ntmps92
      go_wp2
      go_ret
      exact ⟨rfl, Drawn0.refl _⟩
  rw [if_neg q17] at h
  have q17a : (a == 17) = false := beq_eq_false_iff_ne.mpr q17
  clear q17
  by_cases q18 : a = 18
  · rw [if_pos q18] at h
    subst q18
    by_cases e1 : b = 0
    · rw [if_pos e1] at h
      have e1a : (b == 0) = true := beq_iff_eq.mpr e1
      have e1b : (b != 0) = false := bne_eq_false_iff_eq.mpr e1
      clear e1
      by_cases e2 : (d.length : Int) = 0
      · rw [if_pos e2] at h
        have e2a : ((d.length : Int) == 0) = true := beq_iff_eq.mpr e2
        have e2b : ((d.length : Int) != 0) = false := bne_eq_false_iff_eq.mpr e2
        clear e2
        obtain ⟨t, ht, h⟩ := Option.bind_eq_some_iff.mp h
        obtain rfl := Option.some.inj h
        have HT := Aside0.mk ht
        clear ht
        cases t with
        | true =>
          go_enter Try.func92, Try.ntmps92
          go_wp2_with (first | (go_at_call 78; refine (spec_IsName.calls k _ _ _ HT.out).mono ?_; rintro e w9 ⟨rfl, hd⟩; have HD9 := Aside0.mk hd; clear hd))
          go_ret
          exact ⟨rfl, HD9.out⟩
        | false =>
          go_enter Try.func92, Try.ntmps92
          go_wp2_with (first | (go_at_call 78; refine (spec_IsName.calls k _ _ _ HT.out).mono ?_; rintro e w9 ⟨rfl, hd⟩; have HD9 := Aside0.mk hd; clear hd))
          go_ret
          exact ⟨rfl, HD9.out⟩
      · rw [if_neg e2] at h
        have e2a : ((d.length : Int) == 0) = false := beq_eq_false_iff_ne.mpr e2
        have e2b : ((d.length : Int) != 0) = true := bne_iff_ne.mpr e2
        clear e2
        obtain rfl := Option.some.inj h
        go_enter Try.func92, Try.ntmps92
        go_wp2
        go_ret
        exact ⟨rfl, Drawn0.refl _⟩
    · rw [if_neg e1] at h
      have e1a : (b == 0) = false := beq_eq_false_iff_ne.mpr e1
      have e1b : (b != 0) = true := bne_iff_ne.mpr e1
      clear e1
      obtain rfl := Option.some.inj h
      go_enter Try.func92, Try.ntmps92
      go_wp2
      go_ret
      exact ⟨rfl, Drawn0.refl _⟩
  rw [if_neg q18] at h
  have q18a : (a == 18) = false := beq_eq_false_iff_ne.mpr q18
  clear q18
  by_cases q4 : a = 4
  · rw [if_pos q4] at h
    subst q4
    by_cases e1 : b = 0
    · rw [if_pos e1] at h
      have e1a : (b == 0) = true := beq_iff_eq.mpr e1
      have e1b : (b != 0) = false := bne_eq_false_iff_eq.mpr e1
      clear e1
      obtain ⟨t, ht, h9⟩ := Option.bind_eq_some_iff.mp h
      clear h
      have h := h9
      clear h9
      have HT := Aside0.mk ht
      clear ht
      cases t with
      | true =>
        rw [if_pos rfl] at h
        obtain rfl := Option.some.inj h
        by_cases e6 : (d.length : Int) ≤ 6
        · have e6a := decide_eq_true e6
          have e6b : decide (d.length ≤ 6) = true := decide_eq_true (by omega)
          rw [e6a]
          clear e6
          go_enter Try.func92, Try.ntmps92
          go_wp2_with (go_at_call 78; refine (spec_IsName.calls k _ true _ HT.out).mono ?_; rintro e w9 ⟨rfl, ⟨⟨n9, rfl⟩⟩⟩)
          go_ret
          exact ⟨rfl, ⟨⟨_, rfl⟩⟩⟩
        · have e6a := decide_eq_false e6
          have e6b : decide (d.length ≤ 6) = false := decide_eq_false (by omega)
          rw [e6a]
          clear e6
          go_enter Try.func92, Try.ntmps92
          go_wp2_with (go_at_call 78; refine (spec_IsName.calls k _ true _ HT.out).mono ?_; rintro e w9 ⟨rfl, ⟨⟨n9, rfl⟩⟩⟩)
          go_ret
          exact ⟨rfl, ⟨⟨_, rfl⟩⟩⟩
      | false =>
        rw [if_neg (by simp)] at h
        obtain rfl := Option.some.inj h
        go_enter Try.func92, Try.ntmps92
        go_wp2_with (first | (go_at_call 78; refine (spec_IsName.calls k _ false _ HT.out).mono ?_; rintro e w9 ⟨rfl, hd⟩; have HD9 := Aside0.mk hd; clear hd))
        go_ret
        exact ⟨rfl, HD9.out⟩
    · rw [if_neg e1] at h
      have e1a : (b == 0) = false := beq_eq_false_iff_ne.mpr e1
      have e1b : (b != 0) = true := bne_iff_ne.mpr e1
      clear e1
      obtain rfl := Option.some.inj h
      go_enter Try.func92, Try.ntmps92
      go_wp2
      go_ret
      exact ⟨rfl, Drawn0.refl _⟩
  rw [if_neg q4] at h
  have q4a : (a == 4) = false := beq_eq_false_iff_ne.mpr q4
  clear q4
  by_cases q14 : a = 14
  · rw [if_pos q14] at h
    subst q14
    by_cases e1 : b = 0
    · rw [if_pos e1] at h
      have e1a : (b == 0) = true := beq_iff_eq.mpr e1
      have e1b : (b != 0) = false := bne_eq_false_iff_eq.mpr e1
      clear e1
      by_cases e2 : (d.length : Int) = 1
      · rw [if_pos e2] at h
        have e2a : ((d.length : Int) == 1) = true := beq_iff_eq.mpr e2
        have e2b : ((d.length : Int) != 1) = false := bne_eq_false_iff_eq.mpr e2
        clear e2
        obtain rfl := Option.some.inj h
        go_enter Try.func92, Try.ntmps92
        go_wp2
        go_ret
        exact ⟨rfl, Drawn0.refl _⟩
      · rw [if_neg e2] at h
        have e2a : ((d.length : Int) == 1) = false := beq_eq_false_iff_ne.mpr e2
        have e2b : ((d.length : Int) != 1) = true := bne_iff_ne.mpr e2
        clear e2
        obtain rfl := Option.some.inj h
        go_enter Try.func92, Try.ntmps92
        go_wp2
        go_ret
        exact ⟨rfl, Drawn0.refl _⟩
    · rw [if_neg e1] at h
      have e1a : (b == 0) = false := beq_eq_false_iff_ne.mpr e1
      have e1b : (b != 0) = true := bne_iff_ne.mpr e1
      clear e1
      obtain rfl := Option.some.inj h
      go_enter Try.func92, Try.ntmps92
      go_wp2
      go_ret
      exact ⟨rfl, Drawn0.refl _⟩
  rw [if_neg q14] at h
  have q14a : (a == 14) = false := beq_eq_false_iff_ne.mpr q14
  clear q14
  by_cases q15 : a = 15
  · rw [if_pos q15] at h
    subst q15
    by_cases e1 : b = 0
    · rw [if_pos e1] at h
      have e1a : (b == 0) = true := beq_iff_eq.mpr e1
      have e1b : (b != 0) = false := bne_eq_false_iff_eq.mpr e1
      clear e1
      by_cases e2 : (d.length : Int) = 1
      · rw [if_pos e2] at h
        have e2a : ((d.length : Int) == 1) = true := beq_iff_eq.mpr e2
        have e2b : ((d.length : Int) != 1) = false := bne_eq_false_iff_eq.mpr e2
        clear e2
        obtain rfl := Option.some.inj h
        go_enter Try.func92, Try.ntmps92
        go_wp2
        go_ret
        exact ⟨rfl, Drawn0.refl _⟩
      · rw [if_neg e2] at h
        have e2a : ((d.length : Int) == 1) = false := beq_eq_false_iff_ne.mpr e2
        have e2b : ((d.length : Int) != 1) = true := bne_iff_ne.mpr e2
        clear e2
        obtain rfl := Option.some.inj h
        go_enter Try.func92, Try.ntmps92
        go_wp2
        go_ret
        exact ⟨rfl, Drawn0.refl _⟩
    · rw [if_neg e1] at h
      have e1a : (b == 0) = false := beq_eq_false_iff_ne.mpr e1
      have e1b : (b != 0) = true := bne_iff_ne.mpr e1
      clear e1
      obtain rfl := Option.some.inj h
      go_enter Try.func92, Try.ntmps92
      go_wp2
      go_ret
      exact ⟨rfl, Drawn0.refl _⟩
  rw [if_neg q15] at h
  have q15a : (a == 15) = false := beq_eq_false_iff_ne.mpr q15
  clear q15
  by_cases q5 : a = 5
  · rw [if_pos q5] at h
    subst q5
    by_cases e1 : b = 0
    · rw [if_pos e1] at h
      have e1a : (b == 0) = true := beq_iff_eq.mpr e1
      have e1b : (b != 0) = false := bne_eq_false_iff_eq.mpr e1
      clear e1
      by_cases e2 : (d.length : Int) = 2
      · rw [if_pos e2] at h
        have e2a : ((d.length : Int) == 2) = true := beq_iff_eq.mpr e2
        have e2b : ((d.length : Int) != 2) = false := bne_eq_false_iff_eq.mpr e2
        clear e2
        obtain rfl := Option.some.inj h
        go_enter Try.func92, Try.ntmps92
        go_wp2
        go_ret
        exact ⟨rfl, Drawn0.refl _⟩
      · rw [if_neg e2] at h
        have e2a : ((d.length : Int) == 2) = false := beq_eq_false_iff_ne.mpr e2
        have e2b : ((d.length : Int) != 2) = true := bne_iff_ne.mpr e2
        clear e2
        obtain rfl := Option.some.inj h
        go_enter Try.func92, Try.ntmps92
        go_wp2
        go_ret
        exact ⟨rfl, Drawn0.refl _⟩
    · rw [if_neg e1] at h
      have e1a : (b == 0) = false := beq_eq_false_iff_ne.mpr e1
      have e1b : (b != 0) = true := bne_iff_ne.mpr e1
      clear e1
      obtain rfl := Option.some.inj h
      go_enter Try.func92, Try.ntmps92
      go_wp2
      go_ret
      exact ⟨rfl, Drawn0.refl _⟩
  rw [if_neg q5] at h
  have q5a : (a == 5) = false := beq_eq_false_iff_ne.mpr q5
  clear q5
  by_cases q6 : a = 6
  · rw [if_pos q6] at h
    subst q6
    by_cases e1 : b = 0
    · rw [if_pos e1] at h
      have e1a : (b == 0) = true := beq_iff_eq.mpr e1
      have e1b : (b != 0) = false := bne_eq_false_iff_eq.mpr e1
      clear e1
      by_cases e2 : (d.length : Int) = 2
      · rw [if_pos e2] at h
        have e2a : ((d.length : Int) == 2) = true := beq_iff_eq.mpr e2
        have e2b : ((d.length : Int) != 2) = false := bne_eq_false_iff_eq.mpr e2
        clear e2
        obtain rfl := Option.some.inj h
        go_enter Try.func92, Try.ntmps92
        go_wp2
        go_ret
        exact ⟨rfl, Drawn0.refl _⟩
      · rw [if_neg e2] at h
        have e2a : ((d.length : Int) == 2) = false := beq_eq_false_iff_ne.mpr e2
        have e2b : ((d.length : Int) != 2) = true := bne_iff_ne.mpr e2
        clear e2
        obtain rfl := Option.some.inj h
        go_enter Try.func92, Try.ntmps92
        go_wp2
        go_ret
        exact ⟨rfl, Drawn0.refl _⟩
    · rw [if_neg e1] at h
      have e1a : (b == 0) = false := beq_eq_false_iff_ne.mpr e1
      have e1b : (b != 0) = true := bne_iff_ne.mpr e1
      clear e1
      obtain rfl := Option.some.inj h
      go_enter Try.func92, Try.ntmps92
      go_wp2
      go_ret
      exact ⟨rfl, Drawn0.refl _⟩
  rw [if_neg q6] at h
  have q6a : (a == 6) = false := beq_eq_false_iff_ne.mpr q6
  clear q6
  by_cases q7 : a = 7
  · rw [if_pos q7] at h
    subst q7
    by_cases e1 : b = 0
    · rw [if_pos e1] at h
      have e1a : (b == 0) = true := beq_iff_eq.mpr e1
      have e1b : (b != 0) = false := bne_eq_false_iff_eq.mpr e1
      clear e1
      by_cases e2 : (d.length : Int) = 2
      · rw [if_pos e2] at h
        have e2a : ((d.length : Int) == 2) = true := beq_iff_eq.mpr e2
        have e2b : ((d.length : Int) != 2) = false := bne_eq_false_iff_eq.mpr e2
        clear e2
        obtain rfl := Option.some.inj h
        go_enter Try.func92, Try.ntmps92
        go_wp2
        go_ret
        exact ⟨rfl, Drawn0.refl _⟩
      · rw [if_neg e2] at h
        have e2a : ((d.length : Int) == 2) = false := beq_eq_false_iff_ne.mpr e2
        have e2b : ((d.length : Int) != 2) = true := bne_iff_ne.mpr e2
        clear e2
        obtain rfl := Option.some.inj h
        go_enter Try.func92, Try.ntmps92
        go_wp2
        go_ret
        exact ⟨rfl, Drawn0.refl _⟩
    · rw [if_neg e1] at h
      have e1a : (b == 0) = false := beq_eq_false_iff_ne.mpr e1
      have e1b : (b != 0) = true := bne_iff_ne.mpr e1
      clear e1
      obtain rfl := Option.some.inj h
      go_enter Try.func92, Try.ntmps92
      go_wp2
      go_ret
      exact ⟨rfl, Drawn0.refl _⟩
  rw [if_neg q7] at h
  have q7a : (a == 7) = false := beq_eq_false_iff_ne.mpr q7
  clear q7
  by_cases q8 : a = 8
  · rw [if_pos q8] at h
    subst q8
    by_cases e1 : b = 0
    · rw [if_pos e1] at h
      have e1a : (b == 0) = true := beq_iff_eq.mpr e1
      have e1b : (b != 0) = false := bne_eq_false_iff_eq.mpr e1
      clear e1
      by_cases e2 : (d.length : Int) = 2
      · rw [if_pos e2] at h
        have e2a : ((d.length : Int) == 2) = true := beq_iff_eq.mpr e2
        have e2b : ((d.length : Int) != 2) = false := bne_eq_false_iff_eq.mpr e2
        clear e2
        obtain rfl := Option.some.inj h
        go_enter Try.func92, Try.ntmps92
        go_wp2
        go_ret
        exact ⟨rfl, Drawn0.refl _⟩
      · rw [if_neg e2] at h
        have e2a : ((d.length : Int) == 2) = false := beq_eq_false_iff_ne.mpr e2
        have e2b : ((d.length : Int) != 2) = true := bne_iff_ne.mpr e2
        clear e2
        obtain rfl := Option.some.inj h
        go_enter Try.func92, Try.ntmps92
        go_wp2
        go_ret
        exact ⟨rfl, Drawn0.refl _⟩
    · rw [if_neg e1] at h
      have e1a : (b == 0) = false := beq_eq_false_iff_ne.mpr e1
      have e1b : (b != 0) = true := bne_iff_ne.mpr e1
      clear e1
      obtain rfl := Option.some.inj h
      go_enter Try.func92, Try.ntmps92
      go_wp2
      go_ret
      exact ⟨rfl, Drawn0.refl _⟩
  rw [if_neg q8] at h
  have q8a : (a == 8) = false := beq_eq_false_iff_ne.mpr q8
  clear q8
  by_cases q9 : a = 9
  · rw [if_pos q9] at h
    subst q9
    by_cases e1 : b = 0
    · rw [if_pos e1] at h
      have e1a : (b == 0) = true := beq_iff_eq.mpr e1
      have e1b : (b != 0) = false := bne_eq_false_iff_eq.mpr e1
      clear e1
      by_cases e2 : (d.length : Int) = 2
      · rw [if_pos e2] at h
        have e2a : ((d.length : Int) == 2) = true := beq_iff_eq.mpr e2
        have e2b : ((d.length : Int) != 2) = false := bne_eq_false_iff_eq.mpr e2
        clear e2
        obtain rfl := Option.some.inj h
        go_enter Try.func92, Try.ntmps92
        go_wp2
        go_ret
        exact ⟨rfl, Drawn0.refl _⟩
      · rw [if_neg e2] at h
        have e2a : ((d.length : Int) == 2) = false := beq_eq_false_iff_ne.mpr e2
        have e2b : ((d.length : Int) != 2) = true := bne_iff_ne.mpr e2
        clear e2
        obtain rfl := Option.some.inj h
        go_enter Try.func92, Try.ntmps92
        go_wp2
        go_ret
        exact ⟨rfl, Drawn0.refl _⟩
    · rw [if_neg e1] at h
      have e1a : (b == 0) = false := beq_eq_false_iff_ne.mpr e1
      have e1b : (b != 0) = true := bne_iff_ne.mpr e1
      clear e1
      obtain rfl := Option.some.inj h
      go_enter Try.func92, Try.ntmps92
      go_wp2
      go_ret
      exact ⟨rfl, Drawn0.refl _⟩
  rw [if_neg q9] at h
  have q9a : (a == 9) = false := beq_eq_false_iff_ne.mpr q9
  clear q9
  by_cases q10 : a = 10
  · rw [if_pos q10] at h
    subst q10
    by_cases e1 : b = 0
    · rw [if_pos e1] at h
      have e1a : (b == 0) = true := beq_iff_eq.mpr e1
      have e1b : (b != 0) = false := bne_eq_false_iff_eq.mpr e1
      clear e1
      by_cases e2 : (d.length : Int) = 2
      · rw [if_pos e2] at h
        have e2a : ((d.length : Int) == 2) = true := beq_iff_eq.mpr e2
        have e2b : ((d.length : Int) != 2) = false := bne_eq_false_iff_eq.mpr e2
        clear e2
        obtain rfl := Option.some.inj h
        go_enter Try.func92, Try.ntmps92
        go_wp2
        go_ret
        exact ⟨rfl, Drawn0.refl _⟩
      · rw [if_neg e2] at h
        have e2a : ((d.length : Int) == 2) = false := beq_eq_false_iff_ne.mpr e2
        have e2b : ((d.length : Int) != 2) = true := bne_iff_ne.mpr e2
        clear e2
        obtain rfl := Option.some.inj h
        go_enter Try.func92, Try.ntmps92
        go_wp2
        go_ret
        exact ⟨rfl, Drawn0.refl _⟩
    · rw [if_neg e1] at h
      have e1a : (b == 0) = false := beq_eq_false_iff_ne.mpr e1
      have e1b : (b != 0) = true := bne_iff_ne.mpr e1
      clear e1
      obtain rfl := Option.some.inj h
      go_enter Try.func92, Try.ntmps92
      go_wp2
      go_ret
      exact ⟨rfl, Drawn0.refl _⟩
  rw [if_neg q10] at h
  have q10a : (a == 10) = false := beq_eq_false_iff_ne.mpr q10
  clear q10
  by_cases q11 : a = 11
  · rw [if_pos q11] at h
    subst q11
    by_cases e1 : b = 0
    · rw [if_pos e1] at h
      have e1a : (b == 0) = true := beq_iff_eq.mpr e1
      have e1b : (b != 0) = false := bne_eq_false_iff_eq.mpr e1
      clear e1
      by_cases e2 : (d.length : Int) = 2
      · rw [if_pos e2] at h
        have e2a : ((d.length : Int) == 2) = true := beq_iff_eq.mpr e2
        have e2b : ((d.length : Int) != 2) = false := bne_eq_false_iff_eq.mpr e2
        clear e2
        obtain rfl := Option.some.inj h
        go_enter Try.func92, Try.ntmps92
        go_wp2
        go_ret
        exact ⟨rfl, Drawn0.refl _⟩
      · rw [if_neg e2] at h
        have e2a : ((d.length : Int) == 2) = false := beq_eq_false_iff_ne.mpr e2
        have e2b : ((d.length : Int) != 2) = true := bne_iff_ne.mpr e2
        clear e2
        obtain rfl := Option.some.inj h
        go_enter Try.func92, Try.ntmps92
        go_wp2
        go_ret
        exact ⟨rfl, Drawn0.refl _⟩
    · rw [if_neg e1] at h
      have e1a : (b == 0) = false := beq_eq_false_iff_ne.mpr e1
      have e1b : (b != 0) = true := bne_iff_ne.mpr e1
      clear e1
      obtain rfl := Option.some.inj h
      go_enter Try.func92, Try.ntmps92
      go_wp2
      go_ret
      exact ⟨rfl, Drawn0.refl _⟩
  rw [if_neg q11] at h
  have q11a : (a == 11) = false := beq_eq_false_iff_ne.mpr q11
  clear q11
  by_cases q12 : a = 12
  · rw [if_pos q12] at h
    subst q12
    by_cases e2 : (d.length : Int) = 2
    · rw [if_pos e2] at h
      have e2a : ((d.length : Int) == 2) = true := beq_iff_eq.mpr e2
      have e2b : ((d.length : Int) != 2) = false := bne_eq_false_iff_eq.mpr e2
      clear e2
      obtain ⟨ad, A5, c5, ea, g0, g1, g2, g3, gl, gC⟩ := at_T29 AC.out 1 (by omega) (by have := of_decide_eq_true (p := (1 : Int) < d.length) (by have := beq_iff_eq.mp e2a; exact decide_eq_true (by omega)); exact this)
      cases ea
      have GC := Aside0.mk gC
      clear gC
      have hl1 : (1 < d.length) = True := eq_true (by have := beq_iff_eq.mp e2a; omega)
      have hl2 : ((1 : Int) < (d.length : Int)) = True := eq_true (by have := beq_iff_eq.mp e2a; omega)
      have hl3 : decide ((1 : Int) < (d.length : Int)) = true := decide_eq_true (by have := beq_iff_eq.mp e2a; omega)
      (try simp only [show (1 : Int).toNat = 1 from rfl, Nat.reduceMul, Nat.reduceEqDiff, Go.Addr.add, ↓reduceIte] at g0)
      (try simp only [show (1 : Int).toNat = 1 from rfl, Nat.reduceMul, Nat.reduceEqDiff, Go.Addr.add, ↓reduceIte] at g1)
      (try simp only [show (1 : Int).toNat = 1 from rfl, Nat.reduceMul, Nat.reduceEqDiff, Go.Addr.add, ↓reduceIte] at g2)
      (try simp only [show (1 : Int).toNat = 1 from rfl, Nat.reduceMul, Nat.reduceEqDiff, Go.Addr.add, ↓reduceIte] at g3)
      by_cases e3 : (rd_T29 d 1).f0 = 3
      · rw [if_pos e3] at h
        have e3a : ((rd_T29 d 1).f0 == 3) = true := beq_iff_eq.mpr e3
        have e3b : ((rd_T29 d 1).f0 != 3) = false := bne_eq_false_iff_eq.mpr e3
        clear e3
        by_cases e1 : b = 0
        · rw [if_pos e1] at h
          have e1a : (b == 0) = true := beq_iff_eq.mpr e1
          have e1b : (b != 0) = false := bne_eq_false_iff_eq.mpr e1
          clear e1
          obtain rfl := Option.some.inj h
          go_enter Try.func92, Try.ntmps92
          go_wp2
          go_ret
          exact ⟨rfl, Drawn0.refl _⟩
        · rw [if_neg e1] at h
          have e1a : (b == 0) = false := beq_eq_false_iff_ne.mpr e1
          have e1b : (b != 0) = true := bne_iff_ne.mpr e1
          clear e1
          obtain rfl := Option.some.inj h
          go_enter Try.func92, Try.ntmps92
          go_wp2
          go_ret
          exact ⟨rfl, Drawn0.refl _⟩
      · rw [if_neg e3] at h
        have e3a : ((rd_T29 d 1).f0 == 3) = false := beq_eq_false_iff_ne.mpr e3
        have e3b : ((rd_T29 d 1).f0 != 3) = true := bne_iff_ne.mpr e3
        clear e3
        obtain rfl := Option.some.inj h
        go_enter Try.func92, Try.ntmps92
        go_wp2
        go_ret
        exact ⟨rfl, Drawn0.refl _⟩
    · rw [if_neg e2] at h
      have e2a : ((d.length : Int) == 2) = false := beq_eq_false_iff_ne.mpr e2
      have e2b : ((d.length : Int) != 2) = true := bne_iff_ne.mpr e2
      clear e2
      obtain rfl := Option.some.inj h
      by_cases e1 : b = 0
      · have e1a : (b == 0) = true := beq_iff_eq.mpr e1
        have e1b : (b != 0) = false := bne_eq_false_iff_eq.mpr e1
        clear e1
        go_enter Try.func92, Try.ntmps92
        go_wp2
        go_ret
        exact ⟨rfl, Drawn0.refl _⟩
      · have e1a : (b == 0) = false := beq_eq_false_iff_ne.mpr e1
        have e1b : (b != 0) = true := bne_iff_ne.mpr e1
        clear e1
        go_enter Try.func92, Try.ntmps92
        go_wp2
        go_ret
        exact ⟨rfl, Drawn0.refl _⟩
  rw [if_neg q12] at h
  have q12a : (a == 12) = false := beq_eq_false_iff_ne.mpr q12
  clear q12
  by_cases q13 : a = 13
  · rw [if_pos q13] at h
    subst q13
    by_cases e2 : (d.length : Int) = 2
    · rw [if_pos e2] at h
      have e2a : ((d.length : Int) == 2) = true := beq_iff_eq.mpr e2
      have e2b : ((d.length : Int) != 2) = false := bne_eq_false_iff_eq.mpr e2
      clear e2
      obtain ⟨ad, A5, c5, ea, g0, g1, g2, g3, gl, gC⟩ := at_T29 AC.out 1 (by omega) (by have := of_decide_eq_true (p := (1 : Int) < d.length) (by have := beq_iff_eq.mp e2a; exact decide_eq_true (by omega)); exact this)
      cases ea
      have GC := Aside0.mk gC
      clear gC
      have hl1 : (1 < d.length) = True := eq_true (by have := beq_iff_eq.mp e2a; omega)
      have hl2 : ((1 : Int) < (d.length : Int)) = True := eq_true (by have := beq_iff_eq.mp e2a; omega)
      have hl3 : decide ((1 : Int) < (d.length : Int)) = true := decide_eq_true (by have := beq_iff_eq.mp e2a; omega)
      (try simp only [show (1 : Int).toNat = 1 from rfl, Nat.reduceMul, Nat.reduceEqDiff, Go.Addr.add, ↓reduceIte] at g0)
      (try simp only [show (1 : Int).toNat = 1 from rfl, Nat.reduceMul, Nat.reduceEqDiff, Go.Addr.add, ↓reduceIte] at g1)
      (try simp only [show (1 : Int).toNat = 1 from rfl, Nat.reduceMul, Nat.reduceEqDiff, Go.Addr.add, ↓reduceIte] at g2)
      (try simp only [show (1 : Int).toNat = 1 from rfl, Nat.reduceMul, Nat.reduceEqDiff, Go.Addr.add, ↓reduceIte] at g3)
      by_cases e3 : (rd_T29 d 1).f0 = 3
      · rw [if_pos e3] at h
        have e3a : ((rd_T29 d 1).f0 == 3) = true := beq_iff_eq.mpr e3
        have e3b : ((rd_T29 d 1).f0 != 3) = false := bne_eq_false_iff_eq.mpr e3
        clear e3
        by_cases e1 : b = 0
        · rw [if_pos e1] at h
          have e1a : (b == 0) = true := beq_iff_eq.mpr e1
          have e1b : (b != 0) = false := bne_eq_false_iff_eq.mpr e1
          clear e1
          obtain rfl := Option.some.inj h
          go_enter Try.func92, Try.ntmps92
          go_wp2
          go_ret
          exact ⟨rfl, Drawn0.refl _⟩
        · rw [if_neg e1] at h
          have e1a : (b == 0) = false := beq_eq_false_iff_ne.mpr e1
          have e1b : (b != 0) = true := bne_iff_ne.mpr e1
          clear e1
          obtain rfl := Option.some.inj h
          go_enter Try.func92, Try.ntmps92
          go_wp2
          go_ret
          exact ⟨rfl, Drawn0.refl _⟩
      · rw [if_neg e3] at h
        have e3a : ((rd_T29 d 1).f0 == 3) = false := beq_eq_false_iff_ne.mpr e3
        have e3b : ((rd_T29 d 1).f0 != 3) = true := bne_iff_ne.mpr e3
        clear e3
        obtain rfl := Option.some.inj h
        go_enter Try.func92, Try.ntmps92
        go_wp2
        go_ret
        exact ⟨rfl, Drawn0.refl _⟩
    · rw [if_neg e2] at h
      have e2a : ((d.length : Int) == 2) = false := beq_eq_false_iff_ne.mpr e2
      have e2b : ((d.length : Int) != 2) = true := bne_iff_ne.mpr e2
      clear e2
      obtain rfl := Option.some.inj h
      by_cases e1 : b = 0
      · have e1a : (b == 0) = true := beq_iff_eq.mpr e1
        have e1b : (b != 0) = false := bne_eq_false_iff_eq.mpr e1
        clear e1
        go_enter Try.func92, Try.ntmps92
        go_wp2
        go_ret
        exact ⟨rfl, Drawn0.refl _⟩
      · have e1a : (b == 0) = false := beq_eq_false_iff_ne.mpr e1
        have e1b : (b != 0) = true := bne_iff_ne.mpr e1
        clear e1
        go_enter Try.func92, Try.ntmps92
        go_wp2
        go_ret
        exact ⟨rfl, Drawn0.refl _⟩
  rw [if_neg q13] at h
  have q13a : (a == 13) = false := beq_eq_false_iff_ne.mpr q13
  clear q13
  obtain rfl := Option.some.inj h
  go_enter Try.func92, Try.ntmps92
  go_wp2
  go_ret
  exact ⟨rfl, Drawn0.refl _⟩
mutual
def spec_l03Nodes.l0 : Nat → Int → List S29 → Option Bool
  | 0, _, _ => none
  | k + 1, i, l => if i < (l.length : Int) then (if 0 ≤ i then ((spec_l03Nodes.f k (rd_T29 l i)).bind fun t => (if t = true then (spec_l03Nodes.l0 k (wrap64 (i + 1)) l) else (some false))) else (none)) else (some true)
def spec_l03Nodes.f : Nat → S29 → Option Bool
  | 0, _ => none
  | k + 1, x => (spec_l03ShapeP.f k x).bind fun t => (if t = true then (spec_l03Nodes.l0 k 0 x.f3) else (some false))
end
theorem spec_l03Nodes.mono_l : ∀ k, (∀ i l, LeO (spec_l03Nodes.l0 k i l) (spec_l03Nodes.l0 (k + 1) i l)) ∧ (∀ x, LeO (spec_l03Nodes.f k x) (spec_l03Nodes.f (k + 1) x)) := by
  intro k
  induction k with
  | zero => exact ⟨fun i l => by unfold spec_l03Nodes.l0; exact LeO.none _, fun x => by unfold spec_l03Nodes.f; exact LeO.none _⟩
  | succ k ih =>
    obtain ⟨ih0, ih1⟩ := ih
    refine ⟨?_, ?_⟩
    · intro i l
      unfold spec_l03Nodes.l0
      repeat' first
      | (with_reducible exact ih0 _ _)
      | (with_reducible exact ih1 _)
      | (with_reducible exact LeO.refl _)
      | (with_reducible exact LeO.none _)
      | (with_reducible refine LeO.ite ?_ ?_)
      | (with_reducible refine LeO.bind ?_ (fun _ => ?_))
    · intro x
      unfold spec_l03Nodes.f
      repeat' first
      | (with_reducible exact ih0 _ _)
      | (with_reducible exact spec_l03ShapeP.mono _ _)
      | (with_reducible exact LeO.refl _)
      | (with_reducible refine LeO.ite ?_ ?_)
      | (with_reducible refine LeO.bind ?_ (fun _ => ?_))
set_option maxHeartbeats 4000000 in
set_option maxRecDepth 100000 in
theorem spec_l03Nodes.calls (k : Nat) : ∀ (A : Addr) (x : S29) (r : Bool) (w : World) (hA : PtV w A x) (h : spec_l03Nodes.f k x = some r),
    Calls Try.prog 65 #[.pointer (some A)] w fun e w' => e = .returned (.bool r) ∧ Drawn0 w w' := by
  induction k using Nat.strongRecOn with
  | _ k ih =>
  intro A x r w hA h
  cases k with
  | zero => exact absurd h (by simp [spec_l03Nodes.f])
  | succ k =>
  simp only [spec_l03Nodes.f] at h
  have hu := Try.underlying29
  have HA := Aside0.mk hA
  obtain ⟨t, ht, h⟩ := Option.bind_eq_some_iff.mp h
  have HT := Aside0.mk ht
  clear hA ht
  cases t with
  | false =>
    rw [if_neg (by simp)] at h
    obtain rfl := Option.some.inj h
    go_enter Try.func65, Try.ntmps65
    go_wp2_with (go_at_call 92; refine (spec_l03ShapeP.calls k _ x false _ HA.out HT.out).mono ?_; rintro e w9 ⟨rfl, hd⟩; have HD9 := Aside0.mk hd; clear hd)
    go_ret
    exact ⟨rfl, HD9.out⟩
  | true =>
    rw [if_pos rfl] at h
    have H := Aside0.mk h
    clear h
    go_enter Try.func65, Try.ntmps65
    go_wp2_with (go_at_call 92; refine (spec_l03ShapeP.calls k _ x true _ HA.out HT.out).mono ?_; rintro e w9 ⟨rfl, hd⟩; have HD9 := Aside0.mk hd; clear hd)
    go_loopg [3] k (fun kq v3 w' => ∃ (x4 : Int), v3 = .int .i64 x4 ∧ Aside0 (spec_l03Nodes.l0 kq x4 x.f3 = some r) ∧ Aside0 (kq ≤ k) ∧ Aside0 (Drawn0 w w'))
    case atStart => exact ⟨0, rfl, H, ⟨Nat.le_refl _⟩, HD9⟩
    case round =>
      clear H HD9
      obtain ⟨x4, rfl, HL, HK, HD⟩ := hrel
      obtain ⟨A4, c4, a0, a1, a2, a3, al2, aC⟩ := PtV_drawn HA.out HD.out
      have AC2 := Aside0.mk aC
      clear aC
      cases gk with
      | zero => exact absurd HL.out (by simp [spec_l03Nodes.l0])
      | succ kp =>
        have H := HL.out
        clear HL
        simp only [spec_l03Nodes.l0] at H
        by_cases c5 : x4 < (x.f3.length : Int)
        · rw [if_pos c5] at H
          have c5b := decide_eq_true c5
          by_cases c7 : 0 ≤ x4
          · rw [if_pos c7] at H
            obtain ⟨t, ht, H⟩ := Option.bind_eq_some_iff.mp H
            have HT2 := Aside0.mk ht
            have HS := Aside0.mk H
            clear ht H
            obtain ⟨ad, ea, pa⟩ := PtV_elem AC2.out x4 c7 c5
            cases ea
            have PA := Aside0.mk pa
            clear pa
            replace c5 := eq_true c5
            replace c7 := eq_true c7
            cases t with
            | true =>
              have H' := Aside0.mk (show spec_l03Nodes.l0 kp (wrap64 (x4 + 1)) x.f3 = some r by have := HS.out; rw [if_pos rfl] at this; exact this)
              clear HS
              go_wp2_with (go_at_call 65; refine (ih kp (by have := HK.out; omega) _ _ true _ (by first | exact PA.out | exact PtV_drawn PA.out ⟨⟨_, rfl⟩⟩) HT2.out).mono ?_; rintro e w9 ⟨rfl, hd⟩; have HD9 := Aside0.mk (drawn_trans_ HD.out hd); clear hd)
              go_roundg kp
              case measure => have := HK.out; omega
              case rel => exact ⟨_, rfl, H', ⟨by have := HK.out; omega⟩, HD9⟩
            | false =>
              have hr : false = r := by have := HS.out; rw [if_neg (by simp)] at this; exact Option.some.inj this
              subst hr
              clear HS
              go_wp2_with (go_at_call 65; refine (ih kp (by have := HK.out; omega) _ _ false _ (by first | exact PA.out | exact PtV_drawn PA.out ⟨⟨_, rfl⟩⟩) HT2.out).mono ?_; rintro e w9 ⟨rfl, hd⟩; have HD9 := Aside0.mk (drawn_trans_ HD.out hd); clear hd)
              go_ret
              exact ⟨rfl, HD9.out⟩
          · rw [if_neg c7] at H
            exact absurd H (by simp)
        · rw [if_neg c5] at H
          obtain rfl := Option.some.inj H
          have c5b := decide_eq_false c5
          clear c5
          go_wp2
          go_ret
          exact ⟨rfl, HD.out⟩
def spec_l03Ok.f (k : Nat) (x : S29) : Option Bool := (spec_l03Size.f k x).bind fun n => (if n ≤ 60 then ((spec_l03Nodes.f k x).bind fun t => some t) else (some false))
theorem spec_l03Ok.mono : ∀ x k, LeO (spec_l03Ok.f k x) (spec_l03Ok.f (k + 1) x) := by
  intro x k
  unfold spec_l03Ok.f
  repeat' first
  | (with_reducible exact (spec_l03Size.mono_l k).2 _)
  | (with_reducible exact (spec_l03Nodes.mono_l k).2 _)
  | (with_reducible exact LeO.refl _)
  | (with_reducible refine LeO.ite ?_ ?_)
  | (with_reducible refine LeO.bind ?_ (fun _ => ?_))
set_option maxHeartbeats 4000000 in
set_option maxRecDepth 100000 in
theorem spec_l03Ok.calls (k : Nat) (A : Addr) (x : S29) (r : Bool) (w : World) (hA : PtV w A x) (h : spec_l03Ok.f k x = some r) :
    Calls Try.prog 36 #[.pointer (some A)] w fun e w' => e = .returned (.bool r) ∧ Drawn0 w w' := by
  unfold spec_l03Ok.f at h
  obtain ⟨n, hn, h⟩ := Option.bind_eq_some_iff.mp h
  have HA := Aside0.mk hA
  have HN := Aside0.mk hn
  clear hA hn
  by_cases c : n ≤ 60
  · rw [if_pos c] at h
    obtain ⟨t, ht, h⟩ := Option.bind_eq_some_iff.mp h
    obtain rfl := Option.some.inj h
    have HT := Aside0.mk ht
    have cb := decide_eq_true c
    clear ht c
    go_enter Try.func36, Try.ntmps36
    go_wp2_with (first | (go_at_call 40; refine (spec_l03Size.calls k _ x n _ HA.out HN.out).mono ?_; rintro e w9 ⟨rfl, hd⟩; have HD9 := Aside0.mk hd; clear hd) | (go_at_call 65; refine (spec_l03Nodes.calls k _ x t _ (PtV_drawn HA.out HD9.out) HT.out).mono ?_; rintro e w8 ⟨rfl, hd⟩; have HD8 := Aside0.mk (drawn_trans_ HD9.out hd); clear hd))
    go_ret
    exact ⟨rfl, HD8.out⟩
  · rw [if_neg c] at h
    obtain rfl := Option.some.inj h
    have cb := decide_eq_false c
    clear c
    go_enter Try.func36, Try.ntmps36
    go_wp2_with (go_at_call 40; refine (spec_l03Size.calls k _ x n _ HA.out HN.out).mono ?_; rintro e w9 ⟨rfl, hd⟩; have HD9 := Aside0.mk hd; clear hd)
    go_ret
    exact ⟨rfl, HD9.out⟩
def spec_ExprNodes.f (k : Nat) (a0 a1 : Int) (a2 : ByteArray) (a3 : List S29) : Option Int := (spec_l03Ok.f k ⟨a0, a1, a2, a3⟩).bind fun t => (if t = true then ((spec_l03Size.f k ⟨a0, a1, a2, a3⟩).bind fun n => some n) else (some 0))
theorem spec_ExprNodes.mono : ∀ a0 a1 a2 a3 k, LeO (spec_ExprNodes.f k a0 a1 a2 a3) (spec_ExprNodes.f (k + 1) a0 a1 a2 a3) := by
  intro a0 a1 a2 a3 k
  unfold spec_ExprNodes.f
  repeat' first
  | (with_reducible exact spec_l03Ok.mono _ _)
  | (with_reducible exact (spec_l03Size.mono_l k).2 _)
  | (with_reducible exact LeO.refl _)
  | (with_reducible refine LeO.ite ?_ ?_)
  | (with_reducible refine LeO.bind ?_ (fun _ => ?_))
set_option maxHeartbeats 4000000 in
set_option maxRecDepth 100000 in
theorem spec_ExprNodes.calls (k : Nat) (a0_0 : Int) (a0_1 : Int) (a0_2 : ByteArray) (A0_3 : Option Addr) (c0_3 : Nat) (l0_3 : List S29) (r : Int) (w : World) (hr0_3 : Kd.C k29 w A0_3 l0_3.length l0_3) (hc0_3 : l0_3.length ≤ c0_3) (h : spec_ExprNodes.f k a0_0 a0_1 a0_2 l0_3 = some r) :
    Calls Try.prog 14 #[.agg #[.int .i64 a0_0, .int .i64 a0_1, .string a0_2, .slice A0_3 l0_3.length c0_3]] w fun e w' => e = .returned (.int .i64 r) ∧ Below w.heap.size w w' := by
  have HR0 := Aside0.mk hr0_3
  have HC0 := Aside0.mk hc0_3
  unfold spec_ExprNodes.f at h
  clear hr0_3 hc0_3
  obtain ⟨t, ht, h⟩ := Option.bind_eq_some_iff.mp h
  have HT := Aside0.mk ht
  clear ht
  cases t with
  | true =>
    rw [if_pos rfl] at h
    obtain ⟨n, hn, h⟩ := Option.bind_eq_some_iff.mp h
    obtain rfl := Option.some.inj h
    have HN := Aside0.mk hn
    clear hn
    go_enter Try.func14, Try.ntmps14
    go_wp2_with (first | (go_at_call 36; refine (spec_l03Ok.calls k _ ⟨a0_0, a0_1, a0_2, l0_3⟩ true _ (PtV_blk (by exact blk_new _ _) HC0.out HR0.out (by repeat (first | exact Below.refl _ _ | apply below_alloc))) HT.out).mono ?_; rintro e w' ⟨rfl, hd⟩; have HW := Aside0.mk (below_then (by repeat (first | exact Below.refl _ _ | apply below_alloc)) (by simp) hd.below : Below w.heap.size w w'); have PC : Aside0 (PtV w' ⟨w.heap.size, 0, none⟩ ⟨a0_0, a0_1, a0_2, l0_3⟩) := ⟨PtV_drawn (PtV_blk (by exact blk_new _ _) HC0.out HR0.out (by repeat (first | exact Below.refl _ _ | apply below_alloc))) hd⟩; clear hd) | (go_at_call 40; refine (spec_l03Size.calls k _ ⟨a0_0, a0_1, a0_2, l0_3⟩ n _ PC.out HN.out).mono ?_; rintro e w8 ⟨rfl, hd⟩; have HW8 := Aside0.mk (below_then HW.out HW.out.size hd.below); clear hd))
    go_ret
    exact ⟨rfl, HW8.out⟩
  | false =>
    rw [if_neg (by simp)] at h
    obtain rfl := Option.some.inj h
    go_enter Try.func14, Try.ntmps14
    go_wp2_with (go_at_call 36; refine (spec_l03Ok.calls k _ ⟨a0_0, a0_1, a0_2, l0_3⟩ false _ (PtV_blk (by exact blk_new _ _) HC0.out HR0.out (by repeat (first | exact Below.refl _ _ | apply below_alloc))) HT.out).mono ?_; rintro e w' ⟨rfl, hd⟩; have HW := Aside0.mk (below_then (by repeat (first | exact Below.refl _ _ | apply below_alloc)) (by simp) hd.below : Below w.heap.size w w'); clear hd)
    go_ret
    exact ⟨rfl, HW.out⟩

end Go.Proofs.Ytfilllhbhgkmaaa.PFnExactExprNodes
