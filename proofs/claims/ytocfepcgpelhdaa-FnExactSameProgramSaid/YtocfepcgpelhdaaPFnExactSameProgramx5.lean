/- By a program of this session: for each Go function that the law reaches, a Lean function with the same answers, and that the code comes to exactly these answers. Conditions: none beyond each statement. -/
import Derived.Test.YtocfepcgpelhdaaPFnExactSameProgramx0
namespace Go.Proofs.Ytocfepcgpelhdaa.PFnExactSameProgram
open Go.RowKit Go.Proofs.YtocfepcgpelhdaaW.PrintWords Go.Proofs.YtocfepcgpelhdaaW.PrintLast Go.Proofs.YtocfepcgpelhdaaW.PrintMore
attribute [local go_sem] max2_int min2_int max_two min_two max_three min_three max_four min_four   -- for this text's walks alone
set_option linter.unusedVariables false
set_option linter.unusedSimpArgs false

/-! ### impl_SameExpr: function 32 -/
/-! ### impl_Expr_at_impl_SameExpr: function 61 -/
mutual
def impl_SameExpr.f : Nat → Int → Int → ByteArray → List (S33) → Int → Int → ByteArray → List (S33) → Option (Bool)
  | 0, _, _, _, _, _, _, _, _ => none
  | k + 1, a0_0, a0_1, a0_2, l0_3, a1_0, a1_1, a1_2, l1_3 => if a0_0 = a1_0 then (if a0_1 = a1_1 then (if a0_2.toList = a1_2.toList then ((impl_Expr_at_impl_SameExpr.f k l0_3 l1_3).bind fun t140 => (some t140)) else (some false)) else (some false)) else (some false)
def impl_Expr_at_impl_SameExpr.l0 : Nat → List (S33) → List (S33) → Int → Int → Option (Bool)
  | 0, _, _, _, _ => none
  | k + 1, x1, x15, x16, x17 => if x17 < x16 then (if 0 ≤ x17 then (if x17 < (x15.length : Int) then (if x17 < (x1.length : Int) then ((impl_SameExpr.f k ((rd_T33 x15 x17).f0) ((rd_T33 x15 x17).f1) ((rd_T33 x15 x17).f2) ((rd_T33 x15 x17).f3) ((rd_T33 x1 x17).f0) ((rd_T33 x1 x17).f1) ((rd_T33 x1 x17).f2) ((rd_T33 x1 x17).f3)).bind fun t145 => (if t145 = true then (impl_Expr_at_impl_SameExpr.l0 k x1 x15 x16 (wrap64 (x17 + 1))) else (some false))) else (none)) else (none)) else (none)) else (some true)
def impl_Expr_at_impl_SameExpr.f : Nat → List (S33) → List (S33) → Option (Bool)
  | 0, _, _ => none
  | k + 1, l0, l1 => if (l0.length : Int) = (l1.length : Int) then (impl_Expr_at_impl_SameExpr.l0 k l1 l0 (l0.length : Int) 0) else (some false)
end
theorem impl_SameExpr_group.mono_l : ∀ k, (∀ y0 y1 y2 y3 y4 y5 y6 y7, LeO (impl_SameExpr.f k y0 y1 y2 y3 y4 y5 y6 y7) (impl_SameExpr.f (k + 1) y0 y1 y2 y3 y4 y5 y6 y7)) ∧ (∀ y0 y1, LeO (impl_Expr_at_impl_SameExpr.f k y0 y1) (impl_Expr_at_impl_SameExpr.f (k + 1) y0 y1)) ∧ (∀ y0 y1 y2 y3, LeO (impl_Expr_at_impl_SameExpr.l0 k y0 y1 y2 y3) (impl_Expr_at_impl_SameExpr.l0 (k + 1) y0 y1 y2 y3))
  | 0 => ⟨fun _ _ _ _ _ _ _ _ r h => by simp [impl_SameExpr.f] at h, fun _ _ r h => by simp [impl_Expr_at_impl_SameExpr.f] at h, fun _ _ _ _ r h => by simp [impl_Expr_at_impl_SameExpr.l0] at h⟩
  | k + 1 => by
    obtain ⟨ih0, ih1, ih2⟩ := impl_SameExpr_group.mono_l k
    refine ⟨?_, ?_, ?_⟩
    · intro y0 y1 y2 y3 y4 y5 y6 y7
      unfold impl_SameExpr.f
      repeat' first
      | (with_reducible exact ih0 _ _ _ _ _ _ _ _)
      | (with_reducible exact ih1 _ _)
      | (with_reducible exact ih2 _ _ _ _)
      | (with_reducible exact LeO.refl _)
      | (with_reducible exact LeO.none _)
      | (with_reducible refine LeO.ite ?_ ?_)
      | (with_reducible refine LeO.bind ?_ (fun _ => ?_))
      | exact ih0 _ _ _ _ _ _ _ _
      | exact ih1 _ _
      | exact ih2 _ _ _ _
      | exact LeO.none _
      | refine LeO.ite ?_ ?_
      | refine LeO.bind ?_ (fun _ => ?_)
    · intro y0 y1
      unfold impl_Expr_at_impl_SameExpr.f
      repeat' first
      | (with_reducible exact ih0 _ _ _ _ _ _ _ _)
      | (with_reducible exact ih1 _ _)
      | (with_reducible exact ih2 _ _ _ _)
      | (with_reducible exact LeO.refl _)
      | (with_reducible exact LeO.none _)
      | (with_reducible refine LeO.ite ?_ ?_)
      | (with_reducible refine LeO.bind ?_ (fun _ => ?_))
      | exact ih0 _ _ _ _ _ _ _ _
      | exact ih1 _ _
      | exact ih2 _ _ _ _
      | exact LeO.none _
      | refine LeO.ite ?_ ?_
      | refine LeO.bind ?_ (fun _ => ?_)
    · intro y0 y1 y2 y3
      unfold impl_Expr_at_impl_SameExpr.l0
      repeat' first
      | (with_reducible exact ih0 _ _ _ _ _ _ _ _)
      | (with_reducible exact ih1 _ _)
      | (with_reducible exact ih2 _ _ _ _)
      | (with_reducible exact LeO.refl _)
      | (with_reducible exact LeO.none _)
      | (with_reducible refine LeO.ite ?_ ?_)
      | (with_reducible refine LeO.bind ?_ (fun _ => ?_))
      | exact ih0 _ _ _ _ _ _ _ _
      | exact ih1 _ _
      | exact ih2 _ _ _ _
      | exact LeO.none _
      | refine LeO.ite ?_ ?_
      | refine LeO.bind ?_ (fun _ => ?_)
theorem impl_SameExpr.mono : ∀ a0 a1 a2 a3 a4 a5 a6 a7 k, LeO (impl_SameExpr.f k a0 a1 a2 a3 a4 a5 a6 a7) (impl_SameExpr.f (k + 1) a0 a1 a2 a3 a4 a5 a6 a7) := by
  intro a0 a1 a2 a3 a4 a5 a6 a7 k
  obtain ⟨ih0, ih1, ih2⟩ := impl_SameExpr_group.mono_l k
  exact ih0 a0 a1 a2 a3 a4 a5 a6 a7
theorem impl_Expr_at_impl_SameExpr.mono : ∀ a0 a1 k, LeO (impl_Expr_at_impl_SameExpr.f k a0 a1) (impl_Expr_at_impl_SameExpr.f (k + 1) a0 a1) := by
  intro a0 a1 k
  obtain ⟨ih0, ih1, ih2⟩ := impl_SameExpr_group.mono_l k
  exact ih1 a0 a1
set_option maxHeartbeats 8000000 in
set_option maxRecDepth 100000 in
theorem impl_SameExpr.step (k : Nat)
    (ih_32 : ∀ m_, m_ < k → ∀ (a0_0 : Int) (a0_1 : Int) (a0_2 : ByteArray) (A0_3 : Option Addr) (c0_3 : Nat) (l0_3 : List (S33)) (a1_0 : Int) (a1_1 : Int) (a1_2 : ByteArray) (A1_3 : Option Addr) (c1_3 : Nat) (l1_3 : List (S33)) (r : Bool) (w : World) (hr0_3 : Kd.C k33 w A0_3 l0_3.length l0_3) (hc0_3 : l0_3.length ≤ c0_3) (hr1_3 : Kd.C k33 w A1_3 l1_3.length l1_3) (hc1_3 : l1_3.length ≤ c1_3) (h : impl_SameExpr.f m_ a0_0 a0_1 a0_2 l0_3 a1_0 a1_1 a1_2 l1_3 = some r),
    Calls Try.prog 32 #[.agg #[.int .i64 a0_0, .int .i64 a0_1, .string a0_2, .slice A0_3 l0_3.length c0_3], .agg #[.int .i64 a1_0, .int .i64 a1_1, .string a1_2, .slice A1_3 l1_3.length c1_3]] w fun e w' => e = .returned (.bool r) ∧ Below w.heap.size w w')
    (ih_61 : ∀ m_, m_ < k → ∀ (A0 : Option Addr) (c0 : Nat) (l0 : List (S33)) (A1 : Option Addr) (c1 : Nat) (l1 : List (S33))  (r : Bool) (w : World) (hr0 : Kd.C k33 w A0 l0.length l0) (hc0 : l0.length ≤ c0) (hr1 : Kd.C k33 w A1 l1.length l1) (hc1 : l1.length ≤ c1) (h : impl_Expr_at_impl_SameExpr.f m_ l0 l1 = some r),
    Calls Try.prog 61 #[.slice A0 l0.length c0, .slice A1 l1.length c1, .func (.func 32) #[] #[]] w fun e w' => e = .returned (.bool r) ∧ Below w.heap.size w w') : ∀ (a0_0 : Int) (a0_1 : Int) (a0_2 : ByteArray) (A0_3 : Option Addr) (c0_3 : Nat) (l0_3 : List (S33)) (a1_0 : Int) (a1_1 : Int) (a1_2 : ByteArray) (A1_3 : Option Addr) (c1_3 : Nat) (l1_3 : List (S33)) (r : Bool) (w : World) (hr0_3 : Kd.C k33 w A0_3 l0_3.length l0_3) (hc0_3 : l0_3.length ≤ c0_3) (hr1_3 : Kd.C k33 w A1_3 l1_3.length l1_3) (hc1_3 : l1_3.length ≤ c1_3) (h : impl_SameExpr.f k a0_0 a0_1 a0_2 l0_3 a1_0 a1_1 a1_2 l1_3 = some r),
    Calls Try.prog 32 #[.agg #[.int .i64 a0_0, .int .i64 a0_1, .string a0_2, .slice A0_3 l0_3.length c0_3], .agg #[.int .i64 a1_0, .int .i64 a1_1, .string a1_2, .slice A1_3 l1_3.length c1_3]] w fun e w' => e = .returned (.bool r) ∧ Below w.heap.size w w' := by
  intro a0_0 a0_1 a0_2 A0_3 c0_3 l0_3 a1_0 a1_1 a1_2 A1_3 c1_3 l1_3 r w hr0_3 hc0_3 hr1_3 hc1_3 h
  cases k with
  | zero => exact absurd h (by simp [impl_SameExpr.f])
  | succ k =>
  simp only [impl_SameExpr.f] at h
  have hu33 := Try.underlying33
  have HR0_3 := Aside0.mk hr0_3
  have HC0_3 := Aside0.mk hc0_3
  clear hr0_3 hc0_3
  have HR1_3 := Aside0.mk hr1_3
  have HC1_3 := Aside0.mk hc1_3
  clear hr1_3 hc1_3
  have HB := Aside0.mk (Below.refl w.heap.size w)
  have H : (if a0_0 = a1_0 then (if a0_1 = a1_1 then (if a0_2.toList = a1_2.toList then ((impl_Expr_at_impl_SameExpr.f k l0_3 l1_3).bind fun t140 => (some t140)) else (some false)) else (some false)) else (some false)) = some r := h
  clear h
  by_cases c3 : a0_0 = a1_0
  · rw [if_pos c3] at H
    have c3b0 : (a0_0 == a1_0) = true := beq_iff_eq.mpr c3
    have c3b1 : (a0_0 != a1_0) = false := bne_eq_false_iff_eq.mpr c3
    clear c3
    by_cases c4 : a0_1 = a1_1
    · rw [if_pos c4] at H
      have c4b0 : (a0_1 == a1_1) = true := beq_iff_eq.mpr c4
      have c4b1 : (a0_1 != a1_1) = false := bne_eq_false_iff_eq.mpr c4
      clear c4
      by_cases c5 : a0_2.toList = a1_2.toList
      · rw [if_pos c5] at H
        have c5b0 : (a0_2.toList == a1_2.toList) = true := beq_iff_eq.mpr c5
        have c5b1 : (a0_2.toList != a1_2.toList) = false := bne_eq_false_iff_eq.mpr c5
        clear c5
        replace H := Option.bind_eq_some_iff.mp H
        obtain ⟨t140, A60, H⟩ := H
        replace H : (some t140) = some r := H
        have A6 := Aside0.mk A60
        clear A60
        obtain rfl := Option.some.inj H
        go_enter Try.func32, Try.ntmps32
        go_wp2_with (first | ((with_reducible refine gate_dst (N := 2) rfl ?_); refine box_event ?hg (N := 2) ?hd (cs := #[.int .i64 a0_0, .int .i64 a0_1, .string a0_2, .slice A0_3 l0_3.length c0_3]) (t := 33) ?hr ?_; (case hd => rfl); (case hg => rfl); (case hr => first | (go_simp; done) | (go_simp; rfl)); intro gb138 hg w7 hbox hb; have n0_ := Aside0.mk (below_step (by repeat (first | (with_reducible first | exact HB.out | apply below_alloc | apply pw_below_drewN | apply below_drew1) | exact HB.out)) hb); have n1_ := Aside0.mk (hbox); have n2_ := Aside0.mk ((by rw [hg]; exact (below_size (by repeat (first | (with_reducible first | exact HB.out | apply below_alloc | apply pw_below_drewN | apply below_drew1) | exact HB.out))) : w.heap.size ≤ gb138)); have n3_ := Aside0.mk ((by rw [hg]; exact (below_size (by repeat (first | (with_reducible first | exact HB.out | apply below_alloc | apply pw_below_drewN | apply below_drew1) | exact HB.out))) : w.heap.size ≤ gb138)); clear HB; have HB := n0_; have BK138 := n1_; have GW138 := n2_; have GE138 := n3_; clear n0_ n1_ n2_ n3_; clear hb hbox hg) | ((with_reducible refine gate_dst (N := 3) rfl ?_); refine box_event ?hg (N := 3) ?hd (cs := #[.int .i64 a1_0, .int .i64 a1_1, .string a1_2, .slice A1_3 l1_3.length c1_3]) (t := 33) ?hr ?_; (case hd => rfl); (case hg => rfl); (case hr => first | (go_simp; done) | (go_simp; rfl)); intro gb139 hg w8 hbox hb; have n0_ := Aside0.mk (blk_below (g := gb138) (o := .cells #[.int .i64 a0_0, .int .i64 a0_1, .string a0_2, .slice A0_3 l0_3.length c0_3] 33 (0, 0)) (by (with_reducible repeat (first | refine blk_drewN ?_ _ | refine blk_drew ?_ | refine blk_alloc ?_ _)); exact BK138.out) hb); have n1_ := Aside0.mk (below_step (by repeat (first | (with_reducible first | exact HB.out | apply below_alloc | apply pw_below_drewN | apply below_drew1 | refine below_set ?_ GE138.out) | exact HB.out)) hb); have n2_ := Aside0.mk (hbox); have n3_ := Aside0.mk ((by rw [hg]; exact (below_size (by repeat (first | (with_reducible first | exact HB.out | apply below_alloc | apply pw_below_drewN | apply below_drew1 | refine below_set ?_ GE138.out) | exact HB.out))) : w.heap.size ≤ gb139)); have n4_ := Aside0.mk ((by rw [hg]; exact (below_size (by repeat (first | (with_reducible first | exact HB.out | apply below_alloc | apply pw_below_drewN | apply below_drew1 | refine below_set ?_ GE138.out) | exact HB.out))) : w.heap.size ≤ gb139)); have n5_ := Aside0.mk ((by rw [hg]; exact Nat.ne_of_lt (blk_lt (g := gb138) (o := .cells #[.int .i64 a0_0, .int .i64 a0_1, .string a0_2, .slice A0_3 l0_3.length c0_3] 33 (0, 0)) (by (with_reducible repeat (first | refine blk_drewN ?_ _ | refine blk_drew ?_ | refine blk_alloc ?_ _)); exact BK138.out)) : gb138 ≠ gb139)); have n6_ := Aside0.mk ((by rw [hg]; exact Nat.ne_of_gt (blk_lt (g := gb138) (o := .cells #[.int .i64 a0_0, .int .i64 a0_1, .string a0_2, .slice A0_3 l0_3.length c0_3] 33 (0, 0)) (by (with_reducible repeat (first | refine blk_drewN ?_ _ | refine blk_drew ?_ | refine blk_alloc ?_ _)); exact BK138.out)) : gb139 ≠ gb138)); clear BK138; clear HB; have BK138 := n0_; have HB := n1_; have BK139 := n2_; have GW139 := n3_; have GE139 := n4_; have NB138_139 := n5_; have NB139_138 := n6_; clear n0_ n1_ n2_ n3_ n4_ n5_ n6_; clear hb hbox hg; have hnb9 := NB138_139.out; have hnc9 := NB139_138.out; have cz_ := cells4_ (w := w8) (g := gb138) BK138.out; obtain ⟨hcz10_0, hcz10_1, hcz10_2, hcz10_3⟩ := cz_; have hfz10 := blk_frozen BK138.out; have cz_ := cells4_ (w := w8) (g := gb139) BK139.out; obtain ⟨hcz11_0, hcz11_1, hcz11_2, hcz11_3⟩ := cz_; have hfz11 := blk_frozen BK139.out) | (go_at_call 61; (with_reducible refine (ih_61 k (by omega) _ _ l0_3 _ _ l1_3  t140 _ ?side1 ?side2 ?side3 ?side4 A6.out).mono ?_); (case side1 => repeat (first | exact (Kd.C_below HR0_3.out HB.out) | (with_reducible refine Kd.C_alloc ?_ _) | (with_reducible refine Kd.C_drewN ?_ _) | (with_reducible refine Kd.C_drew ?_))); (case side2 => exact HC0_3.out); (case side3 => repeat (first | exact (Kd.C_below HR1_3.out HB.out) | (with_reducible refine Kd.C_alloc ?_ _) | (with_reducible refine Kd.C_drewN ?_ _) | (with_reducible refine Kd.C_drew ?_))); (case side4 => exact HC1_3.out); rintro e w12 ⟨rfl, hb⟩; have n0_ := Aside0.mk (blk_below (g := gb138) (o := .cells #[.int .i64 a0_0, .int .i64 a0_1, .string a0_2, .slice A0_3 l0_3.length c0_3] 33 (0, 0)) (by (with_reducible repeat (first | refine blk_drewN ?_ _ | refine blk_drew ?_ | refine blk_alloc ?_ _)); exact BK138.out) hb); have n1_ := Aside0.mk (blk_below (g := gb139) (o := .cells #[.int .i64 a1_0, .int .i64 a1_1, .string a1_2, .slice A1_3 l1_3.length c1_3] 33 (0, 0)) (by (with_reducible repeat (first | refine blk_drewN ?_ _ | refine blk_drew ?_ | refine blk_alloc ?_ _)); exact BK139.out) hb); have n2_ := Aside0.mk (below_step (by repeat (first | (with_reducible first | exact HB.out | apply below_alloc | apply pw_below_drewN | apply below_drew1 | refine below_set ?_ GE138.out | refine below_set ?_ GE139.out) | exact HB.out)) hb); clear BK138; clear BK139; clear HB; have BK138 := n0_; have BK139 := n1_; have HB := n2_; clear n0_ n1_ n2_; (try clear hb); (try clear hb2); (try clear hk); (try clear hi)))
        go_ret
        exact ⟨by first | rfl | (simp [errW_none, errW_some] <;> rfl) | (simp [*, errW_none, errW_some] <;> rfl), by repeat (first | (with_reducible first | exact HB.out | apply below_alloc | apply pw_below_drewN | apply below_drew1 | refine below_set ?_ GE138.out | refine below_set ?_ GE139.out) | exact HB.out)⟩
      · rw [if_neg c5] at H
        have c5b0 : (a0_2.toList == a1_2.toList) = false := beq_eq_false_iff_ne.mpr c5
        have c5b1 : (a0_2.toList != a1_2.toList) = true := bne_iff_ne.mpr c5
        obtain rfl := Option.some.inj H
        go_enter Try.func32, Try.ntmps32
        go_wp2_with (first | ((with_reducible refine gate_dst (N := 2) rfl ?_); refine box_event ?hg (N := 2) ?hd (cs := #[.int .i64 a0_0, .int .i64 a0_1, .string a0_2, .slice A0_3 l0_3.length c0_3]) (t := 33) ?hr ?_; (case hd => rfl); (case hg => rfl); (case hr => first | (go_simp; done) | (go_simp; rfl)); intro gb138 hg w13 hbox hb; have n0_ := Aside0.mk (below_step (by repeat (first | (with_reducible first | exact HB.out | apply below_alloc | apply pw_below_drewN | apply below_drew1) | exact HB.out)) hb); have n1_ := Aside0.mk (hbox); have n2_ := Aside0.mk ((by rw [hg]; exact (below_size (by repeat (first | (with_reducible first | exact HB.out | apply below_alloc | apply pw_below_drewN | apply below_drew1) | exact HB.out))) : w.heap.size ≤ gb138)); have n3_ := Aside0.mk ((by rw [hg]; exact (below_size (by repeat (first | (with_reducible first | exact HB.out | apply below_alloc | apply pw_below_drewN | apply below_drew1) | exact HB.out))) : w.heap.size ≤ gb138)); clear HB; have HB := n0_; have BK138 := n1_; have GW138 := n2_; have GE138 := n3_; clear n0_ n1_ n2_ n3_; clear hb hbox hg) | ((with_reducible refine gate_dst (N := 3) rfl ?_); refine box_event ?hg (N := 3) ?hd (cs := #[.int .i64 a1_0, .int .i64 a1_1, .string a1_2, .slice A1_3 l1_3.length c1_3]) (t := 33) ?hr ?_; (case hd => rfl); (case hg => rfl); (case hr => first | (go_simp; done) | (go_simp; rfl)); intro gb139 hg w14 hbox hb; have n0_ := Aside0.mk (blk_below (g := gb138) (o := .cells #[.int .i64 a0_0, .int .i64 a0_1, .string a0_2, .slice A0_3 l0_3.length c0_3] 33 (0, 0)) (by (with_reducible repeat (first | refine blk_drewN ?_ _ | refine blk_drew ?_ | refine blk_alloc ?_ _)); exact BK138.out) hb); have n1_ := Aside0.mk (below_step (by repeat (first | (with_reducible first | exact HB.out | apply below_alloc | apply pw_below_drewN | apply below_drew1 | refine below_set ?_ GE138.out) | exact HB.out)) hb); have n2_ := Aside0.mk (hbox); have n3_ := Aside0.mk ((by rw [hg]; exact (below_size (by repeat (first | (with_reducible first | exact HB.out | apply below_alloc | apply pw_below_drewN | apply below_drew1 | refine below_set ?_ GE138.out) | exact HB.out))) : w.heap.size ≤ gb139)); have n4_ := Aside0.mk ((by rw [hg]; exact (below_size (by repeat (first | (with_reducible first | exact HB.out | apply below_alloc | apply pw_below_drewN | apply below_drew1 | refine below_set ?_ GE138.out) | exact HB.out))) : w.heap.size ≤ gb139)); have n5_ := Aside0.mk ((by rw [hg]; exact Nat.ne_of_lt (blk_lt (g := gb138) (o := .cells #[.int .i64 a0_0, .int .i64 a0_1, .string a0_2, .slice A0_3 l0_3.length c0_3] 33 (0, 0)) (by (with_reducible repeat (first | refine blk_drewN ?_ _ | refine blk_drew ?_ | refine blk_alloc ?_ _)); exact BK138.out)) : gb138 ≠ gb139)); have n6_ := Aside0.mk ((by rw [hg]; exact Nat.ne_of_gt (blk_lt (g := gb138) (o := .cells #[.int .i64 a0_0, .int .i64 a0_1, .string a0_2, .slice A0_3 l0_3.length c0_3] 33 (0, 0)) (by (with_reducible repeat (first | refine blk_drewN ?_ _ | refine blk_drew ?_ | refine blk_alloc ?_ _)); exact BK138.out)) : gb139 ≠ gb138)); clear BK138; clear HB; have BK138 := n0_; have HB := n1_; have BK139 := n2_; have GW139 := n3_; have GE139 := n4_; have NB138_139 := n5_; have NB139_138 := n6_; clear n0_ n1_ n2_ n3_ n4_ n5_ n6_; clear hb hbox hg; have hnb15 := NB138_139.out; have hnc15 := NB139_138.out; have cz_ := cells4_ (w := w14) (g := gb138) BK138.out; obtain ⟨hcz16_0, hcz16_1, hcz16_2, hcz16_3⟩ := cz_; have hfz16 := blk_frozen BK138.out; have cz_ := cells4_ (w := w14) (g := gb139) BK139.out; obtain ⟨hcz17_0, hcz17_1, hcz17_2, hcz17_3⟩ := cz_; have hfz17 := blk_frozen BK139.out))
        go_ret
        exact ⟨by first | rfl | (simp [errW_none, errW_some] <;> rfl) | (simp [*, errW_none, errW_some] <;> rfl), by repeat (first | (with_reducible first | exact HB.out | apply below_alloc | apply pw_below_drewN | apply below_drew1 | refine below_set ?_ GE138.out | refine below_set ?_ GE139.out) | exact HB.out)⟩
    · rw [if_neg c4] at H
      have c4b0 : (a0_1 == a1_1) = false := beq_eq_false_iff_ne.mpr c4
      have c4b1 : (a0_1 != a1_1) = true := bne_iff_ne.mpr c4
      obtain rfl := Option.some.inj H
      go_enter Try.func32, Try.ntmps32
      go_wp2_with (first | ((with_reducible refine gate_dst (N := 2) rfl ?_); refine box_event ?hg (N := 2) ?hd (cs := #[.int .i64 a0_0, .int .i64 a0_1, .string a0_2, .slice A0_3 l0_3.length c0_3]) (t := 33) ?hr ?_; (case hd => rfl); (case hg => rfl); (case hr => first | (go_simp; done) | (go_simp; rfl)); intro gb138 hg w18 hbox hb; have n0_ := Aside0.mk (below_step (by repeat (first | (with_reducible first | exact HB.out | apply below_alloc | apply pw_below_drewN | apply below_drew1) | exact HB.out)) hb); have n1_ := Aside0.mk (hbox); have n2_ := Aside0.mk ((by rw [hg]; exact (below_size (by repeat (first | (with_reducible first | exact HB.out | apply below_alloc | apply pw_below_drewN | apply below_drew1) | exact HB.out))) : w.heap.size ≤ gb138)); have n3_ := Aside0.mk ((by rw [hg]; exact (below_size (by repeat (first | (with_reducible first | exact HB.out | apply below_alloc | apply pw_below_drewN | apply below_drew1) | exact HB.out))) : w.heap.size ≤ gb138)); clear HB; have HB := n0_; have BK138 := n1_; have GW138 := n2_; have GE138 := n3_; clear n0_ n1_ n2_ n3_; clear hb hbox hg) | ((with_reducible refine gate_dst (N := 3) rfl ?_); refine box_event ?hg (N := 3) ?hd (cs := #[.int .i64 a1_0, .int .i64 a1_1, .string a1_2, .slice A1_3 l1_3.length c1_3]) (t := 33) ?hr ?_; (case hd => rfl); (case hg => rfl); (case hr => first | (go_simp; done) | (go_simp; rfl)); intro gb139 hg w19 hbox hb; have n0_ := Aside0.mk (blk_below (g := gb138) (o := .cells #[.int .i64 a0_0, .int .i64 a0_1, .string a0_2, .slice A0_3 l0_3.length c0_3] 33 (0, 0)) (by (with_reducible repeat (first | refine blk_drewN ?_ _ | refine blk_drew ?_ | refine blk_alloc ?_ _)); exact BK138.out) hb); have n1_ := Aside0.mk (below_step (by repeat (first | (with_reducible first | exact HB.out | apply below_alloc | apply pw_below_drewN | apply below_drew1 | refine below_set ?_ GE138.out) | exact HB.out)) hb); have n2_ := Aside0.mk (hbox); have n3_ := Aside0.mk ((by rw [hg]; exact (below_size (by repeat (first | (with_reducible first | exact HB.out | apply below_alloc | apply pw_below_drewN | apply below_drew1 | refine below_set ?_ GE138.out) | exact HB.out))) : w.heap.size ≤ gb139)); have n4_ := Aside0.mk ((by rw [hg]; exact (below_size (by repeat (first | (with_reducible first | exact HB.out | apply below_alloc | apply pw_below_drewN | apply below_drew1 | refine below_set ?_ GE138.out) | exact HB.out))) : w.heap.size ≤ gb139)); have n5_ := Aside0.mk ((by rw [hg]; exact Nat.ne_of_lt (blk_lt (g := gb138) (o := .cells #[.int .i64 a0_0, .int .i64 a0_1, .string a0_2, .slice A0_3 l0_3.length c0_3] 33 (0, 0)) (by (with_reducible repeat (first | refine blk_drewN ?_ _ | refine blk_drew ?_ | refine blk_alloc ?_ _)); exact BK138.out)) : gb138 ≠ gb139)); have n6_ := Aside0.mk ((by rw [hg]; exact Nat.ne_of_gt (blk_lt (g := gb138) (o := .cells #[.int .i64 a0_0, .int .i64 a0_1, .string a0_2, .slice A0_3 l0_3.length c0_3] 33 (0, 0)) (by (with_reducible repeat (first | refine blk_drewN ?_ _ | refine blk_drew ?_ | refine blk_alloc ?_ _)); exact BK138.out)) : gb139 ≠ gb138)); clear BK138; clear HB; have BK138 := n0_; have HB := n1_; have BK139 := n2_; have GW139 := n3_; have GE139 := n4_; have NB138_139 := n5_; have NB139_138 := n6_; clear n0_ n1_ n2_ n3_ n4_ n5_ n6_; clear hb hbox hg; have hnb20 := NB138_139.out; have hnc20 := NB139_138.out; have cz_ := cells4_ (w := w19) (g := gb138) BK138.out; obtain ⟨hcz21_0, hcz21_1, hcz21_2, hcz21_3⟩ := cz_; have hfz21 := blk_frozen BK138.out; have cz_ := cells4_ (w := w19) (g := gb139) BK139.out; obtain ⟨hcz22_0, hcz22_1, hcz22_2, hcz22_3⟩ := cz_; have hfz22 := blk_frozen BK139.out))
      go_ret
      exact ⟨by first | rfl | (simp [errW_none, errW_some] <;> rfl) | (simp [*, errW_none, errW_some] <;> rfl), by repeat (first | (with_reducible first | exact HB.out | apply below_alloc | apply pw_below_drewN | apply below_drew1 | refine below_set ?_ GE138.out | refine below_set ?_ GE139.out) | exact HB.out)⟩
  · rw [if_neg c3] at H
    have c3b0 : (a0_0 == a1_0) = false := beq_eq_false_iff_ne.mpr c3
    have c3b1 : (a0_0 != a1_0) = true := bne_iff_ne.mpr c3
    obtain rfl := Option.some.inj H
    go_enter Try.func32, Try.ntmps32
    go_wp2_with (first | ((with_reducible refine gate_dst (N := 2) rfl ?_); refine box_event ?hg (N := 2) ?hd (cs := #[.int .i64 a0_0, .int .i64 a0_1, .string a0_2, .slice A0_3 l0_3.length c0_3]) (t := 33) ?hr ?_; (case hd => rfl); (case hg => rfl); (case hr => first | (go_simp; done) | (go_simp; rfl)); intro gb138 hg w23 hbox hb; have n0_ := Aside0.mk (below_step (by repeat (first | (with_reducible first | exact HB.out | apply below_alloc | apply pw_below_drewN | apply below_drew1) | exact HB.out)) hb); have n1_ := Aside0.mk (hbox); have n2_ := Aside0.mk ((by rw [hg]; exact (below_size (by repeat (first | (with_reducible first | exact HB.out | apply below_alloc | apply pw_below_drewN | apply below_drew1) | exact HB.out))) : w.heap.size ≤ gb138)); have n3_ := Aside0.mk ((by rw [hg]; exact (below_size (by repeat (first | (with_reducible first | exact HB.out | apply below_alloc | apply pw_below_drewN | apply below_drew1) | exact HB.out))) : w.heap.size ≤ gb138)); clear HB; have HB := n0_; have BK138 := n1_; have GW138 := n2_; have GE138 := n3_; clear n0_ n1_ n2_ n3_; clear hb hbox hg) | ((with_reducible refine gate_dst (N := 3) rfl ?_); refine box_event ?hg (N := 3) ?hd (cs := #[.int .i64 a1_0, .int .i64 a1_1, .string a1_2, .slice A1_3 l1_3.length c1_3]) (t := 33) ?hr ?_; (case hd => rfl); (case hg => rfl); (case hr => first | (go_simp; done) | (go_simp; rfl)); intro gb139 hg w24 hbox hb; have n0_ := Aside0.mk (blk_below (g := gb138) (o := .cells #[.int .i64 a0_0, .int .i64 a0_1, .string a0_2, .slice A0_3 l0_3.length c0_3] 33 (0, 0)) (by (with_reducible repeat (first | refine blk_drewN ?_ _ | refine blk_drew ?_ | refine blk_alloc ?_ _)); exact BK138.out) hb); have n1_ := Aside0.mk (below_step (by repeat (first | (with_reducible first | exact HB.out | apply below_alloc | apply pw_below_drewN | apply below_drew1 | refine below_set ?_ GE138.out) | exact HB.out)) hb); have n2_ := Aside0.mk (hbox); have n3_ := Aside0.mk ((by rw [hg]; exact (below_size (by repeat (first | (with_reducible first | exact HB.out | apply below_alloc | apply pw_below_drewN | apply below_drew1 | refine below_set ?_ GE138.out) | exact HB.out))) : w.heap.size ≤ gb139)); have n4_ := Aside0.mk ((by rw [hg]; exact (below_size (by repeat (first | (with_reducible first | exact HB.out | apply below_alloc | apply pw_below_drewN | apply below_drew1 | refine below_set ?_ GE138.out) | exact HB.out))) : w.heap.size ≤ gb139)); have n5_ := Aside0.mk ((by rw [hg]; exact Nat.ne_of_lt (blk_lt (g := gb138) (o := .cells #[.int .i64 a0_0, .int .i64 a0_1, .string a0_2, .slice A0_3 l0_3.length c0_3] 33 (0, 0)) (by (with_reducible repeat (first | refine blk_drewN ?_ _ | refine blk_drew ?_ | refine blk_alloc ?_ _)); exact BK138.out)) : gb138 ≠ gb139)); have n6_ := Aside0.mk ((by rw [hg]; exact Nat.ne_of_gt (blk_lt (g := gb138) (o := .cells #[.int .i64 a0_0, .int .i64 a0_1, .string a0_2, .slice A0_3 l0_3.length c0_3] 33 (0, 0)) (by (with_reducible repeat (first | refine blk_drewN ?_ _ | refine blk_drew ?_ | refine blk_alloc ?_ _)); exact BK138.out)) : gb139 ≠ gb138)); clear BK138; clear HB; have BK138 := n0_; have HB := n1_; have BK139 := n2_; have GW139 := n3_; have GE139 := n4_; have NB138_139 := n5_; have NB139_138 := n6_; clear n0_ n1_ n2_ n3_ n4_ n5_ n6_; clear hb hbox hg; have hnb25 := NB138_139.out; have hnc25 := NB139_138.out; have cz_ := cells4_ (w := w24) (g := gb138) BK138.out; obtain ⟨hcz26_0, hcz26_1, hcz26_2, hcz26_3⟩ := cz_; have hfz26 := blk_frozen BK138.out; have cz_ := cells4_ (w := w24) (g := gb139) BK139.out; obtain ⟨hcz27_0, hcz27_1, hcz27_2, hcz27_3⟩ := cz_; have hfz27 := blk_frozen BK139.out))
    go_ret
    exact ⟨by first | rfl | (simp [errW_none, errW_some] <;> rfl) | (simp [*, errW_none, errW_some] <;> rfl), by repeat (first | (with_reducible first | exact HB.out | apply below_alloc | apply pw_below_drewN | apply below_drew1 | refine below_set ?_ GE138.out | refine below_set ?_ GE139.out) | exact HB.out)⟩

set_option maxHeartbeats 8000000 in
set_option maxRecDepth 100000 in
theorem impl_Expr_at_impl_SameExpr.step (k : Nat)
    (ih_32 : ∀ m_, m_ < k → ∀ (a0_0 : Int) (a0_1 : Int) (a0_2 : ByteArray) (A0_3 : Option Addr) (c0_3 : Nat) (l0_3 : List (S33)) (a1_0 : Int) (a1_1 : Int) (a1_2 : ByteArray) (A1_3 : Option Addr) (c1_3 : Nat) (l1_3 : List (S33)) (r : Bool) (w : World) (hr0_3 : Kd.C k33 w A0_3 l0_3.length l0_3) (hc0_3 : l0_3.length ≤ c0_3) (hr1_3 : Kd.C k33 w A1_3 l1_3.length l1_3) (hc1_3 : l1_3.length ≤ c1_3) (h : impl_SameExpr.f m_ a0_0 a0_1 a0_2 l0_3 a1_0 a1_1 a1_2 l1_3 = some r),
    Calls Try.prog 32 #[.agg #[.int .i64 a0_0, .int .i64 a0_1, .string a0_2, .slice A0_3 l0_3.length c0_3], .agg #[.int .i64 a1_0, .int .i64 a1_1, .string a1_2, .slice A1_3 l1_3.length c1_3]] w fun e w' => e = .returned (.bool r) ∧ Below w.heap.size w w')
    (ih_61 : ∀ m_, m_ < k → ∀ (A0 : Option Addr) (c0 : Nat) (l0 : List (S33)) (A1 : Option Addr) (c1 : Nat) (l1 : List (S33))  (r : Bool) (w : World) (hr0 : Kd.C k33 w A0 l0.length l0) (hc0 : l0.length ≤ c0) (hr1 : Kd.C k33 w A1 l1.length l1) (hc1 : l1.length ≤ c1) (h : impl_Expr_at_impl_SameExpr.f m_ l0 l1 = some r),
    Calls Try.prog 61 #[.slice A0 l0.length c0, .slice A1 l1.length c1, .func (.func 32) #[] #[]] w fun e w' => e = .returned (.bool r) ∧ Below w.heap.size w w') : ∀ (A0 : Option Addr) (c0 : Nat) (l0 : List (S33)) (A1 : Option Addr) (c1 : Nat) (l1 : List (S33))  (r : Bool) (w : World) (hr0 : Kd.C k33 w A0 l0.length l0) (hc0 : l0.length ≤ c0) (hr1 : Kd.C k33 w A1 l1.length l1) (hc1 : l1.length ≤ c1) (h : impl_Expr_at_impl_SameExpr.f k l0 l1 = some r),
    Calls Try.prog 61 #[.slice A0 l0.length c0, .slice A1 l1.length c1, .func (.func 32) #[] #[]] w fun e w' => e = .returned (.bool r) ∧ Below w.heap.size w w' := by
  intro A0 c0 l0 A1 c1 l1 r w hr0 hc0 hr1 hc1 h
  cases k with
  | zero => exact absurd h (by simp [impl_Expr_at_impl_SameExpr.f])
  | succ k =>
  simp only [impl_Expr_at_impl_SameExpr.f] at h
  have hu33 := Try.underlying33
  have HR0 := Aside0.mk hr0
  have HC0 := Aside0.mk hc0
  clear hr0 hc0
  have HR1 := Aside0.mk hr1
  have HC1 := Aside0.mk hc1
  clear hr1 hc1
  have HB := Aside0.mk (Below.refl w.heap.size w)
  have H : (if (l0.length : Int) = (l1.length : Int) then (impl_Expr_at_impl_SameExpr.l0 k l1 l0 (l0.length : Int) 0) else (some false)) = some r := h
  clear h
  by_cases c4 : (l0.length : Int) = (l1.length : Int)
  · rw [if_pos c4] at H
    have c4b0 : ((l0.length : Int) == (l1.length : Int)) = true := beq_iff_eq.mpr c4
    have c4b1 : ((l0.length : Int) != (l1.length : Int)) = false := bne_eq_false_iff_eq.mpr c4
    have c4b2 : (l0.length == l1.length) = true := by first | simpa using c4 | (simp at c4 ⊢; omega)
    clear c4
    have H' := Aside0.mk H
    clear H
    go_enter Try.func61, Try.ntmps61
    go_wp2
    go_loopg [17] k (fun kq v17 w' => ∃ (x17_1 : Int), v17 = .int .i64 x17_1 ∧ Aside0 (impl_Expr_at_impl_SameExpr.l0 kq l1 l0 (l0.length : Int) x17_1 = some r) ∧ Aside0 (kq ≤ k) ∧ Aside0 (Below w.heap.size w w'))
    case atStart => exact ⟨(0), (by first | rfl | (simp; done) | (simp [*]; done)), H', ⟨Nat.le_refl _⟩, ⟨by repeat (first | (with_reducible first | exact HB.out | apply below_alloc | apply pw_below_drewN | apply below_drew1) | exact HB.out)⟩⟩
    case round =>
      clear H'
      try clear c1
      try clear c4
      try clear c4b0
      try clear c4b1
      try clear c4b2
      obtain ⟨x17_1, rfl, HA, HK1, HB⟩ := hrel
      cases gk with
      | zero => exact absurd HA.out (by simp [impl_Expr_at_impl_SameExpr.l0])
      | succ k1 =>
        have H := HA.out
        clear HA
        simp only [impl_Expr_at_impl_SameExpr.l0] at H
        by_cases c5 : x17_1 < (l0.length : Int)
        · rw [if_pos c5] at H
          have c5b0 : decide (x17_1 < (l0.length : Int)) = true := decide_eq_true c5
          clear c5
          by_cases c6 : 0 ≤ x17_1
          · rw [if_pos c6] at H
            have c6b0 : decide (0 ≤ x17_1) = true := decide_eq_true c6
            clear c6
            by_cases c7 : x17_1 < (l0.length : Int)
            · rw [if_pos c7] at H
              have c7b0 : decide (x17_1 < (l0.length : Int)) = true := decide_eq_true c7
              clear c7
              by_cases c8 : x17_1 < (l1.length : Int)
              · rw [if_pos c8] at H
                have c8b0 : decide (x17_1 < (l1.length : Int)) = true := decide_eq_true c8
                clear c8
                replace H := Option.bind_eq_some_iff.mp H
                obtain ⟨t145, A90, H⟩ := H
                replace H : (if t145 = true then (impl_Expr_at_impl_SameExpr.l0 k1 l1 l0 (l0.length : Int) (wrap64 (x17_1 + 1))) else (some false)) = some r := H
                have A9 := Aside0.mk A90
                clear A90
                by_cases c10 : t145 = true
                · subst c10
                  have H1 : (impl_Expr_at_impl_SameExpr.l0 k1 l1 l0 (l0.length : Int) (wrap64 (x17_1 + 1))) = some r := by rw [if_pos rfl] at H; exact H
                  clear H
                  have H := H1
                  clear H1
                  have H' := Aside0.mk H
                  clear H
                  have p141 : 0 ≤ (x17_1 : Int) := of_decide_eq_true (by first | (with_reducible assumption) | assumption)
                  have q141 : x17_1 < (l0.length : Int) := of_decide_eq_true (by first | (with_reducible assumption) | assumption)
                  obtain ⟨ad141, A141_3, c141_3, e141, hx141_0, hx141_1, hx141_2, hx141_3, hl141_3, hi141_3⟩ := at_T33 HR0.out x17_1 p141 q141
                  cases e141
                  replace hx141_0 := (HB.out.cell (World.block_lt_of_cell? w _ hx141_0)).trans hx141_0
                  replace hx141_1 := (HB.out.cell (World.block_lt_of_cell? w _ hx141_1)).trans hx141_1
                  replace hx141_2 := (HB.out.cell (World.block_lt_of_cell? w _ hx141_2)).trans hx141_2
                  replace hx141_3 := (HB.out.cell (World.block_lt_of_cell? w _ hx141_3)).trans hx141_3
                  have HR141_3 := Aside0.mk hi141_3
                  have HC141_3 := Aside0.mk hl141_3
                  clear hi141_3 hl141_3
                  replace p141 := eq_true p141
                  replace q141 := eq_true q141
                  go_wp2_with (first | ((with_reducible refine gate_dst (N := 8) rfl ?_); refine box_event ?hg (N := 8) ?hd (cs := #[.int .i64 0, .int .i64 0, .string (⟨#[]⟩ : ByteArray), .slice none 0 0]) (t := 33) ?hr ?_; (case hd => rfl); (case hg => rfl); (case hr => first | (go_simp; done) | (go_simp; rfl)); intro gb142 hg w11 hbox hb; have n0_ := Aside0.mk (below_step (by repeat (first | (with_reducible first | exact HB.out | apply below_alloc | apply pw_below_drewN | apply below_drew1) | exact HB.out)) hb); have n1_ := Aside0.mk (hbox); have n2_ := Aside0.mk ((by rw [hg]; exact (below_size (by repeat (first | (with_reducible first | exact HB.out | apply below_alloc | apply pw_below_drewN | apply below_drew1) | exact HB.out))) : w.heap.size ≤ gb142)); have n3_ := Aside0.mk ((by rw [hg]; exact (below_size (by repeat (first | (with_reducible first | exact HB.out | apply below_alloc | apply pw_below_drewN | apply below_drew1) | exact HB.out))) : w.heap.size ≤ gb142)); clear HB; have HB := n0_; have BK142 := n1_; have GW142 := n2_; have GE142 := n3_; clear n0_ n1_ n2_ n3_; clear hb hbox hg; have cz_ := cells4_ (w := w11) (g := gb142) BK142.out; obtain ⟨hcz12_0, hcz12_1, hcz12_2, hcz12_3⟩ := cz_; have hfz12 := blk_frozen BK142.out; have p143 : 0 ≤ (x17_1 : Int) := of_decide_eq_true (by first | (with_reducible assumption) | assumption); have q143 : x17_1 < (l1.length : Int) := of_decide_eq_true (by first | (with_reducible assumption) | assumption); obtain ⟨ad143, A143_3, c143_3, e143, hx143_0, hx143_1, hx143_2, hx143_3, hl143_3, hi143_3⟩ := at_T33 HR1.out x17_1 p143 q143; cases e143; have hn143_0 : ad143.block ≠ gb142 := Nat.ne_of_lt (Nat.lt_of_lt_of_le (by have := World.block_lt_of_cell? _ _ hx143_0; first | rwa [add_block] at this | exact this) GW142.out); have hn143_1 : ad143.block ≠ gb142 := Nat.ne_of_lt (Nat.lt_of_lt_of_le (by have := World.block_lt_of_cell? _ _ hx143_0; first | rwa [add_block] at this | exact this) GW142.out); have hn143_2 : ad143.block ≠ gb142 := Nat.ne_of_lt (Nat.lt_of_lt_of_le (by have := World.block_lt_of_cell? _ _ hx143_0; first | rwa [add_block] at this | exact this) GW142.out); have hn143_3 : ad143.block ≠ gb142 := Nat.ne_of_lt (Nat.lt_of_lt_of_le (by have := World.block_lt_of_cell? _ _ hx143_0; first | rwa [add_block] at this | exact this) GW142.out); replace hx143_0 := (HB.out.cell (World.block_lt_of_cell? w _ hx143_0)).trans hx143_0; replace hx143_1 := (HB.out.cell (World.block_lt_of_cell? w _ hx143_1)).trans hx143_1; replace hx143_2 := (HB.out.cell (World.block_lt_of_cell? w _ hx143_2)).trans hx143_2; replace hx143_3 := (HB.out.cell (World.block_lt_of_cell? w _ hx143_3)).trans hx143_3; have HR143_3 := Aside0.mk hi143_3; have HC143_3 := Aside0.mk hl143_3; clear hi143_3 hl143_3; replace hx143_0 := (cell_far (p := ⟨gb142, 0, none⟩) (by first | (rw [add_block]; exact hn143_0) | (show (Addr.add _ _).block ≠ _; rw [add_block]; exact hn143_0) | exact hn143_0) (.int .i64 ((rd_T33 l0 x17_1).f0))).trans hx143_0; replace hx143_1 := (cell_far (p := ⟨gb142, 0, none⟩) (by first | (rw [add_block]; exact hn143_0) | (show (Addr.add _ _).block ≠ _; rw [add_block]; exact hn143_0) | exact hn143_0) (.int .i64 ((rd_T33 l0 x17_1).f0))).trans hx143_1; replace hx143_2 := (cell_far (p := ⟨gb142, 0, none⟩) (by first | (rw [add_block]; exact hn143_0) | (show (Addr.add _ _).block ≠ _; rw [add_block]; exact hn143_0) | exact hn143_0) (.int .i64 ((rd_T33 l0 x17_1).f0))).trans hx143_2; replace hx143_3 := (cell_far (p := ⟨gb142, 0, none⟩) (by first | (rw [add_block]; exact hn143_0) | (show (Addr.add _ _).block ≠ _; rw [add_block]; exact hn143_0) | exact hn143_0) (.int .i64 ((rd_T33 l0 x17_1).f0))).trans hx143_3; replace hx143_0 := (cell_far (p := ⟨gb142, 1, none⟩) (by first | (rw [add_block]; exact hn143_1) | (show (Addr.add _ _).block ≠ _; rw [add_block]; exact hn143_1) | exact hn143_1) (.int .i64 ((rd_T33 l0 x17_1).f1))).trans hx143_0; replace hx143_1 := (cell_far (p := ⟨gb142, 1, none⟩) (by first | (rw [add_block]; exact hn143_1) | (show (Addr.add _ _).block ≠ _; rw [add_block]; exact hn143_1) | exact hn143_1) (.int .i64 ((rd_T33 l0 x17_1).f1))).trans hx143_1; replace hx143_2 := (cell_far (p := ⟨gb142, 1, none⟩) (by first | (rw [add_block]; exact hn143_1) | (show (Addr.add _ _).block ≠ _; rw [add_block]; exact hn143_1) | exact hn143_1) (.int .i64 ((rd_T33 l0 x17_1).f1))).trans hx143_2; replace hx143_3 := (cell_far (p := ⟨gb142, 1, none⟩) (by first | (rw [add_block]; exact hn143_1) | (show (Addr.add _ _).block ≠ _; rw [add_block]; exact hn143_1) | exact hn143_1) (.int .i64 ((rd_T33 l0 x17_1).f1))).trans hx143_3; replace hx143_0 := (cell_far (p := ⟨gb142, 2, none⟩) (by first | (rw [add_block]; exact hn143_2) | (show (Addr.add _ _).block ≠ _; rw [add_block]; exact hn143_2) | exact hn143_2) (.string ((rd_T33 l0 x17_1).f2))).trans hx143_0; replace hx143_1 := (cell_far (p := ⟨gb142, 2, none⟩) (by first | (rw [add_block]; exact hn143_2) | (show (Addr.add _ _).block ≠ _; rw [add_block]; exact hn143_2) | exact hn143_2) (.string ((rd_T33 l0 x17_1).f2))).trans hx143_1; replace hx143_2 := (cell_far (p := ⟨gb142, 2, none⟩) (by first | (rw [add_block]; exact hn143_2) | (show (Addr.add _ _).block ≠ _; rw [add_block]; exact hn143_2) | exact hn143_2) (.string ((rd_T33 l0 x17_1).f2))).trans hx143_2; replace hx143_3 := (cell_far (p := ⟨gb142, 2, none⟩) (by first | (rw [add_block]; exact hn143_2) | (show (Addr.add _ _).block ≠ _; rw [add_block]; exact hn143_2) | exact hn143_2) (.string ((rd_T33 l0 x17_1).f2))).trans hx143_3; replace hx143_0 := (cell_far (p := ⟨gb142, 3, none⟩) (by first | (rw [add_block]; exact hn143_3) | (show (Addr.add _ _).block ≠ _; rw [add_block]; exact hn143_3) | exact hn143_3) (.slice A141_3 ((rd_T33 l0 x17_1).f3).length c141_3)).trans hx143_0; replace hx143_1 := (cell_far (p := ⟨gb142, 3, none⟩) (by first | (rw [add_block]; exact hn143_3) | (show (Addr.add _ _).block ≠ _; rw [add_block]; exact hn143_3) | exact hn143_3) (.slice A141_3 ((rd_T33 l0 x17_1).f3).length c141_3)).trans hx143_1; replace hx143_2 := (cell_far (p := ⟨gb142, 3, none⟩) (by first | (rw [add_block]; exact hn143_3) | (show (Addr.add _ _).block ≠ _; rw [add_block]; exact hn143_3) | exact hn143_3) (.slice A141_3 ((rd_T33 l0 x17_1).f3).length c141_3)).trans hx143_2; replace hx143_3 := (cell_far (p := ⟨gb142, 3, none⟩) (by first | (rw [add_block]; exact hn143_3) | (show (Addr.add _ _).block ≠ _; rw [add_block]; exact hn143_3) | exact hn143_3) (.slice A141_3 ((rd_T33 l0 x17_1).f3).length c141_3)).trans hx143_3; clear hn143_0; clear hn143_1; clear hn143_2; clear hn143_3; replace p143 := eq_true p143; replace q143 := eq_true q143) | ((with_reducible refine gate_dst (N := 9) rfl ?_); refine box_event ?hg (N := 9) ?hd (cs := #[.int .i64 0, .int .i64 0, .string (⟨#[]⟩ : ByteArray), .slice none 0 0]) (t := 33) ?hr ?_; (case hd => rfl); (case hg => rfl); (case hr => first | (go_simp; done) | (go_simp; rfl)); intro gb144 hg w13 hbox hb; have n0_ := Aside0.mk (blk_below (g := gb142) (o := .cells #[.int .i64 ((rd_T33 l0 x17_1).f0), .int .i64 ((rd_T33 l0 x17_1).f1), .string ((rd_T33 l0 x17_1).f2), .slice A141_3 ((rd_T33 l0 x17_1).f3).length c141_3] 33 (0, 0)) (by (with_reducible repeat (first | refine blk_drewN ?_ _ | refine blk_drew ?_ | refine blk_alloc ?_ _)); refine blk_put (cs := #[.int .i64 ((rd_T33 l0 x17_1).f0), .int .i64 ((rd_T33 l0 x17_1).f1), .string ((rd_T33 l0 x17_1).f2), .slice none 0 0]) ?_ 3 _ rfl; (with_reducible repeat (first | refine blk_drewN ?_ _ | refine blk_drew ?_ | refine blk_alloc ?_ _)); refine blk_put (cs := #[.int .i64 ((rd_T33 l0 x17_1).f0), .int .i64 ((rd_T33 l0 x17_1).f1), .string (⟨#[]⟩ : ByteArray), .slice none 0 0]) ?_ 2 _ rfl; (with_reducible repeat (first | refine blk_drewN ?_ _ | refine blk_drew ?_ | refine blk_alloc ?_ _)); refine blk_put (cs := #[.int .i64 ((rd_T33 l0 x17_1).f0), .int .i64 0, .string (⟨#[]⟩ : ByteArray), .slice none 0 0]) ?_ 1 _ rfl; (with_reducible repeat (first | refine blk_drewN ?_ _ | refine blk_drew ?_ | refine blk_alloc ?_ _)); refine blk_put (cs := #[.int .i64 0, .int .i64 0, .string (⟨#[]⟩ : ByteArray), .slice none 0 0]) ?_ 0 _ rfl; (with_reducible repeat (first | refine blk_drewN ?_ _ | refine blk_drew ?_ | refine blk_alloc ?_ _)); exact BK142.out) hb); have n1_ := Aside0.mk (below_step (by repeat (first | (with_reducible first | exact HB.out | apply below_alloc | apply pw_below_drewN | apply below_drew1 | refine below_set ?_ GE142.out) | exact HB.out)) hb); have n2_ := Aside0.mk (hbox); have n3_ := Aside0.mk ((by rw [hg]; exact (below_size (by repeat (first | (with_reducible first | exact HB.out | apply below_alloc | apply pw_below_drewN | apply below_drew1 | refine below_set ?_ GE142.out) | exact HB.out))) : w.heap.size ≤ gb144)); have n4_ := Aside0.mk ((by rw [hg]; exact (below_size (by repeat (first | (with_reducible first | exact HB.out | apply below_alloc | apply pw_below_drewN | apply below_drew1 | refine below_set ?_ GE142.out) | exact HB.out))) : w.heap.size ≤ gb144)); have n5_ := Aside0.mk ((by rw [hg]; exact Nat.ne_of_lt (blk_lt (g := gb142) (o := .cells #[.int .i64 ((rd_T33 l0 x17_1).f0), .int .i64 ((rd_T33 l0 x17_1).f1), .string ((rd_T33 l0 x17_1).f2), .slice A141_3 ((rd_T33 l0 x17_1).f3).length c141_3] 33 (0, 0)) (by (with_reducible repeat (first | refine blk_drewN ?_ _ | refine blk_drew ?_ | refine blk_alloc ?_ _)); refine blk_put (cs := #[.int .i64 ((rd_T33 l0 x17_1).f0), .int .i64 ((rd_T33 l0 x17_1).f1), .string ((rd_T33 l0 x17_1).f2), .slice none 0 0]) ?_ 3 _ rfl; (with_reducible repeat (first | refine blk_drewN ?_ _ | refine blk_drew ?_ | refine blk_alloc ?_ _)); refine blk_put (cs := #[.int .i64 ((rd_T33 l0 x17_1).f0), .int .i64 ((rd_T33 l0 x17_1).f1), .string (⟨#[]⟩ : ByteArray), .slice none 0 0]) ?_ 2 _ rfl; (with_reducible repeat (first | refine blk_drewN ?_ _ | refine blk_drew ?_ | refine blk_alloc ?_ _)); refine blk_put (cs := #[.int .i64 ((rd_T33 l0 x17_1).f0), .int .i64 0, .string (⟨#[]⟩ : ByteArray), .slice none 0 0]) ?_ 1 _ rfl; (with_reducible repeat (first | refine blk_drewN ?_ _ | refine blk_drew ?_ | refine blk_alloc ?_ _)); refine blk_put (cs := #[.int .i64 0, .int .i64 0, .string (⟨#[]⟩ : ByteArray), .slice none 0 0]) ?_ 0 _ rfl; (with_reducible repeat (first | refine blk_drewN ?_ _ | refine blk_drew ?_ | refine blk_alloc ?_ _)); exact BK142.out)) : gb142 ≠ gb144)); have n6_ := Aside0.mk ((by rw [hg]; exact Nat.ne_of_gt (blk_lt (g := gb142) (o := .cells #[.int .i64 ((rd_T33 l0 x17_1).f0), .int .i64 ((rd_T33 l0 x17_1).f1), .string ((rd_T33 l0 x17_1).f2), .slice A141_3 ((rd_T33 l0 x17_1).f3).length c141_3] 33 (0, 0)) (by (with_reducible repeat (first | refine blk_drewN ?_ _ | refine blk_drew ?_ | refine blk_alloc ?_ _)); refine blk_put (cs := #[.int .i64 ((rd_T33 l0 x17_1).f0), .int .i64 ((rd_T33 l0 x17_1).f1), .string ((rd_T33 l0 x17_1).f2), .slice none 0 0]) ?_ 3 _ rfl; (with_reducible repeat (first | refine blk_drewN ?_ _ | refine blk_drew ?_ | refine blk_alloc ?_ _)); refine blk_put (cs := #[.int .i64 ((rd_T33 l0 x17_1).f0), .int .i64 ((rd_T33 l0 x17_1).f1), .string (⟨#[]⟩ : ByteArray), .slice none 0 0]) ?_ 2 _ rfl; (with_reducible repeat (first | refine blk_drewN ?_ _ | refine blk_drew ?_ | refine blk_alloc ?_ _)); refine blk_put (cs := #[.int .i64 ((rd_T33 l0 x17_1).f0), .int .i64 0, .string (⟨#[]⟩ : ByteArray), .slice none 0 0]) ?_ 1 _ rfl; (with_reducible repeat (first | refine blk_drewN ?_ _ | refine blk_drew ?_ | refine blk_alloc ?_ _)); refine blk_put (cs := #[.int .i64 0, .int .i64 0, .string (⟨#[]⟩ : ByteArray), .slice none 0 0]) ?_ 0 _ rfl; (with_reducible repeat (first | refine blk_drewN ?_ _ | refine blk_drew ?_ | refine blk_alloc ?_ _)); exact BK142.out)) : gb144 ≠ gb142)); clear BK142; clear HB; have BK142 := n0_; have HB := n1_; have BK144 := n2_; have GW144 := n3_; have GE144 := n4_; have NB142_144 := n5_; have NB144_142 := n6_; clear n0_ n1_ n2_ n3_ n4_ n5_ n6_; clear hb hbox hg; have hnb14 := NB144_142.out; have hnc14 := NB142_144.out; have cz_ := cells4_ (w := w13) (g := gb144) BK144.out; obtain ⟨hcz15_0, hcz15_1, hcz15_2, hcz15_3⟩ := cz_; have hfz15 := blk_frozen BK144.out; have cz_ := cells4_ (w := w13) (g := gb142) BK142.out; obtain ⟨hcz16_0, hcz16_1, hcz16_2, hcz16_3⟩ := cz_; have hfz16 := blk_frozen BK142.out) | (go_at_call 32; (with_reducible refine (ih_32 k1 (by have := HK1.out; omega) ((rd_T33 l0 x17_1).f0) ((rd_T33 l0 x17_1).f1) ((rd_T33 l0 x17_1).f2) _ _ ((rd_T33 l0 x17_1).f3) ((rd_T33 l1 x17_1).f0) ((rd_T33 l1 x17_1).f1) ((rd_T33 l1 x17_1).f2) _ _ ((rd_T33 l1 x17_1).f3) true _ ?side1 ?side2 ?side3 ?side4 A9.out).mono ?_); (case side1 => exact Kd.C_below HR141_3.out (by repeat (first | (with_reducible first | exact HB.out | apply below_alloc | apply pw_below_drewN | apply below_drew1 | refine below_set ?_ GE142.out | refine below_set ?_ GE144.out) | exact HB.out))); (case side2 => exact HC141_3.out); (case side3 => exact Kd.C_below HR143_3.out (by repeat (first | (with_reducible first | exact HB.out | apply below_alloc | apply pw_below_drewN | apply below_drew1 | refine below_set ?_ GE142.out | refine below_set ?_ GE144.out) | exact HB.out))); (case side4 => exact HC143_3.out); rintro e w17 ⟨rfl, hb⟩; have n0_ := Aside0.mk (blk_below (g := gb142) (o := .cells #[.int .i64 ((rd_T33 l0 x17_1).f0), .int .i64 ((rd_T33 l0 x17_1).f1), .string ((rd_T33 l0 x17_1).f2), .slice A141_3 ((rd_T33 l0 x17_1).f3).length c141_3] 33 (0, 0)) (by (with_reducible repeat (first | refine blk_drewN ?_ _ | refine blk_drew ?_ | refine blk_alloc ?_ _)); refine blk_far ?_ NB142_144.out _; (with_reducible repeat (first | refine blk_drewN ?_ _ | refine blk_drew ?_ | refine blk_alloc ?_ _)); refine blk_far ?_ NB142_144.out _; (with_reducible repeat (first | refine blk_drewN ?_ _ | refine blk_drew ?_ | refine blk_alloc ?_ _)); refine blk_far ?_ NB142_144.out _; (with_reducible repeat (first | refine blk_drewN ?_ _ | refine blk_drew ?_ | refine blk_alloc ?_ _)); refine blk_far ?_ NB142_144.out _; (with_reducible repeat (first | refine blk_drewN ?_ _ | refine blk_drew ?_ | refine blk_alloc ?_ _)); exact BK142.out) hb); have n1_ := Aside0.mk (blk_below (g := gb144) (o := .cells #[.int .i64 ((rd_T33 l1 x17_1).f0), .int .i64 ((rd_T33 l1 x17_1).f1), .string ((rd_T33 l1 x17_1).f2), .slice A143_3 ((rd_T33 l1 x17_1).f3).length c143_3] 33 (0, 0)) (by (with_reducible repeat (first | refine blk_drewN ?_ _ | refine blk_drew ?_ | refine blk_alloc ?_ _)); refine blk_put (cs := #[.int .i64 ((rd_T33 l1 x17_1).f0), .int .i64 ((rd_T33 l1 x17_1).f1), .string ((rd_T33 l1 x17_1).f2), .slice none 0 0]) ?_ 3 _ rfl; (with_reducible repeat (first | refine blk_drewN ?_ _ | refine blk_drew ?_ | refine blk_alloc ?_ _)); refine blk_put (cs := #[.int .i64 ((rd_T33 l1 x17_1).f0), .int .i64 ((rd_T33 l1 x17_1).f1), .string (⟨#[]⟩ : ByteArray), .slice none 0 0]) ?_ 2 _ rfl; (with_reducible repeat (first | refine blk_drewN ?_ _ | refine blk_drew ?_ | refine blk_alloc ?_ _)); refine blk_put (cs := #[.int .i64 ((rd_T33 l1 x17_1).f0), .int .i64 0, .string (⟨#[]⟩ : ByteArray), .slice none 0 0]) ?_ 1 _ rfl; (with_reducible repeat (first | refine blk_drewN ?_ _ | refine blk_drew ?_ | refine blk_alloc ?_ _)); refine blk_put (cs := #[.int .i64 0, .int .i64 0, .string (⟨#[]⟩ : ByteArray), .slice none 0 0]) ?_ 0 _ rfl; (with_reducible repeat (first | refine blk_drewN ?_ _ | refine blk_drew ?_ | refine blk_alloc ?_ _)); exact BK144.out) hb); have n2_ := Aside0.mk (below_step (by repeat (first | (with_reducible first | exact HB.out | apply below_alloc | apply pw_below_drewN | apply below_drew1 | refine below_set ?_ GE142.out | refine below_set ?_ GE144.out) | exact HB.out)) hb); clear BK142; clear BK144; clear HB; have BK142 := n0_; have BK144 := n1_; have HB := n2_; clear n0_ n1_ n2_; (try clear hb); (try clear hb2); (try clear hk); (try clear hi)))
                  go_roundg k1
                  case measure => have := HK1.out; omega
                  case rel => exact ⟨(wrap64 (x17_1 + 1)), (by first | rfl | (simp; done) | (simp [*]; done)), H', ⟨by have := HK1.out; omega⟩, ⟨by repeat (first | (with_reducible first | exact HB.out | apply below_alloc | apply pw_below_drewN | apply below_drew1 | refine below_set ?_ GE142.out | refine below_set ?_ GE144.out) | exact HB.out)⟩⟩
                · replace c10 := Bool.eq_false_iff.mpr c10
                  subst c10
                  have H1 : (some false) = some r := by rw [if_neg (show ¬ (false = true) by decide)] at H; exact H
                  clear H
                  have H := H1
                  clear H1
                  obtain rfl := Option.some.inj H
                  have p141 : 0 ≤ (x17_1 : Int) := of_decide_eq_true (by first | (with_reducible assumption) | assumption)
                  have q141 : x17_1 < (l0.length : Int) := of_decide_eq_true (by first | (with_reducible assumption) | assumption)
                  obtain ⟨ad141, A141_3, c141_3, e141, hx141_0, hx141_1, hx141_2, hx141_3, hl141_3, hi141_3⟩ := at_T33 HR0.out x17_1 p141 q141
                  cases e141
                  replace hx141_0 := (HB.out.cell (World.block_lt_of_cell? w _ hx141_0)).trans hx141_0
                  replace hx141_1 := (HB.out.cell (World.block_lt_of_cell? w _ hx141_1)).trans hx141_1
                  replace hx141_2 := (HB.out.cell (World.block_lt_of_cell? w _ hx141_2)).trans hx141_2
                  replace hx141_3 := (HB.out.cell (World.block_lt_of_cell? w _ hx141_3)).trans hx141_3
                  have HR141_3 := Aside0.mk hi141_3
                  have HC141_3 := Aside0.mk hl141_3
                  clear hi141_3 hl141_3
                  replace p141 := eq_true p141
                  replace q141 := eq_true q141
                  go_wp2_with (first | ((with_reducible refine gate_dst (N := 8) rfl ?_); refine box_event ?hg (N := 8) ?hd (cs := #[.int .i64 0, .int .i64 0, .string (⟨#[]⟩ : ByteArray), .slice none 0 0]) (t := 33) ?hr ?_; (case hd => rfl); (case hg => rfl); (case hr => first | (go_simp; done) | (go_simp; rfl)); intro gb142 hg w18 hbox hb; have n0_ := Aside0.mk (below_step (by repeat (first | (with_reducible first | exact HB.out | apply below_alloc | apply pw_below_drewN | apply below_drew1) | exact HB.out)) hb); have n1_ := Aside0.mk (hbox); have n2_ := Aside0.mk ((by rw [hg]; exact (below_size (by repeat (first | (with_reducible first | exact HB.out | apply below_alloc | apply pw_below_drewN | apply below_drew1) | exact HB.out))) : w.heap.size ≤ gb142)); have n3_ := Aside0.mk ((by rw [hg]; exact (below_size (by repeat (first | (with_reducible first | exact HB.out | apply below_alloc | apply pw_below_drewN | apply below_drew1) | exact HB.out))) : w.heap.size ≤ gb142)); clear HB; have HB := n0_; have BK142 := n1_; have GW142 := n2_; have GE142 := n3_; clear n0_ n1_ n2_ n3_; clear hb hbox hg; have cz_ := cells4_ (w := w18) (g := gb142) BK142.out; obtain ⟨hcz19_0, hcz19_1, hcz19_2, hcz19_3⟩ := cz_; have hfz19 := blk_frozen BK142.out; have p143 : 0 ≤ (x17_1 : Int) := of_decide_eq_true (by first | (with_reducible assumption) | assumption); have q143 : x17_1 < (l1.length : Int) := of_decide_eq_true (by first | (with_reducible assumption) | assumption); obtain ⟨ad143, A143_3, c143_3, e143, hx143_0, hx143_1, hx143_2, hx143_3, hl143_3, hi143_3⟩ := at_T33 HR1.out x17_1 p143 q143; cases e143; have hn143_0 : ad143.block ≠ gb142 := Nat.ne_of_lt (Nat.lt_of_lt_of_le (by have := World.block_lt_of_cell? _ _ hx143_0; first | rwa [add_block] at this | exact this) GW142.out); have hn143_1 : ad143.block ≠ gb142 := Nat.ne_of_lt (Nat.lt_of_lt_of_le (by have := World.block_lt_of_cell? _ _ hx143_0; first | rwa [add_block] at this | exact this) GW142.out); have hn143_2 : ad143.block ≠ gb142 := Nat.ne_of_lt (Nat.lt_of_lt_of_le (by have := World.block_lt_of_cell? _ _ hx143_0; first | rwa [add_block] at this | exact this) GW142.out); have hn143_3 : ad143.block ≠ gb142 := Nat.ne_of_lt (Nat.lt_of_lt_of_le (by have := World.block_lt_of_cell? _ _ hx143_0; first | rwa [add_block] at this | exact this) GW142.out); replace hx143_0 := (HB.out.cell (World.block_lt_of_cell? w _ hx143_0)).trans hx143_0; replace hx143_1 := (HB.out.cell (World.block_lt_of_cell? w _ hx143_1)).trans hx143_1; replace hx143_2 := (HB.out.cell (World.block_lt_of_cell? w _ hx143_2)).trans hx143_2; replace hx143_3 := (HB.out.cell (World.block_lt_of_cell? w _ hx143_3)).trans hx143_3; have HR143_3 := Aside0.mk hi143_3; have HC143_3 := Aside0.mk hl143_3; clear hi143_3 hl143_3; replace hx143_0 := (cell_far (p := ⟨gb142, 0, none⟩) (by first | (rw [add_block]; exact hn143_0) | (show (Addr.add _ _).block ≠ _; rw [add_block]; exact hn143_0) | exact hn143_0) (.int .i64 ((rd_T33 l0 x17_1).f0))).trans hx143_0; replace hx143_1 := (cell_far (p := ⟨gb142, 0, none⟩) (by first | (rw [add_block]; exact hn143_0) | (show (Addr.add _ _).block ≠ _; rw [add_block]; exact hn143_0) | exact hn143_0) (.int .i64 ((rd_T33 l0 x17_1).f0))).trans hx143_1; replace hx143_2 := (cell_far (p := ⟨gb142, 0, none⟩) (by first | (rw [add_block]; exact hn143_0) | (show (Addr.add _ _).block ≠ _; rw [add_block]; exact hn143_0) | exact hn143_0) (.int .i64 ((rd_T33 l0 x17_1).f0))).trans hx143_2; replace hx143_3 := (cell_far (p := ⟨gb142, 0, none⟩) (by first | (rw [add_block]; exact hn143_0) | (show (Addr.add _ _).block ≠ _; rw [add_block]; exact hn143_0) | exact hn143_0) (.int .i64 ((rd_T33 l0 x17_1).f0))).trans hx143_3; replace hx143_0 := (cell_far (p := ⟨gb142, 1, none⟩) (by first | (rw [add_block]; exact hn143_1) | (show (Addr.add _ _).block ≠ _; rw [add_block]; exact hn143_1) | exact hn143_1) (.int .i64 ((rd_T33 l0 x17_1).f1))).trans hx143_0; replace hx143_1 := (cell_far (p := ⟨gb142, 1, none⟩) (by first | (rw [add_block]; exact hn143_1) | (show (Addr.add _ _).block ≠ _; rw [add_block]; exact hn143_1) | exact hn143_1) (.int .i64 ((rd_T33 l0 x17_1).f1))).trans hx143_1; replace hx143_2 := (cell_far (p := ⟨gb142, 1, none⟩) (by first | (rw [add_block]; exact hn143_1) | (show (Addr.add _ _).block ≠ _; rw [add_block]; exact hn143_1) | exact hn143_1) (.int .i64 ((rd_T33 l0 x17_1).f1))).trans hx143_2; replace hx143_3 := (cell_far (p := ⟨gb142, 1, none⟩) (by first | (rw [add_block]; exact hn143_1) | (show (Addr.add _ _).block ≠ _; rw [add_block]; exact hn143_1) | exact hn143_1) (.int .i64 ((rd_T33 l0 x17_1).f1))).trans hx143_3; replace hx143_0 := (cell_far (p := ⟨gb142, 2, none⟩) (by first | (rw [add_block]; exact hn143_2) | (show (Addr.add _ _).block ≠ _; rw [add_block]; exact hn143_2) | exact hn143_2) (.string ((rd_T33 l0 x17_1).f2))).trans hx143_0; replace hx143_1 := (cell_far (p := ⟨gb142, 2, none⟩) (by first | (rw [add_block]; exact hn143_2) | (show (Addr.add _ _).block ≠ _; rw [add_block]; exact hn143_2) | exact hn143_2) (.string ((rd_T33 l0 x17_1).f2))).trans hx143_1; replace hx143_2 := (cell_far (p := ⟨gb142, 2, none⟩) (by first | (rw [add_block]; exact hn143_2) | (show (Addr.add _ _).block ≠ _; rw [add_block]; exact hn143_2) | exact hn143_2) (.string ((rd_T33 l0 x17_1).f2))).trans hx143_2; replace hx143_3 := (cell_far (p := ⟨gb142, 2, none⟩) (by first | (rw [add_block]; exact hn143_2) | (show (Addr.add _ _).block ≠ _; rw [add_block]; exact hn143_2) | exact hn143_2) (.string ((rd_T33 l0 x17_1).f2))).trans hx143_3; replace hx143_0 := (cell_far (p := ⟨gb142, 3, none⟩) (by first | (rw [add_block]; exact hn143_3) | (show (Addr.add _ _).block ≠ _; rw [add_block]; exact hn143_3) | exact hn143_3) (.slice A141_3 ((rd_T33 l0 x17_1).f3).length c141_3)).trans hx143_0; replace hx143_1 := (cell_far (p := ⟨gb142, 3, none⟩) (by first | (rw [add_block]; exact hn143_3) | (show (Addr.add _ _).block ≠ _; rw [add_block]; exact hn143_3) | exact hn143_3) (.slice A141_3 ((rd_T33 l0 x17_1).f3).length c141_3)).trans hx143_1; replace hx143_2 := (cell_far (p := ⟨gb142, 3, none⟩) (by first | (rw [add_block]; exact hn143_3) | (show (Addr.add _ _).block ≠ _; rw [add_block]; exact hn143_3) | exact hn143_3) (.slice A141_3 ((rd_T33 l0 x17_1).f3).length c141_3)).trans hx143_2; replace hx143_3 := (cell_far (p := ⟨gb142, 3, none⟩) (by first | (rw [add_block]; exact hn143_3) | (show (Addr.add _ _).block ≠ _; rw [add_block]; exact hn143_3) | exact hn143_3) (.slice A141_3 ((rd_T33 l0 x17_1).f3).length c141_3)).trans hx143_3; clear hn143_0; clear hn143_1; clear hn143_2; clear hn143_3; replace p143 := eq_true p143; replace q143 := eq_true q143) | ((with_reducible refine gate_dst (N := 9) rfl ?_); refine box_event ?hg (N := 9) ?hd (cs := #[.int .i64 0, .int .i64 0, .string (⟨#[]⟩ : ByteArray), .slice none 0 0]) (t := 33) ?hr ?_; (case hd => rfl); (case hg => rfl); (case hr => first | (go_simp; done) | (go_simp; rfl)); intro gb144 hg w20 hbox hb; have n0_ := Aside0.mk (blk_below (g := gb142) (o := .cells #[.int .i64 ((rd_T33 l0 x17_1).f0), .int .i64 ((rd_T33 l0 x17_1).f1), .string ((rd_T33 l0 x17_1).f2), .slice A141_3 ((rd_T33 l0 x17_1).f3).length c141_3] 33 (0, 0)) (by (with_reducible repeat (first | refine blk_drewN ?_ _ | refine blk_drew ?_ | refine blk_alloc ?_ _)); refine blk_put (cs := #[.int .i64 ((rd_T33 l0 x17_1).f0), .int .i64 ((rd_T33 l0 x17_1).f1), .string ((rd_T33 l0 x17_1).f2), .slice none 0 0]) ?_ 3 _ rfl; (with_reducible repeat (first | refine blk_drewN ?_ _ | refine blk_drew ?_ | refine blk_alloc ?_ _)); refine blk_put (cs := #[.int .i64 ((rd_T33 l0 x17_1).f0), .int .i64 ((rd_T33 l0 x17_1).f1), .string (⟨#[]⟩ : ByteArray), .slice none 0 0]) ?_ 2 _ rfl; (with_reducible repeat (first | refine blk_drewN ?_ _ | refine blk_drew ?_ | refine blk_alloc ?_ _)); refine blk_put (cs := #[.int .i64 ((rd_T33 l0 x17_1).f0), .int .i64 0, .string (⟨#[]⟩ : ByteArray), .slice none 0 0]) ?_ 1 _ rfl; (with_reducible repeat (first | refine blk_drewN ?_ _ | refine blk_drew ?_ | refine blk_alloc ?_ _)); refine blk_put (cs := #[.int .i64 0, .int .i64 0, .string (⟨#[]⟩ : ByteArray), .slice none 0 0]) ?_ 0 _ rfl; (with_reducible repeat (first | refine blk_drewN ?_ _ | refine blk_drew ?_ | refine blk_alloc ?_ _)); exact BK142.out) hb); have n1_ := Aside0.mk (below_step (by repeat (first | (with_reducible first | exact HB.out | apply below_alloc | apply pw_below_drewN | apply below_drew1 | refine below_set ?_ GE142.out) | exact HB.out)) hb); have n2_ := Aside0.mk (hbox); have n3_ := Aside0.mk ((by rw [hg]; exact (below_size (by repeat (first | (with_reducible first | exact HB.out | apply below_alloc | apply pw_below_drewN | apply below_drew1 | refine below_set ?_ GE142.out) | exact HB.out))) : w.heap.size ≤ gb144)); have n4_ := Aside0.mk ((by rw [hg]; exact (below_size (by repeat (first | (with_reducible first | exact HB.out | apply below_alloc | apply pw_below_drewN | apply below_drew1 | refine below_set ?_ GE142.out) | exact HB.out))) : w.heap.size ≤ gb144)); have n5_ := Aside0.mk ((by rw [hg]; exact Nat.ne_of_lt (blk_lt (g := gb142) (o := .cells #[.int .i64 ((rd_T33 l0 x17_1).f0), .int .i64 ((rd_T33 l0 x17_1).f1), .string ((rd_T33 l0 x17_1).f2), .slice A141_3 ((rd_T33 l0 x17_1).f3).length c141_3] 33 (0, 0)) (by (with_reducible repeat (first | refine blk_drewN ?_ _ | refine blk_drew ?_ | refine blk_alloc ?_ _)); refine blk_put (cs := #[.int .i64 ((rd_T33 l0 x17_1).f0), .int .i64 ((rd_T33 l0 x17_1).f1), .string ((rd_T33 l0 x17_1).f2), .slice none 0 0]) ?_ 3 _ rfl; (with_reducible repeat (first | refine blk_drewN ?_ _ | refine blk_drew ?_ | refine blk_alloc ?_ _)); refine blk_put (cs := #[.int .i64 ((rd_T33 l0 x17_1).f0), .int .i64 ((rd_T33 l0 x17_1).f1), .string (⟨#[]⟩ : ByteArray), .slice none 0 0]) ?_ 2 _ rfl; (with_reducible repeat (first | refine blk_drewN ?_ _ | refine blk_drew ?_ | refine blk_alloc ?_ _)); refine blk_put (cs := #[.int .i64 ((rd_T33 l0 x17_1).f0), .int .i64 0, .string (⟨#[]⟩ : ByteArray), .slice none 0 0]) ?_ 1 _ rfl; (with_reducible repeat (first | refine blk_drewN ?_ _ | refine blk_drew ?_ | refine blk_alloc ?_ _)); refine blk_put (cs := #[.int .i64 0, .int .i64 0, .string (⟨#[]⟩ : ByteArray), .slice none 0 0]) ?_ 0 _ rfl; (with_reducible repeat (first | refine blk_drewN ?_ _ | refine blk_drew ?_ | refine blk_alloc ?_ _)); exact BK142.out)) : gb142 ≠ gb144)); have n6_ := Aside0.mk ((by rw [hg]; exact Nat.ne_of_gt (blk_lt (g := gb142) (o := .cells #[.int .i64 ((rd_T33 l0 x17_1).f0), .int .i64 ((rd_T33 l0 x17_1).f1), .string ((rd_T33 l0 x17_1).f2), .slice A141_3 ((rd_T33 l0 x17_1).f3).length c141_3] 33 (0, 0)) (by (with_reducible repeat (first | refine blk_drewN ?_ _ | refine blk_drew ?_ | refine blk_alloc ?_ _)); refine blk_put (cs := #[.int .i64 ((rd_T33 l0 x17_1).f0), .int .i64 ((rd_T33 l0 x17_1).f1), .string ((rd_T33 l0 x17_1).f2), .slice none 0 0]) ?_ 3 _ rfl; (with_reducible repeat (first | refine blk_drewN ?_ _ | refine blk_drew ?_ | refine blk_alloc ?_ _)); refine blk_put (cs := #[.int .i64 ((rd_T33 l0 x17_1).f0), .int .i64 ((rd_T33 l0 x17_1).f1), .string (⟨#[]⟩ : ByteArray), .slice none 0 0]) ?_ 2 _ rfl; (with_reducible repeat (first | refine blk_drewN ?_ _ | refine blk_drew ?_ | refine blk_alloc ?_ _)); refine blk_put (cs := #[.int .i64 ((rd_T33 l0 x17_1).f0), .int .i64 0, .string (⟨#[]⟩ : ByteArray), .slice none 0 0]) ?_ 1 _ rfl; (with_reducible repeat (first | refine blk_drewN ?_ _ | refine blk_drew ?_ | refine blk_alloc ?_ _)); refine blk_put (cs := #[.int .i64 0, .int .i64 0, .string (⟨#[]⟩ : ByteArray), .slice none 0 0]) ?_ 0 _ rfl; (with_reducible repeat (first | refine blk_drewN ?_ _ | refine blk_drew ?_ | refine blk_alloc ?_ _)); exact BK142.out)) : gb144 ≠ gb142)); clear BK142; clear HB; have BK142 := n0_; have HB := n1_; have BK144 := n2_; have GW144 := n3_; have GE144 := n4_; have NB142_144 := n5_; have NB144_142 := n6_; clear n0_ n1_ n2_ n3_ n4_ n5_ n6_; clear hb hbox hg; have hnb21 := NB144_142.out; have hnc21 := NB142_144.out; have cz_ := cells4_ (w := w20) (g := gb144) BK144.out; obtain ⟨hcz22_0, hcz22_1, hcz22_2, hcz22_3⟩ := cz_; have hfz22 := blk_frozen BK144.out; have cz_ := cells4_ (w := w20) (g := gb142) BK142.out; obtain ⟨hcz23_0, hcz23_1, hcz23_2, hcz23_3⟩ := cz_; have hfz23 := blk_frozen BK142.out) | (go_at_call 32; (with_reducible refine (ih_32 k1 (by have := HK1.out; omega) ((rd_T33 l0 x17_1).f0) ((rd_T33 l0 x17_1).f1) ((rd_T33 l0 x17_1).f2) _ _ ((rd_T33 l0 x17_1).f3) ((rd_T33 l1 x17_1).f0) ((rd_T33 l1 x17_1).f1) ((rd_T33 l1 x17_1).f2) _ _ ((rd_T33 l1 x17_1).f3) false _ ?side1 ?side2 ?side3 ?side4 A9.out).mono ?_); (case side1 => exact Kd.C_below HR141_3.out (by repeat (first | (with_reducible first | exact HB.out | apply below_alloc | apply pw_below_drewN | apply below_drew1 | refine below_set ?_ GE142.out | refine below_set ?_ GE144.out) | exact HB.out))); (case side2 => exact HC141_3.out); (case side3 => exact Kd.C_below HR143_3.out (by repeat (first | (with_reducible first | exact HB.out | apply below_alloc | apply pw_below_drewN | apply below_drew1 | refine below_set ?_ GE142.out | refine below_set ?_ GE144.out) | exact HB.out))); (case side4 => exact HC143_3.out); rintro e w24 ⟨rfl, hb⟩; have n0_ := Aside0.mk (blk_below (g := gb142) (o := .cells #[.int .i64 ((rd_T33 l0 x17_1).f0), .int .i64 ((rd_T33 l0 x17_1).f1), .string ((rd_T33 l0 x17_1).f2), .slice A141_3 ((rd_T33 l0 x17_1).f3).length c141_3] 33 (0, 0)) (by (with_reducible repeat (first | refine blk_drewN ?_ _ | refine blk_drew ?_ | refine blk_alloc ?_ _)); refine blk_far ?_ NB142_144.out _; (with_reducible repeat (first | refine blk_drewN ?_ _ | refine blk_drew ?_ | refine blk_alloc ?_ _)); refine blk_far ?_ NB142_144.out _; (with_reducible repeat (first | refine blk_drewN ?_ _ | refine blk_drew ?_ | refine blk_alloc ?_ _)); refine blk_far ?_ NB142_144.out _; (with_reducible repeat (first | refine blk_drewN ?_ _ | refine blk_drew ?_ | refine blk_alloc ?_ _)); refine blk_far ?_ NB142_144.out _; (with_reducible repeat (first | refine blk_drewN ?_ _ | refine blk_drew ?_ | refine blk_alloc ?_ _)); exact BK142.out) hb); have n1_ := Aside0.mk (blk_below (g := gb144) (o := .cells #[.int .i64 ((rd_T33 l1 x17_1).f0), .int .i64 ((rd_T33 l1 x17_1).f1), .string ((rd_T33 l1 x17_1).f2), .slice A143_3 ((rd_T33 l1 x17_1).f3).length c143_3] 33 (0, 0)) (by (with_reducible repeat (first | refine blk_drewN ?_ _ | refine blk_drew ?_ | refine blk_alloc ?_ _)); refine blk_put (cs := #[.int .i64 ((rd_T33 l1 x17_1).f0), .int .i64 ((rd_T33 l1 x17_1).f1), .string ((rd_T33 l1 x17_1).f2), .slice none 0 0]) ?_ 3 _ rfl; (with_reducible repeat (first | refine blk_drewN ?_ _ | refine blk_drew ?_ | refine blk_alloc ?_ _)); refine blk_put (cs := #[.int .i64 ((rd_T33 l1 x17_1).f0), .int .i64 ((rd_T33 l1 x17_1).f1), .string (⟨#[]⟩ : ByteArray), .slice none 0 0]) ?_ 2 _ rfl; (with_reducible repeat (first | refine blk_drewN ?_ _ | refine blk_drew ?_ | refine blk_alloc ?_ _)); refine blk_put (cs := #[.int .i64 ((rd_T33 l1 x17_1).f0), .int .i64 0, .string (⟨#[]⟩ : ByteArray), .slice none 0 0]) ?_ 1 _ rfl; (with_reducible repeat (first | refine blk_drewN ?_ _ | refine blk_drew ?_ | refine blk_alloc ?_ _)); refine blk_put (cs := #[.int .i64 0, .int .i64 0, .string (⟨#[]⟩ : ByteArray), .slice none 0 0]) ?_ 0 _ rfl; (with_reducible repeat (first | refine blk_drewN ?_ _ | refine blk_drew ?_ | refine blk_alloc ?_ _)); exact BK144.out) hb); have n2_ := Aside0.mk (below_step (by repeat (first | (with_reducible first | exact HB.out | apply below_alloc | apply pw_below_drewN | apply below_drew1 | refine below_set ?_ GE142.out | refine below_set ?_ GE144.out) | exact HB.out)) hb); clear BK142; clear BK144; clear HB; have BK142 := n0_; have BK144 := n1_; have HB := n2_; clear n0_ n1_ n2_; (try clear hb); (try clear hb2); (try clear hk); (try clear hi)))
                  go_ret
                  exact ⟨by first | rfl | (simp [errW_none, errW_some] <;> rfl) | (simp [*, errW_none, errW_some] <;> rfl), by repeat (first | (with_reducible first | exact HB.out | apply below_alloc | apply pw_below_drewN | apply below_drew1 | refine below_set ?_ GE142.out | refine below_set ?_ GE144.out) | exact HB.out)⟩
              · rw [if_neg c8] at H
                exact absurd H (by simp)
            · rw [if_neg c7] at H
              exact absurd H (by simp)
          · rw [if_neg c6] at H
            exact absurd H (by simp)
        · rw [if_neg c5] at H
          have c5b0 : decide (x17_1 < (l0.length : Int)) = false := decide_eq_false c5
          clear c5
          obtain rfl := Option.some.inj H
          go_wp2
          go_ret
          exact ⟨by first | rfl | (simp [errW_none, errW_some] <;> rfl) | (simp [*, errW_none, errW_some] <;> rfl), by repeat (first | (with_reducible first | exact HB.out | apply below_alloc | apply pw_below_drewN | apply below_drew1) | exact HB.out)⟩
  · rw [if_neg c4] at H
    have c4b0 : ((l0.length : Int) == (l1.length : Int)) = false := beq_eq_false_iff_ne.mpr c4
    have c4b1 : ((l0.length : Int) != (l1.length : Int)) = true := bne_iff_ne.mpr c4
    have c4b2 : (l0.length == l1.length) = false := by first | simpa using c4 | (simp at c4 ⊢; omega)
    obtain rfl := Option.some.inj H
    go_enter Try.func61, Try.ntmps61
    go_wp2
    go_ret
    exact ⟨by first | rfl | (simp [errW_none, errW_some] <;> rfl) | (simp [*, errW_none, errW_some] <;> rfl), by repeat (first | (with_reducible first | exact HB.out | apply below_alloc | apply pw_below_drewN | apply below_drew1) | exact HB.out)⟩

theorem impl_SameExpr_group.both : ∀ k : Nat, (∀ (a0_0 : Int) (a0_1 : Int) (a0_2 : ByteArray) (A0_3 : Option Addr) (c0_3 : Nat) (l0_3 : List (S33)) (a1_0 : Int) (a1_1 : Int) (a1_2 : ByteArray) (A1_3 : Option Addr) (c1_3 : Nat) (l1_3 : List (S33)) (r : Bool) (w : World) (hr0_3 : Kd.C k33 w A0_3 l0_3.length l0_3) (hc0_3 : l0_3.length ≤ c0_3) (hr1_3 : Kd.C k33 w A1_3 l1_3.length l1_3) (hc1_3 : l1_3.length ≤ c1_3) (h : impl_SameExpr.f k a0_0 a0_1 a0_2 l0_3 a1_0 a1_1 a1_2 l1_3 = some r),
    Calls Try.prog 32 #[.agg #[.int .i64 a0_0, .int .i64 a0_1, .string a0_2, .slice A0_3 l0_3.length c0_3], .agg #[.int .i64 a1_0, .int .i64 a1_1, .string a1_2, .slice A1_3 l1_3.length c1_3]] w fun e w' => e = .returned (.bool r) ∧ Below w.heap.size w w') ∧ (∀ (A0 : Option Addr) (c0 : Nat) (l0 : List (S33)) (A1 : Option Addr) (c1 : Nat) (l1 : List (S33))  (r : Bool) (w : World) (hr0 : Kd.C k33 w A0 l0.length l0) (hc0 : l0.length ≤ c0) (hr1 : Kd.C k33 w A1 l1.length l1) (hc1 : l1.length ≤ c1) (h : impl_Expr_at_impl_SameExpr.f k l0 l1 = some r),
    Calls Try.prog 61 #[.slice A0 l0.length c0, .slice A1 l1.length c1, .func (.func 32) #[] #[]] w fun e w' => e = .returned (.bool r) ∧ Below w.heap.size w w') := by
  intro k
  induction k using Nat.strongRecOn with
  | _ k ih =>
  exact ⟨impl_SameExpr.step k (fun m hm => (ih m hm).1) (fun m hm => (ih m hm).2), impl_Expr_at_impl_SameExpr.step k (fun m hm => (ih m hm).1) (fun m hm => (ih m hm).2)⟩
theorem impl_SameExpr.calls (k : Nat) : ∀ (a0_0 : Int) (a0_1 : Int) (a0_2 : ByteArray) (A0_3 : Option Addr) (c0_3 : Nat) (l0_3 : List (S33)) (a1_0 : Int) (a1_1 : Int) (a1_2 : ByteArray) (A1_3 : Option Addr) (c1_3 : Nat) (l1_3 : List (S33)) (r : Bool) (w : World) (hr0_3 : Kd.C k33 w A0_3 l0_3.length l0_3) (hc0_3 : l0_3.length ≤ c0_3) (hr1_3 : Kd.C k33 w A1_3 l1_3.length l1_3) (hc1_3 : l1_3.length ≤ c1_3) (h : impl_SameExpr.f k a0_0 a0_1 a0_2 l0_3 a1_0 a1_1 a1_2 l1_3 = some r),
    Calls Try.prog 32 #[.agg #[.int .i64 a0_0, .int .i64 a0_1, .string a0_2, .slice A0_3 l0_3.length c0_3], .agg #[.int .i64 a1_0, .int .i64 a1_1, .string a1_2, .slice A1_3 l1_3.length c1_3]] w fun e w' => e = .returned (.bool r) ∧ Below w.heap.size w w' := (impl_SameExpr_group.both k).1
theorem impl_Expr_at_impl_SameExpr.calls (k : Nat) : ∀ (A0 : Option Addr) (c0 : Nat) (l0 : List (S33)) (A1 : Option Addr) (c1 : Nat) (l1 : List (S33))  (r : Bool) (w : World) (hr0 : Kd.C k33 w A0 l0.length l0) (hc0 : l0.length ≤ c0) (hr1 : Kd.C k33 w A1 l1.length l1) (hc1 : l1.length ≤ c1) (h : impl_Expr_at_impl_SameExpr.f k l0 l1 = some r),
    Calls Try.prog 61 #[.slice A0 l0.length c0, .slice A1 l1.length c1, .func (.func 32) #[] #[]] w fun e w' => e = .returned (.bool r) ∧ Below w.heap.size w w' := (impl_SameExpr_group.both k).2

/-! ### impl_SameStatement: function 10, by hand -/
-- NEEDS impl_SameExpr
def impl_SameStatement.f (k : Nat) (a0_0 : ByteArray) (a0_1 : Bool) (a0_2 : Int) (a0_3 : Int) (a0_4 : ByteArray) (l0_5 : List S33) (a0_6 : Bool) (a0_7 : Int) (a0_8 : Int) (a0_9 : ByteArray) (l0_10 : List S33) (a0_11 : Bool) (a0_12 : Int) (a0_13 : Int) (a0_14 : ByteArray) (l0_15 : List S33) (a0_16 : ByteArray) (a0_17 : ByteArray) (a0_18 : ByteArray) (a1_0 : ByteArray) (a1_1 : Bool) (a1_2 : Int) (a1_3 : Int) (a1_4 : ByteArray) (l1_5 : List S33) (a1_6 : Bool) (a1_7 : Int) (a1_8 : Int) (a1_9 : ByteArray) (l1_10 : List S33) (a1_11 : Bool) (a1_12 : Int) (a1_13 : Int) (a1_14 : ByteArray) (l1_15 : List S33) (a1_16 : ByteArray) (a1_17 : ByteArray) (a1_18 : ByteArray) : Option Bool := (impl_SameExpr.f k a0_2 a0_3 a0_4 l0_5 a1_2 a1_3 a1_4 l1_5).bind fun t1 => (if t1 = true then (impl_SameExpr.f k a0_7 a0_8 a0_9 l0_10 a1_7 a1_8 a1_9 l1_10) else (some false)).bind fun t2 => (if t2 = true then (impl_SameExpr.f k a0_12 a0_13 a0_14 l0_15 a1_12 a1_13 a1_14 l1_15) else (some false)).bind fun t3 => some ((a0_0.toList == a1_0.toList) && (((a0_16.toList == a1_16.toList) && ((a0_17.toList == a1_17.toList) && (a0_18.toList == a1_18.toList))) && (((a0_1 == a1_1) && ((a0_6 == a1_6) && (a0_11 == a1_11))) && t3)))
theorem impl_SameStatement.mono : ∀ a0 a1 a2 a3 a4 a5 a6 a7 a8 a9 a10 a11 a12 a13 a14 a15 a16 a17 a18 a19 a20 a21 a22 a23 a24 a25 a26 a27 a28 a29 a30 a31 a32 a33 a34 a35 a36 a37 k, LeO (impl_SameStatement.f k a0 a1 a2 a3 a4 a5 a6 a7 a8 a9 a10 a11 a12 a13 a14 a15 a16 a17 a18 a19 a20 a21 a22 a23 a24 a25 a26 a27 a28 a29 a30 a31 a32 a33 a34 a35 a36 a37) (impl_SameStatement.f (k + 1) a0 a1 a2 a3 a4 a5 a6 a7 a8 a9 a10 a11 a12 a13 a14 a15 a16 a17 a18 a19 a20 a21 a22 a23 a24 a25 a26 a27 a28 a29 a30 a31 a32 a33 a34 a35 a36 a37) := by
  intro a0 a1 a2 a3 a4 a5 a6 a7 a8 a9 a10 a11 a12 a13 a14 a15 a16 a17 a18 a19 a20 a21 a22 a23 a24 a25 a26 a27 a28 a29 a30 a31 a32 a33 a34 a35 a36 a37 k
  unfold impl_SameStatement.f
  repeat' first
  | (with_reducible exact impl_SameExpr.mono _ _ _ _ _ _ _ _ _)
  | (with_reducible exact LeO.refl _)
  | (with_reducible refine LeO.ite ?_ ?_)
  | (with_reducible refine LeO.bind ?_ (fun _ => ?_))
set_option maxHeartbeats 8000000 in
set_option maxRecDepth 100000 in
theorem impl_SameStatement.calls (k : Nat) (a0_0 : ByteArray) (a0_1 : Bool) (a0_2 : Int) (a0_3 : Int) (a0_4 : ByteArray) (A0_5 : Option Addr) (c0_5 : Nat) (l0_5 : List S33) (a0_6 : Bool) (a0_7 : Int) (a0_8 : Int) (a0_9 : ByteArray) (A0_10 : Option Addr) (c0_10 : Nat) (l0_10 : List S33) (a0_11 : Bool) (a0_12 : Int) (a0_13 : Int) (a0_14 : ByteArray) (A0_15 : Option Addr) (c0_15 : Nat) (l0_15 : List S33) (a0_16 : ByteArray) (a0_17 : ByteArray) (a0_18 : ByteArray) (a1_0 : ByteArray) (a1_1 : Bool) (a1_2 : Int) (a1_3 : Int) (a1_4 : ByteArray) (A1_5 : Option Addr) (c1_5 : Nat) (l1_5 : List S33) (a1_6 : Bool) (a1_7 : Int) (a1_8 : Int) (a1_9 : ByteArray) (A1_10 : Option Addr) (c1_10 : Nat) (l1_10 : List S33) (a1_11 : Bool) (a1_12 : Int) (a1_13 : Int) (a1_14 : ByteArray) (A1_15 : Option Addr) (c1_15 : Nat) (l1_15 : List S33) (a1_16 : ByteArray) (a1_17 : ByteArray) (a1_18 : ByteArray) (r : Bool) (w : World) (hr0_5 : Kd.C k33 w A0_5 l0_5.length l0_5) (hc0_5 : l0_5.length ≤ c0_5) (hr0_10 : Kd.C k33 w A0_10 l0_10.length l0_10) (hc0_10 : l0_10.length ≤ c0_10) (hr0_15 : Kd.C k33 w A0_15 l0_15.length l0_15) (hc0_15 : l0_15.length ≤ c0_15) (hr1_5 : Kd.C k33 w A1_5 l1_5.length l1_5) (hc1_5 : l1_5.length ≤ c1_5) (hr1_10 : Kd.C k33 w A1_10 l1_10.length l1_10) (hc1_10 : l1_10.length ≤ c1_10) (hr1_15 : Kd.C k33 w A1_15 l1_15.length l1_15) (hc1_15 : l1_15.length ≤ c1_15) (h : impl_SameStatement.f k a0_0 a0_1 a0_2 a0_3 a0_4 l0_5 a0_6 a0_7 a0_8 a0_9 l0_10 a0_11 a0_12 a0_13 a0_14 l0_15 a0_16 a0_17 a0_18 a1_0 a1_1 a1_2 a1_3 a1_4 l1_5 a1_6 a1_7 a1_8 a1_9 l1_10 a1_11 a1_12 a1_13 a1_14 l1_15 a1_16 a1_17 a1_18 = some r) :
    Calls Try.prog 10 #[.agg #[.string a0_0, .bool a0_1, .int .i64 a0_2, .int .i64 a0_3, .string a0_4, .slice A0_5 l0_5.length c0_5, .bool a0_6, .int .i64 a0_7, .int .i64 a0_8, .string a0_9, .slice A0_10 l0_10.length c0_10, .bool a0_11, .int .i64 a0_12, .int .i64 a0_13, .string a0_14, .slice A0_15 l0_15.length c0_15, .string a0_16, .string a0_17, .string a0_18], .agg #[.string a1_0, .bool a1_1, .int .i64 a1_2, .int .i64 a1_3, .string a1_4, .slice A1_5 l1_5.length c1_5, .bool a1_6, .int .i64 a1_7, .int .i64 a1_8, .string a1_9, .slice A1_10 l1_10.length c1_10, .bool a1_11, .int .i64 a1_12, .int .i64 a1_13, .string a1_14, .slice A1_15 l1_15.length c1_15, .string a1_16, .string a1_17, .string a1_18]] w fun e w' => e = .returned (.bool r) ∧ Below w.heap.size w w' := by
  unfold impl_SameStatement.f at h
  have hu43 := Try.underlying36
  have hu41 := Try.underlying34
  have hu40 := Try.underlying33
  have HR0_5 := Aside0.mk hr0_5
  have HC0_5 := Aside0.mk hc0_5
  clear hr0_5 hc0_5
  have HR0_10 := Aside0.mk hr0_10
  have HC0_10 := Aside0.mk hc0_10
  clear hr0_10 hc0_10
  have HR0_15 := Aside0.mk hr0_15
  have HC0_15 := Aside0.mk hc0_15
  clear hr0_15 hc0_15
  have HR1_5 := Aside0.mk hr1_5
  have HC1_5 := Aside0.mk hc1_5
  clear hr1_5 hc1_5
  have HR1_10 := Aside0.mk hr1_10
  have HC1_10 := Aside0.mk hc1_10
  clear hr1_10 hc1_10
  have HR1_15 := Aside0.mk hr1_15
  have HC1_15 := Aside0.mk hc1_15
  clear hr1_15 hc1_15
  obtain ⟨t1, H1, h⟩ := Option.bind_eq_some_iff.mp h
  obtain ⟨t2, H2, h⟩ := Option.bind_eq_some_iff.mp h
  obtain ⟨t3, H3, h⟩ := Option.bind_eq_some_iff.mp h
  have HE := Aside0.mk (Option.some.inj h).symm
  have HT1 := Aside0.mk H1
  have HT2 := Aside0.mk H2
  have HT3 := Aside0.mk H3
  clear h H1 H2 H3
  have HB := Aside0.mk (Below.refl w.heap.size w)
  go_enter Try.func10, Try.ntmps10
  go_upto_region 1 with (first | ((with_reducible refine gate_dst (N := 2) rfl ?_); refine box_event ?hg (N := 2) ?hd (cs := #[.string a0_0, .bool a0_1, .int .i64 a0_2, .int .i64 a0_3, .string a0_4, .slice A0_5 l0_5.length c0_5, .bool a0_6, .int .i64 a0_7, .int .i64 a0_8, .string a0_9, .slice A0_10 l0_10.length c0_10, .bool a0_11, .int .i64 a0_12, .int .i64 a0_13, .string a0_14, .slice A0_15 l0_15.length c0_15, .string a0_16, .string a0_17, .string a0_18]) (t := 36) ?hr ?_; (case hd => rfl); (case hg => rfl); (case hr => first | (go_simp; done) | (go_simp; rfl)); intro g0 hg w4 hbox hb; have n0_ := Aside0.mk (below_step HB.out hb); have n1_ := Aside0.mk hbox; clear HB; have HB := n0_; have BK0 := n1_; clear n0_ n1_ hb hbox hg) | ((with_reducible refine gate_dst (N := 3) rfl ?_); refine box_event ?hg (N := 3) ?hd (cs := #[.string a1_0, .bool a1_1, .int .i64 a1_2, .int .i64 a1_3, .string a1_4, .slice A1_5 l1_5.length c1_5, .bool a1_6, .int .i64 a1_7, .int .i64 a1_8, .string a1_9, .slice A1_10 l1_10.length c1_10, .bool a1_11, .int .i64 a1_12, .int .i64 a1_13, .string a1_14, .slice A1_15 l1_15.length c1_15, .string a1_16, .string a1_17, .string a1_18]) (t := 36) ?hr ?_; (case hd => rfl); (case hg => rfl); (case hr => first | (go_simp; done) | (go_simp; rfl)); intro g1 hg w5 hbox hb; have n0_ := Aside0.mk (below_step HB.out hb); have n2_ := Aside0.mk (blk_below BK0.out hb); have n1_ := Aside0.mk hbox; clear HB; have HB := n0_; have BK1 := n1_; clear BK0; have BK0 := n2_; clear n2_; clear n0_ n1_ hb hbox hg))
  (try simp only [Act.put, List.setIfInBounds_toArray, List.set_cons_zero, List.set_cons_succ])
  obtain ⟨fl, hfl⟩ : ∃ fl : Bool, fl = ((a0_1 == a1_1) && ((a0_6 == a1_6) && (a0_11 == a1_11))) := ⟨_, rfl⟩
  have HF := Aside0.mk hfl
  rw [← hfl] at HE
  clear hfl
  go_cut [5] (fun v5 wc => v5 = .bool fl ∧ Aside0 (wc.heap[g0]? = some (.cells #[.string a0_0, .bool a0_1, .int .i64 a0_2, .int .i64 a0_3, .string a0_4, .slice A0_5 l0_5.length c0_5, .bool a0_6, .int .i64 a0_7, .int .i64 a0_8, .string a0_9, .slice A0_10 l0_10.length c0_10, .bool a0_11, .int .i64 a0_12, .int .i64 a0_13, .string a0_14, .slice A0_15 l0_15.length c0_15, .string a0_16, .string a0_17, .string a0_18] 36 (0, 0))) ∧ Aside0 (wc.heap[g1]? = some (.cells #[.string a1_0, .bool a1_1, .int .i64 a1_2, .int .i64 a1_3, .string a1_4, .slice A1_5 l1_5.length c1_5, .bool a1_6, .int .i64 a1_7, .int .i64 a1_8, .string a1_9, .slice A1_10 l1_10.length c1_10, .bool a1_11, .int .i64 a1_12, .int .i64 a1_13, .string a1_14, .slice A1_15 l1_15.length c1_15, .string a1_16, .string a1_17, .string a1_18] 36 (0, 0))) ∧ Aside0 (Below w.heap.size w wc))
  case first =>
    have za0_1 : w5.cell? ⟨g0, 1, none⟩ = some (.bool a0_1) := (blk_cell BK0.out 1).trans rfl
    have za0_6 : w5.cell? ⟨g0, 6, none⟩ = some (.bool a0_6) := (blk_cell BK0.out 6).trans rfl
    have za0_11 : w5.cell? ⟨g0, 11, none⟩ = some (.bool a0_11) := (blk_cell BK0.out 11).trans rfl
    have za1_1 : w5.cell? ⟨g1, 1, none⟩ = some (.bool a1_1) := (blk_cell BK1.out 1).trans rfl
    have za1_6 : w5.cell? ⟨g1, 6, none⟩ = some (.bool a1_6) := (blk_cell BK1.out 6).trans rfl
    have za1_11 : w5.cell? ⟨g1, 11, none⟩ = some (.bool a1_11) := (blk_cell BK1.out 11).trans rfl
    by_cases qa0_1 : a0_1 = a1_1
    · have qa0_1b : (a0_1 == a1_1) = true := beq_iff_eq.mpr qa0_1
      have qa0_1d : decide (a0_1 = a1_1) = true := decide_eq_true qa0_1
      clear qa0_1
      by_cases qa0_6 : a0_6 = a1_6
      · have qa0_6b : (a0_6 == a1_6) = true := beq_iff_eq.mpr qa0_6
        have qa0_6d : decide (a0_6 = a1_6) = true := decide_eq_true qa0_6
        clear qa0_6
        by_cases qa0_11 : a0_11 = a1_11
        · have qa0_11b : (a0_11 == a1_11) = true := beq_iff_eq.mpr qa0_11
          have qa0_11d : decide (a0_11 = a1_11) = true := decide_eq_true qa0_11
          clear qa0_11
          go_wp2
          go_meet
          case rel => exact ⟨by rw [HF.out]; simp [*], BK0, BK1, HB⟩
        · have qa0_11b : (a0_11 == a1_11) = false := beq_eq_false_iff_ne.mpr qa0_11
          have qa0_11d : decide (a0_11 = a1_11) = false := decide_eq_false qa0_11
          clear qa0_11
          go_wp2
          go_meet
          case rel => exact ⟨by rw [HF.out]; simp [*], BK0, BK1, HB⟩
      · have qa0_6b : (a0_6 == a1_6) = false := beq_eq_false_iff_ne.mpr qa0_6
        have qa0_6d : decide (a0_6 = a1_6) = false := decide_eq_false qa0_6
        clear qa0_6
        go_wp2
        go_meet
        case rel => exact ⟨by rw [HF.out]; simp [*], BK0, BK1, HB⟩
    · have qa0_1b : (a0_1 == a1_1) = false := beq_eq_false_iff_ne.mpr qa0_1
      have qa0_1d : decide (a0_1 = a1_1) = false := decide_eq_false qa0_1
      clear qa0_1
      go_wp2
      go_meet
      case rel => exact ⟨by rw [HF.out]; simp [*], BK0, BK1, HB⟩
  case rest =>
    obtain ⟨rfl, BK0, BK1, HB⟩ := hcut
    go_upto_region 2 with fail
    go_cut [6] (fun v6 wc => v6 = .bool t3 ∧ Aside0 (wc.heap[g0]? = some (.cells #[.string a0_0, .bool a0_1, .int .i64 a0_2, .int .i64 a0_3, .string a0_4, .slice A0_5 l0_5.length c0_5, .bool a0_6, .int .i64 a0_7, .int .i64 a0_8, .string a0_9, .slice A0_10 l0_10.length c0_10, .bool a0_11, .int .i64 a0_12, .int .i64 a0_13, .string a0_14, .slice A0_15 l0_15.length c0_15, .string a0_16, .string a0_17, .string a0_18] 36 (0, 0))) ∧ Aside0 (wc.heap[g1]? = some (.cells #[.string a1_0, .bool a1_1, .int .i64 a1_2, .int .i64 a1_3, .string a1_4, .slice A1_5 l1_5.length c1_5, .bool a1_6, .int .i64 a1_7, .int .i64 a1_8, .string a1_9, .slice A1_10 l1_10.length c1_10, .bool a1_11, .int .i64 a1_12, .int .i64 a1_13, .string a1_14, .slice A1_15 l1_15.length c1_15, .string a1_16, .string a1_17, .string a1_18] 36 (0, 0))) ∧ Aside0 (Below w.heap.size w wc))
    case first =>
      have zb0_2 : wc.cell? ⟨g0, 2, none⟩ = some (.int .i64 a0_2) := (blk_cell BK0.out 2).trans rfl
      have zb0_3 : wc.cell? ⟨g0, 3, none⟩ = some (.int .i64 a0_3) := (blk_cell BK0.out 3).trans rfl
      have zb0_4 : wc.cell? ⟨g0, 4, none⟩ = some (.string a0_4) := (blk_cell BK0.out 4).trans rfl
      have zb0_5 : wc.cell? ⟨g0, 5, none⟩ = some (.slice A0_5 l0_5.length c0_5) := (blk_cell BK0.out 5).trans rfl
      have zb1_2 : wc.cell? ⟨g1, 2, none⟩ = some (.int .i64 a1_2) := (blk_cell BK1.out 2).trans rfl
      have zb1_3 : wc.cell? ⟨g1, 3, none⟩ = some (.int .i64 a1_3) := (blk_cell BK1.out 3).trans rfl
      have zb1_4 : wc.cell? ⟨g1, 4, none⟩ = some (.string a1_4) := (blk_cell BK1.out 4).trans rfl
      have zb1_5 : wc.cell? ⟨g1, 5, none⟩ = some (.slice A1_5 l1_5.length c1_5) := (blk_cell BK1.out 5).trans rfl
      cases t1 with
      | false =>
        have e2 := HT2.out
        rw [if_neg (by simp)] at e2
        obtain rfl := Option.some.inj e2
        have e3 := HT3.out
        rw [if_neg (by simp)] at e3
        obtain rfl := Option.some.inj e3
        clear e2 e3
        go_wp2_with (first | (go_at_call 32; (with_reducible refine (impl_SameExpr.calls k a0_2 a0_3 a0_4 _ _ l0_5 a1_2 a1_3 a1_4 _ _ l1_5 false _ ?side1 ?side2 ?side3 ?side4 HT1.out).mono ?_); (case side1 => exact Kd.C_below HR0_5.out HB.out); (case side2 => exact HC0_5.out); (case side3 => exact Kd.C_below HR1_5.out HB.out); (case side4 => exact HC1_5.out); rintro e wx ⟨rfl, hb⟩; have n0_ := Aside0.mk (below_step HB.out hb); have n1_ := Aside0.mk (blk_below BK0.out hb); have n2_ := Aside0.mk (blk_below BK1.out hb); clear HB BK0 BK1; have HB := n0_; have BK0 := n1_; have BK1 := n2_; clear n0_ n1_ n2_ hb; have zwx0_7 : wx.cell? ⟨g0, 7, none⟩ = some (.int .i64 a0_7) := (blk_cell BK0.out 7).trans rfl; have zwx0_8 : wx.cell? ⟨g0, 8, none⟩ = some (.int .i64 a0_8) := (blk_cell BK0.out 8).trans rfl; have zwx0_9 : wx.cell? ⟨g0, 9, none⟩ = some (.string a0_9) := (blk_cell BK0.out 9).trans rfl; have zwx0_10 : wx.cell? ⟨g0, 10, none⟩ = some (.slice A0_10 l0_10.length c0_10) := (blk_cell BK0.out 10).trans rfl; have zwx1_7 : wx.cell? ⟨g1, 7, none⟩ = some (.int .i64 a1_7) := (blk_cell BK1.out 7).trans rfl; have zwx1_8 : wx.cell? ⟨g1, 8, none⟩ = some (.int .i64 a1_8) := (blk_cell BK1.out 8).trans rfl; have zwx1_9 : wx.cell? ⟨g1, 9, none⟩ = some (.string a1_9) := (blk_cell BK1.out 9).trans rfl; have zwx1_10 : wx.cell? ⟨g1, 10, none⟩ = some (.slice A1_10 l1_10.length c1_10) := (blk_cell BK1.out 10).trans rfl))
        go_meet
        case rel => exact ⟨rfl, BK0, BK1, HB⟩
      | true =>
        have e2 := HT2.out
        rw [if_pos rfl] at e2
        have n0_ := Aside0.mk e2
        clear HT2 e2
        have HT2 := n0_
        clear n0_
        cases t2 with
        | false =>
          have e3 := HT3.out
          rw [if_neg (by simp)] at e3
          obtain rfl := Option.some.inj e3
          clear e3
          go_wp2_with (first | (go_at_call 32; (with_reducible refine (impl_SameExpr.calls k a0_2 a0_3 a0_4 _ _ l0_5 a1_2 a1_3 a1_4 _ _ l1_5 true _ ?side1 ?side2 ?side3 ?side4 HT1.out).mono ?_); (case side1 => exact Kd.C_below HR0_5.out HB.out); (case side2 => exact HC0_5.out); (case side3 => exact Kd.C_below HR1_5.out HB.out); (case side4 => exact HC1_5.out); rintro e wx ⟨rfl, hb⟩; have n0_ := Aside0.mk (below_step HB.out hb); have n1_ := Aside0.mk (blk_below BK0.out hb); have n2_ := Aside0.mk (blk_below BK1.out hb); clear HB BK0 BK1; have HB := n0_; have BK0 := n1_; have BK1 := n2_; clear n0_ n1_ n2_ hb; have zwx0_7 : wx.cell? ⟨g0, 7, none⟩ = some (.int .i64 a0_7) := (blk_cell BK0.out 7).trans rfl; have zwx0_8 : wx.cell? ⟨g0, 8, none⟩ = some (.int .i64 a0_8) := (blk_cell BK0.out 8).trans rfl; have zwx0_9 : wx.cell? ⟨g0, 9, none⟩ = some (.string a0_9) := (blk_cell BK0.out 9).trans rfl; have zwx0_10 : wx.cell? ⟨g0, 10, none⟩ = some (.slice A0_10 l0_10.length c0_10) := (blk_cell BK0.out 10).trans rfl; have zwx1_7 : wx.cell? ⟨g1, 7, none⟩ = some (.int .i64 a1_7) := (blk_cell BK1.out 7).trans rfl; have zwx1_8 : wx.cell? ⟨g1, 8, none⟩ = some (.int .i64 a1_8) := (blk_cell BK1.out 8).trans rfl; have zwx1_9 : wx.cell? ⟨g1, 9, none⟩ = some (.string a1_9) := (blk_cell BK1.out 9).trans rfl; have zwx1_10 : wx.cell? ⟨g1, 10, none⟩ = some (.slice A1_10 l1_10.length c1_10) := (blk_cell BK1.out 10).trans rfl) | (go_at_call 32; (with_reducible refine (impl_SameExpr.calls k a0_7 a0_8 a0_9 _ _ l0_10 a1_7 a1_8 a1_9 _ _ l1_10 false _ ?side1 ?side2 ?side3 ?side4 HT2.out).mono ?_); (case side1 => exact Kd.C_below HR0_10.out HB.out); (case side2 => exact HC0_10.out); (case side3 => exact Kd.C_below HR1_10.out HB.out); (case side4 => exact HC1_10.out); rintro e wy ⟨rfl, hb⟩; have n0_ := Aside0.mk (below_step HB.out hb); have n1_ := Aside0.mk (blk_below BK0.out hb); have n2_ := Aside0.mk (blk_below BK1.out hb); clear HB BK0 BK1; have HB := n0_; have BK0 := n1_; have BK1 := n2_; clear n0_ n1_ n2_ hb; have zwy0_12 : wy.cell? ⟨g0, 12, none⟩ = some (.int .i64 a0_12) := (blk_cell BK0.out 12).trans rfl; have zwy0_13 : wy.cell? ⟨g0, 13, none⟩ = some (.int .i64 a0_13) := (blk_cell BK0.out 13).trans rfl; have zwy0_14 : wy.cell? ⟨g0, 14, none⟩ = some (.string a0_14) := (blk_cell BK0.out 14).trans rfl; have zwy0_15 : wy.cell? ⟨g0, 15, none⟩ = some (.slice A0_15 l0_15.length c0_15) := (blk_cell BK0.out 15).trans rfl; have zwy1_12 : wy.cell? ⟨g1, 12, none⟩ = some (.int .i64 a1_12) := (blk_cell BK1.out 12).trans rfl; have zwy1_13 : wy.cell? ⟨g1, 13, none⟩ = some (.int .i64 a1_13) := (blk_cell BK1.out 13).trans rfl; have zwy1_14 : wy.cell? ⟨g1, 14, none⟩ = some (.string a1_14) := (blk_cell BK1.out 14).trans rfl; have zwy1_15 : wy.cell? ⟨g1, 15, none⟩ = some (.slice A1_15 l1_15.length c1_15) := (blk_cell BK1.out 15).trans rfl))
          go_meet
          case rel => exact ⟨rfl, BK0, BK1, HB⟩
        | true =>
          have e3 := HT3.out
          rw [if_pos rfl] at e3
          have n0_ := Aside0.mk e3
          clear HT3 e3
          have HT3 := n0_
          clear n0_
          go_wp2_with (first | (go_at_call 32; (with_reducible refine (impl_SameExpr.calls k a0_2 a0_3 a0_4 _ _ l0_5 a1_2 a1_3 a1_4 _ _ l1_5 true _ ?side1 ?side2 ?side3 ?side4 HT1.out).mono ?_); (case side1 => exact Kd.C_below HR0_5.out HB.out); (case side2 => exact HC0_5.out); (case side3 => exact Kd.C_below HR1_5.out HB.out); (case side4 => exact HC1_5.out); rintro e wx ⟨rfl, hb⟩; have n0_ := Aside0.mk (below_step HB.out hb); have n1_ := Aside0.mk (blk_below BK0.out hb); have n2_ := Aside0.mk (blk_below BK1.out hb); clear HB BK0 BK1; have HB := n0_; have BK0 := n1_; have BK1 := n2_; clear n0_ n1_ n2_ hb; have zwx0_7 : wx.cell? ⟨g0, 7, none⟩ = some (.int .i64 a0_7) := (blk_cell BK0.out 7).trans rfl; have zwx0_8 : wx.cell? ⟨g0, 8, none⟩ = some (.int .i64 a0_8) := (blk_cell BK0.out 8).trans rfl; have zwx0_9 : wx.cell? ⟨g0, 9, none⟩ = some (.string a0_9) := (blk_cell BK0.out 9).trans rfl; have zwx0_10 : wx.cell? ⟨g0, 10, none⟩ = some (.slice A0_10 l0_10.length c0_10) := (blk_cell BK0.out 10).trans rfl; have zwx1_7 : wx.cell? ⟨g1, 7, none⟩ = some (.int .i64 a1_7) := (blk_cell BK1.out 7).trans rfl; have zwx1_8 : wx.cell? ⟨g1, 8, none⟩ = some (.int .i64 a1_8) := (blk_cell BK1.out 8).trans rfl; have zwx1_9 : wx.cell? ⟨g1, 9, none⟩ = some (.string a1_9) := (blk_cell BK1.out 9).trans rfl; have zwx1_10 : wx.cell? ⟨g1, 10, none⟩ = some (.slice A1_10 l1_10.length c1_10) := (blk_cell BK1.out 10).trans rfl) | (go_at_call 32; (with_reducible refine (impl_SameExpr.calls k a0_7 a0_8 a0_9 _ _ l0_10 a1_7 a1_8 a1_9 _ _ l1_10 true _ ?side1 ?side2 ?side3 ?side4 HT2.out).mono ?_); (case side1 => exact Kd.C_below HR0_10.out HB.out); (case side2 => exact HC0_10.out); (case side3 => exact Kd.C_below HR1_10.out HB.out); (case side4 => exact HC1_10.out); rintro e wy ⟨rfl, hb⟩; have n0_ := Aside0.mk (below_step HB.out hb); have n1_ := Aside0.mk (blk_below BK0.out hb); have n2_ := Aside0.mk (blk_below BK1.out hb); clear HB BK0 BK1; have HB := n0_; have BK0 := n1_; have BK1 := n2_; clear n0_ n1_ n2_ hb; have zwy0_12 : wy.cell? ⟨g0, 12, none⟩ = some (.int .i64 a0_12) := (blk_cell BK0.out 12).trans rfl; have zwy0_13 : wy.cell? ⟨g0, 13, none⟩ = some (.int .i64 a0_13) := (blk_cell BK0.out 13).trans rfl; have zwy0_14 : wy.cell? ⟨g0, 14, none⟩ = some (.string a0_14) := (blk_cell BK0.out 14).trans rfl; have zwy0_15 : wy.cell? ⟨g0, 15, none⟩ = some (.slice A0_15 l0_15.length c0_15) := (blk_cell BK0.out 15).trans rfl; have zwy1_12 : wy.cell? ⟨g1, 12, none⟩ = some (.int .i64 a1_12) := (blk_cell BK1.out 12).trans rfl; have zwy1_13 : wy.cell? ⟨g1, 13, none⟩ = some (.int .i64 a1_13) := (blk_cell BK1.out 13).trans rfl; have zwy1_14 : wy.cell? ⟨g1, 14, none⟩ = some (.string a1_14) := (blk_cell BK1.out 14).trans rfl; have zwy1_15 : wy.cell? ⟨g1, 15, none⟩ = some (.slice A1_15 l1_15.length c1_15) := (blk_cell BK1.out 15).trans rfl) | (go_at_call 32; (with_reducible refine (impl_SameExpr.calls k a0_12 a0_13 a0_14 _ _ l0_15 a1_12 a1_13 a1_14 _ _ l1_15 t3 _ ?side1 ?side2 ?side3 ?side4 HT3.out).mono ?_); (case side1 => exact Kd.C_below HR0_15.out HB.out); (case side2 => exact HC0_15.out); (case side3 => exact Kd.C_below HR1_15.out HB.out); (case side4 => exact HC1_15.out); rintro e wz ⟨rfl, hb⟩; have n0_ := Aside0.mk (below_step HB.out hb); have n1_ := Aside0.mk (blk_below BK0.out hb); have n2_ := Aside0.mk (blk_below BK1.out hb); clear HB BK0 BK1; have HB := n0_; have BK0 := n1_; have BK1 := n2_; clear n0_ n1_ n2_ hb))
          go_meet
          case rel => exact ⟨rfl, BK0, BK1, HB⟩
    case rest =>
      obtain ⟨rfl, BK0, BK1, HB⟩ := hcut
      have zc0_0 : wc.cell? ⟨g0, 0, none⟩ = some (.string a0_0) := (blk_cell BK0.out 0).trans rfl
      have zc0_16 : wc.cell? ⟨g0, 16, none⟩ = some (.string a0_16) := (blk_cell BK0.out 16).trans rfl
      have zc0_17 : wc.cell? ⟨g0, 17, none⟩ = some (.string a0_17) := (blk_cell BK0.out 17).trans rfl
      have zc0_18 : wc.cell? ⟨g0, 18, none⟩ = some (.string a0_18) := (blk_cell BK0.out 18).trans rfl
      have zc1_0 : wc.cell? ⟨g1, 0, none⟩ = some (.string a1_0) := (blk_cell BK1.out 0).trans rfl
      have zc1_16 : wc.cell? ⟨g1, 16, none⟩ = some (.string a1_16) := (blk_cell BK1.out 16).trans rfl
      have zc1_17 : wc.cell? ⟨g1, 17, none⟩ = some (.string a1_17) := (blk_cell BK1.out 17).trans rfl
      have zc1_18 : wc.cell? ⟨g1, 18, none⟩ = some (.string a1_18) := (blk_cell BK1.out 18).trans rfl
      by_cases qa0_0 : a0_0.toList = a1_0.toList
      · have qa0_0b : (a0_0.toList == a1_0.toList) = true := beq_iff_eq.mpr qa0_0
        have qa0_0d : decide (a0_0.toList = a1_0.toList) = true := decide_eq_true qa0_0
        clear qa0_0
        by_cases qa0_16 : a0_16.toList = a1_16.toList
        · have qa0_16b : (a0_16.toList == a1_16.toList) = true := beq_iff_eq.mpr qa0_16
          have qa0_16d : decide (a0_16.toList = a1_16.toList) = true := decide_eq_true qa0_16
          clear qa0_16
          by_cases qa0_17 : a0_17.toList = a1_17.toList
          · have qa0_17b : (a0_17.toList == a1_17.toList) = true := beq_iff_eq.mpr qa0_17
            have qa0_17d : decide (a0_17.toList = a1_17.toList) = true := decide_eq_true qa0_17
            clear qa0_17
            by_cases qa0_18 : a0_18.toList = a1_18.toList
            · have qa0_18b : (a0_18.toList == a1_18.toList) = true := beq_iff_eq.mpr qa0_18
              have qa0_18d : decide (a0_18.toList = a1_18.toList) = true := decide_eq_true qa0_18
              clear qa0_18
              cases fl with
              | false =>
                go_wp2
                go_ret
                exact ⟨by rw [HE.out]; simp [*], HB.out⟩
              | true =>
                go_wp2
                go_ret
                exact ⟨by rw [HE.out]; simp [*], HB.out⟩
            · have qa0_18b : (a0_18.toList == a1_18.toList) = false := beq_eq_false_iff_ne.mpr qa0_18
              have qa0_18d : decide (a0_18.toList = a1_18.toList) = false := decide_eq_false qa0_18
              clear qa0_18
              cases fl with
              | false =>
                go_wp2
                go_ret
                exact ⟨by rw [HE.out]; simp [*], HB.out⟩
              | true =>
                go_wp2
                go_ret
                exact ⟨by rw [HE.out]; simp [*], HB.out⟩
          · have qa0_17b : (a0_17.toList == a1_17.toList) = false := beq_eq_false_iff_ne.mpr qa0_17
            have qa0_17d : decide (a0_17.toList = a1_17.toList) = false := decide_eq_false qa0_17
            clear qa0_17
            cases fl with
            | false =>
              go_wp2
              go_ret
              exact ⟨by rw [HE.out]; simp [*], HB.out⟩
            | true =>
              go_wp2
              go_ret
              exact ⟨by rw [HE.out]; simp [*], HB.out⟩
        · have qa0_16b : (a0_16.toList == a1_16.toList) = false := beq_eq_false_iff_ne.mpr qa0_16
          have qa0_16d : decide (a0_16.toList = a1_16.toList) = false := decide_eq_false qa0_16
          clear qa0_16
          cases fl with
          | false =>
            go_wp2
            go_ret
            exact ⟨by rw [HE.out]; simp [*], HB.out⟩
          | true =>
            go_wp2
            go_ret
            exact ⟨by rw [HE.out]; simp [*], HB.out⟩
      · have qa0_0b : (a0_0.toList == a1_0.toList) = false := beq_eq_false_iff_ne.mpr qa0_0
        have qa0_0d : decide (a0_0.toList = a1_0.toList) = false := decide_eq_false qa0_0
        clear qa0_0
        cases fl with
        | false =>
          go_wp2
          go_ret
          exact ⟨by rw [HE.out]; simp [*], HB.out⟩
        | true =>
          go_wp2
          go_ret
          exact ⟨by rw [HE.out]; simp [*], HB.out⟩

/-! ### impl_SameProgram: function 15, by hand -/
-- NEEDS impl_SameStatement
-- IMPORT Derived.Test.YtocfepcgpelhdaaRowLaw
-- kinds: k36
def impl_SameProgramRows.l0 : Nat → List S36 → List S36 → Int → Option Bool
  | 0, _, _, _ => none
  | k + 1, l, m, i => if i < (l.length : Int) then (if 0 ≤ i then (if i < (m.length : Int) then ((impl_SameStatement.f k ((rd_T36 l i).f0) ((rd_T36 l i).f1) ((rd_T36 l i).f2.f0) ((rd_T36 l i).f2.f1) ((rd_T36 l i).f2.f2) ((rd_T36 l i).f2.f3) ((rd_T36 l i).f3) ((rd_T36 l i).f4.f0) ((rd_T36 l i).f4.f1) ((rd_T36 l i).f4.f2) ((rd_T36 l i).f4.f3) ((rd_T36 l i).f5) ((rd_T36 l i).f6.f0) ((rd_T36 l i).f6.f1) ((rd_T36 l i).f6.f2) ((rd_T36 l i).f6.f3) ((rd_T36 l i).f7.f0) ((rd_T36 l i).f7.f1) ((rd_T36 l i).f7.f2) ((rd_T36 m i).f0) ((rd_T36 m i).f1) ((rd_T36 m i).f2.f0) ((rd_T36 m i).f2.f1) ((rd_T36 m i).f2.f2) ((rd_T36 m i).f2.f3) ((rd_T36 m i).f3) ((rd_T36 m i).f4.f0) ((rd_T36 m i).f4.f1) ((rd_T36 m i).f4.f2) ((rd_T36 m i).f4.f3) ((rd_T36 m i).f5) ((rd_T36 m i).f6.f0) ((rd_T36 m i).f6.f1) ((rd_T36 m i).f6.f2) ((rd_T36 m i).f6.f3) ((rd_T36 m i).f7.f0) ((rd_T36 m i).f7.f1) ((rd_T36 m i).f7.f2)).bind fun t => (if t = true then (impl_SameProgramRows.l0 k l m (wrap64 (i + 1))) else (some false))) else (none)) else (none)) else (some true)
def impl_SameProgramRows.f (k : Nat) (l m : List S36) : Option Bool := if (l.length : Int) = (m.length : Int) then (impl_SameProgramRows.l0 k l m 0) else (some false)
def impl_SameProgram.f (k : Nat) (l0_0 : List S36) (l1_0 : List S36) : Option Bool := impl_SameProgramRows.f k l0_0 l1_0
theorem impl_SameProgramRows.mono_l : ∀ k l m i, LeO (impl_SameProgramRows.l0 k l m i) (impl_SameProgramRows.l0 (k + 1) l m i) := by
  intro k
  induction k with
  | zero => intro l m i; unfold impl_SameProgramRows.l0; exact LeO.none _
  | succ k ih =>
    intro l m i
    unfold impl_SameProgramRows.l0
    repeat' first
    | (with_reducible exact ih _ _ _)
    | (with_reducible exact impl_SameStatement.mono _ _ _ _ _ _ _ _ _ _ _ _ _ _ _ _ _ _ _ _ _ _ _ _ _ _ _ _ _ _ _ _ _ _ _ _ _ _ _)
    | (with_reducible exact LeO.refl _)
    | (with_reducible exact LeO.none _)
    | (with_reducible refine LeO.ite ?_ ?_)
    | (with_reducible refine LeO.bind ?_ (fun _ => ?_))
theorem impl_SameProgram.mono : ∀ a0 a1 k, LeO (impl_SameProgram.f k a0 a1) (impl_SameProgram.f (k + 1) a0 a1) := by
  intro a0 a1 k
  unfold impl_SameProgram.f impl_SameProgramRows.f
  repeat' first
  | (with_reducible exact impl_SameProgramRows.mono_l _ _ _ _)
  | (with_reducible exact LeO.refl _)
  | (with_reducible refine LeO.ite ?_ ?_)
theorem impl_stm_calls (k : Nat) (x y : S36) (cs ds : List Value) (r : Bool) (w : World) (hK : k36.K w x cs) (hM : k36.K w y ds) (h : impl_SameStatement.f k (x.f0) (x.f1) (x.f2.f0) (x.f2.f1) (x.f2.f2) (x.f2.f3) (x.f3) (x.f4.f0) (x.f4.f1) (x.f4.f2) (x.f4.f3) (x.f5) (x.f6.f0) (x.f6.f1) (x.f6.f2) (x.f6.f3) (x.f7.f0) (x.f7.f1) (x.f7.f2) (y.f0) (y.f1) (y.f2.f0) (y.f2.f1) (y.f2.f2) (y.f2.f3) (y.f3) (y.f4.f0) (y.f4.f1) (y.f4.f2) (y.f4.f3) (y.f5) (y.f6.f0) (y.f6.f1) (y.f6.f2) (y.f6.f3) (y.f7.f0) (y.f7.f1) (y.f7.f2) = some r) :
    Calls Try.prog 10 #[.agg cs.toArray, .agg ds.toArray] w fun e w' => e = .returned (.bool r) ∧ Below w.heap.size w w' := by
  obtain ⟨A4, c4, A5, c5, A6, c6, rfl, l4, g4, l5, g5, l6, g6⟩ := k36_open hK
  obtain ⟨B4, d4, B5, d5, B6, d6, rfl, m4, q4, m5, q5, m6, q6⟩ := k36_open hM
  exact impl_SameStatement.calls k _ _ _ _ _ _ _ _ _ _ _ _ _ _ _ _ _ _ _ _ _ _ _ _ _ _ _ _ _ _ _ _ _ _ _ _ _ _ _ _ _ _ _ _ _ _ _ _ _ _ _ w g4 l4 g5 l5 g6 l6 q4 m4 q5 m5 q6 m6 h
set_option maxHeartbeats 4000000 in
set_option maxRecDepth 100000 in
theorem impl_SameProgramRows.calls (k : Nat) (A0 : Option Addr) (c0 : Nat) (l : List S36) (A1 : Option Addr) (c1 : Nat) (m : List S36) (r : Bool) (w : World) (hr0 : Kd.C k36 w A0 l.length l) (hc0 : l.length ≤ c0) (hr1 : Kd.C k36 w A1 m.length m) (hc1 : m.length ≤ c1) (h : impl_SameProgramRows.f k l m = some r) :
    Calls Try.prog 37 #[.slice A0 l.length c0, .slice A1 m.length c1, .func (.func 10) #[] #[]] w fun e w' => e = .returned (.bool r) ∧ Below w.heap.size w w' := by
  have huO := Try.underlying36
  have HR0 := Aside0.mk hr0
  have HR1 := Aside0.mk hr1
  clear hr0 hc0 hr1 hc1
  have HB := Aside0.mk (Below.refl w.heap.size w)
  unfold impl_SameProgramRows.f at h
  by_cases c1 : (l.length : Int) = (m.length : Int)
  · rw [if_pos c1] at h
    have c1b := bne_eq_false_iff_eq.mpr c1
    have c1a := beq_iff_eq.mpr c1
    clear c1
    have H := Aside0.mk h
    clear h
    go_enter Try.func37, Try.ntmps37
    go_wp2
    go_loopg [17] k (fun kq v5 w' => ∃ x5 : Int, v5 = .int .i64 x5 ∧ Aside0 (impl_SameProgramRows.l0 kq l m x5 = some r) ∧ Aside0 (kq ≤ k) ∧ Aside0 (Below w.heap.size w w'))
    case atStart => exact ⟨0, rfl, H, ⟨Nat.le_refl _⟩, HB⟩
    case round =>
      obtain ⟨x5, rfl, HL, HK, HB⟩ := hrel
      clear H c1b c1a
      cases gk with
      | zero => exact absurd HL.out (by simp [impl_SameProgramRows.l0])
      | succ kp =>
        have H := HL.out
        clear HL
        simp only [impl_SameProgramRows.l0] at H
        by_cases c5 : x5 < (l.length : Int)
        · rw [if_pos c5] at H
          have c5b := decide_eq_true c5
          by_cases c6 : 0 ≤ x5
          · rw [if_pos c6] at H
            by_cases c7 : x5 < (m.length : Int)
            · rw [if_pos c7] at H
              replace H := Option.bind_eq_some_iff.mp H
              obtain ⟨t, ht, H⟩ := H
              have HT := Aside0.mk ht
              have HS := Aside0.mk H
              clear ht H
              obtain ⟨ad0, ce0, ea0, el0, eK0, eC0⟩ := Go.Proofs.Ytocfepcgpelhdaa.RowLaw.elem_of HR0.out z36 x5 c6 c5
              cases ea0
              have EC0 := Aside0.mk eC0
              have EK0 := Aside0.mk eK0
              have EL0 := Aside0.mk ((by rw [el0]; kernel_rfl) : (Try.prog.info? 36).map (·.size) = some ce0.length)
              have EZ0 := Aside0.mk (el0.symm : k36.sz = ce0.length)
              clear eC0 eK0 el0
              obtain ⟨ad1, ce1, ea1, el1, eK1, eC1⟩ := Go.Proofs.Ytocfepcgpelhdaa.RowLaw.elem_of HR1.out z36 x5 c6 c7
              cases ea1
              have EC1 := Aside0.mk eC1
              have EK1 := Aside0.mk eK1
              have EL1 := Aside0.mk ((by rw [el1]; kernel_rfl) : (Try.prog.info? 36).map (·.size) = some ce1.length)
              have EZ1 := Aside0.mk (el1.symm : k36.sz = ce1.length)
              clear eC1 eK1 el1
              replace c5 := eq_true c5
              replace c6 := eq_true c6
              replace c7 := eq_true c7
              cases t with
              | true =>
                have H := HS.out
                rw [if_pos rfl] at H
                have H' := Aside0.mk H
                clear H HS
                go_wp2_with (first | ((with_reducible refine gate_dst (N := 21) rfl ?_); refine Go.Proofs.Ytocfepcgpelhdaa.RowLaw.at_event rfl 36 _ rfl (ad0.add (x5.toNat * k36.sz)) rfl _ ce0 huO rfl EL0.out (EC0.out.below HB.out) ?_; (try simp only [Act.put, List.setIfInBounds_toArray, List.set_cons_zero, List.set_cons_succ])) | ((with_reducible refine gate_dst (N := 8) rfl ?_); refine box_event ?hg (N := 8) ?hd (cs := #[.string (⟨#[]⟩ : ByteArray), .bool false, .int .i64 0, .int .i64 0, .string (⟨#[]⟩ : ByteArray), .slice none 0 0, .bool false, .int .i64 0, .int .i64 0, .string (⟨#[]⟩ : ByteArray), .slice none 0 0, .bool false, .int .i64 0, .int .i64 0, .string (⟨#[]⟩ : ByteArray), .slice none 0 0, .string (⟨#[]⟩ : ByteArray), .string (⟨#[]⟩ : ByteArray), .string (⟨#[]⟩ : ByteArray)]) (t := 36) ?hr ?_; (case hd => rfl); (case hg => rfl); (case hr => first | (go_simp; done) | (go_simp; rfl)); intro g2 hg wb8 hbox hb; have GEg2 := Aside0.mk ((by rw [hg]; exact HB.out.size) : w.heap.size ≤ g2); have n0_ := Aside0.mk (below_step HB.out hb); clear HB; have HB := n0_; clear n0_; have Bg2 := Aside0.mk hbox; clear hbox hg hb; (try simp only [Act.put, List.setIfInBounds_toArray, List.set_cons_zero, List.set_cons_succ])) | ((with_reducible refine gate_store (t := 36) (p := 8) rfl ?_); refine Go.Proofs.Ytocfepcgpelhdaa.RowLaw.put_event rfl 36 _ _ rfl g2 0 (.agg ce0.toArray) rfl rfl ce0 rfl 36 _ ce0.toArray Bg2.out EL0.out (Nat.le_of_eq (by rw [Nat.zero_add, ← EZ0.out]; rfl)) (Go.Proofs.Ytocfepcgpelhdaa.RowLaw.one_list EK0.out) (Go.Proofs.Ytocfepcgpelhdaa.RowLaw.whole_put EZ0.out rfl) ?_; intro wp8 hk hoth hbel hz; have n0_ := Aside0.mk (hbel _ _ HB.out GEg2.out); have n1_ := Aside0.mk hk; clear HB Bg2; have HB := n0_; have Bg2 := n1_; clear n0_ n1_ hk hoth hbel hz; (try simp only [Act.put, List.setIfInBounds_toArray, List.set_cons_zero, List.set_cons_succ])) | ((with_reducible refine gate_dst (N := 25) rfl ?_); refine Go.Proofs.Ytocfepcgpelhdaa.RowLaw.at_event rfl 36 _ rfl (ad1.add (x5.toNat * k36.sz)) rfl _ ce1 huO rfl EL1.out (EC1.out.below HB.out) ?_; (try simp only [Act.put, List.setIfInBounds_toArray, List.set_cons_zero, List.set_cons_succ])) | ((with_reducible refine gate_dst (N := 9) rfl ?_); refine box_event ?hg (N := 9) ?hd (cs := #[.string (⟨#[]⟩ : ByteArray), .bool false, .int .i64 0, .int .i64 0, .string (⟨#[]⟩ : ByteArray), .slice none 0 0, .bool false, .int .i64 0, .int .i64 0, .string (⟨#[]⟩ : ByteArray), .slice none 0 0, .bool false, .int .i64 0, .int .i64 0, .string (⟨#[]⟩ : ByteArray), .slice none 0 0, .string (⟨#[]⟩ : ByteArray), .string (⟨#[]⟩ : ByteArray), .string (⟨#[]⟩ : ByteArray)]) (t := 36) ?hr ?_; (case hd => rfl); (case hg => rfl); (case hr => first | (go_simp; done) | (go_simp; rfl)); intro g3 hg wb9 hbox hb; have GEg3 := Aside0.mk ((by rw [hg]; exact HB.out.size) : w.heap.size ≤ g3); have NB := Aside0.mk ((by rw [hg]; exact Nat.ne_of_lt (blk_lt Bg2.out)) : g2 ≠ g3); have n0_ := Aside0.mk (below_step HB.out hb); have n1_ := Aside0.mk (blk_below Bg2.out hb); clear HB Bg2; have HB := n0_; have Bg2 := n1_; clear n0_ n1_; have Bg3 := Aside0.mk hbox; clear hbox hg hb; (try simp only [Act.put, List.setIfInBounds_toArray, List.set_cons_zero, List.set_cons_succ])) | ((with_reducible refine gate_store (t := 36) (p := 9) rfl ?_); refine Go.Proofs.Ytocfepcgpelhdaa.RowLaw.put_event rfl 36 _ _ rfl g3 0 (.agg ce1.toArray) rfl rfl ce1 rfl 36 _ ce1.toArray Bg3.out EL1.out (Nat.le_of_eq (by rw [Nat.zero_add, ← EZ1.out]; rfl)) (Go.Proofs.Ytocfepcgpelhdaa.RowLaw.one_list EK1.out) (Go.Proofs.Ytocfepcgpelhdaa.RowLaw.whole_put EZ1.out rfl) ?_; intro wp9 hk hoth hbel hz; have n0_ := Aside0.mk (hbel _ _ HB.out GEg3.out); have n1_ := Aside0.mk hk; have n2_ := Aside0.mk ((hoth g2 NB.out).trans Bg2.out); clear HB Bg3 Bg2; have HB := n0_; have Bg3 := n1_; have Bg2 := n2_; clear n0_ n1_ n2_ hk hoth hbel hz; (try simp only [Act.put, List.setIfInBounds_toArray, List.set_cons_zero, List.set_cons_succ])) | ((with_reducible refine gate_dst (N := 27) rfl ?_); refine wpList_load_row rfl 36 _ rfl g2 rfl 36 ce0.toArray (0, 0) _ Bg2.out huO rfl EL0.out ?_; (try simp only [Act.put, List.setIfInBounds_toArray, List.set_cons_zero, List.set_cons_succ])) | ((with_reducible refine gate_dst (N := 28) rfl ?_); refine wpList_load_row rfl 36 _ rfl g3 rfl 36 ce1.toArray (0, 0) _ Bg3.out huO rfl EL1.out ?_; (try simp only [Act.put, List.setIfInBounds_toArray, List.set_cons_zero, List.set_cons_succ])) | (go_at_call 10; (with_reducible refine (impl_stm_calls kp (rd_T36 l x5) (rd_T36 m x5) ce0 ce1 true _ ?side1 ?side2 HT.out).mono ?_); (case side1 => exact k36.K_below HB.out EK0.out); (case side2 => exact k36.K_below HB.out EK1.out); rintro e wc ⟨rfl, hb⟩; have n0_ := Aside0.mk (below_step HB.out hb); clear HB; have HB := n0_; clear n0_; clear hb))
                go_roundg kp
                case measure => have := HK.out; omega
                case rel => exact ⟨_, rfl, H', ⟨by have := HK.out; omega⟩, HB⟩
              | false =>
                have H := HS.out
                rw [if_neg (by simp)] at H
                obtain rfl := Option.some.inj H
                clear HS
                go_wp2_with (first | ((with_reducible refine gate_dst (N := 21) rfl ?_); refine Go.Proofs.Ytocfepcgpelhdaa.RowLaw.at_event rfl 36 _ rfl (ad0.add (x5.toNat * k36.sz)) rfl _ ce0 huO rfl EL0.out (EC0.out.below HB.out) ?_; (try simp only [Act.put, List.setIfInBounds_toArray, List.set_cons_zero, List.set_cons_succ])) | ((with_reducible refine gate_dst (N := 8) rfl ?_); refine box_event ?hg (N := 8) ?hd (cs := #[.string (⟨#[]⟩ : ByteArray), .bool false, .int .i64 0, .int .i64 0, .string (⟨#[]⟩ : ByteArray), .slice none 0 0, .bool false, .int .i64 0, .int .i64 0, .string (⟨#[]⟩ : ByteArray), .slice none 0 0, .bool false, .int .i64 0, .int .i64 0, .string (⟨#[]⟩ : ByteArray), .slice none 0 0, .string (⟨#[]⟩ : ByteArray), .string (⟨#[]⟩ : ByteArray), .string (⟨#[]⟩ : ByteArray)]) (t := 36) ?hr ?_; (case hd => rfl); (case hg => rfl); (case hr => first | (go_simp; done) | (go_simp; rfl)); intro g2 hg wb8 hbox hb; have GEg2 := Aside0.mk ((by rw [hg]; exact HB.out.size) : w.heap.size ≤ g2); have n0_ := Aside0.mk (below_step HB.out hb); clear HB; have HB := n0_; clear n0_; have Bg2 := Aside0.mk hbox; clear hbox hg hb; (try simp only [Act.put, List.setIfInBounds_toArray, List.set_cons_zero, List.set_cons_succ])) | ((with_reducible refine gate_store (t := 36) (p := 8) rfl ?_); refine Go.Proofs.Ytocfepcgpelhdaa.RowLaw.put_event rfl 36 _ _ rfl g2 0 (.agg ce0.toArray) rfl rfl ce0 rfl 36 _ ce0.toArray Bg2.out EL0.out (Nat.le_of_eq (by rw [Nat.zero_add, ← EZ0.out]; rfl)) (Go.Proofs.Ytocfepcgpelhdaa.RowLaw.one_list EK0.out) (Go.Proofs.Ytocfepcgpelhdaa.RowLaw.whole_put EZ0.out rfl) ?_; intro wp8 hk hoth hbel hz; have n0_ := Aside0.mk (hbel _ _ HB.out GEg2.out); have n1_ := Aside0.mk hk; clear HB Bg2; have HB := n0_; have Bg2 := n1_; clear n0_ n1_ hk hoth hbel hz; (try simp only [Act.put, List.setIfInBounds_toArray, List.set_cons_zero, List.set_cons_succ])) | ((with_reducible refine gate_dst (N := 25) rfl ?_); refine Go.Proofs.Ytocfepcgpelhdaa.RowLaw.at_event rfl 36 _ rfl (ad1.add (x5.toNat * k36.sz)) rfl _ ce1 huO rfl EL1.out (EC1.out.below HB.out) ?_; (try simp only [Act.put, List.setIfInBounds_toArray, List.set_cons_zero, List.set_cons_succ])) | ((with_reducible refine gate_dst (N := 9) rfl ?_); refine box_event ?hg (N := 9) ?hd (cs := #[.string (⟨#[]⟩ : ByteArray), .bool false, .int .i64 0, .int .i64 0, .string (⟨#[]⟩ : ByteArray), .slice none 0 0, .bool false, .int .i64 0, .int .i64 0, .string (⟨#[]⟩ : ByteArray), .slice none 0 0, .bool false, .int .i64 0, .int .i64 0, .string (⟨#[]⟩ : ByteArray), .slice none 0 0, .string (⟨#[]⟩ : ByteArray), .string (⟨#[]⟩ : ByteArray), .string (⟨#[]⟩ : ByteArray)]) (t := 36) ?hr ?_; (case hd => rfl); (case hg => rfl); (case hr => first | (go_simp; done) | (go_simp; rfl)); intro g3 hg wb9 hbox hb; have GEg3 := Aside0.mk ((by rw [hg]; exact HB.out.size) : w.heap.size ≤ g3); have NB := Aside0.mk ((by rw [hg]; exact Nat.ne_of_lt (blk_lt Bg2.out)) : g2 ≠ g3); have n0_ := Aside0.mk (below_step HB.out hb); have n1_ := Aside0.mk (blk_below Bg2.out hb); clear HB Bg2; have HB := n0_; have Bg2 := n1_; clear n0_ n1_; have Bg3 := Aside0.mk hbox; clear hbox hg hb; (try simp only [Act.put, List.setIfInBounds_toArray, List.set_cons_zero, List.set_cons_succ])) | ((with_reducible refine gate_store (t := 36) (p := 9) rfl ?_); refine Go.Proofs.Ytocfepcgpelhdaa.RowLaw.put_event rfl 36 _ _ rfl g3 0 (.agg ce1.toArray) rfl rfl ce1 rfl 36 _ ce1.toArray Bg3.out EL1.out (Nat.le_of_eq (by rw [Nat.zero_add, ← EZ1.out]; rfl)) (Go.Proofs.Ytocfepcgpelhdaa.RowLaw.one_list EK1.out) (Go.Proofs.Ytocfepcgpelhdaa.RowLaw.whole_put EZ1.out rfl) ?_; intro wp9 hk hoth hbel hz; have n0_ := Aside0.mk (hbel _ _ HB.out GEg3.out); have n1_ := Aside0.mk hk; have n2_ := Aside0.mk ((hoth g2 NB.out).trans Bg2.out); clear HB Bg3 Bg2; have HB := n0_; have Bg3 := n1_; have Bg2 := n2_; clear n0_ n1_ n2_ hk hoth hbel hz; (try simp only [Act.put, List.setIfInBounds_toArray, List.set_cons_zero, List.set_cons_succ])) | ((with_reducible refine gate_dst (N := 27) rfl ?_); refine wpList_load_row rfl 36 _ rfl g2 rfl 36 ce0.toArray (0, 0) _ Bg2.out huO rfl EL0.out ?_; (try simp only [Act.put, List.setIfInBounds_toArray, List.set_cons_zero, List.set_cons_succ])) | ((with_reducible refine gate_dst (N := 28) rfl ?_); refine wpList_load_row rfl 36 _ rfl g3 rfl 36 ce1.toArray (0, 0) _ Bg3.out huO rfl EL1.out ?_; (try simp only [Act.put, List.setIfInBounds_toArray, List.set_cons_zero, List.set_cons_succ])) | (go_at_call 10; (with_reducible refine (impl_stm_calls kp (rd_T36 l x5) (rd_T36 m x5) ce0 ce1 false _ ?side1 ?side2 HT.out).mono ?_); (case side1 => exact k36.K_below HB.out EK0.out); (case side2 => exact k36.K_below HB.out EK1.out); rintro e wc ⟨rfl, hb⟩; have n0_ := Aside0.mk (below_step HB.out hb); clear HB; have HB := n0_; clear n0_; clear hb))
                go_ret
                exact ⟨rfl, HB.out⟩
            · rw [if_neg c7] at H
              exact absurd H (by simp)
          · rw [if_neg c6] at H
            exact absurd H (by simp)
        · rw [if_neg c5] at H
          obtain rfl := Option.some.inj H
          have c5b := decide_eq_false c5
          clear c5
          go_wp2
          go_ret
          exact ⟨rfl, HB.out⟩
  · rw [if_neg c1] at h
    obtain rfl := Option.some.inj h
    have c1b := bne_iff_ne.mpr c1
    have c1a := beq_eq_false_iff_ne.mpr c1
    clear h c1
    go_enter Try.func37, Try.ntmps37
    go_wp2
    go_ret
    exact ⟨rfl, HB.out⟩
set_option maxHeartbeats 4000000 in
set_option maxRecDepth 100000 in
theorem impl_SameProgram.calls (k : Nat) (A0 : Option Addr) (c0 : Nat) (l : List S36) (A1 : Option Addr) (c1 : Nat) (m : List S36) (r : Bool) (w : World) (hr0 : Kd.C k36 w A0 l.length l) (hc0 : l.length ≤ c0) (hr1 : Kd.C k36 w A1 m.length m) (hc1 : m.length ≤ c1) (h : impl_SameProgram.f k l m = some r) :
    Calls Try.prog 15 #[.agg #[.slice A0 l.length c0], .agg #[.slice A1 m.length c1]] w fun e w' => e = .returned (.bool r) ∧ Below w.heap.size w w' := by
  have HC0 := Aside0.mk hc0
  have HC1 := Aside0.mk hc1
  have huO := Try.underlying36
  have HR0 := Aside0.mk hr0
  have HR1 := Aside0.mk hr1
  clear hr0 hc0 hr1 hc1
  have HB := Aside0.mk (Below.refl w.heap.size w)
  have huP := Try.underlying46
  have HF := Aside0.mk h
  clear h
  go_enter Try.func15, Try.ntmps15
  go_wp2_with (first | ((with_reducible refine gate_dst (N := 2) rfl ?_); refine box_event ?hg (N := 2) ?hd (cs := #[.slice A0 l.length c0]) (t := 46) ?hr ?_; (case hd => rfl); (case hg => rfl); (case hr => first | (go_simp; done) | (go_simp; rfl)); intro g0 hg wb2 hbox hb; have n0_ := Aside0.mk (below_step HB.out hb); clear HB; have HB := n0_; clear n0_; have Bg0 := Aside0.mk hbox; clear hbox hg hb; (try simp only [Act.put, List.setIfInBounds_toArray, List.set_cons_zero, List.set_cons_succ])) | ((with_reducible refine gate_dst (N := 3) rfl ?_); refine box_event ?hg (N := 3) ?hd (cs := #[.slice A1 m.length c1]) (t := 46) ?hr ?_; (case hd => rfl); (case hg => rfl); (case hr => first | (go_simp; done) | (go_simp; rfl)); intro g1 hg wb3 hbox hb; have n0_ := Aside0.mk (below_step HB.out hb); have n1_ := Aside0.mk (blk_below Bg0.out hb); clear HB Bg0; have HB := n0_; have Bg0 := n1_; clear n0_ n1_; have Bg1 := Aside0.mk hbox; clear hbox hg hb; (try simp only [Act.put, List.setIfInBounds_toArray, List.set_cons_zero, List.set_cons_succ]); have za0 : wb3.cell? ⟨g0, 0, none⟩ = some (.slice A0 l.length c0) := (blk_cell Bg0.out 0).trans rfl; have za1 : wb3.cell? ⟨g1, 0, none⟩ = some (.slice A1 m.length c1) := (blk_cell Bg1.out 0).trans rfl) | (go_at_call 37; refine (impl_SameProgramRows.calls k A0 c0 l A1 c1 m r _ (Kd.C_below HR0.out HB.out) HC0.out (Kd.C_below HR1.out HB.out) HC1.out HF.out).mono ?_; rintro e wc ⟨rfl, hb⟩; have n0_ := Aside0.mk (below_step HB.out hb); clear HB; have HB := n0_; clear n0_; clear hb))
  go_ret
  exact ⟨rfl, HB.out⟩

end Go.Proofs.Ytocfepcgpelhdaa.PFnExactSameProgram
