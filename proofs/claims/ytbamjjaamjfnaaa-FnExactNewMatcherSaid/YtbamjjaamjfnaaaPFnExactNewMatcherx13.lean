/- Walks of printed functions. Conditions: none beyond each statement. -/
import Derived.Test.YtbamjjaamjfnaaaPFnExactNewMatcherx0
import Derived.Test.YtbamjjaamjfnaaaPFnExactNewMatcherx10
import Derived.Test.YtbamjjaamjfnaaaPFnExactNewMatcherx11
import Derived.Test.YtbamjjaamjfnaaaPFnExactNewMatcherx12
namespace Go.Proofs.Ytbamjjaamjfnaaa.PFnExactNewMatcher
open Go.RowKit Go.Proofs.YtbamjjaamjfnaaaW.PrintWords Go.Proofs.YtbamjjaamjfnaaaW.PrintLast Go.Proofs.YtbamjjaamjfnaaaW.PrintMore
set_option maxHeartbeats 8000000
set_option maxRecDepth 100000
attribute [local go_sem] max2_int min2_int max_two min_two max_three min_three max_four min_four   -- for this text's walks alone
set_option linter.unusedVariables false
set_option linter.unusedSimpArgs false
mutual
def F0.l0 : Nat → List Int → List Int → List Int → Int → Int → List (S80) → List (S77) → Option (List Int × Bool)
 | 0, _, _, _, _, _, _, _ => none
 | k + 1, x4, x6, x27, x28, x29, x328000, x328001 => if x29 < x28 then (if 0 ≤ x29 then (if x29 < (x27.length : Int) then (if 0 ≤ (rd x27 x29) then (if (rd x27 x29) < (x4.length : Int) then (F0.l0 k (x4.set ((rd x27 x29) : Int).toNat 0) x6 x27 x28 (wrap64 (x29 + 1)) x328000 x328001) else (none)) else (none)) else (none)) else (none)) else (F0.l1 k x4 x6 x328000 x328001)
def F0.l1 : Nat → List Int → List Int → List (S80) → List (S77) → Option (List Int × Bool)
 | 0, _, _, _, _ => none
 | k + 1, x4, x6, x328000, x328001 => if (x6.length : Int) > 0 then (if 0 ≤ (wrap64 ((x6.length : Int) - 1)) then (if (wrap64 ((x6.length : Int) - 1)) < (x6.length : Int) then (if (wrap64 ((x6.length : Int) - 1)) ≤ (x6.length : Int) then ((some (x6.take ((wrap64 ((x6.length : Int) - 1)) : Int).toNat : List Int)).bind fun y347 => (if 0 ≤ (rd x6 (wrap64 ((x6.length : Int) - 1))) then (if (rd x6 (wrap64 ((x6.length : Int) - 1))) < (x4.length : Int) then (if (rd x6 (wrap64 ((x6.length : Int) - 1))) < (x328000.length : Int) then (if ((rd_T80 x328000 (rd x6 (wrap64 ((x6.length : Int) - 1)))).f0) = 34 then (F0.j2 k x4 y347 (rd x6 (wrap64 ((x6.length : Int) - 1))) (wrap64 ((rd x4 (rd x6 (wrap64 ((x6.length : Int) - 1)))) + 1)) x328000 x328001) else ((F29.f ((rd_T80 x328000 (rd x6 (wrap64 ((x6.length : Int) - 1)))).f0)).bind fun t352 => (if t352 = true then (F0.j2 k x4 y347 (rd x6 (wrap64 ((x6.length : Int) - 1))) (wrap64 ((rd x4 (rd x6 (wrap64 ((x6.length : Int) - 1)))) - 1)) x328000 x328001) else (if ((rd_T80 x328000 (rd x6 (wrap64 ((x6.length : Int) - 1)))).f0) = 37 then (F0.j2 k x4 y347 (rd x6 (wrap64 ((x6.length : Int) - 1))) (wrap64 ((rd x4 (rd x6 (wrap64 ((x6.length : Int) - 1)))) - 1)) x328000 x328001) else (F0.j2 k x4 y347 (rd x6 (wrap64 ((x6.length : Int) - 1))) (rd x4 (rd x6 (wrap64 ((x6.length : Int) - 1)))) x328000 x328001))))) else (none)) else (none)) else (none))) else (none)) else (none)) else (none)) else (some (x4, true))
def F0.j2 : Nat → List Int → List Int → Int → Int → List (S80) → List (S77) → Option (List Int × Bool)
 | 0, _, _, _, _, _, _ => none
 | k + 1, x4, x6, x9, x10, x328000, x328001 => if x10 < 0 then (F0.j3 k x4 x6 x9 x10 true x328000 x328001) else (if 0 ≤ x9 then (if x9 < (x328000.length : Int) then ((impl_isLast.f ((rd_T80 x328000 x9).f0)).bind fun t354 => (if t354 = true then (F0.j3 k x4 x6 x9 x10 (decide (x10 > 0)) x328000 x328001) else (F0.j3 k x4 x6 x9 x10 false x328000 x328001))) else (none)) else (none))
def F0.j3 : Nat → List Int → List Int → Int → Int → Bool → List (S80) → List (S77) → Option (List Int × Bool)
 | 0, _, _, _, _, _, _, _ => none
 | k + 1, x4, x6, x9, x10, x89, x328000, x328001 => if x89 = true then (some (([] : List Int), false)) else ((F10.f k x328000 x328001 x9).bind fun t355 => (F0.l2 k x4 x6 x10 t355 (t355.length : Int) 0 x328000 x328001))
def F0.l2 : Nat → List Int → List Int → Int → List Int → Int → Int → List (S80) → List (S77) → Option (List Int × Bool)
 | 0, _, _, _, _, _, _, _, _ => none
 | k + 1, x4, x6, x10, x92, x93, x94, x328000, x328001 => if x94 < x93 then (if 0 ≤ x94 then (if x94 < (x92.length : Int) then (if 0 ≤ (rd x92 x94) then (if (rd x92 x94) < (x4.length : Int) then (if (rd x4 (rd x92 x94)) < 0 then (if x6.length < 17592186044416 then (F0.l2 k (x4.set ((rd x92 x94) : Int).toNat x10) (x6 ++ [rd x92 x94]) x10 x92 x93 (wrap64 (x94 + 1)) x328000 x328001) else (none)) else (if (rd x4 (rd x92 x94)) = x10 then (F0.l2 k x4 x6 x10 x92 x93 (wrap64 (x94 + 1)) x328000 x328001) else (some (([] : List Int), false)))) else (none)) else (none)) else (none)) else (none)) else (F0.l1 k x4 x6 x328000 x328001)
end
def F0.f (k : Nat) (l0_0 : List (S80)) (l0_1 : List (S77)) : Option (List Int × Bool) := (slices_Repeat_int64_int64.f (([(-1)] : List Int)) (l0_0.length : Int)).bind fun t331 => ((F6.f k l0_0 l0_1).bind fun t334 => (if 0 ≤ (wrap64 ((t334.length : Int) - 1)) then (if (wrap64 ((t334.length : Int) - 1)) ≤ (t334.length : Int) then ((F31.f (t334.take ((wrap64 ((t334.length : Int) - 1)) : Int).toNat)).bind fun t341 => (F0.l0 k t331 t341 t341 (t341.length : Int) 0 l0_0 l0_1)) else (none)) else (none)))
theorem F0.mono_l : ∀ k, (∀ y0 y1 y2 y3 y4 y5 y6, LeO (F0.l0 k y0 y1 y2 y3 y4 y5 y6) (F0.l0 (k + 1) y0 y1 y2 y3 y4 y5 y6)) ∧ (∀ y0 y1 y2 y3, LeO (F0.l1 k y0 y1 y2 y3) (F0.l1 (k + 1) y0 y1 y2 y3)) ∧ (∀ y0 y1 y2 y3 y4 y5, LeO (F0.j2 k y0 y1 y2 y3 y4 y5) (F0.j2 (k + 1) y0 y1 y2 y3 y4 y5)) ∧ (∀ y0 y1 y2 y3 y4 y5 y6, LeO (F0.j3 k y0 y1 y2 y3 y4 y5 y6) (F0.j3 (k + 1) y0 y1 y2 y3 y4 y5 y6)) ∧ (∀ y0 y1 y2 y3 y4 y5 y6 y7, LeO (F0.l2 k y0 y1 y2 y3 y4 y5 y6 y7) (F0.l2 (k + 1) y0 y1 y2 y3 y4 y5 y6 y7))
 | 0 => ⟨fun _ _ _ _ _ _ _ r h => by simp [F0.l0] at h, fun _ _ _ _ r h => by simp [F0.l1] at h, fun _ _ _ _ _ _ r h => by simp [F0.j2] at h, fun _ _ _ _ _ _ _ r h => by simp [F0.j3] at h, fun _ _ _ _ _ _ _ _ r h => by simp [F0.l2] at h⟩
 | k + 1 => by
  obtain ⟨ih0, ih1, ih2, ih3, ih4⟩ := F0.mono_l k
  refine ⟨?_, ?_, ?_, ?_, ?_⟩
  ·intro y0 y1 y2 y3 y4 y5 y6
   unfold F0.l0
   repeat' with_reducible first
   | exact ih0 _ _ _ _ _ _ _
   | exact ih1 _ _ _ _
   | exact ih2 _ _ _ _ _ _
   | exact ih3 _ _ _ _ _ _ _
   | exact ih4 _ _ _ _ _ _ _ _
   | exact F6.mono _ _ _
   | exact F10.mono _ _ _ _
   | exact LeO.refl _
   | exact LeO.none _
   | refine LeO.ite ?_ ?_
   | refine LeO.bind ?_ (fun _ => ?_)
  ·intro y0 y1 y2 y3
   unfold F0.l1
   repeat' with_reducible first
   | exact ih0 _ _ _ _ _ _ _
   | exact ih1 _ _ _ _
   | exact ih2 _ _ _ _ _ _
   | exact ih3 _ _ _ _ _ _ _
   | exact ih4 _ _ _ _ _ _ _ _
   | exact F6.mono _ _ _
   | exact F10.mono _ _ _ _
   | exact LeO.refl _
   | exact LeO.none _
   | refine LeO.ite ?_ ?_
   | refine LeO.bind ?_ (fun _ => ?_)
  ·intro y0 y1 y2 y3 y4 y5
   unfold F0.j2
   repeat' with_reducible first
   | exact ih0 _ _ _ _ _ _ _
   | exact ih1 _ _ _ _
   | exact ih2 _ _ _ _ _ _
   | exact ih3 _ _ _ _ _ _ _
   | exact ih4 _ _ _ _ _ _ _ _
   | exact F6.mono _ _ _
   | exact F10.mono _ _ _ _
   | exact LeO.refl _
   | exact LeO.none _
   | refine LeO.ite ?_ ?_
   | refine LeO.bind ?_ (fun _ => ?_)
  ·intro y0 y1 y2 y3 y4 y5 y6
   unfold F0.j3
   repeat' with_reducible first
   | exact ih0 _ _ _ _ _ _ _
   | exact ih1 _ _ _ _
   | exact ih2 _ _ _ _ _ _
   | exact ih3 _ _ _ _ _ _ _
   | exact ih4 _ _ _ _ _ _ _ _
   | exact F6.mono _ _ _
   | exact F10.mono _ _ _ _
   | exact LeO.refl _
   | exact LeO.none _
   | refine LeO.ite ?_ ?_
   | refine LeO.bind ?_ (fun _ => ?_)
  ·intro y0 y1 y2 y3 y4 y5 y6 y7
   unfold F0.l2
   repeat' with_reducible first
   | exact ih0 _ _ _ _ _ _ _
   | exact ih1 _ _ _ _
   | exact ih2 _ _ _ _ _ _
   | exact ih3 _ _ _ _ _ _ _
   | exact ih4 _ _ _ _ _ _ _ _
   | exact F6.mono _ _ _
   | exact F10.mono _ _ _ _
   | exact LeO.refl _
   | exact LeO.none _
   | refine LeO.ite ?_ ?_
   | refine LeO.bind ?_ (fun _ => ?_)
theorem F0.mono : ∀ a0 a1 k, LeO (F0.f k a0 a1) (F0.f (k + 1) a0 a1) := by
 intro a0 a1 k
 obtain ⟨ih0, ih1, ih2, ih3, ih4⟩ := F0.mono_l k
 unfold F0.f
 repeat' with_reducible first
   | exact ih0 _ _ _ _ _ _ _
   | exact ih1 _ _ _ _
   | exact ih2 _ _ _ _ _ _
   | exact ih3 _ _ _ _ _ _ _
   | exact ih4 _ _ _ _ _ _ _ _
   | exact F6.mono _ _ _
   | exact F10.mono _ _ _ _
   | exact LeO.refl _
   | exact LeO.none _
   | refine LeO.ite ?_ ?_
   | refine LeO.bind ?_ (fun _ => ?_)
theorem F0.calls (k : Nat) (A0_0 : Option Addr) (c0_0 : Nat) (l0_0 : List (S80)) (A0_1 : Option Addr) (c0_1 : Nat) (l0_1 : List (S77)) (r1 : List Int) (r2 : Bool) (w : World) (hr0_0 : Kd.C k80 w A0_0 l0_0.length l0_0) (hc0_0 : l0_0.length ≤ c0_0) (hr0_1 : Kd.C k77 w A0_1 l0_1.length l0_1) (hc0_1 : l0_1.length ≤ c0_1) (h : F0.f k l0_0 l0_1 = some (r1, r2)) :
  Calls Try.prog 58 #[.agg #[.slice A0_0 l0_0.length c0_0, .slice A0_1 l0_1.length c0_1]] w fun e w' => ∃ v0_ : Value, e = .returned (.tuple #[v0_, .bool r2]) ∧ Kd.R (Kd.int .i64) 2 w' w.heap.size (fun _ => True) v0_ r1 ∧ Below w.heap.size w w' := by
 have hu31 := Try.underlying31
 have HR0_0 := As.mk hr0_0
 have HC0_0 := As.mk hc0_0
 clear hr0_0 hc0_0
 have HR0_1 := As.mk hr0_1
 have HC0_1 := As.mk hc0_1
 clear hr0_1 hc0_1
 have HB := As.mk (Below.refl w.heap.size w)
 have H : ((slices_Repeat_int64_int64.f (([(-1)] : List Int)) (l0_0.length : Int)).bind fun t331 => ((F6.f k l0_0 l0_1).bind fun t334 => (if 0 ≤ (wrap64 ((t334.length : Int) - 1)) then (if (wrap64 ((t334.length : Int) - 1)) ≤ (t334.length : Int) then ((F31.f (t334.take ((wrap64 ((t334.length : Int) - 1)) : Int).toNat)).bind fun t341 => (F0.l0 k t331 t341 t341 (t341.length : Int) 0 l0_0 l0_1)) else (none)) else (none)))) = some (r1, r2) := h
 clear h
 obtain ⟨y328, hy328⟩ : ∃ y_ : List Int, y_ = (([(-1)] : List Int)) := ⟨_, rfl⟩
 replace H : ((slices_Repeat_int64_int64.f y328 (l0_0.length : Int)).bind fun t331 => ((F6.f k l0_0 l0_1).bind fun t334 => (if 0 ≤ (wrap64 ((t334.length : Int) - 1)) then (if (wrap64 ((t334.length : Int) - 1)) ≤ (t334.length : Int) then ((F31.f (t334.take ((wrap64 ((t334.length : Int) - 1)) : Int).toNat)).bind fun t341 => (F0.l0 k t331 t341 t341 (t341.length : Int) 0 l0_0 l0_1)) else (none)) else (none)))) = some (r1, r2) := by first | (rw [hy328]; with_reducible exact H) | (have H2_ := (Option.bind_some _ _).symm.trans H; rw [hy328]; with_reducible exact H2_) | (have H2_ := (Option.bind_some _ _).symm.trans H; with_reducible exact H2_) | with_reducible exact H | (rw [hy328]; exact H) | exact H
 have Ny328 := As.mk hy328
 clear hy328
 replace H := Option.bind_eq_some_iff.mp H
 obtain ⟨t331, A20, H⟩ := H
 replace H : ((F6.f k l0_0 l0_1).bind fun t334 => (if 0 ≤ (wrap64 ((t334.length : Int) - 1)) then (if (wrap64 ((t334.length : Int) - 1)) ≤ (t334.length : Int) then ((F31.f (t334.take ((wrap64 ((t334.length : Int) - 1)) : Int).toNat)).bind fun t341 => (F0.l0 k t331 t341 t341 (t341.length : Int) 0 l0_0 l0_1)) else (none)) else (none))) = some (r1, r2) := H
 have A2 := As.mk A20
 clear A20
 replace H := Option.bind_eq_some_iff.mp H
 obtain ⟨t334, A30, H⟩ := H
 replace H : (if 0 ≤ (wrap64 ((t334.length : Int) - 1)) then (if (wrap64 ((t334.length : Int) - 1)) ≤ (t334.length : Int) then ((F31.f (t334.take ((wrap64 ((t334.length : Int) - 1)) : Int).toNat)).bind fun t341 => (F0.l0 k t331 t341 t341 (t341.length : Int) 0 l0_0 l0_1)) else (none)) else (none)) = some (r1, r2) := H
 have A3 := As.mk A30
 clear A30
 obtain ⟨ji4, hji4⟩ : ∃ j_ : Int, (wrap64 ((t334.length : Int) - 1)) = j_ := ⟨_, rfl⟩
 replace H : (if 0 ≤ (ji4) then (if (ji4) ≤ (t334.length : Int) then ((F31.f (t334.take ((ji4) : Int).toNat)).bind fun t341 => (F0.l0 k t331 t341 t341 (t341.length : Int) 0 l0_0 l0_1)) else (none)) else (none)) = some (r1, r2) := by first | (rw [hji4] at H; exact H) | (simp only [hji4] at H ⊢; exact H)
 (try rw [hji4] at A2)
 (try rw [hji4] at A3)
 have hji4w : (IntKind.i64.wrap ((t334.length : Int) - 1)) = ji4 := (i64_w _).trans hji4
 by_cases c5 : 0 ≤ (ji4)
 ·rw [if_pos c5] at H
  have c5b0 := eq_true c5
  have c5b1 : decide (0 ≤ (ji4)) = true := decide_eq_true c5
  clear c5
  by_cases c6 : (ji4) ≤ (t334.length : Int)
  ·rw [if_pos c6] at H
   have c6b0 := eq_true c6
   have c6b1 : decide ((ji4) ≤ (t334.length : Int)) = true := decide_eq_true c6
   clear c6
   obtain ⟨y337, hy337⟩ : ∃ y_ : List Int, y_ = (t334.take ((ji4) : Int).toNat) := ⟨_, rfl⟩
   replace H : ((F31.f y337).bind fun t341 => (F0.l0 k t331 t341 t341 (t341.length : Int) 0 l0_0 l0_1)) = some (r1, r2) := by first | (rw [hy337]; with_reducible exact H) | (have H2_ := (Option.bind_some _ _).symm.trans H; rw [hy337]; with_reducible exact H2_) | (have H2_ := (Option.bind_some _ _).symm.trans H; with_reducible exact H2_) | with_reducible exact H | (rw [hy337]; exact H) | exact H
   have Ny337 := As.mk hy337
   clear hy337
   replace H := Option.bind_eq_some_iff.mp H
   obtain ⟨t341, A70, H⟩ := H
   replace H : (F0.l0 k t331 t341 t341 (t341.length : Int) 0 l0_0 l0_1) = some (r1, r2) := H
   have A7 := As.mk A70
   clear A70
   have H' := As.mk H
   clear H
   go_enter Try.func58, Try.ntmps58
   go_wp2_with (first | ((with_reducible refine gD (N := 1) rfl ?_); refine bX ?hg (N := 1) ?hd (cs := #[.slice A0_0 l0_0.length c0_0, .slice A0_1 l0_1.length c0_1]) (t := 31) ?hr ?_; (case hd => rfl); (case hg => rfl); (case hr => first | (go_simp; done) | (go_simp; rfl)); intro gb327 hg w8 hbox hb; have BK327 := As.mk (hbox); have GW327 := As.mk ((by rw [hg]; exact (bZ (by repeat (first | (with_reducible first | exact HB.out | apply bA | apply bD | apply bE) | exact HB.out))) : w.heap.size ≤ gb327)); have GE327 := GW327; replace HB := As.mk (bT (by repeat (first | (with_reducible first | exact HB.out | apply bA | apply bD | apply bE) | exact HB.out)) hb); clear hb hbox hg) | ((with_reducible refine gD (N := 14) rfl ?_); refine Kd.R_lit (Kd.int .i64) _ 2 ?hg (N := 14) ?hd (xs := ([(-1)] : List Int)) (inner := [.int .i64 (-1)]) (ok := fun _ => True) (okp := fun _ => True) ?hr ?hp (fun _ hk => hk) trivial (Below.refl _ _) (Nat.le_refl _) (by simp) ?_; (case hd => rfl); (case hg => rfl); (case hr => first | (go_simp; done) | (go_simp; rfl)); (case hp => exact (Reps.one (show Kd.M (Kd.int .i64) _ _ _ (-1) [.int .i64 (-1)] from rfl) (Reps.none _ _))); intro v329 w9 ho10 hb hg_ hnew_; clear hg_ hnew_; (first | rw [← Ny328.out] at ho10 | (simp only [Int.reduceToNat] at ho10; rw [← Ny328.out] at ho10)); have HO330 := As.mk (Kd.R_lower ho10 (bZ (by repeat (first | (with_reducible first | exact HB.out | apply bA | apply bD | apply bE | refine bS ?_ GE327.out) | exact HB.out)))); replace BK327 := As.mk (kB (g := gb327) (o := .cells #[.slice A0_0 l0_0.length c0_0, .slice A0_1 l0_1.length c0_1] 31 (0, 0)) (by (with_reducible repeat (first | refine kD ?_ _ | refine kE ?_ | refine kA ?_ _)); exact BK327.out) hb); replace HB := As.mk (bT (by repeat (first | (with_reducible first | exact HB.out | apply bA | apply bD | apply bE | refine bS ?_ GE327.out) | exact HB.out)) hb); clear hb ho10; have cz_ := c2_0 (w := w9) (g := gb327) BK327.out; obtain ⟨hcz11_0, hcz11_1⟩ := cz_; have hfz11 := kF BK327.out; obtain ⟨Ao12, co12, eo12⟩ := Kd.R_slice HO330.out; subst eo12) | ((with_reducible refine gC (f := 78) rfl ?_); refine gL (some 18) rfl rfl Try.func78 (by kernel_rfl) rfl #[.slice Ao12 y328.length co12, .int .i64 (l0_0.length : Int)] rfl (by (try simp only [sm1, sm2, sm3]); first | done | rfl) ?_; (with_reducible refine (slices_Repeat_int64_int64.calls _ _ y328 (l0_0.length : Int) t331 _ ?side1 ?side2 A2.out).mono ?_); (case side1 => repeat (first | exact (Kd.RR HO330.out).2.2 | (with_reducible refine Kd.CA ?_ _) | (with_reducible refine Kd.CN ?_ _) | (with_reducible refine Kd.CD ?_))); (case side2 => exact (Kd.RR HO330.out).2.1); rintro e w13 ⟨v332, rfl, ho0, hb⟩; refine ⟨_, rfl, ?_⟩; have HO333 := As.mk (Kd.R_lower (Kd.R_new' ho0 (Kd.R_lt (by (with_reducible repeat (first | apply Kd.RA | apply Kd.RN | apply Kd.RD)); exact HO330.out))) (bZ (by repeat (first | (with_reducible first | exact HB.out | apply bA | apply bD | apply bE | refine bS ?_ GE327.out) | exact HB.out)))); replace HO330 := As.mk (Kd.R_elder' (by (with_reducible repeat (first | apply Kd.RA | apply Kd.RN | apply Kd.RD)); exact HO330.out) (Kd.R_base ho0) hb); replace BK327 := As.mk (kB (g := gb327) (o := .cells #[.slice A0_0 l0_0.length c0_0, .slice A0_1 l0_1.length c0_1] 31 (0, 0)) (by (with_reducible repeat (first | refine kD ?_ _ | refine kE ?_ | refine kA ?_ _)); exact BK327.out) hb); replace HB := As.mk (bT (by repeat (first | (with_reducible first | exact HB.out | apply bA | apply bD | apply bE | refine bS ?_ GE327.out) | exact HB.out)) hb); (try clear hb); (try clear hk); (try clear ho0); have cz_ := c2_0 (w := w13) (g := gb327) BK327.out; obtain ⟨hcz14_0, hcz14_1⟩ := cz_; have hfz14 := kF BK327.out) | ((with_reducible refine gC (f := 56) rfl ?_); refine gL (some 20) rfl rfl Try.func56 (by kernel_rfl) rfl #[.agg #[.slice A0_0 l0_0.length c0_0, .slice A0_1 l0_1.length c0_1]] rfl (by (try simp only [sm1, sm2, sm3]); first | done | rfl) ?_; (with_reducible refine (F6.calls k _ _ l0_0 _ _ l0_1 t334 _ ?side1 ?side2 ?side3 ?side4 A3.out).mono ?_); (case side1 => repeat (first | exact (Kd.CB HR0_0.out HB.out) | (with_reducible refine Kd.CA ?_ _) | (with_reducible refine Kd.CN ?_ _) | (with_reducible refine Kd.CD ?_))); (case side2 => exact HC0_0.out); (case side3 => repeat (first | exact (Kd.CB HR0_1.out HB.out) | (with_reducible refine Kd.CA ?_ _) | (with_reducible refine Kd.CN ?_ _) | (with_reducible refine Kd.CD ?_))); (case side4 => exact HC0_1.out); rintro e w15 ⟨v335, rfl, ho0, hb⟩; refine ⟨_, rfl, ?_⟩; have HO336 := As.mk (Kd.R_lower (Kd.R_new' (Kd.R_new' ho0 (Kd.R_lt (by (with_reducible repeat (first | apply Kd.RA | apply Kd.RN | apply Kd.RD)); exact HO330.out))) (Kd.R_lt (by (with_reducible repeat (first | apply Kd.RA | apply Kd.RN | apply Kd.RD)); exact HO333.out))) (bZ (by repeat (first | (with_reducible first | exact HB.out | apply bA | apply bD | apply bE | refine bS ?_ GE327.out) | exact HB.out)))); replace HO330 := As.mk (Kd.R_elder' (by (with_reducible repeat (first | apply Kd.RA | apply Kd.RN | apply Kd.RD)); exact HO330.out) (Kd.R_base ho0) hb); replace HO333 := As.mk (Kd.R_elder' (by (with_reducible repeat (first | apply Kd.RA | apply Kd.RN | apply Kd.RD)); exact HO333.out) (Kd.R_base ho0) hb); replace BK327 := As.mk (kB (g := gb327) (o := .cells #[.slice A0_0 l0_0.length c0_0, .slice A0_1 l0_1.length c0_1] 31 (0, 0)) (by (with_reducible repeat (first | refine kD ?_ _ | refine kE ?_ | refine kA ?_ _)); exact BK327.out) hb); replace HB := As.mk (bT (by repeat (first | (with_reducible first | exact HB.out | apply bA | apply bD | apply bE | refine bS ?_ GE327.out) | exact HB.out)) hb); (try clear hb); (try clear hk); (try clear ho0); obtain ⟨Ao16, co16, eo16⟩ := Kd.R_slice HO336.out; subst eo16; have q17 : ((ji4) : Int) ≤ ((t334.length : Int) : Int) := of_decide_eq_true (by first | (with_reducible assumption) | assumption); obtain ⟨i017, hi017, _, hsz17, _⟩ := info_parts info2; have hroom17 : t334.length ≤ co16 := (Kd.RR HO336.out).2.1; have hC17 : Kd.C (Kd.int .i64) _ Ao16 t334.length t334 := (Kd.RR HO336.out).2.2; have hcut17 := cut_to (P := Try.prog) 35 2 .i64 Try.underlying35 hi017 Ao16 t334.length co16 (ji4) (of_decide_eq_true (by first | (with_reducible assumption) | assumption)) q17 hroom17; have hr17 := Kd.C_take (m := ((ji4) : Int).toNat) hC17 (by omega); have hy17 : y337.length = ((ji4) : Int).toNat := (by rw [Ny337.out, List.length_take]; omega); rw [← Ny337.out] at hr17; rw [← hy17] at hcut17; have HR340 := As.mk hr17; have HC340 := As.mk (show y337.length ≤ co16 from by omega); clear hr17 hC17 hroom17 hi017 hsz17; have KY17 := As.mk hy17; clear hy17; have KL17 := As.mk (show ((ji4) : Int).toNat ≤ t334.length from by omega); replace q17 := eq_true q17) | ((with_reducible refine gC (f := 79) rfl ?_); refine gL (some 26) rfl rfl Try.func79 (by kernel_rfl) rfl #[.slice Ao16 y337.length co16] rfl (by (try simp only [sm1, sm2, sm3]); first | done | rfl) ?_; (with_reducible refine (F31.calls _ _ y337 t341 _ ?side1 ?side2 A7.out).mono ?_); (case side1 => repeat (first | exact (by repeat (first | (with_reducible exact HR340.out) | (with_reducible refine Kd.CA ?_ _) | (with_reducible refine Kd.CN ?_ _) | (with_reducible refine Kd.CD ?_) | exact HR340.out)) | (with_reducible refine Kd.CA ?_ _) | (with_reducible refine Kd.CN ?_ _) | (with_reducible refine Kd.CD ?_))); (case side2 => exact HC340.out); rintro e w18 ⟨v342, rfl, ho0, hb⟩; refine ⟨_, rfl, ?_⟩; have HO343 := As.mk (Kd.R_lower (Kd.R_new' (Kd.R_new' (Kd.R_new' ho0 (Kd.R_lt (by (with_reducible repeat (first | apply Kd.RA | apply Kd.RN | apply Kd.RD)); exact HO330.out))) (Kd.R_lt (by (with_reducible repeat (first | apply Kd.RA | apply Kd.RN | apply Kd.RD)); exact HO333.out))) (Kd.R_lt (by (with_reducible repeat (first | apply Kd.RA | apply Kd.RN | apply Kd.RD)); exact HO336.out))) (bZ (by repeat (first | (with_reducible first | exact HB.out | apply bA | apply bD | apply bE | refine bS ?_ GE327.out) | exact HB.out)))); replace HO330 := As.mk (Kd.R_elder' (by (with_reducible repeat (first | apply Kd.RA | apply Kd.RN | apply Kd.RD)); exact HO330.out) (Kd.R_base ho0) hb); replace HO333 := As.mk (Kd.R_elder' (by (with_reducible repeat (first | apply Kd.RA | apply Kd.RN | apply Kd.RD)); exact HO333.out) (Kd.R_base ho0) hb); replace HO336 := As.mk (Kd.R_elder' (by (with_reducible repeat (first | apply Kd.RA | apply Kd.RN | apply Kd.RD)); exact HO336.out) (Kd.R_base ho0) hb); replace BK327 := As.mk (kB (g := gb327) (o := .cells #[.slice A0_0 l0_0.length c0_0, .slice A0_1 l0_1.length c0_1] 31 (0, 0)) (by (with_reducible repeat (first | refine kD ?_ _ | refine kE ?_ | refine kA ?_ _)); exact BK327.out) hb); replace HR340 := As.mk (Kd.CB (by repeat (first | (with_reducible exact HR340.out) | (with_reducible refine Kd.CA ?_ _) | (with_reducible refine Kd.CN ?_ _) | (with_reducible refine Kd.CD ?_) | exact HR340.out)) hb); replace HB := As.mk (bT (by repeat (first | (with_reducible first | exact HB.out | apply bA | apply bD | apply bE | refine bS ?_ GE327.out) | exact HB.out)) hb); (try clear hb); (try clear hk); (try clear ho0); obtain ⟨Ao19, co19, eo19⟩ := Kd.R_slice HO343.out; subst eo19))
   go_loopg [29] k (fun kq v29 w' => ∃ (x4_1 : List Int) (x29_1 : Int), v29 = .int .i64 x29_1 ∧ As (F0.l0 kq x4_1 t341 t341 (t341.length : Int) x29_1 l0_0 l0_1 = some (r1, r2)) ∧ As (kq ≤ k) ∧ As (Kd.R (Kd.int .i64) 2 w' w.heap.size (fun k_ => some k_ ≠ ((.slice Ao19 t341.length co19) : Value).ownBlock ∧ some k_ ≠ ((.slice Ao19 t341.length co19) : Value).ownBlock) v332 x4_1) ∧ As (Kd.R (Kd.int .i64) 2 w' w.heap.size (fun k_ => some k_ ≠ (v332 : Value).ownBlock) (.slice Ao19 t341.length co19) t341) ∧ As (Kd.R (Kd.int .i64) 2 w' w.heap.size (fun k_ => some k_ ≠ (v332 : Value).ownBlock) (.slice Ao19 t341.length co19) t341) ∧ As (w'.heap[gb327]? = some (.cells #[(.slice A0_0 l0_0.length c0_0), (.slice A0_1 l0_1.length c0_1)] 31 (0, 0))) ∧ As (Below w.heap.size w w'))
   case atStart => exact ⟨(t331), (0), (by first | rfl | (simp; done) | (simp [*]; done)), H', ⟨Nat.le_refl _⟩, ⟨by (with_reducible repeat (first | apply Kd.RA | apply Kd.RN | apply Kd.RD)); exact Kd.R_mono HO333.out (fun _ hk => ⟨hk.2, hk.2⟩)⟩, ⟨by (with_reducible repeat (first | apply Kd.RA | apply Kd.RN | apply Kd.RD)); exact Kd.R_mono HO343.out (fun _ hk => hk.1.2)⟩, ⟨by (with_reducible repeat (first | apply Kd.RA | apply Kd.RN | apply Kd.RD)); exact Kd.R_mono HO343.out (fun _ hk => hk.1.2)⟩, ⟨by (with_reducible repeat (first | refine kD ?_ _ | refine kE ?_ | refine kA ?_ _)); exact BK327.out⟩, ⟨by repeat (first | (with_reducible first | exact HB.out | apply bA | apply bD | apply bE | refine bS ?_ GE327.out) | exact HB.out)⟩⟩
   case round =>
    clear H'
    try clear c5
    try clear c5b0
    try clear c5b1
    try clear c6
    try clear c6b0
    try clear c6b1
    try clear q17
    try clear hcz11_0
    try clear hcz11_1
    try clear hcz14_0
    try clear hcz14_1
    try clear hfz11
    try clear hfz14
    try clear q17
    obtain ⟨x4_1, x29_1, rfl, HA, HK1, HO_4, HO_6, HO_27, BK327, HB⟩ := hrel
    cases gk with
    | zero => exact absurd HA.out (by simp [F0.l0])
    | succ k1 =>
     have H := HA.out
     clear HA
     simp only [F0.l0] at H
     by_cases c20 : x29_1 < (t341.length : Int)
     ·rw [if_pos c20] at H
      have c20b0 : decide (x29_1 < (t341.length : Int)) = true := decide_eq_true c20
      clear c20
      by_cases c21 : 0 ≤ x29_1
      ·rw [if_pos c21] at H
       have c21b0 : decide (0 ≤ x29_1) = true := decide_eq_true c21
       clear c21
       by_cases c22 : x29_1 < (t341.length : Int)
       ·rw [if_pos c22] at H
        have c22b0 : decide (x29_1 < (t341.length : Int)) = true := decide_eq_true c22
        clear c22
        by_cases c23 : 0 ≤ (rd t341 x29_1)
        ·rw [if_pos c23] at H
         have c23b0 : decide (0 ≤ (rd t341 x29_1)) = true := decide_eq_true c23
         clear c23
         by_cases c24 : (rd t341 x29_1) < (x4_1.length : Int)
         ·rw [if_pos c24] at H
          have c24b0 : decide ((rd t341 x29_1) < (x4_1.length : Int)) = true := decide_eq_true c24
          clear c24
          obtain ⟨y345, hy345⟩ : ∃ y_ : List Int, y_ = (x4_1.set ((rd t341 x29_1) : Int).toNat 0) := ⟨_, rfl⟩
          replace H : (F0.l0 k1 y345 t341 t341 (t341.length : Int) (wrap64 (x29_1 + 1)) l0_0 l0_1) = some (r1, r2) := by first | (rw [hy345]; with_reducible exact H) | (have H2_ := (Option.bind_some _ _).symm.trans H; rw [hy345]; with_reducible exact H2_) | (have H2_ := (Option.bind_some _ _).symm.trans H; with_reducible exact H2_) | with_reducible exact H | (rw [hy345]; exact H) | exact H
          have Ny345 := As.mk hy345
          clear hy345
          have H' := As.mk H
          clear H
          have p344 : 0 ≤ (x29_1 : Int) := of_decide_eq_true (by first | (with_reducible assumption) | assumption)
          have q344 : x29_1 < (t341.length : Int) := of_decide_eq_true (by first | (with_reducible assumption) | assumption)
          obtain ⟨ad344, e344, hx344_0⟩ := Kd.at_int (Kd.RR HO_27.out).2.2 x29_1 p344 q344
          cases e344
          replace p344 := eq_true p344
          replace q344 := eq_true q344
          have p25 : 0 ≤ ((rd t341 x29_1) : Int) := of_decide_eq_true (by first | (with_reducible assumption) | assumption)
          have q25 : ((rd t341 x29_1) : Int) < ((x4_1.length : Int) : Int) := of_decide_eq_true (by first | (with_reducible assumption) | assumption)
          obtain ⟨go25, co25, eo25, gb25, gl25, cl25, HG25⟩ := Kd.R_form HO_4.out (by omega)
          (first | cases eo25 | (injection eo25 with ea_ en_ ec_; (first | subst ea_ | (injection ea_ with ea_; subst ea_)); subst ec_; clear en_))
          have GB25 := As.mk gb25
          have GG25 := As.mk HG25
          clear gb25 gl25 HG25
          obtain ⟨hx25_0, hf25_0⟩ := Kd.R_celln 0 HO_4.out ((rd t341 x29_1) : Int) p25 q25
          replace p25 := eq_true p25
          replace q25 := eq_true q25
          have HP26 := Kd.R_putg HO_4.out ((rd t341 x29_1) : Int) 0
          go_wp2_with (first | ((with_reducible refine gS (t := 2) (p := 35) rfl ?_); refine sE (t := 2) (p := 35) (v := ?vo_w27) (w1 := (wr.setCell ⟨go25, ((rd t341 x29_1) : Int).toNat, none⟩ (.int .i64 0))) ?hg ?ho ?hn ?hr ?_; (case ho => rfl); (case hg => rfl); (case hn => rfl); (case hr =>  first | (go_simp; done) | (go_simp; rfl)); intro w27 hw; have hg : wr.grownBy w27 (some go25) := (by rw [hw]; exact HP26.2); have hp_ : Kd.R (Kd.int .i64) 2 w27 w.heap.size (fun k_ => some k_ ≠ (.slice (some ad344) t341.length co19 : Value).ownBlock ∧ some k_ ≠ (.slice (some ad344) t341.length co19 : Value).ownBlock) (.slice (some ⟨go25, 0, none⟩) x4_1.length co25) y345 := (by rw [hw, Ny345.out]; exact HP26.1); clear HP26; replace HO_6 := As.mk (Kd.R_after (v := (.slice (some ⟨go25, 0, none⟩) x4_1.length co25)) (v1 := (.slice (some ⟨go25, 0, none⟩) x4_1.length co25)) (ok := (fun _ => True)) (by (with_reducible repeat (first | apply Kd.RA | apply Kd.RN | apply Kd.RD)); exact Kd.R_mono HO_6.out (fun _ hk => ⟨trivial, hk⟩)) hg (.inl rfl)); replace HO_27 := As.mk (Kd.R_after (v := (.slice (some ⟨go25, 0, none⟩) x4_1.length co25)) (v1 := (.slice (some ⟨go25, 0, none⟩) x4_1.length co25)) (ok := (fun _ => True)) (by (with_reducible repeat (first | apply Kd.RA | apply Kd.RN | apply Kd.RD)); exact Kd.R_mono HO_27.out (fun _ hk => ⟨trivial, hk⟩)) hg (.inl rfl)); replace BK327 := As.mk (blk_grown (g := gb327) (o := .cells #[.slice A0_0 l0_0.length c0_0, .slice A0_1 l0_1.length c0_1] 31 (0, 0)) (by (with_reducible repeat (first | refine kD ?_ _ | refine kE ?_ | refine kA ?_ _)); exact BK327.out) hg (Kd.R_ne HO_4.out BK327.out (by decide))); replace HO_4 := As.mk (hp_); replace HB := As.mk ((by rw [hw]; exact bS (HB.out) GB25.out : Below w.heap.size w w27)); clear hg hw hp_))
          go_roundg k1
          case measure => have := HK1.out; omega
          case rel => exact ⟨(y345), (wrap64 (x29_1 + 1)), (by first | rfl | (simp; done) | (simp [*]; done)), H', ⟨by have := HK1.out; omega⟩, ⟨by (with_reducible repeat (first | apply Kd.RA | apply Kd.RN | apply Kd.RD)); exact HO_4.out⟩, ⟨by (with_reducible repeat (first | apply Kd.RA | apply Kd.RN | apply Kd.RD)); exact Kd.R_mono HO_6.out (fun _ hk => hk.2)⟩, ⟨by (with_reducible repeat (first | apply Kd.RA | apply Kd.RN | apply Kd.RD)); exact Kd.R_mono HO_27.out (fun _ hk => hk.2)⟩, ⟨by (with_reducible repeat (first | refine kD ?_ _ | refine kE ?_ | refine kA ?_ _)); exact BK327.out⟩, ⟨by repeat (first | (with_reducible first | exact HB.out | apply bA | apply bD | apply bE | refine bS ?_ GE327.out) | exact HB.out)⟩⟩
         ·rw [if_neg c24] at H
          exact absurd H (by simp)
        ·rw [if_neg c23] at H
         exact absurd H (by simp)
       ·rw [if_neg c22] at H
        exact absurd H (by simp)
      ·rw [if_neg c21] at H
       exact absurd H (by simp)
     ·rw [if_neg c20] at H
      have c20b0 : decide (x29_1 < (t341.length : Int)) = false := decide_eq_false c20
      clear c20
      have H' := As.mk H
      clear H
      go_wp2
      go_loopg [6] k1 (fun kq v6 w' => ∃ (x4_2 : List Int) (x6_2 : List Int), As (F0.l1 kq x4_2 x6_2 l0_0 l0_1 = some (r1, r2)) ∧ As (kq ≤ k1) ∧ As (Kd.R (Kd.int .i64) 2 w' w.heap.size (fun k_ => some k_ ≠ (v6 : Value).ownBlock) v332 x4_2) ∧ As (Kd.R (Kd.int .i64) 2 w' w.heap.size (fun k_ => some k_ ≠ (v332 : Value).ownBlock) v6 x6_2) ∧ As (w'.heap[gb327]? = some (.cells #[(.slice A0_0 l0_0.length c0_0), (.slice A0_1 l0_1.length c0_1)] 31 (0, 0))) ∧ As (Below w.heap.size w w'))
      case atStart => exact ⟨(x4_1), (t341), H', ⟨Nat.le_refl _⟩, ⟨by (with_reducible repeat (first | apply Kd.RA | apply Kd.RN | apply Kd.RD)); exact Kd.R_mono HO_4.out (fun _ hk => hk.1)⟩, ⟨by (with_reducible repeat (first | apply Kd.RA | apply Kd.RN | apply Kd.RD)); exact HO_6.out⟩, ⟨by (with_reducible repeat (first | refine kD ?_ _ | refine kE ?_ | refine kA ?_ _)); exact BK327.out⟩, ⟨by repeat (first | (with_reducible first | exact HB.out | apply bA | apply bD | apply bE | refine bS ?_ GE327.out) | exact HB.out)⟩⟩
      case round =>
       clear H'
       try clear c5
       try clear c5b0
       try clear c5b1
       try clear c6
       try clear c6b0
       try clear c6b1
       try clear q17
       try clear c20
       try clear c20b0
       try clear hcz11_0
       try clear hcz11_1
       try clear hcz14_0
       try clear hcz14_1
       try clear hfz11
       try clear hfz14
       try clear q17
       obtain ⟨x4_2, x6_2, HA, HK2, HO_4, HO_6, BK327, HB⟩ := hrel
       cases gk with
       | zero => exact absurd HA.out (by simp [F0.l1])
       | succ k2 =>
        have H := HA.out
        clear HA
        simp only [F0.l1] at H
        by_cases c28 : (x6_2.length : Int) > 0
        ·rw [if_pos c28] at H
         have c28b0 : decide (0 < (x6_2.length : Int)) = true := decide_eq_true c28
         have c28b1 : decide (0 < x6_2.length) = true := decide_eq_true (by omega)
         clear c28
         obtain ⟨ji29, hji29⟩ : ∃ j_ : Int, (wrap64 ((x6_2.length : Int) - 1)) = j_ := ⟨_, rfl⟩
         replace H : (if 0 ≤ (ji29) then (if (ji29) < (x6_2.length : Int) then (if (ji29) ≤ (x6_2.length : Int) then ((some (x6_2.take ((ji29) : Int).toNat : List Int)).bind fun y347 => (if 0 ≤ (rd x6_2 (ji29)) then (if (rd x6_2 (ji29)) < (x4_2.length : Int) then (if (rd x6_2 (ji29)) < (l0_0.length : Int) then (if ((rd_T80 l0_0 (rd x6_2 (ji29))).f0) = 34 then (F0.j2 k2 x4_2 y347 (rd x6_2 (ji29)) (wrap64 ((rd x4_2 (rd x6_2 (ji29))) + 1)) l0_0 l0_1) else ((F29.f ((rd_T80 l0_0 (rd x6_2 (ji29))).f0)).bind fun t352 => (if t352 = true then (F0.j2 k2 x4_2 y347 (rd x6_2 (ji29)) (wrap64 ((rd x4_2 (rd x6_2 (ji29))) - 1)) l0_0 l0_1) else (if ((rd_T80 l0_0 (rd x6_2 (ji29))).f0) = 37 then (F0.j2 k2 x4_2 y347 (rd x6_2 (ji29)) (wrap64 ((rd x4_2 (rd x6_2 (ji29))) - 1)) l0_0 l0_1) else (F0.j2 k2 x4_2 y347 (rd x6_2 (ji29)) (rd x4_2 (rd x6_2 (ji29))) l0_0 l0_1))))) else (none)) else (none)) else (none))) else (none)) else (none)) else (none)) = some (r1, r2) := by first | (rw [hji29] at H; exact H) | (simp only [hji29] at H ⊢; exact H)
         have hji29w : (IntKind.i64.wrap ((x6_2.length : Int) - 1)) = ji29 := (i64_w _).trans hji29
         by_cases c30 : 0 ≤ (ji29)
         ·rw [if_pos c30] at H
          have c30b0 : decide (0 ≤ (ji29)) = true := decide_eq_true c30
          clear c30
          by_cases c31 : (ji29) < (x6_2.length : Int)
          ·rw [if_pos c31] at H
           have c31b0 : decide ((ji29) < (x6_2.length : Int)) = true := decide_eq_true c31
           clear c31
           by_cases c32 : (ji29) ≤ (x6_2.length : Int)
           ·rw [if_pos c32] at H
            have c32b0 := eq_true c32
            have c32b1 : decide ((ji29) ≤ (x6_2.length : Int)) = true := decide_eq_true c32
            clear c32
            obtain ⟨y347, hy347⟩ : ∃ y_ : List Int, y_ = (x6_2.take ((ji29) : Int).toNat) := ⟨_, rfl⟩
            replace H : (if 0 ≤ (rd x6_2 (ji29)) then (if (rd x6_2 (ji29)) < (x4_2.length : Int) then (if (rd x6_2 (ji29)) < (l0_0.length : Int) then (if ((rd_T80 l0_0 (rd x6_2 (ji29))).f0) = 34 then (F0.j2 k2 x4_2 y347 (rd x6_2 (ji29)) (wrap64 ((rd x4_2 (rd x6_2 (ji29))) + 1)) l0_0 l0_1) else ((F29.f ((rd_T80 l0_0 (rd x6_2 (ji29))).f0)).bind fun t352 => (if t352 = true then (F0.j2 k2 x4_2 y347 (rd x6_2 (ji29)) (wrap64 ((rd x4_2 (rd x6_2 (ji29))) - 1)) l0_0 l0_1) else (if ((rd_T80 l0_0 (rd x6_2 (ji29))).f0) = 37 then (F0.j2 k2 x4_2 y347 (rd x6_2 (ji29)) (wrap64 ((rd x4_2 (rd x6_2 (ji29))) - 1)) l0_0 l0_1) else (F0.j2 k2 x4_2 y347 (rd x6_2 (ji29)) (rd x4_2 (rd x6_2 (ji29))) l0_0 l0_1))))) else (none)) else (none)) else (none)) = some (r1, r2) := by first | (rw [hy347]; with_reducible exact H) | (have H2_ := (Option.bind_some _ _).symm.trans H; rw [hy347]; with_reducible exact H2_) | (have H2_ := (Option.bind_some _ _).symm.trans H; with_reducible exact H2_) | with_reducible exact H | (rw [hy347]; exact H) | exact H
            have Ny347 := As.mk hy347
            clear hy347
            by_cases c33 : 0 ≤ (rd x6_2 (ji29))
            ·rw [if_pos c33] at H
             have c33b0 : decide (0 ≤ (rd x6_2 (ji29))) = true := decide_eq_true c33
             clear c33
             by_cases c34 : (rd x6_2 (ji29)) < (x4_2.length : Int)
             ·rw [if_pos c34] at H
              have c34b0 : decide ((rd x6_2 (ji29)) < (x4_2.length : Int)) = true := decide_eq_true c34
              clear c34
              by_cases c35 : (rd x6_2 (ji29)) < (l0_0.length : Int)
              ·rw [if_pos c35] at H
               have c35b0 : decide ((rd x6_2 (ji29)) < (l0_0.length : Int)) = true := decide_eq_true c35
               clear c35
               have HC36 := As.mk H
               clear H
               obtain ⟨Ao37, co37, eo37⟩ := Kd.R_slice HO_6.out
               subst eo37
               have p346 : 0 ≤ ((ji29) : Int) := of_decide_eq_true (by first | (with_reducible assumption) | assumption)
               have q346 : (ji29) < (x6_2.length : Int) := of_decide_eq_true (by first | (with_reducible assumption) | assumption)
               obtain ⟨ad346, e346, hx346_0⟩ := Kd.at_int (Kd.RR HO_6.out).2.2 (ji29) p346 q346
               cases e346
               replace p346 := eq_true p346
               replace q346 := eq_true q346
               have q38 : ((ji29) : Int) ≤ ((x6_2.length : Int) : Int) := of_decide_eq_true (by first | (with_reducible assumption) | assumption)
               obtain ⟨i038, hi038, _, hsz38, _⟩ := info_parts info2
               have hcut38 := cut_to (P := Try.prog) 35 2 .i64 Try.underlying35 hi038 (some ad346) x6_2.length co37 (ji29) (of_decide_eq_true (by first | (with_reducible assumption) | assumption)) q38 (Kd.RR HO_6.out).2.1
               have hr38 := Kd.R_take (m := ((ji29) : Int).toNat) HO_6.out (by omega)
               have hy38 : y347.length = ((ji29) : Int).toNat := (by rw [Ny347.out, List.length_take]; omega)
               rw [← Ny347.out] at hr38
               rw [← hy38] at hr38 hcut38
               clear hy38 hi038 hsz38 HO_6
               have HO349 := As.mk hr38
               clear hr38
               replace q38 := eq_true q38
               obtain ⟨Ao39, co39, eo39⟩ := Kd.R_slice HO_4.out
               subst eo39
               have p350 : 0 ≤ ((rd x6_2 (ji29)) : Int) := of_decide_eq_true (by first | (with_reducible assumption) | assumption)
               have q350 : (rd x6_2 (ji29)) < (x4_2.length : Int) := of_decide_eq_true (by first | (with_reducible assumption) | assumption)
               obtain ⟨ad350, e350, hx350_0⟩ := Kd.at_int (Kd.RR HO_4.out).2.2 (rd x6_2 (ji29)) p350 q350
               cases e350
               replace p350 := eq_true p350
               replace q350 := eq_true q350
               have cz_ := c2_0 (w := wr) (g := gb327) BK327.out; obtain ⟨hcz40_0, hcz40_1⟩ := cz_
               have hfz40 := kF BK327.out
               have p351 : 0 ≤ ((rd x6_2 (ji29)) : Int) := of_decide_eq_true (by first | (with_reducible assumption) | assumption)
               have q351 : (rd x6_2 (ji29)) < (l0_0.length : Int) := of_decide_eq_true (by first | (with_reducible assumption) | assumption)
               obtain ⟨ad351, e351, hx351_0, hx351_1, hx351_2⟩ := at_T80 HR0_0.out (rd x6_2 (ji29)) p351 q351
               cases e351
               replace hx351_0 := (HB.out.cell (World.block_lt_of_cell? w _ hx351_0)).trans hx351_0
               replace hx351_1 := (HB.out.cell (World.block_lt_of_cell? w _ hx351_1)).trans hx351_1
               replace hx351_2 := (HB.out.cell (World.block_lt_of_cell? w _ hx351_2)).trans hx351_2
               replace p351 := eq_true p351
               replace q351 := eq_true q351
               go_upto_block 4 with (fail)
               go_cut [10] (fun v10 wc => ∃ (kq : Nat) (x10_35 : Int), v10 = .int .i64 x10_35 ∧ As (F0.j2 kq x4_2 y347 (rd x6_2 (ji29)) x10_35 l0_0 l0_1 = some (r1, r2)) ∧ As (kq ≤ k2) ∧ As (Kd.R (Kd.int .i64) 2 wc w.heap.size (fun k_ => some k_ ≠ ((.slice (some ad346) y347.length co37) : Value).ownBlock) (.slice (some ad350) x4_2.length co39) x4_2) ∧ As (Kd.R (Kd.int .i64) 2 wc w.heap.size (fun k_ => some k_ ≠ ((.slice (some ad350) x4_2.length co39) : Value).ownBlock) (.slice (some ad346) y347.length co37) y347) ∧ As (wc.heap[gb327]? = some (.cells #[(.slice (some ad351) l0_0.length c0_0), (.slice A0_1 l0_1.length c0_1)] 31 (0, 0))) ∧ As (Below w.heap.size w wc))
               case first =>
                have H := HC36.out
                clear HC36
                by_cases c41 : ((rd_T80 l0_0 (rd x6_2 (ji29))).f0) = 34
                ·rw [if_pos c41] at H
                 have c41b0 : (((rd_T80 l0_0 (rd x6_2 (ji29))).f0) == 34) = true := beq_iff_eq.mpr c41
                 have c41b1 : (((rd_T80 l0_0 (rd x6_2 (ji29))).f0) != 34) = false := bne_eq_false_iff_eq.mpr c41
                 clear c41
                 (first | rw [c41b0] | (simp only [i64_w, i32_w]; rw [c41b0]) | skip)
                 have H' := As.mk H
                 clear H
                 go_wp2
                 go_meet
                 case rel => exact ⟨_, (wrap64 ((rd x4_2 (rd x6_2 (ji29))) + 1)), (by first | rfl | (simp; done) | (simp only [← hji29] <;> (first | rfl | simp)) | (simp [*]; done)), H', ⟨by have := HK1.out; have := HK2.out; first | omega | exact Nat.le_refl _⟩, ⟨by (with_reducible repeat (first | apply Kd.RA | apply Kd.RN | apply Kd.RD)); exact HO_4.out⟩, ⟨by (with_reducible repeat (first | apply Kd.RA | apply Kd.RN | apply Kd.RD)); exact HO349.out⟩, ⟨by (with_reducible repeat (first | refine kD ?_ _ | refine kE ?_ | refine kA ?_ _)); exact BK327.out⟩, ⟨by repeat (first | (with_reducible first | exact HB.out | apply bA | apply bD | apply bE | refine bS ?_ GE327.out) | exact HB.out)⟩⟩
                ·rw [if_neg c41] at H
                 have c41b0 : (((rd_T80 l0_0 (rd x6_2 (ji29))).f0) == 34) = false := beq_eq_false_iff_ne.mpr c41
                 have c41b1 : (((rd_T80 l0_0 (rd x6_2 (ji29))).f0) != 34) = true := bne_iff_ne.mpr c41
                 (first | rw [c41b0] | (simp only [i64_w, i32_w]; rw [c41b0]) | skip)
                 replace H := Option.bind_eq_some_iff.mp H
                 obtain ⟨t352, A420, H⟩ := H
                 replace H : (if t352 = true then (F0.j2 k2 x4_2 y347 (rd x6_2 (ji29)) (wrap64 ((rd x4_2 (rd x6_2 (ji29))) - 1)) l0_0 l0_1) else (if ((rd_T80 l0_0 (rd x6_2 (ji29))).f0) = 37 then (F0.j2 k2 x4_2 y347 (rd x6_2 (ji29)) (wrap64 ((rd x4_2 (rd x6_2 (ji29))) - 1)) l0_0 l0_1) else (F0.j2 k2 x4_2 y347 (rd x6_2 (ji29)) (rd x4_2 (rd x6_2 (ji29))) l0_0 l0_1))) = some (r1, r2) := H
                 have A42 := As.mk A420
                 clear A420
                 by_cases c43 : t352 = true
                 ·subst c43
                  replace H : (F0.j2 k2 x4_2 y347 (rd x6_2 (ji29)) (wrap64 ((rd x4_2 (rd x6_2 (ji29))) - 1)) l0_0 l0_1) = some (r1, r2) := by rw [if_pos rfl] at H; exact H
                  have H' := As.mk H
                  clear H
                  go_wp2_with (first | ((with_reducible refine gC (f := 72) rfl ?_); refine gL (some 68) rfl rfl Try.func72 (by kernel_rfl) rfl #[.int .i64 ((rd_T80 l0_0 (rd x6_2 (ji29))).f0)] rfl (by (try simp only [sm1, sm2, sm3]); first | done | (simp only [hji29]; rfl) | rfl | (simp only [List.length_drop, List.length_take]; rfl)) ?_; (with_reducible refine (F29.calls ((rd_T80 l0_0 (rd x6_2 (ji29))).f0) true _ A42.out).mono ?_); rintro e w' ⟨rfl, ⟨nd, rfl⟩⟩; refine ⟨_, rfl, ?_⟩))
                  go_meet
                  case rel => exact ⟨_, (wrap64 ((rd x4_2 (rd x6_2 (ji29))) - 1)), (by first | rfl | (simp; done) | (simp only [← hji29] <;> (first | rfl | simp)) | (simp [*]; done)), H', ⟨by have := HK1.out; have := HK2.out; first | omega | exact Nat.le_refl _⟩, ⟨by (with_reducible repeat (first | apply Kd.RA | apply Kd.RN | apply Kd.RD)); exact HO_4.out⟩, ⟨by (with_reducible repeat (first | apply Kd.RA | apply Kd.RN | apply Kd.RD)); exact HO349.out⟩, ⟨by (with_reducible repeat (first | refine kD ?_ _ | refine kE ?_ | refine kA ?_ _)); exact BK327.out⟩, ⟨by repeat (first | (with_reducible first | exact HB.out | apply bA | apply bD | apply bE | refine bS ?_ GE327.out) | exact HB.out)⟩⟩
                 ·replace c43 := Bool.eq_false_iff.mpr c43
                  subst c43
                  replace H : (if ((rd_T80 l0_0 (rd x6_2 (ji29))).f0) = 37 then (F0.j2 k2 x4_2 y347 (rd x6_2 (ji29)) (wrap64 ((rd x4_2 (rd x6_2 (ji29))) - 1)) l0_0 l0_1) else (F0.j2 k2 x4_2 y347 (rd x6_2 (ji29)) (rd x4_2 (rd x6_2 (ji29))) l0_0 l0_1)) = some (r1, r2) := by rw [if_neg (show ¬ (false = true) by decide)] at H; exact H
                  by_cases c44 : ((rd_T80 l0_0 (rd x6_2 (ji29))).f0) = 37
                  ·rw [if_pos c44] at H
                   have c44b0 : (((rd_T80 l0_0 (rd x6_2 (ji29))).f0) == 37) = true := beq_iff_eq.mpr c44
                   have c44b1 : (((rd_T80 l0_0 (rd x6_2 (ji29))).f0) != 37) = false := bne_eq_false_iff_eq.mpr c44
                   clear c44
                   have H' := As.mk H
                   clear H
                   go_wp2_with (first | ((with_reducible refine gC (f := 72) rfl ?_); refine gL (some 68) rfl rfl Try.func72 (by kernel_rfl) rfl #[.int .i64 ((rd_T80 l0_0 (rd x6_2 (ji29))).f0)] rfl (by (try simp only [sm1, sm2, sm3]); first | done | (simp only [hji29]; rfl) | rfl | (simp only [List.length_drop, List.length_take]; rfl)) ?_; (with_reducible refine (F29.calls ((rd_T80 l0_0 (rd x6_2 (ji29))).f0) false _ A42.out).mono ?_); rintro e w' ⟨rfl, ⟨nd, rfl⟩⟩; refine ⟨_, rfl, ?_⟩))
                   go_meet
                   case rel => exact ⟨_, (wrap64 ((rd x4_2 (rd x6_2 (ji29))) - 1)), (by first | rfl | (simp; done) | (simp only [← hji29] <;> (first | rfl | simp)) | (simp [*]; done)), H', ⟨by have := HK1.out; have := HK2.out; first | omega | exact Nat.le_refl _⟩, ⟨by (with_reducible repeat (first | apply Kd.RA | apply Kd.RN | apply Kd.RD)); exact HO_4.out⟩, ⟨by (with_reducible repeat (first | apply Kd.RA | apply Kd.RN | apply Kd.RD)); exact HO349.out⟩, ⟨by (with_reducible repeat (first | refine kD ?_ _ | refine kE ?_ | refine kA ?_ _)); exact BK327.out⟩, ⟨by repeat (first | (with_reducible first | exact HB.out | apply bA | apply bD | apply bE | refine bS ?_ GE327.out) | exact HB.out)⟩⟩
                  ·rw [if_neg c44] at H
                   have c44b0 : (((rd_T80 l0_0 (rd x6_2 (ji29))).f0) == 37) = false := beq_eq_false_iff_ne.mpr c44
                   have c44b1 : (((rd_T80 l0_0 (rd x6_2 (ji29))).f0) != 37) = true := bne_iff_ne.mpr c44
                   have H' := As.mk H
                   clear H
                   go_wp2_with (first | ((with_reducible refine gC (f := 72) rfl ?_); refine gL (some 68) rfl rfl Try.func72 (by kernel_rfl) rfl #[.int .i64 ((rd_T80 l0_0 (rd x6_2 (ji29))).f0)] rfl (by (try simp only [sm1, sm2, sm3]); first | done | (simp only [hji29]; rfl) | rfl | (simp only [List.length_drop, List.length_take]; rfl)) ?_; (with_reducible refine (F29.calls ((rd_T80 l0_0 (rd x6_2 (ji29))).f0) false _ A42.out).mono ?_); rintro e w' ⟨rfl, ⟨nd, rfl⟩⟩; refine ⟨_, rfl, ?_⟩))
                   go_meet
                   case rel => exact ⟨_, (rd x4_2 (rd x6_2 (ji29))), (by first | rfl | (simp; done) | (simp only [← hji29] <;> (first | rfl | simp)) | (simp [*]; done)), H', ⟨by have := HK1.out; have := HK2.out; first | omega | exact Nat.le_refl _⟩, ⟨by (with_reducible repeat (first | apply Kd.RA | apply Kd.RN | apply Kd.RD)); exact HO_4.out⟩, ⟨by (with_reducible repeat (first | apply Kd.RA | apply Kd.RN | apply Kd.RD)); exact HO349.out⟩, ⟨by (with_reducible repeat (first | refine kD ?_ _ | refine kE ?_ | refine kA ?_ _)); exact BK327.out⟩, ⟨by repeat (first | (with_reducible first | exact HB.out | apply bA | apply bD | apply bE | refine bS ?_ GE327.out) | exact HB.out)⟩⟩
               case rest =>
                clear HC36
                try clear c5
                try clear c5b0
                try clear c5b1
                try clear c6
                try clear c6b0
                try clear c6b1
                try clear q17
                try clear c20
                try clear c20b0
                try clear c28
                try clear c28b0
                try clear c28b1
                try clear c30
                try clear c30b0
                try clear c31
                try clear c31b0
                try clear c32
                try clear c32b0
                try clear c32b1
                try clear c33
                try clear c33b0
                try clear c34
                try clear c34b0
                try clear c35
                try clear c35b0
                try clear q38
                try clear hcz11_0
                try clear hcz11_1
                try clear hcz14_0
                try clear hcz14_1
                try clear hcz40_0
                try clear hcz40_1
                try clear hfz11
                try clear hfz14
                try clear hfz40
                try clear hx346_0
                try clear hx350_0
                try clear hx351_0
                try clear hx351_1
                try clear hx351_2
                try clear p346
                try clear p350
                try clear p351
                try clear q17
                try clear q346
                try clear q350
                try clear q351
                try clear q38
                obtain ⟨kq, x10_35, rfl, HA, HJ35, HO_4, HO_6, BK327, HB⟩ := hcut
                cases kq with
                | zero => exact absurd HA.out (by simp [F0.j2])
                | succ kj35 =>
                 have H := HA.out
                 clear HA
                 simp only [F0.j2] at H
                 have HC45 := As.mk H
                 clear H
                 go_upto_region 18 with (fail)
                 go_cut [89] (fun v89 wc => ∃ (kq : Nat) (x89_44 : Bool), v89 = .bool x89_44 ∧ As (F0.j3 kq x4_2 y347 (rd x6_2 (ji29)) x10_35 x89_44 l0_0 l0_1 = some (r1, r2)) ∧ As (kq ≤ kj35) ∧ As (Kd.R (Kd.int .i64) 2 wc w.heap.size (fun k_ => some k_ ≠ ((.slice (some ad346) y347.length co37) : Value).ownBlock) (.slice (some ad350) x4_2.length co39) x4_2) ∧ As (Kd.R (Kd.int .i64) 2 wc w.heap.size (fun k_ => some k_ ≠ ((.slice (some ad350) x4_2.length co39) : Value).ownBlock) (.slice (some ad346) y347.length co37) y347) ∧ As (wc.heap[gb327]? = some (.cells #[(.slice (some ad351) l0_0.length c0_0), (.slice A0_1 l0_1.length c0_1)] 31 (0, 0))) ∧ As (Below w.heap.size w wc))
                 case first =>
                  have H := HC45.out
                  clear HC45
                  by_cases c46 : x10_35 < 0
                  ·rw [if_pos c46] at H
                   have c46b0 : decide (x10_35 < 0) = true := decide_eq_true c46
                   clear c46
                   (first | rw [c46b0] | (simp only [i64_w, i32_w]; rw [c46b0]) | skip)
                   have H' := As.mk H
                   clear H
                   go_wp2
                   go_meet
                   case rel => exact ⟨_, (true), (by first | rfl | (simp; done) | (simp [*]; done)), H', ⟨by have := HK1.out; have := HK2.out; have := HJ35.out; first | omega | exact Nat.le_refl _⟩, ⟨by (with_reducible repeat (first | apply Kd.RA | apply Kd.RN | apply Kd.RD)); exact HO_4.out⟩, ⟨by (with_reducible repeat (first | apply Kd.RA | apply Kd.RN | apply Kd.RD)); exact HO_6.out⟩, ⟨by (with_reducible repeat (first | refine kD ?_ _ | refine kE ?_ | refine kA ?_ _)); exact BK327.out⟩, ⟨by repeat (first | (with_reducible first | exact HB.out | apply bA | apply bD | apply bE | refine bS ?_ GE327.out) | exact HB.out)⟩⟩
                  ·rw [if_neg c46] at H
                   have c46b0 : decide (x10_35 < 0) = false := decide_eq_false c46
                   clear c46
                   (first | rw [c46b0] | (simp only [i64_w, i32_w]; rw [c46b0]) | skip)
                   by_cases c47 : 0 ≤ (rd x6_2 (ji29))
                   ·rw [if_pos c47] at H
                    have c47b0 : decide (0 ≤ (rd x6_2 (ji29))) = true := decide_eq_true c47
                    clear c47
                    by_cases c48 : (rd x6_2 (ji29)) < (l0_0.length : Int)
                    ·rw [if_pos c48] at H
                     have c48b0 : decide ((rd x6_2 (ji29)) < (l0_0.length : Int)) = true := decide_eq_true c48
                     clear c48
                     replace H := Option.bind_eq_some_iff.mp H
                     obtain ⟨t354, A490, H⟩ := H
                     replace H : (if t354 = true then (F0.j3 kj35 x4_2 y347 (rd x6_2 (ji29)) x10_35 (decide (x10_35 > 0)) l0_0 l0_1) else (F0.j3 kj35 x4_2 y347 (rd x6_2 (ji29)) x10_35 false l0_0 l0_1)) = some (r1, r2) := H
                     have A49 := As.mk A490
                     clear A490
                     by_cases c50 : t354 = true
                     ·subst c50
                      replace H : (F0.j3 kj35 x4_2 y347 (rd x6_2 (ji29)) x10_35 (decide (x10_35 > 0)) l0_0 l0_1) = some (r1, r2) := by rw [if_pos rfl] at H; exact H
                      have H' := As.mk H
                      clear H
                      have cz_ := c2_0 (w := wc) (g := gb327) BK327.out; obtain ⟨hcz51_0, hcz51_1⟩ := cz_
                      have hfz51 := kF BK327.out
                      have p353 : 0 ≤ ((rd x6_2 (ji29)) : Int) := of_decide_eq_true (by first | (with_reducible assumption) | assumption)
                      have q353 : (rd x6_2 (ji29)) < (l0_0.length : Int) := of_decide_eq_true (by first | (with_reducible assumption) | assumption)
                      obtain ⟨ad353, e353, hx353_0, hx353_1, hx353_2⟩ := at_T80 HR0_0.out (rd x6_2 (ji29)) p353 q353
                      obtain rfl : ad351 = ad353 := (by injection e353)
                      replace hx353_0 := (HB.out.cell (World.block_lt_of_cell? w _ hx353_0)).trans hx353_0
                      replace hx353_1 := (HB.out.cell (World.block_lt_of_cell? w _ hx353_1)).trans hx353_1
                      replace hx353_2 := (HB.out.cell (World.block_lt_of_cell? w _ hx353_2)).trans hx353_2
                      replace p353 := eq_true p353
                      replace q353 := eq_true q353
                      go_wp2_with (first | (go_at_call 77; (with_reducible refine (impl_isLast.calls ((rd_T80 l0_0 (rd x6_2 (ji29))).f0) true _ A49.out).mono ?_); rintro e w' ⟨rfl, ⟨nd, rfl⟩⟩))
                      go_meet
                      case rel => exact ⟨_, (decide (x10_35 > 0)), (by first | rfl | (simp; done) | (simp [*]; done)), H', ⟨by have := HK1.out; have := HK2.out; have := HJ35.out; first | omega | exact Nat.le_refl _⟩, ⟨by (with_reducible repeat (first | apply Kd.RA | apply Kd.RN | apply Kd.RD)); exact HO_4.out⟩, ⟨by (with_reducible repeat (first | apply Kd.RA | apply Kd.RN | apply Kd.RD)); exact HO_6.out⟩, ⟨by (with_reducible repeat (first | refine kD ?_ _ | refine kE ?_ | refine kA ?_ _)); exact BK327.out⟩, ⟨by repeat (first | (with_reducible first | exact HB.out | apply bA | apply bD | apply bE | refine bS ?_ GE327.out) | exact HB.out)⟩⟩
                     ·replace c50 := Bool.eq_false_iff.mpr c50
                      subst c50
                      replace H : (F0.j3 kj35 x4_2 y347 (rd x6_2 (ji29)) x10_35 false l0_0 l0_1) = some (r1, r2) := by rw [if_neg (show ¬ (false = true) by decide)] at H; exact H
                      have H' := As.mk H
                      clear H
                      have cz_ := c2_0 (w := wc) (g := gb327) BK327.out; obtain ⟨hcz52_0, hcz52_1⟩ := cz_
                      have hfz52 := kF BK327.out
                      have p353 : 0 ≤ ((rd x6_2 (ji29)) : Int) := of_decide_eq_true (by first | (with_reducible assumption) | assumption)
                      have q353 : (rd x6_2 (ji29)) < (l0_0.length : Int) := of_decide_eq_true (by first | (with_reducible assumption) | assumption)
                      obtain ⟨ad353, e353, hx353_0, hx353_1, hx353_2⟩ := at_T80 HR0_0.out (rd x6_2 (ji29)) p353 q353
                      obtain rfl : ad351 = ad353 := (by injection e353)
                      replace hx353_0 := (HB.out.cell (World.block_lt_of_cell? w _ hx353_0)).trans hx353_0
                      replace hx353_1 := (HB.out.cell (World.block_lt_of_cell? w _ hx353_1)).trans hx353_1
                      replace hx353_2 := (HB.out.cell (World.block_lt_of_cell? w _ hx353_2)).trans hx353_2
                      replace p353 := eq_true p353
                      replace q353 := eq_true q353
                      go_wp2_with (first | (go_at_call 77; (with_reducible refine (impl_isLast.calls ((rd_T80 l0_0 (rd x6_2 (ji29))).f0) false _ A49.out).mono ?_); rintro e w' ⟨rfl, ⟨nd, rfl⟩⟩))
                      go_meet
                      case rel => exact ⟨_, (false), (by first | rfl | (simp; done) | (simp [*]; done)), H', ⟨by have := HK1.out; have := HK2.out; have := HJ35.out; first | omega | exact Nat.le_refl _⟩, ⟨by (with_reducible repeat (first | apply Kd.RA | apply Kd.RN | apply Kd.RD)); exact HO_4.out⟩, ⟨by (with_reducible repeat (first | apply Kd.RA | apply Kd.RN | apply Kd.RD)); exact HO_6.out⟩, ⟨by (with_reducible repeat (first | refine kD ?_ _ | refine kE ?_ | refine kA ?_ _)); exact BK327.out⟩, ⟨by repeat (first | (with_reducible first | exact HB.out | apply bA | apply bD | apply bE | refine bS ?_ GE327.out) | exact HB.out)⟩⟩
                    ·rw [if_neg c48] at H
                     exact absurd H (by simp)
                   ·rw [if_neg c47] at H
                    exact absurd H (by simp)
                 case rest =>
                  clear HC45
                  try clear c5
                  try clear c5b0
                  try clear c5b1
                  try clear c6
                  try clear c6b0
                  try clear c6b1
                  try clear q17
                  try clear c20
                  try clear c20b0
                  try clear c28
                  try clear c28b0
                  try clear c28b1
                  try clear c30
                  try clear c30b0
                  try clear c31
                  try clear c31b0
                  try clear c32
                  try clear c32b0
                  try clear c32b1
                  try clear c33
                  try clear c33b0
                  try clear c34
                  try clear c34b0
                  try clear c35
                  try clear c35b0
                  try clear q38
                  try clear hcz11_0
                  try clear hcz11_1
                  try clear hcz14_0
                  try clear hcz14_1
                  try clear hcz40_0
                  try clear hcz40_1
                  try clear hfz11
                  try clear hfz14
                  try clear hfz40
                  try clear hx346_0
                  try clear hx350_0
                  try clear hx351_0
                  try clear hx351_1
                  try clear hx351_2
                  try clear p346
                  try clear p350
                  try clear p351
                  try clear q17
                  try clear q346
                  try clear q350
                  try clear q351
                  try clear q38
                  obtain ⟨kq, x89_44, rfl, HA, HJ44, HO_4, HO_6, BK327, HB⟩ := hcut
                  cases kq with
                  | zero => exact absurd HA.out (by simp [F0.j3])
                  | succ kj44 =>
                   have H := HA.out
                   clear HA
                   simp only [F0.j3] at H
                   by_cases c53 : x89_44 = true
                   ·subst c53
                    replace H : (some (([] : List Int), false)) = some (r1, r2) := by rw [if_pos rfl] at H; exact H
                    simp only [Option.some.injEq, Prod.mk.injEq] at H
                    obtain ⟨rfl, rfl⟩ := H
                    go_wp2
                    go_ret2
                    exact ⟨_, by first | rfl | (simp [eN, eS] <;> rfl) | (simp only [← hji4, ← hji29]; first | rfl | (simp [eN, eS] <;> rfl)) | (simp [*, eN, eS] <;> rfl), by first | exact Kd.R_nil _ _ _ _ _ | exact Kd.N_nil _ _ _ _ _ | exact Kd.V_nil _ _ _ _ _ | exact Kd.Q_nil _ _ _ _ _ | exact Kd.S_nil _ _ _ _ _, by repeat (first | (with_reducible first | exact HB.out | apply bA | apply bD | apply bE | refine bS ?_ GE327.out) | exact HB.out)⟩
                   ·replace c53 := Bool.eq_false_iff.mpr c53
                    subst c53
                    replace H : ((F10.f kj44 l0_0 l0_1 (rd x6_2 (ji29))).bind fun t355 => (F0.l2 kj44 x4_2 y347 x10_35 t355 (t355.length : Int) 0 l0_0 l0_1)) = some (r1, r2) := by rw [if_neg (show ¬ (false = true) by decide)] at H; exact H
                    replace H := Option.bind_eq_some_iff.mp H
                    obtain ⟨t355, A540, H⟩ := H
                    replace H : (F0.l2 kj44 x4_2 y347 x10_35 t355 (t355.length : Int) 0 l0_0 l0_1) = some (r1, r2) := H
                    have A54 := As.mk A540
                    clear A540
                    have H' := As.mk H
                    clear H
                    have cz_ := c2_0 (w := wc) (g := gb327) BK327.out; obtain ⟨hcz55_0, hcz55_1⟩ := cz_
                    have hfz55 := kF BK327.out
                    go_wp2_with (first | ((with_reducible refine gC (f := 80) rfl ?_); refine gL (some 92) rfl rfl Try.func80 (by kernel_rfl) rfl #[.agg #[.slice (some ad351) l0_0.length c0_0, .slice A0_1 l0_1.length c0_1], .int .i64 (rd x6_2 (ji29))] rfl (by (try simp only [sm1, sm2, sm3]); first | done | (simp only [hji29]; rfl) | rfl | (simp only [List.length_drop, List.length_take]; rfl)) ?_; (with_reducible refine (F10.calls kj44 _ _ l0_0 _ _ l0_1 (rd x6_2 (ji29)) t355 _ ?side1 ?side2 ?side3 ?side4 A54.out).mono ?_); (case side1 => repeat (first | exact (Kd.CB HR0_0.out HB.out) | (with_reducible refine Kd.CA ?_ _) | (with_reducible refine Kd.CN ?_ _) | (with_reducible refine Kd.CD ?_))); (case side2 => exact HC0_0.out); (case side3 => repeat (first | exact (Kd.CB HR0_1.out HB.out) | (with_reducible refine Kd.CA ?_ _) | (with_reducible refine Kd.CN ?_ _) | (with_reducible refine Kd.CD ?_))); (case side4 => exact HC0_1.out); rintro e w56 ⟨v356, rfl, ho0, hb⟩; refine ⟨_, rfl, ?_⟩; have HO357 := As.mk (Kd.R_lower (Kd.R_new' (Kd.R_new' ho0 (Kd.R_lt (by (with_reducible repeat (first | apply Kd.RA | apply Kd.RN | apply Kd.RD)); exact HO_4.out))) (Kd.R_lt (by (with_reducible repeat (first | apply Kd.RA | apply Kd.RN | apply Kd.RD)); exact HO_6.out))) (bZ (by repeat (first | (with_reducible first | exact HB.out | apply bA | apply bD | apply bE | refine bS ?_ GE327.out) | exact HB.out)))); replace HO_4 := As.mk (Kd.R_elder' (by (with_reducible repeat (first | apply Kd.RA | apply Kd.RN | apply Kd.RD)); exact HO_4.out) (Kd.R_base ho0) hb); replace HO_6 := As.mk (Kd.R_elder' (by (with_reducible repeat (first | apply Kd.RA | apply Kd.RN | apply Kd.RD)); exact HO_6.out) (Kd.R_base ho0) hb); replace BK327 := As.mk (kB (g := gb327) (o := .cells #[.slice (some ad351) l0_0.length c0_0, .slice A0_1 l0_1.length c0_1] 31 (0, 0)) (by (with_reducible repeat (first | refine kD ?_ _ | refine kE ?_ | refine kA ?_ _)); exact BK327.out) hb); replace HB := As.mk (bT (by repeat (first | (with_reducible first | exact HB.out | apply bA | apply bD | apply bE | refine bS ?_ GE327.out) | exact HB.out)) hb); (try clear hb); (try clear hk); (try clear ho0); obtain ⟨Ao57, co57, eo57⟩ := Kd.R_slice HO357.out; subst eo57))
                    go_loopg [6, 94] kj44 (fun kq v6 v94 w' => ∃ (x4_5 : List Int) (x6_5 : List Int) (x94_5 : Int), v94 = .int .i64 x94_5 ∧ As (F0.l2 kq x4_5 x6_5 x10_35 t355 (t355.length : Int) x94_5 l0_0 l0_1 = some (r1, r2)) ∧ As (kq ≤ kj44) ∧ As (Kd.R (Kd.int .i64) 2 w' w.heap.size (fun k_ => some k_ ≠ (v6 : Value).ownBlock ∧ some k_ ≠ ((.slice Ao57 t355.length co57) : Value).ownBlock) (.slice (some ad350) x4_2.length co39) x4_5) ∧ As (Kd.R (Kd.int .i64) 2 w' w.heap.size (fun k_ => some k_ ≠ ((.slice (some ad350) x4_2.length co39) : Value).ownBlock ∧ some k_ ≠ ((.slice Ao57 t355.length co57) : Value).ownBlock) v6 x6_5) ∧ As (Kd.R (Kd.int .i64) 2 w' w.heap.size (fun k_ => some k_ ≠ ((.slice (some ad350) x4_2.length co39) : Value).ownBlock ∧ some k_ ≠ (v6 : Value).ownBlock) (.slice Ao57 t355.length co57) t355) ∧ As (w'.heap[gb327]? = some (.cells #[(.slice (some ad351) l0_0.length c0_0), (.slice A0_1 l0_1.length c0_1)] 31 (0, 0))) ∧ As (Below w.heap.size w w'))
                    case atStart => exact ⟨(x4_2), (y347), (0), (by first | rfl | (simp; done) | (simp [*]; done)), H', ⟨Nat.le_refl _⟩, ⟨by (with_reducible repeat (first | apply Kd.RA | apply Kd.RN | apply Kd.RD)); exact HO_4.out⟩, ⟨by (with_reducible repeat (first | apply Kd.RA | apply Kd.RN | apply Kd.RD)); exact HO_6.out⟩, ⟨by (with_reducible repeat (first | apply Kd.RA | apply Kd.RN | apply Kd.RD)); exact Kd.R_mono HO357.out (fun _ hk => ⟨hk.1.2, hk.2⟩)⟩, ⟨by (with_reducible repeat (first | refine kD ?_ _ | refine kE ?_ | refine kA ?_ _)); exact BK327.out⟩, ⟨by repeat (first | (with_reducible first | exact HB.out | apply bA | apply bD | apply bE | refine bS ?_ GE327.out) | exact HB.out)⟩⟩
                    case round =>
                     clear H'
                     try clear c5
                     try clear c5b0
                     try clear c5b1
                     try clear c6
                     try clear c6b0
                     try clear c6b1
                     try clear q17
                     try clear c20
                     try clear c20b0
                     try clear c28
                     try clear c28b0
                     try clear c28b1
                     try clear c30
                     try clear c30b0
                     try clear c31
                     try clear c31b0
                     try clear c32
                     try clear c32b0
                     try clear c32b1
                     try clear c33
                     try clear c33b0
                     try clear c34
                     try clear c34b0
                     try clear c35
                     try clear c35b0
                     try clear q38
                     try clear c53
                     try clear hcz11_0
                     try clear hcz11_1
                     try clear hcz14_0
                     try clear hcz14_1
                     try clear hcz40_0
                     try clear hcz40_1
                     try clear hcz55_0
                     try clear hcz55_1
                     try clear hfz11
                     try clear hfz14
                     try clear hfz40
                     try clear hfz55
                     try clear hx346_0
                     try clear hx350_0
                     try clear hx351_0
                     try clear hx351_1
                     try clear hx351_2
                     try clear p346
                     try clear p350
                     try clear p351
                     try clear q17
                     try clear q346
                     try clear q350
                     try clear q351
                     try clear q38
                     obtain ⟨x4_5, x6_5, x94_5, rfl, HA, HK5, HO_4, HO_6, HO_92, BK327, HB⟩ := hrel
                     have hl4_5 := (Kd.RR HO_4.out).1
                     rw [hl4_5] at HO_4
                     (try simp only [hl4_5])
                     (try simp only [hl4_5] at BK327)
                     (try simp only [hl4_5] at HO_6)
                     (try simp only [hl4_5] at HO_92)
                     cases gk with
                     | zero => exact absurd HA.out (by simp [F0.l2])
                     | succ k5 =>
                      have H := HA.out
                      clear HA
                      simp only [F0.l2] at H
                      by_cases c58 : x94_5 < (t355.length : Int)
                      ·rw [if_pos c58] at H
                       have c58b0 : decide (x94_5 < (t355.length : Int)) = true := decide_eq_true c58
                       clear c58
                       by_cases c59 : 0 ≤ x94_5
                       ·rw [if_pos c59] at H
                        have c59b0 : decide (0 ≤ x94_5) = true := decide_eq_true c59
                        clear c59
                        by_cases c60 : x94_5 < (t355.length : Int)
                        ·rw [if_pos c60] at H
                         have c60b0 : decide (x94_5 < (t355.length : Int)) = true := decide_eq_true c60
                         clear c60
                         by_cases c61 : 0 ≤ (rd t355 x94_5)
                         ·rw [if_pos c61] at H
                          have c61b0 : decide (0 ≤ (rd t355 x94_5)) = true := decide_eq_true c61
                          clear c61
                          by_cases c62 : (rd t355 x94_5) < (x4_5.length : Int)
                          ·rw [if_pos c62] at H
                           have c62b0 : decide ((rd t355 x94_5) < (x4_5.length : Int)) = true := decide_eq_true c62
                           clear c62
                           by_cases c63 : (rd x4_5 (rd t355 x94_5)) < 0
                           ·rw [if_pos c63] at H
                            have c63b0 : decide ((rd x4_5 (rd t355 x94_5)) < 0) = true := decide_eq_true c63
                            clear c63
                            obtain ⟨y360, hy360⟩ : ∃ y_ : List Int, y_ = (x4_5.set ((rd t355 x94_5) : Int).toNat x10_35) := ⟨_, rfl⟩
                            replace H : (if x6_5.length < 17592186044416 then (F0.l2 k5 y360 (x6_5 ++ [rd t355 x94_5]) x10_35 t355 (t355.length : Int) (wrap64 (x94_5 + 1)) l0_0 l0_1) else (none)) = some (r1, r2) := by first | (rw [hy360]; with_reducible exact H) | (have H2_ := (Option.bind_some _ _).symm.trans H; rw [hy360]; with_reducible exact H2_) | (have H2_ := (Option.bind_some _ _).symm.trans H; with_reducible exact H2_) | with_reducible exact H | (rw [hy360]; exact H) | exact H
                            have Ny360 := As.mk hy360
                            clear hy360
                            by_cases c65 : x6_5.length < 17592186044416
                            ·rw [if_pos c65] at H
                             have LMc65 := As.mk c65
                             clear c65
                             obtain ⟨y361, hy361⟩ : ∃ y_ : List Int, y_ = (x6_5 ++ [rd t355 x94_5]) := ⟨_, rfl⟩
                             replace H : (F0.l2 k5 y360 y361 x10_35 t355 (t355.length : Int) (wrap64 (x94_5 + 1)) l0_0 l0_1) = some (r1, r2) := by first | (rw [hy361]; with_reducible exact H) | (have H2_ := (Option.bind_some _ _).symm.trans H; rw [hy361]; with_reducible exact H2_) | (have H2_ := (Option.bind_some _ _).symm.trans H; with_reducible exact H2_) | with_reducible exact H | (rw [hy361]; exact H) | exact H
                             have Ny361 := As.mk hy361
                             clear hy361
                             have H' := As.mk H
                             clear H
                             have p358 : 0 ≤ (x94_5 : Int) := of_decide_eq_true (by first | (with_reducible assumption) | assumption)
                             have q358 : x94_5 < (t355.length : Int) := of_decide_eq_true (by first | (with_reducible assumption) | assumption)
                             obtain ⟨ad358, e358, hx358_0⟩ := Kd.at_int (Kd.RR HO_92.out).2.2 x94_5 p358 q358
                             cases e358
                             replace p358 := eq_true p358
                             replace q358 := eq_true q358
                             have p359 : 0 ≤ ((rd t355 x94_5) : Int) := of_decide_eq_true (by first | (with_reducible assumption) | assumption)
                             have q359 : (rd t355 x94_5) < (x4_5.length : Int) := of_decide_eq_true (by first | (with_reducible assumption) | assumption)
                             obtain ⟨ad359, e359, hx359_0⟩ := Kd.at_int (Kd.RR HO_4.out).2.2 (rd t355 x94_5) p359 q359
                             obtain rfl : ad350 = ad359 := (by injection e359)
                             replace p359 := eq_true p359
                             replace q359 := eq_true q359
                             have p64 : 0 ≤ ((rd t355 x94_5) : Int) := of_decide_eq_true (by first | (with_reducible assumption) | assumption)
                             have q64 : ((rd t355 x94_5) : Int) < ((x4_5.length : Int) : Int) := of_decide_eq_true (by first | (with_reducible assumption) | assumption)
                             obtain ⟨go64, co64, eo64, gb64, gl64, cl64, HG64⟩ := Kd.R_form HO_4.out (by omega)
                             (first | cases eo64 | (injection eo64 with ea_ en_ ec_; (first | subst ea_ | (injection ea_ with ea_; subst ea_)); subst ec_; clear en_))
                             have GB64 := As.mk gb64
                             have GG64 := As.mk HG64
                             clear gb64 gl64 HG64
                             (first | simp only [add_plain] at hx350_0 | skip)
                             (first | simp only [add_plain] at hx359_0 | skip)
                             obtain ⟨hx64_0, hf64_0⟩ := Kd.R_celln 0 HO_4.out ((rd t355 x94_5) : Int) p64 q64
                             replace p64 := eq_true p64
                             replace q64 := eq_true q64
                             have HP66 := Kd.R_putg HO_4.out ((rd t355 x94_5) : Int) x10_35
                             go_wp2_with (first | ((with_reducible refine gS (t := 2) (p := 107) rfl ?_); refine sE (t := 2) (p := 107) (v := ?vo_w67) (w1 := (wr.setCell ⟨go64, ((rd t355 x94_5) : Int).toNat, none⟩ (.int .i64 x10_35))) ?hg ?ho ?hn ?hr ?_; (case ho => rfl); (case hg => rfl); (case hn => rfl); (case hr =>  first | (go_simp; done) | (go_simp; rfl)); intro w67 hw; have hg : wr.grownBy w67 (some go64) := (by rw [hw]; exact HP66.2); have hp_ : Kd.R (Kd.int .i64) 2 w67 w.heap.size (fun k_ => some k_ ≠ (u6 : Value).ownBlock ∧ some k_ ≠ (.slice (some ad358) t355.length co57 : Value).ownBlock) (.slice (some ⟨go64, 0, none⟩) x4_5.length co39) y360 := (by rw [hw, Ny360.out]; exact HP66.1); clear HP66; replace HO_6 := As.mk (Kd.R_after (v := (.slice (some ⟨go64, 0, none⟩) x4_5.length co39)) (v1 := (.slice (some ⟨go64, 0, none⟩) x4_5.length co39)) (ok := (fun k_ => some k_ ≠ (.slice (some ad358) t355.length co57 : Value).ownBlock)) (by (with_reducible repeat (first | apply Kd.RA | apply Kd.RN | apply Kd.RD)); exact Kd.R_mono HO_6.out (fun _ hk => ⟨hk.2, hk.1⟩)) hg (.inl rfl)); replace HO_92 := As.mk (Kd.R_after (v := (.slice (some ⟨go64, 0, none⟩) x4_5.length co39)) (v1 := (.slice (some ⟨go64, 0, none⟩) x4_5.length co39)) (ok := (fun k_ => some k_ ≠ (u6 : Value).ownBlock)) (by (with_reducible repeat (first | apply Kd.RA | apply Kd.RN | apply Kd.RD)); exact Kd.R_mono HO_92.out (fun _ hk => ⟨hk.2, hk.1⟩)) hg (.inl rfl)); replace BK327 := As.mk (blk_grown (g := gb327) (o := .cells #[.slice (some ad351) l0_0.length c0_0, .slice A0_1 l0_1.length c0_1] 31 (0, 0)) (by (with_reducible repeat (first | refine kD ?_ _ | refine kE ?_ | refine kA ?_ _)); exact BK327.out) hg (Kd.R_ne HO_4.out BK327.out (by decide))); replace HO_4 := As.mk (hp_); replace HB := As.mk ((by rw [hw]; exact bS (HB.out) GB64.out : Below w.heap.size w w67)); clear hg hw hp_) | ((with_reducible refine gB (b := .append) (xs := #[.tmp 108, .tmp 110]) rfl ?_); at_builtin; refine Kd.R_append (Kd.int .i64) (w0 := w) w.heap.size rfl (.tmp 108) (.tmp 110) 35 2 (.int .i64 0) 8 rfl Try.underlying35 info2 rfl (by decide) (by omega) u6 x6_5 (rd t355 x94_5) [.int .i64 (rd t355 x94_5)] (fun k_ => some k_ ≠ (.slice (some ⟨go64, 0, none⟩) x4_5.length co39 : Value).ownBlock ∧ some k_ ≠ (.slice (some ad358) t355.length co57 : Value).ownBlock) (fun _ => False) rfl rfl ?aP (fun _ hk => hk.elim) ?aF ?aO ?aB ?aS ?aL ?_; (case aP => exact rfl); (case aB => exact (by repeat (first | (with_reducible first | exact HB.out | apply bA | apply bD | apply bE | refine bS ?_ GE327.out) | exact HB.out))); (case aF => exact (fun k_ hk => ⟨Kd.fresh' (Kd.R_lt (by (with_reducible repeat (first | apply Kd.RA | apply Kd.RN | apply Kd.RD)); exact HO_4.out)) k_ hk, Kd.fresh' (Kd.R_lt (by (with_reducible repeat (first | apply Kd.RA | apply Kd.RN | apply Kd.RD)); exact HO_92.out)) k_ hk⟩)); (case aO => exact (by (with_reducible repeat (first | apply Kd.RA | apply Kd.RN | apply Kd.RD)); exact Kd.R_mono HO_6.out (fun _ hk => ⟨hk.2, hk.1⟩))); (case aS => exact (bZ (by repeat (first | (with_reducible first | exact HB.out | apply bA | apply bD | apply bE | refine bS ?_ GE327.out) | exact HB.out)))); (case aL => have := LMc65.out; omega); intro v362 w68 ho hb hg hat; rw [← Ny361.out] at ho; have n0_ := As.mk (Kd.R_after (ok := (fun k_ => some k_ ≠ (.slice (some ad358) t355.length co57 : Value).ownBlock)) (by (with_reducible repeat (first | apply Kd.RA | apply Kd.RN | apply Kd.RD)); exact Kd.R_mono HO_4.out (fun _ hk => ⟨hk.2, hk.1⟩)) hg hat); have n1_ := As.mk (Kd.R_after (ok := (fun k_ => some k_ ≠ (.slice (some ⟨go64, 0, none⟩) x4_5.length co39 : Value).ownBlock)) (by (with_reducible repeat (first | apply Kd.RA | apply Kd.RN | apply Kd.RD)); exact Kd.R_mono HO_92.out (fun _ hk => ⟨hk.2, hk.1⟩)) hg hat); have n2_ := As.mk (blk_grown (g := gb327) (o := .cells #[.slice (some ad351) l0_0.length c0_0, .slice A0_1 l0_1.length c0_1] 31 (0, 0)) (by (with_reducible repeat (first | refine kD ?_ _ | refine kE ?_ | refine kA ?_ _)); exact BK327.out) hg (Kd.R_ne HO_6.out BK327.out (by decide))); have n3_ := As.mk (hb); have n4_ := As.mk (ho); clear HO_4; clear HO_92; clear BK327; clear HB; clear HO_6; have HO_4 := n0_; have HO_92 := n1_; have BK327 := n2_; have HB := n3_; have HO363 := n4_; clear n0_ n1_ n2_ n3_ n4_; clear ho hb hg hat))
                             (try simp only [← hl4_5])
                             go_roundg k5
                             case measure => have := HK1.out; have := HK2.out; have := HJ35.out; have := HJ44.out; have := HK5.out; omega
                             case rel => exact ⟨(y360), (y361), (wrap64 (x94_5 + 1)), (by first | rfl | (simp; done) | (simp [*]; done)), H', ⟨by have := HK1.out; have := HK2.out; have := HJ35.out; have := HJ44.out; have := HK5.out; omega⟩, ⟨by (try simp only [hl4_5]); (with_reducible repeat (first | apply Kd.RA | apply Kd.RN | apply Kd.RD)); exact Kd.R_mono HO_4.out (fun _ hk => ⟨hk.2, hk.1⟩)⟩, ⟨by (try simp only [hl4_5]); (with_reducible repeat (first | apply Kd.RA | apply Kd.RN | apply Kd.RD)); exact HO363.out⟩, ⟨by (try simp only [hl4_5]); (with_reducible repeat (first | apply Kd.RA | apply Kd.RN | apply Kd.RD)); exact HO_92.out⟩, ⟨by (try simp only [hl4_5]); (with_reducible repeat (first | refine kD ?_ _ | refine kE ?_ | refine kA ?_ _)); exact BK327.out⟩, ⟨by repeat (first | (with_reducible first | exact HB.out | apply bA | apply bD | apply bE | refine bS ?_ GE327.out) | exact HB.out)⟩⟩
                            ·rw [if_neg c65] at H
                             exact absurd H (by simp)
                           ·rw [if_neg c63] at H
                            have c63b0 : decide ((rd x4_5 (rd t355 x94_5)) < 0) = false := decide_eq_false c63
                            clear c63
                            by_cases c69 : (rd x4_5 (rd t355 x94_5)) = x10_35
                            ·rw [if_pos c69] at H
                             have c69b0 : ((rd x4_5 (rd t355 x94_5)) == x10_35) = true := beq_iff_eq.mpr c69
                             have c69b1 : ((rd x4_5 (rd t355 x94_5)) != x10_35) = false := bne_eq_false_iff_eq.mpr c69
                             clear c69
                             have H' := As.mk H
                             clear H
                             have p358 : 0 ≤ (x94_5 : Int) := of_decide_eq_true (by first | (with_reducible assumption) | assumption)
                             have q358 : x94_5 < (t355.length : Int) := of_decide_eq_true (by first | (with_reducible assumption) | assumption)
                             obtain ⟨ad358, e358, hx358_0⟩ := Kd.at_int (Kd.RR HO_92.out).2.2 x94_5 p358 q358
                             cases e358
                             replace p358 := eq_true p358
                             replace q358 := eq_true q358
                             have p359 : 0 ≤ ((rd t355 x94_5) : Int) := of_decide_eq_true (by first | (with_reducible assumption) | assumption)
                             have q359 : (rd t355 x94_5) < (x4_5.length : Int) := of_decide_eq_true (by first | (with_reducible assumption) | assumption)
                             obtain ⟨ad359, e359, hx359_0⟩ := Kd.at_int (Kd.RR HO_4.out).2.2 (rd t355 x94_5) p359 q359
                             obtain rfl : ad350 = ad359 := (by injection e359)
                             replace p359 := eq_true p359
                             replace q359 := eq_true q359
                             have p364 : 0 ≤ ((rd t355 x94_5) : Int) := of_decide_eq_true (by first | (with_reducible assumption) | assumption)
                             have q364 : (rd t355 x94_5) < (x4_5.length : Int) := of_decide_eq_true (by first | (with_reducible assumption) | assumption)
                             obtain ⟨ad364, e364, hx364_0⟩ := Kd.at_int (Kd.RR HO_4.out).2.2 (rd t355 x94_5) p364 q364
                             obtain rfl : ad350 = ad364 := (by injection e364)
                             replace p364 := eq_true p364
                             replace q364 := eq_true q364
                             go_wp2
                             (try simp only [← hl4_5])
                             go_roundg k5
                             case measure => have := HK1.out; have := HK2.out; have := HJ35.out; have := HJ44.out; have := HK5.out; omega
                             case rel => exact ⟨(x4_5), (x6_5), (wrap64 (x94_5 + 1)), (by first | rfl | (simp; done) | (simp [*]; done)), H', ⟨by have := HK1.out; have := HK2.out; have := HJ35.out; have := HJ44.out; have := HK5.out; omega⟩, ⟨by (try simp only [hl4_5]); (with_reducible repeat (first | apply Kd.RA | apply Kd.RN | apply Kd.RD)); exact HO_4.out⟩, ⟨by (try simp only [hl4_5]); (with_reducible repeat (first | apply Kd.RA | apply Kd.RN | apply Kd.RD)); exact HO_6.out⟩, ⟨by (try simp only [hl4_5]); (with_reducible repeat (first | apply Kd.RA | apply Kd.RN | apply Kd.RD)); exact HO_92.out⟩, ⟨by (try simp only [hl4_5]); (with_reducible repeat (first | refine kD ?_ _ | refine kE ?_ | refine kA ?_ _)); exact BK327.out⟩, ⟨by repeat (first | (with_reducible first | exact HB.out | apply bA | apply bD | apply bE | refine bS ?_ GE327.out) | exact HB.out)⟩⟩
                            ·rw [if_neg c69] at H
                             have c69b0 : ((rd x4_5 (rd t355 x94_5)) == x10_35) = false := beq_eq_false_iff_ne.mpr c69
                             have c69b1 : ((rd x4_5 (rd t355 x94_5)) != x10_35) = true := bne_iff_ne.mpr c69
                             simp only [Option.some.injEq, Prod.mk.injEq] at H
                             obtain ⟨rfl, rfl⟩ := H
                             have p358 : 0 ≤ (x94_5 : Int) := of_decide_eq_true (by first | (with_reducible assumption) | assumption)
                             have q358 : x94_5 < (t355.length : Int) := of_decide_eq_true (by first | (with_reducible assumption) | assumption)
                             obtain ⟨ad358, e358, hx358_0⟩ := Kd.at_int (Kd.RR HO_92.out).2.2 x94_5 p358 q358
                             cases e358
                             replace p358 := eq_true p358
                             replace q358 := eq_true q358
                             have p359 : 0 ≤ ((rd t355 x94_5) : Int) := of_decide_eq_true (by first | (with_reducible assumption) | assumption)
                             have q359 : (rd t355 x94_5) < (x4_5.length : Int) := of_decide_eq_true (by first | (with_reducible assumption) | assumption)
                             obtain ⟨ad359, e359, hx359_0⟩ := Kd.at_int (Kd.RR HO_4.out).2.2 (rd t355 x94_5) p359 q359
                             obtain rfl : ad350 = ad359 := (by injection e359)
                             replace p359 := eq_true p359
                             replace q359 := eq_true q359
                             have p364 : 0 ≤ ((rd t355 x94_5) : Int) := of_decide_eq_true (by first | (with_reducible assumption) | assumption)
                             have q364 : (rd t355 x94_5) < (x4_5.length : Int) := of_decide_eq_true (by first | (with_reducible assumption) | assumption)
                             obtain ⟨ad364, e364, hx364_0⟩ := Kd.at_int (Kd.RR HO_4.out).2.2 (rd t355 x94_5) p364 q364
                             obtain rfl : ad350 = ad364 := (by injection e364)
                             replace p364 := eq_true p364
                             replace q364 := eq_true q364
                             go_wp2
                             go_ret2
                             exact ⟨_, by first | rfl | (simp [eN, eS] <;> rfl) | (simp only [← hji4, ← hji29]; first | rfl | (simp [eN, eS] <;> rfl)) | (simp [*, eN, eS] <;> rfl), by first | exact Kd.R_nil _ _ _ _ _ | exact Kd.N_nil _ _ _ _ _ | exact Kd.V_nil _ _ _ _ _ | exact Kd.Q_nil _ _ _ _ _ | exact Kd.S_nil _ _ _ _ _, by repeat (first | (with_reducible first | exact HB.out | apply bA | apply bD | apply bE | refine bS ?_ GE327.out) | exact HB.out)⟩
                          ·rw [if_neg c62] at H
                           exact absurd H (by simp)
                         ·rw [if_neg c61] at H
                          exact absurd H (by simp)
                        ·rw [if_neg c60] at H
                         exact absurd H (by simp)
                       ·rw [if_neg c59] at H
                        exact absurd H (by simp)
                      ·rw [if_neg c58] at H
                       have c58b0 : decide (x94_5 < (t355.length : Int)) = false := decide_eq_false c58
                       clear c58
                       have H' := As.mk H
                       clear H
                       go_wp2
                       (try simp only [← hl4_5])
                       go_roundg k5
                       case measure => have := HK1.out; have := HK2.out; have := HJ35.out; have := HJ44.out; have := HK5.out; omega
                       case rel => exact ⟨(x4_5), (x6_5), H', ⟨by have := HK1.out; have := HK2.out; have := HJ35.out; have := HJ44.out; have := HK5.out; omega⟩, ⟨by (try simp only [hl4_5]); (with_reducible repeat (first | apply Kd.RA | apply Kd.RN | apply Kd.RD)); exact Kd.R_mono HO_4.out (fun _ hk => hk.1)⟩, ⟨by (try simp only [hl4_5]); (with_reducible repeat (first | apply Kd.RA | apply Kd.RN | apply Kd.RD)); exact Kd.R_mono HO_6.out (fun _ hk => hk.1)⟩, ⟨by (try simp only [hl4_5]); (with_reducible repeat (first | refine kD ?_ _ | refine kE ?_ | refine kA ?_ _)); exact BK327.out⟩, ⟨by repeat (first | (with_reducible first | exact HB.out | apply bA | apply bD | apply bE | refine bS ?_ GE327.out) | exact HB.out)⟩⟩
              ·rw [if_neg c35] at H
               exact absurd H (by simp)
             ·rw [if_neg c34] at H
              exact absurd H (by simp)
            ·rw [if_neg c33] at H
             exact absurd H (by simp)
           ·rw [if_neg c32] at H
            exact absurd H (by simp)
          ·rw [if_neg c31] at H
           exact absurd H (by simp)
         ·rw [if_neg c30] at H
          exact absurd H (by simp)
        ·rw [if_neg c28] at H
         have c28b0 : decide (0 < (x6_2.length : Int)) = false := decide_eq_false c28
         have c28b1 : decide (0 < x6_2.length) = false := decide_eq_false (by omega)
         clear c28
         simp only [Option.some.injEq, Prod.mk.injEq] at H
         obtain ⟨rfl, rfl⟩ := H
         obtain ⟨Ao70, co70, eo70⟩ := Kd.R_slice HO_6.out
         subst eo70
         go_wp2
         go_ret2
         exact ⟨_, by first | rfl | (simp [eN, eS] <;> rfl) | (simp only [← hji4]; first | rfl | (simp [eN, eS] <;> rfl)) | (simp [*, eN, eS] <;> rfl), by (with_reducible repeat (first | apply Kd.RA | apply Kd.RN | apply Kd.RD)); exact Kd.R_mono HO_4.out (fun _ hk => trivial), by repeat (first | (with_reducible first | exact HB.out | apply bA | apply bD | apply bE | refine bS ?_ GE327.out) | exact HB.out)⟩
  ·rw [if_neg c6] at H
   exact absurd H (by simp)
 ·rw [if_neg c5] at H
  exact absurd H (by simp)
end Go.Proofs.Ytbamjjaamjfnaaa.PFnExactNewMatcher
