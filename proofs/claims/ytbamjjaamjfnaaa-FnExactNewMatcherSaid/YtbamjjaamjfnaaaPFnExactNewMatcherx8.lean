/- Walks of printed functions. Conditions: none beyond each statement. -/
import Derived.Test.YtbamjjaamjfnaaaPFnExactNewMatcherx0
import Derived.Test.YtbamjjaamjfnaaaPFnExactNewMatcherx7
namespace Go.Proofs.Ytbamjjaamjfnaaa.PFnExactNewMatcher
open Go.RowKit Go.Proofs.YtbamjjaamjfnaaaW.PrintWords Go.Proofs.YtbamjjaamjfnaaaW.PrintLast Go.Proofs.YtbamjjaamjfnaaaW.PrintMore
set_option maxHeartbeats 8000000
set_option maxRecDepth 100000
attribute [local go_sem] max2_int min2_int max_two min_two max_three min_three max_four min_four   -- for this text's walks alone
set_option linter.unusedVariables false
set_option linter.unusedSimpArgs false
mutual
def F3.l0 : Nat → List Int → Int → List (S80) → List (S77) → Option (List Int × Bool)
 | 0, _, _, _, _ => none
 | k + 1, x4, x5, x224000, x224001 => if x5 < (x224000.length : Int) then (if x4.length < 17592186044416 then (F3.l0 k (x4 ++ [(-1)]) (wrap64 (x5 + 1)) x224000 x224001) else (none)) else (if 0 < (x4.length : Int) then (F3.l1 k (x4.set (0 : Int).toNat 0) (([0] : List Int)) 0 x224000 x224001) else (none))
def F3.l1 : Nat → List Int → List Int → Int → List (S80) → List (S77) → Option (List Int × Bool)
 | 0, _, _, _, _, _ => none
 | k + 1, x4, x6, x7, x224000, x224001 => if x7 < (x224001.length : Int) then (if 0 ≤ x7 then (if 0 ≤ ((rd_T77 x224001 x7).f1) then (if ((rd_T77 x224001 x7).f1) < (x4.length : Int) then (if x6.length < 17592186044416 then (F3.l1 k (x4.set (((rd_T77 x224001 x7).f1) : Int).toNat 0) (x6 ++ [(rd_T77 x224001 x7).f1]) (wrap64 (x7 + 1)) x224000 x224001) else (none)) else (none)) else (none)) else (none)) else (F3.l2 k x4 x6 x224000 x224001)
def F3.l2 : Nat → List Int → List Int → List (S80) → List (S77) → Option (List Int × Bool)
 | 0, _, _, _, _ => none
 | k + 1, x4, x6, x224000, x224001 => if (x6.length : Int) > 0 then (if 0 ≤ (wrap64 ((x6.length : Int) - 1)) then (if (wrap64 ((x6.length : Int) - 1)) < (x6.length : Int) then (if (wrap64 ((x6.length : Int) - 1)) ≤ (x6.length : Int) then ((some (x6.take ((wrap64 ((x6.length : Int) - 1)) : Int).toNat : List Int)).bind fun y241 => (if 0 ≤ (rd x6 (wrap64 ((x6.length : Int) - 1))) then (if (rd x6 (wrap64 ((x6.length : Int) - 1))) < (x224000.length : Int) then (if (rd x6 (wrap64 ((x6.length : Int) - 1))) < (x4.length : Int) then (if ((rd_T80 x224000 (rd x6 (wrap64 ((x6.length : Int) - 1)))).f0) = 34 then (F3.j5 k x4 y241 (rd x6 (wrap64 ((x6.length : Int) - 1))) (wrap64 ((rd x4 (rd x6 (wrap64 ((x6.length : Int) - 1)))) + 1)) x224000 x224001 ((rd_T80 x224000 (rd x6 (wrap64 ((x6.length : Int) - 1)))).f0) ((rd_T80 x224000 (rd x6 (wrap64 ((x6.length : Int) - 1)))).f1) ((rd_T80 x224000 (rd x6 (wrap64 ((x6.length : Int) - 1)))).f2)) else (if ((rd_T80 x224000 (rd x6 (wrap64 ((x6.length : Int) - 1)))).f0) = 35 then (F3.j3 k x4 y241 (rd x6 (wrap64 ((x6.length : Int) - 1))) (rd x4 (rd x6 (wrap64 ((x6.length : Int) - 1)))) ((rd_T80 x224000 (rd x6 (wrap64 ((x6.length : Int) - 1)))).f0) (((rd_T80 x224000 (rd x6 (wrap64 ((x6.length : Int) - 1)))).f0) == 35) x224000 x224001 ((rd_T80 x224000 (rd x6 (wrap64 ((x6.length : Int) - 1)))).f0) ((rd_T80 x224000 (rd x6 (wrap64 ((x6.length : Int) - 1)))).f1) ((rd_T80 x224000 (rd x6 (wrap64 ((x6.length : Int) - 1)))).f2)) else (if ((rd_T80 x224000 (rd x6 (wrap64 ((x6.length : Int) - 1)))).f0) = 36 then (F3.j3 k x4 y241 (rd x6 (wrap64 ((x6.length : Int) - 1))) (rd x4 (rd x6 (wrap64 ((x6.length : Int) - 1)))) ((rd_T80 x224000 (rd x6 (wrap64 ((x6.length : Int) - 1)))).f0) (((rd_T80 x224000 (rd x6 (wrap64 ((x6.length : Int) - 1)))).f0) == 36) x224000 x224001 ((rd_T80 x224000 (rd x6 (wrap64 ((x6.length : Int) - 1)))).f0) ((rd_T80 x224000 (rd x6 (wrap64 ((x6.length : Int) - 1)))).f1) ((rd_T80 x224000 (rd x6 (wrap64 ((x6.length : Int) - 1)))).f2)) else (F3.j3 k x4 y241 (rd x6 (wrap64 ((x6.length : Int) - 1))) (rd x4 (rd x6 (wrap64 ((x6.length : Int) - 1)))) ((rd_T80 x224000 (rd x6 (wrap64 ((x6.length : Int) - 1)))).f0) (((rd_T80 x224000 (rd x6 (wrap64 ((x6.length : Int) - 1)))).f0) == 37) x224000 x224001 ((rd_T80 x224000 (rd x6 (wrap64 ((x6.length : Int) - 1)))).f0) ((rd_T80 x224000 (rd x6 (wrap64 ((x6.length : Int) - 1)))).f1) ((rd_T80 x224000 (rd x6 (wrap64 ((x6.length : Int) - 1)))).f2))))) else (none)) else (none)) else (none))) else (none)) else (none)) else (none)) else (some (x4, true))
def F3.j5 : Nat → List Int → List Int → Int → Int → List (S80) → List (S77) → Int → Int → ByteArray → Option (List Int × Bool)
 | 0, _, _, _, _, _, _, _, _, _ => none
 | k + 1, x4, x6, x8, x10, x224000, x224001, x246000, x246001, x246002 => if x10 < 0 then (some (([] : List Int), false)) else ((F22.f k x246000 x246001 x246002 x8).bind fun t247 => (F3.l3 k x4 x6 x10 t247 0 x224000 x224001))
def F3.l3 : Nat → List Int → List Int → Int → List Int → Int → List (S80) → List (S77) → Option (List Int × Bool)
 | 0, _, _, _, _, _, _, _ => none
 | k + 1, x4, x6, x10, x11, x12, x224000, x224001 => if x12 < (x11.length : Int) then (if 0 ≤ x12 then (if 0 ≤ (rd x11 x12) then (if (rd x11 x12) < (x4.length : Int) then (if (rd x4 (rd x11 x12)) = (-1) then (if x6.length < 17592186044416 then (F3.l3 k (x4.set ((rd x11 x12) : Int).toNat x10) (x6 ++ [rd x11 x12]) x10 x11 (wrap64 (x12 + 1)) x224000 x224001) else (none)) else (if (rd x4 (rd x11 x12)) = x10 then (F3.l3 k x4 x6 x10 x11 (wrap64 (x12 + 1)) x224000 x224001) else (some (([] : List Int), false)))) else (none)) else (none)) else (none)) else (F3.l2 k x4 x6 x224000 x224001)
def F3.j3 : Nat → List Int → List Int → Int → Int → Int → Bool → List (S80) → List (S77) → Int → Int → ByteArray → Option (List Int × Bool)
 | 0, _, _, _, _, _, _, _, _, _, _, _ => none
 | k + 1, x4, x6, x8, x10, x75, x80, x224000, x224001, x246000, x246001, x246002 => if x80 = true then (F3.j5 k x4 x6 x8 (wrap64 (x10 - 1)) x224000 x224001 x246000 x246001 x246002) else (if x75 = 39 then (F3.j4 k x4 x6 x8 x10 (x75 == 39) x224000 x224001 x246000 x246001 x246002) else (F3.j4 k x4 x6 x8 x10 (x75 == 38) x224000 x224001 x246000 x246001 x246002))
def F3.j4 : Nat → List Int → List Int → Int → Int → Bool → List (S80) → List (S77) → Int → Int → ByteArray → Option (List Int × Bool)
 | 0, _, _, _, _, _, _, _, _, _, _ => none
 | k + 1, x4, x6, x8, x10, x86, x224000, x224001, x246000, x246001, x246002 => if x86 = true then (if x10 = 0 then (F3.j5 k x4 x6 x8 x10 x224000 x224001 x246000 x246001 x246002) else (some (([] : List Int), false))) else (F3.j5 k x4 x6 x8 x10 x224000 x224001 x246000 x246001 x246002)
end
def F3.f (k : Nat) (l0_0 : List (S80)) (l0_1 : List (S77)) : Option (List Int × Bool) := F3.l0 k (([] : List Int)) 0 l0_0 l0_1
theorem F3.mono_l : ∀ k, (∀ y0 y1 y2 y3, LeO (F3.l0 k y0 y1 y2 y3) (F3.l0 (k + 1) y0 y1 y2 y3)) ∧ (∀ y0 y1 y2 y3 y4, LeO (F3.l1 k y0 y1 y2 y3 y4) (F3.l1 (k + 1) y0 y1 y2 y3 y4)) ∧ (∀ y0 y1 y2 y3, LeO (F3.l2 k y0 y1 y2 y3) (F3.l2 (k + 1) y0 y1 y2 y3)) ∧ (∀ y0 y1 y2 y3 y4 y5 y6 y7 y8, LeO (F3.j5 k y0 y1 y2 y3 y4 y5 y6 y7 y8) (F3.j5 (k + 1) y0 y1 y2 y3 y4 y5 y6 y7 y8)) ∧ (∀ y0 y1 y2 y3 y4 y5 y6, LeO (F3.l3 k y0 y1 y2 y3 y4 y5 y6) (F3.l3 (k + 1) y0 y1 y2 y3 y4 y5 y6)) ∧ (∀ y0 y1 y2 y3 y4 y5 y6 y7 y8 y9 y10, LeO (F3.j3 k y0 y1 y2 y3 y4 y5 y6 y7 y8 y9 y10) (F3.j3 (k + 1) y0 y1 y2 y3 y4 y5 y6 y7 y8 y9 y10)) ∧ (∀ y0 y1 y2 y3 y4 y5 y6 y7 y8 y9, LeO (F3.j4 k y0 y1 y2 y3 y4 y5 y6 y7 y8 y9) (F3.j4 (k + 1) y0 y1 y2 y3 y4 y5 y6 y7 y8 y9))
 | 0 => ⟨fun _ _ _ _ r h => by simp [F3.l0] at h, fun _ _ _ _ _ r h => by simp [F3.l1] at h, fun _ _ _ _ r h => by simp [F3.l2] at h, fun _ _ _ _ _ _ _ _ _ r h => by simp [F3.j5] at h, fun _ _ _ _ _ _ _ r h => by simp [F3.l3] at h, fun _ _ _ _ _ _ _ _ _ _ _ r h => by simp [F3.j3] at h, fun _ _ _ _ _ _ _ _ _ _ r h => by simp [F3.j4] at h⟩
 | k + 1 => by
  obtain ⟨ih0, ih1, ih2, ih3, ih4, ih5, ih6⟩ := F3.mono_l k
  refine ⟨?_, ?_, ?_, ?_, ?_, ?_, ?_⟩
  ·intro y0 y1 y2 y3
   unfold F3.l0
   repeat' with_reducible first
   | exact ih0 _ _ _ _
   | exact ih1 _ _ _ _ _
   | exact ih2 _ _ _ _
   | exact ih3 _ _ _ _ _ _ _ _ _
   | exact ih4 _ _ _ _ _ _ _
   | exact ih5 _ _ _ _ _ _ _ _ _ _ _
   | exact ih6 _ _ _ _ _ _ _ _ _ _
   | exact F22.mono _ _ _ _ _
   | exact LeO.refl _
   | exact LeO.none _
   | refine LeO.ite ?_ ?_
   | refine LeO.bind ?_ (fun _ => ?_)
  ·intro y0 y1 y2 y3 y4
   unfold F3.l1
   repeat' with_reducible first
   | exact ih0 _ _ _ _
   | exact ih1 _ _ _ _ _
   | exact ih2 _ _ _ _
   | exact ih3 _ _ _ _ _ _ _ _ _
   | exact ih4 _ _ _ _ _ _ _
   | exact ih5 _ _ _ _ _ _ _ _ _ _ _
   | exact ih6 _ _ _ _ _ _ _ _ _ _
   | exact F22.mono _ _ _ _ _
   | exact LeO.refl _
   | exact LeO.none _
   | refine LeO.ite ?_ ?_
   | refine LeO.bind ?_ (fun _ => ?_)
  ·intro y0 y1 y2 y3
   unfold F3.l2
   repeat' with_reducible first
   | exact ih0 _ _ _ _
   | exact ih1 _ _ _ _ _
   | exact ih2 _ _ _ _
   | exact ih3 _ _ _ _ _ _ _ _ _
   | exact ih4 _ _ _ _ _ _ _
   | exact ih5 _ _ _ _ _ _ _ _ _ _ _
   | exact ih6 _ _ _ _ _ _ _ _ _ _
   | exact F22.mono _ _ _ _ _
   | exact LeO.refl _
   | exact LeO.none _
   | refine LeO.ite ?_ ?_
   | refine LeO.bind ?_ (fun _ => ?_)
  ·intro y0 y1 y2 y3 y4 y5 y6 y7 y8
   unfold F3.j5
   repeat' with_reducible first
   | exact ih0 _ _ _ _
   | exact ih1 _ _ _ _ _
   | exact ih2 _ _ _ _
   | exact ih3 _ _ _ _ _ _ _ _ _
   | exact ih4 _ _ _ _ _ _ _
   | exact ih5 _ _ _ _ _ _ _ _ _ _ _
   | exact ih6 _ _ _ _ _ _ _ _ _ _
   | exact F22.mono _ _ _ _ _
   | exact LeO.refl _
   | exact LeO.none _
   | refine LeO.ite ?_ ?_
   | refine LeO.bind ?_ (fun _ => ?_)
  ·intro y0 y1 y2 y3 y4 y5 y6
   unfold F3.l3
   repeat' with_reducible first
   | exact ih0 _ _ _ _
   | exact ih1 _ _ _ _ _
   | exact ih2 _ _ _ _
   | exact ih3 _ _ _ _ _ _ _ _ _
   | exact ih4 _ _ _ _ _ _ _
   | exact ih5 _ _ _ _ _ _ _ _ _ _ _
   | exact ih6 _ _ _ _ _ _ _ _ _ _
   | exact F22.mono _ _ _ _ _
   | exact LeO.refl _
   | exact LeO.none _
   | refine LeO.ite ?_ ?_
   | refine LeO.bind ?_ (fun _ => ?_)
  ·intro y0 y1 y2 y3 y4 y5 y6 y7 y8 y9 y10
   unfold F3.j3
   repeat' with_reducible first
   | exact ih0 _ _ _ _
   | exact ih1 _ _ _ _ _
   | exact ih2 _ _ _ _
   | exact ih3 _ _ _ _ _ _ _ _ _
   | exact ih4 _ _ _ _ _ _ _
   | exact ih5 _ _ _ _ _ _ _ _ _ _ _
   | exact ih6 _ _ _ _ _ _ _ _ _ _
   | exact F22.mono _ _ _ _ _
   | exact LeO.refl _
   | exact LeO.none _
   | refine LeO.ite ?_ ?_
   | refine LeO.bind ?_ (fun _ => ?_)
  ·intro y0 y1 y2 y3 y4 y5 y6 y7 y8 y9
   unfold F3.j4
   repeat' with_reducible first
   | exact ih0 _ _ _ _
   | exact ih1 _ _ _ _ _
   | exact ih2 _ _ _ _
   | exact ih3 _ _ _ _ _ _ _ _ _
   | exact ih4 _ _ _ _ _ _ _
   | exact ih5 _ _ _ _ _ _ _ _ _ _ _
   | exact ih6 _ _ _ _ _ _ _ _ _ _
   | exact F22.mono _ _ _ _ _
   | exact LeO.refl _
   | exact LeO.none _
   | refine LeO.ite ?_ ?_
   | refine LeO.bind ?_ (fun _ => ?_)
theorem F3.mono : ∀ a0 a1 k, LeO (F3.f k a0 a1) (F3.f (k + 1) a0 a1) := by
 intro a0 a1 k
 obtain ⟨ih0, ih1, ih2, ih3, ih4, ih5, ih6⟩ := F3.mono_l k
 unfold F3.f
 repeat' with_reducible first
   | exact ih0 _ _ _ _
   | exact ih1 _ _ _ _ _
   | exact ih2 _ _ _ _
   | exact ih3 _ _ _ _ _ _ _ _ _
   | exact ih4 _ _ _ _ _ _ _
   | exact ih5 _ _ _ _ _ _ _ _ _ _ _
   | exact ih6 _ _ _ _ _ _ _ _ _ _
   | exact F22.mono _ _ _ _ _
   | exact LeO.refl _
   | exact LeO.none _
   | refine LeO.ite ?_ ?_
   | refine LeO.bind ?_ (fun _ => ?_)
theorem F3.calls (k : Nat) (A0_0 : Option Addr) (c0_0 : Nat) (l0_0 : List (S80)) (A0_1 : Option Addr) (c0_1 : Nat) (l0_1 : List (S77)) (r1 : List Int) (r2 : Bool) (w : World) (hr0_0 : Kd.C k80 w A0_0 l0_0.length l0_0) (hc0_0 : l0_0.length ≤ c0_0) (hr0_1 : Kd.C k77 w A0_1 l0_1.length l0_1) (hc0_1 : l0_1.length ≤ c0_1) (h : F3.f k l0_0 l0_1 = some (r1, r2)) :
  Calls Try.prog 25 #[.agg #[.slice A0_0 l0_0.length c0_0, .slice A0_1 l0_1.length c0_1]] w fun e w' => ∃ v0_ : Value, e = .returned (.tuple #[v0_, .bool r2]) ∧ Kd.R (Kd.int .i64) 2 w' w.heap.size (fun _ => True) v0_ r1 ∧ Below w.heap.size w w' := by
 have hu31 := Try.underlying31
 have hu80 := Try.underlying80
 have HR0_0 := As.mk hr0_0
 have HC0_0 := As.mk hc0_0
 clear hr0_0 hc0_0
 have HR0_1 := As.mk hr0_1
 have HC0_1 := As.mk hc0_1
 clear hr0_1 hc0_1
 have HB := As.mk (Below.refl w.heap.size w)
 have H : (F3.l0 k (([] : List Int)) 0 l0_0 l0_1) = some (r1, r2) := h
 clear h
 obtain ⟨y224, hy224⟩ : ∃ y_ : List Int, y_ = (([] : List Int)) := ⟨_, rfl⟩
 replace H : (F3.l0 k y224 0 l0_0 l0_1) = some (r1, r2) := by first | (rw [hy224]; with_reducible exact H) | (have H2_ := (Option.bind_some _ _).symm.trans H; rw [hy224]; with_reducible exact H2_) | (have H2_ := (Option.bind_some _ _).symm.trans H; with_reducible exact H2_) | with_reducible exact H | (rw [hy224]; exact H) | exact H
 have Ny224 := As.mk hy224
 clear hy224
 have H' := As.mk H
 clear H
 go_enter Try.func25, Try.ntmps25
 go_wp2_with (first | ((with_reducible refine gD (N := 1) rfl ?_); refine bX ?hg (N := 1) ?hd (cs := #[.slice A0_0 l0_0.length c0_0, .slice A0_1 l0_1.length c0_1]) (t := 31) ?hr ?_; (case hd => rfl); (case hg => rfl); (case hr => first | (go_simp; done) | (go_simp; rfl)); intro gb223 hg w2 hbox hb; have BK223 := As.mk (hbox); have GW223 := As.mk ((by rw [hg]; exact (bZ (by repeat (first | (with_reducible first | exact HB.out | apply bA | apply bD | apply bE) | exact HB.out))) : w.heap.size ≤ gb223)); have GE223 := GW223; replace HB := As.mk (bT (by repeat (first | (with_reducible first | exact HB.out | apply bA | apply bD | apply bE) | exact HB.out)) hb); clear hb hbox hg) | ((with_reducible refine gD (N := 13) rfl ?_); refine Kd.R_lit (Kd.int .i64) _ 2 ?hg (N := 13) ?hd (xs := ([] : List Int)) (inner := []) (ok := fun _ => True) (okp := fun _ => True) ?hr ?hp (fun _ hk => hk) trivial (Below.refl _ _) (Nat.le_refl _) (by simp) ?_; (case hd => rfl); (case hg => rfl); (case hr => first | (go_simp; done) | (go_simp; rfl)); (case hp => exact (Reps.none _ _)); intro v225 w3 ho4 hb hg_ hnew_; clear hg_ hnew_; (first | rw [← Ny224.out] at ho4 | (simp only [Int.reduceToNat] at ho4; rw [← Ny224.out] at ho4)); have HO226 := As.mk (Kd.R_lower ho4 (bZ (by repeat (first | (with_reducible first | exact HB.out | apply bA | apply bD | apply bE | refine bS ?_ GE223.out) | exact HB.out)))); replace BK223 := As.mk (kB (g := gb223) (o := .cells #[.slice A0_0 l0_0.length c0_0, .slice A0_1 l0_1.length c0_1] 31 (0, 0)) (by (with_reducible repeat (first | refine kD ?_ _ | refine kE ?_ | refine kA ?_ _)); exact BK223.out) hb); replace HB := As.mk (bT (by repeat (first | (with_reducible first | exact HB.out | apply bA | apply bD | apply bE | refine bS ?_ GE223.out) | exact HB.out)) hb); clear hb ho4))
 go_loopg [4, 5] k (fun kq v4 v5 w' => ∃ (x4_1 : List Int) (x5_1 : Int), v5 = .int .i64 x5_1 ∧ As (F3.l0 kq x4_1 x5_1 l0_0 l0_1 = some (r1, r2)) ∧ As (kq ≤ k) ∧ As (Kd.R (Kd.int .i64) 2 w' w.heap.size (fun _ => True) v4 x4_1) ∧ As (w'.heap[gb223]? = some (.cells #[(.slice A0_0 l0_0.length c0_0), (.slice A0_1 l0_1.length c0_1)] 31 (0, 0))) ∧ As (Below w.heap.size w w'))
 case atStart => exact ⟨(y224), (0), (by first | rfl | (simp; done) | (simp [*]; done)), H', ⟨Nat.le_refl _⟩, ⟨by (with_reducible repeat (first | apply Kd.RA | apply Kd.RN | apply Kd.RD)); exact HO226.out⟩, ⟨by (with_reducible repeat (first | refine kD ?_ _ | refine kE ?_ | refine kA ?_ _)); exact BK223.out⟩, ⟨by repeat (first | (with_reducible first | exact HB.out | apply bA | apply bD | apply bE | refine bS ?_ GE223.out) | exact HB.out)⟩⟩
 case round =>
  clear H'
  obtain ⟨x4_1, x5_1, rfl, HA, HK1, HO_4, BK223, HB⟩ := hrel
  cases gk with
  | zero => exact absurd HA.out (by simp [F3.l0])
  | succ k1 =>
   have H := HA.out
   clear HA
   simp only [F3.l0] at H
   by_cases c5 : x5_1 < (l0_0.length : Int)
   ·rw [if_pos c5] at H
    have c5b0 : decide (x5_1 < (l0_0.length : Int)) = true := decide_eq_true c5
    clear c5
    by_cases c6 : x4_1.length < 17592186044416
    ·rw [if_pos c6] at H
     have LMc6 := As.mk c6
     clear c6
     obtain ⟨y227, hy227⟩ : ∃ y_ : List Int, y_ = (x4_1 ++ [(-1)]) := ⟨_, rfl⟩
     replace H : (F3.l0 k1 y227 (wrap64 (x5_1 + 1)) l0_0 l0_1) = some (r1, r2) := by first | (rw [hy227]; with_reducible exact H) | (have H2_ := (Option.bind_some _ _).symm.trans H; rw [hy227]; with_reducible exact H2_) | (have H2_ := (Option.bind_some _ _).symm.trans H; with_reducible exact H2_) | with_reducible exact H | (rw [hy227]; exact H) | exact H
     have Ny227 := As.mk hy227
     clear hy227
     have H' := As.mk H
     clear H
     have cz_ := c2_0 (w := wr) (g := gb223) BK223.out; obtain ⟨hcz7_0, hcz7_1⟩ := cz_
     have hfz7 := kF BK223.out
     go_wp2_with (first | ((with_reducible refine gB (b := .append) (xs := #[.tmp 21, .tmp 22]) rfl ?_); at_builtin; refine Kd.R_append (Kd.int .i64) (w0 := w) w.heap.size rfl (.tmp 21) (.tmp 22) 35 2 (.int .i64 0) 8 rfl Try.underlying35 info2 rfl (by decide) (by omega) u4 x4_1 (-1) [.int .i64 (-1)] (fun _ => True) (fun _ => False) rfl rfl ?aP (fun _ hk => hk.elim) ?aF ?aO ?aB ?aS ?aL ?_; (case aP => exact rfl); (case aB => exact (by repeat (first | (with_reducible first | exact HB.out | apply bA | apply bD | apply bE | refine bS ?_ GE223.out) | exact HB.out))); (case aF => exact (fun _ _ => trivial)); (case aO => exact (by (with_reducible repeat (first | apply Kd.RA | apply Kd.RN | apply Kd.RD)); exact HO_4.out)); (case aS => exact (bZ (by repeat (first | (with_reducible first | exact HB.out | apply bA | apply bD | apply bE | refine bS ?_ GE223.out) | exact HB.out)))); (case aL => have := LMc6.out; omega); intro v228 w8 ho hb hg hat; rw [← Ny227.out] at ho; have n0_ := As.mk (blk_grown (g := gb223) (o := .cells #[.slice A0_0 l0_0.length c0_0, .slice A0_1 l0_1.length c0_1] 31 (0, 0)) (by (with_reducible repeat (first | refine kD ?_ _ | refine kE ?_ | refine kA ?_ _)); exact BK223.out) hg (Kd.R_ne HO_4.out BK223.out (by decide))); have n1_ := As.mk (hb); have n2_ := As.mk (ho); clear BK223; clear HB; clear HO_4; have BK223 := n0_; have HB := n1_; have HO229 := n2_; clear n0_ n1_ n2_; clear ho hb hg hat))
     go_roundg k1
     case measure => have := HK1.out; omega
     case rel => exact ⟨(y227), (wrap64 (x5_1 + 1)), (by first | rfl | (simp; done) | (simp [*]; done)), H', ⟨by have := HK1.out; omega⟩, ⟨by (with_reducible repeat (first | apply Kd.RA | apply Kd.RN | apply Kd.RD)); exact HO229.out⟩, ⟨by (with_reducible repeat (first | refine kD ?_ _ | refine kE ?_ | refine kA ?_ _)); exact BK223.out⟩, ⟨by repeat (first | (with_reducible first | exact HB.out | apply bA | apply bD | apply bE | refine bS ?_ GE223.out) | exact HB.out)⟩⟩
    ·rw [if_neg c6] at H
     exact absurd H (by simp)
   ·rw [if_neg c5] at H
    have c5b0 : decide (x5_1 < (l0_0.length : Int)) = false := decide_eq_false c5
    clear c5
    obtain ⟨y230, hy230⟩ : ∃ y_ : List Int, y_ = (([0] : List Int)) := ⟨_, rfl⟩
    replace H : (if 0 < (x4_1.length : Int) then (F3.l1 k1 (x4_1.set (0 : Int).toNat 0) y230 0 l0_0 l0_1) else (none)) = some (r1, r2) := by first | (rw [hy230]; with_reducible exact H) | (have H2_ := (Option.bind_some _ _).symm.trans H; rw [hy230]; with_reducible exact H2_) | (have H2_ := (Option.bind_some _ _).symm.trans H; with_reducible exact H2_) | with_reducible exact H | (rw [hy230]; exact H) | exact H
    have Ny230 := As.mk hy230
    clear hy230
    by_cases c9 : 0 < (x4_1.length : Int)
    ·rw [if_pos c9] at H
     have c9b0 : decide (0 < (x4_1.length : Int)) = true := decide_eq_true c9
     have c9b1 : decide (0 < x4_1.length) = true := decide_eq_true (by omega)
     clear c9
     obtain ⟨y233, hy233⟩ : ∃ y_ : List Int, y_ = (x4_1.set (0 : Int).toNat 0) := ⟨_, rfl⟩
     replace H : (F3.l1 k1 y233 y230 0 l0_0 l0_1) = some (r1, r2) := by first | (rw [hy233]; with_reducible exact H) | (have H2_ := (Option.bind_some _ _).symm.trans H; rw [hy233]; with_reducible exact H2_) | (have H2_ := (Option.bind_some _ _).symm.trans H; with_reducible exact H2_) | with_reducible exact H | (rw [hy233]; exact H) | exact H
     have Ny233 := As.mk hy233
     clear hy233
     have H' := As.mk H
     clear H
     have cz_ := c2_0 (w := wr) (g := gb223) BK223.out; obtain ⟨hcz11_0, hcz11_1⟩ := cz_
     have hfz11 := kF BK223.out
     go_wp2_with (first | ((with_reducible refine gD (N := 24) rfl ?_); refine Kd.R_lit (Kd.int .i64) _ 2 ?hg (N := 24) ?hd (xs := ([0] : List Int)) (inner := [.int .i64 0]) (ok := fun _ => True) (okp := fun _ => True) ?hr ?hp (fun _ hk => hk) trivial (Below.refl _ _) (Nat.le_refl _) (by simp) ?_; (case hd => rfl); (case hg => rfl); (case hr => first | (go_simp; done) | (go_simp; rfl)); (case hp => exact (Reps.one (show Kd.M (Kd.int .i64) _ _ _ 0 [.int .i64 0] from rfl) (Reps.none _ _))); intro v231 w12 ho13 hb hg_ hnew_; clear hg_ hnew_; (first | rw [← Ny230.out] at ho13 | (simp only [Int.reduceToNat] at ho13; rw [← Ny230.out] at ho13)); have HO232 := As.mk (Kd.R_lower (Kd.R_new' ho13 (Kd.R_lt (by (with_reducible repeat (first | apply Kd.RA | apply Kd.RN | apply Kd.RD)); exact HO_4.out))) (bZ (by repeat (first | (with_reducible first | exact HB.out | apply bA | apply bD | apply bE | refine bS ?_ GE223.out) | exact HB.out)))); replace HO_4 := As.mk (Kd.R_elder' (by (with_reducible repeat (first | apply Kd.RA | apply Kd.RN | apply Kd.RD)); exact HO_4.out) (Kd.R_base ho13) hb); replace BK223 := As.mk (kB (g := gb223) (o := .cells #[.slice A0_0 l0_0.length c0_0, .slice A0_1 l0_1.length c0_1] 31 (0, 0)) (by (with_reducible repeat (first | refine kD ?_ _ | refine kE ?_ | refine kA ?_ _)); exact BK223.out) hb); replace HB := As.mk (bT (by repeat (first | (with_reducible first | exact HB.out | apply bA | apply bD | apply bE | refine bS ?_ GE223.out) | exact HB.out)) hb); clear hb ho13; have p10 : 0 ≤ (0 : Int) := (by omega); have q10 : (0 : Int) < ((x4_1.length : Int) : Int) := of_decide_eq_true (by first | (with_reducible assumption) | assumption); have qi10 : (0 < x4_1.length) = True := eq_true (by omega); obtain ⟨go10, co10, eo10, gb10, gl10, cl10, HG10⟩ := Kd.R_form HO_4.out (by omega); (first | cases eo10 | (injection eo10 with ea_ en_ ec_; (first | subst ea_ | (injection ea_ with ea_; subst ea_)); subst ec_; clear en_)); have GB10 := As.mk gb10; have GG10 := As.mk HG10; clear gb10 gl10 HG10; obtain ⟨hx10_0, hf10_0⟩ := Kd.R_celln 0 HO_4.out (0 : Int) p10 q10; (try rw [show ((0 : Int)).toNat = 0 from rfl] at hx10_0); (try simp only [Nat.reduceMul, Nat.zero_mul, Nat.zero_add, Nat.reduceAdd] at hx10_0); (try rw [show ((0 : Int)).toNat = 0 from rfl] at hf10_0); (try simp only [Nat.reduceMul, Nat.zero_mul, Nat.zero_add, Nat.reduceAdd] at hf10_0); replace p10 := eq_true p10; replace q10 := eq_true q10; have n_ := As.mk (Kd.R_mono (ok' := (fun k_ => some k_ ≠ (v231 : Value).ownBlock)) HO_4.out (fun k_ hk => hk.2)); clear HO_4; have HO_4 := n_; clear n_; obtain ⟨hy14_, hz14_⟩ := Kd.R_celln 0 HO_4.out (0 : Int) (by omega) (of_decide_eq_true (by first | (with_reducible assumption) | assumption)); (try simp only [Int.reduceToNat, Int.toNat_zero, Int.toNat_ofNat, Nat.reduceMul, Nat.zero_mul, Nat.zero_add] at hy14_ hz14_); (try rw [show ((0 : Int)).toNat = 0 from rfl] at hy14_); (try rw [show ((0 : Int)).toNat = 0 from rfl] at hz14_); have HP14 := Kd.R_putg HO_4.out (0 : Int) 0) | ((with_reducible refine gS (t := 2) (p := 26) rfl ?_); refine sE (t := 2) (p := 26) (v := ?vo_w15) (w1 := (w12.setCell ⟨go10, (0 : Int).toNat, none⟩ (.int .i64 0))) ?hg ?ho ?hn ?hr ?_; (case ho => rfl); (case hg => rfl); (case hn => rfl); (case hr =>  first | (go_simp; done) | (go_simp; rfl)); intro w15 hw; have hg : w12.grownBy w15 (some go10) := (by rw [hw]; exact HP14.2); have hp_ : Kd.R (Kd.int .i64) 2 w15 w.heap.size (fun k_ => some k_ ≠ (v231 : Value).ownBlock) (.slice (some ⟨go10, 0, none⟩) x4_1.length co10) y233 := (by rw [hw, Ny233.out]; exact HP14.1); clear HP14; replace BK223 := As.mk (blk_grown (g := gb223) (o := .cells #[.slice A0_0 l0_0.length c0_0, .slice A0_1 l0_1.length c0_1] 31 (0, 0)) (by (with_reducible repeat (first | refine kD ?_ _ | refine kE ?_ | refine kA ?_ _)); exact BK223.out) hg (Kd.R_ne HO_4.out BK223.out (by decide))); replace HO_4 := As.mk (hp_); replace HO232 := As.mk (Kd.R_after (v := (.slice (some ⟨go10, 0, none⟩) x4_1.length co10)) (v1 := (.slice (some ⟨go10, 0, none⟩) x4_1.length co10)) (ok := (fun _ => True)) (by (with_reducible repeat (first | apply Kd.RA | apply Kd.RN | apply Kd.RD)); exact HO232.out) hg (.inl rfl)); replace HB := As.mk ((by rw [hw]; exact bS (HB.out) GB10.out : Below w.heap.size w w15)); clear hg hw hp_))
     go_loopg [6, 7] k1 (fun kq v6 v7 w' => ∃ (x4_2 : List Int) (x6_2 : List Int) (x7_2 : Int), v7 = .int .i64 x7_2 ∧ As (F3.l1 kq x4_2 x6_2 x7_2 l0_0 l0_1 = some (r1, r2)) ∧ As (kq ≤ k1) ∧ As (Kd.R (Kd.int .i64) 2 w' w.heap.size (fun k_ => some k_ ≠ (v6 : Value).ownBlock) (.slice (some ⟨go10, 0, none⟩) x4_1.length co10) x4_2) ∧ As (Kd.R (Kd.int .i64) 2 w' w.heap.size (fun k_ => some k_ ≠ ((.slice (some ⟨go10, 0, none⟩) x4_1.length co10) : Value).ownBlock) v6 x6_2) ∧ As (w'.heap[gb223]? = some (.cells #[(.slice A0_0 l0_0.length c0_0), (.slice A0_1 l0_1.length c0_1)] 31 (0, 0))) ∧ As (Below w.heap.size w w'))
     case atStart => exact ⟨(y233), (y230), (0), (by first | rfl | (simp; done) | (simp [*]; done)), H', ⟨Nat.le_refl _⟩, ⟨by (with_reducible repeat (first | apply Kd.RA | apply Kd.RN | apply Kd.RD)); exact HO_4.out⟩, ⟨by (with_reducible repeat (first | apply Kd.RA | apply Kd.RN | apply Kd.RD)); exact Kd.R_mono HO232.out (fun _ hk => hk.2)⟩, ⟨by (with_reducible repeat (first | refine kD ?_ _ | refine kE ?_ | refine kA ?_ _)); exact BK223.out⟩, ⟨by repeat (first | (with_reducible first | exact HB.out | apply bA | apply bD | apply bE | refine bS ?_ GE223.out) | exact HB.out)⟩⟩
     case round =>
      clear H'
      try clear c5
      try clear c5b0
      try clear c9
      try clear c9b0
      try clear c9b1
      try clear p10
      try clear q10
      try clear qi10
      try clear hcz11_0
      try clear hcz11_1
      try clear hfz11
      try clear hx10_0
      try clear p10
      try clear q10
      obtain ⟨x4_2, x6_2, x7_2, rfl, HA, HK2, HO_4, HO_6, BK223, HB⟩ := hrel
      have hl4_2 := (Kd.RR HO_4.out).1
      rw [hl4_2] at HO_4
      (try simp only [hl4_2])
      (try simp only [hl4_2] at BK223)
      (try simp only [hl4_2] at HO_6)
      cases gk with
      | zero => exact absurd HA.out (by simp [F3.l1])
      | succ k2 =>
       have H := HA.out
       clear HA
       simp only [F3.l1] at H
       by_cases c16 : x7_2 < (l0_1.length : Int)
       ·rw [if_pos c16] at H
        have c16b0 : decide (x7_2 < (l0_1.length : Int)) = true := decide_eq_true c16
        clear c16
        by_cases c17 : 0 ≤ x7_2
        ·rw [if_pos c17] at H
         have c17b0 : decide (0 ≤ x7_2) = true := decide_eq_true c17
         clear c17
         by_cases c18 : 0 ≤ ((rd_T77 l0_1 x7_2).f1)
         ·rw [if_pos c18] at H
          have c18b0 : decide (0 ≤ ((rd_T77 l0_1 x7_2).f1)) = true := decide_eq_true c18
          clear c18
          by_cases c19 : ((rd_T77 l0_1 x7_2).f1) < (x4_2.length : Int)
          ·rw [if_pos c19] at H
           have c19b0 : decide (((rd_T77 l0_1 x7_2).f1) < (x4_2.length : Int)) = true := decide_eq_true c19
           clear c19
           obtain ⟨y235, hy235⟩ : ∃ y_ : List Int, y_ = (x4_2.set (((rd_T77 l0_1 x7_2).f1) : Int).toNat 0) := ⟨_, rfl⟩
           replace H : (if x6_2.length < 17592186044416 then (F3.l1 k2 y235 (x6_2 ++ [(rd_T77 l0_1 x7_2).f1]) (wrap64 (x7_2 + 1)) l0_0 l0_1) else (none)) = some (r1, r2) := by first | (rw [hy235]; with_reducible exact H) | (have H2_ := (Option.bind_some _ _).symm.trans H; rw [hy235]; with_reducible exact H2_) | (have H2_ := (Option.bind_some _ _).symm.trans H; with_reducible exact H2_) | with_reducible exact H | (rw [hy235]; exact H) | exact H
           have Ny235 := As.mk hy235
           clear hy235
           by_cases c21 : x6_2.length < 17592186044416
           ·rw [if_pos c21] at H
            have LMc21 := As.mk c21
            clear c21
            obtain ⟨y237, hy237⟩ : ∃ y_ : List Int, y_ = (x6_2 ++ [(rd_T77 l0_1 x7_2).f1]) := ⟨_, rfl⟩
            replace H : (F3.l1 k2 y235 y237 (wrap64 (x7_2 + 1)) l0_0 l0_1) = some (r1, r2) := by first | (rw [hy237]; with_reducible exact H) | (have H2_ := (Option.bind_some _ _).symm.trans H; rw [hy237]; with_reducible exact H2_) | (have H2_ := (Option.bind_some _ _).symm.trans H; with_reducible exact H2_) | with_reducible exact H | (rw [hy237]; exact H) | exact H
            have Ny237 := As.mk hy237
            clear hy237
            have H' := As.mk H
            clear H
            have cz_ := c2_0 (w := wr) (g := gb223) BK223.out; obtain ⟨hcz22_0, hcz22_1⟩ := cz_
            have hfz22 := kF BK223.out
            have p234 : 0 ≤ (x7_2 : Int) := of_decide_eq_true (by first | (with_reducible assumption) | assumption)
            have q234 : x7_2 < (l0_1.length : Int) := of_decide_eq_true (by first | (with_reducible assumption) | assumption)
            obtain ⟨ad234, e234, hx234_0, hx234_1⟩ := at_T77 HR0_1.out x7_2 p234 q234
            cases e234
            replace hx234_0 := (HB.out.cell (World.block_lt_of_cell? w _ hx234_0)).trans hx234_0
            replace hx234_1 := (HB.out.cell (World.block_lt_of_cell? w _ hx234_1)).trans hx234_1
            replace p234 := eq_true p234
            replace q234 := eq_true q234
            have p20 : 0 ≤ (((rd_T77 l0_1 x7_2).f1) : Int) := of_decide_eq_true (by first | (with_reducible assumption) | assumption)
            have q20 : (((rd_T77 l0_1 x7_2).f1) : Int) < ((x4_2.length : Int) : Int) := of_decide_eq_true (by first | (with_reducible assumption) | assumption)
            obtain ⟨hx20_0, hf20_0⟩ := Kd.R_celln 0 HO_4.out (((rd_T77 l0_1 x7_2).f1) : Int) p20 q20
            replace p20 := eq_true p20
            replace q20 := eq_true q20
            have HP23 := Kd.R_putg HO_4.out (((rd_T77 l0_1 x7_2).f1) : Int) 0
            go_wp2_with (first | ((with_reducible refine gS (t := 2) (p := 41) rfl ?_); refine sE (t := 2) (p := 41) (v := ?vo_w24) (w1 := (wr.setCell ⟨go10, (((rd_T77 l0_1 x7_2).f1) : Int).toNat, none⟩ (.int .i64 0))) ?hg ?ho ?hn ?hr ?_; (case ho => rfl); (case hg => rfl); (case hn => rfl); (case hr =>  first | (go_simp; done) | (go_simp; rfl)); intro w24 hw; have hg : wr.grownBy w24 (some go10) := (by rw [hw]; exact HP23.2); have hp_ : Kd.R (Kd.int .i64) 2 w24 w.heap.size (fun k_ => some k_ ≠ (u6 : Value).ownBlock) (.slice (some ⟨go10, 0, none⟩) x4_2.length co10) y235 := (by rw [hw, Ny235.out]; exact HP23.1); clear HP23; replace HO_6 := As.mk (Kd.R_after (v := (.slice (some ⟨go10, 0, none⟩) x4_2.length co10)) (v1 := (.slice (some ⟨go10, 0, none⟩) x4_2.length co10)) (ok := (fun _ => True)) (by (with_reducible repeat (first | apply Kd.RA | apply Kd.RN | apply Kd.RD)); exact Kd.R_mono HO_6.out (fun _ hk => ⟨trivial, hk⟩)) hg (.inl rfl)); replace BK223 := As.mk (blk_grown (g := gb223) (o := .cells #[.slice A0_0 l0_0.length c0_0, .slice (some ad234) l0_1.length c0_1] 31 (0, 0)) (by (with_reducible repeat (first | refine kD ?_ _ | refine kE ?_ | refine kA ?_ _)); exact BK223.out) hg (Kd.R_ne HO_4.out BK223.out (by decide))); replace HO_4 := As.mk (hp_); replace HB := As.mk ((by rw [hw]; exact bS (HB.out) GB10.out : Below w.heap.size w w24)); clear hg hw hp_; have cz_ := c2_0 (w := w24) (g := gb223) BK223.out; obtain ⟨hcz25_0, hcz25_1⟩ := cz_; have hfz25 := kF BK223.out; have p236 : 0 ≤ (x7_2 : Int) := of_decide_eq_true (by first | (with_reducible assumption) | assumption); have q236 : x7_2 < (l0_1.length : Int) := of_decide_eq_true (by first | (with_reducible assumption) | assumption); obtain ⟨ad236, e236, hx236_0, hx236_1⟩ := at_T77 HR0_1.out x7_2 p236 q236; obtain rfl : ad234 = ad236 := (by injection e236); replace hx236_0 := (HB.out.cell (World.block_lt_of_cell? w _ hx236_0)).trans hx236_0; replace hx236_1 := (HB.out.cell (World.block_lt_of_cell? w _ hx236_1)).trans hx236_1; replace p236 := eq_true p236; replace q236 := eq_true q236) | ((with_reducible refine gB (b := .append) (xs := #[.tmp 42, .tmp 49]) rfl ?_); at_builtin; refine Kd.R_append (Kd.int .i64) (w0 := w) w.heap.size rfl (.tmp 42) (.tmp 49) 35 2 (.int .i64 0) 8 rfl Try.underlying35 info2 rfl (by decide) (by omega) u6 x6_2 ((rd_T77 l0_1 x7_2).f1) [.int .i64 ((rd_T77 l0_1 x7_2).f1)] (fun k_ => some k_ ≠ (.slice (some ⟨go10, 0, none⟩) x4_2.length co10 : Value).ownBlock) (fun _ => False) rfl rfl ?aP (fun _ hk => hk.elim) ?aF ?aO ?aB ?aS ?aL ?_; (case aP => exact rfl); (case aB => exact (by repeat (first | (with_reducible first | exact HB.out | apply bA | apply bD | apply bE | refine bS ?_ GE223.out) | exact HB.out))); (case aF => exact (fun k_ hk => Kd.fresh' (Kd.R_lt (by (with_reducible repeat (first | apply Kd.RA | apply Kd.RN | apply Kd.RD)); exact HO_4.out)) k_ hk)); (case aO => exact (by (with_reducible repeat (first | apply Kd.RA | apply Kd.RN | apply Kd.RD)); exact Kd.R_mono HO_6.out (fun _ hk => hk.2))); (case aS => exact (bZ (by repeat (first | (with_reducible first | exact HB.out | apply bA | apply bD | apply bE | refine bS ?_ GE223.out) | exact HB.out)))); (case aL => have := LMc21.out; omega); intro v238 w26 ho hb hg hat; rw [← Ny237.out] at ho; have n0_ := As.mk (Kd.R_after (ok := (fun _ => True)) (by (with_reducible repeat (first | apply Kd.RA | apply Kd.RN | apply Kd.RD)); exact Kd.R_mono HO_4.out (fun _ hk => ⟨trivial, hk⟩)) hg hat); have n1_ := As.mk (blk_grown (g := gb223) (o := .cells #[.slice A0_0 l0_0.length c0_0, .slice (some ad234) l0_1.length c0_1] 31 (0, 0)) (by (with_reducible repeat (first | refine kD ?_ _ | refine kE ?_ | refine kA ?_ _)); exact BK223.out) hg (Kd.R_ne HO_6.out BK223.out (by decide))); have n2_ := As.mk (hb); have n3_ := As.mk (ho); clear HO_4; clear BK223; clear HB; clear HO_6; have HO_4 := n0_; have BK223 := n1_; have HB := n2_; have HO239 := n3_; clear n0_ n1_ n2_ n3_; clear ho hb hg hat))
            (try simp only [← hl4_2])
            go_roundg k2
            case measure => have := HK1.out; have := HK2.out; omega
            case rel => exact ⟨(y235), (y237), (wrap64 (x7_2 + 1)), (by first | rfl | (simp; done) | (simp [*]; done)), H', ⟨by have := HK1.out; have := HK2.out; omega⟩, ⟨by (try simp only [hl4_2]); (with_reducible repeat (first | apply Kd.RA | apply Kd.RN | apply Kd.RD)); exact Kd.R_mono HO_4.out (fun _ hk => hk.2)⟩, ⟨by (try simp only [hl4_2]); (with_reducible repeat (first | apply Kd.RA | apply Kd.RN | apply Kd.RD)); exact HO239.out⟩, ⟨by (try simp only [hl4_2]); (with_reducible repeat (first | refine kD ?_ _ | refine kE ?_ | refine kA ?_ _)); exact BK223.out⟩, ⟨by repeat (first | (with_reducible first | exact HB.out | apply bA | apply bD | apply bE | refine bS ?_ GE223.out) | exact HB.out)⟩⟩
           ·rw [if_neg c21] at H
            exact absurd H (by simp)
          ·rw [if_neg c19] at H
           exact absurd H (by simp)
         ·rw [if_neg c18] at H
          exact absurd H (by simp)
        ·rw [if_neg c17] at H
         exact absurd H (by simp)
       ·rw [if_neg c16] at H
        have c16b0 : decide (x7_2 < (l0_1.length : Int)) = false := decide_eq_false c16
        clear c16
        have H' := As.mk H
        clear H
        have cz_ := c2_0 (w := wr) (g := gb223) BK223.out; obtain ⟨hcz27_0, hcz27_1⟩ := cz_
        have hfz27 := kF BK223.out
        go_wp2
        go_loopg [6] k2 (fun kq v6 w' => ∃ (x4_3 : List Int) (x6_3 : List Int), As (F3.l2 kq x4_3 x6_3 l0_0 l0_1 = some (r1, r2)) ∧ As (kq ≤ k2) ∧ As (Kd.R (Kd.int .i64) 2 w' w.heap.size (fun k_ => some k_ ≠ (v6 : Value).ownBlock) (.slice (some ⟨go10, 0, none⟩) x4_2.length co10) x4_3) ∧ As (Kd.R (Kd.int .i64) 2 w' w.heap.size (fun k_ => some k_ ≠ ((.slice (some ⟨go10, 0, none⟩) x4_2.length co10) : Value).ownBlock) v6 x6_3) ∧ As (w'.heap[gb223]? = some (.cells #[(.slice A0_0 l0_0.length c0_0), (.slice A0_1 l0_1.length c0_1)] 31 (0, 0))) ∧ As (Below w.heap.size w w'))
        case atStart => exact ⟨(x4_2), (x6_2), H', ⟨Nat.le_refl _⟩, ⟨by (try simp only [hl4_2]); (with_reducible repeat (first | apply Kd.RA | apply Kd.RN | apply Kd.RD)); exact HO_4.out⟩, ⟨by (try simp only [hl4_2]); (with_reducible repeat (first | apply Kd.RA | apply Kd.RN | apply Kd.RD)); exact HO_6.out⟩, ⟨by (try simp only [hl4_2]); (with_reducible repeat (first | refine kD ?_ _ | refine kE ?_ | refine kA ?_ _)); exact BK223.out⟩, ⟨by repeat (first | (with_reducible first | exact HB.out | apply bA | apply bD | apply bE | refine bS ?_ GE223.out) | exact HB.out)⟩⟩
        case round =>
         clear H'
         try clear c5
         try clear c5b0
         try clear c9
         try clear c9b0
         try clear c9b1
         try clear p10
         try clear q10
         try clear qi10
         try clear c16
         try clear c16b0
         try clear hcz11_0
         try clear hcz11_1
         try clear hcz27_0
         try clear hcz27_1
         try clear hfz11
         try clear hfz27
         try clear hx10_0
         try clear p10
         try clear q10
         obtain ⟨x4_3, x6_3, HA, HK3, HO_4, HO_6, BK223, HB⟩ := hrel
         have hl4_3 := (Kd.RR HO_4.out).1
         rw [hl4_3] at HO_4
         (try simp only [hl4_3])
         (try simp only [hl4_3] at BK223)
         (try simp only [hl4_3] at HO_6)
         cases gk with
         | zero => exact absurd HA.out (by simp [F3.l2])
         | succ k3 =>
          have H := HA.out
          clear HA
          simp only [F3.l2] at H
          by_cases c28 : (x6_3.length : Int) > 0
          ·rw [if_pos c28] at H
           have c28b0 : decide (0 < (x6_3.length : Int)) = true := decide_eq_true c28
           have c28b1 : decide (0 < x6_3.length) = true := decide_eq_true (by omega)
           clear c28
           obtain ⟨ji29, hji29⟩ : ∃ j_ : Int, (wrap64 ((x6_3.length : Int) - 1)) = j_ := ⟨_, rfl⟩
           replace H : (if 0 ≤ (ji29) then (if (ji29) < (x6_3.length : Int) then (if (ji29) ≤ (x6_3.length : Int) then ((some (x6_3.take ((ji29) : Int).toNat : List Int)).bind fun y241 => (if 0 ≤ (rd x6_3 (ji29)) then (if (rd x6_3 (ji29)) < (l0_0.length : Int) then (if (rd x6_3 (ji29)) < (x4_3.length : Int) then (if ((rd_T80 l0_0 (rd x6_3 (ji29))).f0) = 34 then (F3.j5 k3 x4_3 y241 (rd x6_3 (ji29)) (wrap64 ((rd x4_3 (rd x6_3 (ji29))) + 1)) l0_0 l0_1 ((rd_T80 l0_0 (rd x6_3 (ji29))).f0) ((rd_T80 l0_0 (rd x6_3 (ji29))).f1) ((rd_T80 l0_0 (rd x6_3 (ji29))).f2)) else (if ((rd_T80 l0_0 (rd x6_3 (ji29))).f0) = 35 then (F3.j3 k3 x4_3 y241 (rd x6_3 (ji29)) (rd x4_3 (rd x6_3 (ji29))) ((rd_T80 l0_0 (rd x6_3 (ji29))).f0) (((rd_T80 l0_0 (rd x6_3 (ji29))).f0) == 35) l0_0 l0_1 ((rd_T80 l0_0 (rd x6_3 (ji29))).f0) ((rd_T80 l0_0 (rd x6_3 (ji29))).f1) ((rd_T80 l0_0 (rd x6_3 (ji29))).f2)) else (if ((rd_T80 l0_0 (rd x6_3 (ji29))).f0) = 36 then (F3.j3 k3 x4_3 y241 (rd x6_3 (ji29)) (rd x4_3 (rd x6_3 (ji29))) ((rd_T80 l0_0 (rd x6_3 (ji29))).f0) (((rd_T80 l0_0 (rd x6_3 (ji29))).f0) == 36) l0_0 l0_1 ((rd_T80 l0_0 (rd x6_3 (ji29))).f0) ((rd_T80 l0_0 (rd x6_3 (ji29))).f1) ((rd_T80 l0_0 (rd x6_3 (ji29))).f2)) else (F3.j3 k3 x4_3 y241 (rd x6_3 (ji29)) (rd x4_3 (rd x6_3 (ji29))) ((rd_T80 l0_0 (rd x6_3 (ji29))).f0) (((rd_T80 l0_0 (rd x6_3 (ji29))).f0) == 37) l0_0 l0_1 ((rd_T80 l0_0 (rd x6_3 (ji29))).f0) ((rd_T80 l0_0 (rd x6_3 (ji29))).f1) ((rd_T80 l0_0 (rd x6_3 (ji29))).f2))))) else (none)) else (none)) else (none))) else (none)) else (none)) else (none)) = some (r1, r2) := by first | (rw [hji29] at H; exact H) | (simp only [hji29] at H ⊢; exact H)
           have hji29w : (IntKind.i64.wrap ((x6_3.length : Int) - 1)) = ji29 := (i64_w _).trans hji29
           by_cases c30 : 0 ≤ (ji29)
           ·rw [if_pos c30] at H
            have c30b0 : decide (0 ≤ (ji29)) = true := decide_eq_true c30
            clear c30
            by_cases c31 : (ji29) < (x6_3.length : Int)
            ·rw [if_pos c31] at H
             have c31b0 : decide ((ji29) < (x6_3.length : Int)) = true := decide_eq_true c31
             clear c31
             by_cases c32 : (ji29) ≤ (x6_3.length : Int)
             ·rw [if_pos c32] at H
              have c32b0 := eq_true c32
              have c32b1 : decide ((ji29) ≤ (x6_3.length : Int)) = true := decide_eq_true c32
              clear c32
              obtain ⟨y241, hy241⟩ : ∃ y_ : List Int, y_ = (x6_3.take ((ji29) : Int).toNat) := ⟨_, rfl⟩
              replace H : (if 0 ≤ (rd x6_3 (ji29)) then (if (rd x6_3 (ji29)) < (l0_0.length : Int) then (if (rd x6_3 (ji29)) < (x4_3.length : Int) then (if ((rd_T80 l0_0 (rd x6_3 (ji29))).f0) = 34 then (F3.j5 k3 x4_3 y241 (rd x6_3 (ji29)) (wrap64 ((rd x4_3 (rd x6_3 (ji29))) + 1)) l0_0 l0_1 ((rd_T80 l0_0 (rd x6_3 (ji29))).f0) ((rd_T80 l0_0 (rd x6_3 (ji29))).f1) ((rd_T80 l0_0 (rd x6_3 (ji29))).f2)) else (if ((rd_T80 l0_0 (rd x6_3 (ji29))).f0) = 35 then (F3.j3 k3 x4_3 y241 (rd x6_3 (ji29)) (rd x4_3 (rd x6_3 (ji29))) ((rd_T80 l0_0 (rd x6_3 (ji29))).f0) (((rd_T80 l0_0 (rd x6_3 (ji29))).f0) == 35) l0_0 l0_1 ((rd_T80 l0_0 (rd x6_3 (ji29))).f0) ((rd_T80 l0_0 (rd x6_3 (ji29))).f1) ((rd_T80 l0_0 (rd x6_3 (ji29))).f2)) else (if ((rd_T80 l0_0 (rd x6_3 (ji29))).f0) = 36 then (F3.j3 k3 x4_3 y241 (rd x6_3 (ji29)) (rd x4_3 (rd x6_3 (ji29))) ((rd_T80 l0_0 (rd x6_3 (ji29))).f0) (((rd_T80 l0_0 (rd x6_3 (ji29))).f0) == 36) l0_0 l0_1 ((rd_T80 l0_0 (rd x6_3 (ji29))).f0) ((rd_T80 l0_0 (rd x6_3 (ji29))).f1) ((rd_T80 l0_0 (rd x6_3 (ji29))).f2)) else (F3.j3 k3 x4_3 y241 (rd x6_3 (ji29)) (rd x4_3 (rd x6_3 (ji29))) ((rd_T80 l0_0 (rd x6_3 (ji29))).f0) (((rd_T80 l0_0 (rd x6_3 (ji29))).f0) == 37) l0_0 l0_1 ((rd_T80 l0_0 (rd x6_3 (ji29))).f0) ((rd_T80 l0_0 (rd x6_3 (ji29))).f1) ((rd_T80 l0_0 (rd x6_3 (ji29))).f2))))) else (none)) else (none)) else (none)) = some (r1, r2) := by first | (rw [hy241]; with_reducible exact H) | (have H2_ := (Option.bind_some _ _).symm.trans H; rw [hy241]; with_reducible exact H2_) | (have H2_ := (Option.bind_some _ _).symm.trans H; with_reducible exact H2_) | with_reducible exact H | (rw [hy241]; exact H) | exact H
              have Ny241 := As.mk hy241
              clear hy241
              by_cases c33 : 0 ≤ (rd x6_3 (ji29))
              ·rw [if_pos c33] at H
               have c33b0 : decide (0 ≤ (rd x6_3 (ji29))) = true := decide_eq_true c33
               clear c33
               by_cases c34 : (rd x6_3 (ji29)) < (l0_0.length : Int)
               ·rw [if_pos c34] at H
                have c34b0 : decide ((rd x6_3 (ji29)) < (l0_0.length : Int)) = true := decide_eq_true c34
                clear c34
                by_cases c35 : (rd x6_3 (ji29)) < (x4_3.length : Int)
                ·rw [if_pos c35] at H
                 have c35b0 : decide ((rd x6_3 (ji29)) < (x4_3.length : Int)) = true := decide_eq_true c35
                 clear c35
                 have HC36 := As.mk H
                 clear H
                 obtain ⟨Ao37, co37, eo37⟩ := Kd.R_slice HO_6.out
                 subst eo37
                 have p240 : 0 ≤ ((ji29) : Int) := of_decide_eq_true (by first | (with_reducible assumption) | assumption)
                 have q240 : (ji29) < (x6_3.length : Int) := of_decide_eq_true (by first | (with_reducible assumption) | assumption)
                 obtain ⟨ad240, e240, hx240_0⟩ := Kd.at_int (Kd.RR HO_6.out).2.2 (ji29) p240 q240
                 cases e240
                 replace p240 := eq_true p240
                 replace q240 := eq_true q240
                 have q38 : ((ji29) : Int) ≤ ((x6_3.length : Int) : Int) := of_decide_eq_true (by first | (with_reducible assumption) | assumption)
                 obtain ⟨i038, hi038, _, hsz38, _⟩ := info_parts info2
                 have hcut38 := cut_to (P := Try.prog) 35 2 .i64 Try.underlying35 hi038 (some ad240) x6_3.length co37 (ji29) (of_decide_eq_true (by first | (with_reducible assumption) | assumption)) q38 (Kd.RR HO_6.out).2.1
                 have hr38 := Kd.R_take (m := ((ji29) : Int).toNat) HO_6.out (by omega)
                 have hy38 : y241.length = ((ji29) : Int).toNat := (by rw [Ny241.out, List.length_take]; omega)
                 rw [← Ny241.out] at hr38
                 rw [← hy38] at hr38 hcut38
                 clear hy38 hi038 hsz38 HO_6
                 have HO243 := As.mk hr38
                 clear hr38
                 replace q38 := eq_true q38
                 have cz_ := c2_0 (w := wr) (g := gb223) BK223.out; obtain ⟨hcz39_0, hcz39_1⟩ := cz_
                 have hfz39 := kF BK223.out
                 have p244 : 0 ≤ ((rd x6_3 (ji29)) : Int) := of_decide_eq_true (by first | (with_reducible assumption) | assumption)
                 have q244 : (rd x6_3 (ji29)) < (l0_0.length : Int) := of_decide_eq_true (by first | (with_reducible assumption) | assumption)
                 obtain ⟨ad244, e244, hx244_0, hx244_1, hx244_2⟩ := at_T80 HR0_0.out (rd x6_3 (ji29)) p244 q244
                 cases e244
                 replace hx244_0 := (HB.out.cell (World.block_lt_of_cell? w _ hx244_0)).trans hx244_0
                 replace hx244_1 := (HB.out.cell (World.block_lt_of_cell? w _ hx244_1)).trans hx244_1
                 replace hx244_2 := (HB.out.cell (World.block_lt_of_cell? w _ hx244_2)).trans hx244_2
                 replace p244 := eq_true p244
                 replace q244 := eq_true q244
                 go_upto_block 6 with (first | ((with_reducible refine gD (N := 9) rfl ?_); refine bX ?hg (N := 9) ?hd (cs := #[.int .i64 0, .int .i64 0, .string (⟨#[]⟩ : ByteArray)]) (t := 80) ?hr ?_; (case hd => rfl); (case hg => rfl); (case hr => first | (go_simp; done) | (go_simp; rfl)); intro gb245 hg w40 hbox hb; have BK245 := As.mk (hbox); have GW245 := As.mk ((by rw [hg]; exact (bZ (by repeat (first | (with_reducible first | exact HB.out | apply bA | apply bD | apply bE | refine bS ?_ GE223.out) | exact HB.out))) : w.heap.size ≤ gb245)); have GE245 := GW245; have NB223_245 := As.mk ((by rw [hg]; exact Nat.ne_of_lt (kL (g := gb223) (o := .cells #[.slice (some ad244) l0_0.length c0_0, .slice A0_1 l0_1.length c0_1] 31 (0, 0)) (by (with_reducible repeat (first | refine kD ?_ _ | refine kE ?_ | refine kA ?_ _)); exact BK223.out)) : gb223 ≠ gb245)); have NB245_223 := As.mk NB223_245.out.symm; replace HO_4 := As.mk (Kd.R_below (by (with_reducible repeat (first | apply Kd.RA | apply Kd.RN | apply Kd.RD)); exact HO_4.out) hb); replace HO243 := As.mk (Kd.R_below (by (with_reducible repeat (first | apply Kd.RA | apply Kd.RN | apply Kd.RD)); exact HO243.out) hb); replace BK223 := As.mk (kB (g := gb223) (o := .cells #[.slice (some ad244) l0_0.length c0_0, .slice A0_1 l0_1.length c0_1] 31 (0, 0)) (by (with_reducible repeat (first | refine kD ?_ _ | refine kE ?_ | refine kA ?_ _)); exact BK223.out) hb); replace HB := As.mk (bT (by repeat (first | (with_reducible first | exact HB.out | apply bA | apply bD | apply bE | refine bS ?_ GE223.out) | exact HB.out)) hb); clear hb hbox hg; have hnb41 := NB245_223.out; have hnc41 := NB223_245.out; have cz_ := c3_ (w := w40) (g := gb245) BK245.out; obtain ⟨hcz42_0, hcz42_1, hcz42_2⟩ := cz_; have hfz42 := kF BK245.out; have p246 : 0 ≤ ((rd x6_3 (ji29)) : Int) := of_decide_eq_true (by first | (with_reducible assumption) | assumption); have q246 : (rd x6_3 (ji29)) < (x4_3.length : Int) := of_decide_eq_true (by first | (with_reducible assumption) | assumption); obtain ⟨ad246, e246, hx246_0⟩ := Kd.at_int (Kd.RR HO_4.out).2.2 (rd x6_3 (ji29)) p246 q246; obtain rfl : (⟨go10, 0, none⟩ : Addr) = ad246 := (by injection e246); (first | simp only [add_plain] at hx246_0 | simp only [add_at] at hx246_0 | simp only [Addr.add, Nat.zero_add] at hx246_0 | skip); have hn246_0 : (⟨go10, 0, none⟩ : Addr).block ≠ gb245 := Kd.own_blk (Kd.R_ne HO_4.out BK245.out (by decide)); have hn246_1 : (⟨go10, 0, none⟩ : Addr).block ≠ gb245 := Kd.own_blk (Kd.R_ne HO_4.out BK245.out (by decide)); have hn246_2 : (⟨go10, 0, none⟩ : Addr).block ≠ gb245 := Kd.own_blk (Kd.R_ne HO_4.out BK245.out (by decide)); replace hx246_0 := (cell_far (p := ⟨gb245, 0, none⟩) (by first | (rw [aB0]; exact hn246_0) | (show (Addr.add _ _).block ≠ _; rw [aB0]; exact hn246_0) | exact hn246_0) (.int .i64 ((rd_T80 l0_0 (rd x6_3 (ji29))).f0))).trans hx246_0; replace hx246_0 := (cell_far (p := ⟨gb245, 1, none⟩) (by first | (rw [aB0]; exact hn246_1) | (show (Addr.add _ _).block ≠ _; rw [aB0]; exact hn246_1) | exact hn246_1) (.int .i64 ((rd_T80 l0_0 (rd x6_3 (ji29))).f1))).trans hx246_0; replace hx246_0 := (cell_far (p := ⟨gb245, 2, none⟩) (by first | (rw [aB0]; exact hn246_2) | (show (Addr.add _ _).block ≠ _; rw [aB0]; exact hn246_2) | exact hn246_2) (.string ((rd_T80 l0_0 (rd x6_3 (ji29))).f2))).trans hx246_0; clear hn246_0; clear hn246_1; clear hn246_2; replace p246 := eq_true p246; replace q246 := eq_true q246))
                 (try simp only [Act.put, sq1, sq2, sq3])
                 go_cut [10] (fun v10 wc => ∃ (kq : Nat) (x10_35 : Int), v10 = .int .i64 x10_35 ∧ As (F3.j5 kq x4_3 y241 (rd x6_3 (ji29)) x10_35 l0_0 l0_1 ((rd_T80 l0_0 (rd x6_3 (ji29))).f0) ((rd_T80 l0_0 (rd x6_3 (ji29))).f1) ((rd_T80 l0_0 (rd x6_3 (ji29))).f2) = some (r1, r2)) ∧ As (kq ≤ k3) ∧ As (Kd.R (Kd.int .i64) 2 wc w.heap.size (fun k_ => some k_ ≠ ((.slice (some ad240) y241.length co37) : Value).ownBlock) (.slice (some ⟨go10, 0, none⟩) x4_3.length co10) x4_3) ∧ As (Kd.R (Kd.int .i64) 2 wc w.heap.size (fun k_ => some k_ ≠ ((.slice (some ⟨go10, 0, none⟩) x4_3.length co10) : Value).ownBlock) (.slice (some ad240) y241.length co37) y241) ∧ As (wc.heap[gb223]? = some (.cells #[(.slice (some ad244) l0_0.length c0_0), (.slice A0_1 l0_1.length c0_1)] 31 (0, 0))) ∧ As (wc.heap[gb245]? = some (.cells #[.int .i64 ((rd_T80 l0_0 (rd x6_3 (ji29))).f0), .int .i64 ((rd_T80 l0_0 (rd x6_3 (ji29))).f1), .string ((rd_T80 l0_0 (rd x6_3 (ji29))).f2)] 80 (0, 0))) ∧ As (Below w.heap.size w wc))
                 case first =>
                  have H := HC36.out
                  clear HC36
                  by_cases c43 : ((rd_T80 l0_0 (rd x6_3 (ji29))).f0) = 34
                  ·rw [if_pos c43] at H
                   have c43b0 : (((rd_T80 l0_0 (rd x6_3 (ji29))).f0) == 34) = true := beq_iff_eq.mpr c43
                   have c43b1 : (((rd_T80 l0_0 (rd x6_3 (ji29))).f0) != 34) = false := bne_eq_false_iff_eq.mpr c43
                   clear c43
                   (first | rw [c43b0] | (simp only [i64_w, i32_w]; rw [c43b0]) | skip)
                   have H' := As.mk H
                   clear H
                   go_wp2
                   go_meet
                   case rel => exact ⟨_, (wrap64 ((rd x4_3 (rd x6_3 (ji29))) + 1)), (by first | rfl | (simp; done) | (simp only [← hji29] <;> (first | rfl | simp)) | (simp [*]; done)), H', ⟨by have := HK1.out; have := HK2.out; have := HK3.out; first | omega | exact Nat.le_refl _⟩, ⟨by (try simp only [hl4_2]); (try simp only [hl4_3]); (with_reducible repeat (first | apply Kd.RA | apply Kd.RN | apply Kd.RD)); exact Kd.R_mono (Kd.R_far (p := ⟨gb245, 2, none⟩) (Kd.R_far (p := ⟨gb245, 1, none⟩) (Kd.R_far (p := ⟨gb245, 0, none⟩) (Kd.R_types HO_4.out BK245.out (by decide)) (fun _ hk => hk.2) (.int .i64 ((rd_T80 l0_0 (rd x6_3 (ji29))).f0))) (fun _ hk => hk.2) (.int .i64 ((rd_T80 l0_0 (rd x6_3 (ji29))).f1))) (fun _ hk => hk.2) (.string ((rd_T80 l0_0 (rd x6_3 (ji29))).f2))) (fun _ hk => hk.1)⟩, ⟨by (try simp only [hl4_2]); (try simp only [hl4_3]); (with_reducible repeat (first | apply Kd.RA | apply Kd.RN | apply Kd.RD)); exact Kd.R_mono (Kd.R_far (p := ⟨gb245, 2, none⟩) (Kd.R_far (p := ⟨gb245, 1, none⟩) (Kd.R_far (p := ⟨gb245, 0, none⟩) (Kd.R_types HO243.out BK245.out (by decide)) (fun _ hk => hk.2) (.int .i64 ((rd_T80 l0_0 (rd x6_3 (ji29))).f0))) (fun _ hk => hk.2) (.int .i64 ((rd_T80 l0_0 (rd x6_3 (ji29))).f1))) (fun _ hk => hk.2) (.string ((rd_T80 l0_0 (rd x6_3 (ji29))).f2))) (fun _ hk => hk.1)⟩, ⟨by (try simp only [hl4_2]); (try simp only [hl4_3]); (with_reducible repeat (first | refine kD ?_ _ | refine kE ?_ | refine kA ?_ _)); refine blk_far ?_ NB223_245.out _; (with_reducible repeat (first | refine kD ?_ _ | refine kE ?_ | refine kA ?_ _)); refine blk_far ?_ NB223_245.out _; (with_reducible repeat (first | refine kD ?_ _ | refine kE ?_ | refine kA ?_ _)); refine blk_far ?_ NB223_245.out _; (with_reducible repeat (first | refine kD ?_ _ | refine kE ?_ | refine kA ?_ _)); exact BK223.out⟩, ⟨by (try simp only [hl4_2]); (try simp only [hl4_3]); (with_reducible repeat (first | refine kD ?_ _ | refine kE ?_ | refine kA ?_ _)); refine blk_put (cs := #[.int .i64 ((rd_T80 l0_0 (rd x6_3 (ji29))).f0), .int .i64 ((rd_T80 l0_0 (rd x6_3 (ji29))).f1), .string (⟨#[]⟩ : ByteArray)]) ?_ 2 _ rfl; (with_reducible repeat (first | refine kD ?_ _ | refine kE ?_ | refine kA ?_ _)); refine blk_put (cs := #[.int .i64 ((rd_T80 l0_0 (rd x6_3 (ji29))).f0), .int .i64 0, .string (⟨#[]⟩ : ByteArray)]) ?_ 1 _ rfl; (with_reducible repeat (first | refine kD ?_ _ | refine kE ?_ | refine kA ?_ _)); refine blk_put (cs := #[.int .i64 0, .int .i64 0, .string (⟨#[]⟩ : ByteArray)]) ?_ 0 _ rfl; (with_reducible repeat (first | refine kD ?_ _ | refine kE ?_ | refine kA ?_ _)); exact BK245.out⟩, ⟨by repeat (first | (with_reducible first | exact HB.out | apply bA | apply bD | apply bE | refine bS ?_ GE223.out | refine bS ?_ GE245.out) | exact HB.out)⟩⟩
                  ·rw [if_neg c43] at H
                   have c43b0 : (((rd_T80 l0_0 (rd x6_3 (ji29))).f0) == 34) = false := beq_eq_false_iff_ne.mpr c43
                   have c43b1 : (((rd_T80 l0_0 (rd x6_3 (ji29))).f0) != 34) = true := bne_iff_ne.mpr c43
                   (first | rw [c43b0] | (simp only [i64_w, i32_w]; rw [c43b0]) | skip)
                   have HC44 := As.mk H
                   clear H
                   go_upto_if 80 with (fail)
                   go_cut [80] (fun v80 wc => ∃ (kq : Nat) (x80_43 : Bool), v80 = .bool x80_43 ∧ As (F3.j3 kq x4_3 y241 (rd x6_3 (ji29)) (rd x4_3 (rd x6_3 (ji29))) ((rd_T80 l0_0 (rd x6_3 (ji29))).f0) x80_43 l0_0 l0_1 ((rd_T80 l0_0 (rd x6_3 (ji29))).f0) ((rd_T80 l0_0 (rd x6_3 (ji29))).f1) ((rd_T80 l0_0 (rd x6_3 (ji29))).f2) = some (r1, r2)) ∧ As (kq ≤ k3) ∧ As (Kd.R (Kd.int .i64) 2 wc w.heap.size (fun k_ => some k_ ≠ ((.slice (some ad240) y241.length co37) : Value).ownBlock) (.slice (some ⟨go10, 0, none⟩) x4_3.length co10) x4_3) ∧ As (Kd.R (Kd.int .i64) 2 wc w.heap.size (fun k_ => some k_ ≠ ((.slice (some ⟨go10, 0, none⟩) x4_3.length co10) : Value).ownBlock) (.slice (some ad240) y241.length co37) y241) ∧ As (wc.heap[gb223]? = some (.cells #[(.slice (some ad244) l0_0.length c0_0), (.slice A0_1 l0_1.length c0_1)] 31 (0, 0))) ∧ As (wc.heap[gb245]? = some (.cells #[.int .i64 ((rd_T80 l0_0 (rd x6_3 (ji29))).f0), .int .i64 ((rd_T80 l0_0 (rd x6_3 (ji29))).f1), .string ((rd_T80 l0_0 (rd x6_3 (ji29))).f2)] 80 (0, 0))) ∧ As (Below w.heap.size w wc))
                   case first =>
                    have H := HC44.out
                    clear HC44
                    by_cases c45 : ((rd_T80 l0_0 (rd x6_3 (ji29))).f0) = 35
                    ·rw [if_pos c45] at H
                     have c45b0 : (((rd_T80 l0_0 (rd x6_3 (ji29))).f0) == 35) = true := beq_iff_eq.mpr c45
                     have c45b1 : (((rd_T80 l0_0 (rd x6_3 (ji29))).f0) != 35) = false := bne_eq_false_iff_eq.mpr c45
                     clear c45
                     (first | rw [c45b0] | (simp only [i64_w, i32_w]; rw [c45b0]) | skip)
                     have H' := As.mk H
                     clear H
                     go_wp2
                     go_meet
                     case rel => exact ⟨_, ((((rd_T80 l0_0 (rd x6_3 (ji29))).f0) == 35)), (by first | rfl | (rw [c45b0]; done) | (rw [c45b0]) | (simp only [c45b0]; done) | (simp; done) | (simp only [← hji29] <;> (first | rfl | simp)) | (simp [*]; done)), H', ⟨by have := HK1.out; have := HK2.out; have := HK3.out; first | omega | exact Nat.le_refl _⟩, ⟨by (try simp only [hl4_2]); (try simp only [hl4_3]); (with_reducible repeat (first | apply Kd.RA | apply Kd.RN | apply Kd.RD)); exact Kd.R_mono (Kd.R_far (p := ⟨gb245, 2, none⟩) (Kd.R_far (p := ⟨gb245, 1, none⟩) (Kd.R_far (p := ⟨gb245, 0, none⟩) (Kd.R_types HO_4.out BK245.out (by decide)) (fun _ hk => hk.2) (.int .i64 ((rd_T80 l0_0 (rd x6_3 (ji29))).f0))) (fun _ hk => hk.2) (.int .i64 ((rd_T80 l0_0 (rd x6_3 (ji29))).f1))) (fun _ hk => hk.2) (.string ((rd_T80 l0_0 (rd x6_3 (ji29))).f2))) (fun _ hk => hk.1)⟩, ⟨by (try simp only [hl4_2]); (try simp only [hl4_3]); (with_reducible repeat (first | apply Kd.RA | apply Kd.RN | apply Kd.RD)); exact Kd.R_mono (Kd.R_far (p := ⟨gb245, 2, none⟩) (Kd.R_far (p := ⟨gb245, 1, none⟩) (Kd.R_far (p := ⟨gb245, 0, none⟩) (Kd.R_types HO243.out BK245.out (by decide)) (fun _ hk => hk.2) (.int .i64 ((rd_T80 l0_0 (rd x6_3 (ji29))).f0))) (fun _ hk => hk.2) (.int .i64 ((rd_T80 l0_0 (rd x6_3 (ji29))).f1))) (fun _ hk => hk.2) (.string ((rd_T80 l0_0 (rd x6_3 (ji29))).f2))) (fun _ hk => hk.1)⟩, ⟨by (try simp only [hl4_2]); (try simp only [hl4_3]); (with_reducible repeat (first | refine kD ?_ _ | refine kE ?_ | refine kA ?_ _)); refine blk_far ?_ NB223_245.out _; (with_reducible repeat (first | refine kD ?_ _ | refine kE ?_ | refine kA ?_ _)); refine blk_far ?_ NB223_245.out _; (with_reducible repeat (first | refine kD ?_ _ | refine kE ?_ | refine kA ?_ _)); refine blk_far ?_ NB223_245.out _; (with_reducible repeat (first | refine kD ?_ _ | refine kE ?_ | refine kA ?_ _)); exact BK223.out⟩, ⟨by (try simp only [hl4_2]); (try simp only [hl4_3]); (with_reducible repeat (first | refine kD ?_ _ | refine kE ?_ | refine kA ?_ _)); refine blk_put (cs := #[.int .i64 ((rd_T80 l0_0 (rd x6_3 (ji29))).f0), .int .i64 ((rd_T80 l0_0 (rd x6_3 (ji29))).f1), .string (⟨#[]⟩ : ByteArray)]) ?_ 2 _ rfl; (with_reducible repeat (first | refine kD ?_ _ | refine kE ?_ | refine kA ?_ _)); refine blk_put (cs := #[.int .i64 ((rd_T80 l0_0 (rd x6_3 (ji29))).f0), .int .i64 0, .string (⟨#[]⟩ : ByteArray)]) ?_ 1 _ rfl; (with_reducible repeat (first | refine kD ?_ _ | refine kE ?_ | refine kA ?_ _)); refine blk_put (cs := #[.int .i64 0, .int .i64 0, .string (⟨#[]⟩ : ByteArray)]) ?_ 0 _ rfl; (with_reducible repeat (first | refine kD ?_ _ | refine kE ?_ | refine kA ?_ _)); exact BK245.out⟩, ⟨by repeat (first | (with_reducible first | exact HB.out | apply bA | apply bD | apply bE | refine bS ?_ GE223.out | refine bS ?_ GE245.out) | exact HB.out)⟩⟩
                    ·rw [if_neg c45] at H
                     have c45b0 : (((rd_T80 l0_0 (rd x6_3 (ji29))).f0) == 35) = false := beq_eq_false_iff_ne.mpr c45
                     have c45b1 : (((rd_T80 l0_0 (rd x6_3 (ji29))).f0) != 35) = true := bne_iff_ne.mpr c45
                     (first | rw [c45b0] | (simp only [i64_w, i32_w]; rw [c45b0]) | skip)
                     by_cases c46 : ((rd_T80 l0_0 (rd x6_3 (ji29))).f0) = 36
                     ·rw [if_pos c46] at H
                      have c46b0 : (((rd_T80 l0_0 (rd x6_3 (ji29))).f0) == 36) = true := beq_iff_eq.mpr c46
                      have c46b1 : (((rd_T80 l0_0 (rd x6_3 (ji29))).f0) != 36) = false := bne_eq_false_iff_eq.mpr c46
                      clear c46
                      have H' := As.mk H
                      clear H
                      go_wp2
                      go_meet
                      case rel => exact ⟨_, ((((rd_T80 l0_0 (rd x6_3 (ji29))).f0) == 36)), (by first | rfl | (rw [c46b0]; done) | (rw [c46b0]) | (simp only [c46b0]; done) | (simp; done) | (simp only [← hji29] <;> (first | rfl | simp)) | (simp [*]; done)), H', ⟨by have := HK1.out; have := HK2.out; have := HK3.out; first | omega | exact Nat.le_refl _⟩, ⟨by (try simp only [hl4_2]); (try simp only [hl4_3]); (with_reducible repeat (first | apply Kd.RA | apply Kd.RN | apply Kd.RD)); exact Kd.R_mono (Kd.R_far (p := ⟨gb245, 2, none⟩) (Kd.R_far (p := ⟨gb245, 1, none⟩) (Kd.R_far (p := ⟨gb245, 0, none⟩) (Kd.R_types HO_4.out BK245.out (by decide)) (fun _ hk => hk.2) (.int .i64 ((rd_T80 l0_0 (rd x6_3 (ji29))).f0))) (fun _ hk => hk.2) (.int .i64 ((rd_T80 l0_0 (rd x6_3 (ji29))).f1))) (fun _ hk => hk.2) (.string ((rd_T80 l0_0 (rd x6_3 (ji29))).f2))) (fun _ hk => hk.1)⟩, ⟨by (try simp only [hl4_2]); (try simp only [hl4_3]); (with_reducible repeat (first | apply Kd.RA | apply Kd.RN | apply Kd.RD)); exact Kd.R_mono (Kd.R_far (p := ⟨gb245, 2, none⟩) (Kd.R_far (p := ⟨gb245, 1, none⟩) (Kd.R_far (p := ⟨gb245, 0, none⟩) (Kd.R_types HO243.out BK245.out (by decide)) (fun _ hk => hk.2) (.int .i64 ((rd_T80 l0_0 (rd x6_3 (ji29))).f0))) (fun _ hk => hk.2) (.int .i64 ((rd_T80 l0_0 (rd x6_3 (ji29))).f1))) (fun _ hk => hk.2) (.string ((rd_T80 l0_0 (rd x6_3 (ji29))).f2))) (fun _ hk => hk.1)⟩, ⟨by (try simp only [hl4_2]); (try simp only [hl4_3]); (with_reducible repeat (first | refine kD ?_ _ | refine kE ?_ | refine kA ?_ _)); refine blk_far ?_ NB223_245.out _; (with_reducible repeat (first | refine kD ?_ _ | refine kE ?_ | refine kA ?_ _)); refine blk_far ?_ NB223_245.out _; (with_reducible repeat (first | refine kD ?_ _ | refine kE ?_ | refine kA ?_ _)); refine blk_far ?_ NB223_245.out _; (with_reducible repeat (first | refine kD ?_ _ | refine kE ?_ | refine kA ?_ _)); exact BK223.out⟩, ⟨by (try simp only [hl4_2]); (try simp only [hl4_3]); (with_reducible repeat (first | refine kD ?_ _ | refine kE ?_ | refine kA ?_ _)); refine blk_put (cs := #[.int .i64 ((rd_T80 l0_0 (rd x6_3 (ji29))).f0), .int .i64 ((rd_T80 l0_0 (rd x6_3 (ji29))).f1), .string (⟨#[]⟩ : ByteArray)]) ?_ 2 _ rfl; (with_reducible repeat (first | refine kD ?_ _ | refine kE ?_ | refine kA ?_ _)); refine blk_put (cs := #[.int .i64 ((rd_T80 l0_0 (rd x6_3 (ji29))).f0), .int .i64 0, .string (⟨#[]⟩ : ByteArray)]) ?_ 1 _ rfl; (with_reducible repeat (first | refine kD ?_ _ | refine kE ?_ | refine kA ?_ _)); refine blk_put (cs := #[.int .i64 0, .int .i64 0, .string (⟨#[]⟩ : ByteArray)]) ?_ 0 _ rfl; (with_reducible repeat (first | refine kD ?_ _ | refine kE ?_ | refine kA ?_ _)); exact BK245.out⟩, ⟨by repeat (first | (with_reducible first | exact HB.out | apply bA | apply bD | apply bE | refine bS ?_ GE223.out | refine bS ?_ GE245.out) | exact HB.out)⟩⟩
                     ·rw [if_neg c46] at H
                      have c46b0 : (((rd_T80 l0_0 (rd x6_3 (ji29))).f0) == 36) = false := beq_eq_false_iff_ne.mpr c46
                      have c46b1 : (((rd_T80 l0_0 (rd x6_3 (ji29))).f0) != 36) = true := bne_iff_ne.mpr c46
                      have H' := As.mk H
                      clear H
                      go_wp2
                      go_meet
                      case rel => exact ⟨_, ((((rd_T80 l0_0 (rd x6_3 (ji29))).f0) == 37)), (by first | rfl | (simp; done) | (simp only [← hji29] <;> (first | rfl | simp)) | (simp [*]; done)), H', ⟨by have := HK1.out; have := HK2.out; have := HK3.out; first | omega | exact Nat.le_refl _⟩, ⟨by (try simp only [hl4_2]); (try simp only [hl4_3]); (with_reducible repeat (first | apply Kd.RA | apply Kd.RN | apply Kd.RD)); exact Kd.R_mono (Kd.R_far (p := ⟨gb245, 2, none⟩) (Kd.R_far (p := ⟨gb245, 1, none⟩) (Kd.R_far (p := ⟨gb245, 0, none⟩) (Kd.R_types HO_4.out BK245.out (by decide)) (fun _ hk => hk.2) (.int .i64 ((rd_T80 l0_0 (rd x6_3 (ji29))).f0))) (fun _ hk => hk.2) (.int .i64 ((rd_T80 l0_0 (rd x6_3 (ji29))).f1))) (fun _ hk => hk.2) (.string ((rd_T80 l0_0 (rd x6_3 (ji29))).f2))) (fun _ hk => hk.1)⟩, ⟨by (try simp only [hl4_2]); (try simp only [hl4_3]); (with_reducible repeat (first | apply Kd.RA | apply Kd.RN | apply Kd.RD)); exact Kd.R_mono (Kd.R_far (p := ⟨gb245, 2, none⟩) (Kd.R_far (p := ⟨gb245, 1, none⟩) (Kd.R_far (p := ⟨gb245, 0, none⟩) (Kd.R_types HO243.out BK245.out (by decide)) (fun _ hk => hk.2) (.int .i64 ((rd_T80 l0_0 (rd x6_3 (ji29))).f0))) (fun _ hk => hk.2) (.int .i64 ((rd_T80 l0_0 (rd x6_3 (ji29))).f1))) (fun _ hk => hk.2) (.string ((rd_T80 l0_0 (rd x6_3 (ji29))).f2))) (fun _ hk => hk.1)⟩, ⟨by (try simp only [hl4_2]); (try simp only [hl4_3]); (with_reducible repeat (first | refine kD ?_ _ | refine kE ?_ | refine kA ?_ _)); refine blk_far ?_ NB223_245.out _; (with_reducible repeat (first | refine kD ?_ _ | refine kE ?_ | refine kA ?_ _)); refine blk_far ?_ NB223_245.out _; (with_reducible repeat (first | refine kD ?_ _ | refine kE ?_ | refine kA ?_ _)); refine blk_far ?_ NB223_245.out _; (with_reducible repeat (first | refine kD ?_ _ | refine kE ?_ | refine kA ?_ _)); exact BK223.out⟩, ⟨by (try simp only [hl4_2]); (try simp only [hl4_3]); (with_reducible repeat (first | refine kD ?_ _ | refine kE ?_ | refine kA ?_ _)); refine blk_put (cs := #[.int .i64 ((rd_T80 l0_0 (rd x6_3 (ji29))).f0), .int .i64 ((rd_T80 l0_0 (rd x6_3 (ji29))).f1), .string (⟨#[]⟩ : ByteArray)]) ?_ 2 _ rfl; (with_reducible repeat (first | refine kD ?_ _ | refine kE ?_ | refine kA ?_ _)); refine blk_put (cs := #[.int .i64 ((rd_T80 l0_0 (rd x6_3 (ji29))).f0), .int .i64 0, .string (⟨#[]⟩ : ByteArray)]) ?_ 1 _ rfl; (with_reducible repeat (first | refine kD ?_ _ | refine kE ?_ | refine kA ?_ _)); refine blk_put (cs := #[.int .i64 0, .int .i64 0, .string (⟨#[]⟩ : ByteArray)]) ?_ 0 _ rfl; (with_reducible repeat (first | refine kD ?_ _ | refine kE ?_ | refine kA ?_ _)); exact BK245.out⟩, ⟨by repeat (first | (with_reducible first | exact HB.out | apply bA | apply bD | apply bE | refine bS ?_ GE223.out | refine bS ?_ GE245.out) | exact HB.out)⟩⟩
                   case rest =>
                    clear HC44
                    try clear c5
                    try clear c5b0
                    try clear c9
                    try clear c9b0
                    try clear c9b1
                    try clear p10
                    try clear q10
                    try clear qi10
                    try clear c16
                    try clear c16b0
                    try clear c28
                    try clear c28b0
                    try clear c28b1
                    try clear c30
                    try clear c30b0
                    try clear c31
                    try clear c31b0
                    try clear c32
                    try clear c32b0
                    try clear c32b1
                    try clear c33
                    try clear c33b0
                    try clear c34
                    try clear c34b0
                    try clear c35
                    try clear c35b0
                    try clear q38
                    try clear c43
                    try clear c43b0
                    try clear c43b1
                    try clear hcz11_0
                    try clear hcz11_1
                    try clear hcz27_0
                    try clear hcz27_1
                    try clear hcz39_0
                    try clear hcz39_1
                    try clear hcz42_0
                    try clear hcz42_1
                    try clear hcz42_2
                    try clear hfz11
                    try clear hfz27
                    try clear hfz39
                    try clear hfz42
                    try clear hx10_0
                    try clear hx240_0
                    try clear hx244_0
                    try clear hx244_1
                    try clear hx244_2
                    try clear hx246_0
                    try clear p10
                    try clear p240
                    try clear p244
                    try clear p246
                    try clear q10
                    try clear q240
                    try clear q244
                    try clear q246
                    try clear q38
                    obtain ⟨kq, x80_43, rfl, HA, HJ43, HO_4, HO_6, BK223, BK245, HB⟩ := hcut
                    cases kq with
                    | zero => exact absurd HA.out (by simp [F3.j3])
                    | succ kj43 =>
                     have H := HA.out
                     clear HA
                     simp only [F3.j3] at H
                     by_cases c47 : x80_43 = true
                     ·subst c47
                      replace H : (F3.j5 kj43 x4_3 y241 (rd x6_3 (ji29)) (wrap64 ((rd x4_3 (rd x6_3 (ji29))) - 1)) l0_0 l0_1 ((rd_T80 l0_0 (rd x6_3 (ji29))).f0) ((rd_T80 l0_0 (rd x6_3 (ji29))).f1) ((rd_T80 l0_0 (rd x6_3 (ji29))).f2)) = some (r1, r2) := by rw [if_pos rfl] at H; exact H
                      have H' := As.mk H
                      clear H
                      go_wp2
                      go_meet
                      case rel => exact ⟨_, (wrap64 ((rd x4_3 (rd x6_3 (ji29))) - 1)), (by first | rfl | (simp; done) | (simp only [← hji29] <;> (first | rfl | simp)) | (simp [*]; done)), H', ⟨by have := HK1.out; have := HK2.out; have := HK3.out; have := HJ43.out; first | omega | exact Nat.le_refl _⟩, ⟨by (try simp only [hl4_2]); (try simp only [hl4_3]); (with_reducible repeat (first | apply Kd.RA | apply Kd.RN | apply Kd.RD)); exact HO_4.out⟩, ⟨by (try simp only [hl4_2]); (try simp only [hl4_3]); (with_reducible repeat (first | apply Kd.RA | apply Kd.RN | apply Kd.RD)); exact HO_6.out⟩, ⟨by (try simp only [hl4_2]); (try simp only [hl4_3]); (with_reducible repeat (first | refine kD ?_ _ | refine kE ?_ | refine kA ?_ _)); exact BK223.out⟩, ⟨by (try simp only [hl4_2]); (try simp only [hl4_3]); (with_reducible repeat (first | refine kD ?_ _ | refine kE ?_ | refine kA ?_ _)); exact BK245.out⟩, ⟨by repeat (first | (with_reducible first | exact HB.out | apply bA | apply bD | apply bE | refine bS ?_ GE223.out | refine bS ?_ GE245.out) | exact HB.out)⟩⟩
                     ·replace c47 := Bool.eq_false_iff.mpr c47
                      subst c47
                      replace H : (if ((rd_T80 l0_0 (rd x6_3 (ji29))).f0) = 39 then (F3.j4 kj43 x4_3 y241 (rd x6_3 (ji29)) (rd x4_3 (rd x6_3 (ji29))) (((rd_T80 l0_0 (rd x6_3 (ji29))).f0) == 39) l0_0 l0_1 ((rd_T80 l0_0 (rd x6_3 (ji29))).f0) ((rd_T80 l0_0 (rd x6_3 (ji29))).f1) ((rd_T80 l0_0 (rd x6_3 (ji29))).f2)) else (F3.j4 kj43 x4_3 y241 (rd x6_3 (ji29)) (rd x4_3 (rd x6_3 (ji29))) (((rd_T80 l0_0 (rd x6_3 (ji29))).f0) == 38) l0_0 l0_1 ((rd_T80 l0_0 (rd x6_3 (ji29))).f0) ((rd_T80 l0_0 (rd x6_3 (ji29))).f1) ((rd_T80 l0_0 (rd x6_3 (ji29))).f2))) = some (r1, r2) := by rw [if_neg (show ¬ (false = true) by decide)] at H; exact H
                      have HC48 := As.mk H
                      clear H
                      go_upto_if 86 with (fail)
                      go_cut [86] (fun v86 wc => ∃ (kq : Nat) (x86_47 : Bool), v86 = .bool x86_47 ∧ As (F3.j4 kq x4_3 y241 (rd x6_3 (ji29)) (rd x4_3 (rd x6_3 (ji29))) x86_47 l0_0 l0_1 ((rd_T80 l0_0 (rd x6_3 (ji29))).f0) ((rd_T80 l0_0 (rd x6_3 (ji29))).f1) ((rd_T80 l0_0 (rd x6_3 (ji29))).f2) = some (r1, r2)) ∧ As (kq ≤ kj43) ∧ As (Kd.R (Kd.int .i64) 2 wc w.heap.size (fun k_ => some k_ ≠ ((.slice (some ad240) y241.length co37) : Value).ownBlock) (.slice (some ⟨go10, 0, none⟩) x4_3.length co10) x4_3) ∧ As (Kd.R (Kd.int .i64) 2 wc w.heap.size (fun k_ => some k_ ≠ ((.slice (some ⟨go10, 0, none⟩) x4_3.length co10) : Value).ownBlock) (.slice (some ad240) y241.length co37) y241) ∧ As (wc.heap[gb223]? = some (.cells #[(.slice (some ad244) l0_0.length c0_0), (.slice A0_1 l0_1.length c0_1)] 31 (0, 0))) ∧ As (wc.heap[gb245]? = some (.cells #[.int .i64 ((rd_T80 l0_0 (rd x6_3 (ji29))).f0), .int .i64 ((rd_T80 l0_0 (rd x6_3 (ji29))).f1), .string ((rd_T80 l0_0 (rd x6_3 (ji29))).f2)] 80 (0, 0))) ∧ As (Below w.heap.size w wc))
                      case first =>
                       have H := HC48.out
                       clear HC48
                       by_cases c49 : ((rd_T80 l0_0 (rd x6_3 (ji29))).f0) = 39
                       ·rw [if_pos c49] at H
                        have c49b0 : (((rd_T80 l0_0 (rd x6_3 (ji29))).f0) == 39) = true := beq_iff_eq.mpr c49
                        have c49b1 : (((rd_T80 l0_0 (rd x6_3 (ji29))).f0) != 39) = false := bne_eq_false_iff_eq.mpr c49
                        clear c49
                        (first | rw [c49b0] | (simp only [i64_w, i32_w]; rw [c49b0]) | skip)
                        have H' := As.mk H
                        clear H
                        go_wp2
                        go_meet
                        case rel => exact ⟨_, ((((rd_T80 l0_0 (rd x6_3 (ji29))).f0) == 39)), (by first | rfl | (rw [c49b0]; done) | (rw [c49b0]) | (simp only [c49b0]; done) | (simp; done) | (simp only [← hji29] <;> (first | rfl | simp)) | (simp [*]; done)), H', ⟨by have := HK1.out; have := HK2.out; have := HK3.out; have := HJ43.out; first | omega | exact Nat.le_refl _⟩, ⟨by (try simp only [hl4_2]); (try simp only [hl4_3]); (with_reducible repeat (first | apply Kd.RA | apply Kd.RN | apply Kd.RD)); exact HO_4.out⟩, ⟨by (try simp only [hl4_2]); (try simp only [hl4_3]); (with_reducible repeat (first | apply Kd.RA | apply Kd.RN | apply Kd.RD)); exact HO_6.out⟩, ⟨by (try simp only [hl4_2]); (try simp only [hl4_3]); (with_reducible repeat (first | refine kD ?_ _ | refine kE ?_ | refine kA ?_ _)); exact BK223.out⟩, ⟨by (try simp only [hl4_2]); (try simp only [hl4_3]); (with_reducible repeat (first | refine kD ?_ _ | refine kE ?_ | refine kA ?_ _)); exact BK245.out⟩, ⟨by repeat (first | (with_reducible first | exact HB.out | apply bA | apply bD | apply bE | refine bS ?_ GE223.out | refine bS ?_ GE245.out) | exact HB.out)⟩⟩
                       ·rw [if_neg c49] at H
                        have c49b0 : (((rd_T80 l0_0 (rd x6_3 (ji29))).f0) == 39) = false := beq_eq_false_iff_ne.mpr c49
                        have c49b1 : (((rd_T80 l0_0 (rd x6_3 (ji29))).f0) != 39) = true := bne_iff_ne.mpr c49
                        (first | rw [c49b0] | (simp only [i64_w, i32_w]; rw [c49b0]) | skip)
                        have H' := As.mk H
                        clear H
                        go_wp2
                        go_meet
                        case rel => exact ⟨_, ((((rd_T80 l0_0 (rd x6_3 (ji29))).f0) == 38)), (by first | rfl | (simp; done) | (simp only [← hji29] <;> (first | rfl | simp)) | (simp [*]; done)), H', ⟨by have := HK1.out; have := HK2.out; have := HK3.out; have := HJ43.out; first | omega | exact Nat.le_refl _⟩, ⟨by (try simp only [hl4_2]); (try simp only [hl4_3]); (with_reducible repeat (first | apply Kd.RA | apply Kd.RN | apply Kd.RD)); exact HO_4.out⟩, ⟨by (try simp only [hl4_2]); (try simp only [hl4_3]); (with_reducible repeat (first | apply Kd.RA | apply Kd.RN | apply Kd.RD)); exact HO_6.out⟩, ⟨by (try simp only [hl4_2]); (try simp only [hl4_3]); (with_reducible repeat (first | refine kD ?_ _ | refine kE ?_ | refine kA ?_ _)); exact BK223.out⟩, ⟨by (try simp only [hl4_2]); (try simp only [hl4_3]); (with_reducible repeat (first | refine kD ?_ _ | refine kE ?_ | refine kA ?_ _)); exact BK245.out⟩, ⟨by repeat (first | (with_reducible first | exact HB.out | apply bA | apply bD | apply bE | refine bS ?_ GE223.out | refine bS ?_ GE245.out) | exact HB.out)⟩⟩
                      case rest =>
                       clear HC48
                       try clear c5
                       try clear c5b0
                       try clear c9
                       try clear c9b0
                       try clear c9b1
                       try clear p10
                       try clear q10
                       try clear qi10
                       try clear c16
                       try clear c16b0
                       try clear c28
                       try clear c28b0
                       try clear c28b1
                       try clear c30
                       try clear c30b0
                       try clear c31
                       try clear c31b0
                       try clear c32
                       try clear c32b0
                       try clear c32b1
                       try clear c33
                       try clear c33b0
                       try clear c34
                       try clear c34b0
                       try clear c35
                       try clear c35b0
                       try clear q38
                       try clear c43
                       try clear c43b0
                       try clear c43b1
                       try clear c47
                       try clear hcz11_0
                       try clear hcz11_1
                       try clear hcz27_0
                       try clear hcz27_1
                       try clear hcz39_0
                       try clear hcz39_1
                       try clear hcz42_0
                       try clear hcz42_1
                       try clear hcz42_2
                       try clear hfz11
                       try clear hfz27
                       try clear hfz39
                       try clear hfz42
                       try clear hx10_0
                       try clear hx240_0
                       try clear hx244_0
                       try clear hx244_1
                       try clear hx244_2
                       try clear hx246_0
                       try clear p10
                       try clear p240
                       try clear p244
                       try clear p246
                       try clear q10
                       try clear q240
                       try clear q244
                       try clear q246
                       try clear q38
                       obtain ⟨kq, x86_47, rfl, HA, HJ47, HO_4, HO_6, BK223, BK245, HB⟩ := hcut
                       cases kq with
                       | zero => exact absurd HA.out (by simp [F3.j4])
                       | succ kj47 =>
                        have H := HA.out
                        clear HA
                        simp only [F3.j4] at H
                        by_cases c50 : x86_47 = true
                        ·subst c50
                         replace H : (if (rd x4_3 (rd x6_3 (ji29))) = 0 then (F3.j5 kj47 x4_3 y241 (rd x6_3 (ji29)) (rd x4_3 (rd x6_3 (ji29))) l0_0 l0_1 ((rd_T80 l0_0 (rd x6_3 (ji29))).f0) ((rd_T80 l0_0 (rd x6_3 (ji29))).f1) ((rd_T80 l0_0 (rd x6_3 (ji29))).f2)) else (some (([] : List Int), false))) = some (r1, r2) := by rw [if_pos rfl] at H; exact H
                         by_cases c51 : (rd x4_3 (rd x6_3 (ji29))) = 0
                         ·rw [if_pos c51] at H
                          have c51b0 : ((rd x4_3 (rd x6_3 (ji29))) == 0) = true := beq_iff_eq.mpr c51
                          have c51b1 : ((rd x4_3 (rd x6_3 (ji29))) != 0) = false := bne_eq_false_iff_eq.mpr c51
                          clear c51
                          have H' := As.mk H
                          clear H
                          go_wp2
                          go_meet
                          case rel => exact ⟨_, ((rd x4_3 (rd x6_3 (ji29)))), (by first | rfl | (simp; done) | (simp only [← hji29] <;> (first | rfl | simp)) | (simp [*]; done)), H', ⟨by have := HK1.out; have := HK2.out; have := HK3.out; have := HJ43.out; have := HJ47.out; first | omega | exact Nat.le_refl _⟩, ⟨by (try simp only [hl4_2]); (try simp only [hl4_3]); (with_reducible repeat (first | apply Kd.RA | apply Kd.RN | apply Kd.RD)); exact HO_4.out⟩, ⟨by (try simp only [hl4_2]); (try simp only [hl4_3]); (with_reducible repeat (first | apply Kd.RA | apply Kd.RN | apply Kd.RD)); exact HO_6.out⟩, ⟨by (try simp only [hl4_2]); (try simp only [hl4_3]); (with_reducible repeat (first | refine kD ?_ _ | refine kE ?_ | refine kA ?_ _)); exact BK223.out⟩, ⟨by (try simp only [hl4_2]); (try simp only [hl4_3]); (with_reducible repeat (first | refine kD ?_ _ | refine kE ?_ | refine kA ?_ _)); exact BK245.out⟩, ⟨by repeat (first | (with_reducible first | exact HB.out | apply bA | apply bD | apply bE | refine bS ?_ GE223.out | refine bS ?_ GE245.out) | exact HB.out)⟩⟩
                         ·rw [if_neg c51] at H
                          have c51b0 : ((rd x4_3 (rd x6_3 (ji29))) == 0) = false := beq_eq_false_iff_ne.mpr c51
                          have c51b1 : ((rd x4_3 (rd x6_3 (ji29))) != 0) = true := bne_iff_ne.mpr c51
                          simp only [Option.some.injEq, Prod.mk.injEq] at H
                          obtain ⟨rfl, rfl⟩ := H
                          go_wp2
                          go_ret2
                          exact ⟨_, by first | rfl | (simp [eN, eS] <;> rfl) | (simp only [← hji29]; first | rfl | (simp [eN, eS] <;> rfl)) | (simp [*, eN, eS] <;> rfl), by first | exact Kd.R_nil _ _ _ _ _ | exact Kd.N_nil _ _ _ _ _ | exact Kd.V_nil _ _ _ _ _ | exact Kd.Q_nil _ _ _ _ _ | exact Kd.S_nil _ _ _ _ _, by repeat (first | (with_reducible first | exact HB.out | apply bA | apply bD | apply bE | refine bS ?_ GE223.out | refine bS ?_ GE245.out) | exact HB.out)⟩
                        ·replace c50 := Bool.eq_false_iff.mpr c50
                         subst c50
                         replace H : (F3.j5 kj47 x4_3 y241 (rd x6_3 (ji29)) (rd x4_3 (rd x6_3 (ji29))) l0_0 l0_1 ((rd_T80 l0_0 (rd x6_3 (ji29))).f0) ((rd_T80 l0_0 (rd x6_3 (ji29))).f1) ((rd_T80 l0_0 (rd x6_3 (ji29))).f2)) = some (r1, r2) := by rw [if_neg (show ¬ (false = true) by decide)] at H; exact H
                         have H' := As.mk H
                         clear H
                         go_wp2
                         go_meet
                         case rel => exact ⟨_, ((rd x4_3 (rd x6_3 (ji29)))), (by first | rfl | (simp; done) | (simp only [← hji29] <;> (first | rfl | simp)) | (simp [*]; done)), H', ⟨by have := HK1.out; have := HK2.out; have := HK3.out; have := HJ43.out; have := HJ47.out; first | omega | exact Nat.le_refl _⟩, ⟨by (try simp only [hl4_2]); (try simp only [hl4_3]); (with_reducible repeat (first | apply Kd.RA | apply Kd.RN | apply Kd.RD)); exact HO_4.out⟩, ⟨by (try simp only [hl4_2]); (try simp only [hl4_3]); (with_reducible repeat (first | apply Kd.RA | apply Kd.RN | apply Kd.RD)); exact HO_6.out⟩, ⟨by (try simp only [hl4_2]); (try simp only [hl4_3]); (with_reducible repeat (first | refine kD ?_ _ | refine kE ?_ | refine kA ?_ _)); exact BK223.out⟩, ⟨by (try simp only [hl4_2]); (try simp only [hl4_3]); (with_reducible repeat (first | refine kD ?_ _ | refine kE ?_ | refine kA ?_ _)); exact BK245.out⟩, ⟨by repeat (first | (with_reducible first | exact HB.out | apply bA | apply bD | apply bE | refine bS ?_ GE223.out | refine bS ?_ GE245.out) | exact HB.out)⟩⟩
                 case rest =>
                  clear HC36
                  try clear c5
                  try clear c5b0
                  try clear c9
                  try clear c9b0
                  try clear c9b1
                  try clear p10
                  try clear q10
                  try clear qi10
                  try clear c16
                  try clear c16b0
                  try clear c28
                  try clear c28b0
                  try clear c28b1
                  try clear c30
                  try clear c30b0
                  try clear c31
                  try clear c31b0
                  try clear c32
                  try clear c32b0
                  try clear c32b1
                  try clear c33
                  try clear c33b0
                  try clear c34
                  try clear c34b0
                  try clear c35
                  try clear c35b0
                  try clear q38
                  try clear hcz11_0
                  try clear hcz11_1
                  try clear hcz27_0
                  try clear hcz27_1
                  try clear hcz39_0
                  try clear hcz39_1
                  try clear hcz42_0
                  try clear hcz42_1
                  try clear hcz42_2
                  try clear hfz11
                  try clear hfz27
                  try clear hfz39
                  try clear hfz42
                  try clear hx10_0
                  try clear hx240_0
                  try clear hx244_0
                  try clear hx244_1
                  try clear hx244_2
                  try clear hx246_0
                  try clear p10
                  try clear p240
                  try clear p244
                  try clear p246
                  try clear q10
                  try clear q240
                  try clear q244
                  try clear q246
                  try clear q38
                  obtain ⟨kq, x10_35, rfl, HA, HJ35, HO_4, HO_6, BK223, BK245, HB⟩ := hcut
                  cases kq with
                  | zero => exact absurd HA.out (by simp [F3.j5])
                  | succ kj35 =>
                   have H := HA.out
                   clear HA
                   simp only [F3.j5] at H
                   by_cases c52 : x10_35 < 0
                   ·rw [if_pos c52] at H
                    have c52b0 : decide (x10_35 < 0) = true := decide_eq_true c52
                    clear c52
                    simp only [Option.some.injEq, Prod.mk.injEq] at H
                    obtain ⟨rfl, rfl⟩ := H
                    go_wp2
                    go_ret2
                    exact ⟨_, by first | rfl | (simp [eN, eS] <;> rfl) | (simp only [← hji29]; first | rfl | (simp [eN, eS] <;> rfl)) | (simp [*, eN, eS] <;> rfl), by first | exact Kd.R_nil _ _ _ _ _ | exact Kd.N_nil _ _ _ _ _ | exact Kd.V_nil _ _ _ _ _ | exact Kd.Q_nil _ _ _ _ _ | exact Kd.S_nil _ _ _ _ _, by repeat (first | (with_reducible first | exact HB.out | apply bA | apply bD | apply bE | refine bS ?_ GE223.out | refine bS ?_ GE245.out) | exact HB.out)⟩
                   ·rw [if_neg c52] at H
                    have c52b0 : decide (x10_35 < 0) = false := decide_eq_false c52
                    clear c52
                    replace H := Option.bind_eq_some_iff.mp H
                    obtain ⟨t247, A530, H⟩ := H
                    replace H : (F3.l3 kj35 x4_3 y241 x10_35 t247 0 l0_0 l0_1) = some (r1, r2) := H
                    have A53 := As.mk A530
                    clear A530
                    have H' := As.mk H
                    clear H
                    have hnb54 := NB245_223.out
                    have hnc54 := NB223_245.out
                    have hcz55_0 : wc.cell? ⟨gb245, 0, none⟩ = some (.int .i64 ((rd_T80 l0_0 (rd x6_3 (ji29))).f0)) := (kC BK245.out 0).trans rfl
                    have hcz55_1 : wc.cell? ⟨gb245, 1, none⟩ = some (.int .i64 ((rd_T80 l0_0 (rd x6_3 (ji29))).f1)) := (kC BK245.out 1).trans rfl
                    have hcz55_2 : wc.cell? ⟨gb245, 2, none⟩ = some (.string ((rd_T80 l0_0 (rd x6_3 (ji29))).f2)) := (kC BK245.out 2).trans rfl
                    have hfz55 := kF BK245.out
                    go_wp2_with (first | ((with_reducible refine gC (f := 50) rfl ?_); refine gL (some 95) rfl rfl Try.func50 (by kernel_rfl) rfl #[.agg #[.int .i64 ((rd_T80 l0_0 (rd x6_3 (ji29))).f0), .int .i64 ((rd_T80 l0_0 (rd x6_3 (ji29))).f1), .string ((rd_T80 l0_0 (rd x6_3 (ji29))).f2)], .int .i64 (rd x6_3 (ji29))] rfl (by (try simp only [sm1, sm2, sm3]); first | done | (simp only [hji29]; rfl) | rfl | (simp only [List.length_drop, List.length_take]; rfl)) ?_; (with_reducible refine (F22.calls kj35 ((rd_T80 l0_0 (rd x6_3 (ji29))).f0) ((rd_T80 l0_0 (rd x6_3 (ji29))).f1) ((rd_T80 l0_0 (rd x6_3 (ji29))).f2) (rd x6_3 (ji29)) t247 _ A53.out).mono ?_); rintro e w56 ⟨v248, rfl, ho0, hb⟩; refine ⟨_, rfl, ?_⟩; have HO249 := As.mk (Kd.R_lower (Kd.R_new' (Kd.R_new' ho0 (Kd.R_lt (by (with_reducible repeat (first | apply Kd.RA | apply Kd.RN | apply Kd.RD)); exact HO_4.out))) (Kd.R_lt (by (with_reducible repeat (first | apply Kd.RA | apply Kd.RN | apply Kd.RD)); exact HO_6.out))) (bZ (by repeat (first | (with_reducible first | exact HB.out | apply bA | apply bD | apply bE | refine bS ?_ GE223.out | refine bS ?_ GE245.out) | exact HB.out)))); replace HO_4 := As.mk (Kd.R_elder' (by (with_reducible repeat (first | apply Kd.RA | apply Kd.RN | apply Kd.RD)); exact HO_4.out) (Kd.R_base ho0) hb); replace HO_6 := As.mk (Kd.R_elder' (by (with_reducible repeat (first | apply Kd.RA | apply Kd.RN | apply Kd.RD)); exact HO_6.out) (Kd.R_base ho0) hb); replace BK223 := As.mk (kB (g := gb223) (o := .cells #[.slice (some ad244) l0_0.length c0_0, .slice A0_1 l0_1.length c0_1] 31 (0, 0)) (by (with_reducible repeat (first | refine kD ?_ _ | refine kE ?_ | refine kA ?_ _)); exact BK223.out) hb); replace BK245 := As.mk (kB (g := gb245) (o := .cells #[.int .i64 ((rd_T80 l0_0 (rd x6_3 (ji29))).f0), .int .i64 ((rd_T80 l0_0 (rd x6_3 (ji29))).f1), .string ((rd_T80 l0_0 (rd x6_3 (ji29))).f2)] 80 (0, 0)) (by (with_reducible repeat (first | refine kD ?_ _ | refine kE ?_ | refine kA ?_ _)); exact BK245.out) hb); replace HB := As.mk (bT (by repeat (first | (with_reducible first | exact HB.out | apply bA | apply bD | apply bE | refine bS ?_ GE223.out | refine bS ?_ GE245.out) | exact HB.out)) hb); (try clear hb); (try clear hk); (try clear ho0)))
                    go_loopg [6, 12] kj35 (fun kq v6 v12 w' => ∃ (x4_5 : List Int) (x6_5 : List Int) (x12_5 : Int), v12 = .int .i64 x12_5 ∧ As (F3.l3 kq x4_5 x6_5 x10_35 t247 x12_5 l0_0 l0_1 = some (r1, r2)) ∧ As (kq ≤ kj35) ∧ As (Kd.R (Kd.int .i64) 2 w' w.heap.size (fun k_ => some k_ ≠ (v6 : Value).ownBlock ∧ some k_ ≠ (v248 : Value).ownBlock) (.slice (some ⟨go10, 0, none⟩) x4_3.length co10) x4_5) ∧ As (Kd.R (Kd.int .i64) 2 w' w.heap.size (fun k_ => some k_ ≠ ((.slice (some ⟨go10, 0, none⟩) x4_3.length co10) : Value).ownBlock ∧ some k_ ≠ (v248 : Value).ownBlock) v6 x6_5) ∧ As (Kd.R (Kd.int .i64) 2 w' w.heap.size (fun k_ => some k_ ≠ ((.slice (some ⟨go10, 0, none⟩) x4_3.length co10) : Value).ownBlock ∧ some k_ ≠ (v6 : Value).ownBlock) v248 t247) ∧ As (w'.heap[gb223]? = some (.cells #[(.slice (some ad244) l0_0.length c0_0), (.slice A0_1 l0_1.length c0_1)] 31 (0, 0))) ∧ As (w'.heap[gb245]? = some (.cells #[.int .i64 ((rd_T80 l0_0 (rd x6_3 (ji29))).f0), .int .i64 ((rd_T80 l0_0 (rd x6_3 (ji29))).f1), .string ((rd_T80 l0_0 (rd x6_3 (ji29))).f2)] 80 (0, 0))) ∧ As (Below w.heap.size w w'))
                    case atStart => exact ⟨(x4_3), (y241), (0), (by first | rfl | (simp; done) | (simp [*]; done)), H', ⟨Nat.le_refl _⟩, ⟨by (try simp only [hl4_2]); (try simp only [hl4_3]); (with_reducible repeat (first | apply Kd.RA | apply Kd.RN | apply Kd.RD)); exact HO_4.out⟩, ⟨by (try simp only [hl4_2]); (try simp only [hl4_3]); (with_reducible repeat (first | apply Kd.RA | apply Kd.RN | apply Kd.RD)); exact HO_6.out⟩, ⟨by (try simp only [hl4_2]); (try simp only [hl4_3]); (with_reducible repeat (first | apply Kd.RA | apply Kd.RN | apply Kd.RD)); exact Kd.R_mono HO249.out (fun _ hk => ⟨hk.1.2, hk.2⟩)⟩, ⟨by (try simp only [hl4_2]); (try simp only [hl4_3]); (with_reducible repeat (first | refine kD ?_ _ | refine kE ?_ | refine kA ?_ _)); exact BK223.out⟩, ⟨by (try simp only [hl4_2]); (try simp only [hl4_3]); (with_reducible repeat (first | refine kD ?_ _ | refine kE ?_ | refine kA ?_ _)); exact BK245.out⟩, ⟨by repeat (first | (with_reducible first | exact HB.out | apply bA | apply bD | apply bE | refine bS ?_ GE223.out | refine bS ?_ GE245.out) | exact HB.out)⟩⟩
                    case round =>
                     clear H'
                     try clear c5
                     try clear c5b0
                     try clear c9
                     try clear c9b0
                     try clear c9b1
                     try clear p10
                     try clear q10
                     try clear qi10
                     try clear c16
                     try clear c16b0
                     try clear c28
                     try clear c28b0
                     try clear c28b1
                     try clear c30
                     try clear c30b0
                     try clear c31
                     try clear c31b0
                     try clear c32
                     try clear c32b0
                     try clear c32b1
                     try clear c33
                     try clear c33b0
                     try clear c34
                     try clear c34b0
                     try clear c35
                     try clear c35b0
                     try clear q38
                     try clear c52
                     try clear c52b0
                     try clear hcz11_0
                     try clear hcz11_1
                     try clear hcz27_0
                     try clear hcz27_1
                     try clear hcz39_0
                     try clear hcz39_1
                     try clear hcz42_0
                     try clear hcz42_1
                     try clear hcz42_2
                     try clear hcz55_0
                     try clear hcz55_1
                     try clear hcz55_2
                     try clear hfz11
                     try clear hfz27
                     try clear hfz39
                     try clear hfz42
                     try clear hfz55
                     try clear hx10_0
                     try clear hx240_0
                     try clear hx244_0
                     try clear hx244_1
                     try clear hx244_2
                     try clear hx246_0
                     try clear p10
                     try clear p240
                     try clear p244
                     try clear p246
                     try clear q10
                     try clear q240
                     try clear q244
                     try clear q246
                     try clear q38
                     obtain ⟨x4_5, x6_5, x12_5, rfl, HA, HK5, HO_4, HO_6, HO_11, BK223, BK245, HB⟩ := hrel
                     have hl4_5 := (Kd.RR HO_4.out).1
                     rw [hl4_5] at HO_4
                     (try simp only [hl4_5])
                     (try simp only [hl4_5] at BK223)
                     (try simp only [hl4_5] at BK245)
                     (try simp only [hl4_5] at HO_6)
                     (try simp only [hl4_5] at HO_11)
                     cases gk with
                     | zero => exact absurd HA.out (by simp [F3.l3])
                     | succ k5 =>
                      have H := HA.out
                      clear HA
                      simp only [F3.l3] at H
                      by_cases c57 : x12_5 < (t247.length : Int)
                      ·rw [if_pos c57] at H
                       have c57b0 : decide (x12_5 < (t247.length : Int)) = true := decide_eq_true c57
                       clear c57
                       by_cases c58 : 0 ≤ x12_5
                       ·rw [if_pos c58] at H
                        have c58b0 : decide (0 ≤ x12_5) = true := decide_eq_true c58
                        clear c58
                        by_cases c59 : 0 ≤ (rd t247 x12_5)
                        ·rw [if_pos c59] at H
                         have c59b0 : decide (0 ≤ (rd t247 x12_5)) = true := decide_eq_true c59
                         clear c59
                         by_cases c60 : (rd t247 x12_5) < (x4_5.length : Int)
                         ·rw [if_pos c60] at H
                          have c60b0 : decide ((rd t247 x12_5) < (x4_5.length : Int)) = true := decide_eq_true c60
                          clear c60
                          by_cases c61 : (rd x4_5 (rd t247 x12_5)) = (-1)
                          ·rw [if_pos c61] at H
                           have c61b0 : ((rd x4_5 (rd t247 x12_5)) == (-1)) = true := beq_iff_eq.mpr c61
                           have c61b1 : ((rd x4_5 (rd t247 x12_5)) != (-1)) = false := bne_eq_false_iff_eq.mpr c61
                           clear c61
                           obtain ⟨y253, hy253⟩ : ∃ y_ : List Int, y_ = (x4_5.set ((rd t247 x12_5) : Int).toNat x10_35) := ⟨_, rfl⟩
                           replace H : (if x6_5.length < 17592186044416 then (F3.l3 k5 y253 (x6_5 ++ [rd t247 x12_5]) x10_35 t247 (wrap64 (x12_5 + 1)) l0_0 l0_1) else (none)) = some (r1, r2) := by first | (rw [hy253]; with_reducible exact H) | (have H2_ := (Option.bind_some _ _).symm.trans H; rw [hy253]; with_reducible exact H2_) | (have H2_ := (Option.bind_some _ _).symm.trans H; with_reducible exact H2_) | with_reducible exact H | (rw [hy253]; exact H) | exact H
                           have Ny253 := As.mk hy253
                           clear hy253
                           by_cases c63 : x6_5.length < 17592186044416
                           ·rw [if_pos c63] at H
                            have LMc63 := As.mk c63
                            clear c63
                            obtain ⟨y255, hy255⟩ : ∃ y_ : List Int, y_ = (x6_5 ++ [rd t247 x12_5]) := ⟨_, rfl⟩
                            replace H : (F3.l3 k5 y253 y255 x10_35 t247 (wrap64 (x12_5 + 1)) l0_0 l0_1) = some (r1, r2) := by first | (rw [hy255]; with_reducible exact H) | (have H2_ := (Option.bind_some _ _).symm.trans H; rw [hy255]; with_reducible exact H2_) | (have H2_ := (Option.bind_some _ _).symm.trans H; with_reducible exact H2_) | with_reducible exact H | (rw [hy255]; exact H) | exact H
                            have Ny255 := As.mk hy255
                            clear hy255
                            have H' := As.mk H
                            clear H
                            obtain ⟨Ao64, co64, eo64⟩ := Kd.R_slice HO_11.out
                            subst eo64
                            have p250 : 0 ≤ (x12_5 : Int) := of_decide_eq_true (by first | (with_reducible assumption) | assumption)
                            have q250 : x12_5 < (t247.length : Int) := of_decide_eq_true (by first | (with_reducible assumption) | assumption)
                            obtain ⟨ad250, e250, hx250_0⟩ := Kd.at_int (Kd.RR HO_11.out).2.2 x12_5 p250 q250
                            cases e250
                            replace p250 := eq_true p250
                            replace q250 := eq_true q250
                            have p251 : 0 ≤ ((rd t247 x12_5) : Int) := of_decide_eq_true (by first | (with_reducible assumption) | assumption)
                            have q251 : (rd t247 x12_5) < (x4_5.length : Int) := of_decide_eq_true (by first | (with_reducible assumption) | assumption)
                            obtain ⟨ad251, e251, hx251_0⟩ := Kd.at_int (Kd.RR HO_4.out).2.2 (rd t247 x12_5) p251 q251
                            obtain rfl : (⟨go10, 0, none⟩ : Addr) = ad251 := (by injection e251)
                            (first | simp only [add_plain] at hx251_0 | simp only [add_at] at hx251_0 | simp only [Addr.add, Nat.zero_add] at hx251_0 | skip)
                            replace p251 := eq_true p251
                            replace q251 := eq_true q251
                            have p252 : 0 ≤ (x12_5 : Int) := of_decide_eq_true (by first | (with_reducible assumption) | assumption)
                            have q252 : x12_5 < (t247.length : Int) := of_decide_eq_true (by first | (with_reducible assumption) | assumption)
                            obtain ⟨ad252, e252, hx252_0⟩ := Kd.at_int (Kd.RR HO_11.out).2.2 x12_5 p252 q252
                            obtain rfl : ad250 = ad252 := (by injection e252)
                            replace p252 := eq_true p252
                            replace q252 := eq_true q252
                            have p62 : 0 ≤ ((rd t247 x12_5) : Int) := of_decide_eq_true (by first | (with_reducible assumption) | assumption)
                            have q62 : ((rd t247 x12_5) : Int) < ((x4_5.length : Int) : Int) := of_decide_eq_true (by first | (with_reducible assumption) | assumption)
                            obtain ⟨hx62_0, hf62_0⟩ := Kd.R_celln 0 HO_4.out ((rd t247 x12_5) : Int) p62 q62
                            replace p62 := eq_true p62
                            replace q62 := eq_true q62
                            have HP65 := Kd.R_putg HO_4.out ((rd t247 x12_5) : Int) x10_35
                            go_wp2_with (first | ((with_reducible refine gS (t := 2) (p := 117) rfl ?_); refine sE (t := 2) (p := 117) (v := ?vo_w66) (w1 := (wr.setCell ⟨go10, ((rd t247 x12_5) : Int).toNat, none⟩ (.int .i64 x10_35))) ?hg ?ho ?hn ?hr ?_; (case ho => rfl); (case hg => rfl); (case hn => rfl); (case hr =>  first | (go_simp; done) | (go_simp; rfl)); intro w66 hw; have hg : wr.grownBy w66 (some go10) := (by rw [hw]; exact HP65.2); have hp_ : Kd.R (Kd.int .i64) 2 w66 w.heap.size (fun k_ => some k_ ≠ (u6 : Value).ownBlock ∧ some k_ ≠ (.slice (some ad250) t247.length co64 : Value).ownBlock) (.slice (some ⟨go10, 0, none⟩) x4_5.length co10) y253 := (by rw [hw, Ny253.out]; exact HP65.1); clear HP65; replace HO_6 := As.mk (Kd.R_after (v := (.slice (some ⟨go10, 0, none⟩) x4_5.length co10)) (v1 := (.slice (some ⟨go10, 0, none⟩) x4_5.length co10)) (ok := (fun k_ => some k_ ≠ (.slice (some ad250) t247.length co64 : Value).ownBlock)) (by (with_reducible repeat (first | apply Kd.RA | apply Kd.RN | apply Kd.RD)); exact Kd.R_mono HO_6.out (fun _ hk => ⟨hk.2, hk.1⟩)) hg (.inl rfl)); replace HO_11 := As.mk (Kd.R_after (v := (.slice (some ⟨go10, 0, none⟩) x4_5.length co10)) (v1 := (.slice (some ⟨go10, 0, none⟩) x4_5.length co10)) (ok := (fun k_ => some k_ ≠ (u6 : Value).ownBlock)) (by (with_reducible repeat (first | apply Kd.RA | apply Kd.RN | apply Kd.RD)); exact Kd.R_mono HO_11.out (fun _ hk => ⟨hk.2, hk.1⟩)) hg (.inl rfl)); replace BK223 := As.mk (blk_grown (g := gb223) (o := .cells #[.slice (some ad244) l0_0.length c0_0, .slice A0_1 l0_1.length c0_1] 31 (0, 0)) (by (with_reducible repeat (first | refine kD ?_ _ | refine kE ?_ | refine kA ?_ _)); exact BK223.out) hg (Kd.R_ne HO_4.out BK223.out (by decide))); replace BK245 := As.mk (blk_grown (g := gb245) (o := .cells #[.int .i64 ((rd_T80 l0_0 (rd x6_3 (ji29))).f0), .int .i64 ((rd_T80 l0_0 (rd x6_3 (ji29))).f1), .string ((rd_T80 l0_0 (rd x6_3 (ji29))).f2)] 80 (0, 0)) (by (with_reducible repeat (first | refine kD ?_ _ | refine kE ?_ | refine kA ?_ _)); exact BK245.out) hg (Kd.R_ne HO_4.out BK245.out (by decide))); replace HO_4 := As.mk (hp_); replace HB := As.mk ((by rw [hw]; exact bS (HB.out) GB10.out : Below w.heap.size w w66)); clear hg hw hp_; have p254 : 0 ≤ (x12_5 : Int) := of_decide_eq_true (by first | (with_reducible assumption) | assumption); have q254 : x12_5 < (t247.length : Int) := of_decide_eq_true (by first | (with_reducible assumption) | assumption); obtain ⟨ad254, e254, hx254_0⟩ := Kd.at_int (Kd.RR HO_11.out).2.2 x12_5 p254 q254; obtain rfl : ad250 = ad254 := (by injection e254); replace p254 := eq_true p254; replace q254 := eq_true q254) | ((with_reducible refine gB (b := .append) (xs := #[.tmp 118, .tmp 123]) rfl ?_); at_builtin; refine Kd.R_append (Kd.int .i64) (w0 := w) w.heap.size rfl (.tmp 118) (.tmp 123) 35 2 (.int .i64 0) 8 rfl Try.underlying35 info2 rfl (by decide) (by omega) u6 x6_5 (rd t247 x12_5) [.int .i64 (rd t247 x12_5)] (fun k_ => some k_ ≠ (.slice (some ⟨go10, 0, none⟩) x4_5.length co10 : Value).ownBlock ∧ some k_ ≠ (.slice (some ad250) t247.length co64 : Value).ownBlock) (fun _ => False) rfl rfl ?aP (fun _ hk => hk.elim) ?aF ?aO ?aB ?aS ?aL ?_; (case aP => exact rfl); (case aB => exact (by repeat (first | (with_reducible first | exact HB.out | apply bA | apply bD | apply bE | refine bS ?_ GE223.out | refine bS ?_ GE245.out) | exact HB.out))); (case aF => exact (fun k_ hk => ⟨Kd.fresh' (Kd.R_lt (by (with_reducible repeat (first | apply Kd.RA | apply Kd.RN | apply Kd.RD)); exact HO_4.out)) k_ hk, Kd.fresh' (Kd.R_lt (by (with_reducible repeat (first | apply Kd.RA | apply Kd.RN | apply Kd.RD)); exact HO_11.out)) k_ hk⟩)); (case aO => exact (by (with_reducible repeat (first | apply Kd.RA | apply Kd.RN | apply Kd.RD)); exact Kd.R_mono HO_6.out (fun _ hk => ⟨hk.2, hk.1⟩))); (case aS => exact (bZ (by repeat (first | (with_reducible first | exact HB.out | apply bA | apply bD | apply bE | refine bS ?_ GE223.out | refine bS ?_ GE245.out) | exact HB.out)))); (case aL => have := LMc63.out; omega); intro v256 w67 ho hb hg hat; rw [← Ny255.out] at ho; have n0_ := As.mk (Kd.R_after (ok := (fun k_ => some k_ ≠ (.slice (some ad250) t247.length co64 : Value).ownBlock)) (by (with_reducible repeat (first | apply Kd.RA | apply Kd.RN | apply Kd.RD)); exact Kd.R_mono HO_4.out (fun _ hk => ⟨hk.2, hk.1⟩)) hg hat); have n1_ := As.mk (Kd.R_after (ok := (fun k_ => some k_ ≠ (.slice (some ⟨go10, 0, none⟩) x4_5.length co10 : Value).ownBlock)) (by (with_reducible repeat (first | apply Kd.RA | apply Kd.RN | apply Kd.RD)); exact Kd.R_mono HO_11.out (fun _ hk => ⟨hk.2, hk.1⟩)) hg hat); have n2_ := As.mk (blk_grown (g := gb223) (o := .cells #[.slice (some ad244) l0_0.length c0_0, .slice A0_1 l0_1.length c0_1] 31 (0, 0)) (by (with_reducible repeat (first | refine kD ?_ _ | refine kE ?_ | refine kA ?_ _)); exact BK223.out) hg (Kd.R_ne HO_6.out BK223.out (by decide))); have n3_ := As.mk (blk_grown (g := gb245) (o := .cells #[.int .i64 ((rd_T80 l0_0 (rd x6_3 (ji29))).f0), .int .i64 ((rd_T80 l0_0 (rd x6_3 (ji29))).f1), .string ((rd_T80 l0_0 (rd x6_3 (ji29))).f2)] 80 (0, 0)) (by (with_reducible repeat (first | refine kD ?_ _ | refine kE ?_ | refine kA ?_ _)); exact BK245.out) hg (Kd.R_ne HO_6.out BK245.out (by decide))); have n4_ := As.mk (hb); have n5_ := As.mk (ho); clear HO_4; clear HO_11; clear BK223; clear BK245; clear HB; clear HO_6; have HO_4 := n0_; have HO_11 := n1_; have BK223 := n2_; have BK245 := n3_; have HB := n4_; have HO257 := n5_; clear n0_ n1_ n2_ n3_ n4_ n5_; clear ho hb hg hat))
                            (try simp only [← hl4_5])
                            go_roundg k5
                            case measure => have := HK1.out; have := HK2.out; have := HK3.out; have := HJ35.out; have := HK5.out; omega
                            case rel => exact ⟨(y253), (y255), (wrap64 (x12_5 + 1)), (by first | rfl | (simp; done) | (simp [*]; done)), H', ⟨by have := HK1.out; have := HK2.out; have := HK3.out; have := HJ35.out; have := HK5.out; omega⟩, ⟨by (try simp only [hl4_2]); (try simp only [hl4_3]); (try simp only [hl4_5]); (with_reducible repeat (first | apply Kd.RA | apply Kd.RN | apply Kd.RD)); exact Kd.R_mono HO_4.out (fun _ hk => ⟨hk.2, hk.1⟩)⟩, ⟨by (try simp only [hl4_2]); (try simp only [hl4_3]); (try simp only [hl4_5]); (with_reducible repeat (first | apply Kd.RA | apply Kd.RN | apply Kd.RD)); exact HO257.out⟩, ⟨by (try simp only [hl4_2]); (try simp only [hl4_3]); (try simp only [hl4_5]); (with_reducible repeat (first | apply Kd.RA | apply Kd.RN | apply Kd.RD)); exact HO_11.out⟩, ⟨by (try simp only [hl4_2]); (try simp only [hl4_3]); (try simp only [hl4_5]); (with_reducible repeat (first | refine kD ?_ _ | refine kE ?_ | refine kA ?_ _)); exact BK223.out⟩, ⟨by (try simp only [hl4_2]); (try simp only [hl4_3]); (try simp only [hl4_5]); (with_reducible repeat (first | refine kD ?_ _ | refine kE ?_ | refine kA ?_ _)); exact BK245.out⟩, ⟨by repeat (first | (with_reducible first | exact HB.out | apply bA | apply bD | apply bE | refine bS ?_ GE223.out | refine bS ?_ GE245.out) | exact HB.out)⟩⟩
                           ·rw [if_neg c63] at H
                            exact absurd H (by simp)
                          ·rw [if_neg c61] at H
                           have c61b0 : ((rd x4_5 (rd t247 x12_5)) == (-1)) = false := beq_eq_false_iff_ne.mpr c61
                           have c61b1 : ((rd x4_5 (rd t247 x12_5)) != (-1)) = true := bne_iff_ne.mpr c61
                           by_cases c68 : (rd x4_5 (rd t247 x12_5)) = x10_35
                           ·rw [if_pos c68] at H
                            have c68b0 : ((rd x4_5 (rd t247 x12_5)) == x10_35) = true := beq_iff_eq.mpr c68
                            have c68b1 : ((rd x4_5 (rd t247 x12_5)) != x10_35) = false := bne_eq_false_iff_eq.mpr c68
                            clear c68
                            have H' := As.mk H
                            clear H
                            obtain ⟨Ao69, co69, eo69⟩ := Kd.R_slice HO_11.out
                            subst eo69
                            have p250 : 0 ≤ (x12_5 : Int) := of_decide_eq_true (by first | (with_reducible assumption) | assumption)
                            have q250 : x12_5 < (t247.length : Int) := of_decide_eq_true (by first | (with_reducible assumption) | assumption)
                            obtain ⟨ad250, e250, hx250_0⟩ := Kd.at_int (Kd.RR HO_11.out).2.2 x12_5 p250 q250
                            cases e250
                            replace p250 := eq_true p250
                            replace q250 := eq_true q250
                            have p251 : 0 ≤ ((rd t247 x12_5) : Int) := of_decide_eq_true (by first | (with_reducible assumption) | assumption)
                            have q251 : (rd t247 x12_5) < (x4_5.length : Int) := of_decide_eq_true (by first | (with_reducible assumption) | assumption)
                            obtain ⟨ad251, e251, hx251_0⟩ := Kd.at_int (Kd.RR HO_4.out).2.2 (rd t247 x12_5) p251 q251
                            obtain rfl : (⟨go10, 0, none⟩ : Addr) = ad251 := (by injection e251)
                            (first | simp only [add_plain] at hx251_0 | simp only [add_at] at hx251_0 | simp only [Addr.add, Nat.zero_add] at hx251_0 | skip)
                            replace p251 := eq_true p251
                            replace q251 := eq_true q251
                            go_wp2
                            (try simp only [← hl4_5])
                            go_roundg k5
                            case measure => have := HK1.out; have := HK2.out; have := HK3.out; have := HJ35.out; have := HK5.out; omega
                            case rel => exact ⟨(x4_5), (x6_5), (wrap64 (x12_5 + 1)), (by first | rfl | (simp; done) | (simp [*]; done)), H', ⟨by have := HK1.out; have := HK2.out; have := HK3.out; have := HJ35.out; have := HK5.out; omega⟩, ⟨by (try simp only [hl4_2]); (try simp only [hl4_3]); (try simp only [hl4_5]); (with_reducible repeat (first | apply Kd.RA | apply Kd.RN | apply Kd.RD)); exact HO_4.out⟩, ⟨by (try simp only [hl4_2]); (try simp only [hl4_3]); (try simp only [hl4_5]); (with_reducible repeat (first | apply Kd.RA | apply Kd.RN | apply Kd.RD)); exact HO_6.out⟩, ⟨by (try simp only [hl4_2]); (try simp only [hl4_3]); (try simp only [hl4_5]); (with_reducible repeat (first | apply Kd.RA | apply Kd.RN | apply Kd.RD)); exact HO_11.out⟩, ⟨by (try simp only [hl4_2]); (try simp only [hl4_3]); (try simp only [hl4_5]); (with_reducible repeat (first | refine kD ?_ _ | refine kE ?_ | refine kA ?_ _)); exact BK223.out⟩, ⟨by (try simp only [hl4_2]); (try simp only [hl4_3]); (try simp only [hl4_5]); (with_reducible repeat (first | refine kD ?_ _ | refine kE ?_ | refine kA ?_ _)); exact BK245.out⟩, ⟨by repeat (first | (with_reducible first | exact HB.out | apply bA | apply bD | apply bE | refine bS ?_ GE223.out | refine bS ?_ GE245.out) | exact HB.out)⟩⟩
                           ·rw [if_neg c68] at H
                            have c68b0 : ((rd x4_5 (rd t247 x12_5)) == x10_35) = false := beq_eq_false_iff_ne.mpr c68
                            have c68b1 : ((rd x4_5 (rd t247 x12_5)) != x10_35) = true := bne_iff_ne.mpr c68
                            simp only [Option.some.injEq, Prod.mk.injEq] at H
                            obtain ⟨rfl, rfl⟩ := H
                            obtain ⟨Ao70, co70, eo70⟩ := Kd.R_slice HO_11.out
                            subst eo70
                            have p250 : 0 ≤ (x12_5 : Int) := of_decide_eq_true (by first | (with_reducible assumption) | assumption)
                            have q250 : x12_5 < (t247.length : Int) := of_decide_eq_true (by first | (with_reducible assumption) | assumption)
                            obtain ⟨ad250, e250, hx250_0⟩ := Kd.at_int (Kd.RR HO_11.out).2.2 x12_5 p250 q250
                            cases e250
                            replace p250 := eq_true p250
                            replace q250 := eq_true q250
                            have p251 : 0 ≤ ((rd t247 x12_5) : Int) := of_decide_eq_true (by first | (with_reducible assumption) | assumption)
                            have q251 : (rd t247 x12_5) < (x4_5.length : Int) := of_decide_eq_true (by first | (with_reducible assumption) | assumption)
                            obtain ⟨ad251, e251, hx251_0⟩ := Kd.at_int (Kd.RR HO_4.out).2.2 (rd t247 x12_5) p251 q251
                            obtain rfl : (⟨go10, 0, none⟩ : Addr) = ad251 := (by injection e251)
                            (first | simp only [add_plain] at hx251_0 | simp only [add_at] at hx251_0 | simp only [Addr.add, Nat.zero_add] at hx251_0 | skip)
                            replace p251 := eq_true p251
                            replace q251 := eq_true q251
                            go_wp2
                            go_ret2
                            exact ⟨_, by first | rfl | (simp [eN, eS] <;> rfl) | (simp only [← hji29]; first | rfl | (simp [eN, eS] <;> rfl)) | (simp [*, eN, eS] <;> rfl), by first | exact Kd.R_nil _ _ _ _ _ | exact Kd.N_nil _ _ _ _ _ | exact Kd.V_nil _ _ _ _ _ | exact Kd.Q_nil _ _ _ _ _ | exact Kd.S_nil _ _ _ _ _, by repeat (first | (with_reducible first | exact HB.out | apply bA | apply bD | apply bE | refine bS ?_ GE223.out | refine bS ?_ GE245.out) | exact HB.out)⟩
                         ·rw [if_neg c60] at H
                          exact absurd H (by simp)
                        ·rw [if_neg c59] at H
                         exact absurd H (by simp)
                       ·rw [if_neg c58] at H
                        exact absurd H (by simp)
                      ·rw [if_neg c57] at H
                       have c57b0 : decide (x12_5 < (t247.length : Int)) = false := decide_eq_false c57
                       clear c57
                       have H' := As.mk H
                       clear H
                       obtain ⟨Ao71, co71, eo71⟩ := Kd.R_slice HO_11.out
                       subst eo71
                       go_wp2
                       (try simp only [← hl4_3, ← hl4_5])
                       go_roundg k5
                       case measure => have := HK1.out; have := HK2.out; have := HK3.out; have := HJ35.out; have := HK5.out; omega
                       case rel => exact ⟨(x4_5), (x6_5), H', ⟨by have := HK1.out; have := HK2.out; have := HK3.out; have := HJ35.out; have := HK5.out; omega⟩, ⟨by (try simp only [hl4_2]); (try simp only [hl4_3]); (try simp only [hl4_5]); (with_reducible repeat (first | apply Kd.RA | apply Kd.RN | apply Kd.RD)); exact Kd.R_mono HO_4.out (fun _ hk => hk.1)⟩, ⟨by (try simp only [hl4_2]); (try simp only [hl4_3]); (try simp only [hl4_5]); (with_reducible repeat (first | apply Kd.RA | apply Kd.RN | apply Kd.RD)); exact Kd.R_mono HO_6.out (fun _ hk => hk.1)⟩, ⟨by (try simp only [hl4_2]); (try simp only [hl4_3]); (try simp only [hl4_5]); (with_reducible repeat (first | refine kD ?_ _ | refine kE ?_ | refine kA ?_ _)); exact BK223.out⟩, ⟨by repeat (first | (with_reducible first | exact HB.out | apply bA | apply bD | apply bE | refine bS ?_ GE223.out | refine bS ?_ GE245.out) | exact HB.out)⟩⟩
                ·rw [if_neg c35] at H
                 exact absurd H (by simp)
               ·rw [if_neg c34] at H
                exact absurd H (by simp)
              ·rw [if_neg c33] at H
               exact absurd H (by simp)
             ·rw [if_neg c32] at H
              exact absurd H (by simp)
            ·rw [if_neg c31] at H
             exact absurd H (by simp)
           ·rw [if_neg c30] at H
            exact absurd H (by simp)
          ·rw [if_neg c28] at H
           have c28b0 : decide (0 < (x6_3.length : Int)) = false := decide_eq_false c28
           have c28b1 : decide (0 < x6_3.length) = false := decide_eq_false (by omega)
           clear c28
           simp only [Option.some.injEq, Prod.mk.injEq] at H
           obtain ⟨rfl, rfl⟩ := H
           obtain ⟨Ao72, co72, eo72⟩ := Kd.R_slice HO_6.out
           subst eo72
           go_wp2
           go_ret2
           exact ⟨_, by first | rfl | (simp [eN, eS] <;> rfl) | (simp [*, eN, eS] <;> rfl), by (with_reducible repeat (first | apply Kd.RA | apply Kd.RN | apply Kd.RD)); exact Kd.R_mono HO_4.out (fun _ hk => trivial), by repeat (first | (with_reducible first | exact HB.out | apply bA | apply bD | apply bE | refine bS ?_ GE223.out) | exact HB.out)⟩
    ·rw [if_neg c9] at H
     exact absurd H (by simp)
end Go.Proofs.Ytbamjjaamjfnaaa.PFnExactNewMatcher
