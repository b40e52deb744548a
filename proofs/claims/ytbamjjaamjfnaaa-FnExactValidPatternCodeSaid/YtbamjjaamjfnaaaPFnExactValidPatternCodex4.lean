/- By a program of this session: for each Go function that the law reaches, a Lean function with the same answers, and that the code comes to exactly these answers. Conditions: none beyond each statement. -/
import Derived.Test.YtbamjjaamjfnaaaPFnExactValidPatternCodex0
import Derived.Test.YtbamjjaamjfnaaaPFnExactValidPatternCodex1
import Derived.Test.YtbamjjaamjfnaaaPFnExactValidPatternCodex2
import Derived.Test.YtbamjjaamjfnaaaPFnExactValidPatternCodex3
namespace Go.Proofs.Ytbamjjaamjfnaaa.PFnExactValidPatternCode
open Go.RowKit Go.Proofs.YtbamjjaamjfnaaaW.PrintWords Go.Proofs.YtbamjjaamjfnaaaW.PrintLast Go.Proofs.YtbamjjaamjfnaaaW.PrintMore
set_option maxHeartbeats 8000000
set_option maxRecDepth 100000
attribute [local go_sem] max2_int min2_int max_two min_two max_three min_three max_four min_four   -- for this text's walks alone
set_option linter.unusedVariables false
set_option linter.unusedSimpArgs false
mutual
def F1.j0 : Nat → Int → Bool → List (S80) → List (S77) → Option (Bool)
 | 0, _, _, _, _ => none
 | k + 1, x3, x23, x133000, x133001 => if x23 = true then (some false) else (F1.l0 k x3 0 x133000 x133001)
def F1.l0 : Nat → Int → Int → List (S80) → List (S77) → Option (Bool)
 | 0, _, _, _, _ => none
 | k + 1, x3, x4, x133000, x133001 => if x4 < (x133001.length : Int) then (if 0 ≤ x4 then ((F18.f k ((rd_T77 x133001 x4).f0)).bind fun t136 => (if t136 = true then ((F15.f ((rd_T77 x133001 x4).f1) 1 (wrap64 (x3 - 1))).bind fun t137 => (if t137 = true then (if x4 > 0 then (if 0 ≤ (wrap64 (x4 - 1)) then (if (wrap64 (x4 - 1)) < (x133001.length : Int) then (F1.j2 k x3 x4 (decide (((rd_T77 x133001 (wrap64 (x4 - 1))).f1) ≥ ((rd_T77 x133001 x4).f1))) x133000 x133001 ((rd_T77 x133001 x4).f0) ((rd_T77 x133001 x4).f1)) else (none)) else (none)) else (F1.j2 k x3 x4 false x133000 x133001 ((rd_T77 x133001 x4).f0) ((rd_T77 x133001 x4).f1))) else (F1.j2 k x3 x4 true x133000 x133001 ((rd_T77 x133001 x4).f0) ((rd_T77 x133001 x4).f1)))) else (F1.j2 k x3 x4 true x133000 x133001 ((rd_T77 x133001 x4).f0) ((rd_T77 x133001 x4).f1)))) else (none)) else (F1.l2 k x3 0 (-1) 0 x133000 x133001)
def F1.j2 : Nat → Int → Int → Bool → List (S80) → List (S77) → ByteArray → Int → Option (Bool)
 | 0, _, _, _, _, _, _, _ => none
 | k + 1, x3, x4, x63, x133000, x133001, x136000, x136001 => if x63 = true then (some false) else (F1.l1 k x3 x4 0 x133000 x133001 x136000 x136001)
def F1.l1 : Nat → Int → Int → Int → List (S80) → List (S77) → ByteArray → Int → Option (Bool)
 | 0, _, _, _, _, _, _, _ => none
 | k + 1, x3, x4, x6, x133000, x133001, x136000, x136001 => if x6 < x4 then (if 0 ≤ x6 then (if x6 < (x133001.length : Int) then (if ((rd_T77 x133001 x6).f0).toList = x136000.toList then (some false) else (F1.l1 k x3 x4 (wrap64 (x6 + 1)) x133000 x133001 x136000 x136001)) else (none)) else (none)) else (F1.l0 k x3 (wrap64 (x4 + 1)) x133000 x133001)
def F1.l2 : Nat → Int → Int → Int → Int → List (S80) → List (S77) → Option (Bool)
 | 0, _, _, _, _, _, _ => none
 | k + 1, x3, x7, x8, x9, x133000, x133001 => if x9 < x3 then (if x9 > x8 then ((F17.f k x133000 x133001 x9).bind fun bt140 => (F1.j5 k x3 bt140.1 bt140.2 x9 x133000 x133001)) else (F1.j5 k x3 x7 x8 x9 x133000 x133001)) else (some true)
def F1.j5 : Nat → Int → Int → Int → Int → List (S80) → List (S77) → Option (Bool)
 | 0, _, _, _, _, _, _ => none
 | k + 1, x3, x7, x8, x9, x133000, x133001 => if 0 ≤ x9 then (if x9 < (x133000.length : Int) then (if x7 = 0 then (F1.j6 k x3 x7 x8 x9 39 x133000 x133001 ((rd_T80 x133000 x9).f0) ((rd_T80 x133000 x9).f1) ((rd_T80 x133000 x9).f2)) else (F1.j6 k x3 x7 x8 x9 38 x133000 x133001 ((rd_T80 x133000 x9).f0) ((rd_T80 x133000 x9).f1) ((rd_T80 x133000 x9).f2))) else (none)) else (none)
def F1.j6 : Nat → Int → Int → Int → Int → Int → List (S80) → List (S77) → Int → Int → ByteArray → Option (Bool)
 | 0, _, _, _, _, _, _, _, _, _, _ => none
 | k + 1, x3, x7, x8, x9, x11, x133000, x133001, x144000, x144001, x144002 => (F5.f k x144000 x144001 x144002).bind fun t144 => (if t144 = true then (if ((x144000 == x11) != (x9 == x8)) = true then (F1.j7 k x3 x7 x8 x9 true x133000 x133001 x144000 x144001 x144002) else (if x9 < x8 then (if x144000 = 39 then (F1.j7 k x3 x7 x8 x9 true x133000 x133001 x144000 x144001 x144002) else (F1.j7 k x3 x7 x8 x9 (x144000 == 38) x133000 x133001 x144000 x144001 x144002)) else (F1.j7 k x3 x7 x8 x9 false x133000 x133001 x144000 x144001 x144002))) else (F1.j7 k x3 x7 x8 x9 true x133000 x133001 x144000 x144001 x144002))
def F1.j7 : Nat → Int → Int → Int → Int → Bool → List (S80) → List (S77) → Int → Int → ByteArray → Option (Bool)
 | 0, _, _, _, _, _, _, _, _, _, _ => none
 | k + 1, x3, x7, x8, x9, x126, x133000, x133001, x144000, x144001, x144002 => if x126 = true then (some false) else (if x144000 = 32 then (F1.j8 k x3 x7 x8 x9 x144000 (x144000 == 32) x133000 x133001 x144000 x144001 x144002) else (F1.j8 k x3 x7 x8 x9 x144000 (x144000 == 33) x133000 x133001 x144000 x144001 x144002))
def F1.j8 : Nat → Int → Int → Int → Int → Int → Bool → List (S80) → List (S77) → Int → Int → ByteArray → Option (Bool)
 | 0, _, _, _, _, _, _, _, _, _, _, _ => none
 | k + 1, x3, x7, x8, x9, x128, x129, x133000, x133001, x144000, x144001, x144002 => if x129 = true then ((F15.f x144001 (wrap64 (x9 + 1)) x8).bind fun t145 => (if t145 = true then (F1.l2 k x3 x7 x8 (wrap64 (x9 + 1)) x133000 x133001) else (some false))) else (if x128 = 37 then ((F15.f x144001 x7 (wrap64 (x9 - 1))).bind fun t146 => (if t146 = true then (if 0 ≤ x144001 then (if x144001 < (x133000.length : Int) then (if ((rd_T80 x133000 x144001).f0) = 31 then (F1.l2 k x3 x7 x8 (wrap64 (x9 + 1)) x133000 x133001) else (some false)) else (none)) else (none)) else (some false))) else (F1.l2 k x3 x7 x8 (wrap64 (x9 + 1)) x133000 x133001))
end
def F1.f (k : Nat) (l0_0 : List (S80)) (l0_1 : List (S77)) : Option (Bool) := (F15.f (l0_0.length : Int) 1 13000).bind fun t133 => (if t133 = true then (F1.j0 k (l0_0.length : Int) (decide ((l0_1.length : Int) > 40)) l0_0 l0_1) else (F1.j0 k (l0_0.length : Int) true l0_0 l0_1))
theorem F1.mono_l : ∀ k, (∀ y0 y1 y2 y3, LeO (F1.j0 k y0 y1 y2 y3) (F1.j0 (k + 1) y0 y1 y2 y3)) ∧ (∀ y0 y1 y2 y3, LeO (F1.l0 k y0 y1 y2 y3) (F1.l0 (k + 1) y0 y1 y2 y3)) ∧ (∀ y0 y1 y2 y3 y4 y5 y6, LeO (F1.j2 k y0 y1 y2 y3 y4 y5 y6) (F1.j2 (k + 1) y0 y1 y2 y3 y4 y5 y6)) ∧ (∀ y0 y1 y2 y3 y4 y5 y6, LeO (F1.l1 k y0 y1 y2 y3 y4 y5 y6) (F1.l1 (k + 1) y0 y1 y2 y3 y4 y5 y6)) ∧ (∀ y0 y1 y2 y3 y4 y5, LeO (F1.l2 k y0 y1 y2 y3 y4 y5) (F1.l2 (k + 1) y0 y1 y2 y3 y4 y5)) ∧ (∀ y0 y1 y2 y3 y4 y5, LeO (F1.j5 k y0 y1 y2 y3 y4 y5) (F1.j5 (k + 1) y0 y1 y2 y3 y4 y5)) ∧ (∀ y0 y1 y2 y3 y4 y5 y6 y7 y8 y9, LeO (F1.j6 k y0 y1 y2 y3 y4 y5 y6 y7 y8 y9) (F1.j6 (k + 1) y0 y1 y2 y3 y4 y5 y6 y7 y8 y9)) ∧ (∀ y0 y1 y2 y3 y4 y5 y6 y7 y8 y9, LeO (F1.j7 k y0 y1 y2 y3 y4 y5 y6 y7 y8 y9) (F1.j7 (k + 1) y0 y1 y2 y3 y4 y5 y6 y7 y8 y9)) ∧ (∀ y0 y1 y2 y3 y4 y5 y6 y7 y8 y9 y10, LeO (F1.j8 k y0 y1 y2 y3 y4 y5 y6 y7 y8 y9 y10) (F1.j8 (k + 1) y0 y1 y2 y3 y4 y5 y6 y7 y8 y9 y10))
 | 0 => ⟨fun _ _ _ _ r h => by simp [F1.j0] at h, fun _ _ _ _ r h => by simp [F1.l0] at h, fun _ _ _ _ _ _ _ r h => by simp [F1.j2] at h, fun _ _ _ _ _ _ _ r h => by simp [F1.l1] at h, fun _ _ _ _ _ _ r h => by simp [F1.l2] at h, fun _ _ _ _ _ _ r h => by simp [F1.j5] at h, fun _ _ _ _ _ _ _ _ _ _ r h => by simp [F1.j6] at h, fun _ _ _ _ _ _ _ _ _ _ r h => by simp [F1.j7] at h, fun _ _ _ _ _ _ _ _ _ _ _ r h => by simp [F1.j8] at h⟩
 | k + 1 => by
  obtain ⟨ih0, ih1, ih2, ih3, ih4, ih5, ih6, ih7, ih8⟩ := F1.mono_l k
  refine ⟨?_, ?_, ?_, ?_, ?_, ?_, ?_, ?_, ?_⟩
  ·intro y0 y1 y2 y3
   unfold F1.j0
   repeat' with_reducible first
   | exact ih0 _ _ _ _
   | exact ih1 _ _ _ _
   | exact ih2 _ _ _ _ _ _ _
   | exact ih3 _ _ _ _ _ _ _
   | exact ih4 _ _ _ _ _ _
   | exact ih5 _ _ _ _ _ _
   | exact ih6 _ _ _ _ _ _ _ _ _ _
   | exact ih7 _ _ _ _ _ _ _ _ _ _
   | exact ih8 _ _ _ _ _ _ _ _ _ _ _
   | exact F18.mono _ _
   | exact F5.mono _ _ _ _
   | exact F17.mono _ _ _ _
   | exact LeO.refl _
   | exact LeO.none _
   | refine LeO.ite ?_ ?_
   | refine LeO.bind ?_ (fun _ => ?_)
  ·intro y0 y1 y2 y3
   unfold F1.l0
   repeat' with_reducible first
   | exact ih0 _ _ _ _
   | exact ih1 _ _ _ _
   | exact ih2 _ _ _ _ _ _ _
   | exact ih3 _ _ _ _ _ _ _
   | exact ih4 _ _ _ _ _ _
   | exact ih5 _ _ _ _ _ _
   | exact ih6 _ _ _ _ _ _ _ _ _ _
   | exact ih7 _ _ _ _ _ _ _ _ _ _
   | exact ih8 _ _ _ _ _ _ _ _ _ _ _
   | exact F18.mono _ _
   | exact F5.mono _ _ _ _
   | exact F17.mono _ _ _ _
   | exact LeO.refl _
   | exact LeO.none _
   | refine LeO.ite ?_ ?_
   | refine LeO.bind ?_ (fun _ => ?_)
  ·intro y0 y1 y2 y3 y4 y5 y6
   unfold F1.j2
   repeat' with_reducible first
   | exact ih0 _ _ _ _
   | exact ih1 _ _ _ _
   | exact ih2 _ _ _ _ _ _ _
   | exact ih3 _ _ _ _ _ _ _
   | exact ih4 _ _ _ _ _ _
   | exact ih5 _ _ _ _ _ _
   | exact ih6 _ _ _ _ _ _ _ _ _ _
   | exact ih7 _ _ _ _ _ _ _ _ _ _
   | exact ih8 _ _ _ _ _ _ _ _ _ _ _
   | exact F18.mono _ _
   | exact F5.mono _ _ _ _
   | exact F17.mono _ _ _ _
   | exact LeO.refl _
   | exact LeO.none _
   | refine LeO.ite ?_ ?_
   | refine LeO.bind ?_ (fun _ => ?_)
  ·intro y0 y1 y2 y3 y4 y5 y6
   unfold F1.l1
   repeat' with_reducible first
   | exact ih0 _ _ _ _
   | exact ih1 _ _ _ _
   | exact ih2 _ _ _ _ _ _ _
   | exact ih3 _ _ _ _ _ _ _
   | exact ih4 _ _ _ _ _ _
   | exact ih5 _ _ _ _ _ _
   | exact ih6 _ _ _ _ _ _ _ _ _ _
   | exact ih7 _ _ _ _ _ _ _ _ _ _
   | exact ih8 _ _ _ _ _ _ _ _ _ _ _
   | exact F18.mono _ _
   | exact F5.mono _ _ _ _
   | exact F17.mono _ _ _ _
   | exact LeO.refl _
   | exact LeO.none _
   | refine LeO.ite ?_ ?_
   | refine LeO.bind ?_ (fun _ => ?_)
  ·intro y0 y1 y2 y3 y4 y5
   unfold F1.l2
   repeat' with_reducible first
   | exact ih0 _ _ _ _
   | exact ih1 _ _ _ _
   | exact ih2 _ _ _ _ _ _ _
   | exact ih3 _ _ _ _ _ _ _
   | exact ih4 _ _ _ _ _ _
   | exact ih5 _ _ _ _ _ _
   | exact ih6 _ _ _ _ _ _ _ _ _ _
   | exact ih7 _ _ _ _ _ _ _ _ _ _
   | exact ih8 _ _ _ _ _ _ _ _ _ _ _
   | exact F18.mono _ _
   | exact F5.mono _ _ _ _
   | exact F17.mono _ _ _ _
   | exact LeO.refl _
   | exact LeO.none _
   | refine LeO.ite ?_ ?_
   | refine LeO.bind ?_ (fun _ => ?_)
  ·intro y0 y1 y2 y3 y4 y5
   unfold F1.j5
   repeat' with_reducible first
   | exact ih0 _ _ _ _
   | exact ih1 _ _ _ _
   | exact ih2 _ _ _ _ _ _ _
   | exact ih3 _ _ _ _ _ _ _
   | exact ih4 _ _ _ _ _ _
   | exact ih5 _ _ _ _ _ _
   | exact ih6 _ _ _ _ _ _ _ _ _ _
   | exact ih7 _ _ _ _ _ _ _ _ _ _
   | exact ih8 _ _ _ _ _ _ _ _ _ _ _
   | exact F18.mono _ _
   | exact F5.mono _ _ _ _
   | exact F17.mono _ _ _ _
   | exact LeO.refl _
   | exact LeO.none _
   | refine LeO.ite ?_ ?_
   | refine LeO.bind ?_ (fun _ => ?_)
  ·intro y0 y1 y2 y3 y4 y5 y6 y7 y8 y9
   unfold F1.j6
   repeat' with_reducible first
   | exact ih0 _ _ _ _
   | exact ih1 _ _ _ _
   | exact ih2 _ _ _ _ _ _ _
   | exact ih3 _ _ _ _ _ _ _
   | exact ih4 _ _ _ _ _ _
   | exact ih5 _ _ _ _ _ _
   | exact ih6 _ _ _ _ _ _ _ _ _ _
   | exact ih7 _ _ _ _ _ _ _ _ _ _
   | exact ih8 _ _ _ _ _ _ _ _ _ _ _
   | exact F18.mono _ _
   | exact F5.mono _ _ _ _
   | exact F17.mono _ _ _ _
   | exact LeO.refl _
   | exact LeO.none _
   | refine LeO.ite ?_ ?_
   | refine LeO.bind ?_ (fun _ => ?_)
  ·intro y0 y1 y2 y3 y4 y5 y6 y7 y8 y9
   unfold F1.j7
   repeat' with_reducible first
   | exact ih0 _ _ _ _
   | exact ih1 _ _ _ _
   | exact ih2 _ _ _ _ _ _ _
   | exact ih3 _ _ _ _ _ _ _
   | exact ih4 _ _ _ _ _ _
   | exact ih5 _ _ _ _ _ _
   | exact ih6 _ _ _ _ _ _ _ _ _ _
   | exact ih7 _ _ _ _ _ _ _ _ _ _
   | exact ih8 _ _ _ _ _ _ _ _ _ _ _
   | exact F18.mono _ _
   | exact F5.mono _ _ _ _
   | exact F17.mono _ _ _ _
   | exact LeO.refl _
   | exact LeO.none _
   | refine LeO.ite ?_ ?_
   | refine LeO.bind ?_ (fun _ => ?_)
  ·intro y0 y1 y2 y3 y4 y5 y6 y7 y8 y9 y10
   unfold F1.j8
   repeat' with_reducible first
   | exact ih0 _ _ _ _
   | exact ih1 _ _ _ _
   | exact ih2 _ _ _ _ _ _ _
   | exact ih3 _ _ _ _ _ _ _
   | exact ih4 _ _ _ _ _ _
   | exact ih5 _ _ _ _ _ _
   | exact ih6 _ _ _ _ _ _ _ _ _ _
   | exact ih7 _ _ _ _ _ _ _ _ _ _
   | exact ih8 _ _ _ _ _ _ _ _ _ _ _
   | exact F18.mono _ _
   | exact F5.mono _ _ _ _
   | exact F17.mono _ _ _ _
   | exact LeO.refl _
   | exact LeO.none _
   | refine LeO.ite ?_ ?_
   | refine LeO.bind ?_ (fun _ => ?_)
theorem F1.mono : ∀ a0 a1 k, LeO (F1.f k a0 a1) (F1.f (k + 1) a0 a1) := by
 intro a0 a1 k
 obtain ⟨ih0, ih1, ih2, ih3, ih4, ih5, ih6, ih7, ih8⟩ := F1.mono_l k
 unfold F1.f
 repeat' with_reducible first
   | exact ih0 _ _ _ _
   | exact ih1 _ _ _ _
   | exact ih2 _ _ _ _ _ _ _
   | exact ih3 _ _ _ _ _ _ _
   | exact ih4 _ _ _ _ _ _
   | exact ih5 _ _ _ _ _ _
   | exact ih6 _ _ _ _ _ _ _ _ _ _
   | exact ih7 _ _ _ _ _ _ _ _ _ _
   | exact ih8 _ _ _ _ _ _ _ _ _ _ _
   | exact F18.mono _ _
   | exact F5.mono _ _ _ _
   | exact F17.mono _ _ _ _
   | exact LeO.refl _
   | exact LeO.none _
   | refine LeO.ite ?_ ?_
   | refine LeO.bind ?_ (fun _ => ?_)
theorem F1.calls (k : Nat) (A0_0 : Option Addr) (c0_0 : Nat) (l0_0 : List (S80)) (A0_1 : Option Addr) (c0_1 : Nat) (l0_1 : List (S77)) (r : Bool) (w : World) (hr0_0 : Kd.C k80 w A0_0 l0_0.length l0_0) (hc0_0 : l0_0.length ≤ c0_0) (hr0_1 : Kd.C k77 w A0_1 l0_1.length l0_1) (hc0_1 : l0_1.length ≤ c0_1) (h : F1.f k l0_0 l0_1 = some r) :
  Calls Try.prog 24 #[.agg #[.slice A0_0 l0_0.length c0_0, .slice A0_1 l0_1.length c0_1]] w fun e w' => e = .returned (.bool r) ∧ Below w.heap.size w w' := by
 have hu31 := Try.underlying31
 have hu77 := Try.underlying77
 have hu80 := Try.underlying80
 have HR0_0 := As.mk hr0_0
 have HC0_0 := As.mk hc0_0
 clear hr0_0 hc0_0
 have HR0_1 := As.mk hr0_1
 have HC0_1 := As.mk hc0_1
 clear hr0_1 hc0_1
 have HB := As.mk (Below.refl w.heap.size w)
 have H : ((F15.f (l0_0.length : Int) 1 13000).bind fun t133 => (if t133 = true then (F1.j0 k (l0_0.length : Int) (decide ((l0_1.length : Int) > 40)) l0_0 l0_1) else (F1.j0 k (l0_0.length : Int) true l0_0 l0_1))) = some r := h
 clear h
 have HC2 := As.mk H
 clear H
 go_enter Try.func24, Try.ntmps24
 go_upto_region 2 with (first | ((with_reducible refine gate_dst (N := 1) rfl ?_); (try (refine gate_guard (by rfl) ?_; dsimp only)); refine box_event ?hg (N := 1) ?hd (cs := #[.slice A0_0 l0_0.length c0_0, .slice A0_1 l0_1.length c0_1]) (t := 31) ?hr ?_; (case hd => rfl); (case hg => rfl); (case hr => first | (go_simp; done) | (go_simp; rfl)); intro gb132 hg w3 hbox hb; have n0_ := As.mk (bT (by repeat (first | (with_reducible first | exact HB.out | apply bA | apply bD | apply bE) | exact HB.out)) hb); have n1_ := As.mk (hbox); have n2_ := As.mk ((by rw [hg]; exact (bZ (by repeat (first | (with_reducible first | exact HB.out | apply bA | apply bD | apply bE) | exact HB.out))) : w.heap.size ≤ gb132)); have n3_ := n2_; clear HB; have HB := n0_; have BK132 := n1_; have GW132 := n2_; have GE132 := n3_; clear n0_ n1_ n2_ n3_; clear hb hbox hg; have hcz4_0 : w3.cell? ⟨gb132, 0, none⟩ = some (.slice A0_0 l0_0.length c0_0) := (kC BK132.out 0).trans rfl; have hcz4_1 : w3.cell? ⟨gb132, 1, none⟩ = some (.slice A0_1 l0_1.length c0_1) := (kC BK132.out 1).trans rfl; have hfz4_0 := kF BK132.out 0; have hfz4_1 := kF BK132.out 1))
 repeat (go_quiet (first | ((with_reducible refine gate_dst (N := 1) rfl ?_); (try (refine gate_guard (by rfl) ?_; dsimp only)); refine box_event ?hg (N := 1) ?hd (cs := #[.slice A0_0 l0_0.length c0_0, .slice A0_1 l0_1.length c0_1]) (t := 31) ?hr ?_; (case hd => rfl); (case hg => rfl); (case hr => first | (go_simp; done) | (go_simp; rfl)); intro gb132 hg w3 hbox hb; have n0_ := As.mk (bT (by repeat (first | (with_reducible first | exact HB.out | apply bA | apply bD | apply bE) | exact HB.out)) hb); have n1_ := As.mk (hbox); have n2_ := As.mk ((by rw [hg]; exact (bZ (by repeat (first | (with_reducible first | exact HB.out | apply bA | apply bD | apply bE) | exact HB.out))) : w.heap.size ≤ gb132)); have n3_ := n2_; clear HB; have HB := n0_; have BK132 := n1_; have GW132 := n2_; have GE132 := n3_; clear n0_ n1_ n2_ n3_; clear hb hbox hg; have hcz4_0 : w3.cell? ⟨gb132, 0, none⟩ = some (.slice A0_0 l0_0.length c0_0) := (kC BK132.out 0).trans rfl; have hcz4_1 : w3.cell? ⟨gb132, 1, none⟩ = some (.slice A0_1 l0_1.length c0_1) := (kC BK132.out 1).trans rfl; have hfz4_0 := kF BK132.out 0; have hfz4_1 := kF BK132.out 1)); go_upto_region 2 with (first | ((with_reducible refine gate_dst (N := 1) rfl ?_); (try (refine gate_guard (by rfl) ?_; dsimp only)); refine box_event ?hg (N := 1) ?hd (cs := #[.slice A0_0 l0_0.length c0_0, .slice A0_1 l0_1.length c0_1]) (t := 31) ?hr ?_; (case hd => rfl); (case hg => rfl); (case hr => first | (go_simp; done) | (go_simp; rfl)); intro gb132 hg w3 hbox hb; have n0_ := As.mk (bT (by repeat (first | (with_reducible first | exact HB.out | apply bA | apply bD | apply bE) | exact HB.out)) hb); have n1_ := As.mk (hbox); have n2_ := As.mk ((by rw [hg]; exact (bZ (by repeat (first | (with_reducible first | exact HB.out | apply bA | apply bD | apply bE) | exact HB.out))) : w.heap.size ≤ gb132)); have n3_ := n2_; clear HB; have HB := n0_; have BK132 := n1_; have GW132 := n2_; have GE132 := n3_; clear n0_ n1_ n2_ n3_; clear hb hbox hg; have hcz4_0 : w3.cell? ⟨gb132, 0, none⟩ = some (.slice A0_0 l0_0.length c0_0) := (kC BK132.out 0).trans rfl; have hcz4_1 : w3.cell? ⟨gb132, 1, none⟩ = some (.slice A0_1 l0_1.length c0_1) := (kC BK132.out 1).trans rfl; have hfz4_0 := kF BK132.out 0; have hfz4_1 := kF BK132.out 1)))
 (try simp only [Act.put, sq1, sq2, sq3])
 go_cut [23] (fun v23 wc => ∃ (kq : Nat) (x23_1 : Bool), v23 = .bool x23_1 ∧ As (F1.j0 kq (l0_0.length : Int) x23_1 l0_0 l0_1 = some r) ∧ As (kq ≤ k) ∧ As (wc.heap[gb132]? = some (.cells #[(.slice A0_0 l0_0.length c0_0), (.slice A0_1 l0_1.length c0_1)] 31 (0, 0))) ∧ As (Below w.heap.size w wc))
 case first =>
  have H := HC2.out
  clear HC2
  replace H := Option.bind_eq_some_iff.mp H
  obtain ⟨t133, A50, H⟩ := H
  replace H : (if t133 = true then (F1.j0 k (l0_0.length : Int) (decide ((l0_1.length : Int) > 40)) l0_0 l0_1) else (F1.j0 k (l0_0.length : Int) true l0_0 l0_1)) = some r := H
  have A5 := As.mk A50
  clear A50
  by_cases c6 : t133 = true
  ·subst c6
   have H1 : (F1.j0 k (l0_0.length : Int) (decide ((l0_1.length : Int) > 40)) l0_0 l0_1) = some r := by rw [if_pos rfl] at H; exact H
   clear H
   have H := H1
   clear H1
   have H' := As.mk H
   clear H
   go_wp2_with (first | (go_at_call 46; (with_reducible refine (F15.calls (l0_0.length : Int) 1 13000 true _ A5.out).mono ?_); rintro e w' ⟨rfl, ⟨nd, rfl⟩⟩; (try first | exact ⟨rfl, _, World.drewN_drewN _ _ _⟩ | exact ⟨rfl, _, Eq.trans (World.drewN_drewN _ _ _) (congrArg (World.drewN _) (Nat.add_assoc _ _ _))⟩); have hcz7_0 : w3.cell? ⟨gb132, 0, none⟩ = some (.slice A0_0 l0_0.length c0_0) := (kC BK132.out 0).trans rfl; have hcz7_1 : w3.cell? ⟨gb132, 1, none⟩ = some (.slice A0_1 l0_1.length c0_1) := (kC BK132.out 1).trans rfl; have hfz7_0 := kF BK132.out 0; have hfz7_1 := kF BK132.out 1))
   repeat (go_quiet (first | (go_at_call 46; (with_reducible refine (F15.calls (l0_0.length : Int) 1 13000 true _ A5.out).mono ?_); rintro e w' ⟨rfl, ⟨nd, rfl⟩⟩; (try first | exact ⟨rfl, _, World.drewN_drewN _ _ _⟩ | exact ⟨rfl, _, Eq.trans (World.drewN_drewN _ _ _) (congrArg (World.drewN _) (Nat.add_assoc _ _ _))⟩); have hcz7_0 : w3.cell? ⟨gb132, 0, none⟩ = some (.slice A0_0 l0_0.length c0_0) := (kC BK132.out 0).trans rfl; have hcz7_1 : w3.cell? ⟨gb132, 1, none⟩ = some (.slice A0_1 l0_1.length c0_1) := (kC BK132.out 1).trans rfl; have hfz7_0 := kF BK132.out 0; have hfz7_1 := kF BK132.out 1)); try go_wp2_with (first | (go_at_call 46; (with_reducible refine (F15.calls (l0_0.length : Int) 1 13000 true _ A5.out).mono ?_); rintro e w' ⟨rfl, ⟨nd, rfl⟩⟩; (try first | exact ⟨rfl, _, World.drewN_drewN _ _ _⟩ | exact ⟨rfl, _, Eq.trans (World.drewN_drewN _ _ _) (congrArg (World.drewN _) (Nat.add_assoc _ _ _))⟩); have hcz7_0 : w3.cell? ⟨gb132, 0, none⟩ = some (.slice A0_0 l0_0.length c0_0) := (kC BK132.out 0).trans rfl; have hcz7_1 : w3.cell? ⟨gb132, 1, none⟩ = some (.slice A0_1 l0_1.length c0_1) := (kC BK132.out 1).trans rfl; have hfz7_0 := kF BK132.out 0; have hfz7_1 := kF BK132.out 1)))
   go_meet
   case rel => exact ⟨_, (decide ((l0_1.length : Int) > 40)), (by first | rfl | (simp; done) | (simp [*]; done)), H', ⟨by first | omega | exact Nat.le_refl _⟩, ⟨by (with_reducible repeat (first | refine kD ?_ _ | refine kE ?_ | refine kA ?_ _)); exact BK132.out⟩, ⟨by repeat (first | (with_reducible first | exact HB.out | apply bA | apply bD | apply bE | refine bS ?_ GE132.out) | exact HB.out)⟩⟩
  ·replace c6 := Bool.eq_false_iff.mpr c6
   subst c6
   have H1 : (F1.j0 k (l0_0.length : Int) true l0_0 l0_1) = some r := by rw [if_neg (show ¬ (false = true) by decide)] at H; exact H
   clear H
   have H := H1
   clear H1
   have H' := As.mk H
   clear H
   go_wp2_with (first | (go_at_call 46; (with_reducible refine (F15.calls (l0_0.length : Int) 1 13000 false _ A5.out).mono ?_); rintro e w' ⟨rfl, ⟨nd, rfl⟩⟩; (try first | exact ⟨rfl, _, World.drewN_drewN _ _ _⟩ | exact ⟨rfl, _, Eq.trans (World.drewN_drewN _ _ _) (congrArg (World.drewN _) (Nat.add_assoc _ _ _))⟩)))
   repeat (go_quiet (first | (go_at_call 46; (with_reducible refine (F15.calls (l0_0.length : Int) 1 13000 false _ A5.out).mono ?_); rintro e w' ⟨rfl, ⟨nd, rfl⟩⟩; (try first | exact ⟨rfl, _, World.drewN_drewN _ _ _⟩ | exact ⟨rfl, _, Eq.trans (World.drewN_drewN _ _ _) (congrArg (World.drewN _) (Nat.add_assoc _ _ _))⟩))); try go_wp2_with (first | (go_at_call 46; (with_reducible refine (F15.calls (l0_0.length : Int) 1 13000 false _ A5.out).mono ?_); rintro e w' ⟨rfl, ⟨nd, rfl⟩⟩; (try first | exact ⟨rfl, _, World.drewN_drewN _ _ _⟩ | exact ⟨rfl, _, Eq.trans (World.drewN_drewN _ _ _) (congrArg (World.drewN _) (Nat.add_assoc _ _ _))⟩))))
   go_meet
   case rel => exact ⟨_, (true), (by first | rfl | (simp; done) | (simp [*]; done)), H', ⟨by first | omega | exact Nat.le_refl _⟩, ⟨by (with_reducible repeat (first | refine kD ?_ _ | refine kE ?_ | refine kA ?_ _)); exact BK132.out⟩, ⟨by repeat (first | (with_reducible first | exact HB.out | apply bA | apply bD | apply bE | refine bS ?_ GE132.out) | exact HB.out)⟩⟩
 case rest =>
  clear HC2
  try clear hcz4_0
  try clear hcz4_1
  try clear hfz4_0
  try clear hfz4_1
  obtain ⟨kq, x23_1, rfl, HA, HJ1, BK132, HB⟩ := hcut
  cases kq with
  | zero => exact absurd HA.out (by simp [F1.j0])
  | succ kj1 =>
   have H := HA.out
   clear HA
   simp only [F1.j0] at H
   by_cases c8 : x23_1 = true
   ·subst c8
    have H1 : (some false) = some r := by rw [if_pos rfl] at H; exact H
    clear H
    have H := H1
    clear H1
    obtain rfl := Option.some.inj H
    go_wp2
    repeat (go_quiet (fail); try go_wp2)
    go_ret
    exact ⟨by first | rfl | (simp [eN, eS] <;> rfl) | (simp [*, eN, eS] <;> rfl), by repeat (first | (with_reducible first | exact HB.out | apply bA | apply bD | apply bE | refine bS ?_ GE132.out) | exact HB.out)⟩
   ·replace c8 := Bool.eq_false_iff.mpr c8
    subst c8
    have H1 : (F1.l0 kj1 (l0_0.length : Int) 0 l0_0 l0_1) = some r := by rw [if_neg (show ¬ (false = true) by decide)] at H; exact H
    clear H
    have H := H1
    clear H1
    have H' := As.mk H
    clear H
    go_wp2
    repeat (go_quiet (fail); try go_wp2)
    go_loopg [4] kj1 (fun kq v4 w' => ∃ (x4_2 : Int), v4 = .int .i64 x4_2 ∧ As (F1.l0 kq (l0_0.length : Int) x4_2 l0_0 l0_1 = some r) ∧ As (kq ≤ kj1) ∧ As (w'.heap[gb132]? = some (.cells #[(.slice A0_0 l0_0.length c0_0), (.slice A0_1 l0_1.length c0_1)] 31 (0, 0))) ∧ As (Below w.heap.size w w'))
    case atStart => exact ⟨(0), (by first | rfl | (simp; done) | (simp [*]; done)), H', ⟨Nat.le_refl _⟩, ⟨by (with_reducible repeat (first | refine kD ?_ _ | refine kE ?_ | refine kA ?_ _)); exact BK132.out⟩, ⟨by repeat (first | (with_reducible first | exact HB.out | apply bA | apply bD | apply bE | refine bS ?_ GE132.out) | exact HB.out)⟩⟩
    case round =>
     clear H'
     try clear c8
     try clear hcz4_0
     try clear hcz4_1
     try clear hfz4_0
     try clear hfz4_1
     obtain ⟨x4_2, rfl, HA, HK2, BK132, HB⟩ := hrel
     cases gk with
     | zero => exact absurd HA.out (by simp [F1.l0])
     | succ k2 =>
      have H := HA.out
      clear HA
      simp only [F1.l0] at H
      by_cases c9 : x4_2 < (l0_1.length : Int)
      ·rw [if_pos c9] at H
       have c9b0 : decide (x4_2 < (l0_1.length : Int)) = true := decide_eq_true c9
       clear c9
       by_cases c10 : 0 ≤ x4_2
       ·rw [if_pos c10] at H
        have c10b0 : decide (0 ≤ x4_2) = true := decide_eq_true c10
        clear c10
        have HC11 := As.mk H
        clear H
        have hcz12_0 : wr.cell? ⟨gb132, 0, none⟩ = some (.slice A0_0 l0_0.length c0_0) := (kC BK132.out 0).trans rfl
        have hcz12_1 : wr.cell? ⟨gb132, 1, none⟩ = some (.slice A0_1 l0_1.length c0_1) := (kC BK132.out 1).trans rfl
        have hfz12_0 := kF BK132.out 0
        have hfz12_1 := kF BK132.out 1
        have p134 : 0 ≤ (x4_2 : Int) := of_decide_eq_true (by first | (with_reducible assumption) | assumption)
        have q134 : x4_2 < (l0_1.length : Int) := of_decide_eq_true (by first | (with_reducible assumption) | assumption)
        obtain ⟨ad134, e134, hx134_0, hx134_1⟩ := at_T77 HR0_1.out x4_2 p134 q134
        cases e134
        replace hx134_0 := (HB.out.cell (World.block_lt_of_cell? w _ hx134_0)).trans hx134_0
        replace hx134_1 := (HB.out.cell (World.block_lt_of_cell? w _ hx134_1)).trans hx134_1
        replace p134 := eq_true p134
        replace q134 := eq_true q134
        go_upto_region 8 with (first | ((with_reducible refine gate_dst (N := 5) rfl ?_); (try (refine gate_guard (by rfl) ?_; dsimp only)); refine box_event ?hg (N := 5) ?hd (cs := #[.string (⟨#[]⟩ : ByteArray), .int .i64 0]) (t := 77) ?hr ?_; (case hd => rfl); (case hg => rfl); (case hr => first | (go_simp; done) | (go_simp; rfl)); intro gb135 hg w13 hbox hb; have n0_ := As.mk (kB (g := gb132) (o := .cells #[.slice A0_0 l0_0.length c0_0, .slice (some ad134) l0_1.length c0_1] 31 (0, 0)) (by (with_reducible repeat (first | refine kD ?_ _ | refine kE ?_ | refine kA ?_ _)); exact BK132.out) hb); have n1_ := As.mk (bT (by repeat (first | (with_reducible first | exact HB.out | apply bA | apply bD | apply bE | refine bS ?_ GE132.out) | exact HB.out)) hb); have n2_ := As.mk (hbox); have n3_ := As.mk ((by rw [hg]; exact (bZ (by repeat (first | (with_reducible first | exact HB.out | apply bA | apply bD | apply bE | refine bS ?_ GE132.out) | exact HB.out))) : w.heap.size ≤ gb135)); have n4_ := n3_; have n5_ := As.mk ((by rw [hg]; exact Nat.ne_of_lt (kL (g := gb132) (o := .cells #[.slice A0_0 l0_0.length c0_0, .slice (some ad134) l0_1.length c0_1] 31 (0, 0)) (by (with_reducible repeat (first | refine kD ?_ _ | refine kE ?_ | refine kA ?_ _)); exact BK132.out)) : gb132 ≠ gb135)); have n6_ := As.mk n5_.out.symm; clear BK132; clear HB; have BK132 := n0_; have HB := n1_; have BK135 := n2_; have GW135 := n3_; have GE135 := n4_; have NB132_135 := n5_; have NB135_132 := n6_; clear n0_ n1_ n2_ n3_ n4_ n5_ n6_; clear hb hbox hg; have hnb14 := NB135_132.out; have hnc14 := NB132_135.out; have hcz15_0 : w13.cell? ⟨gb135, 0, none⟩ = some (.string (⟨#[]⟩ : ByteArray)) := (kC BK135.out 0).trans rfl; have hcz15_1 : w13.cell? ⟨gb135, 1, none⟩ = some (.int .i64 0) := (kC BK135.out 1).trans rfl; have hfz15_0 := kF BK135.out 0; have hfz15_1 := kF BK135.out 1))
        repeat (go_quiet (first | ((with_reducible refine gate_dst (N := 5) rfl ?_); (try (refine gate_guard (by rfl) ?_; dsimp only)); refine box_event ?hg (N := 5) ?hd (cs := #[.string (⟨#[]⟩ : ByteArray), .int .i64 0]) (t := 77) ?hr ?_; (case hd => rfl); (case hg => rfl); (case hr => first | (go_simp; done) | (go_simp; rfl)); intro gb135 hg w13 hbox hb; have n0_ := As.mk (kB (g := gb132) (o := .cells #[.slice A0_0 l0_0.length c0_0, .slice (some ad134) l0_1.length c0_1] 31 (0, 0)) (by (with_reducible repeat (first | refine kD ?_ _ | refine kE ?_ | refine kA ?_ _)); exact BK132.out) hb); have n1_ := As.mk (bT (by repeat (first | (with_reducible first | exact HB.out | apply bA | apply bD | apply bE | refine bS ?_ GE132.out) | exact HB.out)) hb); have n2_ := As.mk (hbox); have n3_ := As.mk ((by rw [hg]; exact (bZ (by repeat (first | (with_reducible first | exact HB.out | apply bA | apply bD | apply bE | refine bS ?_ GE132.out) | exact HB.out))) : w.heap.size ≤ gb135)); have n4_ := n3_; have n5_ := As.mk ((by rw [hg]; exact Nat.ne_of_lt (kL (g := gb132) (o := .cells #[.slice A0_0 l0_0.length c0_0, .slice (some ad134) l0_1.length c0_1] 31 (0, 0)) (by (with_reducible repeat (first | refine kD ?_ _ | refine kE ?_ | refine kA ?_ _)); exact BK132.out)) : gb132 ≠ gb135)); have n6_ := As.mk n5_.out.symm; clear BK132; clear HB; have BK132 := n0_; have HB := n1_; have BK135 := n2_; have GW135 := n3_; have GE135 := n4_; have NB132_135 := n5_; have NB135_132 := n6_; clear n0_ n1_ n2_ n3_ n4_ n5_ n6_; clear hb hbox hg; have hnb14 := NB135_132.out; have hnc14 := NB132_135.out; have hcz15_0 : w13.cell? ⟨gb135, 0, none⟩ = some (.string (⟨#[]⟩ : ByteArray)) := (kC BK135.out 0).trans rfl; have hcz15_1 : w13.cell? ⟨gb135, 1, none⟩ = some (.int .i64 0) := (kC BK135.out 1).trans rfl; have hfz15_0 := kF BK135.out 0; have hfz15_1 := kF BK135.out 1)); go_upto_region 8 with (first | ((with_reducible refine gate_dst (N := 5) rfl ?_); (try (refine gate_guard (by rfl) ?_; dsimp only)); refine box_event ?hg (N := 5) ?hd (cs := #[.string (⟨#[]⟩ : ByteArray), .int .i64 0]) (t := 77) ?hr ?_; (case hd => rfl); (case hg => rfl); (case hr => first | (go_simp; done) | (go_simp; rfl)); intro gb135 hg w13 hbox hb; have n0_ := As.mk (kB (g := gb132) (o := .cells #[.slice A0_0 l0_0.length c0_0, .slice (some ad134) l0_1.length c0_1] 31 (0, 0)) (by (with_reducible repeat (first | refine kD ?_ _ | refine kE ?_ | refine kA ?_ _)); exact BK132.out) hb); have n1_ := As.mk (bT (by repeat (first | (with_reducible first | exact HB.out | apply bA | apply bD | apply bE | refine bS ?_ GE132.out) | exact HB.out)) hb); have n2_ := As.mk (hbox); have n3_ := As.mk ((by rw [hg]; exact (bZ (by repeat (first | (with_reducible first | exact HB.out | apply bA | apply bD | apply bE | refine bS ?_ GE132.out) | exact HB.out))) : w.heap.size ≤ gb135)); have n4_ := n3_; have n5_ := As.mk ((by rw [hg]; exact Nat.ne_of_lt (kL (g := gb132) (o := .cells #[.slice A0_0 l0_0.length c0_0, .slice (some ad134) l0_1.length c0_1] 31 (0, 0)) (by (with_reducible repeat (first | refine kD ?_ _ | refine kE ?_ | refine kA ?_ _)); exact BK132.out)) : gb132 ≠ gb135)); have n6_ := As.mk n5_.out.symm; clear BK132; clear HB; have BK132 := n0_; have HB := n1_; have BK135 := n2_; have GW135 := n3_; have GE135 := n4_; have NB132_135 := n5_; have NB135_132 := n6_; clear n0_ n1_ n2_ n3_ n4_ n5_ n6_; clear hb hbox hg; have hnb14 := NB135_132.out; have hnc14 := NB132_135.out; have hcz15_0 : w13.cell? ⟨gb135, 0, none⟩ = some (.string (⟨#[]⟩ : ByteArray)) := (kC BK135.out 0).trans rfl; have hcz15_1 : w13.cell? ⟨gb135, 1, none⟩ = some (.int .i64 0) := (kC BK135.out 1).trans rfl; have hfz15_0 := kF BK135.out 0; have hfz15_1 := kF BK135.out 1)))
        (try simp only [Act.put, sq1, sq2, sq3])
        go_cut [63] (fun v63 wc => ∃ (kq : Nat) (x63_10 : Bool), v63 = .bool x63_10 ∧ As (F1.j2 kq (l0_0.length : Int) x4_2 x63_10 l0_0 l0_1 ((rd_T77 l0_1 x4_2).f0) ((rd_T77 l0_1 x4_2).f1) = some r) ∧ As (kq ≤ k2) ∧ As (wc.heap[gb132]? = some (.cells #[(.slice A0_0 l0_0.length c0_0), (.slice (some ad134) l0_1.length c0_1)] 31 (0, 0))) ∧ As (wc.heap[gb135]? = some (.cells #[.string ((rd_T77 l0_1 x4_2).f0), .int .i64 ((rd_T77 l0_1 x4_2).f1)] 77 (0, 0))) ∧ As (Below w.heap.size w wc))
        case first =>
         have H := HC11.out
         clear HC11
         replace H := Option.bind_eq_some_iff.mp H
         obtain ⟨t136, A160, H⟩ := H
         replace H : (if t136 = true then ((F15.f ((rd_T77 l0_1 x4_2).f1) 1 (wrap64 ((l0_0.length : Int) - 1))).bind fun t137 => (if t137 = true then (if x4_2 > 0 then (if 0 ≤ (wrap64 (x4_2 - 1)) then (if (wrap64 (x4_2 - 1)) < (l0_1.length : Int) then (F1.j2 k2 (l0_0.length : Int) x4_2 (decide (((rd_T77 l0_1 (wrap64 (x4_2 - 1))).f1) ≥ ((rd_T77 l0_1 x4_2).f1))) l0_0 l0_1 ((rd_T77 l0_1 x4_2).f0) ((rd_T77 l0_1 x4_2).f1)) else (none)) else (none)) else (F1.j2 k2 (l0_0.length : Int) x4_2 false l0_0 l0_1 ((rd_T77 l0_1 x4_2).f0) ((rd_T77 l0_1 x4_2).f1))) else (F1.j2 k2 (l0_0.length : Int) x4_2 true l0_0 l0_1 ((rd_T77 l0_1 x4_2).f0) ((rd_T77 l0_1 x4_2).f1)))) else (F1.j2 k2 (l0_0.length : Int) x4_2 true l0_0 l0_1 ((rd_T77 l0_1 x4_2).f0) ((rd_T77 l0_1 x4_2).f1))) = some r := H
         have A16 := As.mk A160
         clear A160
         by_cases c17 : t136 = true
         ·subst c17
          have H1 : ((F15.f ((rd_T77 l0_1 x4_2).f1) 1 (wrap64 ((l0_0.length : Int) - 1))).bind fun t137 => (if t137 = true then (if x4_2 > 0 then (if 0 ≤ (wrap64 (x4_2 - 1)) then (if (wrap64 (x4_2 - 1)) < (l0_1.length : Int) then (F1.j2 k2 (l0_0.length : Int) x4_2 (decide (((rd_T77 l0_1 (wrap64 (x4_2 - 1))).f1) ≥ ((rd_T77 l0_1 x4_2).f1))) l0_0 l0_1 ((rd_T77 l0_1 x4_2).f0) ((rd_T77 l0_1 x4_2).f1)) else (none)) else (none)) else (F1.j2 k2 (l0_0.length : Int) x4_2 false l0_0 l0_1 ((rd_T77 l0_1 x4_2).f0) ((rd_T77 l0_1 x4_2).f1))) else (F1.j2 k2 (l0_0.length : Int) x4_2 true l0_0 l0_1 ((rd_T77 l0_1 x4_2).f0) ((rd_T77 l0_1 x4_2).f1)))) = some r := by rw [if_pos rfl] at H; exact H
          clear H
          have H := H1
          clear H1
          replace H := Option.bind_eq_some_iff.mp H
          obtain ⟨t137, A180, H⟩ := H
          replace H : (if t137 = true then (if x4_2 > 0 then (if 0 ≤ (wrap64 (x4_2 - 1)) then (if (wrap64 (x4_2 - 1)) < (l0_1.length : Int) then (F1.j2 k2 (l0_0.length : Int) x4_2 (decide (((rd_T77 l0_1 (wrap64 (x4_2 - 1))).f1) ≥ ((rd_T77 l0_1 x4_2).f1))) l0_0 l0_1 ((rd_T77 l0_1 x4_2).f0) ((rd_T77 l0_1 x4_2).f1)) else (none)) else (none)) else (F1.j2 k2 (l0_0.length : Int) x4_2 false l0_0 l0_1 ((rd_T77 l0_1 x4_2).f0) ((rd_T77 l0_1 x4_2).f1))) else (F1.j2 k2 (l0_0.length : Int) x4_2 true l0_0 l0_1 ((rd_T77 l0_1 x4_2).f0) ((rd_T77 l0_1 x4_2).f1))) = some r := H
          have A18 := As.mk A180
          clear A180
          by_cases c19 : t137 = true
          ·subst c19
           have H1 : (if x4_2 > 0 then (if 0 ≤ (wrap64 (x4_2 - 1)) then (if (wrap64 (x4_2 - 1)) < (l0_1.length : Int) then (F1.j2 k2 (l0_0.length : Int) x4_2 (decide (((rd_T77 l0_1 (wrap64 (x4_2 - 1))).f1) ≥ ((rd_T77 l0_1 x4_2).f1))) l0_0 l0_1 ((rd_T77 l0_1 x4_2).f0) ((rd_T77 l0_1 x4_2).f1)) else (none)) else (none)) else (F1.j2 k2 (l0_0.length : Int) x4_2 false l0_0 l0_1 ((rd_T77 l0_1 x4_2).f0) ((rd_T77 l0_1 x4_2).f1))) = some r := by rw [if_pos rfl] at H; exact H
           clear H
           have H := H1
           clear H1
           by_cases c20 : x4_2 > 0
           ·rw [if_pos c20] at H
            have c20b0 : decide (0 < x4_2) = true := decide_eq_true c20
            clear c20
            (first | rw [c20b0] | (simp only [i64_w, i32_w]; rw [c20b0]) | skip)
            obtain ⟨ji21, hji21⟩ : ∃ j_ : Int, (wrap64 (x4_2 - 1)) = j_ := ⟨_, rfl⟩
            replace H : (if 0 ≤ (ji21) then (if (ji21) < (l0_1.length : Int) then (F1.j2 k2 (l0_0.length : Int) x4_2 (decide (((rd_T77 l0_1 (ji21)).f1) ≥ ((rd_T77 l0_1 x4_2).f1))) l0_0 l0_1 ((rd_T77 l0_1 x4_2).f0) ((rd_T77 l0_1 x4_2).f1)) else (none)) else (none)) = some r := by first | (rw [hji21] at H; exact H) | (simp only [hji21] at H ⊢; exact H)
            (try rw [hji21] at A16)
            (try rw [hji21] at A18)
            have hji21w : (IntKind.i64.wrap (x4_2 - 1)) = ji21 := (i64_w _).trans hji21
            by_cases c22 : 0 ≤ (ji21)
            ·rw [if_pos c22] at H
             have c22b0 : decide (0 ≤ (ji21)) = true := decide_eq_true c22
             clear c22
             by_cases c23 : (ji21) < (l0_1.length : Int)
             ·rw [if_pos c23] at H
              have c23b0 : decide ((ji21) < (l0_1.length : Int)) = true := decide_eq_true c23
              clear c23
              have H' := As.mk H
              clear H
              have hnb24 := NB135_132.out
              have hnc24 := NB132_135.out
              have hcz25_0 : w13.cell? ⟨gb135, 0, none⟩ = some (.string (⟨#[]⟩ : ByteArray)) := (kC BK135.out 0).trans rfl
              have hcz25_1 : w13.cell? ⟨gb135, 1, none⟩ = some (.int .i64 0) := (kC BK135.out 1).trans rfl
              have hfz25_0 := kF BK135.out 0
              have hfz25_1 := kF BK135.out 1
              go_wp2_with (first | (go_at_call 47; (with_reducible refine (F18.calls k2 ((rd_T77 l0_1 x4_2).f0) true _ A16.out).mono ?_); rintro e w' ⟨rfl, ⟨nd, rfl⟩⟩; (try first | exact ⟨rfl, _, World.drewN_drewN _ _ _⟩ | exact ⟨rfl, _, Eq.trans (World.drewN_drewN _ _ _) (congrArg (World.drewN _) (Nat.add_assoc _ _ _))⟩)) | (go_at_call 46; (with_reducible refine (F15.calls ((rd_T77 l0_1 x4_2).f1) 1 (IntKind.i64.wrap ((l0_0.length : Int) - 1)) true _ (by rw [i64_w]; exact A18.out)).mono ?_); rintro e w' ⟨rfl, ⟨nd, rfl⟩⟩; (try first | exact ⟨rfl, _, World.drewN_drewN _ _ _⟩ | exact ⟨rfl, _, Eq.trans (World.drewN_drewN _ _ _) (congrArg (World.drewN _) (Nat.add_assoc _ _ _))⟩); have hcz26_0 : w13.cell? ⟨gb132, 0, none⟩ = some (.slice A0_0 l0_0.length c0_0) := (kC BK132.out 0).trans rfl; have hcz26_1 : w13.cell? ⟨gb132, 1, none⟩ = some (.slice (some ad134) l0_1.length c0_1) := (kC BK132.out 1).trans rfl; have hfz26_0 := kF BK132.out 0; have hfz26_1 := kF BK132.out 1; have p138 : 0 ≤ ((ji21) : Int) := of_decide_eq_true (by first | (with_reducible assumption) | assumption); have q138 : (ji21) < (l0_1.length : Int) := of_decide_eq_true (by first | (with_reducible assumption) | assumption); obtain ⟨ad138, e138, hx138_0, hx138_1⟩ := at_T77 HR0_1.out (ji21) p138 q138; obtain rfl : ad134 = ad138 := (by injection e138); have hn138_0 : ad134.block ≠ gb135 := Nat.ne_of_lt (Nat.lt_of_lt_of_le (by have := World.block_lt_of_cell? _ _ hx138_0; first | rwa [add_block] at this | exact this) GW135.out); have hn138_1 : ad134.block ≠ gb135 := Nat.ne_of_lt (Nat.lt_of_lt_of_le (by have := World.block_lt_of_cell? _ _ hx138_0; first | rwa [add_block] at this | exact this) GW135.out); replace hx138_0 := (HB.out.cell (World.block_lt_of_cell? w _ hx138_0)).trans hx138_0; replace hx138_1 := (HB.out.cell (World.block_lt_of_cell? w _ hx138_1)).trans hx138_1; replace hx138_0 := (cell_far (p := ⟨gb135, 0, none⟩) (by first | (rw [add_block]; exact hn138_0) | (show (Addr.add _ _).block ≠ _; rw [add_block]; exact hn138_0) | exact hn138_0) (.string ((rd_T77 l0_1 x4_2).f0))).trans hx138_0; replace hx138_1 := (cell_far (p := ⟨gb135, 0, none⟩) (by first | (rw [add_block]; exact hn138_0) | (show (Addr.add _ _).block ≠ _; rw [add_block]; exact hn138_0) | exact hn138_0) (.string ((rd_T77 l0_1 x4_2).f0))).trans hx138_1; replace hx138_0 := (cell_far (p := ⟨gb135, 1, none⟩) (by first | (rw [add_block]; exact hn138_1) | (show (Addr.add _ _).block ≠ _; rw [add_block]; exact hn138_1) | exact hn138_1) (.int .i64 ((rd_T77 l0_1 x4_2).f1))).trans hx138_0; replace hx138_1 := (cell_far (p := ⟨gb135, 1, none⟩) (by first | (rw [add_block]; exact hn138_1) | (show (Addr.add _ _).block ≠ _; rw [add_block]; exact hn138_1) | exact hn138_1) (.int .i64 ((rd_T77 l0_1 x4_2).f1))).trans hx138_1; (try have hy138_0 := fun (n_ : Nat) => (show ((((w13.drewN n_).setCell ⟨gb135, 0, none⟩ (.string ((rd_T77 l0_1 x4_2).f0))).setCell ⟨gb135, 1, none⟩ (.int .i64 ((rd_T77 l0_1 x4_2).f1)))).cell? _ = some _ from hx138_0)); (try have hy138_1 := fun (n_ : Nat) => (show ((((w13.drewN n_).setCell ⟨gb135, 0, none⟩ (.string ((rd_T77 l0_1 x4_2).f0))).setCell ⟨gb135, 1, none⟩ (.int .i64 ((rd_T77 l0_1 x4_2).f1)))).cell? _ = some _ from hx138_1)); clear hn138_0; clear hn138_1; replace p138 := eq_true p138; replace q138 := eq_true q138))
              repeat (go_quiet (first | (go_at_call 47; (with_reducible refine (F18.calls k2 ((rd_T77 l0_1 x4_2).f0) true _ A16.out).mono ?_); rintro e w' ⟨rfl, ⟨nd, rfl⟩⟩; (try first | exact ⟨rfl, _, World.drewN_drewN _ _ _⟩ | exact ⟨rfl, _, Eq.trans (World.drewN_drewN _ _ _) (congrArg (World.drewN _) (Nat.add_assoc _ _ _))⟩)) | (go_at_call 46; (with_reducible refine (F15.calls ((rd_T77 l0_1 x4_2).f1) 1 (IntKind.i64.wrap ((l0_0.length : Int) - 1)) true _ (by rw [i64_w]; exact A18.out)).mono ?_); rintro e w' ⟨rfl, ⟨nd, rfl⟩⟩; (try first | exact ⟨rfl, _, World.drewN_drewN _ _ _⟩ | exact ⟨rfl, _, Eq.trans (World.drewN_drewN _ _ _) (congrArg (World.drewN _) (Nat.add_assoc _ _ _))⟩); have hcz26_0 : w13.cell? ⟨gb132, 0, none⟩ = some (.slice A0_0 l0_0.length c0_0) := (kC BK132.out 0).trans rfl; have hcz26_1 : w13.cell? ⟨gb132, 1, none⟩ = some (.slice (some ad134) l0_1.length c0_1) := (kC BK132.out 1).trans rfl; have hfz26_0 := kF BK132.out 0; have hfz26_1 := kF BK132.out 1; have p138 : 0 ≤ ((ji21) : Int) := of_decide_eq_true (by first | (with_reducible assumption) | assumption); have q138 : (ji21) < (l0_1.length : Int) := of_decide_eq_true (by first | (with_reducible assumption) | assumption); obtain ⟨ad138, e138, hx138_0, hx138_1⟩ := at_T77 HR0_1.out (ji21) p138 q138; obtain rfl : ad134 = ad138 := (by injection e138); have hn138_0 : ad134.block ≠ gb135 := Nat.ne_of_lt (Nat.lt_of_lt_of_le (by have := World.block_lt_of_cell? _ _ hx138_0; first | rwa [add_block] at this | exact this) GW135.out); have hn138_1 : ad134.block ≠ gb135 := Nat.ne_of_lt (Nat.lt_of_lt_of_le (by have := World.block_lt_of_cell? _ _ hx138_0; first | rwa [add_block] at this | exact this) GW135.out); replace hx138_0 := (HB.out.cell (World.block_lt_of_cell? w _ hx138_0)).trans hx138_0; replace hx138_1 := (HB.out.cell (World.block_lt_of_cell? w _ hx138_1)).trans hx138_1; replace hx138_0 := (cell_far (p := ⟨gb135, 0, none⟩) (by first | (rw [add_block]; exact hn138_0) | (show (Addr.add _ _).block ≠ _; rw [add_block]; exact hn138_0) | exact hn138_0) (.string ((rd_T77 l0_1 x4_2).f0))).trans hx138_0; replace hx138_1 := (cell_far (p := ⟨gb135, 0, none⟩) (by first | (rw [add_block]; exact hn138_0) | (show (Addr.add _ _).block ≠ _; rw [add_block]; exact hn138_0) | exact hn138_0) (.string ((rd_T77 l0_1 x4_2).f0))).trans hx138_1; replace hx138_0 := (cell_far (p := ⟨gb135, 1, none⟩) (by first | (rw [add_block]; exact hn138_1) | (show (Addr.add _ _).block ≠ _; rw [add_block]; exact hn138_1) | exact hn138_1) (.int .i64 ((rd_T77 l0_1 x4_2).f1))).trans hx138_0; replace hx138_1 := (cell_far (p := ⟨gb135, 1, none⟩) (by first | (rw [add_block]; exact hn138_1) | (show (Addr.add _ _).block ≠ _; rw [add_block]; exact hn138_1) | exact hn138_1) (.int .i64 ((rd_T77 l0_1 x4_2).f1))).trans hx138_1; (try have hy138_0 := fun (n_ : Nat) => (show ((((w13.drewN n_).setCell ⟨gb135, 0, none⟩ (.string ((rd_T77 l0_1 x4_2).f0))).setCell ⟨gb135, 1, none⟩ (.int .i64 ((rd_T77 l0_1 x4_2).f1)))).cell? _ = some _ from hx138_0)); (try have hy138_1 := fun (n_ : Nat) => (show ((((w13.drewN n_).setCell ⟨gb135, 0, none⟩ (.string ((rd_T77 l0_1 x4_2).f0))).setCell ⟨gb135, 1, none⟩ (.int .i64 ((rd_T77 l0_1 x4_2).f1)))).cell? _ = some _ from hx138_1)); clear hn138_0; clear hn138_1; replace p138 := eq_true p138; replace q138 := eq_true q138)); try go_wp2_with (first | (go_at_call 47; (with_reducible refine (F18.calls k2 ((rd_T77 l0_1 x4_2).f0) true _ A16.out).mono ?_); rintro e w' ⟨rfl, ⟨nd, rfl⟩⟩; (try first | exact ⟨rfl, _, World.drewN_drewN _ _ _⟩ | exact ⟨rfl, _, Eq.trans (World.drewN_drewN _ _ _) (congrArg (World.drewN _) (Nat.add_assoc _ _ _))⟩)) | (go_at_call 46; (with_reducible refine (F15.calls ((rd_T77 l0_1 x4_2).f1) 1 (IntKind.i64.wrap ((l0_0.length : Int) - 1)) true _ (by rw [i64_w]; exact A18.out)).mono ?_); rintro e w' ⟨rfl, ⟨nd, rfl⟩⟩; (try first | exact ⟨rfl, _, World.drewN_drewN _ _ _⟩ | exact ⟨rfl, _, Eq.trans (World.drewN_drewN _ _ _) (congrArg (World.drewN _) (Nat.add_assoc _ _ _))⟩); have hcz26_0 : w13.cell? ⟨gb132, 0, none⟩ = some (.slice A0_0 l0_0.length c0_0) := (kC BK132.out 0).trans rfl; have hcz26_1 : w13.cell? ⟨gb132, 1, none⟩ = some (.slice (some ad134) l0_1.length c0_1) := (kC BK132.out 1).trans rfl; have hfz26_0 := kF BK132.out 0; have hfz26_1 := kF BK132.out 1; have p138 : 0 ≤ ((ji21) : Int) := of_decide_eq_true (by first | (with_reducible assumption) | assumption); have q138 : (ji21) < (l0_1.length : Int) := of_decide_eq_true (by first | (with_reducible assumption) | assumption); obtain ⟨ad138, e138, hx138_0, hx138_1⟩ := at_T77 HR0_1.out (ji21) p138 q138; obtain rfl : ad134 = ad138 := (by injection e138); have hn138_0 : ad134.block ≠ gb135 := Nat.ne_of_lt (Nat.lt_of_lt_of_le (by have := World.block_lt_of_cell? _ _ hx138_0; first | rwa [add_block] at this | exact this) GW135.out); have hn138_1 : ad134.block ≠ gb135 := Nat.ne_of_lt (Nat.lt_of_lt_of_le (by have := World.block_lt_of_cell? _ _ hx138_0; first | rwa [add_block] at this | exact this) GW135.out); replace hx138_0 := (HB.out.cell (World.block_lt_of_cell? w _ hx138_0)).trans hx138_0; replace hx138_1 := (HB.out.cell (World.block_lt_of_cell? w _ hx138_1)).trans hx138_1; replace hx138_0 := (cell_far (p := ⟨gb135, 0, none⟩) (by first | (rw [add_block]; exact hn138_0) | (show (Addr.add _ _).block ≠ _; rw [add_block]; exact hn138_0) | exact hn138_0) (.string ((rd_T77 l0_1 x4_2).f0))).trans hx138_0; replace hx138_1 := (cell_far (p := ⟨gb135, 0, none⟩) (by first | (rw [add_block]; exact hn138_0) | (show (Addr.add _ _).block ≠ _; rw [add_block]; exact hn138_0) | exact hn138_0) (.string ((rd_T77 l0_1 x4_2).f0))).trans hx138_1; replace hx138_0 := (cell_far (p := ⟨gb135, 1, none⟩) (by first | (rw [add_block]; exact hn138_1) | (show (Addr.add _ _).block ≠ _; rw [add_block]; exact hn138_1) | exact hn138_1) (.int .i64 ((rd_T77 l0_1 x4_2).f1))).trans hx138_0; replace hx138_1 := (cell_far (p := ⟨gb135, 1, none⟩) (by first | (rw [add_block]; exact hn138_1) | (show (Addr.add _ _).block ≠ _; rw [add_block]; exact hn138_1) | exact hn138_1) (.int .i64 ((rd_T77 l0_1 x4_2).f1))).trans hx138_1; (try have hy138_0 := fun (n_ : Nat) => (show ((((w13.drewN n_).setCell ⟨gb135, 0, none⟩ (.string ((rd_T77 l0_1 x4_2).f0))).setCell ⟨gb135, 1, none⟩ (.int .i64 ((rd_T77 l0_1 x4_2).f1)))).cell? _ = some _ from hx138_0)); (try have hy138_1 := fun (n_ : Nat) => (show ((((w13.drewN n_).setCell ⟨gb135, 0, none⟩ (.string ((rd_T77 l0_1 x4_2).f0))).setCell ⟨gb135, 1, none⟩ (.int .i64 ((rd_T77 l0_1 x4_2).f1)))).cell? _ = some _ from hx138_1)); clear hn138_0; clear hn138_1; replace p138 := eq_true p138; replace q138 := eq_true q138)))
              go_meet
              case rel => exact ⟨_, (decide (((rd_T77 l0_1 (ji21)).f1) ≥ ((rd_T77 l0_1 x4_2).f1))), (by first | rfl | (simp; done) | (simp only [← hji21] <;> (first | rfl | simp)) | (simp [*]; done)), H', ⟨by have := HJ1.out; have := HK2.out; first | omega | exact Nat.le_refl _⟩, ⟨by (with_reducible repeat (first | refine kD ?_ _ | refine kE ?_ | refine kA ?_ _)); refine blk_far ?_ NB132_135.out _; (with_reducible repeat (first | refine kD ?_ _ | refine kE ?_ | refine kA ?_ _)); refine blk_far ?_ NB132_135.out _; (with_reducible repeat (first | refine kD ?_ _ | refine kE ?_ | refine kA ?_ _)); exact BK132.out⟩, ⟨by (with_reducible repeat (first | refine kD ?_ _ | refine kE ?_ | refine kA ?_ _)); refine blk_put (cs := #[.string ((rd_T77 l0_1 x4_2).f0), .int .i64 0]) ?_ 1 _ rfl; (with_reducible repeat (first | refine kD ?_ _ | refine kE ?_ | refine kA ?_ _)); refine blk_put (cs := #[.string (⟨#[]⟩ : ByteArray), .int .i64 0]) ?_ 0 _ rfl; (with_reducible repeat (first | refine kD ?_ _ | refine kE ?_ | refine kA ?_ _)); exact BK135.out⟩, ⟨by repeat (first | (with_reducible first | exact HB.out | apply bA | apply bD | apply bE | refine bS ?_ GE132.out | refine bS ?_ GE135.out) | exact HB.out)⟩⟩
             ·rw [if_neg c23] at H
              exact absurd H (by simp)
            ·rw [if_neg c22] at H
             exact absurd H (by simp)
           ·rw [if_neg c20] at H
            have c20b0 : decide (0 < x4_2) = false := decide_eq_false c20
            clear c20
            (first | rw [c20b0] | (simp only [i64_w, i32_w]; rw [c20b0]) | skip)
            have H' := As.mk H
            clear H
            have hnb27 := NB135_132.out
            have hnc27 := NB132_135.out
            have hcz28_0 : w13.cell? ⟨gb135, 0, none⟩ = some (.string (⟨#[]⟩ : ByteArray)) := (kC BK135.out 0).trans rfl
            have hcz28_1 : w13.cell? ⟨gb135, 1, none⟩ = some (.int .i64 0) := (kC BK135.out 1).trans rfl
            have hfz28_0 := kF BK135.out 0
            have hfz28_1 := kF BK135.out 1
            go_wp2_with (first | (go_at_call 47; (with_reducible refine (F18.calls k2 ((rd_T77 l0_1 x4_2).f0) true _ A16.out).mono ?_); rintro e w' ⟨rfl, ⟨nd, rfl⟩⟩; (try first | exact ⟨rfl, _, World.drewN_drewN _ _ _⟩ | exact ⟨rfl, _, Eq.trans (World.drewN_drewN _ _ _) (congrArg (World.drewN _) (Nat.add_assoc _ _ _))⟩)) | (go_at_call 46; (with_reducible refine (F15.calls ((rd_T77 l0_1 x4_2).f1) 1 (wrap64 ((l0_0.length : Int) - 1)) true _ A18.out).mono ?_); rintro e w' ⟨rfl, ⟨nd, rfl⟩⟩; (try first | exact ⟨rfl, _, World.drewN_drewN _ _ _⟩ | exact ⟨rfl, _, Eq.trans (World.drewN_drewN _ _ _) (congrArg (World.drewN _) (Nat.add_assoc _ _ _))⟩)))
            repeat (go_quiet (first | (go_at_call 47; (with_reducible refine (F18.calls k2 ((rd_T77 l0_1 x4_2).f0) true _ A16.out).mono ?_); rintro e w' ⟨rfl, ⟨nd, rfl⟩⟩; (try first | exact ⟨rfl, _, World.drewN_drewN _ _ _⟩ | exact ⟨rfl, _, Eq.trans (World.drewN_drewN _ _ _) (congrArg (World.drewN _) (Nat.add_assoc _ _ _))⟩)) | (go_at_call 46; (with_reducible refine (F15.calls ((rd_T77 l0_1 x4_2).f1) 1 (wrap64 ((l0_0.length : Int) - 1)) true _ A18.out).mono ?_); rintro e w' ⟨rfl, ⟨nd, rfl⟩⟩; (try first | exact ⟨rfl, _, World.drewN_drewN _ _ _⟩ | exact ⟨rfl, _, Eq.trans (World.drewN_drewN _ _ _) (congrArg (World.drewN _) (Nat.add_assoc _ _ _))⟩))); try go_wp2_with (first | (go_at_call 47; (with_reducible refine (F18.calls k2 ((rd_T77 l0_1 x4_2).f0) true _ A16.out).mono ?_); rintro e w' ⟨rfl, ⟨nd, rfl⟩⟩; (try first | exact ⟨rfl, _, World.drewN_drewN _ _ _⟩ | exact ⟨rfl, _, Eq.trans (World.drewN_drewN _ _ _) (congrArg (World.drewN _) (Nat.add_assoc _ _ _))⟩)) | (go_at_call 46; (with_reducible refine (F15.calls ((rd_T77 l0_1 x4_2).f1) 1 (wrap64 ((l0_0.length : Int) - 1)) true _ A18.out).mono ?_); rintro e w' ⟨rfl, ⟨nd, rfl⟩⟩; (try first | exact ⟨rfl, _, World.drewN_drewN _ _ _⟩ | exact ⟨rfl, _, Eq.trans (World.drewN_drewN _ _ _) (congrArg (World.drewN _) (Nat.add_assoc _ _ _))⟩))))
            go_meet
            case rel => exact ⟨_, (false), (by first | rfl | (simp; done) | (simp [*]; done)), H', ⟨by have := HJ1.out; have := HK2.out; first | omega | exact Nat.le_refl _⟩, ⟨by (with_reducible repeat (first | refine kD ?_ _ | refine kE ?_ | refine kA ?_ _)); refine blk_far ?_ NB132_135.out _; (with_reducible repeat (first | refine kD ?_ _ | refine kE ?_ | refine kA ?_ _)); refine blk_far ?_ NB132_135.out _; (with_reducible repeat (first | refine kD ?_ _ | refine kE ?_ | refine kA ?_ _)); exact BK132.out⟩, ⟨by (with_reducible repeat (first | refine kD ?_ _ | refine kE ?_ | refine kA ?_ _)); refine blk_put (cs := #[.string ((rd_T77 l0_1 x4_2).f0), .int .i64 0]) ?_ 1 _ rfl; (with_reducible repeat (first | refine kD ?_ _ | refine kE ?_ | refine kA ?_ _)); refine blk_put (cs := #[.string (⟨#[]⟩ : ByteArray), .int .i64 0]) ?_ 0 _ rfl; (with_reducible repeat (first | refine kD ?_ _ | refine kE ?_ | refine kA ?_ _)); exact BK135.out⟩, ⟨by repeat (first | (with_reducible first | exact HB.out | apply bA | apply bD | apply bE | refine bS ?_ GE132.out | refine bS ?_ GE135.out) | exact HB.out)⟩⟩
          ·replace c19 := Bool.eq_false_iff.mpr c19
           subst c19
           have H1 : (F1.j2 k2 (l0_0.length : Int) x4_2 true l0_0 l0_1 ((rd_T77 l0_1 x4_2).f0) ((rd_T77 l0_1 x4_2).f1)) = some r := by rw [if_neg (show ¬ (false = true) by decide)] at H; exact H
           clear H
           have H := H1
           clear H1
           have H' := As.mk H
           clear H
           have hnb29 := NB135_132.out
           have hnc29 := NB132_135.out
           have hcz30_0 : w13.cell? ⟨gb135, 0, none⟩ = some (.string (⟨#[]⟩ : ByteArray)) := (kC BK135.out 0).trans rfl
           have hcz30_1 : w13.cell? ⟨gb135, 1, none⟩ = some (.int .i64 0) := (kC BK135.out 1).trans rfl
           have hfz30_0 := kF BK135.out 0
           have hfz30_1 := kF BK135.out 1
           go_wp2_with (first | (go_at_call 47; (with_reducible refine (F18.calls k2 ((rd_T77 l0_1 x4_2).f0) true _ A16.out).mono ?_); rintro e w' ⟨rfl, ⟨nd, rfl⟩⟩; (try first | exact ⟨rfl, _, World.drewN_drewN _ _ _⟩ | exact ⟨rfl, _, Eq.trans (World.drewN_drewN _ _ _) (congrArg (World.drewN _) (Nat.add_assoc _ _ _))⟩)) | (go_at_call 46; (with_reducible refine (F15.calls ((rd_T77 l0_1 x4_2).f1) 1 (wrap64 ((l0_0.length : Int) - 1)) false _ A18.out).mono ?_); rintro e w' ⟨rfl, ⟨nd, rfl⟩⟩; (try first | exact ⟨rfl, _, World.drewN_drewN _ _ _⟩ | exact ⟨rfl, _, Eq.trans (World.drewN_drewN _ _ _) (congrArg (World.drewN _) (Nat.add_assoc _ _ _))⟩)))
           repeat (go_quiet (first | (go_at_call 47; (with_reducible refine (F18.calls k2 ((rd_T77 l0_1 x4_2).f0) true _ A16.out).mono ?_); rintro e w' ⟨rfl, ⟨nd, rfl⟩⟩; (try first | exact ⟨rfl, _, World.drewN_drewN _ _ _⟩ | exact ⟨rfl, _, Eq.trans (World.drewN_drewN _ _ _) (congrArg (World.drewN _) (Nat.add_assoc _ _ _))⟩)) | (go_at_call 46; (with_reducible refine (F15.calls ((rd_T77 l0_1 x4_2).f1) 1 (wrap64 ((l0_0.length : Int) - 1)) false _ A18.out).mono ?_); rintro e w' ⟨rfl, ⟨nd, rfl⟩⟩; (try first | exact ⟨rfl, _, World.drewN_drewN _ _ _⟩ | exact ⟨rfl, _, Eq.trans (World.drewN_drewN _ _ _) (congrArg (World.drewN _) (Nat.add_assoc _ _ _))⟩))); try go_wp2_with (first | (go_at_call 47; (with_reducible refine (F18.calls k2 ((rd_T77 l0_1 x4_2).f0) true _ A16.out).mono ?_); rintro e w' ⟨rfl, ⟨nd, rfl⟩⟩; (try first | exact ⟨rfl, _, World.drewN_drewN _ _ _⟩ | exact ⟨rfl, _, Eq.trans (World.drewN_drewN _ _ _) (congrArg (World.drewN _) (Nat.add_assoc _ _ _))⟩)) | (go_at_call 46; (with_reducible refine (F15.calls ((rd_T77 l0_1 x4_2).f1) 1 (wrap64 ((l0_0.length : Int) - 1)) false _ A18.out).mono ?_); rintro e w' ⟨rfl, ⟨nd, rfl⟩⟩; (try first | exact ⟨rfl, _, World.drewN_drewN _ _ _⟩ | exact ⟨rfl, _, Eq.trans (World.drewN_drewN _ _ _) (congrArg (World.drewN _) (Nat.add_assoc _ _ _))⟩))))
           go_meet
           case rel => exact ⟨_, (true), (by first | rfl | (simp; done) | (simp [*]; done)), H', ⟨by have := HJ1.out; have := HK2.out; first | omega | exact Nat.le_refl _⟩, ⟨by (with_reducible repeat (first | refine kD ?_ _ | refine kE ?_ | refine kA ?_ _)); refine blk_far ?_ NB132_135.out _; (with_reducible repeat (first | refine kD ?_ _ | refine kE ?_ | refine kA ?_ _)); refine blk_far ?_ NB132_135.out _; (with_reducible repeat (first | refine kD ?_ _ | refine kE ?_ | refine kA ?_ _)); exact BK132.out⟩, ⟨by (with_reducible repeat (first | refine kD ?_ _ | refine kE ?_ | refine kA ?_ _)); refine blk_put (cs := #[.string ((rd_T77 l0_1 x4_2).f0), .int .i64 0]) ?_ 1 _ rfl; (with_reducible repeat (first | refine kD ?_ _ | refine kE ?_ | refine kA ?_ _)); refine blk_put (cs := #[.string (⟨#[]⟩ : ByteArray), .int .i64 0]) ?_ 0 _ rfl; (with_reducible repeat (first | refine kD ?_ _ | refine kE ?_ | refine kA ?_ _)); exact BK135.out⟩, ⟨by repeat (first | (with_reducible first | exact HB.out | apply bA | apply bD | apply bE | refine bS ?_ GE132.out | refine bS ?_ GE135.out) | exact HB.out)⟩⟩
         ·replace c17 := Bool.eq_false_iff.mpr c17
          subst c17
          have H1 : (F1.j2 k2 (l0_0.length : Int) x4_2 true l0_0 l0_1 ((rd_T77 l0_1 x4_2).f0) ((rd_T77 l0_1 x4_2).f1)) = some r := by rw [if_neg (show ¬ (false = true) by decide)] at H; exact H
          clear H
          have H := H1
          clear H1
          have H' := As.mk H
          clear H
          have hnb31 := NB135_132.out
          have hnc31 := NB132_135.out
          have hcz32_0 : w13.cell? ⟨gb135, 0, none⟩ = some (.string (⟨#[]⟩ : ByteArray)) := (kC BK135.out 0).trans rfl
          have hcz32_1 : w13.cell? ⟨gb135, 1, none⟩ = some (.int .i64 0) := (kC BK135.out 1).trans rfl
          have hfz32_0 := kF BK135.out 0
          have hfz32_1 := kF BK135.out 1
          go_wp2_with (first | (go_at_call 47; (with_reducible refine (F18.calls k2 ((rd_T77 l0_1 x4_2).f0) false _ A16.out).mono ?_); rintro e w' ⟨rfl, ⟨nd, rfl⟩⟩; (try first | exact ⟨rfl, _, World.drewN_drewN _ _ _⟩ | exact ⟨rfl, _, Eq.trans (World.drewN_drewN _ _ _) (congrArg (World.drewN _) (Nat.add_assoc _ _ _))⟩)))
          repeat (go_quiet (first | (go_at_call 47; (with_reducible refine (F18.calls k2 ((rd_T77 l0_1 x4_2).f0) false _ A16.out).mono ?_); rintro e w' ⟨rfl, ⟨nd, rfl⟩⟩; (try first | exact ⟨rfl, _, World.drewN_drewN _ _ _⟩ | exact ⟨rfl, _, Eq.trans (World.drewN_drewN _ _ _) (congrArg (World.drewN _) (Nat.add_assoc _ _ _))⟩))); try go_wp2_with (first | (go_at_call 47; (with_reducible refine (F18.calls k2 ((rd_T77 l0_1 x4_2).f0) false _ A16.out).mono ?_); rintro e w' ⟨rfl, ⟨nd, rfl⟩⟩; (try first | exact ⟨rfl, _, World.drewN_drewN _ _ _⟩ | exact ⟨rfl, _, Eq.trans (World.drewN_drewN _ _ _) (congrArg (World.drewN _) (Nat.add_assoc _ _ _))⟩))))
          go_meet
          case rel => exact ⟨_, (true), (by first | rfl | (simp; done) | (simp [*]; done)), H', ⟨by have := HJ1.out; have := HK2.out; first | omega | exact Nat.le_refl _⟩, ⟨by (with_reducible repeat (first | refine kD ?_ _ | refine kE ?_ | refine kA ?_ _)); refine blk_far ?_ NB132_135.out _; (with_reducible repeat (first | refine kD ?_ _ | refine kE ?_ | refine kA ?_ _)); refine blk_far ?_ NB132_135.out _; (with_reducible repeat (first | refine kD ?_ _ | refine kE ?_ | refine kA ?_ _)); exact BK132.out⟩, ⟨by (with_reducible repeat (first | refine kD ?_ _ | refine kE ?_ | refine kA ?_ _)); refine blk_put (cs := #[.string ((rd_T77 l0_1 x4_2).f0), .int .i64 0]) ?_ 1 _ rfl; (with_reducible repeat (first | refine kD ?_ _ | refine kE ?_ | refine kA ?_ _)); refine blk_put (cs := #[.string (⟨#[]⟩ : ByteArray), .int .i64 0]) ?_ 0 _ rfl; (with_reducible repeat (first | refine kD ?_ _ | refine kE ?_ | refine kA ?_ _)); exact BK135.out⟩, ⟨by repeat (first | (with_reducible first | exact HB.out | apply bA | apply bD | apply bE | refine bS ?_ GE132.out | refine bS ?_ GE135.out) | exact HB.out)⟩⟩
        case rest =>
         clear HC11
         try clear c8
         try clear c9
         try clear c9b0
         try clear c10
         try clear c10b0
         try clear hcz12_0
         try clear hcz12_1
         try clear hcz15_0
         try clear hcz15_1
         try clear hcz4_0
         try clear hcz4_1
         try clear hfz12_0
         try clear hfz12_1
         try clear hfz15_0
         try clear hfz15_1
         try clear hfz4_0
         try clear hfz4_1
         try clear hx134_0
         try clear hx134_1
         try clear p134
         try clear q134
         obtain ⟨kq, x63_10, rfl, HA, HJ10, BK132, BK135, HB⟩ := hcut
         cases kq with
         | zero => exact absurd HA.out (by simp [F1.j2])
         | succ kj10 =>
          have H := HA.out
          clear HA
          simp only [F1.j2] at H
          by_cases c33 : x63_10 = true
          ·subst c33
           have H1 : (some false) = some r := by rw [if_pos rfl] at H; exact H
           clear H
           have H := H1
           clear H1
           obtain rfl := Option.some.inj H
           go_wp2
           repeat (go_quiet (fail); try go_wp2)
           go_ret
           exact ⟨by first | rfl | (simp [eN, eS] <;> rfl) | (simp [*, eN, eS] <;> rfl), by repeat (first | (with_reducible first | exact HB.out | apply bA | apply bD | apply bE | refine bS ?_ GE132.out | refine bS ?_ GE135.out) | exact HB.out)⟩
          ·replace c33 := Bool.eq_false_iff.mpr c33
           subst c33
           have H1 : (F1.l1 kj10 (l0_0.length : Int) x4_2 0 l0_0 l0_1 ((rd_T77 l0_1 x4_2).f0) ((rd_T77 l0_1 x4_2).f1)) = some r := by rw [if_neg (show ¬ (false = true) by decide)] at H; exact H
           clear H
           have H := H1
           clear H1
           have H' := As.mk H
           clear H
           go_wp2
           repeat (go_quiet (fail); try go_wp2)
           go_loopg [6] kj10 (fun kq v6 w' => ∃ (x6_4 : Int), v6 = .int .i64 x6_4 ∧ As (F1.l1 kq (l0_0.length : Int) x4_2 x6_4 l0_0 l0_1 ((rd_T77 l0_1 x4_2).f0) ((rd_T77 l0_1 x4_2).f1) = some r) ∧ As (kq ≤ kj10) ∧ As (w'.heap[gb132]? = some (.cells #[(.slice A0_0 l0_0.length c0_0), (.slice (some ad134) l0_1.length c0_1)] 31 (0, 0))) ∧ As (w'.heap[gb135]? = some (.cells #[.string ((rd_T77 l0_1 x4_2).f0), .int .i64 ((rd_T77 l0_1 x4_2).f1)] 77 (0, 0))) ∧ As (Below w.heap.size w w'))
           case atStart => exact ⟨(0), (by first | rfl | (simp; done) | (simp [*]; done)), H', ⟨Nat.le_refl _⟩, ⟨by (with_reducible repeat (first | refine kD ?_ _ | refine kE ?_ | refine kA ?_ _)); exact BK132.out⟩, ⟨by (with_reducible repeat (first | refine kD ?_ _ | refine kE ?_ | refine kA ?_ _)); exact BK135.out⟩, ⟨by repeat (first | (with_reducible first | exact HB.out | apply bA | apply bD | apply bE | refine bS ?_ GE132.out | refine bS ?_ GE135.out) | exact HB.out)⟩⟩
           case round =>
            clear H'
            try clear c8
            try clear c9
            try clear c9b0
            try clear c10
            try clear c10b0
            try clear c33
            try clear hcz12_0
            try clear hcz12_1
            try clear hcz15_0
            try clear hcz15_1
            try clear hcz4_0
            try clear hcz4_1
            try clear hfz12_0
            try clear hfz12_1
            try clear hfz15_0
            try clear hfz15_1
            try clear hfz4_0
            try clear hfz4_1
            try clear hx134_0
            try clear hx134_1
            try clear p134
            try clear q134
            obtain ⟨x6_4, rfl, HA, HK4, BK132, BK135, HB⟩ := hrel
            cases gk with
            | zero => exact absurd HA.out (by simp [F1.l1])
            | succ k4 =>
             have H := HA.out
             clear HA
             simp only [F1.l1] at H
             by_cases c34 : x6_4 < x4_2
             ·rw [if_pos c34] at H
              have c34b0 : decide (x6_4 < x4_2) = true := decide_eq_true c34
              clear c34
              by_cases c35 : 0 ≤ x6_4
              ·rw [if_pos c35] at H
               have c35b0 : decide (0 ≤ x6_4) = true := decide_eq_true c35
               clear c35
               by_cases c36 : x6_4 < (l0_1.length : Int)
               ·rw [if_pos c36] at H
                have c36b0 : decide (x6_4 < (l0_1.length : Int)) = true := decide_eq_true c36
                clear c36
                by_cases c37 : ((rd_T77 l0_1 x6_4).f0).toList = ((rd_T77 l0_1 x4_2).f0).toList
                ·rw [if_pos c37] at H
                 have c37b0 : (((rd_T77 l0_1 x6_4).f0).toList == ((rd_T77 l0_1 x4_2).f0).toList) = true := beq_iff_eq.mpr c37
                 have c37b1 : (((rd_T77 l0_1 x6_4).f0).toList != ((rd_T77 l0_1 x4_2).f0).toList) = false := bne_eq_false_iff_eq.mpr c37
                 clear c37
                 obtain rfl := Option.some.inj H
                 have hnb38 := NB132_135.out
                 have hnc38 := NB135_132.out
                 have hcz39_0 : wr.cell? ⟨gb132, 0, none⟩ = some (.slice A0_0 l0_0.length c0_0) := (kC BK132.out 0).trans rfl
                 have hcz39_1 : wr.cell? ⟨gb132, 1, none⟩ = some (.slice (some ad134) l0_1.length c0_1) := (kC BK132.out 1).trans rfl
                 have hfz39_0 := kF BK132.out 0
                 have hfz39_1 := kF BK132.out 1
                 have p139 : 0 ≤ (x6_4 : Int) := of_decide_eq_true (by first | (with_reducible assumption) | assumption)
                 have q139 : x6_4 < (l0_1.length : Int) := of_decide_eq_true (by first | (with_reducible assumption) | assumption)
                 obtain ⟨ad139, e139, hx139_0, hx139_1⟩ := at_T77 HR0_1.out x6_4 p139 q139
                 obtain rfl : ad134 = ad139 := (by injection e139)
                 replace hx139_0 := (HB.out.cell (World.block_lt_of_cell? w _ hx139_0)).trans hx139_0
                 replace hx139_1 := (HB.out.cell (World.block_lt_of_cell? w _ hx139_1)).trans hx139_1
                 replace p139 := eq_true p139
                 replace q139 := eq_true q139
                 have hcz40_0 : wr.cell? ⟨gb135, 0, none⟩ = some (.string ((rd_T77 l0_1 x4_2).f0)) := (kC BK135.out 0).trans rfl
                 have hcz40_1 : wr.cell? ⟨gb135, 1, none⟩ = some (.int .i64 ((rd_T77 l0_1 x4_2).f1)) := (kC BK135.out 1).trans rfl
                 have hfz40_0 := kF BK135.out 0
                 have hfz40_1 := kF BK135.out 1
                 go_wp2
                 repeat (go_quiet (fail); try go_wp2)
                 go_ret
                 exact ⟨by first | rfl | (simp [eN, eS] <;> rfl) | (simp [*, eN, eS] <;> rfl), by repeat (first | (with_reducible first | exact HB.out | apply bA | apply bD | apply bE | refine bS ?_ GE132.out | refine bS ?_ GE135.out) | exact HB.out)⟩
                ·rw [if_neg c37] at H
                 have c37b0 : (((rd_T77 l0_1 x6_4).f0).toList == ((rd_T77 l0_1 x4_2).f0).toList) = false := beq_eq_false_iff_ne.mpr c37
                 have c37b1 : (((rd_T77 l0_1 x6_4).f0).toList != ((rd_T77 l0_1 x4_2).f0).toList) = true := bne_iff_ne.mpr c37
                 have H' := As.mk H
                 clear H
                 have hnb41 := NB132_135.out
                 have hnc41 := NB135_132.out
                 have hcz42_0 : wr.cell? ⟨gb132, 0, none⟩ = some (.slice A0_0 l0_0.length c0_0) := (kC BK132.out 0).trans rfl
                 have hcz42_1 : wr.cell? ⟨gb132, 1, none⟩ = some (.slice (some ad134) l0_1.length c0_1) := (kC BK132.out 1).trans rfl
                 have hfz42_0 := kF BK132.out 0
                 have hfz42_1 := kF BK132.out 1
                 have p139 : 0 ≤ (x6_4 : Int) := of_decide_eq_true (by first | (with_reducible assumption) | assumption)
                 have q139 : x6_4 < (l0_1.length : Int) := of_decide_eq_true (by first | (with_reducible assumption) | assumption)
                 obtain ⟨ad139, e139, hx139_0, hx139_1⟩ := at_T77 HR0_1.out x6_4 p139 q139
                 obtain rfl : ad134 = ad139 := (by injection e139)
                 replace hx139_0 := (HB.out.cell (World.block_lt_of_cell? w _ hx139_0)).trans hx139_0
                 replace hx139_1 := (HB.out.cell (World.block_lt_of_cell? w _ hx139_1)).trans hx139_1
                 replace p139 := eq_true p139
                 replace q139 := eq_true q139
                 have hcz43_0 : wr.cell? ⟨gb135, 0, none⟩ = some (.string ((rd_T77 l0_1 x4_2).f0)) := (kC BK135.out 0).trans rfl
                 have hcz43_1 : wr.cell? ⟨gb135, 1, none⟩ = some (.int .i64 ((rd_T77 l0_1 x4_2).f1)) := (kC BK135.out 1).trans rfl
                 have hfz43_0 := kF BK135.out 0
                 have hfz43_1 := kF BK135.out 1
                 go_wp2
                 repeat (go_quiet (fail); try go_wp2)
                 go_roundg k4
                 case measure => have := HJ1.out; have := HK2.out; have := HJ10.out; have := HK4.out; omega
                 case rel => exact ⟨(wrap64 (x6_4 + 1)), (by first | rfl | (simp; done) | (simp [*]; done)), H', ⟨by have := HJ1.out; have := HK2.out; have := HJ10.out; have := HK4.out; omega⟩, ⟨by (with_reducible repeat (first | refine kD ?_ _ | refine kE ?_ | refine kA ?_ _)); exact BK132.out⟩, ⟨by (with_reducible repeat (first | refine kD ?_ _ | refine kE ?_ | refine kA ?_ _)); exact BK135.out⟩, ⟨by repeat (first | (with_reducible first | exact HB.out | apply bA | apply bD | apply bE | refine bS ?_ GE132.out | refine bS ?_ GE135.out) | exact HB.out)⟩⟩
               ·rw [if_neg c36] at H
                exact absurd H (by simp)
              ·rw [if_neg c35] at H
               exact absurd H (by simp)
             ·rw [if_neg c34] at H
              have c34b0 : decide (x6_4 < x4_2) = false := decide_eq_false c34
              clear c34
              have H' := As.mk H
              clear H
              go_wp2
              repeat (go_quiet (fail); try go_wp2)
              go_roundg k4
              case measure => have := HJ1.out; have := HK2.out; have := HJ10.out; have := HK4.out; omega
              case rel => exact ⟨(wrap64 (x4_2 + 1)), (by first | rfl | (simp; done) | (simp [*]; done)), H', ⟨by have := HJ1.out; have := HK2.out; have := HJ10.out; have := HK4.out; omega⟩, ⟨by (with_reducible repeat (first | refine kD ?_ _ | refine kE ?_ | refine kA ?_ _)); exact BK132.out⟩, ⟨by repeat (first | (with_reducible first | exact HB.out | apply bA | apply bD | apply bE | refine bS ?_ GE132.out | refine bS ?_ GE135.out) | exact HB.out)⟩⟩
       ·rw [if_neg c10] at H
        exact absurd H (by simp)
      ·rw [if_neg c9] at H
       have c9b0 : decide (x4_2 < (l0_1.length : Int)) = false := decide_eq_false c9
       clear c9
       have H' := As.mk H
       clear H
       have hcz44_0 : wr.cell? ⟨gb132, 0, none⟩ = some (.slice A0_0 l0_0.length c0_0) := (kC BK132.out 0).trans rfl
       have hcz44_1 : wr.cell? ⟨gb132, 1, none⟩ = some (.slice A0_1 l0_1.length c0_1) := (kC BK132.out 1).trans rfl
       have hfz44_0 := kF BK132.out 0
       have hfz44_1 := kF BK132.out 1
       go_wp2
       repeat (go_quiet (fail); try go_wp2)
       go_loopg [7, 8, 9] k2 (fun kq v7 v8 v9 w' => ∃ (x7_3 : Int) (x8_3 : Int) (x9_3 : Int), v7 = .int .i64 x7_3 ∧ v8 = .int .i64 x8_3 ∧ v9 = .int .i64 x9_3 ∧ As (F1.l2 kq (l0_0.length : Int) x7_3 x8_3 x9_3 l0_0 l0_1 = some r) ∧ As (kq ≤ k2) ∧ As (w'.heap[gb132]? = some (.cells #[(.slice A0_0 l0_0.length c0_0), (.slice A0_1 l0_1.length c0_1)] 31 (0, 0))) ∧ As (Below w.heap.size w w'))
       case atStart => exact ⟨(0), ((-1)), (0), (by first | rfl | (simp; done) | (simp [*]; done)), (by first | rfl | (simp; done) | (simp [*]; done)), (by first | rfl | (simp; done) | (simp [*]; done)), H', ⟨Nat.le_refl _⟩, ⟨by (with_reducible repeat (first | refine kD ?_ _ | refine kE ?_ | refine kA ?_ _)); exact BK132.out⟩, ⟨by repeat (first | (with_reducible first | exact HB.out | apply bA | apply bD | apply bE | refine bS ?_ GE132.out) | exact HB.out)⟩⟩
       case round =>
        clear H'
        try clear c8
        try clear c9
        try clear c9b0
        try clear hcz44_0
        try clear hcz44_1
        try clear hcz4_0
        try clear hcz4_1
        try clear hfz44_0
        try clear hfz44_1
        try clear hfz4_0
        try clear hfz4_1
        obtain ⟨x7_3, x8_3, x9_3, rfl, rfl, rfl, HA, HK3, BK132, HB⟩ := hrel
        cases gk with
        | zero => exact absurd HA.out (by simp [F1.l2])
        | succ k3 =>
         have H := HA.out
         clear HA
         simp only [F1.l2] at H
         by_cases c45 : x9_3 < (l0_0.length : Int)
         ·rw [if_pos c45] at H
          have c45b0 : decide (x9_3 < (l0_0.length : Int)) = true := decide_eq_true c45
          clear c45
          have HC46 := As.mk H
          clear H
          go_upto_if 85 with (fail)
          repeat (go_quiet (fail); go_upto_if 85 with (fail))
          go_cut [7, 8] (fun v7 v8 wc => ∃ (kq : Nat) (x7_45 : Int) (x8_45 : Int), v7 = .int .i64 x7_45 ∧ v8 = .int .i64 x8_45 ∧ As (F1.j5 kq (l0_0.length : Int) x7_45 x8_45 x9_3 l0_0 l0_1 = some r) ∧ As (kq ≤ k3) ∧ As (wc.heap[gb132]? = some (.cells #[(.slice A0_0 l0_0.length c0_0), (.slice A0_1 l0_1.length c0_1)] 31 (0, 0))) ∧ As (Below w.heap.size w wc))
          case first =>
           have H := HC46.out
           clear HC46
           by_cases c47 : x9_3 > x8_3
           ·rw [if_pos c47] at H
            have c47b0 : decide (x8_3 < x9_3) = true := decide_eq_true c47
            clear c47
            (first | rw [c47b0] | (simp only [i64_w, i32_w]; rw [c47b0]) | skip)
            replace H := Option.bind_eq_some_iff.mp H
            obtain ⟨⟨t140, t141⟩, A480, H⟩ := H
            replace H : (F1.j5 k3 (l0_0.length : Int) t140 t141 x9_3 l0_0 l0_1) = some r := H
            have A48 := As.mk A480
            clear A480
            have H' := As.mk H
            clear H
            have hcz49_0 : wr.cell? ⟨gb132, 0, none⟩ = some (.slice A0_0 l0_0.length c0_0) := (kC BK132.out 0).trans rfl
            have hcz49_1 : wr.cell? ⟨gb132, 1, none⟩ = some (.slice A0_1 l0_1.length c0_1) := (kC BK132.out 1).trans rfl
            have hfz49_0 := kF BK132.out 0
            have hfz49_1 := kF BK132.out 1
            go_wp2_with (first | (go_at_call 48; (with_reducible refine (F17.calls k3 _ _ l0_0 _ _ l0_1 x9_3 t140 t141 _ ?side1 ?side2 ?side3 ?side4 A48.out).mono ?_); (case side1 => repeat (first | exact (Kd.C_below HR0_0.out HB.out) | (with_reducible refine Kd.C_alloc ?_ _) | (with_reducible refine Kd.C_drewN ?_ _) | (with_reducible refine Kd.C_drew ?_))); (case side2 => exact HC0_0.out); (case side3 => repeat (first | exact (Kd.C_below HR0_1.out HB.out) | (with_reducible refine Kd.C_alloc ?_ _) | (with_reducible refine Kd.C_drewN ?_ _) | (with_reducible refine Kd.C_drew ?_))); (case side4 => exact HC0_1.out); rintro e w50 ⟨rfl, hb⟩; have n0_ := As.mk (kB (g := gb132) (o := .cells #[.slice A0_0 l0_0.length c0_0, .slice A0_1 l0_1.length c0_1] 31 (0, 0)) (by (with_reducible repeat (first | refine kD ?_ _ | refine kE ?_ | refine kA ?_ _)); exact BK132.out) hb); have n1_ := As.mk (bT (by repeat (first | (with_reducible first | exact HB.out | apply bA | apply bD | apply bE | refine bS ?_ GE132.out) | exact HB.out)) hb); clear BK132; clear HB; have BK132 := n0_; have HB := n1_; clear n0_ n1_; (try clear hb); (try clear hb2); (try clear hk); (try clear hi)))
            repeat (go_quiet (first | (go_at_call 48; (with_reducible refine (F17.calls k3 _ _ l0_0 _ _ l0_1 x9_3 t140 t141 _ ?side1 ?side2 ?side3 ?side4 A48.out).mono ?_); (case side1 => repeat (first | exact (Kd.C_below HR0_0.out HB.out) | (with_reducible refine Kd.C_alloc ?_ _) | (with_reducible refine Kd.C_drewN ?_ _) | (with_reducible refine Kd.C_drew ?_))); (case side2 => exact HC0_0.out); (case side3 => repeat (first | exact (Kd.C_below HR0_1.out HB.out) | (with_reducible refine Kd.C_alloc ?_ _) | (with_reducible refine Kd.C_drewN ?_ _) | (with_reducible refine Kd.C_drew ?_))); (case side4 => exact HC0_1.out); rintro e w50 ⟨rfl, hb⟩; have n0_ := As.mk (kB (g := gb132) (o := .cells #[.slice A0_0 l0_0.length c0_0, .slice A0_1 l0_1.length c0_1] 31 (0, 0)) (by (with_reducible repeat (first | refine kD ?_ _ | refine kE ?_ | refine kA ?_ _)); exact BK132.out) hb); have n1_ := As.mk (bT (by repeat (first | (with_reducible first | exact HB.out | apply bA | apply bD | apply bE | refine bS ?_ GE132.out) | exact HB.out)) hb); clear BK132; clear HB; have BK132 := n0_; have HB := n1_; clear n0_ n1_; (try clear hb); (try clear hb2); (try clear hk); (try clear hi))); try go_wp2_with (first | (go_at_call 48; (with_reducible refine (F17.calls k3 _ _ l0_0 _ _ l0_1 x9_3 t140 t141 _ ?side1 ?side2 ?side3 ?side4 A48.out).mono ?_); (case side1 => repeat (first | exact (Kd.C_below HR0_0.out HB.out) | (with_reducible refine Kd.C_alloc ?_ _) | (with_reducible refine Kd.C_drewN ?_ _) | (with_reducible refine Kd.C_drew ?_))); (case side2 => exact HC0_0.out); (case side3 => repeat (first | exact (Kd.C_below HR0_1.out HB.out) | (with_reducible refine Kd.C_alloc ?_ _) | (with_reducible refine Kd.C_drewN ?_ _) | (with_reducible refine Kd.C_drew ?_))); (case side4 => exact HC0_1.out); rintro e w50 ⟨rfl, hb⟩; have n0_ := As.mk (kB (g := gb132) (o := .cells #[.slice A0_0 l0_0.length c0_0, .slice A0_1 l0_1.length c0_1] 31 (0, 0)) (by (with_reducible repeat (first | refine kD ?_ _ | refine kE ?_ | refine kA ?_ _)); exact BK132.out) hb); have n1_ := As.mk (bT (by repeat (first | (with_reducible first | exact HB.out | apply bA | apply bD | apply bE | refine bS ?_ GE132.out) | exact HB.out)) hb); clear BK132; clear HB; have BK132 := n0_; have HB := n1_; clear n0_ n1_; (try clear hb); (try clear hb2); (try clear hk); (try clear hi))))
            go_meet
            case rel => exact ⟨_, (t140), (t141), (by first | rfl | (simp; done) | (simp [*]; done)), (by first | rfl | (simp; done) | (simp [*]; done)), H', ⟨by have := HJ1.out; have := HK2.out; have := HK3.out; first | omega | exact Nat.le_refl _⟩, ⟨by (with_reducible repeat (first | refine kD ?_ _ | refine kE ?_ | refine kA ?_ _)); exact BK132.out⟩, ⟨by repeat (first | (with_reducible first | exact HB.out | apply bA | apply bD | apply bE | refine bS ?_ GE132.out) | exact HB.out)⟩⟩
           ·rw [if_neg c47] at H
            have c47b0 : decide (x8_3 < x9_3) = false := decide_eq_false c47
            clear c47
            (first | rw [c47b0] | (simp only [i64_w, i32_w]; rw [c47b0]) | skip)
            have H' := As.mk H
            clear H
            go_wp2
            repeat (go_quiet (fail); try go_wp2)
            go_meet
            case rel => exact ⟨_, (x7_3), (x8_3), (by first | rfl | (simp; done) | (simp [*]; done)), (by first | rfl | (simp; done) | (simp [*]; done)), H', ⟨by have := HJ1.out; have := HK2.out; have := HK3.out; first | omega | exact Nat.le_refl _⟩, ⟨by (with_reducible repeat (first | refine kD ?_ _ | refine kE ?_ | refine kA ?_ _)); exact BK132.out⟩, ⟨by repeat (first | (with_reducible first | exact HB.out | apply bA | apply bD | apply bE | refine bS ?_ GE132.out) | exact HB.out)⟩⟩
          case rest =>
           clear HC46
           try clear c8
           try clear c9
           try clear c9b0
           try clear c45
           try clear c45b0
           try clear hcz44_0
           try clear hcz44_1
           try clear hcz4_0
           try clear hcz4_1
           try clear hfz44_0
           try clear hfz44_1
           try clear hfz4_0
           try clear hfz4_1
           obtain ⟨kq, x7_45, x8_45, rfl, rfl, HA, HJ45, BK132, HB⟩ := hcut
           cases kq with
           | zero => exact absurd HA.out (by simp [F1.j5])
           | succ kj45 =>
            have H := HA.out
            clear HA
            simp only [F1.j5] at H
            by_cases c51 : 0 ≤ x9_3
            ·rw [if_pos c51] at H
             have c51b0 : decide (0 ≤ x9_3) = true := decide_eq_true c51
             clear c51
             by_cases c52 : x9_3 < (l0_0.length : Int)
             ·rw [if_pos c52] at H
              have c52b0 : decide (x9_3 < (l0_0.length : Int)) = true := decide_eq_true c52
              clear c52
              have HC53 := As.mk H
              clear H
              have hcz54_0 : wc.cell? ⟨gb132, 0, none⟩ = some (.slice A0_0 l0_0.length c0_0) := (kC BK132.out 0).trans rfl
              have hcz54_1 : wc.cell? ⟨gb132, 1, none⟩ = some (.slice A0_1 l0_1.length c0_1) := (kC BK132.out 1).trans rfl
              have hfz54_0 := kF BK132.out 0
              have hfz54_1 := kF BK132.out 1
              have p142 : 0 ≤ (x9_3 : Int) := of_decide_eq_true (by first | (with_reducible assumption) | assumption)
              have q142 : x9_3 < (l0_0.length : Int) := of_decide_eq_true (by first | (with_reducible assumption) | assumption)
              obtain ⟨ad142, e142, hx142_0, hx142_1, hx142_2⟩ := at_T80 HR0_0.out x9_3 p142 q142
              cases e142
              replace hx142_0 := (HB.out.cell (World.block_lt_of_cell? w _ hx142_0)).trans hx142_0
              replace hx142_1 := (HB.out.cell (World.block_lt_of_cell? w _ hx142_1)).trans hx142_1
              replace hx142_2 := (HB.out.cell (World.block_lt_of_cell? w _ hx142_2)).trans hx142_2
              replace p142 := eq_true p142
              replace q142 := eq_true q142
              go_upto_if 98 with (first | ((with_reducible refine gate_dst (N := 10) rfl ?_); (try (refine gate_guard (by rfl) ?_; dsimp only)); refine box_event ?hg (N := 10) ?hd (cs := #[.int .i64 0, .int .i64 0, .string (⟨#[]⟩ : ByteArray)]) (t := 80) ?hr ?_; (case hd => rfl); (case hg => rfl); (case hr => first | (go_simp; done) | (go_simp; rfl)); intro gb143 hg w55 hbox hb; have n0_ := As.mk (kB (g := gb132) (o := .cells #[.slice (some ad142) l0_0.length c0_0, .slice A0_1 l0_1.length c0_1] 31 (0, 0)) (by (with_reducible repeat (first | refine kD ?_ _ | refine kE ?_ | refine kA ?_ _)); exact BK132.out) hb); have n1_ := As.mk (bT (by repeat (first | (with_reducible first | exact HB.out | apply bA | apply bD | apply bE | refine bS ?_ GE132.out) | exact HB.out)) hb); have n2_ := As.mk (hbox); have n3_ := As.mk ((by rw [hg]; exact (bZ (by repeat (first | (with_reducible first | exact HB.out | apply bA | apply bD | apply bE | refine bS ?_ GE132.out) | exact HB.out))) : w.heap.size ≤ gb143)); have n4_ := n3_; have n5_ := As.mk ((by rw [hg]; exact Nat.ne_of_lt (kL (g := gb132) (o := .cells #[.slice (some ad142) l0_0.length c0_0, .slice A0_1 l0_1.length c0_1] 31 (0, 0)) (by (with_reducible repeat (first | refine kD ?_ _ | refine kE ?_ | refine kA ?_ _)); exact BK132.out)) : gb132 ≠ gb143)); have n6_ := As.mk n5_.out.symm; clear BK132; clear HB; have BK132 := n0_; have HB := n1_; have BK143 := n2_; have GW143 := n3_; have GE143 := n4_; have NB132_143 := n5_; have NB143_132 := n6_; clear n0_ n1_ n2_ n3_ n4_ n5_ n6_; clear hb hbox hg; have hnb56 := NB143_132.out; have hnc56 := NB132_143.out; have hcz57_0 : w55.cell? ⟨gb143, 0, none⟩ = some (.int .i64 0) := (kC BK143.out 0).trans rfl; have hcz57_1 : w55.cell? ⟨gb143, 1, none⟩ = some (.int .i64 0) := (kC BK143.out 1).trans rfl; have hcz57_2 : w55.cell? ⟨gb143, 2, none⟩ = some (.string (⟨#[]⟩ : ByteArray)) := (kC BK143.out 2).trans rfl; have hfz57_0 := kF BK143.out 0; have hfz57_1 := kF BK143.out 1; have hfz57_2 := kF BK143.out 2))
              repeat (go_quiet (first | ((with_reducible refine gate_dst (N := 10) rfl ?_); (try (refine gate_guard (by rfl) ?_; dsimp only)); refine box_event ?hg (N := 10) ?hd (cs := #[.int .i64 0, .int .i64 0, .string (⟨#[]⟩ : ByteArray)]) (t := 80) ?hr ?_; (case hd => rfl); (case hg => rfl); (case hr => first | (go_simp; done) | (go_simp; rfl)); intro gb143 hg w55 hbox hb; have n0_ := As.mk (kB (g := gb132) (o := .cells #[.slice (some ad142) l0_0.length c0_0, .slice A0_1 l0_1.length c0_1] 31 (0, 0)) (by (with_reducible repeat (first | refine kD ?_ _ | refine kE ?_ | refine kA ?_ _)); exact BK132.out) hb); have n1_ := As.mk (bT (by repeat (first | (with_reducible first | exact HB.out | apply bA | apply bD | apply bE | refine bS ?_ GE132.out) | exact HB.out)) hb); have n2_ := As.mk (hbox); have n3_ := As.mk ((by rw [hg]; exact (bZ (by repeat (first | (with_reducible first | exact HB.out | apply bA | apply bD | apply bE | refine bS ?_ GE132.out) | exact HB.out))) : w.heap.size ≤ gb143)); have n4_ := n3_; have n5_ := As.mk ((by rw [hg]; exact Nat.ne_of_lt (kL (g := gb132) (o := .cells #[.slice (some ad142) l0_0.length c0_0, .slice A0_1 l0_1.length c0_1] 31 (0, 0)) (by (with_reducible repeat (first | refine kD ?_ _ | refine kE ?_ | refine kA ?_ _)); exact BK132.out)) : gb132 ≠ gb143)); have n6_ := As.mk n5_.out.symm; clear BK132; clear HB; have BK132 := n0_; have HB := n1_; have BK143 := n2_; have GW143 := n3_; have GE143 := n4_; have NB132_143 := n5_; have NB143_132 := n6_; clear n0_ n1_ n2_ n3_ n4_ n5_ n6_; clear hb hbox hg; have hnb56 := NB143_132.out; have hnc56 := NB132_143.out; have hcz57_0 : w55.cell? ⟨gb143, 0, none⟩ = some (.int .i64 0) := (kC BK143.out 0).trans rfl; have hcz57_1 : w55.cell? ⟨gb143, 1, none⟩ = some (.int .i64 0) := (kC BK143.out 1).trans rfl; have hcz57_2 : w55.cell? ⟨gb143, 2, none⟩ = some (.string (⟨#[]⟩ : ByteArray)) := (kC BK143.out 2).trans rfl; have hfz57_0 := kF BK143.out 0; have hfz57_1 := kF BK143.out 1; have hfz57_2 := kF BK143.out 2)); go_upto_if 98 with (first | ((with_reducible refine gate_dst (N := 10) rfl ?_); (try (refine gate_guard (by rfl) ?_; dsimp only)); refine box_event ?hg (N := 10) ?hd (cs := #[.int .i64 0, .int .i64 0, .string (⟨#[]⟩ : ByteArray)]) (t := 80) ?hr ?_; (case hd => rfl); (case hg => rfl); (case hr => first | (go_simp; done) | (go_simp; rfl)); intro gb143 hg w55 hbox hb; have n0_ := As.mk (kB (g := gb132) (o := .cells #[.slice (some ad142) l0_0.length c0_0, .slice A0_1 l0_1.length c0_1] 31 (0, 0)) (by (with_reducible repeat (first | refine kD ?_ _ | refine kE ?_ | refine kA ?_ _)); exact BK132.out) hb); have n1_ := As.mk (bT (by repeat (first | (with_reducible first | exact HB.out | apply bA | apply bD | apply bE | refine bS ?_ GE132.out) | exact HB.out)) hb); have n2_ := As.mk (hbox); have n3_ := As.mk ((by rw [hg]; exact (bZ (by repeat (first | (with_reducible first | exact HB.out | apply bA | apply bD | apply bE | refine bS ?_ GE132.out) | exact HB.out))) : w.heap.size ≤ gb143)); have n4_ := n3_; have n5_ := As.mk ((by rw [hg]; exact Nat.ne_of_lt (kL (g := gb132) (o := .cells #[.slice (some ad142) l0_0.length c0_0, .slice A0_1 l0_1.length c0_1] 31 (0, 0)) (by (with_reducible repeat (first | refine kD ?_ _ | refine kE ?_ | refine kA ?_ _)); exact BK132.out)) : gb132 ≠ gb143)); have n6_ := As.mk n5_.out.symm; clear BK132; clear HB; have BK132 := n0_; have HB := n1_; have BK143 := n2_; have GW143 := n3_; have GE143 := n4_; have NB132_143 := n5_; have NB143_132 := n6_; clear n0_ n1_ n2_ n3_ n4_ n5_ n6_; clear hb hbox hg; have hnb56 := NB143_132.out; have hnc56 := NB132_143.out; have hcz57_0 : w55.cell? ⟨gb143, 0, none⟩ = some (.int .i64 0) := (kC BK143.out 0).trans rfl; have hcz57_1 : w55.cell? ⟨gb143, 1, none⟩ = some (.int .i64 0) := (kC BK143.out 1).trans rfl; have hcz57_2 : w55.cell? ⟨gb143, 2, none⟩ = some (.string (⟨#[]⟩ : ByteArray)) := (kC BK143.out 2).trans rfl; have hfz57_0 := kF BK143.out 0; have hfz57_1 := kF BK143.out 1; have hfz57_2 := kF BK143.out 2)))
              (try simp only [Act.put, sq1, sq2, sq3])
              go_cut [11] (fun v11 wc => ∃ (kq : Nat) (x11_52 : Int), v11 = .int .i64 x11_52 ∧ As (F1.j6 kq (l0_0.length : Int) x7_45 x8_45 x9_3 x11_52 l0_0 l0_1 ((rd_T80 l0_0 x9_3).f0) ((rd_T80 l0_0 x9_3).f1) ((rd_T80 l0_0 x9_3).f2) = some r) ∧ As (kq ≤ kj45) ∧ As (wc.heap[gb132]? = some (.cells #[(.slice (some ad142) l0_0.length c0_0), (.slice A0_1 l0_1.length c0_1)] 31 (0, 0))) ∧ As (wc.heap[gb143]? = some (.cells #[.int .i64 ((rd_T80 l0_0 x9_3).f0), .int .i64 ((rd_T80 l0_0 x9_3).f1), .string ((rd_T80 l0_0 x9_3).f2)] 80 (0, 0))) ∧ As (Below w.heap.size w wc))
              case first =>
               have H := HC53.out
               clear HC53
               by_cases c58 : x7_45 = 0
               ·rw [if_pos c58] at H
                have c58b0 : (x7_45 == 0) = true := beq_iff_eq.mpr c58
                have c58b1 : (x7_45 != 0) = false := bne_eq_false_iff_eq.mpr c58
                clear c58
                (first | rw [c58b0] | (simp only [i64_w, i32_w]; rw [c58b0]) | skip)
                have H' := As.mk H
                clear H
                go_wp2
                repeat (go_quiet (fail); try go_wp2)
                go_meet
                case rel => exact ⟨_, (39), (by first | rfl | (simp; done) | (simp [*]; done)), H', ⟨by have := HJ1.out; have := HK2.out; have := HK3.out; have := HJ45.out; first | omega | exact Nat.le_refl _⟩, ⟨by (with_reducible repeat (first | refine kD ?_ _ | refine kE ?_ | refine kA ?_ _)); refine blk_far ?_ NB132_143.out _; (with_reducible repeat (first | refine kD ?_ _ | refine kE ?_ | refine kA ?_ _)); refine blk_far ?_ NB132_143.out _; (with_reducible repeat (first | refine kD ?_ _ | refine kE ?_ | refine kA ?_ _)); refine blk_far ?_ NB132_143.out _; (with_reducible repeat (first | refine kD ?_ _ | refine kE ?_ | refine kA ?_ _)); exact BK132.out⟩, ⟨by (with_reducible repeat (first | refine kD ?_ _ | refine kE ?_ | refine kA ?_ _)); refine blk_put (cs := #[.int .i64 ((rd_T80 l0_0 x9_3).f0), .int .i64 ((rd_T80 l0_0 x9_3).f1), .string (⟨#[]⟩ : ByteArray)]) ?_ 2 _ rfl; (with_reducible repeat (first | refine kD ?_ _ | refine kE ?_ | refine kA ?_ _)); refine blk_put (cs := #[.int .i64 ((rd_T80 l0_0 x9_3).f0), .int .i64 0, .string (⟨#[]⟩ : ByteArray)]) ?_ 1 _ rfl; (with_reducible repeat (first | refine kD ?_ _ | refine kE ?_ | refine kA ?_ _)); refine blk_put (cs := #[.int .i64 0, .int .i64 0, .string (⟨#[]⟩ : ByteArray)]) ?_ 0 _ rfl; (with_reducible repeat (first | refine kD ?_ _ | refine kE ?_ | refine kA ?_ _)); exact BK143.out⟩, ⟨by repeat (first | (with_reducible first | exact HB.out | apply bA | apply bD | apply bE | refine bS ?_ GE132.out | refine bS ?_ GE143.out) | exact HB.out)⟩⟩
               ·rw [if_neg c58] at H
                have c58b0 : (x7_45 == 0) = false := beq_eq_false_iff_ne.mpr c58
                have c58b1 : (x7_45 != 0) = true := bne_iff_ne.mpr c58
                (first | rw [c58b0] | (simp only [i64_w, i32_w]; rw [c58b0]) | skip)
                have H' := As.mk H
                clear H
                go_wp2
                repeat (go_quiet (fail); try go_wp2)
                go_meet
                case rel => exact ⟨_, (38), (by first | rfl | (simp; done) | (simp [*]; done)), H', ⟨by have := HJ1.out; have := HK2.out; have := HK3.out; have := HJ45.out; first | omega | exact Nat.le_refl _⟩, ⟨by (with_reducible repeat (first | refine kD ?_ _ | refine kE ?_ | refine kA ?_ _)); refine blk_far ?_ NB132_143.out _; (with_reducible repeat (first | refine kD ?_ _ | refine kE ?_ | refine kA ?_ _)); refine blk_far ?_ NB132_143.out _; (with_reducible repeat (first | refine kD ?_ _ | refine kE ?_ | refine kA ?_ _)); refine blk_far ?_ NB132_143.out _; (with_reducible repeat (first | refine kD ?_ _ | refine kE ?_ | refine kA ?_ _)); exact BK132.out⟩, ⟨by (with_reducible repeat (first | refine kD ?_ _ | refine kE ?_ | refine kA ?_ _)); refine blk_put (cs := #[.int .i64 ((rd_T80 l0_0 x9_3).f0), .int .i64 ((rd_T80 l0_0 x9_3).f1), .string (⟨#[]⟩ : ByteArray)]) ?_ 2 _ rfl; (with_reducible repeat (first | refine kD ?_ _ | refine kE ?_ | refine kA ?_ _)); refine blk_put (cs := #[.int .i64 ((rd_T80 l0_0 x9_3).f0), .int .i64 0, .string (⟨#[]⟩ : ByteArray)]) ?_ 1 _ rfl; (with_reducible repeat (first | refine kD ?_ _ | refine kE ?_ | refine kA ?_ _)); refine blk_put (cs := #[.int .i64 0, .int .i64 0, .string (⟨#[]⟩ : ByteArray)]) ?_ 0 _ rfl; (with_reducible repeat (first | refine kD ?_ _ | refine kE ?_ | refine kA ?_ _)); exact BK143.out⟩, ⟨by repeat (first | (with_reducible first | exact HB.out | apply bA | apply bD | apply bE | refine bS ?_ GE132.out | refine bS ?_ GE143.out) | exact HB.out)⟩⟩
              case rest =>
               clear HC53
               try clear c8
               try clear c9
               try clear c9b0
               try clear c45
               try clear c45b0
               try clear c51
               try clear c51b0
               try clear c52
               try clear c52b0
               try clear hcz44_0
               try clear hcz44_1
               try clear hcz4_0
               try clear hcz4_1
               try clear hcz54_0
               try clear hcz54_1
               try clear hcz57_0
               try clear hcz57_1
               try clear hcz57_2
               try clear hfz44_0
               try clear hfz44_1
               try clear hfz4_0
               try clear hfz4_1
               try clear hfz54_0
               try clear hfz54_1
               try clear hfz57_0
               try clear hfz57_1
               try clear hfz57_2
               try clear hx142_0
               try clear hx142_1
               try clear hx142_2
               try clear p142
               try clear q142
               obtain ⟨kq, x11_52, rfl, HA, HJ52, BK132, BK143, HB⟩ := hcut
               cases kq with
               | zero => exact absurd HA.out (by simp [F1.j6])
               | succ kj52 =>
                have H := HA.out
                clear HA
                simp only [F1.j6] at H
                have HC59 := As.mk H
                clear H
                go_upto_region 26 with (fail)
                repeat (go_quiet (fail); go_upto_region 26 with (fail))
                go_cut [126] (fun v126 wc => ∃ (kq : Nat) (x126_58 : Bool), v126 = .bool x126_58 ∧ As (F1.j7 kq (l0_0.length : Int) x7_45 x8_45 x9_3 x126_58 l0_0 l0_1 ((rd_T80 l0_0 x9_3).f0) ((rd_T80 l0_0 x9_3).f1) ((rd_T80 l0_0 x9_3).f2) = some r) ∧ As (kq ≤ kj52) ∧ As (wc.heap[gb132]? = some (.cells #[(.slice (some ad142) l0_0.length c0_0), (.slice A0_1 l0_1.length c0_1)] 31 (0, 0))) ∧ As (wc.heap[gb143]? = some (.cells #[.int .i64 ((rd_T80 l0_0 x9_3).f0), .int .i64 ((rd_T80 l0_0 x9_3).f1), .string ((rd_T80 l0_0 x9_3).f2)] 80 (0, 0))) ∧ As (Below w.heap.size w wc))
                case first =>
                 have H := HC59.out
                 clear HC59
                 replace H := Option.bind_eq_some_iff.mp H
                 obtain ⟨t144, A600, H⟩ := H
                 replace H : (if t144 = true then (if ((((rd_T80 l0_0 x9_3).f0) == x11_52) != (x9_3 == x8_45)) = true then (F1.j7 kj52 (l0_0.length : Int) x7_45 x8_45 x9_3 true l0_0 l0_1 ((rd_T80 l0_0 x9_3).f0) ((rd_T80 l0_0 x9_3).f1) ((rd_T80 l0_0 x9_3).f2)) else (if x9_3 < x8_45 then (if ((rd_T80 l0_0 x9_3).f0) = 39 then (F1.j7 kj52 (l0_0.length : Int) x7_45 x8_45 x9_3 true l0_0 l0_1 ((rd_T80 l0_0 x9_3).f0) ((rd_T80 l0_0 x9_3).f1) ((rd_T80 l0_0 x9_3).f2)) else (F1.j7 kj52 (l0_0.length : Int) x7_45 x8_45 x9_3 (((rd_T80 l0_0 x9_3).f0) == 38) l0_0 l0_1 ((rd_T80 l0_0 x9_3).f0) ((rd_T80 l0_0 x9_3).f1) ((rd_T80 l0_0 x9_3).f2))) else (F1.j7 kj52 (l0_0.length : Int) x7_45 x8_45 x9_3 false l0_0 l0_1 ((rd_T80 l0_0 x9_3).f0) ((rd_T80 l0_0 x9_3).f1) ((rd_T80 l0_0 x9_3).f2)))) else (F1.j7 kj52 (l0_0.length : Int) x7_45 x8_45 x9_3 true l0_0 l0_1 ((rd_T80 l0_0 x9_3).f0) ((rd_T80 l0_0 x9_3).f1) ((rd_T80 l0_0 x9_3).f2))) = some r := H
                 have A60 := As.mk A600
                 clear A600
                 by_cases c61 : t144 = true
                 ·subst c61
                  have H1 : (if ((((rd_T80 l0_0 x9_3).f0) == x11_52) != (x9_3 == x8_45)) = true then (F1.j7 kj52 (l0_0.length : Int) x7_45 x8_45 x9_3 true l0_0 l0_1 ((rd_T80 l0_0 x9_3).f0) ((rd_T80 l0_0 x9_3).f1) ((rd_T80 l0_0 x9_3).f2)) else (if x9_3 < x8_45 then (if ((rd_T80 l0_0 x9_3).f0) = 39 then (F1.j7 kj52 (l0_0.length : Int) x7_45 x8_45 x9_3 true l0_0 l0_1 ((rd_T80 l0_0 x9_3).f0) ((rd_T80 l0_0 x9_3).f1) ((rd_T80 l0_0 x9_3).f2)) else (F1.j7 kj52 (l0_0.length : Int) x7_45 x8_45 x9_3 (((rd_T80 l0_0 x9_3).f0) == 38) l0_0 l0_1 ((rd_T80 l0_0 x9_3).f0) ((rd_T80 l0_0 x9_3).f1) ((rd_T80 l0_0 x9_3).f2))) else (F1.j7 kj52 (l0_0.length : Int) x7_45 x8_45 x9_3 false l0_0 l0_1 ((rd_T80 l0_0 x9_3).f0) ((rd_T80 l0_0 x9_3).f1) ((rd_T80 l0_0 x9_3).f2)))) = some r := by rw [if_pos rfl] at H; exact H
                  clear H
                  have H := H1
                  clear H1
                  by_cases c62 : ((((rd_T80 l0_0 x9_3).f0) == x11_52) != (x9_3 == x8_45)) = true
                  ·rw [if_pos c62] at H
                   have c62b0 : ((((rd_T80 l0_0 x9_3).f0) == x11_52) != (x9_3 == x8_45)) = true := c62
                   (try (have c62b1 : decide ((((rd_T80 l0_0 x9_3).f0) == x11_52) = (x9_3 == x8_45)) = false := by simpa using c62))
                   (try (have c62b2 : ((((rd_T80 l0_0 x9_3).f0) == x11_52) == (x9_3 == x8_45)) = false := by simpa using c62))
                   (try (have c62b3 : ¬ ((((rd_T80 l0_0 x9_3).f0) == x11_52) = (x9_3 == x8_45)) := by simpa using c62))
                   clear c62
                   (first | rw [c62b0] | (simp only [i64_w, i32_w]; rw [c62b0]) | skip)
                   have H' := As.mk H
                   clear H
                   have hnb63 := NB143_132.out
                   have hnc63 := NB132_143.out
                   have hcz64_0 : wc.cell? ⟨gb143, 0, none⟩ = some (.int .i64 ((rd_T80 l0_0 x9_3).f0)) := (kC BK143.out 0).trans rfl
                   have hcz64_1 : wc.cell? ⟨gb143, 1, none⟩ = some (.int .i64 ((rd_T80 l0_0 x9_3).f1)) := (kC BK143.out 1).trans rfl
                   have hcz64_2 : wc.cell? ⟨gb143, 2, none⟩ = some (.string ((rd_T80 l0_0 x9_3).f2)) := (kC BK143.out 2).trans rfl
                   have hfz64_0 := kF BK143.out 0
                   have hfz64_1 := kF BK143.out 1
                   have hfz64_2 := kF BK143.out 2
                   go_wp2_with (first | (go_at_call 49; (with_reducible refine (F5.calls kj52 ((rd_T80 l0_0 x9_3).f0) ((rd_T80 l0_0 x9_3).f1) ((rd_T80 l0_0 x9_3).f2) true _ A60.out).mono ?_); rintro e w65 ⟨rfl, hb⟩; have n0_ := As.mk (kB (g := gb132) (o := .cells #[.slice (some ad142) l0_0.length c0_0, .slice A0_1 l0_1.length c0_1] 31 (0, 0)) (by (with_reducible repeat (first | refine kD ?_ _ | refine kE ?_ | refine kA ?_ _)); exact BK132.out) hb); have n1_ := As.mk (kB (g := gb143) (o := .cells #[.int .i64 ((rd_T80 l0_0 x9_3).f0), .int .i64 ((rd_T80 l0_0 x9_3).f1), .string ((rd_T80 l0_0 x9_3).f2)] 80 (0, 0)) (by (with_reducible repeat (first | refine kD ?_ _ | refine kE ?_ | refine kA ?_ _)); exact BK143.out) hb); have n2_ := As.mk (bT (by repeat (first | (with_reducible first | exact HB.out | apply bA | apply bD | apply bE | refine bS ?_ GE132.out | refine bS ?_ GE143.out) | exact HB.out)) hb); clear BK132; clear BK143; clear HB; have BK132 := n0_; have BK143 := n1_; have HB := n2_; clear n0_ n1_ n2_; (try clear hb); (try clear hb2); (try clear hk); (try clear hi); have hcz66_0 : w65.cell? ⟨gb143, 0, none⟩ = some (.int .i64 ((rd_T80 l0_0 x9_3).f0)) := (kC BK143.out 0).trans rfl; have hcz66_1 : w65.cell? ⟨gb143, 1, none⟩ = some (.int .i64 ((rd_T80 l0_0 x9_3).f1)) := (kC BK143.out 1).trans rfl; have hcz66_2 : w65.cell? ⟨gb143, 2, none⟩ = some (.string ((rd_T80 l0_0 x9_3).f2)) := (kC BK143.out 2).trans rfl; have hfz66_0 := kF BK143.out 0; have hfz66_1 := kF BK143.out 1; have hfz66_2 := kF BK143.out 2))
                   repeat (go_quiet (first | (go_at_call 49; (with_reducible refine (F5.calls kj52 ((rd_T80 l0_0 x9_3).f0) ((rd_T80 l0_0 x9_3).f1) ((rd_T80 l0_0 x9_3).f2) true _ A60.out).mono ?_); rintro e w65 ⟨rfl, hb⟩; have n0_ := As.mk (kB (g := gb132) (o := .cells #[.slice (some ad142) l0_0.length c0_0, .slice A0_1 l0_1.length c0_1] 31 (0, 0)) (by (with_reducible repeat (first | refine kD ?_ _ | refine kE ?_ | refine kA ?_ _)); exact BK132.out) hb); have n1_ := As.mk (kB (g := gb143) (o := .cells #[.int .i64 ((rd_T80 l0_0 x9_3).f0), .int .i64 ((rd_T80 l0_0 x9_3).f1), .string ((rd_T80 l0_0 x9_3).f2)] 80 (0, 0)) (by (with_reducible repeat (first | refine kD ?_ _ | refine kE ?_ | refine kA ?_ _)); exact BK143.out) hb); have n2_ := As.mk (bT (by repeat (first | (with_reducible first | exact HB.out | apply bA | apply bD | apply bE | refine bS ?_ GE132.out | refine bS ?_ GE143.out) | exact HB.out)) hb); clear BK132; clear BK143; clear HB; have BK132 := n0_; have BK143 := n1_; have HB := n2_; clear n0_ n1_ n2_; (try clear hb); (try clear hb2); (try clear hk); (try clear hi); have hcz66_0 : w65.cell? ⟨gb143, 0, none⟩ = some (.int .i64 ((rd_T80 l0_0 x9_3).f0)) := (kC BK143.out 0).trans rfl; have hcz66_1 : w65.cell? ⟨gb143, 1, none⟩ = some (.int .i64 ((rd_T80 l0_0 x9_3).f1)) := (kC BK143.out 1).trans rfl; have hcz66_2 : w65.cell? ⟨gb143, 2, none⟩ = some (.string ((rd_T80 l0_0 x9_3).f2)) := (kC BK143.out 2).trans rfl; have hfz66_0 := kF BK143.out 0; have hfz66_1 := kF BK143.out 1; have hfz66_2 := kF BK143.out 2)); try go_wp2_with (first | (go_at_call 49; (with_reducible refine (F5.calls kj52 ((rd_T80 l0_0 x9_3).f0) ((rd_T80 l0_0 x9_3).f1) ((rd_T80 l0_0 x9_3).f2) true _ A60.out).mono ?_); rintro e w65 ⟨rfl, hb⟩; have n0_ := As.mk (kB (g := gb132) (o := .cells #[.slice (some ad142) l0_0.length c0_0, .slice A0_1 l0_1.length c0_1] 31 (0, 0)) (by (with_reducible repeat (first | refine kD ?_ _ | refine kE ?_ | refine kA ?_ _)); exact BK132.out) hb); have n1_ := As.mk (kB (g := gb143) (o := .cells #[.int .i64 ((rd_T80 l0_0 x9_3).f0), .int .i64 ((rd_T80 l0_0 x9_3).f1), .string ((rd_T80 l0_0 x9_3).f2)] 80 (0, 0)) (by (with_reducible repeat (first | refine kD ?_ _ | refine kE ?_ | refine kA ?_ _)); exact BK143.out) hb); have n2_ := As.mk (bT (by repeat (first | (with_reducible first | exact HB.out | apply bA | apply bD | apply bE | refine bS ?_ GE132.out | refine bS ?_ GE143.out) | exact HB.out)) hb); clear BK132; clear BK143; clear HB; have BK132 := n0_; have BK143 := n1_; have HB := n2_; clear n0_ n1_ n2_; (try clear hb); (try clear hb2); (try clear hk); (try clear hi); have hcz66_0 : w65.cell? ⟨gb143, 0, none⟩ = some (.int .i64 ((rd_T80 l0_0 x9_3).f0)) := (kC BK143.out 0).trans rfl; have hcz66_1 : w65.cell? ⟨gb143, 1, none⟩ = some (.int .i64 ((rd_T80 l0_0 x9_3).f1)) := (kC BK143.out 1).trans rfl; have hcz66_2 : w65.cell? ⟨gb143, 2, none⟩ = some (.string ((rd_T80 l0_0 x9_3).f2)) := (kC BK143.out 2).trans rfl; have hfz66_0 := kF BK143.out 0; have hfz66_1 := kF BK143.out 1; have hfz66_2 := kF BK143.out 2)))
                   go_meet
                   case rel => exact ⟨_, (true), (by first | rfl | (simp; done) | (simp [*]; done)), H', ⟨by have := HJ1.out; have := HK2.out; have := HK3.out; have := HJ45.out; have := HJ52.out; first | omega | exact Nat.le_refl _⟩, ⟨by (with_reducible repeat (first | refine kD ?_ _ | refine kE ?_ | refine kA ?_ _)); exact BK132.out⟩, ⟨by (with_reducible repeat (first | refine kD ?_ _ | refine kE ?_ | refine kA ?_ _)); exact BK143.out⟩, ⟨by repeat (first | (with_reducible first | exact HB.out | apply bA | apply bD | apply bE | refine bS ?_ GE132.out | refine bS ?_ GE143.out) | exact HB.out)⟩⟩
                  ·rw [if_neg c62] at H
                   have c62b0 : ((((rd_T80 l0_0 x9_3).f0) == x11_52) != (x9_3 == x8_45)) = false := by simpa using c62
                   (try (have c62b1 : decide ((((rd_T80 l0_0 x9_3).f0) == x11_52) = (x9_3 == x8_45)) = true := by simpa using c62))
                   (try (have c62b2 : ((((rd_T80 l0_0 x9_3).f0) == x11_52) == (x9_3 == x8_45)) = true := by simpa using c62))
                   clear c62
                   (first | rw [c62b0] | (simp only [i64_w, i32_w]; rw [c62b0]) | skip)
                   by_cases c67 : x9_3 < x8_45
                   ·rw [if_pos c67] at H
                    have c67b0 : decide (x9_3 < x8_45) = true := decide_eq_true c67
                    clear c67
                    by_cases c68 : ((rd_T80 l0_0 x9_3).f0) = 39
                    ·rw [if_pos c68] at H
                     have c68b0 : (((rd_T80 l0_0 x9_3).f0) == 39) = true := beq_iff_eq.mpr c68
                     have c68b1 : (((rd_T80 l0_0 x9_3).f0) != 39) = false := bne_eq_false_iff_eq.mpr c68
                     clear c68
                     have H' := As.mk H
                     clear H
                     have hnb69 := NB143_132.out
                     have hnc69 := NB132_143.out
                     have hcz70_0 : wc.cell? ⟨gb143, 0, none⟩ = some (.int .i64 ((rd_T80 l0_0 x9_3).f0)) := (kC BK143.out 0).trans rfl
                     have hcz70_1 : wc.cell? ⟨gb143, 1, none⟩ = some (.int .i64 ((rd_T80 l0_0 x9_3).f1)) := (kC BK143.out 1).trans rfl
                     have hcz70_2 : wc.cell? ⟨gb143, 2, none⟩ = some (.string ((rd_T80 l0_0 x9_3).f2)) := (kC BK143.out 2).trans rfl
                     have hfz70_0 := kF BK143.out 0
                     have hfz70_1 := kF BK143.out 1
                     have hfz70_2 := kF BK143.out 2
                     go_wp2_with (first | (go_at_call 49; (with_reducible refine (F5.calls kj52 ((rd_T80 l0_0 x9_3).f0) ((rd_T80 l0_0 x9_3).f1) ((rd_T80 l0_0 x9_3).f2) true _ A60.out).mono ?_); rintro e w71 ⟨rfl, hb⟩; have n0_ := As.mk (kB (g := gb132) (o := .cells #[.slice (some ad142) l0_0.length c0_0, .slice A0_1 l0_1.length c0_1] 31 (0, 0)) (by (with_reducible repeat (first | refine kD ?_ _ | refine kE ?_ | refine kA ?_ _)); exact BK132.out) hb); have n1_ := As.mk (kB (g := gb143) (o := .cells #[.int .i64 ((rd_T80 l0_0 x9_3).f0), .int .i64 ((rd_T80 l0_0 x9_3).f1), .string ((rd_T80 l0_0 x9_3).f2)] 80 (0, 0)) (by (with_reducible repeat (first | refine kD ?_ _ | refine kE ?_ | refine kA ?_ _)); exact BK143.out) hb); have n2_ := As.mk (bT (by repeat (first | (with_reducible first | exact HB.out | apply bA | apply bD | apply bE | refine bS ?_ GE132.out | refine bS ?_ GE143.out) | exact HB.out)) hb); clear BK132; clear BK143; clear HB; have BK132 := n0_; have BK143 := n1_; have HB := n2_; clear n0_ n1_ n2_; (try clear hb); (try clear hb2); (try clear hk); (try clear hi); have hcz72_0 : w71.cell? ⟨gb143, 0, none⟩ = some (.int .i64 ((rd_T80 l0_0 x9_3).f0)) := (kC BK143.out 0).trans rfl; have hcz72_1 : w71.cell? ⟨gb143, 1, none⟩ = some (.int .i64 ((rd_T80 l0_0 x9_3).f1)) := (kC BK143.out 1).trans rfl; have hcz72_2 : w71.cell? ⟨gb143, 2, none⟩ = some (.string ((rd_T80 l0_0 x9_3).f2)) := (kC BK143.out 2).trans rfl; have hfz72_0 := kF BK143.out 0; have hfz72_1 := kF BK143.out 1; have hfz72_2 := kF BK143.out 2))
                     repeat (go_quiet (first | (go_at_call 49; (with_reducible refine (F5.calls kj52 ((rd_T80 l0_0 x9_3).f0) ((rd_T80 l0_0 x9_3).f1) ((rd_T80 l0_0 x9_3).f2) true _ A60.out).mono ?_); rintro e w71 ⟨rfl, hb⟩; have n0_ := As.mk (kB (g := gb132) (o := .cells #[.slice (some ad142) l0_0.length c0_0, .slice A0_1 l0_1.length c0_1] 31 (0, 0)) (by (with_reducible repeat (first | refine kD ?_ _ | refine kE ?_ | refine kA ?_ _)); exact BK132.out) hb); have n1_ := As.mk (kB (g := gb143) (o := .cells #[.int .i64 ((rd_T80 l0_0 x9_3).f0), .int .i64 ((rd_T80 l0_0 x9_3).f1), .string ((rd_T80 l0_0 x9_3).f2)] 80 (0, 0)) (by (with_reducible repeat (first | refine kD ?_ _ | refine kE ?_ | refine kA ?_ _)); exact BK143.out) hb); have n2_ := As.mk (bT (by repeat (first | (with_reducible first | exact HB.out | apply bA | apply bD | apply bE | refine bS ?_ GE132.out | refine bS ?_ GE143.out) | exact HB.out)) hb); clear BK132; clear BK143; clear HB; have BK132 := n0_; have BK143 := n1_; have HB := n2_; clear n0_ n1_ n2_; (try clear hb); (try clear hb2); (try clear hk); (try clear hi); have hcz72_0 : w71.cell? ⟨gb143, 0, none⟩ = some (.int .i64 ((rd_T80 l0_0 x9_3).f0)) := (kC BK143.out 0).trans rfl; have hcz72_1 : w71.cell? ⟨gb143, 1, none⟩ = some (.int .i64 ((rd_T80 l0_0 x9_3).f1)) := (kC BK143.out 1).trans rfl; have hcz72_2 : w71.cell? ⟨gb143, 2, none⟩ = some (.string ((rd_T80 l0_0 x9_3).f2)) := (kC BK143.out 2).trans rfl; have hfz72_0 := kF BK143.out 0; have hfz72_1 := kF BK143.out 1; have hfz72_2 := kF BK143.out 2)); try go_wp2_with (first | (go_at_call 49; (with_reducible refine (F5.calls kj52 ((rd_T80 l0_0 x9_3).f0) ((rd_T80 l0_0 x9_3).f1) ((rd_T80 l0_0 x9_3).f2) true _ A60.out).mono ?_); rintro e w71 ⟨rfl, hb⟩; have n0_ := As.mk (kB (g := gb132) (o := .cells #[.slice (some ad142) l0_0.length c0_0, .slice A0_1 l0_1.length c0_1] 31 (0, 0)) (by (with_reducible repeat (first | refine kD ?_ _ | refine kE ?_ | refine kA ?_ _)); exact BK132.out) hb); have n1_ := As.mk (kB (g := gb143) (o := .cells #[.int .i64 ((rd_T80 l0_0 x9_3).f0), .int .i64 ((rd_T80 l0_0 x9_3).f1), .string ((rd_T80 l0_0 x9_3).f2)] 80 (0, 0)) (by (with_reducible repeat (first | refine kD ?_ _ | refine kE ?_ | refine kA ?_ _)); exact BK143.out) hb); have n2_ := As.mk (bT (by repeat (first | (with_reducible first | exact HB.out | apply bA | apply bD | apply bE | refine bS ?_ GE132.out | refine bS ?_ GE143.out) | exact HB.out)) hb); clear BK132; clear BK143; clear HB; have BK132 := n0_; have BK143 := n1_; have HB := n2_; clear n0_ n1_ n2_; (try clear hb); (try clear hb2); (try clear hk); (try clear hi); have hcz72_0 : w71.cell? ⟨gb143, 0, none⟩ = some (.int .i64 ((rd_T80 l0_0 x9_3).f0)) := (kC BK143.out 0).trans rfl; have hcz72_1 : w71.cell? ⟨gb143, 1, none⟩ = some (.int .i64 ((rd_T80 l0_0 x9_3).f1)) := (kC BK143.out 1).trans rfl; have hcz72_2 : w71.cell? ⟨gb143, 2, none⟩ = some (.string ((rd_T80 l0_0 x9_3).f2)) := (kC BK143.out 2).trans rfl; have hfz72_0 := kF BK143.out 0; have hfz72_1 := kF BK143.out 1; have hfz72_2 := kF BK143.out 2)))
                     go_meet
                     case rel => exact ⟨_, (true), (by first | rfl | (simp; done) | (simp [*]; done)), H', ⟨by have := HJ1.out; have := HK2.out; have := HK3.out; have := HJ45.out; have := HJ52.out; first | omega | exact Nat.le_refl _⟩, ⟨by (with_reducible repeat (first | refine kD ?_ _ | refine kE ?_ | refine kA ?_ _)); exact BK132.out⟩, ⟨by (with_reducible repeat (first | refine kD ?_ _ | refine kE ?_ | refine kA ?_ _)); exact BK143.out⟩, ⟨by repeat (first | (with_reducible first | exact HB.out | apply bA | apply bD | apply bE | refine bS ?_ GE132.out | refine bS ?_ GE143.out) | exact HB.out)⟩⟩
                    ·rw [if_neg c68] at H
                     have c68b0 : (((rd_T80 l0_0 x9_3).f0) == 39) = false := beq_eq_false_iff_ne.mpr c68
                     have c68b1 : (((rd_T80 l0_0 x9_3).f0) != 39) = true := bne_iff_ne.mpr c68
                     have H' := As.mk H
                     clear H
                     have hnb73 := NB143_132.out
                     have hnc73 := NB132_143.out
                     have hcz74_0 : wc.cell? ⟨gb143, 0, none⟩ = some (.int .i64 ((rd_T80 l0_0 x9_3).f0)) := (kC BK143.out 0).trans rfl
                     have hcz74_1 : wc.cell? ⟨gb143, 1, none⟩ = some (.int .i64 ((rd_T80 l0_0 x9_3).f1)) := (kC BK143.out 1).trans rfl
                     have hcz74_2 : wc.cell? ⟨gb143, 2, none⟩ = some (.string ((rd_T80 l0_0 x9_3).f2)) := (kC BK143.out 2).trans rfl
                     have hfz74_0 := kF BK143.out 0
                     have hfz74_1 := kF BK143.out 1
                     have hfz74_2 := kF BK143.out 2
                     go_wp2_with (first | (go_at_call 49; (with_reducible refine (F5.calls kj52 ((rd_T80 l0_0 x9_3).f0) ((rd_T80 l0_0 x9_3).f1) ((rd_T80 l0_0 x9_3).f2) true _ A60.out).mono ?_); rintro e w75 ⟨rfl, hb⟩; have n0_ := As.mk (kB (g := gb132) (o := .cells #[.slice (some ad142) l0_0.length c0_0, .slice A0_1 l0_1.length c0_1] 31 (0, 0)) (by (with_reducible repeat (first | refine kD ?_ _ | refine kE ?_ | refine kA ?_ _)); exact BK132.out) hb); have n1_ := As.mk (kB (g := gb143) (o := .cells #[.int .i64 ((rd_T80 l0_0 x9_3).f0), .int .i64 ((rd_T80 l0_0 x9_3).f1), .string ((rd_T80 l0_0 x9_3).f2)] 80 (0, 0)) (by (with_reducible repeat (first | refine kD ?_ _ | refine kE ?_ | refine kA ?_ _)); exact BK143.out) hb); have n2_ := As.mk (bT (by repeat (first | (with_reducible first | exact HB.out | apply bA | apply bD | apply bE | refine bS ?_ GE132.out | refine bS ?_ GE143.out) | exact HB.out)) hb); clear BK132; clear BK143; clear HB; have BK132 := n0_; have BK143 := n1_; have HB := n2_; clear n0_ n1_ n2_; (try clear hb); (try clear hb2); (try clear hk); (try clear hi); have hcz76_0 : w75.cell? ⟨gb143, 0, none⟩ = some (.int .i64 ((rd_T80 l0_0 x9_3).f0)) := (kC BK143.out 0).trans rfl; have hcz76_1 : w75.cell? ⟨gb143, 1, none⟩ = some (.int .i64 ((rd_T80 l0_0 x9_3).f1)) := (kC BK143.out 1).trans rfl; have hcz76_2 : w75.cell? ⟨gb143, 2, none⟩ = some (.string ((rd_T80 l0_0 x9_3).f2)) := (kC BK143.out 2).trans rfl; have hfz76_0 := kF BK143.out 0; have hfz76_1 := kF BK143.out 1; have hfz76_2 := kF BK143.out 2))
                     repeat (go_quiet (first | (go_at_call 49; (with_reducible refine (F5.calls kj52 ((rd_T80 l0_0 x9_3).f0) ((rd_T80 l0_0 x9_3).f1) ((rd_T80 l0_0 x9_3).f2) true _ A60.out).mono ?_); rintro e w75 ⟨rfl, hb⟩; have n0_ := As.mk (kB (g := gb132) (o := .cells #[.slice (some ad142) l0_0.length c0_0, .slice A0_1 l0_1.length c0_1] 31 (0, 0)) (by (with_reducible repeat (first | refine kD ?_ _ | refine kE ?_ | refine kA ?_ _)); exact BK132.out) hb); have n1_ := As.mk (kB (g := gb143) (o := .cells #[.int .i64 ((rd_T80 l0_0 x9_3).f0), .int .i64 ((rd_T80 l0_0 x9_3).f1), .string ((rd_T80 l0_0 x9_3).f2)] 80 (0, 0)) (by (with_reducible repeat (first | refine kD ?_ _ | refine kE ?_ | refine kA ?_ _)); exact BK143.out) hb); have n2_ := As.mk (bT (by repeat (first | (with_reducible first | exact HB.out | apply bA | apply bD | apply bE | refine bS ?_ GE132.out | refine bS ?_ GE143.out) | exact HB.out)) hb); clear BK132; clear BK143; clear HB; have BK132 := n0_; have BK143 := n1_; have HB := n2_; clear n0_ n1_ n2_; (try clear hb); (try clear hb2); (try clear hk); (try clear hi); have hcz76_0 : w75.cell? ⟨gb143, 0, none⟩ = some (.int .i64 ((rd_T80 l0_0 x9_3).f0)) := (kC BK143.out 0).trans rfl; have hcz76_1 : w75.cell? ⟨gb143, 1, none⟩ = some (.int .i64 ((rd_T80 l0_0 x9_3).f1)) := (kC BK143.out 1).trans rfl; have hcz76_2 : w75.cell? ⟨gb143, 2, none⟩ = some (.string ((rd_T80 l0_0 x9_3).f2)) := (kC BK143.out 2).trans rfl; have hfz76_0 := kF BK143.out 0; have hfz76_1 := kF BK143.out 1; have hfz76_2 := kF BK143.out 2)); try go_wp2_with (first | (go_at_call 49; (with_reducible refine (F5.calls kj52 ((rd_T80 l0_0 x9_3).f0) ((rd_T80 l0_0 x9_3).f1) ((rd_T80 l0_0 x9_3).f2) true _ A60.out).mono ?_); rintro e w75 ⟨rfl, hb⟩; have n0_ := As.mk (kB (g := gb132) (o := .cells #[.slice (some ad142) l0_0.length c0_0, .slice A0_1 l0_1.length c0_1] 31 (0, 0)) (by (with_reducible repeat (first | refine kD ?_ _ | refine kE ?_ | refine kA ?_ _)); exact BK132.out) hb); have n1_ := As.mk (kB (g := gb143) (o := .cells #[.int .i64 ((rd_T80 l0_0 x9_3).f0), .int .i64 ((rd_T80 l0_0 x9_3).f1), .string ((rd_T80 l0_0 x9_3).f2)] 80 (0, 0)) (by (with_reducible repeat (first | refine kD ?_ _ | refine kE ?_ | refine kA ?_ _)); exact BK143.out) hb); have n2_ := As.mk (bT (by repeat (first | (with_reducible first | exact HB.out | apply bA | apply bD | apply bE | refine bS ?_ GE132.out | refine bS ?_ GE143.out) | exact HB.out)) hb); clear BK132; clear BK143; clear HB; have BK132 := n0_; have BK143 := n1_; have HB := n2_; clear n0_ n1_ n2_; (try clear hb); (try clear hb2); (try clear hk); (try clear hi); have hcz76_0 : w75.cell? ⟨gb143, 0, none⟩ = some (.int .i64 ((rd_T80 l0_0 x9_3).f0)) := (kC BK143.out 0).trans rfl; have hcz76_1 : w75.cell? ⟨gb143, 1, none⟩ = some (.int .i64 ((rd_T80 l0_0 x9_3).f1)) := (kC BK143.out 1).trans rfl; have hcz76_2 : w75.cell? ⟨gb143, 2, none⟩ = some (.string ((rd_T80 l0_0 x9_3).f2)) := (kC BK143.out 2).trans rfl; have hfz76_0 := kF BK143.out 0; have hfz76_1 := kF BK143.out 1; have hfz76_2 := kF BK143.out 2)))
                     go_meet
                     case rel => exact ⟨_, ((((rd_T80 l0_0 x9_3).f0) == 38)), (by first | rfl | (simp; done) | (simp [*]; done)), H', ⟨by have := HJ1.out; have := HK2.out; have := HK3.out; have := HJ45.out; have := HJ52.out; first | omega | exact Nat.le_refl _⟩, ⟨by (with_reducible repeat (first | refine kD ?_ _ | refine kE ?_ | refine kA ?_ _)); exact BK132.out⟩, ⟨by (with_reducible repeat (first | refine kD ?_ _ | refine kE ?_ | refine kA ?_ _)); exact BK143.out⟩, ⟨by repeat (first | (with_reducible first | exact HB.out | apply bA | apply bD | apply bE | refine bS ?_ GE132.out | refine bS ?_ GE143.out) | exact HB.out)⟩⟩
                   ·rw [if_neg c67] at H
                    have c67b0 : decide (x9_3 < x8_45) = false := decide_eq_false c67
                    clear c67
                    have H' := As.mk H
                    clear H
                    have hnb77 := NB143_132.out
                    have hnc77 := NB132_143.out
                    have hcz78_0 : wc.cell? ⟨gb143, 0, none⟩ = some (.int .i64 ((rd_T80 l0_0 x9_3).f0)) := (kC BK143.out 0).trans rfl
                    have hcz78_1 : wc.cell? ⟨gb143, 1, none⟩ = some (.int .i64 ((rd_T80 l0_0 x9_3).f1)) := (kC BK143.out 1).trans rfl
                    have hcz78_2 : wc.cell? ⟨gb143, 2, none⟩ = some (.string ((rd_T80 l0_0 x9_3).f2)) := (kC BK143.out 2).trans rfl
                    have hfz78_0 := kF BK143.out 0
                    have hfz78_1 := kF BK143.out 1
                    have hfz78_2 := kF BK143.out 2
                    go_wp2_with (first | (go_at_call 49; (with_reducible refine (F5.calls kj52 ((rd_T80 l0_0 x9_3).f0) ((rd_T80 l0_0 x9_3).f1) ((rd_T80 l0_0 x9_3).f2) true _ A60.out).mono ?_); rintro e w79 ⟨rfl, hb⟩; have n0_ := As.mk (kB (g := gb132) (o := .cells #[.slice (some ad142) l0_0.length c0_0, .slice A0_1 l0_1.length c0_1] 31 (0, 0)) (by (with_reducible repeat (first | refine kD ?_ _ | refine kE ?_ | refine kA ?_ _)); exact BK132.out) hb); have n1_ := As.mk (kB (g := gb143) (o := .cells #[.int .i64 ((rd_T80 l0_0 x9_3).f0), .int .i64 ((rd_T80 l0_0 x9_3).f1), .string ((rd_T80 l0_0 x9_3).f2)] 80 (0, 0)) (by (with_reducible repeat (first | refine kD ?_ _ | refine kE ?_ | refine kA ?_ _)); exact BK143.out) hb); have n2_ := As.mk (bT (by repeat (first | (with_reducible first | exact HB.out | apply bA | apply bD | apply bE | refine bS ?_ GE132.out | refine bS ?_ GE143.out) | exact HB.out)) hb); clear BK132; clear BK143; clear HB; have BK132 := n0_; have BK143 := n1_; have HB := n2_; clear n0_ n1_ n2_; (try clear hb); (try clear hb2); (try clear hk); (try clear hi); have hcz80_0 : w79.cell? ⟨gb143, 0, none⟩ = some (.int .i64 ((rd_T80 l0_0 x9_3).f0)) := (kC BK143.out 0).trans rfl; have hcz80_1 : w79.cell? ⟨gb143, 1, none⟩ = some (.int .i64 ((rd_T80 l0_0 x9_3).f1)) := (kC BK143.out 1).trans rfl; have hcz80_2 : w79.cell? ⟨gb143, 2, none⟩ = some (.string ((rd_T80 l0_0 x9_3).f2)) := (kC BK143.out 2).trans rfl; have hfz80_0 := kF BK143.out 0; have hfz80_1 := kF BK143.out 1; have hfz80_2 := kF BK143.out 2))
                    repeat (go_quiet (first | (go_at_call 49; (with_reducible refine (F5.calls kj52 ((rd_T80 l0_0 x9_3).f0) ((rd_T80 l0_0 x9_3).f1) ((rd_T80 l0_0 x9_3).f2) true _ A60.out).mono ?_); rintro e w79 ⟨rfl, hb⟩; have n0_ := As.mk (kB (g := gb132) (o := .cells #[.slice (some ad142) l0_0.length c0_0, .slice A0_1 l0_1.length c0_1] 31 (0, 0)) (by (with_reducible repeat (first | refine kD ?_ _ | refine kE ?_ | refine kA ?_ _)); exact BK132.out) hb); have n1_ := As.mk (kB (g := gb143) (o := .cells #[.int .i64 ((rd_T80 l0_0 x9_3).f0), .int .i64 ((rd_T80 l0_0 x9_3).f1), .string ((rd_T80 l0_0 x9_3).f2)] 80 (0, 0)) (by (with_reducible repeat (first | refine kD ?_ _ | refine kE ?_ | refine kA ?_ _)); exact BK143.out) hb); have n2_ := As.mk (bT (by repeat (first | (with_reducible first | exact HB.out | apply bA | apply bD | apply bE | refine bS ?_ GE132.out | refine bS ?_ GE143.out) | exact HB.out)) hb); clear BK132; clear BK143; clear HB; have BK132 := n0_; have BK143 := n1_; have HB := n2_; clear n0_ n1_ n2_; (try clear hb); (try clear hb2); (try clear hk); (try clear hi); have hcz80_0 : w79.cell? ⟨gb143, 0, none⟩ = some (.int .i64 ((rd_T80 l0_0 x9_3).f0)) := (kC BK143.out 0).trans rfl; have hcz80_1 : w79.cell? ⟨gb143, 1, none⟩ = some (.int .i64 ((rd_T80 l0_0 x9_3).f1)) := (kC BK143.out 1).trans rfl; have hcz80_2 : w79.cell? ⟨gb143, 2, none⟩ = some (.string ((rd_T80 l0_0 x9_3).f2)) := (kC BK143.out 2).trans rfl; have hfz80_0 := kF BK143.out 0; have hfz80_1 := kF BK143.out 1; have hfz80_2 := kF BK143.out 2)); try go_wp2_with (first | (go_at_call 49; (with_reducible refine (F5.calls kj52 ((rd_T80 l0_0 x9_3).f0) ((rd_T80 l0_0 x9_3).f1) ((rd_T80 l0_0 x9_3).f2) true _ A60.out).mono ?_); rintro e w79 ⟨rfl, hb⟩; have n0_ := As.mk (kB (g := gb132) (o := .cells #[.slice (some ad142) l0_0.length c0_0, .slice A0_1 l0_1.length c0_1] 31 (0, 0)) (by (with_reducible repeat (first | refine kD ?_ _ | refine kE ?_ | refine kA ?_ _)); exact BK132.out) hb); have n1_ := As.mk (kB (g := gb143) (o := .cells #[.int .i64 ((rd_T80 l0_0 x9_3).f0), .int .i64 ((rd_T80 l0_0 x9_3).f1), .string ((rd_T80 l0_0 x9_3).f2)] 80 (0, 0)) (by (with_reducible repeat (first | refine kD ?_ _ | refine kE ?_ | refine kA ?_ _)); exact BK143.out) hb); have n2_ := As.mk (bT (by repeat (first | (with_reducible first | exact HB.out | apply bA | apply bD | apply bE | refine bS ?_ GE132.out | refine bS ?_ GE143.out) | exact HB.out)) hb); clear BK132; clear BK143; clear HB; have BK132 := n0_; have BK143 := n1_; have HB := n2_; clear n0_ n1_ n2_; (try clear hb); (try clear hb2); (try clear hk); (try clear hi); have hcz80_0 : w79.cell? ⟨gb143, 0, none⟩ = some (.int .i64 ((rd_T80 l0_0 x9_3).f0)) := (kC BK143.out 0).trans rfl; have hcz80_1 : w79.cell? ⟨gb143, 1, none⟩ = some (.int .i64 ((rd_T80 l0_0 x9_3).f1)) := (kC BK143.out 1).trans rfl; have hcz80_2 : w79.cell? ⟨gb143, 2, none⟩ = some (.string ((rd_T80 l0_0 x9_3).f2)) := (kC BK143.out 2).trans rfl; have hfz80_0 := kF BK143.out 0; have hfz80_1 := kF BK143.out 1; have hfz80_2 := kF BK143.out 2)))
                    go_meet
                    case rel => exact ⟨_, (false), (by first | rfl | (simp; done) | (simp [*]; done)), H', ⟨by have := HJ1.out; have := HK2.out; have := HK3.out; have := HJ45.out; have := HJ52.out; first | omega | exact Nat.le_refl _⟩, ⟨by (with_reducible repeat (first | refine kD ?_ _ | refine kE ?_ | refine kA ?_ _)); exact BK132.out⟩, ⟨by (with_reducible repeat (first | refine kD ?_ _ | refine kE ?_ | refine kA ?_ _)); exact BK143.out⟩, ⟨by repeat (first | (with_reducible first | exact HB.out | apply bA | apply bD | apply bE | refine bS ?_ GE132.out | refine bS ?_ GE143.out) | exact HB.out)⟩⟩
                 ·replace c61 := Bool.eq_false_iff.mpr c61
                  subst c61
                  have H1 : (F1.j7 kj52 (l0_0.length : Int) x7_45 x8_45 x9_3 true l0_0 l0_1 ((rd_T80 l0_0 x9_3).f0) ((rd_T80 l0_0 x9_3).f1) ((rd_T80 l0_0 x9_3).f2)) = some r := by rw [if_neg (show ¬ (false = true) by decide)] at H; exact H
                  clear H
                  have H := H1
                  clear H1
                  have H' := As.mk H
                  clear H
                  have hnb81 := NB143_132.out
                  have hnc81 := NB132_143.out
                  have hcz82_0 : wc.cell? ⟨gb143, 0, none⟩ = some (.int .i64 ((rd_T80 l0_0 x9_3).f0)) := (kC BK143.out 0).trans rfl
                  have hcz82_1 : wc.cell? ⟨gb143, 1, none⟩ = some (.int .i64 ((rd_T80 l0_0 x9_3).f1)) := (kC BK143.out 1).trans rfl
                  have hcz82_2 : wc.cell? ⟨gb143, 2, none⟩ = some (.string ((rd_T80 l0_0 x9_3).f2)) := (kC BK143.out 2).trans rfl
                  have hfz82_0 := kF BK143.out 0
                  have hfz82_1 := kF BK143.out 1
                  have hfz82_2 := kF BK143.out 2
                  go_wp2_with (first | (go_at_call 49; (with_reducible refine (F5.calls kj52 ((rd_T80 l0_0 x9_3).f0) ((rd_T80 l0_0 x9_3).f1) ((rd_T80 l0_0 x9_3).f2) false _ A60.out).mono ?_); rintro e w83 ⟨rfl, hb⟩; have n0_ := As.mk (kB (g := gb132) (o := .cells #[.slice (some ad142) l0_0.length c0_0, .slice A0_1 l0_1.length c0_1] 31 (0, 0)) (by (with_reducible repeat (first | refine kD ?_ _ | refine kE ?_ | refine kA ?_ _)); exact BK132.out) hb); have n1_ := As.mk (kB (g := gb143) (o := .cells #[.int .i64 ((rd_T80 l0_0 x9_3).f0), .int .i64 ((rd_T80 l0_0 x9_3).f1), .string ((rd_T80 l0_0 x9_3).f2)] 80 (0, 0)) (by (with_reducible repeat (first | refine kD ?_ _ | refine kE ?_ | refine kA ?_ _)); exact BK143.out) hb); have n2_ := As.mk (bT (by repeat (first | (with_reducible first | exact HB.out | apply bA | apply bD | apply bE | refine bS ?_ GE132.out | refine bS ?_ GE143.out) | exact HB.out)) hb); clear BK132; clear BK143; clear HB; have BK132 := n0_; have BK143 := n1_; have HB := n2_; clear n0_ n1_ n2_; (try clear hb); (try clear hb2); (try clear hk); (try clear hi)))
                  repeat (go_quiet (first | (go_at_call 49; (with_reducible refine (F5.calls kj52 ((rd_T80 l0_0 x9_3).f0) ((rd_T80 l0_0 x9_3).f1) ((rd_T80 l0_0 x9_3).f2) false _ A60.out).mono ?_); rintro e w83 ⟨rfl, hb⟩; have n0_ := As.mk (kB (g := gb132) (o := .cells #[.slice (some ad142) l0_0.length c0_0, .slice A0_1 l0_1.length c0_1] 31 (0, 0)) (by (with_reducible repeat (first | refine kD ?_ _ | refine kE ?_ | refine kA ?_ _)); exact BK132.out) hb); have n1_ := As.mk (kB (g := gb143) (o := .cells #[.int .i64 ((rd_T80 l0_0 x9_3).f0), .int .i64 ((rd_T80 l0_0 x9_3).f1), .string ((rd_T80 l0_0 x9_3).f2)] 80 (0, 0)) (by (with_reducible repeat (first | refine kD ?_ _ | refine kE ?_ | refine kA ?_ _)); exact BK143.out) hb); have n2_ := As.mk (bT (by repeat (first | (with_reducible first | exact HB.out | apply bA | apply bD | apply bE | refine bS ?_ GE132.out | refine bS ?_ GE143.out) | exact HB.out)) hb); clear BK132; clear BK143; clear HB; have BK132 := n0_; have BK143 := n1_; have HB := n2_; clear n0_ n1_ n2_; (try clear hb); (try clear hb2); (try clear hk); (try clear hi))); try go_wp2_with (first | (go_at_call 49; (with_reducible refine (F5.calls kj52 ((rd_T80 l0_0 x9_3).f0) ((rd_T80 l0_0 x9_3).f1) ((rd_T80 l0_0 x9_3).f2) false _ A60.out).mono ?_); rintro e w83 ⟨rfl, hb⟩; have n0_ := As.mk (kB (g := gb132) (o := .cells #[.slice (some ad142) l0_0.length c0_0, .slice A0_1 l0_1.length c0_1] 31 (0, 0)) (by (with_reducible repeat (first | refine kD ?_ _ | refine kE ?_ | refine kA ?_ _)); exact BK132.out) hb); have n1_ := As.mk (kB (g := gb143) (o := .cells #[.int .i64 ((rd_T80 l0_0 x9_3).f0), .int .i64 ((rd_T80 l0_0 x9_3).f1), .string ((rd_T80 l0_0 x9_3).f2)] 80 (0, 0)) (by (with_reducible repeat (first | refine kD ?_ _ | refine kE ?_ | refine kA ?_ _)); exact BK143.out) hb); have n2_ := As.mk (bT (by repeat (first | (with_reducible first | exact HB.out | apply bA | apply bD | apply bE | refine bS ?_ GE132.out | refine bS ?_ GE143.out) | exact HB.out)) hb); clear BK132; clear BK143; clear HB; have BK132 := n0_; have BK143 := n1_; have HB := n2_; clear n0_ n1_ n2_; (try clear hb); (try clear hb2); (try clear hk); (try clear hi))))
                  go_meet
                  case rel => exact ⟨_, (true), (by first | rfl | (simp; done) | (simp [*]; done)), H', ⟨by have := HJ1.out; have := HK2.out; have := HK3.out; have := HJ45.out; have := HJ52.out; first | omega | exact Nat.le_refl _⟩, ⟨by (with_reducible repeat (first | refine kD ?_ _ | refine kE ?_ | refine kA ?_ _)); exact BK132.out⟩, ⟨by (with_reducible repeat (first | refine kD ?_ _ | refine kE ?_ | refine kA ?_ _)); exact BK143.out⟩, ⟨by repeat (first | (with_reducible first | exact HB.out | apply bA | apply bD | apply bE | refine bS ?_ GE132.out | refine bS ?_ GE143.out) | exact HB.out)⟩⟩
                case rest =>
                 clear HC59
                 try clear c8
                 try clear c9
                 try clear c9b0
                 try clear c45
                 try clear c45b0
                 try clear c51
                 try clear c51b0
                 try clear c52
                 try clear c52b0
                 try clear hcz44_0
                 try clear hcz44_1
                 try clear hcz4_0
                 try clear hcz4_1
                 try clear hcz54_0
                 try clear hcz54_1
                 try clear hcz57_0
                 try clear hcz57_1
                 try clear hcz57_2
                 try clear hfz44_0
                 try clear hfz44_1
                 try clear hfz4_0
                 try clear hfz4_1
                 try clear hfz54_0
                 try clear hfz54_1
                 try clear hfz57_0
                 try clear hfz57_1
                 try clear hfz57_2
                 try clear hx142_0
                 try clear hx142_1
                 try clear hx142_2
                 try clear p142
                 try clear q142
                 obtain ⟨kq, x126_58, rfl, HA, HJ58, BK132, BK143, HB⟩ := hcut
                 cases kq with
                 | zero => exact absurd HA.out (by simp [F1.j7])
                 | succ kj58 =>
                  have H := HA.out
                  clear HA
                  simp only [F1.j7] at H
                  by_cases c84 : x126_58 = true
                  ·subst c84
                   have H1 : (some false) = some r := by rw [if_pos rfl] at H; exact H
                   clear H
                   have H := H1
                   clear H1
                   obtain rfl := Option.some.inj H
                   go_wp2
                   repeat (go_quiet (fail); try go_wp2)
                   go_ret
                   exact ⟨by first | rfl | (simp [eN, eS] <;> rfl) | (simp [*, eN, eS] <;> rfl), by repeat (first | (with_reducible first | exact HB.out | apply bA | apply bD | apply bE | refine bS ?_ GE132.out | refine bS ?_ GE143.out) | exact HB.out)⟩
                  ·replace c84 := Bool.eq_false_iff.mpr c84
                   subst c84
                   have H1 : (if ((rd_T80 l0_0 x9_3).f0) = 32 then (F1.j8 kj58 (l0_0.length : Int) x7_45 x8_45 x9_3 ((rd_T80 l0_0 x9_3).f0) (((rd_T80 l0_0 x9_3).f0) == 32) l0_0 l0_1 ((rd_T80 l0_0 x9_3).f0) ((rd_T80 l0_0 x9_3).f1) ((rd_T80 l0_0 x9_3).f2)) else (F1.j8 kj58 (l0_0.length : Int) x7_45 x8_45 x9_3 ((rd_T80 l0_0 x9_3).f0) (((rd_T80 l0_0 x9_3).f0) == 33) l0_0 l0_1 ((rd_T80 l0_0 x9_3).f0) ((rd_T80 l0_0 x9_3).f1) ((rd_T80 l0_0 x9_3).f2))) = some r := by rw [if_neg (show ¬ (false = true) by decide)] at H; exact H
                   clear H
                   have H := H1
                   clear H1
                   have HC85 := As.mk H
                   clear H
                   have hnb86 := NB143_132.out
                   have hnc86 := NB132_143.out
                   have hcz87_0 : wc.cell? ⟨gb143, 0, none⟩ = some (.int .i64 ((rd_T80 l0_0 x9_3).f0)) := (kC BK143.out 0).trans rfl
                   have hcz87_1 : wc.cell? ⟨gb143, 1, none⟩ = some (.int .i64 ((rd_T80 l0_0 x9_3).f1)) := (kC BK143.out 1).trans rfl
                   have hcz87_2 : wc.cell? ⟨gb143, 2, none⟩ = some (.string ((rd_T80 l0_0 x9_3).f2)) := (kC BK143.out 2).trans rfl
                   have hfz87_0 := kF BK143.out 0
                   have hfz87_1 := kF BK143.out 1
                   have hfz87_2 := kF BK143.out 2
                   go_upto_if 129 with (fail)
                   repeat (go_quiet (fail); go_upto_if 129 with (fail))
                   go_cut [129] (fun v129 wc => ∃ (kq : Nat) (x129_84 : Bool), v129 = .bool x129_84 ∧ As (F1.j8 kq (l0_0.length : Int) x7_45 x8_45 x9_3 ((rd_T80 l0_0 x9_3).f0) x129_84 l0_0 l0_1 ((rd_T80 l0_0 x9_3).f0) ((rd_T80 l0_0 x9_3).f1) ((rd_T80 l0_0 x9_3).f2) = some r) ∧ As (kq ≤ kj58) ∧ As (wc.heap[gb132]? = some (.cells #[(.slice (some ad142) l0_0.length c0_0), (.slice A0_1 l0_1.length c0_1)] 31 (0, 0))) ∧ As (wc.heap[gb143]? = some (.cells #[.int .i64 ((rd_T80 l0_0 x9_3).f0), .int .i64 ((rd_T80 l0_0 x9_3).f1), .string ((rd_T80 l0_0 x9_3).f2)] 80 (0, 0))) ∧ As (Below w.heap.size w wc))
                   case first =>
                    have H := HC85.out
                    clear HC85
                    by_cases c88 : ((rd_T80 l0_0 x9_3).f0) = 32
                    ·rw [if_pos c88] at H
                     have c88b0 : (((rd_T80 l0_0 x9_3).f0) == 32) = true := beq_iff_eq.mpr c88
                     have c88b1 : (((rd_T80 l0_0 x9_3).f0) != 32) = false := bne_eq_false_iff_eq.mpr c88
                     clear c88
                     (first | rw [c88b0] | (simp only [i64_w, i32_w]; rw [c88b0]) | skip)
                     have H' := As.mk H
                     clear H
                     go_wp2
                     repeat (go_quiet (fail); try go_wp2)
                     go_meet
                     case rel => exact ⟨_, ((((rd_T80 l0_0 x9_3).f0) == 32)), (by first | rfl | (simp; done) | (simp [*]; done)), H', ⟨by have := HJ1.out; have := HK2.out; have := HK3.out; have := HJ45.out; have := HJ52.out; have := HJ58.out; first | omega | exact Nat.le_refl _⟩, ⟨by (with_reducible repeat (first | refine kD ?_ _ | refine kE ?_ | refine kA ?_ _)); exact BK132.out⟩, ⟨by (with_reducible repeat (first | refine kD ?_ _ | refine kE ?_ | refine kA ?_ _)); exact BK143.out⟩, ⟨by repeat (first | (with_reducible first | exact HB.out | apply bA | apply bD | apply bE | refine bS ?_ GE132.out | refine bS ?_ GE143.out) | exact HB.out)⟩⟩
                    ·rw [if_neg c88] at H
                     have c88b0 : (((rd_T80 l0_0 x9_3).f0) == 32) = false := beq_eq_false_iff_ne.mpr c88
                     have c88b1 : (((rd_T80 l0_0 x9_3).f0) != 32) = true := bne_iff_ne.mpr c88
                     (first | rw [c88b0] | (simp only [i64_w, i32_w]; rw [c88b0]) | skip)
                     have H' := As.mk H
                     clear H
                     go_wp2
                     repeat (go_quiet (fail); try go_wp2)
                     go_meet
                     case rel => exact ⟨_, ((((rd_T80 l0_0 x9_3).f0) == 33)), (by first | rfl | (simp; done) | (simp [*]; done)), H', ⟨by have := HJ1.out; have := HK2.out; have := HK3.out; have := HJ45.out; have := HJ52.out; have := HJ58.out; first | omega | exact Nat.le_refl _⟩, ⟨by (with_reducible repeat (first | refine kD ?_ _ | refine kE ?_ | refine kA ?_ _)); exact BK132.out⟩, ⟨by (with_reducible repeat (first | refine kD ?_ _ | refine kE ?_ | refine kA ?_ _)); exact BK143.out⟩, ⟨by repeat (first | (with_reducible first | exact HB.out | apply bA | apply bD | apply bE | refine bS ?_ GE132.out | refine bS ?_ GE143.out) | exact HB.out)⟩⟩
                   case rest =>
                    clear HC85
                    try clear c8
                    try clear c9
                    try clear c9b0
                    try clear c45
                    try clear c45b0
                    try clear c51
                    try clear c51b0
                    try clear c52
                    try clear c52b0
                    try clear c84
                    try clear hcz44_0
                    try clear hcz44_1
                    try clear hcz4_0
                    try clear hcz4_1
                    try clear hcz54_0
                    try clear hcz54_1
                    try clear hcz57_0
                    try clear hcz57_1
                    try clear hcz57_2
                    try clear hcz87_0
                    try clear hcz87_1
                    try clear hcz87_2
                    try clear hfz44_0
                    try clear hfz44_1
                    try clear hfz4_0
                    try clear hfz4_1
                    try clear hfz54_0
                    try clear hfz54_1
                    try clear hfz57_0
                    try clear hfz57_1
                    try clear hfz57_2
                    try clear hfz87_0
                    try clear hfz87_1
                    try clear hfz87_2
                    try clear hx142_0
                    try clear hx142_1
                    try clear hx142_2
                    try clear p142
                    try clear q142
                    obtain ⟨kq, x129_84, rfl, HA, HJ84, BK132, BK143, HB⟩ := hcut
                    cases kq with
                    | zero => exact absurd HA.out (by simp [F1.j8])
                    | succ kj84 =>
                     have H := HA.out
                     clear HA
                     simp only [F1.j8] at H
                     by_cases c89 : x129_84 = true
                     ·subst c89
                      have H1 : ((F15.f ((rd_T80 l0_0 x9_3).f1) (wrap64 (x9_3 + 1)) x8_45).bind fun t145 => (if t145 = true then (F1.l2 kj84 (l0_0.length : Int) x7_45 x8_45 (wrap64 (x9_3 + 1)) l0_0 l0_1) else (some false))) = some r := by rw [if_pos rfl] at H; exact H
                      clear H
                      have H := H1
                      clear H1
                      replace H := Option.bind_eq_some_iff.mp H
                      obtain ⟨t145, A900, H⟩ := H
                      replace H : (if t145 = true then (F1.l2 kj84 (l0_0.length : Int) x7_45 x8_45 (wrap64 (x9_3 + 1)) l0_0 l0_1) else (some false)) = some r := H
                      have A90 := As.mk A900
                      clear A900
                      by_cases c91 : t145 = true
                      ·subst c91
                       have H1 : (F1.l2 kj84 (l0_0.length : Int) x7_45 x8_45 (wrap64 (x9_3 + 1)) l0_0 l0_1) = some r := by rw [if_pos rfl] at H; exact H
                       clear H
                       have H := H1
                       clear H1
                       have H' := As.mk H
                       clear H
                       have hnb92 := NB143_132.out
                       have hnc92 := NB132_143.out
                       have hcz93_0 : wc.cell? ⟨gb143, 0, none⟩ = some (.int .i64 ((rd_T80 l0_0 x9_3).f0)) := (kC BK143.out 0).trans rfl
                       have hcz93_1 : wc.cell? ⟨gb143, 1, none⟩ = some (.int .i64 ((rd_T80 l0_0 x9_3).f1)) := (kC BK143.out 1).trans rfl
                       have hcz93_2 : wc.cell? ⟨gb143, 2, none⟩ = some (.string ((rd_T80 l0_0 x9_3).f2)) := (kC BK143.out 2).trans rfl
                       have hfz93_0 := kF BK143.out 0
                       have hfz93_1 := kF BK143.out 1
                       have hfz93_2 := kF BK143.out 2
                       go_wp2_with (first | (go_at_call 46; (with_reducible refine (F15.calls ((rd_T80 l0_0 x9_3).f1) (wrap64 (x9_3 + 1)) x8_45 true _ A90.out).mono ?_); rintro e w' ⟨rfl, ⟨nd, rfl⟩⟩; (try first | exact ⟨rfl, _, World.drewN_drewN _ _ _⟩ | exact ⟨rfl, _, Eq.trans (World.drewN_drewN _ _ _) (congrArg (World.drewN _) (Nat.add_assoc _ _ _))⟩)))
                       repeat (go_quiet (first | (go_at_call 46; (with_reducible refine (F15.calls ((rd_T80 l0_0 x9_3).f1) (wrap64 (x9_3 + 1)) x8_45 true _ A90.out).mono ?_); rintro e w' ⟨rfl, ⟨nd, rfl⟩⟩; (try first | exact ⟨rfl, _, World.drewN_drewN _ _ _⟩ | exact ⟨rfl, _, Eq.trans (World.drewN_drewN _ _ _) (congrArg (World.drewN _) (Nat.add_assoc _ _ _))⟩))); try go_wp2_with (first | (go_at_call 46; (with_reducible refine (F15.calls ((rd_T80 l0_0 x9_3).f1) (wrap64 (x9_3 + 1)) x8_45 true _ A90.out).mono ?_); rintro e w' ⟨rfl, ⟨nd, rfl⟩⟩; (try first | exact ⟨rfl, _, World.drewN_drewN _ _ _⟩ | exact ⟨rfl, _, Eq.trans (World.drewN_drewN _ _ _) (congrArg (World.drewN _) (Nat.add_assoc _ _ _))⟩))))
                       go_roundg kj84
                       case measure => have := HJ1.out; have := HK2.out; have := HK3.out; have := HJ45.out; have := HJ52.out; have := HJ58.out; have := HJ84.out; omega
                       case rel => exact ⟨(x7_45), (x8_45), (wrap64 (x9_3 + 1)), (by first | rfl | (simp; done) | (simp [*]; done)), (by first | rfl | (simp; done) | (simp [*]; done)), (by first | rfl | (simp; done) | (simp [*]; done)), H', ⟨by have := HJ1.out; have := HK2.out; have := HK3.out; have := HJ45.out; have := HJ52.out; have := HJ58.out; have := HJ84.out; omega⟩, ⟨by (with_reducible repeat (first | refine kD ?_ _ | refine kE ?_ | refine kA ?_ _)); exact BK132.out⟩, ⟨by repeat (first | (with_reducible first | exact HB.out | apply bA | apply bD | apply bE | refine bS ?_ GE132.out | refine bS ?_ GE143.out) | exact HB.out)⟩⟩
                      ·replace c91 := Bool.eq_false_iff.mpr c91
                       subst c91
                       have H1 : (some false) = some r := by rw [if_neg (show ¬ (false = true) by decide)] at H; exact H
                       clear H
                       have H := H1
                       clear H1
                       obtain rfl := Option.some.inj H
                       have hnb94 := NB143_132.out
                       have hnc94 := NB132_143.out
                       have hcz95_0 : wc.cell? ⟨gb143, 0, none⟩ = some (.int .i64 ((rd_T80 l0_0 x9_3).f0)) := (kC BK143.out 0).trans rfl
                       have hcz95_1 : wc.cell? ⟨gb143, 1, none⟩ = some (.int .i64 ((rd_T80 l0_0 x9_3).f1)) := (kC BK143.out 1).trans rfl
                       have hcz95_2 : wc.cell? ⟨gb143, 2, none⟩ = some (.string ((rd_T80 l0_0 x9_3).f2)) := (kC BK143.out 2).trans rfl
                       have hfz95_0 := kF BK143.out 0
                       have hfz95_1 := kF BK143.out 1
                       have hfz95_2 := kF BK143.out 2
                       go_wp2_with (first | (go_at_call 46; (with_reducible refine (F15.calls ((rd_T80 l0_0 x9_3).f1) (wrap64 (x9_3 + 1)) x8_45 false _ A90.out).mono ?_); rintro e w' ⟨rfl, ⟨nd, rfl⟩⟩; (try first | exact ⟨rfl, _, World.drewN_drewN _ _ _⟩ | exact ⟨rfl, _, Eq.trans (World.drewN_drewN _ _ _) (congrArg (World.drewN _) (Nat.add_assoc _ _ _))⟩)))
                       repeat (go_quiet (first | (go_at_call 46; (with_reducible refine (F15.calls ((rd_T80 l0_0 x9_3).f1) (wrap64 (x9_3 + 1)) x8_45 false _ A90.out).mono ?_); rintro e w' ⟨rfl, ⟨nd, rfl⟩⟩; (try first | exact ⟨rfl, _, World.drewN_drewN _ _ _⟩ | exact ⟨rfl, _, Eq.trans (World.drewN_drewN _ _ _) (congrArg (World.drewN _) (Nat.add_assoc _ _ _))⟩))); try go_wp2_with (first | (go_at_call 46; (with_reducible refine (F15.calls ((rd_T80 l0_0 x9_3).f1) (wrap64 (x9_3 + 1)) x8_45 false _ A90.out).mono ?_); rintro e w' ⟨rfl, ⟨nd, rfl⟩⟩; (try first | exact ⟨rfl, _, World.drewN_drewN _ _ _⟩ | exact ⟨rfl, _, Eq.trans (World.drewN_drewN _ _ _) (congrArg (World.drewN _) (Nat.add_assoc _ _ _))⟩))))
                       go_ret
                       exact ⟨by first | rfl | (simp [eN, eS] <;> rfl) | (simp [*, eN, eS] <;> rfl), by repeat (first | (with_reducible first | exact HB.out | apply bA | apply bD | apply bE | refine bS ?_ GE132.out | refine bS ?_ GE143.out) | exact HB.out)⟩
                     ·replace c89 := Bool.eq_false_iff.mpr c89
                      subst c89
                      have H1 : (if ((rd_T80 l0_0 x9_3).f0) = 37 then ((F15.f ((rd_T80 l0_0 x9_3).f1) x7_45 (wrap64 (x9_3 - 1))).bind fun t146 => (if t146 = true then (if 0 ≤ ((rd_T80 l0_0 x9_3).f1) then (if ((rd_T80 l0_0 x9_3).f1) < (l0_0.length : Int) then (if ((rd_T80 l0_0 ((rd_T80 l0_0 x9_3).f1)).f0) = 31 then (F1.l2 kj84 (l0_0.length : Int) x7_45 x8_45 (wrap64 (x9_3 + 1)) l0_0 l0_1) else (some false)) else (none)) else (none)) else (some false))) else (F1.l2 kj84 (l0_0.length : Int) x7_45 x8_45 (wrap64 (x9_3 + 1)) l0_0 l0_1)) = some r := by rw [if_neg (show ¬ (false = true) by decide)] at H; exact H
                      clear H
                      have H := H1
                      clear H1
                      by_cases c96 : ((rd_T80 l0_0 x9_3).f0) = 37
                      ·rw [if_pos c96] at H
                       have c96b0 : (((rd_T80 l0_0 x9_3).f0) == 37) = true := beq_iff_eq.mpr c96
                       have c96b1 : (((rd_T80 l0_0 x9_3).f0) != 37) = false := bne_eq_false_iff_eq.mpr c96
                       clear c96
                       replace H := Option.bind_eq_some_iff.mp H
                       obtain ⟨t146, A970, H⟩ := H
                       replace H : (if t146 = true then (if 0 ≤ ((rd_T80 l0_0 x9_3).f1) then (if ((rd_T80 l0_0 x9_3).f1) < (l0_0.length : Int) then (if ((rd_T80 l0_0 ((rd_T80 l0_0 x9_3).f1)).f0) = 31 then (F1.l2 kj84 (l0_0.length : Int) x7_45 x8_45 (wrap64 (x9_3 + 1)) l0_0 l0_1) else (some false)) else (none)) else (none)) else (some false)) = some r := H
                       have A97 := As.mk A970
                       clear A970
                       by_cases c98 : t146 = true
                       ·subst c98
                        have H1 : (if 0 ≤ ((rd_T80 l0_0 x9_3).f1) then (if ((rd_T80 l0_0 x9_3).f1) < (l0_0.length : Int) then (if ((rd_T80 l0_0 ((rd_T80 l0_0 x9_3).f1)).f0) = 31 then (F1.l2 kj84 (l0_0.length : Int) x7_45 x8_45 (wrap64 (x9_3 + 1)) l0_0 l0_1) else (some false)) else (none)) else (none)) = some r := by rw [if_pos rfl] at H; exact H
                        clear H
                        have H := H1
                        clear H1
                        by_cases c99 : 0 ≤ ((rd_T80 l0_0 x9_3).f1)
                        ·rw [if_pos c99] at H
                         have c99b0 : decide (0 ≤ ((rd_T80 l0_0 x9_3).f1)) = true := decide_eq_true c99
                         clear c99
                         by_cases c100 : ((rd_T80 l0_0 x9_3).f1) < (l0_0.length : Int)
                         ·rw [if_pos c100] at H
                          have c100b0 : decide (((rd_T80 l0_0 x9_3).f1) < (l0_0.length : Int)) = true := decide_eq_true c100
                          clear c100
                          by_cases c101 : ((rd_T80 l0_0 ((rd_T80 l0_0 x9_3).f1)).f0) = 31
                          ·rw [if_pos c101] at H
                           have c101b0 : (((rd_T80 l0_0 ((rd_T80 l0_0 x9_3).f1)).f0) == 31) = true := beq_iff_eq.mpr c101
                           have c101b1 : (((rd_T80 l0_0 ((rd_T80 l0_0 x9_3).f1)).f0) != 31) = false := bne_eq_false_iff_eq.mpr c101
                           clear c101
                           have H' := As.mk H
                           clear H
                           have hnb102 := NB143_132.out
                           have hnc102 := NB132_143.out
                           have hcz103_0 : wc.cell? ⟨gb143, 0, none⟩ = some (.int .i64 ((rd_T80 l0_0 x9_3).f0)) := (kC BK143.out 0).trans rfl
                           have hcz103_1 : wc.cell? ⟨gb143, 1, none⟩ = some (.int .i64 ((rd_T80 l0_0 x9_3).f1)) := (kC BK143.out 1).trans rfl
                           have hcz103_2 : wc.cell? ⟨gb143, 2, none⟩ = some (.string ((rd_T80 l0_0 x9_3).f2)) := (kC BK143.out 2).trans rfl
                           have hfz103_0 := kF BK143.out 0
                           have hfz103_1 := kF BK143.out 1
                           have hfz103_2 := kF BK143.out 2
                           go_wp2_with (first | (go_at_call 46; (with_reducible refine (F15.calls ((rd_T80 l0_0 x9_3).f1) x7_45 (wrap64 (x9_3 - 1)) true _ A97.out).mono ?_); rintro e w' ⟨rfl, ⟨nd, rfl⟩⟩; (try first | exact ⟨rfl, _, World.drewN_drewN _ _ _⟩ | exact ⟨rfl, _, Eq.trans (World.drewN_drewN _ _ _) (congrArg (World.drewN _) (Nat.add_assoc _ _ _))⟩); have hcz104_0 : wc.cell? ⟨gb132, 0, none⟩ = some (.slice (some ad142) l0_0.length c0_0) := (kC BK132.out 0).trans rfl; have hcz104_1 : wc.cell? ⟨gb132, 1, none⟩ = some (.slice A0_1 l0_1.length c0_1) := (kC BK132.out 1).trans rfl; have hfz104_0 := kF BK132.out 0; have hfz104_1 := kF BK132.out 1; have p147 : 0 ≤ (((rd_T80 l0_0 x9_3).f1) : Int) := of_decide_eq_true (by first | (with_reducible assumption) | assumption); have q147 : ((rd_T80 l0_0 x9_3).f1) < (l0_0.length : Int) := of_decide_eq_true (by first | (with_reducible assumption) | assumption); obtain ⟨ad147, e147, hx147_0, hx147_1, hx147_2⟩ := at_T80 HR0_0.out ((rd_T80 l0_0 x9_3).f1) p147 q147; obtain rfl : ad142 = ad147 := (by injection e147); replace hx147_0 := (HB.out.cell (World.block_lt_of_cell? w _ hx147_0)).trans hx147_0; replace hx147_1 := (HB.out.cell (World.block_lt_of_cell? w _ hx147_1)).trans hx147_1; replace hx147_2 := (HB.out.cell (World.block_lt_of_cell? w _ hx147_2)).trans hx147_2; replace p147 := eq_true p147; replace q147 := eq_true q147))
                           repeat (go_quiet (first | (go_at_call 46; (with_reducible refine (F15.calls ((rd_T80 l0_0 x9_3).f1) x7_45 (wrap64 (x9_3 - 1)) true _ A97.out).mono ?_); rintro e w' ⟨rfl, ⟨nd, rfl⟩⟩; (try first | exact ⟨rfl, _, World.drewN_drewN _ _ _⟩ | exact ⟨rfl, _, Eq.trans (World.drewN_drewN _ _ _) (congrArg (World.drewN _) (Nat.add_assoc _ _ _))⟩); have hcz104_0 : wc.cell? ⟨gb132, 0, none⟩ = some (.slice (some ad142) l0_0.length c0_0) := (kC BK132.out 0).trans rfl; have hcz104_1 : wc.cell? ⟨gb132, 1, none⟩ = some (.slice A0_1 l0_1.length c0_1) := (kC BK132.out 1).trans rfl; have hfz104_0 := kF BK132.out 0; have hfz104_1 := kF BK132.out 1; have p147 : 0 ≤ (((rd_T80 l0_0 x9_3).f1) : Int) := of_decide_eq_true (by first | (with_reducible assumption) | assumption); have q147 : ((rd_T80 l0_0 x9_3).f1) < (l0_0.length : Int) := of_decide_eq_true (by first | (with_reducible assumption) | assumption); obtain ⟨ad147, e147, hx147_0, hx147_1, hx147_2⟩ := at_T80 HR0_0.out ((rd_T80 l0_0 x9_3).f1) p147 q147; obtain rfl : ad142 = ad147 := (by injection e147); replace hx147_0 := (HB.out.cell (World.block_lt_of_cell? w _ hx147_0)).trans hx147_0; replace hx147_1 := (HB.out.cell (World.block_lt_of_cell? w _ hx147_1)).trans hx147_1; replace hx147_2 := (HB.out.cell (World.block_lt_of_cell? w _ hx147_2)).trans hx147_2; replace p147 := eq_true p147; replace q147 := eq_true q147)); try go_wp2_with (first | (go_at_call 46; (with_reducible refine (F15.calls ((rd_T80 l0_0 x9_3).f1) x7_45 (wrap64 (x9_3 - 1)) true _ A97.out).mono ?_); rintro e w' ⟨rfl, ⟨nd, rfl⟩⟩; (try first | exact ⟨rfl, _, World.drewN_drewN _ _ _⟩ | exact ⟨rfl, _, Eq.trans (World.drewN_drewN _ _ _) (congrArg (World.drewN _) (Nat.add_assoc _ _ _))⟩); have hcz104_0 : wc.cell? ⟨gb132, 0, none⟩ = some (.slice (some ad142) l0_0.length c0_0) := (kC BK132.out 0).trans rfl; have hcz104_1 : wc.cell? ⟨gb132, 1, none⟩ = some (.slice A0_1 l0_1.length c0_1) := (kC BK132.out 1).trans rfl; have hfz104_0 := kF BK132.out 0; have hfz104_1 := kF BK132.out 1; have p147 : 0 ≤ (((rd_T80 l0_0 x9_3).f1) : Int) := of_decide_eq_true (by first | (with_reducible assumption) | assumption); have q147 : ((rd_T80 l0_0 x9_3).f1) < (l0_0.length : Int) := of_decide_eq_true (by first | (with_reducible assumption) | assumption); obtain ⟨ad147, e147, hx147_0, hx147_1, hx147_2⟩ := at_T80 HR0_0.out ((rd_T80 l0_0 x9_3).f1) p147 q147; obtain rfl : ad142 = ad147 := (by injection e147); replace hx147_0 := (HB.out.cell (World.block_lt_of_cell? w _ hx147_0)).trans hx147_0; replace hx147_1 := (HB.out.cell (World.block_lt_of_cell? w _ hx147_1)).trans hx147_1; replace hx147_2 := (HB.out.cell (World.block_lt_of_cell? w _ hx147_2)).trans hx147_2; replace p147 := eq_true p147; replace q147 := eq_true q147)))
                           go_roundg kj84
                           case measure => have := HJ1.out; have := HK2.out; have := HK3.out; have := HJ45.out; have := HJ52.out; have := HJ58.out; have := HJ84.out; omega
                           case rel => exact ⟨(x7_45), (x8_45), (wrap64 (x9_3 + 1)), (by first | rfl | (simp; done) | (simp [*]; done)), (by first | rfl | (simp; done) | (simp [*]; done)), (by first | rfl | (simp; done) | (simp [*]; done)), H', ⟨by have := HJ1.out; have := HK2.out; have := HK3.out; have := HJ45.out; have := HJ52.out; have := HJ58.out; have := HJ84.out; omega⟩, ⟨by (with_reducible repeat (first | refine kD ?_ _ | refine kE ?_ | refine kA ?_ _)); exact BK132.out⟩, ⟨by repeat (first | (with_reducible first | exact HB.out | apply bA | apply bD | apply bE | refine bS ?_ GE132.out | refine bS ?_ GE143.out) | exact HB.out)⟩⟩
                          ·rw [if_neg c101] at H
                           have c101b0 : (((rd_T80 l0_0 ((rd_T80 l0_0 x9_3).f1)).f0) == 31) = false := beq_eq_false_iff_ne.mpr c101
                           have c101b1 : (((rd_T80 l0_0 ((rd_T80 l0_0 x9_3).f1)).f0) != 31) = true := bne_iff_ne.mpr c101
                           obtain rfl := Option.some.inj H
                           have hnb105 := NB143_132.out
                           have hnc105 := NB132_143.out
                           have hcz106_0 : wc.cell? ⟨gb143, 0, none⟩ = some (.int .i64 ((rd_T80 l0_0 x9_3).f0)) := (kC BK143.out 0).trans rfl
                           have hcz106_1 : wc.cell? ⟨gb143, 1, none⟩ = some (.int .i64 ((rd_T80 l0_0 x9_3).f1)) := (kC BK143.out 1).trans rfl
                           have hcz106_2 : wc.cell? ⟨gb143, 2, none⟩ = some (.string ((rd_T80 l0_0 x9_3).f2)) := (kC BK143.out 2).trans rfl
                           have hfz106_0 := kF BK143.out 0
                           have hfz106_1 := kF BK143.out 1
                           have hfz106_2 := kF BK143.out 2
                           go_wp2_with (first | (go_at_call 46; (with_reducible refine (F15.calls ((rd_T80 l0_0 x9_3).f1) x7_45 (wrap64 (x9_3 - 1)) true _ A97.out).mono ?_); rintro e w' ⟨rfl, ⟨nd, rfl⟩⟩; (try first | exact ⟨rfl, _, World.drewN_drewN _ _ _⟩ | exact ⟨rfl, _, Eq.trans (World.drewN_drewN _ _ _) (congrArg (World.drewN _) (Nat.add_assoc _ _ _))⟩); have hcz107_0 : wc.cell? ⟨gb132, 0, none⟩ = some (.slice (some ad142) l0_0.length c0_0) := (kC BK132.out 0).trans rfl; have hcz107_1 : wc.cell? ⟨gb132, 1, none⟩ = some (.slice A0_1 l0_1.length c0_1) := (kC BK132.out 1).trans rfl; have hfz107_0 := kF BK132.out 0; have hfz107_1 := kF BK132.out 1; have p147 : 0 ≤ (((rd_T80 l0_0 x9_3).f1) : Int) := of_decide_eq_true (by first | (with_reducible assumption) | assumption); have q147 : ((rd_T80 l0_0 x9_3).f1) < (l0_0.length : Int) := of_decide_eq_true (by first | (with_reducible assumption) | assumption); obtain ⟨ad147, e147, hx147_0, hx147_1, hx147_2⟩ := at_T80 HR0_0.out ((rd_T80 l0_0 x9_3).f1) p147 q147; obtain rfl : ad142 = ad147 := (by injection e147); replace hx147_0 := (HB.out.cell (World.block_lt_of_cell? w _ hx147_0)).trans hx147_0; replace hx147_1 := (HB.out.cell (World.block_lt_of_cell? w _ hx147_1)).trans hx147_1; replace hx147_2 := (HB.out.cell (World.block_lt_of_cell? w _ hx147_2)).trans hx147_2; replace p147 := eq_true p147; replace q147 := eq_true q147))
                           repeat (go_quiet (first | (go_at_call 46; (with_reducible refine (F15.calls ((rd_T80 l0_0 x9_3).f1) x7_45 (wrap64 (x9_3 - 1)) true _ A97.out).mono ?_); rintro e w' ⟨rfl, ⟨nd, rfl⟩⟩; (try first | exact ⟨rfl, _, World.drewN_drewN _ _ _⟩ | exact ⟨rfl, _, Eq.trans (World.drewN_drewN _ _ _) (congrArg (World.drewN _) (Nat.add_assoc _ _ _))⟩); have hcz107_0 : wc.cell? ⟨gb132, 0, none⟩ = some (.slice (some ad142) l0_0.length c0_0) := (kC BK132.out 0).trans rfl; have hcz107_1 : wc.cell? ⟨gb132, 1, none⟩ = some (.slice A0_1 l0_1.length c0_1) := (kC BK132.out 1).trans rfl; have hfz107_0 := kF BK132.out 0; have hfz107_1 := kF BK132.out 1; have p147 : 0 ≤ (((rd_T80 l0_0 x9_3).f1) : Int) := of_decide_eq_true (by first | (with_reducible assumption) | assumption); have q147 : ((rd_T80 l0_0 x9_3).f1) < (l0_0.length : Int) := of_decide_eq_true (by first | (with_reducible assumption) | assumption); obtain ⟨ad147, e147, hx147_0, hx147_1, hx147_2⟩ := at_T80 HR0_0.out ((rd_T80 l0_0 x9_3).f1) p147 q147; obtain rfl : ad142 = ad147 := (by injection e147); replace hx147_0 := (HB.out.cell (World.block_lt_of_cell? w _ hx147_0)).trans hx147_0; replace hx147_1 := (HB.out.cell (World.block_lt_of_cell? w _ hx147_1)).trans hx147_1; replace hx147_2 := (HB.out.cell (World.block_lt_of_cell? w _ hx147_2)).trans hx147_2; replace p147 := eq_true p147; replace q147 := eq_true q147)); try go_wp2_with (first | (go_at_call 46; (with_reducible refine (F15.calls ((rd_T80 l0_0 x9_3).f1) x7_45 (wrap64 (x9_3 - 1)) true _ A97.out).mono ?_); rintro e w' ⟨rfl, ⟨nd, rfl⟩⟩; (try first | exact ⟨rfl, _, World.drewN_drewN _ _ _⟩ | exact ⟨rfl, _, Eq.trans (World.drewN_drewN _ _ _) (congrArg (World.drewN _) (Nat.add_assoc _ _ _))⟩); have hcz107_0 : wc.cell? ⟨gb132, 0, none⟩ = some (.slice (some ad142) l0_0.length c0_0) := (kC BK132.out 0).trans rfl; have hcz107_1 : wc.cell? ⟨gb132, 1, none⟩ = some (.slice A0_1 l0_1.length c0_1) := (kC BK132.out 1).trans rfl; have hfz107_0 := kF BK132.out 0; have hfz107_1 := kF BK132.out 1; have p147 : 0 ≤ (((rd_T80 l0_0 x9_3).f1) : Int) := of_decide_eq_true (by first | (with_reducible assumption) | assumption); have q147 : ((rd_T80 l0_0 x9_3).f1) < (l0_0.length : Int) := of_decide_eq_true (by first | (with_reducible assumption) | assumption); obtain ⟨ad147, e147, hx147_0, hx147_1, hx147_2⟩ := at_T80 HR0_0.out ((rd_T80 l0_0 x9_3).f1) p147 q147; obtain rfl : ad142 = ad147 := (by injection e147); replace hx147_0 := (HB.out.cell (World.block_lt_of_cell? w _ hx147_0)).trans hx147_0; replace hx147_1 := (HB.out.cell (World.block_lt_of_cell? w _ hx147_1)).trans hx147_1; replace hx147_2 := (HB.out.cell (World.block_lt_of_cell? w _ hx147_2)).trans hx147_2; replace p147 := eq_true p147; replace q147 := eq_true q147)))
                           go_ret
                           exact ⟨by first | rfl | (simp [eN, eS] <;> rfl) | (simp [*, eN, eS] <;> rfl), by repeat (first | (with_reducible first | exact HB.out | apply bA | apply bD | apply bE | refine bS ?_ GE132.out | refine bS ?_ GE143.out) | exact HB.out)⟩
                         ·rw [if_neg c100] at H
                          exact absurd H (by simp)
                        ·rw [if_neg c99] at H
                         exact absurd H (by simp)
                       ·replace c98 := Bool.eq_false_iff.mpr c98
                        subst c98
                        have H1 : (some false) = some r := by rw [if_neg (show ¬ (false = true) by decide)] at H; exact H
                        clear H
                        have H := H1
                        clear H1
                        obtain rfl := Option.some.inj H
                        have hnb108 := NB143_132.out
                        have hnc108 := NB132_143.out
                        have hcz109_0 : wc.cell? ⟨gb143, 0, none⟩ = some (.int .i64 ((rd_T80 l0_0 x9_3).f0)) := (kC BK143.out 0).trans rfl
                        have hcz109_1 : wc.cell? ⟨gb143, 1, none⟩ = some (.int .i64 ((rd_T80 l0_0 x9_3).f1)) := (kC BK143.out 1).trans rfl
                        have hcz109_2 : wc.cell? ⟨gb143, 2, none⟩ = some (.string ((rd_T80 l0_0 x9_3).f2)) := (kC BK143.out 2).trans rfl
                        have hfz109_0 := kF BK143.out 0
                        have hfz109_1 := kF BK143.out 1
                        have hfz109_2 := kF BK143.out 2
                        go_wp2_with (first | (go_at_call 46; (with_reducible refine (F15.calls ((rd_T80 l0_0 x9_3).f1) x7_45 (wrap64 (x9_3 - 1)) false _ A97.out).mono ?_); rintro e w' ⟨rfl, ⟨nd, rfl⟩⟩; (try first | exact ⟨rfl, _, World.drewN_drewN _ _ _⟩ | exact ⟨rfl, _, Eq.trans (World.drewN_drewN _ _ _) (congrArg (World.drewN _) (Nat.add_assoc _ _ _))⟩)))
                        repeat (go_quiet (first | (go_at_call 46; (with_reducible refine (F15.calls ((rd_T80 l0_0 x9_3).f1) x7_45 (wrap64 (x9_3 - 1)) false _ A97.out).mono ?_); rintro e w' ⟨rfl, ⟨nd, rfl⟩⟩; (try first | exact ⟨rfl, _, World.drewN_drewN _ _ _⟩ | exact ⟨rfl, _, Eq.trans (World.drewN_drewN _ _ _) (congrArg (World.drewN _) (Nat.add_assoc _ _ _))⟩))); try go_wp2_with (first | (go_at_call 46; (with_reducible refine (F15.calls ((rd_T80 l0_0 x9_3).f1) x7_45 (wrap64 (x9_3 - 1)) false _ A97.out).mono ?_); rintro e w' ⟨rfl, ⟨nd, rfl⟩⟩; (try first | exact ⟨rfl, _, World.drewN_drewN _ _ _⟩ | exact ⟨rfl, _, Eq.trans (World.drewN_drewN _ _ _) (congrArg (World.drewN _) (Nat.add_assoc _ _ _))⟩))))
                        go_ret
                        exact ⟨by first | rfl | (simp [eN, eS] <;> rfl) | (simp [*, eN, eS] <;> rfl), by repeat (first | (with_reducible first | exact HB.out | apply bA | apply bD | apply bE | refine bS ?_ GE132.out | refine bS ?_ GE143.out) | exact HB.out)⟩
                      ·rw [if_neg c96] at H
                       have c96b0 : (((rd_T80 l0_0 x9_3).f0) == 37) = false := beq_eq_false_iff_ne.mpr c96
                       have c96b1 : (((rd_T80 l0_0 x9_3).f0) != 37) = true := bne_iff_ne.mpr c96
                       have H' := As.mk H
                       clear H
                       go_wp2
                       repeat (go_quiet (fail); try go_wp2)
                       go_roundg kj84
                       case measure => have := HJ1.out; have := HK2.out; have := HK3.out; have := HJ45.out; have := HJ52.out; have := HJ58.out; have := HJ84.out; omega
                       case rel => exact ⟨(x7_45), (x8_45), (wrap64 (x9_3 + 1)), (by first | rfl | (simp; done) | (simp [*]; done)), (by first | rfl | (simp; done) | (simp [*]; done)), (by first | rfl | (simp; done) | (simp [*]; done)), H', ⟨by have := HJ1.out; have := HK2.out; have := HK3.out; have := HJ45.out; have := HJ52.out; have := HJ58.out; have := HJ84.out; omega⟩, ⟨by (with_reducible repeat (first | refine kD ?_ _ | refine kE ?_ | refine kA ?_ _)); exact BK132.out⟩, ⟨by repeat (first | (with_reducible first | exact HB.out | apply bA | apply bD | apply bE | refine bS ?_ GE132.out | refine bS ?_ GE143.out) | exact HB.out)⟩⟩
             ·rw [if_neg c52] at H
              exact absurd H (by simp)
            ·rw [if_neg c51] at H
             exact absurd H (by simp)
         ·rw [if_neg c45] at H
          have c45b0 : decide (x9_3 < (l0_0.length : Int)) = false := decide_eq_false c45
          clear c45
          obtain rfl := Option.some.inj H
          go_wp2
          repeat (go_quiet (fail); try go_wp2)
          go_ret
          exact ⟨by first | rfl | (simp [eN, eS] <;> rfl) | (simp [*, eN, eS] <;> rfl), by repeat (first | (with_reducible first | exact HB.out | apply bA | apply bD | apply bE | refine bS ?_ GE132.out) | exact HB.out)⟩
end Go.Proofs.Ytbamjjaamjfnaaa.PFnExactValidPatternCode
