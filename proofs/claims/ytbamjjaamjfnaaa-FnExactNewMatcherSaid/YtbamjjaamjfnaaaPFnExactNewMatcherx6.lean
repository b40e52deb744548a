/- Walks of printed functions. Conditions: none beyond each statement. -/
import Derived.Test.YtbamjjaamjfnaaaPFnExactNewMatcherx0
import Derived.Test.YtbamjjaamjfnaaaPFnExactNewMatcherx3
import Derived.Test.YtbamjjaamjfnaaaPFnExactNewMatcherx4
import Derived.Test.YtbamjjaamjfnaaaPFnExactNewMatcherx5
namespace Go.Proofs.Ytbamjjaamjfnaaa.PFnExactNewMatcher
open Go.RowKit Go.Proofs.YtbamjjaamjfnaaaW.PrintWords Go.Proofs.YtbamjjaamjfnaaaW.PrintLast Go.Proofs.YtbamjjaamjfnaaaW.PrintMore
set_option maxHeartbeats 8000000
set_option maxRecDepth 100000
attribute [local go_sem] max2_int min2_int max_two min_two max_three min_three max_four min_four   -- for this text's walks alone
set_option linter.unusedVariables false
set_option linter.unusedSimpArgs false
mutual
def F1.j0 : Nat → Int → Bool → List (S80) → List (S77) → Option (Bool)
 | 0, _, _, _, _ => none
 | k + 1, x3, x23, x192000, x192001 => if x23 = true then (some false) else (F1.l0 k x3 0 x192000 x192001)
def F1.l0 : Nat → Int → Int → List (S80) → List (S77) → Option (Bool)
 | 0, _, _, _, _ => none
 | k + 1, x3, x4, x192000, x192001 => if x4 < (x192001.length : Int) then (if 0 ≤ x4 then ((F21.f k ((rd_T77 x192001 x4).f0)).bind fun t195 => (if t195 = true then ((F24.f ((rd_T77 x192001 x4).f1) 1 (wrap64 (x3 - 1))).bind fun t196 => (if t196 = true then (if x4 > 0 then (if 0 ≤ (wrap64 (x4 - 1)) then (if (wrap64 (x4 - 1)) < (x192001.length : Int) then (F1.j2 k x3 x4 (decide (((rd_T77 x192001 (wrap64 (x4 - 1))).f1) ≥ ((rd_T77 x192001 x4).f1))) x192000 x192001 ((rd_T77 x192001 x4).f0) ((rd_T77 x192001 x4).f1)) else (none)) else (none)) else (F1.j2 k x3 x4 false x192000 x192001 ((rd_T77 x192001 x4).f0) ((rd_T77 x192001 x4).f1))) else (F1.j2 k x3 x4 true x192000 x192001 ((rd_T77 x192001 x4).f0) ((rd_T77 x192001 x4).f1)))) else (F1.j2 k x3 x4 true x192000 x192001 ((rd_T77 x192001 x4).f0) ((rd_T77 x192001 x4).f1)))) else (none)) else (F1.l2 k x3 0 (-1) 0 x192000 x192001)
def F1.j2 : Nat → Int → Int → Bool → List (S80) → List (S77) → ByteArray → Int → Option (Bool)
 | 0, _, _, _, _, _, _, _ => none
 | k + 1, x3, x4, x63, x192000, x192001, x195000, x195001 => if x63 = true then (some false) else (F1.l1 k x3 x4 0 x192000 x192001 x195000 x195001)
def F1.l1 : Nat → Int → Int → Int → List (S80) → List (S77) → ByteArray → Int → Option (Bool)
 | 0, _, _, _, _, _, _, _ => none
 | k + 1, x3, x4, x6, x192000, x192001, x195000, x195001 => if x6 < x4 then (if 0 ≤ x6 then (if x6 < (x192001.length : Int) then (if ((rd_T77 x192001 x6).f0).toList = x195000.toList then (some false) else (F1.l1 k x3 x4 (wrap64 (x6 + 1)) x192000 x192001 x195000 x195001)) else (none)) else (none)) else (F1.l0 k x3 (wrap64 (x4 + 1)) x192000 x192001)
def F1.l2 : Nat → Int → Int → Int → Int → List (S80) → List (S77) → Option (Bool)
 | 0, _, _, _, _, _, _ => none
 | k + 1, x3, x7, x8, x9, x192000, x192001 => if x9 < x3 then (if x9 > x8 then ((F17.f k x192000 x192001 x9).bind fun bt199 => (F1.j5 k x3 bt199.1 bt199.2 x9 x192000 x192001)) else (F1.j5 k x3 x7 x8 x9 x192000 x192001)) else (some true)
def F1.j5 : Nat → Int → Int → Int → Int → List (S80) → List (S77) → Option (Bool)
 | 0, _, _, _, _, _, _ => none
 | k + 1, x3, x7, x8, x9, x192000, x192001 => if 0 ≤ x9 then (if x9 < (x192000.length : Int) then (if x7 = 0 then (F1.j6 k x3 x7 x8 x9 39 x192000 x192001 ((rd_T80 x192000 x9).f0) ((rd_T80 x192000 x9).f1) ((rd_T80 x192000 x9).f2)) else (F1.j6 k x3 x7 x8 x9 38 x192000 x192001 ((rd_T80 x192000 x9).f0) ((rd_T80 x192000 x9).f1) ((rd_T80 x192000 x9).f2))) else (none)) else (none)
def F1.j6 : Nat → Int → Int → Int → Int → Int → List (S80) → List (S77) → Int → Int → ByteArray → Option (Bool)
 | 0, _, _, _, _, _, _, _, _, _, _ => none
 | k + 1, x3, x7, x8, x9, x11, x192000, x192001, x203000, x203001, x203002 => (F5.f k x203000 x203001 x203002).bind fun t203 => (if t203 = true then (if ((x203000 == x11) != (x9 == x8)) = true then (F1.j7 k x3 x7 x8 x9 true x192000 x192001 x203000 x203001 x203002) else (if x9 < x8 then (if x203000 = 39 then (F1.j7 k x3 x7 x8 x9 true x192000 x192001 x203000 x203001 x203002) else (F1.j7 k x3 x7 x8 x9 (x203000 == 38) x192000 x192001 x203000 x203001 x203002)) else (F1.j7 k x3 x7 x8 x9 false x192000 x192001 x203000 x203001 x203002))) else (F1.j7 k x3 x7 x8 x9 true x192000 x192001 x203000 x203001 x203002))
def F1.j7 : Nat → Int → Int → Int → Int → Bool → List (S80) → List (S77) → Int → Int → ByteArray → Option (Bool)
 | 0, _, _, _, _, _, _, _, _, _, _ => none
 | k + 1, x3, x7, x8, x9, x126, x192000, x192001, x203000, x203001, x203002 => if x126 = true then (some false) else (if x203000 = 32 then (F1.j8 k x3 x7 x8 x9 x203000 (x203000 == 32) x192000 x192001 x203000 x203001 x203002) else (F1.j8 k x3 x7 x8 x9 x203000 (x203000 == 33) x192000 x192001 x203000 x203001 x203002))
def F1.j8 : Nat → Int → Int → Int → Int → Int → Bool → List (S80) → List (S77) → Int → Int → ByteArray → Option (Bool)
 | 0, _, _, _, _, _, _, _, _, _, _, _ => none
 | k + 1, x3, x7, x8, x9, x128, x129, x192000, x192001, x203000, x203001, x203002 => if x129 = true then ((F24.f x203001 (wrap64 (x9 + 1)) x8).bind fun t204 => (if t204 = true then (F1.l2 k x3 x7 x8 (wrap64 (x9 + 1)) x192000 x192001) else (some false))) else (if x128 = 37 then ((F24.f x203001 x7 (wrap64 (x9 - 1))).bind fun t205 => (if t205 = true then (if 0 ≤ x203001 then (if x203001 < (x192000.length : Int) then (if ((rd_T80 x192000 x203001).f0) = 31 then (F1.l2 k x3 x7 x8 (wrap64 (x9 + 1)) x192000 x192001) else (some false)) else (none)) else (none)) else (some false))) else (F1.l2 k x3 x7 x8 (wrap64 (x9 + 1)) x192000 x192001))
end
def F1.f (k : Nat) (l0_0 : List (S80)) (l0_1 : List (S77)) : Option (Bool) := (F24.f (l0_0.length : Int) 1 13000).bind fun t192 => (if t192 = true then (F1.j0 k (l0_0.length : Int) (decide ((l0_1.length : Int) > 40)) l0_0 l0_1) else (F1.j0 k (l0_0.length : Int) true l0_0 l0_1))
theorem F1.mono_l : ∀ k, (∀ y0 y1 y2 y3, LeO (F1.j0 k y0 y1 y2 y3) (F1.j0 (k + 1) y0 y1 y2 y3)) ∧ (∀ y0 y1 y2 y3, LeO (F1.l0 k y0 y1 y2 y3) (F1.l0 (k + 1) y0 y1 y2 y3)) ∧ (∀ y0 y1 y2 y3 y4 y5 y6, LeO (F1.j2 k y0 y1 y2 y3 y4 y5 y6) (F1.j2 (k + 1) y0 y1 y2 y3 y4 y5 y6)) ∧ (∀ y0 y1 y2 y3 y4 y5 y6, LeO (F1.l1 k y0 y1 y2 y3 y4 y5 y6) (F1.l1 (k + 1) y0 y1 y2 y3 y4 y5 y6)) ∧ (∀ y0 y1 y2 y3 y4 y5, LeO (F1.l2 k y0 y1 y2 y3 y4 y5) (F1.l2 (k + 1) y0 y1 y2 y3 y4 y5)) ∧ (∀ y0 y1 y2 y3 y4 y5, LeO (F1.j5 k y0 y1 y2 y3 y4 y5) (F1.j5 (k + 1) y0 y1 y2 y3 y4 y5)) ∧ (∀ y0 y1 y2 y3 y4 y5 y6 y7 y8 y9, LeO (F1.j6 k y0 y1 y2 y3 y4 y5 y6 y7 y8 y9) (F1.j6 (k + 1) y0 y1 y2 y3 y4 y5 y6 y7 y8 y9)) ∧ (∀ y0 y1 y2 y3 y4 y5 y6 y7 y8 y9, LeO (F1.j7 k y0 y1 y2 y3 y4 y5 y6 y7 y8 y9) (F1.j7 (k + 1) y0 y1 y2 y3 y4 y5 y6 y7 y8 y9)) ∧ (∀ y0 y1 y2 y3 y4 y5 y6 y7 y8 y9 y10, LeO (F1.j8 k y0 y1 y2 y3 y4 y5 y6 y7 y8 y9 y10) (F1.j8 (k + 1) y0 y1 y2 y3 y4 y5 y6 y7 y8 y9 y10))
 | 0 => ⟨fun _ _ _ _ r h => by simp [F1.j0] at h, fun _ _ _ _ r h => by simp [F1.l0] at h, fun _ _ _ _ _ _ _ r h => by simp [F1.j2] at h, fun _ _ _ _ _ _ _ r h => by simp [F1.l1] at h, fun _ _ _ _ _ _ r h => by simp [F1.l2] at h, fun _ _ _ _ _ _ r h => by simp [F1.j5] at h, fun _ _ _ _ _ _ _ _ _ _ r h => by simp [F1.j6] at h, fun _ _ _ _ _ _ _ _ _ _ r h => by simp [F1.j7] at h, fun _ _ _ _ _ _ _ _ _ _ _ r h => by simp [F1.j8] at h⟩
 | k + 1 => by
  obtain ⟨ih0, ih1, ih2, ih3, ih4, ih5, ih6, ih7, ih8⟩ := F1.mono_l k
  refine ⟨?_, ?_, ?_, ?_, ?_, ?_, ?_, ?_, ?_⟩
  ·intro y0 y1 y2 y3
   unfold F1.j0
   repeat' with_reducible first
   | exact ih0 _ _ _ _
   | exact ih1 _ _ _ _
   | exact ih2 _ _ _ _ _ _ _
   | exact ih3 _ _ _ _ _ _ _
   | exact ih4 _ _ _ _ _ _
   | exact ih5 _ _ _ _ _ _
   | exact ih6 _ _ _ _ _ _ _ _ _ _
   | exact ih7 _ _ _ _ _ _ _ _ _ _
   | exact ih8 _ _ _ _ _ _ _ _ _ _ _
   | exact F21.mono _ _
   | exact F5.mono _ _ _ _
   | exact F17.mono _ _ _ _
   | exact LeO.refl _
   | exact LeO.none _
   | refine LeO.ite ?_ ?_
   | refine LeO.bind ?_ (fun _ => ?_)
  ·intro y0 y1 y2 y3
   unfold F1.l0
   repeat' with_reducible first
   | exact ih0 _ _ _ _
   | exact ih1 _ _ _ _
   | exact ih2 _ _ _ _ _ _ _
   | exact ih3 _ _ _ _ _ _ _
   | exact ih4 _ _ _ _ _ _
   | exact ih5 _ _ _ _ _ _
   | exact ih6 _ _ _ _ _ _ _ _ _ _
   | exact ih7 _ _ _ _ _ _ _ _ _ _
   | exact ih8 _ _ _ _ _ _ _ _ _ _ _
   | exact F21.mono _ _
   | exact F5.mono _ _ _ _
   | exact F17.mono _ _ _ _
   | exact LeO.refl _
   | exact LeO.none _
   | refine LeO.ite ?_ ?_
   | refine LeO.bind ?_ (fun _ => ?_)
  ·intro y0 y1 y2 y3 y4 y5 y6
   unfold F1.j2
   repeat' with_reducible first
   | exact ih0 _ _ _ _
   | exact ih1 _ _ _ _
   | exact ih2 _ _ _ _ _ _ _
   | exact ih3 _ _ _ _ _ _ _
   | exact ih4 _ _ _ _ _ _
   | exact ih5 _ _ _ _ _ _
   | exact ih6 _ _ _ _ _ _ _ _ _ _
   | exact ih7 _ _ _ _ _ _ _ _ _ _
   | exact ih8 _ _ _ _ _ _ _ _ _ _ _
   | exact F21.mono _ _
   | exact F5.mono _ _ _ _
   | exact F17.mono _ _ _ _
   | exact LeO.refl _
   | exact LeO.none _
   | refine LeO.ite ?_ ?_
   | refine LeO.bind ?_ (fun _ => ?_)
  ·intro y0 y1 y2 y3 y4 y5 y6
   unfold F1.l1
   repeat' with_reducible first
   | exact ih0 _ _ _ _
   | exact ih1 _ _ _ _
   | exact ih2 _ _ _ _ _ _ _
   | exact ih3 _ _ _ _ _ _ _
   | exact ih4 _ _ _ _ _ _
   | exact ih5 _ _ _ _ _ _
   | exact ih6 _ _ _ _ _ _ _ _ _ _
   | exact ih7 _ _ _ _ _ _ _ _ _ _
   | exact ih8 _ _ _ _ _ _ _ _ _ _ _
   | exact F21.mono _ _
   | exact F5.mono _ _ _ _
   | exact F17.mono _ _ _ _
   | exact LeO.refl _
   | exact LeO.none _
   | refine LeO.ite ?_ ?_
   | refine LeO.bind ?_ (fun _ => ?_)
  ·intro y0 y1 y2 y3 y4 y5
   unfold F1.l2
   repeat' with_reducible first
   | exact ih0 _ _ _ _
   | exact ih1 _ _ _ _
   | exact ih2 _ _ _ _ _ _ _
   | exact ih3 _ _ _ _ _ _ _
   | exact ih4 _ _ _ _ _ _
   | exact ih5 _ _ _ _ _ _
   | exact ih6 _ _ _ _ _ _ _ _ _ _
   | exact ih7 _ _ _ _ _ _ _ _ _ _
   | exact ih8 _ _ _ _ _ _ _ _ _ _ _
   | exact F21.mono _ _
   | exact F5.mono _ _ _ _
   | exact F17.mono _ _ _ _
   | exact LeO.refl _
   | exact LeO.none _
   | refine LeO.ite ?_ ?_
   | refine LeO.bind ?_ (fun _ => ?_)
  ·intro y0 y1 y2 y3 y4 y5
   unfold F1.j5
   repeat' with_reducible first
   | exact ih0 _ _ _ _
   | exact ih1 _ _ _ _
   | exact ih2 _ _ _ _ _ _ _
   | exact ih3 _ _ _ _ _ _ _
   | exact ih4 _ _ _ _ _ _
   | exact ih5 _ _ _ _ _ _
   | exact ih6 _ _ _ _ _ _ _ _ _ _
   | exact ih7 _ _ _ _ _ _ _ _ _ _
   | exact ih8 _ _ _ _ _ _ _ _ _ _ _
   | exact F21.mono _ _
   | exact F5.mono _ _ _ _
   | exact F17.mono _ _ _ _
   | exact LeO.refl _
   | exact LeO.none _
   | refine LeO.ite ?_ ?_
   | refine LeO.bind ?_ (fun _ => ?_)
  ·intro y0 y1 y2 y3 y4 y5 y6 y7 y8 y9
   unfold F1.j6
   repeat' with_reducible first
   | exact ih0 _ _ _ _
   | exact ih1 _ _ _ _
   | exact ih2 _ _ _ _ _ _ _
   | exact ih3 _ _ _ _ _ _ _
   | exact ih4 _ _ _ _ _ _
   | exact ih5 _ _ _ _ _ _
   | exact ih6 _ _ _ _ _ _ _ _ _ _
   | exact ih7 _ _ _ _ _ _ _ _ _ _
   | exact ih8 _ _ _ _ _ _ _ _ _ _ _
   | exact F21.mono _ _
   | exact F5.mono _ _ _ _
   | exact F17.mono _ _ _ _
   | exact LeO.refl _
   | exact LeO.none _
   | refine LeO.ite ?_ ?_
   | refine LeO.bind ?_ (fun _ => ?_)
  ·intro y0 y1 y2 y3 y4 y5 y6 y7 y8 y9
   unfold F1.j7
   repeat' with_reducible first
   | exact ih0 _ _ _ _
   | exact ih1 _ _ _ _
   | exact ih2 _ _ _ _ _ _ _
   | exact ih3 _ _ _ _ _ _ _
   | exact ih4 _ _ _ _ _ _
   | exact ih5 _ _ _ _ _ _
   | exact ih6 _ _ _ _ _ _ _ _ _ _
   | exact ih7 _ _ _ _ _ _ _ _ _ _
   | exact ih8 _ _ _ _ _ _ _ _ _ _ _
   | exact F21.mono _ _
   | exact F5.mono _ _ _ _
   | exact F17.mono _ _ _ _
   | exact LeO.refl _
   | exact LeO.none _
   | refine LeO.ite ?_ ?_
   | refine LeO.bind ?_ (fun _ => ?_)
  ·intro y0 y1 y2 y3 y4 y5 y6 y7 y8 y9 y10
   unfold F1.j8
   repeat' with_reducible first
   | exact ih0 _ _ _ _
   | exact ih1 _ _ _ _
   | exact ih2 _ _ _ _ _ _ _
   | exact ih3 _ _ _ _ _ _ _
   | exact ih4 _ _ _ _ _ _
   | exact ih5 _ _ _ _ _ _
   | exact ih6 _ _ _ _ _ _ _ _ _ _
   | exact ih7 _ _ _ _ _ _ _ _ _ _
   | exact ih8 _ _ _ _ _ _ _ _ _ _ _
   | exact F21.mono _ _
   | exact F5.mono _ _ _ _
   | exact F17.mono _ _ _ _
   | exact LeO.refl _
   | exact LeO.none _
   | refine LeO.ite ?_ ?_
   | refine LeO.bind ?_ (fun _ => ?_)
theorem F1.mono : ∀ a0 a1 k, LeO (F1.f k a0 a1) (F1.f (k + 1) a0 a1) := by
 intro a0 a1 k
 obtain ⟨ih0, ih1, ih2, ih3, ih4, ih5, ih6, ih7, ih8⟩ := F1.mono_l k
 unfold F1.f
 repeat' with_reducible first
   | exact ih0 _ _ _ _
   | exact ih1 _ _ _ _
   | exact ih2 _ _ _ _ _ _ _
   | exact ih3 _ _ _ _ _ _ _
   | exact ih4 _ _ _ _ _ _
   | exact ih5 _ _ _ _ _ _
   | exact ih6 _ _ _ _ _ _ _ _ _ _
   | exact ih7 _ _ _ _ _ _ _ _ _ _
   | exact ih8 _ _ _ _ _ _ _ _ _ _ _
   | exact F21.mono _ _
   | exact F5.mono _ _ _ _
   | exact F17.mono _ _ _ _
   | exact LeO.refl _
   | exact LeO.none _
   | refine LeO.ite ?_ ?_
   | refine LeO.bind ?_ (fun _ => ?_)
theorem F1.calls (k : Nat) (A0_0 : Option Addr) (c0_0 : Nat) (l0_0 : List (S80)) (A0_1 : Option Addr) (c0_1 : Nat) (l0_1 : List (S77)) (r : Bool) (w : World) (hr0_0 : Kd.C k80 w A0_0 l0_0.length l0_0) (hc0_0 : l0_0.length ≤ c0_0) (hr0_1 : Kd.C k77 w A0_1 l0_1.length l0_1) (hc0_1 : l0_1.length ≤ c0_1) (h : F1.f k l0_0 l0_1 = some r) :
  Calls Try.prog 24 #[.agg #[.slice A0_0 l0_0.length c0_0, .slice A0_1 l0_1.length c0_1]] w fun e w' => e = .returned (.bool r) ∧ Below w.heap.size w w' := by
 have hu31 := Try.underlying31
 have hu77 := Try.underlying77
 have hu80 := Try.underlying80
 have HR0_0 := As.mk hr0_0
 have HC0_0 := As.mk hc0_0
 clear hr0_0 hc0_0
 have HR0_1 := As.mk hr0_1
 have HC0_1 := As.mk hc0_1
 clear hr0_1 hc0_1
 have HB := As.mk (Below.refl w.heap.size w)
 have H : ((F24.f (l0_0.length : Int) 1 13000).bind fun t192 => (if t192 = true then (F1.j0 k (l0_0.length : Int) (decide ((l0_1.length : Int) > 40)) l0_0 l0_1) else (F1.j0 k (l0_0.length : Int) true l0_0 l0_1))) = some r := h
 clear h
 have HC2 := As.mk H
 clear H
 go_enter Try.func24, Try.ntmps24
 go_upto_region 2 with (first | ((with_reducible refine gD (N := 1) rfl ?_); (try (refine gG (by rfl) ?_; dsimp only)); refine bX ?hg (N := 1) ?hd (cs := #[.slice A0_0 l0_0.length c0_0, .slice A0_1 l0_1.length c0_1]) (t := 31) ?hr ?_; (case hd => rfl); (case hg => rfl); (case hr => first | (go_simp; done) | (go_simp; rfl)); intro gb191 hg w3 hbox hb; have BK191 := As.mk (hbox); have GW191 := As.mk ((by rw [hg]; exact (bZ (by repeat (first | (with_reducible first | exact HB.out | apply bA | apply bD | apply bE) | exact HB.out))) : w.heap.size ≤ gb191)); have GE191 := GW191; replace HB := As.mk (bT (by repeat (first | (with_reducible first | exact HB.out | apply bA | apply bD | apply bE) | exact HB.out)) hb); clear hb hbox hg; have cz_ := c2_0 (w := w3) (g := gb191) BK191.out; obtain ⟨hcz4_0, hcz4_1⟩ := cz_; have hfz4 := kF BK191.out))
 (try simp only [Act.put, sq1, sq2, sq3])
 go_cut [23] (fun v23 wc => ∃ (kq : Nat) (x23_1 : Bool), v23 = .bool x23_1 ∧ As (F1.j0 kq (l0_0.length : Int) x23_1 l0_0 l0_1 = some r) ∧ As (kq ≤ k) ∧ As (wc.heap[gb191]? = some (.cells #[(.slice A0_0 l0_0.length c0_0), (.slice A0_1 l0_1.length c0_1)] 31 (0, 0))) ∧ As (Below w.heap.size w wc))
 case first =>
  have H := HC2.out
  clear HC2
  replace H := Option.bind_eq_some_iff.mp H
  obtain ⟨t192, A50, H⟩ := H
  replace H : (if t192 = true then (F1.j0 k (l0_0.length : Int) (decide ((l0_1.length : Int) > 40)) l0_0 l0_1) else (F1.j0 k (l0_0.length : Int) true l0_0 l0_1)) = some r := H
  have A5 := As.mk A50
  clear A50
  by_cases c6 : t192 = true
  ·subst c6
   replace H : (F1.j0 k (l0_0.length : Int) (decide ((l0_1.length : Int) > 40)) l0_0 l0_1) = some r := by rw [if_pos rfl] at H; exact H
   have H' := As.mk H
   clear H
   go_wp2_with (first | (go_at_call 46; (with_reducible refine (F24.calls (l0_0.length : Int) 1 13000 true _ A5.out).mono ?_); rintro e w' ⟨rfl, ⟨nd, rfl⟩⟩; (try first | exact ⟨rfl, _, World.drewN_drewN _ _ _⟩ | exact ⟨rfl, _, Eq.trans (World.drewN_drewN _ _ _) (congrArg (World.drewN _) (Nat.add_assoc _ _ _))⟩); have cz_ := c2_0 (w := w3) (g := gb191) BK191.out; obtain ⟨hcz7_0, hcz7_1⟩ := cz_; have hfz7 := kF BK191.out))
   go_meet
   case rel => exact ⟨_, (decide ((l0_1.length : Int) > 40)), (by first | rfl | (simp; done) | (simp [*]; done)), H', ⟨by first | omega | exact Nat.le_refl _⟩, ⟨by (with_reducible repeat (first | refine kD ?_ _ | refine kE ?_ | refine kA ?_ _)); exact BK191.out⟩, ⟨by repeat (first | (with_reducible first | exact HB.out | apply bA | apply bD | apply bE | refine bS ?_ GE191.out) | exact HB.out)⟩⟩
  ·replace c6 := Bool.eq_false_iff.mpr c6
   subst c6
   replace H : (F1.j0 k (l0_0.length : Int) true l0_0 l0_1) = some r := by rw [if_neg (show ¬ (false = true) by decide)] at H; exact H
   have H' := As.mk H
   clear H
   go_wp2_with (first | (go_at_call 46; (with_reducible refine (F24.calls (l0_0.length : Int) 1 13000 false _ A5.out).mono ?_); rintro e w' ⟨rfl, ⟨nd, rfl⟩⟩; (try first | exact ⟨rfl, _, World.drewN_drewN _ _ _⟩ | exact ⟨rfl, _, Eq.trans (World.drewN_drewN _ _ _) (congrArg (World.drewN _) (Nat.add_assoc _ _ _))⟩)))
   go_meet
   case rel => exact ⟨_, (true), (by first | rfl | (simp; done) | (simp [*]; done)), H', ⟨by first | omega | exact Nat.le_refl _⟩, ⟨by (with_reducible repeat (first | refine kD ?_ _ | refine kE ?_ | refine kA ?_ _)); exact BK191.out⟩, ⟨by repeat (first | (with_reducible first | exact HB.out | apply bA | apply bD | apply bE | refine bS ?_ GE191.out) | exact HB.out)⟩⟩
 case rest =>
  clear HC2
  try clear hcz4_0
  try clear hcz4_1
  try clear hfz4
  obtain ⟨kq, x23_1, rfl, HA, HJ1, BK191, HB⟩ := hcut
  cases kq with
  | zero => exact absurd HA.out (by simp [F1.j0])
  | succ kj1 =>
   have H := HA.out
   clear HA
   simp only [F1.j0] at H
   by_cases c8 : x23_1 = true
   ·subst c8
    replace H : (some false) = some r := by rw [if_pos rfl] at H; exact H
    obtain rfl := Option.some.inj H
    go_wp2
    go_ret
    exact ⟨by first | rfl | (simp [eN, eS] <;> rfl) | (simp [*, eN, eS] <;> rfl), by repeat (first | (with_reducible first | exact HB.out | apply bA | apply bD | apply bE | refine bS ?_ GE191.out) | exact HB.out)⟩
   ·replace c8 := Bool.eq_false_iff.mpr c8
    subst c8
    replace H : (F1.l0 kj1 (l0_0.length : Int) 0 l0_0 l0_1) = some r := by rw [if_neg (show ¬ (false = true) by decide)] at H; exact H
    have H' := As.mk H
    clear H
    go_wp2
    go_loopg [4] kj1 (fun kq v4 w' => ∃ (x4_2 : Int), v4 = .int .i64 x4_2 ∧ As (F1.l0 kq (l0_0.length : Int) x4_2 l0_0 l0_1 = some r) ∧ As (kq ≤ kj1) ∧ As (w'.heap[gb191]? = some (.cells #[(.slice A0_0 l0_0.length c0_0), (.slice A0_1 l0_1.length c0_1)] 31 (0, 0))) ∧ As (Below w.heap.size w w'))
    case atStart => exact ⟨(0), (by first | rfl | (simp; done) | (simp [*]; done)), H', ⟨Nat.le_refl _⟩, ⟨by (with_reducible repeat (first | refine kD ?_ _ | refine kE ?_ | refine kA ?_ _)); exact BK191.out⟩, ⟨by repeat (first | (with_reducible first | exact HB.out | apply bA | apply bD | apply bE | refine bS ?_ GE191.out) | exact HB.out)⟩⟩
    case round =>
     clear H'
     try clear c8
     try clear hcz4_0
     try clear hcz4_1
     try clear hfz4
     obtain ⟨x4_2, rfl, HA, HK2, BK191, HB⟩ := hrel
     cases gk with
     | zero => exact absurd HA.out (by simp [F1.l0])
     | succ k2 =>
      have H := HA.out
      clear HA
      simp only [F1.l0] at H
      by_cases c9 : x4_2 < (l0_1.length : Int)
      ·rw [if_pos c9] at H
       have c9b0 : decide (x4_2 < (l0_1.length : Int)) = true := decide_eq_true c9
       clear c9
       by_cases c10 : 0 ≤ x4_2
       ·rw [if_pos c10] at H
        have c10b0 : decide (0 ≤ x4_2) = true := decide_eq_true c10
        clear c10
        have HC11 := As.mk H
        clear H
        have cz_ := c2_0 (w := wr) (g := gb191) BK191.out; obtain ⟨hcz12_0, hcz12_1⟩ := cz_
        have hfz12 := kF BK191.out
        have p193 : 0 ≤ (x4_2 : Int) := of_decide_eq_true (by first | (with_reducible assumption) | assumption)
        have q193 : x4_2 < (l0_1.length : Int) := of_decide_eq_true (by first | (with_reducible assumption) | assumption)
        obtain ⟨ad193, e193, hx193_0, hx193_1⟩ := at_T77 HR0_1.out x4_2 p193 q193
        cases e193
        replace hx193_0 := (HB.out.cell (World.block_lt_of_cell? w _ hx193_0)).trans hx193_0
        replace hx193_1 := (HB.out.cell (World.block_lt_of_cell? w _ hx193_1)).trans hx193_1
        replace p193 := eq_true p193
        replace q193 := eq_true q193
        go_upto_region 8 with (first | ((with_reducible refine gD (N := 5) rfl ?_); (try (refine gG (by rfl) ?_; dsimp only)); refine bX ?hg (N := 5) ?hd (cs := #[.string (⟨#[]⟩ : ByteArray), .int .i64 0]) (t := 77) ?hr ?_; (case hd => rfl); (case hg => rfl); (case hr => first | (go_simp; done) | (go_simp; rfl)); intro gb194 hg w13 hbox hb; have BK194 := As.mk (hbox); have GW194 := As.mk ((by rw [hg]; exact (bZ (by repeat (first | (with_reducible first | exact HB.out | apply bA | apply bD | apply bE | refine bS ?_ GE191.out) | exact HB.out))) : w.heap.size ≤ gb194)); have GE194 := GW194; have NB191_194 := As.mk ((by rw [hg]; exact Nat.ne_of_lt (kL (g := gb191) (o := .cells #[.slice A0_0 l0_0.length c0_0, .slice (some ad193) l0_1.length c0_1] 31 (0, 0)) (by (with_reducible repeat (first | refine kD ?_ _ | refine kE ?_ | refine kA ?_ _)); exact BK191.out)) : gb191 ≠ gb194)); have NB194_191 := As.mk NB191_194.out.symm; replace BK191 := As.mk (kB (g := gb191) (o := .cells #[.slice A0_0 l0_0.length c0_0, .slice (some ad193) l0_1.length c0_1] 31 (0, 0)) (by (with_reducible repeat (first | refine kD ?_ _ | refine kE ?_ | refine kA ?_ _)); exact BK191.out) hb); replace HB := As.mk (bT (by repeat (first | (with_reducible first | exact HB.out | apply bA | apply bD | apply bE | refine bS ?_ GE191.out) | exact HB.out)) hb); clear hb hbox hg; have hnb14 := NB194_191.out; have hnc14 := NB191_194.out; have cz_ := c2_0 (w := w13) (g := gb194) BK194.out; obtain ⟨hcz15_0, hcz15_1⟩ := cz_; have hfz15 := kF BK194.out))
        (try simp only [Act.put, sq1, sq2, sq3])
        go_cut [63] (fun v63 wc => ∃ (kq : Nat) (x63_10 : Bool), v63 = .bool x63_10 ∧ As (F1.j2 kq (l0_0.length : Int) x4_2 x63_10 l0_0 l0_1 ((rd_T77 l0_1 x4_2).f0) ((rd_T77 l0_1 x4_2).f1) = some r) ∧ As (kq ≤ k2) ∧ As (wc.heap[gb191]? = some (.cells #[(.slice A0_0 l0_0.length c0_0), (.slice (some ad193) l0_1.length c0_1)] 31 (0, 0))) ∧ As (wc.heap[gb194]? = some (.cells #[.string ((rd_T77 l0_1 x4_2).f0), .int .i64 ((rd_T77 l0_1 x4_2).f1)] 77 (0, 0))) ∧ As (Below w.heap.size w wc))
        case first =>
         have H := HC11.out
         clear HC11
         replace H := Option.bind_eq_some_iff.mp H
         obtain ⟨t195, A160, H⟩ := H
         replace H : (if t195 = true then ((F24.f ((rd_T77 l0_1 x4_2).f1) 1 (wrap64 ((l0_0.length : Int) - 1))).bind fun t196 => (if t196 = true then (if x4_2 > 0 then (if 0 ≤ (wrap64 (x4_2 - 1)) then (if (wrap64 (x4_2 - 1)) < (l0_1.length : Int) then (F1.j2 k2 (l0_0.length : Int) x4_2 (decide (((rd_T77 l0_1 (wrap64 (x4_2 - 1))).f1) ≥ ((rd_T77 l0_1 x4_2).f1))) l0_0 l0_1 ((rd_T77 l0_1 x4_2).f0) ((rd_T77 l0_1 x4_2).f1)) else (none)) else (none)) else (F1.j2 k2 (l0_0.length : Int) x4_2 false l0_0 l0_1 ((rd_T77 l0_1 x4_2).f0) ((rd_T77 l0_1 x4_2).f1))) else (F1.j2 k2 (l0_0.length : Int) x4_2 true l0_0 l0_1 ((rd_T77 l0_1 x4_2).f0) ((rd_T77 l0_1 x4_2).f1)))) else (F1.j2 k2 (l0_0.length : Int) x4_2 true l0_0 l0_1 ((rd_T77 l0_1 x4_2).f0) ((rd_T77 l0_1 x4_2).f1))) = some r := H
         have A16 := As.mk A160
         clear A160
         by_cases c17 : t195 = true
         ·subst c17
          replace H : ((F24.f ((rd_T77 l0_1 x4_2).f1) 1 (wrap64 ((l0_0.length : Int) - 1))).bind fun t196 => (if t196 = true then (if x4_2 > 0 then (if 0 ≤ (wrap64 (x4_2 - 1)) then (if (wrap64 (x4_2 - 1)) < (l0_1.length : Int) then (F1.j2 k2 (l0_0.length : Int) x4_2 (decide (((rd_T77 l0_1 (wrap64 (x4_2 - 1))).f1) ≥ ((rd_T77 l0_1 x4_2).f1))) l0_0 l0_1 ((rd_T77 l0_1 x4_2).f0) ((rd_T77 l0_1 x4_2).f1)) else (none)) else (none)) else (F1.j2 k2 (l0_0.length : Int) x4_2 false l0_0 l0_1 ((rd_T77 l0_1 x4_2).f0) ((rd_T77 l0_1 x4_2).f1))) else (F1.j2 k2 (l0_0.length : Int) x4_2 true l0_0 l0_1 ((rd_T77 l0_1 x4_2).f0) ((rd_T77 l0_1 x4_2).f1)))) = some r := by rw [if_pos rfl] at H; exact H
          replace H := Option.bind_eq_some_iff.mp H
          obtain ⟨t196, A180, H⟩ := H
          replace H : (if t196 = true then (if x4_2 > 0 then (if 0 ≤ (wrap64 (x4_2 - 1)) then (if (wrap64 (x4_2 - 1)) < (l0_1.length : Int) then (F1.j2 k2 (l0_0.length : Int) x4_2 (decide (((rd_T77 l0_1 (wrap64 (x4_2 - 1))).f1) ≥ ((rd_T77 l0_1 x4_2).f1))) l0_0 l0_1 ((rd_T77 l0_1 x4_2).f0) ((rd_T77 l0_1 x4_2).f1)) else (none)) else (none)) else (F1.j2 k2 (l0_0.length : Int) x4_2 false l0_0 l0_1 ((rd_T77 l0_1 x4_2).f0) ((rd_T77 l0_1 x4_2).f1))) else (F1.j2 k2 (l0_0.length : Int) x4_2 true l0_0 l0_1 ((rd_T77 l0_1 x4_2).f0) ((rd_T77 l0_1 x4_2).f1))) = some r := H
          have A18 := As.mk A180
          clear A180
          by_cases c19 : t196 = true
          ·subst c19
           replace H : (if x4_2 > 0 then (if 0 ≤ (wrap64 (x4_2 - 1)) then (if (wrap64 (x4_2 - 1)) < (l0_1.length : Int) then (F1.j2 k2 (l0_0.length : Int) x4_2 (decide (((rd_T77 l0_1 (wrap64 (x4_2 - 1))).f1) ≥ ((rd_T77 l0_1 x4_2).f1))) l0_0 l0_1 ((rd_T77 l0_1 x4_2).f0) ((rd_T77 l0_1 x4_2).f1)) else (none)) else (none)) else (F1.j2 k2 (l0_0.length : Int) x4_2 false l0_0 l0_1 ((rd_T77 l0_1 x4_2).f0) ((rd_T77 l0_1 x4_2).f1))) = some r := by rw [if_pos rfl] at H; exact H
           by_cases c20 : x4_2 > 0
           ·rw [if_pos c20] at H
            have c20b0 : decide (0 < x4_2) = true := decide_eq_true c20
            clear c20
            (first | rw [c20b0] | (simp only [i64_w, i32_w]; rw [c20b0]) | skip)
            obtain ⟨ji21, hji21⟩ : ∃ j_ : Int, (wrap64 (x4_2 - 1)) = j_ := ⟨_, rfl⟩
            replace H : (if 0 ≤ (ji21) then (if (ji21) < (l0_1.length : Int) then (F1.j2 k2 (l0_0.length : Int) x4_2 (decide (((rd_T77 l0_1 (ji21)).f1) ≥ ((rd_T77 l0_1 x4_2).f1))) l0_0 l0_1 ((rd_T77 l0_1 x4_2).f0) ((rd_T77 l0_1 x4_2).f1)) else (none)) else (none)) = some r := by first | (rw [hji21] at H; exact H) | (simp only [hji21] at H ⊢; exact H)
            (try rw [hji21] at A16)
            (try rw [hji21] at A18)
            have hji21w : (IntKind.i64.wrap (x4_2 - 1)) = ji21 := (i64_w _).trans hji21
            by_cases c22 : 0 ≤ (ji21)
            ·rw [if_pos c22] at H
             have c22b0 : decide (0 ≤ (ji21)) = true := decide_eq_true c22
             clear c22
             by_cases c23 : (ji21) < (l0_1.length : Int)
             ·rw [if_pos c23] at H
              have c23b0 : decide ((ji21) < (l0_1.length : Int)) = true := decide_eq_true c23
              clear c23
              have H' := As.mk H
              clear H
              have hnb24 := NB194_191.out
              have hnc24 := NB191_194.out
              have cz_ := c2_0 (w := w13) (g := gb194) BK194.out; obtain ⟨hcz25_0, hcz25_1⟩ := cz_
              have hfz25 := kF BK194.out
              go_wp2_with (fail)
              repeat (go_quiet (first | (go_at_call 47; (with_reducible refine (F21.calls k2 ((rd_T77 l0_1 x4_2).f0) true _ A16.out).mono ?_); rintro e w' ⟨rfl, ⟨nd, rfl⟩⟩; (try first | exact ⟨rfl, _, World.drewN_drewN _ _ _⟩ | exact ⟨rfl, _, Eq.trans (World.drewN_drewN _ _ _) (congrArg (World.drewN _) (Nat.add_assoc _ _ _))⟩)) | (go_at_call 46; (with_reducible refine (F24.calls ((rd_T77 l0_1 x4_2).f1) 1 (IntKind.i64.wrap ((l0_0.length : Int) - 1)) true _ (by rw [i64_w]; exact A18.out)).mono ?_); rintro e w' ⟨rfl, ⟨nd, rfl⟩⟩; (try first | exact ⟨rfl, _, World.drewN_drewN _ _ _⟩ | exact ⟨rfl, _, Eq.trans (World.drewN_drewN _ _ _) (congrArg (World.drewN _) (Nat.add_assoc _ _ _))⟩); have cz_ := c2_0 (w := w13) (g := gb191) BK191.out; obtain ⟨hcz26_0, hcz26_1⟩ := cz_; have hfz26 := kF BK191.out; have p197 : 0 ≤ ((ji21) : Int) := of_decide_eq_true (by first | (with_reducible assumption) | assumption); have q197 : (ji21) < (l0_1.length : Int) := of_decide_eq_true (by first | (with_reducible assumption) | assumption); obtain ⟨ad197, e197, hx197_0, hx197_1⟩ := at_T77 HR0_1.out (ji21) p197 q197; obtain rfl : ad193 = ad197 := (by injection e197); have hn197_0 : ad193.block ≠ gb194 := Nat.ne_of_lt (Nat.lt_of_lt_of_le (by have := World.block_lt_of_cell? _ _ hx197_0; first | rwa [aB0] at this | exact this) GW194.out); have hn197_1 : ad193.block ≠ gb194 := Nat.ne_of_lt (Nat.lt_of_lt_of_le (by have := World.block_lt_of_cell? _ _ hx197_0; first | rwa [aB0] at this | exact this) GW194.out); replace hx197_0 := (HB.out.cell (World.block_lt_of_cell? w _ hx197_0)).trans hx197_0; replace hx197_1 := (HB.out.cell (World.block_lt_of_cell? w _ hx197_1)).trans hx197_1; replace hx197_0 := (cell_far (p := ⟨gb194, 0, none⟩) (by first | (rw [aB0]; exact hn197_0) | (show (Addr.add _ _).block ≠ _; rw [aB0]; exact hn197_0) | exact hn197_0) (.string ((rd_T77 l0_1 x4_2).f0))).trans hx197_0; replace hx197_1 := (cell_far (p := ⟨gb194, 0, none⟩) (by first | (rw [aB0]; exact hn197_0) | (show (Addr.add _ _).block ≠ _; rw [aB0]; exact hn197_0) | exact hn197_0) (.string ((rd_T77 l0_1 x4_2).f0))).trans hx197_1; replace hx197_0 := (cell_far (p := ⟨gb194, 1, none⟩) (by first | (rw [aB0]; exact hn197_1) | (show (Addr.add _ _).block ≠ _; rw [aB0]; exact hn197_1) | exact hn197_1) (.int .i64 ((rd_T77 l0_1 x4_2).f1))).trans hx197_0; replace hx197_1 := (cell_far (p := ⟨gb194, 1, none⟩) (by first | (rw [aB0]; exact hn197_1) | (show (Addr.add _ _).block ≠ _; rw [aB0]; exact hn197_1) | exact hn197_1) (.int .i64 ((rd_T77 l0_1 x4_2).f1))).trans hx197_1; (try have hy197_0 := fun (n_ : Nat) => (show ((((w13.drewN n_).setCell ⟨gb194, 0, none⟩ (.string ((rd_T77 l0_1 x4_2).f0))).setCell ⟨gb194, 1, none⟩ (.int .i64 ((rd_T77 l0_1 x4_2).f1)))).cell? _ = some _ from hx197_0)); (try have hy197_1 := fun (n_ : Nat) => (show ((((w13.drewN n_).setCell ⟨gb194, 0, none⟩ (.string ((rd_T77 l0_1 x4_2).f0))).setCell ⟨gb194, 1, none⟩ (.int .i64 ((rd_T77 l0_1 x4_2).f1)))).cell? _ = some _ from hx197_1)); clear hn197_0; clear hn197_1; replace p197 := eq_true p197; replace q197 := eq_true q197)); try go_wp2_with (fail))
              go_meet
              case rel => exact ⟨_, (decide (((rd_T77 l0_1 (ji21)).f1) ≥ ((rd_T77 l0_1 x4_2).f1))), (by first | rfl | (simp; done) | (simp only [← hji21] <;> (first | rfl | simp)) | (simp [*]; done)), H', ⟨by have := HJ1.out; have := HK2.out; first | omega | exact Nat.le_refl _⟩, ⟨by (with_reducible repeat (first | refine kD ?_ _ | refine kE ?_ | refine kA ?_ _)); refine blk_far ?_ NB191_194.out _; (with_reducible repeat (first | refine kD ?_ _ | refine kE ?_ | refine kA ?_ _)); refine blk_far ?_ NB191_194.out _; (with_reducible repeat (first | refine kD ?_ _ | refine kE ?_ | refine kA ?_ _)); exact BK191.out⟩, ⟨by (with_reducible repeat (first | refine kD ?_ _ | refine kE ?_ | refine kA ?_ _)); refine blk_put (cs := #[.string ((rd_T77 l0_1 x4_2).f0), .int .i64 0]) ?_ 1 _ rfl; (with_reducible repeat (first | refine kD ?_ _ | refine kE ?_ | refine kA ?_ _)); refine blk_put (cs := #[.string (⟨#[]⟩ : ByteArray), .int .i64 0]) ?_ 0 _ rfl; (with_reducible repeat (first | refine kD ?_ _ | refine kE ?_ | refine kA ?_ _)); exact BK194.out⟩, ⟨by repeat (first | (with_reducible first | exact HB.out | apply bA | apply bD | apply bE | refine bS ?_ GE191.out | refine bS ?_ GE194.out) | exact HB.out)⟩⟩
             ·rw [if_neg c23] at H
              exact absurd H (by simp)
            ·rw [if_neg c22] at H
             exact absurd H (by simp)
           ·rw [if_neg c20] at H
            have c20b0 : decide (0 < x4_2) = false := decide_eq_false c20
            clear c20
            (first | rw [c20b0] | (simp only [i64_w, i32_w]; rw [c20b0]) | skip)
            have H' := As.mk H
            clear H
            have hnb27 := NB194_191.out
            have hnc27 := NB191_194.out
            have cz_ := c2_0 (w := w13) (g := gb194) BK194.out; obtain ⟨hcz28_0, hcz28_1⟩ := cz_
            have hfz28 := kF BK194.out
            go_wp2_with (fail)
            repeat (go_quiet (first | (go_at_call 47; (with_reducible refine (F21.calls k2 ((rd_T77 l0_1 x4_2).f0) true _ A16.out).mono ?_); rintro e w' ⟨rfl, ⟨nd, rfl⟩⟩; (try first | exact ⟨rfl, _, World.drewN_drewN _ _ _⟩ | exact ⟨rfl, _, Eq.trans (World.drewN_drewN _ _ _) (congrArg (World.drewN _) (Nat.add_assoc _ _ _))⟩)) | (go_at_call 46; (with_reducible refine (F24.calls ((rd_T77 l0_1 x4_2).f1) 1 (wrap64 ((l0_0.length : Int) - 1)) true _ A18.out).mono ?_); rintro e w' ⟨rfl, ⟨nd, rfl⟩⟩; (try first | exact ⟨rfl, _, World.drewN_drewN _ _ _⟩ | exact ⟨rfl, _, Eq.trans (World.drewN_drewN _ _ _) (congrArg (World.drewN _) (Nat.add_assoc _ _ _))⟩))); try go_wp2_with (fail))
            go_meet
            case rel => exact ⟨_, (false), (by first | rfl | (simp; done) | (simp [*]; done)), H', ⟨by have := HJ1.out; have := HK2.out; first | omega | exact Nat.le_refl _⟩, ⟨by (with_reducible repeat (first | refine kD ?_ _ | refine kE ?_ | refine kA ?_ _)); refine blk_far ?_ NB191_194.out _; (with_reducible repeat (first | refine kD ?_ _ | refine kE ?_ | refine kA ?_ _)); refine blk_far ?_ NB191_194.out _; (with_reducible repeat (first | refine kD ?_ _ | refine kE ?_ | refine kA ?_ _)); exact BK191.out⟩, ⟨by (with_reducible repeat (first | refine kD ?_ _ | refine kE ?_ | refine kA ?_ _)); refine blk_put (cs := #[.string ((rd_T77 l0_1 x4_2).f0), .int .i64 0]) ?_ 1 _ rfl; (with_reducible repeat (first | refine kD ?_ _ | refine kE ?_ | refine kA ?_ _)); refine blk_put (cs := #[.string (⟨#[]⟩ : ByteArray), .int .i64 0]) ?_ 0 _ rfl; (with_reducible repeat (first | refine kD ?_ _ | refine kE ?_ | refine kA ?_ _)); exact BK194.out⟩, ⟨by repeat (first | (with_reducible first | exact HB.out | apply bA | apply bD | apply bE | refine bS ?_ GE191.out | refine bS ?_ GE194.out) | exact HB.out)⟩⟩
          ·replace c19 := Bool.eq_false_iff.mpr c19
           subst c19
           replace H : (F1.j2 k2 (l0_0.length : Int) x4_2 true l0_0 l0_1 ((rd_T77 l0_1 x4_2).f0) ((rd_T77 l0_1 x4_2).f1)) = some r := by rw [if_neg (show ¬ (false = true) by decide)] at H; exact H
           have H' := As.mk H
           clear H
           have hnb29 := NB194_191.out
           have hnc29 := NB191_194.out
           have cz_ := c2_0 (w := w13) (g := gb194) BK194.out; obtain ⟨hcz30_0, hcz30_1⟩ := cz_
           have hfz30 := kF BK194.out
           go_wp2_with (fail)
           repeat (go_quiet (first | (go_at_call 47; (with_reducible refine (F21.calls k2 ((rd_T77 l0_1 x4_2).f0) true _ A16.out).mono ?_); rintro e w' ⟨rfl, ⟨nd, rfl⟩⟩; (try first | exact ⟨rfl, _, World.drewN_drewN _ _ _⟩ | exact ⟨rfl, _, Eq.trans (World.drewN_drewN _ _ _) (congrArg (World.drewN _) (Nat.add_assoc _ _ _))⟩)) | (go_at_call 46; (with_reducible refine (F24.calls ((rd_T77 l0_1 x4_2).f1) 1 (wrap64 ((l0_0.length : Int) - 1)) false _ A18.out).mono ?_); rintro e w' ⟨rfl, ⟨nd, rfl⟩⟩; (try first | exact ⟨rfl, _, World.drewN_drewN _ _ _⟩ | exact ⟨rfl, _, Eq.trans (World.drewN_drewN _ _ _) (congrArg (World.drewN _) (Nat.add_assoc _ _ _))⟩))); try go_wp2_with (fail))
           go_meet
           case rel => exact ⟨_, (true), (by first | rfl | (simp; done) | (simp [*]; done)), H', ⟨by have := HJ1.out; have := HK2.out; first | omega | exact Nat.le_refl _⟩, ⟨by (with_reducible repeat (first | refine kD ?_ _ | refine kE ?_ | refine kA ?_ _)); refine blk_far ?_ NB191_194.out _; (with_reducible repeat (first | refine kD ?_ _ | refine kE ?_ | refine kA ?_ _)); refine blk_far ?_ NB191_194.out _; (with_reducible repeat (first | refine kD ?_ _ | refine kE ?_ | refine kA ?_ _)); exact BK191.out⟩, ⟨by (with_reducible repeat (first | refine kD ?_ _ | refine kE ?_ | refine kA ?_ _)); refine blk_put (cs := #[.string ((rd_T77 l0_1 x4_2).f0), .int .i64 0]) ?_ 1 _ rfl; (with_reducible repeat (first | refine kD ?_ _ | refine kE ?_ | refine kA ?_ _)); refine blk_put (cs := #[.string (⟨#[]⟩ : ByteArray), .int .i64 0]) ?_ 0 _ rfl; (with_reducible repeat (first | refine kD ?_ _ | refine kE ?_ | refine kA ?_ _)); exact BK194.out⟩, ⟨by repeat (first | (with_reducible first | exact HB.out | apply bA | apply bD | apply bE | refine bS ?_ GE191.out | refine bS ?_ GE194.out) | exact HB.out)⟩⟩
         ·replace c17 := Bool.eq_false_iff.mpr c17
          subst c17
          replace H : (F1.j2 k2 (l0_0.length : Int) x4_2 true l0_0 l0_1 ((rd_T77 l0_1 x4_2).f0) ((rd_T77 l0_1 x4_2).f1)) = some r := by rw [if_neg (show ¬ (false = true) by decide)] at H; exact H
          have H' := As.mk H
          clear H
          have hnb31 := NB194_191.out
          have hnc31 := NB191_194.out
          have cz_ := c2_0 (w := w13) (g := gb194) BK194.out; obtain ⟨hcz32_0, hcz32_1⟩ := cz_
          have hfz32 := kF BK194.out
          go_wp2_with (fail)
          repeat (go_quiet (first | (go_at_call 47; (with_reducible refine (F21.calls k2 ((rd_T77 l0_1 x4_2).f0) false _ A16.out).mono ?_); rintro e w' ⟨rfl, ⟨nd, rfl⟩⟩; (try first | exact ⟨rfl, _, World.drewN_drewN _ _ _⟩ | exact ⟨rfl, _, Eq.trans (World.drewN_drewN _ _ _) (congrArg (World.drewN _) (Nat.add_assoc _ _ _))⟩))); try go_wp2_with (fail))
          go_meet
          case rel => exact ⟨_, (true), (by first | rfl | (simp; done) | (simp [*]; done)), H', ⟨by have := HJ1.out; have := HK2.out; first | omega | exact Nat.le_refl _⟩, ⟨by (with_reducible repeat (first | refine kD ?_ _ | refine kE ?_ | refine kA ?_ _)); refine blk_far ?_ NB191_194.out _; (with_reducible repeat (first | refine kD ?_ _ | refine kE ?_ | refine kA ?_ _)); refine blk_far ?_ NB191_194.out _; (with_reducible repeat (first | refine kD ?_ _ | refine kE ?_ | refine kA ?_ _)); exact BK191.out⟩, ⟨by (with_reducible repeat (first | refine kD ?_ _ | refine kE ?_ | refine kA ?_ _)); refine blk_put (cs := #[.string ((rd_T77 l0_1 x4_2).f0), .int .i64 0]) ?_ 1 _ rfl; (with_reducible repeat (first | refine kD ?_ _ | refine kE ?_ | refine kA ?_ _)); refine blk_put (cs := #[.string (⟨#[]⟩ : ByteArray), .int .i64 0]) ?_ 0 _ rfl; (with_reducible repeat (first | refine kD ?_ _ | refine kE ?_ | refine kA ?_ _)); exact BK194.out⟩, ⟨by repeat (first | (with_reducible first | exact HB.out | apply bA | apply bD | apply bE | refine bS ?_ GE191.out | refine bS ?_ GE194.out) | exact HB.out)⟩⟩
        case rest =>
         clear HC11
         try clear c8
         try clear c9
         try clear c9b0
         try clear c10
         try clear c10b0
         try clear hcz12_0
         try clear hcz12_1
         try clear hcz15_0
         try clear hcz15_1
         try clear hcz4_0
         try clear hcz4_1
         try clear hfz12
         try clear hfz15
         try clear hfz4
         try clear hx193_0
         try clear hx193_1
         try clear p193
         try clear q193
         obtain ⟨kq, x63_10, rfl, HA, HJ10, BK191, BK194, HB⟩ := hcut
         cases kq with
         | zero => exact absurd HA.out (by simp [F1.j2])
         | succ kj10 =>
          have H := HA.out
          clear HA
          simp only [F1.j2] at H
          by_cases c33 : x63_10 = true
          ·subst c33
           replace H : (some false) = some r := by rw [if_pos rfl] at H; exact H
           obtain rfl := Option.some.inj H
           go_wp2
           go_ret
           exact ⟨by first | rfl | (simp [eN, eS] <;> rfl) | (simp [*, eN, eS] <;> rfl), by repeat (first | (with_reducible first | exact HB.out | apply bA | apply bD | apply bE | refine bS ?_ GE191.out | refine bS ?_ GE194.out) | exact HB.out)⟩
          ·replace c33 := Bool.eq_false_iff.mpr c33
           subst c33
           replace H : (F1.l1 kj10 (l0_0.length : Int) x4_2 0 l0_0 l0_1 ((rd_T77 l0_1 x4_2).f0) ((rd_T77 l0_1 x4_2).f1)) = some r := by rw [if_neg (show ¬ (false = true) by decide)] at H; exact H
           have H' := As.mk H
           clear H
           go_wp2
           go_loopg [6] kj10 (fun kq v6 w' => ∃ (x6_4 : Int), v6 = .int .i64 x6_4 ∧ As (F1.l1 kq (l0_0.length : Int) x4_2 x6_4 l0_0 l0_1 ((rd_T77 l0_1 x4_2).f0) ((rd_T77 l0_1 x4_2).f1) = some r) ∧ As (kq ≤ kj10) ∧ As (w'.heap[gb191]? = some (.cells #[(.slice A0_0 l0_0.length c0_0), (.slice (some ad193) l0_1.length c0_1)] 31 (0, 0))) ∧ As (w'.heap[gb194]? = some (.cells #[.string ((rd_T77 l0_1 x4_2).f0), .int .i64 ((rd_T77 l0_1 x4_2).f1)] 77 (0, 0))) ∧ As (Below w.heap.size w w'))
           case atStart => exact ⟨(0), (by first | rfl | (simp; done) | (simp [*]; done)), H', ⟨Nat.le_refl _⟩, ⟨by (with_reducible repeat (first | refine kD ?_ _ | refine kE ?_ | refine kA ?_ _)); exact BK191.out⟩, ⟨by (with_reducible repeat (first | refine kD ?_ _ | refine kE ?_ | refine kA ?_ _)); exact BK194.out⟩, ⟨by repeat (first | (with_reducible first | exact HB.out | apply bA | apply bD | apply bE | refine bS ?_ GE191.out | refine bS ?_ GE194.out) | exact HB.out)⟩⟩
           case round =>
            clear H'
            try clear c8
            try clear c9
            try clear c9b0
            try clear c10
            try clear c10b0
            try clear c33
            try clear hcz12_0
            try clear hcz12_1
            try clear hcz15_0
            try clear hcz15_1
            try clear hcz4_0
            try clear hcz4_1
            try clear hfz12
            try clear hfz15
            try clear hfz4
            try clear hx193_0
            try clear hx193_1
            try clear p193
            try clear q193
            obtain ⟨x6_4, rfl, HA, HK4, BK191, BK194, HB⟩ := hrel
            cases gk with
            | zero => exact absurd HA.out (by simp [F1.l1])
            | succ k4 =>
             have H := HA.out
             clear HA
             simp only [F1.l1] at H
             by_cases c34 : x6_4 < x4_2
             ·rw [if_pos c34] at H
              have c34b0 : decide (x6_4 < x4_2) = true := decide_eq_true c34
              clear c34
              by_cases c35 : 0 ≤ x6_4
              ·rw [if_pos c35] at H
               have c35b0 : decide (0 ≤ x6_4) = true := decide_eq_true c35
               clear c35
               by_cases c36 : x6_4 < (l0_1.length : Int)
               ·rw [if_pos c36] at H
                have c36b0 : decide (x6_4 < (l0_1.length : Int)) = true := decide_eq_true c36
                clear c36
                by_cases c37 : ((rd_T77 l0_1 x6_4).f0).toList = ((rd_T77 l0_1 x4_2).f0).toList
                ·rw [if_pos c37] at H
                 have c37b0 : (((rd_T77 l0_1 x6_4).f0).toList == ((rd_T77 l0_1 x4_2).f0).toList) = true := beq_iff_eq.mpr c37
                 have c37b1 : (((rd_T77 l0_1 x6_4).f0).toList != ((rd_T77 l0_1 x4_2).f0).toList) = false := bne_eq_false_iff_eq.mpr c37
                 clear c37
                 obtain rfl := Option.some.inj H
                 have hnb38 := NB191_194.out
                 have hnc38 := NB194_191.out
                 have cz_ := c2_0 (w := wr) (g := gb191) BK191.out; obtain ⟨hcz39_0, hcz39_1⟩ := cz_
                 have hfz39 := kF BK191.out
                 have p198 : 0 ≤ (x6_4 : Int) := of_decide_eq_true (by first | (with_reducible assumption) | assumption)
                 have q198 : x6_4 < (l0_1.length : Int) := of_decide_eq_true (by first | (with_reducible assumption) | assumption)
                 obtain ⟨ad198, e198, hx198_0, hx198_1⟩ := at_T77 HR0_1.out x6_4 p198 q198
                 obtain rfl : ad193 = ad198 := (by injection e198)
                 replace hx198_0 := (HB.out.cell (World.block_lt_of_cell? w _ hx198_0)).trans hx198_0
                 replace hx198_1 := (HB.out.cell (World.block_lt_of_cell? w _ hx198_1)).trans hx198_1
                 replace p198 := eq_true p198
                 replace q198 := eq_true q198
                 have cz_ := c2_0 (w := wr) (g := gb194) BK194.out; obtain ⟨hcz40_0, hcz40_1⟩ := cz_
                 have hfz40 := kF BK194.out
                 go_wp2
                 repeat (go_quiet (fail); try go_wp2)
                 go_ret
                 exact ⟨by first | rfl | (simp [eN, eS] <;> rfl) | (simp [*, eN, eS] <;> rfl), by repeat (first | (with_reducible first | exact HB.out | apply bA | apply bD | apply bE | refine bS ?_ GE191.out | refine bS ?_ GE194.out) | exact HB.out)⟩
                ·rw [if_neg c37] at H
                 have c37b0 : (((rd_T77 l0_1 x6_4).f0).toList == ((rd_T77 l0_1 x4_2).f0).toList) = false := beq_eq_false_iff_ne.mpr c37
                 have c37b1 : (((rd_T77 l0_1 x6_4).f0).toList != ((rd_T77 l0_1 x4_2).f0).toList) = true := bne_iff_ne.mpr c37
                 have H' := As.mk H
                 clear H
                 have hnb41 := NB191_194.out
                 have hnc41 := NB194_191.out
                 have cz_ := c2_0 (w := wr) (g := gb191) BK191.out; obtain ⟨hcz42_0, hcz42_1⟩ := cz_
                 have hfz42 := kF BK191.out
                 have p198 : 0 ≤ (x6_4 : Int) := of_decide_eq_true (by first | (with_reducible assumption) | assumption)
                 have q198 : x6_4 < (l0_1.length : Int) := of_decide_eq_true (by first | (with_reducible assumption) | assumption)
                 obtain ⟨ad198, e198, hx198_0, hx198_1⟩ := at_T77 HR0_1.out x6_4 p198 q198
                 obtain rfl : ad193 = ad198 := (by injection e198)
                 replace hx198_0 := (HB.out.cell (World.block_lt_of_cell? w _ hx198_0)).trans hx198_0
                 replace hx198_1 := (HB.out.cell (World.block_lt_of_cell? w _ hx198_1)).trans hx198_1
                 replace p198 := eq_true p198
                 replace q198 := eq_true q198
                 have cz_ := c2_0 (w := wr) (g := gb194) BK194.out; obtain ⟨hcz43_0, hcz43_1⟩ := cz_
                 have hfz43 := kF BK194.out
                 go_wp2
                 repeat (go_quiet (fail); try go_wp2)
                 go_roundg k4
                 case measure => have := HJ1.out; have := HK2.out; have := HJ10.out; have := HK4.out; omega
                 case rel => exact ⟨(wrap64 (x6_4 + 1)), (by first | rfl | (simp; done) | (simp [*]; done)), H', ⟨by have := HJ1.out; have := HK2.out; have := HJ10.out; have := HK4.out; omega⟩, ⟨by (with_reducible repeat (first | refine kD ?_ _ | refine kE ?_ | refine kA ?_ _)); exact BK191.out⟩, ⟨by (with_reducible repeat (first | refine kD ?_ _ | refine kE ?_ | refine kA ?_ _)); exact BK194.out⟩, ⟨by repeat (first | (with_reducible first | exact HB.out | apply bA | apply bD | apply bE | refine bS ?_ GE191.out | refine bS ?_ GE194.out) | exact HB.out)⟩⟩
               ·rw [if_neg c36] at H
                exact absurd H (by simp)
              ·rw [if_neg c35] at H
               exact absurd H (by simp)
             ·rw [if_neg c34] at H
              have c34b0 : decide (x6_4 < x4_2) = false := decide_eq_false c34
              clear c34
              have H' := As.mk H
              clear H
              go_wp2
              go_roundg k4
              case measure => have := HJ1.out; have := HK2.out; have := HJ10.out; have := HK4.out; omega
              case rel => exact ⟨(wrap64 (x4_2 + 1)), (by first | rfl | (simp; done) | (simp [*]; done)), H', ⟨by have := HJ1.out; have := HK2.out; have := HJ10.out; have := HK4.out; omega⟩, ⟨by (with_reducible repeat (first | refine kD ?_ _ | refine kE ?_ | refine kA ?_ _)); exact BK191.out⟩, ⟨by repeat (first | (with_reducible first | exact HB.out | apply bA | apply bD | apply bE | refine bS ?_ GE191.out | refine bS ?_ GE194.out) | exact HB.out)⟩⟩
       ·rw [if_neg c10] at H
        exact absurd H (by simp)
      ·rw [if_neg c9] at H
       have c9b0 : decide (x4_2 < (l0_1.length : Int)) = false := decide_eq_false c9
       clear c9
       have H' := As.mk H
       clear H
       have cz_ := c2_0 (w := wr) (g := gb191) BK191.out; obtain ⟨hcz44_0, hcz44_1⟩ := cz_
       have hfz44 := kF BK191.out
       go_wp2
       go_loopg [7, 8, 9] k2 (fun kq v7 v8 v9 w' => ∃ (x7_3 : Int) (x8_3 : Int) (x9_3 : Int), v7 = .int .i64 x7_3 ∧ v8 = .int .i64 x8_3 ∧ v9 = .int .i64 x9_3 ∧ As (F1.l2 kq (l0_0.length : Int) x7_3 x8_3 x9_3 l0_0 l0_1 = some r) ∧ As (kq ≤ k2) ∧ As (w'.heap[gb191]? = some (.cells #[(.slice A0_0 l0_0.length c0_0), (.slice A0_1 l0_1.length c0_1)] 31 (0, 0))) ∧ As (Below w.heap.size w w'))
       case atStart => exact ⟨(0), ((-1)), (0), (by first | rfl | (simp; done) | (simp [*]; done)), (by first | rfl | (simp; done) | (simp [*]; done)), (by first | rfl | (simp; done) | (simp [*]; done)), H', ⟨Nat.le_refl _⟩, ⟨by (with_reducible repeat (first | refine kD ?_ _ | refine kE ?_ | refine kA ?_ _)); exact BK191.out⟩, ⟨by repeat (first | (with_reducible first | exact HB.out | apply bA | apply bD | apply bE | refine bS ?_ GE191.out) | exact HB.out)⟩⟩
       case round =>
        clear H'
        try clear c8
        try clear c9
        try clear c9b0
        try clear hcz44_0
        try clear hcz44_1
        try clear hcz4_0
        try clear hcz4_1
        try clear hfz44
        try clear hfz4
        obtain ⟨x7_3, x8_3, x9_3, rfl, rfl, rfl, HA, HK3, BK191, HB⟩ := hrel
        cases gk with
        | zero => exact absurd HA.out (by simp [F1.l2])
        | succ k3 =>
         have H := HA.out
         clear HA
         simp only [F1.l2] at H
         by_cases c45 : x9_3 < (l0_0.length : Int)
         ·rw [if_pos c45] at H
          have c45b0 : decide (x9_3 < (l0_0.length : Int)) = true := decide_eq_true c45
          clear c45
          have HC46 := As.mk H
          clear H
          go_upto_if 85 with (fail)
          go_cut [7, 8] (fun v7 v8 wc => ∃ (kq : Nat) (x7_45 : Int) (x8_45 : Int), v7 = .int .i64 x7_45 ∧ v8 = .int .i64 x8_45 ∧ As (F1.j5 kq (l0_0.length : Int) x7_45 x8_45 x9_3 l0_0 l0_1 = some r) ∧ As (kq ≤ k3) ∧ As (wc.heap[gb191]? = some (.cells #[(.slice A0_0 l0_0.length c0_0), (.slice A0_1 l0_1.length c0_1)] 31 (0, 0))) ∧ As (Below w.heap.size w wc))
          case first =>
           have H := HC46.out
           clear HC46
           by_cases c47 : x9_3 > x8_3
           ·rw [if_pos c47] at H
            have c47b0 : decide (x8_3 < x9_3) = true := decide_eq_true c47
            clear c47
            (first | rw [c47b0] | (simp only [i64_w, i32_w]; rw [c47b0]) | skip)
            replace H := Option.bind_eq_some_iff.mp H
            obtain ⟨⟨t199, t200⟩, A480, H⟩ := H
            replace H : (F1.j5 k3 (l0_0.length : Int) t199 t200 x9_3 l0_0 l0_1) = some r := H
            have A48 := As.mk A480
            clear A480
            have H' := As.mk H
            clear H
            have cz_ := c2_0 (w := wr) (g := gb191) BK191.out; obtain ⟨hcz49_0, hcz49_1⟩ := cz_
            have hfz49 := kF BK191.out
            go_wp2_with (first | (go_at_call 48; (with_reducible refine (F17.calls k3 _ _ l0_0 _ _ l0_1 x9_3 t199 t200 _ ?side1 ?side2 ?side3 ?side4 A48.out).mono ?_); (case side1 => repeat (first | exact (Kd.CB HR0_0.out HB.out) | (with_reducible refine Kd.CA ?_ _) | (with_reducible refine Kd.CN ?_ _) | (with_reducible refine Kd.CD ?_))); (case side2 => exact HC0_0.out); (case side3 => repeat (first | exact (Kd.CB HR0_1.out HB.out) | (with_reducible refine Kd.CA ?_ _) | (with_reducible refine Kd.CN ?_ _) | (with_reducible refine Kd.CD ?_))); (case side4 => exact HC0_1.out); rintro e w50 ⟨rfl, hb⟩; replace BK191 := As.mk (kB (g := gb191) (o := .cells #[.slice A0_0 l0_0.length c0_0, .slice A0_1 l0_1.length c0_1] 31 (0, 0)) (by (with_reducible repeat (first | refine kD ?_ _ | refine kE ?_ | refine kA ?_ _)); exact BK191.out) hb); replace HB := As.mk (bT (by repeat (first | (with_reducible first | exact HB.out | apply bA | apply bD | apply bE | refine bS ?_ GE191.out) | exact HB.out)) hb); (try clear hb)))
            go_meet
            case rel => exact ⟨_, (t199), (t200), (by first | rfl | (simp; done) | (simp [*]; done)), (by first | rfl | (simp; done) | (simp [*]; done)), H', ⟨by have := HJ1.out; have := HK2.out; have := HK3.out; first | omega | exact Nat.le_refl _⟩, ⟨by (with_reducible repeat (first | refine kD ?_ _ | refine kE ?_ | refine kA ?_ _)); exact BK191.out⟩, ⟨by repeat (first | (with_reducible first | exact HB.out | apply bA | apply bD | apply bE | refine bS ?_ GE191.out) | exact HB.out)⟩⟩
           ·rw [if_neg c47] at H
            have c47b0 : decide (x8_3 < x9_3) = false := decide_eq_false c47
            clear c47
            (first | rw [c47b0] | (simp only [i64_w, i32_w]; rw [c47b0]) | skip)
            have H' := As.mk H
            clear H
            go_wp2
            go_meet
            case rel => exact ⟨_, (x7_3), (x8_3), (by first | rfl | (simp; done) | (simp [*]; done)), (by first | rfl | (simp; done) | (simp [*]; done)), H', ⟨by have := HJ1.out; have := HK2.out; have := HK3.out; first | omega | exact Nat.le_refl _⟩, ⟨by (with_reducible repeat (first | refine kD ?_ _ | refine kE ?_ | refine kA ?_ _)); exact BK191.out⟩, ⟨by repeat (first | (with_reducible first | exact HB.out | apply bA | apply bD | apply bE | refine bS ?_ GE191.out) | exact HB.out)⟩⟩
          case rest =>
           clear HC46
           try clear c8
           try clear c9
           try clear c9b0
           try clear c45
           try clear c45b0
           try clear hcz44_0
           try clear hcz44_1
           try clear hcz4_0
           try clear hcz4_1
           try clear hfz44
           try clear hfz4
           obtain ⟨kq, x7_45, x8_45, rfl, rfl, HA, HJ45, BK191, HB⟩ := hcut
           cases kq with
           | zero => exact absurd HA.out (by simp [F1.j5])
           | succ kj45 =>
            have H := HA.out
            clear HA
            simp only [F1.j5] at H
            by_cases c51 : 0 ≤ x9_3
            ·rw [if_pos c51] at H
             have c51b0 : decide (0 ≤ x9_3) = true := decide_eq_true c51
             clear c51
             by_cases c52 : x9_3 < (l0_0.length : Int)
             ·rw [if_pos c52] at H
              have c52b0 : decide (x9_3 < (l0_0.length : Int)) = true := decide_eq_true c52
              clear c52
              have HC53 := As.mk H
              clear H
              have cz_ := c2_0 (w := wc) (g := gb191) BK191.out; obtain ⟨hcz54_0, hcz54_1⟩ := cz_
              have hfz54 := kF BK191.out
              have p201 : 0 ≤ (x9_3 : Int) := of_decide_eq_true (by first | (with_reducible assumption) | assumption)
              have q201 : x9_3 < (l0_0.length : Int) := of_decide_eq_true (by first | (with_reducible assumption) | assumption)
              obtain ⟨ad201, e201, hx201_0, hx201_1, hx201_2⟩ := at_T80 HR0_0.out x9_3 p201 q201
              cases e201
              replace hx201_0 := (HB.out.cell (World.block_lt_of_cell? w _ hx201_0)).trans hx201_0
              replace hx201_1 := (HB.out.cell (World.block_lt_of_cell? w _ hx201_1)).trans hx201_1
              replace hx201_2 := (HB.out.cell (World.block_lt_of_cell? w _ hx201_2)).trans hx201_2
              replace p201 := eq_true p201
              replace q201 := eq_true q201
              go_upto_if 98 with (first | ((with_reducible refine gD (N := 10) rfl ?_); (try (refine gG (by rfl) ?_; dsimp only)); refine bX ?hg (N := 10) ?hd (cs := #[.int .i64 0, .int .i64 0, .string (⟨#[]⟩ : ByteArray)]) (t := 80) ?hr ?_; (case hd => rfl); (case hg => rfl); (case hr => first | (go_simp; done) | (go_simp; rfl)); intro gb202 hg w55 hbox hb; have BK202 := As.mk (hbox); have GW202 := As.mk ((by rw [hg]; exact (bZ (by repeat (first | (with_reducible first | exact HB.out | apply bA | apply bD | apply bE | refine bS ?_ GE191.out) | exact HB.out))) : w.heap.size ≤ gb202)); have GE202 := GW202; have NB191_202 := As.mk ((by rw [hg]; exact Nat.ne_of_lt (kL (g := gb191) (o := .cells #[.slice (some ad201) l0_0.length c0_0, .slice A0_1 l0_1.length c0_1] 31 (0, 0)) (by (with_reducible repeat (first | refine kD ?_ _ | refine kE ?_ | refine kA ?_ _)); exact BK191.out)) : gb191 ≠ gb202)); have NB202_191 := As.mk NB191_202.out.symm; replace BK191 := As.mk (kB (g := gb191) (o := .cells #[.slice (some ad201) l0_0.length c0_0, .slice A0_1 l0_1.length c0_1] 31 (0, 0)) (by (with_reducible repeat (first | refine kD ?_ _ | refine kE ?_ | refine kA ?_ _)); exact BK191.out) hb); replace HB := As.mk (bT (by repeat (first | (with_reducible first | exact HB.out | apply bA | apply bD | apply bE | refine bS ?_ GE191.out) | exact HB.out)) hb); clear hb hbox hg; have hnb56 := NB202_191.out; have hnc56 := NB191_202.out; have cz_ := c3_ (w := w55) (g := gb202) BK202.out; obtain ⟨hcz57_0, hcz57_1, hcz57_2⟩ := cz_; have hfz57 := kF BK202.out))
              (try simp only [Act.put, sq1, sq2, sq3])
              go_cut [11] (fun v11 wc => ∃ (kq : Nat) (x11_52 : Int), v11 = .int .i64 x11_52 ∧ As (F1.j6 kq (l0_0.length : Int) x7_45 x8_45 x9_3 x11_52 l0_0 l0_1 ((rd_T80 l0_0 x9_3).f0) ((rd_T80 l0_0 x9_3).f1) ((rd_T80 l0_0 x9_3).f2) = some r) ∧ As (kq ≤ kj45) ∧ As (wc.heap[gb191]? = some (.cells #[(.slice (some ad201) l0_0.length c0_0), (.slice A0_1 l0_1.length c0_1)] 31 (0, 0))) ∧ As (wc.heap[gb202]? = some (.cells #[.int .i64 ((rd_T80 l0_0 x9_3).f0), .int .i64 ((rd_T80 l0_0 x9_3).f1), .string ((rd_T80 l0_0 x9_3).f2)] 80 (0, 0))) ∧ As (Below w.heap.size w wc))
              case first =>
               have H := HC53.out
               clear HC53
               by_cases c58 : x7_45 = 0
               ·rw [if_pos c58] at H
                have c58b0 : (x7_45 == 0) = true := beq_iff_eq.mpr c58
                have c58b1 : (x7_45 != 0) = false := bne_eq_false_iff_eq.mpr c58
                clear c58
                (first | rw [c58b0] | (simp only [i64_w, i32_w]; rw [c58b0]) | skip)
                have H' := As.mk H
                clear H
                go_wp2
                go_meet
                case rel => exact ⟨_, (39), (by first | rfl | (simp; done) | (simp [*]; done)), H', ⟨by have := HJ1.out; have := HK2.out; have := HK3.out; have := HJ45.out; first | omega | exact Nat.le_refl _⟩, ⟨by (with_reducible repeat (first | refine kD ?_ _ | refine kE ?_ | refine kA ?_ _)); refine blk_far ?_ NB191_202.out _; (with_reducible repeat (first | refine kD ?_ _ | refine kE ?_ | refine kA ?_ _)); refine blk_far ?_ NB191_202.out _; (with_reducible repeat (first | refine kD ?_ _ | refine kE ?_ | refine kA ?_ _)); refine blk_far ?_ NB191_202.out _; (with_reducible repeat (first | refine kD ?_ _ | refine kE ?_ | refine kA ?_ _)); exact BK191.out⟩, ⟨by (with_reducible repeat (first | refine kD ?_ _ | refine kE ?_ | refine kA ?_ _)); refine blk_put (cs := #[.int .i64 ((rd_T80 l0_0 x9_3).f0), .int .i64 ((rd_T80 l0_0 x9_3).f1), .string (⟨#[]⟩ : ByteArray)]) ?_ 2 _ rfl; (with_reducible repeat (first | refine kD ?_ _ | refine kE ?_ | refine kA ?_ _)); refine blk_put (cs := #[.int .i64 ((rd_T80 l0_0 x9_3).f0), .int .i64 0, .string (⟨#[]⟩ : ByteArray)]) ?_ 1 _ rfl; (with_reducible repeat (first | refine kD ?_ _ | refine kE ?_ | refine kA ?_ _)); refine blk_put (cs := #[.int .i64 0, .int .i64 0, .string (⟨#[]⟩ : ByteArray)]) ?_ 0 _ rfl; (with_reducible repeat (first | refine kD ?_ _ | refine kE ?_ | refine kA ?_ _)); exact BK202.out⟩, ⟨by repeat (first | (with_reducible first | exact HB.out | apply bA | apply bD | apply bE | refine bS ?_ GE191.out | refine bS ?_ GE202.out) | exact HB.out)⟩⟩
               ·rw [if_neg c58] at H
                have c58b0 : (x7_45 == 0) = false := beq_eq_false_iff_ne.mpr c58
                have c58b1 : (x7_45 != 0) = true := bne_iff_ne.mpr c58
                (first | rw [c58b0] | (simp only [i64_w, i32_w]; rw [c58b0]) | skip)
                have H' := As.mk H
                clear H
                go_wp2
                go_meet
                case rel => exact ⟨_, (38), (by first | rfl | (simp; done) | (simp [*]; done)), H', ⟨by have := HJ1.out; have := HK2.out; have := HK3.out; have := HJ45.out; first | omega | exact Nat.le_refl _⟩, ⟨by (with_reducible repeat (first | refine kD ?_ _ | refine kE ?_ | refine kA ?_ _)); refine blk_far ?_ NB191_202.out _; (with_reducible repeat (first | refine kD ?_ _ | refine kE ?_ | refine kA ?_ _)); refine blk_far ?_ NB191_202.out _; (with_reducible repeat (first | refine kD ?_ _ | refine kE ?_ | refine kA ?_ _)); refine blk_far ?_ NB191_202.out _; (with_reducible repeat (first | refine kD ?_ _ | refine kE ?_ | refine kA ?_ _)); exact BK191.out⟩, ⟨by (with_reducible repeat (first | refine kD ?_ _ | refine kE ?_ | refine kA ?_ _)); refine blk_put (cs := #[.int .i64 ((rd_T80 l0_0 x9_3).f0), .int .i64 ((rd_T80 l0_0 x9_3).f1), .string (⟨#[]⟩ : ByteArray)]) ?_ 2 _ rfl; (with_reducible repeat (first | refine kD ?_ _ | refine kE ?_ | refine kA ?_ _)); refine blk_put (cs := #[.int .i64 ((rd_T80 l0_0 x9_3).f0), .int .i64 0, .string (⟨#[]⟩ : ByteArray)]) ?_ 1 _ rfl; (with_reducible repeat (first | refine kD ?_ _ | refine kE ?_ | refine kA ?_ _)); refine blk_put (cs := #[.int .i64 0, .int .i64 0, .string (⟨#[]⟩ : ByteArray)]) ?_ 0 _ rfl; (with_reducible repeat (first | refine kD ?_ _ | refine kE ?_ | refine kA ?_ _)); exact BK202.out⟩, ⟨by repeat (first | (with_reducible first | exact HB.out | apply bA | apply bD | apply bE | refine bS ?_ GE191.out | refine bS ?_ GE202.out) | exact HB.out)⟩⟩
              case rest =>
               clear HC53
               try clear c8
               try clear c9
               try clear c9b0
               try clear c45
               try clear c45b0
               try clear c51
               try clear c51b0
               try clear c52
               try clear c52b0
               try clear hcz44_0
               try clear hcz44_1
               try clear hcz4_0
               try clear hcz4_1
               try clear hcz54_0
               try clear hcz54_1
               try clear hcz57_0
               try clear hcz57_1
               try clear hcz57_2
               try clear hfz44
               try clear hfz4
               try clear hfz54
               try clear hfz57
               try clear hx201_0
               try clear hx201_1
               try clear hx201_2
               try clear p201
               try clear q201
               obtain ⟨kq, x11_52, rfl, HA, HJ52, BK191, BK202, HB⟩ := hcut
               cases kq with
               | zero => exact absurd HA.out (by simp [F1.j6])
               | succ kj52 =>
                have H := HA.out
                clear HA
                simp only [F1.j6] at H
                have HC59 := As.mk H
                clear H
                go_upto_region 26 with (fail)
                go_cut [126] (fun v126 wc => ∃ (kq : Nat) (x126_58 : Bool), v126 = .bool x126_58 ∧ As (F1.j7 kq (l0_0.length : Int) x7_45 x8_45 x9_3 x126_58 l0_0 l0_1 ((rd_T80 l0_0 x9_3).f0) ((rd_T80 l0_0 x9_3).f1) ((rd_T80 l0_0 x9_3).f2) = some r) ∧ As (kq ≤ kj52) ∧ As (wc.heap[gb191]? = some (.cells #[(.slice (some ad201) l0_0.length c0_0), (.slice A0_1 l0_1.length c0_1)] 31 (0, 0))) ∧ As (wc.heap[gb202]? = some (.cells #[.int .i64 ((rd_T80 l0_0 x9_3).f0), .int .i64 ((rd_T80 l0_0 x9_3).f1), .string ((rd_T80 l0_0 x9_3).f2)] 80 (0, 0))) ∧ As (Below w.heap.size w wc))
                case first =>
                 have H := HC59.out
                 clear HC59
                 replace H := Option.bind_eq_some_iff.mp H
                 obtain ⟨t203, A600, H⟩ := H
                 replace H : (if t203 = true then (if ((((rd_T80 l0_0 x9_3).f0) == x11_52) != (x9_3 == x8_45)) = true then (F1.j7 kj52 (l0_0.length : Int) x7_45 x8_45 x9_3 true l0_0 l0_1 ((rd_T80 l0_0 x9_3).f0) ((rd_T80 l0_0 x9_3).f1) ((rd_T80 l0_0 x9_3).f2)) else (if x9_3 < x8_45 then (if ((rd_T80 l0_0 x9_3).f0) = 39 then (F1.j7 kj52 (l0_0.length : Int) x7_45 x8_45 x9_3 true l0_0 l0_1 ((rd_T80 l0_0 x9_3).f0) ((rd_T80 l0_0 x9_3).f1) ((rd_T80 l0_0 x9_3).f2)) else (F1.j7 kj52 (l0_0.length : Int) x7_45 x8_45 x9_3 (((rd_T80 l0_0 x9_3).f0) == 38) l0_0 l0_1 ((rd_T80 l0_0 x9_3).f0) ((rd_T80 l0_0 x9_3).f1) ((rd_T80 l0_0 x9_3).f2))) else (F1.j7 kj52 (l0_0.length : Int) x7_45 x8_45 x9_3 false l0_0 l0_1 ((rd_T80 l0_0 x9_3).f0) ((rd_T80 l0_0 x9_3).f1) ((rd_T80 l0_0 x9_3).f2)))) else (F1.j7 kj52 (l0_0.length : Int) x7_45 x8_45 x9_3 true l0_0 l0_1 ((rd_T80 l0_0 x9_3).f0) ((rd_T80 l0_0 x9_3).f1) ((rd_T80 l0_0 x9_3).f2))) = some r := H
                 have A60 := As.mk A600
                 clear A600
                 by_cases c61 : t203 = true
                 ·subst c61
                  replace H : (if ((((rd_T80 l0_0 x9_3).f0) == x11_52) != (x9_3 == x8_45)) = true then (F1.j7 kj52 (l0_0.length : Int) x7_45 x8_45 x9_3 true l0_0 l0_1 ((rd_T80 l0_0 x9_3).f0) ((rd_T80 l0_0 x9_3).f1) ((rd_T80 l0_0 x9_3).f2)) else (if x9_3 < x8_45 then (if ((rd_T80 l0_0 x9_3).f0) = 39 then (F1.j7 kj52 (l0_0.length : Int) x7_45 x8_45 x9_3 true l0_0 l0_1 ((rd_T80 l0_0 x9_3).f0) ((rd_T80 l0_0 x9_3).f1) ((rd_T80 l0_0 x9_3).f2)) else (F1.j7 kj52 (l0_0.length : Int) x7_45 x8_45 x9_3 (((rd_T80 l0_0 x9_3).f0) == 38) l0_0 l0_1 ((rd_T80 l0_0 x9_3).f0) ((rd_T80 l0_0 x9_3).f1) ((rd_T80 l0_0 x9_3).f2))) else (F1.j7 kj52 (l0_0.length : Int) x7_45 x8_45 x9_3 false l0_0 l0_1 ((rd_T80 l0_0 x9_3).f0) ((rd_T80 l0_0 x9_3).f1) ((rd_T80 l0_0 x9_3).f2)))) = some r := by rw [if_pos rfl] at H; exact H
                  by_cases c62 : ((((rd_T80 l0_0 x9_3).f0) == x11_52) != (x9_3 == x8_45)) = true
                  ·rw [if_pos c62] at H
                   have c62b0 : ((((rd_T80 l0_0 x9_3).f0) == x11_52) != (x9_3 == x8_45)) = true := c62
                   (try (have c62b1 : decide ((((rd_T80 l0_0 x9_3).f0) == x11_52) = (x9_3 == x8_45)) = false := by simpa using c62))
                   (try (have c62b2 : ((((rd_T80 l0_0 x9_3).f0) == x11_52) == (x9_3 == x8_45)) = false := by simpa using c62))
                   (try (have c62b3 : ¬ ((((rd_T80 l0_0 x9_3).f0) == x11_52) = (x9_3 == x8_45)) := by simpa using c62))
                   clear c62
                   (first | rw [c62b0] | (simp only [i64_w, i32_w]; rw [c62b0]) | skip)
                   have H' := As.mk H
                   clear H
                   have hnb63 := NB202_191.out
                   have hnc63 := NB191_202.out
                   have cz_ := c3_ (w := wc) (g := gb202) BK202.out; obtain ⟨hcz64_0, hcz64_1, hcz64_2⟩ := cz_
                   have hfz64 := kF BK202.out
                   go_wp2_with (first | (go_at_call 49; (with_reducible refine (F5.calls kj52 ((rd_T80 l0_0 x9_3).f0) ((rd_T80 l0_0 x9_3).f1) ((rd_T80 l0_0 x9_3).f2) true _ A60.out).mono ?_); rintro e w65 ⟨rfl, hb⟩; replace BK191 := As.mk (kB (g := gb191) (o := .cells #[.slice (some ad201) l0_0.length c0_0, .slice A0_1 l0_1.length c0_1] 31 (0, 0)) (by (with_reducible repeat (first | refine kD ?_ _ | refine kE ?_ | refine kA ?_ _)); exact BK191.out) hb); replace BK202 := As.mk (kB (g := gb202) (o := .cells #[.int .i64 ((rd_T80 l0_0 x9_3).f0), .int .i64 ((rd_T80 l0_0 x9_3).f1), .string ((rd_T80 l0_0 x9_3).f2)] 80 (0, 0)) (by (with_reducible repeat (first | refine kD ?_ _ | refine kE ?_ | refine kA ?_ _)); exact BK202.out) hb); replace HB := As.mk (bT (by repeat (first | (with_reducible first | exact HB.out | apply bA | apply bD | apply bE | refine bS ?_ GE191.out | refine bS ?_ GE202.out) | exact HB.out)) hb); (try clear hb); have cz_ := c3_ (w := w65) (g := gb202) BK202.out; obtain ⟨hcz66_0, hcz66_1, hcz66_2⟩ := cz_; have hfz66 := kF BK202.out))
                   go_meet
                   case rel => exact ⟨_, (true), (by first | rfl | (simp; done) | (simp [*]; done)), H', ⟨by have := HJ1.out; have := HK2.out; have := HK3.out; have := HJ45.out; have := HJ52.out; first | omega | exact Nat.le_refl _⟩, ⟨by (with_reducible repeat (first | refine kD ?_ _ | refine kE ?_ | refine kA ?_ _)); exact BK191.out⟩, ⟨by (with_reducible repeat (first | refine kD ?_ _ | refine kE ?_ | refine kA ?_ _)); exact BK202.out⟩, ⟨by repeat (first | (with_reducible first | exact HB.out | apply bA | apply bD | apply bE | refine bS ?_ GE191.out | refine bS ?_ GE202.out) | exact HB.out)⟩⟩
                  ·rw [if_neg c62] at H
                   have c62b0 : ((((rd_T80 l0_0 x9_3).f0) == x11_52) != (x9_3 == x8_45)) = false := by simpa using c62
                   (try (have c62b1 : decide ((((rd_T80 l0_0 x9_3).f0) == x11_52) = (x9_3 == x8_45)) = true := by simpa using c62))
                   (try (have c62b2 : ((((rd_T80 l0_0 x9_3).f0) == x11_52) == (x9_3 == x8_45)) = true := by simpa using c62))
                   clear c62
                   (first | rw [c62b0] | (simp only [i64_w, i32_w]; rw [c62b0]) | skip)
                   by_cases c67 : x9_3 < x8_45
                   ·rw [if_pos c67] at H
                    have c67b0 : decide (x9_3 < x8_45) = true := decide_eq_true c67
                    clear c67
                    by_cases c68 : ((rd_T80 l0_0 x9_3).f0) = 39
                    ·rw [if_pos c68] at H
                     have c68b0 : (((rd_T80 l0_0 x9_3).f0) == 39) = true := beq_iff_eq.mpr c68
                     have c68b1 : (((rd_T80 l0_0 x9_3).f0) != 39) = false := bne_eq_false_iff_eq.mpr c68
                     clear c68
                     have H' := As.mk H
                     clear H
                     have hnb69 := NB202_191.out
                     have hnc69 := NB191_202.out
                     have cz_ := c3_ (w := wc) (g := gb202) BK202.out; obtain ⟨hcz70_0, hcz70_1, hcz70_2⟩ := cz_
                     have hfz70 := kF BK202.out
                     go_wp2_with (first | (go_at_call 49; (with_reducible refine (F5.calls kj52 ((rd_T80 l0_0 x9_3).f0) ((rd_T80 l0_0 x9_3).f1) ((rd_T80 l0_0 x9_3).f2) true _ A60.out).mono ?_); rintro e w71 ⟨rfl, hb⟩; replace BK191 := As.mk (kB (g := gb191) (o := .cells #[.slice (some ad201) l0_0.length c0_0, .slice A0_1 l0_1.length c0_1] 31 (0, 0)) (by (with_reducible repeat (first | refine kD ?_ _ | refine kE ?_ | refine kA ?_ _)); exact BK191.out) hb); replace BK202 := As.mk (kB (g := gb202) (o := .cells #[.int .i64 ((rd_T80 l0_0 x9_3).f0), .int .i64 ((rd_T80 l0_0 x9_3).f1), .string ((rd_T80 l0_0 x9_3).f2)] 80 (0, 0)) (by (with_reducible repeat (first | refine kD ?_ _ | refine kE ?_ | refine kA ?_ _)); exact BK202.out) hb); replace HB := As.mk (bT (by repeat (first | (with_reducible first | exact HB.out | apply bA | apply bD | apply bE | refine bS ?_ GE191.out | refine bS ?_ GE202.out) | exact HB.out)) hb); (try clear hb); have cz_ := c3_ (w := w71) (g := gb202) BK202.out; obtain ⟨hcz72_0, hcz72_1, hcz72_2⟩ := cz_; have hfz72 := kF BK202.out))
                     go_meet
                     case rel => exact ⟨_, (true), (by first | rfl | (simp; done) | (simp [*]; done)), H', ⟨by have := HJ1.out; have := HK2.out; have := HK3.out; have := HJ45.out; have := HJ52.out; first | omega | exact Nat.le_refl _⟩, ⟨by (with_reducible repeat (first | refine kD ?_ _ | refine kE ?_ | refine kA ?_ _)); exact BK191.out⟩, ⟨by (with_reducible repeat (first | refine kD ?_ _ | refine kE ?_ | refine kA ?_ _)); exact BK202.out⟩, ⟨by repeat (first | (with_reducible first | exact HB.out | apply bA | apply bD | apply bE | refine bS ?_ GE191.out | refine bS ?_ GE202.out) | exact HB.out)⟩⟩
                    ·rw [if_neg c68] at H
                     have c68b0 : (((rd_T80 l0_0 x9_3).f0) == 39) = false := beq_eq_false_iff_ne.mpr c68
                     have c68b1 : (((rd_T80 l0_0 x9_3).f0) != 39) = true := bne_iff_ne.mpr c68
                     have H' := As.mk H
                     clear H
                     have hnb73 := NB202_191.out
                     have hnc73 := NB191_202.out
                     have cz_ := c3_ (w := wc) (g := gb202) BK202.out; obtain ⟨hcz74_0, hcz74_1, hcz74_2⟩ := cz_
                     have hfz74 := kF BK202.out
                     go_wp2_with (first | (go_at_call 49; (with_reducible refine (F5.calls kj52 ((rd_T80 l0_0 x9_3).f0) ((rd_T80 l0_0 x9_3).f1) ((rd_T80 l0_0 x9_3).f2) true _ A60.out).mono ?_); rintro e w75 ⟨rfl, hb⟩; replace BK191 := As.mk (kB (g := gb191) (o := .cells #[.slice (some ad201) l0_0.length c0_0, .slice A0_1 l0_1.length c0_1] 31 (0, 0)) (by (with_reducible repeat (first | refine kD ?_ _ | refine kE ?_ | refine kA ?_ _)); exact BK191.out) hb); replace BK202 := As.mk (kB (g := gb202) (o := .cells #[.int .i64 ((rd_T80 l0_0 x9_3).f0), .int .i64 ((rd_T80 l0_0 x9_3).f1), .string ((rd_T80 l0_0 x9_3).f2)] 80 (0, 0)) (by (with_reducible repeat (first | refine kD ?_ _ | refine kE ?_ | refine kA ?_ _)); exact BK202.out) hb); replace HB := As.mk (bT (by repeat (first | (with_reducible first | exact HB.out | apply bA | apply bD | apply bE | refine bS ?_ GE191.out | refine bS ?_ GE202.out) | exact HB.out)) hb); (try clear hb); have cz_ := c3_ (w := w75) (g := gb202) BK202.out; obtain ⟨hcz76_0, hcz76_1, hcz76_2⟩ := cz_; have hfz76 := kF BK202.out))
                     go_meet
                     case rel => exact ⟨_, ((((rd_T80 l0_0 x9_3).f0) == 38)), (by first | rfl | (simp; done) | (simp [*]; done)), H', ⟨by have := HJ1.out; have := HK2.out; have := HK3.out; have := HJ45.out; have := HJ52.out; first | omega | exact Nat.le_refl _⟩, ⟨by (with_reducible repeat (first | refine kD ?_ _ | refine kE ?_ | refine kA ?_ _)); exact BK191.out⟩, ⟨by (with_reducible repeat (first | refine kD ?_ _ | refine kE ?_ | refine kA ?_ _)); exact BK202.out⟩, ⟨by repeat (first | (with_reducible first | exact HB.out | apply bA | apply bD | apply bE | refine bS ?_ GE191.out | refine bS ?_ GE202.out) | exact HB.out)⟩⟩
                   ·rw [if_neg c67] at H
                    have c67b0 : decide (x9_3 < x8_45) = false := decide_eq_false c67
                    clear c67
                    have H' := As.mk H
                    clear H
                    have hnb77 := NB202_191.out
                    have hnc77 := NB191_202.out
                    have cz_ := c3_ (w := wc) (g := gb202) BK202.out; obtain ⟨hcz78_0, hcz78_1, hcz78_2⟩ := cz_
                    have hfz78 := kF BK202.out
                    go_wp2_with (first | (go_at_call 49; (with_reducible refine (F5.calls kj52 ((rd_T80 l0_0 x9_3).f0) ((rd_T80 l0_0 x9_3).f1) ((rd_T80 l0_0 x9_3).f2) true _ A60.out).mono ?_); rintro e w79 ⟨rfl, hb⟩; replace BK191 := As.mk (kB (g := gb191) (o := .cells #[.slice (some ad201) l0_0.length c0_0, .slice A0_1 l0_1.length c0_1] 31 (0, 0)) (by (with_reducible repeat (first | refine kD ?_ _ | refine kE ?_ | refine kA ?_ _)); exact BK191.out) hb); replace BK202 := As.mk (kB (g := gb202) (o := .cells #[.int .i64 ((rd_T80 l0_0 x9_3).f0), .int .i64 ((rd_T80 l0_0 x9_3).f1), .string ((rd_T80 l0_0 x9_3).f2)] 80 (0, 0)) (by (with_reducible repeat (first | refine kD ?_ _ | refine kE ?_ | refine kA ?_ _)); exact BK202.out) hb); replace HB := As.mk (bT (by repeat (first | (with_reducible first | exact HB.out | apply bA | apply bD | apply bE | refine bS ?_ GE191.out | refine bS ?_ GE202.out) | exact HB.out)) hb); (try clear hb); have cz_ := c3_ (w := w79) (g := gb202) BK202.out; obtain ⟨hcz80_0, hcz80_1, hcz80_2⟩ := cz_; have hfz80 := kF BK202.out))
                    go_meet
                    case rel => exact ⟨_, (false), (by first | rfl | (simp; done) | (simp [*]; done)), H', ⟨by have := HJ1.out; have := HK2.out; have := HK3.out; have := HJ45.out; have := HJ52.out; first | omega | exact Nat.le_refl _⟩, ⟨by (with_reducible repeat (first | refine kD ?_ _ | refine kE ?_ | refine kA ?_ _)); exact BK191.out⟩, ⟨by (with_reducible repeat (first | refine kD ?_ _ | refine kE ?_ | refine kA ?_ _)); exact BK202.out⟩, ⟨by repeat (first | (with_reducible first | exact HB.out | apply bA | apply bD | apply bE | refine bS ?_ GE191.out | refine bS ?_ GE202.out) | exact HB.out)⟩⟩
                 ·replace c61 := Bool.eq_false_iff.mpr c61
                  subst c61
                  replace H : (F1.j7 kj52 (l0_0.length : Int) x7_45 x8_45 x9_3 true l0_0 l0_1 ((rd_T80 l0_0 x9_3).f0) ((rd_T80 l0_0 x9_3).f1) ((rd_T80 l0_0 x9_3).f2)) = some r := by rw [if_neg (show ¬ (false = true) by decide)] at H; exact H
                  have H' := As.mk H
                  clear H
                  have hnb81 := NB202_191.out
                  have hnc81 := NB191_202.out
                  have cz_ := c3_ (w := wc) (g := gb202) BK202.out; obtain ⟨hcz82_0, hcz82_1, hcz82_2⟩ := cz_
                  have hfz82 := kF BK202.out
                  go_wp2_with (first | (go_at_call 49; (with_reducible refine (F5.calls kj52 ((rd_T80 l0_0 x9_3).f0) ((rd_T80 l0_0 x9_3).f1) ((rd_T80 l0_0 x9_3).f2) false _ A60.out).mono ?_); rintro e w83 ⟨rfl, hb⟩; replace BK191 := As.mk (kB (g := gb191) (o := .cells #[.slice (some ad201) l0_0.length c0_0, .slice A0_1 l0_1.length c0_1] 31 (0, 0)) (by (with_reducible repeat (first | refine kD ?_ _ | refine kE ?_ | refine kA ?_ _)); exact BK191.out) hb); replace BK202 := As.mk (kB (g := gb202) (o := .cells #[.int .i64 ((rd_T80 l0_0 x9_3).f0), .int .i64 ((rd_T80 l0_0 x9_3).f1), .string ((rd_T80 l0_0 x9_3).f2)] 80 (0, 0)) (by (with_reducible repeat (first | refine kD ?_ _ | refine kE ?_ | refine kA ?_ _)); exact BK202.out) hb); replace HB := As.mk (bT (by repeat (first | (with_reducible first | exact HB.out | apply bA | apply bD | apply bE | refine bS ?_ GE191.out | refine bS ?_ GE202.out) | exact HB.out)) hb); (try clear hb)))
                  go_meet
                  case rel => exact ⟨_, (true), (by first | rfl | (simp; done) | (simp [*]; done)), H', ⟨by have := HJ1.out; have := HK2.out; have := HK3.out; have := HJ45.out; have := HJ52.out; first | omega | exact Nat.le_refl _⟩, ⟨by (with_reducible repeat (first | refine kD ?_ _ | refine kE ?_ | refine kA ?_ _)); exact BK191.out⟩, ⟨by (with_reducible repeat (first | refine kD ?_ _ | refine kE ?_ | refine kA ?_ _)); exact BK202.out⟩, ⟨by repeat (first | (with_reducible first | exact HB.out | apply bA | apply bD | apply bE | refine bS ?_ GE191.out | refine bS ?_ GE202.out) | exact HB.out)⟩⟩
                case rest =>
                 clear HC59
                 try clear c8
                 try clear c9
                 try clear c9b0
                 try clear c45
                 try clear c45b0
                 try clear c51
                 try clear c51b0
                 try clear c52
                 try clear c52b0
                 try clear hcz44_0
                 try clear hcz44_1
                 try clear hcz4_0
                 try clear hcz4_1
                 try clear hcz54_0
                 try clear hcz54_1
                 try clear hcz57_0
                 try clear hcz57_1
                 try clear hcz57_2
                 try clear hfz44
                 try clear hfz4
                 try clear hfz54
                 try clear hfz57
                 try clear hx201_0
                 try clear hx201_1
                 try clear hx201_2
                 try clear p201
                 try clear q201
                 obtain ⟨kq, x126_58, rfl, HA, HJ58, BK191, BK202, HB⟩ := hcut
                 cases kq with
                 | zero => exact absurd HA.out (by simp [F1.j7])
                 | succ kj58 =>
                  have H := HA.out
                  clear HA
                  simp only [F1.j7] at H
                  by_cases c84 : x126_58 = true
                  ·subst c84
                   replace H : (some false) = some r := by rw [if_pos rfl] at H; exact H
                   obtain rfl := Option.some.inj H
                   go_wp2
                   go_ret
                   exact ⟨by first | rfl | (simp [eN, eS] <;> rfl) | (simp [*, eN, eS] <;> rfl), by repeat (first | (with_reducible first | exact HB.out | apply bA | apply bD | apply bE | refine bS ?_ GE191.out | refine bS ?_ GE202.out) | exact HB.out)⟩
                  ·replace c84 := Bool.eq_false_iff.mpr c84
                   subst c84
                   replace H : (if ((rd_T80 l0_0 x9_3).f0) = 32 then (F1.j8 kj58 (l0_0.length : Int) x7_45 x8_45 x9_3 ((rd_T80 l0_0 x9_3).f0) (((rd_T80 l0_0 x9_3).f0) == 32) l0_0 l0_1 ((rd_T80 l0_0 x9_3).f0) ((rd_T80 l0_0 x9_3).f1) ((rd_T80 l0_0 x9_3).f2)) else (F1.j8 kj58 (l0_0.length : Int) x7_45 x8_45 x9_3 ((rd_T80 l0_0 x9_3).f0) (((rd_T80 l0_0 x9_3).f0) == 33) l0_0 l0_1 ((rd_T80 l0_0 x9_3).f0) ((rd_T80 l0_0 x9_3).f1) ((rd_T80 l0_0 x9_3).f2))) = some r := by rw [if_neg (show ¬ (false = true) by decide)] at H; exact H
                   have HC85 := As.mk H
                   clear H
                   have hnb86 := NB202_191.out
                   have hnc86 := NB191_202.out
                   have cz_ := c3_ (w := wc) (g := gb202) BK202.out; obtain ⟨hcz87_0, hcz87_1, hcz87_2⟩ := cz_
                   have hfz87 := kF BK202.out
                   go_upto_if 129 with (fail)
                   go_cut [129] (fun v129 wc => ∃ (kq : Nat) (x129_84 : Bool), v129 = .bool x129_84 ∧ As (F1.j8 kq (l0_0.length : Int) x7_45 x8_45 x9_3 ((rd_T80 l0_0 x9_3).f0) x129_84 l0_0 l0_1 ((rd_T80 l0_0 x9_3).f0) ((rd_T80 l0_0 x9_3).f1) ((rd_T80 l0_0 x9_3).f2) = some r) ∧ As (kq ≤ kj58) ∧ As (wc.heap[gb191]? = some (.cells #[(.slice (some ad201) l0_0.length c0_0), (.slice A0_1 l0_1.length c0_1)] 31 (0, 0))) ∧ As (wc.heap[gb202]? = some (.cells #[.int .i64 ((rd_T80 l0_0 x9_3).f0), .int .i64 ((rd_T80 l0_0 x9_3).f1), .string ((rd_T80 l0_0 x9_3).f2)] 80 (0, 0))) ∧ As (Below w.heap.size w wc))
                   case first =>
                    have H := HC85.out
                    clear HC85
                    by_cases c88 : ((rd_T80 l0_0 x9_3).f0) = 32
                    ·rw [if_pos c88] at H
                     have c88b0 : (((rd_T80 l0_0 x9_3).f0) == 32) = true := beq_iff_eq.mpr c88
                     have c88b1 : (((rd_T80 l0_0 x9_3).f0) != 32) = false := bne_eq_false_iff_eq.mpr c88
                     clear c88
                     (first | rw [c88b0] | (simp only [i64_w, i32_w]; rw [c88b0]) | skip)
                     have H' := As.mk H
                     clear H
                     go_wp2
                     go_meet
                     case rel => exact ⟨_, ((((rd_T80 l0_0 x9_3).f0) == 32)), (by first | rfl | (simp; done) | (simp [*]; done)), H', ⟨by have := HJ1.out; have := HK2.out; have := HK3.out; have := HJ45.out; have := HJ52.out; have := HJ58.out; first | omega | exact Nat.le_refl _⟩, ⟨by (with_reducible repeat (first | refine kD ?_ _ | refine kE ?_ | refine kA ?_ _)); exact BK191.out⟩, ⟨by (with_reducible repeat (first | refine kD ?_ _ | refine kE ?_ | refine kA ?_ _)); exact BK202.out⟩, ⟨by repeat (first | (with_reducible first | exact HB.out | apply bA | apply bD | apply bE | refine bS ?_ GE191.out | refine bS ?_ GE202.out) | exact HB.out)⟩⟩
                    ·rw [if_neg c88] at H
                     have c88b0 : (((rd_T80 l0_0 x9_3).f0) == 32) = false := beq_eq_false_iff_ne.mpr c88
                     have c88b1 : (((rd_T80 l0_0 x9_3).f0) != 32) = true := bne_iff_ne.mpr c88
                     (first | rw [c88b0] | (simp only [i64_w, i32_w]; rw [c88b0]) | skip)
                     have H' := As.mk H
                     clear H
                     go_wp2
                     go_meet
                     case rel => exact ⟨_, ((((rd_T80 l0_0 x9_3).f0) == 33)), (by first | rfl | (simp; done) | (simp [*]; done)), H', ⟨by have := HJ1.out; have := HK2.out; have := HK3.out; have := HJ45.out; have := HJ52.out; have := HJ58.out; first | omega | exact Nat.le_refl _⟩, ⟨by (with_reducible repeat (first | refine kD ?_ _ | refine kE ?_ | refine kA ?_ _)); exact BK191.out⟩, ⟨by (with_reducible repeat (first | refine kD ?_ _ | refine kE ?_ | refine kA ?_ _)); exact BK202.out⟩, ⟨by repeat (first | (with_reducible first | exact HB.out | apply bA | apply bD | apply bE | refine bS ?_ GE191.out | refine bS ?_ GE202.out) | exact HB.out)⟩⟩
                   case rest =>
                    clear HC85
                    try clear c8
                    try clear c9
                    try clear c9b0
                    try clear c45
                    try clear c45b0
                    try clear c51
                    try clear c51b0
                    try clear c52
                    try clear c52b0
                    try clear c84
                    try clear hcz44_0
                    try clear hcz44_1
                    try clear hcz4_0
                    try clear hcz4_1
                    try clear hcz54_0
                    try clear hcz54_1
                    try clear hcz57_0
                    try clear hcz57_1
                    try clear hcz57_2
                    try clear hcz87_0
                    try clear hcz87_1
                    try clear hcz87_2
                    try clear hfz44
                    try clear hfz4
                    try clear hfz54
                    try clear hfz57
                    try clear hfz87
                    try clear hx201_0
                    try clear hx201_1
                    try clear hx201_2
                    try clear p201
                    try clear q201
                    obtain ⟨kq, x129_84, rfl, HA, HJ84, BK191, BK202, HB⟩ := hcut
                    cases kq with
                    | zero => exact absurd HA.out (by simp [F1.j8])
                    | succ kj84 =>
                     have H := HA.out
                     clear HA
                     simp only [F1.j8] at H
                     by_cases c89 : x129_84 = true
                     ·subst c89
                      replace H : ((F24.f ((rd_T80 l0_0 x9_3).f1) (wrap64 (x9_3 + 1)) x8_45).bind fun t204 => (if t204 = true then (F1.l2 kj84 (l0_0.length : Int) x7_45 x8_45 (wrap64 (x9_3 + 1)) l0_0 l0_1) else (some false))) = some r := by rw [if_pos rfl] at H; exact H
                      replace H := Option.bind_eq_some_iff.mp H
                      obtain ⟨t204, A900, H⟩ := H
                      replace H : (if t204 = true then (F1.l2 kj84 (l0_0.length : Int) x7_45 x8_45 (wrap64 (x9_3 + 1)) l0_0 l0_1) else (some false)) = some r := H
                      have A90 := As.mk A900
                      clear A900
                      by_cases c91 : t204 = true
                      ·subst c91
                       replace H : (F1.l2 kj84 (l0_0.length : Int) x7_45 x8_45 (wrap64 (x9_3 + 1)) l0_0 l0_1) = some r := by rw [if_pos rfl] at H; exact H
                       have H' := As.mk H
                       clear H
                       have hnb92 := NB202_191.out
                       have hnc92 := NB191_202.out
                       have cz_ := c3_ (w := wc) (g := gb202) BK202.out; obtain ⟨hcz93_0, hcz93_1, hcz93_2⟩ := cz_
                       have hfz93 := kF BK202.out
                       go_wp2_with (first | (go_at_call 46; (with_reducible refine (F24.calls ((rd_T80 l0_0 x9_3).f1) (wrap64 (x9_3 + 1)) x8_45 true _ A90.out).mono ?_); rintro e w' ⟨rfl, ⟨nd, rfl⟩⟩; (try first | exact ⟨rfl, _, World.drewN_drewN _ _ _⟩ | exact ⟨rfl, _, Eq.trans (World.drewN_drewN _ _ _) (congrArg (World.drewN _) (Nat.add_assoc _ _ _))⟩)))
                       go_roundg kj84
                       case measure => have := HJ1.out; have := HK2.out; have := HK3.out; have := HJ45.out; have := HJ52.out; have := HJ58.out; have := HJ84.out; omega
                       case rel => exact ⟨(x7_45), (x8_45), (wrap64 (x9_3 + 1)), (by first | rfl | (simp; done) | (simp [*]; done)), (by first | rfl | (simp; done) | (simp [*]; done)), (by first | rfl | (simp; done) | (simp [*]; done)), H', ⟨by have := HJ1.out; have := HK2.out; have := HK3.out; have := HJ45.out; have := HJ52.out; have := HJ58.out; have := HJ84.out; omega⟩, ⟨by (with_reducible repeat (first | refine kD ?_ _ | refine kE ?_ | refine kA ?_ _)); exact BK191.out⟩, ⟨by repeat (first | (with_reducible first | exact HB.out | apply bA | apply bD | apply bE | refine bS ?_ GE191.out | refine bS ?_ GE202.out) | exact HB.out)⟩⟩
                      ·replace c91 := Bool.eq_false_iff.mpr c91
                       subst c91
                       replace H : (some false) = some r := by rw [if_neg (show ¬ (false = true) by decide)] at H; exact H
                       obtain rfl := Option.some.inj H
                       have hnb94 := NB202_191.out
                       have hnc94 := NB191_202.out
                       have cz_ := c3_ (w := wc) (g := gb202) BK202.out; obtain ⟨hcz95_0, hcz95_1, hcz95_2⟩ := cz_
                       have hfz95 := kF BK202.out
                       go_wp2_with (first | (go_at_call 46; (with_reducible refine (F24.calls ((rd_T80 l0_0 x9_3).f1) (wrap64 (x9_3 + 1)) x8_45 false _ A90.out).mono ?_); rintro e w' ⟨rfl, ⟨nd, rfl⟩⟩; (try first | exact ⟨rfl, _, World.drewN_drewN _ _ _⟩ | exact ⟨rfl, _, Eq.trans (World.drewN_drewN _ _ _) (congrArg (World.drewN _) (Nat.add_assoc _ _ _))⟩)))
                       go_ret
                       exact ⟨by first | rfl | (simp [eN, eS] <;> rfl) | (simp [*, eN, eS] <;> rfl), by repeat (first | (with_reducible first | exact HB.out | apply bA | apply bD | apply bE | refine bS ?_ GE191.out | refine bS ?_ GE202.out) | exact HB.out)⟩
                     ·replace c89 := Bool.eq_false_iff.mpr c89
                      subst c89
                      replace H : (if ((rd_T80 l0_0 x9_3).f0) = 37 then ((F24.f ((rd_T80 l0_0 x9_3).f1) x7_45 (wrap64 (x9_3 - 1))).bind fun t205 => (if t205 = true then (if 0 ≤ ((rd_T80 l0_0 x9_3).f1) then (if ((rd_T80 l0_0 x9_3).f1) < (l0_0.length : Int) then (if ((rd_T80 l0_0 ((rd_T80 l0_0 x9_3).f1)).f0) = 31 then (F1.l2 kj84 (l0_0.length : Int) x7_45 x8_45 (wrap64 (x9_3 + 1)) l0_0 l0_1) else (some false)) else (none)) else (none)) else (some false))) else (F1.l2 kj84 (l0_0.length : Int) x7_45 x8_45 (wrap64 (x9_3 + 1)) l0_0 l0_1)) = some r := by rw [if_neg (show ¬ (false = true) by decide)] at H; exact H
                      by_cases c96 : ((rd_T80 l0_0 x9_3).f0) = 37
                      ·rw [if_pos c96] at H
                       have c96b0 : (((rd_T80 l0_0 x9_3).f0) == 37) = true := beq_iff_eq.mpr c96
                       have c96b1 : (((rd_T80 l0_0 x9_3).f0) != 37) = false := bne_eq_false_iff_eq.mpr c96
                       clear c96
                       replace H := Option.bind_eq_some_iff.mp H
                       obtain ⟨t205, A970, H⟩ := H
                       replace H : (if t205 = true then (if 0 ≤ ((rd_T80 l0_0 x9_3).f1) then (if ((rd_T80 l0_0 x9_3).f1) < (l0_0.length : Int) then (if ((rd_T80 l0_0 ((rd_T80 l0_0 x9_3).f1)).f0) = 31 then (F1.l2 kj84 (l0_0.length : Int) x7_45 x8_45 (wrap64 (x9_3 + 1)) l0_0 l0_1) else (some false)) else (none)) else (none)) else (some false)) = some r := H
                       have A97 := As.mk A970
                       clear A970
                       by_cases c98 : t205 = true
                       ·subst c98
                        replace H : (if 0 ≤ ((rd_T80 l0_0 x9_3).f1) then (if ((rd_T80 l0_0 x9_3).f1) < (l0_0.length : Int) then (if ((rd_T80 l0_0 ((rd_T80 l0_0 x9_3).f1)).f0) = 31 then (F1.l2 kj84 (l0_0.length : Int) x7_45 x8_45 (wrap64 (x9_3 + 1)) l0_0 l0_1) else (some false)) else (none)) else (none)) = some r := by rw [if_pos rfl] at H; exact H
                        by_cases c99 : 0 ≤ ((rd_T80 l0_0 x9_3).f1)
                        ·rw [if_pos c99] at H
                         have c99b0 : decide (0 ≤ ((rd_T80 l0_0 x9_3).f1)) = true := decide_eq_true c99
                         clear c99
                         by_cases c100 : ((rd_T80 l0_0 x9_3).f1) < (l0_0.length : Int)
                         ·rw [if_pos c100] at H
                          have c100b0 : decide (((rd_T80 l0_0 x9_3).f1) < (l0_0.length : Int)) = true := decide_eq_true c100
                          clear c100
                          by_cases c101 : ((rd_T80 l0_0 ((rd_T80 l0_0 x9_3).f1)).f0) = 31
                          ·rw [if_pos c101] at H
                           have c101b0 : (((rd_T80 l0_0 ((rd_T80 l0_0 x9_3).f1)).f0) == 31) = true := beq_iff_eq.mpr c101
                           have c101b1 : (((rd_T80 l0_0 ((rd_T80 l0_0 x9_3).f1)).f0) != 31) = false := bne_eq_false_iff_eq.mpr c101
                           clear c101
                           have H' := As.mk H
                           clear H
                           have hnb102 := NB202_191.out
                           have hnc102 := NB191_202.out
                           have cz_ := c3_ (w := wc) (g := gb202) BK202.out; obtain ⟨hcz103_0, hcz103_1, hcz103_2⟩ := cz_
                           have hfz103 := kF BK202.out
                           go_wp2_with (first | (go_at_call 46; (with_reducible refine (F24.calls ((rd_T80 l0_0 x9_3).f1) x7_45 (wrap64 (x9_3 - 1)) true _ A97.out).mono ?_); rintro e w' ⟨rfl, ⟨nd, rfl⟩⟩; (try first | exact ⟨rfl, _, World.drewN_drewN _ _ _⟩ | exact ⟨rfl, _, Eq.trans (World.drewN_drewN _ _ _) (congrArg (World.drewN _) (Nat.add_assoc _ _ _))⟩); have cz_ := c2_0 (w := wc) (g := gb191) BK191.out; obtain ⟨hcz104_0, hcz104_1⟩ := cz_; have hfz104 := kF BK191.out; have p206 : 0 ≤ (((rd_T80 l0_0 x9_3).f1) : Int) := of_decide_eq_true (by first | (with_reducible assumption) | assumption); have q206 : ((rd_T80 l0_0 x9_3).f1) < (l0_0.length : Int) := of_decide_eq_true (by first | (with_reducible assumption) | assumption); obtain ⟨ad206, e206, hx206_0, hx206_1, hx206_2⟩ := at_T80 HR0_0.out ((rd_T80 l0_0 x9_3).f1) p206 q206; obtain rfl : ad201 = ad206 := (by injection e206); replace hx206_0 := (HB.out.cell (World.block_lt_of_cell? w _ hx206_0)).trans hx206_0; replace hx206_1 := (HB.out.cell (World.block_lt_of_cell? w _ hx206_1)).trans hx206_1; replace hx206_2 := (HB.out.cell (World.block_lt_of_cell? w _ hx206_2)).trans hx206_2; replace p206 := eq_true p206; replace q206 := eq_true q206))
                           go_roundg kj84
                           case measure => have := HJ1.out; have := HK2.out; have := HK3.out; have := HJ45.out; have := HJ52.out; have := HJ58.out; have := HJ84.out; omega
                           case rel => exact ⟨(x7_45), (x8_45), (wrap64 (x9_3 + 1)), (by first | rfl | (simp; done) | (simp [*]; done)), (by first | rfl | (simp; done) | (simp [*]; done)), (by first | rfl | (simp; done) | (simp [*]; done)), H', ⟨by have := HJ1.out; have := HK2.out; have := HK3.out; have := HJ45.out; have := HJ52.out; have := HJ58.out; have := HJ84.out; omega⟩, ⟨by (with_reducible repeat (first | refine kD ?_ _ | refine kE ?_ | refine kA ?_ _)); exact BK191.out⟩, ⟨by repeat (first | (with_reducible first | exact HB.out | apply bA | apply bD | apply bE | refine bS ?_ GE191.out | refine bS ?_ GE202.out) | exact HB.out)⟩⟩
                          ·rw [if_neg c101] at H
                           have c101b0 : (((rd_T80 l0_0 ((rd_T80 l0_0 x9_3).f1)).f0) == 31) = false := beq_eq_false_iff_ne.mpr c101
                           have c101b1 : (((rd_T80 l0_0 ((rd_T80 l0_0 x9_3).f1)).f0) != 31) = true := bne_iff_ne.mpr c101
                           obtain rfl := Option.some.inj H
                           have hnb105 := NB202_191.out
                           have hnc105 := NB191_202.out
                           have cz_ := c3_ (w := wc) (g := gb202) BK202.out; obtain ⟨hcz106_0, hcz106_1, hcz106_2⟩ := cz_
                           have hfz106 := kF BK202.out
                           go_wp2_with (first | (go_at_call 46; (with_reducible refine (F24.calls ((rd_T80 l0_0 x9_3).f1) x7_45 (wrap64 (x9_3 - 1)) true _ A97.out).mono ?_); rintro e w' ⟨rfl, ⟨nd, rfl⟩⟩; (try first | exact ⟨rfl, _, World.drewN_drewN _ _ _⟩ | exact ⟨rfl, _, Eq.trans (World.drewN_drewN _ _ _) (congrArg (World.drewN _) (Nat.add_assoc _ _ _))⟩); have cz_ := c2_0 (w := wc) (g := gb191) BK191.out; obtain ⟨hcz107_0, hcz107_1⟩ := cz_; have hfz107 := kF BK191.out; have p206 : 0 ≤ (((rd_T80 l0_0 x9_3).f1) : Int) := of_decide_eq_true (by first | (with_reducible assumption) | assumption); have q206 : ((rd_T80 l0_0 x9_3).f1) < (l0_0.length : Int) := of_decide_eq_true (by first | (with_reducible assumption) | assumption); obtain ⟨ad206, e206, hx206_0, hx206_1, hx206_2⟩ := at_T80 HR0_0.out ((rd_T80 l0_0 x9_3).f1) p206 q206; obtain rfl : ad201 = ad206 := (by injection e206); replace hx206_0 := (HB.out.cell (World.block_lt_of_cell? w _ hx206_0)).trans hx206_0; replace hx206_1 := (HB.out.cell (World.block_lt_of_cell? w _ hx206_1)).trans hx206_1; replace hx206_2 := (HB.out.cell (World.block_lt_of_cell? w _ hx206_2)).trans hx206_2; replace p206 := eq_true p206; replace q206 := eq_true q206))
                           go_ret
                           exact ⟨by first | rfl | (simp [eN, eS] <;> rfl) | (simp [*, eN, eS] <;> rfl), by repeat (first | (with_reducible first | exact HB.out | apply bA | apply bD | apply bE | refine bS ?_ GE191.out | refine bS ?_ GE202.out) | exact HB.out)⟩
                         ·rw [if_neg c100] at H
                          exact absurd H (by simp)
                        ·rw [if_neg c99] at H
                         exact absurd H (by simp)
                       ·replace c98 := Bool.eq_false_iff.mpr c98
                        subst c98
                        replace H : (some false) = some r := by rw [if_neg (show ¬ (false = true) by decide)] at H; exact H
                        obtain rfl := Option.some.inj H
                        have hnb108 := NB202_191.out
                        have hnc108 := NB191_202.out
                        have cz_ := c3_ (w := wc) (g := gb202) BK202.out; obtain ⟨hcz109_0, hcz109_1, hcz109_2⟩ := cz_
                        have hfz109 := kF BK202.out
                        go_wp2_with (first | (go_at_call 46; (with_reducible refine (F24.calls ((rd_T80 l0_0 x9_3).f1) x7_45 (wrap64 (x9_3 - 1)) false _ A97.out).mono ?_); rintro e w' ⟨rfl, ⟨nd, rfl⟩⟩; (try first | exact ⟨rfl, _, World.drewN_drewN _ _ _⟩ | exact ⟨rfl, _, Eq.trans (World.drewN_drewN _ _ _) (congrArg (World.drewN _) (Nat.add_assoc _ _ _))⟩)))
                        go_ret
                        exact ⟨by first | rfl | (simp [eN, eS] <;> rfl) | (simp [*, eN, eS] <;> rfl), by repeat (first | (with_reducible first | exact HB.out | apply bA | apply bD | apply bE | refine bS ?_ GE191.out | refine bS ?_ GE202.out) | exact HB.out)⟩
                      ·rw [if_neg c96] at H
                       have c96b0 : (((rd_T80 l0_0 x9_3).f0) == 37) = false := beq_eq_false_iff_ne.mpr c96
                       have c96b1 : (((rd_T80 l0_0 x9_3).f0) != 37) = true := bne_iff_ne.mpr c96
                       have H' := As.mk H
                       clear H
                       go_wp2
                       go_roundg kj84
                       case measure => have := HJ1.out; have := HK2.out; have := HK3.out; have := HJ45.out; have := HJ52.out; have := HJ58.out; have := HJ84.out; omega
                       case rel => exact ⟨(x7_45), (x8_45), (wrap64 (x9_3 + 1)), (by first | rfl | (simp; done) | (simp [*]; done)), (by first | rfl | (simp; done) | (simp [*]; done)), (by first | rfl | (simp; done) | (simp [*]; done)), H', ⟨by have := HJ1.out; have := HK2.out; have := HK3.out; have := HJ45.out; have := HJ52.out; have := HJ58.out; have := HJ84.out; omega⟩, ⟨by (with_reducible repeat (first | refine kD ?_ _ | refine kE ?_ | refine kA ?_ _)); exact BK191.out⟩, ⟨by repeat (first | (with_reducible first | exact HB.out | apply bA | apply bD | apply bE | refine bS ?_ GE191.out | refine bS ?_ GE202.out) | exact HB.out)⟩⟩
             ·rw [if_neg c52] at H
              exact absurd H (by simp)
            ·rw [if_neg c51] at H
             exact absurd H (by simp)
         ·rw [if_neg c45] at H
          have c45b0 : decide (x9_3 < (l0_0.length : Int)) = false := decide_eq_false c45
          clear c45
          obtain rfl := Option.some.inj H
          go_wp2
          go_ret
          exact ⟨by first | rfl | (simp [eN, eS] <;> rfl) | (simp [*, eN, eS] <;> rfl), by repeat (first | (with_reducible first | exact HB.out | apply bA | apply bD | apply bE | refine bS ?_ GE191.out) | exact HB.out)⟩
end Go.Proofs.Ytbamjjaamjfnaaa.PFnExactNewMatcher
