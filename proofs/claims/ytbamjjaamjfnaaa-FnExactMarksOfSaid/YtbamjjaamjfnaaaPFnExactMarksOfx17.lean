/- Walks of printed functions. Conditions: none beyond each statement. -/
import Derived.Test.YtbamjjaamjfnaaaPFnExactMarksOfx0
import Derived.Test.YtbamjjaamjfnaaaPFnExactMarksOfx1
import Derived.Test.YtbamjjaamjfnaaaPFnExactMarksOfx2
import Derived.Test.YtbamjjaamjfnaaaPFnExactMarksOfx9
import Derived.Test.YtbamjjaamjfnaaaPFnExactMarksOfx16
namespace Go.Proofs.Ytbamjjaamjfnaaa.PFnExactMarksOf
open Go.RowKit Go.Proofs.YtbamjjaamjfnaaaW.PrintWords Go.Proofs.YtbamjjaamjfnaaaW.PrintLast Go.Proofs.YtbamjjaamjfnaaaW.PrintMore
set_option maxHeartbeats 8000000
set_option maxRecDepth 100000
attribute [local go_sem] max2_int min2_int max_two min_two max_three min_three max_four min_four   -- for this text's walks alone
set_option linter.unusedVariables false
set_option linter.unusedSimpArgs false
mutual
def laws_FnExactMarksOf.j0 : Nat → List Int → Int → List Int → Int → Bool → List (S72) → List (S75) → List (S80) → List (S77) → Option (Bool)
 | 0, _, _, _, _, _, _, _, _, _ => none
 | k + 1, x4, x5, x7, x8, x40, x400000, x400001, x418000, x418001 => if x40 = true then (none) else ((F23.f k x400000 x400001).bind fun bt423 => ((F34.f k x418000 x418001 bt423.1 bt423.2).bind fun t429 => (if t429 = true then ((F31.f k x418000 x418001 1).bind fun bt430 => (if bt430.1 < 0 then (laws_FnExactMarksOf.j1 k x4 x5 x7 true x400000 x400001) else ((F14.f k x7 x4).bind fun t433 => (if t433 = true then (laws_FnExactMarksOf.j1 k x4 x5 x7 (x8 != x5) x400000 x400001) else (laws_FnExactMarksOf.j1 k x4 x5 x7 true x400000 x400001))))) else (none))))
def laws_FnExactMarksOf.j1 : Nat → List Int → Int → List Int → Bool → List (S72) → List (S75) → Option (Bool)
 | 0, _, _, _, _, _, _ => none
 | k + 1, x4, x5, x7, x61, x400000, x400001 => if x61 = true then (none) else ((F28.f k x7 1).bind fun bt434 => ((F24.f k bt434.2 1).bind fun t436 => (if t436 < 0 then (none) else (if t436 = bt434.1 then ((F23.f k x400000 x400001).bind fun bt437 => ((F37.f k bt437.1 bt437.2).bind fun bt443 => ((F14.f k bt443.1 x4).bind fun t447 => (if t447 = true then (laws_FnExactMarksOf.j2 k bt434.2 bt434.1 (bt443.2 != x5)) else (laws_FnExactMarksOf.j2 k bt434.2 bt434.1 true))))) else (none)))))
def laws_FnExactMarksOf.j2 : Nat → List Int → Int → Bool → Option (Bool)
 | 0, _, _, _ => none
 | k + 1, x7, x10, x87 => if x87 = true then (none) else ((F24.f k x7 1).bind fun t448 => (if t448 < 0 then (none) else (if t448 = x10 then (some true) else (none))))
end
def laws_FnExactMarksOf.f (k : Nat) (l0_0 : List (S72)) (l0_1 : List (S75)) : Option (Bool) := (F35.f k l0_0 l0_1 1048576).bind fun t400 => (if t400 < 0 then (some true) else ((F23.f k l0_0 l0_1).bind fun bt401 => ((F42.f k bt401.1 bt401.2).bind fun bt407 => ((F23.f k l0_0 l0_1).bind fun bt411 => ((F37.f k bt411.1 bt411.2).bind fun bt418 => ((F14.f k bt418.1 bt407.1).bind fun t422 => (if t422 = true then (laws_FnExactMarksOf.j0 k bt407.1 bt407.2 bt418.1 bt418.2 (bt418.2 != bt407.2) l0_0 l0_1 bt411.1 bt411.2) else (laws_FnExactMarksOf.j0 k bt407.1 bt407.2 bt418.1 bt418.2 true l0_0 l0_1 bt411.1 bt411.2))))))))
theorem laws_FnExactMarksOf.mono_l : ∀ k, (∀ y0 y1 y2 y3 y4 y5 y6 y7 y8, LeO (laws_FnExactMarksOf.j0 k y0 y1 y2 y3 y4 y5 y6 y7 y8) (laws_FnExactMarksOf.j0 (k + 1) y0 y1 y2 y3 y4 y5 y6 y7 y8)) ∧ (∀ y0 y1 y2 y3 y4 y5, LeO (laws_FnExactMarksOf.j1 k y0 y1 y2 y3 y4 y5) (laws_FnExactMarksOf.j1 (k + 1) y0 y1 y2 y3 y4 y5)) ∧ (∀ y0 y1 y2, LeO (laws_FnExactMarksOf.j2 k y0 y1 y2) (laws_FnExactMarksOf.j2 (k + 1) y0 y1 y2))
 | 0 => ⟨fun _ _ _ _ _ _ _ _ _ r h => by simp [laws_FnExactMarksOf.j0] at h, fun _ _ _ _ _ _ r h => by simp [laws_FnExactMarksOf.j1] at h, fun _ _ _ r h => by simp [laws_FnExactMarksOf.j2] at h⟩
 | k + 1 => by
  obtain ⟨ih0, ih1, ih2⟩ := laws_FnExactMarksOf.mono_l k
  refine ⟨?_, ?_, ?_⟩
  ·intro y0 y1 y2 y3 y4 y5 y6 y7 y8
   unfold laws_FnExactMarksOf.j0
   repeat' with_reducible first
   | exact ih0 _ _ _ _ _ _ _ _ _
   | exact ih1 _ _ _ _ _ _
   | exact ih2 _ _ _
   | exact F37.mono _ _ _
   | exact F14.mono _ _ _
   | exact F34.mono _ _ _ _ _
   | exact F24.mono _ _ _
   | exact F28.mono _ _ _
   | exact F31.mono _ _ _ _
   | exact F35.mono _ _ _ _
   | exact F23.mono _ _ _
   | exact F42.mono _ _ _
   | exact LeO.refl _
   | exact LeO.none _
   | refine LeO.ite ?_ ?_
   | refine LeO.bind ?_ (fun _ => ?_)
  ·intro y0 y1 y2 y3 y4 y5
   unfold laws_FnExactMarksOf.j1
   repeat' with_reducible first
   | exact ih0 _ _ _ _ _ _ _ _ _
   | exact ih1 _ _ _ _ _ _
   | exact ih2 _ _ _
   | exact F37.mono _ _ _
   | exact F14.mono _ _ _
   | exact F34.mono _ _ _ _ _
   | exact F24.mono _ _ _
   | exact F28.mono _ _ _
   | exact F31.mono _ _ _ _
   | exact F35.mono _ _ _ _
   | exact F23.mono _ _ _
   | exact F42.mono _ _ _
   | exact LeO.refl _
   | exact LeO.none _
   | refine LeO.ite ?_ ?_
   | refine LeO.bind ?_ (fun _ => ?_)
  ·intro y0 y1 y2
   unfold laws_FnExactMarksOf.j2
   repeat' with_reducible first
   | exact ih0 _ _ _ _ _ _ _ _ _
   | exact ih1 _ _ _ _ _ _
   | exact ih2 _ _ _
   | exact F37.mono _ _ _
   | exact F14.mono _ _ _
   | exact F34.mono _ _ _ _ _
   | exact F24.mono _ _ _
   | exact F28.mono _ _ _
   | exact F31.mono _ _ _ _
   | exact F35.mono _ _ _ _
   | exact F23.mono _ _ _
   | exact F42.mono _ _ _
   | exact LeO.refl _
   | exact LeO.none _
   | refine LeO.ite ?_ ?_
   | refine LeO.bind ?_ (fun _ => ?_)
theorem laws_FnExactMarksOf.mono : ∀ a0 a1 k, LeO (laws_FnExactMarksOf.f k a0 a1) (laws_FnExactMarksOf.f (k + 1) a0 a1) := by
 intro a0 a1 k
 obtain ⟨ih0, ih1, ih2⟩ := laws_FnExactMarksOf.mono_l k
 unfold laws_FnExactMarksOf.f
 repeat' with_reducible first
   | exact ih0 _ _ _ _ _ _ _ _ _
   | exact ih1 _ _ _ _ _ _
   | exact ih2 _ _ _
   | exact F37.mono _ _ _
   | exact F14.mono _ _ _
   | exact F34.mono _ _ _ _ _
   | exact F24.mono _ _ _
   | exact F28.mono _ _ _
   | exact F31.mono _ _ _ _
   | exact F35.mono _ _ _ _
   | exact F23.mono _ _ _
   | exact F42.mono _ _ _
   | exact LeO.refl _
   | exact LeO.none _
   | refine LeO.ite ?_ ?_
   | refine LeO.bind ?_ (fun _ => ?_)
theorem laws_FnExactMarksOf.calls (k : Nat) (A0_0 : Option Addr) (c0_0 : Nat) (l0_0 : List (S72)) (A0_1 : Option Addr) (c0_1 : Nat) (l0_1 : List (S75)) (r : Bool) (w : World) (hr0_0 : Kd.C k72 w A0_0 l0_0.length l0_0) (hc0_0 : l0_0.length ≤ c0_0) (hr0_1 : Kd.C k75 w A0_1 l0_1.length l0_1) (hc0_1 : l0_1.length ≤ c0_1) (h : laws_FnExactMarksOf.f k l0_0 l0_1 = some r) :
  Calls Try.prog 4 #[.agg #[.slice A0_0 l0_0.length c0_0, .slice A0_1 l0_1.length c0_1]] w fun e w' => e = .returned (.bool r) ∧ Below w.heap.size w w' := by
 have hu25 := Try.underlying25
 have hu31 := Try.underlying31
 have HR0_0 := As.mk hr0_0
 have HC0_0 := As.mk hc0_0
 clear hr0_0 hc0_0
 have HR0_1 := As.mk hr0_1
 have HC0_1 := As.mk hc0_1
 clear hr0_1 hc0_1
 have HB := As.mk (Below.refl w.heap.size w)
 have H : ((F35.f k l0_0 l0_1 1048576).bind fun t400 => (if t400 < 0 then (some true) else ((F23.f k l0_0 l0_1).bind fun bt401 => ((F42.f k bt401.1 bt401.2).bind fun bt407 => ((F23.f k l0_0 l0_1).bind fun bt411 => ((F37.f k bt411.1 bt411.2).bind fun bt418 => ((F14.f k bt418.1 bt407.1).bind fun t422 => (if t422 = true then (laws_FnExactMarksOf.j0 k bt407.1 bt407.2 bt418.1 bt418.2 (bt418.2 != bt407.2) l0_0 l0_1 bt411.1 bt411.2) else (laws_FnExactMarksOf.j0 k bt407.1 bt407.2 bt418.1 bt418.2 true l0_0 l0_1 bt411.1 bt411.2))))))))) = some r := h
 clear h
 replace H := Option.bind_eq_some_iff.mp H
 obtain ⟨t400, A20, H⟩ := H
 replace H : (if t400 < 0 then (some true) else ((F23.f k l0_0 l0_1).bind fun bt401 => ((F42.f k bt401.1 bt401.2).bind fun bt407 => ((F23.f k l0_0 l0_1).bind fun bt411 => ((F37.f k bt411.1 bt411.2).bind fun bt418 => ((F14.f k bt418.1 bt407.1).bind fun t422 => (if t422 = true then (laws_FnExactMarksOf.j0 k bt407.1 bt407.2 bt418.1 bt418.2 (bt418.2 != bt407.2) l0_0 l0_1 bt411.1 bt411.2) else (laws_FnExactMarksOf.j0 k bt407.1 bt407.2 bt418.1 bt418.2 true l0_0 l0_1 bt411.1 bt411.2)))))))) = some r := H
 have A2 := As.mk A20
 clear A20
 by_cases c3 : t400 < 0
 ·rw [if_pos c3] at H
  have c3b0 : decide (t400 < 0) = true := decide_eq_true c3
  clear c3
  obtain rfl := Option.some.inj H
  go_enter Try.func4, Try.ntmps4
  go_wp2_with (first | ((with_reducible refine gD (N := 1) rfl ?_); refine bX ?hg (N := 1) ?hd (cs := #[.slice A0_0 l0_0.length c0_0, .slice A0_1 l0_1.length c0_1]) (t := 25) ?hr ?_; (case hd => rfl); (case hg => rfl); (case hr => first | (go_simp; done) | (go_simp; rfl)); intro gb399 hg w4 hbox hb; have BK399 := As.mk (hbox); have GW399 := As.mk ((by rw [hg]; exact (bZ (by repeat (first | (with_reducible first | exact HB.out | apply bA | apply bD | apply bE) | exact HB.out))) : w.heap.size ≤ gb399)); have GE399 := GW399; replace HB := As.mk (bT (by repeat (first | (with_reducible first | exact HB.out | apply bA | apply bD | apply bE) | exact HB.out)) hb); clear hb hbox hg; have cz_ := c2_0 (w := w4) (g := gb399) BK399.out; obtain ⟨hcz5_0, hcz5_1⟩ := cz_; have hfz5 := kF BK399.out) | ((with_reducible refine gC (f := 6) rfl ?_); refine gL (some 16) rfl rfl Try.func6 (by kernel_rfl) rfl #[.agg #[.slice A0_0 l0_0.length c0_0, .slice A0_1 l0_1.length c0_1], .int .i64 1048576] rfl (by (try simp only [sm1, sm2, sm3]); first | done | rfl) ?_; (with_reducible refine (F35.calls k _ _ l0_0 _ _ l0_1 1048576 t400 _ ?side1 ?side2 ?side3 ?side4 A2.out).mono ?_); (case side1 => repeat (first | exact (Kd.CB HR0_0.out HB.out) | (with_reducible refine Kd.CA ?_ _) | (with_reducible refine Kd.CN ?_ _) | (with_reducible refine Kd.CD ?_))); (case side2 => exact HC0_0.out); (case side3 => repeat (first | exact (Kd.CB HR0_1.out HB.out) | (with_reducible refine Kd.CA ?_ _) | (with_reducible refine Kd.CN ?_ _) | (with_reducible refine Kd.CD ?_))); (case side4 => exact HC0_1.out); rintro e w6 ⟨rfl, hb⟩; refine ⟨_, rfl, ?_⟩; replace BK399 := As.mk (kB (g := gb399) (o := .cells #[.slice A0_0 l0_0.length c0_0, .slice A0_1 l0_1.length c0_1] 25 (0, 0)) (by (with_reducible repeat (first | refine kD ?_ _ | refine kE ?_ | refine kA ?_ _)); exact BK399.out) hb); replace HB := As.mk (bT (by repeat (first | (with_reducible first | exact HB.out | apply bA | apply bD | apply bE | refine bS ?_ GE399.out) | exact HB.out)) hb); (try clear hb); (try clear hk)))
  go_ret
  exact ⟨by first | rfl | (simp [eN, eS] <;> rfl) | (simp [*, eN, eS] <;> rfl), by repeat (first | (with_reducible first | exact HB.out | apply bA | apply bD | apply bE | refine bS ?_ GE399.out) | exact HB.out)⟩
 ·rw [if_neg c3] at H
  have c3b0 : decide (t400 < 0) = false := decide_eq_false c3
  clear c3
  replace H := Option.bind_eq_some_iff.mp H
  obtain ⟨⟨t401, t404⟩, A70, H⟩ := H
  replace H : ((F42.f k t401 t404).bind fun bt407 => ((F23.f k l0_0 l0_1).bind fun bt411 => ((F37.f k bt411.1 bt411.2).bind fun bt418 => ((F14.f k bt418.1 bt407.1).bind fun t422 => (if t422 = true then (laws_FnExactMarksOf.j0 k bt407.1 bt407.2 bt418.1 bt418.2 (bt418.2 != bt407.2) l0_0 l0_1 bt411.1 bt411.2) else (laws_FnExactMarksOf.j0 k bt407.1 bt407.2 bt418.1 bt418.2 true l0_0 l0_1 bt411.1 bt411.2)))))) = some r := H
  have A7 := As.mk A70
  clear A70
  replace H := Option.bind_eq_some_iff.mp H
  obtain ⟨⟨t407, t410⟩, A80, H⟩ := H
  replace H : ((F23.f k l0_0 l0_1).bind fun bt411 => ((F37.f k bt411.1 bt411.2).bind fun bt418 => ((F14.f k bt418.1 t407).bind fun t422 => (if t422 = true then (laws_FnExactMarksOf.j0 k t407 t410 bt418.1 bt418.2 (bt418.2 != t410) l0_0 l0_1 bt411.1 bt411.2) else (laws_FnExactMarksOf.j0 k t407 t410 bt418.1 bt418.2 true l0_0 l0_1 bt411.1 bt411.2))))) = some r := H
  have A8 := As.mk A80
  clear A80
  replace H := Option.bind_eq_some_iff.mp H
  obtain ⟨⟨t411, t414⟩, A90, H⟩ := H
  replace H : ((F37.f k t411 t414).bind fun bt418 => ((F14.f k bt418.1 t407).bind fun t422 => (if t422 = true then (laws_FnExactMarksOf.j0 k t407 t410 bt418.1 bt418.2 (bt418.2 != t410) l0_0 l0_1 t411 t414) else (laws_FnExactMarksOf.j0 k t407 t410 bt418.1 bt418.2 true l0_0 l0_1 t411 t414)))) = some r := H
  have A9 := As.mk A90
  clear A90
  replace H := Option.bind_eq_some_iff.mp H
  obtain ⟨⟨t418, t421⟩, A100, H⟩ := H
  replace H : ((F14.f k t418 t407).bind fun t422 => (if t422 = true then (laws_FnExactMarksOf.j0 k t407 t410 t418 t421 (t421 != t410) l0_0 l0_1 t411 t414) else (laws_FnExactMarksOf.j0 k t407 t410 t418 t421 true l0_0 l0_1 t411 t414))) = some r := H
  have A10 := As.mk A100
  clear A100
  have HC11 := As.mk H
  clear H
  go_enter Try.func4, Try.ntmps4
  go_upto_region 8 with (first | ((with_reducible refine gD (N := 1) rfl ?_); refine bX ?hg (N := 1) ?hd (cs := #[.slice A0_0 l0_0.length c0_0, .slice A0_1 l0_1.length c0_1]) (t := 25) ?hr ?_; (case hd => rfl); (case hg => rfl); (case hr => first | (go_simp; done) | (go_simp; rfl)); intro gb399 hg w12 hbox hb; have BK399 := As.mk (hbox); have GW399 := As.mk ((by rw [hg]; exact (bZ (by repeat (first | (with_reducible first | exact HB.out | apply bA | apply bD | apply bE) | exact HB.out))) : w.heap.size ≤ gb399)); have GE399 := GW399; replace HB := As.mk (bT (by repeat (first | (with_reducible first | exact HB.out | apply bA | apply bD | apply bE) | exact HB.out)) hb); clear hb hbox hg; have cz_ := c2_0 (w := w12) (g := gb399) BK399.out; obtain ⟨hcz13_0, hcz13_1⟩ := cz_; have hfz13 := kF BK399.out) | ((with_reducible refine gC (f := 6) rfl ?_); refine gL (some 16) rfl rfl Try.func6 (by kernel_rfl) rfl #[.agg #[.slice A0_0 l0_0.length c0_0, .slice A0_1 l0_1.length c0_1], .int .i64 1048576] rfl (by (try simp only [sm1, sm2, sm3]); first | done | rfl) ?_; (with_reducible refine (F35.calls k _ _ l0_0 _ _ l0_1 1048576 t400 _ ?side1 ?side2 ?side3 ?side4 A2.out).mono ?_); (case side1 => repeat (first | exact (Kd.CB HR0_0.out HB.out) | (with_reducible refine Kd.CA ?_ _) | (with_reducible refine Kd.CN ?_ _) | (with_reducible refine Kd.CD ?_))); (case side2 => exact HC0_0.out); (case side3 => repeat (first | exact (Kd.CB HR0_1.out HB.out) | (with_reducible refine Kd.CA ?_ _) | (with_reducible refine Kd.CN ?_ _) | (with_reducible refine Kd.CD ?_))); (case side4 => exact HC0_1.out); rintro e w14 ⟨rfl, hb⟩; refine ⟨_, rfl, ?_⟩; replace BK399 := As.mk (kB (g := gb399) (o := .cells #[.slice A0_0 l0_0.length c0_0, .slice A0_1 l0_1.length c0_1] 25 (0, 0)) (by (with_reducible repeat (first | refine kD ?_ _ | refine kE ?_ | refine kA ?_ _)); exact BK399.out) hb); replace HB := As.mk (bT (by repeat (first | (with_reducible first | exact HB.out | apply bA | apply bD | apply bE | refine bS ?_ GE399.out) | exact HB.out)) hb); (try clear hb); (try clear hk); have cz_ := c2_0 (w := w14) (g := gb399) BK399.out; obtain ⟨hcz15_0, hcz15_1⟩ := cz_; have hfz15 := kF BK399.out) | ((with_reducible refine gC (f := 8) rfl ?_); refine gL (some 21) rfl rfl Try.func8 (by kernel_rfl) rfl #[.agg #[.slice A0_0 l0_0.length c0_0, .slice A0_1 l0_1.length c0_1]] rfl (by (try simp only [sm1, sm2, sm3]); first | done | rfl) ?_; (with_reducible refine (F23.calls k _ _ l0_0 _ _ l0_1 t401 t404 _ ?side1 ?side2 ?side3 ?side4 A7.out).mono ?_); (case side1 => repeat (first | exact (Kd.CB HR0_0.out HB.out) | (with_reducible refine Kd.CA ?_ _) | (with_reducible refine Kd.CN ?_ _) | (with_reducible refine Kd.CD ?_))); (case side2 => exact HC0_0.out); (case side3 => repeat (first | exact (Kd.CB HR0_1.out HB.out) | (with_reducible refine Kd.CA ?_ _) | (with_reducible refine Kd.CN ?_ _) | (with_reducible refine Kd.CD ?_))); (case side4 => exact HC0_1.out); rintro e w16 ⟨v402, v405, rfl, ho0, ho1, hb⟩; refine ⟨_, rfl, ?_⟩; have HO403 := As.mk (Kd.R_lower ho0 (bZ (by repeat (first | (with_reducible first | exact HB.out | apply bA | apply bD | apply bE | refine bS ?_ GE399.out) | exact HB.out)))); have HO406 := As.mk (Kd.R_lower ho1 (bZ (by repeat (first | (with_reducible first | exact HB.out | apply bA | apply bD | apply bE | refine bS ?_ GE399.out) | exact HB.out)))); replace BK399 := As.mk (kB (g := gb399) (o := .cells #[.slice A0_0 l0_0.length c0_0, .slice A0_1 l0_1.length c0_1] 25 (0, 0)) (by (with_reducible repeat (first | refine kD ?_ _ | refine kE ?_ | refine kA ?_ _)); exact BK399.out) hb); replace HB := As.mk (bT (by repeat (first | (with_reducible first | exact HB.out | apply bA | apply bD | apply bE | refine bS ?_ GE399.out) | exact HB.out)) hb); (try clear hb); (try clear hk); (try clear ho0); (try clear ho1); obtain ⟨Ao17, co17, eo17⟩ := Kd.R_slice HO403.out; subst eo17; obtain ⟨Ao18, co18, eo18⟩ := Kd.R_slice HO406.out; subst eo18) | ((with_reducible refine gC (f := 11) rfl ?_); refine gL (some 22) rfl rfl Try.func11 (by kernel_rfl) rfl #[.agg #[.slice Ao17 t401.length co17, .slice Ao18 t404.length co18]] rfl (by (try simp only [sm1, sm2, sm3]); first | done | rfl) ?_; (with_reducible refine (F42.calls k _ _ t401 _ _ t404 t407 t410 _ ?side1 ?side2 ?side3 ?side4 A8.out).mono ?_); (case side1 => repeat (first | exact (Kd.RR HO403.out).2.2 | (with_reducible refine Kd.CA ?_ _) | (with_reducible refine Kd.CN ?_ _) | (with_reducible refine Kd.CD ?_))); (case side2 => exact (Kd.RR HO403.out).2.1); (case side3 => repeat (first | exact (Kd.RR HO406.out).2.2 | (with_reducible refine Kd.CA ?_ _) | (with_reducible refine Kd.CN ?_ _) | (with_reducible refine Kd.CD ?_))); (case side4 => exact (Kd.RR HO406.out).2.1); rintro e w19 ⟨v408, rfl, ho0, hb⟩; refine ⟨_, rfl, ?_⟩; have HO409 := As.mk (Kd.R_lower ho0 (bZ (by repeat (first | (with_reducible first | exact HB.out | apply bA | apply bD | apply bE | refine bS ?_ GE399.out) | exact HB.out)))); replace HO403 := As.mk (Kd.R_below (by (with_reducible repeat (first | apply Kd.RA | apply Kd.RN | apply Kd.RD)); exact HO403.out) hb); replace HO406 := As.mk (Kd.R_below (by (with_reducible repeat (first | apply Kd.RA | apply Kd.RN | apply Kd.RD)); exact HO406.out) hb); replace BK399 := As.mk (kB (g := gb399) (o := .cells #[.slice A0_0 l0_0.length c0_0, .slice A0_1 l0_1.length c0_1] 25 (0, 0)) (by (with_reducible repeat (first | refine kD ?_ _ | refine kE ?_ | refine kA ?_ _)); exact BK399.out) hb); replace HB := As.mk (bT (by repeat (first | (with_reducible first | exact HB.out | apply bA | apply bD | apply bE | refine bS ?_ GE399.out) | exact HB.out)) hb); (try clear hb); (try clear hk); (try clear ho0); have cz_ := c2_0 (w := w19) (g := gb399) BK399.out; obtain ⟨hcz20_0, hcz20_1⟩ := cz_; have hfz20 := kF BK399.out) | ((with_reducible refine gC (f := 8) rfl ?_); refine gL (some 26) rfl rfl Try.func8 (by kernel_rfl) rfl #[.agg #[.slice A0_0 l0_0.length c0_0, .slice A0_1 l0_1.length c0_1]] rfl (by (try simp only [sm1, sm2, sm3]); first | done | rfl) ?_; (with_reducible refine (F23.calls k _ _ l0_0 _ _ l0_1 t411 t414 _ ?side1 ?side2 ?side3 ?side4 A9.out).mono ?_); (case side1 => repeat (first | exact (Kd.CB HR0_0.out HB.out) | (with_reducible refine Kd.CA ?_ _) | (with_reducible refine Kd.CN ?_ _) | (with_reducible refine Kd.CD ?_))); (case side2 => exact HC0_0.out); (case side3 => repeat (first | exact (Kd.CB HR0_1.out HB.out) | (with_reducible refine Kd.CA ?_ _) | (with_reducible refine Kd.CN ?_ _) | (with_reducible refine Kd.CD ?_))); (case side4 => exact HC0_1.out); rintro e w21 ⟨v412, v415, rfl, ho0, ho1, hb⟩; refine ⟨_, rfl, ?_⟩; have HO413 := As.mk (Kd.R_lower (Kd.R_new' ho0 (Kd.R_lt (by (with_reducible repeat (first | apply Kd.RA | apply Kd.RN | apply Kd.RD)); exact HO403.out))) (bZ (by repeat (first | (with_reducible first | exact HB.out | apply bA | apply bD | apply bE | refine bS ?_ GE399.out) | exact HB.out)))); have HO416 := As.mk (Kd.R_lower (Kd.R_new' ho1 (Kd.R_lt (by (with_reducible repeat (first | apply Kd.RA | apply Kd.RN | apply Kd.RD)); exact HO406.out))) (bZ (by repeat (first | (with_reducible first | exact HB.out | apply bA | apply bD | apply bE | refine bS ?_ GE399.out) | exact HB.out)))); replace HO403 := As.mk (Kd.R_elder' (by (with_reducible repeat (first | apply Kd.RA | apply Kd.RN | apply Kd.RD)); exact HO403.out) (Kd.R_base ho0) hb); replace HO406 := As.mk (Kd.R_elder' (by (with_reducible repeat (first | apply Kd.RA | apply Kd.RN | apply Kd.RD)); exact HO406.out) (Kd.R_base ho1) hb); replace HO409 := As.mk (Kd.R_below (by (with_reducible repeat (first | apply Kd.RA | apply Kd.RN | apply Kd.RD)); exact HO409.out) hb); replace BK399 := As.mk (kB (g := gb399) (o := .cells #[.slice A0_0 l0_0.length c0_0, .slice A0_1 l0_1.length c0_1] 25 (0, 0)) (by (with_reducible repeat (first | refine kD ?_ _ | refine kE ?_ | refine kA ?_ _)); exact BK399.out) hb); replace HB := As.mk (bT (by repeat (first | (with_reducible first | exact HB.out | apply bA | apply bD | apply bE | refine bS ?_ GE399.out) | exact HB.out)) hb); (try clear hb); (try clear hk); (try clear ho0); (try clear ho1)) | ((with_reducible refine gD (N := 6) rfl ?_); refine bX ?hg (N := 6) ?hd (cs := #[.slice none 0 0, .slice none 0 0]) (t := 31) ?hr ?_; (case hd => rfl); (case hg => rfl); (case hr => first | (go_simp; done) | (go_simp; rfl)); intro gb417 hg w22 hbox hb; have BK417 := As.mk (hbox); have GW417 := As.mk ((by rw [hg]; exact (bZ (by repeat (first | (with_reducible first | exact HB.out | apply bA | apply bD | apply bE | refine bS ?_ GE399.out) | exact HB.out))) : w.heap.size ≤ gb417)); have GE417 := GW417; have NB399_417 := As.mk ((by rw [hg]; exact Nat.ne_of_lt (kL (g := gb399) (o := .cells #[.slice A0_0 l0_0.length c0_0, .slice A0_1 l0_1.length c0_1] 25 (0, 0)) (by (with_reducible repeat (first | refine kD ?_ _ | refine kE ?_ | refine kA ?_ _)); exact BK399.out)) : gb399 ≠ gb417)); have NB417_399 := As.mk NB399_417.out.symm; replace HO403 := As.mk (Kd.R_below (by (with_reducible repeat (first | apply Kd.RA | apply Kd.RN | apply Kd.RD)); exact HO403.out) hb); replace HO406 := As.mk (Kd.R_below (by (with_reducible repeat (first | apply Kd.RA | apply Kd.RN | apply Kd.RD)); exact HO406.out) hb); replace HO409 := As.mk (Kd.R_below (by (with_reducible repeat (first | apply Kd.RA | apply Kd.RN | apply Kd.RD)); exact HO409.out) hb); replace HO413 := As.mk (Kd.R_below (by (with_reducible repeat (first | apply Kd.RA | apply Kd.RN | apply Kd.RD)); exact HO413.out) hb); replace HO416 := As.mk (Kd.R_below (by (with_reducible repeat (first | apply Kd.RA | apply Kd.RN | apply Kd.RD)); exact HO416.out) hb); replace BK399 := As.mk (kB (g := gb399) (o := .cells #[.slice A0_0 l0_0.length c0_0, .slice A0_1 l0_1.length c0_1] 25 (0, 0)) (by (with_reducible repeat (first | refine kD ?_ _ | refine kE ?_ | refine kA ?_ _)); exact BK399.out) hb); replace HB := As.mk (bT (by repeat (first | (with_reducible first | exact HB.out | apply bA | apply bD | apply bE | refine bS ?_ GE399.out) | exact HB.out)) hb); clear hb hbox hg; obtain ⟨Ao23, co23, eo23⟩ := Kd.R_slice HO413.out; subst eo23; have hnb24 := NB417_399.out; have hnc24 := NB399_417.out; have cz_ := c2_0 (w := w22) (g := gb417) BK417.out; obtain ⟨hcz25_0, hcz25_1⟩ := cz_; have hfz25 := kF BK417.out; obtain ⟨Ao26, co26, eo26⟩ := Kd.R_slice HO416.out; subst eo26) | ((with_reducible refine gC (f := 12) rfl ?_); refine gL (some 29) rfl rfl Try.func12 (by kernel_rfl) rfl #[.agg #[.slice Ao23 t411.length co23, .slice Ao26 t414.length co26]] rfl (by (try simp only [sm1, sm2, sm3]); first | done | rfl) ?_; (with_reducible refine (F37.calls k _ _ t411 _ _ t414 t418 t421 _ ?side1 ?side2 ?side3 ?side4 A10.out).mono ?_); (case side1 => refine (Kd.RR (e := 80) (base := w.heap.size) (ok := fun k_ => (True ∧ some k_ ≠ (.slice Ao17 t401.length co17 : Value).ownBlock)) (n := t411.length) (c := co23) ?_).2.2; exact (by (with_reducible repeat (first | apply Kd.RA | apply Kd.RN | apply Kd.RD)); exact (Kd.R_mono (Kd.R_far (p := ⟨gb417, 1, none⟩) (Kd.R_far (p := ⟨gb417, 0, none⟩) (Kd.R_types HO413.out BK417.out (by decide)) (fun _ hk => hk.2) (.slice Ao23 t411.length co23)) (fun _ hk => hk.2) (.slice Ao26 t414.length co26)) (fun _ h_ => h_.1)))); (case side2 => exact (Kd.RR HO413.out).2.1); (case side3 => refine (Kd.RR (e := 77) (base := w.heap.size) (ok := fun k_ => (True ∧ some k_ ≠ (.slice Ao18 t404.length co18 : Value).ownBlock)) (n := t414.length) (c := co26) ?_).2.2; exact (by (with_reducible repeat (first | apply Kd.RA | apply Kd.RN | apply Kd.RD)); exact (Kd.R_mono (Kd.R_far (p := ⟨gb417, 1, none⟩) (Kd.R_far (p := ⟨gb417, 0, none⟩) (Kd.R_types HO416.out BK417.out (by decide)) (fun _ hk => hk.2) (.slice Ao23 t411.length co23)) (fun _ hk => hk.2) (.slice Ao26 t414.length co26)) (fun _ h_ => h_.1)))); (case side4 => exact (Kd.RR HO416.out).2.1); rintro e w27 ⟨v419, rfl, ho0, hb⟩; refine ⟨_, rfl, ?_⟩; have HO420 := As.mk (Kd.R_lower (Kd.R_new' ho0 (Kd.R_lt (by (with_reducible repeat (first | apply Kd.RA | apply Kd.RN | apply Kd.RD)); exact (Kd.R_mono (Kd.R_far (p := ⟨gb417, 1, none⟩) (Kd.R_far (p := ⟨gb417, 0, none⟩) (Kd.R_types HO409.out BK417.out (by decide)) (fun _ hk => hk.2) (.slice Ao23 t411.length co23)) (fun _ hk => hk.2) (.slice Ao26 t414.length co26)) (fun _ h_ => h_.1))))) (bZ (by repeat (first | (with_reducible first | exact HB.out | apply bA | apply bD | apply bE | refine bS ?_ GE399.out | refine bS ?_ GE417.out) | exact HB.out)))); replace HO403 := As.mk (Kd.R_below (by (with_reducible repeat (first | apply Kd.RA | apply Kd.RN | apply Kd.RD)); exact (Kd.R_mono (Kd.R_far (p := ⟨gb417, 1, none⟩) (Kd.R_far (p := ⟨gb417, 0, none⟩) (Kd.R_types HO403.out BK417.out (by decide)) (fun _ hk => hk.2) (.slice Ao23 t411.length co23)) (fun _ hk => hk.2) (.slice Ao26 t414.length co26)) (fun _ h_ => h_.1))) hb); replace HO406 := As.mk (Kd.R_below (by (with_reducible repeat (first | apply Kd.RA | apply Kd.RN | apply Kd.RD)); exact (Kd.R_mono (Kd.R_far (p := ⟨gb417, 1, none⟩) (Kd.R_far (p := ⟨gb417, 0, none⟩) (Kd.R_types HO406.out BK417.out (by decide)) (fun _ hk => hk.2) (.slice Ao23 t411.length co23)) (fun _ hk => hk.2) (.slice Ao26 t414.length co26)) (fun _ h_ => h_.1))) hb); replace HO409 := As.mk (Kd.R_elder' (by (with_reducible repeat (first | apply Kd.RA | apply Kd.RN | apply Kd.RD)); exact (Kd.R_mono (Kd.R_far (p := ⟨gb417, 1, none⟩) (Kd.R_far (p := ⟨gb417, 0, none⟩) (Kd.R_types HO409.out BK417.out (by decide)) (fun _ hk => hk.2) (.slice Ao23 t411.length co23)) (fun _ hk => hk.2) (.slice Ao26 t414.length co26)) (fun _ h_ => h_.1))) (Kd.R_base ho0) hb); replace HO413 := As.mk (Kd.R_below (by (with_reducible repeat (first | apply Kd.RA | apply Kd.RN | apply Kd.RD)); exact (Kd.R_mono (Kd.R_far (p := ⟨gb417, 1, none⟩) (Kd.R_far (p := ⟨gb417, 0, none⟩) (Kd.R_types HO413.out BK417.out (by decide)) (fun _ hk => hk.2) (.slice Ao23 t411.length co23)) (fun _ hk => hk.2) (.slice Ao26 t414.length co26)) (fun _ h_ => h_.1))) hb); replace HO416 := As.mk (Kd.R_below (by (with_reducible repeat (first | apply Kd.RA | apply Kd.RN | apply Kd.RD)); exact (Kd.R_mono (Kd.R_far (p := ⟨gb417, 1, none⟩) (Kd.R_far (p := ⟨gb417, 0, none⟩) (Kd.R_types HO416.out BK417.out (by decide)) (fun _ hk => hk.2) (.slice Ao23 t411.length co23)) (fun _ hk => hk.2) (.slice Ao26 t414.length co26)) (fun _ h_ => h_.1))) hb); replace BK399 := As.mk (kB (g := gb399) (o := .cells #[.slice A0_0 l0_0.length c0_0, .slice A0_1 l0_1.length c0_1] 25 (0, 0)) (by (with_reducible repeat (first | refine kD ?_ _ | refine kE ?_ | refine kA ?_ _)); refine blk_far ?_ NB399_417.out _; (with_reducible repeat (first | refine kD ?_ _ | refine kE ?_ | refine kA ?_ _)); refine blk_far ?_ NB399_417.out _; (with_reducible repeat (first | refine kD ?_ _ | refine kE ?_ | refine kA ?_ _)); exact BK399.out) hb); replace BK417 := As.mk (kB (g := gb417) (o := .cells #[.slice Ao23 t411.length co23, .slice Ao26 t414.length co26] 31 (0, 0)) (by (with_reducible repeat (first | refine kD ?_ _ | refine kE ?_ | refine kA ?_ _)); refine blk_put (cs := #[.slice Ao23 t411.length co23, .slice none 0 0]) ?_ 1 _ rfl; (with_reducible repeat (first | refine kD ?_ _ | refine kE ?_ | refine kA ?_ _)); refine blk_put (cs := #[.slice none 0 0, .slice none 0 0]) ?_ 0 _ rfl; (with_reducible repeat (first | refine kD ?_ _ | refine kE ?_ | refine kA ?_ _)); exact BK417.out) hb); replace HB := As.mk (bT (by repeat (first | (with_reducible first | exact HB.out | apply bA | apply bD | apply bE | refine bS ?_ GE399.out | refine bS ?_ GE417.out) | exact HB.out)) hb); (try clear hb); (try clear hk); (try clear ho0)))
  (try simp only [Act.put, sq1, sq2, sq3])
  go_cut [40] (fun v40 wc => ∃ (kq : Nat) (x40_10 : Bool), v40 = .bool x40_10 ∧ As (laws_FnExactMarksOf.j0 kq t407 t410 t418 t421 x40_10 l0_0 l0_1 t411 t414 = some r) ∧ As (kq ≤ k) ∧ As (Kd.R (Kd.int .i64) 2 wc w.heap.size (fun k_ => some k_ ≠ (v419 : Value).ownBlock) v408 t407) ∧ As (Kd.R (Kd.int .i64) 2 wc w.heap.size (fun k_ => some k_ ≠ (v408 : Value).ownBlock) v419 t418) ∧ As (Kd.R k80 80 wc w.heap.size (fun _ => True) (.slice Ao23 t411.length co23) t411) ∧ As (Kd.R k77 77 wc w.heap.size (fun _ => True) (.slice Ao26 t414.length co26) t414) ∧ As (wc.heap[gb399]? = some (.cells #[(.slice A0_0 l0_0.length c0_0), (.slice A0_1 l0_1.length c0_1)] 25 (0, 0))) ∧ As (wc.heap[gb417]? = some (.cells #[(.slice Ao23 t411.length co23), (.slice Ao26 t414.length co26)] 31 (0, 0))) ∧ As (Below w.heap.size w wc))
  case first =>
   have H := HC11.out
   clear HC11
   replace H := Option.bind_eq_some_iff.mp H
   obtain ⟨t422, A280, H⟩ := H
   replace H : (if t422 = true then (laws_FnExactMarksOf.j0 k t407 t410 t418 t421 (t421 != t410) l0_0 l0_1 t411 t414) else (laws_FnExactMarksOf.j0 k t407 t410 t418 t421 true l0_0 l0_1 t411 t414)) = some r := H
   have A28 := As.mk A280
   clear A280
   by_cases c29 : t422 = true
   ·subst c29
    replace H : (laws_FnExactMarksOf.j0 k t407 t410 t418 t421 (t421 != t410) l0_0 l0_1 t411 t414) = some r := by rw [if_pos rfl] at H; exact H
    have H' := As.mk H
    clear H
    obtain ⟨Ao30, co30, eo30⟩ := Kd.R_slice HO420.out
    subst eo30
    obtain ⟨Ao31, co31, eo31⟩ := Kd.R_slice HO409.out
    subst eo31
    go_wp2_with (first | ((with_reducible refine gC (f := 13) rfl ?_); refine gL (some 34) rfl rfl Try.func13 (by kernel_rfl) rfl #[.slice Ao30 t418.length co30, .slice Ao31 t407.length co31] rfl (by (try simp only [sm1, sm2, sm3]); first | done | rfl) ?_; (with_reducible refine (F14.calls k _ _ t418 _ _ t407 true _ ?side1 ?side2 ?side3 ?side4 A28.out).mono ?_); (case side1 => repeat (first | exact (Kd.RR HO420.out).2.2 | (with_reducible refine Kd.CA ?_ _) | (with_reducible refine Kd.CN ?_ _) | (with_reducible refine Kd.CD ?_))); (case side2 => exact (Kd.RR HO420.out).2.1); (case side3 => repeat (first | exact (Kd.RR HO409.out).2.2 | (with_reducible refine Kd.CA ?_ _) | (with_reducible refine Kd.CN ?_ _) | (with_reducible refine Kd.CD ?_))); (case side4 => exact (Kd.RR HO409.out).2.1); rintro e w' ⟨rfl, ⟨nd, rfl⟩⟩; refine ⟨_, rfl, ?_⟩))
    go_meet
    case rel => exact ⟨_, ((t421 != t410)), (by first | rfl | (simp; done) | (simp [*]; done)), H', ⟨by first | omega | exact Nat.le_refl _⟩, ⟨by (with_reducible repeat (first | apply Kd.RA | apply Kd.RN | apply Kd.RD)); exact Kd.R_mono HO409.out (fun _ hk => hk.2)⟩, ⟨by (with_reducible repeat (first | apply Kd.RA | apply Kd.RN | apply Kd.RD)); exact Kd.R_mono HO420.out (fun _ hk => hk.2)⟩, ⟨by (with_reducible repeat (first | apply Kd.RA | apply Kd.RN | apply Kd.RD)); exact Kd.R_mono HO413.out (fun _ hk => trivial)⟩, ⟨by (with_reducible repeat (first | apply Kd.RA | apply Kd.RN | apply Kd.RD)); exact Kd.R_mono HO416.out (fun _ hk => trivial)⟩, ⟨by (with_reducible repeat (first | refine kD ?_ _ | refine kE ?_ | refine kA ?_ _)); exact BK399.out⟩, ⟨by (with_reducible repeat (first | refine kD ?_ _ | refine kE ?_ | refine kA ?_ _)); exact BK417.out⟩, ⟨by repeat (first | (with_reducible first | exact HB.out | apply bA | apply bD | apply bE | refine bS ?_ GE399.out | refine bS ?_ GE417.out) | exact HB.out)⟩⟩
   ·replace c29 := Bool.eq_false_iff.mpr c29
    subst c29
    replace H : (laws_FnExactMarksOf.j0 k t407 t410 t418 t421 true l0_0 l0_1 t411 t414) = some r := by rw [if_neg (show ¬ (false = true) by decide)] at H; exact H
    have H' := As.mk H
    clear H
    obtain ⟨Ao32, co32, eo32⟩ := Kd.R_slice HO420.out
    subst eo32
    obtain ⟨Ao33, co33, eo33⟩ := Kd.R_slice HO409.out
    subst eo33
    go_wp2_with (first | ((with_reducible refine gC (f := 13) rfl ?_); refine gL (some 34) rfl rfl Try.func13 (by kernel_rfl) rfl #[.slice Ao32 t418.length co32, .slice Ao33 t407.length co33] rfl (by (try simp only [sm1, sm2, sm3]); first | done | rfl) ?_; (with_reducible refine (F14.calls k _ _ t418 _ _ t407 false _ ?side1 ?side2 ?side3 ?side4 A28.out).mono ?_); (case side1 => repeat (first | exact (Kd.RR HO420.out).2.2 | (with_reducible refine Kd.CA ?_ _) | (with_reducible refine Kd.CN ?_ _) | (with_reducible refine Kd.CD ?_))); (case side2 => exact (Kd.RR HO420.out).2.1); (case side3 => repeat (first | exact (Kd.RR HO409.out).2.2 | (with_reducible refine Kd.CA ?_ _) | (with_reducible refine Kd.CN ?_ _) | (with_reducible refine Kd.CD ?_))); (case side4 => exact (Kd.RR HO409.out).2.1); rintro e w' ⟨rfl, ⟨nd, rfl⟩⟩; refine ⟨_, rfl, ?_⟩))
    go_meet
    case rel => exact ⟨_, (true), (by first | rfl | (simp; done) | (simp [*]; done)), H', ⟨by first | omega | exact Nat.le_refl _⟩, ⟨by (with_reducible repeat (first | apply Kd.RA | apply Kd.RN | apply Kd.RD)); exact Kd.R_mono HO409.out (fun _ hk => hk.2)⟩, ⟨by (with_reducible repeat (first | apply Kd.RA | apply Kd.RN | apply Kd.RD)); exact Kd.R_mono HO420.out (fun _ hk => hk.2)⟩, ⟨by (with_reducible repeat (first | apply Kd.RA | apply Kd.RN | apply Kd.RD)); exact Kd.R_mono HO413.out (fun _ hk => trivial)⟩, ⟨by (with_reducible repeat (first | apply Kd.RA | apply Kd.RN | apply Kd.RD)); exact Kd.R_mono HO416.out (fun _ hk => trivial)⟩, ⟨by (with_reducible repeat (first | refine kD ?_ _ | refine kE ?_ | refine kA ?_ _)); exact BK399.out⟩, ⟨by (with_reducible repeat (first | refine kD ?_ _ | refine kE ?_ | refine kA ?_ _)); exact BK417.out⟩, ⟨by repeat (first | (with_reducible first | exact HB.out | apply bA | apply bD | apply bE | refine bS ?_ GE399.out | refine bS ?_ GE417.out) | exact HB.out)⟩⟩
  case rest =>
   clear HC11
   try clear c3
   try clear c3b0
   try clear hcz13_0
   try clear hcz13_1
   try clear hcz15_0
   try clear hcz15_1
   try clear hcz20_0
   try clear hcz20_1
   try clear hcz25_0
   try clear hcz25_1
   try clear hfz13
   try clear hfz15
   try clear hfz20
   try clear hfz25
   obtain ⟨kq, x40_10, rfl, HA, HJ10, HO_4, HO_7, HO_418000, HO_418001, BK399, BK417, HB⟩ := hcut
   cases kq with
   | zero => exact absurd HA.out (by simp [laws_FnExactMarksOf.j0])
   | succ kj10 =>
    have H := HA.out
    clear HA
    simp only [laws_FnExactMarksOf.j0] at H
    by_cases c34 : x40_10 = true
    ·subst c34
     replace H : (none) = some r := by rw [if_pos rfl] at H; exact H
     exact absurd H (by simp)
    ·replace c34 := Bool.eq_false_iff.mpr c34
     subst c34
     replace H : ((F23.f kj10 l0_0 l0_1).bind fun bt423 => ((F34.f kj10 t411 t414 bt423.1 bt423.2).bind fun t429 => (if t429 = true then ((F31.f kj10 t411 t414 1).bind fun bt430 => (if bt430.1 < 0 then (laws_FnExactMarksOf.j1 kj10 t407 t410 t418 true l0_0 l0_1) else ((F14.f kj10 t418 t407).bind fun t433 => (if t433 = true then (laws_FnExactMarksOf.j1 kj10 t407 t410 t418 (t421 != t410) l0_0 l0_1) else (laws_FnExactMarksOf.j1 kj10 t407 t410 t418 true l0_0 l0_1))))) else (none)))) = some r := by rw [if_neg (show ¬ (false = true) by decide)] at H; exact H
     replace H := Option.bind_eq_some_iff.mp H
     obtain ⟨⟨t423, t426⟩, A350, H⟩ := H
     replace H : ((F34.f kj10 t411 t414 t423 t426).bind fun t429 => (if t429 = true then ((F31.f kj10 t411 t414 1).bind fun bt430 => (if bt430.1 < 0 then (laws_FnExactMarksOf.j1 kj10 t407 t410 t418 true l0_0 l0_1) else ((F14.f kj10 t418 t407).bind fun t433 => (if t433 = true then (laws_FnExactMarksOf.j1 kj10 t407 t410 t418 (t421 != t410) l0_0 l0_1) else (laws_FnExactMarksOf.j1 kj10 t407 t410 t418 true l0_0 l0_1))))) else (none))) = some r := H
     have A35 := As.mk A350
     clear A350
     replace H := Option.bind_eq_some_iff.mp H
     obtain ⟨t429, A360, H⟩ := H
     replace H : (if t429 = true then ((F31.f kj10 t411 t414 1).bind fun bt430 => (if bt430.1 < 0 then (laws_FnExactMarksOf.j1 kj10 t407 t410 t418 true l0_0 l0_1) else ((F14.f kj10 t418 t407).bind fun t433 => (if t433 = true then (laws_FnExactMarksOf.j1 kj10 t407 t410 t418 (t421 != t410) l0_0 l0_1) else (laws_FnExactMarksOf.j1 kj10 t407 t410 t418 true l0_0 l0_1))))) else (none)) = some r := H
     have A36 := As.mk A360
     clear A360
     by_cases c37 : t429 = true
     ·subst c37
      replace H : ((F31.f kj10 t411 t414 1).bind fun bt430 => (if bt430.1 < 0 then (laws_FnExactMarksOf.j1 kj10 t407 t410 t418 true l0_0 l0_1) else ((F14.f kj10 t418 t407).bind fun t433 => (if t433 = true then (laws_FnExactMarksOf.j1 kj10 t407 t410 t418 (t421 != t410) l0_0 l0_1) else (laws_FnExactMarksOf.j1 kj10 t407 t410 t418 true l0_0 l0_1))))) = some r := by rw [if_pos rfl] at H; exact H
      replace H := Option.bind_eq_some_iff.mp H
      obtain ⟨⟨t430, t431, t432⟩, A380, H⟩ := H
      replace H : (if t430 < 0 then (laws_FnExactMarksOf.j1 kj10 t407 t410 t418 true l0_0 l0_1) else ((F14.f kj10 t418 t407).bind fun t433 => (if t433 = true then (laws_FnExactMarksOf.j1 kj10 t407 t410 t418 (t421 != t410) l0_0 l0_1) else (laws_FnExactMarksOf.j1 kj10 t407 t410 t418 true l0_0 l0_1)))) = some r := H
      have A38 := As.mk A380
      clear A380
      have HC39 := As.mk H
      clear H
      try go_wp2
      replace HO_4 := As.mk (Kd.RD HO_4.out)
      replace HO_7 := As.mk (Kd.RD HO_7.out)
      replace HO_418000 := As.mk (Kd.RD HO_418000.out)
      replace HO_418001 := As.mk (Kd.RD HO_418001.out)
      replace BK399 := As.mk (kE BK399.out)
      replace BK417 := As.mk (kE BK417.out)
      replace HB := As.mk (bE HB.out)
      refine start_ (n := 5) (S := fun w' => w'.cell? ⟨gb417, 0, none⟩ = some (.slice Ao23 t411.length co23) ∧ w'.cell? ⟨gb417, 1, none⟩ = some (.slice Ao26 t414.length co26) ∧ w'.cell? ⟨gb399, 0, none⟩ = some (.slice A0_0 l0_0.length c0_0) ∧ w'.cell? ⟨gb399, 1, none⟩ = some (.slice A0_1 l0_1.length c0_1)) (ds := []) #[false, false, false, false, false] (by kernel_rfl) rfl rfl ⟨(kC BK417.out 0).trans rfl, (kC BK417.out 1).trans rfl, (kC BK399.out 0).trans rfl, (kC BK399.out 1).trans rfl⟩ (fun hHeld => ?_)
      generalize wc.drew = w40 at HO_4 HO_7 HO_418000 HO_418001 BK399 BK417 HB hHeld ⊢
      refine take_ (i := 0) (N := some 41) (v := ?_) (a' := ?_) #[true, false, false, false, false] rfl rfl (by kernel_rfl) (fun _ _ _ h => h) (Or.inl ⟨by rfl, ?_⟩) hHeld ?_ ?_
      rotate_left
      ·rintro w' ⟨s0, s1, s2, s3⟩
       go_simp
       with_reducible rfl
      rotate_left
      ·simp only [Act.put, sq1, sq2, sq3, i64_w, i32_w]
       rfl
      refine take_ (i := 1) (N := some 42) (v := ?_) (a' := ?_) #[true, true, false, false, false] rfl rfl (by kernel_rfl) (fun _ _ _ h => h) (Or.inl ⟨by rfl, ?_⟩) hHeld ?_ ?_
      rotate_left
      ·rintro w' ⟨s0, s1, s2, s3⟩
       go_simp
       with_reducible rfl
      rotate_left
      ·simp only [Act.put, sq1, sq2, sq3, i64_w, i32_w]
       rfl
      refine one_ (i := 2) (N := some 43) #[true, true, true, false, false] rfl rfl (by kernel_rfl) (by decide) (fun K hK => ?_)
      refine goes_ Try.func8 (by kernel_rfl) rfl #[.agg #[.slice A0_0 l0_0.length c0_0, .slice A0_1 l0_1.length c0_1]] (by rfl) rfl rfl (by (try simp only [sm1, sm2, sm3]); first | done | rfl | (simp only [List.length_drop, List.length_take]; rfl)) ?_
      with_reducible refine (F23.calls kj10 _ _ l0_0 _ _ l0_1 t423 t426 _ ?side1 ?side2 ?side3 ?side4 A35.out).mono ?_
      (case side1 => repeat (first | exact (Kd.CB HR0_0.out HB.out) | (with_reducible refine Kd.CA ?_ _) | (with_reducible refine Kd.CN ?_ _) | (with_reducible refine Kd.CD ?_)))
      (case side2 => exact HC0_0.out)
      (case side3 => repeat (first | exact (Kd.CB HR0_1.out HB.out) | (with_reducible refine Kd.CA ?_ _) | (with_reducible refine Kd.CN ?_ _) | (with_reducible refine Kd.CD ?_)))
      (case side4 => exact HC0_1.out)
      rintro e w41 ⟨v424, v427, rfl, ho0, ho1, hb⟩
      refine ⟨_, rfl, ?_⟩
      have HO425 := As.mk (Kd.R_lower (Kd.R_new' ho0 (Kd.R_lt (by (with_reducible repeat (first | apply Kd.RA | apply Kd.RN | apply Kd.RD)); exact HO_418000.out))) (bZ (by repeat (first | (with_reducible first | exact HB.out | apply bA | apply bD | apply bE | refine bS ?_ GE399.out | refine bS ?_ GE417.out) | exact HB.out))))
      have HO428 := As.mk (Kd.R_lower (Kd.R_new' ho1 (Kd.R_lt (by (with_reducible repeat (first | apply Kd.RA | apply Kd.RN | apply Kd.RD)); exact HO_418001.out))) (bZ (by repeat (first | (with_reducible first | exact HB.out | apply bA | apply bD | apply bE | refine bS ?_ GE399.out | refine bS ?_ GE417.out) | exact HB.out))))
      replace HO_4 := As.mk (Kd.R_below (by (with_reducible repeat (first | apply Kd.RA | apply Kd.RN | apply Kd.RD)); exact HO_4.out) hb)
      replace HO_7 := As.mk (Kd.R_below (by (with_reducible repeat (first | apply Kd.RA | apply Kd.RN | apply Kd.RD)); exact HO_7.out) hb)
      replace HO_418000 := As.mk (Kd.R_elder' (by (with_reducible repeat (first | apply Kd.RA | apply Kd.RN | apply Kd.RD)); exact HO_418000.out) (Kd.R_base ho0) hb)
      replace HO_418001 := As.mk (Kd.R_elder' (by (with_reducible repeat (first | apply Kd.RA | apply Kd.RN | apply Kd.RD)); exact HO_418001.out) (Kd.R_base ho1) hb)
      replace BK399 := As.mk (kB (g := gb399) (o := .cells #[.slice A0_0 l0_0.length c0_0, .slice A0_1 l0_1.length c0_1] 25 (0, 0)) (by (with_reducible repeat (first | refine kD ?_ _ | refine kE ?_ | refine kA ?_ _)); exact BK399.out) hb)
      replace BK417 := As.mk (kB (g := gb417) (o := .cells #[.slice Ao23 t411.length co23, .slice Ao26 t414.length co26] 31 (0, 0)) (by (with_reducible repeat (first | refine kD ?_ _ | refine kE ?_ | refine kA ?_ _)); exact BK417.out) hb)
      replace HB := As.mk (bT (by repeat (first | (with_reducible first | exact HB.out | apply bA | apply bD | apply bE | refine bS ?_ GE399.out | refine bS ?_ GE417.out) | exact HB.out)) hb)
      (try clear hb)
      (try clear hb2)
      (try clear hk)
      (try clear hi)
      (try clear ho0)
      (try clear ho1)
      obtain ⟨Ao42, co42, eo42⟩ := Kd.R_slice HO425.out
      (first | subst eo42 | (injection eo42 with f1_ f2_ f3_; have f4_ := f1_.symm; have f5_ := f3_.symm; clear f1_ f2_ f3_; subst f4_; subst f5_))
      obtain ⟨Ao43, co43, eo43⟩ := Kd.R_slice HO428.out
      (first | subst eo43 | (injection eo43 with f1_ f2_ f3_; have f4_ := f1_.symm; have f5_ := f3_.symm; clear f1_ f2_ f3_; subst f4_; subst f5_))
      refine hK.out _ _ ⟨(kC BK417.out 0).trans rfl, (kC BK417.out 1).trans rfl, (kC BK399.out 0).trans rfl, (kC BK399.out 1).trans rfl⟩ (fun hHeld => ?_)
      clear hK K
      refine norm_ (a' := ?_) ?_ ?_
      rotate_left
      ·show Act.put _ (some 43) _ = _
       simp only [Act.put, sq1, sq2, sq3, i64_w, i32_w]
       rfl
      refine one_ (i := 3) (N := some 44) #[true, true, true, true, false] rfl rfl (by kernel_rfl) (by decide) (fun K hK => ?_)
      refine goes_ Try.func10 (by kernel_rfl) rfl #[.agg #[.slice Ao23 t411.length co23, .slice Ao26 t414.length co26], .agg #[.slice Ao42 t423.length co42, .slice Ao43 t426.length co43]] (by rfl) rfl rfl (by (try simp only [sm1, sm2, sm3]); first | done | rfl | (simp only [List.length_drop, List.length_take]; rfl)) ?_
      with_reducible refine (F34.calls kj10 _ _ t411 _ _ t414 _ _ t423 _ _ t426 true _ ?side1 ?side2 ?side3 ?side4 ?side5 ?side6 ?side7 ?side8 A36.out).mono ?_
      (case side1 => repeat (first | exact (Kd.RR HO_418000.out).2.2 | (with_reducible refine Kd.CA ?_ _) | (with_reducible refine Kd.CN ?_ _) | (with_reducible refine Kd.CD ?_)))
      (case side2 => exact (Kd.RR HO_418000.out).2.1)
      (case side3 => repeat (first | exact (Kd.RR HO_418001.out).2.2 | (with_reducible refine Kd.CA ?_ _) | (with_reducible refine Kd.CN ?_ _) | (with_reducible refine Kd.CD ?_)))
      (case side4 => exact (Kd.RR HO_418001.out).2.1)
      (case side5 => repeat (first | exact (Kd.RR HO425.out).2.2 | (with_reducible refine Kd.CA ?_ _) | (with_reducible refine Kd.CN ?_ _) | (with_reducible refine Kd.CD ?_)))
      (case side6 => exact (Kd.RR HO425.out).2.1)
      (case side7 => repeat (first | exact (Kd.RR HO428.out).2.2 | (with_reducible refine Kd.CA ?_ _) | (with_reducible refine Kd.CN ?_ _) | (with_reducible refine Kd.CD ?_)))
      (case side8 => exact (Kd.RR HO428.out).2.1)
      rintro e w44 ⟨rfl, hb⟩
      refine ⟨_, rfl, ?_⟩
      replace HO_4 := As.mk (Kd.R_below (by (with_reducible repeat (first | apply Kd.RA | apply Kd.RN | apply Kd.RD)); exact HO_4.out) hb)
      replace HO_7 := As.mk (Kd.R_below (by (with_reducible repeat (first | apply Kd.RA | apply Kd.RN | apply Kd.RD)); exact HO_7.out) hb)
      replace HO_418000 := As.mk (Kd.R_below (by (with_reducible repeat (first | apply Kd.RA | apply Kd.RN | apply Kd.RD)); exact HO_418000.out) hb)
      replace HO_418001 := As.mk (Kd.R_below (by (with_reducible repeat (first | apply Kd.RA | apply Kd.RN | apply Kd.RD)); exact HO_418001.out) hb)
      replace HO425 := As.mk (Kd.R_below (by (with_reducible repeat (first | apply Kd.RA | apply Kd.RN | apply Kd.RD)); exact HO425.out) hb)
      replace HO428 := As.mk (Kd.R_below (by (with_reducible repeat (first | apply Kd.RA | apply Kd.RN | apply Kd.RD)); exact HO428.out) hb)
      replace BK399 := As.mk (kB (g := gb399) (o := .cells #[.slice A0_0 l0_0.length c0_0, .slice A0_1 l0_1.length c0_1] 25 (0, 0)) (by (with_reducible repeat (first | refine kD ?_ _ | refine kE ?_ | refine kA ?_ _)); exact BK399.out) hb)
      replace BK417 := As.mk (kB (g := gb417) (o := .cells #[.slice Ao23 t411.length co23, .slice Ao26 t414.length co26] 31 (0, 0)) (by (with_reducible repeat (first | refine kD ?_ _ | refine kE ?_ | refine kA ?_ _)); exact BK417.out) hb)
      replace HB := As.mk (bT (by repeat (first | (with_reducible first | exact HB.out | apply bA | apply bD | apply bE | refine bS ?_ GE399.out | refine bS ?_ GE417.out) | exact HB.out)) hb)
      (try clear hb)
      (try clear hb2)
      (try clear hk)
      (try clear hi)
      refine hK.out _ _ ⟨(kC BK417.out 0).trans rfl, (kC BK417.out 1).trans rfl, (kC BK399.out 0).trans rfl, (kC BK399.out 1).trans rfl⟩ (fun hHeld => ?_)
      clear hK K
      refine norm_ (a' := ?_) ?_ ?_
      rotate_left
      ·show Act.put _ (some 44) _ = _
       simp only [Act.put, sq1, sq2, sq3, i64_w, i32_w]
       rfl
      refine pure_ (i := 4) (N := some 45) (v := ?_) (a' := ?_) #[true, true, true, true, true] rfl rfl (by kernel_rfl) (fun _ _ _ h => h) (Or.inl ⟨by rfl, ?_⟩) ?_ ?_
      rotate_left
      ·intro w'
       go_simp
       with_reducible rfl
      rotate_left
      ·simp only [Act.put, sq1, sq2, sq3, i64_w, i32_w]
       rfl
      refine done_ (by kernel_rfl) ?_
      have hnb45 := NB417_399.out
      have hnc45 := NB399_417.out
      have cz_ := c2_0 (w := w44) (g := gb417) BK417.out; obtain ⟨hcz46_0, hcz46_1⟩ := cz_
      have hfz46 := kF BK417.out
      go_upto_region 14 with (first | ((with_reducible refine gC (f := 14) rfl ?_); refine gL (some 48) rfl rfl Try.func14 (by kernel_rfl) rfl #[.agg #[.slice Ao23 t411.length co23, .slice Ao26 t414.length co26], .int .i64 1] rfl (by (try simp only [sm1, sm2, sm3]); first | done | rfl) ?_; (with_reducible refine (F31.calls kj10 (fun k_ => some k_ = (.slice Ao23 t411.length co23 : Value).ownBlock) (.slice Ao23 t411.length co23) t411 (fun k_ => some k_ = (.slice Ao26 t414.length co26 : Value).ownBlock) (.slice Ao26 t414.length co26) t414 1 t430 t431 t432 w _ ?side1 ?side2 ?side3 A38.out).mono ?_); (case side1 => repeat (first | (with_reducible first | exact HB.out | apply bA | apply bD | apply bE | refine bS ?_ GE399.out | refine bS ?_ GE417.out) | exact HB.out)); (case side2 => exact Kd.R_tight rfl HO_418000.out); (case side3 => exact Kd.R_tight rfl HO_418001.out); rintro e w47 ⟨rfl, hy0, hy1, hb, hkp⟩; refine ⟨_, rfl, ?_⟩; replace HO_4 := As.mk (Kd.R_mono (ok' := fun k_ => some k_ ≠ (v419 : Value).ownBlock) (Kd.R_keptB ((Kd.R_apart' (Kd.R_apart' HO_4.out (Kd.R_typed HO_418000.out) (by decide)) (Kd.R_typed HO_418001.out) (by decide))) hkp (fun k_ hk_ hs_ => Or.elim hs_ (fun e_ => (hk_.1.2) e_) (fun e_ => (hk_.2) e_))) (fun k_ hk_ => hk_.1.1.1)); replace HO_7 := As.mk (Kd.R_mono (ok' := fun k_ => some k_ ≠ (v408 : Value).ownBlock) (Kd.R_keptB ((Kd.R_apart' (Kd.R_apart' HO_7.out (Kd.R_typed HO_418000.out) (by decide)) (Kd.R_typed HO_418001.out) (by decide))) hkp (fun k_ hk_ hs_ => Or.elim hs_ (fun e_ => (hk_.1.2) e_) (fun e_ => (hk_.2) e_))) (fun k_ hk_ => hk_.1.1.1)); replace BK399 := As.mk (blk_kept (by (with_reducible repeat (first | refine kD ?_ _ | refine kE ?_ | refine kA ?_ _)); exact BK399.out) hkp (fun hs_ => Or.elim hs_ (fun e_ => (fun e_ => (Kd.R_ne HO_418000.out BK399.out (by decide)) e_) e_) (fun e_ => (fun e_ => (Kd.R_ne HO_418001.out BK399.out (by decide)) e_) e_))); replace BK417 := As.mk (blk_kept (by (with_reducible repeat (first | refine kD ?_ _ | refine kE ?_ | refine kA ?_ _)); exact BK417.out) hkp (fun hs_ => Or.elim hs_ (fun e_ => (fun e_ => (Kd.R_ne HO_418000.out BK417.out (by decide)) e_) e_) (fun e_ => (fun e_ => (Kd.R_ne HO_418001.out BK417.out (by decide)) e_) e_))); replace HO425 := As.mk (Kd.R_mono (ok' := fun k_ => some k_ ≠ (.slice Ao23 t411.length co23 : Value).ownBlock) (Kd.R_keptB ((Kd.R_apart' HO425.out (Kd.R_typed HO_418001.out) (by decide))) hkp (fun k_ hk_ hs_ => Or.elim hs_ (fun e_ => (hk_.1.2) e_) (fun e_ => (hk_.2) e_))) (fun k_ hk_ => hk_.1.1.2)); replace HO_418001 := As.mk (Kd.R_reok rfl hy1 (fun k_ e_ => HO_418001.out.1 k_ e_)); replace HO428 := As.mk (Kd.R_mono (ok' := fun k_ => some k_ ≠ (.slice Ao26 t414.length co26 : Value).ownBlock) (Kd.R_keptB ((Kd.R_apart' HO428.out (Kd.R_typed HO_418000.out) (by decide))) hkp (fun k_ hk_ hs_ => Or.elim hs_ (fun e_ => (hk_.2) e_) (fun e_ => (hk_.1.2) e_))) (fun k_ hk_ => hk_.1.1.2)); replace HO_418000 := As.mk (Kd.R_reok rfl hy0 (fun k_ e_ => HO_418000.out.1 k_ e_)); replace HB := As.mk (hb); (try clear hb); (try clear hkp); (try clear hy0); (try clear hy1)))
      (try simp only [Act.put, sq1, sq2, sq3])
      go_cut [61] (fun v61 wc => ∃ (kq : Nat) (x61_38 : Bool), v61 = .bool x61_38 ∧ As (laws_FnExactMarksOf.j1 kq t407 t410 t418 x61_38 l0_0 l0_1 = some r) ∧ As (kq ≤ kj10) ∧ As (Kd.R (Kd.int .i64) 2 wc w.heap.size (fun k_ => some k_ ≠ (v419 : Value).ownBlock) v408 t407) ∧ As (Kd.R (Kd.int .i64) 2 wc w.heap.size (fun k_ => some k_ ≠ (v408 : Value).ownBlock) v419 t418) ∧ As (Kd.R k80 80 wc w.heap.size (fun _ => True) (.slice Ao23 t411.length co23) t431) ∧ As (Kd.R k77 77 wc w.heap.size (fun _ => True) (.slice Ao26 t414.length co26) t432) ∧ As (wc.heap[gb399]? = some (.cells #[(.slice A0_0 l0_0.length c0_0), (.slice A0_1 l0_1.length c0_1)] 25 (0, 0))) ∧ As (wc.heap[gb417]? = some (.cells #[(.slice Ao23 t411.length co23), (.slice Ao26 t414.length co26)] 31 (0, 0))) ∧ As (Below w.heap.size w wc))
      case first =>
       have H := HC39.out
       clear HC39
       by_cases c48 : t430 < 0
       ·rw [if_pos c48] at H
        have c48b0 : decide (t430 < 0) = true := decide_eq_true c48
        clear c48
        (first | rw [c48b0] | (simp only [i64_w, i32_w]; rw [c48b0]) | skip)
        have H' := As.mk H
        clear H
        go_wp2
        go_meet
        case rel => exact ⟨_, (true), (by first | rfl | (simp; done) | (simp [*]; done)), H', ⟨by have := HJ10.out; first | omega | exact Nat.le_refl _⟩, ⟨by (with_reducible repeat (first | apply Kd.RA | apply Kd.RN | apply Kd.RD)); exact HO_4.out⟩, ⟨by (with_reducible repeat (first | apply Kd.RA | apply Kd.RN | apply Kd.RD)); exact HO_7.out⟩, ⟨by (with_reducible repeat (first | apply Kd.RA | apply Kd.RN | apply Kd.RD)); exact Kd.R_mono HO_418000.out (fun _ hk => trivial)⟩, ⟨by (with_reducible repeat (first | apply Kd.RA | apply Kd.RN | apply Kd.RD)); exact Kd.R_mono HO_418001.out (fun _ hk => trivial)⟩, ⟨by (with_reducible repeat (first | refine kD ?_ _ | refine kE ?_ | refine kA ?_ _)); exact BK399.out⟩, ⟨by (with_reducible repeat (first | refine kD ?_ _ | refine kE ?_ | refine kA ?_ _)); exact BK417.out⟩, ⟨by repeat (first | (with_reducible first | exact HB.out | apply bA | apply bD | apply bE | refine bS ?_ GE399.out | refine bS ?_ GE417.out) | exact HB.out)⟩⟩
       ·rw [if_neg c48] at H
        have c48b0 : decide (t430 < 0) = false := decide_eq_false c48
        clear c48
        (first | rw [c48b0] | (simp only [i64_w, i32_w]; rw [c48b0]) | skip)
        replace H := Option.bind_eq_some_iff.mp H
        obtain ⟨t433, A490, H⟩ := H
        replace H : (if t433 = true then (laws_FnExactMarksOf.j1 kj10 t407 t410 t418 (t421 != t410) l0_0 l0_1) else (laws_FnExactMarksOf.j1 kj10 t407 t410 t418 true l0_0 l0_1)) = some r := H
        have A49 := As.mk A490
        clear A490
        by_cases c50 : t433 = true
        ·subst c50
         replace H : (laws_FnExactMarksOf.j1 kj10 t407 t410 t418 (t421 != t410) l0_0 l0_1) = some r := by rw [if_pos rfl] at H; exact H
         have H' := As.mk H
         clear H
         obtain ⟨Ao51, co51, eo51⟩ := Kd.R_slice HO_7.out
         subst eo51
         obtain ⟨Ao52, co52, eo52⟩ := Kd.R_slice HO_4.out
         subst eo52
         go_wp2_with (first | (go_at_call 13; (with_reducible refine (F14.calls kj10 _ _ t418 _ _ t407 true _ ?side1 ?side2 ?side3 ?side4 A49.out).mono ?_); (case side1 => repeat (first | exact (Kd.RR HO_7.out).2.2 | (with_reducible refine Kd.CA ?_ _) | (with_reducible refine Kd.CN ?_ _) | (with_reducible refine Kd.CD ?_))); (case side2 => exact (Kd.RR HO_7.out).2.1); (case side3 => repeat (first | exact (Kd.RR HO_4.out).2.2 | (with_reducible refine Kd.CA ?_ _) | (with_reducible refine Kd.CN ?_ _) | (with_reducible refine Kd.CD ?_))); (case side4 => exact (Kd.RR HO_4.out).2.1); rintro e w' ⟨rfl, ⟨nd, rfl⟩⟩))
         go_meet
         case rel => exact ⟨_, ((t421 != t410)), (by first | rfl | (simp; done) | (simp [*]; done)), H', ⟨by have := HJ10.out; first | omega | exact Nat.le_refl _⟩, ⟨by (with_reducible repeat (first | apply Kd.RA | apply Kd.RN | apply Kd.RD)); exact HO_4.out⟩, ⟨by (with_reducible repeat (first | apply Kd.RA | apply Kd.RN | apply Kd.RD)); exact HO_7.out⟩, ⟨by (with_reducible repeat (first | apply Kd.RA | apply Kd.RN | apply Kd.RD)); exact Kd.R_mono HO_418000.out (fun _ hk => trivial)⟩, ⟨by (with_reducible repeat (first | apply Kd.RA | apply Kd.RN | apply Kd.RD)); exact Kd.R_mono HO_418001.out (fun _ hk => trivial)⟩, ⟨by (with_reducible repeat (first | refine kD ?_ _ | refine kE ?_ | refine kA ?_ _)); exact BK399.out⟩, ⟨by (with_reducible repeat (first | refine kD ?_ _ | refine kE ?_ | refine kA ?_ _)); exact BK417.out⟩, ⟨by repeat (first | (with_reducible first | exact HB.out | apply bA | apply bD | apply bE | refine bS ?_ GE399.out | refine bS ?_ GE417.out) | exact HB.out)⟩⟩
        ·replace c50 := Bool.eq_false_iff.mpr c50
         subst c50
         replace H : (laws_FnExactMarksOf.j1 kj10 t407 t410 t418 true l0_0 l0_1) = some r := by rw [if_neg (show ¬ (false = true) by decide)] at H; exact H
         have H' := As.mk H
         clear H
         obtain ⟨Ao53, co53, eo53⟩ := Kd.R_slice HO_7.out
         subst eo53
         obtain ⟨Ao54, co54, eo54⟩ := Kd.R_slice HO_4.out
         subst eo54
         go_wp2_with (first | (go_at_call 13; (with_reducible refine (F14.calls kj10 _ _ t418 _ _ t407 false _ ?side1 ?side2 ?side3 ?side4 A49.out).mono ?_); (case side1 => repeat (first | exact (Kd.RR HO_7.out).2.2 | (with_reducible refine Kd.CA ?_ _) | (with_reducible refine Kd.CN ?_ _) | (with_reducible refine Kd.CD ?_))); (case side2 => exact (Kd.RR HO_7.out).2.1); (case side3 => repeat (first | exact (Kd.RR HO_4.out).2.2 | (with_reducible refine Kd.CA ?_ _) | (with_reducible refine Kd.CN ?_ _) | (with_reducible refine Kd.CD ?_))); (case side4 => exact (Kd.RR HO_4.out).2.1); rintro e w' ⟨rfl, ⟨nd, rfl⟩⟩))
         go_meet
         case rel => exact ⟨_, (true), (by first | rfl | (simp; done) | (simp [*]; done)), H', ⟨by have := HJ10.out; first | omega | exact Nat.le_refl _⟩, ⟨by (with_reducible repeat (first | apply Kd.RA | apply Kd.RN | apply Kd.RD)); exact HO_4.out⟩, ⟨by (with_reducible repeat (first | apply Kd.RA | apply Kd.RN | apply Kd.RD)); exact HO_7.out⟩, ⟨by (with_reducible repeat (first | apply Kd.RA | apply Kd.RN | apply Kd.RD)); exact Kd.R_mono HO_418000.out (fun _ hk => trivial)⟩, ⟨by (with_reducible repeat (first | apply Kd.RA | apply Kd.RN | apply Kd.RD)); exact Kd.R_mono HO_418001.out (fun _ hk => trivial)⟩, ⟨by (with_reducible repeat (first | refine kD ?_ _ | refine kE ?_ | refine kA ?_ _)); exact BK399.out⟩, ⟨by (with_reducible repeat (first | refine kD ?_ _ | refine kE ?_ | refine kA ?_ _)); exact BK417.out⟩, ⟨by repeat (first | (with_reducible first | exact HB.out | apply bA | apply bD | apply bE | refine bS ?_ GE399.out | refine bS ?_ GE417.out) | exact HB.out)⟩⟩
      case rest =>
       clear HC39
       try clear c3
       try clear c3b0
       try clear c34
       try clear c37
       try clear hcz13_0
       try clear hcz13_1
       try clear hcz15_0
       try clear hcz15_1
       try clear hcz20_0
       try clear hcz20_1
       try clear hcz25_0
       try clear hcz25_1
       try clear hcz46_0
       try clear hcz46_1
       try clear hfz13
       try clear hfz15
       try clear hfz20
       try clear hfz25
       try clear hfz46
       obtain ⟨kq, x61_38, rfl, HA, HJ38, HO_4, HO_7, HO_418000, HO_418001, BK399, BK417, HB⟩ := hcut
       have hl418000_38 := (Kd.RR HO_418000.out).1
       rw [hl418000_38] at HO_418000
       (try simp only [hl418000_38])
       (try simp only [hl418000_38] at BK399)
       (try simp only [hl418000_38] at BK417)
       (try simp only [hl418000_38] at HO_4)
       (try simp only [hl418000_38] at HO_7)
       (try simp only [hl418000_38] at HO_418001)
       have hl418001_38 := (Kd.RR HO_418001.out).1
       rw [hl418001_38] at HO_418001
       (try simp only [hl418001_38])
       (try simp only [hl418001_38] at BK399)
       (try simp only [hl418001_38] at BK417)
       (try simp only [hl418001_38] at HO_4)
       (try simp only [hl418001_38] at HO_7)
       (try simp only [hl418001_38] at HO_418000)
       cases kq with
       | zero => exact absurd HA.out (by simp [laws_FnExactMarksOf.j1])
       | succ kj38 =>
        have H := HA.out
        clear HA
        simp only [laws_FnExactMarksOf.j1] at H
        by_cases c55 : x61_38 = true
        ·subst c55
         replace H : (none) = some r := by rw [if_pos rfl] at H; exact H
         exact absurd H (by simp)
        ·replace c55 := Bool.eq_false_iff.mpr c55
         subst c55
         replace H : ((F28.f kj38 t418 1).bind fun bt434 => ((F24.f kj38 bt434.2 1).bind fun t436 => (if t436 < 0 then (none) else (if t436 = bt434.1 then ((F23.f kj38 l0_0 l0_1).bind fun bt437 => ((F37.f kj38 bt437.1 bt437.2).bind fun bt443 => ((F14.f kj38 bt443.1 t407).bind fun t447 => (if t447 = true then (laws_FnExactMarksOf.j2 kj38 bt434.2 bt434.1 (bt443.2 != t410)) else (laws_FnExactMarksOf.j2 kj38 bt434.2 bt434.1 true))))) else (none))))) = some r := by rw [if_neg (show ¬ (false = true) by decide)] at H; exact H
         replace H := Option.bind_eq_some_iff.mp H
         obtain ⟨⟨t434, t435⟩, A560, H⟩ := H
         replace H : ((F24.f kj38 t435 1).bind fun t436 => (if t436 < 0 then (none) else (if t436 = t434 then ((F23.f kj38 l0_0 l0_1).bind fun bt437 => ((F37.f kj38 bt437.1 bt437.2).bind fun bt443 => ((F14.f kj38 bt443.1 t407).bind fun t447 => (if t447 = true then (laws_FnExactMarksOf.j2 kj38 t435 t434 (bt443.2 != t410)) else (laws_FnExactMarksOf.j2 kj38 t435 t434 true))))) else (none)))) = some r := H
         have A56 := As.mk A560
         clear A560
         replace H := Option.bind_eq_some_iff.mp H
         obtain ⟨t436, A570, H⟩ := H
         replace H : (if t436 < 0 then (none) else (if t436 = t434 then ((F23.f kj38 l0_0 l0_1).bind fun bt437 => ((F37.f kj38 bt437.1 bt437.2).bind fun bt443 => ((F14.f kj38 bt443.1 t407).bind fun t447 => (if t447 = true then (laws_FnExactMarksOf.j2 kj38 t435 t434 (bt443.2 != t410)) else (laws_FnExactMarksOf.j2 kj38 t435 t434 true))))) else (none))) = some r := H
         have A57 := As.mk A570
         clear A570
         by_cases c58 : t436 < 0
         ·rw [if_pos c58] at H
          exact absurd H (by simp)
         ·rw [if_neg c58] at H
          have c58b0 : decide (t436 < 0) = false := decide_eq_false c58
          clear c58
          by_cases c59 : t436 = t434
          ·rw [if_pos c59] at H
           have c59b0 : (t436 == t434) = true := beq_iff_eq.mpr c59
           have c59b1 : (t436 != t434) = false := bne_eq_false_iff_eq.mpr c59
           clear c59
           replace H := Option.bind_eq_some_iff.mp H
           obtain ⟨⟨t437, t440⟩, A600, H⟩ := H
           replace H : ((F37.f kj38 t437 t440).bind fun bt443 => ((F14.f kj38 bt443.1 t407).bind fun t447 => (if t447 = true then (laws_FnExactMarksOf.j2 kj38 t435 t434 (bt443.2 != t410)) else (laws_FnExactMarksOf.j2 kj38 t435 t434 true)))) = some r := H
           have A60 := As.mk A600
           clear A600
           replace H := Option.bind_eq_some_iff.mp H
           obtain ⟨⟨t443, t446⟩, A610, H⟩ := H
           replace H : ((F14.f kj38 t443 t407).bind fun t447 => (if t447 = true then (laws_FnExactMarksOf.j2 kj38 t435 t434 (t446 != t410)) else (laws_FnExactMarksOf.j2 kj38 t435 t434 true))) = some r := H
           have A61 := As.mk A610
           clear A610
           have HC62 := As.mk H
           clear H
           obtain ⟨Ao63, co63, eo63⟩ := Kd.R_slice HO_7.out
           subst eo63
           go_upto_region 25 with (first | ((with_reducible refine gC (f := 15) rfl ?_); refine gL (some 64) rfl rfl Try.func15 (by kernel_rfl) rfl #[.slice Ao63 t418.length co63, .int .i64 1] rfl (by (try simp only [sm1, sm2, sm3]); first | done | rfl) ?_; (with_reducible refine (F28.calls kj38 (fun k_ => some k_ = (.slice Ao63 t418.length co63 : Value).ownBlock) (.slice Ao63 t418.length co63) t418 1 t434 t435 w _ ?side1 ?side2 A56.out).mono ?_); (case side1 => repeat (first | (with_reducible first | exact HB.out | apply bA | apply bD | apply bE | refine bS ?_ GE399.out | refine bS ?_ GE417.out) | exact HB.out)); (case side2 => exact Kd.R_tight rfl HO_7.out); rintro e w64 ⟨rfl, hy0, hb, hkp⟩; refine ⟨_, rfl, ?_⟩; replace HO_4 := As.mk (Kd.R_mono (ok' := fun k_ => some k_ ≠ (.slice Ao63 t418.length co63 : Value).ownBlock) (Kd.R_keptB (HO_4.out) hkp (fun k_ hk_ hs_ => (hk_) hs_)) (fun k_ hk_ => hk_.1)); replace HO_418000 := As.mk (Kd.R_mono (ok' := fun k_ => True) (Kd.R_keptB ((Kd.R_apart' HO_418000.out (Kd.R_typed HO_7.out) (by decide))) hkp (fun k_ hk_ hs_ => (hk_.2) hs_)) (fun k_ hk_ => trivial)); replace HO_418001 := As.mk (Kd.R_mono (ok' := fun k_ => True) (Kd.R_keptB ((Kd.R_apart' HO_418001.out (Kd.R_typed HO_7.out) (by decide))) hkp (fun k_ hk_ hs_ => (hk_.2) hs_)) (fun k_ hk_ => trivial)); replace BK399 := As.mk (blk_kept (by (with_reducible repeat (first | refine kD ?_ _ | refine kE ?_ | refine kA ?_ _)); exact BK399.out) hkp (fun hs_ => (fun e_ => (Kd.R_ne HO_7.out BK399.out (by decide)) e_) hs_)); replace BK417 := As.mk (blk_kept (by (with_reducible repeat (first | refine kD ?_ _ | refine kE ?_ | refine kA ?_ _)); exact BK417.out) hkp (fun hs_ => (fun e_ => (Kd.R_ne HO_7.out BK417.out (by decide)) e_) hs_)); replace HO_7 := As.mk (Kd.R_reok rfl hy0 (fun k_ e_ => HO_7.out.1 k_ e_)); replace HB := As.mk (hb); (try clear hb); (try clear hkp); (try clear hy0)) | ((with_reducible refine gC (f := 16) rfl ?_); refine gL (some 67) rfl rfl Try.func16 (by kernel_rfl) rfl #[.slice Ao63 t435.length co63, .int .i64 1] rfl (by (try simp only [sm1, sm2, sm3]); first | done | (rw [show t435.length = t418.length from (Kd.RR HO_7.out).1.symm] <;> rfl) | rfl | (simp only [List.length_drop, List.length_take]; rfl)) ?_; (with_reducible refine (F24.calls kj38 _ _ t435 1 t436 _ ?side1 ?side2 A57.out).mono ?_); (case side1 => repeat (first | exact (Kd.RR HO_7.out).2.2 | (with_reducible refine Kd.CA ?_ _) | (with_reducible refine Kd.CN ?_ _) | (with_reducible refine Kd.CD ?_))); (case side2 => rw [show t435.length = t418.length from (Kd.RR HO_7.out).1.symm]; exact (Kd.RR HO_7.out).2.1); rintro e w' ⟨rfl, ⟨nd, rfl⟩⟩; refine ⟨_, rfl, ?_⟩; have hnb65 := NB399_417.out; have hnc65 := NB417_399.out; have cz_ := c2_0 (w := w64) (g := gb399) BK399.out; obtain ⟨hcz66_0, hcz66_1⟩ := cz_; have hfz66 := kF BK399.out) | ((with_reducible refine gC (f := 8) rfl ?_); refine gL (some 75) rfl rfl Try.func8 (by kernel_rfl) rfl #[.agg #[.slice A0_0 l0_0.length c0_0, .slice A0_1 l0_1.length c0_1]] rfl (by (try simp only [sm1, sm2, sm3]); first | done | rfl) ?_; (with_reducible refine (F23.calls kj38 _ _ l0_0 _ _ l0_1 t437 t440 _ ?side1 ?side2 ?side3 ?side4 A60.out).mono ?_); (case side1 => repeat (first | exact (Kd.CB HR0_0.out (by repeat (first | (with_reducible first | exact HB.out | apply bA | apply bD | apply bE | refine bS ?_ GE399.out | refine bS ?_ GE417.out) | exact HB.out))) | (with_reducible refine Kd.CA ?_ _) | (with_reducible refine Kd.CN ?_ _) | (with_reducible refine Kd.CD ?_))); (case side2 => exact HC0_0.out); (case side3 => repeat (first | exact (Kd.CB HR0_1.out (by repeat (first | (with_reducible first | exact HB.out | apply bA | apply bD | apply bE | refine bS ?_ GE399.out | refine bS ?_ GE417.out) | exact HB.out))) | (with_reducible refine Kd.CA ?_ _) | (with_reducible refine Kd.CN ?_ _) | (with_reducible refine Kd.CD ?_))); (case side4 => exact HC0_1.out); rintro e w67 ⟨v438, v441, rfl, ho0, ho1, hb⟩; refine ⟨_, rfl, ?_⟩; have HO439 := As.mk (Kd.R_lower (Kd.R_new' ho0 (Kd.R_lt (by (with_reducible repeat (first | apply Kd.RA | apply Kd.RN | apply Kd.RD)); exact HO_418000.out))) (bZ (by repeat (first | (with_reducible first | exact HB.out | apply bA | apply bD | apply bE | refine bS ?_ GE399.out | refine bS ?_ GE417.out) | exact HB.out)))); have HO442 := As.mk (Kd.R_lower (Kd.R_new' ho1 (Kd.R_lt (by (with_reducible repeat (first | apply Kd.RA | apply Kd.RN | apply Kd.RD)); exact HO_418001.out))) (bZ (by repeat (first | (with_reducible first | exact HB.out | apply bA | apply bD | apply bE | refine bS ?_ GE399.out | refine bS ?_ GE417.out) | exact HB.out)))); replace HO_4 := As.mk (Kd.R_below (by (with_reducible repeat (first | apply Kd.RA | apply Kd.RN | apply Kd.RD)); exact HO_4.out) hb); replace HO_7 := As.mk (Kd.R_below (by (with_reducible repeat (first | apply Kd.RA | apply Kd.RN | apply Kd.RD)); exact HO_7.out) hb); replace HO_418000 := As.mk (Kd.R_elder' (by (with_reducible repeat (first | apply Kd.RA | apply Kd.RN | apply Kd.RD)); exact HO_418000.out) (Kd.R_base ho0) hb); replace HO_418001 := As.mk (Kd.R_elder' (by (with_reducible repeat (first | apply Kd.RA | apply Kd.RN | apply Kd.RD)); exact HO_418001.out) (Kd.R_base ho1) hb); replace BK399 := As.mk (kB (g := gb399) (o := .cells #[.slice A0_0 l0_0.length c0_0, .slice A0_1 l0_1.length c0_1] 25 (0, 0)) (by (with_reducible repeat (first | refine kD ?_ _ | refine kE ?_ | refine kA ?_ _)); exact BK399.out) hb); replace BK417 := As.mk (kB (g := gb417) (o := .cells #[.slice Ao23 t431.length co23, .slice Ao26 t432.length co26] 31 (0, 0)) (by (with_reducible repeat (first | refine kD ?_ _ | refine kE ?_ | refine kA ?_ _)); exact BK417.out) hb); replace HB := As.mk (bT (by repeat (first | (with_reducible first | exact HB.out | apply bA | apply bD | apply bE | refine bS ?_ GE399.out | refine bS ?_ GE417.out) | exact HB.out)) hb); (try clear hb); (try clear hk); (try clear ho0); (try clear ho1); obtain ⟨Ao68, co68, eo68⟩ := Kd.R_slice HO439.out; subst eo68; obtain ⟨Ao69, co69, eo69⟩ := Kd.R_slice HO442.out; subst eo69) | ((with_reducible refine gC (f := 12) rfl ?_); refine gL (some 76) rfl rfl Try.func12 (by kernel_rfl) rfl #[.agg #[.slice Ao68 t437.length co68, .slice Ao69 t440.length co69]] rfl (by (try simp only [sm1, sm2, sm3]); first | done | rfl) ?_; (with_reducible refine (F37.calls kj38 _ _ t437 _ _ t440 t443 t446 _ ?side1 ?side2 ?side3 ?side4 A61.out).mono ?_); (case side1 => repeat (first | exact (Kd.RR HO439.out).2.2 | (with_reducible refine Kd.CA ?_ _) | (with_reducible refine Kd.CN ?_ _) | (with_reducible refine Kd.CD ?_))); (case side2 => exact (Kd.RR HO439.out).2.1); (case side3 => repeat (first | exact (Kd.RR HO442.out).2.2 | (with_reducible refine Kd.CA ?_ _) | (with_reducible refine Kd.CN ?_ _) | (with_reducible refine Kd.CD ?_))); (case side4 => exact (Kd.RR HO442.out).2.1); rintro e w70 ⟨v444, rfl, ho0, hb⟩; refine ⟨_, rfl, ?_⟩; have HO445 := As.mk (Kd.R_lower (Kd.R_new' (Kd.R_new' ho0 (Kd.R_lt (by (with_reducible repeat (first | apply Kd.RA | apply Kd.RN | apply Kd.RD)); exact HO_4.out))) (Kd.R_lt (by (with_reducible repeat (first | apply Kd.RA | apply Kd.RN | apply Kd.RD)); exact HO_7.out))) (bZ (by repeat (first | (with_reducible first | exact HB.out | apply bA | apply bD | apply bE | refine bS ?_ GE399.out | refine bS ?_ GE417.out) | exact HB.out)))); replace HO_4 := As.mk (Kd.R_elder' (by (with_reducible repeat (first | apply Kd.RA | apply Kd.RN | apply Kd.RD)); exact HO_4.out) (Kd.R_base ho0) hb); replace HO_7 := As.mk (Kd.R_elder' (by (with_reducible repeat (first | apply Kd.RA | apply Kd.RN | apply Kd.RD)); exact HO_7.out) (Kd.R_base ho0) hb); replace HO_418000 := As.mk (Kd.R_below (by (with_reducible repeat (first | apply Kd.RA | apply Kd.RN | apply Kd.RD)); exact HO_418000.out) hb); replace HO_418001 := As.mk (Kd.R_below (by (with_reducible repeat (first | apply Kd.RA | apply Kd.RN | apply Kd.RD)); exact HO_418001.out) hb); replace HO439 := As.mk (Kd.R_below (by (with_reducible repeat (first | apply Kd.RA | apply Kd.RN | apply Kd.RD)); exact HO439.out) hb); replace HO442 := As.mk (Kd.R_below (by (with_reducible repeat (first | apply Kd.RA | apply Kd.RN | apply Kd.RD)); exact HO442.out) hb); replace BK399 := As.mk (kB (g := gb399) (o := .cells #[.slice A0_0 l0_0.length c0_0, .slice A0_1 l0_1.length c0_1] 25 (0, 0)) (by (with_reducible repeat (first | refine kD ?_ _ | refine kE ?_ | refine kA ?_ _)); exact BK399.out) hb); replace BK417 := As.mk (kB (g := gb417) (o := .cells #[.slice Ao23 t431.length co23, .slice Ao26 t432.length co26] 31 (0, 0)) (by (with_reducible repeat (first | refine kD ?_ _ | refine kE ?_ | refine kA ?_ _)); exact BK417.out) hb); replace HB := As.mk (bT (by repeat (first | (with_reducible first | exact HB.out | apply bA | apply bD | apply bE | refine bS ?_ GE399.out | refine bS ?_ GE417.out) | exact HB.out)) hb); (try clear hb); (try clear hk); (try clear ho0)))
           (try simp only [Act.put, sq1, sq2, sq3])
           go_cut [87] (fun v87 wc => ∃ (kq : Nat) (x87_61 : Bool), v87 = .bool x87_61 ∧ As (laws_FnExactMarksOf.j2 kq t435 t434 x87_61 = some r) ∧ As (kq ≤ kj38) ∧ As (Kd.R (Kd.int .i64) 2 wc w.heap.size (fun _ => True) (.slice Ao63 t418.length co63) t435) ∧ As (Kd.R k80 80 wc w.heap.size (fun _ => True) (.slice Ao23 t431.length co23) t431) ∧ As (Kd.R k77 77 wc w.heap.size (fun _ => True) (.slice Ao26 t432.length co26) t432) ∧ As (wc.heap[gb399]? = some (.cells #[(.slice A0_0 l0_0.length c0_0), (.slice A0_1 l0_1.length c0_1)] 25 (0, 0))) ∧ As (wc.heap[gb417]? = some (.cells #[(.slice Ao23 t431.length co23), (.slice Ao26 t432.length co26)] 31 (0, 0))) ∧ As (Below w.heap.size w wc))
           case first =>
            have H := HC62.out
            clear HC62
            replace H := Option.bind_eq_some_iff.mp H
            obtain ⟨t447, A710, H⟩ := H
            replace H : (if t447 = true then (laws_FnExactMarksOf.j2 kj38 t435 t434 (t446 != t410)) else (laws_FnExactMarksOf.j2 kj38 t435 t434 true)) = some r := H
            have A71 := As.mk A710
            clear A710
            by_cases c72 : t447 = true
            ·subst c72
             replace H : (laws_FnExactMarksOf.j2 kj38 t435 t434 (t446 != t410)) = some r := by rw [if_pos rfl] at H; exact H
             have H' := As.mk H
             clear H
             obtain ⟨Ao73, co73, eo73⟩ := Kd.R_slice HO445.out
             subst eo73
             obtain ⟨Ao74, co74, eo74⟩ := Kd.R_slice HO_4.out
             subst eo74
             go_wp2_with (first | ((with_reducible refine gC (f := 13) rfl ?_); refine gL (some 81) rfl rfl Try.func13 (by kernel_rfl) rfl #[.slice Ao73 t443.length co73, .slice Ao74 t407.length co74] rfl (by (try simp only [sm1, sm2, sm3]); first | done | rfl) ?_; (with_reducible refine (F14.calls kj38 _ _ t443 _ _ t407 true _ ?side1 ?side2 ?side3 ?side4 A71.out).mono ?_); (case side1 => repeat (first | exact (Kd.RR HO445.out).2.2 | (with_reducible refine Kd.CA ?_ _) | (with_reducible refine Kd.CN ?_ _) | (with_reducible refine Kd.CD ?_))); (case side2 => exact (Kd.RR HO445.out).2.1); (case side3 => repeat (first | exact (Kd.RR HO_4.out).2.2 | (with_reducible refine Kd.CA ?_ _) | (with_reducible refine Kd.CN ?_ _) | (with_reducible refine Kd.CD ?_))); (case side4 => exact (Kd.RR HO_4.out).2.1); rintro e w' ⟨rfl, ⟨nd, rfl⟩⟩; refine ⟨_, rfl, ?_⟩))
             go_meet
             case rel => exact ⟨_, ((t446 != t410)), (by first | rfl | (simp; done) | (simp [*]; done)), H', ⟨by have := HJ10.out; have := HJ38.out; first | omega | exact Nat.le_refl _⟩, ⟨by (try simp only [hl418000_38]); (try simp only [hl418001_38]); (with_reducible repeat (first | apply Kd.RA | apply Kd.RN | apply Kd.RD)); exact Kd.R_mono HO_7.out (fun _ hk => trivial)⟩, ⟨by (try simp only [hl418000_38]); (try simp only [hl418001_38]); (with_reducible repeat (first | apply Kd.RA | apply Kd.RN | apply Kd.RD)); exact Kd.R_mono HO_418000.out (fun _ hk => trivial)⟩, ⟨by (try simp only [hl418000_38]); (try simp only [hl418001_38]); (with_reducible repeat (first | apply Kd.RA | apply Kd.RN | apply Kd.RD)); exact Kd.R_mono HO_418001.out (fun _ hk => trivial)⟩, ⟨by (try simp only [hl418000_38]); (try simp only [hl418001_38]); (with_reducible repeat (first | refine kD ?_ _ | refine kE ?_ | refine kA ?_ _)); exact BK399.out⟩, ⟨by (try simp only [hl418000_38]); (try simp only [hl418001_38]); (with_reducible repeat (first | refine kD ?_ _ | refine kE ?_ | refine kA ?_ _)); exact BK417.out⟩, ⟨by repeat (first | (with_reducible first | exact HB.out | apply bA | apply bD | apply bE | refine bS ?_ GE399.out | refine bS ?_ GE417.out) | exact HB.out)⟩⟩
            ·replace c72 := Bool.eq_false_iff.mpr c72
             subst c72
             replace H : (laws_FnExactMarksOf.j2 kj38 t435 t434 true) = some r := by rw [if_neg (show ¬ (false = true) by decide)] at H; exact H
             have H' := As.mk H
             clear H
             obtain ⟨Ao75, co75, eo75⟩ := Kd.R_slice HO445.out
             subst eo75
             obtain ⟨Ao76, co76, eo76⟩ := Kd.R_slice HO_4.out
             subst eo76
             go_wp2_with (first | ((with_reducible refine gC (f := 13) rfl ?_); refine gL (some 81) rfl rfl Try.func13 (by kernel_rfl) rfl #[.slice Ao75 t443.length co75, .slice Ao76 t407.length co76] rfl (by (try simp only [sm1, sm2, sm3]); first | done | rfl) ?_; (with_reducible refine (F14.calls kj38 _ _ t443 _ _ t407 false _ ?side1 ?side2 ?side3 ?side4 A71.out).mono ?_); (case side1 => repeat (first | exact (Kd.RR HO445.out).2.2 | (with_reducible refine Kd.CA ?_ _) | (with_reducible refine Kd.CN ?_ _) | (with_reducible refine Kd.CD ?_))); (case side2 => exact (Kd.RR HO445.out).2.1); (case side3 => repeat (first | exact (Kd.RR HO_4.out).2.2 | (with_reducible refine Kd.CA ?_ _) | (with_reducible refine Kd.CN ?_ _) | (with_reducible refine Kd.CD ?_))); (case side4 => exact (Kd.RR HO_4.out).2.1); rintro e w' ⟨rfl, ⟨nd, rfl⟩⟩; refine ⟨_, rfl, ?_⟩))
             go_meet
             case rel => exact ⟨_, (true), (by first | rfl | (simp; done) | (simp [*]; done)), H', ⟨by have := HJ10.out; have := HJ38.out; first | omega | exact Nat.le_refl _⟩, ⟨by (try simp only [hl418000_38]); (try simp only [hl418001_38]); (with_reducible repeat (first | apply Kd.RA | apply Kd.RN | apply Kd.RD)); exact Kd.R_mono HO_7.out (fun _ hk => trivial)⟩, ⟨by (try simp only [hl418000_38]); (try simp only [hl418001_38]); (with_reducible repeat (first | apply Kd.RA | apply Kd.RN | apply Kd.RD)); exact Kd.R_mono HO_418000.out (fun _ hk => trivial)⟩, ⟨by (try simp only [hl418000_38]); (try simp only [hl418001_38]); (with_reducible repeat (first | apply Kd.RA | apply Kd.RN | apply Kd.RD)); exact Kd.R_mono HO_418001.out (fun _ hk => trivial)⟩, ⟨by (try simp only [hl418000_38]); (try simp only [hl418001_38]); (with_reducible repeat (first | refine kD ?_ _ | refine kE ?_ | refine kA ?_ _)); exact BK399.out⟩, ⟨by (try simp only [hl418000_38]); (try simp only [hl418001_38]); (with_reducible repeat (first | refine kD ?_ _ | refine kE ?_ | refine kA ?_ _)); exact BK417.out⟩, ⟨by repeat (first | (with_reducible first | exact HB.out | apply bA | apply bD | apply bE | refine bS ?_ GE399.out | refine bS ?_ GE417.out) | exact HB.out)⟩⟩
           case rest =>
            clear HC62
            try clear c3
            try clear c3b0
            try clear c34
            try clear c37
            try clear c55
            try clear c58
            try clear c58b0
            try clear c59
            try clear c59b0
            try clear c59b1
            try clear hcz13_0
            try clear hcz13_1
            try clear hcz15_0
            try clear hcz15_1
            try clear hcz20_0
            try clear hcz20_1
            try clear hcz25_0
            try clear hcz25_1
            try clear hcz46_0
            try clear hcz46_1
            try clear hcz66_0
            try clear hcz66_1
            try clear hfz13
            try clear hfz15
            try clear hfz20
            try clear hfz25
            try clear hfz46
            try clear hfz66
            obtain ⟨kq, x87_61, rfl, HA, HJ61, HO_7, HO_418000, HO_418001, BK399, BK417, HB⟩ := hcut
            have hl7_61 := (Kd.RR HO_7.out).1
            rw [hl7_61] at HO_7
            (try simp only [hl7_61])
            (try simp only [hl7_61] at BK399)
            (try simp only [hl7_61] at BK417)
            (try simp only [hl7_61] at HO_418000)
            (try simp only [hl7_61] at HO_418001)
            cases kq with
            | zero => exact absurd HA.out (by simp [laws_FnExactMarksOf.j2])
            | succ kj61 =>
             have H := HA.out
             clear HA
             simp only [laws_FnExactMarksOf.j2] at H
             by_cases c77 : x87_61 = true
             ·subst c77
              replace H : (none) = some r := by rw [if_pos rfl] at H; exact H
              exact absurd H (by simp)
             ·replace c77 := Bool.eq_false_iff.mpr c77
              subst c77
              replace H : ((F24.f kj61 t435 1).bind fun t448 => (if t448 < 0 then (none) else (if t448 = t434 then (some true) else (none)))) = some r := by rw [if_neg (show ¬ (false = true) by decide)] at H; exact H
              replace H := Option.bind_eq_some_iff.mp H
              obtain ⟨t448, A780, H⟩ := H
              replace H : (if t448 < 0 then (none) else (if t448 = t434 then (some true) else (none))) = some r := H
              have A78 := As.mk A780
              clear A780
              by_cases c79 : t448 < 0
              ·rw [if_pos c79] at H
               exact absurd H (by simp)
              ·rw [if_neg c79] at H
               have c79b0 : decide (t448 < 0) = false := decide_eq_false c79
               clear c79
               by_cases c80 : t448 = t434
               ·rw [if_pos c80] at H
                have c80b0 : (t448 == t434) = true := beq_iff_eq.mpr c80
                have c80b1 : (t448 != t434) = false := bne_eq_false_iff_eq.mpr c80
                clear c80
                obtain rfl := Option.some.inj H
                go_wp2_with (first | ((with_reducible refine gC (f := 16) rfl ?_); refine gL (some 90) rfl rfl Try.func16 (by kernel_rfl) rfl #[.slice Ao63 t435.length co63, .int .i64 1] rfl (by (try simp only [sm1, sm2, sm3]); first | done | rfl) ?_; (with_reducible refine (F24.calls kj61 _ _ t435 1 t448 _ ?side1 ?side2 A78.out).mono ?_); (case side1 => repeat (first | exact (Kd.RR HO_7.out).2.2 | (with_reducible refine Kd.CA ?_ _) | (with_reducible refine Kd.CN ?_ _) | (with_reducible refine Kd.CD ?_))); (case side2 => exact (Kd.RR HO_7.out).2.1); rintro e w' ⟨rfl, ⟨nd, rfl⟩⟩; refine ⟨_, rfl, ?_⟩))
                go_ret
                exact ⟨by first | rfl | (simp [eN, eS] <;> rfl) | (simp [*, eN, eS] <;> rfl), by repeat (first | (with_reducible first | exact HB.out | apply bA | apply bD | apply bE | refine bS ?_ GE399.out | refine bS ?_ GE417.out) | exact HB.out)⟩
               ·rw [if_neg c80] at H
                exact absurd H (by simp)
          ·rw [if_neg c59] at H
           exact absurd H (by simp)
     ·replace c37 := Bool.eq_false_iff.mpr c37
      subst c37
      replace H : (none) = some r := by rw [if_neg (show ¬ (false = true) by decide)] at H; exact H
      exact absurd H (by simp)
inductive G72 : S72 → Prop where
 | mk (x : S72) (h0 : (Lit.int .i64 x.f0).wf = true) (h1 : (Lit.int .i64 x.f1).wf = true) (h2 : x.f2.size ≤ 9223372036854775807) : G72 x
inductive G75 : S75 → Prop where
 | mk (x : S75) (h0 : x.f0.size ≤ 9223372036854775807) (h1 : (Lit.int .i64 x.f1).wf = true) : G75 x
inductive G25 : S25 → Prop where
 | mk (x : S25) (h0 : x.f0.length ≤ 9223372036854775807) (h0k : ∀ y_, y_ ∈ x.f0 → G72 y_) (h1 : x.f1.length ≤ 9223372036854775807) (h1k : ∀ y_, y_ ∈ x.f1 → G75 y_) : G25 x
def laws_FnExactMarksOf.Pure : Prop := ∀ (x0 : S25), (G25 x0) → ∃ k, laws_FnExactMarksOf.f k (x0.f0) (x0.f1) = some true
theorem laws_FnExactMarksOf.walk (P : laws_FnExactMarksOf.Pure) (x0 : S25) (A0_0 : Option Addr) (c0_0 : Nat) (A0_1 : Option Addr) (c0_1 : Nat) (w : World) (g0 : G25 x0) (r0_0 : Kd.C k72 w A0_0 (x0.f0).length (x0.f0)) (l0_0 : (x0.f0).length ≤ c0_0) (r0_1 : Kd.C k75 w A0_1 (x0.f1).length (x0.f1)) (l0_1 : (x0.f1).length ≤ c0_1) :
  Calls Try.prog 4 #[.agg #[.slice A0_0 (x0.f0).length c0_0, .slice A0_1 (x0.f1).length c0_1]] w fun e w' => e = .returned (.bool true) ∧ Below w.heap.size w w' := by
 obtain ⟨k, h⟩ := P x0 g0
 refine (laws_FnExactMarksOf.calls k A0_0 c0_0 (x0.f0) A0_1 c0_1 (x0.f1) true w r0_0 l0_0 r0_1 l0_1 h).mono ?_
 rintro e w' ⟨rfl, hd⟩
 exact ⟨rfl, hd⟩
end Go.Proofs.Ytbamjjaamjfnaaa.PFnExactMarksOf
