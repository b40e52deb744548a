/- Walks of printed functions. Conditions: none beyond each statement. -/
import Derived.Test.YtbamjjaamjfnaaaPFnExactNewMatcherx0
namespace Go.Proofs.Ytbamjjaamjfnaaa.PFnExactNewMatcher
open Go.RowKit Go.Proofs.YtbamjjaamjfnaaaW.PrintWords Go.Proofs.YtbamjjaamjfnaaaW.PrintLast Go.Proofs.YtbamjjaamjfnaaaW.PrintMore
set_option maxHeartbeats 8000000
set_option maxRecDepth 100000
attribute [local go_sem] max2_int min2_int max_two min_two max_three min_three max_four min_four   -- for this text's walks alone
set_option linter.unusedVariables false
set_option linter.unusedSimpArgs false
def F10.j0 : Nat → Int → Int → Bool → Int → Int → ByteArray → Option (List Int)
 | 0, _, _, _, _, _, _ => none
 | k + 1, x1, x12, x13, x318000, x318001, x318002 => if x13 = true then (some (([x318001] : List Int))) else (if x12 = 32 then (some (([wrap64 (x1 + 1), x318001] : List Int))) else (if x12 = 39 then (some ([] : List Int)) else (if x12 = 38 then (some ([] : List Int)) else (some (([wrap64 (x1 + 1)] : List Int))))))
def F10.f (k : Nat) (l0_0 : List (S80)) (l0_1 : List (S77)) (a1 : Int) : Option (List Int) := if 0 ≤ a1 then (if a1 < (l0_0.length : Int) then (if ((rd_T80 l0_0 a1).f0) = 33 then (F10.j0 k a1 ((rd_T80 l0_0 a1).f0) (((rd_T80 l0_0 a1).f0) == 33) ((rd_T80 l0_0 a1).f0) ((rd_T80 l0_0 a1).f1) ((rd_T80 l0_0 a1).f2)) else (F10.j0 k a1 ((rd_T80 l0_0 a1).f0) (((rd_T80 l0_0 a1).f0) == 37) ((rd_T80 l0_0 a1).f0) ((rd_T80 l0_0 a1).f1) ((rd_T80 l0_0 a1).f2))) else (none)) else (none)
theorem F10.mono_l : ∀ k, (∀ y0 y1 y2 y3 y4 y5, LeO (F10.j0 k y0 y1 y2 y3 y4 y5) (F10.j0 (k + 1) y0 y1 y2 y3 y4 y5))
 | 0 => fun _ _ _ _ _ _ r h => by simp [F10.j0] at h
 | k + 1 => by
  have ih0 := F10.mono_l k
  ·intro y0 y1 y2 y3 y4 y5
   unfold F10.j0
   repeat' with_reducible first
   | exact ih0 _ _ _ _ _ _
   | exact LeO.refl _
   | exact LeO.none _
   | refine LeO.ite ?_ ?_
   | refine LeO.bind ?_ (fun _ => ?_)
theorem F10.mono : ∀ a0 a1 a2 k, LeO (F10.f k a0 a1 a2) (F10.f (k + 1) a0 a1 a2) := by
 intro a0 a1 a2 k
 have ih0 := F10.mono_l k
 unfold F10.f
 repeat' with_reducible first
   | exact ih0 _ _ _ _ _ _
   | exact LeO.refl _
   | exact LeO.none _
   | refine LeO.ite ?_ ?_
   | refine LeO.bind ?_ (fun _ => ?_)
theorem F10.calls (k : Nat) (A0_0 : Option Addr) (c0_0 : Nat) (l0_0 : List (S80)) (A0_1 : Option Addr) (c0_1 : Nat) (l0_1 : List (S77)) (a1 : Int) (r : List Int) (w : World) (hr0_0 : Kd.C k80 w A0_0 l0_0.length l0_0) (hc0_0 : l0_0.length ≤ c0_0) (hr0_1 : Kd.C k77 w A0_1 l0_1.length l0_1) (hc0_1 : l0_1.length ≤ c0_1) (h : F10.f k l0_0 l0_1 a1 = some r) :
  Calls Try.prog 80 #[.agg #[.slice A0_0 l0_0.length c0_0, .slice A0_1 l0_1.length c0_1], .int .i64 a1] w fun e w' => ∃ v0_ : Value, e = .returned (v0_) ∧ Kd.R (Kd.int .i64) 2 w' w.heap.size (fun _ => True) v0_ r ∧ Below w.heap.size w w' := by
 have hu31 := Try.underlying31
 have hu80 := Try.underlying80
 have HR0_0 := As.mk hr0_0
 have HC0_0 := As.mk hc0_0
 clear hr0_0 hc0_0
 have HR0_1 := As.mk hr0_1
 have HC0_1 := As.mk hc0_1
 clear hr0_1 hc0_1
 have HB := As.mk (Below.refl w.heap.size w)
 have H : (if 0 ≤ a1 then (if a1 < (l0_0.length : Int) then (if ((rd_T80 l0_0 a1).f0) = 33 then (F10.j0 k a1 ((rd_T80 l0_0 a1).f0) (((rd_T80 l0_0 a1).f0) == 33) ((rd_T80 l0_0 a1).f0) ((rd_T80 l0_0 a1).f1) ((rd_T80 l0_0 a1).f2)) else (F10.j0 k a1 ((rd_T80 l0_0 a1).f0) (((rd_T80 l0_0 a1).f0) == 37) ((rd_T80 l0_0 a1).f0) ((rd_T80 l0_0 a1).f1) ((rd_T80 l0_0 a1).f2))) else (none)) else (none)) = some r := h
 clear h
 by_cases c3 : 0 ≤ a1
 ·rw [if_pos c3] at H
  have c3b0 : decide (0 ≤ a1) = true := decide_eq_true c3
  clear c3
  by_cases c4 : a1 < (l0_0.length : Int)
  ·rw [if_pos c4] at H
   have c4b0 : decide (a1 < (l0_0.length : Int)) = true := decide_eq_true c4
   clear c4
   have HC5 := As.mk H
   clear H
   go_enter Try.func80, Try.ntmps80
   go_upto_if 13 with (first | ((with_reducible refine gD (N := 2) rfl ?_); refine bX ?hg (N := 2) ?hd (cs := #[.slice A0_0 l0_0.length c0_0, .slice A0_1 l0_1.length c0_1]) (t := 31) ?hr ?_; (case hd => rfl); (case hg => rfl); (case hr => first | (go_simp; done) | (go_simp; rfl)); intro gb315 hg w6 hbox hb; have BK315 := As.mk (hbox); have GW315 := As.mk ((by rw [hg]; exact (bZ (by repeat (first | (with_reducible first | exact HB.out | apply bA | apply bD | apply bE) | exact HB.out))) : w.heap.size ≤ gb315)); have GE315 := GW315; replace HB := As.mk (bT (by repeat (first | (with_reducible first | exact HB.out | apply bA | apply bD | apply bE) | exact HB.out)) hb); clear hb hbox hg; have cz_ := c2_0 (w := w6) (g := gb315) BK315.out; obtain ⟨hcz7_0, hcz7_1⟩ := cz_; have hfz7 := kF BK315.out; have p316 : 0 ≤ (a1 : Int) := of_decide_eq_true (by first | (with_reducible assumption) | assumption); have q316 : a1 < (l0_0.length : Int) := of_decide_eq_true (by first | (with_reducible assumption) | assumption); obtain ⟨ad316, e316, hx316_0, hx316_1, hx316_2⟩ := at_T80 HR0_0.out a1 p316 q316; cases e316; replace hx316_0 := (HB.out.cell (World.block_lt_of_cell? w _ hx316_0)).trans hx316_0; replace hx316_1 := (HB.out.cell (World.block_lt_of_cell? w _ hx316_1)).trans hx316_1; replace hx316_2 := (HB.out.cell (World.block_lt_of_cell? w _ hx316_2)).trans hx316_2; replace p316 := eq_true p316; replace q316 := eq_true q316) | ((with_reducible refine gD (N := 5) rfl ?_); refine bX ?hg (N := 5) ?hd (cs := #[.int .i64 0, .int .i64 0, .string (⟨#[]⟩ : ByteArray)]) (t := 80) ?hr ?_; (case hd => rfl); (case hg => rfl); (case hr => first | (go_simp; done) | (go_simp; rfl)); intro gb317 hg w8 hbox hb; have BK317 := As.mk (hbox); have GW317 := As.mk ((by rw [hg]; exact (bZ (by repeat (first | (with_reducible first | exact HB.out | apply bA | apply bD | apply bE | refine bS ?_ GE315.out) | exact HB.out))) : w.heap.size ≤ gb317)); have GE317 := GW317; have NB315_317 := As.mk ((by rw [hg]; exact Nat.ne_of_lt (kL (g := gb315) (o := .cells #[.slice (some ad316) l0_0.length c0_0, .slice A0_1 l0_1.length c0_1] 31 (0, 0)) (by (with_reducible repeat (first | refine kD ?_ _ | refine kE ?_ | refine kA ?_ _)); exact BK315.out)) : gb315 ≠ gb317)); have NB317_315 := As.mk NB315_317.out.symm; replace BK315 := As.mk (kB (g := gb315) (o := .cells #[.slice (some ad316) l0_0.length c0_0, .slice A0_1 l0_1.length c0_1] 31 (0, 0)) (by (with_reducible repeat (first | refine kD ?_ _ | refine kE ?_ | refine kA ?_ _)); exact BK315.out) hb); replace HB := As.mk (bT (by repeat (first | (with_reducible first | exact HB.out | apply bA | apply bD | apply bE | refine bS ?_ GE315.out) | exact HB.out)) hb); clear hb hbox hg; have hnb9 := NB317_315.out; have hnc9 := NB315_317.out; have cz_ := c3_ (w := w8) (g := gb317) BK317.out; obtain ⟨hcz10_0, hcz10_1, hcz10_2⟩ := cz_; have hfz10 := kF BK317.out))
   (try simp only [Act.put, sq1, sq2, sq3])
   go_cut [13] (fun v13 wc => ∃ (kq : Nat) (x13_4 : Bool), v13 = .bool x13_4 ∧ As (F10.j0 kq a1 ((rd_T80 l0_0 a1).f0) x13_4 ((rd_T80 l0_0 a1).f0) ((rd_T80 l0_0 a1).f1) ((rd_T80 l0_0 a1).f2) = some r) ∧ As (kq ≤ k) ∧ As (wc.heap[gb315]? = some (.cells #[(.slice (some ad316) l0_0.length c0_0), (.slice A0_1 l0_1.length c0_1)] 31 (0, 0))) ∧ As (wc.heap[gb317]? = some (.cells #[.int .i64 ((rd_T80 l0_0 a1).f0), .int .i64 ((rd_T80 l0_0 a1).f1), .string ((rd_T80 l0_0 a1).f2)] 80 (0, 0))) ∧ As (Below w.heap.size w wc))
   case first =>
    have H := HC5.out
    clear HC5
    by_cases c11 : ((rd_T80 l0_0 a1).f0) = 33
    ·rw [if_pos c11] at H
     have c11b0 : (((rd_T80 l0_0 a1).f0) == 33) = true := beq_iff_eq.mpr c11
     have c11b1 : (((rd_T80 l0_0 a1).f0) != 33) = false := bne_eq_false_iff_eq.mpr c11
     clear c11
     (first | rw [c11b0] | (simp only [i64_w, i32_w]; rw [c11b0]) | skip)
     have H' := As.mk H
     clear H
     go_wp2
     go_meet
     case rel => exact ⟨_, ((((rd_T80 l0_0 a1).f0) == 33)), (by first | rfl | (simp; done) | (simp [*]; done)), H', ⟨by first | omega | exact Nat.le_refl _⟩, ⟨by (with_reducible repeat (first | refine kD ?_ _ | refine kE ?_ | refine kA ?_ _)); refine blk_far ?_ NB315_317.out _; (with_reducible repeat (first | refine kD ?_ _ | refine kE ?_ | refine kA ?_ _)); refine blk_far ?_ NB315_317.out _; (with_reducible repeat (first | refine kD ?_ _ | refine kE ?_ | refine kA ?_ _)); refine blk_far ?_ NB315_317.out _; (with_reducible repeat (first | refine kD ?_ _ | refine kE ?_ | refine kA ?_ _)); exact BK315.out⟩, ⟨by (with_reducible repeat (first | refine kD ?_ _ | refine kE ?_ | refine kA ?_ _)); refine blk_put (cs := #[.int .i64 ((rd_T80 l0_0 a1).f0), .int .i64 ((rd_T80 l0_0 a1).f1), .string (⟨#[]⟩ : ByteArray)]) ?_ 2 _ rfl; (with_reducible repeat (first | refine kD ?_ _ | refine kE ?_ | refine kA ?_ _)); refine blk_put (cs := #[.int .i64 ((rd_T80 l0_0 a1).f0), .int .i64 0, .string (⟨#[]⟩ : ByteArray)]) ?_ 1 _ rfl; (with_reducible repeat (first | refine kD ?_ _ | refine kE ?_ | refine kA ?_ _)); refine blk_put (cs := #[.int .i64 0, .int .i64 0, .string (⟨#[]⟩ : ByteArray)]) ?_ 0 _ rfl; (with_reducible repeat (first | refine kD ?_ _ | refine kE ?_ | refine kA ?_ _)); exact BK317.out⟩, ⟨by repeat (first | (with_reducible first | exact HB.out | apply bA | apply bD | apply bE | refine bS ?_ GE315.out | refine bS ?_ GE317.out) | exact HB.out)⟩⟩
    ·rw [if_neg c11] at H
     have c11b0 : (((rd_T80 l0_0 a1).f0) == 33) = false := beq_eq_false_iff_ne.mpr c11
     have c11b1 : (((rd_T80 l0_0 a1).f0) != 33) = true := bne_iff_ne.mpr c11
     (first | rw [c11b0] | (simp only [i64_w, i32_w]; rw [c11b0]) | skip)
     have H' := As.mk H
     clear H
     go_wp2
     go_meet
     case rel => exact ⟨_, ((((rd_T80 l0_0 a1).f0) == 37)), (by first | rfl | (simp; done) | (simp [*]; done)), H', ⟨by first | omega | exact Nat.le_refl _⟩, ⟨by (with_reducible repeat (first | refine kD ?_ _ | refine kE ?_ | refine kA ?_ _)); refine blk_far ?_ NB315_317.out _; (with_reducible repeat (first | refine kD ?_ _ | refine kE ?_ | refine kA ?_ _)); refine blk_far ?_ NB315_317.out _; (with_reducible repeat (first | refine kD ?_ _ | refine kE ?_ | refine kA ?_ _)); refine blk_far ?_ NB315_317.out _; (with_reducible repeat (first | refine kD ?_ _ | refine kE ?_ | refine kA ?_ _)); exact BK315.out⟩, ⟨by (with_reducible repeat (first | refine kD ?_ _ | refine kE ?_ | refine kA ?_ _)); refine blk_put (cs := #[.int .i64 ((rd_T80 l0_0 a1).f0), .int .i64 ((rd_T80 l0_0 a1).f1), .string (⟨#[]⟩ : ByteArray)]) ?_ 2 _ rfl; (with_reducible repeat (first | refine kD ?_ _ | refine kE ?_ | refine kA ?_ _)); refine blk_put (cs := #[.int .i64 ((rd_T80 l0_0 a1).f0), .int .i64 0, .string (⟨#[]⟩ : ByteArray)]) ?_ 1 _ rfl; (with_reducible repeat (first | refine kD ?_ _ | refine kE ?_ | refine kA ?_ _)); refine blk_put (cs := #[.int .i64 0, .int .i64 0, .string (⟨#[]⟩ : ByteArray)]) ?_ 0 _ rfl; (with_reducible repeat (first | refine kD ?_ _ | refine kE ?_ | refine kA ?_ _)); exact BK317.out⟩, ⟨by repeat (first | (with_reducible first | exact HB.out | apply bA | apply bD | apply bE | refine bS ?_ GE315.out | refine bS ?_ GE317.out) | exact HB.out)⟩⟩
   case rest =>
    clear HC5
    try clear c3
    try clear c3b0
    try clear c4
    try clear c4b0
    try clear hcz10_0
    try clear hcz10_1
    try clear hcz10_2
    try clear hcz7_0
    try clear hcz7_1
    try clear hfz10
    try clear hfz7
    try clear hx316_0
    try clear hx316_1
    try clear hx316_2
    try clear p316
    try clear q316
    obtain ⟨kq, x13_4, rfl, HA, HJ4, BK315, BK317, HB⟩ := hcut
    cases kq with
    | zero => exact absurd HA.out (by simp [F10.j0])
    | succ kj4 =>
     have H := HA.out
     clear HA
     simp only [F10.j0] at H
     by_cases c12 : x13_4 = true
     ·subst c12
      replace H : (some (([((rd_T80 l0_0 a1).f1)] : List Int))) = some r := by rw [if_pos rfl] at H; exact H
      obtain ⟨y318, hy318⟩ : ∃ y_ : List Int, y_ = (([((rd_T80 l0_0 a1).f1)] : List Int)) := ⟨_, rfl⟩
      replace H : (some y318) = some r := by first | (rw [hy318]; with_reducible exact H) | (have H2_ := (Option.bind_some _ _).symm.trans H; rw [hy318]; with_reducible exact H2_) | (have H2_ := (Option.bind_some _ _).symm.trans H; with_reducible exact H2_) | with_reducible exact H | (rw [hy318]; exact H) | exact H
      have Ny318 := As.mk hy318
      clear hy318
      obtain rfl := Option.some.inj H
      have hnb13 := NB317_315.out
      have hnc13 := NB315_317.out
      have cz_ := c3_ (w := wc) (g := gb317) BK317.out; obtain ⟨hcz14_0, hcz14_1, hcz14_2⟩ := cz_
      have hfz14 := kF BK317.out
      go_wp2_with (first | ((with_reducible refine gD (N := 18) rfl ?_); refine Kd.R_lit (Kd.int .i64) _ 2 ?hg (N := 18) ?hd (xs := ([((rd_T80 l0_0 a1).f1)] : List Int)) (inner := [.int .i64 ((rd_T80 l0_0 a1).f1)]) (ok := fun _ => True) (okp := fun _ => True) ?hr ?hp (fun _ hk => hk) trivial (Below.refl _ _) (Nat.le_refl _) (by simp) ?_; (case hd => rfl); (case hg => rfl); (case hr => first | (go_simp; done) | (go_simp; rfl)); (case hp => exact (Reps.one (show Kd.M (Kd.int .i64) _ _ _ ((rd_T80 l0_0 a1).f1) [.int .i64 ((rd_T80 l0_0 a1).f1)] from rfl) (Reps.none _ _))); intro v319 w15 ho16 hb hg_ hnew_; clear hg_ hnew_; (first | rw [← Ny318.out] at ho16 | (simp only [Int.reduceToNat] at ho16; rw [← Ny318.out] at ho16)); have HO320 := As.mk (Kd.R_lower ho16 (bZ (by repeat (first | (with_reducible first | exact HB.out | apply bA | apply bD | apply bE | refine bS ?_ GE315.out | refine bS ?_ GE317.out) | exact HB.out)))); replace BK315 := As.mk (kB (g := gb315) (o := .cells #[.slice (some ad316) l0_0.length c0_0, .slice A0_1 l0_1.length c0_1] 31 (0, 0)) (by (with_reducible repeat (first | refine kD ?_ _ | refine kE ?_ | refine kA ?_ _)); exact BK315.out) hb); replace BK317 := As.mk (kB (g := gb317) (o := .cells #[.int .i64 ((rd_T80 l0_0 a1).f0), .int .i64 ((rd_T80 l0_0 a1).f1), .string ((rd_T80 l0_0 a1).f2)] 80 (0, 0)) (by (with_reducible repeat (first | refine kD ?_ _ | refine kE ?_ | refine kA ?_ _)); exact BK317.out) hb); replace HB := As.mk (bT (by repeat (first | (with_reducible first | exact HB.out | apply bA | apply bD | apply bE | refine bS ?_ GE315.out | refine bS ?_ GE317.out) | exact HB.out)) hb); clear hb ho16))
      go_ret
      exact ⟨_, by first | rfl | (simp [eN, eS] <;> rfl) | (simp [*, eN, eS] <;> rfl), by (with_reducible repeat (first | apply Kd.RA | apply Kd.RN | apply Kd.RD)); exact HO320.out, by repeat (first | (with_reducible first | exact HB.out | apply bA | apply bD | apply bE | refine bS ?_ GE315.out | refine bS ?_ GE317.out) | exact HB.out)⟩
     ·replace c12 := Bool.eq_false_iff.mpr c12
      subst c12
      replace H : (if ((rd_T80 l0_0 a1).f0) = 32 then (some (([wrap64 (a1 + 1), ((rd_T80 l0_0 a1).f1)] : List Int))) else (if ((rd_T80 l0_0 a1).f0) = 39 then (some ([] : List Int)) else (if ((rd_T80 l0_0 a1).f0) = 38 then (some ([] : List Int)) else (some (([wrap64 (a1 + 1)] : List Int)))))) = some r := by rw [if_neg (show ¬ (false = true) by decide)] at H; exact H
      by_cases c17 : ((rd_T80 l0_0 a1).f0) = 32
      ·rw [if_pos c17] at H
       have c17b0 : (((rd_T80 l0_0 a1).f0) == 32) = true := beq_iff_eq.mpr c17
       have c17b1 : (((rd_T80 l0_0 a1).f0) != 32) = false := bne_eq_false_iff_eq.mpr c17
       clear c17
       obtain ⟨y321, hy321⟩ : ∃ y_ : List Int, y_ = (([wrap64 (a1 + 1), ((rd_T80 l0_0 a1).f1)] : List Int)) := ⟨_, rfl⟩
       replace H : (some y321) = some r := by first | (rw [hy321]; with_reducible exact H) | (have H2_ := (Option.bind_some _ _).symm.trans H; rw [hy321]; with_reducible exact H2_) | (have H2_ := (Option.bind_some _ _).symm.trans H; with_reducible exact H2_) | with_reducible exact H | (rw [hy321]; exact H) | exact H
       have Ny321 := As.mk hy321
       clear hy321
       obtain rfl := Option.some.inj H
       have hnb18 := NB317_315.out
       have hnc18 := NB315_317.out
       have cz_ := c3_ (w := wc) (g := gb317) BK317.out; obtain ⟨hcz19_0, hcz19_1, hcz19_2⟩ := cz_
       have hfz19 := kF BK317.out
       go_wp2_with (first | ((with_reducible refine gD (N := 25) rfl ?_); refine Kd.R_lit (Kd.int .i64) _ 2 ?hg (N := 25) ?hd (xs := ([wrap64 (a1 + 1), ((rd_T80 l0_0 a1).f1)] : List Int)) (inner := [.int .i64 (wrap64 (a1 + 1)), .int .i64 ((rd_T80 l0_0 a1).f1)]) (ok := fun _ => True) (okp := fun _ => True) ?hr ?hp (fun _ hk => hk) trivial (Below.refl _ _) (Nat.le_refl _) (by simp) ?_; (case hd => rfl); (case hg => rfl); (case hr => first | (go_simp; done) | (go_simp; rfl)); (case hp => exact (Reps.one (show Kd.M (Kd.int .i64) _ _ _ (wrap64 (a1 + 1)) [.int .i64 (wrap64 (a1 + 1))] from rfl) (Reps.one (show Kd.M (Kd.int .i64) _ _ _ ((rd_T80 l0_0 a1).f1) [.int .i64 ((rd_T80 l0_0 a1).f1)] from rfl) (Reps.none _ _)))); intro v322 w20 ho21 hb hg_ hnew_; clear hg_ hnew_; (first | rw [← Ny321.out] at ho21 | (simp only [Int.reduceToNat] at ho21; rw [← Ny321.out] at ho21)); have HO323 := As.mk (Kd.R_lower ho21 (bZ (by repeat (first | (with_reducible first | exact HB.out | apply bA | apply bD | apply bE | refine bS ?_ GE315.out | refine bS ?_ GE317.out) | exact HB.out)))); replace BK315 := As.mk (kB (g := gb315) (o := .cells #[.slice (some ad316) l0_0.length c0_0, .slice A0_1 l0_1.length c0_1] 31 (0, 0)) (by (with_reducible repeat (first | refine kD ?_ _ | refine kE ?_ | refine kA ?_ _)); exact BK315.out) hb); replace BK317 := As.mk (kB (g := gb317) (o := .cells #[.int .i64 ((rd_T80 l0_0 a1).f0), .int .i64 ((rd_T80 l0_0 a1).f1), .string ((rd_T80 l0_0 a1).f2)] 80 (0, 0)) (by (with_reducible repeat (first | refine kD ?_ _ | refine kE ?_ | refine kA ?_ _)); exact BK317.out) hb); replace HB := As.mk (bT (by repeat (first | (with_reducible first | exact HB.out | apply bA | apply bD | apply bE | refine bS ?_ GE315.out | refine bS ?_ GE317.out) | exact HB.out)) hb); clear hb ho21))
       go_ret
       exact ⟨_, by first | rfl | (simp [eN, eS] <;> rfl) | (simp [*, eN, eS] <;> rfl), by (with_reducible repeat (first | apply Kd.RA | apply Kd.RN | apply Kd.RD)); exact HO323.out, by repeat (first | (with_reducible first | exact HB.out | apply bA | apply bD | apply bE | refine bS ?_ GE315.out | refine bS ?_ GE317.out) | exact HB.out)⟩
      ·rw [if_neg c17] at H
       have c17b0 : (((rd_T80 l0_0 a1).f0) == 32) = false := beq_eq_false_iff_ne.mpr c17
       have c17b1 : (((rd_T80 l0_0 a1).f0) != 32) = true := bne_iff_ne.mpr c17
       by_cases c22 : ((rd_T80 l0_0 a1).f0) = 39
       ·rw [if_pos c22] at H
        have c22b0 : (((rd_T80 l0_0 a1).f0) == 39) = true := beq_iff_eq.mpr c22
        have c22b1 : (((rd_T80 l0_0 a1).f0) != 39) = false := bne_eq_false_iff_eq.mpr c22
        clear c22
        obtain rfl := Option.some.inj H
        go_wp2
        go_ret
        exact ⟨_, by first | rfl | (simp [eN, eS] <;> rfl) | (simp [*, eN, eS] <;> rfl), by first | exact Kd.R_nil _ _ _ _ _ | exact Kd.N_nil _ _ _ _ _ | exact Kd.V_nil _ _ _ _ _ | exact Kd.Q_nil _ _ _ _ _ | exact Kd.S_nil _ _ _ _ _, by repeat (first | (with_reducible first | exact HB.out | apply bA | apply bD | apply bE | refine bS ?_ GE315.out | refine bS ?_ GE317.out) | exact HB.out)⟩
       ·rw [if_neg c22] at H
        have c22b0 : (((rd_T80 l0_0 a1).f0) == 39) = false := beq_eq_false_iff_ne.mpr c22
        have c22b1 : (((rd_T80 l0_0 a1).f0) != 39) = true := bne_iff_ne.mpr c22
        by_cases c23 : ((rd_T80 l0_0 a1).f0) = 38
        ·rw [if_pos c23] at H
         have c23b0 : (((rd_T80 l0_0 a1).f0) == 38) = true := beq_iff_eq.mpr c23
         have c23b1 : (((rd_T80 l0_0 a1).f0) != 38) = false := bne_eq_false_iff_eq.mpr c23
         clear c23
         obtain rfl := Option.some.inj H
         go_wp2
         go_ret
         exact ⟨_, by first | rfl | (simp [eN, eS] <;> rfl) | (simp [*, eN, eS] <;> rfl), by first | exact Kd.R_nil _ _ _ _ _ | exact Kd.N_nil _ _ _ _ _ | exact Kd.V_nil _ _ _ _ _ | exact Kd.Q_nil _ _ _ _ _ | exact Kd.S_nil _ _ _ _ _, by repeat (first | (with_reducible first | exact HB.out | apply bA | apply bD | apply bE | refine bS ?_ GE315.out | refine bS ?_ GE317.out) | exact HB.out)⟩
        ·rw [if_neg c23] at H
         have c23b0 : (((rd_T80 l0_0 a1).f0) == 38) = false := beq_eq_false_iff_ne.mpr c23
         have c23b1 : (((rd_T80 l0_0 a1).f0) != 38) = true := bne_iff_ne.mpr c23
         obtain ⟨y324, hy324⟩ : ∃ y_ : List Int, y_ = (([wrap64 (a1 + 1)] : List Int)) := ⟨_, rfl⟩
         replace H : (some y324) = some r := by first | (rw [hy324]; with_reducible exact H) | (have H2_ := (Option.bind_some _ _).symm.trans H; rw [hy324]; with_reducible exact H2_) | (have H2_ := (Option.bind_some _ _).symm.trans H; with_reducible exact H2_) | with_reducible exact H | (rw [hy324]; exact H) | exact H
         have Ny324 := As.mk hy324
         clear hy324
         obtain rfl := Option.some.inj H
         go_wp2_with (first | ((with_reducible refine gD (N := 31) rfl ?_); refine Kd.R_lit (Kd.int .i64) _ 2 ?hg (N := 31) ?hd (xs := ([wrap64 (a1 + 1)] : List Int)) (inner := [.int .i64 (wrap64 (a1 + 1))]) (ok := fun _ => True) (okp := fun _ => True) ?hr ?hp (fun _ hk => hk) trivial (Below.refl _ _) (Nat.le_refl _) (by simp) ?_; (case hd => rfl); (case hg => rfl); (case hr => first | (go_simp; done) | (go_simp; rfl)); (case hp => exact (Reps.one (show Kd.M (Kd.int .i64) _ _ _ (wrap64 (a1 + 1)) [.int .i64 (wrap64 (a1 + 1))] from rfl) (Reps.none _ _))); intro v325 w24 ho25 hb hg_ hnew_; clear hg_ hnew_; (first | rw [← Ny324.out] at ho25 | (simp only [Int.reduceToNat] at ho25; rw [← Ny324.out] at ho25)); have HO326 := As.mk (Kd.R_lower ho25 (bZ (by repeat (first | (with_reducible first | exact HB.out | apply bA | apply bD | apply bE | refine bS ?_ GE315.out | refine bS ?_ GE317.out) | exact HB.out)))); replace BK315 := As.mk (kB (g := gb315) (o := .cells #[.slice (some ad316) l0_0.length c0_0, .slice A0_1 l0_1.length c0_1] 31 (0, 0)) (by (with_reducible repeat (first | refine kD ?_ _ | refine kE ?_ | refine kA ?_ _)); exact BK315.out) hb); replace BK317 := As.mk (kB (g := gb317) (o := .cells #[.int .i64 ((rd_T80 l0_0 a1).f0), .int .i64 ((rd_T80 l0_0 a1).f1), .string ((rd_T80 l0_0 a1).f2)] 80 (0, 0)) (by (with_reducible repeat (first | refine kD ?_ _ | refine kE ?_ | refine kA ?_ _)); exact BK317.out) hb); replace HB := As.mk (bT (by repeat (first | (with_reducible first | exact HB.out | apply bA | apply bD | apply bE | refine bS ?_ GE315.out | refine bS ?_ GE317.out) | exact HB.out)) hb); clear hb ho25))
         go_ret
         exact ⟨_, by first | rfl | (simp [eN, eS] <;> rfl) | (simp [*, eN, eS] <;> rfl), by (with_reducible repeat (first | apply Kd.RA | apply Kd.RN | apply Kd.RD)); exact HO326.out, by repeat (first | (with_reducible first | exact HB.out | apply bA | apply bD | apply bE | refine bS ?_ GE315.out | refine bS ?_ GE317.out) | exact HB.out)⟩
  ·rw [if_neg c4] at H
   exact absurd H (by simp)
 ·rw [if_neg c3] at H
  exact absurd H (by simp)
end Go.Proofs.Ytbamjjaamjfnaaa.PFnExactNewMatcher
