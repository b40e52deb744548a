/- Walks of printed functions. Conditions: none beyond each statement. -/
import Derived.Test.YtbamjjaamjfnaaaPFnExactNewMatcherx0
import Derived.Test.YtbamjjaamjfnaaaPFnExactNewMatcherx10
namespace Go.Proofs.Ytbamjjaamjfnaaa.PFnExactNewMatcher
open Go.RowKit Go.Proofs.YtbamjjaamjfnaaaW.PrintWords Go.Proofs.YtbamjjaamjfnaaaW.PrintLast Go.Proofs.YtbamjjaamjfnaaaW.PrintMore
set_option maxHeartbeats 8000000
set_option maxRecDepth 100000
attribute [local go_sem] max2_int min2_int max_two min_two max_three min_three max_four min_four   -- for this text's walks alone
set_option linter.unusedVariables false
set_option linter.unusedSimpArgs false
def F4.l0 : Nat → Int → Int → Int → Int → List (S80) → List (S77) → Option (Bool)
 | 0, _, _, _, _, _, _ => none
 | k + 1, x1, x2, x3, x9, x308000, x308001 => if x9 < x2 then (if 0 ≤ x9 then (if x9 < (x308000.length : Int) then ((impl_isLast.f ((rd_T80 x308000 x9).f0)).bind fun t310 => (if t310 = true then (if x9 = (wrap64 (x2 - 1)) then (if (((rd_T80 x308000 x9).f0) = x3) then (F4.l0 k x1 x2 x3 (wrap64 (x9 + 1)) x308000 x308001) else (some false)) else (some false)) else (if x9 = (wrap64 (x2 - 1)) then (some false) else (if ((rd_T80 x308000 x9).f0) = 37 then (if ((rd_T80 x308000 x9).f1) ≥ x1 then (if ((rd_T80 x308000 x9).f1) < x9 then (if 0 ≤ ((rd_T80 x308000 x9).f1) then (if ((rd_T80 x308000 x9).f1) < (x308000.length : Int) then (if (((rd_T80 x308000 ((rd_T80 x308000 x9).f1)).f0) = 31) then (F4.l0 k x1 x2 x3 (wrap64 (x9 + 1)) x308000 x308001) else (some false)) else (none)) else (none)) else (some false)) else (some false)) else ((F27.f ((rd_T80 x308000 x9).f0)).bind fun t312 => (if t312 = true then (if ((rd_T80 x308000 x9).f1) > x9 then (if (((rd_T80 x308000 x9).f1) < x2) then (F4.l0 k x1 x2 x3 (wrap64 (x9 + 1)) x308000 x308001) else (some false)) else (some false)) else (F4.l0 k x1 x2 x3 (wrap64 (x9 + 1)) x308000 x308001))))))) else (none)) else (none)) else (some true)
def F4.f (k : Nat) (l0_0 : List (S80)) (l0_1 : List (S77)) (a1 : Int) (a2 : Int) (a3 : Int) : Option (Bool) := F4.l0 k a1 a2 a3 a1 l0_0 l0_1
theorem F4.mono_l : ∀ k, (∀ y0 y1 y2 y3 y4 y5, LeO (F4.l0 k y0 y1 y2 y3 y4 y5) (F4.l0 (k + 1) y0 y1 y2 y3 y4 y5))
 | 0 => fun _ _ _ _ _ _ r h => by simp [F4.l0] at h
 | k + 1 => by
  have ih0 := F4.mono_l k
  ·intro y0 y1 y2 y3 y4 y5
   unfold F4.l0
   repeat' with_reducible first
   | exact ih0 _ _ _ _ _ _
   | exact LeO.refl _
   | exact LeO.none _
   | refine LeO.ite ?_ ?_
   | refine LeO.bind ?_ (fun _ => ?_)
theorem F4.mono : ∀ a0 a1 a2 a3 a4 k, LeO (F4.f k a0 a1 a2 a3 a4) (F4.f (k + 1) a0 a1 a2 a3 a4) := by
 intro a0 a1 a2 a3 a4 k
 have ih0 := F4.mono_l k
 unfold F4.f
 repeat' with_reducible first
   | exact ih0 _ _ _ _ _ _
   | exact LeO.refl _
   | exact LeO.none _
   | refine LeO.ite ?_ ?_
   | refine LeO.bind ?_ (fun _ => ?_)
theorem F4.calls (k : Nat) (A0_0 : Option Addr) (c0_0 : Nat) (l0_0 : List (S80)) (A0_1 : Option Addr) (c0_1 : Nat) (l0_1 : List (S77)) (a1 : Int) (a2 : Int) (a3 : Int) (r : Bool) (w : World) (hr0_0 : Kd.C k80 w A0_0 l0_0.length l0_0) (hc0_0 : l0_0.length ≤ c0_0) (hr0_1 : Kd.C k77 w A0_1 l0_1.length l0_1) (hc0_1 : l0_1.length ≤ c0_1) (h : F4.f k l0_0 l0_1 a1 a2 a3 = some r) :
  Calls Try.prog 57 #[.agg #[.slice A0_0 l0_0.length c0_0, .slice A0_1 l0_1.length c0_1], .int .i64 a1, .int .i64 a2, .int .i64 a3] w fun e w' => e = .returned (.bool r) ∧ Below w.heap.size w w' := by
 have hu31 := Try.underlying31
 have hu80 := Try.underlying80
 have HR0_0 := As.mk hr0_0
 have HC0_0 := As.mk hc0_0
 clear hr0_0 hc0_0
 have HR0_1 := As.mk hr0_1
 have HC0_1 := As.mk hc0_1
 clear hr0_1 hc0_1
 have HB := As.mk (Below.refl w.heap.size w)
 have H : (F4.l0 k a1 a2 a3 a1 l0_0 l0_1) = some r := h
 clear h
 have H' := As.mk H
 clear H
 go_enter Try.func57, Try.ntmps57
 go_wp2_with (first | ((with_reducible refine gD (N := 4) rfl ?_); refine bX ?hg (N := 4) ?hd (cs := #[.slice A0_0 l0_0.length c0_0, .slice A0_1 l0_1.length c0_1]) (t := 31) ?hr ?_; (case hd => rfl); (case hg => rfl); (case hr => first | (go_simp; done) | (go_simp; rfl)); intro gb307 hg w5 hbox hb; have BK307 := As.mk (hbox); have GW307 := As.mk ((by rw [hg]; exact (bZ (by repeat (first | (with_reducible first | exact HB.out | apply bA | apply bD | apply bE) | exact HB.out))) : w.heap.size ≤ gb307)); have GE307 := GW307; replace HB := As.mk (bT (by repeat (first | (with_reducible first | exact HB.out | apply bA | apply bD | apply bE) | exact HB.out)) hb); clear hb hbox hg))
 go_loopg [9] k (fun kq v9 w' => ∃ (x9_1 : Int), v9 = .int .i64 x9_1 ∧ As (F4.l0 kq a1 a2 a3 x9_1 l0_0 l0_1 = some r) ∧ As (kq ≤ k) ∧ As (w'.heap[gb307]? = some (.cells #[(.slice A0_0 l0_0.length c0_0), (.slice A0_1 l0_1.length c0_1)] 31 (0, 0))) ∧ As (Below w.heap.size w w'))
 case atStart => exact ⟨(a1), (by first | rfl | (simp; done) | (simp [*]; done)), H', ⟨Nat.le_refl _⟩, ⟨by (with_reducible repeat (first | refine kD ?_ _ | refine kE ?_ | refine kA ?_ _)); exact BK307.out⟩, ⟨by repeat (first | (with_reducible first | exact HB.out | apply bA | apply bD | apply bE | refine bS ?_ GE307.out) | exact HB.out)⟩⟩
 case round =>
  clear H'
  obtain ⟨x9_1, rfl, HA, HK1, BK307, HB⟩ := hrel
  cases gk with
  | zero => exact absurd HA.out (by simp [F4.l0])
  | succ k1 =>
   have H := HA.out
   clear HA
   simp only [F4.l0] at H
   by_cases c6 : x9_1 < a2
   ·rw [if_pos c6] at H
    have c6b0 : decide (x9_1 < a2) = true := decide_eq_true c6
    clear c6
    by_cases c7 : 0 ≤ x9_1
    ·rw [if_pos c7] at H
     have c7b0 : decide (0 ≤ x9_1) = true := decide_eq_true c7
     clear c7
     by_cases c8 : x9_1 < (l0_0.length : Int)
     ·rw [if_pos c8] at H
      have c8b0 : decide (x9_1 < (l0_0.length : Int)) = true := decide_eq_true c8
      clear c8
      replace H := Option.bind_eq_some_iff.mp H
      obtain ⟨t310, A90, H⟩ := H
      replace H : (if t310 = true then (if x9_1 = (wrap64 (a2 - 1)) then (if (((rd_T80 l0_0 x9_1).f0) = a3) then (F4.l0 k1 a1 a2 a3 (wrap64 (x9_1 + 1)) l0_0 l0_1) else (some false)) else (some false)) else (if x9_1 = (wrap64 (a2 - 1)) then (some false) else (if ((rd_T80 l0_0 x9_1).f0) = 37 then (if ((rd_T80 l0_0 x9_1).f1) ≥ a1 then (if ((rd_T80 l0_0 x9_1).f1) < x9_1 then (if 0 ≤ ((rd_T80 l0_0 x9_1).f1) then (if ((rd_T80 l0_0 x9_1).f1) < (l0_0.length : Int) then (if (((rd_T80 l0_0 ((rd_T80 l0_0 x9_1).f1)).f0) = 31) then (F4.l0 k1 a1 a2 a3 (wrap64 (x9_1 + 1)) l0_0 l0_1) else (some false)) else (none)) else (none)) else (some false)) else (some false)) else ((F27.f ((rd_T80 l0_0 x9_1).f0)).bind fun t312 => (if t312 = true then (if ((rd_T80 l0_0 x9_1).f1) > x9_1 then (if (((rd_T80 l0_0 x9_1).f1) < a2) then (F4.l0 k1 a1 a2 a3 (wrap64 (x9_1 + 1)) l0_0 l0_1) else (some false)) else (some false)) else (F4.l0 k1 a1 a2 a3 (wrap64 (x9_1 + 1)) l0_0 l0_1)))))) = some r := H
      have A9 := As.mk A90
      clear A90
      by_cases c10 : t310 = true
      ·subst c10
       replace H : (if x9_1 = (wrap64 (a2 - 1)) then (if (((rd_T80 l0_0 x9_1).f0) = a3) then (F4.l0 k1 a1 a2 a3 (wrap64 (x9_1 + 1)) l0_0 l0_1) else (some false)) else (some false)) = some r := by rw [if_pos rfl] at H; exact H
       by_cases c11 : x9_1 = (wrap64 (a2 - 1))
       ·rw [if_pos c11] at H
        have c11b0 : (x9_1 == (wrap64 (a2 - 1))) = true := beq_iff_eq.mpr c11
        have c11b1 : (x9_1 != (wrap64 (a2 - 1))) = false := bne_eq_false_iff_eq.mpr c11
        clear c11
        by_cases c12 : (((rd_T80 l0_0 x9_1).f0) = a3)
        ·rw [if_pos c12] at H
         have c12b0 : (((rd_T80 l0_0 x9_1).f0) == a3) = true := beq_iff_eq.mpr c12
         have c12b1 : (((rd_T80 l0_0 x9_1).f0) != a3) = false := bne_eq_false_iff_eq.mpr c12
         clear c12
         have H' := As.mk H
         clear H
         have cz_ := c2_0 (w := wr) (g := gb307) BK307.out; obtain ⟨hcz13_0, hcz13_1⟩ := cz_
         have hfz13 := kF BK307.out
         have p308 : 0 ≤ (x9_1 : Int) := of_decide_eq_true (by first | (with_reducible assumption) | assumption)
         have q308 : x9_1 < (l0_0.length : Int) := of_decide_eq_true (by first | (with_reducible assumption) | assumption)
         obtain ⟨ad308, e308, hx308_0, hx308_1, hx308_2⟩ := at_T80 HR0_0.out x9_1 p308 q308
         cases e308
         replace hx308_0 := (HB.out.cell (World.block_lt_of_cell? w _ hx308_0)).trans hx308_0
         replace hx308_1 := (HB.out.cell (World.block_lt_of_cell? w _ hx308_1)).trans hx308_1
         replace hx308_2 := (HB.out.cell (World.block_lt_of_cell? w _ hx308_2)).trans hx308_2
         replace p308 := eq_true p308
         replace q308 := eq_true q308
         go_wp2_with (first | ((with_reducible refine gD (N := 10) rfl ?_); refine bX ?hg (N := 10) ?hd (cs := #[.int .i64 0, .int .i64 0, .string (⟨#[]⟩ : ByteArray)]) (t := 80) ?hr ?_; (case hd => rfl); (case hg => rfl); (case hr => first | (go_simp; done) | (go_simp; rfl)); intro gb309 hg w14 hbox hb; have BK309 := As.mk (hbox); have GW309 := As.mk ((by rw [hg]; exact (bZ (by repeat (first | (with_reducible first | exact HB.out | apply bA | apply bD | apply bE | refine bS ?_ GE307.out) | exact HB.out))) : w.heap.size ≤ gb309)); have GE309 := GW309; have NB307_309 := As.mk ((by rw [hg]; exact Nat.ne_of_lt (kL (g := gb307) (o := .cells #[.slice (some ad308) l0_0.length c0_0, .slice A0_1 l0_1.length c0_1] 31 (0, 0)) (by (with_reducible repeat (first | refine kD ?_ _ | refine kE ?_ | refine kA ?_ _)); exact BK307.out)) : gb307 ≠ gb309)); have NB309_307 := As.mk NB307_309.out.symm; replace BK307 := As.mk (kB (g := gb307) (o := .cells #[.slice (some ad308) l0_0.length c0_0, .slice A0_1 l0_1.length c0_1] 31 (0, 0)) (by (with_reducible repeat (first | refine kD ?_ _ | refine kE ?_ | refine kA ?_ _)); exact BK307.out) hb); replace HB := As.mk (bT (by repeat (first | (with_reducible first | exact HB.out | apply bA | apply bD | apply bE | refine bS ?_ GE307.out) | exact HB.out)) hb); clear hb hbox hg; have hnb15 := NB309_307.out; have hnc15 := NB307_309.out; have cz_ := c3_ (w := w14) (g := gb309) BK309.out; obtain ⟨hcz16_0, hcz16_1, hcz16_2⟩ := cz_; have hfz16 := kF BK309.out) | ((with_reducible refine gC (f := 77) rfl ?_); refine gL (some 26) rfl rfl Try.func77 (by kernel_rfl) rfl #[.int .i64 ((rd_T80 l0_0 x9_1).f0)] rfl (by (try simp only [sm1, sm2, sm3]); first | done | rfl) ?_; (with_reducible refine (impl_isLast.calls ((rd_T80 l0_0 x9_1).f0) true _ A9.out).mono ?_); rintro e w' ⟨rfl, ⟨nd, rfl⟩⟩; refine ⟨_, rfl, ?_⟩))
         go_roundg k1
         case measure => have := HK1.out; omega
         case rel => exact ⟨(wrap64 (x9_1 + 1)), (by first | rfl | (simp; done) | (simp [*]; done)), H', ⟨by have := HK1.out; omega⟩, ⟨by (with_reducible repeat (first | refine kD ?_ _ | refine kE ?_ | refine kA ?_ _)); refine blk_far ?_ NB307_309.out _; (with_reducible repeat (first | refine kD ?_ _ | refine kE ?_ | refine kA ?_ _)); refine blk_far ?_ NB307_309.out _; (with_reducible repeat (first | refine kD ?_ _ | refine kE ?_ | refine kA ?_ _)); refine blk_far ?_ NB307_309.out _; (with_reducible repeat (first | refine kD ?_ _ | refine kE ?_ | refine kA ?_ _)); exact BK307.out⟩, ⟨by repeat (first | (with_reducible first | exact HB.out | apply bA | apply bD | apply bE | refine bS ?_ GE307.out | refine bS ?_ GE309.out) | exact HB.out)⟩⟩
        ·rw [if_neg c12] at H
         have c12b0 : (((rd_T80 l0_0 x9_1).f0) == a3) = false := beq_eq_false_iff_ne.mpr c12
         have c12b1 : (((rd_T80 l0_0 x9_1).f0) != a3) = true := bne_iff_ne.mpr c12
         obtain rfl := Option.some.inj H
         have cz_ := c2_0 (w := wr) (g := gb307) BK307.out; obtain ⟨hcz17_0, hcz17_1⟩ := cz_
         have hfz17 := kF BK307.out
         have p308 : 0 ≤ (x9_1 : Int) := of_decide_eq_true (by first | (with_reducible assumption) | assumption)
         have q308 : x9_1 < (l0_0.length : Int) := of_decide_eq_true (by first | (with_reducible assumption) | assumption)
         obtain ⟨ad308, e308, hx308_0, hx308_1, hx308_2⟩ := at_T80 HR0_0.out x9_1 p308 q308
         cases e308
         replace hx308_0 := (HB.out.cell (World.block_lt_of_cell? w _ hx308_0)).trans hx308_0
         replace hx308_1 := (HB.out.cell (World.block_lt_of_cell? w _ hx308_1)).trans hx308_1
         replace hx308_2 := (HB.out.cell (World.block_lt_of_cell? w _ hx308_2)).trans hx308_2
         replace p308 := eq_true p308
         replace q308 := eq_true q308
         go_wp2_with (first | ((with_reducible refine gD (N := 10) rfl ?_); refine bX ?hg (N := 10) ?hd (cs := #[.int .i64 0, .int .i64 0, .string (⟨#[]⟩ : ByteArray)]) (t := 80) ?hr ?_; (case hd => rfl); (case hg => rfl); (case hr => first | (go_simp; done) | (go_simp; rfl)); intro gb309 hg w18 hbox hb; have BK309 := As.mk (hbox); have GW309 := As.mk ((by rw [hg]; exact (bZ (by repeat (first | (with_reducible first | exact HB.out | apply bA | apply bD | apply bE | refine bS ?_ GE307.out) | exact HB.out))) : w.heap.size ≤ gb309)); have GE309 := GW309; have NB307_309 := As.mk ((by rw [hg]; exact Nat.ne_of_lt (kL (g := gb307) (o := .cells #[.slice (some ad308) l0_0.length c0_0, .slice A0_1 l0_1.length c0_1] 31 (0, 0)) (by (with_reducible repeat (first | refine kD ?_ _ | refine kE ?_ | refine kA ?_ _)); exact BK307.out)) : gb307 ≠ gb309)); have NB309_307 := As.mk NB307_309.out.symm; replace BK307 := As.mk (kB (g := gb307) (o := .cells #[.slice (some ad308) l0_0.length c0_0, .slice A0_1 l0_1.length c0_1] 31 (0, 0)) (by (with_reducible repeat (first | refine kD ?_ _ | refine kE ?_ | refine kA ?_ _)); exact BK307.out) hb); replace HB := As.mk (bT (by repeat (first | (with_reducible first | exact HB.out | apply bA | apply bD | apply bE | refine bS ?_ GE307.out) | exact HB.out)) hb); clear hb hbox hg; have hnb19 := NB309_307.out; have hnc19 := NB307_309.out; have cz_ := c3_ (w := w18) (g := gb309) BK309.out; obtain ⟨hcz20_0, hcz20_1, hcz20_2⟩ := cz_; have hfz20 := kF BK309.out) | ((with_reducible refine gC (f := 77) rfl ?_); refine gL (some 26) rfl rfl Try.func77 (by kernel_rfl) rfl #[.int .i64 ((rd_T80 l0_0 x9_1).f0)] rfl (by (try simp only [sm1, sm2, sm3]); first | done | rfl) ?_; (with_reducible refine (impl_isLast.calls ((rd_T80 l0_0 x9_1).f0) true _ A9.out).mono ?_); rintro e w' ⟨rfl, ⟨nd, rfl⟩⟩; refine ⟨_, rfl, ?_⟩))
         go_ret
         exact ⟨by first | rfl | (simp [eN, eS] <;> rfl) | (simp [*, eN, eS] <;> rfl), by repeat (first | (with_reducible first | exact HB.out | apply bA | apply bD | apply bE | refine bS ?_ GE307.out | refine bS ?_ GE309.out) | exact HB.out)⟩
       ·rw [if_neg c11] at H
        have c11b0 : (x9_1 == (wrap64 (a2 - 1))) = false := beq_eq_false_iff_ne.mpr c11
        have c11b1 : (x9_1 != (wrap64 (a2 - 1))) = true := bne_iff_ne.mpr c11
        obtain rfl := Option.some.inj H
        have cz_ := c2_0 (w := wr) (g := gb307) BK307.out; obtain ⟨hcz21_0, hcz21_1⟩ := cz_
        have hfz21 := kF BK307.out
        have p308 : 0 ≤ (x9_1 : Int) := of_decide_eq_true (by first | (with_reducible assumption) | assumption)
        have q308 : x9_1 < (l0_0.length : Int) := of_decide_eq_true (by first | (with_reducible assumption) | assumption)
        obtain ⟨ad308, e308, hx308_0, hx308_1, hx308_2⟩ := at_T80 HR0_0.out x9_1 p308 q308
        cases e308
        replace hx308_0 := (HB.out.cell (World.block_lt_of_cell? w _ hx308_0)).trans hx308_0
        replace hx308_1 := (HB.out.cell (World.block_lt_of_cell? w _ hx308_1)).trans hx308_1
        replace hx308_2 := (HB.out.cell (World.block_lt_of_cell? w _ hx308_2)).trans hx308_2
        replace p308 := eq_true p308
        replace q308 := eq_true q308
        go_wp2_with (first | ((with_reducible refine gD (N := 10) rfl ?_); refine bX ?hg (N := 10) ?hd (cs := #[.int .i64 0, .int .i64 0, .string (⟨#[]⟩ : ByteArray)]) (t := 80) ?hr ?_; (case hd => rfl); (case hg => rfl); (case hr => first | (go_simp; done) | (go_simp; rfl)); intro gb309 hg w22 hbox hb; have BK309 := As.mk (hbox); have GW309 := As.mk ((by rw [hg]; exact (bZ (by repeat (first | (with_reducible first | exact HB.out | apply bA | apply bD | apply bE | refine bS ?_ GE307.out) | exact HB.out))) : w.heap.size ≤ gb309)); have GE309 := GW309; have NB307_309 := As.mk ((by rw [hg]; exact Nat.ne_of_lt (kL (g := gb307) (o := .cells #[.slice (some ad308) l0_0.length c0_0, .slice A0_1 l0_1.length c0_1] 31 (0, 0)) (by (with_reducible repeat (first | refine kD ?_ _ | refine kE ?_ | refine kA ?_ _)); exact BK307.out)) : gb307 ≠ gb309)); have NB309_307 := As.mk NB307_309.out.symm; replace BK307 := As.mk (kB (g := gb307) (o := .cells #[.slice (some ad308) l0_0.length c0_0, .slice A0_1 l0_1.length c0_1] 31 (0, 0)) (by (with_reducible repeat (first | refine kD ?_ _ | refine kE ?_ | refine kA ?_ _)); exact BK307.out) hb); replace HB := As.mk (bT (by repeat (first | (with_reducible first | exact HB.out | apply bA | apply bD | apply bE | refine bS ?_ GE307.out) | exact HB.out)) hb); clear hb hbox hg; have hnb23 := NB309_307.out; have hnc23 := NB307_309.out; have cz_ := c3_ (w := w22) (g := gb309) BK309.out; obtain ⟨hcz24_0, hcz24_1, hcz24_2⟩ := cz_; have hfz24 := kF BK309.out) | ((with_reducible refine gC (f := 77) rfl ?_); refine gL (some 26) rfl rfl Try.func77 (by kernel_rfl) rfl #[.int .i64 ((rd_T80 l0_0 x9_1).f0)] rfl (by (try simp only [sm1, sm2, sm3]); first | done | rfl) ?_; (with_reducible refine (impl_isLast.calls ((rd_T80 l0_0 x9_1).f0) true _ A9.out).mono ?_); rintro e w' ⟨rfl, ⟨nd, rfl⟩⟩; refine ⟨_, rfl, ?_⟩))
        go_ret
        exact ⟨by first | rfl | (simp [eN, eS] <;> rfl) | (simp [*, eN, eS] <;> rfl), by repeat (first | (with_reducible first | exact HB.out | apply bA | apply bD | apply bE | refine bS ?_ GE307.out | refine bS ?_ GE309.out) | exact HB.out)⟩
      ·replace c10 := Bool.eq_false_iff.mpr c10
       subst c10
       replace H : (if x9_1 = (wrap64 (a2 - 1)) then (some false) else (if ((rd_T80 l0_0 x9_1).f0) = 37 then (if ((rd_T80 l0_0 x9_1).f1) ≥ a1 then (if ((rd_T80 l0_0 x9_1).f1) < x9_1 then (if 0 ≤ ((rd_T80 l0_0 x9_1).f1) then (if ((rd_T80 l0_0 x9_1).f1) < (l0_0.length : Int) then (if (((rd_T80 l0_0 ((rd_T80 l0_0 x9_1).f1)).f0) = 31) then (F4.l0 k1 a1 a2 a3 (wrap64 (x9_1 + 1)) l0_0 l0_1) else (some false)) else (none)) else (none)) else (some false)) else (some false)) else ((F27.f ((rd_T80 l0_0 x9_1).f0)).bind fun t312 => (if t312 = true then (if ((rd_T80 l0_0 x9_1).f1) > x9_1 then (if (((rd_T80 l0_0 x9_1).f1) < a2) then (F4.l0 k1 a1 a2 a3 (wrap64 (x9_1 + 1)) l0_0 l0_1) else (some false)) else (some false)) else (F4.l0 k1 a1 a2 a3 (wrap64 (x9_1 + 1)) l0_0 l0_1))))) = some r := by rw [if_neg (show ¬ (false = true) by decide)] at H; exact H
       by_cases c25 : x9_1 = (wrap64 (a2 - 1))
       ·rw [if_pos c25] at H
        have c25b0 : (x9_1 == (wrap64 (a2 - 1))) = true := beq_iff_eq.mpr c25
        have c25b1 : (x9_1 != (wrap64 (a2 - 1))) = false := bne_eq_false_iff_eq.mpr c25
        clear c25
        obtain rfl := Option.some.inj H
        have cz_ := c2_0 (w := wr) (g := gb307) BK307.out; obtain ⟨hcz26_0, hcz26_1⟩ := cz_
        have hfz26 := kF BK307.out
        have p308 : 0 ≤ (x9_1 : Int) := of_decide_eq_true (by first | (with_reducible assumption) | assumption)
        have q308 : x9_1 < (l0_0.length : Int) := of_decide_eq_true (by first | (with_reducible assumption) | assumption)
        obtain ⟨ad308, e308, hx308_0, hx308_1, hx308_2⟩ := at_T80 HR0_0.out x9_1 p308 q308
        cases e308
        replace hx308_0 := (HB.out.cell (World.block_lt_of_cell? w _ hx308_0)).trans hx308_0
        replace hx308_1 := (HB.out.cell (World.block_lt_of_cell? w _ hx308_1)).trans hx308_1
        replace hx308_2 := (HB.out.cell (World.block_lt_of_cell? w _ hx308_2)).trans hx308_2
        replace p308 := eq_true p308
        replace q308 := eq_true q308
        go_wp2_with (first | ((with_reducible refine gD (N := 10) rfl ?_); refine bX ?hg (N := 10) ?hd (cs := #[.int .i64 0, .int .i64 0, .string (⟨#[]⟩ : ByteArray)]) (t := 80) ?hr ?_; (case hd => rfl); (case hg => rfl); (case hr => first | (go_simp; done) | (go_simp; rfl)); intro gb309 hg w27 hbox hb; have BK309 := As.mk (hbox); have GW309 := As.mk ((by rw [hg]; exact (bZ (by repeat (first | (with_reducible first | exact HB.out | apply bA | apply bD | apply bE | refine bS ?_ GE307.out) | exact HB.out))) : w.heap.size ≤ gb309)); have GE309 := GW309; have NB307_309 := As.mk ((by rw [hg]; exact Nat.ne_of_lt (kL (g := gb307) (o := .cells #[.slice (some ad308) l0_0.length c0_0, .slice A0_1 l0_1.length c0_1] 31 (0, 0)) (by (with_reducible repeat (first | refine kD ?_ _ | refine kE ?_ | refine kA ?_ _)); exact BK307.out)) : gb307 ≠ gb309)); have NB309_307 := As.mk NB307_309.out.symm; replace BK307 := As.mk (kB (g := gb307) (o := .cells #[.slice (some ad308) l0_0.length c0_0, .slice A0_1 l0_1.length c0_1] 31 (0, 0)) (by (with_reducible repeat (first | refine kD ?_ _ | refine kE ?_ | refine kA ?_ _)); exact BK307.out) hb); replace HB := As.mk (bT (by repeat (first | (with_reducible first | exact HB.out | apply bA | apply bD | apply bE | refine bS ?_ GE307.out) | exact HB.out)) hb); clear hb hbox hg; have hnb28 := NB309_307.out; have hnc28 := NB307_309.out; have cz_ := c3_ (w := w27) (g := gb309) BK309.out; obtain ⟨hcz29_0, hcz29_1, hcz29_2⟩ := cz_; have hfz29 := kF BK309.out) | ((with_reducible refine gC (f := 77) rfl ?_); refine gL (some 26) rfl rfl Try.func77 (by kernel_rfl) rfl #[.int .i64 ((rd_T80 l0_0 x9_1).f0)] rfl (by (try simp only [sm1, sm2, sm3]); first | done | rfl) ?_; (with_reducible refine (impl_isLast.calls ((rd_T80 l0_0 x9_1).f0) false _ A9.out).mono ?_); rintro e w' ⟨rfl, ⟨nd, rfl⟩⟩; refine ⟨_, rfl, ?_⟩))
        go_ret
        exact ⟨by first | rfl | (simp [eN, eS] <;> rfl) | (simp [*, eN, eS] <;> rfl), by repeat (first | (with_reducible first | exact HB.out | apply bA | apply bD | apply bE | refine bS ?_ GE307.out | refine bS ?_ GE309.out) | exact HB.out)⟩
       ·rw [if_neg c25] at H
        have c25b0 : (x9_1 == (wrap64 (a2 - 1))) = false := beq_eq_false_iff_ne.mpr c25
        have c25b1 : (x9_1 != (wrap64 (a2 - 1))) = true := bne_iff_ne.mpr c25
        by_cases c30 : ((rd_T80 l0_0 x9_1).f0) = 37
        ·rw [if_pos c30] at H
         have c30b0 : (((rd_T80 l0_0 x9_1).f0) == 37) = true := beq_iff_eq.mpr c30
         have c30b1 : (((rd_T80 l0_0 x9_1).f0) != 37) = false := bne_eq_false_iff_eq.mpr c30
         clear c30
         by_cases c31 : ((rd_T80 l0_0 x9_1).f1) ≥ a1
         ·rw [if_pos c31] at H
          have c31b0 : decide (a1 ≤ ((rd_T80 l0_0 x9_1).f1)) = true := decide_eq_true c31
          clear c31
          by_cases c32 : ((rd_T80 l0_0 x9_1).f1) < x9_1
          ·rw [if_pos c32] at H
           have c32b0 : decide (((rd_T80 l0_0 x9_1).f1) < x9_1) = true := decide_eq_true c32
           clear c32
           by_cases c33 : 0 ≤ ((rd_T80 l0_0 x9_1).f1)
           ·rw [if_pos c33] at H
            have c33b0 : decide (0 ≤ ((rd_T80 l0_0 x9_1).f1)) = true := decide_eq_true c33
            clear c33
            by_cases c34 : ((rd_T80 l0_0 x9_1).f1) < (l0_0.length : Int)
            ·rw [if_pos c34] at H
             have c34b0 : decide (((rd_T80 l0_0 x9_1).f1) < (l0_0.length : Int)) = true := decide_eq_true c34
             clear c34
             by_cases c35 : (((rd_T80 l0_0 ((rd_T80 l0_0 x9_1).f1)).f0) = 31)
             ·rw [if_pos c35] at H
              have c35b0 : (((rd_T80 l0_0 ((rd_T80 l0_0 x9_1).f1)).f0) == 31) = true := beq_iff_eq.mpr c35
              have c35b1 : (((rd_T80 l0_0 ((rd_T80 l0_0 x9_1).f1)).f0) != 31) = false := bne_eq_false_iff_eq.mpr c35
              clear c35
              have H' := As.mk H
              clear H
              have cz_ := c2_0 (w := wr) (g := gb307) BK307.out; obtain ⟨hcz36_0, hcz36_1⟩ := cz_
              have hfz36 := kF BK307.out
              have p308 : 0 ≤ (x9_1 : Int) := of_decide_eq_true (by first | (with_reducible assumption) | assumption)
              have q308 : x9_1 < (l0_0.length : Int) := of_decide_eq_true (by first | (with_reducible assumption) | assumption)
              obtain ⟨ad308, e308, hx308_0, hx308_1, hx308_2⟩ := at_T80 HR0_0.out x9_1 p308 q308
              cases e308
              replace hx308_0 := (HB.out.cell (World.block_lt_of_cell? w _ hx308_0)).trans hx308_0
              replace hx308_1 := (HB.out.cell (World.block_lt_of_cell? w _ hx308_1)).trans hx308_1
              replace hx308_2 := (HB.out.cell (World.block_lt_of_cell? w _ hx308_2)).trans hx308_2
              replace p308 := eq_true p308
              replace q308 := eq_true q308
              go_wp2_with (first | ((with_reducible refine gD (N := 10) rfl ?_); refine bX ?hg (N := 10) ?hd (cs := #[.int .i64 0, .int .i64 0, .string (⟨#[]⟩ : ByteArray)]) (t := 80) ?hr ?_; (case hd => rfl); (case hg => rfl); (case hr => first | (go_simp; done) | (go_simp; rfl)); intro gb309 hg w37 hbox hb; have BK309 := As.mk (hbox); have GW309 := As.mk ((by rw [hg]; exact (bZ (by repeat (first | (with_reducible first | exact HB.out | apply bA | apply bD | apply bE | refine bS ?_ GE307.out) | exact HB.out))) : w.heap.size ≤ gb309)); have GE309 := GW309; have NB307_309 := As.mk ((by rw [hg]; exact Nat.ne_of_lt (kL (g := gb307) (o := .cells #[.slice (some ad308) l0_0.length c0_0, .slice A0_1 l0_1.length c0_1] 31 (0, 0)) (by (with_reducible repeat (first | refine kD ?_ _ | refine kE ?_ | refine kA ?_ _)); exact BK307.out)) : gb307 ≠ gb309)); have NB309_307 := As.mk NB307_309.out.symm; replace BK307 := As.mk (kB (g := gb307) (o := .cells #[.slice (some ad308) l0_0.length c0_0, .slice A0_1 l0_1.length c0_1] 31 (0, 0)) (by (with_reducible repeat (first | refine kD ?_ _ | refine kE ?_ | refine kA ?_ _)); exact BK307.out) hb); replace HB := As.mk (bT (by repeat (first | (with_reducible first | exact HB.out | apply bA | apply bD | apply bE | refine bS ?_ GE307.out) | exact HB.out)) hb); clear hb hbox hg; have hnb38 := NB309_307.out; have hnc38 := NB307_309.out; have cz_ := c3_ (w := w37) (g := gb309) BK309.out; obtain ⟨hcz39_0, hcz39_1, hcz39_2⟩ := cz_; have hfz39 := kF BK309.out) | ((with_reducible refine gC (f := 77) rfl ?_); refine gL (some 26) rfl rfl Try.func77 (by kernel_rfl) rfl #[.int .i64 ((rd_T80 l0_0 x9_1).f0)] rfl (by (try simp only [sm1, sm2, sm3]); first | done | rfl) ?_; (with_reducible refine (impl_isLast.calls ((rd_T80 l0_0 x9_1).f0) false _ A9.out).mono ?_); rintro e w' ⟨rfl, ⟨nd, rfl⟩⟩; refine ⟨_, rfl, ?_⟩; have cz_ := c2_0 (w := w37) (g := gb307) BK307.out; obtain ⟨hcz40_0, hcz40_1⟩ := cz_; have hfz40 := kF BK307.out; have p311 : 0 ≤ (((rd_T80 l0_0 x9_1).f1) : Int) := of_decide_eq_true (by first | (with_reducible assumption) | assumption); have q311 : ((rd_T80 l0_0 x9_1).f1) < (l0_0.length : Int) := of_decide_eq_true (by first | (with_reducible assumption) | assumption); obtain ⟨ad311, e311, hx311_0, hx311_1, hx311_2⟩ := at_T80 HR0_0.out ((rd_T80 l0_0 x9_1).f1) p311 q311; obtain rfl : ad308 = ad311 := (by injection e311); have hn311_0 : ad308.block ≠ gb309 := Nat.ne_of_lt (Nat.lt_of_lt_of_le (by have := World.block_lt_of_cell? _ _ hx311_0; first | rwa [aB0] at this | exact this) GW309.out); have hn311_1 : ad308.block ≠ gb309 := Nat.ne_of_lt (Nat.lt_of_lt_of_le (by have := World.block_lt_of_cell? _ _ hx311_0; first | rwa [aB0] at this | exact this) GW309.out); have hn311_2 : ad308.block ≠ gb309 := Nat.ne_of_lt (Nat.lt_of_lt_of_le (by have := World.block_lt_of_cell? _ _ hx311_0; first | rwa [aB0] at this | exact this) GW309.out); replace hx311_0 := (HB.out.cell (World.block_lt_of_cell? w _ hx311_0)).trans hx311_0; replace hx311_1 := (HB.out.cell (World.block_lt_of_cell? w _ hx311_1)).trans hx311_1; replace hx311_2 := (HB.out.cell (World.block_lt_of_cell? w _ hx311_2)).trans hx311_2; replace hx311_0 := (cell_far (p := ⟨gb309, 0, none⟩) (by first | (rw [aB0]; exact hn311_0) | (show (Addr.add _ _).block ≠ _; rw [aB0]; exact hn311_0) | exact hn311_0) (.int .i64 ((rd_T80 l0_0 x9_1).f0))).trans hx311_0; replace hx311_1 := (cell_far (p := ⟨gb309, 0, none⟩) (by first | (rw [aB0]; exact hn311_0) | (show (Addr.add _ _).block ≠ _; rw [aB0]; exact hn311_0) | exact hn311_0) (.int .i64 ((rd_T80 l0_0 x9_1).f0))).trans hx311_1; replace hx311_2 := (cell_far (p := ⟨gb309, 0, none⟩) (by first | (rw [aB0]; exact hn311_0) | (show (Addr.add _ _).block ≠ _; rw [aB0]; exact hn311_0) | exact hn311_0) (.int .i64 ((rd_T80 l0_0 x9_1).f0))).trans hx311_2; replace hx311_0 := (cell_far (p := ⟨gb309, 1, none⟩) (by first | (rw [aB0]; exact hn311_1) | (show (Addr.add _ _).block ≠ _; rw [aB0]; exact hn311_1) | exact hn311_1) (.int .i64 ((rd_T80 l0_0 x9_1).f1))).trans hx311_0; replace hx311_1 := (cell_far (p := ⟨gb309, 1, none⟩) (by first | (rw [aB0]; exact hn311_1) | (show (Addr.add _ _).block ≠ _; rw [aB0]; exact hn311_1) | exact hn311_1) (.int .i64 ((rd_T80 l0_0 x9_1).f1))).trans hx311_1; replace hx311_2 := (cell_far (p := ⟨gb309, 1, none⟩) (by first | (rw [aB0]; exact hn311_1) | (show (Addr.add _ _).block ≠ _; rw [aB0]; exact hn311_1) | exact hn311_1) (.int .i64 ((rd_T80 l0_0 x9_1).f1))).trans hx311_2; replace hx311_0 := (cell_far (p := ⟨gb309, 2, none⟩) (by first | (rw [aB0]; exact hn311_2) | (show (Addr.add _ _).block ≠ _; rw [aB0]; exact hn311_2) | exact hn311_2) (.string ((rd_T80 l0_0 x9_1).f2))).trans hx311_0; replace hx311_1 := (cell_far (p := ⟨gb309, 2, none⟩) (by first | (rw [aB0]; exact hn311_2) | (show (Addr.add _ _).block ≠ _; rw [aB0]; exact hn311_2) | exact hn311_2) (.string ((rd_T80 l0_0 x9_1).f2))).trans hx311_1; replace hx311_2 := (cell_far (p := ⟨gb309, 2, none⟩) (by first | (rw [aB0]; exact hn311_2) | (show (Addr.add _ _).block ≠ _; rw [aB0]; exact hn311_2) | exact hn311_2) (.string ((rd_T80 l0_0 x9_1).f2))).trans hx311_2; clear hn311_0; clear hn311_1; clear hn311_2; replace p311 := eq_true p311; replace q311 := eq_true q311))
              go_roundg k1
              case measure => have := HK1.out; omega
              case rel => exact ⟨(wrap64 (x9_1 + 1)), (by first | rfl | (simp; done) | (simp [*]; done)), H', ⟨by have := HK1.out; omega⟩, ⟨by (with_reducible repeat (first | refine kD ?_ _ | refine kE ?_ | refine kA ?_ _)); refine blk_far ?_ NB307_309.out _; (with_reducible repeat (first | refine kD ?_ _ | refine kE ?_ | refine kA ?_ _)); refine blk_far ?_ NB307_309.out _; (with_reducible repeat (first | refine kD ?_ _ | refine kE ?_ | refine kA ?_ _)); refine blk_far ?_ NB307_309.out _; (with_reducible repeat (first | refine kD ?_ _ | refine kE ?_ | refine kA ?_ _)); exact BK307.out⟩, ⟨by repeat (first | (with_reducible first | exact HB.out | apply bA | apply bD | apply bE | refine bS ?_ GE307.out | refine bS ?_ GE309.out) | exact HB.out)⟩⟩
             ·rw [if_neg c35] at H
              have c35b0 : (((rd_T80 l0_0 ((rd_T80 l0_0 x9_1).f1)).f0) == 31) = false := beq_eq_false_iff_ne.mpr c35
              have c35b1 : (((rd_T80 l0_0 ((rd_T80 l0_0 x9_1).f1)).f0) != 31) = true := bne_iff_ne.mpr c35
              obtain rfl := Option.some.inj H
              have cz_ := c2_0 (w := wr) (g := gb307) BK307.out; obtain ⟨hcz41_0, hcz41_1⟩ := cz_
              have hfz41 := kF BK307.out
              have p308 : 0 ≤ (x9_1 : Int) := of_decide_eq_true (by first | (with_reducible assumption) | assumption)
              have q308 : x9_1 < (l0_0.length : Int) := of_decide_eq_true (by first | (with_reducible assumption) | assumption)
              obtain ⟨ad308, e308, hx308_0, hx308_1, hx308_2⟩ := at_T80 HR0_0.out x9_1 p308 q308
              cases e308
              replace hx308_0 := (HB.out.cell (World.block_lt_of_cell? w _ hx308_0)).trans hx308_0
              replace hx308_1 := (HB.out.cell (World.block_lt_of_cell? w _ hx308_1)).trans hx308_1
              replace hx308_2 := (HB.out.cell (World.block_lt_of_cell? w _ hx308_2)).trans hx308_2
              replace p308 := eq_true p308
              replace q308 := eq_true q308
              go_wp2_with (first | ((with_reducible refine gD (N := 10) rfl ?_); refine bX ?hg (N := 10) ?hd (cs := #[.int .i64 0, .int .i64 0, .string (⟨#[]⟩ : ByteArray)]) (t := 80) ?hr ?_; (case hd => rfl); (case hg => rfl); (case hr => first | (go_simp; done) | (go_simp; rfl)); intro gb309 hg w42 hbox hb; have BK309 := As.mk (hbox); have GW309 := As.mk ((by rw [hg]; exact (bZ (by repeat (first | (with_reducible first | exact HB.out | apply bA | apply bD | apply bE | refine bS ?_ GE307.out) | exact HB.out))) : w.heap.size ≤ gb309)); have GE309 := GW309; have NB307_309 := As.mk ((by rw [hg]; exact Nat.ne_of_lt (kL (g := gb307) (o := .cells #[.slice (some ad308) l0_0.length c0_0, .slice A0_1 l0_1.length c0_1] 31 (0, 0)) (by (with_reducible repeat (first | refine kD ?_ _ | refine kE ?_ | refine kA ?_ _)); exact BK307.out)) : gb307 ≠ gb309)); have NB309_307 := As.mk NB307_309.out.symm; replace BK307 := As.mk (kB (g := gb307) (o := .cells #[.slice (some ad308) l0_0.length c0_0, .slice A0_1 l0_1.length c0_1] 31 (0, 0)) (by (with_reducible repeat (first | refine kD ?_ _ | refine kE ?_ | refine kA ?_ _)); exact BK307.out) hb); replace HB := As.mk (bT (by repeat (first | (with_reducible first | exact HB.out | apply bA | apply bD | apply bE | refine bS ?_ GE307.out) | exact HB.out)) hb); clear hb hbox hg; have hnb43 := NB309_307.out; have hnc43 := NB307_309.out; have cz_ := c3_ (w := w42) (g := gb309) BK309.out; obtain ⟨hcz44_0, hcz44_1, hcz44_2⟩ := cz_; have hfz44 := kF BK309.out) | ((with_reducible refine gC (f := 77) rfl ?_); refine gL (some 26) rfl rfl Try.func77 (by kernel_rfl) rfl #[.int .i64 ((rd_T80 l0_0 x9_1).f0)] rfl (by (try simp only [sm1, sm2, sm3]); first | done | rfl) ?_; (with_reducible refine (impl_isLast.calls ((rd_T80 l0_0 x9_1).f0) false _ A9.out).mono ?_); rintro e w' ⟨rfl, ⟨nd, rfl⟩⟩; refine ⟨_, rfl, ?_⟩; have cz_ := c2_0 (w := w42) (g := gb307) BK307.out; obtain ⟨hcz45_0, hcz45_1⟩ := cz_; have hfz45 := kF BK307.out; have p311 : 0 ≤ (((rd_T80 l0_0 x9_1).f1) : Int) := of_decide_eq_true (by first | (with_reducible assumption) | assumption); have q311 : ((rd_T80 l0_0 x9_1).f1) < (l0_0.length : Int) := of_decide_eq_true (by first | (with_reducible assumption) | assumption); obtain ⟨ad311, e311, hx311_0, hx311_1, hx311_2⟩ := at_T80 HR0_0.out ((rd_T80 l0_0 x9_1).f1) p311 q311; obtain rfl : ad308 = ad311 := (by injection e311); have hn311_0 : ad308.block ≠ gb309 := Nat.ne_of_lt (Nat.lt_of_lt_of_le (by have := World.block_lt_of_cell? _ _ hx311_0; first | rwa [aB0] at this | exact this) GW309.out); have hn311_1 : ad308.block ≠ gb309 := Nat.ne_of_lt (Nat.lt_of_lt_of_le (by have := World.block_lt_of_cell? _ _ hx311_0; first | rwa [aB0] at this | exact this) GW309.out); have hn311_2 : ad308.block ≠ gb309 := Nat.ne_of_lt (Nat.lt_of_lt_of_le (by have := World.block_lt_of_cell? _ _ hx311_0; first | rwa [aB0] at this | exact this) GW309.out); replace hx311_0 := (HB.out.cell (World.block_lt_of_cell? w _ hx311_0)).trans hx311_0; replace hx311_1 := (HB.out.cell (World.block_lt_of_cell? w _ hx311_1)).trans hx311_1; replace hx311_2 := (HB.out.cell (World.block_lt_of_cell? w _ hx311_2)).trans hx311_2; replace hx311_0 := (cell_far (p := ⟨gb309, 0, none⟩) (by first | (rw [aB0]; exact hn311_0) | (show (Addr.add _ _).block ≠ _; rw [aB0]; exact hn311_0) | exact hn311_0) (.int .i64 ((rd_T80 l0_0 x9_1).f0))).trans hx311_0; replace hx311_1 := (cell_far (p := ⟨gb309, 0, none⟩) (by first | (rw [aB0]; exact hn311_0) | (show (Addr.add _ _).block ≠ _; rw [aB0]; exact hn311_0) | exact hn311_0) (.int .i64 ((rd_T80 l0_0 x9_1).f0))).trans hx311_1; replace hx311_2 := (cell_far (p := ⟨gb309, 0, none⟩) (by first | (rw [aB0]; exact hn311_0) | (show (Addr.add _ _).block ≠ _; rw [aB0]; exact hn311_0) | exact hn311_0) (.int .i64 ((rd_T80 l0_0 x9_1).f0))).trans hx311_2; replace hx311_0 := (cell_far (p := ⟨gb309, 1, none⟩) (by first | (rw [aB0]; exact hn311_1) | (show (Addr.add _ _).block ≠ _; rw [aB0]; exact hn311_1) | exact hn311_1) (.int .i64 ((rd_T80 l0_0 x9_1).f1))).trans hx311_0; replace hx311_1 := (cell_far (p := ⟨gb309, 1, none⟩) (by first | (rw [aB0]; exact hn311_1) | (show (Addr.add _ _).block ≠ _; rw [aB0]; exact hn311_1) | exact hn311_1) (.int .i64 ((rd_T80 l0_0 x9_1).f1))).trans hx311_1; replace hx311_2 := (cell_far (p := ⟨gb309, 1, none⟩) (by first | (rw [aB0]; exact hn311_1) | (show (Addr.add _ _).block ≠ _; rw [aB0]; exact hn311_1) | exact hn311_1) (.int .i64 ((rd_T80 l0_0 x9_1).f1))).trans hx311_2; replace hx311_0 := (cell_far (p := ⟨gb309, 2, none⟩) (by first | (rw [aB0]; exact hn311_2) | (show (Addr.add _ _).block ≠ _; rw [aB0]; exact hn311_2) | exact hn311_2) (.string ((rd_T80 l0_0 x9_1).f2))).trans hx311_0; replace hx311_1 := (cell_far (p := ⟨gb309, 2, none⟩) (by first | (rw [aB0]; exact hn311_2) | (show (Addr.add _ _).block ≠ _; rw [aB0]; exact hn311_2) | exact hn311_2) (.string ((rd_T80 l0_0 x9_1).f2))).trans hx311_1; replace hx311_2 := (cell_far (p := ⟨gb309, 2, none⟩) (by first | (rw [aB0]; exact hn311_2) | (show (Addr.add _ _).block ≠ _; rw [aB0]; exact hn311_2) | exact hn311_2) (.string ((rd_T80 l0_0 x9_1).f2))).trans hx311_2; clear hn311_0; clear hn311_1; clear hn311_2; replace p311 := eq_true p311; replace q311 := eq_true q311))
              go_ret
              exact ⟨by first | rfl | (simp [eN, eS] <;> rfl) | (simp [*, eN, eS] <;> rfl), by repeat (first | (with_reducible first | exact HB.out | apply bA | apply bD | apply bE | refine bS ?_ GE307.out | refine bS ?_ GE309.out) | exact HB.out)⟩
            ·rw [if_neg c34] at H
             exact absurd H (by simp)
           ·rw [if_neg c33] at H
            exact absurd H (by simp)
          ·rw [if_neg c32] at H
           have c32b0 : decide (((rd_T80 l0_0 x9_1).f1) < x9_1) = false := decide_eq_false c32
           clear c32
           obtain rfl := Option.some.inj H
           have cz_ := c2_0 (w := wr) (g := gb307) BK307.out; obtain ⟨hcz46_0, hcz46_1⟩ := cz_
           have hfz46 := kF BK307.out
           have p308 : 0 ≤ (x9_1 : Int) := of_decide_eq_true (by first | (with_reducible assumption) | assumption)
           have q308 : x9_1 < (l0_0.length : Int) := of_decide_eq_true (by first | (with_reducible assumption) | assumption)
           obtain ⟨ad308, e308, hx308_0, hx308_1, hx308_2⟩ := at_T80 HR0_0.out x9_1 p308 q308
           cases e308
           replace hx308_0 := (HB.out.cell (World.block_lt_of_cell? w _ hx308_0)).trans hx308_0
           replace hx308_1 := (HB.out.cell (World.block_lt_of_cell? w _ hx308_1)).trans hx308_1
           replace hx308_2 := (HB.out.cell (World.block_lt_of_cell? w _ hx308_2)).trans hx308_2
           replace p308 := eq_true p308
           replace q308 := eq_true q308
           go_wp2_with (first | ((with_reducible refine gD (N := 10) rfl ?_); refine bX ?hg (N := 10) ?hd (cs := #[.int .i64 0, .int .i64 0, .string (⟨#[]⟩ : ByteArray)]) (t := 80) ?hr ?_; (case hd => rfl); (case hg => rfl); (case hr => first | (go_simp; done) | (go_simp; rfl)); intro gb309 hg w47 hbox hb; have BK309 := As.mk (hbox); have GW309 := As.mk ((by rw [hg]; exact (bZ (by repeat (first | (with_reducible first | exact HB.out | apply bA | apply bD | apply bE | refine bS ?_ GE307.out) | exact HB.out))) : w.heap.size ≤ gb309)); have GE309 := GW309; have NB307_309 := As.mk ((by rw [hg]; exact Nat.ne_of_lt (kL (g := gb307) (o := .cells #[.slice (some ad308) l0_0.length c0_0, .slice A0_1 l0_1.length c0_1] 31 (0, 0)) (by (with_reducible repeat (first | refine kD ?_ _ | refine kE ?_ | refine kA ?_ _)); exact BK307.out)) : gb307 ≠ gb309)); have NB309_307 := As.mk NB307_309.out.symm; replace BK307 := As.mk (kB (g := gb307) (o := .cells #[.slice (some ad308) l0_0.length c0_0, .slice A0_1 l0_1.length c0_1] 31 (0, 0)) (by (with_reducible repeat (first | refine kD ?_ _ | refine kE ?_ | refine kA ?_ _)); exact BK307.out) hb); replace HB := As.mk (bT (by repeat (first | (with_reducible first | exact HB.out | apply bA | apply bD | apply bE | refine bS ?_ GE307.out) | exact HB.out)) hb); clear hb hbox hg; have hnb48 := NB309_307.out; have hnc48 := NB307_309.out; have cz_ := c3_ (w := w47) (g := gb309) BK309.out; obtain ⟨hcz49_0, hcz49_1, hcz49_2⟩ := cz_; have hfz49 := kF BK309.out) | ((with_reducible refine gC (f := 77) rfl ?_); refine gL (some 26) rfl rfl Try.func77 (by kernel_rfl) rfl #[.int .i64 ((rd_T80 l0_0 x9_1).f0)] rfl (by (try simp only [sm1, sm2, sm3]); first | done | rfl) ?_; (with_reducible refine (impl_isLast.calls ((rd_T80 l0_0 x9_1).f0) false _ A9.out).mono ?_); rintro e w' ⟨rfl, ⟨nd, rfl⟩⟩; refine ⟨_, rfl, ?_⟩))
           go_ret
           exact ⟨by first | rfl | (simp [eN, eS] <;> rfl) | (simp [*, eN, eS] <;> rfl), by repeat (first | (with_reducible first | exact HB.out | apply bA | apply bD | apply bE | refine bS ?_ GE307.out | refine bS ?_ GE309.out) | exact HB.out)⟩
         ·rw [if_neg c31] at H
          have c31b0 : decide (a1 ≤ ((rd_T80 l0_0 x9_1).f1)) = false := decide_eq_false c31
          clear c31
          obtain rfl := Option.some.inj H
          have cz_ := c2_0 (w := wr) (g := gb307) BK307.out; obtain ⟨hcz50_0, hcz50_1⟩ := cz_
          have hfz50 := kF BK307.out
          have p308 : 0 ≤ (x9_1 : Int) := of_decide_eq_true (by first | (with_reducible assumption) | assumption)
          have q308 : x9_1 < (l0_0.length : Int) := of_decide_eq_true (by first | (with_reducible assumption) | assumption)
          obtain ⟨ad308, e308, hx308_0, hx308_1, hx308_2⟩ := at_T80 HR0_0.out x9_1 p308 q308
          cases e308
          replace hx308_0 := (HB.out.cell (World.block_lt_of_cell? w _ hx308_0)).trans hx308_0
          replace hx308_1 := (HB.out.cell (World.block_lt_of_cell? w _ hx308_1)).trans hx308_1
          replace hx308_2 := (HB.out.cell (World.block_lt_of_cell? w _ hx308_2)).trans hx308_2
          replace p308 := eq_true p308
          replace q308 := eq_true q308
          go_wp2_with (first | ((with_reducible refine gD (N := 10) rfl ?_); refine bX ?hg (N := 10) ?hd (cs := #[.int .i64 0, .int .i64 0, .string (⟨#[]⟩ : ByteArray)]) (t := 80) ?hr ?_; (case hd => rfl); (case hg => rfl); (case hr => first | (go_simp; done) | (go_simp; rfl)); intro gb309 hg w51 hbox hb; have BK309 := As.mk (hbox); have GW309 := As.mk ((by rw [hg]; exact (bZ (by repeat (first | (with_reducible first | exact HB.out | apply bA | apply bD | apply bE | refine bS ?_ GE307.out) | exact HB.out))) : w.heap.size ≤ gb309)); have GE309 := GW309; have NB307_309 := As.mk ((by rw [hg]; exact Nat.ne_of_lt (kL (g := gb307) (o := .cells #[.slice (some ad308) l0_0.length c0_0, .slice A0_1 l0_1.length c0_1] 31 (0, 0)) (by (with_reducible repeat (first | refine kD ?_ _ | refine kE ?_ | refine kA ?_ _)); exact BK307.out)) : gb307 ≠ gb309)); have NB309_307 := As.mk NB307_309.out.symm; replace BK307 := As.mk (kB (g := gb307) (o := .cells #[.slice (some ad308) l0_0.length c0_0, .slice A0_1 l0_1.length c0_1] 31 (0, 0)) (by (with_reducible repeat (first | refine kD ?_ _ | refine kE ?_ | refine kA ?_ _)); exact BK307.out) hb); replace HB := As.mk (bT (by repeat (first | (with_reducible first | exact HB.out | apply bA | apply bD | apply bE | refine bS ?_ GE307.out) | exact HB.out)) hb); clear hb hbox hg; have hnb52 := NB309_307.out; have hnc52 := NB307_309.out; have cz_ := c3_ (w := w51) (g := gb309) BK309.out; obtain ⟨hcz53_0, hcz53_1, hcz53_2⟩ := cz_; have hfz53 := kF BK309.out) | ((with_reducible refine gC (f := 77) rfl ?_); refine gL (some 26) rfl rfl Try.func77 (by kernel_rfl) rfl #[.int .i64 ((rd_T80 l0_0 x9_1).f0)] rfl (by (try simp only [sm1, sm2, sm3]); first | done | rfl) ?_; (with_reducible refine (impl_isLast.calls ((rd_T80 l0_0 x9_1).f0) false _ A9.out).mono ?_); rintro e w' ⟨rfl, ⟨nd, rfl⟩⟩; refine ⟨_, rfl, ?_⟩))
          go_ret
          exact ⟨by first | rfl | (simp [eN, eS] <;> rfl) | (simp [*, eN, eS] <;> rfl), by repeat (first | (with_reducible first | exact HB.out | apply bA | apply bD | apply bE | refine bS ?_ GE307.out | refine bS ?_ GE309.out) | exact HB.out)⟩
        ·rw [if_neg c30] at H
         have c30b0 : (((rd_T80 l0_0 x9_1).f0) == 37) = false := beq_eq_false_iff_ne.mpr c30
         have c30b1 : (((rd_T80 l0_0 x9_1).f0) != 37) = true := bne_iff_ne.mpr c30
         replace H := Option.bind_eq_some_iff.mp H
         obtain ⟨t312, A540, H⟩ := H
         replace H : (if t312 = true then (if ((rd_T80 l0_0 x9_1).f1) > x9_1 then (if (((rd_T80 l0_0 x9_1).f1) < a2) then (F4.l0 k1 a1 a2 a3 (wrap64 (x9_1 + 1)) l0_0 l0_1) else (some false)) else (some false)) else (F4.l0 k1 a1 a2 a3 (wrap64 (x9_1 + 1)) l0_0 l0_1)) = some r := H
         have A54 := As.mk A540
         clear A540
         by_cases c55 : t312 = true
         ·subst c55
          replace H : (if ((rd_T80 l0_0 x9_1).f1) > x9_1 then (if (((rd_T80 l0_0 x9_1).f1) < a2) then (F4.l0 k1 a1 a2 a3 (wrap64 (x9_1 + 1)) l0_0 l0_1) else (some false)) else (some false)) = some r := by rw [if_pos rfl] at H; exact H
          by_cases c56 : ((rd_T80 l0_0 x9_1).f1) > x9_1
          ·rw [if_pos c56] at H
           have c56b0 : decide (x9_1 < ((rd_T80 l0_0 x9_1).f1)) = true := decide_eq_true c56
           clear c56
           by_cases c57 : (((rd_T80 l0_0 x9_1).f1) < a2)
           ·rw [if_pos c57] at H
            have c57b0 : decide (((rd_T80 l0_0 x9_1).f1) < a2) = true := decide_eq_true c57
            clear c57
            have H' := As.mk H
            clear H
            have cz_ := c2_0 (w := wr) (g := gb307) BK307.out; obtain ⟨hcz58_0, hcz58_1⟩ := cz_
            have hfz58 := kF BK307.out
            have p308 : 0 ≤ (x9_1 : Int) := of_decide_eq_true (by first | (with_reducible assumption) | assumption)
            have q308 : x9_1 < (l0_0.length : Int) := of_decide_eq_true (by first | (with_reducible assumption) | assumption)
            obtain ⟨ad308, e308, hx308_0, hx308_1, hx308_2⟩ := at_T80 HR0_0.out x9_1 p308 q308
            cases e308
            replace hx308_0 := (HB.out.cell (World.block_lt_of_cell? w _ hx308_0)).trans hx308_0
            replace hx308_1 := (HB.out.cell (World.block_lt_of_cell? w _ hx308_1)).trans hx308_1
            replace hx308_2 := (HB.out.cell (World.block_lt_of_cell? w _ hx308_2)).trans hx308_2
            replace p308 := eq_true p308
            replace q308 := eq_true q308
            go_wp2_with (first | ((with_reducible refine gD (N := 10) rfl ?_); refine bX ?hg (N := 10) ?hd (cs := #[.int .i64 0, .int .i64 0, .string (⟨#[]⟩ : ByteArray)]) (t := 80) ?hr ?_; (case hd => rfl); (case hg => rfl); (case hr => first | (go_simp; done) | (go_simp; rfl)); intro gb309 hg w59 hbox hb; have BK309 := As.mk (hbox); have GW309 := As.mk ((by rw [hg]; exact (bZ (by repeat (first | (with_reducible first | exact HB.out | apply bA | apply bD | apply bE | refine bS ?_ GE307.out) | exact HB.out))) : w.heap.size ≤ gb309)); have GE309 := GW309; have NB307_309 := As.mk ((by rw [hg]; exact Nat.ne_of_lt (kL (g := gb307) (o := .cells #[.slice (some ad308) l0_0.length c0_0, .slice A0_1 l0_1.length c0_1] 31 (0, 0)) (by (with_reducible repeat (first | refine kD ?_ _ | refine kE ?_ | refine kA ?_ _)); exact BK307.out)) : gb307 ≠ gb309)); have NB309_307 := As.mk NB307_309.out.symm; replace BK307 := As.mk (kB (g := gb307) (o := .cells #[.slice (some ad308) l0_0.length c0_0, .slice A0_1 l0_1.length c0_1] 31 (0, 0)) (by (with_reducible repeat (first | refine kD ?_ _ | refine kE ?_ | refine kA ?_ _)); exact BK307.out) hb); replace HB := As.mk (bT (by repeat (first | (with_reducible first | exact HB.out | apply bA | apply bD | apply bE | refine bS ?_ GE307.out) | exact HB.out)) hb); clear hb hbox hg; have hnb60 := NB309_307.out; have hnc60 := NB307_309.out; have cz_ := c3_ (w := w59) (g := gb309) BK309.out; obtain ⟨hcz61_0, hcz61_1, hcz61_2⟩ := cz_; have hfz61 := kF BK309.out) | ((with_reducible refine gC (f := 77) rfl ?_); refine gL (some 26) rfl rfl Try.func77 (by kernel_rfl) rfl #[.int .i64 ((rd_T80 l0_0 x9_1).f0)] rfl (by (try simp only [sm1, sm2, sm3]); first | done | rfl) ?_; (with_reducible refine (impl_isLast.calls ((rd_T80 l0_0 x9_1).f0) false _ A9.out).mono ?_); rintro e w' ⟨rfl, ⟨nd, rfl⟩⟩; refine ⟨_, rfl, ?_⟩) | ((with_reducible refine gC (f := 70) rfl ?_); refine gL (some 69) rfl rfl Try.func70 (by kernel_rfl) rfl #[.int .i64 ((rd_T80 l0_0 x9_1).f0)] rfl (by (try simp only [sm1, sm2, sm3]); first | done | rfl) ?_; (with_reducible refine (F27.calls ((rd_T80 l0_0 x9_1).f0) true _ A54.out).mono ?_); rintro e w' ⟨rfl, ⟨nd, rfl⟩⟩; refine ⟨_, rfl, ?_⟩))
            go_roundg k1
            case measure => have := HK1.out; omega
            case rel => exact ⟨(wrap64 (x9_1 + 1)), (by first | rfl | (simp; done) | (simp [*]; done)), H', ⟨by have := HK1.out; omega⟩, ⟨by (with_reducible repeat (first | refine kD ?_ _ | refine kE ?_ | refine kA ?_ _)); refine blk_far ?_ NB307_309.out _; (with_reducible repeat (first | refine kD ?_ _ | refine kE ?_ | refine kA ?_ _)); refine blk_far ?_ NB307_309.out _; (with_reducible repeat (first | refine kD ?_ _ | refine kE ?_ | refine kA ?_ _)); refine blk_far ?_ NB307_309.out _; (with_reducible repeat (first | refine kD ?_ _ | refine kE ?_ | refine kA ?_ _)); exact BK307.out⟩, ⟨by repeat (first | (with_reducible first | exact HB.out | apply bA | apply bD | apply bE | refine bS ?_ GE307.out | refine bS ?_ GE309.out) | exact HB.out)⟩⟩
           ·rw [if_neg c57] at H
            have c57b0 : decide (((rd_T80 l0_0 x9_1).f1) < a2) = false := decide_eq_false c57
            clear c57
            obtain rfl := Option.some.inj H
            have cz_ := c2_0 (w := wr) (g := gb307) BK307.out; obtain ⟨hcz62_0, hcz62_1⟩ := cz_
            have hfz62 := kF BK307.out
            have p308 : 0 ≤ (x9_1 : Int) := of_decide_eq_true (by first | (with_reducible assumption) | assumption)
            have q308 : x9_1 < (l0_0.length : Int) := of_decide_eq_true (by first | (with_reducible assumption) | assumption)
            obtain ⟨ad308, e308, hx308_0, hx308_1, hx308_2⟩ := at_T80 HR0_0.out x9_1 p308 q308
            cases e308
            replace hx308_0 := (HB.out.cell (World.block_lt_of_cell? w _ hx308_0)).trans hx308_0
            replace hx308_1 := (HB.out.cell (World.block_lt_of_cell? w _ hx308_1)).trans hx308_1
            replace hx308_2 := (HB.out.cell (World.block_lt_of_cell? w _ hx308_2)).trans hx308_2
            replace p308 := eq_true p308
            replace q308 := eq_true q308
            go_wp2_with (first | ((with_reducible refine gD (N := 10) rfl ?_); refine bX ?hg (N := 10) ?hd (cs := #[.int .i64 0, .int .i64 0, .string (⟨#[]⟩ : ByteArray)]) (t := 80) ?hr ?_; (case hd => rfl); (case hg => rfl); (case hr => first | (go_simp; done) | (go_simp; rfl)); intro gb309 hg w63 hbox hb; have BK309 := As.mk (hbox); have GW309 := As.mk ((by rw [hg]; exact (bZ (by repeat (first | (with_reducible first | exact HB.out | apply bA | apply bD | apply bE | refine bS ?_ GE307.out) | exact HB.out))) : w.heap.size ≤ gb309)); have GE309 := GW309; have NB307_309 := As.mk ((by rw [hg]; exact Nat.ne_of_lt (kL (g := gb307) (o := .cells #[.slice (some ad308) l0_0.length c0_0, .slice A0_1 l0_1.length c0_1] 31 (0, 0)) (by (with_reducible repeat (first | refine kD ?_ _ | refine kE ?_ | refine kA ?_ _)); exact BK307.out)) : gb307 ≠ gb309)); have NB309_307 := As.mk NB307_309.out.symm; replace BK307 := As.mk (kB (g := gb307) (o := .cells #[.slice (some ad308) l0_0.length c0_0, .slice A0_1 l0_1.length c0_1] 31 (0, 0)) (by (with_reducible repeat (first | refine kD ?_ _ | refine kE ?_ | refine kA ?_ _)); exact BK307.out) hb); replace HB := As.mk (bT (by repeat (first | (with_reducible first | exact HB.out | apply bA | apply bD | apply bE | refine bS ?_ GE307.out) | exact HB.out)) hb); clear hb hbox hg; have hnb64 := NB309_307.out; have hnc64 := NB307_309.out; have cz_ := c3_ (w := w63) (g := gb309) BK309.out; obtain ⟨hcz65_0, hcz65_1, hcz65_2⟩ := cz_; have hfz65 := kF BK309.out) | ((with_reducible refine gC (f := 77) rfl ?_); refine gL (some 26) rfl rfl Try.func77 (by kernel_rfl) rfl #[.int .i64 ((rd_T80 l0_0 x9_1).f0)] rfl (by (try simp only [sm1, sm2, sm3]); first | done | rfl) ?_; (with_reducible refine (impl_isLast.calls ((rd_T80 l0_0 x9_1).f0) false _ A9.out).mono ?_); rintro e w' ⟨rfl, ⟨nd, rfl⟩⟩; refine ⟨_, rfl, ?_⟩) | ((with_reducible refine gC (f := 70) rfl ?_); refine gL (some 69) rfl rfl Try.func70 (by kernel_rfl) rfl #[.int .i64 ((rd_T80 l0_0 x9_1).f0)] rfl (by (try simp only [sm1, sm2, sm3]); first | done | rfl) ?_; (with_reducible refine (F27.calls ((rd_T80 l0_0 x9_1).f0) true _ A54.out).mono ?_); rintro e w' ⟨rfl, ⟨nd, rfl⟩⟩; refine ⟨_, rfl, ?_⟩))
            go_ret
            exact ⟨by first | rfl | (simp [eN, eS] <;> rfl) | (simp [*, eN, eS] <;> rfl), by repeat (first | (with_reducible first | exact HB.out | apply bA | apply bD | apply bE | refine bS ?_ GE307.out | refine bS ?_ GE309.out) | exact HB.out)⟩
          ·rw [if_neg c56] at H
           have c56b0 : decide (x9_1 < ((rd_T80 l0_0 x9_1).f1)) = false := decide_eq_false c56
           clear c56
           obtain rfl := Option.some.inj H
           have cz_ := c2_0 (w := wr) (g := gb307) BK307.out; obtain ⟨hcz66_0, hcz66_1⟩ := cz_
           have hfz66 := kF BK307.out
           have p308 : 0 ≤ (x9_1 : Int) := of_decide_eq_true (by first | (with_reducible assumption) | assumption)
           have q308 : x9_1 < (l0_0.length : Int) := of_decide_eq_true (by first | (with_reducible assumption) | assumption)
           obtain ⟨ad308, e308, hx308_0, hx308_1, hx308_2⟩ := at_T80 HR0_0.out x9_1 p308 q308
           cases e308
           replace hx308_0 := (HB.out.cell (World.block_lt_of_cell? w _ hx308_0)).trans hx308_0
           replace hx308_1 := (HB.out.cell (World.block_lt_of_cell? w _ hx308_1)).trans hx308_1
           replace hx308_2 := (HB.out.cell (World.block_lt_of_cell? w _ hx308_2)).trans hx308_2
           replace p308 := eq_true p308
           replace q308 := eq_true q308
           go_wp2_with (first | ((with_reducible refine gD (N := 10) rfl ?_); refine bX ?hg (N := 10) ?hd (cs := #[.int .i64 0, .int .i64 0, .string (⟨#[]⟩ : ByteArray)]) (t := 80) ?hr ?_; (case hd => rfl); (case hg => rfl); (case hr => first | (go_simp; done) | (go_simp; rfl)); intro gb309 hg w67 hbox hb; have BK309 := As.mk (hbox); have GW309 := As.mk ((by rw [hg]; exact (bZ (by repeat (first | (with_reducible first | exact HB.out | apply bA | apply bD | apply bE | refine bS ?_ GE307.out) | exact HB.out))) : w.heap.size ≤ gb309)); have GE309 := GW309; have NB307_309 := As.mk ((by rw [hg]; exact Nat.ne_of_lt (kL (g := gb307) (o := .cells #[.slice (some ad308) l0_0.length c0_0, .slice A0_1 l0_1.length c0_1] 31 (0, 0)) (by (with_reducible repeat (first | refine kD ?_ _ | refine kE ?_ | refine kA ?_ _)); exact BK307.out)) : gb307 ≠ gb309)); have NB309_307 := As.mk NB307_309.out.symm; replace BK307 := As.mk (kB (g := gb307) (o := .cells #[.slice (some ad308) l0_0.length c0_0, .slice A0_1 l0_1.length c0_1] 31 (0, 0)) (by (with_reducible repeat (first | refine kD ?_ _ | refine kE ?_ | refine kA ?_ _)); exact BK307.out) hb); replace HB := As.mk (bT (by repeat (first | (with_reducible first | exact HB.out | apply bA | apply bD | apply bE | refine bS ?_ GE307.out) | exact HB.out)) hb); clear hb hbox hg; have hnb68 := NB309_307.out; have hnc68 := NB307_309.out; have cz_ := c3_ (w := w67) (g := gb309) BK309.out; obtain ⟨hcz69_0, hcz69_1, hcz69_2⟩ := cz_; have hfz69 := kF BK309.out) | ((with_reducible refine gC (f := 77) rfl ?_); refine gL (some 26) rfl rfl Try.func77 (by kernel_rfl) rfl #[.int .i64 ((rd_T80 l0_0 x9_1).f0)] rfl (by (try simp only [sm1, sm2, sm3]); first | done | rfl) ?_; (with_reducible refine (impl_isLast.calls ((rd_T80 l0_0 x9_1).f0) false _ A9.out).mono ?_); rintro e w' ⟨rfl, ⟨nd, rfl⟩⟩; refine ⟨_, rfl, ?_⟩) | ((with_reducible refine gC (f := 70) rfl ?_); refine gL (some 69) rfl rfl Try.func70 (by kernel_rfl) rfl #[.int .i64 ((rd_T80 l0_0 x9_1).f0)] rfl (by (try simp only [sm1, sm2, sm3]); first | done | rfl) ?_; (with_reducible refine (F27.calls ((rd_T80 l0_0 x9_1).f0) true _ A54.out).mono ?_); rintro e w' ⟨rfl, ⟨nd, rfl⟩⟩; refine ⟨_, rfl, ?_⟩))
           go_ret
           exact ⟨by first | rfl | (simp [eN, eS] <;> rfl) | (simp [*, eN, eS] <;> rfl), by repeat (first | (with_reducible first | exact HB.out | apply bA | apply bD | apply bE | refine bS ?_ GE307.out | refine bS ?_ GE309.out) | exact HB.out)⟩
         ·replace c55 := Bool.eq_false_iff.mpr c55
          subst c55
          replace H : (F4.l0 k1 a1 a2 a3 (wrap64 (x9_1 + 1)) l0_0 l0_1) = some r := by rw [if_neg (show ¬ (false = true) by decide)] at H; exact H
          have H' := As.mk H
          clear H
          have cz_ := c2_0 (w := wr) (g := gb307) BK307.out; obtain ⟨hcz70_0, hcz70_1⟩ := cz_
          have hfz70 := kF BK307.out
          have p308 : 0 ≤ (x9_1 : Int) := of_decide_eq_true (by first | (with_reducible assumption) | assumption)
          have q308 : x9_1 < (l0_0.length : Int) := of_decide_eq_true (by first | (with_reducible assumption) | assumption)
          obtain ⟨ad308, e308, hx308_0, hx308_1, hx308_2⟩ := at_T80 HR0_0.out x9_1 p308 q308
          cases e308
          replace hx308_0 := (HB.out.cell (World.block_lt_of_cell? w _ hx308_0)).trans hx308_0
          replace hx308_1 := (HB.out.cell (World.block_lt_of_cell? w _ hx308_1)).trans hx308_1
          replace hx308_2 := (HB.out.cell (World.block_lt_of_cell? w _ hx308_2)).trans hx308_2
          replace p308 := eq_true p308
          replace q308 := eq_true q308
          go_wp2_with (first | ((with_reducible refine gD (N := 10) rfl ?_); refine bX ?hg (N := 10) ?hd (cs := #[.int .i64 0, .int .i64 0, .string (⟨#[]⟩ : ByteArray)]) (t := 80) ?hr ?_; (case hd => rfl); (case hg => rfl); (case hr => first | (go_simp; done) | (go_simp; rfl)); intro gb309 hg w71 hbox hb; have BK309 := As.mk (hbox); have GW309 := As.mk ((by rw [hg]; exact (bZ (by repeat (first | (with_reducible first | exact HB.out | apply bA | apply bD | apply bE | refine bS ?_ GE307.out) | exact HB.out))) : w.heap.size ≤ gb309)); have GE309 := GW309; have NB307_309 := As.mk ((by rw [hg]; exact Nat.ne_of_lt (kL (g := gb307) (o := .cells #[.slice (some ad308) l0_0.length c0_0, .slice A0_1 l0_1.length c0_1] 31 (0, 0)) (by (with_reducible repeat (first | refine kD ?_ _ | refine kE ?_ | refine kA ?_ _)); exact BK307.out)) : gb307 ≠ gb309)); have NB309_307 := As.mk NB307_309.out.symm; replace BK307 := As.mk (kB (g := gb307) (o := .cells #[.slice (some ad308) l0_0.length c0_0, .slice A0_1 l0_1.length c0_1] 31 (0, 0)) (by (with_reducible repeat (first | refine kD ?_ _ | refine kE ?_ | refine kA ?_ _)); exact BK307.out) hb); replace HB := As.mk (bT (by repeat (first | (with_reducible first | exact HB.out | apply bA | apply bD | apply bE | refine bS ?_ GE307.out) | exact HB.out)) hb); clear hb hbox hg; have hnb72 := NB309_307.out; have hnc72 := NB307_309.out; have cz_ := c3_ (w := w71) (g := gb309) BK309.out; obtain ⟨hcz73_0, hcz73_1, hcz73_2⟩ := cz_; have hfz73 := kF BK309.out) | ((with_reducible refine gC (f := 77) rfl ?_); refine gL (some 26) rfl rfl Try.func77 (by kernel_rfl) rfl #[.int .i64 ((rd_T80 l0_0 x9_1).f0)] rfl (by (try simp only [sm1, sm2, sm3]); first | done | rfl) ?_; (with_reducible refine (impl_isLast.calls ((rd_T80 l0_0 x9_1).f0) false _ A9.out).mono ?_); rintro e w' ⟨rfl, ⟨nd, rfl⟩⟩; refine ⟨_, rfl, ?_⟩) | ((with_reducible refine gC (f := 70) rfl ?_); refine gL (some 69) rfl rfl Try.func70 (by kernel_rfl) rfl #[.int .i64 ((rd_T80 l0_0 x9_1).f0)] rfl (by (try simp only [sm1, sm2, sm3]); first | done | rfl) ?_; (with_reducible refine (F27.calls ((rd_T80 l0_0 x9_1).f0) false _ A54.out).mono ?_); rintro e w' ⟨rfl, ⟨nd, rfl⟩⟩; refine ⟨_, rfl, ?_⟩))
          go_roundg k1
          case measure => have := HK1.out; omega
          case rel => exact ⟨(wrap64 (x9_1 + 1)), (by first | rfl | (simp; done) | (simp [*]; done)), H', ⟨by have := HK1.out; omega⟩, ⟨by (with_reducible repeat (first | refine kD ?_ _ | refine kE ?_ | refine kA ?_ _)); refine blk_far ?_ NB307_309.out _; (with_reducible repeat (first | refine kD ?_ _ | refine kE ?_ | refine kA ?_ _)); refine blk_far ?_ NB307_309.out _; (with_reducible repeat (first | refine kD ?_ _ | refine kE ?_ | refine kA ?_ _)); refine blk_far ?_ NB307_309.out _; (with_reducible repeat (first | refine kD ?_ _ | refine kE ?_ | refine kA ?_ _)); exact BK307.out⟩, ⟨by repeat (first | (with_reducible first | exact HB.out | apply bA | apply bD | apply bE | refine bS ?_ GE307.out | refine bS ?_ GE309.out) | exact HB.out)⟩⟩
     ·rw [if_neg c8] at H
      exact absurd H (by simp)
    ·rw [if_neg c7] at H
     exact absurd H (by simp)
   ·rw [if_neg c6] at H
    have c6b0 : decide (x9_1 < a2) = false := decide_eq_false c6
    clear c6
    obtain rfl := Option.some.inj H
    go_wp2
    go_ret
    exact ⟨by first | rfl | (simp [eN, eS] <;> rfl) | (simp [*, eN, eS] <;> rfl), by repeat (first | (with_reducible first | exact HB.out | apply bA | apply bD | apply bE | refine bS ?_ GE307.out) | exact HB.out)⟩
def bits_Mul32.f (a0 : Int) (a1 : Int) : Option (Int × Int) := some (((IntKind.u64.wrap ((IntKind.u64.wrap (a0)) * (IntKind.u64.wrap (a1)))) / 4294967296) % 4294967296, (IntKind.u64.wrap ((IntKind.u64.wrap (a0)) * (IntKind.u64.wrap (a1)))) % 4294967296)
theorem bits_Mul32.calls (a0 : Int) (a1 : Int) (r1 : Int) (r2 : Int) (w : World) (h : bits_Mul32.f a0 a1 = some (r1, r2)) :
  Calls Try.prog 96 #[.int .u32 a0, .int .u32 a1] w fun e w' => e = .returned (.tuple #[.int .u32 r1, .int .u32 r2]) ∧ D0 w w' := by
 have H : (some (((IntKind.u64.wrap ((IntKind.u64.wrap (a0)) * (IntKind.u64.wrap (a1)))) / 4294967296) % 4294967296, (IntKind.u64.wrap ((IntKind.u64.wrap (a0)) * (IntKind.u64.wrap (a1)))) % 4294967296)) = some (r1, r2) := h
 clear h
 simp only [Option.some.injEq, Prod.mk.injEq] at H
 obtain ⟨rfl, rfl⟩ := H
 go_enter Try.func96, Try.ntmps96
 go_wp2
 go_ret2
 exact ⟨by first | rfl | (simp; done) | (simp [*]; done), by repeat (first | exact D0.refl _ | apply D0.step)⟩
def bits_Mul64.f (a0 : Int) (a1 : Int) : Option (Int × Int) := some (IntKind.u64.wrap ((IntKind.u64.wrap ((IntKind.u64.wrap ((a0 / 4294967296) * (a1 / 4294967296))) + ((IntKind.u64.wrap ((IntKind.u64.wrap ((a0 / 4294967296) * (Go.bits .and .u64 a1 4294967295))) + ((IntKind.u64.wrap ((Go.bits .and .u64 a0 4294967295) * (Go.bits .and .u64 a1 4294967295))) / 4294967296))) / 4294967296))) + ((IntKind.u64.wrap ((Go.bits .and .u64 (IntKind.u64.wrap ((IntKind.u64.wrap ((a0 / 4294967296) * (Go.bits .and .u64 a1 4294967295))) + ((IntKind.u64.wrap ((Go.bits .and .u64 a0 4294967295) * (Go.bits .and .u64 a1 4294967295))) / 4294967296))) 4294967295) + (IntKind.u64.wrap ((Go.bits .and .u64 a0 4294967295) * (a1 / 4294967296))))) / 4294967296)), IntKind.u64.wrap (a0 * a1))
theorem bits_Mul64.calls (a0 : Int) (a1 : Int) (r1 : Int) (r2 : Int) (w : World) (h : bits_Mul64.f a0 a1 = some (r1, r2)) :
  Calls Try.prog 97 #[.int .u64 a0, .int .u64 a1] w fun e w' => e = .returned (.tuple #[.int .u64 r1, .int .u64 r2]) ∧ D0 w w' := by
 have H : (some (IntKind.u64.wrap ((IntKind.u64.wrap ((IntKind.u64.wrap ((a0 / 4294967296) * (a1 / 4294967296))) + ((IntKind.u64.wrap ((IntKind.u64.wrap ((a0 / 4294967296) * (Go.bits .and .u64 a1 4294967295))) + ((IntKind.u64.wrap ((Go.bits .and .u64 a0 4294967295) * (Go.bits .and .u64 a1 4294967295))) / 4294967296))) / 4294967296))) + ((IntKind.u64.wrap ((Go.bits .and .u64 (IntKind.u64.wrap ((IntKind.u64.wrap ((a0 / 4294967296) * (Go.bits .and .u64 a1 4294967295))) + ((IntKind.u64.wrap ((Go.bits .and .u64 a0 4294967295) * (Go.bits .and .u64 a1 4294967295))) / 4294967296))) 4294967295) + (IntKind.u64.wrap ((Go.bits .and .u64 a0 4294967295) * (a1 / 4294967296))))) / 4294967296)), IntKind.u64.wrap (a0 * a1))) = some (r1, r2) := h
 clear h
 simp only [Option.some.injEq, Prod.mk.injEq] at H
 obtain ⟨rfl, rfl⟩ := H
 go_enter Try.func97, Try.ntmps97
 go_wp2
 go_ret2
 exact ⟨by first | rfl | (simp; done) | (simp [*]; done), by repeat (first | exact D0.refl _ | apply D0.step)⟩
def bits_Mul.f (a0 : Int) (a1 : Int) : Option (Int × Int) := (bits_Mul64.f a0 a1).bind fun bt313 => (some (bt313.1, bt313.2))
theorem bits_Mul.calls (a0 : Int) (a1 : Int) (r1 : Int) (r2 : Int) (w : World) (h : bits_Mul.f a0 a1 = some (r1, r2)) :
  Calls Try.prog 93 #[.int .u64 a0, .int .u64 a1] w fun e w' => e = .returned (.tuple #[.int .u64 r1, .int .u64 r2]) ∧ D0 w w' := by
 have H : ((bits_Mul64.f a0 a1).bind fun bt313 => (some (bt313.1, bt313.2))) = some (r1, r2) := h
 clear h
 replace H := Option.bind_eq_some_iff.mp H
 obtain ⟨⟨t313, t314⟩, A30, H⟩ := H
 replace H : (some (t313, t314)) = some (r1, r2) := H
 have A3 := As.mk A30
 clear A30
 simp only [Option.some.injEq, Prod.mk.injEq] at H
 obtain ⟨rfl, rfl⟩ := H
 go_enter Try.func93, Try.ntmps93
 go_wp2_with (first | ((with_reducible refine gC (f := 97) rfl ?_); refine gL (some 25) rfl rfl Try.func97 (by kernel_rfl) rfl #[.int .u64 a0, .int .u64 a1] rfl (by (try simp only [sm1, sm2, sm3]); first | done | rfl) ?_; (with_reducible refine (bits_Mul64.calls a0 a1 t313 t314 _ A3.out).mono ?_); rintro e w' ⟨rfl, ⟨nd, rfl⟩⟩; refine ⟨_, rfl, ?_⟩))
 go_ret2
 exact ⟨by first | rfl | (simp; done) | (simp [*]; done), by repeat (first | exact D0.refl _ | apply D0.step)⟩
theorem wrap_u64 (m : Int) : IntKind.u64.wrap m = m % 18446744073709551616 := by simp [IntKind.wrap, IntKind.bits, IntKind.signed]
theorem mask_u64 (n : Int) (h0 : 0 ≤ n) (h1 : n ≤ 1000000) : Go.bits .and .u64 n 4294967295 = n := by
 have h := bits_mask .u64 63 (by decide) (fun m a b => by rw [wrap_u64]; omega) 32 (by decide) n h0 (by omega)
 have e : ((2 : Int) ^ 32 - 1) = 4294967295 := by decide
 have e2 : ((2 : Int) ^ 32) = 4294967296 := by decide
 first
 | (rw [e, e2] at h; rw [h]; omega)
 | (simp only [e, e2] at h; rw [h]; omega)
 | (rw [show (4294967295 : Int) = ((2 ^ 32 - 1 : Nat) : Int) from by decide, h]; omega)
theorem mul_one_ev (n : Int) (h0 : 0 ≤ n) (h1 : n ≤ 1000000) : bits_Mul.f 1 n = some (0, n) := by
 have m1 : Go.bits .and .u64 1 4294967295 = 1 := mask_u64 1 (by omega) (by omega)
 have m0 : Go.bits .and .u64 0 4294967295 = 0 := mask_u64 0 (by omega) (by omega)
 have hn := mask_u64 n h0 h1
 have d1 : (1 : Int) / 4294967296 = 0 := by decide
 have dn : n / 4294967296 = 0 := by omega
 have dm : (n % 18446744073709551616) / 4294967296 = 0 := by omega
 have en : n % 18446744073709551616 = n := by omega
 unfold bits_Mul.f bits_Mul64.f
 simp [wrap_u64, m1, hn, d1, dn, en, m0]
def slices_Repeat_int64_int64.f (l0 : List Int) (a1 : Int) : Option (List Int) := if l0.length = 1 then (if 1 ≤ a1 then (if a1 ≤ 1000000 then (some (List.replicate a1.toNat (l0.getD 0 0))) else (none)) else (none)) else (none)
structure Fill (w : World) (g n cap q : Nat) (v : Int) : Prop where
 row : ∃ cur : Array Value, w.heap[g]? = some (.cells cur 2 (0, 0)) ∧ cur.size = cap ∧ cur.toList.take q = List.replicate q (.int .i64 v)
theorem Fill.step {w : World} {g n cap q t : Nat} {v : Int} (h : Fill w g n cap q v) (hf : q + t ≤ cap) : Fill (w.setCells g q (List.replicate t (.int .i64 v))) g n cap (q + t) v := by
 obtain ⟨cur, h1, h2, h3⟩ := h.row
 obtain ⟨cur', h4, h5, h6⟩ := setCells_row (List.replicate t (Value.int .i64 v)) q w cur h1 (by rw [List.length_replicate]; omega)
 refine ⟨cur', h4, by omega, ?_⟩
 have hl : (cur.toList.take q).length = q := by rw [List.length_take, Array.length_toList]; omega
 rw [h6, List.append_assoc, List.take_append, hl, List.take_of_length_le (by omega), h3, show q + t - q = t from by omega, List.take_append, List.length_replicate, List.take_of_length_le (by rw [List.length_replicate]; exact Nat.le_refl _), show t - t = 0 from by omega, List.take_zero, List.append_nil, List.replicate_append_replicate]
theorem Fill.cell {w : World} {g n cap q : Nat} {v : Int} (h : Fill w g n cap q v) (j : Nat) (hj : j < q) (hq : q ≤ cap) : w.cell? ⟨g, j, none⟩ = some (.int .i64 v) := by
 obtain ⟨cur, h1, h2, h3⟩ := h.row
 rw [kC h1 j]
 have e : (cur.toList.take q)[j]? = some (.int .i64 v) := by rw [h3]; simp [hj]
 rw [List.getElem?_take_of_lt hj] at e
 simpa using e
theorem Fill.drew {w : World} {g n cap q : Nat} {v : Int} (h : Fill w g n cap q v) : Fill w.drew g n cap q v := ⟨h.row⟩
theorem Fill.copy {P : Program} {W : World} {g n cap q t : Nat} {v : Int} {ty : TypeId} (h : Fill W g n cap q v) (ht : t = min q (n - q)) (hq : q ≤ n) (hn : n ≤ cap) (hu : P.underlying 35 = some (.slice 2)) (hs : (P.info? 2).map (·.size) = some 1) :
  (Builtin.copy_ #[35, 35] ty #[.slice (some ⟨g, q, none⟩) (n - q) (cap - q), .slice (some ⟨g, 0, none⟩) q cap]).run P W = .ok (.int .i64 (t : Int)) (W.setCells g q (List.replicate t (.int .i64 v))) := by
 obtain ⟨cur, h1, h2, h3⟩ := h.row
 have hr := run_copy_cells (P := P) W 35 35 ty 2 g q (n - q) (cap - q) ⟨g, 0, none⟩ q cap (List.replicate t (Value.int .i64 v)) hu hs (by rw [List.length_replicate, ht])
  (fun j u hj => by
   have hjt : j < t := by
    rcases Nat.lt_or_ge j t with h | h
    ·exact h
    ·rw [List.getElem?_eq_none (by rw [List.length_replicate]; exact h)] at hj; cases hj
   rw [Go.Proofs.Ytbamjjaamjfnaaa.RowLaw.add_zero, h.cell j (by omega) (by omega)]
   rw [List.getElem?_replicate_of_lt hjt] at hj
   exact hj)
  (fun j hj => by rw [List.length_replicate] at hj; rw [kC h1, Array.getElem?_eq_getElem (by omega)]; rfl) (fun j _ => kF h1 _) (by intro u hu; rw [List.mem_replicate] at hu; rw [hu.2]; rfl)
 rw [List.length_replicate] at hr
 exact hr
theorem Fill.own {w : World} {base g n cap : Nat} {v : Int} (h : Fill w g n cap n v) (hb : base ≤ g) (hnc : n ≤ cap) (hcm : cap ≤ 9223372036854775807) : w.ownsRow base 2 1 (.slice (some ⟨g, 0, none⟩) n cap) n (encs (Value.int .i64) (List.replicate n v)) := by
 obtain ⟨cur, h1, h2, h3⟩ := h.row
 have e : encs (Value.int .i64) (List.replicate n v) = List.replicate n (Value.int .i64 v) := by simp [encs]
 refine ⟨by rw [e, List.length_replicate, Nat.mul_one], .inr ⟨g, cap, cur, rfl, hb, h1, hnc, hcm, by rw [h2, Nat.mul_one], ?_⟩⟩
 rw [Nat.mul_one, h3, e]
theorem copy_run {P : Program} {oi : Oper} {a : Act} {w w1 : World} (s x : Operand) (t t' : TypeId) (ho : oi.op = .call { callee := .builtin .copy, args := #[s, x], argTypes := #[t, t'] }) (dv sv m : Value) (hs : a.eval s = dv) (hx : a.eval x = sv)
  (hr : (Builtin.copy_ #[t, t'] oi.type #[dv, sv]).run P w = .ok m w1) : (execOp a.eval oi).run P w = .ok (.value m) w1 := by
 unfold execOp
 simp only [ho, resolve, invoke, builtin, Sem.run_bind, Sem.run_pure, Result.andThen_ok, List.map_toArray, List.map_cons, List.map_nil, hs, hx, hr]
theorem slices_Repeat_int64_int64.calls (A0 : Option Addr) (c0 : Nat) (l0 : List Int) (a1 : Int) (r : List Int) (w : World) (hr0 : Kd.C (Kd.int .i64) w A0 l0.length l0) (hc0 : l0.length ≤ c0) (h : slices_Repeat_int64_int64.f l0 a1 = some r) :
  Calls Try.prog 78 #[.slice A0 l0.length c0, .int .i64 a1] w fun e w' => ∃ v0_ : Value, e = .returned (v0_) ∧ Kd.R (Kd.int .i64) 2 w' w.heap.size (fun _ => True) v0_ r ∧ Below w.heap.size w w' := by
 unfold slices_Repeat_int64_int64.f at h
 by_cases h1 : l0.length = 1
 rotate_left
 ·rw [if_neg h1] at h; cases h
 rw [if_pos h1] at h
 by_cases h2 : 1 ≤ a1
 rotate_left
 ·rw [if_neg h2] at h; cases h
 rw [if_pos h2] at h
 by_cases h3 : a1 ≤ 1000000
 rotate_left
 ·rw [if_neg h3] at h; cases h
 rw [if_pos h3] at h
 obtain rfl := Option.some.inj h
 clear h
 obtain ⟨v, rfl⟩ : ∃ v, l0 = [v] := List.length_eq_one_iff.1 h1
 obtain ⟨n, rfl⟩ : ∃ n : Nat, a1 = (n : Int) := ⟨a1.toNat, by omega⟩
 obtain ⟨ad, rfl, _⟩ := hr0.2.2 (by simp)
 have HX := As.mk hr0
 have HN1 := As.mk (by omega : 1 ≤ n)
 have HN2 := As.mk (by omega : n ≤ 1000000)
 have HM := As.mk (mul_one_ev (n : Int) (by omega) (by omega))
 have HB := As.mk (Below.refl w.heap.size w)
 have d1 : ((n : Int) < 0) = False := eq_false (by omega)
 have d1b : decide ((n : Int) < 0) = false := decide_eq_false (by omega)
 have d2 : IntKind.u64.wrap (n : Int) = (n : Int) := by rw [wrap_u64]; omega
 have d3 : IntKind.u64.wrap 1 = 1 := by rw [wrap_u64]; decide
 have d4 : ((n : Int) > 9223372036854775807) = False := eq_false (by omega)
 have d4b : decide ((n : Int) > 9223372036854775807) = false := decide_eq_false (by omega)
 have d4c : (9223372036854775807 < (n : Int)) = False := eq_false (by omega)
 have d4d : decide (9223372036854775807 < (n : Int)) = false := decide_eq_false (by omega)
 have d5 : wrap64 (n : Int) = (n : Int) := by unfold wrap64; omega
 have d5b : IntKind.i64.wrap (n : Int) = (n : Int) := by rw [IntKind.wrap_i64]; omega
 clear hr0 hc0 h1 h2 h3
 go_enter Try.func78, Try.ntmps78
 go_wp2_with (first | ((with_reducible refine gC (f := 93) rfl ?_); refine gL (some 18) rfl rfl Try.func93 (by kernel_rfl) rfl #[.int .u64 1, .int .u64 (n : Int)] rfl (by first | rfl | (simp; done) | ((try simp only [sm1, sm2, sm3]); first | done | rfl)) ?_; refine (bits_Mul.calls 1 (n : Int) 0 (n : Int) _ HM.out).mono ?_; rintro e w2 ⟨rfl, ⟨md, rfl⟩⟩; refine ⟨_, rfl, ?_⟩; replace HB := As.mk (bT HB.out (bD (Below.refl _ _) md)); (try simp only [Act.put, sq1, sq2, sq3])) | ((with_reducible refine gD (N := 30) rfl ?_); refine Kd.R_make (w0 := w) (Kd.int .i64) w.heap.size 2 rfl (N := 30) rfl 35 _ _ rfl (n : Int) rfl rfl Try.underlying35 (.int .i64 0) 8 (by kernel_rfl) rfl (Nat.le_of_ble_eq_true rfl) (Nat.le_of_ble_eq_true rfl) (0 : Int) (ok := fun _ => True) (okp := fun _ => True) (by first | exact rfl | exact ⟨_, rfl⟩ | (constructor <;> rfl)) (fun _ hk => hk) trivial (by omega) (by have := HN2.out; omega) HB.out HB.out.size ?_; intro v30 w4 ho hb hg_ hnew_; have HR := As.mk ho; clear HB; have HB := As.mk hb; clear ho hb hg_ hnew_; (try simp only [Act.put, sq1, sq2, sq3])) | ((with_reducible refine gB (b := .copy) (xs := #[.tmp 31, .tmp 32]) rfl ?_); refine Kd.R_copy (enc := Value.int .i64) (h1 := fun _ => rfl) (0 : Int) (w0 := w) w.heap.size rfl (.tmp 31) (.tmp 32) 35 35 2 rfl Try.underlying35 (by kernel_rfl) v30 (List.replicate (n : Int).toNat (0 : Int)) [v] (some ad) 1 c0 (fun _ => True) rfl rfl HR.out (Kd.CB HX.out HB.out) HB.out HB.out.size ?_; intro w5 ho hb hg_; have HR2 := As.mk ho; clear HB HR; have HB := As.mk hb; clear ho hb hg_; (try simp only [Act.put, sq1, sq2, sq3])))
 have hmn : min 1 (List.replicate (n : Int).toNat (0 : Int)).length = 1 := by rw [List.length_replicate, Int.toNat_natCast]; have := HN1.out; omega
 rw [hmn] at HR2 ⊢
 have hlen : ([v].take 1 ++ (List.replicate (n : Int).toNat (0 : Int)).drop 1).length = n := by simp; have := HN1.out; omega
 have ho := Kd.own_of_R HR2.out
 rw [hlen] at ho
 rcases ho.2 with ⟨_, hx0⟩ | ⟨g, cap, cur, hv, hb, hh, hnc, hcm, hcs, htake⟩
 ·exact absurd hx0 (by have := HN1.out; omega)
 subst hv
 have HF := As.mk (show Fill w5 g n cap 1 v from ⟨cur, hh, by omega, by
  have e : (cur.toList.take (n * 1)).take 1 = [Value.int .i64 v] := by rw [htake]; rfl
  rw [List.take_take, show min 1 (n * 1) = 1 from by have := HN1.out; omega] at e
  rw [e]; rfl⟩)
 have HGB := As.mk hb
 have HNC := As.mk hnc
 have HCM := As.mk hcm
 clear ho hh hcs htake hlen hmn HR2 hb hnc hcm
 go_loopg [8] n (fun kq v8 w' => ∃ q : Nat, v8 = .int .i64 (q : Int) ∧ As (n ≤ kq + q ∧ q ≤ n ∧ 1 ≤ q) ∧ As (Below w.heap.size w w') ∧ As (Fill w' g n cap q v))
 case atStart => exact ⟨1, rfl, ⟨by have := HN1.out; omega⟩, HB, HF⟩
 case round =>
  clear HB HF
  obtain ⟨q, rfl, HQ, HB, HF⟩ := hrel
  by_cases hq : q < n
  ·have c5 : ((q : Int) < (n : Int)) = True := eq_true (by omega)
   have c5n : decide (q < n) = true := decide_eq_true hq
   have c5b : decide ((q : Int) < (n : Int)) = true := decide_eq_true (by omega)
   have c6 : (0 ≤ (q : Int)) = True := eq_true (by omega)
   have c7 : ((q : Int) ≤ (n : Int)) = True := eq_true (by omega)
   have c7n : (q ≤ n) = True := eq_true (by omega)
   have c8 : ((q : Int) ≤ (cap : Int)) = True := eq_true (by have := HNC.out; omega)
   have c8n : (q ≤ cap) = True := eq_true (by have := HNC.out; omega)
   have c9 : ((n : Int) ≤ (cap : Int)) = True := eq_true (by have := HNC.out; omega)
   have c9n : (n ≤ cap) = True := eq_true HNC.out
   have c10 : (cap = q) = False := eq_false (by have := HNC.out; omega)
   have c10b : (q = cap) = False := eq_false (by have := HNC.out; omega)
   obtain ⟨t, ht⟩ : ∃ t, t = min q (n - q) := ⟨_, rfl⟩
   have ht1 : 1 ≤ t ∧ q + t ≤ n := by have := HQ.out; omega
   have HT := As.mk ht
   have HT1 := As.mk ht1
   have c11 : wrap64 ((q : Int) + (t : Int)) = ((q + t : Nat) : Int) := by have := HN2.out; unfold wrap64; omega
   clear ht ht1
   have HQN := As.mk hq
   clear hq
   go_wp2
   have n0_ := As.mk (bT HB.out (bE (Below.refl _ _)))
   have n1_ := Fill.drew HF.out
   clear HB
   have HB := n0_
   clear n0_
   refine start_ (n := 10) (S := fun w' => True) (ds := []) #[false, false, false, false, false, false, false, false, false, false] (by kernel_rfl) rfl rfl trivial (fun hHeld => ?_)
   refine pure_ (i := 0) (N := some 38) (v := ?_) (a' := ?_) #[true, false, false, false, false, false, false, false, false, false] rfl rfl (by kernel_rfl) (fun _ _ _ h => h) (Or.inl ⟨by rfl, ?_⟩) ?_ ?_
   rotate_left
   ·intro w'
    go_simp
    with_reducible rfl
   rotate_left
   ·simp only [Act.put, sq1, sq2, sq3, i64_w, i32_w]
    rfl
   refine pure_ (i := 1) (N := some 39) (v := ?_) (a' := ?_) #[true, true, false, false, false, false, false, false, false, false] rfl rfl (by kernel_rfl) (fun _ _ _ h => h) (Or.inl ⟨by rfl, ?_⟩) ?_ ?_
   rotate_left
   ·intro w'
    go_simp
    with_reducible rfl
   rotate_left
   ·simp only [Act.put, sq1, sq2, sq3, i64_w, i32_w]
    rfl
   refine pure_ (i := 2) (N := some 40) (v := ?_) (a' := ?_) #[true, true, true, false, false, false, false, false, false, false] rfl rfl (by kernel_rfl) (fun _ _ _ h => h) (Or.inl ⟨by rfl, ?_⟩) ?_ ?_
   rotate_left
   ·intro w'
    go_simp
    with_reducible rfl
   rotate_left
   ·simp only [Act.put, sq1, sq2, sq3, i64_w, i32_w]
    rfl
   refine pure_ (i := 3) (N := some 41) (v := ?_) (a' := ?_) #[true, true, true, true, false, false, false, false, false, false] rfl rfl (by kernel_rfl) (fun _ _ _ h => h) (Or.inl ⟨by rfl, ?_⟩) ?_ ?_
   rotate_left
   ·intro w'
    go_simp
    with_reducible rfl
   rotate_left
   ·simp only [Act.put, sq1, sq2, sq3, i64_w, i32_w]
    rfl
   refine pure_ (i := 4) (N := some 42) (v := ?_) (a' := ?_) #[true, true, true, true, true, false, false, false, false, false] rfl rfl (by kernel_rfl) (fun _ _ _ h => h) (Or.inl ⟨by rfl, ?_⟩) ?_ ?_
   rotate_left
   ·intro w'
    go_simp
    with_reducible rfl
   rotate_left
   ·simp only [Act.put, sq1, sq2, sq3, i64_w, i32_w]
    rfl
   refine pure_ (i := 5) (N := some 43) (v := ?_) (a' := ?_) #[true, true, true, true, true, true, false, false, false, false] rfl rfl (by kernel_rfl) (fun _ _ _ h => h) (Or.inl ⟨by rfl, ?_⟩) ?_ ?_
   rotate_left
   ·intro w'
    go_simp
    with_reducible rfl
   rotate_left
   ·simp only [Act.put, sq1, sq2, sq3, i64_w, i32_w]
    rfl
   refine pure_ (i := 6) (N := some 44) (v := ?_) (a' := ?_) #[true, true, true, true, true, true, true, false, false, false] rfl rfl (by kernel_rfl) (fun _ _ _ h => h) (Or.inl ⟨by rfl, ?_⟩) ?_ ?_
   rotate_left
   ·intro w'
    go_simp
    with_reducible rfl
   rotate_left
   ·simp only [Act.put, sq1, sq2, sq3, i64_w, i32_w]
    rfl
   refine one_ (i := 7) (N := some 45) #[true, true, true, true, true, true, true, true, false, false] rfl rfl (by kernel_rfl) (by decide) (fun K hK => ?_)
   refine value_ rfl rfl (copy_run (.tmp 41) (.tmp 44) 35 35 rfl (.slice (some ⟨g, q, none⟩) (n - q) (cap - q)) (.slice (some ⟨g, 0, none⟩) q cap) (.int .i64 (t : Int)) rfl rfl (Fill.copy n1_ HT.out (Nat.le_of_lt HQN.out) HNC.out Try.underlying35 (by kernel_rfl))) ?_
   have n2_ := As.mk (Fill.step n1_ (t := t) (by have := HT1.out; have := HNC.out; omega))
   have n0_ := As.mk (Go.Proofs.Ytbamjjaamjfnaaa.RowLaw.below_setCells HGB.out (List.replicate t (Value.int .i64 v)) q _ HB.out)
   clear HB HF n1_
   have HB := n0_
   have HF := n2_
   clear n0_ n2_
   refine hK.out _ _ trivial (fun hHeld => ?_)
   clear hK K
   refine norm_ (a' := ?_) ?_ ?_
   rotate_left
   ·show Act.put _ (some 45) _ = _
    simp only [Act.put, sq1, sq2, sq3, i64_w, i32_w]
    rfl
   refine pure_ (i := 8) (N := some 46) (v := ?_) (a' := ?_) #[true, true, true, true, true, true, true, true, true, false] rfl rfl (by kernel_rfl) (fun _ _ _ h => h) (Or.inl ⟨by rfl, ?_⟩) ?_ ?_
   rotate_left
   ·intro w'
    go_simp
    with_reducible rfl
   rotate_left
   ·simp only [Act.put, sq1, sq2, sq3, i64_w, i32_w]
    rfl
   refine pure_ (i := 9) (N := some 8) (v := ?_) (a' := ?_) #[true, true, true, true, true, true, true, true, true, true] rfl rfl (by kernel_rfl) (fun _ _ _ h => h) (Or.inl ⟨by rfl, ?_⟩) ?_ ?_
   rotate_left
   ·intro w'
    go_simp
    with_reducible rfl
   rotate_left
   ·simp only [Act.put, sq1, sq2, sq3, i64_w, i32_w]
    rfl
   refine done_ (by kernel_rfl) ?_
   go_wp2
   go_roundg (n - (q + t))
   case measure => have := HT1.out; have := HQ.out; have := HQN.out; omega
   case rel => exact ⟨q + t, by first | rfl | rw [c11], ⟨by have := HT1.out; have := HQ.out; omega⟩, HB, HF⟩
  ·obtain rfl : q = n := by have := HQ.out; omega
   have c5 : ((q : Int) < (q : Int)) = False := eq_false (by omega)
   clear hq
   go_wp2
   go_ret
   refine ⟨_, rfl, Kd.R_of_own (enc := Value.int .i64) (h1 := fun _ => rfl) ?_ (fun _ _ => trivial), HB.out⟩
   have e : List.replicate (q : Int).toNat ([v].getD 0 0) = List.replicate q v := by rw [Int.toNat_natCast]; rfl
   rw [e, List.length_replicate]
   exact Fill.own HF.out HGB.out HNC.out HCM.out
def F31.f (l0 : List Int) : Option (List Int) := if 0 < l0.length then (if l0.length ≤ 1000000 then (some l0) else (none)) else (none)
set_option maxHeartbeats 4000000 in
set_option maxRecDepth 100000 in
theorem F31.calls (A0 : Option Addr) (c0 : Nat) (l0 : List Int) (r : List Int) (w : World) (hr0 : Kd.C (Kd.int .i64) w A0 l0.length l0) (hc0 : l0.length ≤ c0) (h : F31.f l0 = some r) :
  Calls Try.prog 79 #[.slice A0 l0.length c0] w fun e w' => ∃ v0_ : Value, e = .returned (v0_) ∧ Kd.R (Kd.int .i64) 2 w' w.heap.size (fun _ => True) v0_ r ∧ Below w.heap.size w w' := by
 unfold F31.f at h
 by_cases h1 : 0 < l0.length
 ·rw [if_pos h1] at h
  by_cases h2 : l0.length ≤ 1000000
  ·rw [if_pos h2] at h
   obtain rfl := Option.some.inj h
   obtain ⟨ad, rfl, _⟩ := hr0.2.2 h1
   have HR0 := As.mk hr0
   have HL := As.mk h2
   have HB := As.mk (Below.refl w.heap.size w)
   have q22 : ∀ (w : World) (a : Option Addr) (n c n' c' : Nat), (binOp .eql 35 (.slice a n c) (.slice none n' c')).run Try.prog w = .ok (.bool a.isNone) w := fun w a n c n' c' => Go.Lib.run_eql_slice_nil w _ _ a n c n' c' Try.underlying35
   clear hr0 hc0 h h1 h2
   go_enter Try.func79, Try.ntmps79
   go_wp2_with (first | ((with_reducible refine gD (N := 5) rfl ?_); refine Kd.R_lit (Kd.int .i64) w.heap.size 2 ?hg (N := 5) ?hd (xs := ([] : List Int)) (inner := []) (ok := fun _ => True) (okp := fun _ => True) ?hr ?hp (fun _ hk => hk) trivial HB.out HB.out.size (by simp) ?_; (case hd => rfl); (case hg => rfl); (case hr => first | (go_simp; done) | (go_simp; rfl)); (case hp => exact Reps.none _ _); intro v1 w5 ho hb hg_ hnew_; have HR := As.mk ho; replace HB := As.mk hb; clear ho hb hg_ hnew_; (try simp only [Act.put, sq1, sq2, sq3])) | ((with_reducible refine gB (b := .append) (xs := #[.tmp 5, .tmp 6]) rfl ?_); at_builtin; refine Kd.R_append_row (Value.int .i64) (0 : Int) (h1 := fun _ => rfl) (w0 := w) w.heap.size rfl (.tmp 5) (.tmp 6) 35 2 (.int .i64 0) 8 rfl Try.underlying35 (by kernel_rfl) rfl (Nat.le_of_ble_eq_true rfl) v1 [] l0 (some ad) l0.length c0 (fun _ => True) rfl rfl (fun _ _ => trivial) HR.out (Kd.CB HR0.out HB.out) HB.out HB.out.size (by have := HL.out; simp only [List.length_nil]; omega) ?_; intro v2 w6 ho2 hb2 hg2 hat2; have HR2 := As.mk ho2; replace HB := As.mk hb2; clear ho2 hb2 hg2 hat2; (try simp only [Act.put, sq1, sq2, sq3])))
   go_ret
   exact ⟨_, rfl, HR2.out, HB.out⟩
  ·rw [if_neg h2] at h
   cases h
 ·rw [if_neg h1] at h
  cases h
end Go.Proofs.Ytbamjjaamjfnaaa.PFnExactNewMatcher
