/- Walks of printed functions. Conditions: none beyond each statement. -/
import Derived.Test.YtbamjjaamjfnaaaPFnExactNewMatcherx0
import Derived.Test.YtbamjjaamjfnaaaPFnExactNewMatcherx3
namespace Go.Proofs.Ytbamjjaamjfnaaa.PFnExactNewMatcher
open Go.RowKit Go.Proofs.YtbamjjaamjfnaaaW.PrintWords Go.Proofs.YtbamjjaamjfnaaaW.PrintLast Go.Proofs.YtbamjjaamjfnaaaW.PrintMore
set_option maxHeartbeats 8000000
set_option maxRecDepth 100000
attribute [local go_sem] max2_int min2_int max_two min_two max_three min_three max_four min_four   -- for this text's walks alone
set_option linter.unusedVariables false
set_option linter.unusedSimpArgs false
def F17.l0 : Nat → Int → Int → Int → Int → List (S80) → List (S77) → Option (Int × Int)
 | 0, _, _, _, _, _, _ => none
 | k + 1, x1, x6, x7, x8, x174000, x174001 => if x8 < (x174001.length : Int) then (if 0 ≤ x8 then (if ((rd_T77 x174001 x8).f1) ≤ x1 then (F17.l0 k x1 ((rd_T77 x174001 x8).f1) x7 (wrap64 (x8 + 1)) x174000 x174001) else (some (x6, wrap64 (((rd_T77 x174001 x8).f1) - 1)))) else (none)) else (some (x6, x7))
def F17.f (k : Nat) (l0_0 : List (S80)) (l0_1 : List (S77)) (a1 : Int) : Option (Int × Int) := F17.l0 k a1 0 (wrap64 ((l0_0.length : Int) - 1)) 0 l0_0 l0_1
theorem F17.mono_l : ∀ k, (∀ y0 y1 y2 y3 y4 y5, LeO (F17.l0 k y0 y1 y2 y3 y4 y5) (F17.l0 (k + 1) y0 y1 y2 y3 y4 y5))
 | 0 => fun _ _ _ _ _ _ r h => by simp [F17.l0] at h
 | k + 1 => by
  have ih0 := F17.mono_l k
  ·intro y0 y1 y2 y3 y4 y5
   unfold F17.l0
   repeat' with_reducible first
   | exact ih0 _ _ _ _ _ _
   | exact LeO.refl _
   | exact LeO.none _
   | refine LeO.ite ?_ ?_
   | refine LeO.bind ?_ (fun _ => ?_)
theorem F17.mono : ∀ a0 a1 a2 k, LeO (F17.f k a0 a1 a2) (F17.f (k + 1) a0 a1 a2) := by
 intro a0 a1 a2 k
 have ih0 := F17.mono_l k
 unfold F17.f
 repeat' with_reducible first
   | exact ih0 _ _ _ _ _ _
   | exact LeO.refl _
   | exact LeO.none _
   | refine LeO.ite ?_ ?_
   | refine LeO.bind ?_ (fun _ => ?_)
theorem F17.calls (k : Nat) (A0_0 : Option Addr) (c0_0 : Nat) (l0_0 : List (S80)) (A0_1 : Option Addr) (c0_1 : Nat) (l0_1 : List (S77)) (a1 : Int) (r1 : Int) (r2 : Int) (w : World) (hr0_0 : Kd.C k80 w A0_0 l0_0.length l0_0) (hc0_0 : l0_0.length ≤ c0_0) (hr0_1 : Kd.C k77 w A0_1 l0_1.length l0_1) (hc0_1 : l0_1.length ≤ c0_1) (h : F17.f k l0_0 l0_1 a1 = some (r1, r2)) :
  Calls Try.prog 48 #[.agg #[.slice A0_0 l0_0.length c0_0, .slice A0_1 l0_1.length c0_1], .int .i64 a1] w fun e w' => e = .returned (.tuple #[.int .i64 r1, .int .i64 r2]) ∧ Below w.heap.size w w' := by
 have hu31 := Try.underlying31
 have HR0_0 := As.mk hr0_0
 have HC0_0 := As.mk hc0_0
 clear hr0_0 hc0_0
 have HR0_1 := As.mk hr0_1
 have HC0_1 := As.mk hc0_1
 clear hr0_1 hc0_1
 have HB := As.mk (Below.refl w.heap.size w)
 have H : (F17.l0 k a1 0 (wrap64 ((l0_0.length : Int) - 1)) 0 l0_0 l0_1) = some (r1, r2) := h
 clear h
 have H' := As.mk H
 clear H
 go_enter Try.func48, Try.ntmps48
 go_wp2_with (first | ((with_reducible refine gD (N := 2) rfl ?_); refine bX ?hg (N := 2) ?hd (cs := #[.slice A0_0 l0_0.length c0_0, .slice A0_1 l0_1.length c0_1]) (t := 31) ?hr ?_; (case hd => rfl); (case hg => rfl); (case hr => first | (go_simp; done) | (go_simp; rfl)); intro gb173 hg w3 hbox hb; have BK173 := As.mk (hbox); have GW173 := As.mk ((by rw [hg]; exact (bZ (by repeat (first | (with_reducible first | exact HB.out | apply bA | apply bD | apply bE) | exact HB.out))) : w.heap.size ≤ gb173)); have GE173 := GW173; replace HB := As.mk (bT (by repeat (first | (with_reducible first | exact HB.out | apply bA | apply bD | apply bE) | exact HB.out)) hb); clear hb hbox hg; have cz_ := c2_0 (w := w3) (g := gb173) BK173.out; obtain ⟨hcz4_0, hcz4_1⟩ := cz_; have hfz4 := kF BK173.out))
 go_loopg [6, 8] k (fun kq v6 v8 w' => ∃ (x6_1 : Int) (x8_1 : Int), v6 = .int .i64 x6_1 ∧ v8 = .int .i64 x8_1 ∧ As (F17.l0 kq a1 x6_1 (wrap64 ((l0_0.length : Int) - 1)) x8_1 l0_0 l0_1 = some (r1, r2)) ∧ As (kq ≤ k) ∧ As (w'.heap[gb173]? = some (.cells #[(.slice A0_0 l0_0.length c0_0), (.slice A0_1 l0_1.length c0_1)] 31 (0, 0))) ∧ As (Below w.heap.size w w'))
 case atStart => exact ⟨(0), (0), (by first | rfl | (simp; done) | (simp [*]; done)), (by first | rfl | (simp; done) | (simp [*]; done)), H', ⟨Nat.le_refl _⟩, ⟨by (with_reducible repeat (first | refine kD ?_ _ | refine kE ?_ | refine kA ?_ _)); exact BK173.out⟩, ⟨by repeat (first | (with_reducible first | exact HB.out | apply bA | apply bD | apply bE | refine bS ?_ GE173.out) | exact HB.out)⟩⟩
 case round =>
  clear H'
  try clear hcz4_0
  try clear hcz4_1
  try clear hfz4
  obtain ⟨x6_1, x8_1, rfl, rfl, HA, HK1, BK173, HB⟩ := hrel
  cases gk with
  | zero => exact absurd HA.out (by simp [F17.l0])
  | succ k1 =>
   have H := HA.out
   clear HA
   simp only [F17.l0] at H
   by_cases c5 : x8_1 < (l0_1.length : Int)
   ·rw [if_pos c5] at H
    have c5b0 : decide (x8_1 < (l0_1.length : Int)) = true := decide_eq_true c5
    clear c5
    by_cases c6 : 0 ≤ x8_1
    ·rw [if_pos c6] at H
     have c6b0 : decide (0 ≤ x8_1) = true := decide_eq_true c6
     clear c6
     by_cases c7 : ((rd_T77 l0_1 x8_1).f1) ≤ a1
     ·rw [if_pos c7] at H
      have c7b0 : decide (((rd_T77 l0_1 x8_1).f1) ≤ a1) = true := decide_eq_true c7
      clear c7
      have H' := As.mk H
      clear H
      have cz_ := c2_0 (w := wr) (g := gb173) BK173.out; obtain ⟨hcz8_0, hcz8_1⟩ := cz_
      have hfz8 := kF BK173.out
      have p174 : 0 ≤ (x8_1 : Int) := of_decide_eq_true (by first | (with_reducible assumption) | assumption)
      have q174 : x8_1 < (l0_1.length : Int) := of_decide_eq_true (by first | (with_reducible assumption) | assumption)
      obtain ⟨ad174, e174, hx174_0, hx174_1⟩ := at_T77 HR0_1.out x8_1 p174 q174
      cases e174
      replace hx174_0 := (HB.out.cell (World.block_lt_of_cell? w _ hx174_0)).trans hx174_0
      replace hx174_1 := (HB.out.cell (World.block_lt_of_cell? w _ hx174_1)).trans hx174_1
      replace p174 := eq_true p174
      replace q174 := eq_true q174
      have p175 : 0 ≤ (x8_1 : Int) := of_decide_eq_true (by first | (with_reducible assumption) | assumption)
      have q175 : x8_1 < (l0_1.length : Int) := of_decide_eq_true (by first | (with_reducible assumption) | assumption)
      obtain ⟨ad175, e175, hx175_0, hx175_1⟩ := at_T77 HR0_1.out x8_1 p175 q175
      obtain rfl : ad174 = ad175 := (by injection e175)
      replace hx175_0 := (HB.out.cell (World.block_lt_of_cell? w _ hx175_0)).trans hx175_0
      replace hx175_1 := (HB.out.cell (World.block_lt_of_cell? w _ hx175_1)).trans hx175_1
      replace p175 := eq_true p175
      replace q175 := eq_true q175
      go_wp2
      go_roundg k1
      case measure => have := HK1.out; omega
      case rel => exact ⟨((rd_T77 l0_1 x8_1).f1), (wrap64 (x8_1 + 1)), (by first | rfl | (simp; done) | (simp [*]; done)), (by first | rfl | (simp; done) | (simp [*]; done)), H', ⟨by have := HK1.out; omega⟩, ⟨by (with_reducible repeat (first | refine kD ?_ _ | refine kE ?_ | refine kA ?_ _)); exact BK173.out⟩, ⟨by repeat (first | (with_reducible first | exact HB.out | apply bA | apply bD | apply bE | refine bS ?_ GE173.out) | exact HB.out)⟩⟩
     ·rw [if_neg c7] at H
      have c7b0 : decide (((rd_T77 l0_1 x8_1).f1) ≤ a1) = false := decide_eq_false c7
      clear c7
      simp only [Option.some.injEq, Prod.mk.injEq] at H
      obtain ⟨rfl, rfl⟩ := H
      have cz_ := c2_0 (w := wr) (g := gb173) BK173.out; obtain ⟨hcz9_0, hcz9_1⟩ := cz_
      have hfz9 := kF BK173.out
      have p174 : 0 ≤ (x8_1 : Int) := of_decide_eq_true (by first | (with_reducible assumption) | assumption)
      have q174 : x8_1 < (l0_1.length : Int) := of_decide_eq_true (by first | (with_reducible assumption) | assumption)
      obtain ⟨ad174, e174, hx174_0, hx174_1⟩ := at_T77 HR0_1.out x8_1 p174 q174
      cases e174
      replace hx174_0 := (HB.out.cell (World.block_lt_of_cell? w _ hx174_0)).trans hx174_0
      replace hx174_1 := (HB.out.cell (World.block_lt_of_cell? w _ hx174_1)).trans hx174_1
      replace p174 := eq_true p174
      replace q174 := eq_true q174
      have p176 : 0 ≤ (x8_1 : Int) := of_decide_eq_true (by first | (with_reducible assumption) | assumption)
      have q176 : x8_1 < (l0_1.length : Int) := of_decide_eq_true (by first | (with_reducible assumption) | assumption)
      obtain ⟨ad176, e176, hx176_0, hx176_1⟩ := at_T77 HR0_1.out x8_1 p176 q176
      obtain rfl : ad174 = ad176 := (by injection e176)
      replace hx176_0 := (HB.out.cell (World.block_lt_of_cell? w _ hx176_0)).trans hx176_0
      replace hx176_1 := (HB.out.cell (World.block_lt_of_cell? w _ hx176_1)).trans hx176_1
      replace p176 := eq_true p176
      replace q176 := eq_true q176
      go_wp2
      repeat (go_quiet (fail); try go_wp2)
      go_ret2
      exact ⟨by first | rfl | (simp [eN, eS] <;> rfl) | (simp [*, eN, eS] <;> rfl), by repeat (first | (with_reducible first | exact HB.out | apply bA | apply bD | apply bE | refine bS ?_ GE173.out) | exact HB.out)⟩
    ·rw [if_neg c6] at H
     exact absurd H (by simp)
   ·rw [if_neg c5] at H
    have c5b0 : decide (x8_1 < (l0_1.length : Int)) = false := decide_eq_false c5
    clear c5
    simp only [Option.some.injEq, Prod.mk.injEq] at H
    obtain ⟨rfl, rfl⟩ := H
    have cz_ := c2_0 (w := wr) (g := gb173) BK173.out; obtain ⟨hcz10_0, hcz10_1⟩ := cz_
    have hfz10 := kF BK173.out
    go_wp2
    go_ret2
    exact ⟨by first | rfl | (simp [eN, eS] <;> rfl) | (simp [*, eN, eS] <;> rfl), by repeat (first | (with_reducible first | exact HB.out | apply bA | apply bD | apply bE | refine bS ?_ GE173.out) | exact HB.out)⟩
def spec_l13Leaf.f (a0 : Int) : Option (Bool) := (F24.f a0 1 17).bind fun t177 => (if t177 = true then (some true) else (if a0 = 23 then (some true) else (some (a0 == 24))))
theorem spec_l13Leaf.calls (a0 : Int) (r : Bool) (w : World) (h : spec_l13Leaf.f a0 = some r) :
  Calls Try.prog 66 #[.int .i64 a0] w fun e w' => e = .returned (.bool r) ∧ D0 w w' := by
 have H : ((F24.f a0 1 17).bind fun t177 => (if t177 = true then (some true) else (if a0 = 23 then (some true) else (some (a0 == 24))))) = some r := h
 clear h
 replace H := Option.bind_eq_some_iff.mp H
 obtain ⟨t177, A20, H⟩ := H
 replace H : (if t177 = true then (some true) else (if a0 = 23 then (some true) else (some (a0 == 24)))) = some r := H
 have A2 := As.mk A20
 clear A20
 by_cases c3 : t177 = true
 ·subst c3
  replace H : (some true) = some r := by rw [if_pos rfl] at H; exact H
  obtain rfl := Option.some.inj H
  go_enter Try.func66, Try.ntmps66
  go_wp2_with (first | ((with_reducible refine gC (f := 46) rfl ?_); refine gL (some 4) rfl rfl Try.func46 (by kernel_rfl) rfl #[.int .i64 a0, .int .i64 1, .int .i64 17] rfl (by (try simp only [sm1, sm2, sm3]); first | done | rfl) ?_; (with_reducible refine (F24.calls a0 1 17 true _ A2.out).mono ?_); rintro e w' ⟨rfl, ⟨nd, rfl⟩⟩; refine ⟨_, rfl, ?_⟩))
  go_ret
  exact ⟨by first | rfl | (simp; done) | (simp [*]; done), by repeat (first | exact D0.refl _ | apply D0.step)⟩
 ·replace c3 := Bool.eq_false_iff.mpr c3
  subst c3
  replace H : (if a0 = 23 then (some true) else (some (a0 == 24))) = some r := by rw [if_neg (show ¬ (false = true) by decide)] at H; exact H
  by_cases c4 : a0 = 23
  ·rw [if_pos c4] at H
   have c4b0 : (a0 == 23) = true := beq_iff_eq.mpr c4
   have c4b1 : (a0 != 23) = false := bne_eq_false_iff_eq.mpr c4
   clear c4
   obtain rfl := Option.some.inj H
   go_enter Try.func66, Try.ntmps66
   go_wp2_with (first | ((with_reducible refine gC (f := 46) rfl ?_); refine gL (some 4) rfl rfl Try.func46 (by kernel_rfl) rfl #[.int .i64 a0, .int .i64 1, .int .i64 17] rfl (by (try simp only [sm1, sm2, sm3]); first | done | rfl) ?_; (with_reducible refine (F24.calls a0 1 17 false _ A2.out).mono ?_); rintro e w' ⟨rfl, ⟨nd, rfl⟩⟩; refine ⟨_, rfl, ?_⟩))
   go_ret
   exact ⟨by first | rfl | (simp; done) | (simp [*]; done), by repeat (first | exact D0.refl _ | apply D0.step)⟩
  ·rw [if_neg c4] at H
   have c4b0 : (a0 == 23) = false := beq_eq_false_iff_ne.mpr c4
   have c4b1 : (a0 != 23) = true := bne_iff_ne.mpr c4
   obtain rfl := Option.some.inj H
   go_enter Try.func66, Try.ntmps66
   go_wp2_with (first | ((with_reducible refine gC (f := 46) rfl ?_); refine gL (some 4) rfl rfl Try.func46 (by kernel_rfl) rfl #[.int .i64 a0, .int .i64 1, .int .i64 17] rfl (by (try simp only [sm1, sm2, sm3]); first | done | rfl) ?_; (with_reducible refine (F24.calls a0 1 17 false _ A2.out).mono ?_); rintro e w' ⟨rfl, ⟨nd, rfl⟩⟩; refine ⟨_, rfl, ?_⟩))
   go_ret
   exact ⟨by first | rfl | (simp; done) | (simp [*]; done), by repeat (first | exact D0.refl _ | apply D0.step)⟩
def spec_l11Word.f (a0 : Int) : Option (ByteArray × ByteArray) := if a0 = 2 then (some ((⟨#[97, 110, 121]⟩ : ByteArray), (⟨#[115]⟩ : ByteArray))) else (if a0 = 3 then (some ((⟨#[110, 111, 116, 97, 110, 121]⟩ : ByteArray), (⟨#[115]⟩ : ByteArray))) else (if a0 = 4 then (some ((⟨#[115, 112, 97, 110]⟩ : ByteArray), (⟨#[115]⟩ : ByteArray))) else (if a0 = 5 then (some ((⟨#[98, 114, 101, 97, 107]⟩ : ByteArray), (⟨#[115]⟩ : ByteArray))) else (if a0 = 6 then (some ((⟨#[108, 101, 110]⟩ : ByteArray), (⟨#[110]⟩ : ByteArray))) else (if a0 = 7 then (some ((⟨#[112, 111, 115]⟩ : ByteArray), (⟨#[110]⟩ : ByteArray))) else (if a0 = 8 then (some ((⟨#[114, 112, 111, 115]⟩ : ByteArray), (⟨#[110]⟩ : ByteArray))) else (if a0 = 9 then (some ((⟨#[116, 97, 98]⟩ : ByteArray), (⟨#[110]⟩ : ByteArray))) else (if a0 = 10 then (some ((⟨#[114, 116, 97, 98]⟩ : ByteArray), (⟨#[110]⟩ : ByteArray))) else (if a0 = 11 then (some ((⟨#[114, 101, 109]⟩ : ByteArray), (⟨#[]⟩ : ByteArray))) else (if a0 = 12 then (some ((⟨#[97, 114, 98]⟩ : ByteArray), (⟨#[]⟩ : ByteArray))) else (if a0 = 13 then (some ((⟨#[98, 97, 108]⟩ : ByteArray), (⟨#[]⟩ : ByteArray))) else (if a0 = 14 then (some ((⟨#[102, 101, 110, 99, 101]⟩ : ByteArray), (⟨#[]⟩ : ByteArray))) else (if a0 = 15 then (some ((⟨#[97, 98, 111, 114, 116]⟩ : ByteArray), (⟨#[]⟩ : ByteArray))) else (if a0 = 16 then (some ((⟨#[102, 97, 105, 108]⟩ : ByteArray), (⟨#[]⟩ : ByteArray))) else (if a0 = 17 then (some ((⟨#[115, 117, 99, 99, 101, 101, 100]⟩ : ByteArray), (⟨#[]⟩ : ByteArray))) else (if a0 = 18 then (some ((⟨#[97, 108, 116]⟩ : ByteArray), (⟨#[112, 112]⟩ : ByteArray))) else (if a0 = 19 then (some ((⟨#[99, 97, 116]⟩ : ByteArray), (⟨#[112, 112]⟩ : ByteArray))) else (if a0 = 20 then (some ((⟨#[97, 114, 98, 110, 111]⟩ : ByteArray), (⟨#[112]⟩ : ByteArray))) else (if a0 = 21 then (some ((⟨#[99, 111, 110, 100]⟩ : ByteArray), (⟨#[112, 120]⟩ : ByteArray))) else (if a0 = 22 then (some ((⟨#[110, 111, 119]⟩ : ByteArray), (⟨#[112, 120]⟩ : ByteArray))) else (if a0 = 23 then (some ((⟨#[99, 117, 114, 115, 111, 114]⟩ : ByteArray), (⟨#[120]⟩ : ByteArray))) else (if a0 = 24 then (some ((⟨#[100, 101, 102, 101, 114]⟩ : ByteArray), (⟨#[120]⟩ : ByteArray))) else (some ((⟨#[]⟩ : ByteArray), (⟨#[]⟩ : ByteArray)))))))))))))))))))))))))
theorem spec_l11Word.calls (a0 : Int) (r1 : ByteArray) (r2 : ByteArray) (w : World) (h : spec_l11Word.f a0 = some (r1, r2)) :
  Calls Try.prog 94 #[.int .i64 a0] w fun e w' => e = .returned (.tuple #[.string r1, .string r2]) ∧ D0 w w' := by
 have H : (if a0 = 2 then (some ((⟨#[97, 110, 121]⟩ : ByteArray), (⟨#[115]⟩ : ByteArray))) else (if a0 = 3 then (some ((⟨#[110, 111, 116, 97, 110, 121]⟩ : ByteArray), (⟨#[115]⟩ : ByteArray))) else (if a0 = 4 then (some ((⟨#[115, 112, 97, 110]⟩ : ByteArray), (⟨#[115]⟩ : ByteArray))) else (if a0 = 5 then (some ((⟨#[98, 114, 101, 97, 107]⟩ : ByteArray), (⟨#[115]⟩ : ByteArray))) else (if a0 = 6 then (some ((⟨#[108, 101, 110]⟩ : ByteArray), (⟨#[110]⟩ : ByteArray))) else (if a0 = 7 then (some ((⟨#[112, 111, 115]⟩ : ByteArray), (⟨#[110]⟩ : ByteArray))) else (if a0 = 8 then (some ((⟨#[114, 112, 111, 115]⟩ : ByteArray), (⟨#[110]⟩ : ByteArray))) else (if a0 = 9 then (some ((⟨#[116, 97, 98]⟩ : ByteArray), (⟨#[110]⟩ : ByteArray))) else (if a0 = 10 then (some ((⟨#[114, 116, 97, 98]⟩ : ByteArray), (⟨#[110]⟩ : ByteArray))) else (if a0 = 11 then (some ((⟨#[114, 101, 109]⟩ : ByteArray), (⟨#[]⟩ : ByteArray))) else (if a0 = 12 then (some ((⟨#[97, 114, 98]⟩ : ByteArray), (⟨#[]⟩ : ByteArray))) else (if a0 = 13 then (some ((⟨#[98, 97, 108]⟩ : ByteArray), (⟨#[]⟩ : ByteArray))) else (if a0 = 14 then (some ((⟨#[102, 101, 110, 99, 101]⟩ : ByteArray), (⟨#[]⟩ : ByteArray))) else (if a0 = 15 then (some ((⟨#[97, 98, 111, 114, 116]⟩ : ByteArray), (⟨#[]⟩ : ByteArray))) else (if a0 = 16 then (some ((⟨#[102, 97, 105, 108]⟩ : ByteArray), (⟨#[]⟩ : ByteArray))) else (if a0 = 17 then (some ((⟨#[115, 117, 99, 99, 101, 101, 100]⟩ : ByteArray), (⟨#[]⟩ : ByteArray))) else (if a0 = 18 then (some ((⟨#[97, 108, 116]⟩ : ByteArray), (⟨#[112, 112]⟩ : ByteArray))) else (if a0 = 19 then (some ((⟨#[99, 97, 116]⟩ : ByteArray), (⟨#[112, 112]⟩ : ByteArray))) else (if a0 = 20 then (some ((⟨#[97, 114, 98, 110, 111]⟩ : ByteArray), (⟨#[112]⟩ : ByteArray))) else (if a0 = 21 then (some ((⟨#[99, 111, 110, 100]⟩ : ByteArray), (⟨#[112, 120]⟩ : ByteArray))) else (if a0 = 22 then (some ((⟨#[110, 111, 119]⟩ : ByteArray), (⟨#[112, 120]⟩ : ByteArray))) else (if a0 = 23 then (some ((⟨#[99, 117, 114, 115, 111, 114]⟩ : ByteArray), (⟨#[120]⟩ : ByteArray))) else (if a0 = 24 then (some ((⟨#[100, 101, 102, 101, 114]⟩ : ByteArray), (⟨#[120]⟩ : ByteArray))) else (some ((⟨#[]⟩ : ByteArray), (⟨#[]⟩ : ByteArray)))))))))))))))))))))))))) = some (r1, r2) := h
 clear h
 by_cases c2 : a0 = 2
 ·rw [if_pos c2] at H
  have c2b0 : (a0 == 2) = true := beq_iff_eq.mpr c2
  have c2b1 : (a0 != 2) = false := bne_eq_false_iff_eq.mpr c2
  clear c2
  simp only [Option.some.injEq, Prod.mk.injEq] at H
  obtain ⟨rfl, rfl⟩ := H
  go_enter Try.func94, Try.ntmps94
  go_wp2
  go_ret2
  exact ⟨by first | rfl | (simp; done) | (simp [*]; done), by repeat (first | exact D0.refl _ | apply D0.step)⟩
 ·rw [if_neg c2] at H
  have c2b0 : (a0 == 2) = false := beq_eq_false_iff_ne.mpr c2
  have c2b1 : (a0 != 2) = true := bne_iff_ne.mpr c2
  by_cases c3 : a0 = 3
  ·rw [if_pos c3] at H
   have c3b0 : (a0 == 3) = true := beq_iff_eq.mpr c3
   have c3b1 : (a0 != 3) = false := bne_eq_false_iff_eq.mpr c3
   clear c3
   simp only [Option.some.injEq, Prod.mk.injEq] at H
   obtain ⟨rfl, rfl⟩ := H
   go_enter Try.func94, Try.ntmps94
   go_wp2
   go_ret2
   exact ⟨by first | rfl | (simp; done) | (simp [*]; done), by repeat (first | exact D0.refl _ | apply D0.step)⟩
  ·rw [if_neg c3] at H
   have c3b0 : (a0 == 3) = false := beq_eq_false_iff_ne.mpr c3
   have c3b1 : (a0 != 3) = true := bne_iff_ne.mpr c3
   by_cases c4 : a0 = 4
   ·rw [if_pos c4] at H
    have c4b0 : (a0 == 4) = true := beq_iff_eq.mpr c4
    have c4b1 : (a0 != 4) = false := bne_eq_false_iff_eq.mpr c4
    clear c4
    simp only [Option.some.injEq, Prod.mk.injEq] at H
    obtain ⟨rfl, rfl⟩ := H
    go_enter Try.func94, Try.ntmps94
    go_wp2
    go_ret2
    exact ⟨by first | rfl | (simp; done) | (simp [*]; done), by repeat (first | exact D0.refl _ | apply D0.step)⟩
   ·rw [if_neg c4] at H
    have c4b0 : (a0 == 4) = false := beq_eq_false_iff_ne.mpr c4
    have c4b1 : (a0 != 4) = true := bne_iff_ne.mpr c4
    by_cases c5 : a0 = 5
    ·rw [if_pos c5] at H
     have c5b0 : (a0 == 5) = true := beq_iff_eq.mpr c5
     have c5b1 : (a0 != 5) = false := bne_eq_false_iff_eq.mpr c5
     clear c5
     simp only [Option.some.injEq, Prod.mk.injEq] at H
     obtain ⟨rfl, rfl⟩ := H
     go_enter Try.func94, Try.ntmps94
     go_wp2
     go_ret2
     exact ⟨by first | rfl | (simp; done) | (simp [*]; done), by repeat (first | exact D0.refl _ | apply D0.step)⟩
    ·rw [if_neg c5] at H
     have c5b0 : (a0 == 5) = false := beq_eq_false_iff_ne.mpr c5
     have c5b1 : (a0 != 5) = true := bne_iff_ne.mpr c5
     by_cases c6 : a0 = 6
     ·rw [if_pos c6] at H
      have c6b0 : (a0 == 6) = true := beq_iff_eq.mpr c6
      have c6b1 : (a0 != 6) = false := bne_eq_false_iff_eq.mpr c6
      clear c6
      simp only [Option.some.injEq, Prod.mk.injEq] at H
      obtain ⟨rfl, rfl⟩ := H
      go_enter Try.func94, Try.ntmps94
      go_wp2
      go_ret2
      exact ⟨by first | rfl | (simp; done) | (simp [*]; done), by repeat (first | exact D0.refl _ | apply D0.step)⟩
     ·rw [if_neg c6] at H
      have c6b0 : (a0 == 6) = false := beq_eq_false_iff_ne.mpr c6
      have c6b1 : (a0 != 6) = true := bne_iff_ne.mpr c6
      by_cases c7 : a0 = 7
      ·rw [if_pos c7] at H
       have c7b0 : (a0 == 7) = true := beq_iff_eq.mpr c7
       have c7b1 : (a0 != 7) = false := bne_eq_false_iff_eq.mpr c7
       clear c7
       simp only [Option.some.injEq, Prod.mk.injEq] at H
       obtain ⟨rfl, rfl⟩ := H
       go_enter Try.func94, Try.ntmps94
       go_wp2
       go_ret2
       exact ⟨by first | rfl | (simp; done) | (simp [*]; done), by repeat (first | exact D0.refl _ | apply D0.step)⟩
      ·rw [if_neg c7] at H
       have c7b0 : (a0 == 7) = false := beq_eq_false_iff_ne.mpr c7
       have c7b1 : (a0 != 7) = true := bne_iff_ne.mpr c7
       by_cases c8 : a0 = 8
       ·rw [if_pos c8] at H
        have c8b0 : (a0 == 8) = true := beq_iff_eq.mpr c8
        have c8b1 : (a0 != 8) = false := bne_eq_false_iff_eq.mpr c8
        clear c8
        simp only [Option.some.injEq, Prod.mk.injEq] at H
        obtain ⟨rfl, rfl⟩ := H
        go_enter Try.func94, Try.ntmps94
        go_wp2
        go_ret2
        exact ⟨by first | rfl | (simp; done) | (simp [*]; done), by repeat (first | exact D0.refl _ | apply D0.step)⟩
       ·rw [if_neg c8] at H
        have c8b0 : (a0 == 8) = false := beq_eq_false_iff_ne.mpr c8
        have c8b1 : (a0 != 8) = true := bne_iff_ne.mpr c8
        by_cases c9 : a0 = 9
        ·rw [if_pos c9] at H
         have c9b0 : (a0 == 9) = true := beq_iff_eq.mpr c9
         have c9b1 : (a0 != 9) = false := bne_eq_false_iff_eq.mpr c9
         clear c9
         simp only [Option.some.injEq, Prod.mk.injEq] at H
         obtain ⟨rfl, rfl⟩ := H
         go_enter Try.func94, Try.ntmps94
         go_wp2
         go_ret2
         exact ⟨by first | rfl | (simp; done) | (simp [*]; done), by repeat (first | exact D0.refl _ | apply D0.step)⟩
        ·rw [if_neg c9] at H
         have c9b0 : (a0 == 9) = false := beq_eq_false_iff_ne.mpr c9
         have c9b1 : (a0 != 9) = true := bne_iff_ne.mpr c9
         by_cases c10 : a0 = 10
         ·rw [if_pos c10] at H
          have c10b0 : (a0 == 10) = true := beq_iff_eq.mpr c10
          have c10b1 : (a0 != 10) = false := bne_eq_false_iff_eq.mpr c10
          clear c10
          simp only [Option.some.injEq, Prod.mk.injEq] at H
          obtain ⟨rfl, rfl⟩ := H
          go_enter Try.func94, Try.ntmps94
          go_wp2
          go_ret2
          exact ⟨by first | rfl | (simp; done) | (simp [*]; done), by repeat (first | exact D0.refl _ | apply D0.step)⟩
         ·rw [if_neg c10] at H
          have c10b0 : (a0 == 10) = false := beq_eq_false_iff_ne.mpr c10
          have c10b1 : (a0 != 10) = true := bne_iff_ne.mpr c10
          by_cases c11 : a0 = 11
          ·rw [if_pos c11] at H
           have c11b0 : (a0 == 11) = true := beq_iff_eq.mpr c11
           have c11b1 : (a0 != 11) = false := bne_eq_false_iff_eq.mpr c11
           clear c11
           simp only [Option.some.injEq, Prod.mk.injEq] at H
           obtain ⟨rfl, rfl⟩ := H
           go_enter Try.func94, Try.ntmps94
           go_wp2
           go_ret2
           exact ⟨by first | rfl | (simp; done) | (simp [*]; done), by repeat (first | exact D0.refl _ | apply D0.step)⟩
          ·rw [if_neg c11] at H
           have c11b0 : (a0 == 11) = false := beq_eq_false_iff_ne.mpr c11
           have c11b1 : (a0 != 11) = true := bne_iff_ne.mpr c11
           by_cases c12 : a0 = 12
           ·rw [if_pos c12] at H
            have c12b0 : (a0 == 12) = true := beq_iff_eq.mpr c12
            have c12b1 : (a0 != 12) = false := bne_eq_false_iff_eq.mpr c12
            clear c12
            simp only [Option.some.injEq, Prod.mk.injEq] at H
            obtain ⟨rfl, rfl⟩ := H
            go_enter Try.func94, Try.ntmps94
            go_wp2
            go_ret2
            exact ⟨by first | rfl | (simp; done) | (simp [*]; done), by repeat (first | exact D0.refl _ | apply D0.step)⟩
           ·rw [if_neg c12] at H
            have c12b0 : (a0 == 12) = false := beq_eq_false_iff_ne.mpr c12
            have c12b1 : (a0 != 12) = true := bne_iff_ne.mpr c12
            by_cases c13 : a0 = 13
            ·rw [if_pos c13] at H
             have c13b0 : (a0 == 13) = true := beq_iff_eq.mpr c13
             have c13b1 : (a0 != 13) = false := bne_eq_false_iff_eq.mpr c13
             clear c13
             simp only [Option.some.injEq, Prod.mk.injEq] at H
             obtain ⟨rfl, rfl⟩ := H
             go_enter Try.func94, Try.ntmps94
             go_wp2
             go_ret2
             exact ⟨by first | rfl | (simp; done) | (simp [*]; done), by repeat (first | exact D0.refl _ | apply D0.step)⟩
            ·rw [if_neg c13] at H
             have c13b0 : (a0 == 13) = false := beq_eq_false_iff_ne.mpr c13
             have c13b1 : (a0 != 13) = true := bne_iff_ne.mpr c13
             by_cases c14 : a0 = 14
             ·rw [if_pos c14] at H
              have c14b0 : (a0 == 14) = true := beq_iff_eq.mpr c14
              have c14b1 : (a0 != 14) = false := bne_eq_false_iff_eq.mpr c14
              clear c14
              simp only [Option.some.injEq, Prod.mk.injEq] at H
              obtain ⟨rfl, rfl⟩ := H
              go_enter Try.func94, Try.ntmps94
              go_wp2
              go_ret2
              exact ⟨by first | rfl | (simp; done) | (simp [*]; done), by repeat (first | exact D0.refl _ | apply D0.step)⟩
             ·rw [if_neg c14] at H
              have c14b0 : (a0 == 14) = false := beq_eq_false_iff_ne.mpr c14
              have c14b1 : (a0 != 14) = true := bne_iff_ne.mpr c14
              by_cases c15 : a0 = 15
              ·rw [if_pos c15] at H
               have c15b0 : (a0 == 15) = true := beq_iff_eq.mpr c15
               have c15b1 : (a0 != 15) = false := bne_eq_false_iff_eq.mpr c15
               clear c15
               simp only [Option.some.injEq, Prod.mk.injEq] at H
               obtain ⟨rfl, rfl⟩ := H
               go_enter Try.func94, Try.ntmps94
               go_wp2
               go_ret2
               exact ⟨by first | rfl | (simp; done) | (simp [*]; done), by repeat (first | exact D0.refl _ | apply D0.step)⟩
              ·rw [if_neg c15] at H
               have c15b0 : (a0 == 15) = false := beq_eq_false_iff_ne.mpr c15
               have c15b1 : (a0 != 15) = true := bne_iff_ne.mpr c15
               by_cases c16 : a0 = 16
               ·rw [if_pos c16] at H
                have c16b0 : (a0 == 16) = true := beq_iff_eq.mpr c16
                have c16b1 : (a0 != 16) = false := bne_eq_false_iff_eq.mpr c16
                clear c16
                simp only [Option.some.injEq, Prod.mk.injEq] at H
                obtain ⟨rfl, rfl⟩ := H
                go_enter Try.func94, Try.ntmps94
                go_wp2
                go_ret2
                exact ⟨by first | rfl | (simp; done) | (simp [*]; done), by repeat (first | exact D0.refl _ | apply D0.step)⟩
               ·rw [if_neg c16] at H
                have c16b0 : (a0 == 16) = false := beq_eq_false_iff_ne.mpr c16
                have c16b1 : (a0 != 16) = true := bne_iff_ne.mpr c16
                by_cases c17 : a0 = 17
                ·rw [if_pos c17] at H
                 have c17b0 : (a0 == 17) = true := beq_iff_eq.mpr c17
                 have c17b1 : (a0 != 17) = false := bne_eq_false_iff_eq.mpr c17
                 clear c17
                 simp only [Option.some.injEq, Prod.mk.injEq] at H
                 obtain ⟨rfl, rfl⟩ := H
                 go_enter Try.func94, Try.ntmps94
                 go_wp2
                 go_ret2
                 exact ⟨by first | rfl | (simp; done) | (simp [*]; done), by repeat (first | exact D0.refl _ | apply D0.step)⟩
                ·rw [if_neg c17] at H
                 have c17b0 : (a0 == 17) = false := beq_eq_false_iff_ne.mpr c17
                 have c17b1 : (a0 != 17) = true := bne_iff_ne.mpr c17
                 by_cases c18 : a0 = 18
                 ·rw [if_pos c18] at H
                  have c18b0 : (a0 == 18) = true := beq_iff_eq.mpr c18
                  have c18b1 : (a0 != 18) = false := bne_eq_false_iff_eq.mpr c18
                  clear c18
                  simp only [Option.some.injEq, Prod.mk.injEq] at H
                  obtain ⟨rfl, rfl⟩ := H
                  go_enter Try.func94, Try.ntmps94
                  go_wp2
                  go_ret2
                  exact ⟨by first | rfl | (simp; done) | (simp [*]; done), by repeat (first | exact D0.refl _ | apply D0.step)⟩
                 ·rw [if_neg c18] at H
                  have c18b0 : (a0 == 18) = false := beq_eq_false_iff_ne.mpr c18
                  have c18b1 : (a0 != 18) = true := bne_iff_ne.mpr c18
                  by_cases c19 : a0 = 19
                  ·rw [if_pos c19] at H
                   have c19b0 : (a0 == 19) = true := beq_iff_eq.mpr c19
                   have c19b1 : (a0 != 19) = false := bne_eq_false_iff_eq.mpr c19
                   clear c19
                   simp only [Option.some.injEq, Prod.mk.injEq] at H
                   obtain ⟨rfl, rfl⟩ := H
                   go_enter Try.func94, Try.ntmps94
                   go_wp2
                   go_ret2
                   exact ⟨by first | rfl | (simp; done) | (simp [*]; done), by repeat (first | exact D0.refl _ | apply D0.step)⟩
                  ·rw [if_neg c19] at H
                   have c19b0 : (a0 == 19) = false := beq_eq_false_iff_ne.mpr c19
                   have c19b1 : (a0 != 19) = true := bne_iff_ne.mpr c19
                   by_cases c20 : a0 = 20
                   ·rw [if_pos c20] at H
                    have c20b0 : (a0 == 20) = true := beq_iff_eq.mpr c20
                    have c20b1 : (a0 != 20) = false := bne_eq_false_iff_eq.mpr c20
                    clear c20
                    simp only [Option.some.injEq, Prod.mk.injEq] at H
                    obtain ⟨rfl, rfl⟩ := H
                    go_enter Try.func94, Try.ntmps94
                    go_wp2
                    go_ret2
                    exact ⟨by first | rfl | (simp; done) | (simp [*]; done), by repeat (first | exact D0.refl _ | apply D0.step)⟩
                   ·rw [if_neg c20] at H
                    have c20b0 : (a0 == 20) = false := beq_eq_false_iff_ne.mpr c20
                    have c20b1 : (a0 != 20) = true := bne_iff_ne.mpr c20
                    by_cases c21 : a0 = 21
                    ·rw [if_pos c21] at H
                     have c21b0 : (a0 == 21) = true := beq_iff_eq.mpr c21
                     have c21b1 : (a0 != 21) = false := bne_eq_false_iff_eq.mpr c21
                     clear c21
                     simp only [Option.some.injEq, Prod.mk.injEq] at H
                     obtain ⟨rfl, rfl⟩ := H
                     go_enter Try.func94, Try.ntmps94
                     go_wp2
                     go_ret2
                     exact ⟨by first | rfl | (simp; done) | (simp [*]; done), by repeat (first | exact D0.refl _ | apply D0.step)⟩
                    ·rw [if_neg c21] at H
                     have c21b0 : (a0 == 21) = false := beq_eq_false_iff_ne.mpr c21
                     have c21b1 : (a0 != 21) = true := bne_iff_ne.mpr c21
                     by_cases c22 : a0 = 22
                     ·rw [if_pos c22] at H
                      have c22b0 : (a0 == 22) = true := beq_iff_eq.mpr c22
                      have c22b1 : (a0 != 22) = false := bne_eq_false_iff_eq.mpr c22
                      clear c22
                      simp only [Option.some.injEq, Prod.mk.injEq] at H
                      obtain ⟨rfl, rfl⟩ := H
                      go_enter Try.func94, Try.ntmps94
                      go_wp2
                      go_ret2
                      exact ⟨by first | rfl | (simp; done) | (simp [*]; done), by repeat (first | exact D0.refl _ | apply D0.step)⟩
                     ·rw [if_neg c22] at H
                      have c22b0 : (a0 == 22) = false := beq_eq_false_iff_ne.mpr c22
                      have c22b1 : (a0 != 22) = true := bne_iff_ne.mpr c22
                      by_cases c23 : a0 = 23
                      ·rw [if_pos c23] at H
                       have c23b0 : (a0 == 23) = true := beq_iff_eq.mpr c23
                       have c23b1 : (a0 != 23) = false := bne_eq_false_iff_eq.mpr c23
                       clear c23
                       simp only [Option.some.injEq, Prod.mk.injEq] at H
                       obtain ⟨rfl, rfl⟩ := H
                       go_enter Try.func94, Try.ntmps94
                       go_wp2
                       go_ret2
                       exact ⟨by first | rfl | (simp; done) | (simp [*]; done), by repeat (first | exact D0.refl _ | apply D0.step)⟩
                      ·rw [if_neg c23] at H
                       have c23b0 : (a0 == 23) = false := beq_eq_false_iff_ne.mpr c23
                       have c23b1 : (a0 != 23) = true := bne_iff_ne.mpr c23
                       by_cases c24 : a0 = 24
                       ·rw [if_pos c24] at H
                        have c24b0 : (a0 == 24) = true := beq_iff_eq.mpr c24
                        have c24b1 : (a0 != 24) = false := bne_eq_false_iff_eq.mpr c24
                        clear c24
                        simp only [Option.some.injEq, Prod.mk.injEq] at H
                        obtain ⟨rfl, rfl⟩ := H
                        go_enter Try.func94, Try.ntmps94
                        go_wp2
                        go_ret2
                        exact ⟨by first | rfl | (simp; done) | (simp [*]; done), by repeat (first | exact D0.refl _ | apply D0.step)⟩
                       ·rw [if_neg c24] at H
                        have c24b0 : (a0 == 24) = false := beq_eq_false_iff_ne.mpr c24
                        have c24b1 : (a0 != 24) = true := bne_iff_ne.mpr c24
                        simp only [Option.some.injEq, Prod.mk.injEq] at H
                        obtain ⟨rfl, rfl⟩ := H
                        go_enter Try.func94, Try.ntmps94
                        go_wp2
                        go_ret2
                        exact ⟨by first | rfl | (simp; done) | (simp [*]; done), by repeat (first | exact D0.refl _ | apply D0.step)⟩
def F25.l0 : Nat → ByteArray → Int → ByteArray → Int → Option (Int × ByteArray)
 | 0, _, _, _, _ => none
 | k + 1, x5, x6, x7, x8 => if x8 < (x5.size : Int) then (if 0 ≤ x8 then (if (bt x5 x8) = 112 then (F25.l0 k x5 (wrap64 (x6 + 1)) x7 (wrap64 (x8 + 1))) else (if x8 ≤ (wrap64 (x8 + 1)) then (if (wrap64 (x8 + 1)) ≤ (x5.size : Int) then (if x7.size + (x5.extract (x8 : Int).toNat ((wrap64 (x8 + 1)) : Int).toNat).size ≤ 9223372036854775807 then (F25.l0 k x5 x6 (x7 ++ (x5.extract (x8 : Int).toNat ((wrap64 (x8 + 1)) : Int).toNat)) (wrap64 (x8 + 1))) else (none)) else (none)) else (none))) else (none)) else (some (x6, x7))
def F25.f (k : Nat) (a0 : Int) : Option (Int × ByteArray) := if a0 = 1 then (some (0, (⟨#[115]⟩ : ByteArray))) else ((spec_l11Word.f a0).bind fun bt178 => (F25.l0 k bt178.2 0 (⟨#[]⟩ : ByteArray) 0))
theorem F25.mono_l : ∀ k, (∀ y0 y1 y2 y3, LeO (F25.l0 k y0 y1 y2 y3) (F25.l0 (k + 1) y0 y1 y2 y3))
 | 0 => fun _ _ _ _ r h => by simp [F25.l0] at h
 | k + 1 => by
  have ih0 := F25.mono_l k
  ·intro y0 y1 y2 y3
   unfold F25.l0
   repeat' with_reducible first
   | exact ih0 _ _ _ _
   | exact LeO.refl _
   | exact LeO.none _
   | refine LeO.ite ?_ ?_
   | refine LeO.bind ?_ (fun _ => ?_)
theorem F25.mono : ∀ a0 k, LeO (F25.f k a0) (F25.f (k + 1) a0) := by
 intro a0 k
 have ih0 := F25.mono_l k
 unfold F25.f
 repeat' with_reducible first
   | exact ih0 _ _ _ _
   | exact LeO.refl _
   | exact LeO.none _
   | refine LeO.ite ?_ ?_
   | refine LeO.bind ?_ (fun _ => ?_)
theorem F25.calls (k : Nat) (a0 : Int) (r1 : Int) (r2 : ByteArray) (w : World) (h : F25.f k a0 = some (r1, r2)) :
  Calls Try.prog 83 #[.int .i64 a0] w fun e w' => e = .returned (.tuple #[.int .i64 r1, .string r2]) ∧ D0 w w' := by
 have H : (if a0 = 1 then (some (0, (⟨#[115]⟩ : ByteArray))) else ((spec_l11Word.f a0).bind fun bt178 => (F25.l0 k bt178.2 0 (⟨#[]⟩ : ByteArray) 0))) = some (r1, r2) := h
 clear h
 by_cases c2 : a0 = 1
 ·rw [if_pos c2] at H
  have c2b0 : (a0 == 1) = true := beq_iff_eq.mpr c2
  have c2b1 : (a0 != 1) = false := bne_eq_false_iff_eq.mpr c2
  clear c2
  simp only [Option.some.injEq, Prod.mk.injEq] at H
  obtain ⟨rfl, rfl⟩ := H
  go_enter Try.func83, Try.ntmps83
  go_wp2
  go_ret2
  exact ⟨by first | rfl | (simp; done) | (simp [*]; done), by repeat (first | exact D0.refl _ | apply D0.step)⟩
 ·rw [if_neg c2] at H
  have c2b0 : (a0 == 1) = false := beq_eq_false_iff_ne.mpr c2
  have c2b1 : (a0 != 1) = true := bne_iff_ne.mpr c2
  replace H := Option.bind_eq_some_iff.mp H
  obtain ⟨⟨t178, t179⟩, A30, H⟩ := H
  replace H : (F25.l0 k t179 0 (⟨#[]⟩ : ByteArray) 0) = some (r1, r2) := H
  have A3 := As.mk A30
  clear A30
  have H' := As.mk H
  clear H
  go_enter Try.func83, Try.ntmps83
  go_wp2_with (first | ((with_reducible refine gC (f := 94) rfl ?_); refine gL (some 13) rfl rfl Try.func94 (by kernel_rfl) rfl #[.int .i64 a0] rfl (by (try simp only [sm1, sm2, sm3]); first | done | rfl) ?_; (with_reducible refine (spec_l11Word.calls a0 t178 t179 _ A3.out).mono ?_); rintro e w' ⟨rfl, ⟨nd, rfl⟩⟩; refine ⟨_, rfl, ?_⟩))
  go_loopg [6, 7, 8] k (fun kq v6 v7 v8 w' => ∃ (x6_1 : Int) (x7_1 : ByteArray) (x8_1 : Int), v6 = .int .i64 x6_1 ∧ v7 = .string x7_1 ∧ v8 = .int .i64 x8_1 ∧ As (F25.l0 kq t179 x6_1 x7_1 x8_1 = some (r1, r2)) ∧ As (kq ≤ k) ∧ D0 w w')
  case atStart => exact ⟨(0), ((⟨#[]⟩ : ByteArray)), (0), (by first | rfl | (simp; done) | (simp [*]; done)), (by first | rfl | (simp; done) | (simp [*]; done)), (by first | rfl | (simp; done) | (simp [*]; done)), H', ⟨Nat.le_refl _⟩, by repeat (first | exact D0.refl _ | apply D0.step)⟩
  case round =>
   clear H'
   try clear c2
   try clear c2b0
   try clear c2b1
   obtain ⟨x6_1, x7_1, x8_1, rfl, rfl, rfl, HA, HK1, ⟨m1, rfl⟩⟩ := hrel
   cases gk with
   | zero => exact absurd HA.out (by simp [F25.l0])
   | succ k1 =>
    have H := HA.out
    clear HA
    simp only [F25.l0] at H
    by_cases c4 : x8_1 < (t179.size : Int)
    ·rw [if_pos c4] at H
     have c4b0 : decide (x8_1 < (t179.size : Int)) = true := decide_eq_true c4
     clear c4
     by_cases c5 : 0 ≤ x8_1
     ·rw [if_pos c5] at H
      have c5b0 : decide (0 ≤ x8_1) = true := decide_eq_true c5
      clear c5
      by_cases c7 : (bt t179 x8_1) = 112
      ·rw [if_pos c7] at H
       have c7b0 : ((bt t179 x8_1) == 112) = true := beq_iff_eq.mpr c7
       have c7b1 : ((bt t179 x8_1) != 112) = false := bne_eq_false_iff_eq.mpr c7
       clear c7
       have H' := As.mk H
       clear H
       have p6 : 0 ≤ (x8_1 : Int) := of_decide_eq_true (by first | (with_reducible assumption) | assumption)
       have q6 : x8_1 < (t179.size : Int) := of_decide_eq_true (by first | (with_reducible assumption) | assumption)
       have hx6 := bt_at t179 x8_1
       replace p6 := eq_true p6
       replace q6 := eq_true q6
       go_wp2
       go_roundg k1
       case measure => have := HK1.out; omega
       case rel => exact ⟨(wrap64 (x6_1 + 1)), (x7_1), (wrap64 (x8_1 + 1)), (by first | rfl | (simp; done) | (simp [*]; done)), (by first | rfl | (simp; done) | (simp [*]; done)), (by first | rfl | (simp; done) | (simp [*]; done)), H', ⟨by have := HK1.out; omega⟩, by repeat (first | exact D0.refl _ | apply D0.step)⟩
      ·rw [if_neg c7] at H
       have c7b0 : ((bt t179 x8_1) == 112) = false := beq_eq_false_iff_ne.mpr c7
       have c7b1 : ((bt t179 x8_1) != 112) = true := bne_iff_ne.mpr c7
       have c8b0 := eq_true (of_decide_eq_true (by first | (with_reducible assumption) | assumption) : 0 ≤ x8_1)
       by_cases c9 : x8_1 ≤ (wrap64 (x8_1 + 1))
       ·rw [if_pos c9] at H
        have c9b0 := eq_true c9
        have c9b1 : decide (x8_1 ≤ (wrap64 (x8_1 + 1))) = true := decide_eq_true c9
        by_cases c10 : (wrap64 (x8_1 + 1)) ≤ (t179.size : Int)
        ·rw [if_pos c10] at H
         have c10b0 := eq_true c10
         have c10b1 : decide ((wrap64 (x8_1 + 1)) ≤ (t179.size : Int)) = true := decide_eq_true c10
         by_cases c11 : x7_1.size + (t179.extract (x8_1 : Int).toNat ((wrap64 (x8_1 + 1)) : Int).toNat).size ≤ 9223372036854775807
         ·rw [if_pos c11] at H
          have c11b0 := eq_true c11
          have c11b1 : decide (x7_1.size + (t179.extract (x8_1 : Int).toNat ((wrap64 (x8_1 + 1)) : Int).toNat).size ≤ 9223372036854775807) = true := decide_eq_true c11
          try have c11b2 : (9223372036854775807 < x7_1.size + (t179.extract (x8_1 : Int).toNat ((wrap64 (x8_1 + 1)) : Int).toNat).size) = False := eq_false (Nat.not_lt.2 c11)
          have H' := As.mk H
          clear H
          have p6 : 0 ≤ (x8_1 : Int) := of_decide_eq_true (by first | (with_reducible assumption) | assumption)
          have q6 : x8_1 < (t179.size : Int) := of_decide_eq_true (by first | (with_reducible assumption) | assumption)
          have hx6 := bt_at t179 x8_1
          replace p6 := eq_true p6
          replace q6 := eq_true q6
          go_wp2
          go_roundg k1
          case measure => have := HK1.out; omega
          case rel => exact ⟨(x6_1), (x7_1 ++ (t179.extract (x8_1 : Int).toNat ((wrap64 (x8_1 + 1)) : Int).toNat)), (wrap64 (x8_1 + 1)), (by first | rfl | (simp; done) | (simp [*]; done)), (by first | rfl | (simp; done) | (simp [*]; done)), (by first | rfl | (simp; done) | (simp [*]; done)), H', ⟨by have := HK1.out; omega⟩, by repeat (first | exact D0.refl _ | apply D0.step)⟩
         ·rw [if_neg c11] at H
          exact absurd H (by simp)
        ·rw [if_neg c10] at H
         exact absurd H (by simp)
       ·rw [if_neg c9] at H
        exact absurd H (by simp)
     ·rw [if_neg c5] at H
      exact absurd H (by simp)
    ·rw [if_neg c4] at H
     have c4b0 : decide (x8_1 < (t179.size : Int)) = false := decide_eq_false c4
     clear c4
     simp only [Option.some.injEq, Prod.mk.injEq] at H
     obtain ⟨rfl, rfl⟩ := H
     go_wp2
     go_ret2
     exact ⟨by first | rfl | (simp; done) | (simp [*]; done), by repeat (first | exact D0.refl _ | apply D0.step)⟩
def F33.f (k : Nat) (a0_0 : Int) (a0_1 : Int) (a0_2 : ByteArray) (l0_3 : List (S105)) : Option (Bool) := (F24.f a0_0 1 24).bind fun t181 => (if t181 = true then ((F25.f k a0_0).bind fun bt182 => (if (l0_3.length : Int) = bt182.1 then (if bt182.2.toList = ([115] : List UInt8) then (if a0_1 = 0 then (if (a0_2.size : Int) ≤ 200 then (if a0_0 = 1 then (some true) else (some (a0_2.toList != ([] : List UInt8)))) else (some false)) else (some false)) else (if bt182.2.toList = ([110] : List UInt8) then (if a0_2.toList = ([] : List UInt8) then ((F24.f a0_1 0 200).bind fun t184 => (some t184)) else (some false)) else (if bt182.2.toList = ([120] : List UInt8) then (if a0_1 = 0 then ((F21.f k a0_2).bind fun t185 => (some t185)) else (some false)) else (if a0_1 = 0 then (some (a0_2.toList == ([] : List UInt8))) else (some false))))) else (some false))) else (some false))
theorem F33.mono : ∀ a0 a1 a2 a3 k, LeO (F33.f k a0 a1 a2 a3) (F33.f (k + 1) a0 a1 a2 a3) := by
 intro a0 a1 a2 a3 k
 unfold F33.f
 repeat' with_reducible first
   | exact F21.mono _ _
   | exact F25.mono _ _
   | exact LeO.refl _
   | exact LeO.none _
   | refine LeO.ite ?_ ?_
   | refine LeO.bind ?_ (fun _ => ?_)
theorem F33.calls (k : Nat) (a0_0 : Int) (a0_1 : Int) (a0_2 : ByteArray) (A0_3 : Option Addr) (c0_3 : Nat) (l0_3 : List (S105)) (r : Bool) (w : World) (hr0_3 : Kd.C k105 w A0_3 l0_3.length l0_3) (hc0_3 : l0_3.length ≤ c0_3) (h : F33.f k a0_0 a0_1 a0_2 l0_3 = some r) :
  Calls Try.prog 67 #[.agg #[.int .i64 a0_0, .int .i64 a0_1, .string a0_2, .slice A0_3 l0_3.length c0_3]] w fun e w' => e = .returned (.bool r) ∧ Below w.heap.size w w' := by
 have hu105 := Try.underlying105
 have HR0_3 := As.mk hr0_3
 have HC0_3 := As.mk hc0_3
 clear hr0_3 hc0_3
 have HB := As.mk (Below.refl w.heap.size w)
 have H : ((F24.f a0_0 1 24).bind fun t181 => (if t181 = true then ((F25.f k a0_0).bind fun bt182 => (if (l0_3.length : Int) = bt182.1 then (if bt182.2.toList = ([115] : List UInt8) then (if a0_1 = 0 then (if (a0_2.size : Int) ≤ 200 then (if a0_0 = 1 then (some true) else (some (a0_2.toList != ([] : List UInt8)))) else (some false)) else (some false)) else (if bt182.2.toList = ([110] : List UInt8) then (if a0_2.toList = ([] : List UInt8) then ((F24.f a0_1 0 200).bind fun t184 => (some t184)) else (some false)) else (if bt182.2.toList = ([120] : List UInt8) then (if a0_1 = 0 then ((F21.f k a0_2).bind fun t185 => (some t185)) else (some false)) else (if a0_1 = 0 then (some (a0_2.toList == ([] : List UInt8))) else (some false))))) else (some false))) else (some false))) = some r := h
 clear h
 replace H := Option.bind_eq_some_iff.mp H
 obtain ⟨t181, A20, H⟩ := H
 replace H : (if t181 = true then ((F25.f k a0_0).bind fun bt182 => (if (l0_3.length : Int) = bt182.1 then (if bt182.2.toList = ([115] : List UInt8) then (if a0_1 = 0 then (if (a0_2.size : Int) ≤ 200 then (if a0_0 = 1 then (some true) else (some (a0_2.toList != ([] : List UInt8)))) else (some false)) else (some false)) else (if bt182.2.toList = ([110] : List UInt8) then (if a0_2.toList = ([] : List UInt8) then ((F24.f a0_1 0 200).bind fun t184 => (some t184)) else (some false)) else (if bt182.2.toList = ([120] : List UInt8) then (if a0_1 = 0 then ((F21.f k a0_2).bind fun t185 => (some t185)) else (some false)) else (if a0_1 = 0 then (some (a0_2.toList == ([] : List UInt8))) else (some false))))) else (some false))) else (some false)) = some r := H
 have A2 := As.mk A20
 clear A20
 by_cases c3 : t181 = true
 ·subst c3
  replace H : ((F25.f k a0_0).bind fun bt182 => (if (l0_3.length : Int) = bt182.1 then (if bt182.2.toList = ([115] : List UInt8) then (if a0_1 = 0 then (if (a0_2.size : Int) ≤ 200 then (if a0_0 = 1 then (some true) else (some (a0_2.toList != ([] : List UInt8)))) else (some false)) else (some false)) else (if bt182.2.toList = ([110] : List UInt8) then (if a0_2.toList = ([] : List UInt8) then ((F24.f a0_1 0 200).bind fun t184 => (some t184)) else (some false)) else (if bt182.2.toList = ([120] : List UInt8) then (if a0_1 = 0 then ((F21.f k a0_2).bind fun t185 => (some t185)) else (some false)) else (if a0_1 = 0 then (some (a0_2.toList == ([] : List UInt8))) else (some false))))) else (some false))) = some r := by rw [if_pos rfl] at H; exact H
  replace H := Option.bind_eq_some_iff.mp H
  obtain ⟨⟨t182, t183⟩, A40, H⟩ := H
  replace H : (if (l0_3.length : Int) = t182 then (if t183.toList = ([115] : List UInt8) then (if a0_1 = 0 then (if (a0_2.size : Int) ≤ 200 then (if a0_0 = 1 then (some true) else (some (a0_2.toList != ([] : List UInt8)))) else (some false)) else (some false)) else (if t183.toList = ([110] : List UInt8) then (if a0_2.toList = ([] : List UInt8) then ((F24.f a0_1 0 200).bind fun t184 => (some t184)) else (some false)) else (if t183.toList = ([120] : List UInt8) then (if a0_1 = 0 then ((F21.f k a0_2).bind fun t185 => (some t185)) else (some false)) else (if a0_1 = 0 then (some (a0_2.toList == ([] : List UInt8))) else (some false))))) else (some false)) = some r := H
  have A4 := As.mk A40
  clear A40
  by_cases c5 : (l0_3.length : Int) = t182
  ·rw [if_pos c5] at H
   have c5b0 : ((l0_3.length : Int) == t182) = true := beq_iff_eq.mpr c5
   have c5b1 : ((l0_3.length : Int) != t182) = false := bne_eq_false_iff_eq.mpr c5
   clear c5
   by_cases c6 : t183.toList = ([115] : List UInt8)
   ·rw [if_pos c6] at H
    have c6b0 : (t183.toList == ([115] : List UInt8)) = true := beq_iff_eq.mpr c6
    have c6b1 : (t183.toList != ([115] : List UInt8)) = false := bne_eq_false_iff_eq.mpr c6
    clear c6
    by_cases c7 : a0_1 = 0
    ·rw [if_pos c7] at H
     have c7b0 : (a0_1 == 0) = true := beq_iff_eq.mpr c7
     have c7b1 : (a0_1 != 0) = false := bne_eq_false_iff_eq.mpr c7
     clear c7
     by_cases c8 : (a0_2.size : Int) ≤ 200
     ·rw [if_pos c8] at H
      have c8b0 : decide ((a0_2.size : Int) ≤ 200) = true := decide_eq_true c8
      have c8b1 : decide (a0_2.size ≤ 200) = true := decide_eq_true (by omega)
      clear c8
      by_cases c9 : a0_0 = 1
      ·rw [if_pos c9] at H
       have c9b0 : (a0_0 == 1) = true := beq_iff_eq.mpr c9
       have c9b1 : (a0_0 != 1) = false := bne_eq_false_iff_eq.mpr c9
       clear c9
       obtain rfl := Option.some.inj H
       go_enter Try.func67, Try.ntmps67
       go_wp2_with (first | ((with_reducible refine gD (N := 1) rfl ?_); (try (refine gG (by rfl) ?_; dsimp only)); refine bX ?hg (N := 1) ?hd (cs := #[.int .i64 a0_0, .int .i64 a0_1, .string a0_2, .slice A0_3 l0_3.length c0_3]) (t := 105) ?hr ?_; (case hd => rfl); (case hg => rfl); (case hr => first | (go_simp; done) | (go_simp; rfl)); intro gb180 hg w10 hbox hb; have BK180 := As.mk (hbox); have GW180 := As.mk ((by rw [hg]; exact (bZ (by repeat (first | (with_reducible first | exact HB.out | apply bA | apply bD | apply bE) | exact HB.out))) : w.heap.size ≤ gb180)); have GE180 := GW180; replace HB := As.mk (bT (by repeat (first | (with_reducible first | exact HB.out | apply bA | apply bD | apply bE) | exact HB.out)) hb); clear hb hbox hg; have cz_ := cells4_ (w := w10) (g := gb180) BK180.out; obtain ⟨hcz11_0, hcz11_1, hcz11_2, hcz11_3⟩ := cz_; have hfz11 := kF BK180.out) | ((with_reducible refine gC (f := 46) rfl ?_); refine gL (some 7) rfl rfl Try.func46 (by kernel_rfl) rfl #[.int .i64 a0_0, .int .i64 1, .int .i64 24] rfl (by (try simp only [sm1, sm2, sm3]); first | done | rfl) ?_; (with_reducible refine (F24.calls a0_0 1 24 true _ A2.out).mono ?_); rintro e w' ⟨rfl, ⟨nd, rfl⟩⟩; refine ⟨_, rfl, ?_⟩) | ((with_reducible refine gC (f := 83) rfl ?_); refine gL (some 12) rfl rfl Try.func83 (by kernel_rfl) rfl #[.int .i64 a0_0] rfl (by (try simp only [sm1, sm2, sm3]); first | done | rfl) ?_; (with_reducible refine (F25.calls k a0_0 t182 t183 _ A4.out).mono ?_); rintro e w' ⟨rfl, ⟨nd, rfl⟩⟩; refine ⟨_, rfl, ?_⟩))
       go_ret
       exact ⟨by first | rfl | (simp [eN, eS] <;> rfl) | (simp [nE]; done) | (simp [*, eN, eS] <;> rfl), by repeat (first | (with_reducible first | exact HB.out | apply bA | apply bD | apply bE | refine bS ?_ GE180.out) | exact HB.out)⟩
      ·rw [if_neg c9] at H
       have c9b0 : (a0_0 == 1) = false := beq_eq_false_iff_ne.mpr c9
       have c9b1 : (a0_0 != 1) = true := bne_iff_ne.mpr c9
       obtain rfl := Option.some.inj H
       go_enter Try.func67, Try.ntmps67
       go_wp2_with (first | ((with_reducible refine gD (N := 1) rfl ?_); (try (refine gG (by rfl) ?_; dsimp only)); refine bX ?hg (N := 1) ?hd (cs := #[.int .i64 a0_0, .int .i64 a0_1, .string a0_2, .slice A0_3 l0_3.length c0_3]) (t := 105) ?hr ?_; (case hd => rfl); (case hg => rfl); (case hr => first | (go_simp; done) | (go_simp; rfl)); intro gb180 hg w12 hbox hb; have BK180 := As.mk (hbox); have GW180 := As.mk ((by rw [hg]; exact (bZ (by repeat (first | (with_reducible first | exact HB.out | apply bA | apply bD | apply bE) | exact HB.out))) : w.heap.size ≤ gb180)); have GE180 := GW180; replace HB := As.mk (bT (by repeat (first | (with_reducible first | exact HB.out | apply bA | apply bD | apply bE) | exact HB.out)) hb); clear hb hbox hg; have cz_ := cells4_ (w := w12) (g := gb180) BK180.out; obtain ⟨hcz13_0, hcz13_1, hcz13_2, hcz13_3⟩ := cz_; have hfz13 := kF BK180.out) | ((with_reducible refine gC (f := 46) rfl ?_); refine gL (some 7) rfl rfl Try.func46 (by kernel_rfl) rfl #[.int .i64 a0_0, .int .i64 1, .int .i64 24] rfl (by (try simp only [sm1, sm2, sm3]); first | done | rfl) ?_; (with_reducible refine (F24.calls a0_0 1 24 true _ A2.out).mono ?_); rintro e w' ⟨rfl, ⟨nd, rfl⟩⟩; refine ⟨_, rfl, ?_⟩) | ((with_reducible refine gC (f := 83) rfl ?_); refine gL (some 12) rfl rfl Try.func83 (by kernel_rfl) rfl #[.int .i64 a0_0] rfl (by (try simp only [sm1, sm2, sm3]); first | done | rfl) ?_; (with_reducible refine (F25.calls k a0_0 t182 t183 _ A4.out).mono ?_); rintro e w' ⟨rfl, ⟨nd, rfl⟩⟩; refine ⟨_, rfl, ?_⟩))
       go_ret
       exact ⟨by first | rfl | (simp [eN, eS] <;> rfl) | (simp [nE]; done) | (simp [*, eN, eS] <;> rfl), by repeat (first | (with_reducible first | exact HB.out | apply bA | apply bD | apply bE | refine bS ?_ GE180.out) | exact HB.out)⟩
     ·rw [if_neg c8] at H
      have c8b0 : decide ((a0_2.size : Int) ≤ 200) = false := decide_eq_false c8
      have c8b1 : decide (a0_2.size ≤ 200) = false := decide_eq_false (by omega)
      clear c8
      obtain rfl := Option.some.inj H
      go_enter Try.func67, Try.ntmps67
      go_wp2_with (first | ((with_reducible refine gD (N := 1) rfl ?_); (try (refine gG (by rfl) ?_; dsimp only)); refine bX ?hg (N := 1) ?hd (cs := #[.int .i64 a0_0, .int .i64 a0_1, .string a0_2, .slice A0_3 l0_3.length c0_3]) (t := 105) ?hr ?_; (case hd => rfl); (case hg => rfl); (case hr => first | (go_simp; done) | (go_simp; rfl)); intro gb180 hg w14 hbox hb; have BK180 := As.mk (hbox); have GW180 := As.mk ((by rw [hg]; exact (bZ (by repeat (first | (with_reducible first | exact HB.out | apply bA | apply bD | apply bE) | exact HB.out))) : w.heap.size ≤ gb180)); have GE180 := GW180; replace HB := As.mk (bT (by repeat (first | (with_reducible first | exact HB.out | apply bA | apply bD | apply bE) | exact HB.out)) hb); clear hb hbox hg; have cz_ := cells4_ (w := w14) (g := gb180) BK180.out; obtain ⟨hcz15_0, hcz15_1, hcz15_2, hcz15_3⟩ := cz_; have hfz15 := kF BK180.out) | ((with_reducible refine gC (f := 46) rfl ?_); refine gL (some 7) rfl rfl Try.func46 (by kernel_rfl) rfl #[.int .i64 a0_0, .int .i64 1, .int .i64 24] rfl (by (try simp only [sm1, sm2, sm3]); first | done | rfl) ?_; (with_reducible refine (F24.calls a0_0 1 24 true _ A2.out).mono ?_); rintro e w' ⟨rfl, ⟨nd, rfl⟩⟩; refine ⟨_, rfl, ?_⟩) | ((with_reducible refine gC (f := 83) rfl ?_); refine gL (some 12) rfl rfl Try.func83 (by kernel_rfl) rfl #[.int .i64 a0_0] rfl (by (try simp only [sm1, sm2, sm3]); first | done | rfl) ?_; (with_reducible refine (F25.calls k a0_0 t182 t183 _ A4.out).mono ?_); rintro e w' ⟨rfl, ⟨nd, rfl⟩⟩; refine ⟨_, rfl, ?_⟩))
      go_ret
      exact ⟨by first | rfl | (simp [eN, eS] <;> rfl) | (simp [nE]; done) | (simp [*, eN, eS] <;> rfl), by repeat (first | (with_reducible first | exact HB.out | apply bA | apply bD | apply bE | refine bS ?_ GE180.out) | exact HB.out)⟩
    ·rw [if_neg c7] at H
     have c7b0 : (a0_1 == 0) = false := beq_eq_false_iff_ne.mpr c7
     have c7b1 : (a0_1 != 0) = true := bne_iff_ne.mpr c7
     obtain rfl := Option.some.inj H
     go_enter Try.func67, Try.ntmps67
     go_wp2_with (first | ((with_reducible refine gD (N := 1) rfl ?_); (try (refine gG (by rfl) ?_; dsimp only)); refine bX ?hg (N := 1) ?hd (cs := #[.int .i64 a0_0, .int .i64 a0_1, .string a0_2, .slice A0_3 l0_3.length c0_3]) (t := 105) ?hr ?_; (case hd => rfl); (case hg => rfl); (case hr => first | (go_simp; done) | (go_simp; rfl)); intro gb180 hg w16 hbox hb; have BK180 := As.mk (hbox); have GW180 := As.mk ((by rw [hg]; exact (bZ (by repeat (first | (with_reducible first | exact HB.out | apply bA | apply bD | apply bE) | exact HB.out))) : w.heap.size ≤ gb180)); have GE180 := GW180; replace HB := As.mk (bT (by repeat (first | (with_reducible first | exact HB.out | apply bA | apply bD | apply bE) | exact HB.out)) hb); clear hb hbox hg; have cz_ := cells4_ (w := w16) (g := gb180) BK180.out; obtain ⟨hcz17_0, hcz17_1, hcz17_2, hcz17_3⟩ := cz_; have hfz17 := kF BK180.out) | ((with_reducible refine gC (f := 46) rfl ?_); refine gL (some 7) rfl rfl Try.func46 (by kernel_rfl) rfl #[.int .i64 a0_0, .int .i64 1, .int .i64 24] rfl (by (try simp only [sm1, sm2, sm3]); first | done | rfl) ?_; (with_reducible refine (F24.calls a0_0 1 24 true _ A2.out).mono ?_); rintro e w' ⟨rfl, ⟨nd, rfl⟩⟩; refine ⟨_, rfl, ?_⟩) | ((with_reducible refine gC (f := 83) rfl ?_); refine gL (some 12) rfl rfl Try.func83 (by kernel_rfl) rfl #[.int .i64 a0_0] rfl (by (try simp only [sm1, sm2, sm3]); first | done | rfl) ?_; (with_reducible refine (F25.calls k a0_0 t182 t183 _ A4.out).mono ?_); rintro e w' ⟨rfl, ⟨nd, rfl⟩⟩; refine ⟨_, rfl, ?_⟩))
     go_ret
     exact ⟨by first | rfl | (simp [eN, eS] <;> rfl) | (simp [nE]; done) | (simp [*, eN, eS] <;> rfl), by repeat (first | (with_reducible first | exact HB.out | apply bA | apply bD | apply bE | refine bS ?_ GE180.out) | exact HB.out)⟩
   ·rw [if_neg c6] at H
    have c6b0 : (t183.toList == ([115] : List UInt8)) = false := beq_eq_false_iff_ne.mpr c6
    have c6b1 : (t183.toList != ([115] : List UInt8)) = true := bne_iff_ne.mpr c6
    by_cases c18 : t183.toList = ([110] : List UInt8)
    ·rw [if_pos c18] at H
     have c18b0 : (t183.toList == ([110] : List UInt8)) = true := beq_iff_eq.mpr c18
     have c18b1 : (t183.toList != ([110] : List UInt8)) = false := bne_eq_false_iff_eq.mpr c18
     clear c18
     by_cases c19 : a0_2.toList = ([] : List UInt8)
     ·rw [if_pos c19] at H
      have c19b0 : (a0_2.toList == ([] : List UInt8)) = true := beq_iff_eq.mpr c19
      have c19b1 : (a0_2.toList != ([] : List UInt8)) = false := bne_eq_false_iff_eq.mpr c19
      clear c19
      replace H := Option.bind_eq_some_iff.mp H
      obtain ⟨t184, A200, H⟩ := H
      replace H : (some t184) = some r := H
      have A20 := As.mk A200
      clear A200
      obtain rfl := Option.some.inj H
      go_enter Try.func67, Try.ntmps67
      go_wp2_with (first | ((with_reducible refine gD (N := 1) rfl ?_); (try (refine gG (by rfl) ?_; dsimp only)); refine bX ?hg (N := 1) ?hd (cs := #[.int .i64 a0_0, .int .i64 a0_1, .string a0_2, .slice A0_3 l0_3.length c0_3]) (t := 105) ?hr ?_; (case hd => rfl); (case hg => rfl); (case hr => first | (go_simp; done) | (go_simp; rfl)); intro gb180 hg w21 hbox hb; have BK180 := As.mk (hbox); have GW180 := As.mk ((by rw [hg]; exact (bZ (by repeat (first | (with_reducible first | exact HB.out | apply bA | apply bD | apply bE) | exact HB.out))) : w.heap.size ≤ gb180)); have GE180 := GW180; replace HB := As.mk (bT (by repeat (first | (with_reducible first | exact HB.out | apply bA | apply bD | apply bE) | exact HB.out)) hb); clear hb hbox hg; have cz_ := cells4_ (w := w21) (g := gb180) BK180.out; obtain ⟨hcz22_0, hcz22_1, hcz22_2, hcz22_3⟩ := cz_; have hfz22 := kF BK180.out) | ((with_reducible refine gC (f := 46) rfl ?_); refine gL (some 7) rfl rfl Try.func46 (by kernel_rfl) rfl #[.int .i64 a0_0, .int .i64 1, .int .i64 24] rfl (by (try simp only [sm1, sm2, sm3]); first | done | rfl) ?_; (with_reducible refine (F24.calls a0_0 1 24 true _ A2.out).mono ?_); rintro e w' ⟨rfl, ⟨nd, rfl⟩⟩; refine ⟨_, rfl, ?_⟩) | ((with_reducible refine gC (f := 83) rfl ?_); refine gL (some 12) rfl rfl Try.func83 (by kernel_rfl) rfl #[.int .i64 a0_0] rfl (by (try simp only [sm1, sm2, sm3]); first | done | rfl) ?_; (with_reducible refine (F25.calls k a0_0 t182 t183 _ A4.out).mono ?_); rintro e w' ⟨rfl, ⟨nd, rfl⟩⟩; refine ⟨_, rfl, ?_⟩) | (go_at_call 46; (with_reducible refine (F24.calls a0_1 0 200 t184 _ A20.out).mono ?_); rintro e w' ⟨rfl, ⟨nd, rfl⟩⟩))
      go_ret
      exact ⟨by first | rfl | (simp [eN, eS] <;> rfl) | (simp [nE]; done) | (simp [*, eN, eS] <;> rfl), by repeat (first | (with_reducible first | exact HB.out | apply bA | apply bD | apply bE | refine bS ?_ GE180.out) | exact HB.out)⟩
     ·rw [if_neg c19] at H
      have c19b0 : (a0_2.toList == ([] : List UInt8)) = false := beq_eq_false_iff_ne.mpr c19
      have c19b1 : (a0_2.toList != ([] : List UInt8)) = true := bne_iff_ne.mpr c19
      obtain rfl := Option.some.inj H
      go_enter Try.func67, Try.ntmps67
      go_wp2_with (first | ((with_reducible refine gD (N := 1) rfl ?_); (try (refine gG (by rfl) ?_; dsimp only)); refine bX ?hg (N := 1) ?hd (cs := #[.int .i64 a0_0, .int .i64 a0_1, .string a0_2, .slice A0_3 l0_3.length c0_3]) (t := 105) ?hr ?_; (case hd => rfl); (case hg => rfl); (case hr => first | (go_simp; done) | (go_simp; rfl)); intro gb180 hg w23 hbox hb; have BK180 := As.mk (hbox); have GW180 := As.mk ((by rw [hg]; exact (bZ (by repeat (first | (with_reducible first | exact HB.out | apply bA | apply bD | apply bE) | exact HB.out))) : w.heap.size ≤ gb180)); have GE180 := GW180; replace HB := As.mk (bT (by repeat (first | (with_reducible first | exact HB.out | apply bA | apply bD | apply bE) | exact HB.out)) hb); clear hb hbox hg; have cz_ := cells4_ (w := w23) (g := gb180) BK180.out; obtain ⟨hcz24_0, hcz24_1, hcz24_2, hcz24_3⟩ := cz_; have hfz24 := kF BK180.out) | ((with_reducible refine gC (f := 46) rfl ?_); refine gL (some 7) rfl rfl Try.func46 (by kernel_rfl) rfl #[.int .i64 a0_0, .int .i64 1, .int .i64 24] rfl (by (try simp only [sm1, sm2, sm3]); first | done | rfl) ?_; (with_reducible refine (F24.calls a0_0 1 24 true _ A2.out).mono ?_); rintro e w' ⟨rfl, ⟨nd, rfl⟩⟩; refine ⟨_, rfl, ?_⟩) | ((with_reducible refine gC (f := 83) rfl ?_); refine gL (some 12) rfl rfl Try.func83 (by kernel_rfl) rfl #[.int .i64 a0_0] rfl (by (try simp only [sm1, sm2, sm3]); first | done | rfl) ?_; (with_reducible refine (F25.calls k a0_0 t182 t183 _ A4.out).mono ?_); rintro e w' ⟨rfl, ⟨nd, rfl⟩⟩; refine ⟨_, rfl, ?_⟩))
      go_ret
      exact ⟨by first | rfl | (simp [eN, eS] <;> rfl) | (simp [nE]; done) | (simp [*, eN, eS] <;> rfl), by repeat (first | (with_reducible first | exact HB.out | apply bA | apply bD | apply bE | refine bS ?_ GE180.out) | exact HB.out)⟩
    ·rw [if_neg c18] at H
     have c18b0 : (t183.toList == ([110] : List UInt8)) = false := beq_eq_false_iff_ne.mpr c18
     have c18b1 : (t183.toList != ([110] : List UInt8)) = true := bne_iff_ne.mpr c18
     by_cases c25 : t183.toList = ([120] : List UInt8)
     ·rw [if_pos c25] at H
      have c25b0 : (t183.toList == ([120] : List UInt8)) = true := beq_iff_eq.mpr c25
      have c25b1 : (t183.toList != ([120] : List UInt8)) = false := bne_eq_false_iff_eq.mpr c25
      clear c25
      by_cases c26 : a0_1 = 0
      ·rw [if_pos c26] at H
       have c26b0 : (a0_1 == 0) = true := beq_iff_eq.mpr c26
       have c26b1 : (a0_1 != 0) = false := bne_eq_false_iff_eq.mpr c26
       clear c26
       replace H := Option.bind_eq_some_iff.mp H
       obtain ⟨t185, A270, H⟩ := H
       replace H : (some t185) = some r := H
       have A27 := As.mk A270
       clear A270
       obtain rfl := Option.some.inj H
       go_enter Try.func67, Try.ntmps67
       go_wp2_with (first | ((with_reducible refine gD (N := 1) rfl ?_); (try (refine gG (by rfl) ?_; dsimp only)); refine bX ?hg (N := 1) ?hd (cs := #[.int .i64 a0_0, .int .i64 a0_1, .string a0_2, .slice A0_3 l0_3.length c0_3]) (t := 105) ?hr ?_; (case hd => rfl); (case hg => rfl); (case hr => first | (go_simp; done) | (go_simp; rfl)); intro gb180 hg w28 hbox hb; have BK180 := As.mk (hbox); have GW180 := As.mk ((by rw [hg]; exact (bZ (by repeat (first | (with_reducible first | exact HB.out | apply bA | apply bD | apply bE) | exact HB.out))) : w.heap.size ≤ gb180)); have GE180 := GW180; replace HB := As.mk (bT (by repeat (first | (with_reducible first | exact HB.out | apply bA | apply bD | apply bE) | exact HB.out)) hb); clear hb hbox hg; have cz_ := cells4_ (w := w28) (g := gb180) BK180.out; obtain ⟨hcz29_0, hcz29_1, hcz29_2, hcz29_3⟩ := cz_; have hfz29 := kF BK180.out) | ((with_reducible refine gC (f := 46) rfl ?_); refine gL (some 7) rfl rfl Try.func46 (by kernel_rfl) rfl #[.int .i64 a0_0, .int .i64 1, .int .i64 24] rfl (by (try simp only [sm1, sm2, sm3]); first | done | rfl) ?_; (with_reducible refine (F24.calls a0_0 1 24 true _ A2.out).mono ?_); rintro e w' ⟨rfl, ⟨nd, rfl⟩⟩; refine ⟨_, rfl, ?_⟩) | ((with_reducible refine gC (f := 83) rfl ?_); refine gL (some 12) rfl rfl Try.func83 (by kernel_rfl) rfl #[.int .i64 a0_0] rfl (by (try simp only [sm1, sm2, sm3]); first | done | rfl) ?_; (with_reducible refine (F25.calls k a0_0 t182 t183 _ A4.out).mono ?_); rintro e w' ⟨rfl, ⟨nd, rfl⟩⟩; refine ⟨_, rfl, ?_⟩) | (go_at_call 47; (with_reducible refine (F21.calls k a0_2 t185 _ A27.out).mono ?_); rintro e w' ⟨rfl, ⟨nd, rfl⟩⟩))
       go_ret
       exact ⟨by first | rfl | (simp [eN, eS] <;> rfl) | (simp [nE]; done) | (simp [*, eN, eS] <;> rfl), by repeat (first | (with_reducible first | exact HB.out | apply bA | apply bD | apply bE | refine bS ?_ GE180.out) | exact HB.out)⟩
      ·rw [if_neg c26] at H
       have c26b0 : (a0_1 == 0) = false := beq_eq_false_iff_ne.mpr c26
       have c26b1 : (a0_1 != 0) = true := bne_iff_ne.mpr c26
       obtain rfl := Option.some.inj H
       go_enter Try.func67, Try.ntmps67
       go_wp2_with (first | ((with_reducible refine gD (N := 1) rfl ?_); (try (refine gG (by rfl) ?_; dsimp only)); refine bX ?hg (N := 1) ?hd (cs := #[.int .i64 a0_0, .int .i64 a0_1, .string a0_2, .slice A0_3 l0_3.length c0_3]) (t := 105) ?hr ?_; (case hd => rfl); (case hg => rfl); (case hr => first | (go_simp; done) | (go_simp; rfl)); intro gb180 hg w30 hbox hb; have BK180 := As.mk (hbox); have GW180 := As.mk ((by rw [hg]; exact (bZ (by repeat (first | (with_reducible first | exact HB.out | apply bA | apply bD | apply bE) | exact HB.out))) : w.heap.size ≤ gb180)); have GE180 := GW180; replace HB := As.mk (bT (by repeat (first | (with_reducible first | exact HB.out | apply bA | apply bD | apply bE) | exact HB.out)) hb); clear hb hbox hg; have cz_ := cells4_ (w := w30) (g := gb180) BK180.out; obtain ⟨hcz31_0, hcz31_1, hcz31_2, hcz31_3⟩ := cz_; have hfz31 := kF BK180.out) | ((with_reducible refine gC (f := 46) rfl ?_); refine gL (some 7) rfl rfl Try.func46 (by kernel_rfl) rfl #[.int .i64 a0_0, .int .i64 1, .int .i64 24] rfl (by (try simp only [sm1, sm2, sm3]); first | done | rfl) ?_; (with_reducible refine (F24.calls a0_0 1 24 true _ A2.out).mono ?_); rintro e w' ⟨rfl, ⟨nd, rfl⟩⟩; refine ⟨_, rfl, ?_⟩) | ((with_reducible refine gC (f := 83) rfl ?_); refine gL (some 12) rfl rfl Try.func83 (by kernel_rfl) rfl #[.int .i64 a0_0] rfl (by (try simp only [sm1, sm2, sm3]); first | done | rfl) ?_; (with_reducible refine (F25.calls k a0_0 t182 t183 _ A4.out).mono ?_); rintro e w' ⟨rfl, ⟨nd, rfl⟩⟩; refine ⟨_, rfl, ?_⟩))
       go_ret
       exact ⟨by first | rfl | (simp [eN, eS] <;> rfl) | (simp [nE]; done) | (simp [*, eN, eS] <;> rfl), by repeat (first | (with_reducible first | exact HB.out | apply bA | apply bD | apply bE | refine bS ?_ GE180.out) | exact HB.out)⟩
     ·rw [if_neg c25] at H
      have c25b0 : (t183.toList == ([120] : List UInt8)) = false := beq_eq_false_iff_ne.mpr c25
      have c25b1 : (t183.toList != ([120] : List UInt8)) = true := bne_iff_ne.mpr c25
      by_cases c32 : a0_1 = 0
      ·rw [if_pos c32] at H
       have c32b0 : (a0_1 == 0) = true := beq_iff_eq.mpr c32
       have c32b1 : (a0_1 != 0) = false := bne_eq_false_iff_eq.mpr c32
       clear c32
       obtain rfl := Option.some.inj H
       go_enter Try.func67, Try.ntmps67
       go_wp2_with (first | ((with_reducible refine gD (N := 1) rfl ?_); (try (refine gG (by rfl) ?_; dsimp only)); refine bX ?hg (N := 1) ?hd (cs := #[.int .i64 a0_0, .int .i64 a0_1, .string a0_2, .slice A0_3 l0_3.length c0_3]) (t := 105) ?hr ?_; (case hd => rfl); (case hg => rfl); (case hr => first | (go_simp; done) | (go_simp; rfl)); intro gb180 hg w33 hbox hb; have BK180 := As.mk (hbox); have GW180 := As.mk ((by rw [hg]; exact (bZ (by repeat (first | (with_reducible first | exact HB.out | apply bA | apply bD | apply bE) | exact HB.out))) : w.heap.size ≤ gb180)); have GE180 := GW180; replace HB := As.mk (bT (by repeat (first | (with_reducible first | exact HB.out | apply bA | apply bD | apply bE) | exact HB.out)) hb); clear hb hbox hg; have cz_ := cells4_ (w := w33) (g := gb180) BK180.out; obtain ⟨hcz34_0, hcz34_1, hcz34_2, hcz34_3⟩ := cz_; have hfz34 := kF BK180.out) | ((with_reducible refine gC (f := 46) rfl ?_); refine gL (some 7) rfl rfl Try.func46 (by kernel_rfl) rfl #[.int .i64 a0_0, .int .i64 1, .int .i64 24] rfl (by (try simp only [sm1, sm2, sm3]); first | done | rfl) ?_; (with_reducible refine (F24.calls a0_0 1 24 true _ A2.out).mono ?_); rintro e w' ⟨rfl, ⟨nd, rfl⟩⟩; refine ⟨_, rfl, ?_⟩) | ((with_reducible refine gC (f := 83) rfl ?_); refine gL (some 12) rfl rfl Try.func83 (by kernel_rfl) rfl #[.int .i64 a0_0] rfl (by (try simp only [sm1, sm2, sm3]); first | done | rfl) ?_; (with_reducible refine (F25.calls k a0_0 t182 t183 _ A4.out).mono ?_); rintro e w' ⟨rfl, ⟨nd, rfl⟩⟩; refine ⟨_, rfl, ?_⟩))
       go_ret
       exact ⟨by first | rfl | (simp [eN, eS] <;> rfl) | (simp [nE]; done) | (simp [*, eN, eS] <;> rfl), by repeat (first | (with_reducible first | exact HB.out | apply bA | apply bD | apply bE | refine bS ?_ GE180.out) | exact HB.out)⟩
      ·rw [if_neg c32] at H
       have c32b0 : (a0_1 == 0) = false := beq_eq_false_iff_ne.mpr c32
       have c32b1 : (a0_1 != 0) = true := bne_iff_ne.mpr c32
       obtain rfl := Option.some.inj H
       go_enter Try.func67, Try.ntmps67
       go_wp2_with (first | ((with_reducible refine gD (N := 1) rfl ?_); (try (refine gG (by rfl) ?_; dsimp only)); refine bX ?hg (N := 1) ?hd (cs := #[.int .i64 a0_0, .int .i64 a0_1, .string a0_2, .slice A0_3 l0_3.length c0_3]) (t := 105) ?hr ?_; (case hd => rfl); (case hg => rfl); (case hr => first | (go_simp; done) | (go_simp; rfl)); intro gb180 hg w35 hbox hb; have BK180 := As.mk (hbox); have GW180 := As.mk ((by rw [hg]; exact (bZ (by repeat (first | (with_reducible first | exact HB.out | apply bA | apply bD | apply bE) | exact HB.out))) : w.heap.size ≤ gb180)); have GE180 := GW180; replace HB := As.mk (bT (by repeat (first | (with_reducible first | exact HB.out | apply bA | apply bD | apply bE) | exact HB.out)) hb); clear hb hbox hg; have cz_ := cells4_ (w := w35) (g := gb180) BK180.out; obtain ⟨hcz36_0, hcz36_1, hcz36_2, hcz36_3⟩ := cz_; have hfz36 := kF BK180.out) | ((with_reducible refine gC (f := 46) rfl ?_); refine gL (some 7) rfl rfl Try.func46 (by kernel_rfl) rfl #[.int .i64 a0_0, .int .i64 1, .int .i64 24] rfl (by (try simp only [sm1, sm2, sm3]); first | done | rfl) ?_; (with_reducible refine (F24.calls a0_0 1 24 true _ A2.out).mono ?_); rintro e w' ⟨rfl, ⟨nd, rfl⟩⟩; refine ⟨_, rfl, ?_⟩) | ((with_reducible refine gC (f := 83) rfl ?_); refine gL (some 12) rfl rfl Try.func83 (by kernel_rfl) rfl #[.int .i64 a0_0] rfl (by (try simp only [sm1, sm2, sm3]); first | done | rfl) ?_; (with_reducible refine (F25.calls k a0_0 t182 t183 _ A4.out).mono ?_); rintro e w' ⟨rfl, ⟨nd, rfl⟩⟩; refine ⟨_, rfl, ?_⟩))
       go_ret
       exact ⟨by first | rfl | (simp [eN, eS] <;> rfl) | (simp [nE]; done) | (simp [*, eN, eS] <;> rfl), by repeat (first | (with_reducible first | exact HB.out | apply bA | apply bD | apply bE | refine bS ?_ GE180.out) | exact HB.out)⟩
  ·rw [if_neg c5] at H
   have c5b0 : ((l0_3.length : Int) == t182) = false := beq_eq_false_iff_ne.mpr c5
   have c5b1 : ((l0_3.length : Int) != t182) = true := bne_iff_ne.mpr c5
   obtain rfl := Option.some.inj H
   go_enter Try.func67, Try.ntmps67
   go_wp2_with (first | ((with_reducible refine gD (N := 1) rfl ?_); (try (refine gG (by rfl) ?_; dsimp only)); refine bX ?hg (N := 1) ?hd (cs := #[.int .i64 a0_0, .int .i64 a0_1, .string a0_2, .slice A0_3 l0_3.length c0_3]) (t := 105) ?hr ?_; (case hd => rfl); (case hg => rfl); (case hr => first | (go_simp; done) | (go_simp; rfl)); intro gb180 hg w37 hbox hb; have BK180 := As.mk (hbox); have GW180 := As.mk ((by rw [hg]; exact (bZ (by repeat (first | (with_reducible first | exact HB.out | apply bA | apply bD | apply bE) | exact HB.out))) : w.heap.size ≤ gb180)); have GE180 := GW180; replace HB := As.mk (bT (by repeat (first | (with_reducible first | exact HB.out | apply bA | apply bD | apply bE) | exact HB.out)) hb); clear hb hbox hg; have cz_ := cells4_ (w := w37) (g := gb180) BK180.out; obtain ⟨hcz38_0, hcz38_1, hcz38_2, hcz38_3⟩ := cz_; have hfz38 := kF BK180.out) | ((with_reducible refine gC (f := 46) rfl ?_); refine gL (some 7) rfl rfl Try.func46 (by kernel_rfl) rfl #[.int .i64 a0_0, .int .i64 1, .int .i64 24] rfl (by (try simp only [sm1, sm2, sm3]); first | done | rfl) ?_; (with_reducible refine (F24.calls a0_0 1 24 true _ A2.out).mono ?_); rintro e w' ⟨rfl, ⟨nd, rfl⟩⟩; refine ⟨_, rfl, ?_⟩) | ((with_reducible refine gC (f := 83) rfl ?_); refine gL (some 12) rfl rfl Try.func83 (by kernel_rfl) rfl #[.int .i64 a0_0] rfl (by (try simp only [sm1, sm2, sm3]); first | done | rfl) ?_; (with_reducible refine (F25.calls k a0_0 t182 t183 _ A4.out).mono ?_); rintro e w' ⟨rfl, ⟨nd, rfl⟩⟩; refine ⟨_, rfl, ?_⟩))
   go_ret
   exact ⟨by first | rfl | (simp [eN, eS] <;> rfl) | (simp [nE]; done) | (simp [*, eN, eS] <;> rfl), by repeat (first | (with_reducible first | exact HB.out | apply bA | apply bD | apply bE | refine bS ?_ GE180.out) | exact HB.out)⟩
 ·replace c3 := Bool.eq_false_iff.mpr c3
  subst c3
  replace H : (some false) = some r := by rw [if_neg (show ¬ (false = true) by decide)] at H; exact H
  obtain rfl := Option.some.inj H
  go_enter Try.func67, Try.ntmps67
  go_wp2_with (first | ((with_reducible refine gD (N := 1) rfl ?_); (try (refine gG (by rfl) ?_; dsimp only)); refine bX ?hg (N := 1) ?hd (cs := #[.int .i64 a0_0, .int .i64 a0_1, .string a0_2, .slice A0_3 l0_3.length c0_3]) (t := 105) ?hr ?_; (case hd => rfl); (case hg => rfl); (case hr => first | (go_simp; done) | (go_simp; rfl)); intro gb180 hg w39 hbox hb; have BK180 := As.mk (hbox); have GW180 := As.mk ((by rw [hg]; exact (bZ (by repeat (first | (with_reducible first | exact HB.out | apply bA | apply bD | apply bE) | exact HB.out))) : w.heap.size ≤ gb180)); have GE180 := GW180; replace HB := As.mk (bT (by repeat (first | (with_reducible first | exact HB.out | apply bA | apply bD | apply bE) | exact HB.out)) hb); clear hb hbox hg; have cz_ := cells4_ (w := w39) (g := gb180) BK180.out; obtain ⟨hcz40_0, hcz40_1, hcz40_2, hcz40_3⟩ := cz_; have hfz40 := kF BK180.out) | ((with_reducible refine gC (f := 46) rfl ?_); refine gL (some 7) rfl rfl Try.func46 (by kernel_rfl) rfl #[.int .i64 a0_0, .int .i64 1, .int .i64 24] rfl (by (try simp only [sm1, sm2, sm3]); first | done | rfl) ?_; (with_reducible refine (F24.calls a0_0 1 24 false _ A2.out).mono ?_); rintro e w' ⟨rfl, ⟨nd, rfl⟩⟩; refine ⟨_, rfl, ?_⟩))
  go_ret
  exact ⟨by first | rfl | (simp [eN, eS] <;> rfl) | (simp [nE]; done) | (simp [*, eN, eS] <;> rfl), by repeat (first | (with_reducible first | exact HB.out | apply bA | apply bD | apply bE | refine bS ?_ GE180.out) | exact HB.out)⟩
end Go.Proofs.Ytbamjjaamjfnaaa.PFnExactNewMatcher
