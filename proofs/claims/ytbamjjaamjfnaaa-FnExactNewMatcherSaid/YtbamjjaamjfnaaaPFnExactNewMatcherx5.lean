/- Walks of printed functions. Conditions: none beyond each statement. -/
import Derived.Test.YtbamjjaamjfnaaaPFnExactNewMatcherx0
import Derived.Test.YtbamjjaamjfnaaaPFnExactNewMatcherx3
import Derived.Test.YtbamjjaamjfnaaaPFnExactNewMatcherx4
namespace Go.Proofs.Ytbamjjaamjfnaaa.PFnExactNewMatcher
open Go.RowKit Go.Proofs.YtbamjjaamjfnaaaW.PrintWords Go.Proofs.YtbamjjaamjfnaaaW.PrintLast Go.Proofs.YtbamjjaamjfnaaaW.PrintMore
set_option maxHeartbeats 8000000
set_option maxRecDepth 100000
attribute [local go_sem] max2_int min2_int max_two min_two max_three min_three max_four min_four   -- for this text's walks alone
set_option linter.unusedVariables false
set_option linter.unusedSimpArgs false
mutual
def F5.j0 : Nat → Int → Bool → Int → Int → ByteArray → Option (Bool)
 | 0, _, _, _, _, _ => none
 | k + 1, x4, x5, x187000, x187001, x187002 => if x5 = true then (if x187001 = 0 then (some (x187002.toList == ([] : List UInt8))) else (some false)) else (if x4 = 32 then (F5.j1 k x4 (x4 == 32) x187000 x187001 x187002) else (if x4 = 33 then (F5.j1 k x4 (x4 == 33) x187000 x187001 x187002) else (F5.j1 k x4 (x4 == 37) x187000 x187001 x187002)))
def F5.j1 : Nat → Int → Bool → Int → Int → ByteArray → Option (Bool)
 | 0, _, _, _, _, _ => none
 | k + 1, x4, x18, x187000, x187001, x187002 => if x18 = true then ((F24.f x187001 0 12999).bind fun t187 => (if t187 = true then (some (x187002.toList == ([] : List UInt8))) else (some false))) else (if x4 = 35 then (F5.j2 k (x4 == 35) x187000 x187001 x187002) else (F5.j2 k (x4 == 36) x187000 x187001 x187002))
def F5.j2 : Nat → Bool → Int → Int → ByteArray → Option (Bool)
 | 0, _, _, _, _ => none
 | k + 1, x30, x187000, x187001, x187002 => if x30 = true then (if x187001 = 0 then ((F21.f k x187002).bind fun t188 => (some t188)) else (some false)) else ((spec_l13Leaf.f x187000).bind fun t189 => (if t189 = true then ((F33.f k x187000 x187001 x187002 ([] : List (S105))).bind fun t190 => (some t190)) else (some false)))
end
def F5.f (k : Nat) (a0_0 : Int) (a0_1 : Int) (a0_2 : ByteArray) : Option (Bool) := if a0_0 = 31 then (F5.j0 k a0_0 (a0_0 == 31) a0_0 a0_1 a0_2) else (if a0_0 = 34 then (F5.j0 k a0_0 (a0_0 == 34) a0_0 a0_1 a0_2) else (if a0_0 = 38 then (F5.j0 k a0_0 (a0_0 == 38) a0_0 a0_1 a0_2) else (F5.j0 k a0_0 (a0_0 == 39) a0_0 a0_1 a0_2)))
theorem F5.mono_l : ∀ k, (∀ y0 y1 y2 y3 y4, LeO (F5.j0 k y0 y1 y2 y3 y4) (F5.j0 (k + 1) y0 y1 y2 y3 y4)) ∧ (∀ y0 y1 y2 y3 y4, LeO (F5.j1 k y0 y1 y2 y3 y4) (F5.j1 (k + 1) y0 y1 y2 y3 y4)) ∧ (∀ y0 y1 y2 y3, LeO (F5.j2 k y0 y1 y2 y3) (F5.j2 (k + 1) y0 y1 y2 y3))
 | 0 => ⟨fun _ _ _ _ _ r h => by simp [F5.j0] at h, fun _ _ _ _ _ r h => by simp [F5.j1] at h, fun _ _ _ _ r h => by simp [F5.j2] at h⟩
 | k + 1 => by
  obtain ⟨ih0, ih1, ih2⟩ := F5.mono_l k
  refine ⟨?_, ?_, ?_⟩
  ·intro y0 y1 y2 y3 y4
   unfold F5.j0
   repeat' with_reducible first
   | exact ih0 _ _ _ _ _
   | exact ih1 _ _ _ _ _
   | exact ih2 _ _ _ _
   | exact F21.mono _ _
   | exact F33.mono _ _ _ _ _
   | exact LeO.refl _
   | exact LeO.none _
   | refine LeO.ite ?_ ?_
   | refine LeO.bind ?_ (fun _ => ?_)
  ·intro y0 y1 y2 y3 y4
   unfold F5.j1
   repeat' with_reducible first
   | exact ih0 _ _ _ _ _
   | exact ih1 _ _ _ _ _
   | exact ih2 _ _ _ _
   | exact F21.mono _ _
   | exact F33.mono _ _ _ _ _
   | exact LeO.refl _
   | exact LeO.none _
   | refine LeO.ite ?_ ?_
   | refine LeO.bind ?_ (fun _ => ?_)
  ·intro y0 y1 y2 y3
   unfold F5.j2
   repeat' with_reducible first
   | exact ih0 _ _ _ _ _
   | exact ih1 _ _ _ _ _
   | exact ih2 _ _ _ _
   | exact F21.mono _ _
   | exact F33.mono _ _ _ _ _
   | exact LeO.refl _
   | exact LeO.none _
   | refine LeO.ite ?_ ?_
   | refine LeO.bind ?_ (fun _ => ?_)
theorem F5.mono : ∀ a0 a1 a2 k, LeO (F5.f k a0 a1 a2) (F5.f (k + 1) a0 a1 a2) := by
 intro a0 a1 a2 k
 obtain ⟨ih0, ih1, ih2⟩ := F5.mono_l k
 unfold F5.f
 repeat' with_reducible first
   | exact ih0 _ _ _ _ _
   | exact ih1 _ _ _ _ _
   | exact ih2 _ _ _ _
   | exact F21.mono _ _
   | exact F33.mono _ _ _ _ _
   | exact LeO.refl _
   | exact LeO.none _
   | refine LeO.ite ?_ ?_
   | refine LeO.bind ?_ (fun _ => ?_)
theorem F5.calls (k : Nat) (a0_0 : Int) (a0_1 : Int) (a0_2 : ByteArray) (r : Bool) (w : World) (h : F5.f k a0_0 a0_1 a0_2 = some r) :
  Calls Try.prog 49 #[.agg #[.int .i64 a0_0, .int .i64 a0_1, .string a0_2]] w fun e w' => e = .returned (.bool r) ∧ Below w.heap.size w w' := by
 have hu80 := Try.underlying80
 have hu105 := Try.underlying105
 have HB := As.mk (Below.refl w.heap.size w)
 have H : (if a0_0 = 31 then (F5.j0 k a0_0 (a0_0 == 31) a0_0 a0_1 a0_2) else (if a0_0 = 34 then (F5.j0 k a0_0 (a0_0 == 34) a0_0 a0_1 a0_2) else (if a0_0 = 38 then (F5.j0 k a0_0 (a0_0 == 38) a0_0 a0_1 a0_2) else (F5.j0 k a0_0 (a0_0 == 39) a0_0 a0_1 a0_2)))) = some r := h
 clear h
 have HC2 := As.mk H
 clear H
 go_enter Try.func49, Try.ntmps49
 go_upto_if 5 with (first | ((with_reducible refine gD (N := 1) rfl ?_); refine bX ?hg (N := 1) ?hd (cs := #[.int .i64 a0_0, .int .i64 a0_1, .string a0_2]) (t := 80) ?hr ?_; (case hd => rfl); (case hg => rfl); (case hr => first | (go_simp; done) | (go_simp; rfl)); intro gb186 hg w3 hbox hb; have BK186 := As.mk (hbox); have GW186 := As.mk ((by rw [hg]; exact (bZ (by repeat (first | (with_reducible first | exact HB.out | apply bA | apply bD | apply bE) | exact HB.out))) : w.heap.size ≤ gb186)); have GE186 := GW186; replace HB := As.mk (bT (by repeat (first | (with_reducible first | exact HB.out | apply bA | apply bD | apply bE) | exact HB.out)) hb); clear hb hbox hg; have cz_ := c3_ (w := w3) (g := gb186) BK186.out; obtain ⟨hcz4_0, hcz4_1, hcz4_2⟩ := cz_; have hfz4 := kF BK186.out))
 (try simp only [Act.put, sq1, sq2, sq3])
 go_cut [5] (fun v5 wc => ∃ (kq : Nat) (x5_1 : Bool), v5 = .bool x5_1 ∧ As (F5.j0 kq a0_0 x5_1 a0_0 a0_1 a0_2 = some r) ∧ As (kq ≤ k) ∧ As (wc.heap[gb186]? = some (.cells #[.int .i64 a0_0, .int .i64 a0_1, .string a0_2] 80 (0, 0))) ∧ As (Below w.heap.size w wc))
 case first =>
  have H := HC2.out
  clear HC2
  by_cases c5 : a0_0 = 31
  ·rw [if_pos c5] at H
   have c5b0 : (a0_0 == 31) = true := beq_iff_eq.mpr c5
   have c5b1 : (a0_0 != 31) = false := bne_eq_false_iff_eq.mpr c5
   clear c5
   (first | rw [c5b0] | (simp only [i64_w, i32_w]; rw [c5b0]) | skip)
   have H' := As.mk H
   clear H
   go_wp2
   go_meet
   case rel => exact ⟨_, ((a0_0 == 31)), (by first | rfl | (simp; done) | (simp [*]; done)), H', ⟨by first | omega | exact Nat.le_refl _⟩, ⟨by (with_reducible repeat (first | refine kD ?_ _ | refine kE ?_ | refine kA ?_ _)); exact BK186.out⟩, ⟨by repeat (first | (with_reducible first | exact HB.out | apply bA | apply bD | apply bE | refine bS ?_ GE186.out) | exact HB.out)⟩⟩
  ·rw [if_neg c5] at H
   have c5b0 : (a0_0 == 31) = false := beq_eq_false_iff_ne.mpr c5
   have c5b1 : (a0_0 != 31) = true := bne_iff_ne.mpr c5
   (first | rw [c5b0] | (simp only [i64_w, i32_w]; rw [c5b0]) | skip)
   by_cases c6 : a0_0 = 34
   ·rw [if_pos c6] at H
    have c6b0 : (a0_0 == 34) = true := beq_iff_eq.mpr c6
    have c6b1 : (a0_0 != 34) = false := bne_eq_false_iff_eq.mpr c6
    clear c6
    have H' := As.mk H
    clear H
    go_wp2
    go_meet
    case rel => exact ⟨_, ((a0_0 == 34)), (by first | rfl | (simp; done) | (simp [*]; done)), H', ⟨by first | omega | exact Nat.le_refl _⟩, ⟨by (with_reducible repeat (first | refine kD ?_ _ | refine kE ?_ | refine kA ?_ _)); exact BK186.out⟩, ⟨by repeat (first | (with_reducible first | exact HB.out | apply bA | apply bD | apply bE | refine bS ?_ GE186.out) | exact HB.out)⟩⟩
   ·rw [if_neg c6] at H
    have c6b0 : (a0_0 == 34) = false := beq_eq_false_iff_ne.mpr c6
    have c6b1 : (a0_0 != 34) = true := bne_iff_ne.mpr c6
    by_cases c7 : a0_0 = 38
    ·rw [if_pos c7] at H
     have c7b0 : (a0_0 == 38) = true := beq_iff_eq.mpr c7
     have c7b1 : (a0_0 != 38) = false := bne_eq_false_iff_eq.mpr c7
     clear c7
     have H' := As.mk H
     clear H
     go_wp2
     go_meet
     case rel => exact ⟨_, ((a0_0 == 38)), (by first | rfl | (simp; done) | (simp [*]; done)), H', ⟨by first | omega | exact Nat.le_refl _⟩, ⟨by (with_reducible repeat (first | refine kD ?_ _ | refine kE ?_ | refine kA ?_ _)); exact BK186.out⟩, ⟨by repeat (first | (with_reducible first | exact HB.out | apply bA | apply bD | apply bE | refine bS ?_ GE186.out) | exact HB.out)⟩⟩
    ·rw [if_neg c7] at H
     have c7b0 : (a0_0 == 38) = false := beq_eq_false_iff_ne.mpr c7
     have c7b1 : (a0_0 != 38) = true := bne_iff_ne.mpr c7
     have H' := As.mk H
     clear H
     go_wp2
     go_meet
     case rel => exact ⟨_, ((a0_0 == 39)), (by first | rfl | (simp; done) | (simp [*]; done)), H', ⟨by first | omega | exact Nat.le_refl _⟩, ⟨by (with_reducible repeat (first | refine kD ?_ _ | refine kE ?_ | refine kA ?_ _)); exact BK186.out⟩, ⟨by repeat (first | (with_reducible first | exact HB.out | apply bA | apply bD | apply bE | refine bS ?_ GE186.out) | exact HB.out)⟩⟩
 case rest =>
  clear HC2
  try clear hcz4_0
  try clear hcz4_1
  try clear hcz4_2
  try clear hfz4
  obtain ⟨kq, x5_1, rfl, HA, HJ1, BK186, HB⟩ := hcut
  cases kq with
  | zero => exact absurd HA.out (by simp [F5.j0])
  | succ kj1 =>
   have H := HA.out
   clear HA
   simp only [F5.j0] at H
   by_cases c8 : x5_1 = true
   ·subst c8
    replace H : (if a0_1 = 0 then (some (a0_2.toList == ([] : List UInt8))) else (some false)) = some r := by rw [if_pos rfl] at H; exact H
    by_cases c9 : a0_1 = 0
    ·rw [if_pos c9] at H
     have c9b0 : (a0_1 == 0) = true := beq_iff_eq.mpr c9
     have c9b1 : (a0_1 != 0) = false := bne_eq_false_iff_eq.mpr c9
     clear c9
     obtain rfl := Option.some.inj H
     have cz_ := c3_ (w := wc) (g := gb186) BK186.out; obtain ⟨hcz10_0, hcz10_1, hcz10_2⟩ := cz_
     have hfz10 := kF BK186.out
     go_wp2
     go_ret
     exact ⟨by first | rfl | (simp [eN, eS] <;> rfl) | (simp [*, eN, eS] <;> rfl), by repeat (first | (with_reducible first | exact HB.out | apply bA | apply bD | apply bE | refine bS ?_ GE186.out) | exact HB.out)⟩
    ·rw [if_neg c9] at H
     have c9b0 : (a0_1 == 0) = false := beq_eq_false_iff_ne.mpr c9
     have c9b1 : (a0_1 != 0) = true := bne_iff_ne.mpr c9
     obtain rfl := Option.some.inj H
     have cz_ := c3_ (w := wc) (g := gb186) BK186.out; obtain ⟨hcz11_0, hcz11_1, hcz11_2⟩ := cz_
     have hfz11 := kF BK186.out
     go_wp2
     go_ret
     exact ⟨by first | rfl | (simp [eN, eS] <;> rfl) | (simp [*, eN, eS] <;> rfl), by repeat (first | (with_reducible first | exact HB.out | apply bA | apply bD | apply bE | refine bS ?_ GE186.out) | exact HB.out)⟩
   ·replace c8 := Bool.eq_false_iff.mpr c8
    subst c8
    replace H : (if a0_0 = 32 then (F5.j1 kj1 a0_0 (a0_0 == 32) a0_0 a0_1 a0_2) else (if a0_0 = 33 then (F5.j1 kj1 a0_0 (a0_0 == 33) a0_0 a0_1 a0_2) else (F5.j1 kj1 a0_0 (a0_0 == 37) a0_0 a0_1 a0_2))) = some r := by rw [if_neg (show ¬ (false = true) by decide)] at H; exact H
    have HC12 := As.mk H
    clear H
    go_upto_if 18 with (fail)
    go_cut [18] (fun v18 wc => ∃ (kq : Nat) (x18_11 : Bool), v18 = .bool x18_11 ∧ As (F5.j1 kq a0_0 x18_11 a0_0 a0_1 a0_2 = some r) ∧ As (kq ≤ kj1) ∧ As (wc.heap[gb186]? = some (.cells #[.int .i64 a0_0, .int .i64 a0_1, .string a0_2] 80 (0, 0))) ∧ As (Below w.heap.size w wc))
    case first =>
     have H := HC12.out
     clear HC12
     by_cases c13 : a0_0 = 32
     ·rw [if_pos c13] at H
      have c13b0 : (a0_0 == 32) = true := beq_iff_eq.mpr c13
      have c13b1 : (a0_0 != 32) = false := bne_eq_false_iff_eq.mpr c13
      clear c13
      (first | rw [c13b0] | (simp only [i64_w, i32_w]; rw [c13b0]) | skip)
      have H' := As.mk H
      clear H
      go_wp2
      go_meet
      case rel => exact ⟨_, ((a0_0 == 32)), (by first | rfl | (simp; done) | (simp [*]; done)), H', ⟨by have := HJ1.out; first | omega | exact Nat.le_refl _⟩, ⟨by (with_reducible repeat (first | refine kD ?_ _ | refine kE ?_ | refine kA ?_ _)); exact BK186.out⟩, ⟨by repeat (first | (with_reducible first | exact HB.out | apply bA | apply bD | apply bE | refine bS ?_ GE186.out) | exact HB.out)⟩⟩
     ·rw [if_neg c13] at H
      have c13b0 : (a0_0 == 32) = false := beq_eq_false_iff_ne.mpr c13
      have c13b1 : (a0_0 != 32) = true := bne_iff_ne.mpr c13
      (first | rw [c13b0] | (simp only [i64_w, i32_w]; rw [c13b0]) | skip)
      by_cases c14 : a0_0 = 33
      ·rw [if_pos c14] at H
       have c14b0 : (a0_0 == 33) = true := beq_iff_eq.mpr c14
       have c14b1 : (a0_0 != 33) = false := bne_eq_false_iff_eq.mpr c14
       clear c14
       have H' := As.mk H
       clear H
       go_wp2
       go_meet
       case rel => exact ⟨_, ((a0_0 == 33)), (by first | rfl | (simp; done) | (simp [*]; done)), H', ⟨by have := HJ1.out; first | omega | exact Nat.le_refl _⟩, ⟨by (with_reducible repeat (first | refine kD ?_ _ | refine kE ?_ | refine kA ?_ _)); exact BK186.out⟩, ⟨by repeat (first | (with_reducible first | exact HB.out | apply bA | apply bD | apply bE | refine bS ?_ GE186.out) | exact HB.out)⟩⟩
      ·rw [if_neg c14] at H
       have c14b0 : (a0_0 == 33) = false := beq_eq_false_iff_ne.mpr c14
       have c14b1 : (a0_0 != 33) = true := bne_iff_ne.mpr c14
       have H' := As.mk H
       clear H
       go_wp2
       go_meet
       case rel => exact ⟨_, ((a0_0 == 37)), (by first | rfl | (simp; done) | (simp [*]; done)), H', ⟨by have := HJ1.out; first | omega | exact Nat.le_refl _⟩, ⟨by (with_reducible repeat (first | refine kD ?_ _ | refine kE ?_ | refine kA ?_ _)); exact BK186.out⟩, ⟨by repeat (first | (with_reducible first | exact HB.out | apply bA | apply bD | apply bE | refine bS ?_ GE186.out) | exact HB.out)⟩⟩
    case rest =>
     clear HC12
     try clear c8
     try clear hcz4_0
     try clear hcz4_1
     try clear hcz4_2
     try clear hfz4
     obtain ⟨kq, x18_11, rfl, HA, HJ11, BK186, HB⟩ := hcut
     cases kq with
     | zero => exact absurd HA.out (by simp [F5.j1])
     | succ kj11 =>
      have H := HA.out
      clear HA
      simp only [F5.j1] at H
      by_cases c15 : x18_11 = true
      ·subst c15
       replace H : ((F24.f a0_1 0 12999).bind fun t187 => (if t187 = true then (some (a0_2.toList == ([] : List UInt8))) else (some false))) = some r := by rw [if_pos rfl] at H; exact H
       replace H := Option.bind_eq_some_iff.mp H
       obtain ⟨t187, A160, H⟩ := H
       replace H : (if t187 = true then (some (a0_2.toList == ([] : List UInt8))) else (some false)) = some r := H
       have A16 := As.mk A160
       clear A160
       by_cases c17 : t187 = true
       ·subst c17
        replace H : (some (a0_2.toList == ([] : List UInt8))) = some r := by rw [if_pos rfl] at H; exact H
        obtain rfl := Option.some.inj H
        have cz_ := c3_ (w := wc) (g := gb186) BK186.out; obtain ⟨hcz18_0, hcz18_1, hcz18_2⟩ := cz_
        have hfz18 := kF BK186.out
        go_wp2_with (first | ((with_reducible refine gC (f := 46) rfl ?_); refine gL (some 24) rfl rfl Try.func46 (by kernel_rfl) rfl #[.int .i64 a0_1, .int .i64 0, .int .i64 12999] rfl (by (try simp only [sm1, sm2, sm3]); first | done | rfl) ?_; (with_reducible refine (F24.calls a0_1 0 12999 true _ A16.out).mono ?_); rintro e w' ⟨rfl, ⟨nd, rfl⟩⟩; refine ⟨_, rfl, ?_⟩))
        go_ret
        exact ⟨by first | rfl | (simp [eN, eS] <;> rfl) | (simp [*, eN, eS] <;> rfl), by repeat (first | (with_reducible first | exact HB.out | apply bA | apply bD | apply bE | refine bS ?_ GE186.out) | exact HB.out)⟩
       ·replace c17 := Bool.eq_false_iff.mpr c17
        subst c17
        replace H : (some false) = some r := by rw [if_neg (show ¬ (false = true) by decide)] at H; exact H
        obtain rfl := Option.some.inj H
        have cz_ := c3_ (w := wc) (g := gb186) BK186.out; obtain ⟨hcz19_0, hcz19_1, hcz19_2⟩ := cz_
        have hfz19 := kF BK186.out
        go_wp2_with (first | ((with_reducible refine gC (f := 46) rfl ?_); refine gL (some 24) rfl rfl Try.func46 (by kernel_rfl) rfl #[.int .i64 a0_1, .int .i64 0, .int .i64 12999] rfl (by (try simp only [sm1, sm2, sm3]); first | done | rfl) ?_; (with_reducible refine (F24.calls a0_1 0 12999 false _ A16.out).mono ?_); rintro e w' ⟨rfl, ⟨nd, rfl⟩⟩; refine ⟨_, rfl, ?_⟩))
        go_ret
        exact ⟨by first | rfl | (simp [eN, eS] <;> rfl) | (simp [*, eN, eS] <;> rfl), by repeat (first | (with_reducible first | exact HB.out | apply bA | apply bD | apply bE | refine bS ?_ GE186.out) | exact HB.out)⟩
      ·replace c15 := Bool.eq_false_iff.mpr c15
       subst c15
       replace H : (if a0_0 = 35 then (F5.j2 kj11 (a0_0 == 35) a0_0 a0_1 a0_2) else (F5.j2 kj11 (a0_0 == 36) a0_0 a0_1 a0_2)) = some r := by rw [if_neg (show ¬ (false = true) by decide)] at H; exact H
       have HC20 := As.mk H
       clear H
       go_upto_if 30 with (fail)
       go_cut [30] (fun v30 wc => ∃ (kq : Nat) (x30_19 : Bool), v30 = .bool x30_19 ∧ As (F5.j2 kq x30_19 a0_0 a0_1 a0_2 = some r) ∧ As (kq ≤ kj11) ∧ As (wc.heap[gb186]? = some (.cells #[.int .i64 a0_0, .int .i64 a0_1, .string a0_2] 80 (0, 0))) ∧ As (Below w.heap.size w wc))
       case first =>
        have H := HC20.out
        clear HC20
        by_cases c21 : a0_0 = 35
        ·rw [if_pos c21] at H
         have c21b0 : (a0_0 == 35) = true := beq_iff_eq.mpr c21
         have c21b1 : (a0_0 != 35) = false := bne_eq_false_iff_eq.mpr c21
         clear c21
         (first | rw [c21b0] | (simp only [i64_w, i32_w]; rw [c21b0]) | skip)
         have H' := As.mk H
         clear H
         go_wp2
         go_meet
         case rel => exact ⟨_, ((a0_0 == 35)), (by first | rfl | (simp; done) | (simp [*]; done)), H', ⟨by have := HJ1.out; have := HJ11.out; first | omega | exact Nat.le_refl _⟩, ⟨by (with_reducible repeat (first | refine kD ?_ _ | refine kE ?_ | refine kA ?_ _)); exact BK186.out⟩, ⟨by repeat (first | (with_reducible first | exact HB.out | apply bA | apply bD | apply bE | refine bS ?_ GE186.out) | exact HB.out)⟩⟩
        ·rw [if_neg c21] at H
         have c21b0 : (a0_0 == 35) = false := beq_eq_false_iff_ne.mpr c21
         have c21b1 : (a0_0 != 35) = true := bne_iff_ne.mpr c21
         (first | rw [c21b0] | (simp only [i64_w, i32_w]; rw [c21b0]) | skip)
         have H' := As.mk H
         clear H
         go_wp2
         go_meet
         case rel => exact ⟨_, ((a0_0 == 36)), (by first | rfl | (simp; done) | (simp [*]; done)), H', ⟨by have := HJ1.out; have := HJ11.out; first | omega | exact Nat.le_refl _⟩, ⟨by (with_reducible repeat (first | refine kD ?_ _ | refine kE ?_ | refine kA ?_ _)); exact BK186.out⟩, ⟨by repeat (first | (with_reducible first | exact HB.out | apply bA | apply bD | apply bE | refine bS ?_ GE186.out) | exact HB.out)⟩⟩
       case rest =>
        clear HC20
        try clear c8
        try clear c15
        try clear hcz4_0
        try clear hcz4_1
        try clear hcz4_2
        try clear hfz4
        obtain ⟨kq, x30_19, rfl, HA, HJ19, BK186, HB⟩ := hcut
        cases kq with
        | zero => exact absurd HA.out (by simp [F5.j2])
        | succ kj19 =>
         have H := HA.out
         clear HA
         simp only [F5.j2] at H
         by_cases c22 : x30_19 = true
         ·subst c22
          replace H : (if a0_1 = 0 then ((F21.f kj19 a0_2).bind fun t188 => (some t188)) else (some false)) = some r := by rw [if_pos rfl] at H; exact H
          by_cases c23 : a0_1 = 0
          ·rw [if_pos c23] at H
           have c23b0 : (a0_1 == 0) = true := beq_iff_eq.mpr c23
           have c23b1 : (a0_1 != 0) = false := bne_eq_false_iff_eq.mpr c23
           clear c23
           replace H := Option.bind_eq_some_iff.mp H
           obtain ⟨t188, A240, H⟩ := H
           replace H : (some t188) = some r := H
           have A24 := As.mk A240
           clear A240
           obtain rfl := Option.some.inj H
           have cz_ := c3_ (w := wc) (g := gb186) BK186.out; obtain ⟨hcz25_0, hcz25_1, hcz25_2⟩ := cz_
           have hfz25 := kF BK186.out
           go_wp2_with (first | (go_at_call 47; (with_reducible refine (F21.calls kj19 a0_2 t188 _ A24.out).mono ?_); rintro e w' ⟨rfl, ⟨nd, rfl⟩⟩))
           go_ret
           exact ⟨by first | rfl | (simp [eN, eS] <;> rfl) | (simp [*, eN, eS] <;> rfl), by repeat (first | (with_reducible first | exact HB.out | apply bA | apply bD | apply bE | refine bS ?_ GE186.out) | exact HB.out)⟩
          ·rw [if_neg c23] at H
           have c23b0 : (a0_1 == 0) = false := beq_eq_false_iff_ne.mpr c23
           have c23b1 : (a0_1 != 0) = true := bne_iff_ne.mpr c23
           obtain rfl := Option.some.inj H
           have cz_ := c3_ (w := wc) (g := gb186) BK186.out; obtain ⟨hcz26_0, hcz26_1, hcz26_2⟩ := cz_
           have hfz26 := kF BK186.out
           go_wp2
           go_ret
           exact ⟨by first | rfl | (simp [eN, eS] <;> rfl) | (simp [*, eN, eS] <;> rfl), by repeat (first | (with_reducible first | exact HB.out | apply bA | apply bD | apply bE | refine bS ?_ GE186.out) | exact HB.out)⟩
         ·replace c22 := Bool.eq_false_iff.mpr c22
          subst c22
          replace H : ((spec_l13Leaf.f a0_0).bind fun t189 => (if t189 = true then ((F33.f kj19 a0_0 a0_1 a0_2 ([] : List (S105))).bind fun t190 => (some t190)) else (some false))) = some r := by rw [if_neg (show ¬ (false = true) by decide)] at H; exact H
          replace H := Option.bind_eq_some_iff.mp H
          obtain ⟨t189, A270, H⟩ := H
          replace H : (if t189 = true then ((F33.f kj19 a0_0 a0_1 a0_2 ([] : List (S105))).bind fun t190 => (some t190)) else (some false)) = some r := H
          have A27 := As.mk A270
          clear A270
          by_cases c28 : t189 = true
          ·subst c28
           replace H : ((F33.f kj19 a0_0 a0_1 a0_2 ([] : List (S105))).bind fun t190 => (some t190)) = some r := by rw [if_pos rfl] at H; exact H
           replace H := Option.bind_eq_some_iff.mp H
           obtain ⟨t190, A290, H⟩ := H
           replace H : (some t190) = some r := H
           have A29 := As.mk A290
           clear A290
           obtain rfl := Option.some.inj H
           have cz_ := c3_ (w := wc) (g := gb186) BK186.out; obtain ⟨hcz30_0, hcz30_1, hcz30_2⟩ := cz_
           have hfz30 := kF BK186.out
           go_wp2_with (first | ((with_reducible refine gC (f := 66) rfl ?_); refine gL (some 43) rfl rfl Try.func66 (by kernel_rfl) rfl #[.int .i64 a0_0] rfl (by (try simp only [sm1, sm2, sm3]); first | done | rfl) ?_; (with_reducible refine (spec_l13Leaf.calls a0_0 true _ A27.out).mono ?_); rintro e w' ⟨rfl, ⟨nd, rfl⟩⟩; refine ⟨_, rfl, ?_⟩) | (go_at_call 67; (refine (F33.calls kj19 a0_0 a0_1 a0_2 _ _ ([] : List (S105)) t190 _ ?side1 ?side2 A29.out).mono ?_); (case side1 => exact Kd.C_nil _ _); (case side2 => exact Nat.le_refl _); rintro e w31 ⟨rfl, hb⟩; replace BK186 := As.mk (kB (g := gb186) (o := .cells #[.int .i64 a0_0, .int .i64 a0_1, .string a0_2] 80 (0, 0)) (by (with_reducible repeat (first | refine kD ?_ _ | refine kE ?_ | refine kA ?_ _)); exact BK186.out) hb); replace HB := As.mk (bT (by repeat (first | (with_reducible first | exact HB.out | apply bA | apply bD | apply bE | refine bS ?_ GE186.out) | exact HB.out)) hb); (try clear hb)))
           go_ret
           exact ⟨by first | rfl | (simp [eN, eS] <;> rfl) | (simp [*, eN, eS] <;> rfl), by repeat (first | (with_reducible first | exact HB.out | apply bA | apply bD | apply bE | refine bS ?_ GE186.out) | exact HB.out)⟩
          ·replace c28 := Bool.eq_false_iff.mpr c28
           subst c28
           replace H : (some false) = some r := by rw [if_neg (show ¬ (false = true) by decide)] at H; exact H
           obtain rfl := Option.some.inj H
           have cz_ := c3_ (w := wc) (g := gb186) BK186.out; obtain ⟨hcz32_0, hcz32_1, hcz32_2⟩ := cz_
           have hfz32 := kF BK186.out
           go_wp2_with (first | ((with_reducible refine gC (f := 66) rfl ?_); refine gL (some 43) rfl rfl Try.func66 (by kernel_rfl) rfl #[.int .i64 a0_0] rfl (by (try simp only [sm1, sm2, sm3]); first | done | rfl) ?_; (with_reducible refine (spec_l13Leaf.calls a0_0 false _ A27.out).mono ?_); rintro e w' ⟨rfl, ⟨nd, rfl⟩⟩; refine ⟨_, rfl, ?_⟩))
           go_ret
           exact ⟨by first | rfl | (simp [eN, eS] <;> rfl) | (simp [*, eN, eS] <;> rfl), by repeat (first | (with_reducible first | exact HB.out | apply bA | apply bD | apply bE | refine bS ?_ GE186.out) | exact HB.out)⟩
end Go.Proofs.Ytbamjjaamjfnaaa.PFnExactNewMatcher
