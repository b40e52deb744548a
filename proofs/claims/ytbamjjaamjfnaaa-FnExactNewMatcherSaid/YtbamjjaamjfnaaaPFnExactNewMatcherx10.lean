/- Walks of printed functions. Conditions: none beyond each statement. -/
import Derived.Test.YtbamjjaamjfnaaaPFnExactNewMatcherx0
import Derived.Test.YtbamjjaamjfnaaaPFnExactNewMatcherx9
namespace Go.Proofs.Ytbamjjaamjfnaaa.PFnExactNewMatcher
open Go.RowKit Go.Proofs.YtbamjjaamjfnaaaW.PrintWords Go.Proofs.YtbamjjaamjfnaaaW.PrintLast Go.Proofs.YtbamjjaamjfnaaaW.PrintMore
set_option maxHeartbeats 8000000
set_option maxRecDepth 100000
attribute [local go_sem] max2_int min2_int max_two min_two max_three min_three max_four min_four   -- for this text's walks alone
set_option linter.unusedVariables false
set_option linter.unusedSimpArgs false
def impl_isArgument.f (k : Nat) (a0 : Int) (a1 : Int) (a2 : ByteArray) : Option (Bool) := if a0 = 1 then (if a1 = 0 then ((impl_isShort.f a2).bind fun t279 => (some t279)) else (some false)) else ((impl_hasSet.f a0).bind fun t280 => (if t280 = true then (if a1 = 0 then (if a2.toList = ([] : List UInt8) then (some false) else ((impl_isShort.f a2).bind fun t281 => (some t281))) else (some false)) else ((impl_hasNumber.f a0).bind fun t282 => (if t282 = true then (if a2.toList = ([] : List UInt8) then ((F28.f a1 0 200).bind fun t283 => (some t283)) else (some false)) else ((impl_hasName.f a0).bind fun t284 => (if t284 = true then (if a1 = 0 then ((F26.f k a2).bind fun t285 => (some t285)) else (some false)) else ((F30.f a0).bind fun t286 => (if t286 = true then (if a1 = 0 then (some (a2.toList == ([] : List UInt8))) else (some false)) else (some false)))))))))
theorem impl_isArgument.mono : ∀ a0 a1 a2 k, LeO (impl_isArgument.f k a0 a1 a2) (impl_isArgument.f (k + 1) a0 a1 a2) := by
 intro a0 a1 a2 k
 unfold impl_isArgument.f
 repeat' with_reducible first
   | exact F26.mono _ _
   | exact LeO.refl _
   | exact LeO.none _
   | refine LeO.ite ?_ ?_
   | refine LeO.bind ?_ (fun _ => ?_)
theorem impl_isArgument.calls (k : Nat) (a0 : Int) (a1 : Int) (a2 : ByteArray) (r : Bool) (w : World) (h : impl_isArgument.f k a0 a1 a2 = some r) :
  Calls Try.prog 69 #[.int .i64 a0, .int .i64 a1, .string a2] w fun e w' => e = .returned (.bool r) ∧ Below w.heap.size w w' := by
 have HB := As.mk (Below.refl w.heap.size w)
 have H : (if a0 = 1 then (if a1 = 0 then ((impl_isShort.f a2).bind fun t279 => (some t279)) else (some false)) else ((impl_hasSet.f a0).bind fun t280 => (if t280 = true then (if a1 = 0 then (if a2.toList = ([] : List UInt8) then (some false) else ((impl_isShort.f a2).bind fun t281 => (some t281))) else (some false)) else ((impl_hasNumber.f a0).bind fun t282 => (if t282 = true then (if a2.toList = ([] : List UInt8) then ((F28.f a1 0 200).bind fun t283 => (some t283)) else (some false)) else ((impl_hasName.f a0).bind fun t284 => (if t284 = true then (if a1 = 0 then ((F26.f k a2).bind fun t285 => (some t285)) else (some false)) else ((F30.f a0).bind fun t286 => (if t286 = true then (if a1 = 0 then (some (a2.toList == ([] : List UInt8))) else (some false)) else (some false)))))))))) = some r := h
 clear h
 by_cases c4 : a0 = 1
 ·rw [if_pos c4] at H
  have c4b0 : (a0 == 1) = true := beq_iff_eq.mpr c4
  have c4b1 : (a0 != 1) = false := bne_eq_false_iff_eq.mpr c4
  clear c4
  by_cases c5 : a1 = 0
  ·rw [if_pos c5] at H
   have c5b0 : (a1 == 0) = true := beq_iff_eq.mpr c5
   have c5b1 : (a1 != 0) = false := bne_eq_false_iff_eq.mpr c5
   clear c5
   replace H := Option.bind_eq_some_iff.mp H
   obtain ⟨t279, A60, H⟩ := H
   replace H : (some t279) = some r := H
   have A6 := As.mk A60
   clear A60
   obtain rfl := Option.some.inj H
   go_enter Try.func69, Try.ntmps69
   go_wp2_with (first | (go_at_call 33; (with_reducible refine (impl_isShort.calls a2 t279 _ A6.out).mono ?_); rintro e w' ⟨rfl, ⟨nd, rfl⟩⟩))
   go_ret
   exact ⟨by first | rfl | (simp [eN, eS] <;> rfl) | (simp [nE]; done) | (simp [*, eN, eS] <;> rfl), by repeat (first | (with_reducible first | exact HB.out | apply bA | apply bD | apply bE) | exact HB.out)⟩
  ·rw [if_neg c5] at H
   have c5b0 : (a1 == 0) = false := beq_eq_false_iff_ne.mpr c5
   have c5b1 : (a1 != 0) = true := bne_iff_ne.mpr c5
   obtain rfl := Option.some.inj H
   go_enter Try.func69, Try.ntmps69
   go_wp2
   go_ret
   exact ⟨by first | rfl | (simp [eN, eS] <;> rfl) | (simp [nE]; done) | (simp [*, eN, eS] <;> rfl), by repeat (first | (with_reducible first | exact HB.out | apply bA | apply bD | apply bE) | exact HB.out)⟩
 ·rw [if_neg c4] at H
  have c4b0 : (a0 == 1) = false := beq_eq_false_iff_ne.mpr c4
  have c4b1 : (a0 != 1) = true := bne_iff_ne.mpr c4
  replace H := Option.bind_eq_some_iff.mp H
  obtain ⟨t280, A70, H⟩ := H
  replace H : (if t280 = true then (if a1 = 0 then (if a2.toList = ([] : List UInt8) then (some false) else ((impl_isShort.f a2).bind fun t281 => (some t281))) else (some false)) else ((impl_hasNumber.f a0).bind fun t282 => (if t282 = true then (if a2.toList = ([] : List UInt8) then ((F28.f a1 0 200).bind fun t283 => (some t283)) else (some false)) else ((impl_hasName.f a0).bind fun t284 => (if t284 = true then (if a1 = 0 then ((F26.f k a2).bind fun t285 => (some t285)) else (some false)) else ((F30.f a0).bind fun t286 => (if t286 = true then (if a1 = 0 then (some (a2.toList == ([] : List UInt8))) else (some false)) else (some false)))))))) = some r := H
  have A7 := As.mk A70
  clear A70
  by_cases c8 : t280 = true
  ·subst c8
   replace H : (if a1 = 0 then (if a2.toList = ([] : List UInt8) then (some false) else ((impl_isShort.f a2).bind fun t281 => (some t281))) else (some false)) = some r := by rw [if_pos rfl] at H; exact H
   by_cases c9 : a1 = 0
   ·rw [if_pos c9] at H
    have c9b0 : (a1 == 0) = true := beq_iff_eq.mpr c9
    have c9b1 : (a1 != 0) = false := bne_eq_false_iff_eq.mpr c9
    clear c9
    by_cases c10 : a2.toList = ([] : List UInt8)
    ·rw [if_pos c10] at H
     have c10b0 : (a2.toList == ([] : List UInt8)) = true := beq_iff_eq.mpr c10
     have c10b1 : (a2.toList != ([] : List UInt8)) = false := bne_eq_false_iff_eq.mpr c10
     clear c10
     obtain rfl := Option.some.inj H
     go_enter Try.func69, Try.ntmps69
     go_wp2_with (first | ((with_reducible refine gC (f := 86) rfl ?_); refine gL (some 18) rfl rfl Try.func86 (by kernel_rfl) rfl #[.int .i64 a0] rfl (by (try simp only [sm1, sm2, sm3]); first | done | rfl) ?_; (with_reducible refine (impl_hasSet.calls a0 true _ A7.out).mono ?_); rintro e w' ⟨rfl, ⟨nd, rfl⟩⟩; refine ⟨_, rfl, ?_⟩))
     go_ret
     exact ⟨by first | rfl | (simp [eN, eS] <;> rfl) | (simp [nE]; done) | (simp [*, eN, eS] <;> rfl), by repeat (first | (with_reducible first | exact HB.out | apply bA | apply bD | apply bE) | exact HB.out)⟩
    ·rw [if_neg c10] at H
     have c10b0 : (a2.toList == ([] : List UInt8)) = false := beq_eq_false_iff_ne.mpr c10
     have c10b1 : (a2.toList != ([] : List UInt8)) = true := bne_iff_ne.mpr c10
     replace H := Option.bind_eq_some_iff.mp H
     obtain ⟨t281, A110, H⟩ := H
     replace H : (some t281) = some r := H
     have A11 := As.mk A110
     clear A110
     obtain rfl := Option.some.inj H
     go_enter Try.func69, Try.ntmps69
     go_wp2_with (first | ((with_reducible refine gC (f := 86) rfl ?_); refine gL (some 18) rfl rfl Try.func86 (by kernel_rfl) rfl #[.int .i64 a0] rfl (by (try simp only [sm1, sm2, sm3]); first | done | rfl) ?_; (with_reducible refine (impl_hasSet.calls a0 true _ A7.out).mono ?_); rintro e w' ⟨rfl, ⟨nd, rfl⟩⟩; refine ⟨_, rfl, ?_⟩) | (go_at_call 33; (with_reducible refine (impl_isShort.calls a2 t281 _ A11.out).mono ?_); rintro e w' ⟨rfl, ⟨nd, rfl⟩⟩))
     go_ret
     exact ⟨by first | rfl | (simp [eN, eS] <;> rfl) | (simp [nE]; done) | (simp [*, eN, eS] <;> rfl), by repeat (first | (with_reducible first | exact HB.out | apply bA | apply bD | apply bE) | exact HB.out)⟩
   ·rw [if_neg c9] at H
    have c9b0 : (a1 == 0) = false := beq_eq_false_iff_ne.mpr c9
    have c9b1 : (a1 != 0) = true := bne_iff_ne.mpr c9
    obtain rfl := Option.some.inj H
    go_enter Try.func69, Try.ntmps69
    go_wp2_with (first | ((with_reducible refine gC (f := 86) rfl ?_); refine gL (some 18) rfl rfl Try.func86 (by kernel_rfl) rfl #[.int .i64 a0] rfl (by (try simp only [sm1, sm2, sm3]); first | done | rfl) ?_; (with_reducible refine (impl_hasSet.calls a0 true _ A7.out).mono ?_); rintro e w' ⟨rfl, ⟨nd, rfl⟩⟩; refine ⟨_, rfl, ?_⟩))
    go_ret
    exact ⟨by first | rfl | (simp [eN, eS] <;> rfl) | (simp [nE]; done) | (simp [*, eN, eS] <;> rfl), by repeat (first | (with_reducible first | exact HB.out | apply bA | apply bD | apply bE) | exact HB.out)⟩
  ·replace c8 := Bool.eq_false_iff.mpr c8
   subst c8
   replace H : ((impl_hasNumber.f a0).bind fun t282 => (if t282 = true then (if a2.toList = ([] : List UInt8) then ((F28.f a1 0 200).bind fun t283 => (some t283)) else (some false)) else ((impl_hasName.f a0).bind fun t284 => (if t284 = true then (if a1 = 0 then ((F26.f k a2).bind fun t285 => (some t285)) else (some false)) else ((F30.f a0).bind fun t286 => (if t286 = true then (if a1 = 0 then (some (a2.toList == ([] : List UInt8))) else (some false)) else (some false))))))) = some r := by rw [if_neg (show ¬ (false = true) by decide)] at H; exact H
   replace H := Option.bind_eq_some_iff.mp H
   obtain ⟨t282, A120, H⟩ := H
   replace H : (if t282 = true then (if a2.toList = ([] : List UInt8) then ((F28.f a1 0 200).bind fun t283 => (some t283)) else (some false)) else ((impl_hasName.f a0).bind fun t284 => (if t284 = true then (if a1 = 0 then ((F26.f k a2).bind fun t285 => (some t285)) else (some false)) else ((F30.f a0).bind fun t286 => (if t286 = true then (if a1 = 0 then (some (a2.toList == ([] : List UInt8))) else (some false)) else (some false)))))) = some r := H
   have A12 := As.mk A120
   clear A120
   by_cases c13 : t282 = true
   ·subst c13
    replace H : (if a2.toList = ([] : List UInt8) then ((F28.f a1 0 200).bind fun t283 => (some t283)) else (some false)) = some r := by rw [if_pos rfl] at H; exact H
    by_cases c14 : a2.toList = ([] : List UInt8)
    ·rw [if_pos c14] at H
     have c14b0 : (a2.toList == ([] : List UInt8)) = true := beq_iff_eq.mpr c14
     have c14b1 : (a2.toList != ([] : List UInt8)) = false := bne_eq_false_iff_eq.mpr c14
     clear c14
     replace H := Option.bind_eq_some_iff.mp H
     obtain ⟨t283, A150, H⟩ := H
     replace H : (some t283) = some r := H
     have A15 := As.mk A150
     clear A150
     obtain rfl := Option.some.inj H
     go_enter Try.func69, Try.ntmps69
     go_wp2_with (first | ((with_reducible refine gC (f := 86) rfl ?_); refine gL (some 18) rfl rfl Try.func86 (by kernel_rfl) rfl #[.int .i64 a0] rfl (by (try simp only [sm1, sm2, sm3]); first | done | rfl) ?_; (with_reducible refine (impl_hasSet.calls a0 false _ A7.out).mono ?_); rintro e w' ⟨rfl, ⟨nd, rfl⟩⟩; refine ⟨_, rfl, ?_⟩) | ((with_reducible refine gC (f := 87) rfl ?_); refine gL (some 31) rfl rfl Try.func87 (by kernel_rfl) rfl #[.int .i64 a0] rfl (by (try simp only [sm1, sm2, sm3]); first | done | rfl) ?_; (with_reducible refine (impl_hasNumber.calls a0 true _ A12.out).mono ?_); rintro e w' ⟨rfl, ⟨nd, rfl⟩⟩; refine ⟨_, rfl, ?_⟩) | (go_at_call 74; (with_reducible refine (F28.calls a1 0 200 t283 _ A15.out).mono ?_); rintro e w' ⟨rfl, ⟨nd, rfl⟩⟩))
     go_ret
     exact ⟨by first | rfl | (simp [eN, eS] <;> rfl) | (simp [nE]; done) | (simp [*, eN, eS] <;> rfl), by repeat (first | (with_reducible first | exact HB.out | apply bA | apply bD | apply bE) | exact HB.out)⟩
    ·rw [if_neg c14] at H
     have c14b0 : (a2.toList == ([] : List UInt8)) = false := beq_eq_false_iff_ne.mpr c14
     have c14b1 : (a2.toList != ([] : List UInt8)) = true := bne_iff_ne.mpr c14
     obtain rfl := Option.some.inj H
     go_enter Try.func69, Try.ntmps69
     go_wp2_with (first | ((with_reducible refine gC (f := 86) rfl ?_); refine gL (some 18) rfl rfl Try.func86 (by kernel_rfl) rfl #[.int .i64 a0] rfl (by (try simp only [sm1, sm2, sm3]); first | done | rfl) ?_; (with_reducible refine (impl_hasSet.calls a0 false _ A7.out).mono ?_); rintro e w' ⟨rfl, ⟨nd, rfl⟩⟩; refine ⟨_, rfl, ?_⟩) | ((with_reducible refine gC (f := 87) rfl ?_); refine gL (some 31) rfl rfl Try.func87 (by kernel_rfl) rfl #[.int .i64 a0] rfl (by (try simp only [sm1, sm2, sm3]); first | done | rfl) ?_; (with_reducible refine (impl_hasNumber.calls a0 true _ A12.out).mono ?_); rintro e w' ⟨rfl, ⟨nd, rfl⟩⟩; refine ⟨_, rfl, ?_⟩))
     go_ret
     exact ⟨by first | rfl | (simp [eN, eS] <;> rfl) | (simp [nE]; done) | (simp [*, eN, eS] <;> rfl), by repeat (first | (with_reducible first | exact HB.out | apply bA | apply bD | apply bE) | exact HB.out)⟩
   ·replace c13 := Bool.eq_false_iff.mpr c13
    subst c13
    replace H : ((impl_hasName.f a0).bind fun t284 => (if t284 = true then (if a1 = 0 then ((F26.f k a2).bind fun t285 => (some t285)) else (some false)) else ((F30.f a0).bind fun t286 => (if t286 = true then (if a1 = 0 then (some (a2.toList == ([] : List UInt8))) else (some false)) else (some false))))) = some r := by rw [if_neg (show ¬ (false = true) by decide)] at H; exact H
    replace H := Option.bind_eq_some_iff.mp H
    obtain ⟨t284, A160, H⟩ := H
    replace H : (if t284 = true then (if a1 = 0 then ((F26.f k a2).bind fun t285 => (some t285)) else (some false)) else ((F30.f a0).bind fun t286 => (if t286 = true then (if a1 = 0 then (some (a2.toList == ([] : List UInt8))) else (some false)) else (some false)))) = some r := H
    have A16 := As.mk A160
    clear A160
    by_cases c17 : t284 = true
    ·subst c17
     replace H : (if a1 = 0 then ((F26.f k a2).bind fun t285 => (some t285)) else (some false)) = some r := by rw [if_pos rfl] at H; exact H
     by_cases c18 : a1 = 0
     ·rw [if_pos c18] at H
      have c18b0 : (a1 == 0) = true := beq_iff_eq.mpr c18
      have c18b1 : (a1 != 0) = false := bne_eq_false_iff_eq.mpr c18
      clear c18
      replace H := Option.bind_eq_some_iff.mp H
      obtain ⟨t285, A190, H⟩ := H
      replace H : (some t285) = some r := H
      have A19 := As.mk A190
      clear A190
      obtain rfl := Option.some.inj H
      go_enter Try.func69, Try.ntmps69
      go_wp2_with (first | ((with_reducible refine gC (f := 86) rfl ?_); refine gL (some 18) rfl rfl Try.func86 (by kernel_rfl) rfl #[.int .i64 a0] rfl (by (try simp only [sm1, sm2, sm3]); first | done | rfl) ?_; (with_reducible refine (impl_hasSet.calls a0 false _ A7.out).mono ?_); rintro e w' ⟨rfl, ⟨nd, rfl⟩⟩; refine ⟨_, rfl, ?_⟩) | ((with_reducible refine gC (f := 87) rfl ?_); refine gL (some 31) rfl rfl Try.func87 (by kernel_rfl) rfl #[.int .i64 a0] rfl (by (try simp only [sm1, sm2, sm3]); first | done | rfl) ?_; (with_reducible refine (impl_hasNumber.calls a0 false _ A12.out).mono ?_); rintro e w' ⟨rfl, ⟨nd, rfl⟩⟩; refine ⟨_, rfl, ?_⟩) | ((with_reducible refine gC (f := 88) rfl ?_); refine gL (some 40) rfl rfl Try.func88 (by kernel_rfl) rfl #[.int .i64 a0] rfl (by (try simp only [sm1, sm2, sm3]); first | done | rfl) ?_; (with_reducible refine (impl_hasName.calls a0 true _ A16.out).mono ?_); rintro e w' ⟨rfl, ⟨nd, rfl⟩⟩; refine ⟨_, rfl, ?_⟩) | (go_at_call 73; (with_reducible refine (F26.calls k a2 t285 _ A19.out).mono ?_); rintro e w20 ⟨rfl, hb⟩; replace HB := As.mk (bT (by repeat (first | (with_reducible first | exact HB.out | apply bA | apply bD | apply bE) | exact HB.out)) hb); (try clear hb); (try clear hk)))
      go_ret
      exact ⟨by first | rfl | (simp [eN, eS] <;> rfl) | (simp [nE]; done) | (simp [*, eN, eS] <;> rfl), by repeat (first | (with_reducible first | exact HB.out | apply bA | apply bD | apply bE) | exact HB.out)⟩
     ·rw [if_neg c18] at H
      have c18b0 : (a1 == 0) = false := beq_eq_false_iff_ne.mpr c18
      have c18b1 : (a1 != 0) = true := bne_iff_ne.mpr c18
      obtain rfl := Option.some.inj H
      go_enter Try.func69, Try.ntmps69
      go_wp2_with (first | ((with_reducible refine gC (f := 86) rfl ?_); refine gL (some 18) rfl rfl Try.func86 (by kernel_rfl) rfl #[.int .i64 a0] rfl (by (try simp only [sm1, sm2, sm3]); first | done | rfl) ?_; (with_reducible refine (impl_hasSet.calls a0 false _ A7.out).mono ?_); rintro e w' ⟨rfl, ⟨nd, rfl⟩⟩; refine ⟨_, rfl, ?_⟩) | ((with_reducible refine gC (f := 87) rfl ?_); refine gL (some 31) rfl rfl Try.func87 (by kernel_rfl) rfl #[.int .i64 a0] rfl (by (try simp only [sm1, sm2, sm3]); first | done | rfl) ?_; (with_reducible refine (impl_hasNumber.calls a0 false _ A12.out).mono ?_); rintro e w' ⟨rfl, ⟨nd, rfl⟩⟩; refine ⟨_, rfl, ?_⟩) | ((with_reducible refine gC (f := 88) rfl ?_); refine gL (some 40) rfl rfl Try.func88 (by kernel_rfl) rfl #[.int .i64 a0] rfl (by (try simp only [sm1, sm2, sm3]); first | done | rfl) ?_; (with_reducible refine (impl_hasName.calls a0 true _ A16.out).mono ?_); rintro e w' ⟨rfl, ⟨nd, rfl⟩⟩; refine ⟨_, rfl, ?_⟩))
      go_ret
      exact ⟨by first | rfl | (simp [eN, eS] <;> rfl) | (simp [nE]; done) | (simp [*, eN, eS] <;> rfl), by repeat (first | (with_reducible first | exact HB.out | apply bA | apply bD | apply bE) | exact HB.out)⟩
    ·replace c17 := Bool.eq_false_iff.mpr c17
     subst c17
     replace H : ((F30.f a0).bind fun t286 => (if t286 = true then (if a1 = 0 then (some (a2.toList == ([] : List UInt8))) else (some false)) else (some false))) = some r := by rw [if_neg (show ¬ (false = true) by decide)] at H; exact H
     replace H := Option.bind_eq_some_iff.mp H
     obtain ⟨t286, A210, H⟩ := H
     replace H : (if t286 = true then (if a1 = 0 then (some (a2.toList == ([] : List UInt8))) else (some false)) else (some false)) = some r := H
     have A21 := As.mk A210
     clear A210
     by_cases c22 : t286 = true
     ·subst c22
      replace H : (if a1 = 0 then (some (a2.toList == ([] : List UInt8))) else (some false)) = some r := by rw [if_pos rfl] at H; exact H
      by_cases c23 : a1 = 0
      ·rw [if_pos c23] at H
       have c23b0 : (a1 == 0) = true := beq_iff_eq.mpr c23
       have c23b1 : (a1 != 0) = false := bne_eq_false_iff_eq.mpr c23
       clear c23
       obtain rfl := Option.some.inj H
       go_enter Try.func69, Try.ntmps69
       go_wp2_with (first | ((with_reducible refine gC (f := 86) rfl ?_); refine gL (some 18) rfl rfl Try.func86 (by kernel_rfl) rfl #[.int .i64 a0] rfl (by (try simp only [sm1, sm2, sm3]); first | done | rfl) ?_; (with_reducible refine (impl_hasSet.calls a0 false _ A7.out).mono ?_); rintro e w' ⟨rfl, ⟨nd, rfl⟩⟩; refine ⟨_, rfl, ?_⟩) | ((with_reducible refine gC (f := 87) rfl ?_); refine gL (some 31) rfl rfl Try.func87 (by kernel_rfl) rfl #[.int .i64 a0] rfl (by (try simp only [sm1, sm2, sm3]); first | done | rfl) ?_; (with_reducible refine (impl_hasNumber.calls a0 false _ A12.out).mono ?_); rintro e w' ⟨rfl, ⟨nd, rfl⟩⟩; refine ⟨_, rfl, ?_⟩) | ((with_reducible refine gC (f := 88) rfl ?_); refine gL (some 40) rfl rfl Try.func88 (by kernel_rfl) rfl #[.int .i64 a0] rfl (by (try simp only [sm1, sm2, sm3]); first | done | rfl) ?_; (with_reducible refine (impl_hasName.calls a0 false _ A16.out).mono ?_); rintro e w' ⟨rfl, ⟨nd, rfl⟩⟩; refine ⟨_, rfl, ?_⟩) | ((with_reducible refine gC (f := 84) rfl ?_); refine gL (some 48) rfl rfl Try.func84 (by kernel_rfl) rfl #[.int .i64 a0] rfl (by (try simp only [sm1, sm2, sm3]); first | done | rfl) ?_; (with_reducible refine (F30.calls a0 true _ A21.out).mono ?_); rintro e w' ⟨rfl, ⟨nd, rfl⟩⟩; refine ⟨_, rfl, ?_⟩))
       go_ret
       exact ⟨by first | rfl | (simp [eN, eS] <;> rfl) | (simp [nE]; done) | (simp [*, eN, eS] <;> rfl), by repeat (first | (with_reducible first | exact HB.out | apply bA | apply bD | apply bE) | exact HB.out)⟩
      ·rw [if_neg c23] at H
       have c23b0 : (a1 == 0) = false := beq_eq_false_iff_ne.mpr c23
       have c23b1 : (a1 != 0) = true := bne_iff_ne.mpr c23
       obtain rfl := Option.some.inj H
       go_enter Try.func69, Try.ntmps69
       go_wp2_with (first | ((with_reducible refine gC (f := 86) rfl ?_); refine gL (some 18) rfl rfl Try.func86 (by kernel_rfl) rfl #[.int .i64 a0] rfl (by (try simp only [sm1, sm2, sm3]); first | done | rfl) ?_; (with_reducible refine (impl_hasSet.calls a0 false _ A7.out).mono ?_); rintro e w' ⟨rfl, ⟨nd, rfl⟩⟩; refine ⟨_, rfl, ?_⟩) | ((with_reducible refine gC (f := 87) rfl ?_); refine gL (some 31) rfl rfl Try.func87 (by kernel_rfl) rfl #[.int .i64 a0] rfl (by (try simp only [sm1, sm2, sm3]); first | done | rfl) ?_; (with_reducible refine (impl_hasNumber.calls a0 false _ A12.out).mono ?_); rintro e w' ⟨rfl, ⟨nd, rfl⟩⟩; refine ⟨_, rfl, ?_⟩) | ((with_reducible refine gC (f := 88) rfl ?_); refine gL (some 40) rfl rfl Try.func88 (by kernel_rfl) rfl #[.int .i64 a0] rfl (by (try simp only [sm1, sm2, sm3]); first | done | rfl) ?_; (with_reducible refine (impl_hasName.calls a0 false _ A16.out).mono ?_); rintro e w' ⟨rfl, ⟨nd, rfl⟩⟩; refine ⟨_, rfl, ?_⟩) | ((with_reducible refine gC (f := 84) rfl ?_); refine gL (some 48) rfl rfl Try.func84 (by kernel_rfl) rfl #[.int .i64 a0] rfl (by (try simp only [sm1, sm2, sm3]); first | done | rfl) ?_; (with_reducible refine (F30.calls a0 true _ A21.out).mono ?_); rintro e w' ⟨rfl, ⟨nd, rfl⟩⟩; refine ⟨_, rfl, ?_⟩))
       go_ret
       exact ⟨by first | rfl | (simp [eN, eS] <;> rfl) | (simp [nE]; done) | (simp [*, eN, eS] <;> rfl), by repeat (first | (with_reducible first | exact HB.out | apply bA | apply bD | apply bE) | exact HB.out)⟩
     ·replace c22 := Bool.eq_false_iff.mpr c22
      subst c22
      replace H : (some false) = some r := by rw [if_neg (show ¬ (false = true) by decide)] at H; exact H
      obtain rfl := Option.some.inj H
      go_enter Try.func69, Try.ntmps69
      go_wp2_with (first | ((with_reducible refine gC (f := 86) rfl ?_); refine gL (some 18) rfl rfl Try.func86 (by kernel_rfl) rfl #[.int .i64 a0] rfl (by (try simp only [sm1, sm2, sm3]); first | done | rfl) ?_; (with_reducible refine (impl_hasSet.calls a0 false _ A7.out).mono ?_); rintro e w' ⟨rfl, ⟨nd, rfl⟩⟩; refine ⟨_, rfl, ?_⟩) | ((with_reducible refine gC (f := 87) rfl ?_); refine gL (some 31) rfl rfl Try.func87 (by kernel_rfl) rfl #[.int .i64 a0] rfl (by (try simp only [sm1, sm2, sm3]); first | done | rfl) ?_; (with_reducible refine (impl_hasNumber.calls a0 false _ A12.out).mono ?_); rintro e w' ⟨rfl, ⟨nd, rfl⟩⟩; refine ⟨_, rfl, ?_⟩) | ((with_reducible refine gC (f := 88) rfl ?_); refine gL (some 40) rfl rfl Try.func88 (by kernel_rfl) rfl #[.int .i64 a0] rfl (by (try simp only [sm1, sm2, sm3]); first | done | rfl) ?_; (with_reducible refine (impl_hasName.calls a0 false _ A16.out).mono ?_); rintro e w' ⟨rfl, ⟨nd, rfl⟩⟩; refine ⟨_, rfl, ?_⟩) | ((with_reducible refine gC (f := 84) rfl ?_); refine gL (some 48) rfl rfl Try.func84 (by kernel_rfl) rfl #[.int .i64 a0] rfl (by (try simp only [sm1, sm2, sm3]); first | done | rfl) ?_; (with_reducible refine (F30.calls a0 false _ A21.out).mono ?_); rintro e w' ⟨rfl, ⟨nd, rfl⟩⟩; refine ⟨_, rfl, ?_⟩))
      go_ret
      exact ⟨by first | rfl | (simp [eN, eS] <;> rfl) | (simp [nE]; done) | (simp [*, eN, eS] <;> rfl), by repeat (first | (with_reducible first | exact HB.out | apply bA | apply bD | apply bE) | exact HB.out)⟩
def F27.f (a0 : Int) : Option (Bool) := if a0 = 32 then (some true) else (if a0 = 33 then (some true) else (some (a0 == 37)))
theorem F27.calls (a0 : Int) (r : Bool) (w : World) (h : F27.f a0 = some r) :
  Calls Try.prog 70 #[.int .i64 a0] w fun e w' => e = .returned (.bool r) ∧ D0 w w' := by
 have H : (if a0 = 32 then (some true) else (if a0 = 33 then (some true) else (some (a0 == 37)))) = some r := h
 clear h
 by_cases c2 : a0 = 32
 ·rw [if_pos c2] at H
  have c2b0 : (a0 == 32) = true := beq_iff_eq.mpr c2
  have c2b1 : (a0 != 32) = false := bne_eq_false_iff_eq.mpr c2
  clear c2
  obtain rfl := Option.some.inj H
  go_enter Try.func70, Try.ntmps70
  go_wp2
  go_ret
  exact ⟨by first | rfl | (simp; done) | (simp [*]; done), by repeat (first | exact D0.refl _ | apply D0.step)⟩
 ·rw [if_neg c2] at H
  have c2b0 : (a0 == 32) = false := beq_eq_false_iff_ne.mpr c2
  have c2b1 : (a0 != 32) = true := bne_iff_ne.mpr c2
  by_cases c3 : a0 = 33
  ·rw [if_pos c3] at H
   have c3b0 : (a0 == 33) = true := beq_iff_eq.mpr c3
   have c3b1 : (a0 != 33) = false := bne_eq_false_iff_eq.mpr c3
   clear c3
   obtain rfl := Option.some.inj H
   go_enter Try.func70, Try.ntmps70
   go_wp2
   go_ret
   exact ⟨by first | rfl | (simp; done) | (simp [*]; done), by repeat (first | exact D0.refl _ | apply D0.step)⟩
  ·rw [if_neg c3] at H
   have c3b0 : (a0 == 33) = false := beq_eq_false_iff_ne.mpr c3
   have c3b1 : (a0 != 33) = true := bne_iff_ne.mpr c3
   obtain rfl := Option.some.inj H
   go_enter Try.func70, Try.ntmps70
   go_wp2
   go_ret
   exact ⟨by first | rfl | (simp; done) | (simp [*]; done), by repeat (first | exact D0.refl _ | apply D0.step)⟩
def impl_isIndex.f (a0 : Int) (a1 : Int) : Option (Bool) := if a0 ≥ 0 then (some (decide (a0 < a1))) else (some false)
theorem impl_isIndex.calls (a0 : Int) (a1 : Int) (r : Bool) (w : World) (h : impl_isIndex.f a0 a1 = some r) :
  Calls Try.prog 71 #[.int .i64 a0, .int .i64 a1] w fun e w' => e = .returned (.bool r) ∧ D0 w w' := by
 have H : (if a0 ≥ 0 then (some (decide (a0 < a1))) else (some false)) = some r := h
 clear h
 by_cases c3 : a0 ≥ 0
 ·rw [if_pos c3] at H
  have c3b0 : decide (0 ≤ a0) = true := decide_eq_true c3
  clear c3
  obtain rfl := Option.some.inj H
  go_enter Try.func71, Try.ntmps71
  go_wp2
  go_ret
  exact ⟨by first | rfl | (simp; done) | (simp [*]; done), by repeat (first | exact D0.refl _ | apply D0.step)⟩
 ·rw [if_neg c3] at H
  have c3b0 : decide (0 ≤ a0) = false := decide_eq_false c3
  clear c3
  obtain rfl := Option.some.inj H
  go_enter Try.func71, Try.ntmps71
  go_wp2
  go_ret
  exact ⟨by first | rfl | (simp; done) | (simp [*]; done), by repeat (first | exact D0.refl _ | apply D0.step)⟩
def F29.f (a0 : Int) : Option (Bool) := if a0 = 35 then (some true) else (some (a0 == 36))
theorem F29.calls (a0 : Int) (r : Bool) (w : World) (h : F29.f a0 = some r) :
  Calls Try.prog 72 #[.int .i64 a0] w fun e w' => e = .returned (.bool r) ∧ D0 w w' := by
 have H : (if a0 = 35 then (some true) else (some (a0 == 36))) = some r := h
 clear h
 by_cases c2 : a0 = 35
 ·rw [if_pos c2] at H
  have c2b0 : (a0 == 35) = true := beq_iff_eq.mpr c2
  have c2b1 : (a0 != 35) = false := bne_eq_false_iff_eq.mpr c2
  clear c2
  obtain rfl := Option.some.inj H
  go_enter Try.func72, Try.ntmps72
  go_wp2
  go_ret
  exact ⟨by first | rfl | (simp; done) | (simp [*]; done), by repeat (first | exact D0.refl _ | apply D0.step)⟩
 ·rw [if_neg c2] at H
  have c2b0 : (a0 == 35) = false := beq_eq_false_iff_ne.mpr c2
  have c2b1 : (a0 != 35) = true := bne_iff_ne.mpr c2
  obtain rfl := Option.some.inj H
  go_enter Try.func72, Try.ntmps72
  go_wp2
  go_ret
  exact ⟨by first | rfl | (simp; done) | (simp [*]; done), by repeat (first | exact D0.refl _ | apply D0.step)⟩
def impl_ValidIns.f (k : Nat) (a0_0 : Int) (a0_1 : Int) (a0_2 : ByteArray) : Option (Bool) := (impl_isLeaf.f k a0_0).bind fun t288 => (if t288 = true then ((impl_isArgument.f k a0_0 a0_1 a0_2).bind fun t289 => (some t289)) else ((F27.f a0_0).bind fun t290 => (if t290 = true then (if a0_2.toList = ([] : List UInt8) then ((impl_isIndex.f a0_1 13000).bind fun t291 => (some t291)) else (some false)) else ((F29.f a0_0).bind fun t292 => (if t292 = true then (if a0_1 = 0 then ((F26.f k a0_2).bind fun t293 => (some t293)) else (some false)) else ((F28.f a0_0 31 39).bind fun t294 => (if t294 = true then (if a0_1 = 0 then (some (a0_2.toList == ([] : List UInt8))) else (some false)) else (some false))))))))
theorem impl_ValidIns.mono : ∀ a0 a1 a2 k, LeO (impl_ValidIns.f k a0 a1 a2) (impl_ValidIns.f (k + 1) a0 a1 a2) := by
 intro a0 a1 a2 k
 unfold impl_ValidIns.f
 repeat' with_reducible first
   | exact F26.mono _ _
   | exact impl_isArgument.mono _ _ _ _
   | exact impl_isLeaf.mono _ _
   | exact LeO.refl _
   | exact LeO.none _
   | refine LeO.ite ?_ ?_
   | refine LeO.bind ?_ (fun _ => ?_)
theorem impl_ValidIns.calls (k : Nat) (a0_0 : Int) (a0_1 : Int) (a0_2 : ByteArray) (r : Bool) (w : World) (h : impl_ValidIns.f k a0_0 a0_1 a0_2 = some r) :
  Calls Try.prog 54 #[.agg #[.int .i64 a0_0, .int .i64 a0_1, .string a0_2]] w fun e w' => e = .returned (.bool r) ∧ Below w.heap.size w w' := by
 have hu80 := Try.underlying80
 have HB := As.mk (Below.refl w.heap.size w)
 have H : ((impl_isLeaf.f k a0_0).bind fun t288 => (if t288 = true then ((impl_isArgument.f k a0_0 a0_1 a0_2).bind fun t289 => (some t289)) else ((F27.f a0_0).bind fun t290 => (if t290 = true then (if a0_2.toList = ([] : List UInt8) then ((impl_isIndex.f a0_1 13000).bind fun t291 => (some t291)) else (some false)) else ((F29.f a0_0).bind fun t292 => (if t292 = true then (if a0_1 = 0 then ((F26.f k a0_2).bind fun t293 => (some t293)) else (some false)) else ((F28.f a0_0 31 39).bind fun t294 => (if t294 = true then (if a0_1 = 0 then (some (a0_2.toList == ([] : List UInt8))) else (some false)) else (some false))))))))) = some r := h
 clear h
 replace H := Option.bind_eq_some_iff.mp H
 obtain ⟨t288, A20, H⟩ := H
 replace H : (if t288 = true then ((impl_isArgument.f k a0_0 a0_1 a0_2).bind fun t289 => (some t289)) else ((F27.f a0_0).bind fun t290 => (if t290 = true then (if a0_2.toList = ([] : List UInt8) then ((impl_isIndex.f a0_1 13000).bind fun t291 => (some t291)) else (some false)) else ((F29.f a0_0).bind fun t292 => (if t292 = true then (if a0_1 = 0 then ((F26.f k a0_2).bind fun t293 => (some t293)) else (some false)) else ((F28.f a0_0 31 39).bind fun t294 => (if t294 = true then (if a0_1 = 0 then (some (a0_2.toList == ([] : List UInt8))) else (some false)) else (some false)))))))) = some r := H
 have A2 := As.mk A20
 clear A20
 by_cases c3 : t288 = true
 ·subst c3
  replace H : ((impl_isArgument.f k a0_0 a0_1 a0_2).bind fun t289 => (some t289)) = some r := by rw [if_pos rfl] at H; exact H
  replace H := Option.bind_eq_some_iff.mp H
  obtain ⟨t289, A40, H⟩ := H
  replace H : (some t289) = some r := H
  have A4 := As.mk A40
  clear A40
  obtain rfl := Option.some.inj H
  go_enter Try.func54, Try.ntmps54
  go_wp2_with (first | ((with_reducible refine gD (N := 1) rfl ?_); refine bX ?hg (N := 1) ?hd (cs := #[.int .i64 a0_0, .int .i64 a0_1, .string a0_2]) (t := 80) ?hr ?_; (case hd => rfl); (case hg => rfl); (case hr => first | (go_simp; done) | (go_simp; rfl)); intro gb287 hg w5 hbox hb; have BK287 := As.mk (hbox); have GW287 := As.mk ((by rw [hg]; exact (bZ (by repeat (first | (with_reducible first | exact HB.out | apply bA | apply bD | apply bE) | exact HB.out))) : w.heap.size ≤ gb287)); have GE287 := GW287; replace HB := As.mk (bT (by repeat (first | (with_reducible first | exact HB.out | apply bA | apply bD | apply bE) | exact HB.out)) hb); clear hb hbox hg; have cz_ := c3_ (w := w5) (g := gb287) BK287.out; obtain ⟨hcz6_0, hcz6_1, hcz6_2⟩ := cz_; have hfz6 := kF BK287.out) | ((with_reducible refine gC (f := 68) rfl ?_); refine gL (some 6) rfl rfl Try.func68 (by kernel_rfl) rfl #[.int .i64 a0_0] rfl (by (try simp only [sm1, sm2, sm3]); first | done | rfl) ?_; (with_reducible refine (impl_isLeaf.calls k a0_0 true _ A2.out).mono ?_); rintro e w' ⟨rfl, ⟨nd, rfl⟩⟩; refine ⟨_, rfl, ?_⟩) | ((with_reducible refine gC (f := 69) rfl ?_); refine gL (some 13) rfl rfl Try.func69 (by kernel_rfl) rfl #[.int .i64 a0_0, .int .i64 a0_1, .string a0_2] rfl (by (try simp only [sm1, sm2, sm3]); first | done | rfl) ?_; (with_reducible refine (impl_isArgument.calls k a0_0 a0_1 a0_2 t289 _ A4.out).mono ?_); rintro e w7 ⟨rfl, hb⟩; refine ⟨_, rfl, ?_⟩; replace BK287 := As.mk (kB (g := gb287) (o := .cells #[.int .i64 a0_0, .int .i64 a0_1, .string a0_2] 80 (0, 0)) (by (with_reducible repeat (first | refine kD ?_ _ | refine kE ?_ | refine kA ?_ _)); exact BK287.out) hb); replace HB := As.mk (bT (by repeat (first | (with_reducible first | exact HB.out | apply bA | apply bD | apply bE | refine bS ?_ GE287.out) | exact HB.out)) hb); (try clear hb); (try clear hk)))
  go_ret
  exact ⟨by first | rfl | (simp [eN, eS] <;> rfl) | (simp [nE]; done) | (simp [*, eN, eS] <;> rfl), by repeat (first | (with_reducible first | exact HB.out | apply bA | apply bD | apply bE | refine bS ?_ GE287.out) | exact HB.out)⟩
 ·replace c3 := Bool.eq_false_iff.mpr c3
  subst c3
  replace H : ((F27.f a0_0).bind fun t290 => (if t290 = true then (if a0_2.toList = ([] : List UInt8) then ((impl_isIndex.f a0_1 13000).bind fun t291 => (some t291)) else (some false)) else ((F29.f a0_0).bind fun t292 => (if t292 = true then (if a0_1 = 0 then ((F26.f k a0_2).bind fun t293 => (some t293)) else (some false)) else ((F28.f a0_0 31 39).bind fun t294 => (if t294 = true then (if a0_1 = 0 then (some (a0_2.toList == ([] : List UInt8))) else (some false)) else (some false))))))) = some r := by rw [if_neg (show ¬ (false = true) by decide)] at H; exact H
  replace H := Option.bind_eq_some_iff.mp H
  obtain ⟨t290, A80, H⟩ := H
  replace H : (if t290 = true then (if a0_2.toList = ([] : List UInt8) then ((impl_isIndex.f a0_1 13000).bind fun t291 => (some t291)) else (some false)) else ((F29.f a0_0).bind fun t292 => (if t292 = true then (if a0_1 = 0 then ((F26.f k a0_2).bind fun t293 => (some t293)) else (some false)) else ((F28.f a0_0 31 39).bind fun t294 => (if t294 = true then (if a0_1 = 0 then (some (a0_2.toList == ([] : List UInt8))) else (some false)) else (some false)))))) = some r := H
  have A8 := As.mk A80
  clear A80
  by_cases c9 : t290 = true
  ·subst c9
   replace H : (if a0_2.toList = ([] : List UInt8) then ((impl_isIndex.f a0_1 13000).bind fun t291 => (some t291)) else (some false)) = some r := by rw [if_pos rfl] at H; exact H
   by_cases c10 : a0_2.toList = ([] : List UInt8)
   ·rw [if_pos c10] at H
    have c10b0 : (a0_2.toList == ([] : List UInt8)) = true := beq_iff_eq.mpr c10
    have c10b1 : (a0_2.toList != ([] : List UInt8)) = false := bne_eq_false_iff_eq.mpr c10
    clear c10
    replace H := Option.bind_eq_some_iff.mp H
    obtain ⟨t291, A110, H⟩ := H
    replace H : (some t291) = some r := H
    have A11 := As.mk A110
    clear A110
    obtain rfl := Option.some.inj H
    go_enter Try.func54, Try.ntmps54
    go_wp2_with (first | ((with_reducible refine gD (N := 1) rfl ?_); refine bX ?hg (N := 1) ?hd (cs := #[.int .i64 a0_0, .int .i64 a0_1, .string a0_2]) (t := 80) ?hr ?_; (case hd => rfl); (case hg => rfl); (case hr => first | (go_simp; done) | (go_simp; rfl)); intro gb287 hg w12 hbox hb; have BK287 := As.mk (hbox); have GW287 := As.mk ((by rw [hg]; exact (bZ (by repeat (first | (with_reducible first | exact HB.out | apply bA | apply bD | apply bE) | exact HB.out))) : w.heap.size ≤ gb287)); have GE287 := GW287; replace HB := As.mk (bT (by repeat (first | (with_reducible first | exact HB.out | apply bA | apply bD | apply bE) | exact HB.out)) hb); clear hb hbox hg; have cz_ := c3_ (w := w12) (g := gb287) BK287.out; obtain ⟨hcz13_0, hcz13_1, hcz13_2⟩ := cz_; have hfz13 := kF BK287.out) | ((with_reducible refine gC (f := 68) rfl ?_); refine gL (some 6) rfl rfl Try.func68 (by kernel_rfl) rfl #[.int .i64 a0_0] rfl (by (try simp only [sm1, sm2, sm3]); first | done | rfl) ?_; (with_reducible refine (impl_isLeaf.calls k a0_0 false _ A2.out).mono ?_); rintro e w' ⟨rfl, ⟨nd, rfl⟩⟩; refine ⟨_, rfl, ?_⟩) | ((with_reducible refine gC (f := 70) rfl ?_); refine gL (some 17) rfl rfl Try.func70 (by kernel_rfl) rfl #[.int .i64 a0_0] rfl (by (try simp only [sm1, sm2, sm3]); first | done | rfl) ?_; (with_reducible refine (F27.calls a0_0 true _ A8.out).mono ?_); rintro e w' ⟨rfl, ⟨nd, rfl⟩⟩; refine ⟨_, rfl, ?_⟩) | (go_at_call 71; (with_reducible refine (impl_isIndex.calls a0_1 13000 t291 _ A11.out).mono ?_); rintro e w' ⟨rfl, ⟨nd, rfl⟩⟩))
    go_ret
    exact ⟨by first | rfl | (simp [eN, eS] <;> rfl) | (simp [nE]; done) | (simp [*, eN, eS] <;> rfl), by repeat (first | (with_reducible first | exact HB.out | apply bA | apply bD | apply bE | refine bS ?_ GE287.out) | exact HB.out)⟩
   ·rw [if_neg c10] at H
    have c10b0 : (a0_2.toList == ([] : List UInt8)) = false := beq_eq_false_iff_ne.mpr c10
    have c10b1 : (a0_2.toList != ([] : List UInt8)) = true := bne_iff_ne.mpr c10
    obtain rfl := Option.some.inj H
    go_enter Try.func54, Try.ntmps54
    go_wp2_with (first | ((with_reducible refine gD (N := 1) rfl ?_); refine bX ?hg (N := 1) ?hd (cs := #[.int .i64 a0_0, .int .i64 a0_1, .string a0_2]) (t := 80) ?hr ?_; (case hd => rfl); (case hg => rfl); (case hr => first | (go_simp; done) | (go_simp; rfl)); intro gb287 hg w14 hbox hb; have BK287 := As.mk (hbox); have GW287 := As.mk ((by rw [hg]; exact (bZ (by repeat (first | (with_reducible first | exact HB.out | apply bA | apply bD | apply bE) | exact HB.out))) : w.heap.size ≤ gb287)); have GE287 := GW287; replace HB := As.mk (bT (by repeat (first | (with_reducible first | exact HB.out | apply bA | apply bD | apply bE) | exact HB.out)) hb); clear hb hbox hg; have cz_ := c3_ (w := w14) (g := gb287) BK287.out; obtain ⟨hcz15_0, hcz15_1, hcz15_2⟩ := cz_; have hfz15 := kF BK287.out) | ((with_reducible refine gC (f := 68) rfl ?_); refine gL (some 6) rfl rfl Try.func68 (by kernel_rfl) rfl #[.int .i64 a0_0] rfl (by (try simp only [sm1, sm2, sm3]); first | done | rfl) ?_; (with_reducible refine (impl_isLeaf.calls k a0_0 false _ A2.out).mono ?_); rintro e w' ⟨rfl, ⟨nd, rfl⟩⟩; refine ⟨_, rfl, ?_⟩) | ((with_reducible refine gC (f := 70) rfl ?_); refine gL (some 17) rfl rfl Try.func70 (by kernel_rfl) rfl #[.int .i64 a0_0] rfl (by (try simp only [sm1, sm2, sm3]); first | done | rfl) ?_; (with_reducible refine (F27.calls a0_0 true _ A8.out).mono ?_); rintro e w' ⟨rfl, ⟨nd, rfl⟩⟩; refine ⟨_, rfl, ?_⟩))
    go_ret
    exact ⟨by first | rfl | (simp [eN, eS] <;> rfl) | (simp [nE]; done) | (simp [*, eN, eS] <;> rfl), by repeat (first | (with_reducible first | exact HB.out | apply bA | apply bD | apply bE | refine bS ?_ GE287.out) | exact HB.out)⟩
  ·replace c9 := Bool.eq_false_iff.mpr c9
   subst c9
   replace H : ((F29.f a0_0).bind fun t292 => (if t292 = true then (if a0_1 = 0 then ((F26.f k a0_2).bind fun t293 => (some t293)) else (some false)) else ((F28.f a0_0 31 39).bind fun t294 => (if t294 = true then (if a0_1 = 0 then (some (a0_2.toList == ([] : List UInt8))) else (some false)) else (some false))))) = some r := by rw [if_neg (show ¬ (false = true) by decide)] at H; exact H
   replace H := Option.bind_eq_some_iff.mp H
   obtain ⟨t292, A160, H⟩ := H
   replace H : (if t292 = true then (if a0_1 = 0 then ((F26.f k a0_2).bind fun t293 => (some t293)) else (some false)) else ((F28.f a0_0 31 39).bind fun t294 => (if t294 = true then (if a0_1 = 0 then (some (a0_2.toList == ([] : List UInt8))) else (some false)) else (some false)))) = some r := H
   have A16 := As.mk A160
   clear A160
   by_cases c17 : t292 = true
   ·subst c17
    replace H : (if a0_1 = 0 then ((F26.f k a0_2).bind fun t293 => (some t293)) else (some false)) = some r := by rw [if_pos rfl] at H; exact H
    by_cases c18 : a0_1 = 0
    ·rw [if_pos c18] at H
     have c18b0 : (a0_1 == 0) = true := beq_iff_eq.mpr c18
     have c18b1 : (a0_1 != 0) = false := bne_eq_false_iff_eq.mpr c18
     clear c18
     replace H := Option.bind_eq_some_iff.mp H
     obtain ⟨t293, A190, H⟩ := H
     replace H : (some t293) = some r := H
     have A19 := As.mk A190
     clear A190
     obtain rfl := Option.some.inj H
     go_enter Try.func54, Try.ntmps54
     go_wp2_with (first | ((with_reducible refine gD (N := 1) rfl ?_); refine bX ?hg (N := 1) ?hd (cs := #[.int .i64 a0_0, .int .i64 a0_1, .string a0_2]) (t := 80) ?hr ?_; (case hd => rfl); (case hg => rfl); (case hr => first | (go_simp; done) | (go_simp; rfl)); intro gb287 hg w20 hbox hb; have BK287 := As.mk (hbox); have GW287 := As.mk ((by rw [hg]; exact (bZ (by repeat (first | (with_reducible first | exact HB.out | apply bA | apply bD | apply bE) | exact HB.out))) : w.heap.size ≤ gb287)); have GE287 := GW287; replace HB := As.mk (bT (by repeat (first | (with_reducible first | exact HB.out | apply bA | apply bD | apply bE) | exact HB.out)) hb); clear hb hbox hg; have cz_ := c3_ (w := w20) (g := gb287) BK287.out; obtain ⟨hcz21_0, hcz21_1, hcz21_2⟩ := cz_; have hfz21 := kF BK287.out) | ((with_reducible refine gC (f := 68) rfl ?_); refine gL (some 6) rfl rfl Try.func68 (by kernel_rfl) rfl #[.int .i64 a0_0] rfl (by (try simp only [sm1, sm2, sm3]); first | done | rfl) ?_; (with_reducible refine (impl_isLeaf.calls k a0_0 false _ A2.out).mono ?_); rintro e w' ⟨rfl, ⟨nd, rfl⟩⟩; refine ⟨_, rfl, ?_⟩) | ((with_reducible refine gC (f := 70) rfl ?_); refine gL (some 17) rfl rfl Try.func70 (by kernel_rfl) rfl #[.int .i64 a0_0] rfl (by (try simp only [sm1, sm2, sm3]); first | done | rfl) ?_; (with_reducible refine (F27.calls a0_0 false _ A8.out).mono ?_); rintro e w' ⟨rfl, ⟨nd, rfl⟩⟩; refine ⟨_, rfl, ?_⟩) | ((with_reducible refine gC (f := 72) rfl ?_); refine gL (some 29) rfl rfl Try.func72 (by kernel_rfl) rfl #[.int .i64 a0_0] rfl (by (try simp only [sm1, sm2, sm3]); first | done | rfl) ?_; (with_reducible refine (F29.calls a0_0 true _ A16.out).mono ?_); rintro e w' ⟨rfl, ⟨nd, rfl⟩⟩; refine ⟨_, rfl, ?_⟩) | (go_at_call 73; (with_reducible refine (F26.calls k a0_2 t293 _ A19.out).mono ?_); rintro e w22 ⟨rfl, hb⟩; replace BK287 := As.mk (kB (g := gb287) (o := .cells #[.int .i64 a0_0, .int .i64 a0_1, .string a0_2] 80 (0, 0)) (by (with_reducible repeat (first | refine kD ?_ _ | refine kE ?_ | refine kA ?_ _)); exact BK287.out) hb); replace HB := As.mk (bT (by repeat (first | (with_reducible first | exact HB.out | apply bA | apply bD | apply bE | refine bS ?_ GE287.out) | exact HB.out)) hb); (try clear hb); (try clear hk)))
     go_ret
     exact ⟨by first | rfl | (simp [eN, eS] <;> rfl) | (simp [nE]; done) | (simp [*, eN, eS] <;> rfl), by repeat (first | (with_reducible first | exact HB.out | apply bA | apply bD | apply bE | refine bS ?_ GE287.out) | exact HB.out)⟩
    ·rw [if_neg c18] at H
     have c18b0 : (a0_1 == 0) = false := beq_eq_false_iff_ne.mpr c18
     have c18b1 : (a0_1 != 0) = true := bne_iff_ne.mpr c18
     obtain rfl := Option.some.inj H
     go_enter Try.func54, Try.ntmps54
     go_wp2_with (first | ((with_reducible refine gD (N := 1) rfl ?_); refine bX ?hg (N := 1) ?hd (cs := #[.int .i64 a0_0, .int .i64 a0_1, .string a0_2]) (t := 80) ?hr ?_; (case hd => rfl); (case hg => rfl); (case hr => first | (go_simp; done) | (go_simp; rfl)); intro gb287 hg w23 hbox hb; have BK287 := As.mk (hbox); have GW287 := As.mk ((by rw [hg]; exact (bZ (by repeat (first | (with_reducible first | exact HB.out | apply bA | apply bD | apply bE) | exact HB.out))) : w.heap.size ≤ gb287)); have GE287 := GW287; replace HB := As.mk (bT (by repeat (first | (with_reducible first | exact HB.out | apply bA | apply bD | apply bE) | exact HB.out)) hb); clear hb hbox hg; have cz_ := c3_ (w := w23) (g := gb287) BK287.out; obtain ⟨hcz24_0, hcz24_1, hcz24_2⟩ := cz_; have hfz24 := kF BK287.out) | ((with_reducible refine gC (f := 68) rfl ?_); refine gL (some 6) rfl rfl Try.func68 (by kernel_rfl) rfl #[.int .i64 a0_0] rfl (by (try simp only [sm1, sm2, sm3]); first | done | rfl) ?_; (with_reducible refine (impl_isLeaf.calls k a0_0 false _ A2.out).mono ?_); rintro e w' ⟨rfl, ⟨nd, rfl⟩⟩; refine ⟨_, rfl, ?_⟩) | ((with_reducible refine gC (f := 70) rfl ?_); refine gL (some 17) rfl rfl Try.func70 (by kernel_rfl) rfl #[.int .i64 a0_0] rfl (by (try simp only [sm1, sm2, sm3]); first | done | rfl) ?_; (with_reducible refine (F27.calls a0_0 false _ A8.out).mono ?_); rintro e w' ⟨rfl, ⟨nd, rfl⟩⟩; refine ⟨_, rfl, ?_⟩) | ((with_reducible refine gC (f := 72) rfl ?_); refine gL (some 29) rfl rfl Try.func72 (by kernel_rfl) rfl #[.int .i64 a0_0] rfl (by (try simp only [sm1, sm2, sm3]); first | done | rfl) ?_; (with_reducible refine (F29.calls a0_0 true _ A16.out).mono ?_); rintro e w' ⟨rfl, ⟨nd, rfl⟩⟩; refine ⟨_, rfl, ?_⟩))
     go_ret
     exact ⟨by first | rfl | (simp [eN, eS] <;> rfl) | (simp [nE]; done) | (simp [*, eN, eS] <;> rfl), by repeat (first | (with_reducible first | exact HB.out | apply bA | apply bD | apply bE | refine bS ?_ GE287.out) | exact HB.out)⟩
   ·replace c17 := Bool.eq_false_iff.mpr c17
    subst c17
    replace H : ((F28.f a0_0 31 39).bind fun t294 => (if t294 = true then (if a0_1 = 0 then (some (a0_2.toList == ([] : List UInt8))) else (some false)) else (some false))) = some r := by rw [if_neg (show ¬ (false = true) by decide)] at H; exact H
    replace H := Option.bind_eq_some_iff.mp H
    obtain ⟨t294, A250, H⟩ := H
    replace H : (if t294 = true then (if a0_1 = 0 then (some (a0_2.toList == ([] : List UInt8))) else (some false)) else (some false)) = some r := H
    have A25 := As.mk A250
    clear A250
    by_cases c26 : t294 = true
    ·subst c26
     replace H : (if a0_1 = 0 then (some (a0_2.toList == ([] : List UInt8))) else (some false)) = some r := by rw [if_pos rfl] at H; exact H
     by_cases c27 : a0_1 = 0
     ·rw [if_pos c27] at H
      have c27b0 : (a0_1 == 0) = true := beq_iff_eq.mpr c27
      have c27b1 : (a0_1 != 0) = false := bne_eq_false_iff_eq.mpr c27
      clear c27
      obtain rfl := Option.some.inj H
      go_enter Try.func54, Try.ntmps54
      go_wp2_with (first | ((with_reducible refine gD (N := 1) rfl ?_); refine bX ?hg (N := 1) ?hd (cs := #[.int .i64 a0_0, .int .i64 a0_1, .string a0_2]) (t := 80) ?hr ?_; (case hd => rfl); (case hg => rfl); (case hr => first | (go_simp; done) | (go_simp; rfl)); intro gb287 hg w28 hbox hb; have BK287 := As.mk (hbox); have GW287 := As.mk ((by rw [hg]; exact (bZ (by repeat (first | (with_reducible first | exact HB.out | apply bA | apply bD | apply bE) | exact HB.out))) : w.heap.size ≤ gb287)); have GE287 := GW287; replace HB := As.mk (bT (by repeat (first | (with_reducible first | exact HB.out | apply bA | apply bD | apply bE) | exact HB.out)) hb); clear hb hbox hg; have cz_ := c3_ (w := w28) (g := gb287) BK287.out; obtain ⟨hcz29_0, hcz29_1, hcz29_2⟩ := cz_; have hfz29 := kF BK287.out) | ((with_reducible refine gC (f := 68) rfl ?_); refine gL (some 6) rfl rfl Try.func68 (by kernel_rfl) rfl #[.int .i64 a0_0] rfl (by (try simp only [sm1, sm2, sm3]); first | done | rfl) ?_; (with_reducible refine (impl_isLeaf.calls k a0_0 false _ A2.out).mono ?_); rintro e w' ⟨rfl, ⟨nd, rfl⟩⟩; refine ⟨_, rfl, ?_⟩) | ((with_reducible refine gC (f := 70) rfl ?_); refine gL (some 17) rfl rfl Try.func70 (by kernel_rfl) rfl #[.int .i64 a0_0] rfl (by (try simp only [sm1, sm2, sm3]); first | done | rfl) ?_; (with_reducible refine (F27.calls a0_0 false _ A8.out).mono ?_); rintro e w' ⟨rfl, ⟨nd, rfl⟩⟩; refine ⟨_, rfl, ?_⟩) | ((with_reducible refine gC (f := 72) rfl ?_); refine gL (some 29) rfl rfl Try.func72 (by kernel_rfl) rfl #[.int .i64 a0_0] rfl (by (try simp only [sm1, sm2, sm3]); first | done | rfl) ?_; (with_reducible refine (F29.calls a0_0 false _ A16.out).mono ?_); rintro e w' ⟨rfl, ⟨nd, rfl⟩⟩; refine ⟨_, rfl, ?_⟩) | ((with_reducible refine gC (f := 74) rfl ?_); refine gL (some 40) rfl rfl Try.func74 (by kernel_rfl) rfl #[.int .i64 a0_0, .int .i64 31, .int .i64 39] rfl (by (try simp only [sm1, sm2, sm3]); first | done | rfl) ?_; (with_reducible refine (F28.calls a0_0 31 39 true _ A25.out).mono ?_); rintro e w' ⟨rfl, ⟨nd, rfl⟩⟩; refine ⟨_, rfl, ?_⟩))
      go_ret
      exact ⟨by first | rfl | (simp [eN, eS] <;> rfl) | (simp [nE]; done) | (simp [*, eN, eS] <;> rfl), by repeat (first | (with_reducible first | exact HB.out | apply bA | apply bD | apply bE | refine bS ?_ GE287.out) | exact HB.out)⟩
     ·rw [if_neg c27] at H
      have c27b0 : (a0_1 == 0) = false := beq_eq_false_iff_ne.mpr c27
      have c27b1 : (a0_1 != 0) = true := bne_iff_ne.mpr c27
      obtain rfl := Option.some.inj H
      go_enter Try.func54, Try.ntmps54
      go_wp2_with (first | ((with_reducible refine gD (N := 1) rfl ?_); refine bX ?hg (N := 1) ?hd (cs := #[.int .i64 a0_0, .int .i64 a0_1, .string a0_2]) (t := 80) ?hr ?_; (case hd => rfl); (case hg => rfl); (case hr => first | (go_simp; done) | (go_simp; rfl)); intro gb287 hg w30 hbox hb; have BK287 := As.mk (hbox); have GW287 := As.mk ((by rw [hg]; exact (bZ (by repeat (first | (with_reducible first | exact HB.out | apply bA | apply bD | apply bE) | exact HB.out))) : w.heap.size ≤ gb287)); have GE287 := GW287; replace HB := As.mk (bT (by repeat (first | (with_reducible first | exact HB.out | apply bA | apply bD | apply bE) | exact HB.out)) hb); clear hb hbox hg; have cz_ := c3_ (w := w30) (g := gb287) BK287.out; obtain ⟨hcz31_0, hcz31_1, hcz31_2⟩ := cz_; have hfz31 := kF BK287.out) | ((with_reducible refine gC (f := 68) rfl ?_); refine gL (some 6) rfl rfl Try.func68 (by kernel_rfl) rfl #[.int .i64 a0_0] rfl (by (try simp only [sm1, sm2, sm3]); first | done | rfl) ?_; (with_reducible refine (impl_isLeaf.calls k a0_0 false _ A2.out).mono ?_); rintro e w' ⟨rfl, ⟨nd, rfl⟩⟩; refine ⟨_, rfl, ?_⟩) | ((with_reducible refine gC (f := 70) rfl ?_); refine gL (some 17) rfl rfl Try.func70 (by kernel_rfl) rfl #[.int .i64 a0_0] rfl (by (try simp only [sm1, sm2, sm3]); first | done | rfl) ?_; (with_reducible refine (F27.calls a0_0 false _ A8.out).mono ?_); rintro e w' ⟨rfl, ⟨nd, rfl⟩⟩; refine ⟨_, rfl, ?_⟩) | ((with_reducible refine gC (f := 72) rfl ?_); refine gL (some 29) rfl rfl Try.func72 (by kernel_rfl) rfl #[.int .i64 a0_0] rfl (by (try simp only [sm1, sm2, sm3]); first | done | rfl) ?_; (with_reducible refine (F29.calls a0_0 false _ A16.out).mono ?_); rintro e w' ⟨rfl, ⟨nd, rfl⟩⟩; refine ⟨_, rfl, ?_⟩) | ((with_reducible refine gC (f := 74) rfl ?_); refine gL (some 40) rfl rfl Try.func74 (by kernel_rfl) rfl #[.int .i64 a0_0, .int .i64 31, .int .i64 39] rfl (by (try simp only [sm1, sm2, sm3]); first | done | rfl) ?_; (with_reducible refine (F28.calls a0_0 31 39 true _ A25.out).mono ?_); rintro e w' ⟨rfl, ⟨nd, rfl⟩⟩; refine ⟨_, rfl, ?_⟩))
      go_ret
      exact ⟨by first | rfl | (simp [eN, eS] <;> rfl) | (simp [nE]; done) | (simp [*, eN, eS] <;> rfl), by repeat (first | (with_reducible first | exact HB.out | apply bA | apply bD | apply bE | refine bS ?_ GE287.out) | exact HB.out)⟩
    ·replace c26 := Bool.eq_false_iff.mpr c26
     subst c26
     replace H : (some false) = some r := by rw [if_neg (show ¬ (false = true) by decide)] at H; exact H
     obtain rfl := Option.some.inj H
     go_enter Try.func54, Try.ntmps54
     go_wp2_with (first | ((with_reducible refine gD (N := 1) rfl ?_); refine bX ?hg (N := 1) ?hd (cs := #[.int .i64 a0_0, .int .i64 a0_1, .string a0_2]) (t := 80) ?hr ?_; (case hd => rfl); (case hg => rfl); (case hr => first | (go_simp; done) | (go_simp; rfl)); intro gb287 hg w32 hbox hb; have BK287 := As.mk (hbox); have GW287 := As.mk ((by rw [hg]; exact (bZ (by repeat (first | (with_reducible first | exact HB.out | apply bA | apply bD | apply bE) | exact HB.out))) : w.heap.size ≤ gb287)); have GE287 := GW287; replace HB := As.mk (bT (by repeat (first | (with_reducible first | exact HB.out | apply bA | apply bD | apply bE) | exact HB.out)) hb); clear hb hbox hg; have cz_ := c3_ (w := w32) (g := gb287) BK287.out; obtain ⟨hcz33_0, hcz33_1, hcz33_2⟩ := cz_; have hfz33 := kF BK287.out) | ((with_reducible refine gC (f := 68) rfl ?_); refine gL (some 6) rfl rfl Try.func68 (by kernel_rfl) rfl #[.int .i64 a0_0] rfl (by (try simp only [sm1, sm2, sm3]); first | done | rfl) ?_; (with_reducible refine (impl_isLeaf.calls k a0_0 false _ A2.out).mono ?_); rintro e w' ⟨rfl, ⟨nd, rfl⟩⟩; refine ⟨_, rfl, ?_⟩) | ((with_reducible refine gC (f := 70) rfl ?_); refine gL (some 17) rfl rfl Try.func70 (by kernel_rfl) rfl #[.int .i64 a0_0] rfl (by (try simp only [sm1, sm2, sm3]); first | done | rfl) ?_; (with_reducible refine (F27.calls a0_0 false _ A8.out).mono ?_); rintro e w' ⟨rfl, ⟨nd, rfl⟩⟩; refine ⟨_, rfl, ?_⟩) | ((with_reducible refine gC (f := 72) rfl ?_); refine gL (some 29) rfl rfl Try.func72 (by kernel_rfl) rfl #[.int .i64 a0_0] rfl (by (try simp only [sm1, sm2, sm3]); first | done | rfl) ?_; (with_reducible refine (F29.calls a0_0 false _ A16.out).mono ?_); rintro e w' ⟨rfl, ⟨nd, rfl⟩⟩; refine ⟨_, rfl, ?_⟩) | ((with_reducible refine gC (f := 74) rfl ?_); refine gL (some 40) rfl rfl Try.func74 (by kernel_rfl) rfl #[.int .i64 a0_0, .int .i64 31, .int .i64 39] rfl (by (try simp only [sm1, sm2, sm3]); first | done | rfl) ?_; (with_reducible refine (F28.calls a0_0 31 39 false _ A25.out).mono ?_); rintro e w' ⟨rfl, ⟨nd, rfl⟩⟩; refine ⟨_, rfl, ?_⟩))
     go_ret
     exact ⟨by first | rfl | (simp [eN, eS] <;> rfl) | (simp [nE]; done) | (simp [*, eN, eS] <;> rfl), by repeat (first | (with_reducible first | exact HB.out | apply bA | apply bD | apply bE | refine bS ?_ GE287.out) | exact HB.out)⟩
def sameName (e x : S77) : Bool := x.f0.toList == e.f0.toList
def F9.g (k : Nat) (n : Int) (l : List S77) : Nat → Int → List S77 → Option Bool
 | _, _, [] => some true
 | i, last, e :: es => if (l.take i).any (sameName e) = true then some false else (F26.f k e.f0).bind fun b => if b = false then some false else if e.f1 ≤ last then some false else (impl_isIndex.f e.f1 n).bind fun q => if q = true then F9.g k n l (i + 1) e.f1 es else some false
def F9.f (k : Nat) (l0_0 : List S80) (l0_1 : List S77) : Option Bool := (F9.g k (l0_0.length : Int) l0_1 0 0 l0_1).bind fun b => some (b && decide ((l0_1.length : Int) ≤ 40))
theorem F9.mono_g (k : Nat) (n : Int) (l : List S77) (es : List S77) : ∀ (i : Nat) (last : Int), LeO (F9.g k n l i last es) (F9.g (k + 1) n l i last es) := by
 induction es with
 | nil => intro i last; exact LeO.refl _
 | cons e es ih =>
  intro i last
  simp only [F9.g]
  refine LeO.ite (LeO.refl _) (LeO.bind (F26.mono _ _) (fun b => LeO.ite (LeO.refl _) (LeO.ite (LeO.refl _) (LeO.bind (LeO.refl _) (fun q => LeO.ite (ih _ _) (LeO.refl _))))))
theorem F9.mono : ∀ a0 a1 k, LeO (F9.f k a0 a1) (F9.f (k + 1) a0 a1) := by
 intro a0 a1 k
 unfold F9.f
 exact LeO.bind (F9.mono_g k _ _ _ _ _) (fun _ => LeO.refl _)
set_option maxHeartbeats 4000000 in
set_option maxRecDepth 100000 in
theorem sameName_calls (e x : S77) (g5 : Nat) (w : World) (hg : w.heap[g5]? = some (.cells #[.string e.f0, .int .i64 e.f1] 77 (0, 0))) :
  Calls Try.prog 76 #[.agg #[.string x.f0, .int .i64 x.f1], .pointer (some ⟨g5, 0, none⟩)] w fun r w' => r = .returned (.bool (sameName e x)) ∧ Below w.heap.size w w' := by
 have huT := Try.underlying9
 have BK5 := As.mk hg
 have HB := As.mk (Below.refl w.heap.size w)
 clear hg
 go_enter Try.func76, Try.ntmps76
 go_wp2_with (first | ((with_reducible refine gD (N := 2) rfl ?_); refine bX ?hg (N := 2) ?hd (cs := #[.string x.f0, .int .i64 x.f1]) (t := 77) ?hr ?_; (case hd => rfl); (case hg => rfl); (case hr => first | (go_simp; done) | (go_simp; rfl)); intro g2 hg wg2 hbox hb; have n0_ := As.mk (bT HB.out hb); have n1_ := As.mk (kB BK5.out hb); clear HB BK5; have HB := n0_; have BK5 := n1_; clear n0_ n1_; have BK2 := As.mk hbox; clear hbox hg hb; (try simp only [Act.put, sq1, sq2, sq3])) | ((with_reducible refine gD (N := 5) rfl ?_); refine Go.Proofs.Ytbamjjaamjfnaaa.RowLaw.cell_event rfl 9 _ rfl g2 0 rfl 77 #[.string x.f0, .int .i64 x.f1] _ (.string x.f0) BK2.out huT rfl rfl ?_; (try simp only [Act.put, sq1, sq2, sq3])) | ((with_reducible refine gD (N := 7) rfl ?_); refine Go.Proofs.Ytbamjjaamjfnaaa.RowLaw.cell_event rfl 9 _ rfl g5 0 rfl 77 #[.string e.f0, .int .i64 e.f1] _ (.string e.f0) BK5.out huT rfl rfl ?_; (try simp only [Act.put, sq1, sq2, sq3])))
 go_ret
 exact ⟨rfl, HB.out⟩
set_option maxHeartbeats 4000000 in
set_option maxRecDepth 100000 in
theorem indexFunc_calls (e : S77) (g5 : Nat) (A : Option Addr) (c : Nat) (xs : List S77) (w : World) (hg : w.heap[g5]? = some (.cells #[.string e.f0, .int .i64 e.f1] 77 (0, 0))) (hx : Kd.C k77 w A xs.length xs) (hm : xs.length ≤ 9223372036854775807) :
  Calls Try.prog 92 #[.slice A xs.length c, .func (.func 76) #[] #[.pointer (some ⟨g5, 0, none⟩)]] w fun r w' => ∃ v : Int, r = .returned (.int .i64 v) ∧ (decide (0 ≤ v) = xs.any (sameName e)) ∧ Below w.heap.size w w' := by
 have huE := Try.underlying77
 have HIE := As.mk (by kernel_rfl : (Try.prog.info? 77).map (·.size) = some 2)
 have BK5 := As.mk hg
 have HX := As.mk hx
 have HM := As.mk hm
 clear hg hx hm
 go_enter Try.func92, Try.ntmps92
 go_wp2
 go_loopg [5, 8] xs.length (fun kq v5 v8 w' => ∃ (i : Nat), v8 = .int .i64 (i : Int) ∧ As (kq + i = xs.length) ∧ As (Below w.heap.size w w') ∧ As (w'.heap[g5]? = some (.cells #[.string e.f0, .int .i64 e.f1] 77 (0, 0))) ∧ As ((xs.take i).any (sameName e) = false))
 case atStart => exact ⟨0, rfl, ⟨by omega⟩, ⟨Below.refl _ _⟩, BK5, ⟨by simp⟩⟩
 case round =>
  clear BK5
  obtain ⟨i, rfl, HK, HB, BK5, HN⟩ := hrel
  by_cases hi2 : i < xs.length
  ·obtain ⟨kp, rfl⟩ : ∃ kp, gk = kp + 1 := ⟨gk - 1, by have := HK.out; omega⟩
   obtain ⟨x, hx⟩ : ∃ x, xs[i]? = some x := ⟨_, List.getElem?_eq_getElem hi2⟩
   have ex : xs.getD ((i : Int)).toNat z77 = x := by rw [List.getD_eq_getElem?_getD, Int.toNat_natCast, hx]; rfl
   obtain ⟨ad, c_, rfl, _, hK, hC⟩ := Go.Proofs.Ytbamjjaamjfnaaa.RowLaw.elem_of HX.out z77 (i : Int) (by omega) (by omega)
   rw [ex] at hK
   obtain rfl := k77_open hK
   have EC := As.mk hC
   have hkp : kp + (i + 1) = xs.length := by have := HK.out; omega
   have HT := As.mk (by rw [List.take_add_one, hx, List.any_append, HN.out]; simp : (xs.take (i + 1)).any (sameName e) = sameName e x)
   have HA := As.mk (fun hq : sameName e x = true => (List.any_eq_true.2 ⟨x, List.mem_of_getElem? hx, hq⟩ : xs.any (sameName e) = true))
   have HW := As.mk (by have := HM.out; unfold wrap64; omega : wrap64 ((i : Int) + 1) = ((i + 1 : Nat) : Int))
   have c5 : ((i : Int) < (xs.length : Int)) = True := eq_true (by omega)
   have c5n : decide (i < xs.length) = true := decide_eq_true hi2
   have c5b : decide ((i : Int) < (xs.length : Int)) = true := decide_eq_true (by omega)
   have c6 : (0 ≤ (i : Int)) = True := eq_true (by omega)
   clear hx hK hC ex hi2
   cases hq : sameName e x with
   | true =>
    have HQ := As.mk hq
    clear hq
    go_wp2_with (first | ((with_reducible refine gD (N := 15) rfl ?_); refine Go.Proofs.Ytbamjjaamjfnaaa.RowLaw.at_event rfl 77 _ rfl _ rfl _ [.string x.f0, .int .i64 x.f1] huE rfl HIE.out (EC.out.below HB.out) ?_; (try simp only [Act.put, sq1, sq2, sq3])) | (go_at_call 76; have hc := sameName_calls e x g5 _ BK5.out; rw [HQ.out] at hc; refine hc.mono ?_; clear hc; rintro r w3 ⟨rfl, hb⟩; have n0_ := As.mk (bT HB.out hb); have n1_ := As.mk (kB BK5.out hb); clear HB BK5; have HB := n0_; have BK5 := n1_; clear n0_ n1_; clear hb))
    go_ret
    exact ⟨_, rfl, by rw [HA.out HQ.out]; exact decide_eq_true (by omega), HB.out⟩
   | false =>
    have HQ := As.mk hq
    clear hq
    go_wp2_with (first | ((with_reducible refine gD (N := 15) rfl ?_); refine Go.Proofs.Ytbamjjaamjfnaaa.RowLaw.at_event rfl 77 _ rfl _ rfl _ [.string x.f0, .int .i64 x.f1] huE rfl HIE.out (EC.out.below HB.out) ?_; (try simp only [Act.put, sq1, sq2, sq3])) | (go_at_call 76; have hc := sameName_calls e x g5 _ BK5.out; rw [HQ.out] at hc; refine hc.mono ?_; clear hc; rintro r w3 ⟨rfl, hb⟩; have n0_ := As.mk (bT HB.out hb); have n1_ := As.mk (kB BK5.out hb); clear HB BK5; have HB := n0_; have BK5 := n1_; clear n0_ n1_; clear hb))
    go_roundg kp
    case measure => omega
    case rel => exact ⟨i + 1, by rw [HW.out], ⟨by omega⟩, HB, BK5, ⟨by rw [HT.out]; exact HQ.out⟩⟩
  ·obtain rfl : i = xs.length := by have := HK.out; omega
   have c5 : ((xs.length : Int) < (xs.length : Int)) = False := eq_false (by omega)
   have HZ := As.mk (by have := HN.out; rwa [List.take_length] at this : xs.any (sameName e) = false)
   clear hi2
   go_wp2
   go_ret
   exact ⟨_, rfl, by rw [HZ.out]; rfl, HB.out⟩
set_option maxHeartbeats 4000000 in
set_option maxRecDepth 100000 in
theorem containsFunc_calls (e : S77) (g5 : Nat) (A : Option Addr) (c : Nat) (xs : List S77) (w : World) (hg : w.heap[g5]? = some (.cells #[.string e.f0, .int .i64 e.f1] 77 (0, 0))) (hx : Kd.C k77 w A xs.length xs) (hm : xs.length ≤ 9223372036854775807) :
  Calls Try.prog 75 #[.slice A xs.length c, .func (.func 76) #[] #[.pointer (some ⟨g5, 0, none⟩)]] w fun r w' => r = .returned (.bool (xs.any (sameName e))) ∧ Below w.heap.size w w' := by
 have HX := As.mk hx
 have BK5 := As.mk hg
 have HM := As.mk hm
 clear hx hg hm
 go_enter Try.func75, Try.ntmps75
 go_wp2_with (go_at_call 92; refine (indexFunc_calls e g5 A c xs _ BK5.out HX.out HM.out).mono ?_; rintro r w2 ⟨v, rfl, hv, hb⟩; have HV := As.mk hv; have HB := As.mk hb; clear hv hb)
 go_ret
 exact ⟨by rw [← HV.out]; rfl, HB.out⟩
set_option maxHeartbeats 16000000 in
set_option maxRecDepth 100000 in
theorem F9.calls (k : Nat) (A0_0 : Option Addr) (c0_0 : Nat) (l0_0 : List S80) (A0_1 : Option Addr) (c0_1 : Nat) (l0_1 : List S77) (r : Bool) (w : World) (hr0_0 : Kd.C k80 w A0_0 l0_0.length l0_0) (hc0_0 : l0_0.length ≤ c0_0) (hr0_1 : Kd.C k77 w A0_1 l0_1.length l0_1) (hc0_1 : l0_1.length ≤ c0_1) (h : F9.f k l0_0 l0_1 = some r) :
  Calls Try.prog 55 #[.agg #[.slice A0_0 l0_0.length c0_0, .slice A0_1 l0_1.length c0_1]] w fun e w' => e = .returned (.bool r) ∧ Below w.heap.size w w' := by
 have huE := Try.underlying77
 have huSE := Try.underlying29
 have huSI := Try.underlying28
 have huT := Try.underlying9
 have huI := Try.underlying2
 have HIE := As.mk (by kernel_rfl : (Try.prog.info? 77).map (·.size) = some 2)
 have HX := As.mk hr0_1
 have HC := As.mk hc0_1
 have HB := As.mk (Below.refl w.heap.size w)
 clear hr0_0 hc0_0 hr0_1 hc0_1
 unfold F9.f at h
 replace h := Option.bind_eq_some_iff.mp h
 obtain ⟨r0, hg, h⟩ := h
 obtain rfl := Option.some.inj h
 have HG := As.mk hg
 clear hg
 obtain ⟨n, hn⟩ : ∃ n : Int, n = (l0_0.length : Int) := ⟨_, rfl⟩
 rw [← hn] at HG
 have HNN := As.mk hn
 clear hn
 go_enter Try.func55, Try.ntmps55
 go_wp2_with (first | ((with_reducible refine gD (N := 1) rfl ?_); refine bX ?hg (N := 1) ?hd (cs := #[.slice A0_0 l0_0.length c0_0, .slice A0_1 l0_1.length c0_1]) (t := 31) ?hr ?_; (case hd => rfl); (case hg => rfl); (case hr => first | (go_simp; done) | (go_simp; rfl)); intro g1 hg wg1 hbox hb; replace HB := As.mk (bT HB.out hb); have BK1 := As.mk hbox; clear hbox hg hb; (try simp only [Act.put, sq1, sq2, sq3])) | ((with_reducible refine gD (N := 8) rfl ?_); refine Go.Proofs.Ytbamjjaamjfnaaa.RowLaw.cell_event rfl 29 _ rfl g1 1 rfl 31 #[.slice A0_0 l0_0.length c0_0, .slice A0_1 l0_1.length c0_1] _ (.slice A0_1 l0_1.length c0_1) BK1.out huSE rfl rfl ?_; (try simp only [Act.put, sq1, sq2, sq3])))
 go_loopg [3, 10] l0_1.length (fun kq v3 v10 w' => ∃ (i : Nat) (last : Int), v10 = .int .i64 (i : Int) ∧ v3 = .int .i64 last ∧ As (kq + i = l0_1.length) ∧ As (Below w.heap.size w w') ∧ As (w'.heap[g1]? = some (.cells #[.slice A0_0 l0_0.length c0_0, .slice A0_1 l0_1.length c0_1] 31 (0, 0))) ∧ As (F9.g k n l0_1 i last (l0_1.drop i) = some r0))
 case atStart => exact ⟨0, 0, rfl, rfl, ⟨by omega⟩, HB, BK1, HG⟩
 case round =>
  clear HB BK1 HG
  obtain ⟨i, last, rfl, rfl, HK, HB, BK1, HG⟩ := hrel
  by_cases hi2 : i < l0_1.length
  ·obtain ⟨kp, rfl⟩ : ∃ kp, gk = kp + 1 := ⟨gk - 1, by have := HK.out; omega⟩
   obtain ⟨x, hx⟩ : ∃ x, l0_1[i]? = some x := ⟨_, List.getElem?_eq_getElem hi2⟩
   have ex : l0_1.getD ((i : Int)).toNat z77 = x := by rw [List.getD_eq_getElem?_getD, Int.toNat_natCast, hx]; rfl
   obtain ⟨ad, c_, rfl, _, hK, hC⟩ := Go.Proofs.Ytbamjjaamjfnaaa.RowLaw.elem_of HX.out z77 (i : Int) (by omega) (by omega)
   rw [ex] at hK
   obtain rfl := k77_open hK
   have EC := As.mk hC
   have hkp : kp + (i + 1) = l0_1.length := by have := HK.out; omega
   have hlm : l0_1.length ≤ 9223372036854775807 := HX.out.2.1
   have XT := As.mk (Kd.C_take HX.out (Nat.le_of_lt hi2))
   have HTL := As.mk (by rw [List.length_take]; omega : (l0_1.take i).length = i)
   have HML := As.mk (by rw [List.length_take]; omega : (l0_1.take i).length ≤ 9223372036854775807)
   have hgg := HG.out
   rw [List.drop_eq_getElem_cons hi2, show l0_1[i] = x from by rw [List.getElem?_eq_getElem hi2] at hx; exact Option.some.inj hx] at hgg
   simp only [F9.g] at hgg
   have HW := As.mk (by unfold wrap64; omega : wrap64 ((i : Int) + 1) = ((i + 1 : Nat) : Int))
   have c5 : ((i : Int) < (l0_1.length : Int)) = True := eq_true (by omega)
   have c5n : decide (i < l0_1.length) = true := decide_eq_true hi2
   have c5b : decide ((i : Int) < (l0_1.length : Int)) = true := decide_eq_true (by omega)
   have c6 : (0 ≤ (i : Int)) = True := eq_true (by omega)
   have c7 : ((i : Int) ≤ (c0_1 : Int)) = True := eq_true (by have := HC.out; omega)
   have c7n : (i ≤ c0_1) = True := eq_true (by have := HC.out; omega)
   clear hx hK hC ex HG
   cases hmet : (l0_1.take i).any (sameName x) with
   | true =>
    rw [hmet, if_pos rfl] at hgg
    obtain rfl := Option.some.inj hgg
    have HMET := As.mk hmet
    clear hmet hgg
    go_wp2_with (first | ((with_reducible refine gD (N := 14) rfl ?_); refine Go.Proofs.Ytbamjjaamjfnaaa.RowLaw.at_event rfl 77 _ rfl _ rfl _ [.string x.f0, .int .i64 x.f1] huE rfl HIE.out (EC.out.below HB.out) ?_; (try simp only [Act.put, sq1, sq2, sq3])) | ((with_reducible refine gD (N := 5) rfl ?_); refine bX ?hg (N := 5) ?hd (cs := #[.string (⟨#[]⟩ : ByteArray), .int .i64 0]) (t := 77) ?hr ?_; (case hd => rfl); (case hg => rfl); (case hr => first | (go_simp; done) | (go_simp; rfl)); intro g5 hg w5 hbox hb; have HX5 := As.mk hb; have HGE := As.mk (Nat.le_of_eq hg.symm); have BKn := As.mk hbox; clear hg hbox hb; (try simp only [Act.put, sq1, sq2, sq3])) | ((with_reducible refine gS (t := 77) (p := 5) rfl ?_); refine Go.Proofs.Ytbamjjaamjfnaaa.RowLaw.put_event rfl 77 _ _ rfl g5 0 (.agg #[.string x.f0, .int .i64 x.f1]) rfl rfl [.string x.f0, .int .i64 x.f1] rfl 77 _ #[.string x.f0, .int .i64 x.f1] BKn.out HIE.out (Nat.le_of_ble_eq_true rfl) rfl rfl ?_; intro w7 hk hoth hbel hz; have hb := hbel _ _ HX5.out HGE.out; have n0_ := As.mk (bT HB.out hb); have n1_ := As.mk (kB BK1.out hb); clear HB BK1; have HB := n0_; have BK1 := n1_; clear n0_ n1_; have BK5 := As.mk hk; clear hk hoth hbel hz hb HX5 HGE BKn; (try simp only [Act.put, sq1, sq2, sq3])) | ((with_reducible refine gD (N := 16) rfl ?_); refine Go.Proofs.Ytbamjjaamjfnaaa.RowLaw.cell_event rfl 29 _ rfl g1 1 rfl 31 #[.slice A0_0 l0_0.length c0_0, .slice (some ad) l0_1.length c0_1] _ (.slice (some ad) l0_1.length c0_1) BK1.out huSE rfl rfl ?_; (try simp only [Act.put, sq1, sq2, sq3])) | (go_at_call 75; refine calls_of_args (args' := #[.slice (some ad) (l0_1.take i).length c0_1, .func (.func 76) #[] #[.pointer (some ⟨g5, 0, none⟩)]]) (by rw [HTL.out]) ?_; have hc := containsFunc_calls x g5 (some ad) c0_1 (l0_1.take i) _ BK5.out (Kd.CB XT.out HB.out) HML.out; rw [HMET.out] at hc; refine hc.mono ?_; clear hc; rintro r w3 ⟨rfl, hb⟩; have n0_ := As.mk (bT HB.out hb); have n1_ := As.mk (kB BK1.out hb); have n2_ := As.mk (kB BK5.out hb); clear HB BK1 BK5; have HB := n0_; have BK1 := n1_; have BK5 := n2_; clear n0_ n1_ n2_; clear hb))
    go_ret
    exact ⟨by rfl, HB.out⟩
   | false =>
    rw [hmet, if_neg (by simp)] at hgg
    have HMET := As.mk hmet
    replace hgg := Option.bind_eq_some_iff.mp hgg
    obtain ⟨b, hI, hgg⟩ := hgg
    have HI := As.mk hI
    clear hmet hI
    cases b with
    | false =>
     rw [if_pos rfl] at hgg
     obtain rfl := Option.some.inj hgg
     clear hgg
     go_wp2_with (first | ((with_reducible refine gD (N := 14) rfl ?_); refine Go.Proofs.Ytbamjjaamjfnaaa.RowLaw.at_event rfl 77 _ rfl _ rfl _ [.string x.f0, .int .i64 x.f1] huE rfl HIE.out (EC.out.below HB.out) ?_; (try simp only [Act.put, sq1, sq2, sq3])) | ((with_reducible refine gD (N := 5) rfl ?_); refine bX ?hg (N := 5) ?hd (cs := #[.string (⟨#[]⟩ : ByteArray), .int .i64 0]) (t := 77) ?hr ?_; (case hd => rfl); (case hg => rfl); (case hr => first | (go_simp; done) | (go_simp; rfl)); intro g5 hg w5 hbox hb; have HX5 := As.mk hb; have HGE := As.mk (Nat.le_of_eq hg.symm); have BKn := As.mk hbox; clear hg hbox hb; (try simp only [Act.put, sq1, sq2, sq3])) | ((with_reducible refine gS (t := 77) (p := 5) rfl ?_); refine Go.Proofs.Ytbamjjaamjfnaaa.RowLaw.put_event rfl 77 _ _ rfl g5 0 (.agg #[.string x.f0, .int .i64 x.f1]) rfl rfl [.string x.f0, .int .i64 x.f1] rfl 77 _ #[.string x.f0, .int .i64 x.f1] BKn.out HIE.out (Nat.le_of_ble_eq_true rfl) rfl rfl ?_; intro w7 hk hoth hbel hz; have hb := hbel _ _ HX5.out HGE.out; have n0_ := As.mk (bT HB.out hb); have n1_ := As.mk (kB BK1.out hb); clear HB BK1; have HB := n0_; have BK1 := n1_; clear n0_ n1_; have BK5 := As.mk hk; clear hk hoth hbel hz hb HX5 HGE BKn; (try simp only [Act.put, sq1, sq2, sq3])) | ((with_reducible refine gD (N := 16) rfl ?_); refine Go.Proofs.Ytbamjjaamjfnaaa.RowLaw.cell_event rfl 29 _ rfl g1 1 rfl 31 #[.slice A0_0 l0_0.length c0_0, .slice (some ad) l0_1.length c0_1] _ (.slice (some ad) l0_1.length c0_1) BK1.out huSE rfl rfl ?_; (try simp only [Act.put, sq1, sq2, sq3])) | (go_at_call 75; refine calls_of_args (args' := #[.slice (some ad) (l0_1.take i).length c0_1, .func (.func 76) #[] #[.pointer (some ⟨g5, 0, none⟩)]]) (by rw [HTL.out]) ?_; have hc := containsFunc_calls x g5 (some ad) c0_1 (l0_1.take i) _ BK5.out (Kd.CB XT.out HB.out) HML.out; rw [HMET.out] at hc; refine hc.mono ?_; clear hc; rintro r w3 ⟨rfl, hb⟩; have n0_ := As.mk (bT HB.out hb); have n1_ := As.mk (kB BK1.out hb); have n2_ := As.mk (kB BK5.out hb); clear HB BK1 BK5; have HB := n0_; have BK1 := n1_; have BK5 := n2_; clear n0_ n1_ n2_; clear hb) | ((with_reducible refine gD (N := 24) rfl ?_); refine gG (by rfl) ?_; dsimp only; refine Go.Proofs.Ytbamjjaamjfnaaa.RowLaw.cell_event rfl 9 _ rfl g5 0 rfl 77 #[.string x.f0, .int .i64 x.f1] _ (.string x.f0) BK5.out huT rfl rfl ?_; (try simp only [Act.put, sq1, sq2, sq3])) | ((with_reducible refine gC (f := 73) rfl ?_); (with_reducible refine gD (N := 25) rfl ?_); refine gG (by rfl) ?_; dsimp only; refine gL (some 25) rfl rfl Try.func73 (by kernel_rfl) rfl #[.string x.f0] rfl (by (try simp only [sm1, sm2, sm3]); first | done | rfl) ?_; refine (F26.calls k x.f0 false _ HI.out).mono ?_; rintro e w4 ⟨rfl, hb⟩; refine ⟨_, rfl, ?_⟩; have n0_ := As.mk (bT HB.out hb); have n1_ := As.mk (kB BK1.out hb); have n2_ := As.mk (kB BK5.out hb); clear HB BK1 BK5; have HB := n0_; have BK1 := n1_; have BK5 := n2_; clear n0_ n1_ n2_; clear hb; (try simp only [Act.put, sq1, sq2, sq3])))
     go_ret
     exact ⟨by rfl, HB.out⟩
    | true =>
     rw [if_neg (by simp)] at hgg
     by_cases hle : x.f1 ≤ last
     ·rw [if_pos hle] at hgg
      obtain rfl := Option.some.inj hgg
      have c8 : (x.f1 ≤ last) = True := eq_true hle
      have c8b : decide (x.f1 ≤ last) = true := decide_eq_true hle
      clear hgg hle
      go_wp2_with (first | ((with_reducible refine gD (N := 14) rfl ?_); refine Go.Proofs.Ytbamjjaamjfnaaa.RowLaw.at_event rfl 77 _ rfl _ rfl _ [.string x.f0, .int .i64 x.f1] huE rfl HIE.out (EC.out.below HB.out) ?_; (try simp only [Act.put, sq1, sq2, sq3])) | ((with_reducible refine gD (N := 5) rfl ?_); refine bX ?hg (N := 5) ?hd (cs := #[.string (⟨#[]⟩ : ByteArray), .int .i64 0]) (t := 77) ?hr ?_; (case hd => rfl); (case hg => rfl); (case hr => first | (go_simp; done) | (go_simp; rfl)); intro g5 hg w5 hbox hb; have HX5 := As.mk hb; have HGE := As.mk (Nat.le_of_eq hg.symm); have BKn := As.mk hbox; clear hg hbox hb; (try simp only [Act.put, sq1, sq2, sq3])) | ((with_reducible refine gS (t := 77) (p := 5) rfl ?_); refine Go.Proofs.Ytbamjjaamjfnaaa.RowLaw.put_event rfl 77 _ _ rfl g5 0 (.agg #[.string x.f0, .int .i64 x.f1]) rfl rfl [.string x.f0, .int .i64 x.f1] rfl 77 _ #[.string x.f0, .int .i64 x.f1] BKn.out HIE.out (Nat.le_of_ble_eq_true rfl) rfl rfl ?_; intro w7 hk hoth hbel hz; have hb := hbel _ _ HX5.out HGE.out; have n0_ := As.mk (bT HB.out hb); have n1_ := As.mk (kB BK1.out hb); clear HB BK1; have HB := n0_; have BK1 := n1_; clear n0_ n1_; have BK5 := As.mk hk; clear hk hoth hbel hz hb HX5 HGE BKn; (try simp only [Act.put, sq1, sq2, sq3])) | ((with_reducible refine gD (N := 16) rfl ?_); refine Go.Proofs.Ytbamjjaamjfnaaa.RowLaw.cell_event rfl 29 _ rfl g1 1 rfl 31 #[.slice A0_0 l0_0.length c0_0, .slice (some ad) l0_1.length c0_1] _ (.slice (some ad) l0_1.length c0_1) BK1.out huSE rfl rfl ?_; (try simp only [Act.put, sq1, sq2, sq3])) | (go_at_call 75; refine calls_of_args (args' := #[.slice (some ad) (l0_1.take i).length c0_1, .func (.func 76) #[] #[.pointer (some ⟨g5, 0, none⟩)]]) (by rw [HTL.out]) ?_; have hc := containsFunc_calls x g5 (some ad) c0_1 (l0_1.take i) _ BK5.out (Kd.CB XT.out HB.out) HML.out; rw [HMET.out] at hc; refine hc.mono ?_; clear hc; rintro r w3 ⟨rfl, hb⟩; have n0_ := As.mk (bT HB.out hb); have n1_ := As.mk (kB BK1.out hb); have n2_ := As.mk (kB BK5.out hb); clear HB BK1 BK5; have HB := n0_; have BK1 := n1_; have BK5 := n2_; clear n0_ n1_ n2_; clear hb) | ((with_reducible refine gD (N := 24) rfl ?_); refine gG (by rfl) ?_; dsimp only; refine Go.Proofs.Ytbamjjaamjfnaaa.RowLaw.cell_event rfl 9 _ rfl g5 0 rfl 77 #[.string x.f0, .int .i64 x.f1] _ (.string x.f0) BK5.out huT rfl rfl ?_; (try simp only [Act.put, sq1, sq2, sq3])) | ((with_reducible refine gD (N := 30) rfl ?_); refine gG (by rfl) ?_; dsimp only; refine Go.Proofs.Ytbamjjaamjfnaaa.RowLaw.cell_event rfl 2 _ rfl g5 1 rfl 77 #[.string x.f0, .int .i64 x.f1] _ (.int .i64 x.f1) BK5.out huI rfl rfl ?_; (try simp only [Act.put, sq1, sq2, sq3])) | ((with_reducible refine gC (f := 73) rfl ?_); (with_reducible refine gD (N := 25) rfl ?_); refine gG (by rfl) ?_; dsimp only; refine gL (some 25) rfl rfl Try.func73 (by kernel_rfl) rfl #[.string x.f0] rfl (by (try simp only [sm1, sm2, sm3]); first | done | rfl) ?_; refine (F26.calls k x.f0 true _ HI.out).mono ?_; rintro e w4 ⟨rfl, hb⟩; refine ⟨_, rfl, ?_⟩; have n0_ := As.mk (bT HB.out hb); have n1_ := As.mk (kB BK1.out hb); have n2_ := As.mk (kB BK5.out hb); clear HB BK1 BK5; have HB := n0_; have BK1 := n1_; have BK5 := n2_; clear n0_ n1_ n2_; clear hb; (try simp only [Act.put, sq1, sq2, sq3])))
      go_ret
      exact ⟨by rfl, HB.out⟩
     rw [if_neg hle] at hgg
     have c8 : (x.f1 ≤ last) = False := eq_false hle
     have c8b : decide (x.f1 ≤ last) = false := decide_eq_false hle
     replace hgg := Option.bind_eq_some_iff.mp hgg
     obtain ⟨q, hJ, hgg⟩ := hgg
     rw [HNN.out] at hJ
     have HJ := As.mk hJ
     clear hJ hle
     cases q with
     | false =>
      rw [if_neg (by simp)] at hgg
      obtain rfl := Option.some.inj hgg
      clear hgg
      go_wp2_with (first | ((with_reducible refine gD (N := 14) rfl ?_); refine Go.Proofs.Ytbamjjaamjfnaaa.RowLaw.at_event rfl 77 _ rfl _ rfl _ [.string x.f0, .int .i64 x.f1] huE rfl HIE.out (EC.out.below HB.out) ?_; (try simp only [Act.put, sq1, sq2, sq3])) | ((with_reducible refine gD (N := 5) rfl ?_); refine bX ?hg (N := 5) ?hd (cs := #[.string (⟨#[]⟩ : ByteArray), .int .i64 0]) (t := 77) ?hr ?_; (case hd => rfl); (case hg => rfl); (case hr => first | (go_simp; done) | (go_simp; rfl)); intro g5 hg w5 hbox hb; have HX5 := As.mk hb; have HGE := As.mk (Nat.le_of_eq hg.symm); have BKn := As.mk hbox; clear hg hbox hb; (try simp only [Act.put, sq1, sq2, sq3])) | ((with_reducible refine gS (t := 77) (p := 5) rfl ?_); refine Go.Proofs.Ytbamjjaamjfnaaa.RowLaw.put_event rfl 77 _ _ rfl g5 0 (.agg #[.string x.f0, .int .i64 x.f1]) rfl rfl [.string x.f0, .int .i64 x.f1] rfl 77 _ #[.string x.f0, .int .i64 x.f1] BKn.out HIE.out (Nat.le_of_ble_eq_true rfl) rfl rfl ?_; intro w7 hk hoth hbel hz; have hb := hbel _ _ HX5.out HGE.out; have n0_ := As.mk (bT HB.out hb); have n1_ := As.mk (kB BK1.out hb); clear HB BK1; have HB := n0_; have BK1 := n1_; clear n0_ n1_; have BK5 := As.mk hk; clear hk hoth hbel hz hb HX5 HGE BKn; (try simp only [Act.put, sq1, sq2, sq3])) | ((with_reducible refine gD (N := 16) rfl ?_); refine Go.Proofs.Ytbamjjaamjfnaaa.RowLaw.cell_event rfl 29 _ rfl g1 1 rfl 31 #[.slice A0_0 l0_0.length c0_0, .slice (some ad) l0_1.length c0_1] _ (.slice (some ad) l0_1.length c0_1) BK1.out huSE rfl rfl ?_; (try simp only [Act.put, sq1, sq2, sq3])) | (go_at_call 75; refine calls_of_args (args' := #[.slice (some ad) (l0_1.take i).length c0_1, .func (.func 76) #[] #[.pointer (some ⟨g5, 0, none⟩)]]) (by rw [HTL.out]) ?_; have hc := containsFunc_calls x g5 (some ad) c0_1 (l0_1.take i) _ BK5.out (Kd.CB XT.out HB.out) HML.out; rw [HMET.out] at hc; refine hc.mono ?_; clear hc; rintro r w3 ⟨rfl, hb⟩; have n0_ := As.mk (bT HB.out hb); have n1_ := As.mk (kB BK1.out hb); have n2_ := As.mk (kB BK5.out hb); clear HB BK1 BK5; have HB := n0_; have BK1 := n1_; have BK5 := n2_; clear n0_ n1_ n2_; clear hb) | ((with_reducible refine gD (N := 24) rfl ?_); refine gG (by rfl) ?_; dsimp only; refine Go.Proofs.Ytbamjjaamjfnaaa.RowLaw.cell_event rfl 9 _ rfl g5 0 rfl 77 #[.string x.f0, .int .i64 x.f1] _ (.string x.f0) BK5.out huT rfl rfl ?_; (try simp only [Act.put, sq1, sq2, sq3])) | ((with_reducible refine gD (N := 30) rfl ?_); refine gG (by rfl) ?_; dsimp only; refine Go.Proofs.Ytbamjjaamjfnaaa.RowLaw.cell_event rfl 2 _ rfl g5 1 rfl 77 #[.string x.f0, .int .i64 x.f1] _ (.int .i64 x.f1) BK5.out huI rfl rfl ?_; (try simp only [Act.put, sq1, sq2, sq3])) | ((with_reducible refine gD (N := 36) rfl ?_); refine gG (by rfl) ?_; dsimp only; refine Go.Proofs.Ytbamjjaamjfnaaa.RowLaw.cell_event rfl 2 _ rfl g5 1 rfl 77 #[.string x.f0, .int .i64 x.f1] _ (.int .i64 x.f1) BK5.out huI rfl rfl ?_; (try simp only [Act.put, sq1, sq2, sq3])) | ((with_reducible refine gD (N := 38) rfl ?_); refine gG (by rfl) ?_; dsimp only; refine Go.Proofs.Ytbamjjaamjfnaaa.RowLaw.cell_event rfl 28 _ rfl g1 0 rfl 31 #[.slice A0_0 l0_0.length c0_0, .slice (some ad) l0_1.length c0_1] _ (.slice A0_0 l0_0.length c0_0) BK1.out huSI rfl rfl ?_; (try simp only [Act.put, sq1, sq2, sq3])) | ((with_reducible refine gC (f := 73) rfl ?_); (with_reducible refine gD (N := 25) rfl ?_); refine gG (by rfl) ?_; dsimp only; refine gL (some 25) rfl rfl Try.func73 (by kernel_rfl) rfl #[.string x.f0] rfl (by (try simp only [sm1, sm2, sm3]); first | done | rfl) ?_; refine (F26.calls k x.f0 true _ HI.out).mono ?_; rintro e w4 ⟨rfl, hb⟩; refine ⟨_, rfl, ?_⟩; have n0_ := As.mk (bT HB.out hb); have n1_ := As.mk (kB BK1.out hb); have n2_ := As.mk (kB BK5.out hb); clear HB BK1 BK5; have HB := n0_; have BK1 := n1_; have BK5 := n2_; clear n0_ n1_ n2_; clear hb; (try simp only [Act.put, sq1, sq2, sq3])) | ((with_reducible refine gC (f := 71) rfl ?_); (with_reducible refine gD (N := 40) rfl ?_); refine gG (by rfl) ?_; dsimp only; refine gL (some 40) rfl rfl Try.func71 (by kernel_rfl) rfl #[.int .i64 x.f1, .int .i64 (l0_0.length : Int)] rfl (by (try simp only [sm1, sm2, sm3]); first | done | rfl) ?_; refine (impl_isIndex.calls x.f1 (l0_0.length : Int) false _ HJ.out).mono ?_; rintro e w4 ⟨rfl, ⟨md, rfl⟩⟩; refine ⟨_, rfl, ?_⟩; have n0_ := As.mk (bT HB.out (bD (Below.refl _ _) md)); have n1_ := As.mk (kB BK1.out (bD (Below.refl _ _) md)); have n2_ := As.mk (kB BK5.out (bD (Below.refl _ _) md)); clear HB BK1 BK5; have HB := n0_; have BK1 := n1_; have BK5 := n2_; clear n0_ n1_ n2_; (try simp only [Act.put, sq1, sq2, sq3])))
      go_ret
      exact ⟨by rfl, HB.out⟩
     | true =>
      rw [if_pos rfl] at hgg
      have HG := As.mk hgg
      clear hgg
      go_wp2_with (first | ((with_reducible refine gD (N := 14) rfl ?_); refine Go.Proofs.Ytbamjjaamjfnaaa.RowLaw.at_event rfl 77 _ rfl _ rfl _ [.string x.f0, .int .i64 x.f1] huE rfl HIE.out (EC.out.below HB.out) ?_; (try simp only [Act.put, sq1, sq2, sq3])) | ((with_reducible refine gD (N := 5) rfl ?_); refine bX ?hg (N := 5) ?hd (cs := #[.string (⟨#[]⟩ : ByteArray), .int .i64 0]) (t := 77) ?hr ?_; (case hd => rfl); (case hg => rfl); (case hr => first | (go_simp; done) | (go_simp; rfl)); intro g5 hg w5 hbox hb; have HX5 := As.mk hb; have HGE := As.mk (Nat.le_of_eq hg.symm); have BKn := As.mk hbox; clear hg hbox hb; (try simp only [Act.put, sq1, sq2, sq3])) | ((with_reducible refine gS (t := 77) (p := 5) rfl ?_); refine Go.Proofs.Ytbamjjaamjfnaaa.RowLaw.put_event rfl 77 _ _ rfl g5 0 (.agg #[.string x.f0, .int .i64 x.f1]) rfl rfl [.string x.f0, .int .i64 x.f1] rfl 77 _ #[.string x.f0, .int .i64 x.f1] BKn.out HIE.out (Nat.le_of_ble_eq_true rfl) rfl rfl ?_; intro w7 hk hoth hbel hz; have hb := hbel _ _ HX5.out HGE.out; have n0_ := As.mk (bT HB.out hb); have n1_ := As.mk (kB BK1.out hb); clear HB BK1; have HB := n0_; have BK1 := n1_; clear n0_ n1_; have BK5 := As.mk hk; clear hk hoth hbel hz hb HX5 HGE BKn; (try simp only [Act.put, sq1, sq2, sq3])) | ((with_reducible refine gD (N := 16) rfl ?_); refine Go.Proofs.Ytbamjjaamjfnaaa.RowLaw.cell_event rfl 29 _ rfl g1 1 rfl 31 #[.slice A0_0 l0_0.length c0_0, .slice (some ad) l0_1.length c0_1] _ (.slice (some ad) l0_1.length c0_1) BK1.out huSE rfl rfl ?_; (try simp only [Act.put, sq1, sq2, sq3])) | (go_at_call 75; refine calls_of_args (args' := #[.slice (some ad) (l0_1.take i).length c0_1, .func (.func 76) #[] #[.pointer (some ⟨g5, 0, none⟩)]]) (by rw [HTL.out]) ?_; have hc := containsFunc_calls x g5 (some ad) c0_1 (l0_1.take i) _ BK5.out (Kd.CB XT.out HB.out) HML.out; rw [HMET.out] at hc; refine hc.mono ?_; clear hc; rintro r w3 ⟨rfl, hb⟩; have n0_ := As.mk (bT HB.out hb); have n1_ := As.mk (kB BK1.out hb); have n2_ := As.mk (kB BK5.out hb); clear HB BK1 BK5; have HB := n0_; have BK1 := n1_; have BK5 := n2_; clear n0_ n1_ n2_; clear hb) | ((with_reducible refine gD (N := 24) rfl ?_); refine gG (by rfl) ?_; dsimp only; refine Go.Proofs.Ytbamjjaamjfnaaa.RowLaw.cell_event rfl 9 _ rfl g5 0 rfl 77 #[.string x.f0, .int .i64 x.f1] _ (.string x.f0) BK5.out huT rfl rfl ?_; (try simp only [Act.put, sq1, sq2, sq3])) | ((with_reducible refine gD (N := 30) rfl ?_); refine gG (by rfl) ?_; dsimp only; refine Go.Proofs.Ytbamjjaamjfnaaa.RowLaw.cell_event rfl 2 _ rfl g5 1 rfl 77 #[.string x.f0, .int .i64 x.f1] _ (.int .i64 x.f1) BK5.out huI rfl rfl ?_; (try simp only [Act.put, sq1, sq2, sq3])) | ((with_reducible refine gD (N := 36) rfl ?_); refine gG (by rfl) ?_; dsimp only; refine Go.Proofs.Ytbamjjaamjfnaaa.RowLaw.cell_event rfl 2 _ rfl g5 1 rfl 77 #[.string x.f0, .int .i64 x.f1] _ (.int .i64 x.f1) BK5.out huI rfl rfl ?_; (try simp only [Act.put, sq1, sq2, sq3])) | ((with_reducible refine gD (N := 38) rfl ?_); refine gG (by rfl) ?_; dsimp only; refine Go.Proofs.Ytbamjjaamjfnaaa.RowLaw.cell_event rfl 28 _ rfl g1 0 rfl 31 #[.slice A0_0 l0_0.length c0_0, .slice (some ad) l0_1.length c0_1] _ (.slice A0_0 l0_0.length c0_0) BK1.out huSI rfl rfl ?_; (try simp only [Act.put, sq1, sq2, sq3])) | ((with_reducible refine gD (N := 44) rfl ?_); refine Go.Proofs.Ytbamjjaamjfnaaa.RowLaw.cell_event rfl 2 _ rfl g5 1 rfl 77 #[.string x.f0, .int .i64 x.f1] _ (.int .i64 x.f1) BK5.out huI rfl rfl ?_; (try simp only [Act.put, sq1, sq2, sq3])) | ((with_reducible refine gC (f := 73) rfl ?_); (with_reducible refine gD (N := 25) rfl ?_); refine gG (by rfl) ?_; dsimp only; refine gL (some 25) rfl rfl Try.func73 (by kernel_rfl) rfl #[.string x.f0] rfl (by (try simp only [sm1, sm2, sm3]); first | done | rfl) ?_; refine (F26.calls k x.f0 true _ HI.out).mono ?_; rintro e w4 ⟨rfl, hb⟩; refine ⟨_, rfl, ?_⟩; have n0_ := As.mk (bT HB.out hb); have n1_ := As.mk (kB BK1.out hb); have n2_ := As.mk (kB BK5.out hb); clear HB BK1 BK5; have HB := n0_; have BK1 := n1_; have BK5 := n2_; clear n0_ n1_ n2_; clear hb; (try simp only [Act.put, sq1, sq2, sq3])) | ((with_reducible refine gC (f := 71) rfl ?_); (with_reducible refine gD (N := 40) rfl ?_); refine gG (by rfl) ?_; dsimp only; refine gL (some 40) rfl rfl Try.func71 (by kernel_rfl) rfl #[.int .i64 x.f1, .int .i64 (l0_0.length : Int)] rfl (by (try simp only [sm1, sm2, sm3]); first | done | rfl) ?_; refine (impl_isIndex.calls x.f1 (l0_0.length : Int) true _ HJ.out).mono ?_; rintro e w4 ⟨rfl, ⟨md, rfl⟩⟩; refine ⟨_, rfl, ?_⟩; have n0_ := As.mk (bT HB.out (bD (Below.refl _ _) md)); have n1_ := As.mk (kB BK1.out (bD (Below.refl _ _) md)); have n2_ := As.mk (kB BK5.out (bD (Below.refl _ _) md)); clear HB BK1 BK5; have HB := n0_; have BK1 := n1_; have BK5 := n2_; clear n0_ n1_ n2_; (try simp only [Act.put, sq1, sq2, sq3])))
      go_roundg kp
      case measure => omega
      case rel => exact ⟨i + 1, x.f1, by first | rfl | rw [HW.out], rfl, ⟨by omega⟩, HB, BK1, HG⟩
  ·obtain rfl : i = l0_1.length := by have := HK.out; omega
   have hgg := HG.out
   rw [List.drop_length] at hgg
   simp only [F9.g] at hgg
   obtain rfl := Option.some.inj hgg
   have c5 : ((l0_1.length : Int) < (l0_1.length : Int)) = False := eq_false (by omega)
   clear hi2 hgg HG
   go_wp2_with (first | ((with_reducible refine gD (N := 47) rfl ?_); refine Go.Proofs.Ytbamjjaamjfnaaa.RowLaw.cell_event rfl 29 _ rfl g1 1 rfl 31 #[.slice A0_0 l0_0.length c0_0, .slice A0_1 l0_1.length c0_1] _ (.slice A0_1 l0_1.length c0_1) BK1.out huSE rfl rfl ?_; (try simp only [Act.put, sq1, sq2, sq3])))
   go_ret
   exact ⟨by simp, HB.out⟩
def F6.l0 : Nat → List Int → List (S77) → Int → Int → List (S80) → List (S77) → Option (List Int)
 | 0, _, _, _, _, _, _ => none
 | k + 1, x3, x8, x9, x10, x296000, x296001 => if x10 < x9 then (if 0 ≤ x10 then (if x10 < (x8.length : Int) then (if x3.length < 17592186044416 then (F6.l0 k (x3 ++ [(rd_T77 x8 x10).f1]) x8 x9 (wrap64 (x10 + 1)) x296000 x296001) else (none)) else (none)) else (none)) else (if x3.length < 17592186044416 then (some (x3 ++ [(x296000.length : Int)])) else (none))
def F6.f (k : Nat) (l0_0 : List (S80)) (l0_1 : List (S77)) : Option (List Int) := F6.l0 k (([0] : List Int)) l0_1 (l0_1.length : Int) 0 l0_0 l0_1
theorem F6.mono_l : ∀ k, (∀ y0 y1 y2 y3 y4 y5, LeO (F6.l0 k y0 y1 y2 y3 y4 y5) (F6.l0 (k + 1) y0 y1 y2 y3 y4 y5))
 | 0 => fun _ _ _ _ _ _ r h => by simp [F6.l0] at h
 | k + 1 => by
  have ih0 := F6.mono_l k
  ·intro y0 y1 y2 y3 y4 y5
   unfold F6.l0
   repeat' with_reducible first
   | exact ih0 _ _ _ _ _ _
   | exact LeO.refl _
   | exact LeO.none _
   | refine LeO.ite ?_ ?_
   | refine LeO.bind ?_ (fun _ => ?_)
theorem F6.mono : ∀ a0 a1 k, LeO (F6.f k a0 a1) (F6.f (k + 1) a0 a1) := by
 intro a0 a1 k
 have ih0 := F6.mono_l k
 unfold F6.f
 repeat' with_reducible first
   | exact ih0 _ _ _ _ _ _
   | exact LeO.refl _
   | exact LeO.none _
   | refine LeO.ite ?_ ?_
   | refine LeO.bind ?_ (fun _ => ?_)
theorem F6.calls (k : Nat) (A0_0 : Option Addr) (c0_0 : Nat) (l0_0 : List (S80)) (A0_1 : Option Addr) (c0_1 : Nat) (l0_1 : List (S77)) (r : List Int) (w : World) (hr0_0 : Kd.C k80 w A0_0 l0_0.length l0_0) (hc0_0 : l0_0.length ≤ c0_0) (hr0_1 : Kd.C k77 w A0_1 l0_1.length l0_1) (hc0_1 : l0_1.length ≤ c0_1) (h : F6.f k l0_0 l0_1 = some r) :
  Calls Try.prog 56 #[.agg #[.slice A0_0 l0_0.length c0_0, .slice A0_1 l0_1.length c0_1]] w fun e w' => ∃ v0_ : Value, e = .returned (v0_) ∧ Kd.R (Kd.int .i64) 2 w' w.heap.size (fun _ => True) v0_ r ∧ Below w.heap.size w w' := by
 have hu31 := Try.underlying31
 have hu77 := Try.underlying77
 have HR0_0 := As.mk hr0_0
 have HC0_0 := As.mk hc0_0
 clear hr0_0 hc0_0
 have HR0_1 := As.mk hr0_1
 have HC0_1 := As.mk hc0_1
 clear hr0_1 hc0_1
 have HB := As.mk (Below.refl w.heap.size w)
 have H : (F6.l0 k (([0] : List Int)) l0_1 (l0_1.length : Int) 0 l0_0 l0_1) = some r := h
 clear h
 obtain ⟨y296, hy296⟩ : ∃ y_ : List Int, y_ = (([0] : List Int)) := ⟨_, rfl⟩
 replace H : (F6.l0 k y296 l0_1 (l0_1.length : Int) 0 l0_0 l0_1) = some r := by first | (rw [hy296]; with_reducible exact H) | (have H2_ := (Option.bind_some _ _).symm.trans H; rw [hy296]; with_reducible exact H2_) | (have H2_ := (Option.bind_some _ _).symm.trans H; with_reducible exact H2_) | with_reducible exact H | (rw [hy296]; exact H) | exact H
 have Ny296 := As.mk hy296
 clear hy296
 have H' := As.mk H
 clear H
 go_enter Try.func56, Try.ntmps56
 go_wp2_with (first | ((with_reducible refine gD (N := 1) rfl ?_); refine bX ?hg (N := 1) ?hd (cs := #[.slice A0_0 l0_0.length c0_0, .slice A0_1 l0_1.length c0_1]) (t := 31) ?hr ?_; (case hd => rfl); (case hg => rfl); (case hr => first | (go_simp; done) | (go_simp; rfl)); intro gb295 hg w2 hbox hb; have BK295 := As.mk (hbox); have GW295 := As.mk ((by rw [hg]; exact (bZ (by repeat (first | (with_reducible first | exact HB.out | apply bA | apply bD | apply bE) | exact HB.out))) : w.heap.size ≤ gb295)); have GE295 := GW295; replace HB := As.mk (bT (by repeat (first | (with_reducible first | exact HB.out | apply bA | apply bD | apply bE) | exact HB.out)) hb); clear hb hbox hg) | ((with_reducible refine gD (N := 6) rfl ?_); refine Kd.R_lit (Kd.int .i64) _ 2 ?hg (N := 6) ?hd (xs := ([0] : List Int)) (inner := [.int .i64 0]) (ok := fun _ => True) (okp := fun _ => True) ?hr ?hp (fun _ hk => hk) trivial (Below.refl _ _) (Nat.le_refl _) (by simp) ?_; (case hd => rfl); (case hg => rfl); (case hr => first | (go_simp; done) | (go_simp; rfl)); (case hp => exact (Reps.one (show Kd.M (Kd.int .i64) _ _ _ 0 [.int .i64 0] from rfl) (Reps.none _ _))); intro v297 w3 ho4 hb hg_ hnew_; clear hg_ hnew_; (first | rw [← Ny296.out] at ho4 | (simp only [Int.reduceToNat] at ho4; rw [← Ny296.out] at ho4)); have HO298 := As.mk (Kd.R_lower ho4 (bZ (by repeat (first | (with_reducible first | exact HB.out | apply bA | apply bD | apply bE | refine bS ?_ GE295.out) | exact HB.out)))); replace BK295 := As.mk (kB (g := gb295) (o := .cells #[.slice A0_0 l0_0.length c0_0, .slice A0_1 l0_1.length c0_1] 31 (0, 0)) (by (with_reducible repeat (first | refine kD ?_ _ | refine kE ?_ | refine kA ?_ _)); exact BK295.out) hb); replace HB := As.mk (bT (by repeat (first | (with_reducible first | exact HB.out | apply bA | apply bD | apply bE | refine bS ?_ GE295.out) | exact HB.out)) hb); clear hb ho4; have cz_ := c2_0 (w := w3) (g := gb295) BK295.out; obtain ⟨hcz5_0, hcz5_1⟩ := cz_; have hfz5 := kF BK295.out))
 go_loopg [3, 10] k (fun kq v3 v10 w' => ∃ (x3_1 : List Int) (x10_1 : Int), v10 = .int .i64 x10_1 ∧ As (F6.l0 kq x3_1 l0_1 (l0_1.length : Int) x10_1 l0_0 l0_1 = some r) ∧ As (kq ≤ k) ∧ As (Kd.R (Kd.int .i64) 2 w' w.heap.size (fun _ => True) v3 x3_1) ∧ As (w'.heap[gb295]? = some (.cells #[(.slice A0_0 l0_0.length c0_0), (.slice A0_1 l0_1.length c0_1)] 31 (0, 0))) ∧ As (Below w.heap.size w w'))
 case atStart => exact ⟨(y296), (0), (by first | rfl | (simp; done) | (simp [*]; done)), H', ⟨Nat.le_refl _⟩, ⟨by (with_reducible repeat (first | apply Kd.RA | apply Kd.RN | apply Kd.RD)); exact HO298.out⟩, ⟨by (with_reducible repeat (first | refine kD ?_ _ | refine kE ?_ | refine kA ?_ _)); exact BK295.out⟩, ⟨by repeat (first | (with_reducible first | exact HB.out | apply bA | apply bD | apply bE | refine bS ?_ GE295.out) | exact HB.out)⟩⟩
 case round =>
  clear H'
  try clear hcz5_0
  try clear hcz5_1
  try clear hfz5
  obtain ⟨x3_1, x10_1, rfl, HA, HK1, HO_3, BK295, HB⟩ := hrel
  cases gk with
  | zero => exact absurd HA.out (by simp [F6.l0])
  | succ k1 =>
   have H := HA.out
   clear HA
   simp only [F6.l0] at H
   by_cases c6 : x10_1 < (l0_1.length : Int)
   ·rw [if_pos c6] at H
    have c6b0 : decide (x10_1 < (l0_1.length : Int)) = true := decide_eq_true c6
    clear c6
    by_cases c7 : 0 ≤ x10_1
    ·rw [if_pos c7] at H
     have c7b0 : decide (0 ≤ x10_1) = true := decide_eq_true c7
     clear c7
     by_cases c8 : x10_1 < (l0_1.length : Int)
     ·rw [if_pos c8] at H
      have c8b0 : decide (x10_1 < (l0_1.length : Int)) = true := decide_eq_true c8
      clear c8
      by_cases c9 : x3_1.length < 17592186044416
      ·rw [if_pos c9] at H
       have LMc9 := As.mk c9
       clear c9
       obtain ⟨y301, hy301⟩ : ∃ y_ : List Int, y_ = (x3_1 ++ [(rd_T77 l0_1 x10_1).f1]) := ⟨_, rfl⟩
       replace H : (F6.l0 k1 y301 l0_1 (l0_1.length : Int) (wrap64 (x10_1 + 1)) l0_0 l0_1) = some r := by first | (rw [hy301]; with_reducible exact H) | (have H2_ := (Option.bind_some _ _).symm.trans H; rw [hy301]; with_reducible exact H2_) | (have H2_ := (Option.bind_some _ _).symm.trans H; with_reducible exact H2_) | with_reducible exact H | (rw [hy301]; exact H) | exact H
       have Ny301 := As.mk hy301
       clear hy301
       have H' := As.mk H
       clear H
       have p299 : 0 ≤ (x10_1 : Int) := of_decide_eq_true (by first | (with_reducible assumption) | assumption)
       have q299 : x10_1 < (l0_1.length : Int) := of_decide_eq_true (by first | (with_reducible assumption) | assumption)
       obtain ⟨ad299, e299, hx299_0, hx299_1⟩ := at_T77 HR0_1.out x10_1 p299 q299
       cases e299
       replace hx299_0 := (HB.out.cell (World.block_lt_of_cell? w _ hx299_0)).trans hx299_0
       replace hx299_1 := (HB.out.cell (World.block_lt_of_cell? w _ hx299_1)).trans hx299_1
       replace p299 := eq_true p299
       replace q299 := eq_true q299
       go_wp2_with (first | ((with_reducible refine gD (N := 5) rfl ?_); refine bX ?hg (N := 5) ?hd (cs := #[.string (⟨#[]⟩ : ByteArray), .int .i64 0]) (t := 77) ?hr ?_; (case hd => rfl); (case hg => rfl); (case hr => first | (go_simp; done) | (go_simp; rfl)); intro gb300 hg w10 hbox hb; have BK300 := As.mk (hbox); have GW300 := As.mk ((by rw [hg]; exact (bZ (by repeat (first | (with_reducible first | exact HB.out | apply bA | apply bD | apply bE | refine bS ?_ GE295.out) | exact HB.out))) : w.heap.size ≤ gb300)); have GE300 := GW300; have NB295_300 := As.mk ((by rw [hg]; exact Nat.ne_of_lt (kL (g := gb295) (o := .cells #[.slice A0_0 l0_0.length c0_0, .slice (some ad299) l0_1.length c0_1] 31 (0, 0)) (by (with_reducible repeat (first | refine kD ?_ _ | refine kE ?_ | refine kA ?_ _)); exact BK295.out)) : gb295 ≠ gb300)); have NB300_295 := As.mk NB295_300.out.symm; replace HO_3 := As.mk (Kd.R_below (by (with_reducible repeat (first | apply Kd.RA | apply Kd.RN | apply Kd.RD)); exact HO_3.out) hb); replace BK295 := As.mk (kB (g := gb295) (o := .cells #[.slice A0_0 l0_0.length c0_0, .slice (some ad299) l0_1.length c0_1] 31 (0, 0)) (by (with_reducible repeat (first | refine kD ?_ _ | refine kE ?_ | refine kA ?_ _)); exact BK295.out) hb); replace HB := As.mk (bT (by repeat (first | (with_reducible first | exact HB.out | apply bA | apply bD | apply bE | refine bS ?_ GE295.out) | exact HB.out)) hb); clear hb hbox hg; have hnb11 := NB300_295.out; have hnc11 := NB295_300.out; have cz_ := c2_0 (w := w10) (g := gb300) BK300.out; obtain ⟨hcz12_0, hcz12_1⟩ := cz_; have hfz12 := kF BK300.out) | ((with_reducible refine gB (b := .append) (xs := #[.tmp 14, .tmp 17]) rfl ?_); at_builtin; refine Kd.R_append (Kd.int .i64) (w0 := w) w.heap.size rfl (.tmp 14) (.tmp 17) 35 2 (.int .i64 0) 8 rfl Try.underlying35 info2 rfl (by decide) (by omega) u3 x3_1 ((rd_T77 l0_1 x10_1).f1) [.int .i64 ((rd_T77 l0_1 x10_1).f1)] (fun _ => True) (fun _ => False) rfl (by first | (go_simp; done) | (go_simp; rfl)) ?aP (fun _ hk => hk.elim) ?aF ?aO ?aB ?aS ?aL ?_; (case aP => exact rfl); (case aB => exact (by repeat (first | (with_reducible first | exact HB.out | apply bA | apply bD | apply bE | refine bS ?_ GE295.out | refine bS ?_ GE300.out) | exact HB.out))); (case aF => exact (fun _ _ => trivial)); (case aO => exact (by (with_reducible repeat (first | apply Kd.RA | apply Kd.RN | apply Kd.RD)); exact Kd.R_mono (Kd.R_far (p := ⟨gb300, 1, none⟩) (Kd.R_far (p := ⟨gb300, 0, none⟩) (Kd.R_types HO_3.out BK300.out (by decide)) (fun _ hk => hk.2) (.string ((rd_T77 l0_1 x10_1).f0))) (fun _ hk => hk.2) (.int .i64 ((rd_T77 l0_1 x10_1).f1))) (fun _ hk => trivial))); (case aS => exact (bZ (by repeat (first | (with_reducible first | exact HB.out | apply bA | apply bD | apply bE | refine bS ?_ GE295.out | refine bS ?_ GE300.out) | exact HB.out)))); (case aL => have := LMc9.out; omega); intro v302 w13 ho hb hg hat; rw [← Ny301.out] at ho; have n0_ := As.mk (blk_grown (g := gb295) (o := .cells #[.slice A0_0 l0_0.length c0_0, .slice (some ad299) l0_1.length c0_1] 31 (0, 0)) (by (with_reducible repeat (first | refine kD ?_ _ | refine kE ?_ | refine kA ?_ _)); refine blk_far ?_ NB295_300.out _; (with_reducible repeat (first | refine kD ?_ _ | refine kE ?_ | refine kA ?_ _)); refine blk_far ?_ NB295_300.out _; (with_reducible repeat (first | refine kD ?_ _ | refine kE ?_ | refine kA ?_ _)); exact BK295.out) hg (Kd.R_ne HO_3.out BK295.out (by decide))); have n1_ := As.mk (blk_grown (g := gb300) (o := .cells #[.string ((rd_T77 l0_1 x10_1).f0), .int .i64 ((rd_T77 l0_1 x10_1).f1)] 77 (0, 0)) (by (with_reducible repeat (first | refine kD ?_ _ | refine kE ?_ | refine kA ?_ _)); refine blk_put (cs := #[.string ((rd_T77 l0_1 x10_1).f0), .int .i64 0]) ?_ 1 _ rfl; (with_reducible repeat (first | refine kD ?_ _ | refine kE ?_ | refine kA ?_ _)); refine blk_put (cs := #[.string (⟨#[]⟩ : ByteArray), .int .i64 0]) ?_ 0 _ rfl; (with_reducible repeat (first | refine kD ?_ _ | refine kE ?_ | refine kA ?_ _)); exact BK300.out) hg (Kd.R_ne HO_3.out BK300.out (by decide))); have n2_ := As.mk (hb); have n3_ := As.mk (ho); clear BK295; clear BK300; clear HB; clear HO_3; have BK295 := n0_; have BK300 := n1_; have HB := n2_; have HO303 := n3_; clear n0_ n1_ n2_ n3_; clear ho hb hg hat))
       go_roundg k1
       case measure => have := HK1.out; omega
       case rel => exact ⟨(y301), (wrap64 (x10_1 + 1)), (by first | rfl | (simp; done) | (simp [*]; done)), H', ⟨by have := HK1.out; omega⟩, ⟨by (with_reducible repeat (first | apply Kd.RA | apply Kd.RN | apply Kd.RD)); exact HO303.out⟩, ⟨by (with_reducible repeat (first | refine kD ?_ _ | refine kE ?_ | refine kA ?_ _)); exact BK295.out⟩, ⟨by repeat (first | (with_reducible first | exact HB.out | apply bA | apply bD | apply bE | refine bS ?_ GE295.out | refine bS ?_ GE300.out) | exact HB.out)⟩⟩
      ·rw [if_neg c9] at H
       exact absurd H (by simp)
     ·rw [if_neg c8] at H
      exact absurd H (by simp)
    ·rw [if_neg c7] at H
     exact absurd H (by simp)
   ·rw [if_neg c6] at H
    have c6b0 : decide (x10_1 < (l0_1.length : Int)) = false := decide_eq_false c6
    clear c6
    by_cases c14 : x3_1.length < 17592186044416
    ·rw [if_pos c14] at H
     have LMc14 := As.mk c14
     clear c14
     obtain ⟨y304, hy304⟩ : ∃ y_ : List Int, y_ = (x3_1 ++ [(l0_0.length : Int)]) := ⟨_, rfl⟩
     replace H : (some y304) = some r := by first | (rw [hy304]; with_reducible exact H) | (have H2_ := (Option.bind_some _ _).symm.trans H; rw [hy304]; with_reducible exact H2_) | (have H2_ := (Option.bind_some _ _).symm.trans H; with_reducible exact H2_) | with_reducible exact H | (rw [hy304]; exact H) | exact H
     have Ny304 := As.mk hy304
     clear hy304
     obtain rfl := Option.some.inj H
     have cz_ := c2_0 (w := wr) (g := gb295) BK295.out; obtain ⟨hcz15_0, hcz15_1⟩ := cz_
     have hfz15 := kF BK295.out
     go_wp2_with (first | ((with_reducible refine gB (b := .append) (xs := #[.tmp 20, .tmp 24]) rfl ?_); at_builtin; refine Kd.R_append (Kd.int .i64) (w0 := w) w.heap.size rfl (.tmp 20) (.tmp 24) 35 2 (.int .i64 0) 8 rfl Try.underlying35 info2 rfl (by decide) (by omega) u3 x3_1 (l0_0.length : Int) [.int .i64 (l0_0.length : Int)] (fun _ => True) (fun _ => False) rfl rfl ?aP (fun _ hk => hk.elim) ?aF ?aO ?aB ?aS ?aL ?_; (case aP => exact rfl); (case aB => exact (by repeat (first | (with_reducible first | exact HB.out | apply bA | apply bD | apply bE | refine bS ?_ GE295.out) | exact HB.out))); (case aF => exact (fun _ _ => trivial)); (case aO => exact (by (with_reducible repeat (first | apply Kd.RA | apply Kd.RN | apply Kd.RD)); exact HO_3.out)); (case aS => exact (bZ (by repeat (first | (with_reducible first | exact HB.out | apply bA | apply bD | apply bE | refine bS ?_ GE295.out) | exact HB.out)))); (case aL => have := LMc14.out; omega); intro v305 w16 ho hb hg hat; rw [← Ny304.out] at ho; have n0_ := As.mk (blk_grown (g := gb295) (o := .cells #[.slice A0_0 l0_0.length c0_0, .slice A0_1 l0_1.length c0_1] 31 (0, 0)) (by (with_reducible repeat (first | refine kD ?_ _ | refine kE ?_ | refine kA ?_ _)); exact BK295.out) hg (Kd.R_ne HO_3.out BK295.out (by decide))); have n1_ := As.mk (hb); have n2_ := As.mk (ho); clear BK295; clear HB; clear HO_3; have BK295 := n0_; have HB := n1_; have HO306 := n2_; clear n0_ n1_ n2_; clear ho hb hg hat))
     go_ret
     exact ⟨_, by first | rfl | (simp [eN, eS] <;> rfl) | (simp [*, eN, eS] <;> rfl), by (with_reducible repeat (first | apply Kd.RA | apply Kd.RN | apply Kd.RD)); exact HO306.out, by repeat (first | (with_reducible first | exact HB.out | apply bA | apply bD | apply bE | refine bS ?_ GE295.out) | exact HB.out)⟩
    ·rw [if_neg c14] at H
     exact absurd H (by simp)
def impl_isLast.f (a0 : Int) : Option (Bool) := if a0 = 39 then (some true) else (some (a0 == 38))
theorem impl_isLast.calls (a0 : Int) (r : Bool) (w : World) (h : impl_isLast.f a0 = some r) :
  Calls Try.prog 77 #[.int .i64 a0] w fun e w' => e = .returned (.bool r) ∧ D0 w w' := by
 have H : (if a0 = 39 then (some true) else (some (a0 == 38))) = some r := h
 clear h
 by_cases c2 : a0 = 39
 ·rw [if_pos c2] at H
  have c2b0 : (a0 == 39) = true := beq_iff_eq.mpr c2
  have c2b1 : (a0 != 39) = false := bne_eq_false_iff_eq.mpr c2
  clear c2
  obtain rfl := Option.some.inj H
  go_enter Try.func77, Try.ntmps77
  go_wp2
  go_ret
  exact ⟨by first | rfl | (simp; done) | (simp [*]; done), by repeat (first | exact D0.refl _ | apply D0.step)⟩
 ·rw [if_neg c2] at H
  have c2b0 : (a0 == 39) = false := beq_eq_false_iff_ne.mpr c2
  have c2b1 : (a0 != 39) = true := bne_iff_ne.mpr c2
  obtain rfl := Option.some.inj H
  go_enter Try.func77, Try.ntmps77
  go_wp2
  go_ret
  exact ⟨by first | rfl | (simp; done) | (simp [*]; done), by repeat (first | exact D0.refl _ | apply D0.step)⟩
end Go.Proofs.Ytbamjjaamjfnaaa.PFnExactNewMatcher
