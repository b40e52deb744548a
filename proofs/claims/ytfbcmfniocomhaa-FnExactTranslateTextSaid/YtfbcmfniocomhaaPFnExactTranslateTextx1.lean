/- By a program of this session: for each Go function that the law reaches, a Lean function with the same answers, and that the code comes to exactly these answers. Conditions: none beyond each statement. -/
import Derived.Test.YtfbcmfniocomhaaPFnExactTranslateTextx0
namespace Go.Proofs.Ytfbcmfniocomhaa.PFnExactTranslateText
open Go.RowKit Go.Proofs.YtfbcmfniocomhaaW.PrintWords Go.Proofs.YtfbcmfniocomhaaW.PrintLast Go.Proofs.YtfbcmfniocomhaaW.PrintMore
attribute [local go_sem] max2_int min2_int max_two min_two max_three min_three max_four min_four   -- for this text's walks alone
set_option linter.unusedVariables false
set_option linter.unusedSimpArgs false

/-! ### spec_TranslateText: function 10, by hand -/
-- IMPORT Derived.Test.YtfbcmfniocomhaaShTranslate
def spec_TranslateText.f (a0 a1 a2 : ByteArray) : Option (ByteArray × Bool) := if a1.toList = ([] : List UInt8) then (some ((⟨#[]⟩ : ByteArray), false)) else (if a1.size = a2.size then (if a0.size ≤ 1048576 then (if a1.size ≤ 1048576 then (some (strOfNums ((bytesOf a0).map (trI a1 a2)), true)) else (none)) else (none)) else (some ((⟨#[]⟩ : ByteArray), false)))
set_option maxHeartbeats 4000000 in
set_option maxRecDepth 100000 in
theorem spec_TranslateText.calls (a0 a1 a2 : ByteArray) (r1 : ByteArray) (r2 : Bool) (w : World) (h : spec_TranslateText.f a0 a1 a2 = some (r1, r2)) :
    Calls Try.prog 10 #[.string a0, .string a1, .string a2] w fun e w' => e = .returned (.tuple #[.string r1, .bool r2]) ∧ Below w.heap.size w w' := by
  unfold spec_TranslateText.f at h
  by_cases c1 : a1.toList = ([] : List UInt8)
  · rw [if_pos c1] at h
    cases h
    have c1b0 : (a1.toList == ([] : List UInt8)) = true := beq_iff_eq.mpr c1
    have c1b1 : (a1.toList != ([] : List UInt8)) = false := bne_eq_false_iff_eq.mpr c1
    clear c1
    go_enter Try.func10, Try.ntmps10
    go_wp2
    go_ret2
    exact ⟨rfl, Below.refl _ _⟩
  · rw [if_neg c1] at h
    have c1b0 : (a1.toList == ([] : List UInt8)) = false := beq_eq_false_iff_ne.mpr c1
    have c1b1 : (a1.toList != ([] : List UInt8)) = true := bne_iff_ne.mpr c1
    clear c1
    by_cases c2 : a1.size = a2.size
    · rw [if_pos c2] at h
      by_cases c3 : a0.size ≤ 1048576
      · rw [if_pos c3] at h
        by_cases c4 : a1.size ≤ 1048576
        · rw [if_pos c4] at h
          cases h
          have c2b0 : ((a1.size : Int) == (a2.size : Int)) = true := beq_iff_eq.mpr (by omega)
          have c2b1 : ((a1.size : Int) != (a2.size : Int)) = false := bne_eq_false_iff_eq.mpr (by omega)
          have c2b2 : (a1.size == a2.size) = true := beq_iff_eq.mpr c2
          have hlen : (bytesOf a0).length = a0.size := bytesOf_length a0
          have hH := Aside0.mk (bytes_holds w 5 a0)
          have kb := fun (W : World) => print_bytes 9 66 5 Try.underlying9 Try.underlying66 Try.underlying5 a0 W
          have C3 := Aside0.mk c3
          have C4 := Aside0.mk c4
          have C2 := Aside0.mk c2
          clear c2 c3 c4
          go_enter Try.func10, Try.ntmps10
          go_wp2
          have ha1 : 1 ≤ a1.size ∨ a1.size = 0 := by omega
          clear ha1
          go_loopg [9] a0.size (fun kq v9 wr => ∃ (i q : Nat), v9 = .int .i64 (i : Int) ∧ Aside0 (i ≤ a0.size ∧ a0.size - i ≤ kq) ∧ Aside0 (wr = Sort.putRow (Value.int .u8) (Sort.ahead (Lib.bytesWorld w 5 a0) q) w.heap.size 0 (trL a1 a2 i (bytesOf a0)).toArray))
          case atStart => exact ⟨0, 0, rfl, ⟨⟨Nat.zero_le _, Nat.le_refl _⟩⟩, ⟨tr_start hH.out⟩⟩
          case round =>
            obtain ⟨i, q, rfl, HK, HW⟩ := hrel
            by_cases hlt : i < a0.size
            · have hcell := (tr_row (a1 := a1) (a2 := a2) hH.out i q hlt).1
              have hfr := (tr_row (a1 := a1) (a2 := a2) hH.out i q hlt).2
              rw [← HW.out] at hcell hfr
              rw [rd_bytesOf] at hcell
              have hl2 : decide ((i : Int) < (a0.size : Int)) = true := decide_eq_true (by omega)
              have pi := eq_true (show (0 : Int) ≤ (i : Int) by omega)
              have qi := eq_true (show (i : Int) < (a0.size : Int) by omega)
              have hxi : ∀ (h : i < a0.size), ((a0[i]'h).toNat : Int) = bt a0 (i : Int) := fun h => by
                unfold bt
                rw [dif_pos (show ((i : Int)).toNat < a0.size by omega)]
                rfl
              have C5 := Aside0.mk hlt
              clear hlt
              obtain ⟨wo, rfl⟩ : ∃ wo : World, wo = wr := ⟨_, rfl⟩
              have hw : wrap64 ((i : Int) + 1) = ((i + 1 : Nat) : Int) := by have := C3.out; have := C5.out; unfold wrap64; omega
              have HWI := Aside0.mk hw
              clear hw
              have hn : wrap64 ((a1.size : Int) - 1) = (a1.size : Int) - 1 := by have := C4.out; unfold wrap64; omega
              have HN := Aside0.mk hn
              clear hn
              go_wp2
              go_loopg [10] (a1.size + 1) (fun kq2 v10 wr2 => ∃ j : Int, v10 = .int .i64 j ∧ Aside0 (-1 ≤ j ∧ j < (a1.size : Int) ∧ (j + 1).toNat < kq2) ∧ Aside0 (Lib.lastIdx a1 (bt a0 (i : Int)) (j + 1).toNat = Lib.lastIndexByte a1 (bt a0 (i : Int))) ∧ ∃ m, wr2 = wo.drewN m)
              case atStart =>
                refine ⟨(a1.size : Int) - 1, by rw [HN.out], ⟨⟨by omega, by omega, by omega⟩⟩, ⟨?_⟩, 0, rfl⟩
                rw [show ((a1.size : Int) - 1 + 1).toNat = a1.size by omega]
                rfl
              case round =>
                obtain ⟨j, rfl, HJ, HL, m, rfl⟩ := hrel
                by_cases hj : 0 ≤ j
                · have hjb : decide (j ≥ 0) = true := decide_eq_true hj
                  have p1 := eq_true hj
                  have q1 := eq_true HJ.out.2.1
                  have q2 : (j < (a2.size : Int)) = True := eq_true (by have := HJ.out; have := C2.out; omega)
                  have hx1 := bt_at a1 j
                  have hx2 := bt_at a2 j
                  have J0 := Aside0.mk hj
                  have hs := last_step a1 (bt a0 (i : Int)) j hj HJ.out.2.1
                  clear hj
                  by_cases hm : bt a1 j = bt a0 (i : Int)
                  · have m0 : (bt a1 j == bt a0 (i : Int)) = true := beq_iff_eq.mpr hm
                    have m1 : (bt a1 j != bt a0 (i : Int)) = false := bne_eq_false_iff_eq.mpr hm
                    rw [if_pos hm] at hs
                    have HS := Aside0.mk hs
                    have M0 := Aside0.mk hm
                    clear hs hm
                    go_wp2
                    repeat (go_quiet (fail); try go_wp2)
                    go_roundg (a0.size - (i + 1))
                    case measure => have := HK.out; have := C5.out; omega
                    case rel =>
                      have hst : ∀ x, (wo.drewN x).setCell ⟨w.heap.size, i, none⟩ (.int .u8 (bt a2 j)) = Sort.putRow (Value.int .u8) (Sort.ahead (Lib.bytesWorld w 5 a0) (q + x)) w.heap.size 0 (trL a1 a2 (i + 1) (bytesOf a0)).toArray := by
                        intro x
                        rw [HW.out, row_drewN]
                        refine tr_store i (bytesOf a0) (by have := C5.out; omega) ?_
                        rw [rd_bytesOf]
                        unfold trI
                        rw [← HL.out, HS.out, if_pos J0.out]
                      exact ⟨i + 1, _, by rw [HWI.out], ⟨⟨C5.out, Nat.le_refl _⟩⟩, ⟨hst _⟩⟩
                  · have m0 : (bt a1 j == bt a0 (i : Int)) = false := beq_eq_false_iff_ne.mpr hm
                    have m1 : (bt a1 j != bt a0 (i : Int)) = true := bne_iff_ne.mpr hm
                    rw [if_neg hm] at hs
                    have HS := Aside0.mk hs
                    clear hs
                    go_wp2
                    repeat (go_quiet (fail); try go_wp2)
                    go_roundg ((j + 1).toNat)
                    case measure => exact HJ.out.2.2
                    case rel =>
                      have hwj : wrap64 (j - 1) = j - 1 := by have := HJ.out; have := J0.out; have := C4.out; unfold wrap64; omega
                      refine ⟨j - 1, by rw [hwj], ⟨⟨by have := J0.out; omega, by have := HJ.out; omega, by have := J0.out; omega⟩⟩, ⟨?_⟩, _, rfl⟩
                      rw [show (j - 1 + 1).toNat = j.toNat by omega, ← HS.out]
                      exact HL.out
                · have hjb : decide (j ≥ 0) = false := decide_eq_false hj
                  go_wp2
                  go_roundg (a0.size - (i + 1))
                  case measure => have := HK.out; have := C5.out; omega
                  case rel =>
                    refine ⟨i + 1, q + m, by rw [HWI.out], ⟨⟨C5.out, Nat.le_refl _⟩⟩, ⟨?_⟩⟩
                    rw [tr_keep a1 a2 i (bytesOf a0) (by have := C5.out; omega) ?_, HW.out, row_drewN]
                    have hz : (j + 1).toNat = 0 := by have := HJ.out; omega
                    have hl := HL.out
                    rw [hz] at hl
                    rw [rd_bytesOf]
                    unfold trI
                    rw [← hl, if_neg (show ¬ (0 : Int) ≤ Lib.lastIdx a1 (bt a0 (i : Int)) 0 by show ¬ (0 : Int) ≤ -1; decide)]
            · have hl2 : decide ((i : Int) < (a0.size : Int)) = false := decide_eq_false (by omega)
              have hi : i = a0.size := by have := HK.out; omega
              have e : trL a1 a2 i (bytesOf a0) = (bytesOf a0).map (trI a1 a2) := by
                unfold trL
                rw [List.take_of_length_le (by omega), List.drop_eq_nil_of_le (by omega), List.append_nil]
              have hw0 := HW.out
              rw [e] at hw0
              have kc := string_of_reads (P := Try.prog) (src := 66) (dst := 9) (e := 5) (c := grownCap w a0.size 0 5) Try.underlying66 Try.underlying5 Try.underlying9 (row_reads hH.out (d := (bytesOf a0).map (trI a1 a2)) (by simp) (by have := C3.out; omega) q)
              rw [← hw0, hlen] at kc
              have HB := Aside0.mk (show Below w.heap.size w wr by rw [hw0]; exact Go.Lib.below_putRow (tr_below w 5 a0) (Nat.le_refl _))
              clear hw0 HW e hi
              go_wp2
              go_ret2
              exact ⟨rfl, HB.out⟩
        · rw [if_neg c4] at h
          cases h
      · rw [if_neg c3] at h
        cases h
    · rw [if_neg c2] at h
      cases h
      have c2b0 : ((a1.size : Int) == (a2.size : Int)) = false := beq_eq_false_iff_ne.mpr (by omega)
      have c2b1 : ((a1.size : Int) != (a2.size : Int)) = true := bne_iff_ne.mpr (by omega)
      have c2b2 : (a1.size == a2.size) = false := beq_eq_false_iff_ne.mpr c2
      clear c2
      go_enter Try.func10, Try.ntmps10
      go_wp2
      go_ret2
      exact ⟨rfl, Below.refl _ _⟩

/-! ### impl_TranslateText: function 11, by hand -/
-- IMPORT Derived.Test.YtfbcmfniocomhaaShTranslate
def impl_TranslateText.f (a0 a1 a2 : ByteArray) : Option (ByteArray × Bool) := if a1.toList = ([] : List UInt8) then (some ((⟨#[]⟩ : ByteArray), false)) else (if a1.size = a2.size then (if a0.size ≤ 1048576 then (if a1.size ≤ 1048576 then (some (strOfNums ((bytesOf a0).map (trI a1 a2)), true)) else (none)) else (none)) else (some ((⟨#[]⟩ : ByteArray), false)))
set_option maxHeartbeats 4000000 in
set_option maxRecDepth 100000 in
theorem impl_TranslateText.calls (a0 a1 a2 : ByteArray) (r1 : ByteArray) (r2 : Bool) (w : World) (h : impl_TranslateText.f a0 a1 a2 = some (r1, r2)) :
    Calls Try.prog 11 #[.string a0, .string a1, .string a2] w fun e w' => e = .returned (.tuple #[.string r1, .bool r2]) ∧ Below w.heap.size w w' := by
  unfold impl_TranslateText.f at h
  by_cases c1 : a1.toList = ([] : List UInt8)
  · rw [if_pos c1] at h
    cases h
    have c1b0 : (a1.toList == ([] : List UInt8)) = true := beq_iff_eq.mpr c1
    have c1b1 : (a1.toList != ([] : List UInt8)) = false := bne_eq_false_iff_eq.mpr c1
    clear c1
    go_enter Try.func11, Try.ntmps11
    go_wp2
    go_ret2
    exact ⟨rfl, Below.refl _ _⟩
  · rw [if_neg c1] at h
    have c1b0 : (a1.toList == ([] : List UInt8)) = false := beq_eq_false_iff_ne.mpr c1
    have c1b1 : (a1.toList != ([] : List UInt8)) = true := bne_iff_ne.mpr c1
    clear c1
    by_cases c2 : a1.size = a2.size
    · rw [if_pos c2] at h
      by_cases c3 : a0.size ≤ 1048576
      · rw [if_pos c3] at h
        by_cases c4 : a1.size ≤ 1048576
        · rw [if_pos c4] at h
          cases h
          have c2b0 : ((a1.size : Int) == (a2.size : Int)) = true := beq_iff_eq.mpr (by omega)
          have c2b1 : ((a1.size : Int) != (a2.size : Int)) = false := bne_eq_false_iff_eq.mpr (by omega)
          have c2b2 : (a1.size == a2.size) = true := beq_iff_eq.mpr c2
          have hlen : (bytesOf a0).length = a0.size := bytesOf_length a0
          have hH := Aside0.mk (bytes_holds w 5 a0)
          have kb := fun (W : World) => print_bytes 9 66 5 Try.underlying9 Try.underlying66 Try.underlying5 a0 W
          have C3 := Aside0.mk c3
          have C4 := Aside0.mk c4
          have C2 := Aside0.mk c2
          clear c2 c3 c4
          go_enter Try.func11, Try.ntmps11
          go_wp2
          go_loopg [25] a0.size (fun kq v25 wr => ∃ (i q : Nat), v25 = .int .i64 (i : Int) ∧ Aside0 (i ≤ a0.size ∧ a0.size - i ≤ kq) ∧ Aside0 (wr = Sort.putRow (Value.int .u8) (Sort.ahead (Lib.bytesWorld w 5 a0) q) w.heap.size 0 (trL a1 a2 i (bytesOf a0)).toArray))
          case atStart => exact ⟨0, 0, rfl, ⟨⟨Nat.zero_le _, Nat.le_refl _⟩⟩, ⟨tr_start hH.out⟩⟩
          case round =>
            obtain ⟨i, q, rfl, HK, HW⟩ := hrel
            by_cases hlt : i < a0.size
            · have hcell := (tr_row (a1 := a1) (a2 := a2) hH.out i q hlt).1
              have hfr := (tr_row (a1 := a1) (a2 := a2) hH.out i q hlt).2
              rw [← HW.out] at hcell hfr
              have hl1 : ((i : Int) < (a0.size : Int)) = True := eq_true (by omega)
              have hl2 : decide ((i : Int) < (a0.size : Int)) = true := decide_eq_true (by omega)
              have C5 := Aside0.mk hlt
              clear hlt
              have hc : Calls Try.prog 32 #[.string a1, .int .u8 (rd (bytesOf a0) (i : Int))] wr fun e w' => e = .returned (.int .i64 (Lib.lastIndexByte a1 (rd (bytesOf a0) (i : Int)))) ∧ w' = wr := Any.strings_LastIndexByte Try.lays149 a1 (rd (bytesOf a0) (i : Int)) (by have := C4.out; omega) wr
              generalize hc0 : rd (bytesOf a0) (i : Int) = c at hcell hc
              have HC0 := Aside0.mk hc0
              clear hc0
              generalize hj0 : Lib.lastIndexByte a1 c = j at hc
              have HJ0 := Aside0.mk hj0
              clear hj0
              by_cases hj : 0 ≤ j
              · have hjb : decide (j ≥ 0) = true := decide_eq_true hj
                have hj1 : j < (a2.size : Int) := by
                  have := tr_lt a1 c
                  have := C2.out
                  have := HJ0.out
                  omega
                have J1 := Aside0.mk hj1
                have J0 := Aside0.mk hj
                go_wp2_with (go_at_call 32; (with_reducible refine hc.mono ?_); rintro e w' ⟨rfl, rfl⟩)
                have hw : wrap64 ((i : Int) + 1) = ((i + 1 : Nat) : Int) := by have := C3.out; have := C5.out; unfold wrap64; omega
                go_roundg (a0.size - (i + 1))
                case measure => have := HK.out; have := C5.out; omega
                case rel =>
                  refine ⟨i + 1, q, by rw [hw], ⟨⟨C5.out, Nat.le_refl _⟩⟩, ⟨?_⟩⟩
                  rw [HW.out]
                  refine tr_store i (bytesOf a0) (by have := C5.out; omega) ?_
                  rw [HC0.out]
                  unfold trI
                  rw [HJ0.out, if_pos J0.out]
                  unfold bt
                  rw [dif_pos (by have := J1.out; have := J0.out; omega)]
              · have hjb : decide (j ≥ 0) = false := decide_eq_false hj
                go_wp2_with (go_at_call 32; (with_reducible refine hc.mono ?_); rintro e w' ⟨rfl, rfl⟩)
                have hw : wrap64 ((i : Int) + 1) = ((i + 1 : Nat) : Int) := by have := C3.out; have := C5.out; unfold wrap64; omega
                go_roundg (a0.size - (i + 1))
                case measure => have := HK.out; have := C5.out; omega
                case rel =>
                  refine ⟨i + 1, q, by rw [hw], ⟨⟨C5.out, Nat.le_refl _⟩⟩, ⟨?_⟩⟩
                  rw [tr_keep a1 a2 i (bytesOf a0) (by have := C5.out; omega) (by rw [HC0.out]; unfold trI; rw [HJ0.out, if_neg (show ¬ 0 ≤ j by omega)])]
                  exact HW.out
            · have hl2 : decide ((i : Int) < (a0.size : Int)) = false := decide_eq_false (by omega)
              have hi : i = a0.size := by have := HK.out; omega
              have e : trL a1 a2 i (bytesOf a0) = (bytesOf a0).map (trI a1 a2) := by
                unfold trL
                rw [List.take_of_length_le (by omega), List.drop_eq_nil_of_le (by omega), List.append_nil]
              have hw0 := HW.out
              rw [e] at hw0
              have kc := string_of_reads (P := Try.prog) (src := 66) (dst := 9) (e := 5) (c := grownCap w a0.size 0 5) Try.underlying66 Try.underlying5 Try.underlying9 (row_reads hH.out (d := (bytesOf a0).map (trI a1 a2)) (by simp) (by have := C3.out; omega) q)
              rw [← hw0, hlen] at kc
              have HB := Aside0.mk (show Below w.heap.size w wr by rw [hw0]; exact Go.Lib.below_putRow (tr_below w 5 a0) (Nat.le_refl _))
              clear hw0 HW e hi
              go_wp2
              go_ret2
              exact ⟨rfl, HB.out⟩
        · rw [if_neg c4] at h
          cases h
      · rw [if_neg c3] at h
        cases h
    · rw [if_neg c2] at h
      cases h
      have c2b0 : ((a1.size : Int) == (a2.size : Int)) = false := beq_eq_false_iff_ne.mpr (by omega)
      have c2b1 : ((a1.size : Int) != (a2.size : Int)) = true := bne_iff_ne.mpr (by omega)
      have c2b2 : (a1.size == a2.size) = false := beq_eq_false_iff_ne.mpr c2
      clear c2
      go_enter Try.func11, Try.ntmps11
      go_wp2
      go_ret2
      exact ⟨rfl, Below.refl _ _⟩

/-! ### laws_FnExactTranslateText: function 4 -/
def laws_FnExactTranslateText.f (a0 : ByteArray) (a1 : ByteArray) (a2 : ByteArray) : Option (Bool) := if (a0.size : Int) > 1048576 then (some true) else (if (a1.size : Int) > 1048576 then (some true) else (if (a2.size : Int) > 1048576 then (some true) else ((spec_TranslateText.f a0 a1 a2).bind fun bt101 => ((impl_TranslateText.f a0 a1 a2).bind fun bt103 => (if bt103.1.toList = bt101.1.toList then (if (bt103.2 != bt101.2) = true then (none) else (some true)) else (none))))))
set_option maxHeartbeats 8000000 in
set_option maxRecDepth 100000 in
theorem laws_FnExactTranslateText.calls (a0 : ByteArray) (a1 : ByteArray) (a2 : ByteArray) (r : Bool) (w : World) (h : laws_FnExactTranslateText.f a0 a1 a2 = some r) :
    Calls Try.prog 4 #[.string a0, .string a1, .string a2] w fun e w' => e = .returned (.bool r) ∧ Below w.heap.size w w' := by
  have HB := Aside0.mk (Below.refl w.heap.size w)
  have H : (if (a0.size : Int) > 1048576 then (some true) else (if (a1.size : Int) > 1048576 then (some true) else (if (a2.size : Int) > 1048576 then (some true) else ((spec_TranslateText.f a0 a1 a2).bind fun bt101 => ((impl_TranslateText.f a0 a1 a2).bind fun bt103 => (if bt103.1.toList = bt101.1.toList then (if (bt103.2 != bt101.2) = true then (none) else (some true)) else (none))))))) = some r := h
  clear h
  by_cases c4 : (a0.size : Int) > 1048576
  · rw [if_pos c4] at H
    have c4b0 : decide (1048576 < (a0.size : Int)) = true := decide_eq_true c4
    have c4b1 : decide (1048576 < a0.size) = true := decide_eq_true (by omega)
    clear c4
    obtain rfl := Option.some.inj H
    go_enter Try.func4, Try.ntmps4
    go_wp2
    go_ret
    exact ⟨by first | rfl | (simp [errW_none, errW_some] <;> rfl) | (simp [*, errW_none, errW_some] <;> rfl), by repeat (first | (with_reducible first | exact HB.out | apply below_alloc | apply pw_below_drewN | apply below_drew1) | exact HB.out)⟩
  · rw [if_neg c4] at H
    have c4b0 : decide (1048576 < (a0.size : Int)) = false := decide_eq_false c4
    have c4b1 : decide (1048576 < a0.size) = false := decide_eq_false (by omega)
    clear c4
    by_cases c5 : (a1.size : Int) > 1048576
    · rw [if_pos c5] at H
      have c5b0 : decide (1048576 < (a1.size : Int)) = true := decide_eq_true c5
      have c5b1 : decide (1048576 < a1.size) = true := decide_eq_true (by omega)
      clear c5
      obtain rfl := Option.some.inj H
      go_enter Try.func4, Try.ntmps4
      go_wp2
      go_ret
      exact ⟨by first | rfl | (simp [errW_none, errW_some] <;> rfl) | (simp [*, errW_none, errW_some] <;> rfl), by repeat (first | (with_reducible first | exact HB.out | apply below_alloc | apply pw_below_drewN | apply below_drew1) | exact HB.out)⟩
    · rw [if_neg c5] at H
      have c5b0 : decide (1048576 < (a1.size : Int)) = false := decide_eq_false c5
      have c5b1 : decide (1048576 < a1.size) = false := decide_eq_false (by omega)
      clear c5
      by_cases c6 : (a2.size : Int) > 1048576
      · rw [if_pos c6] at H
        have c6b0 : decide (1048576 < (a2.size : Int)) = true := decide_eq_true c6
        have c6b1 : decide (1048576 < a2.size) = true := decide_eq_true (by omega)
        clear c6
        obtain rfl := Option.some.inj H
        go_enter Try.func4, Try.ntmps4
        go_wp2
        go_ret
        exact ⟨by first | rfl | (simp [errW_none, errW_some] <;> rfl) | (simp [*, errW_none, errW_some] <;> rfl), by repeat (first | (with_reducible first | exact HB.out | apply below_alloc | apply pw_below_drewN | apply below_drew1) | exact HB.out)⟩
      · rw [if_neg c6] at H
        have c6b0 : decide (1048576 < (a2.size : Int)) = false := decide_eq_false c6
        have c6b1 : decide (1048576 < a2.size) = false := decide_eq_false (by omega)
        clear c6
        replace H := Option.bind_eq_some_iff.mp H
        obtain ⟨⟨t101, t102⟩, A70, H⟩ := H
        replace H : ((impl_TranslateText.f a0 a1 a2).bind fun bt103 => (if bt103.1.toList = t101.toList then (if (bt103.2 != t102) = true then (none) else (some true)) else (none))) = some r := H
        have A7 := Aside0.mk A70
        clear A70
        replace H := Option.bind_eq_some_iff.mp H
        obtain ⟨⟨t103, t104⟩, A80, H⟩ := H
        replace H : (if t103.toList = t101.toList then (if (t104 != t102) = true then (none) else (some true)) else (none)) = some r := H
        have A8 := Aside0.mk A80
        clear A80
        by_cases c9 : t103.toList = t101.toList
        · rw [if_pos c9] at H
          have c9b0 : (t103.toList == t101.toList) = true := beq_iff_eq.mpr c9
          have c9b1 : (t103.toList != t101.toList) = false := bne_eq_false_iff_eq.mpr c9
          clear c9
          by_cases c10 : (t104 != t102) = true
          · rw [if_pos c10] at H
            exact absurd H (by simp)
          · rw [if_neg c10] at H
            have c10b0 : (t104 != t102) = false := by simpa using c10
            (try (have c10b1 : decide (t104 = t102) = true := by simpa using c10))
            (try (have c10b2 : (t104 == t102) = true := by simpa using c10))
            clear c10
            obtain rfl := Option.some.inj H
            go_enter Try.func4, Try.ntmps4
            go_wp2_with (first | ((with_reducible refine gate_callee (f := 10) rfl ?_); refine goesL_ (some 24) rfl rfl Try.func10 (by kernel_rfl) rfl #[.string a0, .string a1, .string a2] rfl (by (try simp only [List.map_toArray, List.map_cons, List.map_nil]); first | done | rfl | (simp only [List.length_drop, List.length_take]; rfl)) ?_; (with_reducible refine (spec_TranslateText.calls a0 a1 a2 t101 t102 _ A7.out).mono ?_); rintro e w11 ⟨rfl, hb⟩; refine ⟨_, rfl, ?_⟩; have n0_ := Aside0.mk (below_step (by repeat (first | (with_reducible first | exact HB.out | apply below_alloc | apply pw_below_drewN | apply below_drew1) | exact HB.out)) hb); clear HB; have HB := n0_; clear n0_; (try clear hb); (try clear hb2); (try clear hk); (try clear hi)) | ((with_reducible refine gate_callee (f := 11) rfl ?_); refine goesL_ (some 31) rfl rfl Try.func11 (by kernel_rfl) rfl #[.string a0, .string a1, .string a2] rfl (by (try simp only [List.map_toArray, List.map_cons, List.map_nil]); first | done | rfl | (simp only [List.length_drop, List.length_take]; rfl)) ?_; (with_reducible refine (impl_TranslateText.calls a0 a1 a2 t103 t104 _ A8.out).mono ?_); rintro e w12 ⟨rfl, hb⟩; refine ⟨_, rfl, ?_⟩; have n0_ := Aside0.mk (below_step (by repeat (first | (with_reducible first | exact HB.out | apply below_alloc | apply pw_below_drewN | apply below_drew1) | exact HB.out)) hb); clear HB; have HB := n0_; clear n0_; (try clear hb); (try clear hb2); (try clear hk); (try clear hi)))
            go_ret
            exact ⟨by first | rfl | (simp [errW_none, errW_some] <;> rfl) | (simp [*, errW_none, errW_some] <;> rfl), by repeat (first | (with_reducible first | exact HB.out | apply below_alloc | apply pw_below_drewN | apply below_drew1) | exact HB.out)⟩
        · rw [if_neg c9] at H
          exact absurd H (by simp)

/-- THE ONE PURE STATEMENT of laws_FnExactTranslateText: yours. -/
def laws_FnExactTranslateText.Pure : Prop := ∀ (a0 : ByteArray) (a1 : ByteArray) (a2 : ByteArray), a0.size ≤ 140737488351232 → a1.size ≤ 140737488351232 → a2.size ≤ 140737488351232 → laws_FnExactTranslateText.f a0 a1 a2 = some true
theorem laws_FnExactTranslateText.walk (P : laws_FnExactTranslateText.Pure) (a0 : ByteArray) (a1 : ByteArray) (a2 : ByteArray) (w : World) (w0 : a0.size ≤ 140737488351232) (w1 : a1.size ≤ 140737488351232) (w2 : a2.size ≤ 140737488351232) :
    Calls Try.prog 4 #[.string a0, .string a1, .string a2] w fun e w' => e = .returned (.bool true) ∧ Below w.heap.size w w' := by
  have h := P a0 a1 a2 w0 w1 w2
  refine (laws_FnExactTranslateText.calls a0 a1 a2 true w h).mono ?_
  rintro e w' ⟨rfl, hd⟩
  exact ⟨rfl, hd⟩

end Go.Proofs.Ytfbcmfniocomhaa.PFnExactTranslateText
