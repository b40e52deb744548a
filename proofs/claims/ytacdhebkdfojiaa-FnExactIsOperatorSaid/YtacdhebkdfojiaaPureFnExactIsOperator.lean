/- FnExactIsOperator answers true for every string: the program's IsOperator (strings.Contains) and the reference's (a switch) tell the same texts operators. Conditions: none beyond the statement's own. -/
import Derived.Test.YtacdhebkdfojiaaPFnExactIsOperatorx1
namespace Go.Proofs.Ytacdhebkdfojiaa.Pure
open Go.RowKit Go.Proofs.Ytacdhebkdfojiaa.PFnExactIsOperator Go.Proofs.YtacdhebkdfojiaaW.PrintWords Go.Proofs.YtacdhebkdfojiaaW.PrintLast
namespace IsOperator
-- what strings.Contains tells where one byte is sought
theorem idx_mem (l : List UInt8) (c : UInt8) : (0 ≤ Lib.indexByte l c) ↔ c ∈ l := by
  induction l with
  | nil => simp [Lib.indexByte]
  | cons b l ih =>
    unfold Lib.indexByte
    by_cases h : b = c
    · simp [h]
    · have hb : (b == c) = false := by simp [h]
      have hc : ¬ c = b := fun e => h e.symm
      have g := Lib.indexByte_ge l c
      rw [hb, List.mem_cons, ← ih]
      simp only [Bool.false_eq_true, if_false]
      by_cases e : Lib.indexByte l c = -1
      · rw [if_pos (by simp [e]), e]
        simp [hc]
      · rw [if_neg (by simp [e])]
        constructor
        · intro _
          exact Or.inr (by omega)
        · intro h2
          rcases h2 with h2 | h2
          · exact absurd h2 hc
          · omega
theorem contains_one (s : ByteArray) (c : UInt8) : strings_Contains.f s ⟨#[c]⟩ = some (decide (c ∈ s.data.toList)) := by
  unfold strings_Contains.f
  rw [if_pos (show (⟨#[c]⟩ : ByteArray).data.size = 1 from rfl)]
  simp only [show ((⟨#[c]⟩ : ByteArray).data.toList.headD 0) = c from rfl, idx_mem]
theorem any_byte (s : ByteArray) (c : UInt8) : (bytesOf s).any (fun b => b == (c.toNat : Int)) = decide (c ∈ s.data.toList) := by
  unfold bytesOf
  rw [Bool.eq_iff_iff, List.any_eq_true, decide_eq_true_iff]
  constructor
  · rintro ⟨x, hx, e⟩
    obtain ⟨b, hb, rfl⟩ := List.mem_map.1 hx
    have : b = c := UInt8.toNat_inj.1 (by have := beq_iff_eq.1 e; omega)
    exact this ▸ hb
  · intro h
    exact ⟨_, List.mem_map.2 ⟨c, h, rfl⟩, by simp⟩
-- operators (behind OneByte)
theorem op_byte (c : UInt8) : spec_l02Operator.f (c.toNat : Int) = some (decide (c ∈ [43, 45, 42, 47, 124, 46, 36, 64, 61])) := by
  unfold spec_l02Operator.f
  have z : ∀ n : UInt8, ((c.toNat : Int) = (n.toNat : Int)) ↔ c = n := fun n => ⟨fun e => UInt8.toNat_inj.1 (by omega), fun e => by rw [e]⟩
  have e0 := z 43; have e1 := z 45; have e2 := z 42; have e3 := z 47; have e4 := z 124; have e5 := z 46; have e6 := z 36; have e7 := z 64; have e8 := z 61
  simp only [show ((43 : UInt8).toNat : Int) = 43 from rfl, show ((45 : UInt8).toNat : Int) = 45 from rfl, show ((42 : UInt8).toNat : Int) = 42 from rfl, show ((47 : UInt8).toNat : Int) = 47 from rfl, show ((124 : UInt8).toNat : Int) = 124 from rfl, show ((46 : UInt8).toNat : Int) = 46 from rfl, show ((36 : UInt8).toNat : Int) = 36 from rfl, show ((64 : UInt8).toNat : Int) = 64 from rfl, show ((61 : UInt8).toNat : Int) = 61 from rfl] at e0 e1 e2 e3 e4 e5 e6 e7 e8
  simp only [e0, e1, e2, e3, e4, e5, e6, e7, e8, List.mem_cons, List.not_mem_nil, or_false]
  by_cases h0 : c = 43
  · simp [h0]
  by_cases h1 : c = 45
  · simp [h1]
  by_cases h2 : c = 42
  · simp [h2]
  by_cases h3 : c = 47
  · simp [h3]
  by_cases h4 : c = 124
  · simp [h4]
  by_cases h5 : c = 46
  · simp [h5]
  by_cases h6 : c = 36
  · simp [h6]
  by_cases h7 : c = 64
  · simp [h7]
  by_cases h8 : c = 61
  · simp [h8]
  simp [h0, h1, h2, h3, h4, h5, h6, h7, h8]
/-- What an operator is. -/
def opB (s : ByteArray) : Bool := decide (s.size = 1) && decide (s.data.toList.headD 0 ∈ [(43 : UInt8), 45, 42, 47, 124, 46, 36, 64, 61])
theorem one_byte (s : ByteArray) (h : s.size = 1) : ∃ c : UInt8, s = ⟨#[c]⟩ := by
  obtain ⟨⟨l⟩⟩ := s
  match l, h with
  | [c], _ => exact ⟨c, rfl⟩
theorem spec_op (s : ByteArray) : spec_IsOperator.f s = some (opB s) := by
  unfold spec_IsOperator.f opB
  by_cases h : s.size = 1
  · obtain ⟨c, rfl⟩ := one_byte s h
    rw [if_pos (by omega), if_pos (by omega), show bt (⟨#[c]⟩ : ByteArray) 0 = (c.toNat : Int) from rfl, op_byte]
    rfl
  · rw [if_neg (by omega), decide_eq_false h, Bool.false_and]
theorem impl_op (s : ByteArray) : impl_IsOperator.f s = some (opB s) := by
  unfold impl_IsOperator.f opB
  by_cases h : s.size = 1
  · obtain ⟨c, rfl⟩ := one_byte s h
    rw [if_pos (by omega), contains_one]
    rfl
  · rw [if_neg (by omega), decide_eq_false h, Bool.false_and]
end IsOperator
open IsOperator in
theorem FnExactIsOperator : laws_FnExactIsOperator.Pure := by
  intro s _
  unfold laws_FnExactIsOperator.f
  by_cases h : (s.size : Int) > 1048576
  · rw [if_pos h]
  · rw [if_neg h, spec_op, impl_op]
    simp
end Go.Proofs.Ytacdhebkdfojiaa.Pure
