/- FnExactReverseText answers true for every string: the program's ReverseText (slices.Reverse) and the reference's (a byte at a time) turn the same bytes round. Conditions: none beyond the statement's own. -/
import Derived.Test.YtfbcmfniocomhaaPFnExactReverseTextx1
namespace Go.Proofs.Ytfbcmfniocomhaa.Pure
open Go.RowKit Go.Proofs.Ytfbcmfniocomhaa.PFnExactReverseText Go.Proofs.YtfbcmfniocomhaaW.PrintWords Go.Proofs.YtfbcmfniocomhaaW.PrintLast Go.Proofs.YtfbcmfniocomhaaW.PrintMore
namespace ReverseText
theorem loop (s : ByteArray) (hs : s.size ≤ 1048576) : ∀ (j : Nat) (out : List Int), j ≤ s.size → out.length + j ≤ s.size → Ev (fun k => spec_ReverseText.l0 k s out ((j : Int) - 1)) (strOfNums (out ++ ((bytesOf s).take j).reverse)) := by
  intro j
  induction j with
  | zero =>
    intro out hj ho
    refine Ev.step (f := fun _ => some (strOfNums out)) (fun k => ?_) (by simpa using Ev.now (strOfNums out))
    simp only [spec_ReverseText.l0]
    rw [if_neg (show ¬ ((0 : Nat) : Int) - 1 ≥ 0 by omega)]
  | succ j ih =>
    intro out hj ho
    have e : (((j + 1 : Nat) : Int) - 1) = (j : Int) := by omega
    have hw : wrap64 ((j : Int) - 1) = (j : Int) - 1 := by unfold wrap64; omega
    have hl : j < (bytesOf s).length := by rw [bytesOf_length]; omega
    have hb : bt s (j : Int) = (bytesOf s)[j] := by
      rw [← rd_bytesOf]
      unfold rd
      rw [Int.toNat_natCast, List.getD_eq_getElem?_getD, List.getElem?_eq_getElem hl]
      rfl
    have ht : ((bytesOf s).take (j + 1)).reverse = (bytesOf s)[j] :: ((bytesOf s).take j).reverse := by
      rw [List.take_add_one, List.getElem?_eq_getElem hl]
      simp
    have q := ih (out ++ [bt s (j : Int)]) (by omega) (by simp; omega)
    rw [ht, e]
    refine Ev.step (f := fun k => spec_ReverseText.l0 k s (out ++ [bt s (j : Int)]) ((j : Int) - 1)) (fun k => ?_) (by simpa [hb] using q)
    simp only [spec_ReverseText.l0]
    rw [if_pos (show (j : Int) ≥ 0 by omega), if_pos (show (0 : Int) ≤ (j : Int) by omega), if_pos (show (j : Int) < (s.size : Int) by omega), if_pos (show out.length < 140737488355328 by omega), hw]
end ReverseText
open ReverseText in
theorem FnExactReverseText : laws_FnExactReverseText.Pure := by
  intro s _
  apply Ev.rounds
  unfold laws_FnExactReverseText.f
  by_cases h : (s.size : Int) > 1048576
  · simp only [if_pos h]
    exact Ev.now true
  · simp only [if_neg h]
    have hw : wrap64 ((s.size : Int) - 1) = (s.size : Int) - 1 := by unfold wrap64; omega
    have q := loop s (by omega) s.size [] (Nat.le_refl _) (by simp)
    rw [List.nil_append, List.take_of_length_le (by rw [bytesOf_length]; exact Nat.le_refl _)] at q
    have e2 : impl_ReverseText.f s = some (strOfNums (bytesOf s).reverse) := by
      unfold impl_ReverseText.f
      rw [if_pos (show s.size ≤ 9223372036854775807 by omega)]
    unfold spec_ReverseText.f
    rw [hw]
    refine Ev.bind q ?_
    simp only [e2, Option.bind_some]
    exact Ev.congr (f := fun _ => some true) (fun k => by rw [if_pos trivial]) (Ev.now true)
end Go.Proofs.Ytfbcmfniocomhaa.Pure
