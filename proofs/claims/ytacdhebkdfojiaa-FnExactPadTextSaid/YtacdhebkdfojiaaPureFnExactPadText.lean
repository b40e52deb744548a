/- FnExactPadText answers true for all strings and numbers: the program's PadText (strings.Repeat) and the reference's (a byte at a time) fill up alike. Conditions: none beyond the statement's own. -/
import Derived.Test.YtacdhebkdfojiaaPFnExactPadTextx1
namespace Go.Proofs.Ytacdhebkdfojiaa.Pure
open Go.RowKit Go.Proofs.Ytacdhebkdfojiaa.PFnExactPadText Go.Proofs.YtacdhebkdfojiaaW.PrintWords Go.Proofs.YtacdhebkdfojiaaW.PrintLast Go.Proofs.YtacdhebkdfojiaaW.PrintMore
namespace PadText
-- a string filled up
theorem bytes_ext (a b : ByteArray) (h : a.data.toList = b.data.toList) : a = b := by
  obtain ⟨⟨x⟩⟩ := a
  obtain ⟨⟨y⟩⟩ := b
  simp only at h
  rw [h]
def rep (f : ByteArray) (d : Nat) : ByteArray := ⟨(Lib.repeatL f.data.toList d).toArray⟩
theorem app_list (a b : ByteArray) : (a ++ b).data.toList = a.data.toList ++ b.data.toList := by
  rw [ByteArray.data_append]
  simp
theorem rep_zero (f : ByteArray) : rep f 0 = (⟨#[]⟩ : ByteArray) := rfl
theorem rep_succ (f : ByteArray) (d : Nat) : rep f (d + 1) = f ++ rep f d := by
  apply bytes_ext
  rw [app_list]
  simp [rep, Lib.repeatL]
theorem rep_comm (f : ByteArray) (d : Nat) : rep f d ++ f = f ++ rep f d := by
  induction d with
  | zero =>
    apply bytes_ext
    rw [app_list, app_list, rep_zero]
    simp
  | succ d ih => rw [rep_succ, ByteArray.append_assoc, ih]
theorem rep_size (f : ByteArray) (hf : f.size = 1) (d : Nat) : (rep f d).size = d := by
  induction d with
  | zero => rfl
  | succ d ih => rw [rep_succ, ByteArray.size_append, ih, hf]; omega
def padded (s f : ByteArray) (d : Nat) (left : Bool) : ByteArray := if left = true then rep f d ++ s else s ++ rep f d
theorem pad_loop (n : Int) (f : ByteArray) (hf : f.size = 1) (hn : n ≤ 200) (left : Bool) (d : Nat) : ∀ s : ByteArray, (n - (s.size : Int)).toNat = d → s.size ≤ 9223372036854775000 → Ev (fun k => spec_PadText.l0 k s n f left) (padded s f d left, true) := by
  induction d with
  | zero =>
    intro s hd hs
    have e : padded s f 0 left = s := by
      unfold padded
      rw [rep_zero]
      cases left
      · rw [if_neg (by simp)]
        apply bytes_ext
        rw [app_list]
        simp
      · rw [if_pos rfl]
        apply bytes_ext
        rw [app_list]
        simp
    rw [e]
    refine Ev.step (f := fun _ => some (s, true)) (fun k => ?_) (Ev.now _)
    simp only [spec_PadText.l0]
    rw [if_neg (by omega)]
  | succ d ih =>
    intro s hd hs
    cases left with
    | true =>
      have r := ih (f ++ s) (by rw [ByteArray.size_append]; omega) (by rw [ByteArray.size_append]; omega)
      have e : padded s f (d + 1) true = padded (f ++ s) f d true := by
        unfold padded
        rw [if_pos rfl, if_pos rfl, rep_succ, ← rep_comm, ByteArray.append_assoc]
      rw [e]
      refine Ev.step (f := fun k => spec_PadText.l0 k (f ++ s) n f true) (fun k => ?_) r
      simp only [spec_PadText.l0]
      rw [if_pos (by omega), if_pos trivial, if_pos (by omega)]
    | false =>
      have r := ih (s ++ f) (by rw [ByteArray.size_append]; omega) (by rw [ByteArray.size_append]; omega)
      have e : padded s f (d + 1) false = padded (s ++ f) f d false := by
        unfold padded
        rw [if_neg (by simp), if_neg (by simp), rep_succ, ByteArray.append_assoc]
      rw [e]
      refine Ev.step (f := fun k => spec_PadText.l0 k (s ++ f) n f false) (fun k => ?_) r
      simp only [spec_PadText.l0]
      rw [if_pos (by omega), if_neg (by simp), if_pos (by omega)]
def padB (s : ByteArray) (n : Int) (f : ByteArray) (left : Bool) : ByteArray × Bool := if (0 ≤ n ∧ n ≤ 200) ∧ f.size = 1 then (padded s f (n - (s.size : Int)).toNat left, true) else ((⟨#[]⟩ : ByteArray), false)
theorem pad_in (a b c : Int) : spec_l00In.f a b c = some (decide (b ≤ a) && decide (a ≤ c)) := by
  unfold spec_l00In.f
  by_cases h : b ≤ a <;> simp [h]
theorem pad_within (a b c : Int) : impl_within.f a b c = some (decide (b ≤ a) && decide (a ≤ c)) := by
  unfold impl_within.f
  by_cases h : b ≤ a <;> simp [h]
theorem spec_pad (s : ByteArray) (n : Int) (f : ByteArray) (left : Bool) (hs : s.size ≤ 1048576) : Ev (fun k => spec_PadText.f k s n f left) (padB s n f left) := by
  have no : Ev (fun k => spec_PadText.j0 k s n f left true) ((⟨#[]⟩ : ByteArray), false) := Ev.step (f := fun _ => some ((⟨#[]⟩ : ByteArray), false)) (fun k => by simp only [spec_PadText.j0]; rw [if_pos trivial]) (Ev.now _)
  unfold padB spec_PadText.f
  simp only [pad_in, Option.bind_some]
  by_cases h : 0 ≤ n ∧ n ≤ 200
  · simp only [decide_eq_true h.1, decide_eq_true h.2, Bool.and_self, if_true]
    by_cases h1 : f.size = 1
    · rw [if_pos ⟨h, h1⟩]
      refine Ev.step (f := fun k => spec_PadText.l0 k s n f left) (fun k => ?_) (pad_loop n f h1 h.2 left _ s rfl (by omega))
      simp only [spec_PadText.j0]
      rw [if_neg (by simp [h1])]
    · rw [if_neg (fun q => h1 q.2), show ((f.size : Int) != 1) = true from bne_iff_ne.mpr (by omega)]
      exact no
  · rw [if_neg (fun q => h q.1)]
    have hb : (decide (0 ≤ n) && decide (n ≤ 200)) = false := by
      rw [Bool.and_eq_false_iff, decide_eq_false_iff_not, decide_eq_false_iff_not]
      omega
    simp only [hb]
    exact no
theorem impl_pad (s : ByteArray) (n : Int) (f : ByteArray) (left : Bool) (hs : s.size ≤ 1048576) : Ev (fun k => impl_PadText.f k s n f left) (padB s n f left) := by
  have no : Ev (fun k => impl_PadText.j0 k s n f left true) ((⟨#[]⟩ : ByteArray), false) := Ev.step (f := fun _ => some ((⟨#[]⟩ : ByteArray), false)) (fun k => by simp only [impl_PadText.j0]; rw [if_pos trivial]) (Ev.now _)
  unfold padB impl_PadText.f
  simp only [pad_within, Option.bind_some]
  by_cases h : 0 ≤ n ∧ n ≤ 200
  · simp only [decide_eq_true h.1, decide_eq_true h.2, Bool.and_self, if_true]
    by_cases h1 : f.size = 1
    · rw [if_pos ⟨h, h1⟩]
      have w : wrap64 (n - (s.size : Int)) = n - (s.size : Int) := by unfold wrap64; omega
      have m : mx 0 (n - (s.size : Int)) = ((n - (s.size : Int)).toNat : Int) := by unfold mx; split <;> omega
      have hd : (n - (s.size : Int)).toNat ≤ 200 := by omega
      have z := rep_size f h1 (n - (s.size : Int)).toNat
      have g : strings_Repeat.f f ((n - (s.size : Int)).toNat : Int) = some (rep f (n - (s.size : Int)).toNat) := by
        unfold strings_Repeat.f
        rw [if_pos (by omega), if_pos (by omega), if_pos (by rw [h1, Int.toNat_natCast]; omega), Int.toNat_natCast]
        rfl
      refine Ev.step (f := fun _ => some (padded s f (n - (s.size : Int)).toNat left, true)) (fun k => ?_) (Ev.now _)
      simp only [impl_PadText.j0]
      rw [if_neg (by simp [h1]), w, m, g, Option.bind_some]
      unfold padded
      cases left with
      | true => rw [if_pos rfl, if_pos (by omega), if_pos rfl]
      | false => rw [if_neg (by simp), if_pos (by omega), if_neg (by simp)]
    · rw [if_neg (fun q => h1 q.2), show ((f.size : Int) != 1) = true from bne_iff_ne.mpr (by omega)]
      exact no
  · rw [if_neg (fun q => h q.1)]
    have hb : (decide (0 ≤ n) && decide (n ≤ 200)) = false := by
      rw [Bool.and_eq_false_iff, decide_eq_false_iff_not, decide_eq_false_iff_not]
      omega
    simp only [hb]
    exact no
end PadText
open PadText in
theorem FnExactPadText : laws_FnExactPadText.Pure := by
  intro s n f left _ _ _
  apply Ev.rounds
  unfold laws_FnExactPadText.f
  by_cases h : (s.size : Int) > 1048576
  · simp only [if_pos h]
    exact Ev.now true
  simp only [if_neg h]
  by_cases h2 : (f.size : Int) > 1048576
  · simp only [if_pos h2]
    exact Ev.now true
  simp only [if_neg h2]
  refine Ev.bind (spec_pad s n f left (by omega)) (Ev.bind (impl_pad s n f left (by omega)) ?_)
  exact Ev.congr (f := fun _ => some true) (fun k => by simp) (Ev.now true)
end Go.Proofs.Ytacdhebkdfojiaa.Pure
