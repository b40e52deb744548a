/- By hand: what the law FnExactJoinPatterns reaches beyond the printed texts, and the law's own function. Conditions: none beyond each statement. -/
import Derived.Test.YtomakpfmghekfaaProg
import Derived.Below
import Derived.Deep.Draws
import Derived.Deep.AppendLies
import Derived.Maps.AppendAt
import Derived.OwnWalk
import Derived.Laws.BytesArg
import Derived.Laws.MakeOwn
import Derived.Laws.OwnMore
import Derived.Deep.OwnRows
import Derived.Tactics
import Derived.Lib.ConvBytes
import Derived.Laws.Slices
import Derived.WalkKit
import Derived.KernelRfl
import Derived.RowKit3
import Derived.Deep.LoopGhost
import Derived.Deep.QuietTactic
import Derived.BigQuiet
import Derived.WideLaws
import Derived.Deep.DeepCutAuto
import Derived.Deep.CutBlock
import Derived.Deep.RegionHeld3
import Derived.Laws.Rows
import Derived.Lib.AppendStr
import Derived.ArgAppend
import Derived.Laws.IdiomCopy
import Derived.OrdersHeld
import Derived.Laws.BitsLemmas
import Derived.RowKit
import Derived.Test.YtomakpfmghekfaaWWords
import Derived.Test.YtomakpfmghekfaaWLast
import Derived.Test.YtomakpfmghekfaaWTab
import Derived.Test.YtomakpfmghekfaaWFour
import Derived.Test.YtomakpfmghekfaaWQPut
import Derived.Test.YtomakpfmghekfaaWApart
import Derived.Test.YtomakpfmghekfaaWArr
import Derived.Test.YtomakpfmghekfaaWZeros
import Derived.Test.YtomakpfmghekfaaWFoot
import Derived.Test.YtomakpfmghekfaaWKept
import Derived.Test.YtomakpfmghekfaaWShare
import Derived.Test.YtomakpfmghekfaaWN
import Derived.Test.YtomakpfmghekfaaWFootNe
import Derived.Test.YtomakpfmghekfaaWAt
import Derived.Test.YtomakpfmghekfaaWEqStruct
import Derived.Test.YtomakpfmghekfaaWRepsOne
import Derived.Test.YtomakpfmghekfaaWInv
import Derived.Test.YtomakpfmghekfaaWInvWords
import Derived.Test.YtomakpfmghekfaaWGuard
import Derived.Test.YtomakpfmghekfaaWNEv
import Derived.Test.YtomakpfmghekfaaWMore
import Derived.Test.YtomakpfmghekfaaPFnExactJoinPatternsx0
import Derived.Test.YtomakpfmghekfaaPFnExactJoinPatternsx1
import Derived.Test.YtomakpfmghekfaaPFnExactJoinPatternsx2
import Derived.Test.YtomakpfmghekfaaPFnExactJoinPatternsx3
import Derived.Test.YtomakpfmghekfaaPFnExactJoinPatternsx4
import Derived.Test.YtomakpfmghekfaaPFnExactJoinPatternsx5
import Derived.Test.YtomakpfmghekfaaPFnExactJoinPatternsx6
import Derived.Test.YtomakpfmghekfaaDevJPf
import Derived.Test.YtomakpfmghekfaaRowLaw
namespace Go.Proofs.Ytomakpfmghekfaa.PFnExactJoinPatterns
open Go.RowKit Go.Proofs.YtomakpfmghekfaaW.PrintWords Go.Proofs.YtomakpfmghekfaaW.PrintLast Go.Proofs.YtomakpfmghekfaaW.PrintMore
attribute [local go_sem] max2_int min2_int max_two min_two max_three min_three max_four min_four
set_option linter.unusedVariables false
set_option linter.unusedSimpArgs false
theorem fine_z : FinePattern z30 := .mk _ rfl rfl (Nat.le_of_ble_eq_true rfl) (Nat.le_of_ble_eq_true rfl) (fun y hy => by cases hy)
theorem fine_kid {x : PT} (h : FinePattern x) (i : Nat) : FinePattern (kid x i) := by
  unfold kid
  rw [List.getD_eq_getElem?_getD]
  by_cases hi : i < x.f3.length
  · rw [List.getElem?_eq_getElem hi]
    exact h.kids.2 _ (List.getElem_mem hi)
  · rw [List.getElem?_eq_none (by omega)]
    exact fine_z
theorem fine_str {s : ByteArray} (h : s.size ≤ 9223372036854775807) : FinePattern (strP s) := .mk _ rfl rfl h (Nat.le_of_ble_eq_true rfl) (fun y hy => by cases hy)
theorem fine_pair {k : Int} (hk : (Lit.int .i64 k).wf = true) {a b : PT} (ha : FinePattern a) (hb : FinePattern b) : FinePattern ⟨k, 0, ⟨#[]⟩, [a, b]⟩ := .mk _ hk rfl (Nat.le_of_ble_eq_true rfl) (Nat.le_of_ble_eq_true rfl) (fun y hy => by
  simp only [List.mem_cons, List.not_mem_nil, or_false] at hy
  rcases hy with rfl | rfl
  · exact ha
  · exact hb)
theorem fine_one {k : Int} {t : ByteArray} (hk : (Lit.int .i64 k).wf = true) (ht : t.size ≤ 9223372036854775807) {a : PT} (ha : FinePattern a) : FinePattern ⟨k, 0, t, [a]⟩ := .mk _ hk rfl ht (Nat.le_of_ble_eq_true rfl) (fun y hy => by
  simp only [List.mem_cons, List.not_mem_nil, or_false] at hy
  rw [hy]
  exact ha)
theorem fine_cat (n : Nat) : ∀ a b : PT, FinePattern a → FinePattern b → FinePattern (catF n a b) := by
  induction n with
  | zero => intro a b _ hb; exact hb
  | succ n ih =>
    intro a b ha hb
    simp only [catF]
    split
    · exact hb
    split
    · exact ha
    split
    · exact ih _ _ (fine_kid ha 0) (ih _ _ (fine_kid ha 1) hb)
    split
    · rename_i hs
      simp only [bothStr, Bool.and_eq_true, decide_eq_true_eq] at hs
      exact fine_str (Nat.le_trans hs.2.2 (Nat.le_of_ble_eq_true rfl))
    split
    · rename_i hs
      simp only [strCat, Bool.and_eq_true, decide_eq_true_eq] at hs
      exact fine_pair rfl (fine_str (Nat.le_trans hs.2.2.2 (Nat.le_of_ble_eq_true rfl))) (fine_kid hb 1)
    · exact fine_pair rfl ha hb
theorem fine_alt (n : Nat) : ∀ a b : PT, FinePattern a → FinePattern b → FinePattern (altF n a b) := by
  induction n with
  | zero => intro a b _ hb; exact hb
  | succ n ih =>
    intro a b ha hb
    simp only [altF]
    split
    · exact hb
    split
    · exact ha
    split
    · exact ih _ _ (fine_kid ha 0) (ih _ _ (fine_kid ha 1) hb)
    · exact fine_pair rfl ha hb
theorem fine_simp (N n : Nat) : ∀ x : PT, FinePattern x → FinePattern (simpS N n x) := by
  induction n with
  | zero => intro x h; exact h
  | succ n ih =>
    intro x h
    have hs : FinePattern (strP ⟨#[]⟩) := fine_str (Nat.le_of_ble_eq_true rfl)
    have h2 := h
    cases h2 with
    | mk x h0 h1 ht hl hk =>
    simp only [simpS]
    split
    · exact hs
    split
    · exact fine_cat N _ _ (ih _ (fine_kid h 0)) (ih _ (fine_kid h 1))
    split
    · exact fine_alt N _ _ (ih _ (fine_kid h 0)) (ih _ (fine_kid h 1))
    split
    · split
      · exact hs
      · exact fine_one rfl (Nat.le_of_ble_eq_true rfl) (ih _ (fine_kid h 0))
    split
    · split
      · exact ih _ (fine_kid h 0)
      · exact fine_one h0 ht (ih _ (fine_kid h 0))
    · exact h
def jcat (a b : PT) : PT := catF 2000000 (simpS 2000000 2000000 a) (simpS 2000000 2000000 b)
def jok (a b : PT) : Bool := validP a && (validP b && validP (jcat a b))
def jn (a b : PT) : PT := if jok a b = true then jcat a b else z30
theorem fine_jcat {a b : PT} (ha : FinePattern a) (hb : FinePattern b) : FinePattern (jcat a b) := fine_cat _ _ _ (fine_simp _ _ _ ha) (fine_simp _ _ _ hb)
theorem jcat_cnt {a b : PT} (ha : validP a = true) (hb : validP b = true) : cntT (jcat a b) ≤ 1 + cntT a + cntT b := by
  have h1 := simp_ok 2000000 2000000 a (vp_of _ a (Nat.le_refl _) (of_decide_eq_true ha).1)
  have h2 := simp_ok 2000000 2000000 b (vp_of _ b (Nat.le_refl _) (of_decide_eq_true hb).1)
  have h3 := (catF_ok 2000000 _ _ h1.1 h2.1).2
  unfold jcat
  omega
theorem jn_cnt {a b : PT} (h : cntT a + cntT b ≤ 1999999) : cntT (jn a b) ≤ 2000000 := by
  unfold jn
  split
  · rename_i hj
    simp only [jok, Bool.and_eq_true] at hj
    have := jcat_cnt hj.1 hj.2.1
    omega
  · exact Nat.le_of_ble_eq_true rfl
theorem jn_yes {a b : PT} (h1 : validP a = true) (h2 : validP b = true) (h3 : validP (jcat a b) = true) : jn a b = jcat a b ∧ jok a b = true := by
  have : jok a b = true := by unfold jok; rw [h1, h2, h3]; rfl
  exact ⟨by unfold jn; rw [if_pos this], this⟩
theorem jn_no {a b : PT} (h : jok a b = false) : jn a b = z30 := by unfold jn; rw [h]; rfl
theorem results_cell_row2 {P : Program} {fn : Func} {p u : Tmp} {ty : TypeId} (h : fn.results = #[.cell p ty, .tmp u]) (tmps : Array Value) (w : World) (g : Nat) (t : TypeId) (cs : Array Value) (fr : Nat × Nat) (d : TypeDesc)
    (hp : tmps.getD p undef = .pointer (some ⟨g, 0, none⟩)) (hg : w.heap[g]? = some (.cells cs t fr)) (hu : P.underlying ty = some d) (hd : (match d with | .struct _ | .array _ _ => true | _ => false) = true) (hi : (P.info? ty).map (·.size) = some cs.size) (v : Value) (hv : tmps.getD u undef = v) :
    (results fn tmps).run P w = .ok (.tuple #[.agg cs, v]) w := by
  have hp' : tmps[p]?.getD undef = .pointer (some ⟨g, 0, none⟩) := by simpa using hp
  have hv' : tmps[u]?.getD undef = v := by simpa using hv
  simp [results, h, hp', hv', asAddr, run_loadVar_row w g t ty cs fr d hg hu hd hi]
theorem q_up {p B : Nat → Prop} {n m : Nat} (h : ∀ k, B k → p k ∧ k < n) (hs : n ≤ m) : ∀ k, B k → p k ∧ k < m := fun k hk => ⟨(h k hk).1, Nat.lt_of_lt_of_le (h k hk).2 hs⟩
end Go.Proofs.Ytomakpfmghekfaa.PFnExactJoinPatterns
