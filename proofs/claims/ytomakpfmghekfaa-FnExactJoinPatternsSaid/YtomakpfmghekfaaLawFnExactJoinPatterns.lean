/- The row of the law FnExactJoinPatterns: for every input the call returns true and each argument reads as before; out of the walk by hand. Conditions: none beyond the given statement's. -/
import Derived.Test.YtomakpfmghekfaaRows
import Derived.Test.YtomakpfmghekfaaDevJPl
import Derived.Test.YtomakpfmghekfaaOpens
import Derived.WalkKit
import Derived.ProofKit
import Derived.OpenShut
import Derived.ShutString
import Derived.ChangeOld
import Derived.Below
import Derived.SizedLaws
import Derived.Carry
namespace Go.Proofs.Ytomakpfmghekfaa.fnExactJoinPatterns
open Go.ChangeShapes Go.WideShapes Go.ChangeAt Go.RowKit Go.Proofs.Ytomakpfmghekfaa.Opens Go.Proofs.Ytomakpfmghekfaa.PFnExactJoinPatterns Go.Proofs.YtomakpfmghekfaaW.PrintWords
open Go.ChangeMaps (open_string shut_string)
set_option linter.unusedVariables false
set_option linter.unusedSimpArgs false
theorem own : ownKnob Try.prog.godebug = none := by kernel_rfl
theorem laidOut : laidOutB Try.prog = true := by kernel_rfl
set_option maxRecDepth 100000 in
theorem opens_t24 (n : Nat) : Opens Try.prog 24 k24 (fun v_ => G24 v_) n := by
  induction n with
  | zero => exact opens_zero
  | succ n ih =>
  intro m hm H enc w spare held cs x h
  obtain ⟨xs, m', rfl, _, hl, hxl, hf⟩ := DataW.trod_struct Try.underlying24 h
  rw [show Try.prog.cellsOf 24 = 4 from by kernel_rfl] at hl
  obtain ⟨c0_, c1_, c2_, c3_, rfl⟩ : ∃ c0_ c1_ c2_ c3_, cs = [c0_, c1_, c2_, c3_] := by
    match cs, hl with
    | [c0_, c1_, c2_, c3_], _ => exact ⟨c0_, c1_, c2_, c3_, rfl⟩
  have hxl_ : xs.length = 4 := hxl
  have e0 := hf 0 _ rfl
  obtain ⟨y0, z0⟩ := field_of (cs := [c0_]) e0 (by omega) (by show List.take (Try.prog.cellsOf 2) _ = _; rw [show Try.prog.cellsOf 2 = 1 from by kernel_rfl]; rfl)
  obtain ⟨v0, k0, g0⟩ := (show Opens Try.prog 2 (Kd.int .i64) (fun v_ => (Lit.int .i64 v_).wf = true) m' from (opens_int Try.underlying2 m')) m' (Nat.le_refl _) H enc w spare held _ _ z0
  have h_ : [c0_] = [.int .i64 v0] := k0
  simp only [List.cons.injEq, and_true] at h_
  subst h_
  have e1 := hf 1 _ rfl
  obtain ⟨y1, z1⟩ := field_of (cs := [c1_]) e1 (by omega) (by show List.take (Try.prog.cellsOf 2) _ = _; rw [show Try.prog.cellsOf 2 = 1 from by kernel_rfl]; rfl)
  obtain ⟨v1, k1, g1⟩ := (show Opens Try.prog 2 (Kd.int .i64) (fun v_ => (Lit.int .i64 v_).wf = true) m' from (opens_int Try.underlying2 m')) m' (Nat.le_refl _) H enc w spare held _ _ z1
  have h_ : [c1_] = [.int .i64 v1] := k1
  simp only [List.cons.injEq, and_true] at h_
  subst h_
  have e2 := hf 2 _ rfl
  obtain ⟨y2, z2⟩ := field_of (cs := [c2_]) e2 (by omega) (by show List.take (Try.prog.cellsOf 9) _ = _; rw [show Try.prog.cellsOf 9 = 1 from by kernel_rfl]; rfl)
  obtain ⟨v2, k2, g2⟩ := (show Opens Try.prog 9 Kd.string (fun v_ => v_.size ≤ 9223372036854775807) m' from (opens_string Try.underlying9 m')) m' (Nat.le_refl _) H enc w spare held _ _ z2
  have h_ : [c2_] = [.string v2] := k2
  simp only [List.cons.injEq, and_true] at h_
  subst h_
  have e3 := hf 3 _ rfl
  obtain ⟨y3, z3⟩ := field_of (cs := [c3_]) e3 (by omega) (by show List.take (Try.prog.cellsOf 22) _ = _; rw [show Try.prog.cellsOf 22 = 1 from by kernel_rfl]; rfl)
  obtain ⟨v3, k3, g3⟩ := (show Opens Try.prog 22 (Kd.slice 24 k24) (fun v_ => v_.length ≤ 9223372036854775807 ∧ ∀ y_, y_ ∈ v_ → G24 y_) m' from opens_le (opens_slice Try.underlying22 (by kernel_rfl) n ih) (by omega)) m' (Nat.le_refl _) H enc w spare held _ _ z3
  obtain ⟨A3, d3, h_, l3, r3⟩ := k3
  simp only [List.cons.injEq, and_true] at h_
  subst h_
  exact ⟨(⟨v0, v1, v2, v3⟩ : S24), k24_mk w (⟨v0, v1, v2, v3⟩ : S24) l3 r3, G24.mk _ g0 g1 g2 g3.1 g3.2⟩
set_option maxRecDepth 100000 in
theorem lifted (os : Os) (started : os.Started) (H : Type) (enc : TypeId × Value → H) :
    ReturnsInHanded {} Try.checked os 5 .any (Rows.fnExactJoinPatternsSpec.pre6 enc Try.prog Try.f5 Rows.fnExactJoinPatternsRow.domain false) (Rows.fnExactJoinPatternsSpec.post enc Try.prog Try.f5 false true false false) := by
  refine returnsInHanded_of_change_sized (C := Try.checked) own started (by kernel_rfl) Try.func5
    (ChangeSpec.witness6 (enc := enc) (C := Try.checked) false ⟨#[], #[.agg #[.int .i64 0, .int .i64 0, .string ByteArray.empty, .slice none 0 0], .agg #[.int .i64 0, .int .i64 0, .string ByteArray.empty, .slice none 0 0]], []⟩ 8 (by kernel_rfl) (by kernel_rfl) (by kernel_rfl) (by kernel_rfl)) ?_
  intro W base args ds gs before hval0 hW hcnd hsz0 _
  have hval : ∀ (j : Nat) t v, Try.f5.params[j]? = some t → args[j]? = some v → Value.okWide Try.prog W .any base t v := hval0
  have hW' := hW
  obtain ⟨p, q, hA0, hV, rfl, hfz, hnd⟩ := hW
  have hA : DataW.TrodAll enc Try.prog W 0 (fun _ => true) true Try.f5.params.toList args.toList ds p := hA0
  rw [Try.params5] at hA hval
  obtain ⟨v0, vs0, d0, ds0, p0, q0, hargs, rfl, rfl, h0, r0⟩ := trodAll_cons hA
  obtain ⟨v1, vs1, d1, ds1, p1, q1, rfl, rfl, rfl, h1, r1⟩ := trodAll_cons r0
  obtain ⟨rfl, rfl, rfl⟩ := trodAll_nil r1
  obtain rfl : args = #[v0, v1] := by cases args; simp_all
  obtain ⟨rfl, rfl⟩ := trodVars_none hV
  have b0 := h0
  have lt0 : ∀ x ∈ p0, x.block < W.heap.size := by obtain ⟨m, hm⟩ := b0; exact DataW.trod_lt m _ _ _ hm
  obtain ⟨cs0, x0, rfl, k0, g0⟩ := opens_arg Try.underlying24 (hval 0 24 v0 rfl rfl) h0 (fun n => opens_t24 n)
  obtain ⟨A0_3, c0_3, e0, l0_3, r0_3⟩ := k24_open k0
  obtain rfl : cs0 = #[.int .i64 (x0.f0), .int .i64 (x0.f1), .string (x0.f2), .slice A0_3 (x0.f3).length c0_3] := Array.ext' e0
  have b1 := h1
  have lt1 : ∀ x ∈ p1, x.block < W.heap.size := by obtain ⟨m, hm⟩ := b1; exact DataW.trod_lt m _ _ _ hm
  obtain ⟨cs1, x1, rfl, k1, g1⟩ := opens_arg Try.underlying24 (hval 1 24 v1 rfl rfl) h1 (fun n => opens_t24 n)
  obtain ⟨A1_3, c1_3, e1, l1_3, r1_3⟩ := k24_open k1
  obtain rfl : cs1 = #[.int .i64 (x1.f0), .int .i64 (x1.f1), .string (x1.f2), .slice A1_3 (x1.f3).length c1_3] := Array.ext' e1
  clear hA0 hval0 hsz0
  refine (law_jp x0 x1 g0 g1 A0_3 c0_3 A1_3 c1_3 W r0_3 l0_3 r1_3 l1_3).mono fun e W' ⟨he, bel⟩ => ?_
  subst he
  exact ⟨_, rfl, _, _, _, [], _, [], hW', trodAll_mk1 (shut_bool Try.underlying4 _), (trodAll_cons_mk (Below.trod laidOut (by kernel_rfl) (of_decide_eq_true (by kernel_rfl)) b0 bel lt0) (trodAll_cons_mk (Below.trod laidOut (by kernel_rfl) (of_decide_eq_true (by kernel_rfl)) b1 bel lt1) trodAll_mk0)), rfl, bel.frame _, fun h => by cases h⟩
theorem over : Rows.fnExactJoinPatternsRow.holds Try.pinned (OpenSpec.ofChange Rows.fnExactJoinPatternsSpec) :=
  OpenClaim.holds_of_wide 5 Try.f5 rfl rfl rfl rfl rfl rfl rfl ⟨rfl, rfl, rfl, rfl, rfl⟩ rfl rfl rfl rfl rfl (by kernel_rfl) Try.func5 (by kernel_rfl)
    (of_decide_eq_true (by kernel_rfl)) (by unfold Func.isWrapper; first | (rw [if_pos (by decide +kernel)]; kernel_rfl) | (rw [if_neg (by decide +kernel)]; exact ⟨rfl, rfl⟩))
    (fun os started H enc _ => lifted os started H enc)
theorem proved : Rows.FnExactJoinPatternsSaid := over
#print axioms proved
end Go.Proofs.Ytomakpfmghekfaa.fnExactJoinPatterns
namespace Go.Proofs.Ytomakpfmghekfaa
theorem fnExactJoinPatterns_holds : Rows.FnExactJoinPatternsSaid := fnExactJoinPatterns.proved
end Go.Proofs.Ytomakpfmghekfaa
