/- The row of the law FnExactNewMatcher: for every input the call returns true and each argument reads as before; out of its pure statement and the walk. Conditions: none beyond the given statement's. -/
import Derived.Test.YtbamjjaamjfnaaaRows
import Derived.Test.YtbamjjaamjfnaaaDevNML
import Derived.Test.YtbamjjaamjfnaaaOpens
import Derived.WalkKit
import Derived.ProofKit
import Derived.OpenShut
import Derived.ShutString
import Derived.ChangeOld
import Derived.Below
import Derived.SizedLaws
import Derived.Carry
namespace Go.Proofs.Ytbamjjaamjfnaaa.fnExactNewMatcher
open Go.ChangeShapes Go.WideShapes Go.ChangeAt Go.RowKit Go.Proofs.Ytbamjjaamjfnaaa.Opens Go.Proofs.Ytbamjjaamjfnaaa.PFnExactNewMatcher Go.Proofs.YtbamjjaamjfnaaaW.PrintWords
open Go.ChangeMaps (open_string shut_string)
set_option linter.unusedVariables false
set_option linter.unusedSimpArgs false
theorem own : ownKnob Try.prog.godebug = none := by kernel_rfl
theorem laidOut : laidOutB Try.prog = true := by kernel_rfl
set_option maxRecDepth 100000 in
theorem opens_t72 (n : Nat) : Opens Try.prog 72 k72 (fun v_ => G72 v_) n := by
  intro m hm H enc w spare held cs x h
  obtain ⟨xs, m', rfl, _, hl, hxl, hf⟩ := DataW.trod_struct Try.underlying72 h
  rw [show Try.prog.cellsOf 72 = 3 from by kernel_rfl] at hl
  obtain ⟨c0_, c1_, c2_, rfl⟩ : ∃ c0_ c1_ c2_, cs = [c0_, c1_, c2_] := by
    match cs, hl with
    | [c0_, c1_, c2_], _ => exact ⟨c0_, c1_, c2_, rfl⟩
  have hxl_ : xs.length = 3 := hxl
  have e0 := hf 0 _ rfl
  obtain ⟨y0, z0⟩ := field_of (cs := [c0_]) e0 (by omega) (by show List.take (Try.prog.cellsOf 2) _ = _; rw [show Try.prog.cellsOf 2 = 1 from by kernel_rfl]; rfl)
  obtain ⟨v0, k0, g0⟩ := (show Opens Try.prog 2 (Kd.int .i64) (fun v_ => (Lit.int .i64 v_).wf = true) m' from (opens_int Try.underlying2 m')) m' (Nat.le_refl _) H enc w spare held _ _ z0
  have h_ : [c0_] = [.int .i64 v0] := k0
  simp only [List.cons.injEq, and_true] at h_
  subst h_
  have e1 := hf 1 _ rfl
  obtain ⟨y1, z1⟩ := field_of (cs := [c1_]) e1 (by omega) (by show List.take (Try.prog.cellsOf 2) _ = _; rw [show Try.prog.cellsOf 2 = 1 from by kernel_rfl]; rfl)
  obtain ⟨v1, k1, g1⟩ := (show Opens Try.prog 2 (Kd.int .i64) (fun v_ => (Lit.int .i64 v_).wf = true) m' from (opens_int Try.underlying2 m')) m' (Nat.le_refl _) H enc w spare held _ _ z1
  have h_ : [c1_] = [.int .i64 v1] := k1
  simp only [List.cons.injEq, and_true] at h_
  subst h_
  have e2 := hf 2 _ rfl
  obtain ⟨y2, z2⟩ := field_of (cs := [c2_]) e2 (by omega) (by show List.take (Try.prog.cellsOf 9) _ = _; rw [show Try.prog.cellsOf 9 = 1 from by kernel_rfl]; rfl)
  obtain ⟨v2, k2, g2⟩ := (show Opens Try.prog 9 Kd.string (fun v_ => v_.size ≤ 9223372036854775807) m' from (opens_string Try.underlying9 m')) m' (Nat.le_refl _) H enc w spare held _ _ z2
  have h_ : [c2_] = [.string v2] := k2
  simp only [List.cons.injEq, and_true] at h_
  subst h_
  exact ⟨(⟨v0, v1, v2⟩ : S72), k72_mk w (⟨v0, v1, v2⟩ : S72) , G72.mk _ g0 g1 g2⟩
theorem opens_s22 (n : Nat) : Opens Try.prog 22 (Kd.slice 72 k72) (fun v_ => v_.length ≤ 9223372036854775807 ∧ ∀ y_, y_ ∈ v_ → G72 y_) n := opens_le (opens_slice Try.underlying22 (by kernel_rfl) n (opens_t72 n)) (Nat.le_succ n)
set_option maxRecDepth 100000 in
theorem opens_t75 (n : Nat) : Opens Try.prog 75 k75 (fun v_ => G75 v_) n := by
  intro m hm H enc w spare held cs x h
  obtain ⟨xs, m', rfl, _, hl, hxl, hf⟩ := DataW.trod_struct Try.underlying75 h
  rw [show Try.prog.cellsOf 75 = 2 from by kernel_rfl] at hl
  obtain ⟨c0_, c1_, rfl⟩ : ∃ c0_ c1_, cs = [c0_, c1_] := by
    match cs, hl with
    | [c0_, c1_], _ => exact ⟨c0_, c1_, rfl⟩
  have hxl_ : xs.length = 2 := hxl
  have e0 := hf 0 _ rfl
  obtain ⟨y0, z0⟩ := field_of (cs := [c0_]) e0 (by omega) (by show List.take (Try.prog.cellsOf 9) _ = _; rw [show Try.prog.cellsOf 9 = 1 from by kernel_rfl]; rfl)
  obtain ⟨v0, k0, g0⟩ := (show Opens Try.prog 9 Kd.string (fun v_ => v_.size ≤ 9223372036854775807) m' from (opens_string Try.underlying9 m')) m' (Nat.le_refl _) H enc w spare held _ _ z0
  have h_ : [c0_] = [.string v0] := k0
  simp only [List.cons.injEq, and_true] at h_
  subst h_
  have e1 := hf 1 _ rfl
  obtain ⟨y1, z1⟩ := field_of (cs := [c1_]) e1 (by omega) (by show List.take (Try.prog.cellsOf 2) _ = _; rw [show Try.prog.cellsOf 2 = 1 from by kernel_rfl]; rfl)
  obtain ⟨v1, k1, g1⟩ := (show Opens Try.prog 2 (Kd.int .i64) (fun v_ => (Lit.int .i64 v_).wf = true) m' from (opens_int Try.underlying2 m')) m' (Nat.le_refl _) H enc w spare held _ _ z1
  have h_ : [c1_] = [.int .i64 v1] := k1
  simp only [List.cons.injEq, and_true] at h_
  subst h_
  exact ⟨(⟨v0, v1⟩ : S75), k75_mk w (⟨v0, v1⟩ : S75) , G75.mk _ g0 g1⟩
theorem opens_s23 (n : Nat) : Opens Try.prog 23 (Kd.slice 75 k75) (fun v_ => v_.length ≤ 9223372036854775807 ∧ ∀ y_, y_ ∈ v_ → G75 y_) n := opens_le (opens_slice Try.underlying23 (by kernel_rfl) n (opens_t75 n)) (Nat.le_succ n)
set_option maxRecDepth 100000 in
theorem opens_t25 (n : Nat) : Opens Try.prog 25 k25 (fun v_ => G25 v_) n := by
  intro m hm H enc w spare held cs x h
  obtain ⟨xs, m', rfl, _, hl, hxl, hf⟩ := DataW.trod_struct Try.underlying25 h
  rw [show Try.prog.cellsOf 25 = 2 from by kernel_rfl] at hl
  obtain ⟨c0_, c1_, rfl⟩ : ∃ c0_ c1_, cs = [c0_, c1_] := by
    match cs, hl with
    | [c0_, c1_], _ => exact ⟨c0_, c1_, rfl⟩
  have hxl_ : xs.length = 2 := hxl
  have e0 := hf 0 _ rfl
  obtain ⟨y0, z0⟩ := field_of (cs := [c0_]) e0 (by omega) (by show List.take (Try.prog.cellsOf 22) _ = _; rw [show Try.prog.cellsOf 22 = 1 from by kernel_rfl]; rfl)
  obtain ⟨v0, k0, g0⟩ := (show Opens Try.prog 22 (Kd.slice 72 k72) (fun v_ => v_.length ≤ 9223372036854775807 ∧ ∀ y_, y_ ∈ v_ → G72 y_) m' from (opens_s22 m')) m' (Nat.le_refl _) H enc w spare held _ _ z0
  obtain ⟨A0, d0, h_, l0, r0⟩ := k0
  simp only [List.cons.injEq, and_true] at h_
  subst h_
  have e1 := hf 1 _ rfl
  obtain ⟨y1, z1⟩ := field_of (cs := [c1_]) e1 (by omega) (by show List.take (Try.prog.cellsOf 23) _ = _; rw [show Try.prog.cellsOf 23 = 1 from by kernel_rfl]; rfl)
  obtain ⟨v1, k1, g1⟩ := (show Opens Try.prog 23 (Kd.slice 75 k75) (fun v_ => v_.length ≤ 9223372036854775807 ∧ ∀ y_, y_ ∈ v_ → G75 y_) m' from (opens_s23 m')) m' (Nat.le_refl _) H enc w spare held _ _ z1
  obtain ⟨A1, d1, h_, l1, r1⟩ := k1
  simp only [List.cons.injEq, and_true] at h_
  subst h_
  exact ⟨(⟨v0, v1⟩ : S25), k25_mk w (⟨v0, v1⟩ : S25) l0 r0 l1 r1, G25.mk _ g0.1 g0.2 g1.1 g1.2⟩
set_option maxRecDepth 100000 in
theorem lifted (os : Os) (started : os.Started) (H : Type) (enc : TypeId × Value → H) :
    ReturnsInHanded {} Try.checked os 5 .any (Rows.fnExactNewMatcherSpec.pre6 enc Try.prog Try.f5 Rows.fnExactNewMatcherRow.domain false) (Rows.fnExactNewMatcherSpec.post enc Try.prog Try.f5 false true false false) := by
  refine returnsInHanded_of_change_sized (C := Try.checked) own started (by kernel_rfl) Try.func5
    (ChangeSpec.witness6 (enc := enc) (C := Try.checked) false ⟨#[], #[.agg #[.slice none 0 0, .slice none 0 0], .string ByteArray.empty, .bool false], []⟩ 8 (by kernel_rfl) (by kernel_rfl) (by kernel_rfl) (by kernel_rfl)) ?_
  intro W base args ds gs before hval0 hW hcnd hsz0 _
  have hval : ∀ (j : Nat) t v, Try.f5.params[j]? = some t → args[j]? = some v → Value.okWide Try.prog W .any base t v := hval0
  have hW' := hW
  obtain ⟨p, q, hA0, hV, rfl, hfz, hnd⟩ := hW
  have hA : DataW.TrodAll enc Try.prog W 0 (fun _ => true) true Try.f5.params.toList args.toList ds p := hA0
  rw [Try.params5] at hA hval
  obtain ⟨v0, vs0, d0, ds0, p0, q0, hargs, rfl, rfl, h0, r0⟩ := trodAll_cons hA
  obtain ⟨v1, vs1, d1, ds1, p1, q1, rfl, rfl, rfl, h1, r1⟩ := trodAll_cons r0
  obtain ⟨v2, vs2, d2, ds2, p2, q2, rfl, rfl, rfl, h2, r2⟩ := trodAll_cons r1
  obtain ⟨rfl, rfl, rfl⟩ := trodAll_nil r2
  obtain rfl : args = #[v0, v1, v2] := by cases args; simp_all
  obtain ⟨rfl, rfl⟩ := trodVars_none hV
  have b0 := h0
  have lt0 : ∀ x ∈ p0, x.block < W.heap.size := by obtain ⟨m, hm⟩ := b0; exact DataW.trod_lt m _ _ _ hm
  obtain ⟨cs0, x0, rfl, k0, g0⟩ := opens_arg Try.underlying25 (hval 0 25 v0 rfl rfl) h0 (fun n => opens_t25 n)
  obtain ⟨A0_0, c0_0, A0_1, c0_1, e0, l0_0, r0_0, l0_1, r0_1⟩ := k25_open k0
  obtain rfl : cs0 = #[.slice A0_0 (x0.f0).length c0_0, .slice A0_1 (x0.f1).length c0_1] := Array.ext' e0
  obtain ⟨x1, rfl, rfl, rfl, g1⟩ := open_string Try.underlying9 (hval 1 9 v1 rfl rfl) h1
  obtain ⟨x2, rfl, rfl, rfl⟩ := open_bool Try.underlying4 (hval 2 4 v2 rfl rfl) h2
  clear hA0 hval0 hsz0
  refine (law_nm x0 g0 A0_0 c0_0 A0_1 c0_1 x1 x2 W r0_0 l0_0 r0_1 l0_1 (by simpa [maxLen] using g1) ).mono fun e W' ⟨he, bel⟩ => ?_
  subst he
  exact ⟨_, rfl, _, _, _, [], _, [], hW', trodAll_mk1 (shut_bool Try.underlying4 _), (trodAll_cons_mk (Below.trod laidOut (by kernel_rfl) (of_decide_eq_true (by kernel_rfl)) b0 bel lt0) (trodAll_cons_mk (shut_string Try.underlying9 g1) (trodAll_cons_mk (shut_bool Try.underlying4 _) trodAll_mk0))), rfl, bel.frame _, fun h => by cases h⟩
theorem over : Rows.fnExactNewMatcherRow.holds Try.pinned (OpenSpec.ofChange Rows.fnExactNewMatcherSpec) :=
  OpenClaim.holds_of_wide 5 Try.f5 rfl rfl rfl rfl rfl rfl rfl ⟨rfl, rfl, rfl, rfl, rfl⟩ rfl rfl rfl rfl rfl (by kernel_rfl) Try.func5 (by kernel_rfl)
    (of_decide_eq_true (by kernel_rfl)) (by unfold Func.isWrapper; first | (rw [if_pos (by decide +kernel)]; kernel_rfl) | (rw [if_neg (by decide +kernel)]; exact ⟨rfl, rfl⟩))
    (fun os started H enc _ => lifted os started H enc)
theorem proved : Rows.FnExactNewMatcherSaid := over
#print axioms proved
end Go.Proofs.Ytbamjjaamjfnaaa.fnExactNewMatcher
namespace Go.Proofs.Ytbamjjaamjfnaaa
theorem fnExactNewMatcher_holds : Rows.FnExactNewMatcherSaid := fnExactNewMatcher.proved
end Go.Proofs.Ytbamjjaamjfnaaa
