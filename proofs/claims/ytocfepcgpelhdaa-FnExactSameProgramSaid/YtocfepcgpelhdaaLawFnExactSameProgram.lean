/- The row of the law FnExactSameProgram: for every input the call returns true and each argument reads as before; out of its pure statement and the walk. Conditions: none beyond the given statement's. -/
import Derived.Test.YtocfepcgpelhdaaRows
import Derived.Test.YtocfepcgpelhdaaPFnExactSameProgramx8
import Derived.Test.YtocfepcgpelhdaaPureFnExactSameProgram
import Derived.Test.YtocfepcgpelhdaaOpens
import Derived.WalkKit
import Derived.ProofKit
import Derived.OpenShut
import Derived.ShutString
import Derived.ChangeOld
import Derived.Below
import Derived.SizedLaws
import Derived.Carry
namespace Go.Proofs.Ytocfepcgpelhdaa.fnExactSameProgram
open Go.ChangeShapes Go.WideShapes Go.ChangeAt Go.RowKit Go.Proofs.Ytocfepcgpelhdaa.Opens Go.Proofs.Ytocfepcgpelhdaa.PFnExactSameProgram Go.Proofs.YtocfepcgpelhdaaW.PrintWords
open Go.ChangeMaps (open_string shut_string)
set_option linter.unusedVariables false
set_option linter.unusedSimpArgs false
theorem own : ownKnob Try.prog.godebug = none := by kernel_rfl
theorem laidOut : laidOutB Try.prog = true := by kernel_rfl
set_option maxRecDepth 100000 in
theorem opens_t24 (n : Nat) : Opens Try.prog 24 k24 (fun v_ => G24 v_) n := by
  induction n with
  | zero => exact opens_zero
  | succ n ih =>
  intro m hm H enc w spare held cs x h
  obtain ⟨xs, m', rfl, _, hl, hxl, hf⟩ := DataW.trod_struct Try.underlying24 h
  rw [show Try.prog.cellsOf 24 = 4 from by kernel_rfl] at hl
  obtain ⟨c0_, c1_, c2_, c3_, rfl⟩ : ∃ c0_ c1_ c2_ c3_, cs = [c0_, c1_, c2_, c3_] := by
    match cs, hl with
    | [c0_, c1_, c2_, c3_], _ => exact ⟨c0_, c1_, c2_, c3_, rfl⟩
  have hxl_ : xs.length = 4 := hxl
  have e0 := hf 0 _ rfl
  obtain ⟨y0, z0⟩ := field_of (cs := [c0_]) e0 (by omega) (by show List.take (Try.prog.cellsOf 2) _ = _; rw [show Try.prog.cellsOf 2 = 1 from by kernel_rfl]; rfl)
  obtain ⟨v0, k0, g0⟩ := (show Opens Try.prog 2 (Kd.int .i64) (fun v_ => (Lit.int .i64 v_).wf = true) m' from (opens_int Try.underlying2 m')) m' (Nat.le_refl _) H enc w spare held _ _ z0
  have h_ : [c0_] = [.int .i64 v0] := k0
  simp only [List.cons.injEq, and_true] at h_
  subst h_
  have e1 := hf 1 _ rfl
  obtain ⟨y1, z1⟩ := field_of (cs := [c1_]) e1 (by omega) (by show List.take (Try.prog.cellsOf 2) _ = _; rw [show Try.prog.cellsOf 2 = 1 from by kernel_rfl]; rfl)
  obtain ⟨v1, k1, g1⟩ := (show Opens Try.prog 2 (Kd.int .i64) (fun v_ => (Lit.int .i64 v_).wf = true) m' from (opens_int Try.underlying2 m')) m' (Nat.le_refl _) H enc w spare held _ _ z1
  have h_ : [c1_] = [.int .i64 v1] := k1
  simp only [List.cons.injEq, and_true] at h_
  subst h_
  have e2 := hf 2 _ rfl
  obtain ⟨y2, z2⟩ := field_of (cs := [c2_]) e2 (by omega) (by show List.take (Try.prog.cellsOf 9) _ = _; rw [show Try.prog.cellsOf 9 = 1 from by kernel_rfl]; rfl)
  obtain ⟨v2, k2, g2⟩ := (show Opens Try.prog 9 Kd.string (fun v_ => v_.size ≤ 9223372036854775807) m' from (opens_string Try.underlying9 m')) m' (Nat.le_refl _) H enc w spare held _ _ z2
  have h_ : [c2_] = [.string v2] := k2
  simp only [List.cons.injEq, and_true] at h_
  subst h_
  have e3 := hf 3 _ rfl
  obtain ⟨y3, z3⟩ := field_of (cs := [c3_]) e3 (by omega) (by show List.take (Try.prog.cellsOf 22) _ = _; rw [show Try.prog.cellsOf 22 = 1 from by kernel_rfl]; rfl)
  obtain ⟨v3, k3, g3⟩ := (show Opens Try.prog 22 (Kd.slice 24 k24) (fun v_ => v_.length ≤ 9223372036854775807 ∧ ∀ y_, y_ ∈ v_ → G24 y_) m' from opens_le (opens_slice Try.underlying22 (by kernel_rfl) n ih) (by omega)) m' (Nat.le_refl _) H enc w spare held _ _ z3
  obtain ⟨A3, d3, h_, l3, r3⟩ := k3
  simp only [List.cons.injEq, and_true] at h_
  subst h_
  exact ⟨(⟨v0, v1, v2, v3⟩ : S24), k24_mk w (⟨v0, v1, v2, v3⟩ : S24) l3 r3, G24.mk _ g0 g1 g2 g3.1 g3.2⟩
set_option maxRecDepth 100000 in
theorem opens_t26 (n : Nat) : Opens Try.prog 26 k26 (fun v_ => G26 v_) n := by
  intro m hm H enc w spare held cs x h
  obtain ⟨xs, m', rfl, _, hl, hxl, hf⟩ := DataW.trod_struct Try.underlying26 h
  rw [show Try.prog.cellsOf 26 = 3 from by kernel_rfl] at hl
  obtain ⟨c0_, c1_, c2_, rfl⟩ : ∃ c0_ c1_ c2_, cs = [c0_, c1_, c2_] := by
    match cs, hl with
    | [c0_, c1_, c2_], _ => exact ⟨c0_, c1_, c2_, rfl⟩
  have hxl_ : xs.length = 3 := hxl
  have e0 := hf 0 _ rfl
  obtain ⟨y0, z0⟩ := field_of (cs := [c0_]) e0 (by omega) (by show List.take (Try.prog.cellsOf 9) _ = _; rw [show Try.prog.cellsOf 9 = 1 from by kernel_rfl]; rfl)
  obtain ⟨v0, k0, g0⟩ := (show Opens Try.prog 9 Kd.string (fun v_ => v_.size ≤ 9223372036854775807) m' from (opens_string Try.underlying9 m')) m' (Nat.le_refl _) H enc w spare held _ _ z0
  have h_ : [c0_] = [.string v0] := k0
  simp only [List.cons.injEq, and_true] at h_
  subst h_
  have e1 := hf 1 _ rfl
  obtain ⟨y1, z1⟩ := field_of (cs := [c1_]) e1 (by omega) (by show List.take (Try.prog.cellsOf 9) _ = _; rw [show Try.prog.cellsOf 9 = 1 from by kernel_rfl]; rfl)
  obtain ⟨v1, k1, g1⟩ := (show Opens Try.prog 9 Kd.string (fun v_ => v_.size ≤ 9223372036854775807) m' from (opens_string Try.underlying9 m')) m' (Nat.le_refl _) H enc w spare held _ _ z1
  have h_ : [c1_] = [.string v1] := k1
  simp only [List.cons.injEq, and_true] at h_
  subst h_
  have e2 := hf 2 _ rfl
  obtain ⟨y2, z2⟩ := field_of (cs := [c2_]) e2 (by omega) (by show List.take (Try.prog.cellsOf 9) _ = _; rw [show Try.prog.cellsOf 9 = 1 from by kernel_rfl]; rfl)
  obtain ⟨v2, k2, g2⟩ := (show Opens Try.prog 9 Kd.string (fun v_ => v_.size ≤ 9223372036854775807) m' from (opens_string Try.underlying9 m')) m' (Nat.le_refl _) H enc w spare held _ _ z2
  have h_ : [c2_] = [.string v2] := k2
  simp only [List.cons.injEq, and_true] at h_
  subst h_
  exact ⟨(⟨v0, v1, v2⟩ : S26), k26_mk w (⟨v0, v1, v2⟩ : S26) , G26.mk _ g0 g1 g2⟩
set_option maxRecDepth 100000 in
theorem opens_t28 (n : Nat) : Opens Try.prog 28 k28 (fun v_ => G28 v_) n := by
  intro m hm H enc w spare held cs x h
  obtain ⟨xs, m', rfl, _, hl, hxl, hf⟩ := DataW.trod_struct Try.underlying28 h
  rw [show Try.prog.cellsOf 28 = 19 from by kernel_rfl] at hl
  obtain ⟨c0_, c1_, c2_, c3_, c4_, c5_, c6_, c7_, c8_, c9_, c10_, c11_, c12_, c13_, c14_, c15_, c16_, c17_, c18_, rfl⟩ : ∃ c0_ c1_ c2_ c3_ c4_ c5_ c6_ c7_ c8_ c9_ c10_ c11_ c12_ c13_ c14_ c15_ c16_ c17_ c18_, cs = [c0_, c1_, c2_, c3_, c4_, c5_, c6_, c7_, c8_, c9_, c10_, c11_, c12_, c13_, c14_, c15_, c16_, c17_, c18_] := by
    match cs, hl with
    | [c0_, c1_, c2_, c3_, c4_, c5_, c6_, c7_, c8_, c9_, c10_, c11_, c12_, c13_, c14_, c15_, c16_, c17_, c18_], _ => exact ⟨c0_, c1_, c2_, c3_, c4_, c5_, c6_, c7_, c8_, c9_, c10_, c11_, c12_, c13_, c14_, c15_, c16_, c17_, c18_, rfl⟩
  have hxl_ : xs.length = 8 := hxl
  have e0 := hf 0 _ rfl
  obtain ⟨y0, z0⟩ := field_of (cs := [c0_]) e0 (by omega) (by show List.take (Try.prog.cellsOf 9) _ = _; rw [show Try.prog.cellsOf 9 = 1 from by kernel_rfl]; rfl)
  obtain ⟨v0, k0, g0⟩ := (show Opens Try.prog 9 Kd.string (fun v_ => v_.size ≤ 9223372036854775807) m' from (opens_string Try.underlying9 m')) m' (Nat.le_refl _) H enc w spare held _ _ z0
  have h_ : [c0_] = [.string v0] := k0
  simp only [List.cons.injEq, and_true] at h_
  subst h_
  have e1 := hf 1 _ rfl
  obtain ⟨y1, z1⟩ := field_of (cs := [c1_]) e1 (by omega) (by show List.take (Try.prog.cellsOf 4) _ = _; rw [show Try.prog.cellsOf 4 = 1 from by kernel_rfl]; rfl)
  obtain ⟨v1, k1, g1⟩ := (show Opens Try.prog 4 Kd.bool (fun _ => True) m' from (opens_bool Try.underlying4 m')) m' (Nat.le_refl _) H enc w spare held _ _ z1
  have h_ : [c1_] = [.bool v1] := k1
  simp only [List.cons.injEq, and_true] at h_
  subst h_
  have e2 := hf 2 _ rfl
  obtain ⟨y2, z2⟩ := field_of (cs := [c2_, c3_, c4_, c5_]) e2 (by omega) (by show List.take (Try.prog.cellsOf 24) _ = _; rw [show Try.prog.cellsOf 24 = 4 from by kernel_rfl]; rfl)
  obtain ⟨v2, k2, g2⟩ := (show Opens Try.prog 24 k24 (fun v_ => G24 v_) m' from (opens_t24 m')) m' (Nat.le_refl _) H enc w spare held _ _ z2
  obtain ⟨A2_3, d2_3, h_, l2_3, r2_3⟩ := k24_open k2
  simp only [List.cons.injEq, and_true] at h_
  obtain ⟨rfl, rfl, rfl, rfl⟩ := h_
  have e3 := hf 3 _ rfl
  obtain ⟨y3, z3⟩ := field_of (cs := [c6_]) e3 (by omega) (by show List.take (Try.prog.cellsOf 4) _ = _; rw [show Try.prog.cellsOf 4 = 1 from by kernel_rfl]; rfl)
  obtain ⟨v3, k3, g3⟩ := (show Opens Try.prog 4 Kd.bool (fun _ => True) m' from (opens_bool Try.underlying4 m')) m' (Nat.le_refl _) H enc w spare held _ _ z3
  have h_ : [c6_] = [.bool v3] := k3
  simp only [List.cons.injEq, and_true] at h_
  subst h_
  have e4 := hf 4 _ rfl
  obtain ⟨y4, z4⟩ := field_of (cs := [c7_, c8_, c9_, c10_]) e4 (by omega) (by show List.take (Try.prog.cellsOf 24) _ = _; rw [show Try.prog.cellsOf 24 = 4 from by kernel_rfl]; rfl)
  obtain ⟨v4, k4, g4⟩ := (show Opens Try.prog 24 k24 (fun v_ => G24 v_) m' from (opens_t24 m')) m' (Nat.le_refl _) H enc w spare held _ _ z4
  obtain ⟨A4_3, d4_3, h_, l4_3, r4_3⟩ := k24_open k4
  simp only [List.cons.injEq, and_true] at h_
  obtain ⟨rfl, rfl, rfl, rfl⟩ := h_
  have e5 := hf 5 _ rfl
  obtain ⟨y5, z5⟩ := field_of (cs := [c11_]) e5 (by omega) (by show List.take (Try.prog.cellsOf 4) _ = _; rw [show Try.prog.cellsOf 4 = 1 from by kernel_rfl]; rfl)
  obtain ⟨v5, k5, g5⟩ := (show Opens Try.prog 4 Kd.bool (fun _ => True) m' from (opens_bool Try.underlying4 m')) m' (Nat.le_refl _) H enc w spare held _ _ z5
  have h_ : [c11_] = [.bool v5] := k5
  simp only [List.cons.injEq, and_true] at h_
  subst h_
  have e6 := hf 6 _ rfl
  obtain ⟨y6, z6⟩ := field_of (cs := [c12_, c13_, c14_, c15_]) e6 (by omega) (by show List.take (Try.prog.cellsOf 24) _ = _; rw [show Try.prog.cellsOf 24 = 4 from by kernel_rfl]; rfl)
  obtain ⟨v6, k6, g6⟩ := (show Opens Try.prog 24 k24 (fun v_ => G24 v_) m' from (opens_t24 m')) m' (Nat.le_refl _) H enc w spare held _ _ z6
  obtain ⟨A6_3, d6_3, h_, l6_3, r6_3⟩ := k24_open k6
  simp only [List.cons.injEq, and_true] at h_
  obtain ⟨rfl, rfl, rfl, rfl⟩ := h_
  have e7 := hf 7 _ rfl
  obtain ⟨y7, z7⟩ := field_of (cs := [c16_, c17_, c18_]) e7 (by omega) (by show List.take (Try.prog.cellsOf 26) _ = _; rw [show Try.prog.cellsOf 26 = 3 from by kernel_rfl]; rfl)
  obtain ⟨v7, k7, g7⟩ := (show Opens Try.prog 26 k26 (fun v_ => G26 v_) m' from (opens_t26 m')) m' (Nat.le_refl _) H enc w spare held _ _ z7
  have h_ := k26_open k7
  simp only [List.cons.injEq, and_true] at h_
  obtain ⟨rfl, rfl, rfl⟩ := h_
  exact ⟨(⟨v0, v1, v2, v3, v4, v5, v6, v7⟩ : S28), k28_mk w (⟨v0, v1, v2, v3, v4, v5, v6, v7⟩ : S28) l2_3 r2_3 l4_3 r4_3 l6_3 r6_3, G28.mk _ g0 g2 g4 g6 g7⟩
theorem opens_s39 (n : Nat) : Opens Try.prog 39 (Kd.slice 28 k28) (fun v_ => v_.length ≤ 9223372036854775807 ∧ ∀ y_, y_ ∈ v_ → G28 y_) n := opens_le (opens_slice Try.underlying39 (by kernel_rfl) n (opens_t28 n)) (Nat.le_succ n)
set_option maxRecDepth 100000 in
theorem opens_t41 (n : Nat) : Opens Try.prog 41 k41 (fun v_ => G41 v_) n := by
  intro m hm H enc w spare held cs x h
  obtain ⟨xs, m', rfl, _, hl, hxl, hf⟩ := DataW.trod_struct Try.underlying41 h
  rw [show Try.prog.cellsOf 41 = 1 from by kernel_rfl] at hl
  obtain ⟨c0_, rfl⟩ : ∃ c0_, cs = [c0_] := by
    match cs, hl with
    | [c0_], _ => exact ⟨c0_, rfl⟩
  have hxl_ : xs.length = 1 := hxl
  have e0 := hf 0 _ rfl
  obtain ⟨y0, z0⟩ := field_of (cs := [c0_]) e0 (by omega) (by show List.take (Try.prog.cellsOf 39) _ = _; rw [show Try.prog.cellsOf 39 = 1 from by kernel_rfl]; rfl)
  obtain ⟨v0, k0, g0⟩ := (show Opens Try.prog 39 (Kd.slice 28 k28) (fun v_ => v_.length ≤ 9223372036854775807 ∧ ∀ y_, y_ ∈ v_ → G28 y_) m' from (opens_s39 m')) m' (Nat.le_refl _) H enc w spare held _ _ z0
  obtain ⟨A0, d0, h_, l0, r0⟩ := k0
  simp only [List.cons.injEq, and_true] at h_
  subst h_
  exact ⟨(⟨v0⟩ : S41), k41_mk w (⟨v0⟩ : S41) l0 r0, G41.mk _ g0.1 g0.2⟩
set_option maxRecDepth 100000 in
theorem lifted (os : Os) (started : os.Started) (H : Type) (enc : TypeId × Value → H) :
    ReturnsInHanded {} Try.checked os 4 .any (Rows.fnExactSameProgramSpec.pre6 enc Try.prog Try.f4 Rows.fnExactSameProgramRow.domain false) (Rows.fnExactSameProgramSpec.post enc Try.prog Try.f4 false true false false) := by
  refine returnsInHanded_of_change_sized (C := Try.checked) own started (by kernel_rfl) Try.func4
    (ChangeSpec.witness6 (enc := enc) (C := Try.checked) false ⟨#[], #[.agg #[.slice none 0 0], .agg #[.slice none 0 0]], []⟩ 8 (by kernel_rfl) (by kernel_rfl) (by kernel_rfl) (by kernel_rfl)) ?_
  intro W base args ds gs before hval0 hW hcnd hsz0 _
  have hval : ∀ (j : Nat) t v, Try.f4.params[j]? = some t → args[j]? = some v → Value.okWide Try.prog W .any base t v := hval0
  have hW' := hW
  obtain ⟨p, q, hA0, hV, rfl, hfz, hnd⟩ := hW
  have hA : DataW.TrodAll enc Try.prog W 0 (fun _ => true) true Try.f4.params.toList args.toList ds p := hA0
  rw [Try.params4] at hA hval
  obtain ⟨v0, vs0, d0, ds0, p0, q0, hargs, rfl, rfl, h0, r0⟩ := trodAll_cons hA
  obtain ⟨v1, vs1, d1, ds1, p1, q1, rfl, rfl, rfl, h1, r1⟩ := trodAll_cons r0
  obtain ⟨rfl, rfl, rfl⟩ := trodAll_nil r1
  obtain rfl : args = #[v0, v1] := by cases args; simp_all
  obtain ⟨rfl, rfl⟩ := trodVars_none hV
  have b0 := h0
  have lt0 : ∀ x ∈ p0, x.block < W.heap.size := by obtain ⟨m, hm⟩ := b0; exact DataW.trod_lt m _ _ _ hm
  obtain ⟨cs0, x0, rfl, k0, g0⟩ := opens_arg Try.underlying41 (hval 0 41 v0 rfl rfl) h0 (fun n => opens_t41 n)
  obtain ⟨A0_0, c0_0, e0, l0_0, r0_0⟩ := k41_open k0
  obtain rfl : cs0 = #[.slice A0_0 (x0.f0).length c0_0] := Array.ext' e0
  have b1 := h1
  have lt1 : ∀ x ∈ p1, x.block < W.heap.size := by obtain ⟨m, hm⟩ := b1; exact DataW.trod_lt m _ _ _ hm
  obtain ⟨cs1, x1, rfl, k1, g1⟩ := opens_arg Try.underlying41 (hval 1 41 v1 rfl rfl) h1 (fun n => opens_t41 n)
  obtain ⟨A1_0, c1_0, e1, l1_0, r1_0⟩ := k41_open k1
  obtain rfl : cs1 = #[.slice A1_0 (x1.f0).length c1_0] := Array.ext' e1
  clear hA0 hval0 hsz0
  refine (laws_FnExactSameProgram.walk Pure.FnExactSameProgram x0 A0_0 c0_0 x1 A1_0 c1_0 W g0 r0_0 l0_0 g1 r1_0 l1_0).mono fun e W' ⟨he, bel⟩ => ?_
  subst he
  exact ⟨_, rfl, _, _, _, [], _, [], hW', trodAll_mk1 (shut_bool Try.underlying4 _), (trodAll_cons_mk (Below.trod laidOut (by kernel_rfl) (of_decide_eq_true (by kernel_rfl)) b0 bel lt0) (trodAll_cons_mk (Below.trod laidOut (by kernel_rfl) (of_decide_eq_true (by kernel_rfl)) b1 bel lt1) trodAll_mk0)), rfl, bel.frame _, fun h => by cases h⟩
theorem over : Rows.fnExactSameProgramRow.holds Try.pinned (OpenSpec.ofChange Rows.fnExactSameProgramSpec) :=
  OpenClaim.holds_of_wide 4 Try.f4 rfl rfl rfl rfl rfl rfl rfl ⟨rfl, rfl, rfl, rfl, rfl⟩ rfl rfl rfl rfl rfl (by kernel_rfl) Try.func4 (by kernel_rfl)
    (of_decide_eq_true (by kernel_rfl)) (by unfold Func.isWrapper; first | (rw [if_pos (by decide +kernel)]; kernel_rfl) | (rw [if_neg (by decide +kernel)]; exact ⟨rfl, rfl⟩))
    (fun os started H enc _ => lifted os started H enc)
theorem proved : Rows.FnExactSameProgramSaid := over
#print axioms proved
end Go.Proofs.Ytocfepcgpelhdaa.fnExactSameProgram
namespace Go.Proofs.Ytocfepcgpelhdaa
/-- The row, under a short name, for the claim. -/
theorem fnExactSameProgram_holds : Rows.FnExactSameProgramSaid := fnExactSameProgram.proved
end Go.Proofs.Ytocfepcgpelhdaa
