/- The row of the law FnExactSameHeap: for every input the call returns true and each argument reads as before; out of its pure statement and the walk. Conditions: none beyond the given statement's. -/
import Derived.Test.YtocfepcgpelhdaaRows
import Derived.Test.YtocfepcgpelhdaaPFnExactSameHeapx6
import Derived.Test.YtocfepcgpelhdaaPureFnExactSameHeap
import Derived.Test.YtocfepcgpelhdaaOpens
import Derived.WalkKit
import Derived.ProofKit
import Derived.OpenShut
import Derived.ShutString
import Derived.ChangeOld
import Derived.Below
import Derived.SizedLaws
import Derived.Carry
namespace Go.Proofs.Ytocfepcgpelhdaa.fnExactSameHeap
open Go.ChangeShapes Go.WideShapes Go.ChangeAt Go.RowKit Go.Proofs.Ytocfepcgpelhdaa.Opens Go.Proofs.Ytocfepcgpelhdaa.PFnExactSameHeap Go.Proofs.YtocfepcgpelhdaaW.PrintWords
open Go.ChangeMaps (open_string shut_string)
set_option linter.unusedVariables false
set_option linter.unusedSimpArgs false
theorem own : ownKnob Try.prog.godebug = none := by kernel_rfl
theorem laidOut : laidOutB Try.prog = true := by kernel_rfl
set_option maxRecDepth 100000 in
theorem opens_t128 (n : Nat) : Opens Try.prog 128 k128 (fun v_ => G128 v_) n := by
  intro m hm H enc w spare held cs x h
  obtain ⟨xs, m', rfl, _, hl, hxl, hf⟩ := DataW.trod_struct Try.underlying128 h
  rw [show Try.prog.cellsOf 128 = 4 from by kernel_rfl] at hl
  obtain ⟨c0_, c1_, c2_, c3_, rfl⟩ : ∃ c0_ c1_ c2_ c3_, cs = [c0_, c1_, c2_, c3_] := by
    match cs, hl with
    | [c0_, c1_, c2_, c3_], _ => exact ⟨c0_, c1_, c2_, c3_, rfl⟩
  have hxl_ : xs.length = 4 := hxl
  have e0 := hf 0 _ rfl
  obtain ⟨y0, z0⟩ := field_of (cs := [c0_]) e0 (by omega) (by show List.take (Try.prog.cellsOf 2) _ = _; rw [show Try.prog.cellsOf 2 = 1 from by kernel_rfl]; rfl)
  obtain ⟨v0, k0, g0⟩ := (show Opens Try.prog 2 (Kd.int .i64) (fun v_ => (Lit.int .i64 v_).wf = true) m' from (opens_int Try.underlying2 m')) m' (Nat.le_refl _) H enc w spare held _ _ z0
  have h_ : [c0_] = [.int .i64 v0] := k0
  simp only [List.cons.injEq, and_true] at h_
  subst h_
  have e1 := hf 1 _ rfl
  obtain ⟨y1, z1⟩ := field_of (cs := [c1_]) e1 (by omega) (by show List.take (Try.prog.cellsOf 2) _ = _; rw [show Try.prog.cellsOf 2 = 1 from by kernel_rfl]; rfl)
  obtain ⟨v1, k1, g1⟩ := (show Opens Try.prog 2 (Kd.int .i64) (fun v_ => (Lit.int .i64 v_).wf = true) m' from (opens_int Try.underlying2 m')) m' (Nat.le_refl _) H enc w spare held _ _ z1
  have h_ : [c1_] = [.int .i64 v1] := k1
  simp only [List.cons.injEq, and_true] at h_
  subst h_
  have e2 := hf 2 _ rfl
  obtain ⟨y2, z2⟩ := field_of (cs := [c2_]) e2 (by omega) (by show List.take (Try.prog.cellsOf 9) _ = _; rw [show Try.prog.cellsOf 9 = 1 from by kernel_rfl]; rfl)
  obtain ⟨v2, k2, g2⟩ := (show Opens Try.prog 9 Kd.string (fun v_ => v_.size ≤ 9223372036854775807) m' from (opens_string Try.underlying9 m')) m' (Nat.le_refl _) H enc w spare held _ _ z2
  have h_ : [c2_] = [.string v2] := k2
  simp only [List.cons.injEq, and_true] at h_
  subst h_
  have e3 := hf 3 _ rfl
  obtain ⟨y3, z3⟩ := field_of (cs := [c3_]) e3 (by omega) (by show List.take (Try.prog.cellsOf 2) _ = _; rw [show Try.prog.cellsOf 2 = 1 from by kernel_rfl]; rfl)
  obtain ⟨v3, k3, g3⟩ := (show Opens Try.prog 2 (Kd.int .i64) (fun v_ => (Lit.int .i64 v_).wf = true) m' from (opens_int Try.underlying2 m')) m' (Nat.le_refl _) H enc w spare held _ _ z3
  have h_ : [c3_] = [.int .i64 v3] := k3
  simp only [List.cons.injEq, and_true] at h_
  subst h_
  exact ⟨(⟨v0, v1, v2, v3⟩ : S128), k128_mk w (⟨v0, v1, v2, v3⟩ : S128) , G128.mk _ g0 g1 g2 g3⟩
theorem opens_s127 (n : Nat) : Opens Try.prog 127 (Kd.slice 128 k128) (fun v_ => v_.length ≤ 9223372036854775807 ∧ ∀ y_, y_ ∈ v_ → G128 y_) n := opens_le (opens_slice Try.underlying127 (by kernel_rfl) n (opens_t128 n)) (Nat.le_succ n)
set_option maxRecDepth 100000 in
theorem opens_t130 (n : Nat) : Opens Try.prog 130 k130 (fun v_ => G130 v_) n := by
  intro m hm H enc w spare held cs x h
  obtain ⟨xs, m', rfl, _, hl, hxl, hf⟩ := DataW.trod_struct Try.underlying130 h
  rw [show Try.prog.cellsOf 130 = 10 from by kernel_rfl] at hl
  obtain ⟨c0_, c1_, c2_, c3_, c4_, c5_, c6_, c7_, c8_, c9_, rfl⟩ : ∃ c0_ c1_ c2_ c3_ c4_ c5_ c6_ c7_ c8_ c9_, cs = [c0_, c1_, c2_, c3_, c4_, c5_, c6_, c7_, c8_, c9_] := by
    match cs, hl with
    | [c0_, c1_, c2_, c3_, c4_, c5_, c6_, c7_, c8_, c9_], _ => exact ⟨c0_, c1_, c2_, c3_, c4_, c5_, c6_, c7_, c8_, c9_, rfl⟩
  have hxl_ : xs.length = 7 := hxl
  have e0 := hf 0 _ rfl
  obtain ⟨y0, z0⟩ := field_of (cs := [c0_]) e0 (by omega) (by show List.take (Try.prog.cellsOf 2) _ = _; rw [show Try.prog.cellsOf 2 = 1 from by kernel_rfl]; rfl)
  obtain ⟨v0, k0, g0⟩ := (show Opens Try.prog 2 (Kd.int .i64) (fun v_ => (Lit.int .i64 v_).wf = true) m' from (opens_int Try.underlying2 m')) m' (Nat.le_refl _) H enc w spare held _ _ z0
  have h_ : [c0_] = [.int .i64 v0] := k0
  simp only [List.cons.injEq, and_true] at h_
  subst h_
  have e1 := hf 1 _ rfl
  obtain ⟨y1, z1⟩ := field_of (cs := [c1_]) e1 (by omega) (by show List.take (Try.prog.cellsOf 2) _ = _; rw [show Try.prog.cellsOf 2 = 1 from by kernel_rfl]; rfl)
  obtain ⟨v1, k1, g1⟩ := (show Opens Try.prog 2 (Kd.int .i64) (fun v_ => (Lit.int .i64 v_).wf = true) m' from (opens_int Try.underlying2 m')) m' (Nat.le_refl _) H enc w spare held _ _ z1
  have h_ : [c1_] = [.int .i64 v1] := k1
  simp only [List.cons.injEq, and_true] at h_
  subst h_
  have e2 := hf 2 _ rfl
  obtain ⟨y2, z2⟩ := field_of (cs := [c2_]) e2 (by omega) (by show List.take (Try.prog.cellsOf 9) _ = _; rw [show Try.prog.cellsOf 9 = 1 from by kernel_rfl]; rfl)
  obtain ⟨v2, k2, g2⟩ := (show Opens Try.prog 9 Kd.string (fun v_ => v_.size ≤ 9223372036854775807) m' from (opens_string Try.underlying9 m')) m' (Nat.le_refl _) H enc w spare held _ _ z2
  have h_ : [c2_] = [.string v2] := k2
  simp only [List.cons.injEq, and_true] at h_
  subst h_
  have e3 := hf 3 _ rfl
  obtain ⟨y3, z3⟩ := field_of (cs := [c3_]) e3 (by omega) (by show List.take (Try.prog.cellsOf 2) _ = _; rw [show Try.prog.cellsOf 2 = 1 from by kernel_rfl]; rfl)
  obtain ⟨v3, k3, g3⟩ := (show Opens Try.prog 2 (Kd.int .i64) (fun v_ => (Lit.int .i64 v_).wf = true) m' from (opens_int Try.underlying2 m')) m' (Nat.le_refl _) H enc w spare held _ _ z3
  have h_ : [c3_] = [.int .i64 v3] := k3
  simp only [List.cons.injEq, and_true] at h_
  subst h_
  have e4 := hf 4 _ rfl
  obtain ⟨y4, z4⟩ := field_of (cs := [c4_]) e4 (by omega) (by show List.take (Try.prog.cellsOf 127) _ = _; rw [show Try.prog.cellsOf 127 = 1 from by kernel_rfl]; rfl)
  obtain ⟨v4, k4, g4⟩ := (show Opens Try.prog 127 (Kd.slice 128 k128) (fun v_ => v_.length ≤ 9223372036854775807 ∧ ∀ y_, y_ ∈ v_ → G128 y_) m' from (opens_s127 m')) m' (Nat.le_refl _) H enc w spare held _ _ z4
  obtain ⟨A4, d4, h_, l4, r4⟩ := k4
  simp only [List.cons.injEq, and_true] at h_
  subst h_
  have e5 := hf 5 _ rfl
  obtain ⟨y5, z5⟩ := field_of (cs := [c5_]) e5 (by omega) (by show List.take (Try.prog.cellsOf 127) _ = _; rw [show Try.prog.cellsOf 127 = 1 from by kernel_rfl]; rfl)
  obtain ⟨v5, k5, g5⟩ := (show Opens Try.prog 127 (Kd.slice 128 k128) (fun v_ => v_.length ≤ 9223372036854775807 ∧ ∀ y_, y_ ∈ v_ → G128 y_) m' from (opens_s127 m')) m' (Nat.le_refl _) H enc w spare held _ _ z5
  obtain ⟨A5, d5, h_, l5, r5⟩ := k5
  simp only [List.cons.injEq, and_true] at h_
  subst h_
  have e6 := hf 6 _ rfl
  obtain ⟨y6, z6⟩ := field_of (cs := [c6_, c7_, c8_, c9_]) e6 (by omega) (by show List.take (Try.prog.cellsOf 128) _ = _; rw [show Try.prog.cellsOf 128 = 4 from by kernel_rfl]; rfl)
  obtain ⟨v6, k6, g6⟩ := (show Opens Try.prog 128 k128 (fun v_ => G128 v_) m' from (opens_t128 m')) m' (Nat.le_refl _) H enc w spare held _ _ z6
  have h_ := k128_open k6
  simp only [List.cons.injEq, and_true] at h_
  obtain ⟨rfl, rfl, rfl, rfl⟩ := h_
  exact ⟨(⟨v0, v1, v2, v3, v4, v5, v6⟩ : S130), k130_mk w (⟨v0, v1, v2, v3, v4, v5, v6⟩ : S130) l4 r4 l5 r5, G130.mk _ g0 g1 g2 g3 g4.1 g4.2 g5.1 g5.2 g6⟩
theorem opens_s63 (n : Nat) : Opens Try.prog 63 (Kd.slice 130 k130) (fun v_ => v_.length ≤ 9223372036854775807 ∧ ∀ y_, y_ ∈ v_ → G130 y_) n := opens_le (opens_slice Try.underlying63 (by kernel_rfl) n (opens_t130 n)) (Nat.le_succ n)
set_option maxRecDepth 100000 in
theorem opens_t65 (n : Nat) : Opens Try.prog 65 k65 (fun v_ => G65 v_) n := by
  intro m hm H enc w spare held cs x h
  obtain ⟨xs, m', rfl, _, hl, hxl, hf⟩ := DataW.trod_struct Try.underlying65 h
  rw [show Try.prog.cellsOf 65 = 2 from by kernel_rfl] at hl
  obtain ⟨c0_, c1_, rfl⟩ : ∃ c0_ c1_, cs = [c0_, c1_] := by
    match cs, hl with
    | [c0_, c1_], _ => exact ⟨c0_, c1_, rfl⟩
  have hxl_ : xs.length = 2 := hxl
  have e0 := hf 0 _ rfl
  obtain ⟨y0, z0⟩ := field_of (cs := [c0_]) e0 (by omega) (by show List.take (Try.prog.cellsOf 2) _ = _; rw [show Try.prog.cellsOf 2 = 1 from by kernel_rfl]; rfl)
  obtain ⟨v0, k0, g0⟩ := (show Opens Try.prog 2 (Kd.int .i64) (fun v_ => (Lit.int .i64 v_).wf = true) m' from (opens_int Try.underlying2 m')) m' (Nat.le_refl _) H enc w spare held _ _ z0
  have h_ : [c0_] = [.int .i64 v0] := k0
  simp only [List.cons.injEq, and_true] at h_
  subst h_
  have e1 := hf 1 _ rfl
  obtain ⟨y1, z1⟩ := field_of (cs := [c1_]) e1 (by omega) (by show List.take (Try.prog.cellsOf 63) _ = _; rw [show Try.prog.cellsOf 63 = 1 from by kernel_rfl]; rfl)
  obtain ⟨v1, k1, g1⟩ := (show Opens Try.prog 63 (Kd.slice 130 k130) (fun v_ => v_.length ≤ 9223372036854775807 ∧ ∀ y_, y_ ∈ v_ → G130 y_) m' from (opens_s63 m')) m' (Nat.le_refl _) H enc w spare held _ _ z1
  obtain ⟨A1, d1, h_, l1, r1⟩ := k1
  simp only [List.cons.injEq, and_true] at h_
  subst h_
  exact ⟨(⟨v0, v1⟩ : S65), k65_mk w (⟨v0, v1⟩ : S65) l1 r1, G65.mk _ g0 g1.1 g1.2⟩
set_option maxRecDepth 100000 in
theorem lifted (os : Os) (started : os.Started) (H : Type) (enc : TypeId × Value → H) :
    ReturnsInHanded {} Try.checked os 6 .any (Rows.fnExactSameHeapSpec.pre6 enc Try.prog Try.f6 Rows.fnExactSameHeapRow.domain false) (Rows.fnExactSameHeapSpec.post enc Try.prog Try.f6 false true false false) := by
  refine returnsInHanded_of_change_sized (C := Try.checked) own started (by kernel_rfl) Try.func6
    (ChangeSpec.witness6 (enc := enc) (C := Try.checked) false ⟨#[], #[.agg #[.int .i64 0, .slice none 0 0], .agg #[.int .i64 0, .slice none 0 0]], []⟩ 8 (by kernel_rfl) (by kernel_rfl) (by kernel_rfl) (by kernel_rfl)) ?_
  intro W base args ds gs before hval0 hW hcnd hsz0 _
  have hval : ∀ (j : Nat) t v, Try.f6.params[j]? = some t → args[j]? = some v → Value.okWide Try.prog W .any base t v := hval0
  have hW' := hW
  obtain ⟨p, q, hA0, hV, rfl, hfz, hnd⟩ := hW
  have hA : DataW.TrodAll enc Try.prog W 0 (fun _ => true) true Try.f6.params.toList args.toList ds p := hA0
  rw [Try.params6] at hA hval
  obtain ⟨v0, vs0, d0, ds0, p0, q0, hargs, rfl, rfl, h0, r0⟩ := trodAll_cons hA
  obtain ⟨v1, vs1, d1, ds1, p1, q1, rfl, rfl, rfl, h1, r1⟩ := trodAll_cons r0
  obtain ⟨rfl, rfl, rfl⟩ := trodAll_nil r1
  obtain rfl : args = #[v0, v1] := by cases args; simp_all
  obtain ⟨rfl, rfl⟩ := trodVars_none hV
  have b0 := h0
  have lt0 : ∀ x ∈ p0, x.block < W.heap.size := by obtain ⟨m, hm⟩ := b0; exact DataW.trod_lt m _ _ _ hm
  obtain ⟨cs0, x0, rfl, k0, g0⟩ := opens_arg Try.underlying65 (hval 0 65 v0 rfl rfl) h0 (fun n => opens_t65 n)
  obtain ⟨A0_1, c0_1, e0, l0_1, r0_1⟩ := k65_open k0
  obtain rfl : cs0 = #[.int .i64 (x0.f0), .slice A0_1 (x0.f1).length c0_1] := Array.ext' e0
  have b1 := h1
  have lt1 : ∀ x ∈ p1, x.block < W.heap.size := by obtain ⟨m, hm⟩ := b1; exact DataW.trod_lt m _ _ _ hm
  obtain ⟨cs1, x1, rfl, k1, g1⟩ := opens_arg Try.underlying65 (hval 1 65 v1 rfl rfl) h1 (fun n => opens_t65 n)
  obtain ⟨A1_1, c1_1, e1, l1_1, r1_1⟩ := k65_open k1
  obtain rfl : cs1 = #[.int .i64 (x1.f0), .slice A1_1 (x1.f1).length c1_1] := Array.ext' e1
  clear hA0 hval0 hsz0
  refine (laws_FnExactSameHeap.walk Pure.FnExactSameHeap x0 A0_1 c0_1 x1 A1_1 c1_1 W g0 r0_1 l0_1 g1 r1_1 l1_1).mono fun e W' ⟨he, bel⟩ => ?_
  subst he
  exact ⟨_, rfl, _, _, _, [], _, [], hW', trodAll_mk1 (shut_bool Try.underlying4 _), (trodAll_cons_mk (Below.trod laidOut (by kernel_rfl) (of_decide_eq_true (by kernel_rfl)) b0 bel lt0) (trodAll_cons_mk (Below.trod laidOut (by kernel_rfl) (of_decide_eq_true (by kernel_rfl)) b1 bel lt1) trodAll_mk0)), rfl, bel.frame _, fun h => by cases h⟩
theorem over : Rows.fnExactSameHeapRow.holds Try.pinned (OpenSpec.ofChange Rows.fnExactSameHeapSpec) :=
  OpenClaim.holds_of_wide 6 Try.f6 rfl rfl rfl rfl rfl rfl rfl ⟨rfl, rfl, rfl, rfl, rfl⟩ rfl rfl rfl rfl rfl (by kernel_rfl) Try.func6 (by kernel_rfl)
    (of_decide_eq_true (by kernel_rfl)) (by unfold Func.isWrapper; first | (rw [if_pos (by decide +kernel)]; kernel_rfl) | (rw [if_neg (by decide +kernel)]; exact ⟨rfl, rfl⟩))
    (fun os started H enc _ => lifted os started H enc)
theorem proved : Rows.FnExactSameHeapSaid := over
#print axioms proved
end Go.Proofs.Ytocfepcgpelhdaa.fnExactSameHeap
namespace Go.Proofs.Ytocfepcgpelhdaa
/-- The row, under a short name, for the claim. -/
theorem fnExactSameHeap_holds : Rows.FnExactSameHeapSaid := fnExactSameHeap.proved
end Go.Proofs.Ytocfepcgpelhdaa
