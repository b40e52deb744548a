/- The row of the law FnExactSameMatcher: for every input the call returns true and each argument reads as before; out of its pure statement and the walk. Conditions: none beyond the given statement's. -/
import Derived.Test.YtocfepcgpelhdaaRows
import Derived.Test.YtocfepcgpelhdaaPFnExactSameMatcherx12
import Derived.Test.YtocfepcgpelhdaaPureFnExactSameMatcher
import Derived.Test.YtocfepcgpelhdaaOpens
import Derived.WalkKit
import Derived.ProofKit
import Derived.OpenShut
import Derived.ShutString
import Derived.ChangeOld
import Derived.Below
import Derived.SizedLaws
import Derived.Carry
namespace Go.Proofs.Ytocfepcgpelhdaa.fnExactSameMatcher
open Go.ChangeShapes Go.WideShapes Go.ChangeAt Go.RowKit Go.Proofs.Ytocfepcgpelhdaa.Opens Go.Proofs.Ytocfepcgpelhdaa.PFnExactSameMatcher Go.Proofs.YtocfepcgpelhdaaW.PrintWords
open Go.ChangeMaps (open_string shut_string)
set_option linter.unusedVariables false
set_option linter.unusedSimpArgs false
theorem own : ownKnob Try.prog.godebug = none := by kernel_rfl
theorem laidOut : laidOutB Try.prog = true := by kernel_rfl
set_option maxRecDepth 100000 in
theorem opens_t119 (n : Nat) : Opens Try.prog 119 k119 (fun v_ => G119 v_) n := by
  intro m hm H enc w spare held cs x h
  obtain ⟨xs, m', rfl, _, hl, hxl, hf⟩ := DataW.trod_struct Try.underlying119 h
  rw [show Try.prog.cellsOf 119 = 3 from by kernel_rfl] at hl
  obtain ⟨c0_, c1_, c2_, rfl⟩ : ∃ c0_ c1_ c2_, cs = [c0_, c1_, c2_] := by
    match cs, hl with
    | [c0_, c1_, c2_], _ => exact ⟨c0_, c1_, c2_, rfl⟩
  have hxl_ : xs.length = 3 := hxl
  have e0 := hf 0 _ rfl
  obtain ⟨y0, z0⟩ := field_of (cs := [c0_]) e0 (by omega) (by show List.take (Try.prog.cellsOf 2) _ = _; rw [show Try.prog.cellsOf 2 = 1 from by kernel_rfl]; rfl)
  obtain ⟨v0, k0, g0⟩ := (show Opens Try.prog 2 (Kd.int .i64) (fun v_ => (Lit.int .i64 v_).wf = true) m' from (opens_int Try.underlying2 m')) m' (Nat.le_refl _) H enc w spare held _ _ z0
  have h_ : [c0_] = [.int .i64 v0] := k0
  simp only [List.cons.injEq, and_true] at h_
  subst h_
  have e1 := hf 1 _ rfl
  obtain ⟨y1, z1⟩ := field_of (cs := [c1_]) e1 (by omega) (by show List.take (Try.prog.cellsOf 2) _ = _; rw [show Try.prog.cellsOf 2 = 1 from by kernel_rfl]; rfl)
  obtain ⟨v1, k1, g1⟩ := (show Opens Try.prog 2 (Kd.int .i64) (fun v_ => (Lit.int .i64 v_).wf = true) m' from (opens_int Try.underlying2 m')) m' (Nat.le_refl _) H enc w spare held _ _ z1
  have h_ : [c1_] = [.int .i64 v1] := k1
  simp only [List.cons.injEq, and_true] at h_
  subst h_
  have e2 := hf 2 _ rfl
  obtain ⟨y2, z2⟩ := field_of (cs := [c2_]) e2 (by omega) (by show List.take (Try.prog.cellsOf 4) _ = _; rw [show Try.prog.cellsOf 4 = 1 from by kernel_rfl]; rfl)
  obtain ⟨v2, k2, g2⟩ := (show Opens Try.prog 4 Kd.bool (fun _ => True) m' from (opens_bool Try.underlying4 m')) m' (Nat.le_refl _) H enc w spare held _ _ z2
  have h_ : [c2_] = [.bool v2] := k2
  simp only [List.cons.injEq, and_true] at h_
  subst h_
  exact ⟨(⟨v0, v1, v2⟩ : S119), k119_mk w (⟨v0, v1, v2⟩ : S119) , G119.mk _ g0 g1⟩
theorem opens_s49 (n : Nat) : Opens Try.prog 49 (Kd.slice 119 k119) (fun v_ => v_.length ≤ 9223372036854775807 ∧ ∀ y_, y_ ∈ v_ → G119 y_) n := opens_le (opens_slice Try.underlying49 (by kernel_rfl) n (opens_t119 n)) (Nat.le_succ n)
set_option maxRecDepth 100000 in
theorem opens_t121 (n : Nat) : Opens Try.prog 121 k121 (fun v_ => G121 v_) n := by
  intro m hm H enc w spare held cs x h
  obtain ⟨xs, m', rfl, _, hl, hxl, hf⟩ := DataW.trod_struct Try.underlying121 h
  rw [show Try.prog.cellsOf 121 = 6 from by kernel_rfl] at hl
  obtain ⟨c0_, c1_, c2_, c3_, c4_, c5_, rfl⟩ : ∃ c0_ c1_ c2_ c3_ c4_ c5_, cs = [c0_, c1_, c2_, c3_, c4_, c5_] := by
    match cs, hl with
    | [c0_, c1_, c2_, c3_, c4_, c5_], _ => exact ⟨c0_, c1_, c2_, c3_, c4_, c5_, rfl⟩
  have hxl_ : xs.length = 6 := hxl
  have e0 := hf 0 _ rfl
  obtain ⟨y0, z0⟩ := field_of (cs := [c0_]) e0 (by omega) (by show List.take (Try.prog.cellsOf 2) _ = _; rw [show Try.prog.cellsOf 2 = 1 from by kernel_rfl]; rfl)
  obtain ⟨v0, k0, g0⟩ := (show Opens Try.prog 2 (Kd.int .i64) (fun v_ => (Lit.int .i64 v_).wf = true) m' from (opens_int Try.underlying2 m')) m' (Nat.le_refl _) H enc w spare held _ _ z0
  have h_ : [c0_] = [.int .i64 v0] := k0
  simp only [List.cons.injEq, and_true] at h_
  subst h_
  have e1 := hf 1 _ rfl
  obtain ⟨y1, z1⟩ := field_of (cs := [c1_]) e1 (by omega) (by show List.take (Try.prog.cellsOf 2) _ = _; rw [show Try.prog.cellsOf 2 = 1 from by kernel_rfl]; rfl)
  obtain ⟨v1, k1, g1⟩ := (show Opens Try.prog 2 (Kd.int .i64) (fun v_ => (Lit.int .i64 v_).wf = true) m' from (opens_int Try.underlying2 m')) m' (Nat.le_refl _) H enc w spare held _ _ z1
  have h_ : [c1_] = [.int .i64 v1] := k1
  simp only [List.cons.injEq, and_true] at h_
  subst h_
  have e2 := hf 2 _ rfl
  obtain ⟨y2, z2⟩ := field_of (cs := [c2_]) e2 (by omega) (by show List.take (Try.prog.cellsOf 2) _ = _; rw [show Try.prog.cellsOf 2 = 1 from by kernel_rfl]; rfl)
  obtain ⟨v2, k2, g2⟩ := (show Opens Try.prog 2 (Kd.int .i64) (fun v_ => (Lit.int .i64 v_).wf = true) m' from (opens_int Try.underlying2 m')) m' (Nat.le_refl _) H enc w spare held _ _ z2
  have h_ : [c2_] = [.int .i64 v2] := k2
  simp only [List.cons.injEq, and_true] at h_
  subst h_
  have e3 := hf 3 _ rfl
  obtain ⟨y3, z3⟩ := field_of (cs := [c3_]) e3 (by omega) (by show List.take (Try.prog.cellsOf 2) _ = _; rw [show Try.prog.cellsOf 2 = 1 from by kernel_rfl]; rfl)
  obtain ⟨v3, k3, g3⟩ := (show Opens Try.prog 2 (Kd.int .i64) (fun v_ => (Lit.int .i64 v_).wf = true) m' from (opens_int Try.underlying2 m')) m' (Nat.le_refl _) H enc w spare held _ _ z3
  have h_ : [c3_] = [.int .i64 v3] := k3
  simp only [List.cons.injEq, and_true] at h_
  subst h_
  have e4 := hf 4 _ rfl
  obtain ⟨y4, z4⟩ := field_of (cs := [c4_]) e4 (by omega) (by show List.take (Try.prog.cellsOf 2) _ = _; rw [show Try.prog.cellsOf 2 = 1 from by kernel_rfl]; rfl)
  obtain ⟨v4, k4, g4⟩ := (show Opens Try.prog 2 (Kd.int .i64) (fun v_ => (Lit.int .i64 v_).wf = true) m' from (opens_int Try.underlying2 m')) m' (Nat.le_refl _) H enc w spare held _ _ z4
  have h_ : [c4_] = [.int .i64 v4] := k4
  simp only [List.cons.injEq, and_true] at h_
  subst h_
  have e5 := hf 5 _ rfl
  obtain ⟨y5, z5⟩ := field_of (cs := [c5_]) e5 (by omega) (by show List.take (Try.prog.cellsOf 2) _ = _; rw [show Try.prog.cellsOf 2 = 1 from by kernel_rfl]; rfl)
  obtain ⟨v5, k5, g5⟩ := (show Opens Try.prog 2 (Kd.int .i64) (fun v_ => (Lit.int .i64 v_).wf = true) m' from (opens_int Try.underlying2 m')) m' (Nat.le_refl _) H enc w spare held _ _ z5
  have h_ : [c5_] = [.int .i64 v5] := k5
  simp only [List.cons.injEq, and_true] at h_
  subst h_
  exact ⟨(⟨v0, v1, v2, v3, v4, v5⟩ : S121), k121_mk w (⟨v0, v1, v2, v3, v4, v5⟩ : S121) , G121.mk _ g0 g1 g2 g3 g4 g5⟩
theorem opens_s50 (n : Nat) : Opens Try.prog 50 (Kd.slice 121 k121) (fun v_ => v_.length ≤ 9223372036854775807 ∧ ∀ y_, y_ ∈ v_ → G121 y_) n := opens_le (opens_slice Try.underlying50 (by kernel_rfl) n (opens_t121 n)) (Nat.le_succ n)
set_option maxRecDepth 100000 in
theorem opens_t117 (n : Nat) : Opens Try.prog 117 k117 (fun v_ => G117 v_) n := by
  intro m hm H enc w spare held cs x h
  obtain ⟨xs, m', rfl, _, hl, hxl, hf⟩ := DataW.trod_struct Try.underlying117 h
  rw [show Try.prog.cellsOf 117 = 4 from by kernel_rfl] at hl
  obtain ⟨c0_, c1_, c2_, c3_, rfl⟩ : ∃ c0_ c1_ c2_ c3_, cs = [c0_, c1_, c2_, c3_] := by
    match cs, hl with
    | [c0_, c1_, c2_, c3_], _ => exact ⟨c0_, c1_, c2_, c3_, rfl⟩
  have hxl_ : xs.length = 4 := hxl
  have e0 := hf 0 _ rfl
  obtain ⟨y0, z0⟩ := field_of (cs := [c0_]) e0 (by omega) (by show List.take (Try.prog.cellsOf 9) _ = _; rw [show Try.prog.cellsOf 9 = 1 from by kernel_rfl]; rfl)
  obtain ⟨v0, k0, g0⟩ := (show Opens Try.prog 9 Kd.string (fun v_ => v_.size ≤ 9223372036854775807) m' from (opens_string Try.underlying9 m')) m' (Nat.le_refl _) H enc w spare held _ _ z0
  have h_ : [c0_] = [.string v0] := k0
  simp only [List.cons.injEq, and_true] at h_
  subst h_
  have e1 := hf 1 _ rfl
  obtain ⟨y1, z1⟩ := field_of (cs := [c1_]) e1 (by omega) (by show List.take (Try.prog.cellsOf 9) _ = _; rw [show Try.prog.cellsOf 9 = 1 from by kernel_rfl]; rfl)
  obtain ⟨v1, k1, g1⟩ := (show Opens Try.prog 9 Kd.string (fun v_ => v_.size ≤ 9223372036854775807) m' from (opens_string Try.underlying9 m')) m' (Nat.le_refl _) H enc w spare held _ _ z1
  have h_ : [c1_] = [.string v1] := k1
  simp only [List.cons.injEq, and_true] at h_
  subst h_
  have e2 := hf 2 _ rfl
  obtain ⟨y2, z2⟩ := field_of (cs := [c2_]) e2 (by omega) (by show List.take (Try.prog.cellsOf 2) _ = _; rw [show Try.prog.cellsOf 2 = 1 from by kernel_rfl]; rfl)
  obtain ⟨v2, k2, g2⟩ := (show Opens Try.prog 2 (Kd.int .i64) (fun v_ => (Lit.int .i64 v_).wf = true) m' from (opens_int Try.underlying2 m')) m' (Nat.le_refl _) H enc w spare held _ _ z2
  have h_ : [c2_] = [.int .i64 v2] := k2
  simp only [List.cons.injEq, and_true] at h_
  subst h_
  have e3 := hf 3 _ rfl
  obtain ⟨y3, z3⟩ := field_of (cs := [c3_]) e3 (by omega) (by show List.take (Try.prog.cellsOf 2) _ = _; rw [show Try.prog.cellsOf 2 = 1 from by kernel_rfl]; rfl)
  obtain ⟨v3, k3, g3⟩ := (show Opens Try.prog 2 (Kd.int .i64) (fun v_ => (Lit.int .i64 v_).wf = true) m' from (opens_int Try.underlying2 m')) m' (Nat.le_refl _) H enc w spare held _ _ z3
  have h_ : [c3_] = [.int .i64 v3] := k3
  simp only [List.cons.injEq, and_true] at h_
  subst h_
  exact ⟨(⟨v0, v1, v2, v3⟩ : S117), k117_mk w (⟨v0, v1, v2, v3⟩ : S117) , G117.mk _ g0 g1 g2 g3⟩
theorem opens_s51 (n : Nat) : Opens Try.prog 51 (Kd.slice 117 k117) (fun v_ => v_.length ≤ 9223372036854775807 ∧ ∀ y_, y_ ∈ v_ → G117 y_) n := opens_le (opens_slice Try.underlying51 (by kernel_rfl) n (opens_t117 n)) (Nat.le_succ n)
set_option maxRecDepth 100000 in
theorem opens_t53 (n : Nat) : Opens Try.prog 53 k53 (fun v_ => G53 v_) n := by
  intro m hm H enc w spare held cs x h
  obtain ⟨xs, m', rfl, _, hl, hxl, hf⟩ := DataW.trod_struct Try.underlying53 h
  rw [show Try.prog.cellsOf 53 = 15 from by kernel_rfl] at hl
  obtain ⟨c0_, c1_, c2_, c3_, c4_, c5_, c6_, c7_, c8_, c9_, c10_, c11_, c12_, c13_, c14_, rfl⟩ : ∃ c0_ c1_ c2_ c3_ c4_ c5_ c6_ c7_ c8_ c9_ c10_ c11_ c12_ c13_ c14_, cs = [c0_, c1_, c2_, c3_, c4_, c5_, c6_, c7_, c8_, c9_, c10_, c11_, c12_, c13_, c14_] := by
    match cs, hl with
    | [c0_, c1_, c2_, c3_, c4_, c5_, c6_, c7_, c8_, c9_, c10_, c11_, c12_, c13_, c14_], _ => exact ⟨c0_, c1_, c2_, c3_, c4_, c5_, c6_, c7_, c8_, c9_, c10_, c11_, c12_, c13_, c14_, rfl⟩
  have hxl_ : xs.length = 15 := hxl
  have e0 := hf 0 _ rfl
  obtain ⟨y0, z0⟩ := field_of (cs := [c0_]) e0 (by omega) (by show List.take (Try.prog.cellsOf 2) _ = _; rw [show Try.prog.cellsOf 2 = 1 from by kernel_rfl]; rfl)
  obtain ⟨v0, k0, g0⟩ := (show Opens Try.prog 2 (Kd.int .i64) (fun v_ => (Lit.int .i64 v_).wf = true) m' from (opens_int Try.underlying2 m')) m' (Nat.le_refl _) H enc w spare held _ _ z0
  have h_ : [c0_] = [.int .i64 v0] := k0
  simp only [List.cons.injEq, and_true] at h_
  subst h_
  have e1 := hf 1 _ rfl
  obtain ⟨y1, z1⟩ := field_of (cs := [c1_]) e1 (by omega) (by show List.take (Try.prog.cellsOf 2) _ = _; rw [show Try.prog.cellsOf 2 = 1 from by kernel_rfl]; rfl)
  obtain ⟨v1, k1, g1⟩ := (show Opens Try.prog 2 (Kd.int .i64) (fun v_ => (Lit.int .i64 v_).wf = true) m' from (opens_int Try.underlying2 m')) m' (Nat.le_refl _) H enc w spare held _ _ z1
  have h_ : [c1_] = [.int .i64 v1] := k1
  simp only [List.cons.injEq, and_true] at h_
  subst h_
  have e2 := hf 2 _ rfl
  obtain ⟨y2, z2⟩ := field_of (cs := [c2_]) e2 (by omega) (by show List.take (Try.prog.cellsOf 9) _ = _; rw [show Try.prog.cellsOf 9 = 1 from by kernel_rfl]; rfl)
  obtain ⟨v2, k2, g2⟩ := (show Opens Try.prog 9 Kd.string (fun v_ => v_.size ≤ 9223372036854775807) m' from (opens_string Try.underlying9 m')) m' (Nat.le_refl _) H enc w spare held _ _ z2
  have h_ : [c2_] = [.string v2] := k2
  simp only [List.cons.injEq, and_true] at h_
  subst h_
  have e3 := hf 3 _ rfl
  obtain ⟨y3, z3⟩ := field_of (cs := [c3_]) e3 (by omega) (by show List.take (Try.prog.cellsOf 4) _ = _; rw [show Try.prog.cellsOf 4 = 1 from by kernel_rfl]; rfl)
  obtain ⟨v3, k3, g3⟩ := (show Opens Try.prog 4 Kd.bool (fun _ => True) m' from (opens_bool Try.underlying4 m')) m' (Nat.le_refl _) H enc w spare held _ _ z3
  have h_ : [c3_] = [.bool v3] := k3
  simp only [List.cons.injEq, and_true] at h_
  subst h_
  have e4 := hf 4 _ rfl
  obtain ⟨y4, z4⟩ := field_of (cs := [c4_]) e4 (by omega) (by show List.take (Try.prog.cellsOf 2) _ = _; rw [show Try.prog.cellsOf 2 = 1 from by kernel_rfl]; rfl)
  obtain ⟨v4, k4, g4⟩ := (show Opens Try.prog 2 (Kd.int .i64) (fun v_ => (Lit.int .i64 v_).wf = true) m' from (opens_int Try.underlying2 m')) m' (Nat.le_refl _) H enc w spare held _ _ z4
  have h_ : [c4_] = [.int .i64 v4] := k4
  simp only [List.cons.injEq, and_true] at h_
  subst h_
  have e5 := hf 5 _ rfl
  obtain ⟨y5, z5⟩ := field_of (cs := [c5_]) e5 (by omega) (by show List.take (Try.prog.cellsOf 2) _ = _; rw [show Try.prog.cellsOf 2 = 1 from by kernel_rfl]; rfl)
  obtain ⟨v5, k5, g5⟩ := (show Opens Try.prog 2 (Kd.int .i64) (fun v_ => (Lit.int .i64 v_).wf = true) m' from (opens_int Try.underlying2 m')) m' (Nat.le_refl _) H enc w spare held _ _ z5
  have h_ : [c5_] = [.int .i64 v5] := k5
  simp only [List.cons.injEq, and_true] at h_
  subst h_
  have e6 := hf 6 _ rfl
  obtain ⟨y6, z6⟩ := field_of (cs := [c6_]) e6 (by omega) (by show List.take (Try.prog.cellsOf 2) _ = _; rw [show Try.prog.cellsOf 2 = 1 from by kernel_rfl]; rfl)
  obtain ⟨v6, k6, g6⟩ := (show Opens Try.prog 2 (Kd.int .i64) (fun v_ => (Lit.int .i64 v_).wf = true) m' from (opens_int Try.underlying2 m')) m' (Nat.le_refl _) H enc w spare held _ _ z6
  have h_ : [c6_] = [.int .i64 v6] := k6
  simp only [List.cons.injEq, and_true] at h_
  subst h_
  have e7 := hf 7 _ rfl
  obtain ⟨y7, z7⟩ := field_of (cs := [c7_]) e7 (by omega) (by show List.take (Try.prog.cellsOf 2) _ = _; rw [show Try.prog.cellsOf 2 = 1 from by kernel_rfl]; rfl)
  obtain ⟨v7, k7, g7⟩ := (show Opens Try.prog 2 (Kd.int .i64) (fun v_ => (Lit.int .i64 v_).wf = true) m' from (opens_int Try.underlying2 m')) m' (Nat.le_refl _) H enc w spare held _ _ z7
  have h_ : [c7_] = [.int .i64 v7] := k7
  simp only [List.cons.injEq, and_true] at h_
  subst h_
  have e8 := hf 8 _ rfl
  obtain ⟨y8, z8⟩ := field_of (cs := [c8_]) e8 (by omega) (by show List.take (Try.prog.cellsOf 4) _ = _; rw [show Try.prog.cellsOf 4 = 1 from by kernel_rfl]; rfl)
  obtain ⟨v8, k8, g8⟩ := (show Opens Try.prog 4 Kd.bool (fun _ => True) m' from (opens_bool Try.underlying4 m')) m' (Nat.le_refl _) H enc w spare held _ _ z8
  have h_ : [c8_] = [.bool v8] := k8
  simp only [List.cons.injEq, and_true] at h_
  subst h_
  have e9 := hf 9 _ rfl
  obtain ⟨y9, z9⟩ := field_of (cs := [c9_]) e9 (by omega) (by show List.take (Try.prog.cellsOf 2) _ = _; rw [show Try.prog.cellsOf 2 = 1 from by kernel_rfl]; rfl)
  obtain ⟨v9, k9, g9⟩ := (show Opens Try.prog 2 (Kd.int .i64) (fun v_ => (Lit.int .i64 v_).wf = true) m' from (opens_int Try.underlying2 m')) m' (Nat.le_refl _) H enc w spare held _ _ z9
  have h_ : [c9_] = [.int .i64 v9] := k9
  simp only [List.cons.injEq, and_true] at h_
  subst h_
  have e10 := hf 10 _ rfl
  obtain ⟨y10, z10⟩ := field_of (cs := [c10_]) e10 (by omega) (by show List.take (Try.prog.cellsOf 2) _ = _; rw [show Try.prog.cellsOf 2 = 1 from by kernel_rfl]; rfl)
  obtain ⟨v10, k10, g10⟩ := (show Opens Try.prog 2 (Kd.int .i64) (fun v_ => (Lit.int .i64 v_).wf = true) m' from (opens_int Try.underlying2 m')) m' (Nat.le_refl _) H enc w spare held _ _ z10
  have h_ : [c10_] = [.int .i64 v10] := k10
  simp only [List.cons.injEq, and_true] at h_
  subst h_
  have e11 := hf 11 _ rfl
  obtain ⟨y11, z11⟩ := field_of (cs := [c11_]) e11 (by omega) (by show List.take (Try.prog.cellsOf 49) _ = _; rw [show Try.prog.cellsOf 49 = 1 from by kernel_rfl]; rfl)
  obtain ⟨v11, k11, g11⟩ := (show Opens Try.prog 49 (Kd.slice 119 k119) (fun v_ => v_.length ≤ 9223372036854775807 ∧ ∀ y_, y_ ∈ v_ → G119 y_) m' from (opens_s49 m')) m' (Nat.le_refl _) H enc w spare held _ _ z11
  obtain ⟨A11, d11, h_, l11, r11⟩ := k11
  simp only [List.cons.injEq, and_true] at h_
  subst h_
  have e12 := hf 12 _ rfl
  obtain ⟨y12, z12⟩ := field_of (cs := [c12_]) e12 (by omega) (by show List.take (Try.prog.cellsOf 50) _ = _; rw [show Try.prog.cellsOf 50 = 1 from by kernel_rfl]; rfl)
  obtain ⟨v12, k12, g12⟩ := (show Opens Try.prog 50 (Kd.slice 121 k121) (fun v_ => v_.length ≤ 9223372036854775807 ∧ ∀ y_, y_ ∈ v_ → G121 y_) m' from (opens_s50 m')) m' (Nat.le_refl _) H enc w spare held _ _ z12
  obtain ⟨A12, d12, h_, l12, r12⟩ := k12
  simp only [List.cons.injEq, and_true] at h_
  subst h_
  have e13 := hf 13 _ rfl
  obtain ⟨y13, z13⟩ := field_of (cs := [c13_]) e13 (by omega) (by show List.take (Try.prog.cellsOf 51) _ = _; rw [show Try.prog.cellsOf 51 = 1 from by kernel_rfl]; rfl)
  obtain ⟨v13, k13, g13⟩ := (show Opens Try.prog 51 (Kd.slice 117 k117) (fun v_ => v_.length ≤ 9223372036854775807 ∧ ∀ y_, y_ ∈ v_ → G117 y_) m' from (opens_s51 m')) m' (Nat.le_refl _) H enc w spare held _ _ z13
  obtain ⟨A13, d13, h_, l13, r13⟩ := k13
  simp only [List.cons.injEq, and_true] at h_
  subst h_
  have e14 := hf 14 _ rfl
  obtain ⟨y14, z14⟩ := field_of (cs := [c14_]) e14 (by omega) (by show List.take (Try.prog.cellsOf 51) _ = _; rw [show Try.prog.cellsOf 51 = 1 from by kernel_rfl]; rfl)
  obtain ⟨v14, k14, g14⟩ := (show Opens Try.prog 51 (Kd.slice 117 k117) (fun v_ => v_.length ≤ 9223372036854775807 ∧ ∀ y_, y_ ∈ v_ → G117 y_) m' from (opens_s51 m')) m' (Nat.le_refl _) H enc w spare held _ _ z14
  obtain ⟨A14, d14, h_, l14, r14⟩ := k14
  simp only [List.cons.injEq, and_true] at h_
  subst h_
  exact ⟨(⟨v0, v1, v2, v3, v4, v5, v6, v7, v8, v9, v10, v11, v12, v13, v14⟩ : S53), k53_mk w (⟨v0, v1, v2, v3, v4, v5, v6, v7, v8, v9, v10, v11, v12, v13, v14⟩ : S53) l11 r11 l12 r12 l13 r13 l14 r14, G53.mk _ g0 g1 g2 g4 g5 g6 g7 g9 g10 g11.1 g11.2 g12.1 g12.2 g13.1 g13.2 g14.1 g14.2⟩
set_option maxRecDepth 100000 in
theorem lifted (os : Os) (started : os.Started) (H : Type) (enc : TypeId × Value → H) :
    ReturnsInHanded {} Try.checked os 5 .any (Rows.fnExactSameMatcherSpec.pre6 enc Try.prog Try.f5 Rows.fnExactSameMatcherRow.domain false) (Rows.fnExactSameMatcherSpec.post enc Try.prog Try.f5 false true false false) := by
  refine returnsInHanded_of_change_sized (C := Try.checked) own started (by kernel_rfl) Try.func5
    (ChangeSpec.witness6 (enc := enc) (C := Try.checked) false ⟨#[], #[.agg #[.int .i64 0, .int .i64 0, .string ByteArray.empty, .bool false, .int .i64 0, .int .i64 0, .int .i64 0, .int .i64 0, .bool false, .int .i64 0, .int .i64 0, .slice none 0 0, .slice none 0 0, .slice none 0 0, .slice none 0 0], .agg #[.int .i64 0, .int .i64 0, .string ByteArray.empty, .bool false, .int .i64 0, .int .i64 0, .int .i64 0, .int .i64 0, .bool false, .int .i64 0, .int .i64 0, .slice none 0 0, .slice none 0 0, .slice none 0 0, .slice none 0 0]], []⟩ 8 (by kernel_rfl) (by kernel_rfl) (by kernel_rfl) (by kernel_rfl)) ?_
  intro W base args ds gs before hval0 hW hcnd hsz0 _
  have hval : ∀ (j : Nat) t v, Try.f5.params[j]? = some t → args[j]? = some v → Value.okWide Try.prog W .any base t v := hval0
  have hW' := hW
  obtain ⟨p, q, hA0, hV, rfl, hfz, hnd⟩ := hW
  have hA : DataW.TrodAll enc Try.prog W 0 (fun _ => true) true Try.f5.params.toList args.toList ds p := hA0
  rw [Try.params5] at hA hval
  obtain ⟨v0, vs0, d0, ds0, p0, q0, hargs, rfl, rfl, h0, r0⟩ := trodAll_cons hA
  obtain ⟨v1, vs1, d1, ds1, p1, q1, rfl, rfl, rfl, h1, r1⟩ := trodAll_cons r0
  obtain ⟨rfl, rfl, rfl⟩ := trodAll_nil r1
  obtain rfl : args = #[v0, v1] := by cases args; simp_all
  obtain ⟨rfl, rfl⟩ := trodVars_none hV
  have b0 := h0
  have lt0 : ∀ x ∈ p0, x.block < W.heap.size := by obtain ⟨m, hm⟩ := b0; exact DataW.trod_lt m _ _ _ hm
  obtain ⟨cs0, x0, rfl, k0, g0⟩ := opens_arg Try.underlying53 (hval 0 53 v0 rfl rfl) h0 (fun n => opens_t53 n)
  obtain ⟨A0_11, c0_11, A0_12, c0_12, A0_13, c0_13, A0_14, c0_14, e0, l0_11, r0_11, l0_12, r0_12, l0_13, r0_13, l0_14, r0_14⟩ := k53_open k0
  obtain rfl : cs0 = #[.int .i64 (x0.f0), .int .i64 (x0.f1), .string (x0.f2), .bool (x0.f3), .int .i64 (x0.f4), .int .i64 (x0.f5), .int .i64 (x0.f6), .int .i64 (x0.f7), .bool (x0.f8), .int .i64 (x0.f9), .int .i64 (x0.f10), .slice A0_11 (x0.f11).length c0_11, .slice A0_12 (x0.f12).length c0_12, .slice A0_13 (x0.f13).length c0_13, .slice A0_14 (x0.f14).length c0_14] := Array.ext' e0
  have b1 := h1
  have lt1 : ∀ x ∈ p1, x.block < W.heap.size := by obtain ⟨m, hm⟩ := b1; exact DataW.trod_lt m _ _ _ hm
  obtain ⟨cs1, x1, rfl, k1, g1⟩ := opens_arg Try.underlying53 (hval 1 53 v1 rfl rfl) h1 (fun n => opens_t53 n)
  obtain ⟨A1_11, c1_11, A1_12, c1_12, A1_13, c1_13, A1_14, c1_14, e1, l1_11, r1_11, l1_12, r1_12, l1_13, r1_13, l1_14, r1_14⟩ := k53_open k1
  obtain rfl : cs1 = #[.int .i64 (x1.f0), .int .i64 (x1.f1), .string (x1.f2), .bool (x1.f3), .int .i64 (x1.f4), .int .i64 (x1.f5), .int .i64 (x1.f6), .int .i64 (x1.f7), .bool (x1.f8), .int .i64 (x1.f9), .int .i64 (x1.f10), .slice A1_11 (x1.f11).length c1_11, .slice A1_12 (x1.f12).length c1_12, .slice A1_13 (x1.f13).length c1_13, .slice A1_14 (x1.f14).length c1_14] := Array.ext' e1
  clear hA0 hval0 hsz0
  refine (laws_FnExactSameMatcher.walk Pure.FnExactSameMatcher x0 A0_11 c0_11 A0_12 c0_12 A0_13 c0_13 A0_14 c0_14 x1 A1_11 c1_11 A1_12 c1_12 A1_13 c1_13 A1_14 c1_14 W g0 r0_11 l0_11 r0_12 l0_12 r0_13 l0_13 r0_14 l0_14 g1 r1_11 l1_11 r1_12 l1_12 r1_13 l1_13 r1_14 l1_14).mono fun e W' ⟨he, bel⟩ => ?_
  subst he
  exact ⟨_, rfl, _, _, _, [], _, [], hW', trodAll_mk1 (shut_bool Try.underlying4 _), (trodAll_cons_mk (Below.trod laidOut (by kernel_rfl) (of_decide_eq_true (by kernel_rfl)) b0 bel lt0) (trodAll_cons_mk (Below.trod laidOut (by kernel_rfl) (of_decide_eq_true (by kernel_rfl)) b1 bel lt1) trodAll_mk0)), rfl, bel.frame _, fun h => by cases h⟩
theorem over : Rows.fnExactSameMatcherRow.holds Try.pinned (OpenSpec.ofChange Rows.fnExactSameMatcherSpec) :=
  OpenClaim.holds_of_wide 5 Try.f5 rfl rfl rfl rfl rfl rfl rfl ⟨rfl, rfl, rfl, rfl, rfl⟩ rfl rfl rfl rfl rfl (by kernel_rfl) Try.func5 (by kernel_rfl)
    (of_decide_eq_true (by kernel_rfl)) (by unfold Func.isWrapper; first | (rw [if_pos (by decide +kernel)]; kernel_rfl) | (rw [if_neg (by decide +kernel)]; exact ⟨rfl, rfl⟩))
    (fun os started H enc _ => lifted os started H enc)
theorem proved : Rows.FnExactSameMatcherSaid := over
#print axioms proved
end Go.Proofs.Ytocfepcgpelhdaa.fnExactSameMatcher
namespace Go.Proofs.Ytocfepcgpelhdaa
/-- The row, under a short name, for the claim. -/
theorem fnExactSameMatcher_holds : Rows.FnExactSameMatcherSaid := fnExactSameMatcher.proved
end Go.Proofs.Ytocfepcgpelhdaa
