/- The row of the law FnExactSamePatternCode: for every input the call returns true and each argument reads as before; out of its pure statement and the walk. Conditions: none beyond the given statement's. -/
import Derived.Test.YtacdhebkdfojiaaRows
import Derived.Test.YtacdhebkdfojiaaPFnExactSamePatternCodex7
import Derived.Test.YtacdhebkdfojiaaPureFnExactSamePatternCode
import Derived.Test.YtacdhebkdfojiaaOpens
import Derived.WalkKit
import Derived.ProofKit
import Derived.OpenShut
import Derived.ShutString
import Derived.ChangeOld
import Derived.Below
import Derived.SizedLaws
import Derived.Carry
namespace Go.Proofs.Ytacdhebkdfojiaa.fnExactSamePatternCode
open Go.ChangeShapes Go.WideShapes Go.ChangeAt Go.RowKit Go.Proofs.Ytacdhebkdfojiaa.Opens Go.Proofs.Ytacdhebkdfojiaa.PFnExactSamePatternCode Go.Proofs.YtacdhebkdfojiaaW.PrintWords
open Go.ChangeMaps (open_string shut_string)
set_option linter.unusedVariables false
set_option linter.unusedSimpArgs false
theorem own : ownKnob Try.prog.godebug = none := by kernel_rfl
theorem laidOut : laidOutB Try.prog = true := by kernel_rfl
set_option maxRecDepth 100000 in
theorem opens_t111 (n : Nat) : Opens Try.prog 111 k111 (fun v_ => G111 v_) n := by
  intro m hm H enc w spare held cs x h
  obtain ⟨xs, m', rfl, _, hl, hxl, hf⟩ := DataW.trod_struct Try.underlying111 h
  rw [show Try.prog.cellsOf 111 = 3 from by kernel_rfl] at hl
  obtain ⟨c0_, c1_, c2_, rfl⟩ : ∃ c0_ c1_ c2_, cs = [c0_, c1_, c2_] := by
    match cs, hl with
    | [c0_, c1_, c2_], _ => exact ⟨c0_, c1_, c2_, rfl⟩
  have hxl_ : xs.length = 3 := hxl
  have e0 := hf 0 _ rfl
  obtain ⟨y0, z0⟩ := field_of (cs := [c0_]) e0 (by omega) (by show List.take (Try.prog.cellsOf 2) _ = _; rw [show Try.prog.cellsOf 2 = 1 from by kernel_rfl]; rfl)
  obtain ⟨v0, k0, g0⟩ := (show Opens Try.prog 2 (Kd.int .i64) (fun v_ => (Lit.int .i64 v_).wf = true) m' from (opens_int Try.underlying2 m')) m' (Nat.le_refl _) H enc w spare held _ _ z0
  have h_ : [c0_] = [.int .i64 v0] := k0
  simp only [List.cons.injEq, and_true] at h_
  subst h_
  have e1 := hf 1 _ rfl
  obtain ⟨y1, z1⟩ := field_of (cs := [c1_]) e1 (by omega) (by show List.take (Try.prog.cellsOf 2) _ = _; rw [show Try.prog.cellsOf 2 = 1 from by kernel_rfl]; rfl)
  obtain ⟨v1, k1, g1⟩ := (show Opens Try.prog 2 (Kd.int .i64) (fun v_ => (Lit.int .i64 v_).wf = true) m' from (opens_int Try.underlying2 m')) m' (Nat.le_refl _) H enc w spare held _ _ z1
  have h_ : [c1_] = [.int .i64 v1] := k1
  simp only [List.cons.injEq, and_true] at h_
  subst h_
  have e2 := hf 2 _ rfl
  obtain ⟨y2, z2⟩ := field_of (cs := [c2_]) e2 (by omega) (by show List.take (Try.prog.cellsOf 9) _ = _; rw [show Try.prog.cellsOf 9 = 1 from by kernel_rfl]; rfl)
  obtain ⟨v2, k2, g2⟩ := (show Opens Try.prog 9 Kd.string (fun v_ => v_.size ≤ 9223372036854775807) m' from (opens_string Try.underlying9 m')) m' (Nat.le_refl _) H enc w spare held _ _ z2
  have h_ : [c2_] = [.string v2] := k2
  simp only [List.cons.injEq, and_true] at h_
  subst h_
  exact ⟨(⟨v0, v1, v2⟩ : S111), k111_mk w (⟨v0, v1, v2⟩ : S111) , G111.mk _ g0 g1 g2⟩
theorem opens_s51 (n : Nat) : Opens Try.prog 51 (Kd.slice 111 k111) (fun v_ => v_.length ≤ 9223372036854775807 ∧ ∀ y_, y_ ∈ v_ → G111 y_) n := opens_le (opens_slice Try.underlying51 (by kernel_rfl) n (opens_t111 n)) (Nat.le_succ n)
set_option maxRecDepth 100000 in
theorem opens_t113 (n : Nat) : Opens Try.prog 113 k113 (fun v_ => G113 v_) n := by
  intro m hm H enc w spare held cs x h
  obtain ⟨xs, m', rfl, _, hl, hxl, hf⟩ := DataW.trod_struct Try.underlying113 h
  rw [show Try.prog.cellsOf 113 = 2 from by kernel_rfl] at hl
  obtain ⟨c0_, c1_, rfl⟩ : ∃ c0_ c1_, cs = [c0_, c1_] := by
    match cs, hl with
    | [c0_, c1_], _ => exact ⟨c0_, c1_, rfl⟩
  have hxl_ : xs.length = 2 := hxl
  have e0 := hf 0 _ rfl
  obtain ⟨y0, z0⟩ := field_of (cs := [c0_]) e0 (by omega) (by show List.take (Try.prog.cellsOf 9) _ = _; rw [show Try.prog.cellsOf 9 = 1 from by kernel_rfl]; rfl)
  obtain ⟨v0, k0, g0⟩ := (show Opens Try.prog 9 Kd.string (fun v_ => v_.size ≤ 9223372036854775807) m' from (opens_string Try.underlying9 m')) m' (Nat.le_refl _) H enc w spare held _ _ z0
  have h_ : [c0_] = [.string v0] := k0
  simp only [List.cons.injEq, and_true] at h_
  subst h_
  have e1 := hf 1 _ rfl
  obtain ⟨y1, z1⟩ := field_of (cs := [c1_]) e1 (by omega) (by show List.take (Try.prog.cellsOf 2) _ = _; rw [show Try.prog.cellsOf 2 = 1 from by kernel_rfl]; rfl)
  obtain ⟨v1, k1, g1⟩ := (show Opens Try.prog 2 (Kd.int .i64) (fun v_ => (Lit.int .i64 v_).wf = true) m' from (opens_int Try.underlying2 m')) m' (Nat.le_refl _) H enc w spare held _ _ z1
  have h_ : [c1_] = [.int .i64 v1] := k1
  simp only [List.cons.injEq, and_true] at h_
  subst h_
  exact ⟨(⟨v0, v1⟩ : S113), k113_mk w (⟨v0, v1⟩ : S113) , G113.mk _ g0 g1⟩
theorem opens_s52 (n : Nat) : Opens Try.prog 52 (Kd.slice 113 k113) (fun v_ => v_.length ≤ 9223372036854775807 ∧ ∀ y_, y_ ∈ v_ → G113 y_) n := opens_le (opens_slice Try.underlying52 (by kernel_rfl) n (opens_t113 n)) (Nat.le_succ n)
set_option maxRecDepth 100000 in
theorem opens_t54 (n : Nat) : Opens Try.prog 54 k54 (fun v_ => G54 v_) n := by
  intro m hm H enc w spare held cs x h
  obtain ⟨xs, m', rfl, _, hl, hxl, hf⟩ := DataW.trod_struct Try.underlying54 h
  rw [show Try.prog.cellsOf 54 = 2 from by kernel_rfl] at hl
  obtain ⟨c0_, c1_, rfl⟩ : ∃ c0_ c1_, cs = [c0_, c1_] := by
    match cs, hl with
    | [c0_, c1_], _ => exact ⟨c0_, c1_, rfl⟩
  have hxl_ : xs.length = 2 := hxl
  have e0 := hf 0 _ rfl
  obtain ⟨y0, z0⟩ := field_of (cs := [c0_]) e0 (by omega) (by show List.take (Try.prog.cellsOf 51) _ = _; rw [show Try.prog.cellsOf 51 = 1 from by kernel_rfl]; rfl)
  obtain ⟨v0, k0, g0⟩ := (show Opens Try.prog 51 (Kd.slice 111 k111) (fun v_ => v_.length ≤ 9223372036854775807 ∧ ∀ y_, y_ ∈ v_ → G111 y_) m' from (opens_s51 m')) m' (Nat.le_refl _) H enc w spare held _ _ z0
  obtain ⟨A0, d0, h_, l0, r0⟩ := k0
  simp only [List.cons.injEq, and_true] at h_
  subst h_
  have e1 := hf 1 _ rfl
  obtain ⟨y1, z1⟩ := field_of (cs := [c1_]) e1 (by omega) (by show List.take (Try.prog.cellsOf 52) _ = _; rw [show Try.prog.cellsOf 52 = 1 from by kernel_rfl]; rfl)
  obtain ⟨v1, k1, g1⟩ := (show Opens Try.prog 52 (Kd.slice 113 k113) (fun v_ => v_.length ≤ 9223372036854775807 ∧ ∀ y_, y_ ∈ v_ → G113 y_) m' from (opens_s52 m')) m' (Nat.le_refl _) H enc w spare held _ _ z1
  obtain ⟨A1, d1, h_, l1, r1⟩ := k1
  simp only [List.cons.injEq, and_true] at h_
  subst h_
  exact ⟨(⟨v0, v1⟩ : S54), k54_mk w (⟨v0, v1⟩ : S54) l0 r0 l1 r1, G54.mk _ g0.1 g0.2 g1.1 g1.2⟩
set_option maxRecDepth 100000 in
theorem lifted (os : Os) (started : os.Started) (H : Type) (enc : TypeId × Value → H) :
    ReturnsInHanded {} Try.checked os 12 .any (Rows.fnExactSamePatternCodeSpec.pre6 enc Try.prog Try.f12 Rows.fnExactSamePatternCodeRow.domain false) (Rows.fnExactSamePatternCodeSpec.post enc Try.prog Try.f12 false true false false) := by
  refine returnsInHanded_of_change_sized (C := Try.checked) own started (by kernel_rfl) Try.func12
    (ChangeSpec.witness6 (enc := enc) (C := Try.checked) false ⟨#[], #[.agg #[.slice none 0 0, .slice none 0 0], .agg #[.slice none 0 0, .slice none 0 0]], []⟩ 8 (by kernel_rfl) (by kernel_rfl) (by kernel_rfl) (by kernel_rfl)) ?_
  intro W base args ds gs before hval0 hW hcnd hsz0 _
  have hval : ∀ (j : Nat) t v, Try.f12.params[j]? = some t → args[j]? = some v → Value.okWide Try.prog W .any base t v := hval0
  have hW' := hW
  obtain ⟨p, q, hA0, hV, rfl, hfz, hnd⟩ := hW
  have hA : DataW.TrodAll enc Try.prog W 0 (fun _ => true) true Try.f12.params.toList args.toList ds p := hA0
  rw [Try.params12] at hA hval
  obtain ⟨v0, vs0, d0, ds0, p0, q0, hargs, rfl, rfl, h0, r0⟩ := trodAll_cons hA
  obtain ⟨v1, vs1, d1, ds1, p1, q1, rfl, rfl, rfl, h1, r1⟩ := trodAll_cons r0
  obtain ⟨rfl, rfl, rfl⟩ := trodAll_nil r1
  obtain rfl : args = #[v0, v1] := by cases args; simp_all
  obtain ⟨rfl, rfl⟩ := trodVars_none hV
  have b0 := h0
  have lt0 : ∀ x ∈ p0, x.block < W.heap.size := by obtain ⟨m, hm⟩ := b0; exact DataW.trod_lt m _ _ _ hm
  obtain ⟨cs0, x0, rfl, k0, g0⟩ := opens_arg Try.underlying54 (hval 0 54 v0 rfl rfl) h0 (fun n => opens_t54 n)
  obtain ⟨A0_0, c0_0, A0_1, c0_1, e0, l0_0, r0_0, l0_1, r0_1⟩ := k54_open k0
  obtain rfl : cs0 = #[.slice A0_0 (x0.f0).length c0_0, .slice A0_1 (x0.f1).length c0_1] := Array.ext' e0
  have b1 := h1
  have lt1 : ∀ x ∈ p1, x.block < W.heap.size := by obtain ⟨m, hm⟩ := b1; exact DataW.trod_lt m _ _ _ hm
  obtain ⟨cs1, x1, rfl, k1, g1⟩ := opens_arg Try.underlying54 (hval 1 54 v1 rfl rfl) h1 (fun n => opens_t54 n)
  obtain ⟨A1_0, c1_0, A1_1, c1_1, e1, l1_0, r1_0, l1_1, r1_1⟩ := k54_open k1
  obtain rfl : cs1 = #[.slice A1_0 (x1.f0).length c1_0, .slice A1_1 (x1.f1).length c1_1] := Array.ext' e1
  clear hA0 hval0 hsz0
  refine (laws_FnExactSamePatternCode.walk Pure.FnExactSamePatternCode x0 A0_0 c0_0 A0_1 c0_1 x1 A1_0 c1_0 A1_1 c1_1 W g0 r0_0 l0_0 r0_1 l0_1 g1 r1_0 l1_0 r1_1 l1_1).mono fun e W' ⟨he, bel⟩ => ?_
  subst he
  exact ⟨_, rfl, _, _, _, [], _, [], hW', trodAll_mk1 (shut_bool Try.underlying4 _), (trodAll_cons_mk (Below.trod laidOut (by kernel_rfl) (of_decide_eq_true (by kernel_rfl)) b0 bel lt0) (trodAll_cons_mk (Below.trod laidOut (by kernel_rfl) (of_decide_eq_true (by kernel_rfl)) b1 bel lt1) trodAll_mk0)), rfl, bel.frame _, fun h => by cases h⟩
theorem over : Rows.fnExactSamePatternCodeRow.holds Try.pinned (OpenSpec.ofChange Rows.fnExactSamePatternCodeSpec) :=
  OpenClaim.holds_of_wide 12 Try.f12 rfl rfl rfl rfl rfl rfl rfl ⟨rfl, rfl, rfl, rfl, rfl⟩ rfl rfl rfl rfl rfl (by kernel_rfl) Try.func12 (by kernel_rfl)
    (of_decide_eq_true (by kernel_rfl)) (by unfold Func.isWrapper; first | (rw [if_pos (by decide +kernel)]; kernel_rfl) | (rw [if_neg (by decide +kernel)]; exact ⟨rfl, rfl⟩))
    (fun os started H enc _ => lifted os started H enc)
theorem proved : Rows.FnExactSamePatternCodeSaid := over
#print axioms proved
end Go.Proofs.Ytacdhebkdfojiaa.fnExactSamePatternCode
namespace Go.Proofs.Ytacdhebkdfojiaa
/-- The row, under a short name, for the claim. -/
theorem fnExactSamePatternCode_holds : Rows.FnExactSamePatternCodeSaid := fnExactSamePatternCode.proved
end Go.Proofs.Ytacdhebkdfojiaa
