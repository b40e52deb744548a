/- The row of the law FnExactConcatenated: for every input the call returns true and each argument reads as before; out of its pure statement and the walk. Conditions: none beyond the given statement's. -/
import Derived.Test.YtfilllhbhgkmaaaDoorRows
import Derived.Test.YtfilllhbhgkmaaaDoorPFnExactConcatenatedx7
import Derived.Test.YtfilllhbhgkmaaaDoorPureFnExactConcatenated
import Derived.Test.YtfilllhbhgkmaaaDoorOpens
import Derived.WalkKit
import Derived.ProofKit
import Derived.OpenShut
import Derived.ShutString
import Derived.ChangeOld
import Derived.Below
import Derived.SizedLaws
import Derived.Test.YtfilllhbhgkmaaaDoorTie
import Derived.Test.YtfilllhbhgkmaaaDoorCards
import Derived.LaidMore
import Derived.Lay
import Derived.SevenTiedAt
import Derived.Stop.Joined
import Derived.Carry
namespace Go.Proofs.YtfilllhbhgkmaaaDoor.fnExactConcatenated
open Go.ChangeShapes Go.WideShapes Go.ChangeAt Go.RowKit Go.Proofs.YtfilllhbhgkmaaaDoor.Opens Go.Proofs.YtfilllhbhgkmaaaDoor.PFnExactConcatenated Go.Proofs.YtfilllhbhgkmaaaDoorW.PrintWords
open Go.ChangeMaps (open_string shut_string)
set_option linter.unusedVariables false
set_option linter.unusedSimpArgs false
theorem own : ownKnob Tryd.prog.godebug = none := by kernel_rfl
theorem laidOut : laidOutB Tryd.prog = true := by kernel_rfl
set_option maxRecDepth 100000 in
theorem opens_t23 (n : Nat) : Opens Tryd.prog 23 k23 (fun v_ => G23 v_) n := by
  intro m hm H enc w spare held cs x h
  obtain ⟨xs, m', rfl, _, hl, hxl, hf⟩ := DataW.trod_struct Tryd.underlying23 h
  rw [show Tryd.prog.cellsOf 23 = 4 from by kernel_rfl] at hl
  obtain ⟨c0_, c1_, c2_, c3_, rfl⟩ : ∃ c0_ c1_ c2_ c3_, cs = [c0_, c1_, c2_, c3_] := by
    match cs, hl with
    | [c0_, c1_, c2_, c3_], _ => exact ⟨c0_, c1_, c2_, c3_, rfl⟩
  have hxl_ : xs.length = 4 := hxl
  have e0 := hf 0 _ rfl
  obtain ⟨y0, z0⟩ := field_of (cs := [c0_]) e0 (by omega) (by show List.take (Tryd.prog.cellsOf 2) _ = _; rw [show Tryd.prog.cellsOf 2 = 1 from by kernel_rfl]; rfl)
  obtain ⟨v0, k0, g0⟩ := (show Opens Tryd.prog 2 (Kd.int .i64) (fun v_ => (Lit.int .i64 v_).wf = true) m' from (opens_int Tryd.underlying2 m')) m' (Nat.le_refl _) H enc w spare held _ _ z0
  have h_ : [c0_] = [.int .i64 v0] := k0
  simp only [List.cons.injEq, and_true] at h_
  subst h_
  have e1 := hf 1 _ rfl
  obtain ⟨y1, z1⟩ := field_of (cs := [c1_]) e1 (by omega) (by show List.take (Tryd.prog.cellsOf 2) _ = _; rw [show Tryd.prog.cellsOf 2 = 1 from by kernel_rfl]; rfl)
  obtain ⟨v1, k1, g1⟩ := (show Opens Tryd.prog 2 (Kd.int .i64) (fun v_ => (Lit.int .i64 v_).wf = true) m' from (opens_int Tryd.underlying2 m')) m' (Nat.le_refl _) H enc w spare held _ _ z1
  have h_ : [c1_] = [.int .i64 v1] := k1
  simp only [List.cons.injEq, and_true] at h_
  subst h_
  have e2 := hf 2 _ rfl
  obtain ⟨y2, z2⟩ := field_of (cs := [c2_]) e2 (by omega) (by show List.take (Tryd.prog.cellsOf 9) _ = _; rw [show Tryd.prog.cellsOf 9 = 1 from by kernel_rfl]; rfl)
  obtain ⟨v2, k2, g2⟩ := (show Opens Tryd.prog 9 Kd.string (fun v_ => v_.size ≤ 9223372036854775807) m' from (opens_string Tryd.underlying9 m')) m' (Nat.le_refl _) H enc w spare held _ _ z2
  have h_ : [c2_] = [.string v2] := k2
  simp only [List.cons.injEq, and_true] at h_
  subst h_
  have e3 := hf 3 _ rfl
  obtain ⟨y3, z3⟩ := field_of (cs := [c3_]) e3 (by omega) (by show List.take (Tryd.prog.cellsOf 2) _ = _; rw [show Tryd.prog.cellsOf 2 = 1 from by kernel_rfl]; rfl)
  obtain ⟨v3, k3, g3⟩ := (show Opens Tryd.prog 2 (Kd.int .i64) (fun v_ => (Lit.int .i64 v_).wf = true) m' from (opens_int Tryd.underlying2 m')) m' (Nat.le_refl _) H enc w spare held _ _ z3
  have h_ : [c3_] = [.int .i64 v3] := k3
  simp only [List.cons.injEq, and_true] at h_
  subst h_
  exact ⟨(⟨v0, v1, v2, v3⟩ : S23), k23_mk w (⟨v0, v1, v2, v3⟩ : S23) , G23.mk _ g0 g1 g2 g3⟩
set_option maxRecDepth 100000 in
theorem lifted (os : Os) (started : os.Started) (H : Type) (enc : TypeId × Value → H) :
    ReturnsInHanded {} Tryd.checked os 5 .any (fun w args => (Rows.fnExactConcatenatedSpec.pre enc Tryd.prog Tryd.f5 Rows.fnExactConcatenatedRow.domain false w args ∧ laidMetH Tryd.prog Rows.fnExactConcatenatedRow.laid w) ∧ sizedMet enc Tryd.prog Tryd.f5 (OpenSpec.ofChange Rows.fnExactConcatenatedSpec) false w args) (Rows.fnExactConcatenatedSpec.post enc Tryd.prog Tryd.f5 false true false false) := by
  refine returnsInHanded_of_change_and (C := Tryd.checked) (X := fun w _ => laidMetH Tryd.prog Rows.fnExactConcatenatedRow.laid w) (fun _ _ _ hh h => h.of_heap hh) own started (by kernel_rfl) Tryd.func5
    (ChangeSpec.witness_shaped (enc := enc) (C := Tryd.checked) (os := os) (X := fun w _ => laidMetH Tryd.prog Rows.fnExactConcatenatedRow.laid w) false (World.laidAll Tryd.prog os Rows.fnExactConcatenatedRow.laid) #[.agg #[.int .i64 0, .int .i64 0, .string ByteArray.empty, .int .i64 0], .agg #[.int .i64 0, .int .i64 0, .string ByteArray.empty, .int .i64 0]] 8 (World.laidAll_os _ _ _)
      (World.shaped_of_ZipB (by kernel_rfl) (by kernel_rfl)) (by kernel_rfl) (by kernel_rfl) (by kernel_rfl)
      (by rw [MakeChecks.laidMetH_plain _ _ _ (by kernel_rfl)]; exact laidMet_laidAll _ (by kernel_rfl) (by kernel_rfl))) ?_
  intro W base args ds gs before hval0 hW hcnd hsz0 hL _
  have hval : ∀ (j : Nat) t v, Tryd.f5.params[j]? = some t → args[j]? = some v → Value.okWide Tryd.prog W .any base t v := hval0
  have hW' := hW
  obtain ⟨p, q, hA0, hV, rfl, hfz, hnd⟩ := hW
  have hA : DataW.TrodAll enc Tryd.prog W 0 (fun _ => true) true Tryd.f5.params.toList args.toList ds p := hA0
  rw [Tryd.params5] at hA hval
  obtain ⟨v0, vs0, d0, ds0, p0, q0, hargs, rfl, rfl, h0, r0⟩ := trodAll_cons hA
  obtain ⟨v1, vs1, d1, ds1, p1, q1, rfl, rfl, rfl, h1, r1⟩ := trodAll_cons r0
  obtain ⟨rfl, rfl, rfl⟩ := trodAll_nil r1
  obtain rfl : args = #[v0, v1] := by cases args; simp_all
  obtain ⟨rfl, rfl⟩ := trodVars_none hV
  have b0 := h0
  have lt0 : ∀ x ∈ p0, x.block < W.heap.size := by obtain ⟨m, hm⟩ := b0; exact DataW.trod_lt m _ _ _ hm
  obtain ⟨cs0, x0, rfl, k0, g0⟩ := opens_arg Tryd.underlying23 (hval 0 23 v0 rfl rfl) h0 (fun n => opens_t23 n)
  have e0 := k23_open k0
  obtain rfl : cs0 = #[.int .i64 (x0.f0), .int .i64 (x0.f1), .string (x0.f2), .int .i64 (x0.f3)] := Array.ext' e0
  have b1 := h1
  have lt1 : ∀ x ∈ p1, x.block < W.heap.size := by obtain ⟨m, hm⟩ := b1; exact DataW.trod_lt m _ _ _ hm
  obtain ⟨cs1, x1, rfl, k1, g1⟩ := opens_arg Tryd.underlying23 (hval 1 23 v1 rfl rfl) h1 (fun n => opens_t23 n)
  have e1 := k23_open k1
  obtain rfl : cs1 = #[.int .i64 (x1.f0), .int .i64 (x1.f1), .string (x1.f2), .int .i64 (x1.f3)] := Array.ext' e1
  clear hA0 hval0 hsz0
  rw [MakeChecks.laidMetH_plain _ _ _ (by kernel_rfl)] at hL
  have hWT : WT W := WT_laid (by kernel_rfl) hL
  refine (laws_FnExactConcatenated.walk Pure.FnExactConcatenated x0 x1 W hWT g0 g1).mono fun e W' ⟨he, bel⟩ => ?_
  subst he
  exact ⟨_, rfl, _, _, _, [], _, [], hW', trodAll_mk1 (shut_bool Tryd.underlying4 _), (trodAll_cons_mk (Below.trod laidOut (by kernel_rfl) (of_decide_eq_true (by kernel_rfl)) b0 bel lt0) (trodAll_cons_mk (Below.trod laidOut (by kernel_rfl) (of_decide_eq_true (by kernel_rfl)) b1 bel lt1) trodAll_mk0)), rfl, bel.frame _, fun h => by cases h⟩
theorem over : Rows.fnExactConcatenatedRow.holds Tryd.pinned (OpenSpec.ofChange Rows.fnExactConcatenatedSpec) :=
  OpenClaim.holds_of_wide 5 Tryd.f5 rfl rfl rfl rfl rfl rfl rfl ⟨rfl, rfl, rfl, rfl, rfl⟩ rfl rfl rfl rfl rfl (by kernel_rfl) Tryd.func5 (by kernel_rfl)
    (of_decide_eq_true (by kernel_rfl)) (by unfold Func.isWrapper; first | (rw [if_pos (by decide +kernel)]; kernel_rfl) | (rw [if_neg (by decide +kernel)]; exact ⟨rfl, rfl⟩))
    (fun os started H enc _ => lifted os started H enc)
theorem proved : Rows.FnExactConcatenatedCardSaid :=
  Claim7.holds_tied_plain_at .later [] [.data, .data, .data] true (true, "fe9cdab46c6fd5a950fb002d327985ff8069bc72b0c1e31fc89e68ad4a8ed1fa") false over (fun _ h => by cases h) (by kernel_rfl) (fun _ h => by cases h) fnExactConcatenated_row_tie rfl ⟨rfl, rfl⟩ (by kernel_rfl) rfl
    (fun f fn hf hfn => by
      obtain rfl : f = 5 := Option.some.inj ((show Tryd.prog.funcNamed "loop.example/g00873/laws.FnExactConcatenated" = some 5 by kernel_rfl).symm.trans hf) |>.symm
      obtain rfl : fn = Tryd.f5 := (Option.some.inj (Tryd.func5.symm.trans hfn)).symm
      exact ⟨by kernel_rfl, fun j t ht => by
        rw [Tryd.params5] at ht
        have hm : t ∈ [23, 23] := by simpa using Array.mem_of_getElem? ht
        have hall : ([23, 23].all fun u => !Tryd.prog.wantsStandIn u) = true := by kernel_rfl
        exact (show Tryd.prog.wantsStandIn t = false by simpa using List.all_eq_true.1 hall t hm)⟩)
    (by kernel_rfl)
#print axioms proved
end Go.Proofs.YtfilllhbhgkmaaaDoor.fnExactConcatenated
namespace Go.Proofs.YtfilllhbhgkmaaaDoor
/-- The row, under a short name, for the claim. -/
theorem fnExactConcatenated_holds : Rows.FnExactConcatenatedCardSaid := fnExactConcatenated.proved
end Go.Proofs.YtfilllhbhgkmaaaDoor
