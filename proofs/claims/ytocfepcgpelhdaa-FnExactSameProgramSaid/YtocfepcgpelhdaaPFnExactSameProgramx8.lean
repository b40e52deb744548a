/- The law FnExactSameProgram over whole structs: a Lean function with the law's answers, and that the code comes to exactly these. Conditions: none beyond each statement. -/
import Derived.Test.YtocfepcgpelhdaaPFnExactSameProgramx0
import Derived.Test.YtocfepcgpelhdaaPFnExactSameProgramx2
import Derived.Test.YtocfepcgpelhdaaPFnExactSameProgramx4
import Derived.Test.YtocfepcgpelhdaaPFnExactSameProgramx5
import Derived.Test.YtocfepcgpelhdaaPFnExactSameProgramx7
import Derived.Test.YtocfepcgpelhdaaRowLaw
namespace Go.Proofs.Ytocfepcgpelhdaa.PFnExactSameProgram
open Go.RowKit Go.Proofs.YtocfepcgpelhdaaW.PrintWords Go.Proofs.YtocfepcgpelhdaaW.PrintLast Go.Proofs.YtocfepcgpelhdaaW.PrintMore
attribute [local go_sem] max2_int min2_int max_two min_two max_three min_three max_four min_four   -- for this text's walks alone
set_option linter.unusedVariables false
set_option linter.unusedSimpArgs false

-- RELAW
def szO (k : Nat) (x : S41) (left : Int) : Option Int := laws_szProgram.f k (x.f0) left
def toO (k : Nat) (x : S41) : Option S46 := (laws_toProgram.f k (x.f0)).map fun t => ⟨t⟩
def specO (k : Nat) (x y : S46) : Option Bool := spec_SameProgram.f k (x.f0) (y.f0)
def implO (k : Nat) (x y : S46) : Option Bool := impl_SameProgram.f k (x.f0) (y.f0)
def eqO (k : Nat) (x y : S46) : Option Bool := laws_eqProgram.f k (x.f0) (y.f0)
theorem szO_calls (k : Nat) (x : S41) (cs : Array Value) (left r : Int) (w : World) (hK : k41.K w x cs.toList) (h : szO k x left = some r) :
    Calls Try.prog 12 #[.agg cs, .int .i64 left] w fun e w' => e = .returned (.int .i64 r) ∧ Below w.heap.size w w' := by
  obtain ⟨Aa0, ca0, ea, la0, ga0⟩ := k41_open hK
  obtain rfl : cs = List.toArray _ := Array.ext' ea
  exact laws_szProgram.calls k _ _ _ _ _ w ga0 la0 h
theorem toO_calls (k : Nat) (x : S41) (cs : Array Value) (y : S46) (w : World) (hK : k41.K w x cs.toList) (h : toO k x = some y) :
    Calls Try.prog 14 #[.agg cs] w fun e w' => ∃ ds : Array Value, e = .returned (.agg ds) ∧ k46.K w' y ds.toList ∧ Below w.heap.size w w' := by
  obtain ⟨Aa0, ca0, ea, la0, ga0⟩ := k41_open hK
  obtain rfl : cs = List.toArray _ := Array.ext' ea
  obtain ⟨t, ht, rfl⟩ := Option.map_eq_some_iff.mp h
  refine (laws_toProgram.calls k _ _ _ _ w ga0 la0 ht).mono ?_
  rintro e w' ⟨v0, rfl, o0, hb⟩
  obtain ⟨B0, d0, rfl, m0, q0⟩ := Kd.R_reads o0
  exact ⟨_, rfl, k46_mk w' _ m0 q0, hb⟩
theorem specO_calls (k : Nat) (x y : S46) (cs ds : Array Value) (r : Bool) (w : World) (hK : k46.K w x cs.toList) (hM : k46.K w y ds.toList) (h : specO k x y = some r) :
    Calls Try.prog 13 #[.agg cs, .agg ds] w fun e w' => e = .returned (.bool r) ∧ Below w.heap.size w w' := by
  obtain ⟨Aa0, ca0, ea, la0, ga0⟩ := k46_open hK
  obtain rfl : cs = List.toArray _ := Array.ext' ea
  obtain ⟨Ab0, cb0, eb, lb0, gb0⟩ := k46_open hM
  obtain rfl : ds = List.toArray _ := Array.ext' eb
  exact spec_SameProgram.calls k _ _ _ _ _ _ _ w ga0 la0 gb0 lb0 h
theorem implO_calls (k : Nat) (x y : S46) (cs ds : Array Value) (r : Bool) (w : World) (hK : k46.K w x cs.toList) (hM : k46.K w y ds.toList) (h : implO k x y = some r) :
    Calls Try.prog 15 #[.agg cs, .agg ds] w fun e w' => e = .returned (.bool r) ∧ Below w.heap.size w w' := by
  obtain ⟨Aa0, ca0, ea, la0, ga0⟩ := k46_open hK
  obtain rfl : cs = List.toArray _ := Array.ext' ea
  obtain ⟨Ab0, cb0, eb, lb0, gb0⟩ := k46_open hM
  obtain rfl : ds = List.toArray _ := Array.ext' eb
  exact impl_SameProgram.calls k _ _ _ _ _ _ _ w ga0 la0 gb0 lb0 h
theorem eqO_calls (k : Nat) (x y : S46) (cs ds : Array Value) (r : Bool) (w : World) (hK : k46.K w x cs.toList) (hM : k46.K w y ds.toList) (h : eqO k x y = some r) :
    Calls Try.prog 16 #[.agg cs, .agg ds] w fun e w' => e = .returned (.bool r) ∧ Below w.heap.size w w' := by
  obtain ⟨Aa0, ca0, ea, la0, ga0⟩ := k46_open hK
  obtain rfl : cs = List.toArray _ := Array.ext' ea
  obtain ⟨Ab0, cb0, eb, lb0, gb0⟩ := k46_open hM
  obtain rfl : ds = List.toArray _ := Array.ext' eb
  exact laws_eqProgram.calls k _ _ _ _ _ _ _ w ga0 la0 gb0 lb0 h
def laws_FnExactSameProgram.f (k : Nat) (x y : S41) : Option Bool :=
  (szO k x 1048576).bind fun t1 => if t1 < 0 then some true else (szO k y t1).bind fun t2 => if t2 < 0 then some true else
  (toO k x).bind fun b1 => (toO k y).bind fun b2 => (specO k b1 b2).bind fun t3 => (toO k x).bind fun b3 => (toO k y).bind fun b4 => (implO k b3 b4).bind fun t4 => if t4 = t3 then
  (toO k x).bind fun b5 => (eqO k b3 b5).bind fun t5 => if t5 = true then (toO k y).bind fun b6 => (eqO k b4 b6).bind fun t6 => if t6 = true then some true else none else none else none
set_option maxHeartbeats 8000000 in
set_option maxRecDepth 100000 in
theorem laws_FnExactSameProgram.opaque_ (k : Nat) (x y : S41) (ca cb : Array Value) (r : Bool) (w : World) (hA : k41.K w x ca.toList) (hB : k41.K w y cb.toList) (h : laws_FnExactSameProgram.f k x y = some r) :
    Calls Try.prog 4 #[.agg ca, .agg cb] w fun e w' => e = .returned (.bool r) ∧ Below w.heap.size w w' := by
  have hu1 := Try.underlying41
  have hu2 := Try.underlying46
  have SA := Aside0.mk ((by rw [Go.Proofs.Ytocfepcgpelhdaa.RowLaw.size_of hA]; kernel_rfl) : (Try.prog.info? 41).map (·.size) = some ca.size)
  have SB := Aside0.mk ((by rw [Go.Proofs.Ytocfepcgpelhdaa.RowLaw.size_of hB]; kernel_rfl) : (Try.prog.info? 41).map (·.size) = some cb.size)
  have KA := Aside0.mk hA
  have KB := Aside0.mk hB
  clear hA hB
  have HB := Aside0.mk (Below.refl w.heap.size w)
  unfold laws_FnExactSameProgram.f at h
  replace h := Option.bind_eq_some_iff.mp h
  obtain ⟨t1, a1_, h⟩ := h
  have A1 := Aside0.mk a1_
  clear a1_
  by_cases c1 : t1 < 0
  · rw [if_pos c1] at h
    obtain rfl := Option.some.inj h
    have c1b : decide (t1 < 0) = true := decide_eq_true c1
    clear c1 h
    go_enter Try.func4, Try.ntmps4
    go_wp2_with (first | ((with_reducible refine gate_dst (N := 2) rfl ?_); refine box_event ?hg (N := 2) ?hd (cs := ca) (t := 41) ?hr ?_; (case hd => rfl); (case hg => rfl); (case hr => first | (go_simp; done) | (go_simp; rfl)); intro g0 hg wb0 hbox hb; have n0_ := Aside0.mk (below_step HB.out hb); clear HB; have HB := n0_; clear n0_; have BK0 := Aside0.mk hbox; clear hbox hg hb; (try simp only [Act.put, List.setIfInBounds_toArray, List.set_cons_zero, List.set_cons_succ])) | ((with_reducible refine gate_dst (N := 3) rfl ?_); refine box_event ?hg (N := 3) ?hd (cs := cb) (t := 41) ?hr ?_; (case hd => rfl); (case hg => rfl); (case hr => first | (go_simp; done) | (go_simp; rfl)); intro g1 hg wb1 hbox hb; have n0_ := Aside0.mk (below_step HB.out hb); have n1_ := Aside0.mk (blk_below BK0.out hb); clear HB BK0; have HB := n0_; have BK0 := n1_; clear n0_ n1_; have BK1 := Aside0.mk hbox; clear hbox hg hb; (try simp only [Act.put, List.setIfInBounds_toArray, List.set_cons_zero, List.set_cons_succ])) | ((with_reducible refine gate_dst (N := 10) rfl ?_); refine wpList_load_row rfl 41 _ rfl g0 rfl 41 ca (0, 0) _ BK0.out hu1 rfl SA.out ?_; (try simp only [Act.put, List.setIfInBounds_toArray, List.set_cons_zero, List.set_cons_succ])) | ((with_reducible refine gate_callee (f := 12) rfl ?_); refine goesL_ (some 12) rfl rfl Try.func12 (by kernel_rfl) rfl #[.agg ca, .int .i64 1048576] rfl (by (try simp only [List.map_toArray, List.map_cons, List.map_nil]); first | done | rfl) ?_; (with_reducible refine (szO_calls k x ca (1048576) t1 _ ?side1 A1.out).mono ?_); (case side1 => exact k41.K_below HB.out KA.out); rintro e ws12 ⟨rfl, hb⟩; refine ⟨_, rfl, ?_⟩; have n0_ := Aside0.mk (below_step HB.out hb); have n1_ := Aside0.mk (blk_below BK0.out hb); have n2_ := Aside0.mk (blk_below BK1.out hb); clear HB BK0 BK1; have HB := n0_; have BK0 := n1_; have BK1 := n2_; clear n0_ n1_ n2_; clear hb; (try simp only [Act.put, List.setIfInBounds_toArray, List.set_cons_zero, List.set_cons_succ])))
    go_ret
    exact ⟨rfl, HB.out⟩
  · rw [if_neg c1] at h
    have c1b : decide (t1 < 0) = false := decide_eq_false c1
    clear c1
    replace h := Option.bind_eq_some_iff.mp h
    obtain ⟨t2, a2_, h⟩ := h
    have A2 := Aside0.mk a2_
    clear a2_
    by_cases c2 : t2 < 0
    · rw [if_pos c2] at h
      obtain rfl := Option.some.inj h
      have c2b : decide (t2 < 0) = true := decide_eq_true c2
      clear c2 h
      go_enter Try.func4, Try.ntmps4
      go_wp2_with (first | ((with_reducible refine gate_dst (N := 2) rfl ?_); refine box_event ?hg (N := 2) ?hd (cs := ca) (t := 41) ?hr ?_; (case hd => rfl); (case hg => rfl); (case hr => first | (go_simp; done) | (go_simp; rfl)); intro g0 hg wb0 hbox hb; have n0_ := Aside0.mk (below_step HB.out hb); clear HB; have HB := n0_; clear n0_; have BK0 := Aside0.mk hbox; clear hbox hg hb; (try simp only [Act.put, List.setIfInBounds_toArray, List.set_cons_zero, List.set_cons_succ])) | ((with_reducible refine gate_dst (N := 3) rfl ?_); refine box_event ?hg (N := 3) ?hd (cs := cb) (t := 41) ?hr ?_; (case hd => rfl); (case hg => rfl); (case hr => first | (go_simp; done) | (go_simp; rfl)); intro g1 hg wb1 hbox hb; have n0_ := Aside0.mk (below_step HB.out hb); have n1_ := Aside0.mk (blk_below BK0.out hb); clear HB BK0; have HB := n0_; have BK0 := n1_; clear n0_ n1_; have BK1 := Aside0.mk hbox; clear hbox hg hb; (try simp only [Act.put, List.setIfInBounds_toArray, List.set_cons_zero, List.set_cons_succ])) | ((with_reducible refine gate_dst (N := 10) rfl ?_); refine wpList_load_row rfl 41 _ rfl g0 rfl 41 ca (0, 0) _ BK0.out hu1 rfl SA.out ?_; (try simp only [Act.put, List.setIfInBounds_toArray, List.set_cons_zero, List.set_cons_succ])) | ((with_reducible refine gate_callee (f := 12) rfl ?_); refine goesL_ (some 12) rfl rfl Try.func12 (by kernel_rfl) rfl #[.agg ca, .int .i64 1048576] rfl (by (try simp only [List.map_toArray, List.map_cons, List.map_nil]); first | done | rfl) ?_; (with_reducible refine (szO_calls k x ca (1048576) t1 _ ?side1 A1.out).mono ?_); (case side1 => exact k41.K_below HB.out KA.out); rintro e ws12 ⟨rfl, hb⟩; refine ⟨_, rfl, ?_⟩; have n0_ := Aside0.mk (below_step HB.out hb); have n1_ := Aside0.mk (blk_below BK0.out hb); have n2_ := Aside0.mk (blk_below BK1.out hb); clear HB BK0 BK1; have HB := n0_; have BK0 := n1_; have BK1 := n2_; clear n0_ n1_ n2_; clear hb; (try simp only [Act.put, List.setIfInBounds_toArray, List.set_cons_zero, List.set_cons_succ])) | ((with_reducible refine gate_dst (N := 15) rfl ?_); refine wpList_load_row rfl 41 _ rfl g1 rfl 41 cb (0, 0) _ BK1.out hu1 rfl SB.out ?_; (try simp only [Act.put, List.setIfInBounds_toArray, List.set_cons_zero, List.set_cons_succ])) | ((with_reducible refine gate_callee (f := 12) rfl ?_); refine goesL_ (some 17) rfl rfl Try.func12 (by kernel_rfl) rfl #[.agg cb, .int .i64 t1] rfl (by (try simp only [List.map_toArray, List.map_cons, List.map_nil]); first | done | rfl) ?_; (with_reducible refine (szO_calls k y cb (t1) t2 _ ?side1 A2.out).mono ?_); (case side1 => exact k41.K_below HB.out KB.out); rintro e ws17 ⟨rfl, hb⟩; refine ⟨_, rfl, ?_⟩; have n0_ := Aside0.mk (below_step HB.out hb); have n1_ := Aside0.mk (blk_below BK0.out hb); have n2_ := Aside0.mk (blk_below BK1.out hb); clear HB BK0 BK1; have HB := n0_; have BK0 := n1_; have BK1 := n2_; clear n0_ n1_ n2_; clear hb; (try simp only [Act.put, List.setIfInBounds_toArray, List.set_cons_zero, List.set_cons_succ])))
      go_ret
      exact ⟨rfl, HB.out⟩
    · rw [if_neg c2] at h
      have c2b : decide (t2 < 0) = false := decide_eq_false c2
      clear c2
      replace h := Option.bind_eq_some_iff.mp h
      obtain ⟨b1, a3_, h⟩ := h
      have A3 := Aside0.mk a3_
      clear a3_
      replace h := Option.bind_eq_some_iff.mp h
      obtain ⟨b2, a4_, h⟩ := h
      have A4 := Aside0.mk a4_
      clear a4_
      replace h := Option.bind_eq_some_iff.mp h
      obtain ⟨t3, a5_, h⟩ := h
      have A5 := Aside0.mk a5_
      clear a5_
      replace h := Option.bind_eq_some_iff.mp h
      obtain ⟨b3, a6_, h⟩ := h
      have A6 := Aside0.mk a6_
      clear a6_
      replace h := Option.bind_eq_some_iff.mp h
      obtain ⟨b4, a7_, h⟩ := h
      have A7 := Aside0.mk a7_
      clear a7_
      replace h := Option.bind_eq_some_iff.mp h
      obtain ⟨t4, a8_, h⟩ := h
      have A8 := Aside0.mk a8_
      clear a8_
      by_cases c3 : t4 = t3
      rotate_left
      · rw [if_neg c3] at h
        exact absurd h (by simp)
      rw [if_pos c3] at h
      subst c3
      replace h := Option.bind_eq_some_iff.mp h
      obtain ⟨b5, a9_, h⟩ := h
      have A9 := Aside0.mk a9_
      clear a9_
      replace h := Option.bind_eq_some_iff.mp h
      obtain ⟨t5, a10_, h⟩ := h
      have A10 := Aside0.mk a10_
      clear a10_
      by_cases c4 : t5 = true
      rotate_left
      · rw [if_neg c4] at h
        exact absurd h (by simp)
      rw [if_pos c4] at h
      subst c4
      replace h := Option.bind_eq_some_iff.mp h
      obtain ⟨b6, a11_, h⟩ := h
      have A11 := Aside0.mk a11_
      clear a11_
      replace h := Option.bind_eq_some_iff.mp h
      obtain ⟨t6, a12_, h⟩ := h
      have A12 := Aside0.mk a12_
      clear a12_
      by_cases c5 : t6 = true
      rotate_left
      · rw [if_neg c5] at h
        exact absurd h (by simp)
      rw [if_pos c5] at h
      subst c5
      obtain rfl := Option.some.inj h
      clear h
      have c3b : (t4 != t4) = false := by cases t4 <;> rfl
      go_enter Try.func4, Try.ntmps4
      go_wp2_with (first | ((with_reducible refine gate_dst (N := 2) rfl ?_); refine box_event ?hg (N := 2) ?hd (cs := ca) (t := 41) ?hr ?_; (case hd => rfl); (case hg => rfl); (case hr => first | (go_simp; done) | (go_simp; rfl)); intro g0 hg wb0 hbox hb; have n0_ := Aside0.mk (below_step HB.out hb); clear HB; have HB := n0_; clear n0_; have BK0 := Aside0.mk hbox; clear hbox hg hb; (try simp only [Act.put, List.setIfInBounds_toArray, List.set_cons_zero, List.set_cons_succ])) | ((with_reducible refine gate_dst (N := 3) rfl ?_); refine box_event ?hg (N := 3) ?hd (cs := cb) (t := 41) ?hr ?_; (case hd => rfl); (case hg => rfl); (case hr => first | (go_simp; done) | (go_simp; rfl)); intro g1 hg wb1 hbox hb; have n0_ := Aside0.mk (below_step HB.out hb); have n1_ := Aside0.mk (blk_below BK0.out hb); clear HB BK0; have HB := n0_; have BK0 := n1_; clear n0_ n1_; have BK1 := Aside0.mk hbox; clear hbox hg hb; (try simp only [Act.put, List.setIfInBounds_toArray, List.set_cons_zero, List.set_cons_succ])) | ((with_reducible refine gate_dst (N := 10) rfl ?_); refine wpList_load_row rfl 41 _ rfl g0 rfl 41 ca (0, 0) _ BK0.out hu1 rfl SA.out ?_; (try simp only [Act.put, List.setIfInBounds_toArray, List.set_cons_zero, List.set_cons_succ])) | ((with_reducible refine gate_callee (f := 12) rfl ?_); refine goesL_ (some 12) rfl rfl Try.func12 (by kernel_rfl) rfl #[.agg ca, .int .i64 1048576] rfl (by (try simp only [List.map_toArray, List.map_cons, List.map_nil]); first | done | rfl) ?_; (with_reducible refine (szO_calls k x ca (1048576) t1 _ ?side1 A1.out).mono ?_); (case side1 => exact k41.K_below HB.out KA.out); rintro e ws12 ⟨rfl, hb⟩; refine ⟨_, rfl, ?_⟩; have n0_ := Aside0.mk (below_step HB.out hb); have n1_ := Aside0.mk (blk_below BK0.out hb); have n2_ := Aside0.mk (blk_below BK1.out hb); clear HB BK0 BK1; have HB := n0_; have BK0 := n1_; have BK1 := n2_; clear n0_ n1_ n2_; clear hb; (try simp only [Act.put, List.setIfInBounds_toArray, List.set_cons_zero, List.set_cons_succ])) | ((with_reducible refine gate_dst (N := 15) rfl ?_); refine wpList_load_row rfl 41 _ rfl g1 rfl 41 cb (0, 0) _ BK1.out hu1 rfl SB.out ?_; (try simp only [Act.put, List.setIfInBounds_toArray, List.set_cons_zero, List.set_cons_succ])) | ((with_reducible refine gate_callee (f := 12) rfl ?_); refine goesL_ (some 17) rfl rfl Try.func12 (by kernel_rfl) rfl #[.agg cb, .int .i64 t1] rfl (by (try simp only [List.map_toArray, List.map_cons, List.map_nil]); first | done | rfl) ?_; (with_reducible refine (szO_calls k y cb (t1) t2 _ ?side1 A2.out).mono ?_); (case side1 => exact k41.K_below HB.out KB.out); rintro e ws17 ⟨rfl, hb⟩; refine ⟨_, rfl, ?_⟩; have n0_ := Aside0.mk (below_step HB.out hb); have n1_ := Aside0.mk (blk_below BK0.out hb); have n2_ := Aside0.mk (blk_below BK1.out hb); clear HB BK0 BK1; have HB := n0_; have BK0 := n1_; have BK1 := n2_; clear n0_ n1_ n2_; clear hb; (try simp only [Act.put, List.setIfInBounds_toArray, List.set_cons_zero, List.set_cons_succ])))
      have n0_ := Aside0.mk (below_drew1 HB.out)
      have n1_ := Aside0.mk (blk_drew BK0.out)
      have n2_ := Aside0.mk (blk_drew BK1.out)
      clear HB BK0 BK1
      have HB := n0_
      have BK0 := n1_
      have BK1 := n2_
      clear n0_ n1_ n2_
      refine start_ (n := 6) (S := fun w' => w'.heap[g0]? = some (.cells ca 41 (0, 0)) ∧ w'.heap[g1]? = some (.cells cb 41 (0, 0))) (ds := []) #[false, false, false, false, false, false] (by kernel_rfl) rfl rfl ⟨BK0.out, BK1.out⟩ (fun hHeld => ?_)
      generalize _root_.Go.World.drew _ = wr8 at HB BK0 BK1 hHeld ⊢
      refine take_ (i := 0) (N := some 20) (v := .agg ca) (a' := ?_) #[true, false, false, false, false, false] rfl rfl (by kernel_rfl) (fun _ _ _ h => h) (Or.inl ⟨by rfl, fun w' s => Go.Proofs.Ytocfepcgpelhdaa.RowLaw.load_run 41 _ rfl g0 rfl 41 ca _ s.1 hu1 rfl SA.out⟩) hHeld ?_ ?_
      rotate_left
      · simp only [Act.put, List.setIfInBounds_toArray, List.set_cons_zero, List.set_cons_succ, i64_w, i32_w]
        rfl
      refine take_ (i := 2) (N := some 22) (v := .agg cb) (a' := ?_) #[true, false, true, false, false, false] rfl rfl (by kernel_rfl) (fun _ _ _ h => h) (Or.inl ⟨by rfl, fun w' s => Go.Proofs.Ytocfepcgpelhdaa.RowLaw.load_run 41 _ rfl g1 rfl 41 cb _ s.2 hu1 rfl SB.out⟩) hHeld ?_ ?_
      rotate_left
      · simp only [Act.put, List.setIfInBounds_toArray, List.set_cons_zero, List.set_cons_succ, i64_w, i32_w]
        rfl
      refine one_ (i := 1) (N := some 21) #[true, true, true, false, false, false] rfl rfl (by kernel_rfl) (by decide) (fun K hK => ?_)
      refine goes_ Try.func14 (by kernel_rfl) rfl #[.agg ca] (by rfl) rfl rfl (by (try simp only [List.map_toArray, List.map_cons, List.map_nil]); first | done | rfl) ?_
      with_reducible refine (toO_calls k x ca b1 _ ?side1 A3.out).mono ?_
      (case side1 => exact k41.K_below HB.out KA.out)
      rintro e wc21 ⟨cx, rfl, kx, hb⟩
      refine ⟨_, rfl, ?_⟩
      have n0_ := Aside0.mk (below_step HB.out hb)
      have n1_ := Aside0.mk (blk_below BK0.out hb)
      have n2_ := Aside0.mk (blk_below BK1.out hb)
      clear HB BK0 BK1
      have HB := n0_
      have BK0 := n1_
      have BK1 := n2_
      clear n0_ n1_ n2_
      have KX := Aside0.mk kx
      clear kx
      clear hb
      refine hK.out _ _ ⟨BK0.out, BK1.out⟩ (fun hHeld => ?_)
      clear hK K
      refine norm_ (a' := ?_) ?_ ?_
      rotate_left
      · show Act.put _ (some 21) _ = _
        simp only [Act.put, List.setIfInBounds_toArray, List.set_cons_zero, List.set_cons_succ, i64_w, i32_w]
        rfl
      refine one_ (i := 3) (N := some 23) #[true, true, true, true, false, false] rfl rfl (by kernel_rfl) (by decide) (fun K hK => ?_)
      refine goes_ Try.func14 (by kernel_rfl) rfl #[.agg cb] (by rfl) rfl rfl (by (try simp only [List.map_toArray, List.map_cons, List.map_nil]); first | done | rfl) ?_
      with_reducible refine (toO_calls k y cb b2 _ ?side1 A4.out).mono ?_
      (case side1 => exact k41.K_below HB.out KB.out)
      rintro e wc23 ⟨cy, rfl, ky, hb⟩
      refine ⟨_, rfl, ?_⟩
      have n0_ := Aside0.mk (below_step HB.out hb)
      have n1_ := Aside0.mk (blk_below BK0.out hb)
      have n2_ := Aside0.mk (blk_below BK1.out hb)
      have n3_ := Aside0.mk (k46.K_below hb KX.out)
      clear HB BK0 BK1 KX
      have HB := n0_
      have BK0 := n1_
      have BK1 := n2_
      have KX := n3_
      clear n0_ n1_ n2_ n3_
      have KY := Aside0.mk ky
      clear ky
      clear hb
      refine hK.out _ _ ⟨BK0.out, BK1.out⟩ (fun hHeld => ?_)
      clear hK K
      refine norm_ (a' := ?_) ?_ ?_
      rotate_left
      · show Act.put _ (some 23) _ = _
        simp only [Act.put, List.setIfInBounds_toArray, List.set_cons_zero, List.set_cons_succ, i64_w, i32_w]
        rfl
      refine one_ (i := 4) (N := some 24) #[true, true, true, true, true, false] rfl rfl (by kernel_rfl) (by decide) (fun K hK => ?_)
      refine goes_ Try.func13 (by kernel_rfl) rfl #[.agg cx, .agg cy] (by rfl) rfl rfl (by (try simp only [List.map_toArray, List.map_cons, List.map_nil]); first | done | rfl) ?_
      with_reducible refine (specO_calls k b1 b2 cx cy t4 _ ?side1 ?side2 A5.out).mono ?_
      (case side1 => exact KX.out)
      (case side2 => exact KY.out)
      rintro e wc24 ⟨rfl, hb⟩
      refine ⟨_, rfl, ?_⟩
      have n0_ := Aside0.mk (below_step HB.out hb)
      have n1_ := Aside0.mk (blk_below BK0.out hb)
      have n2_ := Aside0.mk (blk_below BK1.out hb)
      clear HB BK0 BK1
      have HB := n0_
      have BK0 := n1_
      have BK1 := n2_
      clear n0_ n1_ n2_
      clear KX KY
      clear hb
      refine hK.out _ _ ⟨BK0.out, BK1.out⟩ (fun hHeld => ?_)
      clear hK K
      refine norm_ (a' := ?_) ?_ ?_
      rotate_left
      · show Act.put _ (some 24) _ = _
        simp only [Act.put, List.setIfInBounds_toArray, List.set_cons_zero, List.set_cons_succ, i64_w, i32_w]
        rfl
      refine pure_ (i := 5) (N := some 6) (v := ?_) (a' := ?_) #[true, true, true, true, true, true] rfl rfl (by kernel_rfl) (fun _ _ _ h => h) (Or.inl ⟨by rfl, ?_⟩) ?_ ?_
      rotate_left
      · intro w'
        go_simp
        with_reducible rfl
      rotate_left
      · simp only [Act.put, List.setIfInBounds_toArray, List.set_cons_zero, List.set_cons_succ, i64_w, i32_w]
        rfl
      refine done_ (by kernel_rfl) ?_
      go_wp2_with (first | ((with_reducible refine gate_dst (N := 25) rfl ?_); refine wpList_load_row rfl 41 _ rfl g0 rfl 41 ca (0, 0) _ BK0.out hu1 rfl SA.out ?_; (try simp only [Act.put, List.setIfInBounds_toArray, List.set_cons_zero, List.set_cons_succ])) | ((with_reducible refine gate_callee (f := 14) rfl ?_); refine goesL_ (some 26) rfl rfl Try.func14 (by kernel_rfl) rfl #[.agg ca] rfl (by (try simp only [List.map_toArray, List.map_cons, List.map_nil]); first | done | rfl) ?_; (with_reducible refine (toO_calls k x ca b3 _ ?side1 A6.out).mono ?_); (case side1 => exact k41.K_below HB.out KA.out); rintro e wc26 ⟨cx, rfl, kx, hb⟩; refine ⟨_, rfl, ?_⟩; have n0_ := Aside0.mk (below_step HB.out hb); have n1_ := Aside0.mk (blk_below BK0.out hb); have n2_ := Aside0.mk (blk_below BK1.out hb); clear HB BK0 BK1; have HB := n0_; have BK0 := n1_; have BK1 := n2_; clear n0_ n1_ n2_; have KX := Aside0.mk kx; have Scx := Aside0.mk ((by rw [Go.Proofs.Ytocfepcgpelhdaa.RowLaw.size_of kx]; kernel_rfl) : (Try.prog.info? 46).map (·.size) = some cx.size); have Zcx := Aside0.mk ((Go.Proofs.Ytocfepcgpelhdaa.RowLaw.size_of kx).symm : 1 = cx.size); clear kx; clear hb; (try simp only [Act.put, List.setIfInBounds_toArray, List.set_cons_zero, List.set_cons_succ])) | ((with_reducible refine gate_dst (N := 7) rfl ?_); refine box_event ?hg (N := 7) ?hd (cs := #[.slice none 0 0]) (t := 46) ?hr ?_; (case hd => rfl); (case hg => rfl); (case hr => first | (go_simp; done) | (go_simp; rfl)); intro g2 hg wb2 hbox hb; have HX := Aside0.mk hb; have HG := Aside0.mk (Nat.le_of_eq hg.symm); have BK2 := Aside0.mk hbox; clear hb hg hbox; (try simp only [Act.put, List.setIfInBounds_toArray, List.set_cons_zero, List.set_cons_succ])) | ((with_reducible refine gate_store (t := 46) (p := 7) rfl ?_); refine Go.Proofs.Ytocfepcgpelhdaa.RowLaw.store_event rfl 46 _ _ rfl g2 cx rfl rfl 46 _ BK2.out Scx.out Zcx.out (Go.Proofs.Ytocfepcgpelhdaa.RowLaw.all_one KX.out) ?_; intro wt2 hbox hst; have hb := hst _ _ HX.out HG.out; clear hst HX HG BK2 Zcx; have n0_ := Aside0.mk (below_step HB.out hb); have n1_ := Aside0.mk (blk_below BK0.out hb); have n2_ := Aside0.mk (blk_below BK1.out hb); have n3_ := Aside0.mk (k46.K_below hb KX.out); clear HB BK0 BK1 KX; have HB := n0_; have BK0 := n1_; have BK1 := n2_; have KX := n3_; clear n0_ n1_ n2_ n3_; have BK2 := Aside0.mk hbox; clear hb hbox; (try simp only [Act.put, List.setIfInBounds_toArray, List.set_cons_zero, List.set_cons_succ])) | ((with_reducible refine gate_dst (N := 27) rfl ?_); refine wpList_load_row rfl 41 _ rfl g1 rfl 41 cb (0, 0) _ BK1.out hu1 rfl SB.out ?_; (try simp only [Act.put, List.setIfInBounds_toArray, List.set_cons_zero, List.set_cons_succ])) | ((with_reducible refine gate_callee (f := 14) rfl ?_); refine goesL_ (some 28) rfl rfl Try.func14 (by kernel_rfl) rfl #[.agg cb] rfl (by (try simp only [List.map_toArray, List.map_cons, List.map_nil]); first | done | rfl) ?_; (with_reducible refine (toO_calls k y cb b4 _ ?side1 A7.out).mono ?_); (case side1 => exact k41.K_below HB.out KB.out); rintro e wc28 ⟨cy, rfl, kx, hb⟩; refine ⟨_, rfl, ?_⟩; have n0_ := Aside0.mk (below_step HB.out hb); have n1_ := Aside0.mk (blk_below BK0.out hb); have n2_ := Aside0.mk (blk_below BK1.out hb); have n3_ := Aside0.mk (k46.K_below hb KX.out); have n4_ := Aside0.mk (blk_below BK2.out hb); clear HB BK0 BK1 KX BK2; have HB := n0_; have BK0 := n1_; have BK1 := n2_; have KX := n3_; have BK2 := n4_; clear n0_ n1_ n2_ n3_ n4_; have KY := Aside0.mk kx; have Scy := Aside0.mk ((by rw [Go.Proofs.Ytocfepcgpelhdaa.RowLaw.size_of kx]; kernel_rfl) : (Try.prog.info? 46).map (·.size) = some cy.size); have Zcy := Aside0.mk ((Go.Proofs.Ytocfepcgpelhdaa.RowLaw.size_of kx).symm : 1 = cy.size); clear kx; clear hb; (try simp only [Act.put, List.setIfInBounds_toArray, List.set_cons_zero, List.set_cons_succ])) | ((with_reducible refine gate_dst (N := 8) rfl ?_); refine box_event ?hg (N := 8) ?hd (cs := #[.slice none 0 0]) (t := 46) ?hr ?_; (case hd => rfl); (case hg => rfl); (case hr => first | (go_simp; done) | (go_simp; rfl)); intro g3 hg wb3 hbox hb; have HX := Aside0.mk hb; have HG := Aside0.mk (Nat.le_of_eq hg.symm); have BK3 := Aside0.mk hbox; clear hb hg hbox; (try simp only [Act.put, List.setIfInBounds_toArray, List.set_cons_zero, List.set_cons_succ])) | ((with_reducible refine gate_store (t := 46) (p := 8) rfl ?_); refine Go.Proofs.Ytocfepcgpelhdaa.RowLaw.store_event rfl 46 _ _ rfl g3 cy rfl rfl 46 _ BK3.out Scy.out Zcy.out (Go.Proofs.Ytocfepcgpelhdaa.RowLaw.all_one KY.out) ?_; intro wt3 hbox hst; have hb := hst _ _ HX.out HG.out; clear hst HX HG BK3 Zcy; have n0_ := Aside0.mk (below_step HB.out hb); have n1_ := Aside0.mk (blk_below BK0.out hb); have n2_ := Aside0.mk (blk_below BK1.out hb); have n3_ := Aside0.mk (k46.K_below hb KX.out); have n4_ := Aside0.mk (blk_below BK2.out hb); have n5_ := Aside0.mk (k46.K_below hb KY.out); clear HB BK0 BK1 KX BK2 KY; have HB := n0_; have BK0 := n1_; have BK1 := n2_; have KX := n3_; have BK2 := n4_; have KY := n5_; clear n0_ n1_ n2_ n3_ n4_ n5_; have BK3 := Aside0.mk hbox; clear hb hbox; (try simp only [Act.put, List.setIfInBounds_toArray, List.set_cons_zero, List.set_cons_succ])) | ((with_reducible refine gate_dst (N := 29) rfl ?_); refine wpList_load_row rfl 46 _ rfl g2 rfl 46 cx (0, 0) _ BK2.out hu2 rfl Scx.out ?_; (try simp only [Act.put, List.setIfInBounds_toArray, List.set_cons_zero, List.set_cons_succ])) | ((with_reducible refine gate_dst (N := 30) rfl ?_); refine wpList_load_row rfl 46 _ rfl g3 rfl 46 cy (0, 0) _ BK3.out hu2 rfl Scy.out ?_; (try simp only [Act.put, List.setIfInBounds_toArray, List.set_cons_zero, List.set_cons_succ])) | ((with_reducible refine gate_callee (f := 15) rfl ?_); refine goesL_ (some 31) rfl rfl Try.func15 (by kernel_rfl) rfl #[.agg cx, .agg cy] rfl (by (try simp only [List.map_toArray, List.map_cons, List.map_nil]); first | done | rfl) ?_; (with_reducible refine (implO_calls k b3 b4 cx cy t4 _ ?side1 ?side2 A8.out).mono ?_); (case side1 => exact KX.out); (case side2 => exact KY.out); rintro e wc31 ⟨rfl, hb⟩; refine ⟨_, rfl, ?_⟩; have n0_ := Aside0.mk (below_step HB.out hb); have n1_ := Aside0.mk (blk_below BK0.out hb); have n2_ := Aside0.mk (blk_below BK1.out hb); have n3_ := Aside0.mk (k46.K_below hb KX.out); have n4_ := Aside0.mk (blk_below BK2.out hb); have n5_ := Aside0.mk (k46.K_below hb KY.out); have n6_ := Aside0.mk (blk_below BK3.out hb); clear HB BK0 BK1 KX BK2 KY BK3; have HB := n0_; have BK0 := n1_; have BK1 := n2_; have KX := n3_; have BK2 := n4_; have KY := n5_; have BK3 := n6_; clear n0_ n1_ n2_ n3_ n4_ n5_ n6_; clear hb; (try simp only [Act.put, List.setIfInBounds_toArray, List.set_cons_zero, List.set_cons_succ])))
      have n0_ := Aside0.mk (below_drew1 HB.out)
      have n1_ := Aside0.mk (blk_drew BK0.out)
      have n2_ := Aside0.mk (blk_drew BK1.out)
      have n3_ := Aside0.mk (k46.K_below (below_drew1 (Below.refl _ _)) KX.out)
      have n4_ := Aside0.mk (blk_drew BK2.out)
      have n5_ := Aside0.mk (k46.K_below (below_drew1 (Below.refl _ _)) KY.out)
      have n6_ := Aside0.mk (blk_drew BK3.out)
      clear HB BK0 BK1 KX BK2 KY BK3
      have HB := n0_
      have BK0 := n1_
      have BK1 := n2_
      have KX := n3_
      have BK2 := n4_
      have KY := n5_
      have BK3 := n6_
      clear n0_ n1_ n2_ n3_ n4_ n5_ n6_
      refine start_ (n := 5) (S := fun w' => w'.heap[g2]? = some (.cells cx 46 (0, 0)) ∧ w'.heap[g0]? = some (.cells ca 41 (0, 0))) (ds := []) #[false, false, false, false, false] (by kernel_rfl) rfl rfl ⟨BK2.out, BK0.out⟩ (fun hHeld => ?_)
      generalize _root_.Go.World.drew _ = wr14 at HB BK0 BK1 KX BK2 KY BK3 hHeld ⊢
      refine take_ (i := 0) (N := some 35) (v := .agg cx) (a' := ?_) #[true, false, false, false, false] rfl rfl (by kernel_rfl) (fun _ _ _ h => h) (Or.inl ⟨by rfl, fun w' s => Go.Proofs.Ytocfepcgpelhdaa.RowLaw.load_run 46 _ rfl g2 rfl 46 cx _ s.1 hu2 rfl Scx.out⟩) hHeld ?_ ?_
      rotate_left
      · simp only [Act.put, List.setIfInBounds_toArray, List.set_cons_zero, List.set_cons_succ, i64_w, i32_w]
        rfl
      refine take_ (i := 1) (N := some 36) (v := .agg ca) (a' := ?_) #[true, true, false, false, false] rfl rfl (by kernel_rfl) (fun _ _ _ h => h) (Or.inl ⟨by rfl, fun w' s => Go.Proofs.Ytocfepcgpelhdaa.RowLaw.load_run 41 _ rfl g0 rfl 41 ca _ s.2 hu1 rfl SA.out⟩) hHeld ?_ ?_
      rotate_left
      · simp only [Act.put, List.setIfInBounds_toArray, List.set_cons_zero, List.set_cons_succ, i64_w, i32_w]
        rfl
      refine one_ (i := 2) (N := some 37) #[true, true, true, false, false] rfl rfl (by kernel_rfl) (by decide) (fun K hK => ?_)
      refine goes_ Try.func14 (by kernel_rfl) rfl #[.agg ca] (by rfl) rfl rfl (by (try simp only [List.map_toArray, List.map_cons, List.map_nil]); first | done | rfl) ?_
      with_reducible refine (toO_calls k x ca b5 _ ?side1 A9.out).mono ?_
      (case side1 => exact k41.K_below HB.out KA.out)
      rintro e wc37 ⟨cz, rfl, kz, hb⟩
      refine ⟨_, rfl, ?_⟩
      have n0_ := Aside0.mk (below_step HB.out hb)
      have n1_ := Aside0.mk (blk_below BK0.out hb)
      have n2_ := Aside0.mk (blk_below BK1.out hb)
      have n3_ := Aside0.mk (k46.K_below hb KX.out)
      have n4_ := Aside0.mk (blk_below BK2.out hb)
      have n5_ := Aside0.mk (k46.K_below hb KY.out)
      have n6_ := Aside0.mk (blk_below BK3.out hb)
      clear HB BK0 BK1 KX BK2 KY BK3
      have HB := n0_
      have BK0 := n1_
      have BK1 := n2_
      have KX := n3_
      have BK2 := n4_
      have KY := n5_
      have BK3 := n6_
      clear n0_ n1_ n2_ n3_ n4_ n5_ n6_
      have KZ := Aside0.mk kz
      clear kz
      clear hb
      refine hK.out _ _ ⟨BK2.out, BK0.out⟩ (fun hHeld => ?_)
      clear hK K
      refine norm_ (a' := ?_) ?_ ?_
      rotate_left
      · show Act.put _ (some 37) _ = _
        simp only [Act.put, List.setIfInBounds_toArray, List.set_cons_zero, List.set_cons_succ, i64_w, i32_w]
        rfl
      refine one_ (i := 3) (N := some 38) #[true, true, true, true, false] rfl rfl (by kernel_rfl) (by decide) (fun K hK => ?_)
      refine goes_ Try.func16 (by kernel_rfl) rfl #[.agg cx, .agg cz] (by rfl) rfl rfl (by (try simp only [List.map_toArray, List.map_cons, List.map_nil]); first | done | rfl) ?_
      with_reducible refine (eqO_calls k b3 b5 cx cz true _ ?side1 ?side2 A10.out).mono ?_
      (case side1 => exact KX.out)
      (case side2 => exact KZ.out)
      rintro e wc38 ⟨rfl, hb⟩
      refine ⟨_, rfl, ?_⟩
      have n0_ := Aside0.mk (below_step HB.out hb)
      have n1_ := Aside0.mk (blk_below BK0.out hb)
      have n2_ := Aside0.mk (blk_below BK1.out hb)
      have n3_ := Aside0.mk (k46.K_below hb KX.out)
      have n4_ := Aside0.mk (blk_below BK2.out hb)
      have n5_ := Aside0.mk (k46.K_below hb KY.out)
      have n6_ := Aside0.mk (blk_below BK3.out hb)
      clear HB BK0 BK1 KX BK2 KY BK3
      have HB := n0_
      have BK0 := n1_
      have BK1 := n2_
      have KX := n3_
      have BK2 := n4_
      have KY := n5_
      have BK3 := n6_
      clear n0_ n1_ n2_ n3_ n4_ n5_ n6_
      clear KZ
      clear hb
      refine hK.out _ _ ⟨BK2.out, BK0.out⟩ (fun hHeld => ?_)
      clear hK K
      refine norm_ (a' := ?_) ?_ ?_
      rotate_left
      · show Act.put _ (some 38) _ = _
        simp only [Act.put, List.setIfInBounds_toArray, List.set_cons_zero, List.set_cons_succ, i64_w, i32_w]
        rfl
      refine pure_ (i := 4) (N := some 39) (v := ?_) (a' := ?_) #[true, true, true, true, true] rfl rfl (by kernel_rfl) (fun _ _ _ h => h) (Or.inl ⟨by rfl, ?_⟩) ?_ ?_
      rotate_left
      · intro w'
        go_simp
        with_reducible rfl
      rotate_left
      · simp only [Act.put, List.setIfInBounds_toArray, List.set_cons_zero, List.set_cons_succ, i64_w, i32_w]
        rfl
      refine done_ (by kernel_rfl) ?_
      try go_wp2
      have n0_ := Aside0.mk (below_drew1 HB.out)
      have n1_ := Aside0.mk (blk_drew BK0.out)
      have n2_ := Aside0.mk (blk_drew BK1.out)
      have n3_ := Aside0.mk (k46.K_below (below_drew1 (Below.refl _ _)) KX.out)
      have n4_ := Aside0.mk (blk_drew BK2.out)
      have n5_ := Aside0.mk (k46.K_below (below_drew1 (Below.refl _ _)) KY.out)
      have n6_ := Aside0.mk (blk_drew BK3.out)
      clear HB BK0 BK1 KX BK2 KY BK3
      have HB := n0_
      have BK0 := n1_
      have BK1 := n2_
      have KX := n3_
      have BK2 := n4_
      have KY := n5_
      have BK3 := n6_
      clear n0_ n1_ n2_ n3_ n4_ n5_ n6_
      refine start_ (n := 5) (S := fun w' => w'.heap[g3]? = some (.cells cy 46 (0, 0)) ∧ w'.heap[g1]? = some (.cells cb 41 (0, 0))) (ds := []) #[false, false, false, false, false] (by kernel_rfl) rfl rfl ⟨BK3.out, BK1.out⟩ (fun hHeld => ?_)
      generalize _root_.Go.World.drew _ = wr16 at HB BK0 BK1 KX BK2 KY BK3 hHeld ⊢
      refine take_ (i := 0) (N := some 40) (v := .agg cy) (a' := ?_) #[true, false, false, false, false] rfl rfl (by kernel_rfl) (fun _ _ _ h => h) (Or.inl ⟨by rfl, fun w' s => Go.Proofs.Ytocfepcgpelhdaa.RowLaw.load_run 46 _ rfl g3 rfl 46 cy _ s.1 hu2 rfl Scy.out⟩) hHeld ?_ ?_
      rotate_left
      · simp only [Act.put, List.setIfInBounds_toArray, List.set_cons_zero, List.set_cons_succ, i64_w, i32_w]
        rfl
      refine take_ (i := 1) (N := some 41) (v := .agg cb) (a' := ?_) #[true, true, false, false, false] rfl rfl (by kernel_rfl) (fun _ _ _ h => h) (Or.inl ⟨by rfl, fun w' s => Go.Proofs.Ytocfepcgpelhdaa.RowLaw.load_run 41 _ rfl g1 rfl 41 cb _ s.2 hu1 rfl SB.out⟩) hHeld ?_ ?_
      rotate_left
      · simp only [Act.put, List.setIfInBounds_toArray, List.set_cons_zero, List.set_cons_succ, i64_w, i32_w]
        rfl
      refine one_ (i := 2) (N := some 42) #[true, true, true, false, false] rfl rfl (by kernel_rfl) (by decide) (fun K hK => ?_)
      refine goes_ Try.func14 (by kernel_rfl) rfl #[.agg cb] (by rfl) rfl rfl (by (try simp only [List.map_toArray, List.map_cons, List.map_nil]); first | done | rfl) ?_
      with_reducible refine (toO_calls k y cb b6 _ ?side1 A11.out).mono ?_
      (case side1 => exact k41.K_below HB.out KB.out)
      rintro e wc42 ⟨cz, rfl, kz, hb⟩
      refine ⟨_, rfl, ?_⟩
      have n0_ := Aside0.mk (below_step HB.out hb)
      have n1_ := Aside0.mk (blk_below BK0.out hb)
      have n2_ := Aside0.mk (blk_below BK1.out hb)
      have n3_ := Aside0.mk (k46.K_below hb KX.out)
      have n4_ := Aside0.mk (blk_below BK2.out hb)
      have n5_ := Aside0.mk (k46.K_below hb KY.out)
      have n6_ := Aside0.mk (blk_below BK3.out hb)
      clear HB BK0 BK1 KX BK2 KY BK3
      have HB := n0_
      have BK0 := n1_
      have BK1 := n2_
      have KX := n3_
      have BK2 := n4_
      have KY := n5_
      have BK3 := n6_
      clear n0_ n1_ n2_ n3_ n4_ n5_ n6_
      have KZ := Aside0.mk kz
      clear kz
      clear hb
      refine hK.out _ _ ⟨BK3.out, BK1.out⟩ (fun hHeld => ?_)
      clear hK K
      refine norm_ (a' := ?_) ?_ ?_
      rotate_left
      · show Act.put _ (some 42) _ = _
        simp only [Act.put, List.setIfInBounds_toArray, List.set_cons_zero, List.set_cons_succ, i64_w, i32_w]
        rfl
      refine one_ (i := 3) (N := some 43) #[true, true, true, true, false] rfl rfl (by kernel_rfl) (by decide) (fun K hK => ?_)
      refine goes_ Try.func16 (by kernel_rfl) rfl #[.agg cy, .agg cz] (by rfl) rfl rfl (by (try simp only [List.map_toArray, List.map_cons, List.map_nil]); first | done | rfl) ?_
      with_reducible refine (eqO_calls k b4 b6 cy cz true _ ?side1 ?side2 A12.out).mono ?_
      (case side1 => exact KY.out)
      (case side2 => exact KZ.out)
      rintro e wc43 ⟨rfl, hb⟩
      refine ⟨_, rfl, ?_⟩
      have n0_ := Aside0.mk (below_step HB.out hb)
      have n1_ := Aside0.mk (blk_below BK0.out hb)
      have n2_ := Aside0.mk (blk_below BK1.out hb)
      have n3_ := Aside0.mk (k46.K_below hb KX.out)
      have n4_ := Aside0.mk (blk_below BK2.out hb)
      have n5_ := Aside0.mk (k46.K_below hb KY.out)
      have n6_ := Aside0.mk (blk_below BK3.out hb)
      clear HB BK0 BK1 KX BK2 KY BK3
      have HB := n0_
      have BK0 := n1_
      have BK1 := n2_
      have KX := n3_
      have BK2 := n4_
      have KY := n5_
      have BK3 := n6_
      clear n0_ n1_ n2_ n3_ n4_ n5_ n6_
      clear KZ
      clear hb
      refine hK.out _ _ ⟨BK3.out, BK1.out⟩ (fun hHeld => ?_)
      clear hK K
      refine norm_ (a' := ?_) ?_ ?_
      rotate_left
      · show Act.put _ (some 43) _ = _
        simp only [Act.put, List.setIfInBounds_toArray, List.set_cons_zero, List.set_cons_succ, i64_w, i32_w]
        rfl
      refine pure_ (i := 4) (N := some 44) (v := ?_) (a' := ?_) #[true, true, true, true, true] rfl rfl (by kernel_rfl) (fun _ _ _ h => h) (Or.inl ⟨by rfl, ?_⟩) ?_ ?_
      rotate_left
      · intro w'
        go_simp
        with_reducible rfl
      rotate_left
      · simp only [Act.put, List.setIfInBounds_toArray, List.set_cons_zero, List.set_cons_succ, i64_w, i32_w]
        rfl
      refine done_ (by kernel_rfl) ?_
      try go_wp2
      go_ret
      exact ⟨rfl, HB.out⟩
/-- What is known of a value of struct type 24 that came in. -/
inductive G24 : S24 → Prop where
  | mk (x : S24) (h0 : (Lit.int .i64 x.f0).wf = true) (h1 : (Lit.int .i64 x.f1).wf = true) (h2 : x.f2.size ≤ 9223372036854775807) (h3 : x.f3.length ≤ 9223372036854775807) (h3k : ∀ y_, y_ ∈ x.f3 → G24 y_) : G24 x
/-- What is known of a value of struct type 26 that came in. -/
inductive G26 : S26 → Prop where
  | mk (x : S26) (h0 : x.f0.size ≤ 9223372036854775807) (h1 : x.f1.size ≤ 9223372036854775807) (h2 : x.f2.size ≤ 9223372036854775807) : G26 x
/-- What is known of a value of struct type 28 that came in. -/
inductive G28 : S28 → Prop where
  | mk (x : S28) (h0 : x.f0.size ≤ 9223372036854775807) (h2 : G24 x.f2) (h4 : G24 x.f4) (h6 : G24 x.f6) (h7 : G26 x.f7) : G28 x
/-- What is known of a value of struct type 41 that came in. -/
inductive G41 : S41 → Prop where
  | mk (x : S41) (h0 : x.f0.length ≤ 9223372036854775807) (h0k : ∀ y_, y_ ∈ x.f0 → G28 y_) : G41 x

/-- THE ONE PURE STATEMENT of laws_FnExactSameProgram. -/
def laws_FnExactSameProgram.Pure : Prop := ∀ (x0 : S41) (x1 : S41), (G41 x0) → (G41 x1) → ∃ k, laws_FnExactSameProgram.f k x0 x1 = some true
theorem laws_FnExactSameProgram.walk (P : laws_FnExactSameProgram.Pure) (x0 : S41) (A0_0 : Option Addr) (c0_0 : Nat) (x1 : S41) (A1_0 : Option Addr) (c1_0 : Nat) (w : World) (g0 : G41 x0) (r0_0 : Kd.C k28 w A0_0 (x0.f0).length (x0.f0)) (l0_0 : (x0.f0).length ≤ c0_0) (g1 : G41 x1) (r1_0 : Kd.C k28 w A1_0 (x1.f0).length (x1.f0)) (l1_0 : (x1.f0).length ≤ c1_0) :
    Calls Try.prog 4 #[.agg #[.slice A0_0 (x0.f0).length c0_0], .agg #[.slice A1_0 (x1.f0).length c1_0]] w fun e w' => e = .returned (.bool true) ∧ Below w.heap.size w w' := by
  obtain ⟨k, h⟩ := P x0 x1 g0 g1
  exact laws_FnExactSameProgram.opaque_ k x0 x1 _ _ true w (k41_mk w x0 l0_0 r0_0) (k41_mk w x1 l1_0 r1_0) h

end Go.Proofs.Ytocfepcgpelhdaa.PFnExactSameProgram
