/- The law FnExactSameMatcher over whole structs: a Lean function with the law's answers, and that the code comes to exactly these. Conditions: none beyond each statement. -/
import Derived.Test.YtocfepcgpelhdaaPFnExactSameMatcherx0
import Derived.Test.YtocfepcgpelhdaaPFnExactSameMatcherx4
import Derived.Test.YtocfepcgpelhdaaPFnExactSameMatcherx5
import Derived.Test.YtocfepcgpelhdaaPFnExactSameMatcherx6
import Derived.Test.YtocfepcgpelhdaaPFnExactSameMatcherx8
import Derived.Test.YtocfepcgpelhdaaPFnExactSameMatcherx11
import Derived.Test.YtocfepcgpelhdaaRowLaw
namespace Go.Proofs.Ytocfepcgpelhdaa.PFnExactSameMatcher
open Go.RowKit Go.Proofs.YtocfepcgpelhdaaW.PrintWords Go.Proofs.YtocfepcgpelhdaaW.PrintLast Go.Proofs.YtocfepcgpelhdaaW.PrintMore
attribute [local go_sem] max2_int min2_int max_two min_two max_three min_three max_four min_four   -- for this text's walks alone
set_option linter.unusedVariables false
set_option linter.unusedSimpArgs false

-- RELAW
def szO (k : Nat) (x : S53) (left : Int) : Option Int := laws_szMatcher.f k (x.f0) (x.f1) (x.f2) (x.f3) (x.f4) (x.f5) (x.f6) (x.f7) (x.f8) (x.f9) (x.f10) (x.f11) (x.f12) (x.f13) (x.f14) left
def toO (k : Nat) (x : S53) : Option S60 := (laws_toMatcher.f k (x.f0) (x.f1) (x.f2) (x.f3) (x.f4) (x.f5) (x.f6) (x.f7) (x.f8) (x.f9) (x.f10) (x.f11) (x.f12) (x.f13) (x.f14)).map fun t => ⟨t.1, t.2.1, t.2.2.1, t.2.2.2.1, t.2.2.2.2.1, t.2.2.2.2.2.1, t.2.2.2.2.2.2.1, t.2.2.2.2.2.2.2.1, t.2.2.2.2.2.2.2.2.1, t.2.2.2.2.2.2.2.2.2.1, t.2.2.2.2.2.2.2.2.2.2.1, t.2.2.2.2.2.2.2.2.2.2.2.1, t.2.2.2.2.2.2.2.2.2.2.2.2.1, t.2.2.2.2.2.2.2.2.2.2.2.2.2.1, t.2.2.2.2.2.2.2.2.2.2.2.2.2.2⟩
def specO (k : Nat) (x y : S60) : Option Bool := spec_SameMatcher.f k (x.f0) (x.f1) (x.f2) (x.f3) (x.f4) (x.f5) (x.f6) (x.f7) (x.f8) (x.f9) (x.f10) (x.f11) (x.f12) (x.f13) (x.f14) (y.f0) (y.f1) (y.f2) (y.f3) (y.f4) (y.f5) (y.f6) (y.f7) (y.f8) (y.f9) (y.f10) (y.f11) (y.f12) (y.f13) (y.f14)
def implO (k : Nat) (x y : S60) : Option Bool := impl_SameMatcher.f k (x.f0) (x.f1) (x.f2) (x.f3) (x.f4) (x.f5) (x.f6) (x.f7) (x.f8) (x.f9) (x.f10) (x.f11) (x.f12) (x.f13) (x.f14) (y.f0) (y.f1) (y.f2) (y.f3) (y.f4) (y.f5) (y.f6) (y.f7) (y.f8) (y.f9) (y.f10) (y.f11) (y.f12) (y.f13) (y.f14)
def eqO (k : Nat) (x y : S60) : Option Bool := laws_eqMatcher.f k (x.f0) (x.f1) (x.f2) (x.f3) (x.f4) (x.f5) (x.f6) (x.f7) (x.f8) (x.f9) (x.f10) (x.f11) (x.f12) (x.f13) (x.f14) (y.f0) (y.f1) (y.f2) (y.f3) (y.f4) (y.f5) (y.f6) (y.f7) (y.f8) (y.f9) (y.f10) (y.f11) (y.f12) (y.f13) (y.f14)
theorem szO_calls (k : Nat) (x : S53) (cs : Array Value) (left r : Int) (w : World) (hK : k53.K w x cs.toList) (h : szO k x left = some r) :
    Calls Try.prog 17 #[.agg cs, .int .i64 left] w fun e w' => e = .returned (.int .i64 r) ∧ Below w.heap.size w w' := by
  obtain ⟨Aa11, ca11, Aa12, ca12, Aa13, ca13, Aa14, ca14, ea, la11, ga11, la12, ga12, la13, ga13, la14, ga14⟩ := k53_open hK
  obtain rfl : cs = List.toArray _ := Array.ext' ea
  exact laws_szMatcher.calls k _ _ _ _ _ _ _ _ _ _ _ _ _ _ _ _ _ _ _ _ _ _ _ _ _ w ga11 la11 ga12 la12 ga13 la13 ga14 la14 h
theorem toO_calls (k : Nat) (x : S53) (cs : Array Value) (y : S60) (w : World) (hK : k53.K w x cs.toList) (h : toO k x = some y) :
    Calls Try.prog 19 #[.agg cs] w fun e w' => ∃ ds : Array Value, e = .returned (.agg ds) ∧ k60.K w' y ds.toList ∧ Below w.heap.size w w' := by
  obtain ⟨Aa11, ca11, Aa12, ca12, Aa13, ca13, Aa14, ca14, ea, la11, ga11, la12, ga12, la13, ga13, la14, ga14⟩ := k53_open hK
  obtain rfl : cs = List.toArray _ := Array.ext' ea
  obtain ⟨t, ht, rfl⟩ := Option.map_eq_some_iff.mp h
  refine (laws_toMatcher.calls k _ _ _ _ _ _ _ _ _ _ _ _ _ _ _ _ _ _ _ _ _ _ _ _ _ _ _ _ _ _ _ _ _ _ _ _ _ _ w ga11 la11 ga12 la12 ga13 la13 ga14 la14 ht).mono ?_
  rintro e w' ⟨v11, v12, v13, v14, rfl, o11, o12, o13, o14, hb⟩
  obtain ⟨B11, d11, rfl, m11, q11⟩ := Kd.R_reads o11
  obtain ⟨B12, d12, rfl, m12, q12⟩ := Kd.R_reads o12
  obtain ⟨B13, d13, rfl, m13, q13⟩ := Kd.R_reads o13
  obtain ⟨B14, d14, rfl, m14, q14⟩ := Kd.R_reads o14
  exact ⟨_, rfl, k60_mk w' _ m11 q11 m12 q12 m13 q13 m14 q14, hb⟩
theorem specO_calls (k : Nat) (x y : S60) (cs ds : Array Value) (r : Bool) (w : World) (hK : k60.K w x cs.toList) (hM : k60.K w y ds.toList) (h : specO k x y = some r) :
    Calls Try.prog 18 #[.agg cs, .agg ds] w fun e w' => e = .returned (.bool r) ∧ Below w.heap.size w w' := by
  obtain ⟨Aa11, ca11, Aa12, ca12, Aa13, ca13, Aa14, ca14, ea, la11, ga11, la12, ga12, la13, ga13, la14, ga14⟩ := k60_open hK
  obtain rfl : cs = List.toArray _ := Array.ext' ea
  obtain ⟨Ab11, cb11, Ab12, cb12, Ab13, cb13, Ab14, cb14, eb, lb11, gb11, lb12, gb12, lb13, gb13, lb14, gb14⟩ := k60_open hM
  obtain rfl : ds = List.toArray _ := Array.ext' eb
  exact spec_SameMatcher.calls k _ _ _ _ _ _ _ _ _ _ _ _ _ _ _ _ _ _ _ _ _ _ _ _ _ _ _ _ _ _ _ _ _ _ _ _ _ _ _ _ _ _ _ _ _ _ _ w ga11 la11 ga12 la12 ga13 la13 ga14 la14 gb11 lb11 gb12 lb12 gb13 lb13 gb14 lb14 h
theorem implO_calls (k : Nat) (x y : S60) (cs ds : Array Value) (r : Bool) (w : World) (hK : k60.K w x cs.toList) (hM : k60.K w y ds.toList) (h : implO k x y = some r) :
    Calls Try.prog 20 #[.agg cs, .agg ds] w fun e w' => e = .returned (.bool r) ∧ Below w.heap.size w w' := by
  obtain ⟨Aa11, ca11, Aa12, ca12, Aa13, ca13, Aa14, ca14, ea, la11, ga11, la12, ga12, la13, ga13, la14, ga14⟩ := k60_open hK
  obtain rfl : cs = List.toArray _ := Array.ext' ea
  obtain ⟨Ab11, cb11, Ab12, cb12, Ab13, cb13, Ab14, cb14, eb, lb11, gb11, lb12, gb12, lb13, gb13, lb14, gb14⟩ := k60_open hM
  obtain rfl : ds = List.toArray _ := Array.ext' eb
  exact impl_SameMatcher.calls k _ _ _ _ _ _ _ _ _ _ _ _ _ _ _ _ _ _ _ _ _ _ _ _ _ _ _ _ _ _ _ _ _ _ _ _ _ _ _ _ _ _ _ _ _ _ _ w ga11 la11 ga12 la12 ga13 la13 ga14 la14 gb11 lb11 gb12 lb12 gb13 lb13 gb14 lb14 h
theorem eqO_calls (k : Nat) (x y : S60) (cs ds : Array Value) (r : Bool) (w : World) (hK : k60.K w x cs.toList) (hM : k60.K w y ds.toList) (h : eqO k x y = some r) :
    Calls Try.prog 21 #[.agg cs, .agg ds] w fun e w' => e = .returned (.bool r) ∧ Below w.heap.size w w' := by
  obtain ⟨Aa11, ca11, Aa12, ca12, Aa13, ca13, Aa14, ca14, ea, la11, ga11, la12, ga12, la13, ga13, la14, ga14⟩ := k60_open hK
  obtain rfl : cs = List.toArray _ := Array.ext' ea
  obtain ⟨Ab11, cb11, Ab12, cb12, Ab13, cb13, Ab14, cb14, eb, lb11, gb11, lb12, gb12, lb13, gb13, lb14, gb14⟩ := k60_open hM
  obtain rfl : ds = List.toArray _ := Array.ext' eb
  exact laws_eqMatcher.calls k _ _ _ _ _ _ _ _ _ _ _ _ _ _ _ _ _ _ _ _ _ _ _ _ _ _ _ _ _ _ _ _ _ _ _ _ _ _ _ _ _ _ _ _ _ _ _ w ga11 la11 ga12 la12 ga13 la13 ga14 la14 gb11 lb11 gb12 lb12 gb13 lb13 gb14 lb14 h
def laws_FnExactSameMatcher.f (k : Nat) (x y : S53) : Option Bool :=
  (szO k x 1048576).bind fun t1 => if t1 < 0 then some true else (szO k y t1).bind fun t2 => if t2 < 0 then some true else
  (toO k x).bind fun b1 => (toO k y).bind fun b2 => (specO k b1 b2).bind fun t3 => (toO k x).bind fun b3 => (toO k y).bind fun b4 => (implO k b3 b4).bind fun t4 => if t4 = t3 then
  (toO k x).bind fun b5 => (eqO k b3 b5).bind fun t5 => if t5 = true then (toO k y).bind fun b6 => (eqO k b4 b6).bind fun t6 => if t6 = true then some true else none else none else none
set_option maxHeartbeats 8000000 in
set_option maxRecDepth 100000 in
theorem laws_FnExactSameMatcher.opaque_ (k : Nat) (x y : S53) (ca cb : Array Value) (r : Bool) (w : World) (hA : k53.K w x ca.toList) (hB : k53.K w y cb.toList) (h : laws_FnExactSameMatcher.f k x y = some r) :
    Calls Try.prog 5 #[.agg ca, .agg cb] w fun e w' => e = .returned (.bool r) ∧ Below w.heap.size w w' := by
  have hu1 := Try.underlying53
  have hu2 := Try.underlying60
  have SA := Aside0.mk ((by rw [Go.Proofs.Ytocfepcgpelhdaa.RowLaw.size_of hA]; kernel_rfl) : (Try.prog.info? 53).map (·.size) = some ca.size)
  have SB := Aside0.mk ((by rw [Go.Proofs.Ytocfepcgpelhdaa.RowLaw.size_of hB]; kernel_rfl) : (Try.prog.info? 53).map (·.size) = some cb.size)
  have KA := Aside0.mk hA
  have KB := Aside0.mk hB
  clear hA hB
  have HB := Aside0.mk (Below.refl w.heap.size w)
  unfold laws_FnExactSameMatcher.f at h
  replace h := Option.bind_eq_some_iff.mp h
  obtain ⟨t1, a1_, h⟩ := h
  have A1 := Aside0.mk a1_
  clear a1_
  by_cases c1 : t1 < 0
  · rw [if_pos c1] at h
    obtain rfl := Option.some.inj h
    have c1b : decide (t1 < 0) = true := decide_eq_true c1
    clear c1 h
    go_enter Try.func5, Try.ntmps5
    go_wp2_with (first | ((with_reducible refine gate_dst (N := 2) rfl ?_); refine box_event ?hg (N := 2) ?hd (cs := ca) (t := 53) ?hr ?_; (case hd => rfl); (case hg => rfl); (case hr => first | (go_simp; done) | (go_simp; rfl)); intro g0 hg wb0 hbox hb; have n0_ := Aside0.mk (below_step HB.out hb); clear HB; have HB := n0_; clear n0_; have BK0 := Aside0.mk hbox; clear hbox hg hb; (try simp only [Act.put, List.setIfInBounds_toArray, List.set_cons_zero, List.set_cons_succ])) | ((with_reducible refine gate_dst (N := 3) rfl ?_); refine box_event ?hg (N := 3) ?hd (cs := cb) (t := 53) ?hr ?_; (case hd => rfl); (case hg => rfl); (case hr => first | (go_simp; done) | (go_simp; rfl)); intro g1 hg wb1 hbox hb; have n0_ := Aside0.mk (below_step HB.out hb); have n1_ := Aside0.mk (blk_below BK0.out hb); clear HB BK0; have HB := n0_; have BK0 := n1_; clear n0_ n1_; have BK1 := Aside0.mk hbox; clear hbox hg hb; (try simp only [Act.put, List.setIfInBounds_toArray, List.set_cons_zero, List.set_cons_succ])) | ((with_reducible refine gate_dst (N := 10) rfl ?_); refine wpList_load_row rfl 53 _ rfl g0 rfl 53 ca (0, 0) _ BK0.out hu1 rfl SA.out ?_; (try simp only [Act.put, List.setIfInBounds_toArray, List.set_cons_zero, List.set_cons_succ])) | ((with_reducible refine gate_callee (f := 17) rfl ?_); refine goesL_ (some 12) rfl rfl Try.func17 (by kernel_rfl) rfl #[.agg ca, .int .i64 1048576] rfl (by (try simp only [List.map_toArray, List.map_cons, List.map_nil]); first | done | rfl) ?_; (with_reducible refine (szO_calls k x ca (1048576) t1 _ ?side1 A1.out).mono ?_); (case side1 => exact k53.K_below HB.out KA.out); rintro e ws12 ⟨rfl, hb⟩; refine ⟨_, rfl, ?_⟩; have n0_ := Aside0.mk (below_step HB.out hb); have n1_ := Aside0.mk (blk_below BK0.out hb); have n2_ := Aside0.mk (blk_below BK1.out hb); clear HB BK0 BK1; have HB := n0_; have BK0 := n1_; have BK1 := n2_; clear n0_ n1_ n2_; clear hb; (try simp only [Act.put, List.setIfInBounds_toArray, List.set_cons_zero, List.set_cons_succ])))
    go_ret
    exact ⟨rfl, HB.out⟩
  · rw [if_neg c1] at h
    have c1b : decide (t1 < 0) = false := decide_eq_false c1
    clear c1
    replace h := Option.bind_eq_some_iff.mp h
    obtain ⟨t2, a2_, h⟩ := h
    have A2 := Aside0.mk a2_
    clear a2_
    by_cases c2 : t2 < 0
    · rw [if_pos c2] at h
      obtain rfl := Option.some.inj h
      have c2b : decide (t2 < 0) = true := decide_eq_true c2
      clear c2 h
      go_enter Try.func5, Try.ntmps5
      go_wp2_with (first | ((with_reducible refine gate_dst (N := 2) rfl ?_); refine box_event ?hg (N := 2) ?hd (cs := ca) (t := 53) ?hr ?_; (case hd => rfl); (case hg => rfl); (case hr => first | (go_simp; done) | (go_simp; rfl)); intro g0 hg wb0 hbox hb; have n0_ := Aside0.mk (below_step HB.out hb); clear HB; have HB := n0_; clear n0_; have BK0 := Aside0.mk hbox; clear hbox hg hb; (try simp only [Act.put, List.setIfInBounds_toArray, List.set_cons_zero, List.set_cons_succ])) | ((with_reducible refine gate_dst (N := 3) rfl ?_); refine box_event ?hg (N := 3) ?hd (cs := cb) (t := 53) ?hr ?_; (case hd => rfl); (case hg => rfl); (case hr => first | (go_simp; done) | (go_simp; rfl)); intro g1 hg wb1 hbox hb; have n0_ := Aside0.mk (below_step HB.out hb); have n1_ := Aside0.mk (blk_below BK0.out hb); clear HB BK0; have HB := n0_; have BK0 := n1_; clear n0_ n1_; have BK1 := Aside0.mk hbox; clear hbox hg hb; (try simp only [Act.put, List.setIfInBounds_toArray, List.set_cons_zero, List.set_cons_succ])) | ((with_reducible refine gate_dst (N := 10) rfl ?_); refine wpList_load_row rfl 53 _ rfl g0 rfl 53 ca (0, 0) _ BK0.out hu1 rfl SA.out ?_; (try simp only [Act.put, List.setIfInBounds_toArray, List.set_cons_zero, List.set_cons_succ])) | ((with_reducible refine gate_callee (f := 17) rfl ?_); refine goesL_ (some 12) rfl rfl Try.func17 (by kernel_rfl) rfl #[.agg ca, .int .i64 1048576] rfl (by (try simp only [List.map_toArray, List.map_cons, List.map_nil]); first | done | rfl) ?_; (with_reducible refine (szO_calls k x ca (1048576) t1 _ ?side1 A1.out).mono ?_); (case side1 => exact k53.K_below HB.out KA.out); rintro e ws12 ⟨rfl, hb⟩; refine ⟨_, rfl, ?_⟩; have n0_ := Aside0.mk (below_step HB.out hb); have n1_ := Aside0.mk (blk_below BK0.out hb); have n2_ := Aside0.mk (blk_below BK1.out hb); clear HB BK0 BK1; have HB := n0_; have BK0 := n1_; have BK1 := n2_; clear n0_ n1_ n2_; clear hb; (try simp only [Act.put, List.setIfInBounds_toArray, List.set_cons_zero, List.set_cons_succ])) | ((with_reducible refine gate_dst (N := 15) rfl ?_); refine wpList_load_row rfl 53 _ rfl g1 rfl 53 cb (0, 0) _ BK1.out hu1 rfl SB.out ?_; (try simp only [Act.put, List.setIfInBounds_toArray, List.set_cons_zero, List.set_cons_succ])) | ((with_reducible refine gate_callee (f := 17) rfl ?_); refine goesL_ (some 17) rfl rfl Try.func17 (by kernel_rfl) rfl #[.agg cb, .int .i64 t1] rfl (by (try simp only [List.map_toArray, List.map_cons, List.map_nil]); first | done | rfl) ?_; (with_reducible refine (szO_calls k y cb (t1) t2 _ ?side1 A2.out).mono ?_); (case side1 => exact k53.K_below HB.out KB.out); rintro e ws17 ⟨rfl, hb⟩; refine ⟨_, rfl, ?_⟩; have n0_ := Aside0.mk (below_step HB.out hb); have n1_ := Aside0.mk (blk_below BK0.out hb); have n2_ := Aside0.mk (blk_below BK1.out hb); clear HB BK0 BK1; have HB := n0_; have BK0 := n1_; have BK1 := n2_; clear n0_ n1_ n2_; clear hb; (try simp only [Act.put, List.setIfInBounds_toArray, List.set_cons_zero, List.set_cons_succ])))
      go_ret
      exact ⟨rfl, HB.out⟩
    · rw [if_neg c2] at h
      have c2b : decide (t2 < 0) = false := decide_eq_false c2
      clear c2
      replace h := Option.bind_eq_some_iff.mp h
      obtain ⟨b1, a3_, h⟩ := h
      have A3 := Aside0.mk a3_
      clear a3_
      replace h := Option.bind_eq_some_iff.mp h
      obtain ⟨b2, a4_, h⟩ := h
      have A4 := Aside0.mk a4_
      clear a4_
      replace h := Option.bind_eq_some_iff.mp h
      obtain ⟨t3, a5_, h⟩ := h
      have A5 := Aside0.mk a5_
      clear a5_
      replace h := Option.bind_eq_some_iff.mp h
      obtain ⟨b3, a6_, h⟩ := h
      have A6 := Aside0.mk a6_
      clear a6_
      replace h := Option.bind_eq_some_iff.mp h
      obtain ⟨b4, a7_, h⟩ := h
      have A7 := Aside0.mk a7_
      clear a7_
      replace h := Option.bind_eq_some_iff.mp h
      obtain ⟨t4, a8_, h⟩ := h
      have A8 := Aside0.mk a8_
      clear a8_
      by_cases c3 : t4 = t3
      rotate_left
      · rw [if_neg c3] at h
        exact absurd h (by simp)
      rw [if_pos c3] at h
      subst c3
      replace h := Option.bind_eq_some_iff.mp h
      obtain ⟨b5, a9_, h⟩ := h
      have A9 := Aside0.mk a9_
      clear a9_
      replace h := Option.bind_eq_some_iff.mp h
      obtain ⟨t5, a10_, h⟩ := h
      have A10 := Aside0.mk a10_
      clear a10_
      by_cases c4 : t5 = true
      rotate_left
      · rw [if_neg c4] at h
        exact absurd h (by simp)
      rw [if_pos c4] at h
      subst c4
      replace h := Option.bind_eq_some_iff.mp h
      obtain ⟨b6, a11_, h⟩ := h
      have A11 := Aside0.mk a11_
      clear a11_
      replace h := Option.bind_eq_some_iff.mp h
      obtain ⟨t6, a12_, h⟩ := h
      have A12 := Aside0.mk a12_
      clear a12_
      by_cases c5 : t6 = true
      rotate_left
      · rw [if_neg c5] at h
        exact absurd h (by simp)
      rw [if_pos c5] at h
      subst c5
      obtain rfl := Option.some.inj h
      clear h
      have c3b : (t4 != t4) = false := by cases t4 <;> rfl
      go_enter Try.func5, Try.ntmps5
      go_wp2_with (first | ((with_reducible refine gate_dst (N := 2) rfl ?_); refine box_event ?hg (N := 2) ?hd (cs := ca) (t := 53) ?hr ?_; (case hd => rfl); (case hg => rfl); (case hr => first | (go_simp; done) | (go_simp; rfl)); intro g0 hg wb0 hbox hb; have n0_ := Aside0.mk (below_step HB.out hb); clear HB; have HB := n0_; clear n0_; have BK0 := Aside0.mk hbox; clear hbox hg hb; (try simp only [Act.put, List.setIfInBounds_toArray, List.set_cons_zero, List.set_cons_succ])) | ((with_reducible refine gate_dst (N := 3) rfl ?_); refine box_event ?hg (N := 3) ?hd (cs := cb) (t := 53) ?hr ?_; (case hd => rfl); (case hg => rfl); (case hr => first | (go_simp; done) | (go_simp; rfl)); intro g1 hg wb1 hbox hb; have n0_ := Aside0.mk (below_step HB.out hb); have n1_ := Aside0.mk (blk_below BK0.out hb); clear HB BK0; have HB := n0_; have BK0 := n1_; clear n0_ n1_; have BK1 := Aside0.mk hbox; clear hbox hg hb; (try simp only [Act.put, List.setIfInBounds_toArray, List.set_cons_zero, List.set_cons_succ])) | ((with_reducible refine gate_dst (N := 10) rfl ?_); refine wpList_load_row rfl 53 _ rfl g0 rfl 53 ca (0, 0) _ BK0.out hu1 rfl SA.out ?_; (try simp only [Act.put, List.setIfInBounds_toArray, List.set_cons_zero, List.set_cons_succ])) | ((with_reducible refine gate_callee (f := 17) rfl ?_); refine goesL_ (some 12) rfl rfl Try.func17 (by kernel_rfl) rfl #[.agg ca, .int .i64 1048576] rfl (by (try simp only [List.map_toArray, List.map_cons, List.map_nil]); first | done | rfl) ?_; (with_reducible refine (szO_calls k x ca (1048576) t1 _ ?side1 A1.out).mono ?_); (case side1 => exact k53.K_below HB.out KA.out); rintro e ws12 ⟨rfl, hb⟩; refine ⟨_, rfl, ?_⟩; have n0_ := Aside0.mk (below_step HB.out hb); have n1_ := Aside0.mk (blk_below BK0.out hb); have n2_ := Aside0.mk (blk_below BK1.out hb); clear HB BK0 BK1; have HB := n0_; have BK0 := n1_; have BK1 := n2_; clear n0_ n1_ n2_; clear hb; (try simp only [Act.put, List.setIfInBounds_toArray, List.set_cons_zero, List.set_cons_succ])) | ((with_reducible refine gate_dst (N := 15) rfl ?_); refine wpList_load_row rfl 53 _ rfl g1 rfl 53 cb (0, 0) _ BK1.out hu1 rfl SB.out ?_; (try simp only [Act.put, List.setIfInBounds_toArray, List.set_cons_zero, List.set_cons_succ])) | ((with_reducible refine gate_callee (f := 17) rfl ?_); refine goesL_ (some 17) rfl rfl Try.func17 (by kernel_rfl) rfl #[.agg cb, .int .i64 t1] rfl (by (try simp only [List.map_toArray, List.map_cons, List.map_nil]); first | done | rfl) ?_; (with_reducible refine (szO_calls k y cb (t1) t2 _ ?side1 A2.out).mono ?_); (case side1 => exact k53.K_below HB.out KB.out); rintro e ws17 ⟨rfl, hb⟩; refine ⟨_, rfl, ?_⟩; have n0_ := Aside0.mk (below_step HB.out hb); have n1_ := Aside0.mk (blk_below BK0.out hb); have n2_ := Aside0.mk (blk_below BK1.out hb); clear HB BK0 BK1; have HB := n0_; have BK0 := n1_; have BK1 := n2_; clear n0_ n1_ n2_; clear hb; (try simp only [Act.put, List.setIfInBounds_toArray, List.set_cons_zero, List.set_cons_succ])))
      have n0_ := Aside0.mk (below_drew1 HB.out)
      have n1_ := Aside0.mk (blk_drew BK0.out)
      have n2_ := Aside0.mk (blk_drew BK1.out)
      clear HB BK0 BK1
      have HB := n0_
      have BK0 := n1_
      have BK1 := n2_
      clear n0_ n1_ n2_
      refine start_ (n := 6) (S := fun w' => w'.heap[g0]? = some (.cells ca 53 (0, 0)) ∧ w'.heap[g1]? = some (.cells cb 53 (0, 0))) (ds := []) #[false, false, false, false, false, false] (by kernel_rfl) rfl rfl ⟨BK0.out, BK1.out⟩ (fun hHeld => ?_)
      generalize _root_.Go.World.drew _ = wr8 at HB BK0 BK1 hHeld ⊢
      refine take_ (i := 0) (N := some 20) (v := .agg ca) (a' := ?_) #[true, false, false, false, false, false] rfl rfl (by kernel_rfl) (fun _ _ _ h => h) (Or.inl ⟨by rfl, fun w' s => Go.Proofs.Ytocfepcgpelhdaa.RowLaw.load_run 53 _ rfl g0 rfl 53 ca _ s.1 hu1 rfl SA.out⟩) hHeld ?_ ?_
      rotate_left
      · simp only [Act.put, List.setIfInBounds_toArray, List.set_cons_zero, List.set_cons_succ, i64_w, i32_w]
        rfl
      refine take_ (i := 2) (N := some 22) (v := .agg cb) (a' := ?_) #[true, false, true, false, false, false] rfl rfl (by kernel_rfl) (fun _ _ _ h => h) (Or.inl ⟨by rfl, fun w' s => Go.Proofs.Ytocfepcgpelhdaa.RowLaw.load_run 53 _ rfl g1 rfl 53 cb _ s.2 hu1 rfl SB.out⟩) hHeld ?_ ?_
      rotate_left
      · simp only [Act.put, List.setIfInBounds_toArray, List.set_cons_zero, List.set_cons_succ, i64_w, i32_w]
        rfl
      refine one_ (i := 1) (N := some 21) #[true, true, true, false, false, false] rfl rfl (by kernel_rfl) (by decide) (fun K hK => ?_)
      refine goes_ Try.func19 (by kernel_rfl) rfl #[.agg ca] (by rfl) rfl rfl (by (try simp only [List.map_toArray, List.map_cons, List.map_nil]); first | done | rfl) ?_
      with_reducible refine (toO_calls k x ca b1 _ ?side1 A3.out).mono ?_
      (case side1 => exact k53.K_below HB.out KA.out)
      rintro e wc21 ⟨cx, rfl, kx, hb⟩
      refine ⟨_, rfl, ?_⟩
      have n0_ := Aside0.mk (below_step HB.out hb)
      have n1_ := Aside0.mk (blk_below BK0.out hb)
      have n2_ := Aside0.mk (blk_below BK1.out hb)
      clear HB BK0 BK1
      have HB := n0_
      have BK0 := n1_
      have BK1 := n2_
      clear n0_ n1_ n2_
      have KX := Aside0.mk kx
      clear kx
      clear hb
      refine hK.out _ _ ⟨BK0.out, BK1.out⟩ (fun hHeld => ?_)
      clear hK K
      refine norm_ (a' := ?_) ?_ ?_
      rotate_left
      · show Act.put _ (some 21) _ = _
        simp only [Act.put, List.setIfInBounds_toArray, List.set_cons_zero, List.set_cons_succ, i64_w, i32_w]
        rfl
      refine one_ (i := 3) (N := some 23) #[true, true, true, true, false, false] rfl rfl (by kernel_rfl) (by decide) (fun K hK => ?_)
      refine goes_ Try.func19 (by kernel_rfl) rfl #[.agg cb] (by rfl) rfl rfl (by (try simp only [List.map_toArray, List.map_cons, List.map_nil]); first | done | rfl) ?_
      with_reducible refine (toO_calls k y cb b2 _ ?side1 A4.out).mono ?_
      (case side1 => exact k53.K_below HB.out KB.out)
      rintro e wc23 ⟨cy, rfl, ky, hb⟩
      refine ⟨_, rfl, ?_⟩
      have n0_ := Aside0.mk (below_step HB.out hb)
      have n1_ := Aside0.mk (blk_below BK0.out hb)
      have n2_ := Aside0.mk (blk_below BK1.out hb)
      have n3_ := Aside0.mk (k60.K_below hb KX.out)
      clear HB BK0 BK1 KX
      have HB := n0_
      have BK0 := n1_
      have BK1 := n2_
      have KX := n3_
      clear n0_ n1_ n2_ n3_
      have KY := Aside0.mk ky
      clear ky
      clear hb
      refine hK.out _ _ ⟨BK0.out, BK1.out⟩ (fun hHeld => ?_)
      clear hK K
      refine norm_ (a' := ?_) ?_ ?_
      rotate_left
      · show Act.put _ (some 23) _ = _
        simp only [Act.put, List.setIfInBounds_toArray, List.set_cons_zero, List.set_cons_succ, i64_w, i32_w]
        rfl
      refine one_ (i := 4) (N := some 24) #[true, true, true, true, true, false] rfl rfl (by kernel_rfl) (by decide) (fun K hK => ?_)
      refine goes_ Try.func18 (by kernel_rfl) rfl #[.agg cx, .agg cy] (by rfl) rfl rfl (by (try simp only [List.map_toArray, List.map_cons, List.map_nil]); first | done | rfl) ?_
      with_reducible refine (specO_calls k b1 b2 cx cy t4 _ ?side1 ?side2 A5.out).mono ?_
      (case side1 => exact KX.out)
      (case side2 => exact KY.out)
      rintro e wc24 ⟨rfl, hb⟩
      refine ⟨_, rfl, ?_⟩
      have n0_ := Aside0.mk (below_step HB.out hb)
      have n1_ := Aside0.mk (blk_below BK0.out hb)
      have n2_ := Aside0.mk (blk_below BK1.out hb)
      clear HB BK0 BK1
      have HB := n0_
      have BK0 := n1_
      have BK1 := n2_
      clear n0_ n1_ n2_
      clear KX KY
      clear hb
      refine hK.out _ _ ⟨BK0.out, BK1.out⟩ (fun hHeld => ?_)
      clear hK K
      refine norm_ (a' := ?_) ?_ ?_
      rotate_left
      · show Act.put _ (some 24) _ = _
        simp only [Act.put, List.setIfInBounds_toArray, List.set_cons_zero, List.set_cons_succ, i64_w, i32_w]
        rfl
      refine pure_ (i := 5) (N := some 6) (v := ?_) (a' := ?_) #[true, true, true, true, true, true] rfl rfl (by kernel_rfl) (fun _ _ _ h => h) (Or.inl ⟨by rfl, ?_⟩) ?_ ?_
      rotate_left
      · intro w'
        go_simp
        with_reducible rfl
      rotate_left
      · simp only [Act.put, List.setIfInBounds_toArray, List.set_cons_zero, List.set_cons_succ, i64_w, i32_w]
        rfl
      refine done_ (by kernel_rfl) ?_
      go_wp2_with (first | ((with_reducible refine gate_dst (N := 25) rfl ?_); refine wpList_load_row rfl 53 _ rfl g0 rfl 53 ca (0, 0) _ BK0.out hu1 rfl SA.out ?_; (try simp only [Act.put, List.setIfInBounds_toArray, List.set_cons_zero, List.set_cons_succ])) | ((with_reducible refine gate_callee (f := 19) rfl ?_); refine goesL_ (some 26) rfl rfl Try.func19 (by kernel_rfl) rfl #[.agg ca] rfl (by (try simp only [List.map_toArray, List.map_cons, List.map_nil]); first | done | rfl) ?_; (with_reducible refine (toO_calls k x ca b3 _ ?side1 A6.out).mono ?_); (case side1 => exact k53.K_below HB.out KA.out); rintro e wc26 ⟨cx, rfl, kx, hb⟩; refine ⟨_, rfl, ?_⟩; have n0_ := Aside0.mk (below_step HB.out hb); have n1_ := Aside0.mk (blk_below BK0.out hb); have n2_ := Aside0.mk (blk_below BK1.out hb); clear HB BK0 BK1; have HB := n0_; have BK0 := n1_; have BK1 := n2_; clear n0_ n1_ n2_; have KX := Aside0.mk kx; have Scx := Aside0.mk ((by rw [Go.Proofs.Ytocfepcgpelhdaa.RowLaw.size_of kx]; kernel_rfl) : (Try.prog.info? 60).map (·.size) = some cx.size); have Zcx := Aside0.mk ((Go.Proofs.Ytocfepcgpelhdaa.RowLaw.size_of kx).symm : 15 = cx.size); clear kx; clear hb; (try simp only [Act.put, List.setIfInBounds_toArray, List.set_cons_zero, List.set_cons_succ])) | ((with_reducible refine gate_dst (N := 7) rfl ?_); refine box_event ?hg (N := 7) ?hd (cs := #[.int .i64 0, .int .i64 0, .string (⟨#[]⟩ : ByteArray), .bool false, .int .i64 0, .int .i64 0, .int .i64 0, .int .i64 0, .bool false, .int .i64 0, .int .i64 0, .slice none 0 0, .slice none 0 0, .slice none 0 0, .slice none 0 0]) (t := 60) ?hr ?_; (case hd => rfl); (case hg => rfl); (case hr => first | (go_simp; done) | (go_simp; rfl)); intro g2 hg wb2 hbox hb; have HX := Aside0.mk hb; have HG := Aside0.mk (Nat.le_of_eq hg.symm); have BK2 := Aside0.mk hbox; clear hb hg hbox; (try simp only [Act.put, List.setIfInBounds_toArray, List.set_cons_zero, List.set_cons_succ])) | ((with_reducible refine gate_store (t := 60) (p := 7) rfl ?_); refine Go.Proofs.Ytocfepcgpelhdaa.RowLaw.store_event rfl 60 _ _ rfl g2 cx rfl rfl 60 _ BK2.out Scx.out Zcx.out (Go.Proofs.Ytocfepcgpelhdaa.RowLaw.all_one KX.out) ?_; intro wt2 hbox hst; have hb := hst _ _ HX.out HG.out; clear hst HX HG BK2 Zcx; have n0_ := Aside0.mk (below_step HB.out hb); have n1_ := Aside0.mk (blk_below BK0.out hb); have n2_ := Aside0.mk (blk_below BK1.out hb); have n3_ := Aside0.mk (k60.K_below hb KX.out); clear HB BK0 BK1 KX; have HB := n0_; have BK0 := n1_; have BK1 := n2_; have KX := n3_; clear n0_ n1_ n2_ n3_; have BK2 := Aside0.mk hbox; clear hb hbox; (try simp only [Act.put, List.setIfInBounds_toArray, List.set_cons_zero, List.set_cons_succ])) | ((with_reducible refine gate_dst (N := 27) rfl ?_); refine wpList_load_row rfl 53 _ rfl g1 rfl 53 cb (0, 0) _ BK1.out hu1 rfl SB.out ?_; (try simp only [Act.put, List.setIfInBounds_toArray, List.set_cons_zero, List.set_cons_succ])) | ((with_reducible refine gate_callee (f := 19) rfl ?_); refine goesL_ (some 28) rfl rfl Try.func19 (by kernel_rfl) rfl #[.agg cb] rfl (by (try simp only [List.map_toArray, List.map_cons, List.map_nil]); first | done | rfl) ?_; (with_reducible refine (toO_calls k y cb b4 _ ?side1 A7.out).mono ?_); (case side1 => exact k53.K_below HB.out KB.out); rintro e wc28 ⟨cy, rfl, kx, hb⟩; refine ⟨_, rfl, ?_⟩; have n0_ := Aside0.mk (below_step HB.out hb); have n1_ := Aside0.mk (blk_below BK0.out hb); have n2_ := Aside0.mk (blk_below BK1.out hb); have n3_ := Aside0.mk (k60.K_below hb KX.out); have n4_ := Aside0.mk (blk_below BK2.out hb); clear HB BK0 BK1 KX BK2; have HB := n0_; have BK0 := n1_; have BK1 := n2_; have KX := n3_; have BK2 := n4_; clear n0_ n1_ n2_ n3_ n4_; have KY := Aside0.mk kx; have Scy := Aside0.mk ((by rw [Go.Proofs.Ytocfepcgpelhdaa.RowLaw.size_of kx]; kernel_rfl) : (Try.prog.info? 60).map (·.size) = some cy.size); have Zcy := Aside0.mk ((Go.Proofs.Ytocfepcgpelhdaa.RowLaw.size_of kx).symm : 15 = cy.size); clear kx; clear hb; (try simp only [Act.put, List.setIfInBounds_toArray, List.set_cons_zero, List.set_cons_succ])) | ((with_reducible refine gate_dst (N := 8) rfl ?_); refine box_event ?hg (N := 8) ?hd (cs := #[.int .i64 0, .int .i64 0, .string (⟨#[]⟩ : ByteArray), .bool false, .int .i64 0, .int .i64 0, .int .i64 0, .int .i64 0, .bool false, .int .i64 0, .int .i64 0, .slice none 0 0, .slice none 0 0, .slice none 0 0, .slice none 0 0]) (t := 60) ?hr ?_; (case hd => rfl); (case hg => rfl); (case hr => first | (go_simp; done) | (go_simp; rfl)); intro g3 hg wb3 hbox hb; have HX := Aside0.mk hb; have HG := Aside0.mk (Nat.le_of_eq hg.symm); have BK3 := Aside0.mk hbox; clear hb hg hbox; (try simp only [Act.put, List.setIfInBounds_toArray, List.set_cons_zero, List.set_cons_succ])) | ((with_reducible refine gate_store (t := 60) (p := 8) rfl ?_); refine Go.Proofs.Ytocfepcgpelhdaa.RowLaw.store_event rfl 60 _ _ rfl g3 cy rfl rfl 60 _ BK3.out Scy.out Zcy.out (Go.Proofs.Ytocfepcgpelhdaa.RowLaw.all_one KY.out) ?_; intro wt3 hbox hst; have hb := hst _ _ HX.out HG.out; clear hst HX HG BK3 Zcy; have n0_ := Aside0.mk (below_step HB.out hb); have n1_ := Aside0.mk (blk_below BK0.out hb); have n2_ := Aside0.mk (blk_below BK1.out hb); have n3_ := Aside0.mk (k60.K_below hb KX.out); have n4_ := Aside0.mk (blk_below BK2.out hb); have n5_ := Aside0.mk (k60.K_below hb KY.out); clear HB BK0 BK1 KX BK2 KY; have HB := n0_; have BK0 := n1_; have BK1 := n2_; have KX := n3_; have BK2 := n4_; have KY := n5_; clear n0_ n1_ n2_ n3_ n4_ n5_; have BK3 := Aside0.mk hbox; clear hb hbox; (try simp only [Act.put, List.setIfInBounds_toArray, List.set_cons_zero, List.set_cons_succ])) | ((with_reducible refine gate_dst (N := 29) rfl ?_); refine wpList_load_row rfl 60 _ rfl g2 rfl 60 cx (0, 0) _ BK2.out hu2 rfl Scx.out ?_; (try simp only [Act.put, List.setIfInBounds_toArray, List.set_cons_zero, List.set_cons_succ])) | ((with_reducible refine gate_dst (N := 30) rfl ?_); refine wpList_load_row rfl 60 _ rfl g3 rfl 60 cy (0, 0) _ BK3.out hu2 rfl Scy.out ?_; (try simp only [Act.put, List.setIfInBounds_toArray, List.set_cons_zero, List.set_cons_succ])) | ((with_reducible refine gate_callee (f := 20) rfl ?_); refine goesL_ (some 31) rfl rfl Try.func20 (by kernel_rfl) rfl #[.agg cx, .agg cy] rfl (by (try simp only [List.map_toArray, List.map_cons, List.map_nil]); first | done | rfl) ?_; (with_reducible refine (implO_calls k b3 b4 cx cy t4 _ ?side1 ?side2 A8.out).mono ?_); (case side1 => exact KX.out); (case side2 => exact KY.out); rintro e wc31 ⟨rfl, hb⟩; refine ⟨_, rfl, ?_⟩; have n0_ := Aside0.mk (below_step HB.out hb); have n1_ := Aside0.mk (blk_below BK0.out hb); have n2_ := Aside0.mk (blk_below BK1.out hb); have n3_ := Aside0.mk (k60.K_below hb KX.out); have n4_ := Aside0.mk (blk_below BK2.out hb); have n5_ := Aside0.mk (k60.K_below hb KY.out); have n6_ := Aside0.mk (blk_below BK3.out hb); clear HB BK0 BK1 KX BK2 KY BK3; have HB := n0_; have BK0 := n1_; have BK1 := n2_; have KX := n3_; have BK2 := n4_; have KY := n5_; have BK3 := n6_; clear n0_ n1_ n2_ n3_ n4_ n5_ n6_; clear hb; (try simp only [Act.put, List.setIfInBounds_toArray, List.set_cons_zero, List.set_cons_succ])))
      have n0_ := Aside0.mk (below_drew1 HB.out)
      have n1_ := Aside0.mk (blk_drew BK0.out)
      have n2_ := Aside0.mk (blk_drew BK1.out)
      have n3_ := Aside0.mk (k60.K_below (below_drew1 (Below.refl _ _)) KX.out)
      have n4_ := Aside0.mk (blk_drew BK2.out)
      have n5_ := Aside0.mk (k60.K_below (below_drew1 (Below.refl _ _)) KY.out)
      have n6_ := Aside0.mk (blk_drew BK3.out)
      clear HB BK0 BK1 KX BK2 KY BK3
      have HB := n0_
      have BK0 := n1_
      have BK1 := n2_
      have KX := n3_
      have BK2 := n4_
      have KY := n5_
      have BK3 := n6_
      clear n0_ n1_ n2_ n3_ n4_ n5_ n6_
      refine start_ (n := 5) (S := fun w' => w'.heap[g2]? = some (.cells cx 60 (0, 0)) ∧ w'.heap[g0]? = some (.cells ca 53 (0, 0))) (ds := []) #[false, false, false, false, false] (by kernel_rfl) rfl rfl ⟨BK2.out, BK0.out⟩ (fun hHeld => ?_)
      generalize _root_.Go.World.drew _ = wr14 at HB BK0 BK1 KX BK2 KY BK3 hHeld ⊢
      refine take_ (i := 0) (N := some 35) (v := .agg cx) (a' := ?_) #[true, false, false, false, false] rfl rfl (by kernel_rfl) (fun _ _ _ h => h) (Or.inl ⟨by rfl, fun w' s => Go.Proofs.Ytocfepcgpelhdaa.RowLaw.load_run 60 _ rfl g2 rfl 60 cx _ s.1 hu2 rfl Scx.out⟩) hHeld ?_ ?_
      rotate_left
      · simp only [Act.put, List.setIfInBounds_toArray, List.set_cons_zero, List.set_cons_succ, i64_w, i32_w]
        rfl
      refine take_ (i := 1) (N := some 36) (v := .agg ca) (a' := ?_) #[true, true, false, false, false] rfl rfl (by kernel_rfl) (fun _ _ _ h => h) (Or.inl ⟨by rfl, fun w' s => Go.Proofs.Ytocfepcgpelhdaa.RowLaw.load_run 53 _ rfl g0 rfl 53 ca _ s.2 hu1 rfl SA.out⟩) hHeld ?_ ?_
      rotate_left
      · simp only [Act.put, List.setIfInBounds_toArray, List.set_cons_zero, List.set_cons_succ, i64_w, i32_w]
        rfl
      refine one_ (i := 2) (N := some 37) #[true, true, true, false, false] rfl rfl (by kernel_rfl) (by decide) (fun K hK => ?_)
      refine goes_ Try.func19 (by kernel_rfl) rfl #[.agg ca] (by rfl) rfl rfl (by (try simp only [List.map_toArray, List.map_cons, List.map_nil]); first | done | rfl) ?_
      with_reducible refine (toO_calls k x ca b5 _ ?side1 A9.out).mono ?_
      (case side1 => exact k53.K_below HB.out KA.out)
      rintro e wc37 ⟨cz, rfl, kz, hb⟩
      refine ⟨_, rfl, ?_⟩
      have n0_ := Aside0.mk (below_step HB.out hb)
      have n1_ := Aside0.mk (blk_below BK0.out hb)
      have n2_ := Aside0.mk (blk_below BK1.out hb)
      have n3_ := Aside0.mk (k60.K_below hb KX.out)
      have n4_ := Aside0.mk (blk_below BK2.out hb)
      have n5_ := Aside0.mk (k60.K_below hb KY.out)
      have n6_ := Aside0.mk (blk_below BK3.out hb)
      clear HB BK0 BK1 KX BK2 KY BK3
      have HB := n0_
      have BK0 := n1_
      have BK1 := n2_
      have KX := n3_
      have BK2 := n4_
      have KY := n5_
      have BK3 := n6_
      clear n0_ n1_ n2_ n3_ n4_ n5_ n6_
      have KZ := Aside0.mk kz
      clear kz
      clear hb
      refine hK.out _ _ ⟨BK2.out, BK0.out⟩ (fun hHeld => ?_)
      clear hK K
      refine norm_ (a' := ?_) ?_ ?_
      rotate_left
      · show Act.put _ (some 37) _ = _
        simp only [Act.put, List.setIfInBounds_toArray, List.set_cons_zero, List.set_cons_succ, i64_w, i32_w]
        rfl
      refine one_ (i := 3) (N := some 38) #[true, true, true, true, false] rfl rfl (by kernel_rfl) (by decide) (fun K hK => ?_)
      refine goes_ Try.func21 (by kernel_rfl) rfl #[.agg cx, .agg cz] (by rfl) rfl rfl (by (try simp only [List.map_toArray, List.map_cons, List.map_nil]); first | done | rfl) ?_
      with_reducible refine (eqO_calls k b3 b5 cx cz true _ ?side1 ?side2 A10.out).mono ?_
      (case side1 => exact KX.out)
      (case side2 => exact KZ.out)
      rintro e wc38 ⟨rfl, hb⟩
      refine ⟨_, rfl, ?_⟩
      have n0_ := Aside0.mk (below_step HB.out hb)
      have n1_ := Aside0.mk (blk_below BK0.out hb)
      have n2_ := Aside0.mk (blk_below BK1.out hb)
      have n3_ := Aside0.mk (k60.K_below hb KX.out)
      have n4_ := Aside0.mk (blk_below BK2.out hb)
      have n5_ := Aside0.mk (k60.K_below hb KY.out)
      have n6_ := Aside0.mk (blk_below BK3.out hb)
      clear HB BK0 BK1 KX BK2 KY BK3
      have HB := n0_
      have BK0 := n1_
      have BK1 := n2_
      have KX := n3_
      have BK2 := n4_
      have KY := n5_
      have BK3 := n6_
      clear n0_ n1_ n2_ n3_ n4_ n5_ n6_
      clear KZ
      clear hb
      refine hK.out _ _ ⟨BK2.out, BK0.out⟩ (fun hHeld => ?_)
      clear hK K
      refine norm_ (a' := ?_) ?_ ?_
      rotate_left
      · show Act.put _ (some 38) _ = _
        simp only [Act.put, List.setIfInBounds_toArray, List.set_cons_zero, List.set_cons_succ, i64_w, i32_w]
        rfl
      refine pure_ (i := 4) (N := some 39) (v := ?_) (a' := ?_) #[true, true, true, true, true] rfl rfl (by kernel_rfl) (fun _ _ _ h => h) (Or.inl ⟨by rfl, ?_⟩) ?_ ?_
      rotate_left
      · intro w'
        go_simp
        with_reducible rfl
      rotate_left
      · simp only [Act.put, List.setIfInBounds_toArray, List.set_cons_zero, List.set_cons_succ, i64_w, i32_w]
        rfl
      refine done_ (by kernel_rfl) ?_
      try go_wp2
      have n0_ := Aside0.mk (below_drew1 HB.out)
      have n1_ := Aside0.mk (blk_drew BK0.out)
      have n2_ := Aside0.mk (blk_drew BK1.out)
      have n3_ := Aside0.mk (k60.K_below (below_drew1 (Below.refl _ _)) KX.out)
      have n4_ := Aside0.mk (blk_drew BK2.out)
      have n5_ := Aside0.mk (k60.K_below (below_drew1 (Below.refl _ _)) KY.out)
      have n6_ := Aside0.mk (blk_drew BK3.out)
      clear HB BK0 BK1 KX BK2 KY BK3
      have HB := n0_
      have BK0 := n1_
      have BK1 := n2_
      have KX := n3_
      have BK2 := n4_
      have KY := n5_
      have BK3 := n6_
      clear n0_ n1_ n2_ n3_ n4_ n5_ n6_
      refine start_ (n := 5) (S := fun w' => w'.heap[g3]? = some (.cells cy 60 (0, 0)) ∧ w'.heap[g1]? = some (.cells cb 53 (0, 0))) (ds := []) #[false, false, false, false, false] (by kernel_rfl) rfl rfl ⟨BK3.out, BK1.out⟩ (fun hHeld => ?_)
      generalize _root_.Go.World.drew _ = wr16 at HB BK0 BK1 KX BK2 KY BK3 hHeld ⊢
      refine take_ (i := 0) (N := some 40) (v := .agg cy) (a' := ?_) #[true, false, false, false, false] rfl rfl (by kernel_rfl) (fun _ _ _ h => h) (Or.inl ⟨by rfl, fun w' s => Go.Proofs.Ytocfepcgpelhdaa.RowLaw.load_run 60 _ rfl g3 rfl 60 cy _ s.1 hu2 rfl Scy.out⟩) hHeld ?_ ?_
      rotate_left
      · simp only [Act.put, List.setIfInBounds_toArray, List.set_cons_zero, List.set_cons_succ, i64_w, i32_w]
        rfl
      refine take_ (i := 1) (N := some 41) (v := .agg cb) (a' := ?_) #[true, true, false, false, false] rfl rfl (by kernel_rfl) (fun _ _ _ h => h) (Or.inl ⟨by rfl, fun w' s => Go.Proofs.Ytocfepcgpelhdaa.RowLaw.load_run 53 _ rfl g1 rfl 53 cb _ s.2 hu1 rfl SB.out⟩) hHeld ?_ ?_
      rotate_left
      · simp only [Act.put, List.setIfInBounds_toArray, List.set_cons_zero, List.set_cons_succ, i64_w, i32_w]
        rfl
      refine one_ (i := 2) (N := some 42) #[true, true, true, false, false] rfl rfl (by kernel_rfl) (by decide) (fun K hK => ?_)
      refine goes_ Try.func19 (by kernel_rfl) rfl #[.agg cb] (by rfl) rfl rfl (by (try simp only [List.map_toArray, List.map_cons, List.map_nil]); first | done | rfl) ?_
      with_reducible refine (toO_calls k y cb b6 _ ?side1 A11.out).mono ?_
      (case side1 => exact k53.K_below HB.out KB.out)
      rintro e wc42 ⟨cz, rfl, kz, hb⟩
      refine ⟨_, rfl, ?_⟩
      have n0_ := Aside0.mk (below_step HB.out hb)
      have n1_ := Aside0.mk (blk_below BK0.out hb)
      have n2_ := Aside0.mk (blk_below BK1.out hb)
      have n3_ := Aside0.mk (k60.K_below hb KX.out)
      have n4_ := Aside0.mk (blk_below BK2.out hb)
      have n5_ := Aside0.mk (k60.K_below hb KY.out)
      have n6_ := Aside0.mk (blk_below BK3.out hb)
      clear HB BK0 BK1 KX BK2 KY BK3
      have HB := n0_
      have BK0 := n1_
      have BK1 := n2_
      have KX := n3_
      have BK2 := n4_
      have KY := n5_
      have BK3 := n6_
      clear n0_ n1_ n2_ n3_ n4_ n5_ n6_
      have KZ := Aside0.mk kz
      clear kz
      clear hb
      refine hK.out _ _ ⟨BK3.out, BK1.out⟩ (fun hHeld => ?_)
      clear hK K
      refine norm_ (a' := ?_) ?_ ?_
      rotate_left
      · show Act.put _ (some 42) _ = _
        simp only [Act.put, List.setIfInBounds_toArray, List.set_cons_zero, List.set_cons_succ, i64_w, i32_w]
        rfl
      refine one_ (i := 3) (N := some 43) #[true, true, true, true, false] rfl rfl (by kernel_rfl) (by decide) (fun K hK => ?_)
      refine goes_ Try.func21 (by kernel_rfl) rfl #[.agg cy, .agg cz] (by rfl) rfl rfl (by (try simp only [List.map_toArray, List.map_cons, List.map_nil]); first | done | rfl) ?_
      with_reducible refine (eqO_calls k b4 b6 cy cz true _ ?side1 ?side2 A12.out).mono ?_
      (case side1 => exact KY.out)
      (case side2 => exact KZ.out)
      rintro e wc43 ⟨rfl, hb⟩
      refine ⟨_, rfl, ?_⟩
      have n0_ := Aside0.mk (below_step HB.out hb)
      have n1_ := Aside0.mk (blk_below BK0.out hb)
      have n2_ := Aside0.mk (blk_below BK1.out hb)
      have n3_ := Aside0.mk (k60.K_below hb KX.out)
      have n4_ := Aside0.mk (blk_below BK2.out hb)
      have n5_ := Aside0.mk (k60.K_below hb KY.out)
      have n6_ := Aside0.mk (blk_below BK3.out hb)
      clear HB BK0 BK1 KX BK2 KY BK3
      have HB := n0_
      have BK0 := n1_
      have BK1 := n2_
      have KX := n3_
      have BK2 := n4_
      have KY := n5_
      have BK3 := n6_
      clear n0_ n1_ n2_ n3_ n4_ n5_ n6_
      clear KZ
      clear hb
      refine hK.out _ _ ⟨BK3.out, BK1.out⟩ (fun hHeld => ?_)
      clear hK K
      refine norm_ (a' := ?_) ?_ ?_
      rotate_left
      · show Act.put _ (some 43) _ = _
        simp only [Act.put, List.setIfInBounds_toArray, List.set_cons_zero, List.set_cons_succ, i64_w, i32_w]
        rfl
      refine pure_ (i := 4) (N := some 44) (v := ?_) (a' := ?_) #[true, true, true, true, true] rfl rfl (by kernel_rfl) (fun _ _ _ h => h) (Or.inl ⟨by rfl, ?_⟩) ?_ ?_
      rotate_left
      · intro w'
        go_simp
        with_reducible rfl
      rotate_left
      · simp only [Act.put, List.setIfInBounds_toArray, List.set_cons_zero, List.set_cons_succ, i64_w, i32_w]
        rfl
      refine done_ (by kernel_rfl) ?_
      try go_wp2
      go_ret
      exact ⟨rfl, HB.out⟩
/-- What is known of a value of struct type 119 that came in. -/
inductive G119 : S119 → Prop where
  | mk (x : S119) (h0 : (Lit.int .i64 x.f0).wf = true) (h1 : (Lit.int .i64 x.f1).wf = true) : G119 x
/-- What is known of a value of struct type 121 that came in. -/
inductive G121 : S121 → Prop where
  | mk (x : S121) (h0 : (Lit.int .i64 x.f0).wf = true) (h1 : (Lit.int .i64 x.f1).wf = true) (h2 : (Lit.int .i64 x.f2).wf = true) (h3 : (Lit.int .i64 x.f3).wf = true) (h4 : (Lit.int .i64 x.f4).wf = true) (h5 : (Lit.int .i64 x.f5).wf = true) : G121 x
/-- What is known of a value of struct type 117 that came in. -/
inductive G117 : S117 → Prop where
  | mk (x : S117) (h0 : x.f0.size ≤ 9223372036854775807) (h1 : x.f1.size ≤ 9223372036854775807) (h2 : (Lit.int .i64 x.f2).wf = true) (h3 : (Lit.int .i64 x.f3).wf = true) : G117 x
/-- What is known of a value of struct type 53 that came in. -/
inductive G53 : S53 → Prop where
  | mk (x : S53) (h0 : (Lit.int .i64 x.f0).wf = true) (h1 : (Lit.int .i64 x.f1).wf = true) (h2 : x.f2.size ≤ 9223372036854775807) (h4 : (Lit.int .i64 x.f4).wf = true) (h5 : (Lit.int .i64 x.f5).wf = true) (h6 : (Lit.int .i64 x.f6).wf = true) (h7 : (Lit.int .i64 x.f7).wf = true) (h9 : (Lit.int .i64 x.f9).wf = true) (h10 : (Lit.int .i64 x.f10).wf = true) (h11 : x.f11.length ≤ 9223372036854775807) (h11k : ∀ y_, y_ ∈ x.f11 → G119 y_) (h12 : x.f12.length ≤ 9223372036854775807) (h12k : ∀ y_, y_ ∈ x.f12 → G121 y_) (h13 : x.f13.length ≤ 9223372036854775807) (h13k : ∀ y_, y_ ∈ x.f13 → G117 y_) (h14 : x.f14.length ≤ 9223372036854775807) (h14k : ∀ y_, y_ ∈ x.f14 → G117 y_) : G53 x

/-- THE ONE PURE STATEMENT of laws_FnExactSameMatcher. -/
def laws_FnExactSameMatcher.Pure : Prop := ∀ (x0 : S53) (x1 : S53), (G53 x0) → (G53 x1) → ∃ k, laws_FnExactSameMatcher.f k x0 x1 = some true
theorem laws_FnExactSameMatcher.walk (P : laws_FnExactSameMatcher.Pure) (x0 : S53) (A0_11 : Option Addr) (c0_11 : Nat) (A0_12 : Option Addr) (c0_12 : Nat) (A0_13 : Option Addr) (c0_13 : Nat) (A0_14 : Option Addr) (c0_14 : Nat) (x1 : S53) (A1_11 : Option Addr) (c1_11 : Nat) (A1_12 : Option Addr) (c1_12 : Nat) (A1_13 : Option Addr) (c1_13 : Nat) (A1_14 : Option Addr) (c1_14 : Nat) (w : World) (g0 : G53 x0) (r0_11 : Kd.C k119 w A0_11 (x0.f11).length (x0.f11)) (l0_11 : (x0.f11).length ≤ c0_11) (r0_12 : Kd.C k121 w A0_12 (x0.f12).length (x0.f12)) (l0_12 : (x0.f12).length ≤ c0_12) (r0_13 : Kd.C k117 w A0_13 (x0.f13).length (x0.f13)) (l0_13 : (x0.f13).length ≤ c0_13) (r0_14 : Kd.C k117 w A0_14 (x0.f14).length (x0.f14)) (l0_14 : (x0.f14).length ≤ c0_14) (g1 : G53 x1) (r1_11 : Kd.C k119 w A1_11 (x1.f11).length (x1.f11)) (l1_11 : (x1.f11).length ≤ c1_11) (r1_12 : Kd.C k121 w A1_12 (x1.f12).length (x1.f12)) (l1_12 : (x1.f12).length ≤ c1_12) (r1_13 : Kd.C k117 w A1_13 (x1.f13).length (x1.f13)) (l1_13 : (x1.f13).length ≤ c1_13) (r1_14 : Kd.C k117 w A1_14 (x1.f14).length (x1.f14)) (l1_14 : (x1.f14).length ≤ c1_14) :
    Calls Try.prog 5 #[.agg #[.int .i64 (x0.f0), .int .i64 (x0.f1), .string (x0.f2), .bool (x0.f3), .int .i64 (x0.f4), .int .i64 (x0.f5), .int .i64 (x0.f6), .int .i64 (x0.f7), .bool (x0.f8), .int .i64 (x0.f9), .int .i64 (x0.f10), .slice A0_11 (x0.f11).length c0_11, .slice A0_12 (x0.f12).length c0_12, .slice A0_13 (x0.f13).length c0_13, .slice A0_14 (x0.f14).length c0_14], .agg #[.int .i64 (x1.f0), .int .i64 (x1.f1), .string (x1.f2), .bool (x1.f3), .int .i64 (x1.f4), .int .i64 (x1.f5), .int .i64 (x1.f6), .int .i64 (x1.f7), .bool (x1.f8), .int .i64 (x1.f9), .int .i64 (x1.f10), .slice A1_11 (x1.f11).length c1_11, .slice A1_12 (x1.f12).length c1_12, .slice A1_13 (x1.f13).length c1_13, .slice A1_14 (x1.f14).length c1_14]] w fun e w' => e = .returned (.bool true) ∧ Below w.heap.size w w' := by
  obtain ⟨k, h⟩ := P x0 x1 g0 g1
  exact laws_FnExactSameMatcher.opaque_ k x0 x1 _ _ true w (k53_mk w x0 l0_11 r0_11 l0_12 r0_12 l0_13 r0_13 l0_14 r0_14) (k53_mk w x1 l1_11 r1_11 l1_12 r1_12 l1_13 r1_13 l1_14 r1_14) h

end Go.Proofs.Ytocfepcgpelhdaa.PFnExactSameMatcher
