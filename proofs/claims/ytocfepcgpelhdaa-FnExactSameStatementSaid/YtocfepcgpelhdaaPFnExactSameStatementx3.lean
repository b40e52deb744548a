/- By a program of this session: for each Go function that the law reaches, a Lean function with the same answers, and that the code comes to exactly these answers. Conditions: none beyond each statement. -/
import Derived.Test.YtocfepcgpelhdaaPFnExactSameStatementx0
import Derived.Test.YtocfepcgpelhdaaPFnExactSameStatementx1
import Derived.Test.YtocfepcgpelhdaaPFnExactSameStatementx2
namespace Go.Proofs.Ytocfepcgpelhdaa.PFnExactSameStatement
open Go.RowKit Go.Proofs.YtocfepcgpelhdaaW.PrintWords Go.Proofs.YtocfepcgpelhdaaW.PrintLast Go.Proofs.YtocfepcgpelhdaaW.PrintMore
attribute [local go_sem] max2_int min2_int max_two min_two max_three min_three max_four min_four   -- for this text's walks alone
set_option linter.unusedVariables false
set_option linter.unusedSimpArgs false
attribute [local go_sem high] eqA34
def spec_SameStatement.j0 : Nat → Bool → ByteArray → Bool → Int → Int → ByteArray → List (S33) → Bool → Int → Int → ByteArray → List (S33) → Bool → Int → Int → ByteArray → List (S33) → ByteArray → ByteArray → ByteArray → ByteArray → Bool → Int → Int → ByteArray → List (S33) → Bool → Int → Int → ByteArray → List (S33) → Bool → Int → Int → ByteArray → List (S33) → ByteArray → ByteArray → ByteArray → Option (Bool)
  | 0, _, _, _, _, _, _, _, _, _, _, _, _, _, _, _, _, _, _, _, _, _, _, _, _, _, _, _, _, _, _, _, _, _, _, _, _, _, _, _ => none
  | k + 1, x37, x112000, x112001, x112002, x112003, x112004, x112005, x112006, x112007, x112008, x112009, x112010, x112011, x112012, x112013, x112014, x112015, x112016, x112017, x112018, x113000, x113001, x113002, x113003, x113004, x113005, x113006, x113007, x113008, x113009, x113010, x113011, x113012, x113013, x113014, x113015, x113016, x113017, x113018 => if x37 = true then (some false) else ((spec_SameExpr.f k x112002 x112003 x112004 x112005 x113002 x113003 x113004 x113005).bind fun t113 => (if t113 = true then ((spec_SameExpr.f k x112007 x112008 x112009 x112010 x113007 x113008 x113009 x113010).bind fun t114 => (if t114 = true then ((spec_SameExpr.f k x112012 x112013 x112014 x112015 x113012 x113013 x113014 x113015).bind fun t115 => (some t115)) else (some false))) else (some false)))
def spec_SameStatement.f (k : Nat) (a0_0 : ByteArray) (a0_1 : Bool) (a0_2 : Int) (a0_3 : Int) (a0_4 : ByteArray) (l0_5 : List (S33)) (a0_6 : Bool) (a0_7 : Int) (a0_8 : Int) (a0_9 : ByteArray) (l0_10 : List (S33)) (a0_11 : Bool) (a0_12 : Int) (a0_13 : Int) (a0_14 : ByteArray) (l0_15 : List (S33)) (a0_16 : ByteArray) (a0_17 : ByteArray) (a0_18 : ByteArray) (a1_0 : ByteArray) (a1_1 : Bool) (a1_2 : Int) (a1_3 : Int) (a1_4 : ByteArray) (l1_5 : List (S33)) (a1_6 : Bool) (a1_7 : Int) (a1_8 : Int) (a1_9 : ByteArray) (l1_10 : List (S33)) (a1_11 : Bool) (a1_12 : Int) (a1_13 : Int) (a1_14 : ByteArray) (l1_15 : List (S33)) (a1_16 : ByteArray) (a1_17 : ByteArray) (a1_18 : ByteArray) : Option (Bool) := if a0_0.toList = a1_0.toList then (if (a0_1 != a1_1) = true then (spec_SameStatement.j0 k true a0_0 a0_1 a0_2 a0_3 a0_4 l0_5 a0_6 a0_7 a0_8 a0_9 l0_10 a0_11 a0_12 a0_13 a0_14 l0_15 a0_16 a0_17 a0_18 a1_0 a1_1 a1_2 a1_3 a1_4 l1_5 a1_6 a1_7 a1_8 a1_9 l1_10 a1_11 a1_12 a1_13 a1_14 l1_15 a1_16 a1_17 a1_18) else (if (a0_6 != a1_6) = true then (spec_SameStatement.j0 k true a0_0 a0_1 a0_2 a0_3 a0_4 l0_5 a0_6 a0_7 a0_8 a0_9 l0_10 a0_11 a0_12 a0_13 a0_14 l0_15 a0_16 a0_17 a0_18 a1_0 a1_1 a1_2 a1_3 a1_4 l1_5 a1_6 a1_7 a1_8 a1_9 l1_10 a1_11 a1_12 a1_13 a1_14 l1_15 a1_16 a1_17 a1_18) else (if (a0_11 != a1_11) = true then (spec_SameStatement.j0 k true a0_0 a0_1 a0_2 a0_3 a0_4 l0_5 a0_6 a0_7 a0_8 a0_9 l0_10 a0_11 a0_12 a0_13 a0_14 l0_15 a0_16 a0_17 a0_18 a1_0 a1_1 a1_2 a1_3 a1_4 l1_5 a1_6 a1_7 a1_8 a1_9 l1_10 a1_11 a1_12 a1_13 a1_14 l1_15 a1_16 a1_17 a1_18) else (spec_SameStatement.j0 k (!(a0_16.toList == a1_16.toList) || (!(a0_17.toList == a1_17.toList) || (!(a0_18.toList == a1_18.toList)))) a0_0 a0_1 a0_2 a0_3 a0_4 l0_5 a0_6 a0_7 a0_8 a0_9 l0_10 a0_11 a0_12 a0_13 a0_14 l0_15 a0_16 a0_17 a0_18 a1_0 a1_1 a1_2 a1_3 a1_4 l1_5 a1_6 a1_7 a1_8 a1_9 l1_10 a1_11 a1_12 a1_13 a1_14 l1_15 a1_16 a1_17 a1_18)))) else (spec_SameStatement.j0 k true a0_0 a0_1 a0_2 a0_3 a0_4 l0_5 a0_6 a0_7 a0_8 a0_9 l0_10 a0_11 a0_12 a0_13 a0_14 l0_15 a0_16 a0_17 a0_18 a1_0 a1_1 a1_2 a1_3 a1_4 l1_5 a1_6 a1_7 a1_8 a1_9 l1_10 a1_11 a1_12 a1_13 a1_14 l1_15 a1_16 a1_17 a1_18)
theorem spec_SameStatement.mono_l : ∀ k, (∀ y0 y1 y2 y3 y4 y5 y6 y7 y8 y9 y10 y11 y12 y13 y14 y15 y16 y17 y18 y19 y20 y21 y22 y23 y24 y25 y26 y27 y28 y29 y30 y31 y32 y33 y34 y35 y36 y37 y38, LeO (spec_SameStatement.j0 k y0 y1 y2 y3 y4 y5 y6 y7 y8 y9 y10 y11 y12 y13 y14 y15 y16 y17 y18 y19 y20 y21 y22 y23 y24 y25 y26 y27 y28 y29 y30 y31 y32 y33 y34 y35 y36 y37 y38) (spec_SameStatement.j0 (k + 1) y0 y1 y2 y3 y4 y5 y6 y7 y8 y9 y10 y11 y12 y13 y14 y15 y16 y17 y18 y19 y20 y21 y22 y23 y24 y25 y26 y27 y28 y29 y30 y31 y32 y33 y34 y35 y36 y37 y38))
  | 0 => fun _ _ _ _ _ _ _ _ _ _ _ _ _ _ _ _ _ _ _ _ _ _ _ _ _ _ _ _ _ _ _ _ _ _ _ _ _ _ _ r h => by simp [spec_SameStatement.j0] at h
  | k + 1 => by
    have ih0 := spec_SameStatement.mono_l k
    · intro y0 y1 y2 y3 y4 y5 y6 y7 y8 y9 y10 y11 y12 y13 y14 y15 y16 y17 y18 y19 y20 y21 y22 y23 y24 y25 y26 y27 y28 y29 y30 y31 y32 y33 y34 y35 y36 y37 y38
      unfold spec_SameStatement.j0
      repeat' first
      | (with_reducible exact ih0 _ _ _ _ _ _ _ _ _ _ _ _ _ _ _ _ _ _ _ _ _ _ _ _ _ _ _ _ _ _ _ _ _ _ _ _ _ _ _)
      | (with_reducible exact spec_SameExpr.mono _ _ _ _ _ _ _ _ _)
      | (with_reducible exact LeO.refl _)
      | (with_reducible exact LeO.none _)
      | (with_reducible refine LeO.ite ?_ ?_)
      | (with_reducible refine LeO.bind ?_ (fun _ => ?_))
      | exact ih0 _ _ _ _ _ _ _ _ _ _ _ _ _ _ _ _ _ _ _ _ _ _ _ _ _ _ _ _ _ _ _ _ _ _ _ _ _ _ _
      | exact spec_SameExpr.mono _ _ _ _ _ _ _ _ _
      | exact LeO.none _
      | refine LeO.ite ?_ ?_
      | refine LeO.bind ?_ (fun _ => ?_)
theorem spec_SameStatement.mono : ∀ a0 a1 a2 a3 a4 a5 a6 a7 a8 a9 a10 a11 a12 a13 a14 a15 a16 a17 a18 a19 a20 a21 a22 a23 a24 a25 a26 a27 a28 a29 a30 a31 a32 a33 a34 a35 a36 a37 k, LeO (spec_SameStatement.f k a0 a1 a2 a3 a4 a5 a6 a7 a8 a9 a10 a11 a12 a13 a14 a15 a16 a17 a18 a19 a20 a21 a22 a23 a24 a25 a26 a27 a28 a29 a30 a31 a32 a33 a34 a35 a36 a37) (spec_SameStatement.f (k + 1) a0 a1 a2 a3 a4 a5 a6 a7 a8 a9 a10 a11 a12 a13 a14 a15 a16 a17 a18 a19 a20 a21 a22 a23 a24 a25 a26 a27 a28 a29 a30 a31 a32 a33 a34 a35 a36 a37) := by
  intro a0 a1 a2 a3 a4 a5 a6 a7 a8 a9 a10 a11 a12 a13 a14 a15 a16 a17 a18 a19 a20 a21 a22 a23 a24 a25 a26 a27 a28 a29 a30 a31 a32 a33 a34 a35 a36 a37 k
  have ih0 := spec_SameStatement.mono_l k
  unfold spec_SameStatement.f
  repeat' first
      | (with_reducible exact ih0 _ _ _ _ _ _ _ _ _ _ _ _ _ _ _ _ _ _ _ _ _ _ _ _ _ _ _ _ _ _ _ _ _ _ _ _ _ _ _)
      | (with_reducible exact spec_SameExpr.mono _ _ _ _ _ _ _ _ _)
      | (with_reducible exact LeO.refl _)
      | (with_reducible exact LeO.none _)
      | (with_reducible refine LeO.ite ?_ ?_)
      | (with_reducible refine LeO.bind ?_ (fun _ => ?_))
      | exact ih0 _ _ _ _ _ _ _ _ _ _ _ _ _ _ _ _ _ _ _ _ _ _ _ _ _ _ _ _ _ _ _ _ _ _ _ _ _ _ _
      | exact spec_SameExpr.mono _ _ _ _ _ _ _ _ _
      | exact LeO.none _
      | refine LeO.ite ?_ ?_
      | refine LeO.bind ?_ (fun _ => ?_)
set_option maxHeartbeats 8000000 in
set_option maxRecDepth 100000 in
theorem spec_SameStatement.calls (k : Nat) (a0_0 : ByteArray) (a0_1 : Bool) (a0_2 : Int) (a0_3 : Int) (a0_4 : ByteArray) (A0_5 : Option Addr) (c0_5 : Nat) (l0_5 : List (S33)) (a0_6 : Bool) (a0_7 : Int) (a0_8 : Int) (a0_9 : ByteArray) (A0_10 : Option Addr) (c0_10 : Nat) (l0_10 : List (S33)) (a0_11 : Bool) (a0_12 : Int) (a0_13 : Int) (a0_14 : ByteArray) (A0_15 : Option Addr) (c0_15 : Nat) (l0_15 : List (S33)) (a0_16 : ByteArray) (a0_17 : ByteArray) (a0_18 : ByteArray) (a1_0 : ByteArray) (a1_1 : Bool) (a1_2 : Int) (a1_3 : Int) (a1_4 : ByteArray) (A1_5 : Option Addr) (c1_5 : Nat) (l1_5 : List (S33)) (a1_6 : Bool) (a1_7 : Int) (a1_8 : Int) (a1_9 : ByteArray) (A1_10 : Option Addr) (c1_10 : Nat) (l1_10 : List (S33)) (a1_11 : Bool) (a1_12 : Int) (a1_13 : Int) (a1_14 : ByteArray) (A1_15 : Option Addr) (c1_15 : Nat) (l1_15 : List (S33)) (a1_16 : ByteArray) (a1_17 : ByteArray) (a1_18 : ByteArray) (r : Bool) (w : World) (hr0_5 : Kd.C k33 w A0_5 l0_5.length l0_5) (hc0_5 : l0_5.length ≤ c0_5) (hr0_10 : Kd.C k33 w A0_10 l0_10.length l0_10) (hc0_10 : l0_10.length ≤ c0_10) (hr0_15 : Kd.C k33 w A0_15 l0_15.length l0_15) (hc0_15 : l0_15.length ≤ c0_15) (hr1_5 : Kd.C k33 w A1_5 l1_5.length l1_5) (hc1_5 : l1_5.length ≤ c1_5) (hr1_10 : Kd.C k33 w A1_10 l1_10.length l1_10) (hc1_10 : l1_10.length ≤ c1_10) (hr1_15 : Kd.C k33 w A1_15 l1_15.length l1_15) (hc1_15 : l1_15.length ≤ c1_15) (h : spec_SameStatement.f k a0_0 a0_1 a0_2 a0_3 a0_4 l0_5 a0_6 a0_7 a0_8 a0_9 l0_10 a0_11 a0_12 a0_13 a0_14 l0_15 a0_16 a0_17 a0_18 a1_0 a1_1 a1_2 a1_3 a1_4 l1_5 a1_6 a1_7 a1_8 a1_9 l1_10 a1_11 a1_12 a1_13 a1_14 l1_15 a1_16 a1_17 a1_18 = some r) :
    Calls Try.prog 8 #[.agg #[.string a0_0, .bool a0_1, .int .i64 a0_2, .int .i64 a0_3, .string a0_4, .slice A0_5 l0_5.length c0_5, .bool a0_6, .int .i64 a0_7, .int .i64 a0_8, .string a0_9, .slice A0_10 l0_10.length c0_10, .bool a0_11, .int .i64 a0_12, .int .i64 a0_13, .string a0_14, .slice A0_15 l0_15.length c0_15, .string a0_16, .string a0_17, .string a0_18], .agg #[.string a1_0, .bool a1_1, .int .i64 a1_2, .int .i64 a1_3, .string a1_4, .slice A1_5 l1_5.length c1_5, .bool a1_6, .int .i64 a1_7, .int .i64 a1_8, .string a1_9, .slice A1_10 l1_10.length c1_10, .bool a1_11, .int .i64 a1_12, .int .i64 a1_13, .string a1_14, .slice A1_15 l1_15.length c1_15, .string a1_16, .string a1_17, .string a1_18]] w fun e w' => e = .returned (.bool r) ∧ Below w.heap.size w w' := by
  have hu36 := Try.underlying36
  have hu34 := Try.underlying34
  have hu33 := Try.underlying33
  have HR0_5 := Aside0.mk hr0_5
  have HC0_5 := Aside0.mk hc0_5
  clear hr0_5 hc0_5
  have HR0_10 := Aside0.mk hr0_10
  have HC0_10 := Aside0.mk hc0_10
  clear hr0_10 hc0_10
  have HR0_15 := Aside0.mk hr0_15
  have HC0_15 := Aside0.mk hc0_15
  clear hr0_15 hc0_15
  have HR1_5 := Aside0.mk hr1_5
  have HC1_5 := Aside0.mk hc1_5
  clear hr1_5 hc1_5
  have HR1_10 := Aside0.mk hr1_10
  have HC1_10 := Aside0.mk hc1_10
  clear hr1_10 hc1_10
  have HR1_15 := Aside0.mk hr1_15
  have HC1_15 := Aside0.mk hc1_15
  clear hr1_15 hc1_15
  have HB := Aside0.mk (Below.refl w.heap.size w)
  have H : (if a0_0.toList = a1_0.toList then (if (a0_1 != a1_1) = true then (spec_SameStatement.j0 k true a0_0 a0_1 a0_2 a0_3 a0_4 l0_5 a0_6 a0_7 a0_8 a0_9 l0_10 a0_11 a0_12 a0_13 a0_14 l0_15 a0_16 a0_17 a0_18 a1_0 a1_1 a1_2 a1_3 a1_4 l1_5 a1_6 a1_7 a1_8 a1_9 l1_10 a1_11 a1_12 a1_13 a1_14 l1_15 a1_16 a1_17 a1_18) else (if (a0_6 != a1_6) = true then (spec_SameStatement.j0 k true a0_0 a0_1 a0_2 a0_3 a0_4 l0_5 a0_6 a0_7 a0_8 a0_9 l0_10 a0_11 a0_12 a0_13 a0_14 l0_15 a0_16 a0_17 a0_18 a1_0 a1_1 a1_2 a1_3 a1_4 l1_5 a1_6 a1_7 a1_8 a1_9 l1_10 a1_11 a1_12 a1_13 a1_14 l1_15 a1_16 a1_17 a1_18) else (if (a0_11 != a1_11) = true then (spec_SameStatement.j0 k true a0_0 a0_1 a0_2 a0_3 a0_4 l0_5 a0_6 a0_7 a0_8 a0_9 l0_10 a0_11 a0_12 a0_13 a0_14 l0_15 a0_16 a0_17 a0_18 a1_0 a1_1 a1_2 a1_3 a1_4 l1_5 a1_6 a1_7 a1_8 a1_9 l1_10 a1_11 a1_12 a1_13 a1_14 l1_15 a1_16 a1_17 a1_18) else (spec_SameStatement.j0 k (!(a0_16.toList == a1_16.toList) || (!(a0_17.toList == a1_17.toList) || (!(a0_18.toList == a1_18.toList)))) a0_0 a0_1 a0_2 a0_3 a0_4 l0_5 a0_6 a0_7 a0_8 a0_9 l0_10 a0_11 a0_12 a0_13 a0_14 l0_15 a0_16 a0_17 a0_18 a1_0 a1_1 a1_2 a1_3 a1_4 l1_5 a1_6 a1_7 a1_8 a1_9 l1_10 a1_11 a1_12 a1_13 a1_14 l1_15 a1_16 a1_17 a1_18)))) else (spec_SameStatement.j0 k true a0_0 a0_1 a0_2 a0_3 a0_4 l0_5 a0_6 a0_7 a0_8 a0_9 l0_10 a0_11 a0_12 a0_13 a0_14 l0_15 a0_16 a0_17 a0_18 a1_0 a1_1 a1_2 a1_3 a1_4 l1_5 a1_6 a1_7 a1_8 a1_9 l1_10 a1_11 a1_12 a1_13 a1_14 l1_15 a1_16 a1_17 a1_18)) = some r := h
  clear h
  have HC3 := Aside0.mk H
  clear H
  go_enter Try.func8, Try.ntmps8
  go_upto_region 1 with (first | ((with_reducible refine gate_dst (N := 2) rfl ?_); refine box_event ?hg (N := 2) ?hd (cs := #[.string a0_0, .bool a0_1, .int .i64 a0_2, .int .i64 a0_3, .string a0_4, .slice A0_5 l0_5.length c0_5, .bool a0_6, .int .i64 a0_7, .int .i64 a0_8, .string a0_9, .slice A0_10 l0_10.length c0_10, .bool a0_11, .int .i64 a0_12, .int .i64 a0_13, .string a0_14, .slice A0_15 l0_15.length c0_15, .string a0_16, .string a0_17, .string a0_18]) (t := 36) ?hr ?_; (case hd => rfl); (case hg => rfl); (case hr => first | (go_simp; done) | (go_simp; rfl)); intro gb111 hg w4 hbox hb; have n0_ := Aside0.mk (below_step (by repeat (first | (with_reducible first | exact HB.out | apply below_alloc | apply pw_below_drewN | apply below_drew1) | exact HB.out)) hb); have n1_ := Aside0.mk (hbox); have n2_ := Aside0.mk ((by rw [hg]; exact (below_size (by repeat (first | (with_reducible first | exact HB.out | apply below_alloc | apply pw_below_drewN | apply below_drew1) | exact HB.out))) : w.heap.size ≤ gb111)); have n3_ := Aside0.mk ((by rw [hg]; exact (below_size (by repeat (first | (with_reducible first | exact HB.out | apply below_alloc | apply pw_below_drewN | apply below_drew1) | exact HB.out))) : w.heap.size ≤ gb111)); clear HB; have HB := n0_; have BK111 := n1_; have GW111 := n2_; have GE111 := n3_; clear n0_ n1_ n2_ n3_; clear hb hbox hg) | ((with_reducible refine gate_dst (N := 3) rfl ?_); refine box_event ?hg (N := 3) ?hd (cs := #[.string a1_0, .bool a1_1, .int .i64 a1_2, .int .i64 a1_3, .string a1_4, .slice A1_5 l1_5.length c1_5, .bool a1_6, .int .i64 a1_7, .int .i64 a1_8, .string a1_9, .slice A1_10 l1_10.length c1_10, .bool a1_11, .int .i64 a1_12, .int .i64 a1_13, .string a1_14, .slice A1_15 l1_15.length c1_15, .string a1_16, .string a1_17, .string a1_18]) (t := 36) ?hr ?_; (case hd => rfl); (case hg => rfl); (case hr => first | (go_simp; done) | (go_simp; rfl)); intro gb112 hg w5 hbox hb; have n0_ := Aside0.mk (blk_below (g := gb111) (o := .cells #[.string a0_0, .bool a0_1, .int .i64 a0_2, .int .i64 a0_3, .string a0_4, .slice A0_5 l0_5.length c0_5, .bool a0_6, .int .i64 a0_7, .int .i64 a0_8, .string a0_9, .slice A0_10 l0_10.length c0_10, .bool a0_11, .int .i64 a0_12, .int .i64 a0_13, .string a0_14, .slice A0_15 l0_15.length c0_15, .string a0_16, .string a0_17, .string a0_18] 36 (0, 0)) (by (with_reducible repeat (first | refine blk_drewN ?_ _ | refine blk_drew ?_ | refine blk_alloc ?_ _)); exact BK111.out) hb); have n1_ := Aside0.mk (below_step (by repeat (first | (with_reducible first | exact HB.out | apply below_alloc | apply pw_below_drewN | apply below_drew1 | refine below_set ?_ GE111.out) | exact HB.out)) hb); have n2_ := Aside0.mk (hbox); have n3_ := Aside0.mk ((by rw [hg]; exact (below_size (by repeat (first | (with_reducible first | exact HB.out | apply below_alloc | apply pw_below_drewN | apply below_drew1 | refine below_set ?_ GE111.out) | exact HB.out))) : w.heap.size ≤ gb112)); have n4_ := Aside0.mk ((by rw [hg]; exact (below_size (by repeat (first | (with_reducible first | exact HB.out | apply below_alloc | apply pw_below_drewN | apply below_drew1 | refine below_set ?_ GE111.out) | exact HB.out))) : w.heap.size ≤ gb112)); have n5_ := Aside0.mk ((by rw [hg]; exact Nat.ne_of_lt (blk_lt (g := gb111) (o := .cells #[.string a0_0, .bool a0_1, .int .i64 a0_2, .int .i64 a0_3, .string a0_4, .slice A0_5 l0_5.length c0_5, .bool a0_6, .int .i64 a0_7, .int .i64 a0_8, .string a0_9, .slice A0_10 l0_10.length c0_10, .bool a0_11, .int .i64 a0_12, .int .i64 a0_13, .string a0_14, .slice A0_15 l0_15.length c0_15, .string a0_16, .string a0_17, .string a0_18] 36 (0, 0)) (by (with_reducible repeat (first | refine blk_drewN ?_ _ | refine blk_drew ?_ | refine blk_alloc ?_ _)); exact BK111.out)) : gb111 ≠ gb112)); have n6_ := Aside0.mk ((by rw [hg]; exact Nat.ne_of_gt (blk_lt (g := gb111) (o := .cells #[.string a0_0, .bool a0_1, .int .i64 a0_2, .int .i64 a0_3, .string a0_4, .slice A0_5 l0_5.length c0_5, .bool a0_6, .int .i64 a0_7, .int .i64 a0_8, .string a0_9, .slice A0_10 l0_10.length c0_10, .bool a0_11, .int .i64 a0_12, .int .i64 a0_13, .string a0_14, .slice A0_15 l0_15.length c0_15, .string a0_16, .string a0_17, .string a0_18] 36 (0, 0)) (by (with_reducible repeat (first | refine blk_drewN ?_ _ | refine blk_drew ?_ | refine blk_alloc ?_ _)); exact BK111.out)) : gb112 ≠ gb111)); clear BK111; clear HB; have BK111 := n0_; have HB := n1_; have BK112 := n2_; have GW112 := n3_; have GE112 := n4_; have NB111_112 := n5_; have NB112_111 := n6_; clear n0_ n1_ n2_ n3_ n4_ n5_ n6_; clear hb hbox hg))
  (try simp only [Act.put, List.setIfInBounds_toArray, List.set_cons_zero, List.set_cons_succ])
  go_cut [37] (fun v37 wc => ∃ (kq : Nat) (x37_2 : Bool), v37 = .bool x37_2 ∧ Aside0 (spec_SameStatement.j0 kq x37_2 a0_0 a0_1 a0_2 a0_3 a0_4 l0_5 a0_6 a0_7 a0_8 a0_9 l0_10 a0_11 a0_12 a0_13 a0_14 l0_15 a0_16 a0_17 a0_18 a1_0 a1_1 a1_2 a1_3 a1_4 l1_5 a1_6 a1_7 a1_8 a1_9 l1_10 a1_11 a1_12 a1_13 a1_14 l1_15 a1_16 a1_17 a1_18 = some r) ∧ Aside0 (kq ≤ k) ∧ Aside0 (wc.heap[gb111]? = some (.cells #[.string a0_0, .bool a0_1, .int .i64 a0_2, .int .i64 a0_3, .string a0_4, (.slice A0_5 l0_5.length c0_5), .bool a0_6, .int .i64 a0_7, .int .i64 a0_8, .string a0_9, (.slice A0_10 l0_10.length c0_10), .bool a0_11, .int .i64 a0_12, .int .i64 a0_13, .string a0_14, (.slice A0_15 l0_15.length c0_15), .string a0_16, .string a0_17, .string a0_18] 36 (0, 0))) ∧ Aside0 (wc.heap[gb112]? = some (.cells #[.string a1_0, .bool a1_1, .int .i64 a1_2, .int .i64 a1_3, .string a1_4, (.slice A1_5 l1_5.length c1_5), .bool a1_6, .int .i64 a1_7, .int .i64 a1_8, .string a1_9, (.slice A1_10 l1_10.length c1_10), .bool a1_11, .int .i64 a1_12, .int .i64 a1_13, .string a1_14, (.slice A1_15 l1_15.length c1_15), .string a1_16, .string a1_17, .string a1_18] 36 (0, 0))) ∧ Aside0 (Below w.heap.size w wc))
  case first =>
    have H := HC3.out
    clear HC3
    by_cases c6 : a0_0.toList = a1_0.toList
    · rw [if_pos c6] at H
      have c6b0 : (a0_0.toList == a1_0.toList) = true := beq_iff_eq.mpr c6
      have c6b1 : (a0_0.toList != a1_0.toList) = false := bne_eq_false_iff_eq.mpr c6
      clear c6
      (first | rw [c6b0] | (simp only [i64_w, i32_w]; rw [c6b0]) | skip)
      by_cases c7 : (a0_1 != a1_1) = true
      · rw [if_pos c7] at H
        have c7b0 : (a0_1 != a1_1) = true := c7
        (try (have c7b1 : decide (a0_1 = a1_1) = false := by simpa using c7))
        (try (have c7b2 : (a0_1 == a1_1) = false := by simpa using c7))
        (try (have c7b3 : ¬ (a0_1 = a1_1) := by simpa using c7))
        clear c7
        have H' := Aside0.mk H
        clear H
        have hnb8 := NB111_112.out
        have hnc8 := NB112_111.out
        have hcz9_0 : w5.cell? ⟨gb111, 0, none⟩ = some (.string a0_0) := (blk_cell BK111.out 0).trans rfl
        have hcz9_1 : w5.cell? ⟨gb111, 1, none⟩ = some (.bool a0_1) := (blk_cell BK111.out 1).trans rfl
        have hcz9_2 : w5.cell? ⟨gb111, 2, none⟩ = some (.int .i64 a0_2) := (blk_cell BK111.out 2).trans rfl
        have hcz9_3 : w5.cell? ⟨gb111, 3, none⟩ = some (.int .i64 a0_3) := (blk_cell BK111.out 3).trans rfl
        have hcz9_4 : w5.cell? ⟨gb111, 4, none⟩ = some (.string a0_4) := (blk_cell BK111.out 4).trans rfl
        have hcz9_5 : w5.cell? ⟨gb111, 5, none⟩ = some (.slice A0_5 l0_5.length c0_5) := (blk_cell BK111.out 5).trans rfl
        have hcz9_6 : w5.cell? ⟨gb111, 6, none⟩ = some (.bool a0_6) := (blk_cell BK111.out 6).trans rfl
        have hcz9_7 : w5.cell? ⟨gb111, 7, none⟩ = some (.int .i64 a0_7) := (blk_cell BK111.out 7).trans rfl
        have hcz9_8 : w5.cell? ⟨gb111, 8, none⟩ = some (.int .i64 a0_8) := (blk_cell BK111.out 8).trans rfl
        have hcz9_9 : w5.cell? ⟨gb111, 9, none⟩ = some (.string a0_9) := (blk_cell BK111.out 9).trans rfl
        have hcz9_10 : w5.cell? ⟨gb111, 10, none⟩ = some (.slice A0_10 l0_10.length c0_10) := (blk_cell BK111.out 10).trans rfl
        have hcz9_11 : w5.cell? ⟨gb111, 11, none⟩ = some (.bool a0_11) := (blk_cell BK111.out 11).trans rfl
        have hcz9_12 : w5.cell? ⟨gb111, 12, none⟩ = some (.int .i64 a0_12) := (blk_cell BK111.out 12).trans rfl
        have hcz9_13 : w5.cell? ⟨gb111, 13, none⟩ = some (.int .i64 a0_13) := (blk_cell BK111.out 13).trans rfl
        have hcz9_14 : w5.cell? ⟨gb111, 14, none⟩ = some (.string a0_14) := (blk_cell BK111.out 14).trans rfl
        have hcz9_15 : w5.cell? ⟨gb111, 15, none⟩ = some (.slice A0_15 l0_15.length c0_15) := (blk_cell BK111.out 15).trans rfl
        have hcz9_16 : w5.cell? ⟨gb111, 16, none⟩ = some (.string a0_16) := (blk_cell BK111.out 16).trans rfl
        have hcz9_17 : w5.cell? ⟨gb111, 17, none⟩ = some (.string a0_17) := (blk_cell BK111.out 17).trans rfl
        have hcz9_18 : w5.cell? ⟨gb111, 18, none⟩ = some (.string a0_18) := (blk_cell BK111.out 18).trans rfl
        have hfz9_0 := blk_frozen BK111.out 0
        have hfz9_1 := blk_frozen BK111.out 1
        have hfz9_2 := blk_frozen BK111.out 2
        have hfz9_3 := blk_frozen BK111.out 3
        have hfz9_4 := blk_frozen BK111.out 4
        have hfz9_5 := blk_frozen BK111.out 5
        have hfz9_6 := blk_frozen BK111.out 6
        have hfz9_7 := blk_frozen BK111.out 7
        have hfz9_8 := blk_frozen BK111.out 8
        have hfz9_9 := blk_frozen BK111.out 9
        have hfz9_10 := blk_frozen BK111.out 10
        have hfz9_11 := blk_frozen BK111.out 11
        have hfz9_12 := blk_frozen BK111.out 12
        have hfz9_13 := blk_frozen BK111.out 13
        have hfz9_14 := blk_frozen BK111.out 14
        have hfz9_15 := blk_frozen BK111.out 15
        have hfz9_16 := blk_frozen BK111.out 16
        have hfz9_17 := blk_frozen BK111.out 17
        have hfz9_18 := blk_frozen BK111.out 18
        have hcz10_0 : w5.cell? ⟨gb112, 0, none⟩ = some (.string a1_0) := (blk_cell BK112.out 0).trans rfl
        have hcz10_1 : w5.cell? ⟨gb112, 1, none⟩ = some (.bool a1_1) := (blk_cell BK112.out 1).trans rfl
        have hcz10_2 : w5.cell? ⟨gb112, 2, none⟩ = some (.int .i64 a1_2) := (blk_cell BK112.out 2).trans rfl
        have hcz10_3 : w5.cell? ⟨gb112, 3, none⟩ = some (.int .i64 a1_3) := (blk_cell BK112.out 3).trans rfl
        have hcz10_4 : w5.cell? ⟨gb112, 4, none⟩ = some (.string a1_4) := (blk_cell BK112.out 4).trans rfl
        have hcz10_5 : w5.cell? ⟨gb112, 5, none⟩ = some (.slice A1_5 l1_5.length c1_5) := (blk_cell BK112.out 5).trans rfl
        have hcz10_6 : w5.cell? ⟨gb112, 6, none⟩ = some (.bool a1_6) := (blk_cell BK112.out 6).trans rfl
        have hcz10_7 : w5.cell? ⟨gb112, 7, none⟩ = some (.int .i64 a1_7) := (blk_cell BK112.out 7).trans rfl
        have hcz10_8 : w5.cell? ⟨gb112, 8, none⟩ = some (.int .i64 a1_8) := (blk_cell BK112.out 8).trans rfl
        have hcz10_9 : w5.cell? ⟨gb112, 9, none⟩ = some (.string a1_9) := (blk_cell BK112.out 9).trans rfl
        have hcz10_10 : w5.cell? ⟨gb112, 10, none⟩ = some (.slice A1_10 l1_10.length c1_10) := (blk_cell BK112.out 10).trans rfl
        have hcz10_11 : w5.cell? ⟨gb112, 11, none⟩ = some (.bool a1_11) := (blk_cell BK112.out 11).trans rfl
        have hcz10_12 : w5.cell? ⟨gb112, 12, none⟩ = some (.int .i64 a1_12) := (blk_cell BK112.out 12).trans rfl
        have hcz10_13 : w5.cell? ⟨gb112, 13, none⟩ = some (.int .i64 a1_13) := (blk_cell BK112.out 13).trans rfl
        have hcz10_14 : w5.cell? ⟨gb112, 14, none⟩ = some (.string a1_14) := (blk_cell BK112.out 14).trans rfl
        have hcz10_15 : w5.cell? ⟨gb112, 15, none⟩ = some (.slice A1_15 l1_15.length c1_15) := (blk_cell BK112.out 15).trans rfl
        have hcz10_16 : w5.cell? ⟨gb112, 16, none⟩ = some (.string a1_16) := (blk_cell BK112.out 16).trans rfl
        have hcz10_17 : w5.cell? ⟨gb112, 17, none⟩ = some (.string a1_17) := (blk_cell BK112.out 17).trans rfl
        have hcz10_18 : w5.cell? ⟨gb112, 18, none⟩ = some (.string a1_18) := (blk_cell BK112.out 18).trans rfl
        have hfz10_0 := blk_frozen BK112.out 0
        have hfz10_1 := blk_frozen BK112.out 1
        have hfz10_2 := blk_frozen BK112.out 2
        have hfz10_3 := blk_frozen BK112.out 3
        have hfz10_4 := blk_frozen BK112.out 4
        have hfz10_5 := blk_frozen BK112.out 5
        have hfz10_6 := blk_frozen BK112.out 6
        have hfz10_7 := blk_frozen BK112.out 7
        have hfz10_8 := blk_frozen BK112.out 8
        have hfz10_9 := blk_frozen BK112.out 9
        have hfz10_10 := blk_frozen BK112.out 10
        have hfz10_11 := blk_frozen BK112.out 11
        have hfz10_12 := blk_frozen BK112.out 12
        have hfz10_13 := blk_frozen BK112.out 13
        have hfz10_14 := blk_frozen BK112.out 14
        have hfz10_15 := blk_frozen BK112.out 15
        have hfz10_16 := blk_frozen BK112.out 16
        have hfz10_17 := blk_frozen BK112.out 17
        have hfz10_18 := blk_frozen BK112.out 18
        go_wp2
        go_meet
        case rel => exact ⟨_, (true), (by first | rfl | (simp; done) | (simp [*]; done)), H', ⟨by first | omega | exact Nat.le_refl _⟩, ⟨by (with_reducible repeat (first | refine blk_drewN ?_ _ | refine blk_drew ?_ | refine blk_alloc ?_ _)); exact BK111.out⟩, ⟨by (with_reducible repeat (first | refine blk_drewN ?_ _ | refine blk_drew ?_ | refine blk_alloc ?_ _)); exact BK112.out⟩, ⟨by repeat (first | (with_reducible first | exact HB.out | apply below_alloc | apply pw_below_drewN | apply below_drew1 | refine below_set ?_ GE111.out | refine below_set ?_ GE112.out) | exact HB.out)⟩⟩
      · rw [if_neg c7] at H
        have c7b0 : (a0_1 != a1_1) = false := by simpa using c7
        (try (have c7b1 : decide (a0_1 = a1_1) = true := by simpa using c7))
        (try (have c7b2 : (a0_1 == a1_1) = true := by simpa using c7))
        clear c7
        by_cases c11 : (a0_6 != a1_6) = true
        · rw [if_pos c11] at H
          have c11b0 : (a0_6 != a1_6) = true := c11
          (try (have c11b1 : decide (a0_6 = a1_6) = false := by simpa using c11))
          (try (have c11b2 : (a0_6 == a1_6) = false := by simpa using c11))
          (try (have c11b3 : ¬ (a0_6 = a1_6) := by simpa using c11))
          clear c11
          have H' := Aside0.mk H
          clear H
          have hnb12 := NB111_112.out
          have hnc12 := NB112_111.out
          have hcz13_0 : w5.cell? ⟨gb111, 0, none⟩ = some (.string a0_0) := (blk_cell BK111.out 0).trans rfl
          have hcz13_1 : w5.cell? ⟨gb111, 1, none⟩ = some (.bool a0_1) := (blk_cell BK111.out 1).trans rfl
          have hcz13_2 : w5.cell? ⟨gb111, 2, none⟩ = some (.int .i64 a0_2) := (blk_cell BK111.out 2).trans rfl
          have hcz13_3 : w5.cell? ⟨gb111, 3, none⟩ = some (.int .i64 a0_3) := (blk_cell BK111.out 3).trans rfl
          have hcz13_4 : w5.cell? ⟨gb111, 4, none⟩ = some (.string a0_4) := (blk_cell BK111.out 4).trans rfl
          have hcz13_5 : w5.cell? ⟨gb111, 5, none⟩ = some (.slice A0_5 l0_5.length c0_5) := (blk_cell BK111.out 5).trans rfl
          have hcz13_6 : w5.cell? ⟨gb111, 6, none⟩ = some (.bool a0_6) := (blk_cell BK111.out 6).trans rfl
          have hcz13_7 : w5.cell? ⟨gb111, 7, none⟩ = some (.int .i64 a0_7) := (blk_cell BK111.out 7).trans rfl
          have hcz13_8 : w5.cell? ⟨gb111, 8, none⟩ = some (.int .i64 a0_8) := (blk_cell BK111.out 8).trans rfl
          have hcz13_9 : w5.cell? ⟨gb111, 9, none⟩ = some (.string a0_9) := (blk_cell BK111.out 9).trans rfl
          have hcz13_10 : w5.cell? ⟨gb111, 10, none⟩ = some (.slice A0_10 l0_10.length c0_10) := (blk_cell BK111.out 10).trans rfl
          have hcz13_11 : w5.cell? ⟨gb111, 11, none⟩ = some (.bool a0_11) := (blk_cell BK111.out 11).trans rfl
          have hcz13_12 : w5.cell? ⟨gb111, 12, none⟩ = some (.int .i64 a0_12) := (blk_cell BK111.out 12).trans rfl
          have hcz13_13 : w5.cell? ⟨gb111, 13, none⟩ = some (.int .i64 a0_13) := (blk_cell BK111.out 13).trans rfl
          have hcz13_14 : w5.cell? ⟨gb111, 14, none⟩ = some (.string a0_14) := (blk_cell BK111.out 14).trans rfl
          have hcz13_15 : w5.cell? ⟨gb111, 15, none⟩ = some (.slice A0_15 l0_15.length c0_15) := (blk_cell BK111.out 15).trans rfl
          have hcz13_16 : w5.cell? ⟨gb111, 16, none⟩ = some (.string a0_16) := (blk_cell BK111.out 16).trans rfl
          have hcz13_17 : w5.cell? ⟨gb111, 17, none⟩ = some (.string a0_17) := (blk_cell BK111.out 17).trans rfl
          have hcz13_18 : w5.cell? ⟨gb111, 18, none⟩ = some (.string a0_18) := (blk_cell BK111.out 18).trans rfl
          have hfz13_0 := blk_frozen BK111.out 0
          have hfz13_1 := blk_frozen BK111.out 1
          have hfz13_2 := blk_frozen BK111.out 2
          have hfz13_3 := blk_frozen BK111.out 3
          have hfz13_4 := blk_frozen BK111.out 4
          have hfz13_5 := blk_frozen BK111.out 5
          have hfz13_6 := blk_frozen BK111.out 6
          have hfz13_7 := blk_frozen BK111.out 7
          have hfz13_8 := blk_frozen BK111.out 8
          have hfz13_9 := blk_frozen BK111.out 9
          have hfz13_10 := blk_frozen BK111.out 10
          have hfz13_11 := blk_frozen BK111.out 11
          have hfz13_12 := blk_frozen BK111.out 12
          have hfz13_13 := blk_frozen BK111.out 13
          have hfz13_14 := blk_frozen BK111.out 14
          have hfz13_15 := blk_frozen BK111.out 15
          have hfz13_16 := blk_frozen BK111.out 16
          have hfz13_17 := blk_frozen BK111.out 17
          have hfz13_18 := blk_frozen BK111.out 18
          have hcz14_0 : w5.cell? ⟨gb112, 0, none⟩ = some (.string a1_0) := (blk_cell BK112.out 0).trans rfl
          have hcz14_1 : w5.cell? ⟨gb112, 1, none⟩ = some (.bool a1_1) := (blk_cell BK112.out 1).trans rfl
          have hcz14_2 : w5.cell? ⟨gb112, 2, none⟩ = some (.int .i64 a1_2) := (blk_cell BK112.out 2).trans rfl
          have hcz14_3 : w5.cell? ⟨gb112, 3, none⟩ = some (.int .i64 a1_3) := (blk_cell BK112.out 3).trans rfl
          have hcz14_4 : w5.cell? ⟨gb112, 4, none⟩ = some (.string a1_4) := (blk_cell BK112.out 4).trans rfl
          have hcz14_5 : w5.cell? ⟨gb112, 5, none⟩ = some (.slice A1_5 l1_5.length c1_5) := (blk_cell BK112.out 5).trans rfl
          have hcz14_6 : w5.cell? ⟨gb112, 6, none⟩ = some (.bool a1_6) := (blk_cell BK112.out 6).trans rfl
          have hcz14_7 : w5.cell? ⟨gb112, 7, none⟩ = some (.int .i64 a1_7) := (blk_cell BK112.out 7).trans rfl
          have hcz14_8 : w5.cell? ⟨gb112, 8, none⟩ = some (.int .i64 a1_8) := (blk_cell BK112.out 8).trans rfl
          have hcz14_9 : w5.cell? ⟨gb112, 9, none⟩ = some (.string a1_9) := (blk_cell BK112.out 9).trans rfl
          have hcz14_10 : w5.cell? ⟨gb112, 10, none⟩ = some (.slice A1_10 l1_10.length c1_10) := (blk_cell BK112.out 10).trans rfl
          have hcz14_11 : w5.cell? ⟨gb112, 11, none⟩ = some (.bool a1_11) := (blk_cell BK112.out 11).trans rfl
          have hcz14_12 : w5.cell? ⟨gb112, 12, none⟩ = some (.int .i64 a1_12) := (blk_cell BK112.out 12).trans rfl
          have hcz14_13 : w5.cell? ⟨gb112, 13, none⟩ = some (.int .i64 a1_13) := (blk_cell BK112.out 13).trans rfl
          have hcz14_14 : w5.cell? ⟨gb112, 14, none⟩ = some (.string a1_14) := (blk_cell BK112.out 14).trans rfl
          have hcz14_15 : w5.cell? ⟨gb112, 15, none⟩ = some (.slice A1_15 l1_15.length c1_15) := (blk_cell BK112.out 15).trans rfl
          have hcz14_16 : w5.cell? ⟨gb112, 16, none⟩ = some (.string a1_16) := (blk_cell BK112.out 16).trans rfl
          have hcz14_17 : w5.cell? ⟨gb112, 17, none⟩ = some (.string a1_17) := (blk_cell BK112.out 17).trans rfl
          have hcz14_18 : w5.cell? ⟨gb112, 18, none⟩ = some (.string a1_18) := (blk_cell BK112.out 18).trans rfl
          have hfz14_0 := blk_frozen BK112.out 0
          have hfz14_1 := blk_frozen BK112.out 1
          have hfz14_2 := blk_frozen BK112.out 2
          have hfz14_3 := blk_frozen BK112.out 3
          have hfz14_4 := blk_frozen BK112.out 4
          have hfz14_5 := blk_frozen BK112.out 5
          have hfz14_6 := blk_frozen BK112.out 6
          have hfz14_7 := blk_frozen BK112.out 7
          have hfz14_8 := blk_frozen BK112.out 8
          have hfz14_9 := blk_frozen BK112.out 9
          have hfz14_10 := blk_frozen BK112.out 10
          have hfz14_11 := blk_frozen BK112.out 11
          have hfz14_12 := blk_frozen BK112.out 12
          have hfz14_13 := blk_frozen BK112.out 13
          have hfz14_14 := blk_frozen BK112.out 14
          have hfz14_15 := blk_frozen BK112.out 15
          have hfz14_16 := blk_frozen BK112.out 16
          have hfz14_17 := blk_frozen BK112.out 17
          have hfz14_18 := blk_frozen BK112.out 18
          go_wp2
          go_meet
          case rel => exact ⟨_, (true), (by first | rfl | (simp; done) | (simp [*]; done)), H', ⟨by first | omega | exact Nat.le_refl _⟩, ⟨by (with_reducible repeat (first | refine blk_drewN ?_ _ | refine blk_drew ?_ | refine blk_alloc ?_ _)); exact BK111.out⟩, ⟨by (with_reducible repeat (first | refine blk_drewN ?_ _ | refine blk_drew ?_ | refine blk_alloc ?_ _)); exact BK112.out⟩, ⟨by repeat (first | (with_reducible first | exact HB.out | apply below_alloc | apply pw_below_drewN | apply below_drew1 | refine below_set ?_ GE111.out | refine below_set ?_ GE112.out) | exact HB.out)⟩⟩
        · rw [if_neg c11] at H
          have c11b0 : (a0_6 != a1_6) = false := by simpa using c11
          (try (have c11b1 : decide (a0_6 = a1_6) = true := by simpa using c11))
          (try (have c11b2 : (a0_6 == a1_6) = true := by simpa using c11))
          clear c11
          by_cases c15 : (a0_11 != a1_11) = true
          · rw [if_pos c15] at H
            have c15b0 : (a0_11 != a1_11) = true := c15
            (try (have c15b1 : decide (a0_11 = a1_11) = false := by simpa using c15))
            (try (have c15b2 : (a0_11 == a1_11) = false := by simpa using c15))
            (try (have c15b3 : ¬ (a0_11 = a1_11) := by simpa using c15))
            clear c15
            have H' := Aside0.mk H
            clear H
            have hnb16 := NB111_112.out
            have hnc16 := NB112_111.out
            have hcz17_0 : w5.cell? ⟨gb111, 0, none⟩ = some (.string a0_0) := (blk_cell BK111.out 0).trans rfl
            have hcz17_1 : w5.cell? ⟨gb111, 1, none⟩ = some (.bool a0_1) := (blk_cell BK111.out 1).trans rfl
            have hcz17_2 : w5.cell? ⟨gb111, 2, none⟩ = some (.int .i64 a0_2) := (blk_cell BK111.out 2).trans rfl
            have hcz17_3 : w5.cell? ⟨gb111, 3, none⟩ = some (.int .i64 a0_3) := (blk_cell BK111.out 3).trans rfl
            have hcz17_4 : w5.cell? ⟨gb111, 4, none⟩ = some (.string a0_4) := (blk_cell BK111.out 4).trans rfl
            have hcz17_5 : w5.cell? ⟨gb111, 5, none⟩ = some (.slice A0_5 l0_5.length c0_5) := (blk_cell BK111.out 5).trans rfl
            have hcz17_6 : w5.cell? ⟨gb111, 6, none⟩ = some (.bool a0_6) := (blk_cell BK111.out 6).trans rfl
            have hcz17_7 : w5.cell? ⟨gb111, 7, none⟩ = some (.int .i64 a0_7) := (blk_cell BK111.out 7).trans rfl
            have hcz17_8 : w5.cell? ⟨gb111, 8, none⟩ = some (.int .i64 a0_8) := (blk_cell BK111.out 8).trans rfl
            have hcz17_9 : w5.cell? ⟨gb111, 9, none⟩ = some (.string a0_9) := (blk_cell BK111.out 9).trans rfl
            have hcz17_10 : w5.cell? ⟨gb111, 10, none⟩ = some (.slice A0_10 l0_10.length c0_10) := (blk_cell BK111.out 10).trans rfl
            have hcz17_11 : w5.cell? ⟨gb111, 11, none⟩ = some (.bool a0_11) := (blk_cell BK111.out 11).trans rfl
            have hcz17_12 : w5.cell? ⟨gb111, 12, none⟩ = some (.int .i64 a0_12) := (blk_cell BK111.out 12).trans rfl
            have hcz17_13 : w5.cell? ⟨gb111, 13, none⟩ = some (.int .i64 a0_13) := (blk_cell BK111.out 13).trans rfl
            have hcz17_14 : w5.cell? ⟨gb111, 14, none⟩ = some (.string a0_14) := (blk_cell BK111.out 14).trans rfl
            have hcz17_15 : w5.cell? ⟨gb111, 15, none⟩ = some (.slice A0_15 l0_15.length c0_15) := (blk_cell BK111.out 15).trans rfl
            have hcz17_16 : w5.cell? ⟨gb111, 16, none⟩ = some (.string a0_16) := (blk_cell BK111.out 16).trans rfl
            have hcz17_17 : w5.cell? ⟨gb111, 17, none⟩ = some (.string a0_17) := (blk_cell BK111.out 17).trans rfl
            have hcz17_18 : w5.cell? ⟨gb111, 18, none⟩ = some (.string a0_18) := (blk_cell BK111.out 18).trans rfl
            have hfz17_0 := blk_frozen BK111.out 0
            have hfz17_1 := blk_frozen BK111.out 1
            have hfz17_2 := blk_frozen BK111.out 2
            have hfz17_3 := blk_frozen BK111.out 3
            have hfz17_4 := blk_frozen BK111.out 4
            have hfz17_5 := blk_frozen BK111.out 5
            have hfz17_6 := blk_frozen BK111.out 6
            have hfz17_7 := blk_frozen BK111.out 7
            have hfz17_8 := blk_frozen BK111.out 8
            have hfz17_9 := blk_frozen BK111.out 9
            have hfz17_10 := blk_frozen BK111.out 10
            have hfz17_11 := blk_frozen BK111.out 11
            have hfz17_12 := blk_frozen BK111.out 12
            have hfz17_13 := blk_frozen BK111.out 13
            have hfz17_14 := blk_frozen BK111.out 14
            have hfz17_15 := blk_frozen BK111.out 15
            have hfz17_16 := blk_frozen BK111.out 16
            have hfz17_17 := blk_frozen BK111.out 17
            have hfz17_18 := blk_frozen BK111.out 18
            have hcz18_0 : w5.cell? ⟨gb112, 0, none⟩ = some (.string a1_0) := (blk_cell BK112.out 0).trans rfl
            have hcz18_1 : w5.cell? ⟨gb112, 1, none⟩ = some (.bool a1_1) := (blk_cell BK112.out 1).trans rfl
            have hcz18_2 : w5.cell? ⟨gb112, 2, none⟩ = some (.int .i64 a1_2) := (blk_cell BK112.out 2).trans rfl
            have hcz18_3 : w5.cell? ⟨gb112, 3, none⟩ = some (.int .i64 a1_3) := (blk_cell BK112.out 3).trans rfl
            have hcz18_4 : w5.cell? ⟨gb112, 4, none⟩ = some (.string a1_4) := (blk_cell BK112.out 4).trans rfl
            have hcz18_5 : w5.cell? ⟨gb112, 5, none⟩ = some (.slice A1_5 l1_5.length c1_5) := (blk_cell BK112.out 5).trans rfl
            have hcz18_6 : w5.cell? ⟨gb112, 6, none⟩ = some (.bool a1_6) := (blk_cell BK112.out 6).trans rfl
            have hcz18_7 : w5.cell? ⟨gb112, 7, none⟩ = some (.int .i64 a1_7) := (blk_cell BK112.out 7).trans rfl
            have hcz18_8 : w5.cell? ⟨gb112, 8, none⟩ = some (.int .i64 a1_8) := (blk_cell BK112.out 8).trans rfl
            have hcz18_9 : w5.cell? ⟨gb112, 9, none⟩ = some (.string a1_9) := (blk_cell BK112.out 9).trans rfl
            have hcz18_10 : w5.cell? ⟨gb112, 10, none⟩ = some (.slice A1_10 l1_10.length c1_10) := (blk_cell BK112.out 10).trans rfl
            have hcz18_11 : w5.cell? ⟨gb112, 11, none⟩ = some (.bool a1_11) := (blk_cell BK112.out 11).trans rfl
            have hcz18_12 : w5.cell? ⟨gb112, 12, none⟩ = some (.int .i64 a1_12) := (blk_cell BK112.out 12).trans rfl
            have hcz18_13 : w5.cell? ⟨gb112, 13, none⟩ = some (.int .i64 a1_13) := (blk_cell BK112.out 13).trans rfl
            have hcz18_14 : w5.cell? ⟨gb112, 14, none⟩ = some (.string a1_14) := (blk_cell BK112.out 14).trans rfl
            have hcz18_15 : w5.cell? ⟨gb112, 15, none⟩ = some (.slice A1_15 l1_15.length c1_15) := (blk_cell BK112.out 15).trans rfl
            have hcz18_16 : w5.cell? ⟨gb112, 16, none⟩ = some (.string a1_16) := (blk_cell BK112.out 16).trans rfl
            have hcz18_17 : w5.cell? ⟨gb112, 17, none⟩ = some (.string a1_17) := (blk_cell BK112.out 17).trans rfl
            have hcz18_18 : w5.cell? ⟨gb112, 18, none⟩ = some (.string a1_18) := (blk_cell BK112.out 18).trans rfl
            have hfz18_0 := blk_frozen BK112.out 0
            have hfz18_1 := blk_frozen BK112.out 1
            have hfz18_2 := blk_frozen BK112.out 2
            have hfz18_3 := blk_frozen BK112.out 3
            have hfz18_4 := blk_frozen BK112.out 4
            have hfz18_5 := blk_frozen BK112.out 5
            have hfz18_6 := blk_frozen BK112.out 6
            have hfz18_7 := blk_frozen BK112.out 7
            have hfz18_8 := blk_frozen BK112.out 8
            have hfz18_9 := blk_frozen BK112.out 9
            have hfz18_10 := blk_frozen BK112.out 10
            have hfz18_11 := blk_frozen BK112.out 11
            have hfz18_12 := blk_frozen BK112.out 12
            have hfz18_13 := blk_frozen BK112.out 13
            have hfz18_14 := blk_frozen BK112.out 14
            have hfz18_15 := blk_frozen BK112.out 15
            have hfz18_16 := blk_frozen BK112.out 16
            have hfz18_17 := blk_frozen BK112.out 17
            have hfz18_18 := blk_frozen BK112.out 18
            go_wp2
            go_meet
            case rel => exact ⟨_, (true), (by first | rfl | (simp; done) | (simp [*]; done)), H', ⟨by first | omega | exact Nat.le_refl _⟩, ⟨by (with_reducible repeat (first | refine blk_drewN ?_ _ | refine blk_drew ?_ | refine blk_alloc ?_ _)); exact BK111.out⟩, ⟨by (with_reducible repeat (first | refine blk_drewN ?_ _ | refine blk_drew ?_ | refine blk_alloc ?_ _)); exact BK112.out⟩, ⟨by repeat (first | (with_reducible first | exact HB.out | apply below_alloc | apply pw_below_drewN | apply below_drew1 | refine below_set ?_ GE111.out | refine below_set ?_ GE112.out) | exact HB.out)⟩⟩
          · rw [if_neg c15] at H
            have c15b0 : (a0_11 != a1_11) = false := by simpa using c15
            (try (have c15b1 : decide (a0_11 = a1_11) = true := by simpa using c15))
            (try (have c15b2 : (a0_11 == a1_11) = true := by simpa using c15))
            clear c15
            have H' := Aside0.mk H
            clear H
            have hnb19 := NB111_112.out
            have hnc19 := NB112_111.out
            have hcz20_0 : w5.cell? ⟨gb111, 0, none⟩ = some (.string a0_0) := (blk_cell BK111.out 0).trans rfl
            have hcz20_1 : w5.cell? ⟨gb111, 1, none⟩ = some (.bool a0_1) := (blk_cell BK111.out 1).trans rfl
            have hcz20_2 : w5.cell? ⟨gb111, 2, none⟩ = some (.int .i64 a0_2) := (blk_cell BK111.out 2).trans rfl
            have hcz20_3 : w5.cell? ⟨gb111, 3, none⟩ = some (.int .i64 a0_3) := (blk_cell BK111.out 3).trans rfl
            have hcz20_4 : w5.cell? ⟨gb111, 4, none⟩ = some (.string a0_4) := (blk_cell BK111.out 4).trans rfl
            have hcz20_5 : w5.cell? ⟨gb111, 5, none⟩ = some (.slice A0_5 l0_5.length c0_5) := (blk_cell BK111.out 5).trans rfl
            have hcz20_6 : w5.cell? ⟨gb111, 6, none⟩ = some (.bool a0_6) := (blk_cell BK111.out 6).trans rfl
            have hcz20_7 : w5.cell? ⟨gb111, 7, none⟩ = some (.int .i64 a0_7) := (blk_cell BK111.out 7).trans rfl
            have hcz20_8 : w5.cell? ⟨gb111, 8, none⟩ = some (.int .i64 a0_8) := (blk_cell BK111.out 8).trans rfl
            have hcz20_9 : w5.cell? ⟨gb111, 9, none⟩ = some (.string a0_9) := (blk_cell BK111.out 9).trans rfl
            have hcz20_10 : w5.cell? ⟨gb111, 10, none⟩ = some (.slice A0_10 l0_10.length c0_10) := (blk_cell BK111.out 10).trans rfl
            have hcz20_11 : w5.cell? ⟨gb111, 11, none⟩ = some (.bool a0_11) := (blk_cell BK111.out 11).trans rfl
            have hcz20_12 : w5.cell? ⟨gb111, 12, none⟩ = some (.int .i64 a0_12) := (blk_cell BK111.out 12).trans rfl
            have hcz20_13 : w5.cell? ⟨gb111, 13, none⟩ = some (.int .i64 a0_13) := (blk_cell BK111.out 13).trans rfl
            have hcz20_14 : w5.cell? ⟨gb111, 14, none⟩ = some (.string a0_14) := (blk_cell BK111.out 14).trans rfl
            have hcz20_15 : w5.cell? ⟨gb111, 15, none⟩ = some (.slice A0_15 l0_15.length c0_15) := (blk_cell BK111.out 15).trans rfl
            have hcz20_16 : w5.cell? ⟨gb111, 16, none⟩ = some (.string a0_16) := (blk_cell BK111.out 16).trans rfl
            have hcz20_17 : w5.cell? ⟨gb111, 17, none⟩ = some (.string a0_17) := (blk_cell BK111.out 17).trans rfl
            have hcz20_18 : w5.cell? ⟨gb111, 18, none⟩ = some (.string a0_18) := (blk_cell BK111.out 18).trans rfl
            have hfz20_0 := blk_frozen BK111.out 0
            have hfz20_1 := blk_frozen BK111.out 1
            have hfz20_2 := blk_frozen BK111.out 2
            have hfz20_3 := blk_frozen BK111.out 3
            have hfz20_4 := blk_frozen BK111.out 4
            have hfz20_5 := blk_frozen BK111.out 5
            have hfz20_6 := blk_frozen BK111.out 6
            have hfz20_7 := blk_frozen BK111.out 7
            have hfz20_8 := blk_frozen BK111.out 8
            have hfz20_9 := blk_frozen BK111.out 9
            have hfz20_10 := blk_frozen BK111.out 10
            have hfz20_11 := blk_frozen BK111.out 11
            have hfz20_12 := blk_frozen BK111.out 12
            have hfz20_13 := blk_frozen BK111.out 13
            have hfz20_14 := blk_frozen BK111.out 14
            have hfz20_15 := blk_frozen BK111.out 15
            have hfz20_16 := blk_frozen BK111.out 16
            have hfz20_17 := blk_frozen BK111.out 17
            have hfz20_18 := blk_frozen BK111.out 18
            have hcz21_0 : w5.cell? ⟨gb112, 0, none⟩ = some (.string a1_0) := (blk_cell BK112.out 0).trans rfl
            have hcz21_1 : w5.cell? ⟨gb112, 1, none⟩ = some (.bool a1_1) := (blk_cell BK112.out 1).trans rfl
            have hcz21_2 : w5.cell? ⟨gb112, 2, none⟩ = some (.int .i64 a1_2) := (blk_cell BK112.out 2).trans rfl
            have hcz21_3 : w5.cell? ⟨gb112, 3, none⟩ = some (.int .i64 a1_3) := (blk_cell BK112.out 3).trans rfl
            have hcz21_4 : w5.cell? ⟨gb112, 4, none⟩ = some (.string a1_4) := (blk_cell BK112.out 4).trans rfl
            have hcz21_5 : w5.cell? ⟨gb112, 5, none⟩ = some (.slice A1_5 l1_5.length c1_5) := (blk_cell BK112.out 5).trans rfl
            have hcz21_6 : w5.cell? ⟨gb112, 6, none⟩ = some (.bool a1_6) := (blk_cell BK112.out 6).trans rfl
            have hcz21_7 : w5.cell? ⟨gb112, 7, none⟩ = some (.int .i64 a1_7) := (blk_cell BK112.out 7).trans rfl
            have hcz21_8 : w5.cell? ⟨gb112, 8, none⟩ = some (.int .i64 a1_8) := (blk_cell BK112.out 8).trans rfl
            have hcz21_9 : w5.cell? ⟨gb112, 9, none⟩ = some (.string a1_9) := (blk_cell BK112.out 9).trans rfl
            have hcz21_10 : w5.cell? ⟨gb112, 10, none⟩ = some (.slice A1_10 l1_10.length c1_10) := (blk_cell BK112.out 10).trans rfl
            have hcz21_11 : w5.cell? ⟨gb112, 11, none⟩ = some (.bool a1_11) := (blk_cell BK112.out 11).trans rfl
            have hcz21_12 : w5.cell? ⟨gb112, 12, none⟩ = some (.int .i64 a1_12) := (blk_cell BK112.out 12).trans rfl
            have hcz21_13 : w5.cell? ⟨gb112, 13, none⟩ = some (.int .i64 a1_13) := (blk_cell BK112.out 13).trans rfl
            have hcz21_14 : w5.cell? ⟨gb112, 14, none⟩ = some (.string a1_14) := (blk_cell BK112.out 14).trans rfl
            have hcz21_15 : w5.cell? ⟨gb112, 15, none⟩ = some (.slice A1_15 l1_15.length c1_15) := (blk_cell BK112.out 15).trans rfl
            have hcz21_16 : w5.cell? ⟨gb112, 16, none⟩ = some (.string a1_16) := (blk_cell BK112.out 16).trans rfl
            have hcz21_17 : w5.cell? ⟨gb112, 17, none⟩ = some (.string a1_17) := (blk_cell BK112.out 17).trans rfl
            have hcz21_18 : w5.cell? ⟨gb112, 18, none⟩ = some (.string a1_18) := (blk_cell BK112.out 18).trans rfl
            have hfz21_0 := blk_frozen BK112.out 0
            have hfz21_1 := blk_frozen BK112.out 1
            have hfz21_2 := blk_frozen BK112.out 2
            have hfz21_3 := blk_frozen BK112.out 3
            have hfz21_4 := blk_frozen BK112.out 4
            have hfz21_5 := blk_frozen BK112.out 5
            have hfz21_6 := blk_frozen BK112.out 6
            have hfz21_7 := blk_frozen BK112.out 7
            have hfz21_8 := blk_frozen BK112.out 8
            have hfz21_9 := blk_frozen BK112.out 9
            have hfz21_10 := blk_frozen BK112.out 10
            have hfz21_11 := blk_frozen BK112.out 11
            have hfz21_12 := blk_frozen BK112.out 12
            have hfz21_13 := blk_frozen BK112.out 13
            have hfz21_14 := blk_frozen BK112.out 14
            have hfz21_15 := blk_frozen BK112.out 15
            have hfz21_16 := blk_frozen BK112.out 16
            have hfz21_17 := blk_frozen BK112.out 17
            have hfz21_18 := blk_frozen BK112.out 18
            go_wp2
            go_meet
            case rel => exact ⟨_, ((!(a0_16.toList == a1_16.toList) || (!(a0_17.toList == a1_17.toList) || (!(a0_18.toList == a1_18.toList))))), (by first | rfl | (simp; done) | (simp [*]; done)), H', ⟨by first | omega | exact Nat.le_refl _⟩, ⟨by (with_reducible repeat (first | refine blk_drewN ?_ _ | refine blk_drew ?_ | refine blk_alloc ?_ _)); exact BK111.out⟩, ⟨by (with_reducible repeat (first | refine blk_drewN ?_ _ | refine blk_drew ?_ | refine blk_alloc ?_ _)); exact BK112.out⟩, ⟨by repeat (first | (with_reducible first | exact HB.out | apply below_alloc | apply pw_below_drewN | apply below_drew1 | refine below_set ?_ GE111.out | refine below_set ?_ GE112.out) | exact HB.out)⟩⟩
    · rw [if_neg c6] at H
      have c6b0 : (a0_0.toList == a1_0.toList) = false := beq_eq_false_iff_ne.mpr c6
      have c6b1 : (a0_0.toList != a1_0.toList) = true := bne_iff_ne.mpr c6
      (first | rw [c6b0] | (simp only [i64_w, i32_w]; rw [c6b0]) | skip)
      have H' := Aside0.mk H
      clear H
      have hnb22 := NB111_112.out
      have hnc22 := NB112_111.out
      have hcz23_0 : w5.cell? ⟨gb111, 0, none⟩ = some (.string a0_0) := (blk_cell BK111.out 0).trans rfl
      have hcz23_1 : w5.cell? ⟨gb111, 1, none⟩ = some (.bool a0_1) := (blk_cell BK111.out 1).trans rfl
      have hcz23_2 : w5.cell? ⟨gb111, 2, none⟩ = some (.int .i64 a0_2) := (blk_cell BK111.out 2).trans rfl
      have hcz23_3 : w5.cell? ⟨gb111, 3, none⟩ = some (.int .i64 a0_3) := (blk_cell BK111.out 3).trans rfl
      have hcz23_4 : w5.cell? ⟨gb111, 4, none⟩ = some (.string a0_4) := (blk_cell BK111.out 4).trans rfl
      have hcz23_5 : w5.cell? ⟨gb111, 5, none⟩ = some (.slice A0_5 l0_5.length c0_5) := (blk_cell BK111.out 5).trans rfl
      have hcz23_6 : w5.cell? ⟨gb111, 6, none⟩ = some (.bool a0_6) := (blk_cell BK111.out 6).trans rfl
      have hcz23_7 : w5.cell? ⟨gb111, 7, none⟩ = some (.int .i64 a0_7) := (blk_cell BK111.out 7).trans rfl
      have hcz23_8 : w5.cell? ⟨gb111, 8, none⟩ = some (.int .i64 a0_8) := (blk_cell BK111.out 8).trans rfl
      have hcz23_9 : w5.cell? ⟨gb111, 9, none⟩ = some (.string a0_9) := (blk_cell BK111.out 9).trans rfl
      have hcz23_10 : w5.cell? ⟨gb111, 10, none⟩ = some (.slice A0_10 l0_10.length c0_10) := (blk_cell BK111.out 10).trans rfl
      have hcz23_11 : w5.cell? ⟨gb111, 11, none⟩ = some (.bool a0_11) := (blk_cell BK111.out 11).trans rfl
      have hcz23_12 : w5.cell? ⟨gb111, 12, none⟩ = some (.int .i64 a0_12) := (blk_cell BK111.out 12).trans rfl
      have hcz23_13 : w5.cell? ⟨gb111, 13, none⟩ = some (.int .i64 a0_13) := (blk_cell BK111.out 13).trans rfl
      have hcz23_14 : w5.cell? ⟨gb111, 14, none⟩ = some (.string a0_14) := (blk_cell BK111.out 14).trans rfl
      have hcz23_15 : w5.cell? ⟨gb111, 15, none⟩ = some (.slice A0_15 l0_15.length c0_15) := (blk_cell BK111.out 15).trans rfl
      have hcz23_16 : w5.cell? ⟨gb111, 16, none⟩ = some (.string a0_16) := (blk_cell BK111.out 16).trans rfl
      have hcz23_17 : w5.cell? ⟨gb111, 17, none⟩ = some (.string a0_17) := (blk_cell BK111.out 17).trans rfl
      have hcz23_18 : w5.cell? ⟨gb111, 18, none⟩ = some (.string a0_18) := (blk_cell BK111.out 18).trans rfl
      have hfz23_0 := blk_frozen BK111.out 0
      have hfz23_1 := blk_frozen BK111.out 1
      have hfz23_2 := blk_frozen BK111.out 2
      have hfz23_3 := blk_frozen BK111.out 3
      have hfz23_4 := blk_frozen BK111.out 4
      have hfz23_5 := blk_frozen BK111.out 5
      have hfz23_6 := blk_frozen BK111.out 6
      have hfz23_7 := blk_frozen BK111.out 7
      have hfz23_8 := blk_frozen BK111.out 8
      have hfz23_9 := blk_frozen BK111.out 9
      have hfz23_10 := blk_frozen BK111.out 10
      have hfz23_11 := blk_frozen BK111.out 11
      have hfz23_12 := blk_frozen BK111.out 12
      have hfz23_13 := blk_frozen BK111.out 13
      have hfz23_14 := blk_frozen BK111.out 14
      have hfz23_15 := blk_frozen BK111.out 15
      have hfz23_16 := blk_frozen BK111.out 16
      have hfz23_17 := blk_frozen BK111.out 17
      have hfz23_18 := blk_frozen BK111.out 18
      have hcz24_0 : w5.cell? ⟨gb112, 0, none⟩ = some (.string a1_0) := (blk_cell BK112.out 0).trans rfl
      have hcz24_1 : w5.cell? ⟨gb112, 1, none⟩ = some (.bool a1_1) := (blk_cell BK112.out 1).trans rfl
      have hcz24_2 : w5.cell? ⟨gb112, 2, none⟩ = some (.int .i64 a1_2) := (blk_cell BK112.out 2).trans rfl
      have hcz24_3 : w5.cell? ⟨gb112, 3, none⟩ = some (.int .i64 a1_3) := (blk_cell BK112.out 3).trans rfl
      have hcz24_4 : w5.cell? ⟨gb112, 4, none⟩ = some (.string a1_4) := (blk_cell BK112.out 4).trans rfl
      have hcz24_5 : w5.cell? ⟨gb112, 5, none⟩ = some (.slice A1_5 l1_5.length c1_5) := (blk_cell BK112.out 5).trans rfl
      have hcz24_6 : w5.cell? ⟨gb112, 6, none⟩ = some (.bool a1_6) := (blk_cell BK112.out 6).trans rfl
      have hcz24_7 : w5.cell? ⟨gb112, 7, none⟩ = some (.int .i64 a1_7) := (blk_cell BK112.out 7).trans rfl
      have hcz24_8 : w5.cell? ⟨gb112, 8, none⟩ = some (.int .i64 a1_8) := (blk_cell BK112.out 8).trans rfl
      have hcz24_9 : w5.cell? ⟨gb112, 9, none⟩ = some (.string a1_9) := (blk_cell BK112.out 9).trans rfl
      have hcz24_10 : w5.cell? ⟨gb112, 10, none⟩ = some (.slice A1_10 l1_10.length c1_10) := (blk_cell BK112.out 10).trans rfl
      have hcz24_11 : w5.cell? ⟨gb112, 11, none⟩ = some (.bool a1_11) := (blk_cell BK112.out 11).trans rfl
      have hcz24_12 : w5.cell? ⟨gb112, 12, none⟩ = some (.int .i64 a1_12) := (blk_cell BK112.out 12).trans rfl
      have hcz24_13 : w5.cell? ⟨gb112, 13, none⟩ = some (.int .i64 a1_13) := (blk_cell BK112.out 13).trans rfl
      have hcz24_14 : w5.cell? ⟨gb112, 14, none⟩ = some (.string a1_14) := (blk_cell BK112.out 14).trans rfl
      have hcz24_15 : w5.cell? ⟨gb112, 15, none⟩ = some (.slice A1_15 l1_15.length c1_15) := (blk_cell BK112.out 15).trans rfl
      have hcz24_16 : w5.cell? ⟨gb112, 16, none⟩ = some (.string a1_16) := (blk_cell BK112.out 16).trans rfl
      have hcz24_17 : w5.cell? ⟨gb112, 17, none⟩ = some (.string a1_17) := (blk_cell BK112.out 17).trans rfl
      have hcz24_18 : w5.cell? ⟨gb112, 18, none⟩ = some (.string a1_18) := (blk_cell BK112.out 18).trans rfl
      have hfz24_0 := blk_frozen BK112.out 0
      have hfz24_1 := blk_frozen BK112.out 1
      have hfz24_2 := blk_frozen BK112.out 2
      have hfz24_3 := blk_frozen BK112.out 3
      have hfz24_4 := blk_frozen BK112.out 4
      have hfz24_5 := blk_frozen BK112.out 5
      have hfz24_6 := blk_frozen BK112.out 6
      have hfz24_7 := blk_frozen BK112.out 7
      have hfz24_8 := blk_frozen BK112.out 8
      have hfz24_9 := blk_frozen BK112.out 9
      have hfz24_10 := blk_frozen BK112.out 10
      have hfz24_11 := blk_frozen BK112.out 11
      have hfz24_12 := blk_frozen BK112.out 12
      have hfz24_13 := blk_frozen BK112.out 13
      have hfz24_14 := blk_frozen BK112.out 14
      have hfz24_15 := blk_frozen BK112.out 15
      have hfz24_16 := blk_frozen BK112.out 16
      have hfz24_17 := blk_frozen BK112.out 17
      have hfz24_18 := blk_frozen BK112.out 18
      go_wp2
      go_meet
      case rel => exact ⟨_, (true), (by first | rfl | (simp; done) | (simp [*]; done)), H', ⟨by first | omega | exact Nat.le_refl _⟩, ⟨by (with_reducible repeat (first | refine blk_drewN ?_ _ | refine blk_drew ?_ | refine blk_alloc ?_ _)); exact BK111.out⟩, ⟨by (with_reducible repeat (first | refine blk_drewN ?_ _ | refine blk_drew ?_ | refine blk_alloc ?_ _)); exact BK112.out⟩, ⟨by repeat (first | (with_reducible first | exact HB.out | apply below_alloc | apply pw_below_drewN | apply below_drew1 | refine below_set ?_ GE111.out | refine below_set ?_ GE112.out) | exact HB.out)⟩⟩
  case rest =>
    clear HC3
    obtain ⟨kq, x37_2, rfl, HA, HJ2, BK111, BK112, HB⟩ := hcut
    cases kq with
    | zero => exact absurd HA.out (by simp [spec_SameStatement.j0])
    | succ kj2 =>
      have H := HA.out
      clear HA
      simp only [spec_SameStatement.j0] at H
      by_cases c25 : x37_2 = true
      · subst c25
        have H1 : (some false) = some r := by rw [if_pos rfl] at H; exact H
        clear H
        have H := H1
        clear H1
        obtain rfl := Option.some.inj H
        go_wp2
        go_ret
        exact ⟨by first | rfl | (simp [errW_none, errW_some] <;> rfl) | (simp [*, errW_none, errW_some] <;> rfl), by repeat (first | (with_reducible first | exact HB.out | apply below_alloc | apply pw_below_drewN | apply below_drew1 | refine below_set ?_ GE111.out | refine below_set ?_ GE112.out) | exact HB.out)⟩
      · replace c25 := Bool.eq_false_iff.mpr c25
        subst c25
        have H1 : ((spec_SameExpr.f kj2 a0_2 a0_3 a0_4 l0_5 a1_2 a1_3 a1_4 l1_5).bind fun t113 => (if t113 = true then ((spec_SameExpr.f kj2 a0_7 a0_8 a0_9 l0_10 a1_7 a1_8 a1_9 l1_10).bind fun t114 => (if t114 = true then ((spec_SameExpr.f kj2 a0_12 a0_13 a0_14 l0_15 a1_12 a1_13 a1_14 l1_15).bind fun t115 => (some t115)) else (some false))) else (some false))) = some r := by rw [if_neg (show ¬ (false = true) by decide)] at H; exact H
        clear H
        have H := H1
        clear H1
        replace H := Option.bind_eq_some_iff.mp H
        obtain ⟨t113, A260, H⟩ := H
        replace H : (if t113 = true then ((spec_SameExpr.f kj2 a0_7 a0_8 a0_9 l0_10 a1_7 a1_8 a1_9 l1_10).bind fun t114 => (if t114 = true then ((spec_SameExpr.f kj2 a0_12 a0_13 a0_14 l0_15 a1_12 a1_13 a1_14 l1_15).bind fun t115 => (some t115)) else (some false))) else (some false)) = some r := H
        have A26 := Aside0.mk A260
        clear A260
        by_cases c27 : t113 = true
        · subst c27
          have H1 : ((spec_SameExpr.f kj2 a0_7 a0_8 a0_9 l0_10 a1_7 a1_8 a1_9 l1_10).bind fun t114 => (if t114 = true then ((spec_SameExpr.f kj2 a0_12 a0_13 a0_14 l0_15 a1_12 a1_13 a1_14 l1_15).bind fun t115 => (some t115)) else (some false))) = some r := by rw [if_pos rfl] at H; exact H
          clear H
          have H := H1
          clear H1
          replace H := Option.bind_eq_some_iff.mp H
          obtain ⟨t114, A280, H⟩ := H
          replace H : (if t114 = true then ((spec_SameExpr.f kj2 a0_12 a0_13 a0_14 l0_15 a1_12 a1_13 a1_14 l1_15).bind fun t115 => (some t115)) else (some false)) = some r := H
          have A28 := Aside0.mk A280
          clear A280
          by_cases c29 : t114 = true
          · subst c29
            have H1 : ((spec_SameExpr.f kj2 a0_12 a0_13 a0_14 l0_15 a1_12 a1_13 a1_14 l1_15).bind fun t115 => (some t115)) = some r := by rw [if_pos rfl] at H; exact H
            clear H
            have H := H1
            clear H1
            replace H := Option.bind_eq_some_iff.mp H
            obtain ⟨t115, A300, H⟩ := H
            replace H : (some t115) = some r := H
            have A30 := Aside0.mk A300
            clear A300
            obtain rfl := Option.some.inj H
            have hnb31 := NB111_112.out
            have hnc31 := NB112_111.out
            have hcz32_0 : wc.cell? ⟨gb111, 0, none⟩ = some (.string a0_0) := (blk_cell BK111.out 0).trans rfl
            have hcz32_1 : wc.cell? ⟨gb111, 1, none⟩ = some (.bool a0_1) := (blk_cell BK111.out 1).trans rfl
            have hcz32_2 : wc.cell? ⟨gb111, 2, none⟩ = some (.int .i64 a0_2) := (blk_cell BK111.out 2).trans rfl
            have hcz32_3 : wc.cell? ⟨gb111, 3, none⟩ = some (.int .i64 a0_3) := (blk_cell BK111.out 3).trans rfl
            have hcz32_4 : wc.cell? ⟨gb111, 4, none⟩ = some (.string a0_4) := (blk_cell BK111.out 4).trans rfl
            have hcz32_5 : wc.cell? ⟨gb111, 5, none⟩ = some (.slice A0_5 l0_5.length c0_5) := (blk_cell BK111.out 5).trans rfl
            have hcz32_6 : wc.cell? ⟨gb111, 6, none⟩ = some (.bool a0_6) := (blk_cell BK111.out 6).trans rfl
            have hcz32_7 : wc.cell? ⟨gb111, 7, none⟩ = some (.int .i64 a0_7) := (blk_cell BK111.out 7).trans rfl
            have hcz32_8 : wc.cell? ⟨gb111, 8, none⟩ = some (.int .i64 a0_8) := (blk_cell BK111.out 8).trans rfl
            have hcz32_9 : wc.cell? ⟨gb111, 9, none⟩ = some (.string a0_9) := (blk_cell BK111.out 9).trans rfl
            have hcz32_10 : wc.cell? ⟨gb111, 10, none⟩ = some (.slice A0_10 l0_10.length c0_10) := (blk_cell BK111.out 10).trans rfl
            have hcz32_11 : wc.cell? ⟨gb111, 11, none⟩ = some (.bool a0_11) := (blk_cell BK111.out 11).trans rfl
            have hcz32_12 : wc.cell? ⟨gb111, 12, none⟩ = some (.int .i64 a0_12) := (blk_cell BK111.out 12).trans rfl
            have hcz32_13 : wc.cell? ⟨gb111, 13, none⟩ = some (.int .i64 a0_13) := (blk_cell BK111.out 13).trans rfl
            have hcz32_14 : wc.cell? ⟨gb111, 14, none⟩ = some (.string a0_14) := (blk_cell BK111.out 14).trans rfl
            have hcz32_15 : wc.cell? ⟨gb111, 15, none⟩ = some (.slice A0_15 l0_15.length c0_15) := (blk_cell BK111.out 15).trans rfl
            have hcz32_16 : wc.cell? ⟨gb111, 16, none⟩ = some (.string a0_16) := (blk_cell BK111.out 16).trans rfl
            have hcz32_17 : wc.cell? ⟨gb111, 17, none⟩ = some (.string a0_17) := (blk_cell BK111.out 17).trans rfl
            have hcz32_18 : wc.cell? ⟨gb111, 18, none⟩ = some (.string a0_18) := (blk_cell BK111.out 18).trans rfl
            have hfz32_0 := blk_frozen BK111.out 0
            have hfz32_1 := blk_frozen BK111.out 1
            have hfz32_2 := blk_frozen BK111.out 2
            have hfz32_3 := blk_frozen BK111.out 3
            have hfz32_4 := blk_frozen BK111.out 4
            have hfz32_5 := blk_frozen BK111.out 5
            have hfz32_6 := blk_frozen BK111.out 6
            have hfz32_7 := blk_frozen BK111.out 7
            have hfz32_8 := blk_frozen BK111.out 8
            have hfz32_9 := blk_frozen BK111.out 9
            have hfz32_10 := blk_frozen BK111.out 10
            have hfz32_11 := blk_frozen BK111.out 11
            have hfz32_12 := blk_frozen BK111.out 12
            have hfz32_13 := blk_frozen BK111.out 13
            have hfz32_14 := blk_frozen BK111.out 14
            have hfz32_15 := blk_frozen BK111.out 15
            have hfz32_16 := blk_frozen BK111.out 16
            have hfz32_17 := blk_frozen BK111.out 17
            have hfz32_18 := blk_frozen BK111.out 18
            have hcz33_0 : wc.cell? ⟨gb112, 0, none⟩ = some (.string a1_0) := (blk_cell BK112.out 0).trans rfl
            have hcz33_1 : wc.cell? ⟨gb112, 1, none⟩ = some (.bool a1_1) := (blk_cell BK112.out 1).trans rfl
            have hcz33_2 : wc.cell? ⟨gb112, 2, none⟩ = some (.int .i64 a1_2) := (blk_cell BK112.out 2).trans rfl
            have hcz33_3 : wc.cell? ⟨gb112, 3, none⟩ = some (.int .i64 a1_3) := (blk_cell BK112.out 3).trans rfl
            have hcz33_4 : wc.cell? ⟨gb112, 4, none⟩ = some (.string a1_4) := (blk_cell BK112.out 4).trans rfl
            have hcz33_5 : wc.cell? ⟨gb112, 5, none⟩ = some (.slice A1_5 l1_5.length c1_5) := (blk_cell BK112.out 5).trans rfl
            have hcz33_6 : wc.cell? ⟨gb112, 6, none⟩ = some (.bool a1_6) := (blk_cell BK112.out 6).trans rfl
            have hcz33_7 : wc.cell? ⟨gb112, 7, none⟩ = some (.int .i64 a1_7) := (blk_cell BK112.out 7).trans rfl
            have hcz33_8 : wc.cell? ⟨gb112, 8, none⟩ = some (.int .i64 a1_8) := (blk_cell BK112.out 8).trans rfl
            have hcz33_9 : wc.cell? ⟨gb112, 9, none⟩ = some (.string a1_9) := (blk_cell BK112.out 9).trans rfl
            have hcz33_10 : wc.cell? ⟨gb112, 10, none⟩ = some (.slice A1_10 l1_10.length c1_10) := (blk_cell BK112.out 10).trans rfl
            have hcz33_11 : wc.cell? ⟨gb112, 11, none⟩ = some (.bool a1_11) := (blk_cell BK112.out 11).trans rfl
            have hcz33_12 : wc.cell? ⟨gb112, 12, none⟩ = some (.int .i64 a1_12) := (blk_cell BK112.out 12).trans rfl
            have hcz33_13 : wc.cell? ⟨gb112, 13, none⟩ = some (.int .i64 a1_13) := (blk_cell BK112.out 13).trans rfl
            have hcz33_14 : wc.cell? ⟨gb112, 14, none⟩ = some (.string a1_14) := (blk_cell BK112.out 14).trans rfl
            have hcz33_15 : wc.cell? ⟨gb112, 15, none⟩ = some (.slice A1_15 l1_15.length c1_15) := (blk_cell BK112.out 15).trans rfl
            have hcz33_16 : wc.cell? ⟨gb112, 16, none⟩ = some (.string a1_16) := (blk_cell BK112.out 16).trans rfl
            have hcz33_17 : wc.cell? ⟨gb112, 17, none⟩ = some (.string a1_17) := (blk_cell BK112.out 17).trans rfl
            have hcz33_18 : wc.cell? ⟨gb112, 18, none⟩ = some (.string a1_18) := (blk_cell BK112.out 18).trans rfl
            have hfz33_0 := blk_frozen BK112.out 0
            have hfz33_1 := blk_frozen BK112.out 1
            have hfz33_2 := blk_frozen BK112.out 2
            have hfz33_3 := blk_frozen BK112.out 3
            have hfz33_4 := blk_frozen BK112.out 4
            have hfz33_5 := blk_frozen BK112.out 5
            have hfz33_6 := blk_frozen BK112.out 6
            have hfz33_7 := blk_frozen BK112.out 7
            have hfz33_8 := blk_frozen BK112.out 8
            have hfz33_9 := blk_frozen BK112.out 9
            have hfz33_10 := blk_frozen BK112.out 10
            have hfz33_11 := blk_frozen BK112.out 11
            have hfz33_12 := blk_frozen BK112.out 12
            have hfz33_13 := blk_frozen BK112.out 13
            have hfz33_14 := blk_frozen BK112.out 14
            have hfz33_15 := blk_frozen BK112.out 15
            have hfz33_16 := blk_frozen BK112.out 16
            have hfz33_17 := blk_frozen BK112.out 17
            have hfz33_18 := blk_frozen BK112.out 18
            go_wp2_with (first | ((with_reducible refine gate_callee (f := 29) rfl ?_); refine goesL_ (some 42) rfl rfl Try.func29 (by kernel_rfl) rfl #[.agg #[.int .i64 a0_2, .int .i64 a0_3, .string a0_4, .slice A0_5 l0_5.length c0_5], .agg #[.int .i64 a1_2, .int .i64 a1_3, .string a1_4, .slice A1_5 l1_5.length c1_5]] rfl (by (try simp only [List.map_toArray, List.map_cons, List.map_nil]); first | done | rfl | (simp only [List.length_drop, List.length_take]; rfl)) ?_; (with_reducible refine (spec_SameExpr.calls kj2 a0_2 a0_3 a0_4 _ _ l0_5 a1_2 a1_3 a1_4 _ _ l1_5 true _ ?side1 ?side2 ?side3 ?side4 A26.out).mono ?_); (case side1 => repeat (first | exact (Kd.C_below HR0_5.out HB.out) | (with_reducible refine Kd.C_alloc ?_ _) | (with_reducible refine Kd.C_drewN ?_ _) | (with_reducible refine Kd.C_drew ?_))); (case side2 => exact HC0_5.out); (case side3 => repeat (first | exact (Kd.C_below HR1_5.out HB.out) | (with_reducible refine Kd.C_alloc ?_ _) | (with_reducible refine Kd.C_drewN ?_ _) | (with_reducible refine Kd.C_drew ?_))); (case side4 => exact HC1_5.out); rintro e w34 ⟨rfl, hb⟩; refine ⟨_, rfl, ?_⟩; have n0_ := Aside0.mk (blk_below (g := gb111) (o := .cells #[.string a0_0, .bool a0_1, .int .i64 a0_2, .int .i64 a0_3, .string a0_4, .slice A0_5 l0_5.length c0_5, .bool a0_6, .int .i64 a0_7, .int .i64 a0_8, .string a0_9, .slice A0_10 l0_10.length c0_10, .bool a0_11, .int .i64 a0_12, .int .i64 a0_13, .string a0_14, .slice A0_15 l0_15.length c0_15, .string a0_16, .string a0_17, .string a0_18] 36 (0, 0)) (by (with_reducible repeat (first | refine blk_drewN ?_ _ | refine blk_drew ?_ | refine blk_alloc ?_ _)); exact BK111.out) hb); have n1_ := Aside0.mk (blk_below (g := gb112) (o := .cells #[.string a1_0, .bool a1_1, .int .i64 a1_2, .int .i64 a1_3, .string a1_4, .slice A1_5 l1_5.length c1_5, .bool a1_6, .int .i64 a1_7, .int .i64 a1_8, .string a1_9, .slice A1_10 l1_10.length c1_10, .bool a1_11, .int .i64 a1_12, .int .i64 a1_13, .string a1_14, .slice A1_15 l1_15.length c1_15, .string a1_16, .string a1_17, .string a1_18] 36 (0, 0)) (by (with_reducible repeat (first | refine blk_drewN ?_ _ | refine blk_drew ?_ | refine blk_alloc ?_ _)); exact BK112.out) hb); have n2_ := Aside0.mk (below_step (by repeat (first | (with_reducible first | exact HB.out | apply below_alloc | apply pw_below_drewN | apply below_drew1 | refine below_set ?_ GE111.out | refine below_set ?_ GE112.out) | exact HB.out)) hb); clear BK111; clear BK112; clear HB; have BK111 := n0_; have BK112 := n1_; have HB := n2_; clear n0_ n1_ n2_; (try clear hb); have hcz35_0 : w34.cell? ⟨gb111, 0, none⟩ = some (.string a0_0) := (blk_cell BK111.out 0).trans rfl; have hcz35_1 : w34.cell? ⟨gb111, 1, none⟩ = some (.bool a0_1) := (blk_cell BK111.out 1).trans rfl; have hcz35_2 : w34.cell? ⟨gb111, 2, none⟩ = some (.int .i64 a0_2) := (blk_cell BK111.out 2).trans rfl; have hcz35_3 : w34.cell? ⟨gb111, 3, none⟩ = some (.int .i64 a0_3) := (blk_cell BK111.out 3).trans rfl; have hcz35_4 : w34.cell? ⟨gb111, 4, none⟩ = some (.string a0_4) := (blk_cell BK111.out 4).trans rfl; have hcz35_5 : w34.cell? ⟨gb111, 5, none⟩ = some (.slice A0_5 l0_5.length c0_5) := (blk_cell BK111.out 5).trans rfl; have hcz35_6 : w34.cell? ⟨gb111, 6, none⟩ = some (.bool a0_6) := (blk_cell BK111.out 6).trans rfl; have hcz35_7 : w34.cell? ⟨gb111, 7, none⟩ = some (.int .i64 a0_7) := (blk_cell BK111.out 7).trans rfl; have hcz35_8 : w34.cell? ⟨gb111, 8, none⟩ = some (.int .i64 a0_8) := (blk_cell BK111.out 8).trans rfl; have hcz35_9 : w34.cell? ⟨gb111, 9, none⟩ = some (.string a0_9) := (blk_cell BK111.out 9).trans rfl; have hcz35_10 : w34.cell? ⟨gb111, 10, none⟩ = some (.slice A0_10 l0_10.length c0_10) := (blk_cell BK111.out 10).trans rfl; have hcz35_11 : w34.cell? ⟨gb111, 11, none⟩ = some (.bool a0_11) := (blk_cell BK111.out 11).trans rfl; have hcz35_12 : w34.cell? ⟨gb111, 12, none⟩ = some (.int .i64 a0_12) := (blk_cell BK111.out 12).trans rfl; have hcz35_13 : w34.cell? ⟨gb111, 13, none⟩ = some (.int .i64 a0_13) := (blk_cell BK111.out 13).trans rfl; have hcz35_14 : w34.cell? ⟨gb111, 14, none⟩ = some (.string a0_14) := (blk_cell BK111.out 14).trans rfl; have hcz35_15 : w34.cell? ⟨gb111, 15, none⟩ = some (.slice A0_15 l0_15.length c0_15) := (blk_cell BK111.out 15).trans rfl; have hcz35_16 : w34.cell? ⟨gb111, 16, none⟩ = some (.string a0_16) := (blk_cell BK111.out 16).trans rfl; have hcz35_17 : w34.cell? ⟨gb111, 17, none⟩ = some (.string a0_17) := (blk_cell BK111.out 17).trans rfl; have hcz35_18 : w34.cell? ⟨gb111, 18, none⟩ = some (.string a0_18) := (blk_cell BK111.out 18).trans rfl; have hfz35_0 := blk_frozen BK111.out 0; have hfz35_1 := blk_frozen BK111.out 1; have hfz35_2 := blk_frozen BK111.out 2; have hfz35_3 := blk_frozen BK111.out 3; have hfz35_4 := blk_frozen BK111.out 4; have hfz35_5 := blk_frozen BK111.out 5; have hfz35_6 := blk_frozen BK111.out 6; have hfz35_7 := blk_frozen BK111.out 7; have hfz35_8 := blk_frozen BK111.out 8; have hfz35_9 := blk_frozen BK111.out 9; have hfz35_10 := blk_frozen BK111.out 10; have hfz35_11 := blk_frozen BK111.out 11; have hfz35_12 := blk_frozen BK111.out 12; have hfz35_13 := blk_frozen BK111.out 13; have hfz35_14 := blk_frozen BK111.out 14; have hfz35_15 := blk_frozen BK111.out 15; have hfz35_16 := blk_frozen BK111.out 16; have hfz35_17 := blk_frozen BK111.out 17; have hfz35_18 := blk_frozen BK111.out 18; have hcz36_0 : w34.cell? ⟨gb112, 0, none⟩ = some (.string a1_0) := (blk_cell BK112.out 0).trans rfl; have hcz36_1 : w34.cell? ⟨gb112, 1, none⟩ = some (.bool a1_1) := (blk_cell BK112.out 1).trans rfl; have hcz36_2 : w34.cell? ⟨gb112, 2, none⟩ = some (.int .i64 a1_2) := (blk_cell BK112.out 2).trans rfl; have hcz36_3 : w34.cell? ⟨gb112, 3, none⟩ = some (.int .i64 a1_3) := (blk_cell BK112.out 3).trans rfl; have hcz36_4 : w34.cell? ⟨gb112, 4, none⟩ = some (.string a1_4) := (blk_cell BK112.out 4).trans rfl; have hcz36_5 : w34.cell? ⟨gb112, 5, none⟩ = some (.slice A1_5 l1_5.length c1_5) := (blk_cell BK112.out 5).trans rfl; have hcz36_6 : w34.cell? ⟨gb112, 6, none⟩ = some (.bool a1_6) := (blk_cell BK112.out 6).trans rfl; have hcz36_7 : w34.cell? ⟨gb112, 7, none⟩ = some (.int .i64 a1_7) := (blk_cell BK112.out 7).trans rfl; have hcz36_8 : w34.cell? ⟨gb112, 8, none⟩ = some (.int .i64 a1_8) := (blk_cell BK112.out 8).trans rfl; have hcz36_9 : w34.cell? ⟨gb112, 9, none⟩ = some (.string a1_9) := (blk_cell BK112.out 9).trans rfl; have hcz36_10 : w34.cell? ⟨gb112, 10, none⟩ = some (.slice A1_10 l1_10.length c1_10) := (blk_cell BK112.out 10).trans rfl; have hcz36_11 : w34.cell? ⟨gb112, 11, none⟩ = some (.bool a1_11) := (blk_cell BK112.out 11).trans rfl; have hcz36_12 : w34.cell? ⟨gb112, 12, none⟩ = some (.int .i64 a1_12) := (blk_cell BK112.out 12).trans rfl; have hcz36_13 : w34.cell? ⟨gb112, 13, none⟩ = some (.int .i64 a1_13) := (blk_cell BK112.out 13).trans rfl; have hcz36_14 : w34.cell? ⟨gb112, 14, none⟩ = some (.string a1_14) := (blk_cell BK112.out 14).trans rfl; have hcz36_15 : w34.cell? ⟨gb112, 15, none⟩ = some (.slice A1_15 l1_15.length c1_15) := (blk_cell BK112.out 15).trans rfl; have hcz36_16 : w34.cell? ⟨gb112, 16, none⟩ = some (.string a1_16) := (blk_cell BK112.out 16).trans rfl; have hcz36_17 : w34.cell? ⟨gb112, 17, none⟩ = some (.string a1_17) := (blk_cell BK112.out 17).trans rfl; have hcz36_18 : w34.cell? ⟨gb112, 18, none⟩ = some (.string a1_18) := (blk_cell BK112.out 18).trans rfl; have hfz36_0 := blk_frozen BK112.out 0; have hfz36_1 := blk_frozen BK112.out 1; have hfz36_2 := blk_frozen BK112.out 2; have hfz36_3 := blk_frozen BK112.out 3; have hfz36_4 := blk_frozen BK112.out 4; have hfz36_5 := blk_frozen BK112.out 5; have hfz36_6 := blk_frozen BK112.out 6; have hfz36_7 := blk_frozen BK112.out 7; have hfz36_8 := blk_frozen BK112.out 8; have hfz36_9 := blk_frozen BK112.out 9; have hfz36_10 := blk_frozen BK112.out 10; have hfz36_11 := blk_frozen BK112.out 11; have hfz36_12 := blk_frozen BK112.out 12; have hfz36_13 := blk_frozen BK112.out 13; have hfz36_14 := blk_frozen BK112.out 14; have hfz36_15 := blk_frozen BK112.out 15; have hfz36_16 := blk_frozen BK112.out 16; have hfz36_17 := blk_frozen BK112.out 17; have hfz36_18 := blk_frozen BK112.out 18) | (go_at_call 29; (with_reducible refine (spec_SameExpr.calls kj2 a0_7 a0_8 a0_9 _ _ l0_10 a1_7 a1_8 a1_9 _ _ l1_10 true _ ?side1 ?side2 ?side3 ?side4 A28.out).mono ?_); (case side1 => repeat (first | exact (Kd.C_below HR0_10.out HB.out) | (with_reducible refine Kd.C_alloc ?_ _) | (with_reducible refine Kd.C_drewN ?_ _) | (with_reducible refine Kd.C_drew ?_))); (case side2 => exact HC0_10.out); (case side3 => repeat (first | exact (Kd.C_below HR1_10.out HB.out) | (with_reducible refine Kd.C_alloc ?_ _) | (with_reducible refine Kd.C_drewN ?_ _) | (with_reducible refine Kd.C_drew ?_))); (case side4 => exact HC1_10.out); rintro e w37 ⟨rfl, hb⟩; have n0_ := Aside0.mk (blk_below (g := gb111) (o := .cells #[.string a0_0, .bool a0_1, .int .i64 a0_2, .int .i64 a0_3, .string a0_4, .slice A0_5 l0_5.length c0_5, .bool a0_6, .int .i64 a0_7, .int .i64 a0_8, .string a0_9, .slice A0_10 l0_10.length c0_10, .bool a0_11, .int .i64 a0_12, .int .i64 a0_13, .string a0_14, .slice A0_15 l0_15.length c0_15, .string a0_16, .string a0_17, .string a0_18] 36 (0, 0)) (by (with_reducible repeat (first | refine blk_drewN ?_ _ | refine blk_drew ?_ | refine blk_alloc ?_ _)); exact BK111.out) hb); have n1_ := Aside0.mk (blk_below (g := gb112) (o := .cells #[.string a1_0, .bool a1_1, .int .i64 a1_2, .int .i64 a1_3, .string a1_4, .slice A1_5 l1_5.length c1_5, .bool a1_6, .int .i64 a1_7, .int .i64 a1_8, .string a1_9, .slice A1_10 l1_10.length c1_10, .bool a1_11, .int .i64 a1_12, .int .i64 a1_13, .string a1_14, .slice A1_15 l1_15.length c1_15, .string a1_16, .string a1_17, .string a1_18] 36 (0, 0)) (by (with_reducible repeat (first | refine blk_drewN ?_ _ | refine blk_drew ?_ | refine blk_alloc ?_ _)); exact BK112.out) hb); have n2_ := Aside0.mk (below_step (by repeat (first | (with_reducible first | exact HB.out | apply below_alloc | apply pw_below_drewN | apply below_drew1 | refine below_set ?_ GE111.out | refine below_set ?_ GE112.out) | exact HB.out)) hb); clear BK111; clear BK112; clear HB; have BK111 := n0_; have BK112 := n1_; have HB := n2_; clear n0_ n1_ n2_; (try clear hb); have hcz38_0 : w37.cell? ⟨gb111, 0, none⟩ = some (.string a0_0) := (blk_cell BK111.out 0).trans rfl; have hcz38_1 : w37.cell? ⟨gb111, 1, none⟩ = some (.bool a0_1) := (blk_cell BK111.out 1).trans rfl; have hcz38_2 : w37.cell? ⟨gb111, 2, none⟩ = some (.int .i64 a0_2) := (blk_cell BK111.out 2).trans rfl; have hcz38_3 : w37.cell? ⟨gb111, 3, none⟩ = some (.int .i64 a0_3) := (blk_cell BK111.out 3).trans rfl; have hcz38_4 : w37.cell? ⟨gb111, 4, none⟩ = some (.string a0_4) := (blk_cell BK111.out 4).trans rfl; have hcz38_5 : w37.cell? ⟨gb111, 5, none⟩ = some (.slice A0_5 l0_5.length c0_5) := (blk_cell BK111.out 5).trans rfl; have hcz38_6 : w37.cell? ⟨gb111, 6, none⟩ = some (.bool a0_6) := (blk_cell BK111.out 6).trans rfl; have hcz38_7 : w37.cell? ⟨gb111, 7, none⟩ = some (.int .i64 a0_7) := (blk_cell BK111.out 7).trans rfl; have hcz38_8 : w37.cell? ⟨gb111, 8, none⟩ = some (.int .i64 a0_8) := (blk_cell BK111.out 8).trans rfl; have hcz38_9 : w37.cell? ⟨gb111, 9, none⟩ = some (.string a0_9) := (blk_cell BK111.out 9).trans rfl; have hcz38_10 : w37.cell? ⟨gb111, 10, none⟩ = some (.slice A0_10 l0_10.length c0_10) := (blk_cell BK111.out 10).trans rfl; have hcz38_11 : w37.cell? ⟨gb111, 11, none⟩ = some (.bool a0_11) := (blk_cell BK111.out 11).trans rfl; have hcz38_12 : w37.cell? ⟨gb111, 12, none⟩ = some (.int .i64 a0_12) := (blk_cell BK111.out 12).trans rfl; have hcz38_13 : w37.cell? ⟨gb111, 13, none⟩ = some (.int .i64 a0_13) := (blk_cell BK111.out 13).trans rfl; have hcz38_14 : w37.cell? ⟨gb111, 14, none⟩ = some (.string a0_14) := (blk_cell BK111.out 14).trans rfl; have hcz38_15 : w37.cell? ⟨gb111, 15, none⟩ = some (.slice A0_15 l0_15.length c0_15) := (blk_cell BK111.out 15).trans rfl; have hcz38_16 : w37.cell? ⟨gb111, 16, none⟩ = some (.string a0_16) := (blk_cell BK111.out 16).trans rfl; have hcz38_17 : w37.cell? ⟨gb111, 17, none⟩ = some (.string a0_17) := (blk_cell BK111.out 17).trans rfl; have hcz38_18 : w37.cell? ⟨gb111, 18, none⟩ = some (.string a0_18) := (blk_cell BK111.out 18).trans rfl; have hfz38_0 := blk_frozen BK111.out 0; have hfz38_1 := blk_frozen BK111.out 1; have hfz38_2 := blk_frozen BK111.out 2; have hfz38_3 := blk_frozen BK111.out 3; have hfz38_4 := blk_frozen BK111.out 4; have hfz38_5 := blk_frozen BK111.out 5; have hfz38_6 := blk_frozen BK111.out 6; have hfz38_7 := blk_frozen BK111.out 7; have hfz38_8 := blk_frozen BK111.out 8; have hfz38_9 := blk_frozen BK111.out 9; have hfz38_10 := blk_frozen BK111.out 10; have hfz38_11 := blk_frozen BK111.out 11; have hfz38_12 := blk_frozen BK111.out 12; have hfz38_13 := blk_frozen BK111.out 13; have hfz38_14 := blk_frozen BK111.out 14; have hfz38_15 := blk_frozen BK111.out 15; have hfz38_16 := blk_frozen BK111.out 16; have hfz38_17 := blk_frozen BK111.out 17; have hfz38_18 := blk_frozen BK111.out 18; have hcz39_0 : w37.cell? ⟨gb112, 0, none⟩ = some (.string a1_0) := (blk_cell BK112.out 0).trans rfl; have hcz39_1 : w37.cell? ⟨gb112, 1, none⟩ = some (.bool a1_1) := (blk_cell BK112.out 1).trans rfl; have hcz39_2 : w37.cell? ⟨gb112, 2, none⟩ = some (.int .i64 a1_2) := (blk_cell BK112.out 2).trans rfl; have hcz39_3 : w37.cell? ⟨gb112, 3, none⟩ = some (.int .i64 a1_3) := (blk_cell BK112.out 3).trans rfl; have hcz39_4 : w37.cell? ⟨gb112, 4, none⟩ = some (.string a1_4) := (blk_cell BK112.out 4).trans rfl; have hcz39_5 : w37.cell? ⟨gb112, 5, none⟩ = some (.slice A1_5 l1_5.length c1_5) := (blk_cell BK112.out 5).trans rfl; have hcz39_6 : w37.cell? ⟨gb112, 6, none⟩ = some (.bool a1_6) := (blk_cell BK112.out 6).trans rfl; have hcz39_7 : w37.cell? ⟨gb112, 7, none⟩ = some (.int .i64 a1_7) := (blk_cell BK112.out 7).trans rfl; have hcz39_8 : w37.cell? ⟨gb112, 8, none⟩ = some (.int .i64 a1_8) := (blk_cell BK112.out 8).trans rfl; have hcz39_9 : w37.cell? ⟨gb112, 9, none⟩ = some (.string a1_9) := (blk_cell BK112.out 9).trans rfl; have hcz39_10 : w37.cell? ⟨gb112, 10, none⟩ = some (.slice A1_10 l1_10.length c1_10) := (blk_cell BK112.out 10).trans rfl; have hcz39_11 : w37.cell? ⟨gb112, 11, none⟩ = some (.bool a1_11) := (blk_cell BK112.out 11).trans rfl; have hcz39_12 : w37.cell? ⟨gb112, 12, none⟩ = some (.int .i64 a1_12) := (blk_cell BK112.out 12).trans rfl; have hcz39_13 : w37.cell? ⟨gb112, 13, none⟩ = some (.int .i64 a1_13) := (blk_cell BK112.out 13).trans rfl; have hcz39_14 : w37.cell? ⟨gb112, 14, none⟩ = some (.string a1_14) := (blk_cell BK112.out 14).trans rfl; have hcz39_15 : w37.cell? ⟨gb112, 15, none⟩ = some (.slice A1_15 l1_15.length c1_15) := (blk_cell BK112.out 15).trans rfl; have hcz39_16 : w37.cell? ⟨gb112, 16, none⟩ = some (.string a1_16) := (blk_cell BK112.out 16).trans rfl; have hcz39_17 : w37.cell? ⟨gb112, 17, none⟩ = some (.string a1_17) := (blk_cell BK112.out 17).trans rfl; have hcz39_18 : w37.cell? ⟨gb112, 18, none⟩ = some (.string a1_18) := (blk_cell BK112.out 18).trans rfl; have hfz39_0 := blk_frozen BK112.out 0; have hfz39_1 := blk_frozen BK112.out 1; have hfz39_2 := blk_frozen BK112.out 2; have hfz39_3 := blk_frozen BK112.out 3; have hfz39_4 := blk_frozen BK112.out 4; have hfz39_5 := blk_frozen BK112.out 5; have hfz39_6 := blk_frozen BK112.out 6; have hfz39_7 := blk_frozen BK112.out 7; have hfz39_8 := blk_frozen BK112.out 8; have hfz39_9 := blk_frozen BK112.out 9; have hfz39_10 := blk_frozen BK112.out 10; have hfz39_11 := blk_frozen BK112.out 11; have hfz39_12 := blk_frozen BK112.out 12; have hfz39_13 := blk_frozen BK112.out 13; have hfz39_14 := blk_frozen BK112.out 14; have hfz39_15 := blk_frozen BK112.out 15; have hfz39_16 := blk_frozen BK112.out 16; have hfz39_17 := blk_frozen BK112.out 17; have hfz39_18 := blk_frozen BK112.out 18) | (go_at_call 29; (with_reducible refine (spec_SameExpr.calls kj2 a0_12 a0_13 a0_14 _ _ l0_15 a1_12 a1_13 a1_14 _ _ l1_15 t115 _ ?side1 ?side2 ?side3 ?side4 A30.out).mono ?_); (case side1 => repeat (first | exact (Kd.C_below HR0_15.out HB.out) | (with_reducible refine Kd.C_alloc ?_ _) | (with_reducible refine Kd.C_drewN ?_ _) | (with_reducible refine Kd.C_drew ?_))); (case side2 => exact HC0_15.out); (case side3 => repeat (first | exact (Kd.C_below HR1_15.out HB.out) | (with_reducible refine Kd.C_alloc ?_ _) | (with_reducible refine Kd.C_drewN ?_ _) | (with_reducible refine Kd.C_drew ?_))); (case side4 => exact HC1_15.out); rintro e w40 ⟨rfl, hb⟩; have n0_ := Aside0.mk (blk_below (g := gb111) (o := .cells #[.string a0_0, .bool a0_1, .int .i64 a0_2, .int .i64 a0_3, .string a0_4, .slice A0_5 l0_5.length c0_5, .bool a0_6, .int .i64 a0_7, .int .i64 a0_8, .string a0_9, .slice A0_10 l0_10.length c0_10, .bool a0_11, .int .i64 a0_12, .int .i64 a0_13, .string a0_14, .slice A0_15 l0_15.length c0_15, .string a0_16, .string a0_17, .string a0_18] 36 (0, 0)) (by (with_reducible repeat (first | refine blk_drewN ?_ _ | refine blk_drew ?_ | refine blk_alloc ?_ _)); exact BK111.out) hb); have n1_ := Aside0.mk (blk_below (g := gb112) (o := .cells #[.string a1_0, .bool a1_1, .int .i64 a1_2, .int .i64 a1_3, .string a1_4, .slice A1_5 l1_5.length c1_5, .bool a1_6, .int .i64 a1_7, .int .i64 a1_8, .string a1_9, .slice A1_10 l1_10.length c1_10, .bool a1_11, .int .i64 a1_12, .int .i64 a1_13, .string a1_14, .slice A1_15 l1_15.length c1_15, .string a1_16, .string a1_17, .string a1_18] 36 (0, 0)) (by (with_reducible repeat (first | refine blk_drewN ?_ _ | refine blk_drew ?_ | refine blk_alloc ?_ _)); exact BK112.out) hb); have n2_ := Aside0.mk (below_step (by repeat (first | (with_reducible first | exact HB.out | apply below_alloc | apply pw_below_drewN | apply below_drew1 | refine below_set ?_ GE111.out | refine below_set ?_ GE112.out) | exact HB.out)) hb); clear BK111; clear BK112; clear HB; have BK111 := n0_; have BK112 := n1_; have HB := n2_; clear n0_ n1_ n2_; (try clear hb)))
            go_ret
            exact ⟨by first | rfl | (simp [errW_none, errW_some] <;> rfl) | (simp [*, errW_none, errW_some] <;> rfl), by repeat (first | (with_reducible first | exact HB.out | apply below_alloc | apply pw_below_drewN | apply below_drew1 | refine below_set ?_ GE111.out | refine below_set ?_ GE112.out) | exact HB.out)⟩
          · replace c29 := Bool.eq_false_iff.mpr c29
            subst c29
            have H1 : (some false) = some r := by rw [if_neg (show ¬ (false = true) by decide)] at H; exact H
            clear H
            have H := H1
            clear H1
            obtain rfl := Option.some.inj H
            have hnb41 := NB111_112.out
            have hnc41 := NB112_111.out
            have hcz42_0 : wc.cell? ⟨gb111, 0, none⟩ = some (.string a0_0) := (blk_cell BK111.out 0).trans rfl
            have hcz42_1 : wc.cell? ⟨gb111, 1, none⟩ = some (.bool a0_1) := (blk_cell BK111.out 1).trans rfl
            have hcz42_2 : wc.cell? ⟨gb111, 2, none⟩ = some (.int .i64 a0_2) := (blk_cell BK111.out 2).trans rfl
            have hcz42_3 : wc.cell? ⟨gb111, 3, none⟩ = some (.int .i64 a0_3) := (blk_cell BK111.out 3).trans rfl
            have hcz42_4 : wc.cell? ⟨gb111, 4, none⟩ = some (.string a0_4) := (blk_cell BK111.out 4).trans rfl
            have hcz42_5 : wc.cell? ⟨gb111, 5, none⟩ = some (.slice A0_5 l0_5.length c0_5) := (blk_cell BK111.out 5).trans rfl
            have hcz42_6 : wc.cell? ⟨gb111, 6, none⟩ = some (.bool a0_6) := (blk_cell BK111.out 6).trans rfl
            have hcz42_7 : wc.cell? ⟨gb111, 7, none⟩ = some (.int .i64 a0_7) := (blk_cell BK111.out 7).trans rfl
            have hcz42_8 : wc.cell? ⟨gb111, 8, none⟩ = some (.int .i64 a0_8) := (blk_cell BK111.out 8).trans rfl
            have hcz42_9 : wc.cell? ⟨gb111, 9, none⟩ = some (.string a0_9) := (blk_cell BK111.out 9).trans rfl
            have hcz42_10 : wc.cell? ⟨gb111, 10, none⟩ = some (.slice A0_10 l0_10.length c0_10) := (blk_cell BK111.out 10).trans rfl
            have hcz42_11 : wc.cell? ⟨gb111, 11, none⟩ = some (.bool a0_11) := (blk_cell BK111.out 11).trans rfl
            have hcz42_12 : wc.cell? ⟨gb111, 12, none⟩ = some (.int .i64 a0_12) := (blk_cell BK111.out 12).trans rfl
            have hcz42_13 : wc.cell? ⟨gb111, 13, none⟩ = some (.int .i64 a0_13) := (blk_cell BK111.out 13).trans rfl
            have hcz42_14 : wc.cell? ⟨gb111, 14, none⟩ = some (.string a0_14) := (blk_cell BK111.out 14).trans rfl
            have hcz42_15 : wc.cell? ⟨gb111, 15, none⟩ = some (.slice A0_15 l0_15.length c0_15) := (blk_cell BK111.out 15).trans rfl
            have hcz42_16 : wc.cell? ⟨gb111, 16, none⟩ = some (.string a0_16) := (blk_cell BK111.out 16).trans rfl
            have hcz42_17 : wc.cell? ⟨gb111, 17, none⟩ = some (.string a0_17) := (blk_cell BK111.out 17).trans rfl
            have hcz42_18 : wc.cell? ⟨gb111, 18, none⟩ = some (.string a0_18) := (blk_cell BK111.out 18).trans rfl
            have hfz42_0 := blk_frozen BK111.out 0
            have hfz42_1 := blk_frozen BK111.out 1
            have hfz42_2 := blk_frozen BK111.out 2
            have hfz42_3 := blk_frozen BK111.out 3
            have hfz42_4 := blk_frozen BK111.out 4
            have hfz42_5 := blk_frozen BK111.out 5
            have hfz42_6 := blk_frozen BK111.out 6
            have hfz42_7 := blk_frozen BK111.out 7
            have hfz42_8 := blk_frozen BK111.out 8
            have hfz42_9 := blk_frozen BK111.out 9
            have hfz42_10 := blk_frozen BK111.out 10
            have hfz42_11 := blk_frozen BK111.out 11
            have hfz42_12 := blk_frozen BK111.out 12
            have hfz42_13 := blk_frozen BK111.out 13
            have hfz42_14 := blk_frozen BK111.out 14
            have hfz42_15 := blk_frozen BK111.out 15
            have hfz42_16 := blk_frozen BK111.out 16
            have hfz42_17 := blk_frozen BK111.out 17
            have hfz42_18 := blk_frozen BK111.out 18
            have hcz43_0 : wc.cell? ⟨gb112, 0, none⟩ = some (.string a1_0) := (blk_cell BK112.out 0).trans rfl
            have hcz43_1 : wc.cell? ⟨gb112, 1, none⟩ = some (.bool a1_1) := (blk_cell BK112.out 1).trans rfl
            have hcz43_2 : wc.cell? ⟨gb112, 2, none⟩ = some (.int .i64 a1_2) := (blk_cell BK112.out 2).trans rfl
            have hcz43_3 : wc.cell? ⟨gb112, 3, none⟩ = some (.int .i64 a1_3) := (blk_cell BK112.out 3).trans rfl
            have hcz43_4 : wc.cell? ⟨gb112, 4, none⟩ = some (.string a1_4) := (blk_cell BK112.out 4).trans rfl
            have hcz43_5 : wc.cell? ⟨gb112, 5, none⟩ = some (.slice A1_5 l1_5.length c1_5) := (blk_cell BK112.out 5).trans rfl
            have hcz43_6 : wc.cell? ⟨gb112, 6, none⟩ = some (.bool a1_6) := (blk_cell BK112.out 6).trans rfl
            have hcz43_7 : wc.cell? ⟨gb112, 7, none⟩ = some (.int .i64 a1_7) := (blk_cell BK112.out 7).trans rfl
            have hcz43_8 : wc.cell? ⟨gb112, 8, none⟩ = some (.int .i64 a1_8) := (blk_cell BK112.out 8).trans rfl
            have hcz43_9 : wc.cell? ⟨gb112, 9, none⟩ = some (.string a1_9) := (blk_cell BK112.out 9).trans rfl
            have hcz43_10 : wc.cell? ⟨gb112, 10, none⟩ = some (.slice A1_10 l1_10.length c1_10) := (blk_cell BK112.out 10).trans rfl
            have hcz43_11 : wc.cell? ⟨gb112, 11, none⟩ = some (.bool a1_11) := (blk_cell BK112.out 11).trans rfl
            have hcz43_12 : wc.cell? ⟨gb112, 12, none⟩ = some (.int .i64 a1_12) := (blk_cell BK112.out 12).trans rfl
            have hcz43_13 : wc.cell? ⟨gb112, 13, none⟩ = some (.int .i64 a1_13) := (blk_cell BK112.out 13).trans rfl
            have hcz43_14 : wc.cell? ⟨gb112, 14, none⟩ = some (.string a1_14) := (blk_cell BK112.out 14).trans rfl
            have hcz43_15 : wc.cell? ⟨gb112, 15, none⟩ = some (.slice A1_15 l1_15.length c1_15) := (blk_cell BK112.out 15).trans rfl
            have hcz43_16 : wc.cell? ⟨gb112, 16, none⟩ = some (.string a1_16) := (blk_cell BK112.out 16).trans rfl
            have hcz43_17 : wc.cell? ⟨gb112, 17, none⟩ = some (.string a1_17) := (blk_cell BK112.out 17).trans rfl
            have hcz43_18 : wc.cell? ⟨gb112, 18, none⟩ = some (.string a1_18) := (blk_cell BK112.out 18).trans rfl
            have hfz43_0 := blk_frozen BK112.out 0
            have hfz43_1 := blk_frozen BK112.out 1
            have hfz43_2 := blk_frozen BK112.out 2
            have hfz43_3 := blk_frozen BK112.out 3
            have hfz43_4 := blk_frozen BK112.out 4
            have hfz43_5 := blk_frozen BK112.out 5
            have hfz43_6 := blk_frozen BK112.out 6
            have hfz43_7 := blk_frozen BK112.out 7
            have hfz43_8 := blk_frozen BK112.out 8
            have hfz43_9 := blk_frozen BK112.out 9
            have hfz43_10 := blk_frozen BK112.out 10
            have hfz43_11 := blk_frozen BK112.out 11
            have hfz43_12 := blk_frozen BK112.out 12
            have hfz43_13 := blk_frozen BK112.out 13
            have hfz43_14 := blk_frozen BK112.out 14
            have hfz43_15 := blk_frozen BK112.out 15
            have hfz43_16 := blk_frozen BK112.out 16
            have hfz43_17 := blk_frozen BK112.out 17
            have hfz43_18 := blk_frozen BK112.out 18
            go_wp2_with (first | ((with_reducible refine gate_callee (f := 29) rfl ?_); refine goesL_ (some 42) rfl rfl Try.func29 (by kernel_rfl) rfl #[.agg #[.int .i64 a0_2, .int .i64 a0_3, .string a0_4, .slice A0_5 l0_5.length c0_5], .agg #[.int .i64 a1_2, .int .i64 a1_3, .string a1_4, .slice A1_5 l1_5.length c1_5]] rfl (by (try simp only [List.map_toArray, List.map_cons, List.map_nil]); first | done | rfl | (simp only [List.length_drop, List.length_take]; rfl)) ?_; (with_reducible refine (spec_SameExpr.calls kj2 a0_2 a0_3 a0_4 _ _ l0_5 a1_2 a1_3 a1_4 _ _ l1_5 true _ ?side1 ?side2 ?side3 ?side4 A26.out).mono ?_); (case side1 => repeat (first | exact (Kd.C_below HR0_5.out HB.out) | (with_reducible refine Kd.C_alloc ?_ _) | (with_reducible refine Kd.C_drewN ?_ _) | (with_reducible refine Kd.C_drew ?_))); (case side2 => exact HC0_5.out); (case side3 => repeat (first | exact (Kd.C_below HR1_5.out HB.out) | (with_reducible refine Kd.C_alloc ?_ _) | (with_reducible refine Kd.C_drewN ?_ _) | (with_reducible refine Kd.C_drew ?_))); (case side4 => exact HC1_5.out); rintro e w44 ⟨rfl, hb⟩; refine ⟨_, rfl, ?_⟩; have n0_ := Aside0.mk (blk_below (g := gb111) (o := .cells #[.string a0_0, .bool a0_1, .int .i64 a0_2, .int .i64 a0_3, .string a0_4, .slice A0_5 l0_5.length c0_5, .bool a0_6, .int .i64 a0_7, .int .i64 a0_8, .string a0_9, .slice A0_10 l0_10.length c0_10, .bool a0_11, .int .i64 a0_12, .int .i64 a0_13, .string a0_14, .slice A0_15 l0_15.length c0_15, .string a0_16, .string a0_17, .string a0_18] 36 (0, 0)) (by (with_reducible repeat (first | refine blk_drewN ?_ _ | refine blk_drew ?_ | refine blk_alloc ?_ _)); exact BK111.out) hb); have n1_ := Aside0.mk (blk_below (g := gb112) (o := .cells #[.string a1_0, .bool a1_1, .int .i64 a1_2, .int .i64 a1_3, .string a1_4, .slice A1_5 l1_5.length c1_5, .bool a1_6, .int .i64 a1_7, .int .i64 a1_8, .string a1_9, .slice A1_10 l1_10.length c1_10, .bool a1_11, .int .i64 a1_12, .int .i64 a1_13, .string a1_14, .slice A1_15 l1_15.length c1_15, .string a1_16, .string a1_17, .string a1_18] 36 (0, 0)) (by (with_reducible repeat (first | refine blk_drewN ?_ _ | refine blk_drew ?_ | refine blk_alloc ?_ _)); exact BK112.out) hb); have n2_ := Aside0.mk (below_step (by repeat (first | (with_reducible first | exact HB.out | apply below_alloc | apply pw_below_drewN | apply below_drew1 | refine below_set ?_ GE111.out | refine below_set ?_ GE112.out) | exact HB.out)) hb); clear BK111; clear BK112; clear HB; have BK111 := n0_; have BK112 := n1_; have HB := n2_; clear n0_ n1_ n2_; (try clear hb); have hcz45_0 : w44.cell? ⟨gb111, 0, none⟩ = some (.string a0_0) := (blk_cell BK111.out 0).trans rfl; have hcz45_1 : w44.cell? ⟨gb111, 1, none⟩ = some (.bool a0_1) := (blk_cell BK111.out 1).trans rfl; have hcz45_2 : w44.cell? ⟨gb111, 2, none⟩ = some (.int .i64 a0_2) := (blk_cell BK111.out 2).trans rfl; have hcz45_3 : w44.cell? ⟨gb111, 3, none⟩ = some (.int .i64 a0_3) := (blk_cell BK111.out 3).trans rfl; have hcz45_4 : w44.cell? ⟨gb111, 4, none⟩ = some (.string a0_4) := (blk_cell BK111.out 4).trans rfl; have hcz45_5 : w44.cell? ⟨gb111, 5, none⟩ = some (.slice A0_5 l0_5.length c0_5) := (blk_cell BK111.out 5).trans rfl; have hcz45_6 : w44.cell? ⟨gb111, 6, none⟩ = some (.bool a0_6) := (blk_cell BK111.out 6).trans rfl; have hcz45_7 : w44.cell? ⟨gb111, 7, none⟩ = some (.int .i64 a0_7) := (blk_cell BK111.out 7).trans rfl; have hcz45_8 : w44.cell? ⟨gb111, 8, none⟩ = some (.int .i64 a0_8) := (blk_cell BK111.out 8).trans rfl; have hcz45_9 : w44.cell? ⟨gb111, 9, none⟩ = some (.string a0_9) := (blk_cell BK111.out 9).trans rfl; have hcz45_10 : w44.cell? ⟨gb111, 10, none⟩ = some (.slice A0_10 l0_10.length c0_10) := (blk_cell BK111.out 10).trans rfl; have hcz45_11 : w44.cell? ⟨gb111, 11, none⟩ = some (.bool a0_11) := (blk_cell BK111.out 11).trans rfl; have hcz45_12 : w44.cell? ⟨gb111, 12, none⟩ = some (.int .i64 a0_12) := (blk_cell BK111.out 12).trans rfl; have hcz45_13 : w44.cell? ⟨gb111, 13, none⟩ = some (.int .i64 a0_13) := (blk_cell BK111.out 13).trans rfl; have hcz45_14 : w44.cell? ⟨gb111, 14, none⟩ = some (.string a0_14) := (blk_cell BK111.out 14).trans rfl; have hcz45_15 : w44.cell? ⟨gb111, 15, none⟩ = some (.slice A0_15 l0_15.length c0_15) := (blk_cell BK111.out 15).trans rfl; have hcz45_16 : w44.cell? ⟨gb111, 16, none⟩ = some (.string a0_16) := (blk_cell BK111.out 16).trans rfl; have hcz45_17 : w44.cell? ⟨gb111, 17, none⟩ = some (.string a0_17) := (blk_cell BK111.out 17).trans rfl; have hcz45_18 : w44.cell? ⟨gb111, 18, none⟩ = some (.string a0_18) := (blk_cell BK111.out 18).trans rfl; have hfz45_0 := blk_frozen BK111.out 0; have hfz45_1 := blk_frozen BK111.out 1; have hfz45_2 := blk_frozen BK111.out 2; have hfz45_3 := blk_frozen BK111.out 3; have hfz45_4 := blk_frozen BK111.out 4; have hfz45_5 := blk_frozen BK111.out 5; have hfz45_6 := blk_frozen BK111.out 6; have hfz45_7 := blk_frozen BK111.out 7; have hfz45_8 := blk_frozen BK111.out 8; have hfz45_9 := blk_frozen BK111.out 9; have hfz45_10 := blk_frozen BK111.out 10; have hfz45_11 := blk_frozen BK111.out 11; have hfz45_12 := blk_frozen BK111.out 12; have hfz45_13 := blk_frozen BK111.out 13; have hfz45_14 := blk_frozen BK111.out 14; have hfz45_15 := blk_frozen BK111.out 15; have hfz45_16 := blk_frozen BK111.out 16; have hfz45_17 := blk_frozen BK111.out 17; have hfz45_18 := blk_frozen BK111.out 18; have hcz46_0 : w44.cell? ⟨gb112, 0, none⟩ = some (.string a1_0) := (blk_cell BK112.out 0).trans rfl; have hcz46_1 : w44.cell? ⟨gb112, 1, none⟩ = some (.bool a1_1) := (blk_cell BK112.out 1).trans rfl; have hcz46_2 : w44.cell? ⟨gb112, 2, none⟩ = some (.int .i64 a1_2) := (blk_cell BK112.out 2).trans rfl; have hcz46_3 : w44.cell? ⟨gb112, 3, none⟩ = some (.int .i64 a1_3) := (blk_cell BK112.out 3).trans rfl; have hcz46_4 : w44.cell? ⟨gb112, 4, none⟩ = some (.string a1_4) := (blk_cell BK112.out 4).trans rfl; have hcz46_5 : w44.cell? ⟨gb112, 5, none⟩ = some (.slice A1_5 l1_5.length c1_5) := (blk_cell BK112.out 5).trans rfl; have hcz46_6 : w44.cell? ⟨gb112, 6, none⟩ = some (.bool a1_6) := (blk_cell BK112.out 6).trans rfl; have hcz46_7 : w44.cell? ⟨gb112, 7, none⟩ = some (.int .i64 a1_7) := (blk_cell BK112.out 7).trans rfl; have hcz46_8 : w44.cell? ⟨gb112, 8, none⟩ = some (.int .i64 a1_8) := (blk_cell BK112.out 8).trans rfl; have hcz46_9 : w44.cell? ⟨gb112, 9, none⟩ = some (.string a1_9) := (blk_cell BK112.out 9).trans rfl; have hcz46_10 : w44.cell? ⟨gb112, 10, none⟩ = some (.slice A1_10 l1_10.length c1_10) := (blk_cell BK112.out 10).trans rfl; have hcz46_11 : w44.cell? ⟨gb112, 11, none⟩ = some (.bool a1_11) := (blk_cell BK112.out 11).trans rfl; have hcz46_12 : w44.cell? ⟨gb112, 12, none⟩ = some (.int .i64 a1_12) := (blk_cell BK112.out 12).trans rfl; have hcz46_13 : w44.cell? ⟨gb112, 13, none⟩ = some (.int .i64 a1_13) := (blk_cell BK112.out 13).trans rfl; have hcz46_14 : w44.cell? ⟨gb112, 14, none⟩ = some (.string a1_14) := (blk_cell BK112.out 14).trans rfl; have hcz46_15 : w44.cell? ⟨gb112, 15, none⟩ = some (.slice A1_15 l1_15.length c1_15) := (blk_cell BK112.out 15).trans rfl; have hcz46_16 : w44.cell? ⟨gb112, 16, none⟩ = some (.string a1_16) := (blk_cell BK112.out 16).trans rfl; have hcz46_17 : w44.cell? ⟨gb112, 17, none⟩ = some (.string a1_17) := (blk_cell BK112.out 17).trans rfl; have hcz46_18 : w44.cell? ⟨gb112, 18, none⟩ = some (.string a1_18) := (blk_cell BK112.out 18).trans rfl; have hfz46_0 := blk_frozen BK112.out 0; have hfz46_1 := blk_frozen BK112.out 1; have hfz46_2 := blk_frozen BK112.out 2; have hfz46_3 := blk_frozen BK112.out 3; have hfz46_4 := blk_frozen BK112.out 4; have hfz46_5 := blk_frozen BK112.out 5; have hfz46_6 := blk_frozen BK112.out 6; have hfz46_7 := blk_frozen BK112.out 7; have hfz46_8 := blk_frozen BK112.out 8; have hfz46_9 := blk_frozen BK112.out 9; have hfz46_10 := blk_frozen BK112.out 10; have hfz46_11 := blk_frozen BK112.out 11; have hfz46_12 := blk_frozen BK112.out 12; have hfz46_13 := blk_frozen BK112.out 13; have hfz46_14 := blk_frozen BK112.out 14; have hfz46_15 := blk_frozen BK112.out 15; have hfz46_16 := blk_frozen BK112.out 16; have hfz46_17 := blk_frozen BK112.out 17; have hfz46_18 := blk_frozen BK112.out 18) | (go_at_call 29; (with_reducible refine (spec_SameExpr.calls kj2 a0_7 a0_8 a0_9 _ _ l0_10 a1_7 a1_8 a1_9 _ _ l1_10 false _ ?side1 ?side2 ?side3 ?side4 A28.out).mono ?_); (case side1 => repeat (first | exact (Kd.C_below HR0_10.out HB.out) | (with_reducible refine Kd.C_alloc ?_ _) | (with_reducible refine Kd.C_drewN ?_ _) | (with_reducible refine Kd.C_drew ?_))); (case side2 => exact HC0_10.out); (case side3 => repeat (first | exact (Kd.C_below HR1_10.out HB.out) | (with_reducible refine Kd.C_alloc ?_ _) | (with_reducible refine Kd.C_drewN ?_ _) | (with_reducible refine Kd.C_drew ?_))); (case side4 => exact HC1_10.out); rintro e w47 ⟨rfl, hb⟩; have n0_ := Aside0.mk (blk_below (g := gb111) (o := .cells #[.string a0_0, .bool a0_1, .int .i64 a0_2, .int .i64 a0_3, .string a0_4, .slice A0_5 l0_5.length c0_5, .bool a0_6, .int .i64 a0_7, .int .i64 a0_8, .string a0_9, .slice A0_10 l0_10.length c0_10, .bool a0_11, .int .i64 a0_12, .int .i64 a0_13, .string a0_14, .slice A0_15 l0_15.length c0_15, .string a0_16, .string a0_17, .string a0_18] 36 (0, 0)) (by (with_reducible repeat (first | refine blk_drewN ?_ _ | refine blk_drew ?_ | refine blk_alloc ?_ _)); exact BK111.out) hb); have n1_ := Aside0.mk (blk_below (g := gb112) (o := .cells #[.string a1_0, .bool a1_1, .int .i64 a1_2, .int .i64 a1_3, .string a1_4, .slice A1_5 l1_5.length c1_5, .bool a1_6, .int .i64 a1_7, .int .i64 a1_8, .string a1_9, .slice A1_10 l1_10.length c1_10, .bool a1_11, .int .i64 a1_12, .int .i64 a1_13, .string a1_14, .slice A1_15 l1_15.length c1_15, .string a1_16, .string a1_17, .string a1_18] 36 (0, 0)) (by (with_reducible repeat (first | refine blk_drewN ?_ _ | refine blk_drew ?_ | refine blk_alloc ?_ _)); exact BK112.out) hb); have n2_ := Aside0.mk (below_step (by repeat (first | (with_reducible first | exact HB.out | apply below_alloc | apply pw_below_drewN | apply below_drew1 | refine below_set ?_ GE111.out | refine below_set ?_ GE112.out) | exact HB.out)) hb); clear BK111; clear BK112; clear HB; have BK111 := n0_; have BK112 := n1_; have HB := n2_; clear n0_ n1_ n2_; (try clear hb)))
            go_ret
            exact ⟨by first | rfl | (simp [errW_none, errW_some] <;> rfl) | (simp [*, errW_none, errW_some] <;> rfl), by repeat (first | (with_reducible first | exact HB.out | apply below_alloc | apply pw_below_drewN | apply below_drew1 | refine below_set ?_ GE111.out | refine below_set ?_ GE112.out) | exact HB.out)⟩
        · replace c27 := Bool.eq_false_iff.mpr c27
          subst c27
          have H1 : (some false) = some r := by rw [if_neg (show ¬ (false = true) by decide)] at H; exact H
          clear H
          have H := H1
          clear H1
          obtain rfl := Option.some.inj H
          have hnb48 := NB111_112.out
          have hnc48 := NB112_111.out
          have hcz49_0 : wc.cell? ⟨gb111, 0, none⟩ = some (.string a0_0) := (blk_cell BK111.out 0).trans rfl
          have hcz49_1 : wc.cell? ⟨gb111, 1, none⟩ = some (.bool a0_1) := (blk_cell BK111.out 1).trans rfl
          have hcz49_2 : wc.cell? ⟨gb111, 2, none⟩ = some (.int .i64 a0_2) := (blk_cell BK111.out 2).trans rfl
          have hcz49_3 : wc.cell? ⟨gb111, 3, none⟩ = some (.int .i64 a0_3) := (blk_cell BK111.out 3).trans rfl
          have hcz49_4 : wc.cell? ⟨gb111, 4, none⟩ = some (.string a0_4) := (blk_cell BK111.out 4).trans rfl
          have hcz49_5 : wc.cell? ⟨gb111, 5, none⟩ = some (.slice A0_5 l0_5.length c0_5) := (blk_cell BK111.out 5).trans rfl
          have hcz49_6 : wc.cell? ⟨gb111, 6, none⟩ = some (.bool a0_6) := (blk_cell BK111.out 6).trans rfl
          have hcz49_7 : wc.cell? ⟨gb111, 7, none⟩ = some (.int .i64 a0_7) := (blk_cell BK111.out 7).trans rfl
          have hcz49_8 : wc.cell? ⟨gb111, 8, none⟩ = some (.int .i64 a0_8) := (blk_cell BK111.out 8).trans rfl
          have hcz49_9 : wc.cell? ⟨gb111, 9, none⟩ = some (.string a0_9) := (blk_cell BK111.out 9).trans rfl
          have hcz49_10 : wc.cell? ⟨gb111, 10, none⟩ = some (.slice A0_10 l0_10.length c0_10) := (blk_cell BK111.out 10).trans rfl
          have hcz49_11 : wc.cell? ⟨gb111, 11, none⟩ = some (.bool a0_11) := (blk_cell BK111.out 11).trans rfl
          have hcz49_12 : wc.cell? ⟨gb111, 12, none⟩ = some (.int .i64 a0_12) := (blk_cell BK111.out 12).trans rfl
          have hcz49_13 : wc.cell? ⟨gb111, 13, none⟩ = some (.int .i64 a0_13) := (blk_cell BK111.out 13).trans rfl
          have hcz49_14 : wc.cell? ⟨gb111, 14, none⟩ = some (.string a0_14) := (blk_cell BK111.out 14).trans rfl
          have hcz49_15 : wc.cell? ⟨gb111, 15, none⟩ = some (.slice A0_15 l0_15.length c0_15) := (blk_cell BK111.out 15).trans rfl
          have hcz49_16 : wc.cell? ⟨gb111, 16, none⟩ = some (.string a0_16) := (blk_cell BK111.out 16).trans rfl
          have hcz49_17 : wc.cell? ⟨gb111, 17, none⟩ = some (.string a0_17) := (blk_cell BK111.out 17).trans rfl
          have hcz49_18 : wc.cell? ⟨gb111, 18, none⟩ = some (.string a0_18) := (blk_cell BK111.out 18).trans rfl
          have hfz49_0 := blk_frozen BK111.out 0
          have hfz49_1 := blk_frozen BK111.out 1
          have hfz49_2 := blk_frozen BK111.out 2
          have hfz49_3 := blk_frozen BK111.out 3
          have hfz49_4 := blk_frozen BK111.out 4
          have hfz49_5 := blk_frozen BK111.out 5
          have hfz49_6 := blk_frozen BK111.out 6
          have hfz49_7 := blk_frozen BK111.out 7
          have hfz49_8 := blk_frozen BK111.out 8
          have hfz49_9 := blk_frozen BK111.out 9
          have hfz49_10 := blk_frozen BK111.out 10
          have hfz49_11 := blk_frozen BK111.out 11
          have hfz49_12 := blk_frozen BK111.out 12
          have hfz49_13 := blk_frozen BK111.out 13
          have hfz49_14 := blk_frozen BK111.out 14
          have hfz49_15 := blk_frozen BK111.out 15
          have hfz49_16 := blk_frozen BK111.out 16
          have hfz49_17 := blk_frozen BK111.out 17
          have hfz49_18 := blk_frozen BK111.out 18
          have hcz50_0 : wc.cell? ⟨gb112, 0, none⟩ = some (.string a1_0) := (blk_cell BK112.out 0).trans rfl
          have hcz50_1 : wc.cell? ⟨gb112, 1, none⟩ = some (.bool a1_1) := (blk_cell BK112.out 1).trans rfl
          have hcz50_2 : wc.cell? ⟨gb112, 2, none⟩ = some (.int .i64 a1_2) := (blk_cell BK112.out 2).trans rfl
          have hcz50_3 : wc.cell? ⟨gb112, 3, none⟩ = some (.int .i64 a1_3) := (blk_cell BK112.out 3).trans rfl
          have hcz50_4 : wc.cell? ⟨gb112, 4, none⟩ = some (.string a1_4) := (blk_cell BK112.out 4).trans rfl
          have hcz50_5 : wc.cell? ⟨gb112, 5, none⟩ = some (.slice A1_5 l1_5.length c1_5) := (blk_cell BK112.out 5).trans rfl
          have hcz50_6 : wc.cell? ⟨gb112, 6, none⟩ = some (.bool a1_6) := (blk_cell BK112.out 6).trans rfl
          have hcz50_7 : wc.cell? ⟨gb112, 7, none⟩ = some (.int .i64 a1_7) := (blk_cell BK112.out 7).trans rfl
          have hcz50_8 : wc.cell? ⟨gb112, 8, none⟩ = some (.int .i64 a1_8) := (blk_cell BK112.out 8).trans rfl
          have hcz50_9 : wc.cell? ⟨gb112, 9, none⟩ = some (.string a1_9) := (blk_cell BK112.out 9).trans rfl
          have hcz50_10 : wc.cell? ⟨gb112, 10, none⟩ = some (.slice A1_10 l1_10.length c1_10) := (blk_cell BK112.out 10).trans rfl
          have hcz50_11 : wc.cell? ⟨gb112, 11, none⟩ = some (.bool a1_11) := (blk_cell BK112.out 11).trans rfl
          have hcz50_12 : wc.cell? ⟨gb112, 12, none⟩ = some (.int .i64 a1_12) := (blk_cell BK112.out 12).trans rfl
          have hcz50_13 : wc.cell? ⟨gb112, 13, none⟩ = some (.int .i64 a1_13) := (blk_cell BK112.out 13).trans rfl
          have hcz50_14 : wc.cell? ⟨gb112, 14, none⟩ = some (.string a1_14) := (blk_cell BK112.out 14).trans rfl
          have hcz50_15 : wc.cell? ⟨gb112, 15, none⟩ = some (.slice A1_15 l1_15.length c1_15) := (blk_cell BK112.out 15).trans rfl
          have hcz50_16 : wc.cell? ⟨gb112, 16, none⟩ = some (.string a1_16) := (blk_cell BK112.out 16).trans rfl
          have hcz50_17 : wc.cell? ⟨gb112, 17, none⟩ = some (.string a1_17) := (blk_cell BK112.out 17).trans rfl
          have hcz50_18 : wc.cell? ⟨gb112, 18, none⟩ = some (.string a1_18) := (blk_cell BK112.out 18).trans rfl
          have hfz50_0 := blk_frozen BK112.out 0
          have hfz50_1 := blk_frozen BK112.out 1
          have hfz50_2 := blk_frozen BK112.out 2
          have hfz50_3 := blk_frozen BK112.out 3
          have hfz50_4 := blk_frozen BK112.out 4
          have hfz50_5 := blk_frozen BK112.out 5
          have hfz50_6 := blk_frozen BK112.out 6
          have hfz50_7 := blk_frozen BK112.out 7
          have hfz50_8 := blk_frozen BK112.out 8
          have hfz50_9 := blk_frozen BK112.out 9
          have hfz50_10 := blk_frozen BK112.out 10
          have hfz50_11 := blk_frozen BK112.out 11
          have hfz50_12 := blk_frozen BK112.out 12
          have hfz50_13 := blk_frozen BK112.out 13
          have hfz50_14 := blk_frozen BK112.out 14
          have hfz50_15 := blk_frozen BK112.out 15
          have hfz50_16 := blk_frozen BK112.out 16
          have hfz50_17 := blk_frozen BK112.out 17
          have hfz50_18 := blk_frozen BK112.out 18
          go_wp2_with (first | ((with_reducible refine gate_callee (f := 29) rfl ?_); refine goesL_ (some 42) rfl rfl Try.func29 (by kernel_rfl) rfl #[.agg #[.int .i64 a0_2, .int .i64 a0_3, .string a0_4, .slice A0_5 l0_5.length c0_5], .agg #[.int .i64 a1_2, .int .i64 a1_3, .string a1_4, .slice A1_5 l1_5.length c1_5]] rfl (by (try simp only [List.map_toArray, List.map_cons, List.map_nil]); first | done | rfl | (simp only [List.length_drop, List.length_take]; rfl)) ?_; (with_reducible refine (spec_SameExpr.calls kj2 a0_2 a0_3 a0_4 _ _ l0_5 a1_2 a1_3 a1_4 _ _ l1_5 false _ ?side1 ?side2 ?side3 ?side4 A26.out).mono ?_); (case side1 => repeat (first | exact (Kd.C_below HR0_5.out HB.out) | (with_reducible refine Kd.C_alloc ?_ _) | (with_reducible refine Kd.C_drewN ?_ _) | (with_reducible refine Kd.C_drew ?_))); (case side2 => exact HC0_5.out); (case side3 => repeat (first | exact (Kd.C_below HR1_5.out HB.out) | (with_reducible refine Kd.C_alloc ?_ _) | (with_reducible refine Kd.C_drewN ?_ _) | (with_reducible refine Kd.C_drew ?_))); (case side4 => exact HC1_5.out); rintro e w51 ⟨rfl, hb⟩; refine ⟨_, rfl, ?_⟩; have n0_ := Aside0.mk (blk_below (g := gb111) (o := .cells #[.string a0_0, .bool a0_1, .int .i64 a0_2, .int .i64 a0_3, .string a0_4, .slice A0_5 l0_5.length c0_5, .bool a0_6, .int .i64 a0_7, .int .i64 a0_8, .string a0_9, .slice A0_10 l0_10.length c0_10, .bool a0_11, .int .i64 a0_12, .int .i64 a0_13, .string a0_14, .slice A0_15 l0_15.length c0_15, .string a0_16, .string a0_17, .string a0_18] 36 (0, 0)) (by (with_reducible repeat (first | refine blk_drewN ?_ _ | refine blk_drew ?_ | refine blk_alloc ?_ _)); exact BK111.out) hb); have n1_ := Aside0.mk (blk_below (g := gb112) (o := .cells #[.string a1_0, .bool a1_1, .int .i64 a1_2, .int .i64 a1_3, .string a1_4, .slice A1_5 l1_5.length c1_5, .bool a1_6, .int .i64 a1_7, .int .i64 a1_8, .string a1_9, .slice A1_10 l1_10.length c1_10, .bool a1_11, .int .i64 a1_12, .int .i64 a1_13, .string a1_14, .slice A1_15 l1_15.length c1_15, .string a1_16, .string a1_17, .string a1_18] 36 (0, 0)) (by (with_reducible repeat (first | refine blk_drewN ?_ _ | refine blk_drew ?_ | refine blk_alloc ?_ _)); exact BK112.out) hb); have n2_ := Aside0.mk (below_step (by repeat (first | (with_reducible first | exact HB.out | apply below_alloc | apply pw_below_drewN | apply below_drew1 | refine below_set ?_ GE111.out | refine below_set ?_ GE112.out) | exact HB.out)) hb); clear BK111; clear BK112; clear HB; have BK111 := n0_; have BK112 := n1_; have HB := n2_; clear n0_ n1_ n2_; (try clear hb)))
          go_ret
          exact ⟨by first | rfl | (simp [errW_none, errW_some] <;> rfl) | (simp [*, errW_none, errW_some] <;> rfl), by repeat (first | (with_reducible first | exact HB.out | apply below_alloc | apply pw_below_drewN | apply below_drew1 | refine below_set ?_ GE111.out | refine below_set ?_ GE112.out) | exact HB.out)⟩
end Go.Proofs.Ytocfepcgpelhdaa.PFnExactSameStatement
