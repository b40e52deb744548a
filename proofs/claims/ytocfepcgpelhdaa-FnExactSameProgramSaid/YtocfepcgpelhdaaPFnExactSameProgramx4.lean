/- By a program of this session: for each Go function that the law reaches, a Lean function with the same answers, and that the code comes to exactly these answers. Conditions: none beyond each statement. -/
import Derived.Test.YtocfepcgpelhdaaPFnExactSameProgramx0
import Derived.Test.YtocfepcgpelhdaaPFnExactSameProgramx3
namespace Go.Proofs.Ytocfepcgpelhdaa.PFnExactSameProgram
open Go.RowKit Go.Proofs.YtocfepcgpelhdaaW.PrintWords Go.Proofs.YtocfepcgpelhdaaW.PrintLast Go.Proofs.YtocfepcgpelhdaaW.PrintMore
attribute [local go_sem] max2_int min2_int max_two min_two max_three min_three max_four min_four   -- for this text's walks alone
set_option linter.unusedVariables false
set_option linter.unusedSimpArgs false

/-! ### spec_SameProgram: function 13, by hand -/
-- NEEDS spec_SameStatement
-- IMPORT Derived.Test.YtocfepcgpelhdaaRowLaw
-- kinds: k36
def spec_SameProgramRows.l0 : Nat → List S36 → List S36 → Int → Option Bool
  | 0, _, _, _ => none
  | k + 1, l, m, i => if i < (l.length : Int) then (if 0 ≤ i then (if i < (m.length : Int) then ((spec_SameStatement.f k ((rd_T36 l i).f0) ((rd_T36 l i).f1) ((rd_T36 l i).f2.f0) ((rd_T36 l i).f2.f1) ((rd_T36 l i).f2.f2) ((rd_T36 l i).f2.f3) ((rd_T36 l i).f3) ((rd_T36 l i).f4.f0) ((rd_T36 l i).f4.f1) ((rd_T36 l i).f4.f2) ((rd_T36 l i).f4.f3) ((rd_T36 l i).f5) ((rd_T36 l i).f6.f0) ((rd_T36 l i).f6.f1) ((rd_T36 l i).f6.f2) ((rd_T36 l i).f6.f3) ((rd_T36 l i).f7.f0) ((rd_T36 l i).f7.f1) ((rd_T36 l i).f7.f2) ((rd_T36 m i).f0) ((rd_T36 m i).f1) ((rd_T36 m i).f2.f0) ((rd_T36 m i).f2.f1) ((rd_T36 m i).f2.f2) ((rd_T36 m i).f2.f3) ((rd_T36 m i).f3) ((rd_T36 m i).f4.f0) ((rd_T36 m i).f4.f1) ((rd_T36 m i).f4.f2) ((rd_T36 m i).f4.f3) ((rd_T36 m i).f5) ((rd_T36 m i).f6.f0) ((rd_T36 m i).f6.f1) ((rd_T36 m i).f6.f2) ((rd_T36 m i).f6.f3) ((rd_T36 m i).f7.f0) ((rd_T36 m i).f7.f1) ((rd_T36 m i).f7.f2)).bind fun t => (if t = true then (spec_SameProgramRows.l0 k l m (wrap64 (i + 1))) else (some false))) else (none)) else (none)) else (some true)
def spec_SameProgramRows.f (k : Nat) (l m : List S36) : Option Bool := if (l.length : Int) = (m.length : Int) then (spec_SameProgramRows.l0 k l m 0) else (some false)
def spec_SameProgram.f (k : Nat) (l0_0 : List S36) (l1_0 : List S36) : Option Bool := spec_SameProgramRows.f k l0_0 l1_0
theorem spec_SameProgramRows.mono_l : ∀ k l m i, LeO (spec_SameProgramRows.l0 k l m i) (spec_SameProgramRows.l0 (k + 1) l m i) := by
  intro k
  induction k with
  | zero => intro l m i; unfold spec_SameProgramRows.l0; exact LeO.none _
  | succ k ih =>
    intro l m i
    unfold spec_SameProgramRows.l0
    repeat' first
    | (with_reducible exact ih _ _ _)
    | (with_reducible exact spec_SameStatement.mono _ _ _ _ _ _ _ _ _ _ _ _ _ _ _ _ _ _ _ _ _ _ _ _ _ _ _ _ _ _ _ _ _ _ _ _ _ _ _)
    | (with_reducible exact LeO.refl _)
    | (with_reducible exact LeO.none _)
    | (with_reducible refine LeO.ite ?_ ?_)
    | (with_reducible refine LeO.bind ?_ (fun _ => ?_))
theorem spec_SameProgram.mono : ∀ a0 a1 k, LeO (spec_SameProgram.f k a0 a1) (spec_SameProgram.f (k + 1) a0 a1) := by
  intro a0 a1 k
  unfold spec_SameProgram.f spec_SameProgramRows.f
  repeat' first
  | (with_reducible exact spec_SameProgramRows.mono_l _ _ _ _)
  | (with_reducible exact LeO.refl _)
  | (with_reducible refine LeO.ite ?_ ?_)
theorem spec_stm_calls (k : Nat) (x y : S36) (cs ds : List Value) (r : Bool) (w : World) (hK : k36.K w x cs) (hM : k36.K w y ds) (h : spec_SameStatement.f k (x.f0) (x.f1) (x.f2.f0) (x.f2.f1) (x.f2.f2) (x.f2.f3) (x.f3) (x.f4.f0) (x.f4.f1) (x.f4.f2) (x.f4.f3) (x.f5) (x.f6.f0) (x.f6.f1) (x.f6.f2) (x.f6.f3) (x.f7.f0) (x.f7.f1) (x.f7.f2) (y.f0) (y.f1) (y.f2.f0) (y.f2.f1) (y.f2.f2) (y.f2.f3) (y.f3) (y.f4.f0) (y.f4.f1) (y.f4.f2) (y.f4.f3) (y.f5) (y.f6.f0) (y.f6.f1) (y.f6.f2) (y.f6.f3) (y.f7.f0) (y.f7.f1) (y.f7.f2) = some r) :
    Calls Try.prog 8 #[.agg cs.toArray, .agg ds.toArray] w fun e w' => e = .returned (.bool r) ∧ Below w.heap.size w w' := by
  obtain ⟨A4, c4, A5, c5, A6, c6, rfl, l4, g4, l5, g5, l6, g6⟩ := k36_open hK
  obtain ⟨B4, d4, B5, d5, B6, d6, rfl, m4, q4, m5, q5, m6, q6⟩ := k36_open hM
  exact spec_SameStatement.calls k _ _ _ _ _ _ _ _ _ _ _ _ _ _ _ _ _ _ _ _ _ _ _ _ _ _ _ _ _ _ _ _ _ _ _ _ _ _ _ _ _ _ _ _ _ _ _ _ _ _ _ w g4 l4 g5 l5 g6 l6 q4 m4 q5 m5 q6 m6 h
set_option maxHeartbeats 4000000 in
set_option maxRecDepth 100000 in
theorem spec_SameProgram.calls (k : Nat) (A0 : Option Addr) (c0 : Nat) (l : List S36) (A1 : Option Addr) (c1 : Nat) (m : List S36) (r : Bool) (w : World) (hr0 : Kd.C k36 w A0 l.length l) (hc0 : l.length ≤ c0) (hr1 : Kd.C k36 w A1 m.length m) (hc1 : m.length ≤ c1) (h : spec_SameProgram.f k l m = some r) :
    Calls Try.prog 13 #[.agg #[.slice A0 l.length c0], .agg #[.slice A1 m.length c1]] w fun e w' => e = .returned (.bool r) ∧ Below w.heap.size w w' := by
  have huO := Try.underlying36
  have HR0 := Aside0.mk hr0
  have HR1 := Aside0.mk hr1
  clear hr0 hc0 hr1 hc1
  have HB := Aside0.mk (Below.refl w.heap.size w)
  have huP := Try.underlying46
  unfold spec_SameProgram.f spec_SameProgramRows.f at h
  by_cases c1 : (l.length : Int) = (m.length : Int)
  · rw [if_pos c1] at h
    have c1b := bne_eq_false_iff_eq.mpr c1
    have c1a := beq_iff_eq.mpr c1
    clear c1
    have H := Aside0.mk h
    clear h
    go_enter Try.func13, Try.ntmps13
    go_wp2_with (first | ((with_reducible refine gate_dst (N := 2) rfl ?_); refine box_event ?hg (N := 2) ?hd (cs := #[.slice A0 l.length c0]) (t := 46) ?hr ?_; (case hd => rfl); (case hg => rfl); (case hr => first | (go_simp; done) | (go_simp; rfl)); intro g0 hg wb2 hbox hb; have n0_ := Aside0.mk (below_step HB.out hb); clear HB; have HB := n0_; clear n0_; have Bg0 := Aside0.mk hbox; clear hbox hg hb; (try simp only [Act.put, List.setIfInBounds_toArray, List.set_cons_zero, List.set_cons_succ])) | ((with_reducible refine gate_dst (N := 3) rfl ?_); refine box_event ?hg (N := 3) ?hd (cs := #[.slice A1 m.length c1]) (t := 46) ?hr ?_; (case hd => rfl); (case hg => rfl); (case hr => first | (go_simp; done) | (go_simp; rfl)); intro g1 hg wb3 hbox hb; have n0_ := Aside0.mk (below_step HB.out hb); have n1_ := Aside0.mk (blk_below Bg0.out hb); clear HB Bg0; have HB := n0_; have Bg0 := n1_; clear n0_ n1_; have Bg1 := Aside0.mk hbox; clear hbox hg hb; (try simp only [Act.put, List.setIfInBounds_toArray, List.set_cons_zero, List.set_cons_succ]); have za0 : wb3.cell? ⟨g0, 0, none⟩ = some (.slice A0 l.length c0) := (blk_cell Bg0.out 0).trans rfl; have za1 : wb3.cell? ⟨g1, 0, none⟩ = some (.slice A1 m.length c1) := (blk_cell Bg1.out 0).trans rfl))
    go_loopg [5] k (fun kq v5 w' => ∃ x5 : Int, v5 = .int .i64 x5 ∧ Aside0 (spec_SameProgramRows.l0 kq l m x5 = some r) ∧ Aside0 (kq ≤ k) ∧ Aside0 (Below w.heap.size w w') ∧ Aside0 (w'.heap[g0]? = some (.cells #[.slice A0 l.length c0] 46 (0, 0))) ∧ Aside0 (w'.heap[g1]? = some (.cells #[.slice A1 m.length c1] 46 (0, 0))))
    case atStart => exact ⟨0, rfl, H, ⟨Nat.le_refl _⟩, HB, Bg0, Bg1⟩
    case round =>
      obtain ⟨x5, rfl, HL, HK, HB, Q0, Q1⟩ := hrel
      clear H c1b c1a za0 za1
      have zb0 : wr.cell? ⟨g0, 0, none⟩ = some (.slice A0 l.length c0) := (blk_cell Q0.out 0).trans rfl
      have zb1 : wr.cell? ⟨g1, 0, none⟩ = some (.slice A1 m.length c1) := (blk_cell Q1.out 0).trans rfl
      cases gk with
      | zero => exact absurd HL.out (by simp [spec_SameProgramRows.l0])
      | succ kp =>
        have H := HL.out
        clear HL
        simp only [spec_SameProgramRows.l0] at H
        by_cases c5 : x5 < (l.length : Int)
        · rw [if_pos c5] at H
          have c5b := decide_eq_true c5
          by_cases c6 : 0 ≤ x5
          · rw [if_pos c6] at H
            by_cases c7 : x5 < (m.length : Int)
            · rw [if_pos c7] at H
              replace H := Option.bind_eq_some_iff.mp H
              obtain ⟨t, ht, H⟩ := H
              have HT := Aside0.mk ht
              have HS := Aside0.mk H
              clear ht H
              obtain ⟨ad0, ce0, ea0, el0, eK0, eC0⟩ := Go.Proofs.Ytocfepcgpelhdaa.RowLaw.elem_of HR0.out z36 x5 c6 c5
              cases ea0
              have EC0 := Aside0.mk eC0
              have EK0 := Aside0.mk eK0
              have EL0 := Aside0.mk ((by rw [el0]; kernel_rfl) : (Try.prog.info? 36).map (·.size) = some ce0.length)
              have EZ0 := Aside0.mk (el0.symm : k36.sz = ce0.length)
              clear eC0 eK0 el0
              obtain ⟨ad1, ce1, ea1, el1, eK1, eC1⟩ := Go.Proofs.Ytocfepcgpelhdaa.RowLaw.elem_of HR1.out z36 x5 c6 c7
              cases ea1
              have EC1 := Aside0.mk eC1
              have EK1 := Aside0.mk eK1
              have EL1 := Aside0.mk ((by rw [el1]; kernel_rfl) : (Try.prog.info? 36).map (·.size) = some ce1.length)
              have EZ1 := Aside0.mk (el1.symm : k36.sz = ce1.length)
              clear eC1 eK1 el1
              replace c5 := eq_true c5
              replace c6 := eq_true c6
              replace c7 := eq_true c7
              go_wp2
              have n0_ := Aside0.mk (below_drew1 HB.out)
              have n1_ := Aside0.mk (blk_drew Q0.out)
              have n2_ := Aside0.mk (blk_drew Q1.out)
              clear HB Q0 Q1
              have HB := n0_
              have Q0 := n1_
              have Q1 := n2_
              clear n0_ n1_ n2_
              refine start_ (n := 12) (S := fun w' => w'.cell? ⟨g0, 0, none⟩ = some (.slice (some ad0) l.length c0) ∧ w'.cell? ⟨g1, 0, none⟩ = some (.slice (some ad1) m.length c1) ∧ Go.Proofs.Ytocfepcgpelhdaa.RowLaw.CellsAt w' (ad0.add (x5.toNat * k36.sz)) ce0 ∧ Go.Proofs.Ytocfepcgpelhdaa.RowLaw.CellsAt w' (ad1.add (x5.toNat * k36.sz)) ce1) (ds := []) #[false, false, false, false, false, false, false, false, false, false, false, false] (by kernel_rfl) rfl rfl ⟨(blk_cell Q0.out 0).trans rfl, (blk_cell Q1.out 0).trans rfl, EC0.out.below HB.out, EC1.out.below HB.out⟩ (fun hHeld => ?_)
              generalize _root_.Go.World.drew _ = wd at HB Q0 Q1 hHeld ⊢
              refine pure_ (i := 0) (N := some 20) (v := ?_) (a' := ?_) #[true, false, false, false, false, false, false, false, false, false, false, false] rfl rfl (by kernel_rfl) (fun _ _ _ h => h) (Or.inl ⟨by rfl, ?_⟩) ?_ ?_
              rotate_left
              · intro w'
                go_simp
                with_reducible rfl
              rotate_left
              · simp only [Act.put, List.setIfInBounds_toArray, List.set_cons_zero, List.set_cons_succ, i64_w, i32_w]
                rfl
              refine pure_ (i := 2) (N := some 22) (v := ?_) (a' := ?_) #[true, false, true, false, false, false, false, false, false, false, false, false] rfl rfl (by kernel_rfl) (fun _ _ _ h => h) (Or.inl ⟨by rfl, ?_⟩) ?_ ?_
              rotate_left
              · intro w'
                go_simp
                with_reducible rfl
              rotate_left
              · simp only [Act.put, List.setIfInBounds_toArray, List.set_cons_zero, List.set_cons_succ, i64_w, i32_w]
                rfl
              refine pure_ (i := 5) (N := some 25) (v := ?_) (a' := ?_) #[true, false, true, false, false, true, false, false, false, false, false, false] rfl rfl (by kernel_rfl) (fun _ _ _ h => h) (Or.inl ⟨by rfl, ?_⟩) ?_ ?_
              rotate_left
              · intro w'
                go_simp
                with_reducible rfl
              rotate_left
              · simp only [Act.put, List.setIfInBounds_toArray, List.set_cons_zero, List.set_cons_succ, i64_w, i32_w]
                rfl
              refine pure_ (i := 7) (N := some 27) (v := ?_) (a' := ?_) #[true, false, true, false, false, true, false, true, false, false, false, false] rfl rfl (by kernel_rfl) (fun _ _ _ h => h) (Or.inl ⟨by rfl, ?_⟩) ?_ ?_
              rotate_left
              · intro w'
                go_simp
                with_reducible rfl
              rotate_left
              · simp only [Act.put, List.setIfInBounds_toArray, List.set_cons_zero, List.set_cons_succ, i64_w, i32_w]
                rfl
              refine take_ (i := 1) (N := some 21) (v := ?_) (a' := ?_) #[true, true, true, false, false, true, false, true, false, false, false, false] rfl rfl (by kernel_rfl) (fun _ _ _ h => h) (Or.inl ⟨by rfl, ?_⟩) hHeld ?_ ?_
              rotate_left
              · rintro w' ⟨s0, s1, s2, s3⟩
                go_simp
                with_reducible rfl
              rotate_left
              · simp only [Act.put, List.setIfInBounds_toArray, List.set_cons_zero, List.set_cons_succ, i64_w, i32_w]
                rfl
              refine take_ (i := 6) (N := some 26) (v := ?_) (a' := ?_) #[true, true, true, false, false, true, true, true, false, false, false, false] rfl rfl (by kernel_rfl) (fun _ _ _ h => h) (Or.inl ⟨by rfl, ?_⟩) hHeld ?_ ?_
              rotate_left
              · rintro w' ⟨s0, s1, s2, s3⟩
                go_simp
                with_reducible rfl
              rotate_left
              · simp only [Act.put, List.setIfInBounds_toArray, List.set_cons_zero, List.set_cons_succ, i64_w, i32_w]
                rfl
              refine pure_ (i := 3) (N := some 23) (v := ?_) (a' := ?_) #[true, true, true, true, false, true, true, true, false, false, false, false] rfl rfl (by kernel_rfl) (fun _ _ _ h => h) (Or.inl ⟨by rfl, ?_⟩) ?_ ?_
              rotate_left
              · intro w'
                go_simp
                with_reducible rfl
              rotate_left
              · simp only [Act.put, List.setIfInBounds_toArray, List.set_cons_zero, List.set_cons_succ, i64_w, i32_w]
                rfl
              refine pure_ (i := 8) (N := some 28) (v := ?_) (a' := ?_) #[true, true, true, true, false, true, true, true, true, false, false, false] rfl rfl (by kernel_rfl) (fun _ _ _ h => h) (Or.inl ⟨by rfl, ?_⟩) ?_ ?_
              rotate_left
              · intro w'
                go_simp
                with_reducible rfl
              rotate_left
              · simp only [Act.put, List.setIfInBounds_toArray, List.set_cons_zero, List.set_cons_succ, i64_w, i32_w]
                rfl
              refine take_ (i := 4) (N := some 24) (v := .agg ce0.toArray) (a' := ?_) #[true, true, true, true, true, true, true, true, true, false, false, false] rfl rfl (by kernel_rfl) (fun _ _ _ h => h) (Or.inl ⟨by rfl, fun w' s => Go.Proofs.Ytocfepcgpelhdaa.RowLaw.at_run 36 _ rfl (ad0.add (x5.toNat * k36.sz)) rfl _ ce0 huO rfl EL0.out s.2.2.1⟩) hHeld ?_ ?_
              rotate_left
              · simp only [Act.put, List.setIfInBounds_toArray, List.set_cons_zero, List.set_cons_succ, i64_w, i32_w]
                rfl
              refine take_ (i := 9) (N := some 29) (v := .agg ce1.toArray) (a' := ?_) #[true, true, true, true, true, true, true, true, true, true, false, false] rfl rfl (by kernel_rfl) (fun _ _ _ h => h) (Or.inl ⟨by rfl, fun w' s => Go.Proofs.Ytocfepcgpelhdaa.RowLaw.at_run 36 _ rfl (ad1.add (x5.toNat * k36.sz)) rfl _ ce1 huO rfl EL1.out s.2.2.2⟩) hHeld ?_ ?_
              rotate_left
              · simp only [Act.put, List.setIfInBounds_toArray, List.set_cons_zero, List.set_cons_succ, i64_w, i32_w]
                rfl
              refine one_ (i := 10) (N := some 30) #[true, true, true, true, true, true, true, true, true, true, true, false] rfl rfl (by kernel_rfl) (by decide) (fun K hK => ?_)
              refine goes_ Try.func8 (by kernel_rfl) rfl #[.agg ce0.toArray, .agg ce1.toArray] (by rfl) rfl rfl (by (try simp only [List.map_toArray, List.map_cons, List.map_nil]); first | done | rfl) ?_
              with_reducible refine (spec_stm_calls kp (rd_T36 l x5) (rd_T36 m x5) ce0 ce1 t _ ?side1 ?side2 HT.out).mono ?_
              (case side1 => exact k36.K_below HB.out EK0.out)
              (case side2 => exact k36.K_below HB.out EK1.out)
              rintro e wc ⟨rfl, hb⟩
              refine ⟨_, rfl, ?_⟩
              have n0_ := Aside0.mk (below_step HB.out hb)
              have n1_ := Aside0.mk (blk_below Q0.out hb)
              have n2_ := Aside0.mk (blk_below Q1.out hb)
              clear HB Q0 Q1
              have HB := n0_
              have Q0 := n1_
              have Q1 := n2_
              clear n0_ n1_ n2_
              clear hb
              refine hK.out _ _ ⟨(blk_cell Q0.out 0).trans rfl, (blk_cell Q1.out 0).trans rfl, EC0.out.below HB.out, EC1.out.below HB.out⟩ (fun hHeld => ?_)
              clear hK K
              refine norm_ (a' := ?_) ?_ ?_
              rotate_left
              · show Act.put _ (some 30) _ = _
                simp only [Act.put, List.setIfInBounds_toArray, List.set_cons_zero, List.set_cons_succ, i64_w, i32_w]
                rfl
              refine pure_ (i := 11) (N := some 31) (v := ?_) (a' := ?_) #[true, true, true, true, true, true, true, true, true, true, true, true] rfl rfl (by kernel_rfl) (fun _ _ _ h => h) (Or.inl ⟨by rfl, ?_⟩) ?_ ?_
              rotate_left
              · intro w'
                go_simp
                with_reducible rfl
              rotate_left
              · simp only [Act.put, List.setIfInBounds_toArray, List.set_cons_zero, List.set_cons_succ, i64_w, i32_w]
                rfl
              refine done_ (by kernel_rfl) ?_
              cases t with
              | true =>
                have H := HS.out
                rw [if_pos rfl] at H
                have H' := Aside0.mk H
                clear H HS
                go_wp2
                go_roundg kp
                case measure => have := HK.out; omega
                case rel => exact ⟨_, rfl, H', ⟨by have := HK.out; omega⟩, HB, Q0, Q1⟩
              | false =>
                have H := HS.out
                rw [if_neg (by simp)] at H
                obtain rfl := Option.some.inj H
                clear HS
                go_wp2
                go_ret
                exact ⟨rfl, HB.out⟩
            · rw [if_neg c7] at H
              exact absurd H (by simp)
          · rw [if_neg c6] at H
            exact absurd H (by simp)
        · rw [if_neg c5] at H
          obtain rfl := Option.some.inj H
          have c5b := decide_eq_false c5
          clear c5
          go_wp2
          go_ret
          exact ⟨rfl, HB.out⟩
  · rw [if_neg c1] at h
    obtain rfl := Option.some.inj h
    have c1b := bne_iff_ne.mpr c1
    have c1a := beq_eq_false_iff_ne.mpr c1
    clear h c1
    go_enter Try.func13, Try.ntmps13
    go_wp2_with (first | ((with_reducible refine gate_dst (N := 2) rfl ?_); refine box_event ?hg (N := 2) ?hd (cs := #[.slice A0 l.length c0]) (t := 46) ?hr ?_; (case hd => rfl); (case hg => rfl); (case hr => first | (go_simp; done) | (go_simp; rfl)); intro g0 hg wb2 hbox hb; have n0_ := Aside0.mk (below_step HB.out hb); clear HB; have HB := n0_; clear n0_; have Bg0 := Aside0.mk hbox; clear hbox hg hb; (try simp only [Act.put, List.setIfInBounds_toArray, List.set_cons_zero, List.set_cons_succ])) | ((with_reducible refine gate_dst (N := 3) rfl ?_); refine box_event ?hg (N := 3) ?hd (cs := #[.slice A1 m.length c1]) (t := 46) ?hr ?_; (case hd => rfl); (case hg => rfl); (case hr => first | (go_simp; done) | (go_simp; rfl)); intro g1 hg wb3 hbox hb; have n0_ := Aside0.mk (below_step HB.out hb); have n1_ := Aside0.mk (blk_below Bg0.out hb); clear HB Bg0; have HB := n0_; have Bg0 := n1_; clear n0_ n1_; have Bg1 := Aside0.mk hbox; clear hbox hg hb; (try simp only [Act.put, List.setIfInBounds_toArray, List.set_cons_zero, List.set_cons_succ]); have za0 : wb3.cell? ⟨g0, 0, none⟩ = some (.slice A0 l.length c0) := (blk_cell Bg0.out 0).trans rfl; have za1 : wb3.cell? ⟨g1, 0, none⟩ = some (.slice A1 m.length c1) := (blk_cell Bg1.out 0).trans rfl))
    try go_wp2
    go_ret
    exact ⟨rfl, HB.out⟩

/-! ### laws_toExprS: function 60 -/
/-! ### laws_toExpr: function 30 -/
mutual
def laws_toExprS.l0 : Nat → List (S24) → List (S33) → Int → Option ((List (S33)))
  | 0, _, _, _ => none
  | k + 1, x0, x3, x4 => if x4 < (x0.length : Int) then (if 0 ≤ x4 then ((laws_toExpr.f k ((rd_T24 x0 x4).f0) ((rd_T24 x0 x4).f1) ((rd_T24 x0 x4).f2) ((rd_T24 x0 x4).f3)).bind fun bt122 => (if x4 < (x3.length : Int) then (laws_toExprS.l0 k x0 (x3.set (x4 : Int).toNat (⟨bt122.1, bt122.2.1, bt122.2.2.1, bt122.2.2.2⟩ : S33)) (wrap64 (x4 + 1))) else (none))) else (none)) else (some x3)
def laws_toExprS.f : Nat → List (S24) → Option ((List (S33)))
  | 0, _ => none
  | k + 1, l0 => if 0 ≤ (l0.length : Int) then (if ((l0.length : Int) : Int).toNat ≤ 5026338869833 then (laws_toExprS.l0 k l0 (List.replicate ((l0.length : Int) : Int).toNat z33) 0) else (none)) else (none)
def laws_toExpr.f : Nat → Int → Int → ByteArray → List (S24) → Option (Int × Int × ByteArray × (List (S33)))
  | 0, _, _, _, _ => none
  | k + 1, a0_0, a0_1, a0_2, l0_3 => (laws_toExprS.f k l0_3).bind fun t132 => (some (a0_0, a0_1, a0_2, t132))
end
theorem laws_toExprS_group.mono_l : ∀ k, (∀ y0, LeO (laws_toExprS.f k y0) (laws_toExprS.f (k + 1) y0)) ∧ (∀ y0 y1 y2, LeO (laws_toExprS.l0 k y0 y1 y2) (laws_toExprS.l0 (k + 1) y0 y1 y2)) ∧ (∀ y0 y1 y2 y3, LeO (laws_toExpr.f k y0 y1 y2 y3) (laws_toExpr.f (k + 1) y0 y1 y2 y3))
  | 0 => ⟨fun _ r h => by simp [laws_toExprS.f] at h, fun _ _ _ r h => by simp [laws_toExprS.l0] at h, fun _ _ _ _ r h => by simp [laws_toExpr.f] at h⟩
  | k + 1 => by
    obtain ⟨ih0, ih1, ih2⟩ := laws_toExprS_group.mono_l k
    refine ⟨?_, ?_, ?_⟩
    · intro y0
      unfold laws_toExprS.f
      repeat' first
      | (with_reducible exact ih0 _)
      | (with_reducible exact ih1 _ _ _)
      | (with_reducible exact ih2 _ _ _ _)
      | (with_reducible exact LeO.refl _)
      | (with_reducible exact LeO.none _)
      | (with_reducible refine LeO.ite ?_ ?_)
      | (with_reducible refine LeO.bind ?_ (fun _ => ?_))
      | exact ih0 _
      | exact ih1 _ _ _
      | exact ih2 _ _ _ _
      | exact LeO.none _
      | refine LeO.ite ?_ ?_
      | refine LeO.bind ?_ (fun _ => ?_)
    · intro y0 y1 y2
      unfold laws_toExprS.l0
      repeat' first
      | (with_reducible exact ih0 _)
      | (with_reducible exact ih1 _ _ _)
      | (with_reducible exact ih2 _ _ _ _)
      | (with_reducible exact LeO.refl _)
      | (with_reducible exact LeO.none _)
      | (with_reducible refine LeO.ite ?_ ?_)
      | (with_reducible refine LeO.bind ?_ (fun _ => ?_))
      | exact ih0 _
      | exact ih1 _ _ _
      | exact ih2 _ _ _ _
      | exact LeO.none _
      | refine LeO.ite ?_ ?_
      | refine LeO.bind ?_ (fun _ => ?_)
    · intro y0 y1 y2 y3
      unfold laws_toExpr.f
      repeat' first
      | (with_reducible exact ih0 _)
      | (with_reducible exact ih1 _ _ _)
      | (with_reducible exact ih2 _ _ _ _)
      | (with_reducible exact LeO.refl _)
      | (with_reducible exact LeO.none _)
      | (with_reducible refine LeO.ite ?_ ?_)
      | (with_reducible refine LeO.bind ?_ (fun _ => ?_))
      | exact ih0 _
      | exact ih1 _ _ _
      | exact ih2 _ _ _ _
      | exact LeO.none _
      | refine LeO.ite ?_ ?_
      | refine LeO.bind ?_ (fun _ => ?_)
theorem laws_toExprS.mono : ∀ a0 k, LeO (laws_toExprS.f k a0) (laws_toExprS.f (k + 1) a0) := by
  intro a0 k
  obtain ⟨ih0, ih1, ih2⟩ := laws_toExprS_group.mono_l k
  exact ih0 a0
theorem laws_toExpr.mono : ∀ a0 a1 a2 a3 k, LeO (laws_toExpr.f k a0 a1 a2 a3) (laws_toExpr.f (k + 1) a0 a1 a2 a3) := by
  intro a0 a1 a2 a3 k
  obtain ⟨ih0, ih1, ih2⟩ := laws_toExprS_group.mono_l k
  exact ih2 a0 a1 a2 a3
set_option maxHeartbeats 8000000 in
set_option maxRecDepth 100000 in
theorem laws_toExprS.step (k : Nat)
    (ih_60 : ∀ m_, m_ < k → ∀ (A0 : Option Addr) (c0 : Nat) (l0 : List (S24)) (r : List (S33)) (w : World) (hr0 : Kd.C k24 w A0 l0.length l0) (hc0 : l0.length ≤ c0) (h : laws_toExprS.f m_ l0 = some r),
    Calls Try.prog 60 #[.slice A0 l0.length c0] w fun e w' => ∃ v0_ : Value, e = .returned (v0_) ∧ Kd.R k33 33 w' w.heap.size (fun _ => True) v0_ r ∧ Below w.heap.size w w')
    (ih_30 : ∀ m_, m_ < k → ∀ (a0_0 : Int) (a0_1 : Int) (a0_2 : ByteArray) (A0_3 : Option Addr) (c0_3 : Nat) (l0_3 : List (S24)) (r1 : Int) (r2 : Int) (r3 : ByteArray) (r4 : List (S33)) (w : World) (hr0_3 : Kd.C k24 w A0_3 l0_3.length l0_3) (hc0_3 : l0_3.length ≤ c0_3) (h : laws_toExpr.f m_ a0_0 a0_1 a0_2 l0_3 = some (r1, r2, r3, r4)),
    Calls Try.prog 30 #[.agg #[.int .i64 a0_0, .int .i64 a0_1, .string a0_2, .slice A0_3 l0_3.length c0_3]] w fun e w' => ∃ v3_ : Value, e = .returned (.agg #[.int .i64 r1, .int .i64 r2, .string r3, v3_]) ∧ Kd.R k33 33 w' w.heap.size (fun _ => True) v3_ r4 ∧ Below w.heap.size w w') : ∀ (A0 : Option Addr) (c0 : Nat) (l0 : List (S24)) (r : List (S33)) (w : World) (hr0 : Kd.C k24 w A0 l0.length l0) (hc0 : l0.length ≤ c0) (h : laws_toExprS.f k l0 = some r),
    Calls Try.prog 60 #[.slice A0 l0.length c0] w fun e w' => ∃ v0_ : Value, e = .returned (v0_) ∧ Kd.R k33 33 w' w.heap.size (fun _ => True) v0_ r ∧ Below w.heap.size w w' := by
  intro A0 c0 l0 r w hr0 hc0 h
  cases k with
  | zero => exact absurd h (by simp [laws_toExprS.f])
  | succ k =>
  simp only [laws_toExprS.f] at h
  have hu24 := Try.underlying24
  have hu33 := Try.underlying33
  have HR0 := Aside0.mk hr0
  have HC0 := Aside0.mk hc0
  clear hr0 hc0
  have HB := Aside0.mk (Below.refl w.heap.size w)
  have H : (if 0 ≤ (l0.length : Int) then (if ((l0.length : Int) : Int).toNat ≤ 5026338869833 then (laws_toExprS.l0 k l0 (List.replicate ((l0.length : Int) : Int).toNat z33) 0) else (none)) else (none)) = some r := h
  clear h
  by_cases c2 : 0 ≤ (l0.length : Int)
  · rw [if_pos c2] at H
    have c2b0 := eq_true c2
    have c2b1 : decide (0 ≤ (l0.length : Int)) = true := decide_eq_true c2
    clear c2
    by_cases c3 : ((l0.length : Int) : Int).toNat ≤ 5026338869833
    · rw [if_pos c3] at H
      have c3b0 := eq_true c3
      have c3b1 : decide (((l0.length : Int) : Int).toNat ≤ 5026338869833) = true := decide_eq_true c3
      clear c3
      obtain ⟨y118, hy118⟩ : ∃ y_ : List (S33), y_ = (List.replicate ((l0.length : Int) : Int).toNat z33) := ⟨_, rfl⟩
      replace H : (laws_toExprS.l0 k l0 y118 0) = some r := by first | (rw [hy118]; with_reducible exact H) | (have H2_ := (Option.bind_some _ _).symm.trans H; rw [hy118]; with_reducible exact H2_) | (have H2_ := (Option.bind_some _ _).symm.trans H; with_reducible exact H2_) | with_reducible exact H | (rw [hy118]; exact H) | exact H
      have Ny118 := Aside0.mk hy118
      clear hy118
      have H' := Aside0.mk H
      clear H
      go_enter Try.func60, Try.ntmps60
      go_wp2_with (first | ((with_reducible refine gate_dst (N := 7) rfl ?_); refine Kd.R_make k33 _ 33 rfl (N := 7) rfl 31 _ _ rfl (l0.length : Int) rfl rfl Try.underlying31 (.agg #[(.int .i64 0), (.int .i64 0), (.string ⟨#[]⟩), (.slice none 0 0)]) 56 info33 rfl (by decide) (by omega) z33 (ok := fun _ => True) (okp := fun _ => True) (k33_mkM _ _ _ z33 (Kd.R_nil _ _ _ _ _)) (fun _ hk => hk) trivial (of_decide_eq_true (by first | (with_reducible assumption) | assumption)) (Nat.le_trans (Nat.mul_le_mul_right _ (of_decide_eq_true (by first | (with_reducible assumption) | assumption) : (l0.length : Int).toNat ≤ 5026338869833)) (by omega)) (Below.refl _ _) (Nat.le_refl _) ?_; intro v119 w4 ho5 hb hg_ hnew_; clear hg_ hnew_; (first | rw [← Ny118.out] at ho5 | (simp only [Int.reduceToNat] at ho5; rw [← Ny118.out] at ho5)); have n0_ := Aside0.mk (Kd.R_lower ho5 (below_size (by repeat (first | (with_reducible first | exact HB.out | apply below_alloc | apply pw_below_drewN | apply below_drew1) | exact HB.out)))); have n1_ := Aside0.mk (below_step (by repeat (first | (with_reducible first | exact HB.out | apply below_alloc | apply pw_below_drewN | apply below_drew1) | exact HB.out)) hb); clear HB; have HO120 := n0_; have HB := n1_; clear n0_ n1_; clear hb ho5))
      go_loopg [4] k (fun kq v4 w' => ∃ (x3_1 : List (S33)) (x4_1 : Int), v4 = .int .i64 x4_1 ∧ Aside0 (laws_toExprS.l0 kq l0 x3_1 x4_1 = some r) ∧ Aside0 (kq ≤ k) ∧ Aside0 (Kd.R k33 33 w' w.heap.size (fun _ => True) v119 x3_1) ∧ Aside0 (Below w.heap.size w w'))
      case atStart => exact ⟨(y118), (0), (by first | rfl | (simp; done) | (simp [*]; done)), H', ⟨Nat.le_refl _⟩, ⟨by (with_reducible repeat (first | apply Kd.R_alloc | apply Kd.R_drewN | apply Kd.R_drew)); exact HO120.out⟩, ⟨by repeat (first | (with_reducible first | exact HB.out | apply below_alloc | apply pw_below_drewN | apply below_drew1) | exact HB.out)⟩⟩
      case round =>
        clear H'
        try clear c2
        try clear c2b0
        try clear c2b1
        try clear c3
        try clear c3b0
        try clear c3b1
        obtain ⟨x3_1, x4_1, rfl, HA, HK1, HO_3, HB⟩ := hrel
        cases gk with
        | zero => exact absurd HA.out (by simp [laws_toExprS.l0])
        | succ k1 =>
          have H := HA.out
          clear HA
          simp only [laws_toExprS.l0] at H
          by_cases c6 : x4_1 < (l0.length : Int)
          · rw [if_pos c6] at H
            have c6b0 : decide (x4_1 < (l0.length : Int)) = true := decide_eq_true c6
            clear c6
            by_cases c7 : 0 ≤ x4_1
            · rw [if_pos c7] at H
              have c7b0 : decide (0 ≤ x4_1) = true := decide_eq_true c7
              clear c7
              replace H := Option.bind_eq_some_iff.mp H
              obtain ⟨⟨t122, t123, t124, t125⟩, A80, H⟩ := H
              replace H : (if x4_1 < (x3_1.length : Int) then (laws_toExprS.l0 k1 l0 (x3_1.set (x4_1 : Int).toNat (⟨t122, t123, t124, t125⟩ : S33)) (wrap64 (x4_1 + 1))) else (none)) = some r := H
              have A8 := Aside0.mk A80
              clear A80
              by_cases c9 : x4_1 < (x3_1.length : Int)
              · rw [if_pos c9] at H
                have c9b0 : decide (x4_1 < (x3_1.length : Int)) = true := decide_eq_true c9
                clear c9
                obtain ⟨y128, hy128⟩ : ∃ y_ : List (S33), y_ = (x3_1.set (x4_1 : Int).toNat (⟨t122, t123, t124, t125⟩ : S33)) := ⟨_, rfl⟩
                replace H : (laws_toExprS.l0 k1 l0 y128 (wrap64 (x4_1 + 1))) = some r := by first | (rw [hy128]; with_reducible exact H) | (have H2_ := (Option.bind_some _ _).symm.trans H; rw [hy128]; with_reducible exact H2_) | (have H2_ := (Option.bind_some _ _).symm.trans H; with_reducible exact H2_) | with_reducible exact H | (rw [hy128]; exact H) | exact H
                have Ny128 := Aside0.mk hy128
                clear hy128
                have H' := Aside0.mk H
                clear H
                have p121 : 0 ≤ (x4_1 : Int) := of_decide_eq_true (by first | (with_reducible assumption) | assumption)
                have q121 : x4_1 < (l0.length : Int) := of_decide_eq_true (by first | (with_reducible assumption) | assumption)
                obtain ⟨ad121, A121_3, c121_3, e121, hx121_0, hx121_1, hx121_2, hx121_3, hl121_3, hi121_3⟩ := at_T24 HR0.out x4_1 p121 q121
                cases e121
                replace hx121_0 := (HB.out.cell (World.block_lt_of_cell? w _ hx121_0)).trans hx121_0
                replace hx121_1 := (HB.out.cell (World.block_lt_of_cell? w _ hx121_1)).trans hx121_1
                replace hx121_2 := (HB.out.cell (World.block_lt_of_cell? w _ hx121_2)).trans hx121_2
                replace hx121_3 := (HB.out.cell (World.block_lt_of_cell? w _ hx121_3)).trans hx121_3
                have HR121_3 := Aside0.mk hi121_3
                have HC121_3 := Aside0.mk hl121_3
                clear hi121_3 hl121_3
                replace p121 := eq_true p121
                replace q121 := eq_true q121
                go_wp2_with (first | ((with_reducible refine gate_callee (f := 30) rfl ?_); refine goesL_ (some 20) rfl rfl Try.func30 (by kernel_rfl) rfl #[.agg #[.int .i64 ((rd_T24 l0 x4_1).f0), .int .i64 ((rd_T24 l0 x4_1).f1), .string ((rd_T24 l0 x4_1).f2), .slice A121_3 ((rd_T24 l0 x4_1).f3).length c121_3]] rfl (by (try simp only [List.map_toArray, List.map_cons, List.map_nil]); first | done | rfl | (simp only [List.length_drop, List.length_take]; rfl)) ?_; (with_reducible refine (ih_30 k1 (by have := HK1.out; omega) ((rd_T24 l0 x4_1).f0) ((rd_T24 l0 x4_1).f1) ((rd_T24 l0 x4_1).f2) _ _ ((rd_T24 l0 x4_1).f3) t122 t123 t124 t125 _ ?side1 ?side2 A8.out).mono ?_); (case side1 => repeat (first | exact (Kd.C_below HR121_3.out HB.out) | (with_reducible refine Kd.C_alloc ?_ _) | (with_reducible refine Kd.C_drewN ?_ _) | (with_reducible refine Kd.C_drew ?_))); (case side2 => exact HC121_3.out); rintro e w11 ⟨v126, rfl, ho0, hb⟩; refine ⟨_, rfl, ?_⟩; have n0_ := Aside0.mk (Kd.R_elder' (by (with_reducible repeat (first | apply Kd.R_alloc | apply Kd.R_drewN | apply Kd.R_drew)); exact HO_3.out) (Kd.R_base ho0) hb); have n1_ := Aside0.mk (Kd.R_lower (Kd.R_new' ho0 (Kd.R_lt (by (with_reducible repeat (first | apply Kd.R_alloc | apply Kd.R_drewN | apply Kd.R_drew)); exact HO_3.out))) (below_size (by repeat (first | (with_reducible first | exact HB.out | apply below_alloc | apply pw_below_drewN | apply below_drew1) | exact HB.out)))); have n2_ := Aside0.mk (below_step (by repeat (first | (with_reducible first | exact HB.out | apply below_alloc | apply pw_below_drewN | apply below_drew1) | exact HB.out)) hb); clear HO_3; clear HB; have HO_3 := n0_; have HO127 := n1_; have HB := n2_; clear n0_ n1_ n2_; (try clear hb); (try clear hb2); (try clear hk); (try clear hi); (try clear ho0); have p10 : 0 ≤ (x4_1 : Int) := of_decide_eq_true (by first | (with_reducible assumption) | assumption); have q10 : (x4_1 : Int) < ((x3_1.length : Int) : Int) := of_decide_eq_true (by first | (with_reducible assumption) | assumption); obtain ⟨go10, co10, eo10, gb10, gl10, cl10, HG10⟩ := Kd.R_form HO_3.out (by omega); (first | cases eo10 | (injection eo10 with ea_ en_ ec_; (first | subst ea_ | (injection ea_ with ea_; subst ea_)); subst ec_; clear en_)); have GB10 := Aside0.mk gb10; have GG10 := Aside0.mk HG10; clear gb10 gl10 HG10; obtain ⟨ce10, hcl10, hM10, hcc10, hfr10⟩ := Kd.R_elem HO_3.out z33 (x4_1 : Int) p10 q10; obtain ⟨ve10_3, rfl, ge10_3⟩ := k33_openM hM10; have hx10_0 : w11.cell? ⟨go10, (x4_1 : Int).toNat * 4, none⟩ = some (.int .i64 ((rd_T33 x3_1 x4_1).f0)) := hcc10 0 _ rfl; have hx10_1 : w11.cell? ⟨go10, (x4_1 : Int).toNat * 4 + 1, none⟩ = some (.int .i64 ((rd_T33 x3_1 x4_1).f1)) := hcc10 1 _ rfl; have hx10_2 : w11.cell? ⟨go10, (x4_1 : Int).toNat * 4 + 2, none⟩ = some (.string ((rd_T33 x3_1 x4_1).f2)) := hcc10 2 _ rfl; have hx10_3 : w11.cell? ⟨go10, (x4_1 : Int).toNat * 4 + 3, none⟩ = some (ve10_3) := hcc10 3 _ rfl; have hf10_0 : w11.frozen? ⟨go10, (x4_1 : Int).toNat * 4, none⟩ = false := hfr10 0; have hf10_1 : w11.frozen? ⟨go10, (x4_1 : Int).toNat * 4 + 1, none⟩ = false := hfr10 1; have hf10_2 : w11.frozen? ⟨go10, (x4_1 : Int).toNat * 4 + 2, none⟩ = false := hfr10 2; have hf10_3 : w11.frozen? ⟨go10, (x4_1 : Int).toNat * 4 + 3, none⟩ = false := hfr10 3; clear hcl10 hcc10 hfr10 hM10; replace p10 := eq_true p10; replace q10 := eq_true q10; have n_ := Aside0.mk (Kd.R_mono (ok' := (fun k_ => some k_ ≠ (v126 : Value).ownBlock)) HO_3.out (fun k_ hk => hk.2)); clear HO_3; have HO_3 := n_; clear n_; have HX12 := Aside0.mk (show Kd.R k33 33 w11 w.heap.size (fun _ => True) (.slice (some ⟨go10, 0, none⟩) x3_1.length co10) x3_1 from (by (with_reducible repeat (first | apply Kd.R_alloc | apply Kd.R_drewN | apply Kd.R_drew)); exact Kd.R_mono HO_3.out (fun _ hk => trivial))); obtain ⟨ce12, hcl12, hM12, hcc12, hfr12⟩ := Kd.R_elem HX12.out z33 (x4_1 : Int) (of_decide_eq_true (by first | (with_reducible assumption) | assumption)) (by have h_ : (x4_1 : Int) < ((x3_1.length : Int) : Int) := of_decide_eq_true (by first | (with_reducible assumption) | assumption); first | exact h_ | (have e_ := (Kd.R_reads' HO_3.out).1; omega) | simpa using h_); obtain ⟨ve12_3, rfl, ge12_3⟩ := k33_openM hM12; have HP12 := Kd.R_seg HX12.out (x4_1 : Int) (of_decide_eq_true (by first | (with_reducible assumption) | assumption)) (by have h_ : (x4_1 : Int) < ((x3_1.length : Int) : Int) := of_decide_eq_true (by first | (with_reducible assumption) | assumption); first | exact h_ | (have e_ := (Kd.R_reads' HO_3.out).1; omega) | simpa using h_) (seg := [.int .i64 t122, .int .i64 t123, .string t124, v126]) (j := 0) hcl12 hcc12 (show 4 ≤ 4 from by decide) (x' := (⟨t122, t123, t124, t125⟩ : S33)) (k33_mkM _ _ _ (⟨t122, t123, t124, t125⟩ : S33) (Kd.R_mono (HO127.out) (fun k_ hk => ⟨trivial, fun e_ => (hk.2) (by rw [e_]; rfl)⟩))) (fun _ hk => hk); have hx12_0 := hcc12 0 _ rfl; (try simp only [show (k33).sz = 4 from rfl, Nat.mul_one, Nat.add_zero] at hx12_0); have hf12_0 := hfr12 0; (try simp only [show (k33).sz = 4 from rfl, Nat.mul_one, Nat.add_zero] at hf12_0); have hx12_1 := hcc12 1 _ rfl; (try simp only [show (k33).sz = 4 from rfl, Nat.mul_one, Nat.add_zero] at hx12_1); have hf12_1 := hfr12 1; (try simp only [show (k33).sz = 4 from rfl, Nat.mul_one, Nat.add_zero] at hf12_1); have hx12_2 := hcc12 2 _ rfl; (try simp only [show (k33).sz = 4 from rfl, Nat.mul_one, Nat.add_zero] at hx12_2); have hf12_2 := hfr12 2; (try simp only [show (k33).sz = 4 from rfl, Nat.mul_one, Nat.add_zero] at hf12_2); have hx12_3 := hcc12 3 _ rfl; (try simp only [show (k33).sz = 4 from rfl, Nat.mul_one, Nat.add_zero] at hx12_3); have hf12_3 := hfr12 3; (try simp only [show (k33).sz = 4 from rfl, Nat.mul_one, Nat.add_zero] at hf12_3); clear hcl12 hcc12 hfr12 hM12) | ((with_reducible refine gate_store (t := 33) (p := 21) rfl ?_); refine store_event (t := 33) (p := 21) (v := ?vo_w13) (w1 := ((((w11.setCell ⟨go10, (x4_1 : Int).toNat * 4, none⟩ (.int .i64 t122)).setCell ⟨go10, (x4_1 : Int).toNat * 4 + 1, none⟩ (.int .i64 t123)).setCell ⟨go10, (x4_1 : Int).toNat * 4 + 2, none⟩ (.string t124)).setCell ⟨go10, (x4_1 : Int).toNat * 4 + 3, none⟩ (v126))) ?hg ?ho ?hn ?hr ?_; (case ho => rfl); (case hg => rfl); (case hn => rfl); (case hr => (try have hst3_ := fun (w_ : World) (a_ : Addr) (m_ : Mode) => run_store Try.prog w_ a_ v126 m_ (by obtain ⟨_, _, h_⟩ := Kd.R_slice HO127.out; rw [h_]; rfl)); first | (go_simp; done) | (go_simp; rfl)); intro w13 hw; have hg : w11.grownBy w13 (some go10) := (by rw [hw]; exact HP12.2); have hp_ : Kd.R k33 33 w13 w.heap.size (fun _ => True) (.slice (some ⟨go10, 0, none⟩) x3_1.length co10) y128 := (by rw [hw, Ny128.out]; exact HP12.1); clear HP12; have n0_ := Aside0.mk (hp_); have n1_ := Aside0.mk ((by rw [hw]; exact below_set (below_set (below_set (below_set (HB.out) GB10.out) GB10.out) GB10.out) GB10.out : Below w.heap.size w w13)); clear HO_3; clear HB; clear HO127; have HO_3 := n0_; have HB := n1_; clear n0_ n1_; clear hg hw hp_))
                go_roundg k1
                case measure => have := HK1.out; omega
                case rel => exact ⟨(y128), (wrap64 (x4_1 + 1)), (by first | rfl | (simp; done) | (simp [*]; done)), H', ⟨by have := HK1.out; omega⟩, ⟨by (with_reducible repeat (first | apply Kd.R_alloc | apply Kd.R_drewN | apply Kd.R_drew)); exact HO_3.out⟩, ⟨by repeat (first | (with_reducible first | exact HB.out | apply below_alloc | apply pw_below_drewN | apply below_drew1) | exact HB.out)⟩⟩
              · rw [if_neg c9] at H
                exact absurd H (by simp)
            · rw [if_neg c7] at H
              exact absurd H (by simp)
          · rw [if_neg c6] at H
            have c6b0 : decide (x4_1 < (l0.length : Int)) = false := decide_eq_false c6
            clear c6
            obtain rfl := Option.some.inj H
            go_wp2
            go_ret
            exact ⟨_, by first | rfl | (simp [errW_none, errW_some] <;> rfl) | (simp [*, errW_none, errW_some] <;> rfl), by (with_reducible repeat (first | apply Kd.R_alloc | apply Kd.R_drewN | apply Kd.R_drew)); exact HO_3.out, by repeat (first | (with_reducible first | exact HB.out | apply below_alloc | apply pw_below_drewN | apply below_drew1) | exact HB.out)⟩
    · rw [if_neg c3] at H
      exact absurd H (by simp)
  · rw [if_neg c2] at H
    exact absurd H (by simp)

set_option maxHeartbeats 8000000 in
set_option maxRecDepth 100000 in
theorem laws_toExpr.step (k : Nat)
    (ih_60 : ∀ m_, m_ < k → ∀ (A0 : Option Addr) (c0 : Nat) (l0 : List (S24)) (r : List (S33)) (w : World) (hr0 : Kd.C k24 w A0 l0.length l0) (hc0 : l0.length ≤ c0) (h : laws_toExprS.f m_ l0 = some r),
    Calls Try.prog 60 #[.slice A0 l0.length c0] w fun e w' => ∃ v0_ : Value, e = .returned (v0_) ∧ Kd.R k33 33 w' w.heap.size (fun _ => True) v0_ r ∧ Below w.heap.size w w')
    (ih_30 : ∀ m_, m_ < k → ∀ (a0_0 : Int) (a0_1 : Int) (a0_2 : ByteArray) (A0_3 : Option Addr) (c0_3 : Nat) (l0_3 : List (S24)) (r1 : Int) (r2 : Int) (r3 : ByteArray) (r4 : List (S33)) (w : World) (hr0_3 : Kd.C k24 w A0_3 l0_3.length l0_3) (hc0_3 : l0_3.length ≤ c0_3) (h : laws_toExpr.f m_ a0_0 a0_1 a0_2 l0_3 = some (r1, r2, r3, r4)),
    Calls Try.prog 30 #[.agg #[.int .i64 a0_0, .int .i64 a0_1, .string a0_2, .slice A0_3 l0_3.length c0_3]] w fun e w' => ∃ v3_ : Value, e = .returned (.agg #[.int .i64 r1, .int .i64 r2, .string r3, v3_]) ∧ Kd.R k33 33 w' w.heap.size (fun _ => True) v3_ r4 ∧ Below w.heap.size w w') : ∀ (a0_0 : Int) (a0_1 : Int) (a0_2 : ByteArray) (A0_3 : Option Addr) (c0_3 : Nat) (l0_3 : List (S24)) (r1 : Int) (r2 : Int) (r3 : ByteArray) (r4 : List (S33)) (w : World) (hr0_3 : Kd.C k24 w A0_3 l0_3.length l0_3) (hc0_3 : l0_3.length ≤ c0_3) (h : laws_toExpr.f k a0_0 a0_1 a0_2 l0_3 = some (r1, r2, r3, r4)),
    Calls Try.prog 30 #[.agg #[.int .i64 a0_0, .int .i64 a0_1, .string a0_2, .slice A0_3 l0_3.length c0_3]] w fun e w' => ∃ v3_ : Value, e = .returned (.agg #[.int .i64 r1, .int .i64 r2, .string r3, v3_]) ∧ Kd.R k33 33 w' w.heap.size (fun _ => True) v3_ r4 ∧ Below w.heap.size w w' := by
  intro a0_0 a0_1 a0_2 A0_3 c0_3 l0_3 r1 r2 r3 r4 w hr0_3 hc0_3 h
  cases k with
  | zero => exact absurd h (by simp [laws_toExpr.f])
  | succ k =>
  simp only [laws_toExpr.f] at h
  have hu24 := Try.underlying24
  have hu33 := Try.underlying33
  have HR0_3 := Aside0.mk hr0_3
  have HC0_3 := Aside0.mk hc0_3
  clear hr0_3 hc0_3
  have HB := Aside0.mk (Below.refl w.heap.size w)
  have H : ((laws_toExprS.f k l0_3).bind fun t132 => (some (a0_0, a0_1, a0_2, t132))) = some (r1, r2, r3, r4) := h
  clear h
  replace H := Option.bind_eq_some_iff.mp H
  obtain ⟨t132, A20, H⟩ := H
  replace H : (some (a0_0, a0_1, a0_2, t132)) = some (r1, r2, r3, r4) := H
  have A2 := Aside0.mk A20
  clear A20
  simp only [Option.some.injEq, Prod.mk.injEq] at H
  obtain ⟨rfl, rfl, rfl, rfl⟩ := H
  go_enter Try.func30, Try.ntmps30
  go_wp2_with (first | ((with_reducible refine gate_dst (N := 1) rfl ?_); refine box_event ?hg (N := 1) ?hd (cs := #[.int .i64 a0_0, .int .i64 a0_1, .string a0_2, .slice A0_3 l0_3.length c0_3]) (t := 24) ?hr ?_; (case hd => rfl); (case hg => rfl); (case hr => first | (go_simp; done) | (go_simp; rfl)); intro gb129 hg w3 hbox hb; have n0_ := Aside0.mk (below_step (by repeat (first | (with_reducible first | exact HB.out | apply below_alloc | apply pw_below_drewN | apply below_drew1) | exact HB.out)) hb); have n1_ := Aside0.mk (hbox); have n2_ := Aside0.mk ((by rw [hg]; exact (below_size (by repeat (first | (with_reducible first | exact HB.out | apply below_alloc | apply pw_below_drewN | apply below_drew1) | exact HB.out))) : w.heap.size ≤ gb129)); have n3_ := Aside0.mk ((by rw [hg]; exact (below_size (by repeat (first | (with_reducible first | exact HB.out | apply below_alloc | apply pw_below_drewN | apply below_drew1) | exact HB.out))) : w.heap.size ≤ gb129)); clear HB; have HB := n0_; have BK129 := n1_; have GW129 := n2_; have GE129 := n3_; clear n0_ n1_ n2_ n3_; clear hb hbox hg) | ((with_reducible refine gate_dst (N := 2) rfl ?_); refine box_event ?hg (N := 2) ?hd (cs := #[.int .i64 0, .int .i64 0, .string (⟨#[]⟩ : ByteArray), .slice none 0 0]) (t := 33) ?hr ?_; (case hd => rfl); (case hg => rfl); (case hr => first | (go_simp; done) | (go_simp; rfl)); intro gb130 hg w4 hbox hb; have n0_ := Aside0.mk (blk_below (g := gb129) (o := .cells #[.int .i64 a0_0, .int .i64 a0_1, .string a0_2, .slice A0_3 l0_3.length c0_3] 24 (0, 0)) (by (with_reducible repeat (first | refine blk_drewN ?_ _ | refine blk_drew ?_ | refine blk_alloc ?_ _)); exact BK129.out) hb); have n1_ := Aside0.mk (below_step (by repeat (first | (with_reducible first | exact HB.out | apply below_alloc | apply pw_below_drewN | apply below_drew1 | refine below_set ?_ GE129.out) | exact HB.out)) hb); have n2_ := Aside0.mk (hbox); have n3_ := Aside0.mk ((by rw [hg]; exact (below_size (by repeat (first | (with_reducible first | exact HB.out | apply below_alloc | apply pw_below_drewN | apply below_drew1 | refine below_set ?_ GE129.out) | exact HB.out))) : w.heap.size ≤ gb130)); have n4_ := Aside0.mk ((by rw [hg]; exact (below_size (by repeat (first | (with_reducible first | exact HB.out | apply below_alloc | apply pw_below_drewN | apply below_drew1 | refine below_set ?_ GE129.out) | exact HB.out))) : w.heap.size ≤ gb130)); have n5_ := Aside0.mk ((by rw [hg]; exact Nat.ne_of_lt (blk_lt (g := gb129) (o := .cells #[.int .i64 a0_0, .int .i64 a0_1, .string a0_2, .slice A0_3 l0_3.length c0_3] 24 (0, 0)) (by (with_reducible repeat (first | refine blk_drewN ?_ _ | refine blk_drew ?_ | refine blk_alloc ?_ _)); exact BK129.out)) : gb129 ≠ gb130)); have n6_ := Aside0.mk ((by rw [hg]; exact Nat.ne_of_gt (blk_lt (g := gb129) (o := .cells #[.int .i64 a0_0, .int .i64 a0_1, .string a0_2, .slice A0_3 l0_3.length c0_3] 24 (0, 0)) (by (with_reducible repeat (first | refine blk_drewN ?_ _ | refine blk_drew ?_ | refine blk_alloc ?_ _)); exact BK129.out)) : gb130 ≠ gb129)); clear BK129; clear HB; have BK129 := n0_; have HB := n1_; have BK130 := n2_; have GW130 := n3_; have GE130 := n4_; have NB129_130 := n5_; have NB130_129 := n6_; clear n0_ n1_ n2_ n3_ n4_ n5_ n6_; clear hb hbox hg) | ((with_reducible refine gate_dst (N := 3) rfl ?_); refine box_event ?hg (N := 3) ?hd (cs := #[.int .i64 0, .int .i64 0, .string (⟨#[]⟩ : ByteArray), .slice none 0 0]) (t := 33) ?hr ?_; (case hd => rfl); (case hg => rfl); (case hr => first | (go_simp; done) | (go_simp; rfl)); intro gb131 hg w5 hbox hb; have n0_ := Aside0.mk (blk_below (g := gb129) (o := .cells #[.int .i64 a0_0, .int .i64 a0_1, .string a0_2, .slice A0_3 l0_3.length c0_3] 24 (0, 0)) (by (with_reducible repeat (first | refine blk_drewN ?_ _ | refine blk_drew ?_ | refine blk_alloc ?_ _)); exact BK129.out) hb); have n1_ := Aside0.mk (blk_below (g := gb130) (o := .cells #[.int .i64 0, .int .i64 0, .string (⟨#[]⟩ : ByteArray), .slice none 0 0] 33 (0, 0)) (by (with_reducible repeat (first | refine blk_drewN ?_ _ | refine blk_drew ?_ | refine blk_alloc ?_ _)); exact BK130.out) hb); have n2_ := Aside0.mk (below_step (by repeat (first | (with_reducible first | exact HB.out | apply below_alloc | apply pw_below_drewN | apply below_drew1 | refine below_set ?_ GE129.out | refine below_set ?_ GE130.out) | exact HB.out)) hb); have n3_ := Aside0.mk (hbox); have n4_ := Aside0.mk ((by rw [hg]; exact (below_size (by repeat (first | (with_reducible first | exact HB.out | apply below_alloc | apply pw_below_drewN | apply below_drew1 | refine below_set ?_ GE129.out | refine below_set ?_ GE130.out) | exact HB.out))) : w.heap.size ≤ gb131)); have n5_ := Aside0.mk ((by rw [hg]; exact (below_size (by repeat (first | (with_reducible first | exact HB.out | apply below_alloc | apply pw_below_drewN | apply below_drew1 | refine below_set ?_ GE129.out | refine below_set ?_ GE130.out) | exact HB.out))) : w.heap.size ≤ gb131)); have n6_ := Aside0.mk ((by rw [hg]; exact Nat.ne_of_lt (blk_lt (g := gb129) (o := .cells #[.int .i64 a0_0, .int .i64 a0_1, .string a0_2, .slice A0_3 l0_3.length c0_3] 24 (0, 0)) (by (with_reducible repeat (first | refine blk_drewN ?_ _ | refine blk_drew ?_ | refine blk_alloc ?_ _)); exact BK129.out)) : gb129 ≠ gb131)); have n7_ := Aside0.mk ((by rw [hg]; exact Nat.ne_of_gt (blk_lt (g := gb129) (o := .cells #[.int .i64 a0_0, .int .i64 a0_1, .string a0_2, .slice A0_3 l0_3.length c0_3] 24 (0, 0)) (by (with_reducible repeat (first | refine blk_drewN ?_ _ | refine blk_drew ?_ | refine blk_alloc ?_ _)); exact BK129.out)) : gb131 ≠ gb129)); have n8_ := Aside0.mk ((by rw [hg]; exact Nat.ne_of_lt (blk_lt (g := gb130) (o := .cells #[.int .i64 0, .int .i64 0, .string (⟨#[]⟩ : ByteArray), .slice none 0 0] 33 (0, 0)) (by (with_reducible repeat (first | refine blk_drewN ?_ _ | refine blk_drew ?_ | refine blk_alloc ?_ _)); exact BK130.out)) : gb130 ≠ gb131)); have n9_ := Aside0.mk ((by rw [hg]; exact Nat.ne_of_gt (blk_lt (g := gb130) (o := .cells #[.int .i64 0, .int .i64 0, .string (⟨#[]⟩ : ByteArray), .slice none 0 0] 33 (0, 0)) (by (with_reducible repeat (first | refine blk_drewN ?_ _ | refine blk_drew ?_ | refine blk_alloc ?_ _)); exact BK130.out)) : gb131 ≠ gb130)); clear BK129; clear BK130; clear HB; have BK129 := n0_; have BK130 := n1_; have HB := n2_; have BK131 := n3_; have GW131 := n4_; have GE131 := n5_; have NB129_131 := n6_; have NB131_129 := n7_; have NB130_131 := n8_; have NB131_130 := n9_; clear n0_ n1_ n2_ n3_ n4_ n5_ n6_ n7_ n8_ n9_; clear hb hbox hg; have hnb6 := NB129_130.out; have hnc6 := NB130_129.out; have hnb7 := NB129_131.out; have hnc7 := NB131_129.out; have cz_ := cells4_ (w := w5) (g := gb129) BK129.out; obtain ⟨hcz8_0, hcz8_1, hcz8_2, hcz8_3⟩ := cz_; have hfz8 := blk_frozen BK129.out; have hnb9 := NB131_130.out; have hnc9 := NB130_131.out; have cz_ := cells4_ (w := w5) (g := gb131) BK131.out; obtain ⟨hcz10_0, hcz10_1, hcz10_2, hcz10_3⟩ := cz_; have hfz10 := blk_frozen BK131.out) | ((with_reducible refine gate_callee (f := 60) rfl ?_); refine goesL_ (some 15) rfl rfl Try.func60 (by kernel_rfl) rfl #[.slice A0_3 l0_3.length c0_3] rfl (by (try simp only [List.map_toArray, List.map_cons, List.map_nil]); first | done | rfl | (simp only [List.length_drop, List.length_take]; rfl)) ?_; (with_reducible refine (ih_60 k (by omega) _ _ l0_3 t132 _ ?side1 ?side2 A2.out).mono ?_); (case side1 => exact Kd.C_below HR0_3.out (by repeat (first | (with_reducible first | exact HB.out | apply below_alloc | apply pw_below_drewN | apply below_drew1 | refine below_set ?_ GE129.out | refine below_set ?_ GE130.out | refine below_set ?_ GE131.out) | exact HB.out))); (case side2 => exact HC0_3.out); rintro e w11 ⟨v133, rfl, ho0, hb⟩; refine ⟨_, rfl, ?_⟩; have n0_ := Aside0.mk (Kd.R_lower (Kd.R_newB (Kd.R_newB ho0 (g := gb130) (o := .cells #[.int .i64 0, .int .i64 0, .string (⟨#[]⟩ : ByteArray), .slice none 0 0] 33 (0, 0)) (by (with_reducible repeat (first | refine blk_drewN ?_ _ | refine blk_drew ?_ | refine blk_alloc ?_ _)); refine blk_far ?_ NB130_131.out _; (with_reducible repeat (first | refine blk_drewN ?_ _ | refine blk_drew ?_ | refine blk_alloc ?_ _)); refine blk_far ?_ NB130_131.out _; (with_reducible repeat (first | refine blk_drewN ?_ _ | refine blk_drew ?_ | refine blk_alloc ?_ _)); refine blk_far ?_ NB130_131.out _; (with_reducible repeat (first | refine blk_drewN ?_ _ | refine blk_drew ?_ | refine blk_alloc ?_ _)); exact BK130.out)) (g := gb131) (o := .cells #[.int .i64 a0_0, .int .i64 a0_1, .string a0_2, .slice none 0 0] 33 (0, 0)) (by (with_reducible repeat (first | refine blk_drewN ?_ _ | refine blk_drew ?_ | refine blk_alloc ?_ _)); refine blk_put (cs := #[.int .i64 a0_0, .int .i64 a0_1, .string (⟨#[]⟩ : ByteArray), .slice none 0 0]) ?_ 2 _ rfl; (with_reducible repeat (first | refine blk_drewN ?_ _ | refine blk_drew ?_ | refine blk_alloc ?_ _)); refine blk_put (cs := #[.int .i64 a0_0, .int .i64 0, .string (⟨#[]⟩ : ByteArray), .slice none 0 0]) ?_ 1 _ rfl; (with_reducible repeat (first | refine blk_drewN ?_ _ | refine blk_drew ?_ | refine blk_alloc ?_ _)); refine blk_put (cs := #[.int .i64 0, .int .i64 0, .string (⟨#[]⟩ : ByteArray), .slice none 0 0]) ?_ 0 _ rfl; (with_reducible repeat (first | refine blk_drewN ?_ _ | refine blk_drew ?_ | refine blk_alloc ?_ _)); exact BK131.out)) (below_size (by repeat (first | (with_reducible first | exact HB.out | apply below_alloc | apply pw_below_drewN | apply below_drew1 | refine below_set ?_ GE129.out | refine below_set ?_ GE130.out | refine below_set ?_ GE131.out) | exact HB.out)))); have n1_ := Aside0.mk (blk_below (g := gb129) (o := .cells #[.int .i64 a0_0, .int .i64 a0_1, .string a0_2, .slice A0_3 l0_3.length c0_3] 24 (0, 0)) (by (with_reducible repeat (first | refine blk_drewN ?_ _ | refine blk_drew ?_ | refine blk_alloc ?_ _)); refine blk_far ?_ NB129_131.out _; (with_reducible repeat (first | refine blk_drewN ?_ _ | refine blk_drew ?_ | refine blk_alloc ?_ _)); refine blk_far ?_ NB129_131.out _; (with_reducible repeat (first | refine blk_drewN ?_ _ | refine blk_drew ?_ | refine blk_alloc ?_ _)); refine blk_far ?_ NB129_131.out _; (with_reducible repeat (first | refine blk_drewN ?_ _ | refine blk_drew ?_ | refine blk_alloc ?_ _)); exact BK129.out) hb); have n2_ := Aside0.mk (blk_below (g := gb130) (o := .cells #[.int .i64 0, .int .i64 0, .string (⟨#[]⟩ : ByteArray), .slice none 0 0] 33 (0, 0)) (by (with_reducible repeat (first | refine blk_drewN ?_ _ | refine blk_drew ?_ | refine blk_alloc ?_ _)); refine blk_far ?_ NB130_131.out _; (with_reducible repeat (first | refine blk_drewN ?_ _ | refine blk_drew ?_ | refine blk_alloc ?_ _)); refine blk_far ?_ NB130_131.out _; (with_reducible repeat (first | refine blk_drewN ?_ _ | refine blk_drew ?_ | refine blk_alloc ?_ _)); refine blk_far ?_ NB130_131.out _; (with_reducible repeat (first | refine blk_drewN ?_ _ | refine blk_drew ?_ | refine blk_alloc ?_ _)); exact BK130.out) hb); have n3_ := Aside0.mk (blk_below (g := gb131) (o := .cells #[.int .i64 a0_0, .int .i64 a0_1, .string a0_2, .slice none 0 0] 33 (0, 0)) (by (with_reducible repeat (first | refine blk_drewN ?_ _ | refine blk_drew ?_ | refine blk_alloc ?_ _)); refine blk_put (cs := #[.int .i64 a0_0, .int .i64 a0_1, .string (⟨#[]⟩ : ByteArray), .slice none 0 0]) ?_ 2 _ rfl; (with_reducible repeat (first | refine blk_drewN ?_ _ | refine blk_drew ?_ | refine blk_alloc ?_ _)); refine blk_put (cs := #[.int .i64 a0_0, .int .i64 0, .string (⟨#[]⟩ : ByteArray), .slice none 0 0]) ?_ 1 _ rfl; (with_reducible repeat (first | refine blk_drewN ?_ _ | refine blk_drew ?_ | refine blk_alloc ?_ _)); refine blk_put (cs := #[.int .i64 0, .int .i64 0, .string (⟨#[]⟩ : ByteArray), .slice none 0 0]) ?_ 0 _ rfl; (with_reducible repeat (first | refine blk_drewN ?_ _ | refine blk_drew ?_ | refine blk_alloc ?_ _)); exact BK131.out) hb); have n4_ := Aside0.mk (below_step (by repeat (first | (with_reducible first | exact HB.out | apply below_alloc | apply pw_below_drewN | apply below_drew1 | refine below_set ?_ GE129.out | refine below_set ?_ GE130.out | refine below_set ?_ GE131.out) | exact HB.out)) hb); clear BK129; clear BK130; clear BK131; clear HB; have HO134 := n0_; have BK129 := n1_; have BK130 := n2_; have BK131 := n3_; have HB := n4_; clear n0_ n1_ n2_ n3_ n4_; (try clear hb); (try clear hb2); (try clear hk); (try clear hi); (try clear ho0); obtain ⟨Ao12, co12, eo12⟩ := Kd.R_slice HO134.out; subst eo12; have cz_ := cells4_ (w := w11) (g := gb131) BK131.out; obtain ⟨hcz13_0, hcz13_1, hcz13_2, hcz13_3⟩ := cz_; have hfz13 := blk_frozen BK131.out; have cz_ := cells4_ (w := w11) (g := gb130) BK130.out; obtain ⟨hcz14_0, hcz14_1, hcz14_2, hcz14_3⟩ := cz_; have hfz14 := blk_frozen BK130.out))
  refine bodyPost_ret (results_cell_row rfl _ _ gb130 33 #[.int .i64 a0_0, .int .i64 a0_1, .string a0_2, .slice Ao12 t132.length co12] (0, 0) _ rfl (by (with_reducible repeat (first | refine blk_drewN ?_ _ | refine blk_drew ?_ | refine blk_alloc ?_ _)); refine blk_put (cs := #[.int .i64 a0_0, .int .i64 a0_1, .string a0_2, .slice none 0 0]) ?_ 3 _ rfl; (with_reducible repeat (first | refine blk_drewN ?_ _ | refine blk_drew ?_ | refine blk_alloc ?_ _)); refine blk_put (cs := #[.int .i64 a0_0, .int .i64 a0_1, .string (⟨#[]⟩ : ByteArray), .slice none 0 0]) ?_ 2 _ rfl; (with_reducible repeat (first | refine blk_drewN ?_ _ | refine blk_drew ?_ | refine blk_alloc ?_ _)); refine blk_put (cs := #[.int .i64 a0_0, .int .i64 0, .string (⟨#[]⟩ : ByteArray), .slice none 0 0]) ?_ 1 _ rfl; (with_reducible repeat (first | refine blk_drewN ?_ _ | refine blk_drew ?_ | refine blk_alloc ?_ _)); refine blk_put (cs := #[.int .i64 0, .int .i64 0, .string (⟨#[]⟩ : ByteArray), .slice none 0 0]) ?_ 0 _ rfl; (with_reducible repeat (first | refine blk_drewN ?_ _ | refine blk_drew ?_ | refine blk_alloc ?_ _)); refine blk_far ?_ NB130_131.out _; (with_reducible repeat (first | refine blk_drewN ?_ _ | refine blk_drew ?_ | refine blk_alloc ?_ _)); exact BK130.out) Try.underlying33 rfl (by kernel_rfl)) rfl ?_
  exact ⟨_, by first | rfl | (simp [errW_none, errW_some] <;> rfl) | (simp [*, errW_none, errW_some] <;> rfl), by (with_reducible repeat (first | apply Kd.R_alloc | apply Kd.R_drewN | apply Kd.R_drew)); exact Kd.R_mono (Kd.R_far (p := ⟨gb130, 3, none⟩) (Kd.R_far (p := ⟨gb130, 2, none⟩) (Kd.R_far (p := ⟨gb130, 1, none⟩) (Kd.R_far (p := ⟨gb130, 0, none⟩) (Kd.R_far (p := ⟨gb131, 3, none⟩) (Kd.R_mono (Kd.R_mono HO134.out (fun k_ hk => (⟨hk, hk.2⟩ : _ ∧ k_ ≠ gb131))) (fun k_ hk => (⟨hk, hk.1.1.2⟩ : _ ∧ k_ ≠ gb130))) (fun _ hk => hk.1.2) (.slice Ao12 t132.length co12)) (fun _ hk => hk.2) (.int .i64 a0_0)) (fun _ hk => hk.2) (.int .i64 a0_1)) (fun _ hk => hk.2) (.string a0_2)) (fun _ hk => hk.2) (.slice Ao12 t132.length co12)) (fun _ hk => trivial), by repeat (first | (with_reducible first | exact HB.out | apply below_alloc | apply pw_below_drewN | apply below_drew1 | refine below_set ?_ GE129.out | refine below_set ?_ GE130.out | refine below_set ?_ GE131.out) | exact HB.out)⟩

theorem laws_toExprS_group.both : ∀ k : Nat, (∀ (A0 : Option Addr) (c0 : Nat) (l0 : List (S24)) (r : List (S33)) (w : World) (hr0 : Kd.C k24 w A0 l0.length l0) (hc0 : l0.length ≤ c0) (h : laws_toExprS.f k l0 = some r),
    Calls Try.prog 60 #[.slice A0 l0.length c0] w fun e w' => ∃ v0_ : Value, e = .returned (v0_) ∧ Kd.R k33 33 w' w.heap.size (fun _ => True) v0_ r ∧ Below w.heap.size w w') ∧ (∀ (a0_0 : Int) (a0_1 : Int) (a0_2 : ByteArray) (A0_3 : Option Addr) (c0_3 : Nat) (l0_3 : List (S24)) (r1 : Int) (r2 : Int) (r3 : ByteArray) (r4 : List (S33)) (w : World) (hr0_3 : Kd.C k24 w A0_3 l0_3.length l0_3) (hc0_3 : l0_3.length ≤ c0_3) (h : laws_toExpr.f k a0_0 a0_1 a0_2 l0_3 = some (r1, r2, r3, r4)),
    Calls Try.prog 30 #[.agg #[.int .i64 a0_0, .int .i64 a0_1, .string a0_2, .slice A0_3 l0_3.length c0_3]] w fun e w' => ∃ v3_ : Value, e = .returned (.agg #[.int .i64 r1, .int .i64 r2, .string r3, v3_]) ∧ Kd.R k33 33 w' w.heap.size (fun _ => True) v3_ r4 ∧ Below w.heap.size w w') := by
  intro k
  induction k using Nat.strongRecOn with
  | _ k ih =>
  exact ⟨laws_toExprS.step k (fun m hm => (ih m hm).1) (fun m hm => (ih m hm).2), laws_toExpr.step k (fun m hm => (ih m hm).1) (fun m hm => (ih m hm).2)⟩
theorem laws_toExprS.calls (k : Nat) : ∀ (A0 : Option Addr) (c0 : Nat) (l0 : List (S24)) (r : List (S33)) (w : World) (hr0 : Kd.C k24 w A0 l0.length l0) (hc0 : l0.length ≤ c0) (h : laws_toExprS.f k l0 = some r),
    Calls Try.prog 60 #[.slice A0 l0.length c0] w fun e w' => ∃ v0_ : Value, e = .returned (v0_) ∧ Kd.R k33 33 w' w.heap.size (fun _ => True) v0_ r ∧ Below w.heap.size w w' := (laws_toExprS_group.both k).1
theorem laws_toExpr.calls (k : Nat) : ∀ (a0_0 : Int) (a0_1 : Int) (a0_2 : ByteArray) (A0_3 : Option Addr) (c0_3 : Nat) (l0_3 : List (S24)) (r1 : Int) (r2 : Int) (r3 : ByteArray) (r4 : List (S33)) (w : World) (hr0_3 : Kd.C k24 w A0_3 l0_3.length l0_3) (hc0_3 : l0_3.length ≤ c0_3) (h : laws_toExpr.f k a0_0 a0_1 a0_2 l0_3 = some (r1, r2, r3, r4)),
    Calls Try.prog 30 #[.agg #[.int .i64 a0_0, .int .i64 a0_1, .string a0_2, .slice A0_3 l0_3.length c0_3]] w fun e w' => ∃ v3_ : Value, e = .returned (.agg #[.int .i64 r1, .int .i64 r2, .string r3, v3_]) ∧ Kd.R k33 33 w' w.heap.size (fun _ => True) v3_ r4 ∧ Below w.heap.size w w' := (laws_toExprS_group.both k).2

/-! ### laws_toGoto: function 31 -/
def laws_toGoto.f (a0_0 : ByteArray) (a0_1 : ByteArray) (a0_2 : ByteArray) : Option (ByteArray × ByteArray × ByteArray) := some (a0_0, a0_1, a0_2)
set_option maxHeartbeats 8000000 in
set_option maxRecDepth 100000 in
theorem laws_toGoto.calls (a0_0 : ByteArray) (a0_1 : ByteArray) (a0_2 : ByteArray) (r1 : ByteArray) (r2 : ByteArray) (r3 : ByteArray) (w : World) (h : laws_toGoto.f a0_0 a0_1 a0_2 = some (r1, r2, r3)) :
    Calls Try.prog 31 #[.agg #[.string a0_0, .string a0_1, .string a0_2]] w fun e w' => e = .returned (.agg #[.string r1, .string r2, .string r3]) ∧ Below w.heap.size w w' := by
  have hu26 := Try.underlying26
  have hu34 := Try.underlying34
  have HB := Aside0.mk (Below.refl w.heap.size w)
  have H : (some (a0_0, a0_1, a0_2)) = some (r1, r2, r3) := h
  clear h
  simp only [Option.some.injEq, Prod.mk.injEq] at H
  obtain ⟨rfl, rfl, rfl⟩ := H
  go_enter Try.func31, Try.ntmps31
  go_wp2_with (first | ((with_reducible refine gate_dst (N := 1) rfl ?_); refine box_event ?hg (N := 1) ?hd (cs := #[.string a0_0, .string a0_1, .string a0_2]) (t := 26) ?hr ?_; (case hd => rfl); (case hg => rfl); (case hr => first | (go_simp; done) | (go_simp; rfl)); intro gb135 hg w2 hbox hb; have n0_ := Aside0.mk (below_step (by repeat (first | (with_reducible first | exact HB.out | apply below_alloc | apply pw_below_drewN | apply below_drew1) | exact HB.out)) hb); have n1_ := Aside0.mk (hbox); have n2_ := Aside0.mk ((by rw [hg]; exact (below_size (by repeat (first | (with_reducible first | exact HB.out | apply below_alloc | apply pw_below_drewN | apply below_drew1) | exact HB.out))) : w.heap.size ≤ gb135)); have n3_ := Aside0.mk ((by rw [hg]; exact (below_size (by repeat (first | (with_reducible first | exact HB.out | apply below_alloc | apply pw_below_drewN | apply below_drew1) | exact HB.out))) : w.heap.size ≤ gb135)); clear HB; have HB := n0_; have BK135 := n1_; have GW135 := n2_; have GE135 := n3_; clear n0_ n1_ n2_ n3_; clear hb hbox hg) | ((with_reducible refine gate_dst (N := 2) rfl ?_); refine box_event ?hg (N := 2) ?hd (cs := #[.string (⟨#[]⟩ : ByteArray), .string (⟨#[]⟩ : ByteArray), .string (⟨#[]⟩ : ByteArray)]) (t := 34) ?hr ?_; (case hd => rfl); (case hg => rfl); (case hr => first | (go_simp; done) | (go_simp; rfl)); intro gb136 hg w3 hbox hb; have n0_ := Aside0.mk (blk_below (g := gb135) (o := .cells #[.string a0_0, .string a0_1, .string a0_2] 26 (0, 0)) (by (with_reducible repeat (first | refine blk_drewN ?_ _ | refine blk_drew ?_ | refine blk_alloc ?_ _)); exact BK135.out) hb); have n1_ := Aside0.mk (below_step (by repeat (first | (with_reducible first | exact HB.out | apply below_alloc | apply pw_below_drewN | apply below_drew1 | refine below_set ?_ GE135.out) | exact HB.out)) hb); have n2_ := Aside0.mk (hbox); have n3_ := Aside0.mk ((by rw [hg]; exact (below_size (by repeat (first | (with_reducible first | exact HB.out | apply below_alloc | apply pw_below_drewN | apply below_drew1 | refine below_set ?_ GE135.out) | exact HB.out))) : w.heap.size ≤ gb136)); have n4_ := Aside0.mk ((by rw [hg]; exact (below_size (by repeat (first | (with_reducible first | exact HB.out | apply below_alloc | apply pw_below_drewN | apply below_drew1 | refine below_set ?_ GE135.out) | exact HB.out))) : w.heap.size ≤ gb136)); have n5_ := Aside0.mk ((by rw [hg]; exact Nat.ne_of_lt (blk_lt (g := gb135) (o := .cells #[.string a0_0, .string a0_1, .string a0_2] 26 (0, 0)) (by (with_reducible repeat (first | refine blk_drewN ?_ _ | refine blk_drew ?_ | refine blk_alloc ?_ _)); exact BK135.out)) : gb135 ≠ gb136)); have n6_ := Aside0.mk ((by rw [hg]; exact Nat.ne_of_gt (blk_lt (g := gb135) (o := .cells #[.string a0_0, .string a0_1, .string a0_2] 26 (0, 0)) (by (with_reducible repeat (first | refine blk_drewN ?_ _ | refine blk_drew ?_ | refine blk_alloc ?_ _)); exact BK135.out)) : gb136 ≠ gb135)); clear BK135; clear HB; have BK135 := n0_; have HB := n1_; have BK136 := n2_; have GW136 := n3_; have GE136 := n4_; have NB135_136 := n5_; have NB136_135 := n6_; clear n0_ n1_ n2_ n3_ n4_ n5_ n6_; clear hb hbox hg) | ((with_reducible refine gate_dst (N := 3) rfl ?_); refine box_event ?hg (N := 3) ?hd (cs := #[.string (⟨#[]⟩ : ByteArray), .string (⟨#[]⟩ : ByteArray), .string (⟨#[]⟩ : ByteArray)]) (t := 34) ?hr ?_; (case hd => rfl); (case hg => rfl); (case hr => first | (go_simp; done) | (go_simp; rfl)); intro gb137 hg w4 hbox hb; have n0_ := Aside0.mk (blk_below (g := gb135) (o := .cells #[.string a0_0, .string a0_1, .string a0_2] 26 (0, 0)) (by (with_reducible repeat (first | refine blk_drewN ?_ _ | refine blk_drew ?_ | refine blk_alloc ?_ _)); exact BK135.out) hb); have n1_ := Aside0.mk (blk_below (g := gb136) (o := .cells #[.string (⟨#[]⟩ : ByteArray), .string (⟨#[]⟩ : ByteArray), .string (⟨#[]⟩ : ByteArray)] 34 (0, 0)) (by (with_reducible repeat (first | refine blk_drewN ?_ _ | refine blk_drew ?_ | refine blk_alloc ?_ _)); exact BK136.out) hb); have n2_ := Aside0.mk (below_step (by repeat (first | (with_reducible first | exact HB.out | apply below_alloc | apply pw_below_drewN | apply below_drew1 | refine below_set ?_ GE135.out | refine below_set ?_ GE136.out) | exact HB.out)) hb); have n3_ := Aside0.mk (hbox); have n4_ := Aside0.mk ((by rw [hg]; exact (below_size (by repeat (first | (with_reducible first | exact HB.out | apply below_alloc | apply pw_below_drewN | apply below_drew1 | refine below_set ?_ GE135.out | refine below_set ?_ GE136.out) | exact HB.out))) : w.heap.size ≤ gb137)); have n5_ := Aside0.mk ((by rw [hg]; exact (below_size (by repeat (first | (with_reducible first | exact HB.out | apply below_alloc | apply pw_below_drewN | apply below_drew1 | refine below_set ?_ GE135.out | refine below_set ?_ GE136.out) | exact HB.out))) : w.heap.size ≤ gb137)); have n6_ := Aside0.mk ((by rw [hg]; exact Nat.ne_of_lt (blk_lt (g := gb135) (o := .cells #[.string a0_0, .string a0_1, .string a0_2] 26 (0, 0)) (by (with_reducible repeat (first | refine blk_drewN ?_ _ | refine blk_drew ?_ | refine blk_alloc ?_ _)); exact BK135.out)) : gb135 ≠ gb137)); have n7_ := Aside0.mk ((by rw [hg]; exact Nat.ne_of_gt (blk_lt (g := gb135) (o := .cells #[.string a0_0, .string a0_1, .string a0_2] 26 (0, 0)) (by (with_reducible repeat (first | refine blk_drewN ?_ _ | refine blk_drew ?_ | refine blk_alloc ?_ _)); exact BK135.out)) : gb137 ≠ gb135)); have n8_ := Aside0.mk ((by rw [hg]; exact Nat.ne_of_lt (blk_lt (g := gb136) (o := .cells #[.string (⟨#[]⟩ : ByteArray), .string (⟨#[]⟩ : ByteArray), .string (⟨#[]⟩ : ByteArray)] 34 (0, 0)) (by (with_reducible repeat (first | refine blk_drewN ?_ _ | refine blk_drew ?_ | refine blk_alloc ?_ _)); exact BK136.out)) : gb136 ≠ gb137)); have n9_ := Aside0.mk ((by rw [hg]; exact Nat.ne_of_gt (blk_lt (g := gb136) (o := .cells #[.string (⟨#[]⟩ : ByteArray), .string (⟨#[]⟩ : ByteArray), .string (⟨#[]⟩ : ByteArray)] 34 (0, 0)) (by (with_reducible repeat (first | refine blk_drewN ?_ _ | refine blk_drew ?_ | refine blk_alloc ?_ _)); exact BK136.out)) : gb137 ≠ gb136)); clear BK135; clear BK136; clear HB; have BK135 := n0_; have BK136 := n1_; have HB := n2_; have BK137 := n3_; have GW137 := n4_; have GE137 := n5_; have NB135_137 := n6_; have NB137_135 := n7_; have NB136_137 := n8_; have NB137_136 := n9_; clear n0_ n1_ n2_ n3_ n4_ n5_ n6_ n7_ n8_ n9_; clear hb hbox hg; have hnb5 := NB135_136.out; have hnc5 := NB136_135.out; have hnb6 := NB135_137.out; have hnc6 := NB137_135.out; have cz_ := cells3_ (w := w4) (g := gb135) BK135.out; obtain ⟨hcz7_0, hcz7_1, hcz7_2⟩ := cz_; have hfz7 := blk_frozen BK135.out; have hnb8 := NB137_136.out; have hnc8 := NB136_137.out; have cz_ := cells3_ (w := w4) (g := gb137) BK137.out; obtain ⟨hcz9_0, hcz9_1, hcz9_2⟩ := cz_; have hfz9 := blk_frozen BK137.out; have cz_ := cells3_ (w := w4) (g := gb136) BK136.out; obtain ⟨hcz10_0, hcz10_1, hcz10_2⟩ := cz_; have hfz10 := blk_frozen BK136.out))
  refine bodyPost_ret (results_cell_row rfl _ _ gb136 34 #[.string a0_0, .string a0_1, .string a0_2] (0, 0) _ rfl (by (with_reducible repeat (first | refine blk_drewN ?_ _ | refine blk_drew ?_ | refine blk_alloc ?_ _)); refine blk_put (cs := #[.string a0_0, .string a0_1, .string (⟨#[]⟩ : ByteArray)]) ?_ 2 _ rfl; (with_reducible repeat (first | refine blk_drewN ?_ _ | refine blk_drew ?_ | refine blk_alloc ?_ _)); refine blk_put (cs := #[.string a0_0, .string (⟨#[]⟩ : ByteArray), .string (⟨#[]⟩ : ByteArray)]) ?_ 1 _ rfl; (with_reducible repeat (first | refine blk_drewN ?_ _ | refine blk_drew ?_ | refine blk_alloc ?_ _)); refine blk_put (cs := #[.string (⟨#[]⟩ : ByteArray), .string (⟨#[]⟩ : ByteArray), .string (⟨#[]⟩ : ByteArray)]) ?_ 0 _ rfl; (with_reducible repeat (first | refine blk_drewN ?_ _ | refine blk_drew ?_ | refine blk_alloc ?_ _)); refine blk_far ?_ NB136_137.out _; (with_reducible repeat (first | refine blk_drewN ?_ _ | refine blk_drew ?_ | refine blk_alloc ?_ _)); refine blk_far ?_ NB136_137.out _; (with_reducible repeat (first | refine blk_drewN ?_ _ | refine blk_drew ?_ | refine blk_alloc ?_ _)); refine blk_far ?_ NB136_137.out _; (with_reducible repeat (first | refine blk_drewN ?_ _ | refine blk_drew ?_ | refine blk_alloc ?_ _)); exact BK136.out) Try.underlying34 rfl (by kernel_rfl)) rfl ?_
  exact ⟨by first | rfl | (simp [errW_none, errW_some] <;> rfl) | (simp [*, errW_none, errW_some] <;> rfl), by repeat (first | (with_reducible first | exact HB.out | apply below_alloc | apply pw_below_drewN | apply below_drew1 | refine below_set ?_ GE135.out | refine below_set ?_ GE136.out | refine below_set ?_ GE137.out) | exact HB.out)⟩

/-! ### laws_toStatement: function 9, by hand -/
-- NEEDS laws_toExpr
-- NEEDS laws_toGoto
-- IMPORT Derived.Test.YtocfepcgpelhdaaRowLaw
def laws_toStatement.f (k : Nat) (a0_0 : ByteArray) (a0_1 : Bool) (a0_2 : Int) (a0_3 : Int) (a0_4 : ByteArray) (l0_5 : List S24) (a0_6 : Bool) (a0_7 : Int) (a0_8 : Int) (a0_9 : ByteArray) (l0_10 : List S24) (a0_11 : Bool) (a0_12 : Int) (a0_13 : Int) (a0_14 : ByteArray) (l0_15 : List S24) (a0_16 : ByteArray) (a0_17 : ByteArray) (a0_18 : ByteArray) : Option (ByteArray × Bool × Int × Int × ByteArray × (List S33) × Bool × Int × Int × ByteArray × (List S33) × Bool × Int × Int × ByteArray × (List S33) × ByteArray × ByteArray × ByteArray) := (laws_toExpr.f k a0_2 a0_3 a0_4 l0_5).bind fun b1 => ((laws_toExpr.f k a0_7 a0_8 a0_9 l0_10).bind fun b2 => ((laws_toExpr.f k a0_12 a0_13 a0_14 l0_15).bind fun b3 => ((laws_toGoto.f a0_16 a0_17 a0_18).bind fun b4 => (some (a0_0, a0_1, b1.1, b1.2.1, b1.2.2.1, b1.2.2.2, a0_6, b2.1, b2.2.1, b2.2.2.1, b2.2.2.2, a0_11, b3.1, b3.2.1, b3.2.2.1, b3.2.2.2, b4.1, b4.2.1, b4.2.2)))))
theorem laws_toStatement.mono : ∀ a0 a1 a2 a3 a4 a5 a6 a7 a8 a9 a10 a11 a12 a13 a14 a15 a16 a17 a18 k, LeO (laws_toStatement.f k a0 a1 a2 a3 a4 a5 a6 a7 a8 a9 a10 a11 a12 a13 a14 a15 a16 a17 a18) (laws_toStatement.f (k + 1) a0 a1 a2 a3 a4 a5 a6 a7 a8 a9 a10 a11 a12 a13 a14 a15 a16 a17 a18) := by
  intro a0 a1 a2 a3 a4 a5 a6 a7 a8 a9 a10 a11 a12 a13 a14 a15 a16 a17 a18 k
  unfold laws_toStatement.f
  repeat' first
  | (with_reducible exact laws_toExpr.mono _ _ _ _ _)
  | (with_reducible exact LeO.refl _)
  | (with_reducible refine LeO.bind ?_ (fun _ => ?_))
set_option maxHeartbeats 8000000 in
set_option maxRecDepth 100000 in
theorem laws_toStatement.calls (k : Nat) (a0_0 : ByteArray) (a0_1 : Bool) (a0_2 : Int) (a0_3 : Int) (a0_4 : ByteArray) (A0_5 : Option Addr) (c0_5 : Nat) (l0_5 : List S24) (a0_6 : Bool) (a0_7 : Int) (a0_8 : Int) (a0_9 : ByteArray) (A0_10 : Option Addr) (c0_10 : Nat) (l0_10 : List S24) (a0_11 : Bool) (a0_12 : Int) (a0_13 : Int) (a0_14 : ByteArray) (A0_15 : Option Addr) (c0_15 : Nat) (l0_15 : List S24) (a0_16 : ByteArray) (a0_17 : ByteArray) (a0_18 : ByteArray) (r1 : ByteArray) (r2 : Bool) (r3 : Int) (r4 : Int) (r5 : ByteArray) (r6 : List S33) (r7 : Bool) (r8 : Int) (r9 : Int) (r10 : ByteArray) (r11 : List S33) (r12 : Bool) (r13 : Int) (r14 : Int) (r15 : ByteArray) (r16 : List S33) (r17 : ByteArray) (r18 : ByteArray) (r19 : ByteArray) (w : World) (hr0_5 : Kd.C k24 w A0_5 l0_5.length l0_5) (hc0_5 : l0_5.length ≤ c0_5) (hr0_10 : Kd.C k24 w A0_10 l0_10.length l0_10) (hc0_10 : l0_10.length ≤ c0_10) (hr0_15 : Kd.C k24 w A0_15 l0_15.length l0_15) (hc0_15 : l0_15.length ≤ c0_15) (h : laws_toStatement.f k a0_0 a0_1 a0_2 a0_3 a0_4 l0_5 a0_6 a0_7 a0_8 a0_9 l0_10 a0_11 a0_12 a0_13 a0_14 l0_15 a0_16 a0_17 a0_18 = some (r1, r2, r3, r4, r5, r6, r7, r8, r9, r10, r11, r12, r13, r14, r15, r16, r17, r18, r19)) :
    Calls Try.prog 9 #[.agg #[.string a0_0, .bool a0_1, .int .i64 a0_2, .int .i64 a0_3, .string a0_4, .slice A0_5 l0_5.length c0_5, .bool a0_6, .int .i64 a0_7, .int .i64 a0_8, .string a0_9, .slice A0_10 l0_10.length c0_10, .bool a0_11, .int .i64 a0_12, .int .i64 a0_13, .string a0_14, .slice A0_15 l0_15.length c0_15, .string a0_16, .string a0_17, .string a0_18]] w fun e w' => ∃ v5_ v10_ v15_ : Value, e = .returned (.agg #[.string r1, .bool r2, .int .i64 r3, .int .i64 r4, .string r5, v5_, .bool r7, .int .i64 r8, .int .i64 r9, .string r10, v10_, .bool r12, .int .i64 r13, .int .i64 r14, .string r15, v15_, .string r17, .string r18, .string r19]) ∧ Kd.R k33 33 w' w.heap.size (fun k_ => some k_ ≠ (v10_ : Value).ownBlock ∧ some k_ ≠ (v15_ : Value).ownBlock) v5_ r6 ∧ Kd.R k33 33 w' w.heap.size (fun k_ => some k_ ≠ (v5_ : Value).ownBlock ∧ some k_ ≠ (v15_ : Value).ownBlock) v10_ r11 ∧ Kd.R k33 33 w' w.heap.size (fun k_ => some k_ ≠ (v5_ : Value).ownBlock ∧ some k_ ≠ (v10_ : Value).ownBlock) v15_ r16 ∧ Below w.heap.size w w' := by
  have hus := Try.underlying9
  have hub := Try.underlying4
  have huE1 := Try.underlying24
  have huG1 := Try.underlying26
  have huS1 := Try.underlying28
  have huS2 := Try.underlying36
  have huE2 := Try.underlying33
  have huG2 := Try.underlying34
  have HR0_5 := Aside0.mk hr0_5
  have HC0_5 := Aside0.mk hc0_5
  clear hr0_5 hc0_5
  have HR0_10 := Aside0.mk hr0_10
  have HC0_10 := Aside0.mk hc0_10
  clear hr0_10 hc0_10
  have HR0_15 := Aside0.mk hr0_15
  have HC0_15 := Aside0.mk hc0_15
  clear hr0_15 hc0_15
  have HB := Aside0.mk (Below.refl w.heap.size w)
  unfold laws_toStatement.f at h
  replace h := Option.bind_eq_some_iff.mp h
  obtain ⟨⟨t3, t4, t5, t6⟩, q2_, h⟩ := h
  have Q2 := Aside0.mk q2_
  clear q2_
  replace h := Option.bind_eq_some_iff.mp h
  obtain ⟨⟨t8, t9, t10, t11⟩, q7_, h⟩ := h
  have Q7 := Aside0.mk q7_
  clear q7_
  replace h := Option.bind_eq_some_iff.mp h
  obtain ⟨⟨t13, t14, t15, t16⟩, q12_, h⟩ := h
  have Q12 := Aside0.mk q12_
  clear q12_
  replace h := Option.bind_eq_some_iff.mp h
  obtain ⟨⟨t17, t18, t19⟩, q16_, h⟩ := h
  have Q16 := Aside0.mk q16_
  clear q16_
  simp only [Option.some.injEq, Prod.mk.injEq] at h
  obtain ⟨rfl, rfl, rfl, rfl, rfl, rfl, rfl, rfl, rfl, rfl, rfl, rfl, rfl, rfl, rfl, rfl, rfl, rfl, rfl⟩ := h
  go_enter Try.func9, Try.ntmps9
  go_wp2_with (first | ((with_reducible refine gate_dst (N := 1) rfl ?_); refine box_event ?hg (N := 1) ?hd (cs := #[.string a0_0, .bool a0_1, .int .i64 a0_2, .int .i64 a0_3, .string a0_4, .slice A0_5 l0_5.length c0_5, .bool a0_6, .int .i64 a0_7, .int .i64 a0_8, .string a0_9, .slice A0_10 l0_10.length c0_10, .bool a0_11, .int .i64 a0_12, .int .i64 a0_13, .string a0_14, .slice A0_15 l0_15.length c0_15, .string a0_16, .string a0_17, .string a0_18]) (t := 28) ?hr ?_; (case hd => rfl); (case hg => rfl); (case hr => first | (go_simp; done) | (go_simp; rfl)); intro g0 hg wb0 hbox hb; have GE0 := Aside0.mk ((by rw [hg]; exact HB.out.size) : w.heap.size ≤ g0); have n0_ := Aside0.mk (below_step HB.out hb); clear HB; have HB := n0_; clear n0_; have BK0 := Aside0.mk hbox; clear hbox hg hb; (try simp only [Act.put, List.setIfInBounds_toArray, List.set_cons_zero, List.set_cons_succ])) | ((with_reducible refine gate_dst (N := 2) rfl ?_); refine box_event ?hg (N := 2) ?hd (cs := #[.string (⟨#[]⟩ : ByteArray), .bool false, .int .i64 0, .int .i64 0, .string (⟨#[]⟩ : ByteArray), .slice none 0 0, .bool false, .int .i64 0, .int .i64 0, .string (⟨#[]⟩ : ByteArray), .slice none 0 0, .bool false, .int .i64 0, .int .i64 0, .string (⟨#[]⟩ : ByteArray), .slice none 0 0, .string (⟨#[]⟩ : ByteArray), .string (⟨#[]⟩ : ByteArray), .string (⟨#[]⟩ : ByteArray)]) (t := 36) ?hr ?_; (case hd => rfl); (case hg => rfl); (case hr => first | (go_simp; done) | (go_simp; rfl)); intro g1 hg wb1 hbox hb; have GE1 := Aside0.mk ((by rw [hg]; exact HB.out.size) : w.heap.size ≤ g1); have NB0_1 := Aside0.mk ((by rw [hg]; exact Nat.ne_of_lt (blk_lt BK0.out)) : g0 ≠ g1); have NB1_0 := Aside0.mk (Ne.symm NB0_1.out); have n0_ := Aside0.mk (below_step HB.out hb); have n1_ := Aside0.mk (blk_below BK0.out hb); clear HB BK0; have HB := n0_; have BK0 := n1_; clear n0_ n1_; have BK1 := Aside0.mk hbox; clear hbox hg hb; (try simp only [Act.put, List.setIfInBounds_toArray, List.set_cons_zero, List.set_cons_succ])) | ((with_reducible refine gate_dst (N := 3) rfl ?_); refine box_event ?hg (N := 3) ?hd (cs := #[.string (⟨#[]⟩ : ByteArray), .bool false, .int .i64 0, .int .i64 0, .string (⟨#[]⟩ : ByteArray), .slice none 0 0, .bool false, .int .i64 0, .int .i64 0, .string (⟨#[]⟩ : ByteArray), .slice none 0 0, .bool false, .int .i64 0, .int .i64 0, .string (⟨#[]⟩ : ByteArray), .slice none 0 0, .string (⟨#[]⟩ : ByteArray), .string (⟨#[]⟩ : ByteArray), .string (⟨#[]⟩ : ByteArray)]) (t := 36) ?hr ?_; (case hd => rfl); (case hg => rfl); (case hr => first | (go_simp; done) | (go_simp; rfl)); intro g2 hg wb2 hbox hb; have GE2 := Aside0.mk ((by rw [hg]; exact HB.out.size) : w.heap.size ≤ g2); have NB0_2 := Aside0.mk ((by rw [hg]; exact Nat.ne_of_lt (blk_lt BK0.out)) : g0 ≠ g2); have NB2_0 := Aside0.mk (Ne.symm NB0_2.out); have NB1_2 := Aside0.mk ((by rw [hg]; exact Nat.ne_of_lt (blk_lt BK1.out)) : g1 ≠ g2); have NB2_1 := Aside0.mk (Ne.symm NB1_2.out); have n0_ := Aside0.mk (below_step HB.out hb); have n1_ := Aside0.mk (blk_below BK0.out hb); have n2_ := Aside0.mk (blk_below BK1.out hb); clear HB BK0 BK1; have HB := n0_; have BK0 := n1_; have BK1 := n2_; clear n0_ n1_ n2_; have BK2 := Aside0.mk hbox; clear hbox hg hb; (try simp only [Act.put, List.setIfInBounds_toArray, List.set_cons_zero, List.set_cons_succ])) | ((with_reducible refine gate_dst (N := 5) rfl ?_); refine Go.Proofs.Ytocfepcgpelhdaa.RowLaw.cell_event rfl 9 _ rfl g0 0 rfl 28 _ _ (.string a0_0) BK0.out hus rfl rfl ?_; (try simp only [Act.put, List.setIfInBounds_toArray, List.set_cons_zero, List.set_cons_succ])) | ((with_reducible refine gate_store (t := 9) (p := 6) rfl ?_); refine Go.Proofs.Ytocfepcgpelhdaa.RowLaw.put_event rfl 9 _ _ rfl g2 0 (.string a0_0) rfl rfl [.string a0_0] rfl 36 #[.string (⟨#[]⟩ : ByteArray), .bool false, .int .i64 0, .int .i64 0, .string (⟨#[]⟩ : ByteArray), .slice none 0 0, .bool false, .int .i64 0, .int .i64 0, .string (⟨#[]⟩ : ByteArray), .slice none 0 0, .bool false, .int .i64 0, .int .i64 0, .string (⟨#[]⟩ : ByteArray), .slice none 0 0, .string (⟨#[]⟩ : ByteArray), .string (⟨#[]⟩ : ByteArray), .string (⟨#[]⟩ : ByteArray)] #[.string a0_0, .bool false, .int .i64 0, .int .i64 0, .string (⟨#[]⟩ : ByteArray), .slice none 0 0, .bool false, .int .i64 0, .int .i64 0, .string (⟨#[]⟩ : ByteArray), .slice none 0 0, .bool false, .int .i64 0, .int .i64 0, .string (⟨#[]⟩ : ByteArray), .slice none 0 0, .string (⟨#[]⟩ : ByteArray), .string (⟨#[]⟩ : ByteArray), .string (⟨#[]⟩ : ByteArray)] BK2.out (by kernel_rfl) (Nat.le_of_ble_eq_true rfl) rfl rfl ?_; intro wp6 hk hoth hbel hz; have n0_ := Aside0.mk (hbel _ _ HB.out GE2.out); have n1_ := Aside0.mk ((hoth g0 NB0_2.out).trans BK0.out); have n2_ := Aside0.mk ((hoth g1 NB1_2.out).trans BK1.out); have n3_ := Aside0.mk (hk); clear HB BK0 BK1 BK2; have HB := n0_; have BK0 := n1_; have BK1 := n2_; have BK2 := n3_; clear n0_ n1_ n2_ n3_; clear hk hoth hbel hz; (try simp only [Act.put, List.setIfInBounds_toArray, List.set_cons_zero, List.set_cons_succ])) | ((with_reducible refine gate_dst (N := 8) rfl ?_); refine Go.Proofs.Ytocfepcgpelhdaa.RowLaw.cell_event rfl 4 _ rfl g0 1 rfl 28 _ _ (.bool a0_1) BK0.out hub rfl rfl ?_; (try simp only [Act.put, List.setIfInBounds_toArray, List.set_cons_zero, List.set_cons_succ])) | ((with_reducible refine gate_store (t := 4) (p := 9) rfl ?_); refine Go.Proofs.Ytocfepcgpelhdaa.RowLaw.put_event rfl 4 _ _ rfl g2 1 (.bool a0_1) rfl rfl [.bool a0_1] rfl 36 #[.string a0_0, .bool false, .int .i64 0, .int .i64 0, .string (⟨#[]⟩ : ByteArray), .slice none 0 0, .bool false, .int .i64 0, .int .i64 0, .string (⟨#[]⟩ : ByteArray), .slice none 0 0, .bool false, .int .i64 0, .int .i64 0, .string (⟨#[]⟩ : ByteArray), .slice none 0 0, .string (⟨#[]⟩ : ByteArray), .string (⟨#[]⟩ : ByteArray), .string (⟨#[]⟩ : ByteArray)] #[.string a0_0, .bool a0_1, .int .i64 0, .int .i64 0, .string (⟨#[]⟩ : ByteArray), .slice none 0 0, .bool false, .int .i64 0, .int .i64 0, .string (⟨#[]⟩ : ByteArray), .slice none 0 0, .bool false, .int .i64 0, .int .i64 0, .string (⟨#[]⟩ : ByteArray), .slice none 0 0, .string (⟨#[]⟩ : ByteArray), .string (⟨#[]⟩ : ByteArray), .string (⟨#[]⟩ : ByteArray)] BK2.out (by kernel_rfl) (Nat.le_of_ble_eq_true rfl) rfl rfl ?_; intro wp9 hk hoth hbel hz; have n0_ := Aside0.mk (hbel _ _ HB.out GE2.out); have n1_ := Aside0.mk ((hoth g0 NB0_2.out).trans BK0.out); have n2_ := Aside0.mk ((hoth g1 NB1_2.out).trans BK1.out); have n3_ := Aside0.mk (hk); clear HB BK0 BK1 BK2; have HB := n0_; have BK0 := n1_; have BK1 := n2_; have BK2 := n3_; clear n0_ n1_ n2_ n3_; clear hk hoth hbel hz; (try simp only [Act.put, List.setIfInBounds_toArray, List.set_cons_zero, List.set_cons_succ])) | ((with_reducible refine gate_dst (N := 11) rfl ?_); refine Go.Proofs.Ytocfepcgpelhdaa.RowLaw.part_event rfl 24 _ rfl g0 2 rfl 28 _ _ [.int .i64 a0_2, .int .i64 a0_3, .string a0_4, .slice A0_5 l0_5.length c0_5] BK0.out huE1 rfl (by kernel_rfl) (Go.Proofs.Ytocfepcgpelhdaa.RowLaw.part_of rfl) ?_; (try simp only [Act.put, List.setIfInBounds_toArray, List.set_cons_zero, List.set_cons_succ])) | ((with_reducible refine gate_callee (f := 30) rfl ?_); refine goesL_ (some 12) rfl rfl Try.func30 (by kernel_rfl) rfl #[.agg #[.int .i64 a0_2, .int .i64 a0_3, .string a0_4, .slice A0_5 l0_5.length c0_5]] rfl (by (try simp only [List.map_toArray, List.map_cons, List.map_nil]); first | done | rfl) ?_; (with_reducible refine (laws_toExpr.calls k a0_2 a0_3 a0_4 _ _ l0_5 t3 t4 t5 t6 _ ?side1 ?side2 Q2.out).mono ?_); (case side1 => exact Kd.C_below HR0_5.out HB.out); (case side2 => exact HC0_5.out); rintro e wc5 ⟨v5_, rfl, ho0, hb⟩; refine ⟨_, rfl, ?_⟩; obtain ⟨Ao5, co5, rfl⟩ := Kd.R_slice ho0; have LT1_5 := Aside0.mk (blk_lt BK1.out); have LT2_5 := Aside0.mk (blk_lt BK2.out); have LO5 := Aside0.mk HB.out.size; have n0_ := Aside0.mk (below_step HB.out hb); have n1_ := Aside0.mk (blk_below BK0.out hb); have n2_ := Aside0.mk (blk_below BK1.out hb); have n3_ := Aside0.mk (blk_below BK2.out hb); clear HB BK0 BK1 BK2; have HB := n0_; have BK0 := n1_; have BK1 := n2_; have BK2 := n3_; clear n0_ n1_ n2_ n3_; have IR5 := Aside0.mk (Go.Proofs.Ytocfepcgpelhdaa.RowLaw.IR.of ho0); have SZ5 := Aside0.mk (Nat.le_refl wc5.heap.size); clear ho0 hb; (try simp only [Act.put, List.setIfInBounds_toArray, List.set_cons_zero, List.set_cons_succ])) | ((with_reducible refine gate_store (t := 33) (p := 13) rfl ?_); refine Go.Proofs.Ytocfepcgpelhdaa.RowLaw.put_event rfl 33 _ _ rfl g2 2 (.agg #[.int .i64 t3, .int .i64 t4, .string t5, .slice Ao5 t6.length co5]) rfl rfl [.int .i64 t3, .int .i64 t4, .string t5, .slice Ao5 t6.length co5] rfl 36 #[.string a0_0, .bool a0_1, .int .i64 0, .int .i64 0, .string (⟨#[]⟩ : ByteArray), .slice none 0 0, .bool false, .int .i64 0, .int .i64 0, .string (⟨#[]⟩ : ByteArray), .slice none 0 0, .bool false, .int .i64 0, .int .i64 0, .string (⟨#[]⟩ : ByteArray), .slice none 0 0, .string (⟨#[]⟩ : ByteArray), .string (⟨#[]⟩ : ByteArray), .string (⟨#[]⟩ : ByteArray)] #[.string a0_0, .bool a0_1, .int .i64 t3, .int .i64 t4, .string t5, .slice Ao5 t6.length co5, .bool false, .int .i64 0, .int .i64 0, .string (⟨#[]⟩ : ByteArray), .slice none 0 0, .bool false, .int .i64 0, .int .i64 0, .string (⟨#[]⟩ : ByteArray), .slice none 0 0, .string (⟨#[]⟩ : ByteArray), .string (⟨#[]⟩ : ByteArray), .string (⟨#[]⟩ : ByteArray)] BK2.out (by kernel_rfl) (Nat.le_of_ble_eq_true rfl) rfl rfl ?_; intro wp13 hk hoth hbel hz; have n0_ := Aside0.mk (hbel _ _ HB.out GE2.out); have n1_ := Aside0.mk ((hoth g0 NB0_2.out).trans BK0.out); have n2_ := Aside0.mk ((hoth g1 NB1_2.out).trans BK1.out); have n3_ := Aside0.mk (hk); have n4_ := Aside0.mk (Go.Proofs.Ytocfepcgpelhdaa.RowLaw.IR.put IR5.out hoth LT2_5.out); have n5_ := Aside0.mk (Nat.le_trans SZ5.out (Nat.le_of_eq hz.symm)); clear HB BK0 BK1 BK2 IR5 SZ5; have HB := n0_; have BK0 := n1_; have BK1 := n2_; have BK2 := n3_; have IR5 := n4_; have SZ5 := n5_; clear n0_ n1_ n2_ n3_ n4_ n5_; clear hk hoth hbel hz; (try simp only [Act.put, List.setIfInBounds_toArray, List.set_cons_zero, List.set_cons_succ])) | ((with_reducible refine gate_dst (N := 15) rfl ?_); refine Go.Proofs.Ytocfepcgpelhdaa.RowLaw.cell_event rfl 4 _ rfl g0 6 rfl 28 _ _ (.bool a0_6) BK0.out hub rfl rfl ?_; (try simp only [Act.put, List.setIfInBounds_toArray, List.set_cons_zero, List.set_cons_succ])) | ((with_reducible refine gate_store (t := 4) (p := 16) rfl ?_); refine Go.Proofs.Ytocfepcgpelhdaa.RowLaw.put_event rfl 4 _ _ rfl g2 6 (.bool a0_6) rfl rfl [.bool a0_6] rfl 36 #[.string a0_0, .bool a0_1, .int .i64 t3, .int .i64 t4, .string t5, .slice Ao5 t6.length co5, .bool false, .int .i64 0, .int .i64 0, .string (⟨#[]⟩ : ByteArray), .slice none 0 0, .bool false, .int .i64 0, .int .i64 0, .string (⟨#[]⟩ : ByteArray), .slice none 0 0, .string (⟨#[]⟩ : ByteArray), .string (⟨#[]⟩ : ByteArray), .string (⟨#[]⟩ : ByteArray)] #[.string a0_0, .bool a0_1, .int .i64 t3, .int .i64 t4, .string t5, .slice Ao5 t6.length co5, .bool a0_6, .int .i64 0, .int .i64 0, .string (⟨#[]⟩ : ByteArray), .slice none 0 0, .bool false, .int .i64 0, .int .i64 0, .string (⟨#[]⟩ : ByteArray), .slice none 0 0, .string (⟨#[]⟩ : ByteArray), .string (⟨#[]⟩ : ByteArray), .string (⟨#[]⟩ : ByteArray)] BK2.out (by kernel_rfl) (Nat.le_of_ble_eq_true rfl) rfl rfl ?_; intro wp16 hk hoth hbel hz; have n0_ := Aside0.mk (hbel _ _ HB.out GE2.out); have n1_ := Aside0.mk ((hoth g0 NB0_2.out).trans BK0.out); have n2_ := Aside0.mk ((hoth g1 NB1_2.out).trans BK1.out); have n3_ := Aside0.mk (hk); have n4_ := Aside0.mk (Go.Proofs.Ytocfepcgpelhdaa.RowLaw.IR.put IR5.out hoth LT2_5.out); have n5_ := Aside0.mk (Nat.le_trans SZ5.out (Nat.le_of_eq hz.symm)); clear HB BK0 BK1 BK2 IR5 SZ5; have HB := n0_; have BK0 := n1_; have BK1 := n2_; have BK2 := n3_; have IR5 := n4_; have SZ5 := n5_; clear n0_ n1_ n2_ n3_ n4_ n5_; clear hk hoth hbel hz; (try simp only [Act.put, List.setIfInBounds_toArray, List.set_cons_zero, List.set_cons_succ])) | ((with_reducible refine gate_dst (N := 18) rfl ?_); refine Go.Proofs.Ytocfepcgpelhdaa.RowLaw.part_event rfl 24 _ rfl g0 7 rfl 28 _ _ [.int .i64 a0_7, .int .i64 a0_8, .string a0_9, .slice A0_10 l0_10.length c0_10] BK0.out huE1 rfl (by kernel_rfl) (Go.Proofs.Ytocfepcgpelhdaa.RowLaw.part_of rfl) ?_; (try simp only [Act.put, List.setIfInBounds_toArray, List.set_cons_zero, List.set_cons_succ])) | ((with_reducible refine gate_callee (f := 30) rfl ?_); refine goesL_ (some 19) rfl rfl Try.func30 (by kernel_rfl) rfl #[.agg #[.int .i64 a0_7, .int .i64 a0_8, .string a0_9, .slice A0_10 l0_10.length c0_10]] rfl (by (try simp only [List.map_toArray, List.map_cons, List.map_nil]); first | done | rfl) ?_; (with_reducible refine (laws_toExpr.calls k a0_7 a0_8 a0_9 _ _ l0_10 t8 t9 t10 t11 _ ?side1 ?side2 Q7.out).mono ?_); (case side1 => exact Kd.C_below HR0_10.out HB.out); (case side2 => exact HC0_10.out); rintro e wc10 ⟨v10_, rfl, ho0, hb⟩; refine ⟨_, rfl, ?_⟩; obtain ⟨Ao10, co10, rfl⟩ := Kd.R_slice ho0; have LT1_10 := Aside0.mk (blk_lt BK1.out); have LT2_10 := Aside0.mk (blk_lt BK2.out); have AP5_10 := Aside0.mk SZ5.out; have LO10 := Aside0.mk HB.out.size; have n0_ := Aside0.mk (below_step HB.out hb); have n1_ := Aside0.mk (blk_below BK0.out hb); have n2_ := Aside0.mk (blk_below BK1.out hb); have n3_ := Aside0.mk (blk_below BK2.out hb); have n4_ := Aside0.mk (Go.Proofs.Ytocfepcgpelhdaa.RowLaw.IR.below IR5.out hb); have n5_ := Aside0.mk (Nat.le_trans SZ5.out hb.size); clear HB BK0 BK1 BK2 IR5 SZ5; have HB := n0_; have BK0 := n1_; have BK1 := n2_; have BK2 := n3_; have IR5 := n4_; have SZ5 := n5_; clear n0_ n1_ n2_ n3_ n4_ n5_; have IR10 := Aside0.mk (Go.Proofs.Ytocfepcgpelhdaa.RowLaw.IR.of ho0); have SZ10 := Aside0.mk (Nat.le_refl wc10.heap.size); clear ho0 hb; (try simp only [Act.put, List.setIfInBounds_toArray, List.set_cons_zero, List.set_cons_succ])) | ((with_reducible refine gate_store (t := 33) (p := 20) rfl ?_); refine Go.Proofs.Ytocfepcgpelhdaa.RowLaw.put_event rfl 33 _ _ rfl g2 7 (.agg #[.int .i64 t8, .int .i64 t9, .string t10, .slice Ao10 t11.length co10]) rfl rfl [.int .i64 t8, .int .i64 t9, .string t10, .slice Ao10 t11.length co10] rfl 36 #[.string a0_0, .bool a0_1, .int .i64 t3, .int .i64 t4, .string t5, .slice Ao5 t6.length co5, .bool a0_6, .int .i64 0, .int .i64 0, .string (⟨#[]⟩ : ByteArray), .slice none 0 0, .bool false, .int .i64 0, .int .i64 0, .string (⟨#[]⟩ : ByteArray), .slice none 0 0, .string (⟨#[]⟩ : ByteArray), .string (⟨#[]⟩ : ByteArray), .string (⟨#[]⟩ : ByteArray)] #[.string a0_0, .bool a0_1, .int .i64 t3, .int .i64 t4, .string t5, .slice Ao5 t6.length co5, .bool a0_6, .int .i64 t8, .int .i64 t9, .string t10, .slice Ao10 t11.length co10, .bool false, .int .i64 0, .int .i64 0, .string (⟨#[]⟩ : ByteArray), .slice none 0 0, .string (⟨#[]⟩ : ByteArray), .string (⟨#[]⟩ : ByteArray), .string (⟨#[]⟩ : ByteArray)] BK2.out (by kernel_rfl) (Nat.le_of_ble_eq_true rfl) rfl rfl ?_; intro wp20 hk hoth hbel hz; have n0_ := Aside0.mk (hbel _ _ HB.out GE2.out); have n1_ := Aside0.mk ((hoth g0 NB0_2.out).trans BK0.out); have n2_ := Aside0.mk ((hoth g1 NB1_2.out).trans BK1.out); have n3_ := Aside0.mk (hk); have n4_ := Aside0.mk (Go.Proofs.Ytocfepcgpelhdaa.RowLaw.IR.put IR5.out hoth LT2_5.out); have n5_ := Aside0.mk (Nat.le_trans SZ5.out (Nat.le_of_eq hz.symm)); have n6_ := Aside0.mk (Go.Proofs.Ytocfepcgpelhdaa.RowLaw.IR.put IR10.out hoth LT2_10.out); have n7_ := Aside0.mk (Nat.le_trans SZ10.out (Nat.le_of_eq hz.symm)); clear HB BK0 BK1 BK2 IR5 SZ5 IR10 SZ10; have HB := n0_; have BK0 := n1_; have BK1 := n2_; have BK2 := n3_; have IR5 := n4_; have SZ5 := n5_; have IR10 := n6_; have SZ10 := n7_; clear n0_ n1_ n2_ n3_ n4_ n5_ n6_ n7_; clear hk hoth hbel hz; (try simp only [Act.put, List.setIfInBounds_toArray, List.set_cons_zero, List.set_cons_succ])) | ((with_reducible refine gate_dst (N := 22) rfl ?_); refine Go.Proofs.Ytocfepcgpelhdaa.RowLaw.cell_event rfl 4 _ rfl g0 11 rfl 28 _ _ (.bool a0_11) BK0.out hub rfl rfl ?_; (try simp only [Act.put, List.setIfInBounds_toArray, List.set_cons_zero, List.set_cons_succ])) | ((with_reducible refine gate_store (t := 4) (p := 23) rfl ?_); refine Go.Proofs.Ytocfepcgpelhdaa.RowLaw.put_event rfl 4 _ _ rfl g2 11 (.bool a0_11) rfl rfl [.bool a0_11] rfl 36 #[.string a0_0, .bool a0_1, .int .i64 t3, .int .i64 t4, .string t5, .slice Ao5 t6.length co5, .bool a0_6, .int .i64 t8, .int .i64 t9, .string t10, .slice Ao10 t11.length co10, .bool false, .int .i64 0, .int .i64 0, .string (⟨#[]⟩ : ByteArray), .slice none 0 0, .string (⟨#[]⟩ : ByteArray), .string (⟨#[]⟩ : ByteArray), .string (⟨#[]⟩ : ByteArray)] #[.string a0_0, .bool a0_1, .int .i64 t3, .int .i64 t4, .string t5, .slice Ao5 t6.length co5, .bool a0_6, .int .i64 t8, .int .i64 t9, .string t10, .slice Ao10 t11.length co10, .bool a0_11, .int .i64 0, .int .i64 0, .string (⟨#[]⟩ : ByteArray), .slice none 0 0, .string (⟨#[]⟩ : ByteArray), .string (⟨#[]⟩ : ByteArray), .string (⟨#[]⟩ : ByteArray)] BK2.out (by kernel_rfl) (Nat.le_of_ble_eq_true rfl) rfl rfl ?_; intro wp23 hk hoth hbel hz; have n0_ := Aside0.mk (hbel _ _ HB.out GE2.out); have n1_ := Aside0.mk ((hoth g0 NB0_2.out).trans BK0.out); have n2_ := Aside0.mk ((hoth g1 NB1_2.out).trans BK1.out); have n3_ := Aside0.mk (hk); have n4_ := Aside0.mk (Go.Proofs.Ytocfepcgpelhdaa.RowLaw.IR.put IR5.out hoth LT2_5.out); have n5_ := Aside0.mk (Nat.le_trans SZ5.out (Nat.le_of_eq hz.symm)); have n6_ := Aside0.mk (Go.Proofs.Ytocfepcgpelhdaa.RowLaw.IR.put IR10.out hoth LT2_10.out); have n7_ := Aside0.mk (Nat.le_trans SZ10.out (Nat.le_of_eq hz.symm)); clear HB BK0 BK1 BK2 IR5 SZ5 IR10 SZ10; have HB := n0_; have BK0 := n1_; have BK1 := n2_; have BK2 := n3_; have IR5 := n4_; have SZ5 := n5_; have IR10 := n6_; have SZ10 := n7_; clear n0_ n1_ n2_ n3_ n4_ n5_ n6_ n7_; clear hk hoth hbel hz; (try simp only [Act.put, List.setIfInBounds_toArray, List.set_cons_zero, List.set_cons_succ])) | ((with_reducible refine gate_dst (N := 25) rfl ?_); refine Go.Proofs.Ytocfepcgpelhdaa.RowLaw.part_event rfl 24 _ rfl g0 12 rfl 28 _ _ [.int .i64 a0_12, .int .i64 a0_13, .string a0_14, .slice A0_15 l0_15.length c0_15] BK0.out huE1 rfl (by kernel_rfl) (Go.Proofs.Ytocfepcgpelhdaa.RowLaw.part_of rfl) ?_; (try simp only [Act.put, List.setIfInBounds_toArray, List.set_cons_zero, List.set_cons_succ])) | ((with_reducible refine gate_callee (f := 30) rfl ?_); refine goesL_ (some 26) rfl rfl Try.func30 (by kernel_rfl) rfl #[.agg #[.int .i64 a0_12, .int .i64 a0_13, .string a0_14, .slice A0_15 l0_15.length c0_15]] rfl (by (try simp only [List.map_toArray, List.map_cons, List.map_nil]); first | done | rfl) ?_; (with_reducible refine (laws_toExpr.calls k a0_12 a0_13 a0_14 _ _ l0_15 t13 t14 t15 t16 _ ?side1 ?side2 Q12.out).mono ?_); (case side1 => exact Kd.C_below HR0_15.out HB.out); (case side2 => exact HC0_15.out); rintro e wc15 ⟨v15_, rfl, ho0, hb⟩; refine ⟨_, rfl, ?_⟩; obtain ⟨Ao15, co15, rfl⟩ := Kd.R_slice ho0; have LT1_15 := Aside0.mk (blk_lt BK1.out); have LT2_15 := Aside0.mk (blk_lt BK2.out); have AP5_15 := Aside0.mk SZ5.out; have AP10_15 := Aside0.mk SZ10.out; have LO15 := Aside0.mk HB.out.size; have n0_ := Aside0.mk (below_step HB.out hb); have n1_ := Aside0.mk (blk_below BK0.out hb); have n2_ := Aside0.mk (blk_below BK1.out hb); have n3_ := Aside0.mk (blk_below BK2.out hb); have n4_ := Aside0.mk (Go.Proofs.Ytocfepcgpelhdaa.RowLaw.IR.below IR5.out hb); have n5_ := Aside0.mk (Nat.le_trans SZ5.out hb.size); have n6_ := Aside0.mk (Go.Proofs.Ytocfepcgpelhdaa.RowLaw.IR.below IR10.out hb); have n7_ := Aside0.mk (Nat.le_trans SZ10.out hb.size); clear HB BK0 BK1 BK2 IR5 SZ5 IR10 SZ10; have HB := n0_; have BK0 := n1_; have BK1 := n2_; have BK2 := n3_; have IR5 := n4_; have SZ5 := n5_; have IR10 := n6_; have SZ10 := n7_; clear n0_ n1_ n2_ n3_ n4_ n5_ n6_ n7_; have IR15 := Aside0.mk (Go.Proofs.Ytocfepcgpelhdaa.RowLaw.IR.of ho0); have SZ15 := Aside0.mk (Nat.le_refl wc15.heap.size); clear ho0 hb; (try simp only [Act.put, List.setIfInBounds_toArray, List.set_cons_zero, List.set_cons_succ])) | ((with_reducible refine gate_store (t := 33) (p := 27) rfl ?_); refine Go.Proofs.Ytocfepcgpelhdaa.RowLaw.put_event rfl 33 _ _ rfl g2 12 (.agg #[.int .i64 t13, .int .i64 t14, .string t15, .slice Ao15 t16.length co15]) rfl rfl [.int .i64 t13, .int .i64 t14, .string t15, .slice Ao15 t16.length co15] rfl 36 #[.string a0_0, .bool a0_1, .int .i64 t3, .int .i64 t4, .string t5, .slice Ao5 t6.length co5, .bool a0_6, .int .i64 t8, .int .i64 t9, .string t10, .slice Ao10 t11.length co10, .bool a0_11, .int .i64 0, .int .i64 0, .string (⟨#[]⟩ : ByteArray), .slice none 0 0, .string (⟨#[]⟩ : ByteArray), .string (⟨#[]⟩ : ByteArray), .string (⟨#[]⟩ : ByteArray)] #[.string a0_0, .bool a0_1, .int .i64 t3, .int .i64 t4, .string t5, .slice Ao5 t6.length co5, .bool a0_6, .int .i64 t8, .int .i64 t9, .string t10, .slice Ao10 t11.length co10, .bool a0_11, .int .i64 t13, .int .i64 t14, .string t15, .slice Ao15 t16.length co15, .string (⟨#[]⟩ : ByteArray), .string (⟨#[]⟩ : ByteArray), .string (⟨#[]⟩ : ByteArray)] BK2.out (by kernel_rfl) (Nat.le_of_ble_eq_true rfl) rfl rfl ?_; intro wp27 hk hoth hbel hz; have n0_ := Aside0.mk (hbel _ _ HB.out GE2.out); have n1_ := Aside0.mk ((hoth g0 NB0_2.out).trans BK0.out); have n2_ := Aside0.mk ((hoth g1 NB1_2.out).trans BK1.out); have n3_ := Aside0.mk (hk); have n4_ := Aside0.mk (Go.Proofs.Ytocfepcgpelhdaa.RowLaw.IR.put IR5.out hoth LT2_5.out); have n5_ := Aside0.mk (Nat.le_trans SZ5.out (Nat.le_of_eq hz.symm)); have n6_ := Aside0.mk (Go.Proofs.Ytocfepcgpelhdaa.RowLaw.IR.put IR10.out hoth LT2_10.out); have n7_ := Aside0.mk (Nat.le_trans SZ10.out (Nat.le_of_eq hz.symm)); have n8_ := Aside0.mk (Go.Proofs.Ytocfepcgpelhdaa.RowLaw.IR.put IR15.out hoth LT2_15.out); have n9_ := Aside0.mk (Nat.le_trans SZ15.out (Nat.le_of_eq hz.symm)); clear HB BK0 BK1 BK2 IR5 SZ5 IR10 SZ10 IR15 SZ15; have HB := n0_; have BK0 := n1_; have BK1 := n2_; have BK2 := n3_; have IR5 := n4_; have SZ5 := n5_; have IR10 := n6_; have SZ10 := n7_; have IR15 := n8_; have SZ15 := n9_; clear n0_ n1_ n2_ n3_ n4_ n5_ n6_ n7_ n8_ n9_; clear hk hoth hbel hz; (try simp only [Act.put, List.setIfInBounds_toArray, List.set_cons_zero, List.set_cons_succ])) | ((with_reducible refine gate_dst (N := 29) rfl ?_); refine Go.Proofs.Ytocfepcgpelhdaa.RowLaw.part_event rfl 26 _ rfl g0 16 rfl 28 _ _ [.string a0_16, .string a0_17, .string a0_18] BK0.out huG1 rfl (by kernel_rfl) (Go.Proofs.Ytocfepcgpelhdaa.RowLaw.part_of rfl) ?_; (try simp only [Act.put, List.setIfInBounds_toArray, List.set_cons_zero, List.set_cons_succ])) | ((with_reducible refine gate_callee (f := 31) rfl ?_); refine goesL_ (some 30) rfl rfl Try.func31 (by kernel_rfl) rfl #[.agg #[.string a0_16, .string a0_17, .string a0_18]] rfl (by (try simp only [List.map_toArray, List.map_cons, List.map_nil]); first | done | rfl) ?_; (with_reducible refine (laws_toGoto.calls a0_16 a0_17 a0_18 t17 t18 t19 _ Q16.out).mono ?_); rintro e wc16 ⟨rfl, hb⟩; refine ⟨_, rfl, ?_⟩; have n0_ := Aside0.mk (below_step HB.out hb); have n1_ := Aside0.mk (blk_below BK0.out hb); have n2_ := Aside0.mk (blk_below BK1.out hb); have n3_ := Aside0.mk (blk_below BK2.out hb); have n4_ := Aside0.mk (Go.Proofs.Ytocfepcgpelhdaa.RowLaw.IR.below IR5.out hb); have n5_ := Aside0.mk (Nat.le_trans SZ5.out hb.size); have n6_ := Aside0.mk (Go.Proofs.Ytocfepcgpelhdaa.RowLaw.IR.below IR10.out hb); have n7_ := Aside0.mk (Nat.le_trans SZ10.out hb.size); have n8_ := Aside0.mk (Go.Proofs.Ytocfepcgpelhdaa.RowLaw.IR.below IR15.out hb); have n9_ := Aside0.mk (Nat.le_trans SZ15.out hb.size); clear HB BK0 BK1 BK2 IR5 SZ5 IR10 SZ10 IR15 SZ15; have HB := n0_; have BK0 := n1_; have BK1 := n2_; have BK2 := n3_; have IR5 := n4_; have SZ5 := n5_; have IR10 := n6_; have SZ10 := n7_; have IR15 := n8_; have SZ15 := n9_; clear n0_ n1_ n2_ n3_ n4_ n5_ n6_ n7_ n8_ n9_; clear hb; (try simp only [Act.put, List.setIfInBounds_toArray, List.set_cons_zero, List.set_cons_succ])) | ((with_reducible refine gate_store (t := 34) (p := 31) rfl ?_); refine Go.Proofs.Ytocfepcgpelhdaa.RowLaw.put_event rfl 34 _ _ rfl g2 16 (.agg #[.string t17, .string t18, .string t19]) rfl rfl [.string t17, .string t18, .string t19] rfl 36 #[.string a0_0, .bool a0_1, .int .i64 t3, .int .i64 t4, .string t5, .slice Ao5 t6.length co5, .bool a0_6, .int .i64 t8, .int .i64 t9, .string t10, .slice Ao10 t11.length co10, .bool a0_11, .int .i64 t13, .int .i64 t14, .string t15, .slice Ao15 t16.length co15, .string (⟨#[]⟩ : ByteArray), .string (⟨#[]⟩ : ByteArray), .string (⟨#[]⟩ : ByteArray)] #[.string a0_0, .bool a0_1, .int .i64 t3, .int .i64 t4, .string t5, .slice Ao5 t6.length co5, .bool a0_6, .int .i64 t8, .int .i64 t9, .string t10, .slice Ao10 t11.length co10, .bool a0_11, .int .i64 t13, .int .i64 t14, .string t15, .slice Ao15 t16.length co15, .string t17, .string t18, .string t19] BK2.out (by kernel_rfl) (Nat.le_of_ble_eq_true rfl) rfl rfl ?_; intro wp31 hk hoth hbel hz; have n0_ := Aside0.mk (hbel _ _ HB.out GE2.out); have n1_ := Aside0.mk ((hoth g0 NB0_2.out).trans BK0.out); have n2_ := Aside0.mk ((hoth g1 NB1_2.out).trans BK1.out); have n3_ := Aside0.mk (hk); have n4_ := Aside0.mk (Go.Proofs.Ytocfepcgpelhdaa.RowLaw.IR.put IR5.out hoth LT2_5.out); have n5_ := Aside0.mk (Nat.le_trans SZ5.out (Nat.le_of_eq hz.symm)); have n6_ := Aside0.mk (Go.Proofs.Ytocfepcgpelhdaa.RowLaw.IR.put IR10.out hoth LT2_10.out); have n7_ := Aside0.mk (Nat.le_trans SZ10.out (Nat.le_of_eq hz.symm)); have n8_ := Aside0.mk (Go.Proofs.Ytocfepcgpelhdaa.RowLaw.IR.put IR15.out hoth LT2_15.out); have n9_ := Aside0.mk (Nat.le_trans SZ15.out (Nat.le_of_eq hz.symm)); clear HB BK0 BK1 BK2 IR5 SZ5 IR10 SZ10 IR15 SZ15; have HB := n0_; have BK0 := n1_; have BK1 := n2_; have BK2 := n3_; have IR5 := n4_; have SZ5 := n5_; have IR10 := n6_; have SZ10 := n7_; have IR15 := n8_; have SZ15 := n9_; clear n0_ n1_ n2_ n3_ n4_ n5_ n6_ n7_ n8_ n9_; clear hk hoth hbel hz; (try simp only [Act.put, List.setIfInBounds_toArray, List.set_cons_zero, List.set_cons_succ])) | ((with_reducible refine gate_dst (N := 32) rfl ?_); refine wpList_load_row rfl 36 _ rfl g2 rfl 36 #[.string a0_0, .bool a0_1, .int .i64 t3, .int .i64 t4, .string t5, .slice Ao5 t6.length co5, .bool a0_6, .int .i64 t8, .int .i64 t9, .string t10, .slice Ao10 t11.length co10, .bool a0_11, .int .i64 t13, .int .i64 t14, .string t15, .slice Ao15 t16.length co15, .string t17, .string t18, .string t19] (0, 0) _ BK2.out huS2 rfl (by kernel_rfl) ?_; (try simp only [Act.put, List.setIfInBounds_toArray, List.set_cons_zero, List.set_cons_succ])) | ((with_reducible refine gate_store (t := 36) (p := 2) rfl ?_); refine Go.Proofs.Ytocfepcgpelhdaa.RowLaw.put_event rfl 36 _ _ rfl g1 0 (.agg #[.string a0_0, .bool a0_1, .int .i64 t3, .int .i64 t4, .string t5, .slice Ao5 t6.length co5, .bool a0_6, .int .i64 t8, .int .i64 t9, .string t10, .slice Ao10 t11.length co10, .bool a0_11, .int .i64 t13, .int .i64 t14, .string t15, .slice Ao15 t16.length co15, .string t17, .string t18, .string t19]) rfl rfl [.string a0_0, .bool a0_1, .int .i64 t3, .int .i64 t4, .string t5, .slice Ao5 t6.length co5, .bool a0_6, .int .i64 t8, .int .i64 t9, .string t10, .slice Ao10 t11.length co10, .bool a0_11, .int .i64 t13, .int .i64 t14, .string t15, .slice Ao15 t16.length co15, .string t17, .string t18, .string t19] rfl 36 #[.string (⟨#[]⟩ : ByteArray), .bool false, .int .i64 0, .int .i64 0, .string (⟨#[]⟩ : ByteArray), .slice none 0 0, .bool false, .int .i64 0, .int .i64 0, .string (⟨#[]⟩ : ByteArray), .slice none 0 0, .bool false, .int .i64 0, .int .i64 0, .string (⟨#[]⟩ : ByteArray), .slice none 0 0, .string (⟨#[]⟩ : ByteArray), .string (⟨#[]⟩ : ByteArray), .string (⟨#[]⟩ : ByteArray)] #[.string a0_0, .bool a0_1, .int .i64 t3, .int .i64 t4, .string t5, .slice Ao5 t6.length co5, .bool a0_6, .int .i64 t8, .int .i64 t9, .string t10, .slice Ao10 t11.length co10, .bool a0_11, .int .i64 t13, .int .i64 t14, .string t15, .slice Ao15 t16.length co15, .string t17, .string t18, .string t19] BK1.out (by kernel_rfl) (Nat.le_of_ble_eq_true rfl) rfl rfl ?_; intro wp2 hk hoth hbel hz; have n0_ := Aside0.mk (hbel _ _ HB.out GE1.out); have n1_ := Aside0.mk ((hoth g0 NB0_1.out).trans BK0.out); have n2_ := Aside0.mk (hk); have n3_ := Aside0.mk ((hoth g2 NB2_1.out).trans BK2.out); have n4_ := Aside0.mk (Go.Proofs.Ytocfepcgpelhdaa.RowLaw.IR.put IR5.out hoth LT1_5.out); have n5_ := Aside0.mk (Nat.le_trans SZ5.out (Nat.le_of_eq hz.symm)); have n6_ := Aside0.mk (Go.Proofs.Ytocfepcgpelhdaa.RowLaw.IR.put IR10.out hoth LT1_10.out); have n7_ := Aside0.mk (Nat.le_trans SZ10.out (Nat.le_of_eq hz.symm)); have n8_ := Aside0.mk (Go.Proofs.Ytocfepcgpelhdaa.RowLaw.IR.put IR15.out hoth LT1_15.out); have n9_ := Aside0.mk (Nat.le_trans SZ15.out (Nat.le_of_eq hz.symm)); clear HB BK0 BK1 BK2 IR5 SZ5 IR10 SZ10 IR15 SZ15; have HB := n0_; have BK0 := n1_; have BK1 := n2_; have BK2 := n3_; have IR5 := n4_; have SZ5 := n5_; have IR10 := n6_; have SZ10 := n7_; have IR15 := n8_; have SZ15 := n9_; clear n0_ n1_ n2_ n3_ n4_ n5_ n6_ n7_ n8_ n9_; clear hk hoth hbel hz; (try simp only [Act.put, List.setIfInBounds_toArray, List.set_cons_zero, List.set_cons_succ])))
  refine bodyPost_ret (results_cell_row rfl _ _ _ 36 _ (0, 0) _ rfl BK1.out huS2 rfl (by kernel_rfl)) rfl ?_
  exact ⟨_, _, _, rfl, Kd.R_mono (Kd.R_lower IR5.out LO5.out) (fun k_ hk => ⟨fun he => by have p := Go.Proofs.Ytocfepcgpelhdaa.RowLaw.IR.own IR10.out _ he.symm; have q := AP5_10.out; omega, fun he => by have p := Go.Proofs.Ytocfepcgpelhdaa.RowLaw.IR.own IR15.out _ he.symm; have q := AP5_15.out; omega⟩), Kd.R_mono (Kd.R_lower IR10.out LO10.out) (fun k_ hk => ⟨fun he => by have p := Go.Proofs.Ytocfepcgpelhdaa.RowLaw.IR.own IR5.out _ he.symm; have q := AP5_10.out; omega, fun he => by have p := Go.Proofs.Ytocfepcgpelhdaa.RowLaw.IR.own IR15.out _ he.symm; have q := AP10_15.out; omega⟩), Kd.R_mono (Kd.R_lower IR15.out LO15.out) (fun k_ hk => ⟨fun he => by have p := Go.Proofs.Ytocfepcgpelhdaa.RowLaw.IR.own IR5.out _ he.symm; have q := AP5_15.out; omega, fun he => by have p := Go.Proofs.Ytocfepcgpelhdaa.RowLaw.IR.own IR10.out _ he.symm; have q := AP10_15.out; omega⟩), HB.out⟩

/-! ### laws_toProgram: function 14, by hand -/
-- NEEDS laws_toStatement
-- IMPORT Derived.Test.YtocfepcgpelhdaaRowLaw
-- kinds: k28 k36 info36
def laws_toStatementS.l0 : Nat → List S28 → List S36 → Int → Option (List S36)
  | 0, _, _, _ => none
  | k + 1, l, out, i => if i < (l.length : Int) then (if 0 ≤ i then ((laws_toStatement.f k ((rd_T28 l i).f0) ((rd_T28 l i).f1) ((rd_T28 l i).f2.f0) ((rd_T28 l i).f2.f1) ((rd_T28 l i).f2.f2) ((rd_T28 l i).f2.f3) ((rd_T28 l i).f3) ((rd_T28 l i).f4.f0) ((rd_T28 l i).f4.f1) ((rd_T28 l i).f4.f2) ((rd_T28 l i).f4.f3) ((rd_T28 l i).f5) ((rd_T28 l i).f6.f0) ((rd_T28 l i).f6.f1) ((rd_T28 l i).f6.f2) ((rd_T28 l i).f6.f3) ((rd_T28 l i).f7.f0) ((rd_T28 l i).f7.f1) ((rd_T28 l i).f7.f2)).bind fun b => (if i < (out.length : Int) then (laws_toStatementS.l0 k l (out.set (i : Int).toNat (⟨b.1, b.2.1, (⟨b.2.2.1, b.2.2.2.1, b.2.2.2.2.1, b.2.2.2.2.2.1⟩ : S33), b.2.2.2.2.2.2.1, (⟨b.2.2.2.2.2.2.2.1, b.2.2.2.2.2.2.2.2.1, b.2.2.2.2.2.2.2.2.2.1, b.2.2.2.2.2.2.2.2.2.2.1⟩ : S33), b.2.2.2.2.2.2.2.2.2.2.2.1, (⟨b.2.2.2.2.2.2.2.2.2.2.2.2.1, b.2.2.2.2.2.2.2.2.2.2.2.2.2.1, b.2.2.2.2.2.2.2.2.2.2.2.2.2.2.1, b.2.2.2.2.2.2.2.2.2.2.2.2.2.2.2.1⟩ : S33), (⟨b.2.2.2.2.2.2.2.2.2.2.2.2.2.2.2.2.1, b.2.2.2.2.2.2.2.2.2.2.2.2.2.2.2.2.2.1, b.2.2.2.2.2.2.2.2.2.2.2.2.2.2.2.2.2.2⟩ : S34)⟩ : S36)) (wrap64 (i + 1))) else (none))) else (none)) else (some out)
def laws_toStatementS.f (k : Nat) (l0 : List S28) : Option (List S36) := if 0 ≤ (l0.length : Int) then (if ((l0.length : Int) : Int).toNat ≤ 1099511627776 then (laws_toStatementS.l0 k l0 (List.replicate ((l0.length : Int) : Int).toNat z36) 0) else (none)) else (none)
def laws_toProgram.f (k : Nat) (l0_0 : List S28) : Option (List S36) := (laws_toStatementS.f k l0_0).bind fun t => (some t)
theorem laws_toStatementS.mono_l : ∀ k l t i, LeO (laws_toStatementS.l0 k l t i) (laws_toStatementS.l0 (k + 1) l t i) := by
  intro k
  induction k with
  | zero => intro l t i; unfold laws_toStatementS.l0; exact LeO.none _
  | succ k ih =>
    intro l t i
    unfold laws_toStatementS.l0
    repeat' first
    | (with_reducible exact ih _ _ _)
    | (with_reducible exact laws_toStatement.mono _ _ _ _ _ _ _ _ _ _ _ _ _ _ _ _ _ _ _ _)
    | (with_reducible exact LeO.refl _)
    | (with_reducible exact LeO.none _)
    | (with_reducible refine LeO.ite ?_ ?_)
    | (with_reducible refine LeO.bind ?_ (fun _ => ?_))
theorem laws_toProgram.mono : ∀ a0 k, LeO (laws_toProgram.f k a0) (laws_toProgram.f (k + 1) a0) := by
  intro a0 k
  unfold laws_toProgram.f laws_toStatementS.f
  repeat' first
  | (with_reducible exact laws_toStatementS.mono_l _ _ _ _)
  | (with_reducible exact LeO.refl _)
  | (with_reducible exact LeO.none _)
  | (with_reducible refine LeO.ite ?_ ?_)
  | (with_reducible refine LeO.bind ?_ (fun _ => ?_))
theorem to_stm_calls (k : Nat) (x : S28) (cs : List Value) (b : ByteArray × Bool × Int × Int × ByteArray × (List S33) × Bool × Int × Int × ByteArray × (List S33) × Bool × Int × Int × ByteArray × (List S33) × ByteArray × ByteArray × ByteArray) (w : World) (hK : k28.K w x cs) (h : laws_toStatement.f k (x.f0) (x.f1) (x.f2.f0) (x.f2.f1) (x.f2.f2) (x.f2.f3) (x.f3) (x.f4.f0) (x.f4.f1) (x.f4.f2) (x.f4.f3) (x.f5) (x.f6.f0) (x.f6.f1) (x.f6.f2) (x.f6.f3) (x.f7.f0) (x.f7.f1) (x.f7.f2) = some b) :
    Calls Try.prog 9 #[.agg cs.toArray] w fun e w' => ∃ ds : List Value, e = .returned (.agg ds.toArray) ∧ k36.M w' w.heap.size (fun k_ => w.heap.size ≤ k_) (⟨b.1, b.2.1, (⟨b.2.2.1, b.2.2.2.1, b.2.2.2.2.1, b.2.2.2.2.2.1⟩ : S33), b.2.2.2.2.2.2.1, (⟨b.2.2.2.2.2.2.2.1, b.2.2.2.2.2.2.2.2.1, b.2.2.2.2.2.2.2.2.2.1, b.2.2.2.2.2.2.2.2.2.2.1⟩ : S33), b.2.2.2.2.2.2.2.2.2.2.2.1, (⟨b.2.2.2.2.2.2.2.2.2.2.2.2.1, b.2.2.2.2.2.2.2.2.2.2.2.2.2.1, b.2.2.2.2.2.2.2.2.2.2.2.2.2.2.1, b.2.2.2.2.2.2.2.2.2.2.2.2.2.2.2.1⟩ : S33), (⟨b.2.2.2.2.2.2.2.2.2.2.2.2.2.2.2.2.1, b.2.2.2.2.2.2.2.2.2.2.2.2.2.2.2.2.2.1, b.2.2.2.2.2.2.2.2.2.2.2.2.2.2.2.2.2.2⟩ : S34)⟩ : S36) ds ∧ Below w.heap.size w w' := by
  obtain ⟨A4, c4, A5, c5, A6, c6, rfl, l4, g4, l5, g5, l6, g6⟩ := k28_open hK
  refine (laws_toStatement.calls k _ _ _ _ _ _ _ _ _ _ _ _ _ _ _ _ _ _ _ _ _ _ _ _ _ _ _ _ _ _ _ _ _ _ _ _ _ _ _ _ _ _ _ _ w g4 l4 g5 l5 g6 l6 h).mono ?_
  rintro e w' ⟨v5, v10, v15, rfl, o5, o10, o15, hb⟩
  exact ⟨_, rfl, k36_mkM w' _ _ _ (Kd.R_mono (Kd.R_bound o5) (fun _ hk => hk.2.1)) (Kd.R_mono (Kd.R_bound o10) (fun _ hk => hk.2.1)) (Kd.R_mono (Kd.R_bound o15) (fun _ hk => hk.2.1)), hb⟩
set_option maxHeartbeats 4000000 in
set_option maxRecDepth 100000 in
theorem laws_toStatementS.calls (k : Nat) (A0 : Option Addr) (c0 : Nat) (l : List S28) (r : List S36) (w : World) (hr0 : Kd.C k28 w A0 l.length l) (hc0 : l.length ≤ c0) (h : laws_toStatementS.f k l = some r) :
    Calls Try.prog 36 #[.slice A0 l.length c0] w fun e w' => ∃ v0_ : Value, e = .returned (v0_) ∧ Kd.R k36 36 w' w.heap.size (fun _ => True) v0_ r ∧ Below w.heap.size w w' := by
  have hu1 := Try.underlying28
  have hu2 := Try.underlying36
  have HR0 := Aside0.mk hr0
  clear hr0 hc0
  have HB := Aside0.mk (Below.refl w.heap.size w)
  unfold laws_toStatementS.f at h
  by_cases c1 : 0 ≤ (l.length : Int)
  rotate_left
  · rw [if_neg c1] at h
    exact absurd h (by simp)
  rw [if_pos c1] at h
  by_cases c2 : ((l.length : Int) : Int).toNat ≤ 1099511627776
  rotate_left
  · rw [if_neg c2] at h
    exact absurd h (by simp)
  rw [if_pos c2] at h
  have H := Aside0.mk h
  have C1 := Aside0.mk c1
  have C2 := Aside0.mk c2
  clear h c1 c2
  go_enter Try.func36, Try.ntmps36
  go_wp2_with (first | ((with_reducible refine gate_dst (N := 7) rfl ?_); refine Kd.R_make k36 _ 36 rfl (N := 7) rfl 44 _ _ rfl (l.length : Int) rfl rfl Try.underlying44 (.agg #[(.string ⟨#[]⟩), (.bool false), (.int .i64 0), (.int .i64 0), (.string ⟨#[]⟩), (.slice none 0 0), (.bool false), (.int .i64 0), (.int .i64 0), (.string ⟨#[]⟩), (.slice none 0 0), (.bool false), (.int .i64 0), (.int .i64 0), (.string ⟨#[]⟩), (.slice none 0 0), (.string ⟨#[]⟩), (.string ⟨#[]⟩), (.string ⟨#[]⟩)]) 256 info36 rfl (by decide) (by omega) z36 (ok := fun _ => True) (okp := fun _ => True) (k36_mkM _ _ _ z36 (Kd.R_nil _ _ _ _ _) (Kd.R_nil _ _ _ _ _) (Kd.R_nil _ _ _ _ _)) (fun _ hk => hk) trivial C1.out (Nat.le_trans (Nat.mul_le_mul_right _ C2.out) (by omega)) (Below.refl _ _) (Nat.le_refl _) ?_; intro v7 w4 ho5 hb hg_ hnew_; clear hg_ hnew_; have HO := Aside0.mk ho5; have n0_ := Aside0.mk hb; clear HB; have HB := n0_; clear n0_ ho5 hb; (try simp only [Act.put, List.setIfInBounds_toArray, List.set_cons_zero, List.set_cons_succ])))
  go_loopg [4] k (fun kq v4 w' => ∃ (out : List S36) (x5 : Int), v4 = .int .i64 x5 ∧ Aside0 (laws_toStatementS.l0 kq l out x5 = some r) ∧ Aside0 (kq ≤ k) ∧ Aside0 (Kd.R k36 36 w' w.heap.size (fun _ => True) v7 out) ∧ Aside0 (Below w.heap.size w w'))
  case atStart => exact ⟨_, 0, rfl, H, ⟨Nat.le_refl _⟩, HO, HB⟩
  case round =>
    clear H HO HB
    obtain ⟨out, x5, rfl, HL, HK, HO, HB⟩ := hrel
    cases gk with
    | zero => exact absurd HL.out (by simp [laws_toStatementS.l0])
    | succ kp =>
      have H := HL.out
      clear HL
      simp only [laws_toStatementS.l0] at H
      by_cases c5 : x5 < (l.length : Int)
      · rw [if_pos c5] at H
        have c5b := decide_eq_true c5
        by_cases c6 : 0 ≤ x5
        · rw [if_pos c6] at H
          replace H := Option.bind_eq_some_iff.mp H
          obtain ⟨b, ht, H⟩ := H
          have HT := Aside0.mk ht
          clear ht
          by_cases c7 : x5 < (out.length : Int)
          rotate_left
          · rw [if_neg c7] at H
            exact absurd H (by simp)
          rw [if_pos c7] at H
          have HS := Aside0.mk H
          clear H
          obtain ⟨ad0, ce0, ea0, el0, eK0, eC0⟩ := Go.Proofs.Ytocfepcgpelhdaa.RowLaw.elem_of HR0.out z28 x5 c6 c5
          cases ea0
          have EC0 := Aside0.mk eC0
          have EK0 := Aside0.mk eK0
          have EL0 := Aside0.mk ((by rw [el0]; kernel_rfl) : (Try.prog.info? 28).map (·.size) = some ce0.length)
          clear eC0 eK0 el0
          obtain ⟨g, cap, eg, hge, hgl, _⟩ := Kd.R_form HO.out (by omega)
          have GE := Aside0.mk hge
          have GL := Aside0.mk hgl
          clear hge hgl
          subst eg
          have P5 := Aside0.mk c6
          have P7 := Aside0.mk c7
          replace c5 := eq_true c5
          replace c6 := eq_true c6
          replace c7 := eq_true c7
          go_wp2_with (first | ((with_reducible refine gate_dst (N := 19) rfl ?_); refine Go.Proofs.Ytocfepcgpelhdaa.RowLaw.at_event rfl 28 _ rfl (ad0.add (x5.toNat * k28.sz)) rfl _ ce0 hu1 rfl EL0.out (EC0.out.below HB.out) ?_; (try simp only [Act.put, List.setIfInBounds_toArray, List.set_cons_zero, List.set_cons_succ])) | ((with_reducible refine gate_callee (f := 9) rfl ?_); refine goesL_ (some 20) rfl rfl Try.func9 (by kernel_rfl) rfl #[.agg ce0.toArray] rfl (by (try simp only [List.map_toArray, List.map_cons, List.map_nil]); first | done | rfl) ?_; (with_reducible refine (to_stm_calls kp (rd_T28 l x5) ce0 b _ ?side1 HT.out).mono ?_); (case side1 => exact k28.K_below HB.out EK0.out); rintro e wc ⟨ds, rfl, hM, hb⟩; refine ⟨_, rfl, ?_⟩; have n0_ := Aside0.mk (below_step HB.out hb); have n1_ := Aside0.mk (Kd.R_below HO.out hb); have HM := Aside0.mk (k36.M_lower HB.out.size hM); have GW := Aside0.mk GL.out; have n2_ := Aside0.mk (Nat.lt_of_lt_of_le GL.out hb.size); clear HB HO GL; have HB := n0_; have HO := n1_; have GL := n2_; clear n0_ n1_ n2_ hb hM; (try simp only [Act.put, List.setIfInBounds_toArray, List.set_cons_zero, List.set_cons_succ])) | ((with_reducible refine gate_store (t := 36) (p := 21) rfl ?_); obtain ⟨c, hcl, _, hcc, hfr⟩ := Kd.R_elem HO.out z36 x5 P5.out P7.out; have hdl : ds.length = c.length := (k36.K_len (k36.K_of_M HM.out)).trans hcl.symm; have HP := Kd.R_seg HO.out x5 P5.out P7.out (seg := ds) (j := 0) hcl hcc (by rw [hdl, hcl]; omega) (x' := (⟨b.1, b.2.1, (⟨b.2.2.1, b.2.2.2.1, b.2.2.2.2.1, b.2.2.2.2.2.1⟩ : S33), b.2.2.2.2.2.2.1, (⟨b.2.2.2.2.2.2.2.1, b.2.2.2.2.2.2.2.2.1, b.2.2.2.2.2.2.2.2.2.1, b.2.2.2.2.2.2.2.2.2.2.1⟩ : S33), b.2.2.2.2.2.2.2.2.2.2.2.1, (⟨b.2.2.2.2.2.2.2.2.2.2.2.2.1, b.2.2.2.2.2.2.2.2.2.2.2.2.2.1, b.2.2.2.2.2.2.2.2.2.2.2.2.2.2.1, b.2.2.2.2.2.2.2.2.2.2.2.2.2.2.2.1⟩ : S33), (⟨b.2.2.2.2.2.2.2.2.2.2.2.2.2.2.2.2.1, b.2.2.2.2.2.2.2.2.2.2.2.2.2.2.2.2.2.1, b.2.2.2.2.2.2.2.2.2.2.2.2.2.2.2.2.2.2⟩ : S34)⟩ : S36)) (by rw [Go.Proofs.Ytocfepcgpelhdaa.RowLaw.seg_whole hdl.symm]; exact HM.out) (fun k_ hk => ⟨trivial, by have := GW.out; omega⟩); refine Go.Proofs.Ytocfepcgpelhdaa.RowLaw.seg_event rfl 36 _ _ rfl _ g (x5.toNat * k36.sz) ds rfl (by first | rfl | exact Go.Proofs.Ytocfepcgpelhdaa.RowLaw.add_zero g _) rfl c hdl.symm hcc hfr (by rw [hdl, hcl]; kernel_rfl) (Go.Proofs.Ytocfepcgpelhdaa.RowLaw.one_list (k36.K_of_M HM.out)) ?_; intro w6 hw6; have n0_ := Aside0.mk (show Kd.R k36 36 w6 w.heap.size (fun _ => True) (.slice (some ⟨g, 0, none⟩) out.length cap) (out.set x5.toNat (⟨b.1, b.2.1, (⟨b.2.2.1, b.2.2.2.1, b.2.2.2.2.1, b.2.2.2.2.2.1⟩ : S33), b.2.2.2.2.2.2.1, (⟨b.2.2.2.2.2.2.2.1, b.2.2.2.2.2.2.2.2.1, b.2.2.2.2.2.2.2.2.2.1, b.2.2.2.2.2.2.2.2.2.2.1⟩ : S33), b.2.2.2.2.2.2.2.2.2.2.2.1, (⟨b.2.2.2.2.2.2.2.2.2.2.2.2.1, b.2.2.2.2.2.2.2.2.2.2.2.2.2.1, b.2.2.2.2.2.2.2.2.2.2.2.2.2.2.1, b.2.2.2.2.2.2.2.2.2.2.2.2.2.2.2.1⟩ : S33), (⟨b.2.2.2.2.2.2.2.2.2.2.2.2.2.2.2.2.1, b.2.2.2.2.2.2.2.2.2.2.2.2.2.2.2.2.2.1, b.2.2.2.2.2.2.2.2.2.2.2.2.2.2.2.2.2.2⟩ : S34)⟩ : S36)) from by rw [hw6]; exact HP.1); have n1_ := Aside0.mk (show Below w.heap.size w w6 from by rw [hw6]; exact Go.Proofs.Ytocfepcgpelhdaa.RowLaw.below_setCells GE.out _ _ _ HB.out); clear HP HO HB HM; have HO := n0_; have HB := n1_; clear n0_ n1_ hw6 hcc hfr hdl hcl; (try simp only [Act.put, List.setIfInBounds_toArray, List.set_cons_zero, List.set_cons_succ])))
          go_roundg kp
          case measure => have := HK.out; omega
          case rel => exact ⟨_, _, rfl, HS, ⟨by have := HK.out; omega⟩, HO, HB⟩
        · rw [if_neg c6] at H
          exact absurd H (by simp)
      · rw [if_neg c5] at H
        obtain rfl := Option.some.inj H
        have c5b := decide_eq_false c5
        clear c5
        go_wp2
        go_ret
        exact ⟨_, rfl, HO.out, HB.out⟩
set_option maxHeartbeats 4000000 in
set_option maxRecDepth 100000 in
theorem laws_toProgram.calls (k : Nat) (A0_0 : Option Addr) (c0_0 : Nat) (l0_0 : List S28) (r1 : List S36) (w : World) (hr0_0 : Kd.C k28 w A0_0 l0_0.length l0_0) (hc0_0 : l0_0.length ≤ c0_0) (h : laws_toProgram.f k l0_0 = some r1) :
    Calls Try.prog 14 #[.agg #[.slice A0_0 l0_0.length c0_0]] w fun e w' => ∃ v0_ : Value, e = .returned (.agg #[v0_]) ∧ Kd.R k36 36 w' w.heap.size (fun _ => True) v0_ r1 ∧ Below w.heap.size w w' := by
  have hu1 := Try.underlying41
  have hu2 := Try.underlying46
  have HR0 := Aside0.mk hr0_0
  have HC0 := Aside0.mk hc0_0
  clear hr0_0 hc0_0
  have HB := Aside0.mk (Below.refl w.heap.size w)
  unfold laws_toProgram.f at h
  replace h := Option.bind_eq_some_iff.mp h
  obtain ⟨t, ht, h⟩ := h
  obtain rfl := Option.some.inj h
  have HT := Aside0.mk ht
  clear ht h
  go_enter Try.func14, Try.ntmps14
  have hs1 := Try.underlying39
  have hs2 := Try.underlying44
  go_wp2_with (first | ((with_reducible refine gate_dst (N := 1) rfl ?_); refine box_event ?hg (N := 1) ?hd (cs := #[.slice A0_0 l0_0.length c0_0]) (t := 41) ?hr ?_; (case hd => rfl); (case hg => rfl); (case hr => first | (go_simp; done) | (go_simp; rfl)); intro g0 hg wb0 hbox hb; have GE0 := Aside0.mk ((by rw [hg]; exact HB.out.size) : w.heap.size ≤ g0); have n0_ := Aside0.mk (below_step HB.out hb); clear HB; have HB := n0_; clear n0_; have BK0 := Aside0.mk hbox; clear hbox hg hb; (try simp only [Act.put, List.setIfInBounds_toArray, List.set_cons_zero, List.set_cons_succ])) | ((with_reducible refine gate_dst (N := 2) rfl ?_); refine box_event ?hg (N := 2) ?hd (cs := #[.slice none 0 0]) (t := 46) ?hr ?_; (case hd => rfl); (case hg => rfl); (case hr => first | (go_simp; done) | (go_simp; rfl)); intro g1 hg wb1 hbox hb; have GE1 := Aside0.mk ((by rw [hg]; exact HB.out.size) : w.heap.size ≤ g1); have NB0_1 := Aside0.mk ((by rw [hg]; exact Nat.ne_of_lt (blk_lt BK0.out)) : g0 ≠ g1); have NB1_0 := Aside0.mk (Ne.symm NB0_1.out); have n0_ := Aside0.mk (below_step HB.out hb); have n1_ := Aside0.mk (blk_below BK0.out hb); clear HB BK0; have HB := n0_; have BK0 := n1_; clear n0_ n1_; have BK1 := Aside0.mk hbox; clear hbox hg hb; (try simp only [Act.put, List.setIfInBounds_toArray, List.set_cons_zero, List.set_cons_succ])) | ((with_reducible refine gate_dst (N := 3) rfl ?_); refine box_event ?hg (N := 3) ?hd (cs := #[.slice none 0 0]) (t := 46) ?hr ?_; (case hd => rfl); (case hg => rfl); (case hr => first | (go_simp; done) | (go_simp; rfl)); intro g2 hg wb2 hbox hb; have GE2 := Aside0.mk ((by rw [hg]; exact HB.out.size) : w.heap.size ≤ g2); have NB0_2 := Aside0.mk ((by rw [hg]; exact Nat.ne_of_lt (blk_lt BK0.out)) : g0 ≠ g2); have NB2_0 := Aside0.mk (Ne.symm NB0_2.out); have NB1_2 := Aside0.mk ((by rw [hg]; exact Nat.ne_of_lt (blk_lt BK1.out)) : g1 ≠ g2); have NB2_1 := Aside0.mk (Ne.symm NB1_2.out); have n0_ := Aside0.mk (below_step HB.out hb); have n1_ := Aside0.mk (blk_below BK0.out hb); have n2_ := Aside0.mk (blk_below BK1.out hb); clear HB BK0 BK1; have HB := n0_; have BK0 := n1_; have BK1 := n2_; clear n0_ n1_ n2_; have BK2 := Aside0.mk hbox; clear hbox hg hb; (try simp only [Act.put, List.setIfInBounds_toArray, List.set_cons_zero, List.set_cons_succ])) | ((with_reducible refine gate_dst (N := 5) rfl ?_); refine Go.Proofs.Ytocfepcgpelhdaa.RowLaw.cell_event rfl 39 _ rfl g0 0 rfl 41 _ _ (.slice A0_0 l0_0.length c0_0) BK0.out hs1 rfl rfl ?_; (try simp only [Act.put, List.setIfInBounds_toArray, List.set_cons_zero, List.set_cons_succ])) | ((with_reducible refine gate_callee (f := 36) rfl ?_); refine goesL_ (some 6) rfl rfl Try.func36 (by kernel_rfl) rfl #[.slice A0_0 l0_0.length c0_0] rfl (by (try simp only [List.map_toArray, List.map_cons, List.map_nil]); first | done | rfl) ?_; (with_reducible refine (laws_toStatementS.calls k A0_0 c0_0 l0_0 t _ ?side1 HC0.out HT.out).mono ?_); (case side1 => exact Kd.C_below HR0.out HB.out); rintro e wc ⟨v, rfl, ho, hb⟩; refine ⟨_, rfl, ?_⟩; obtain ⟨Ao, co, rfl⟩ := Kd.R_slice ho; have LT1 := Aside0.mk (blk_lt BK1.out); have LT2 := Aside0.mk (blk_lt BK2.out); have LO := Aside0.mk HB.out.size; have n0_ := Aside0.mk (below_step HB.out hb); have n1_ := Aside0.mk (blk_below BK0.out hb); have n2_ := Aside0.mk (blk_below BK1.out hb); have n3_ := Aside0.mk (blk_below BK2.out hb); clear HB BK0 BK1 BK2; have HB := n0_; have BK0 := n1_; have BK1 := n2_; have BK2 := n3_; clear n0_ n1_ n2_ n3_; have IRv := Aside0.mk (Go.Proofs.Ytocfepcgpelhdaa.RowLaw.IR.of ho); clear ho hb; (try simp only [Act.put, List.setIfInBounds_toArray, List.set_cons_zero, List.set_cons_succ])) | ((with_reducible refine gate_store (t := 44) (p := 7) rfl ?_); refine Go.Proofs.Ytocfepcgpelhdaa.RowLaw.put_event rfl 44 _ _ rfl g2 0 (.slice Ao t.length co) rfl rfl [.slice Ao t.length co] rfl 46 #[.slice none 0 0] #[.slice Ao t.length co] BK2.out (by kernel_rfl) (Nat.le_of_ble_eq_true rfl) rfl rfl ?_; intro wp7 hk hoth hbel hz; have n0_ := Aside0.mk (hbel _ _ HB.out GE2.out); have n1_ := Aside0.mk ((hoth g0 NB0_2.out).trans BK0.out); have n2_ := Aside0.mk ((hoth g1 NB1_2.out).trans BK1.out); have n3_ := Aside0.mk (hk); have n4_ := Aside0.mk (Go.Proofs.Ytocfepcgpelhdaa.RowLaw.IR.put IRv.out hoth LT2.out); clear HB BK0 BK1 BK2 IRv; have HB := n0_; have BK0 := n1_; have BK1 := n2_; have BK2 := n3_; have IRv := n4_; clear n0_ n1_ n2_ n3_ n4_; clear hk hoth hbel hz; (try simp only [Act.put, List.setIfInBounds_toArray, List.set_cons_zero, List.set_cons_succ])) | ((with_reducible refine gate_dst (N := 8) rfl ?_); refine wpList_load_row rfl 46 _ rfl g2 rfl 46 #[.slice Ao t.length co] (0, 0) _ BK2.out hu2 rfl (by kernel_rfl) ?_; (try simp only [Act.put, List.setIfInBounds_toArray, List.set_cons_zero, List.set_cons_succ])) | ((with_reducible refine gate_store (t := 46) (p := 2) rfl ?_); refine Go.Proofs.Ytocfepcgpelhdaa.RowLaw.put_event rfl 46 _ _ rfl g1 0 (.agg #[.slice Ao t.length co]) rfl rfl [.slice Ao t.length co] rfl 46 #[.slice none 0 0] #[.slice Ao t.length co] BK1.out (by kernel_rfl) (Nat.le_of_ble_eq_true rfl) rfl rfl ?_; intro wp2 hk hoth hbel hz; have n0_ := Aside0.mk (hbel _ _ HB.out GE1.out); have n1_ := Aside0.mk ((hoth g0 NB0_1.out).trans BK0.out); have n2_ := Aside0.mk (hk); have n3_ := Aside0.mk ((hoth g2 NB2_1.out).trans BK2.out); have n4_ := Aside0.mk (Go.Proofs.Ytocfepcgpelhdaa.RowLaw.IR.put IRv.out hoth LT1.out); clear HB BK0 BK1 BK2 IRv; have HB := n0_; have BK0 := n1_; have BK1 := n2_; have BK2 := n3_; have IRv := n4_; clear n0_ n1_ n2_ n3_ n4_; clear hk hoth hbel hz; (try simp only [Act.put, List.setIfInBounds_toArray, List.set_cons_zero, List.set_cons_succ])))
  refine bodyPost_ret (results_cell_row rfl _ _ _ 46 _ (0, 0) _ rfl BK1.out hu2 rfl (by kernel_rfl)) rfl ?_
  exact ⟨_, rfl, Kd.R_mono (Kd.R_lower IRv.out LO.out) (fun _ _ => trivial), HB.out⟩

-- NOT PRINTED: function 61 (impl_Expr)

end Go.Proofs.Ytocfepcgpelhdaa.PFnExactSameProgram
