/- By hand: what the law FnExactDeferredNames reaches beyond the printed texts, and the law's own function. Conditions: none beyond each statement. -/
import Derived.Test.YtomakpfmghekfaaProg
import Derived.Below
import Derived.Deep.Draws
import Derived.Deep.AppendLies
import Derived.Maps.AppendAt
import Derived.OwnWalk
import Derived.Laws.BytesArg
import Derived.Laws.MakeOwn
import Derived.Laws.OwnMore
import Derived.Deep.OwnRows
import Derived.Tactics
import Derived.Lib.ConvBytes
import Derived.Laws.Slices
import Derived.WalkKit
import Derived.KernelRfl
import Derived.RowKit3
import Derived.Deep.LoopGhost
import Derived.Deep.QuietTactic
import Derived.BigQuiet
import Derived.WideLaws
import Derived.Deep.DeepCutAuto
import Derived.Deep.CutBlock
import Derived.Deep.RegionHeld3
import Derived.Laws.Rows
import Derived.Lib.AppendStr
import Derived.ArgAppend
import Derived.Laws.IdiomCopy
import Derived.OrdersHeld
import Derived.Laws.BitsLemmas
import Derived.RowKit
import Derived.Test.YtomakpfmghekfaaWWords
import Derived.Test.YtomakpfmghekfaaWLast
import Derived.Test.YtomakpfmghekfaaWTab
import Derived.Test.YtomakpfmghekfaaWFour
import Derived.Test.YtomakpfmghekfaaWQPut
import Derived.Test.YtomakpfmghekfaaWApart
import Derived.Test.YtomakpfmghekfaaWArr
import Derived.Test.YtomakpfmghekfaaWZeros
import Derived.Test.YtomakpfmghekfaaWFoot
import Derived.Test.YtomakpfmghekfaaWKept
import Derived.Test.YtomakpfmghekfaaWShare
import Derived.Test.YtomakpfmghekfaaWN
import Derived.Test.YtomakpfmghekfaaWFootNe
import Derived.Test.YtomakpfmghekfaaWAt
import Derived.Test.YtomakpfmghekfaaWEqStruct
import Derived.Test.YtomakpfmghekfaaWRepsOne
import Derived.Test.YtomakpfmghekfaaWInv
import Derived.Test.YtomakpfmghekfaaWInvWords
import Derived.Test.YtomakpfmghekfaaWGuard
import Derived.Test.YtomakpfmghekfaaWNEv
import Derived.Test.YtomakpfmghekfaaWMore
import Derived.Test.YtomakpfmghekfaaHandDeferredNamesA
import Derived.Test.YtomakpfmghekfaaRowLaw
namespace Go.Proofs.Ytomakpfmghekfaa.PFnExactDeferredNames
open Go.RowKit Go.Proofs.YtomakpfmghekfaaW.PrintWords Go.Proofs.YtomakpfmghekfaaW.PrintLast Go.Proofs.YtomakpfmghekfaaW.PrintMore
attribute [local go_sem] max2_int min2_int max_two min_two max_three min_three max_four min_four
set_option linter.unusedVariables false
set_option linter.unusedSimpArgs false
set_option maxHeartbeats 4000000 in
set_option maxRecDepth 100000 in
theorem spec_dn (x : S30) (g : FinePattern x) (hc : cntT x ≤ 2000000) (A : Option Addr) (c : Nat) (w : World) (h3 : k30.C w A x.f3.length x.f3) (l3 : x.f3.length ≤ c) :
    Calls Try.prog 7 #[.agg #[.int .i64 x.f0, .int .i64 x.f1, .string x.f2, .slice A x.f3.length c]] w fun e w' => ∃ v' : Value, e = .returned v' ∧ Kd.R Kd.string 9 w' w.heap.size (fun _ => True) v' (dnames x) ∧ Below w.heap.size w w' := by
  obtain ⟨k, hk⟩ := (spec_validP x g).rounds
  have huP := Try.underlying30
  have HI := Aside0.mk (by kernel_rfl : (Try.prog.info? 30).map (·.size) = some 4)
  have H3 := Aside0.mk h3
  have L3 := Aside0.mk l3
  have HC := Aside0.mk hc
  have HKK := Aside0.mk (k30_mk w x l3 h3)
  clear h3 l3 hc
  have HB := Aside0.mk (Below.refl w.heap.size w)
  cases hv : validP x with
  | false =>
    have HV := Aside0.mk (hv ▸ hk : spec_ValidPattern.f k x.f0 x.f1 x.f2 x.f3 = some false)
    have ED := Aside0.mk (by unfold dnames; rw [hv]; rfl : dnames x = [])
    clear hk hv
    go_enter Try.func7, Try.ntmps7
    go_wp2_with (first | ((with_reducible refine gate_dst (N := 1) rfl ?_); refine box_event ?hg (N := 1) ?hd (cs := #[.int .i64 x.f0, .int .i64 x.f1, .string x.f2, .slice A x.f3.length c]) (t := 30) ?hr ?_; (case hd => rfl); (case hg => rfl); (case hr => first | (go_simp; done) | (go_simp; rfl)); intro g2 hg w1 hbox hb; have n0_ := Aside0.mk (below_step HB.out hb); clear HB; have HB := n0_; clear n0_; have BK := Aside0.mk hbox; clear hg hbox hb; (try simp only [Act.put, List.setIfInBounds_toArray, List.set_cons_zero, List.set_cons_succ])) | ((with_reducible refine gate_dst (N := 3) rfl ?_); refine wpList_load_row rfl 30 _ rfl g2 rfl 30 #[.int .i64 x.f0, .int .i64 x.f1, .string x.f2, .slice A x.f3.length c] (0, 0) _ BK.out huP rfl HI.out ?_; (try simp only [Act.put, List.setIfInBounds_toArray, List.set_cons_zero, List.set_cons_succ])) | (go_at_call 21; refine (spec_ValidPattern.calls k x.f0 x.f1 x.f2 A c x.f3 false _ (Kd.C_below H3.out HB.out) L3.out HV.out).mono ?_; rintro e wv ⟨rfl, hb⟩; have n1_ := Aside0.mk ((hb.block _ (blk_lt BK.out)).trans BK.out); have n0_ := Aside0.mk (below_step HB.out hb); clear HB; have HB := n0_; clear n0_; clear BK; have BK := n1_; clear n1_ hb))
    go_ret
    exact ⟨_, rfl, by rw [ED.out]; exact Kd.R_nil _ _ _ _ _, HB.out⟩
  | true =>
    have HV := Aside0.mk (hv ▸ hk : spec_ValidPattern.f k x.f0 x.f1 x.f2 x.f3 = some true)
    have ED := Aside0.mk (by unfold dnames; rw [hv]; rfl : dnames x = namesS x [])
    clear hk hv
    go_enter Try.func7, Try.ntmps7
    go_wp2_with (first | ((with_reducible refine gate_dst (N := 1) rfl ?_); refine box_event ?hg (N := 1) ?hd (cs := #[.int .i64 x.f0, .int .i64 x.f1, .string x.f2, .slice A x.f3.length c]) (t := 30) ?hr ?_; (case hd => rfl); (case hg => rfl); (case hr => first | (go_simp; done) | (go_simp; rfl)); intro g2 hg w1 hbox hb; have n0_ := Aside0.mk (below_step HB.out hb); clear HB; have HB := n0_; clear n0_; have BK := Aside0.mk hbox; clear hg hbox hb; (try simp only [Act.put, List.setIfInBounds_toArray, List.set_cons_zero, List.set_cons_succ])) | ((with_reducible refine gate_dst (N := 3) rfl ?_); refine wpList_load_row rfl 30 _ rfl g2 rfl 30 #[.int .i64 x.f0, .int .i64 x.f1, .string x.f2, .slice A x.f3.length c] (0, 0) _ BK.out huP rfl HI.out ?_; (try simp only [Act.put, List.setIfInBounds_toArray, List.set_cons_zero, List.set_cons_succ])) | (go_at_call 21; refine (spec_ValidPattern.calls k x.f0 x.f1 x.f2 A c x.f3 true _ (Kd.C_below H3.out HB.out) L3.out HV.out).mono ?_; rintro e wv ⟨rfl, hb⟩; have n1_ := Aside0.mk ((hb.block _ (blk_lt BK.out)).trans BK.out); have n0_ := Aside0.mk (below_step HB.out hb); clear HB; have HB := n0_; clear n0_; clear BK; have BK := n1_; clear n1_ hb) | ((with_reducible refine gate_dst (N := 6) rfl ?_); refine wpList_load_row rfl 30 _ rfl g2 rfl 30 #[.int .i64 x.f0, .int .i64 x.f1, .string x.f2, .slice A x.f3.length c] (0, 0) _ BK.out huP rfl HI.out ?_; (try simp only [Act.put, List.setIfInBounds_toArray, List.set_cons_zero, List.set_cons_succ])) | ((with_reducible refine gate_dst (N := 7) rfl ?_); refine Kd.R_lit Kd.string w.heap.size 9 ?hg (N := 7) ?hd (xs := ([] : List ByteArray)) (inner := []) (ok := fun _ => True) (okp := fun _ => True) ?hr ?hp (fun _ hk => hk) trivial HB.out HB.out.size (by simp) ?_; (case hd => rfl); (case hg => rfl); (case hr => first | (go_simp; done) | (go_simp; rfl)); (case hp => exact Reps.none _ _); intro v1 w5 ho hb hg_ hnew_; have n1_ := Aside0.mk ho; have n0_ := Aside0.mk (hb); clear HB; have HB := n0_; clear n0_; have HR := n1_; clear n1_ hb ho hg_ hnew_ BK; (try simp only [Act.put, List.setIfInBounds_toArray, List.set_cons_zero, List.set_cons_succ])) | (go_at_call 22; refine (names_calls (cntT x) x (Nat.le_refl _) #[.int .i64 x.f0, .int .i64 x.f1, .string x.f2, .slice A x.f3.length c] _ [] w _ HKK.out HB.out HR.out (by simp only [List.length_nil]; have := HC.out; omega)).mono ?_; rintro e wd ⟨v2, rfl, ho, hb, hgr⟩; have n1_ := Aside0.mk ho; have n0_ := Aside0.mk (hb); clear HB; have HB := n0_; clear n0_; have HR2 := n1_; clear n1_ ho hb hgr))
    go_ret
    exact ⟨_, rfl, by rw [ED.out]; exact HR2.out, HB.out⟩
set_option maxHeartbeats 4000000 in
set_option maxRecDepth 100000 in
theorem impl_dn (x : S30) (g : FinePattern x) (hc : cntT x ≤ 2000000) (A : Option Addr) (c : Nat) (w : World) (h3 : k30.C w A x.f3.length x.f3) (l3 : x.f3.length ≤ c) :
    Calls Try.prog 9 #[.agg #[.int .i64 x.f0, .int .i64 x.f1, .string x.f2, .slice A x.f3.length c]] w fun e w' => ∃ v' : Value, e = .returned v' ∧ Kd.R Kd.string 9 w' w.heap.size (fun _ => True) v' (dnames x) ∧ Below w.heap.size w w' := by
  obtain ⟨k, hk⟩ := (impl_validP x g).rounds
  have huP := Try.underlying30
  have HI := Aside0.mk (by kernel_rfl : (Try.prog.info? 30).map (·.size) = some 4)
  have H3 := Aside0.mk h3
  have L3 := Aside0.mk l3
  have HC := Aside0.mk hc
  have HKK := Aside0.mk (k30_mk w x l3 h3)
  clear h3 l3 hc
  have HB := Aside0.mk (Below.refl w.heap.size w)
  cases hv : validP x with
  | false =>
    have HV := Aside0.mk (hv ▸ hk : impl_ValidPattern.f k x.f0 x.f1 x.f2 x.f3 = some false)
    have ED := Aside0.mk (by unfold dnames; rw [hv]; rfl : dnames x = [])
    clear hk hv
    go_enter Try.func9, Try.ntmps9
    go_wp2_with (first | ((with_reducible refine gate_dst (N := 1) rfl ?_); refine box_event ?hg (N := 1) ?hd (cs := #[.int .i64 x.f0, .int .i64 x.f1, .string x.f2, .slice A x.f3.length c]) (t := 30) ?hr ?_; (case hd => rfl); (case hg => rfl); (case hr => first | (go_simp; done) | (go_simp; rfl)); intro g2 hg w1 hbox hb; have n0_ := Aside0.mk (below_step HB.out hb); clear HB; have HB := n0_; clear n0_; have BK := Aside0.mk hbox; clear hg hbox hb; (try simp only [Act.put, List.setIfInBounds_toArray, List.set_cons_zero, List.set_cons_succ])) | ((with_reducible refine gate_dst (N := 3) rfl ?_); refine wpList_load_row rfl 30 _ rfl g2 rfl 30 #[.int .i64 x.f0, .int .i64 x.f1, .string x.f2, .slice A x.f3.length c] (0, 0) _ BK.out huP rfl HI.out ?_; (try simp only [Act.put, List.setIfInBounds_toArray, List.set_cons_zero, List.set_cons_succ])) | (go_at_call 24; refine (impl_ValidPattern.calls k x.f0 x.f1 x.f2 A c x.f3 false _ (Kd.C_below H3.out HB.out) L3.out HV.out).mono ?_; rintro e wv ⟨rfl, hb⟩; have n1_ := Aside0.mk ((hb.block _ (blk_lt BK.out)).trans BK.out); have n0_ := Aside0.mk (below_step HB.out hb); clear HB; have HB := n0_; clear n0_; clear BK; have BK := n1_; clear n1_ hb))
    go_ret
    exact ⟨_, rfl, by rw [ED.out]; exact Kd.R_nil _ _ _ _ _, HB.out⟩
  | true =>
    have HV := Aside0.mk (hv ▸ hk : impl_ValidPattern.f k x.f0 x.f1 x.f2 x.f3 = some true)
    have ED := Aside0.mk (by unfold dnames; rw [hv, if_pos rfl]; exact (names_same _ x (Nat.le_refl _) (of_decide_eq_true hv).1 []).symm : dnames x = namesI x [])
    clear hk hv
    have HR := Aside0.mk (Kd.R_nil Kd.string 9 w w.heap.size (fun _ => True))
    go_enter Try.func9, Try.ntmps9
    go_wp2_with (first | ((with_reducible refine gate_dst (N := 1) rfl ?_); refine box_event ?hg (N := 1) ?hd (cs := #[.int .i64 x.f0, .int .i64 x.f1, .string x.f2, .slice A x.f3.length c]) (t := 30) ?hr ?_; (case hd => rfl); (case hg => rfl); (case hr => first | (go_simp; done) | (go_simp; rfl)); intro g2 hg w1 hbox hb; have n0_ := Aside0.mk (below_step HB.out hb); clear HB; have HB := n0_; clear n0_; have BK := Aside0.mk hbox; clear hg hbox hb; (try simp only [Act.put, List.setIfInBounds_toArray, List.set_cons_zero, List.set_cons_succ])) | ((with_reducible refine gate_dst (N := 3) rfl ?_); refine wpList_load_row rfl 30 _ rfl g2 rfl 30 #[.int .i64 x.f0, .int .i64 x.f1, .string x.f2, .slice A x.f3.length c] (0, 0) _ BK.out huP rfl HI.out ?_; (try simp only [Act.put, List.setIfInBounds_toArray, List.set_cons_zero, List.set_cons_succ])) | (go_at_call 24; refine (impl_ValidPattern.calls k x.f0 x.f1 x.f2 A c x.f3 true _ (Kd.C_below H3.out HB.out) L3.out HV.out).mono ?_; rintro e wv ⟨rfl, hb⟩; have n1_ := Aside0.mk ((hb.block _ (blk_lt BK.out)).trans BK.out); have n0_ := Aside0.mk (below_step HB.out hb); clear HB; have HB := n0_; clear n0_; clear BK; have BK := n1_; clear n1_ hb) | ((with_reducible refine gate_dst (N := 6) rfl ?_); refine wpList_load_row rfl 30 _ rfl g2 rfl 30 #[.int .i64 x.f0, .int .i64 x.f1, .string x.f2, .slice A x.f3.length c] (0, 0) _ BK.out huP rfl HI.out ?_; (try simp only [Act.put, List.setIfInBounds_toArray, List.set_cons_zero, List.set_cons_succ])) | (go_at_call 25; refine (deferred_calls (cntT x) x (Nat.le_refl _) #[.int .i64 x.f0, .int .i64 x.f1, .string x.f2, .slice A x.f3.length c] _ [] w _ HKK.out HB.out (Kd.R_nil _ _ _ _ _) (by simp only [List.length_nil]; have := HC.out; omega)).mono ?_; rintro e wd ⟨v2, rfl, ho, hb, hgr⟩; have n1_ := Aside0.mk ho; have n0_ := Aside0.mk (hb); clear HB; have HB := n0_; clear n0_; have HR2 := n1_; clear n1_ ho hb hgr))
    go_ret
    exact ⟨_, rfl, by rw [ED.out]; exact HR2.out, HB.out⟩
set_option maxHeartbeats 4000000 in
set_option maxRecDepth 100000 in
theorem mark_calls (x : S30) (v : Value) (t : Int) (lo hi : Nat) (w : World) (hS : Shp w lo hi v x.f3) (hlo : lo ≤ w.heap.size) (ht : 0 ≤ t) (ht1 : t + 3 * (cntL x.f3 : Int) ≤ 100000000) :
    Calls Try.prog 12 #[.agg #[.int .i64 x.f0, .int .i64 x.f1, .string x.f2, v], .int .i64 t] w fun e w' => e = .returned (.int .i64 (t + 3 * (cntL x.f3 : Int))) ∧ Mk lo hi w w' := by
  obtain ⟨A, c, rfl, _⟩ := hS.inv
  have huP := Try.underlying30
  have huS := Try.underlying28
  have HS := Aside0.mk hS
  have HLO := Aside0.mk hlo
  have HT := Aside0.mk ht
  have HT1 := Aside0.mk ht1
  have HB := Aside0.mk (Below.refl w.heap.size w)
  clear hS hlo ht ht1
  go_enter Try.func12, Try.ntmps12
  go_wp2_with (first | ((with_reducible refine gate_dst (N := 2) rfl ?_); refine box_event ?hg (N := 2) ?hd (cs := #[.int .i64 x.f0, .int .i64 x.f1, .string x.f2, .slice A x.f3.length c]) (t := 30) ?hr ?_; (case hd => rfl); (case hg => rfl); (case hr => first | (go_simp; done) | (go_simp; rfl)); intro g2 hg w1 hbox hb; have n0_ := Aside0.mk (below_step HB.out hb); clear HB; have HB := n0_; clear n0_; have BK := Aside0.mk hbox; clear hg hbox hb; (try simp only [Act.put, List.setIfInBounds_toArray, List.set_cons_zero, List.set_cons_succ])) | ((with_reducible refine gate_dst (N := 6) rfl ?_); refine Go.Proofs.Ytomakpfmghekfaa.RowLaw.cell_event rfl 28 _ rfl g2 3 rfl 30 #[.int .i64 x.f0, .int .i64 x.f1, .string x.f2, .slice A x.f3.length c] _ (.slice A x.f3.length c) BK.out huS rfl rfl ?_; (try simp only [Act.put, List.setIfInBounds_toArray, List.set_cons_zero, List.set_cons_succ])) | (go_at_call 27; refine (marks_calls (cntL x.f3) x.f3 (Nat.le_refl _) _ t lo hi _ ((Mk.of_below HB.out HLO.out).shp _ _ HS.out) (Nat.le_trans HLO.out HB.out.size) HT.out HT1.out).mono ?_; rintro e wd ⟨rfl, hm⟩; have HM := Aside0.mk ((Mk.of_below HB.out HLO.out).trans hm); clear hm BK))
  go_ret
  exact ⟨rfl, HM.out⟩

set_option maxHeartbeats 16000000 in
set_option maxRecDepth 100000 in
theorem law_dn (x : S24) (g : G24 x) (A : Option Addr) (c : Nat) (w : World) (h3 : k24.C w A x.f3.length x.f3) (l3 : x.f3.length ≤ c) :
    Calls Try.prog 3 #[.agg #[.int .i64 x.f0, .int .i64 x.f1, .string x.f2, .slice A x.f3.length c]] w fun e w' => e = .returned (.bool true) ∧ Below w.heap.size w w' := by
  obtain ⟨ks, hs⟩ := (szPattern_ev x g 1048576 (by omega) (by omega)).rounds
  have huP := Try.underlying30
  have huQ := Try.underlying24
  have HIP := Aside0.mk (by kernel_rfl : (Try.prog.info? 30).map (·.size) = some 4)
  have HIQ := Aside0.mk (by kernel_rfl : (Try.prog.info? 24).map (·.size) = some 4)
  have H3 := Aside0.mk h3
  have L3 := Aside0.mk l3
  clear h3 l3
  have HB := Aside0.mk (Below.refl w.heap.size w)
  by_cases hz : (sizePattern x : Int) ≤ 1048576
  · rw [if_pos hz] at hs
    obtain ⟨lf, hlf⟩ : ∃ lf : Int, lf = 1048576 - sizePattern x := ⟨_, rfl⟩
    rw [← hlf] at hs
    have HS := Aside0.mk hs
    have c0 : (lf < 0) = False := eq_false (by omega)
    have c0b : decide (lf < 0) = false := decide_eq_false (by omega)
    clear hs hlf
    obtain ⟨kt, ht⟩ := (toPattern_ev x g (by omega)).rounds
    have fx := finePattern_conv x g
    obtain ⟨ke, he⟩ := (eqPattern_ev x g).rounds
    have hcn := size_cnt _ x (Nat.le_refl _)
    obtain ⟨cx, hcx⟩ : ∃ cx, cx = convPattern x := ⟨_, rfl⟩
    rw [← hcx] at ht fx he hcn
    have HCN := Aside0.mk (by omega : cntT cx ≤ 2000000)
    have hmc : 1 + 3 * (cntL cx.f3 : Int) ≤ 100000000 := by have := cntT_eq cx; omega
    obtain ⟨T, hT⟩ : ∃ T : Int, 1 + 3 * (cntL cx.f3 : Int) = T := ⟨_, rfl⟩
    have HMC := Aside0.mk hmc
    have HTT := Aside0.mk hT
    have cT : (T < 0) = False := eq_false (by omega)
    have cTb : decide (T < 0) = false := decide_eq_false (by omega)
    have hdl : (dnames cx).length ≤ 2000000 := by
      unfold dnames
      split
      · exact Nat.le_trans (namesS_len _ cx (Nat.le_refl _) []) (by simp only [List.length_nil]; omega)
      · simp
    have HT := Aside0.mk ht
    have FX := Aside0.mk fx
    have HE := Aside0.mk he
    clear ht fx he hcn hmc hT hcx hz
    obtain ⟨dl, hd⟩ : ∃ dl, dnames cx = dl := ⟨_, rfl⟩
    rw [hd] at hdl
    have HD := Aside0.mk hd
    clear hd
    obtain ⟨kq, hq⟩ := (eqStringS_ev dl (by omega)).rounds
    have HQ := Aside0.mk hq
    obtain ⟨rl, hm, hh⟩ := marks_ev dl (by omega)
    obtain ⟨N, hN⟩ : ∃ N : Int, ((dl.length + 1 : Nat) : Int) = N := ⟨_, rfl⟩
    rw [hN] at hm hh
    obtain ⟨km, hm⟩ := hm.rounds
    obtain ⟨kh, hh⟩ := hh.rounds
    have HM := Aside0.mk hm
    have HH := Aside0.mk hh
    have cN : (N < 0) = False := eq_false (by omega)
    have cNb : decide (N < 0) = false := decide_eq_false (by omega)
    have cNn : (N != N) = false := by simp
    clear hq hm hh hN hdl
    go_enter Try.func3, Try.ntmps3
    go_wp2_with (first | ((with_reducible refine gate_dst (N := 1) rfl ?_); refine box_event ?hg (N := 1) ?hd (cs := #[.int .i64 x.f0, .int .i64 x.f1, .string x.f2, .slice A x.f3.length c]) (t := 24) ?hr ?_; (case hd => rfl); (case hg => rfl); (case hr => first | (go_simp; done) | (go_simp; rfl)); intro g1 hg wg1 hbox hb; have n0_ := Aside0.mk (below_step HB.out hb); clear HB; have HB := n0_; clear n0_; have BK1 := Aside0.mk hbox; clear hbox hg hb; (try simp only [Act.put, List.setIfInBounds_toArray, List.set_cons_zero, List.set_cons_succ])) | ((with_reducible refine gate_dst (N := 11) rfl ?_); refine wpList_load_row rfl 24 _ rfl g1 rfl 24 #[.int .i64 x.f0, .int .i64 x.f1, .string x.f2, .slice A x.f3.length c] (0, 0) _ BK1.out huQ rfl HIQ.out ?_; (try simp only [Act.put, List.setIfInBounds_toArray, List.set_cons_zero, List.set_cons_succ])) | ((with_reducible refine gate_dst (N := 16) rfl ?_); refine wpList_load_row rfl 24 _ rfl g1 rfl 24 #[.int .i64 x.f0, .int .i64 x.f1, .string x.f2, .slice A x.f3.length c] (0, 0) _ BK1.out huQ rfl HIQ.out ?_; (try simp only [Act.put, List.setIfInBounds_toArray, List.set_cons_zero, List.set_cons_succ])) | ((with_reducible refine gate_dst (N := 19) rfl ?_); refine wpList_load_row rfl 24 _ rfl g1 rfl 24 #[.int .i64 x.f0, .int .i64 x.f1, .string x.f2, .slice A x.f3.length c] (0, 0) _ BK1.out huQ rfl HIQ.out ?_; (try simp only [Act.put, List.setIfInBounds_toArray, List.set_cons_zero, List.set_cons_succ])) | ((with_reducible refine gate_callee (f := 6) rfl ?_); refine goesL_ (some 13) rfl rfl Try.func6 (by kernel_rfl) rfl #[.agg #[.int .i64 x.f0, .int .i64 x.f1, .string x.f2, .slice A x.f3.length c], .int .i64 1048576] rfl (by (try simp only [List.map_toArray, List.map_cons, List.map_nil]); first | done | rfl) ?_; refine (laws_szPattern.calls ks x.f0 x.f1 x.f2 A c x.f3 1048576 (lf) _ (Kd.C_below H3.out HB.out) L3.out HS.out).mono ?_; rintro e wd ⟨rfl, hb⟩; refine ⟨_, rfl, ?_⟩; have n0_ := Aside0.mk (below_step HB.out hb); have n1_ := Aside0.mk (blk_below BK1.out hb); clear HB BK1; have HB := n0_; have BK1 := n1_; clear n0_ n1_; clear hb; (try simp only [Act.put, List.setIfInBounds_toArray, List.set_cons_zero, List.set_cons_succ])) | ((with_reducible refine gate_callee (f := 8) rfl ?_); refine goesL_ (some 17) rfl rfl Try.func8 (by kernel_rfl) rfl #[.agg #[.int .i64 x.f0, .int .i64 x.f1, .string x.f2, .slice A x.f3.length c]] rfl (by (try simp only [List.map_toArray, List.map_cons, List.map_nil]); first | done | rfl) ?_; refine (laws_toPattern.calls kt x.f0 x.f1 x.f2 A c x.f3 cx.f0 cx.f1 cx.f2 cx.f3 _ (Kd.C_below H3.out HB.out) L3.out HT.out).mono ?_; rintro e wd ⟨v17, rfl, ho, hb⟩; refine ⟨_, rfl, ?_⟩; have n0_ := Aside0.mk (below_step HB.out hb); have n1_ := Aside0.mk (blk_below BK1.out hb); clear HB BK1; have HB := n0_; have BK1 := n1_; clear n0_ n1_; have J17 := Aside0.mk ho; obtain ⟨A17, c17, e17⟩ := Kd.R_slice ho; subst e17; clear ho hb; (try simp only [Act.put, List.setIfInBounds_toArray, List.set_cons_zero, List.set_cons_succ])) | ((with_reducible refine gate_callee (f := 7) rfl ?_); refine goesL_ (some 18) rfl rfl Try.func7 (by kernel_rfl) rfl #[.agg #[.int .i64 cx.f0, .int .i64 cx.f1, .string cx.f2, .slice A17 cx.f3.length c17]] rfl (by (try simp only [List.map_toArray, List.map_cons, List.map_nil]); first | done | rfl) ?_; refine (spec_dn cx FX.out HCN.out A17 c17 _ (Kd.R_reads' J17.out).2.2 (Kd.R_reads' J17.out).2.1).mono ?_; rintro e wd ⟨v4, rfl, ho, hb⟩; refine ⟨_, rfl, ?_⟩; rw [HD.out] at ho; have n0_ := Aside0.mk (below_step HB.out hb); have n1_ := Aside0.mk (blk_below BK1.out hb); clear HB BK1; have HB := n0_; have BK1 := n1_; clear n0_ n1_; obtain ⟨p4, q4, i4⟩ : ∃ p4 q4, Go.Proofs.Ytomakpfmghekfaa.RowLaw.IR Kd.string 9 wd p4 q4 v4 dl := ⟨_, _, Go.Proofs.Ytomakpfmghekfaa.RowLaw.IR.of ho⟩; have I4 := Aside0.mk i4; obtain ⟨A4, c4, e4⟩ := Kd.R_slice ho; subst e4; clear ho hb i4 J17; (try simp only [Act.put, List.setIfInBounds_toArray, List.set_cons_zero, List.set_cons_succ])) | ((with_reducible refine gate_callee (f := 8) rfl ?_); refine goesL_ (some 20) rfl rfl Try.func8 (by kernel_rfl) rfl #[.agg #[.int .i64 x.f0, .int .i64 x.f1, .string x.f2, .slice A x.f3.length c]] rfl (by (try simp only [List.map_toArray, List.map_cons, List.map_nil]); first | done | rfl) ?_; refine (laws_toPattern.calls kt x.f0 x.f1 x.f2 A c x.f3 cx.f0 cx.f1 cx.f2 cx.f3 _ (Kd.C_below H3.out HB.out) L3.out HT.out).mono ?_; rintro e wd ⟨v5, rfl, ho, hb⟩; refine ⟨_, rfl, ?_⟩; obtain ⟨p5, q5, i4, i5, m5, z5, y5⟩ : ∃ p5 q5, Go.Proofs.Ytomakpfmghekfaa.RowLaw.IR Kd.string 9 wd p4 p5 (.slice A4 dl.length c4) dl ∧ Go.Proofs.Ytomakpfmghekfaa.RowLaw.IR k30 30 wd p5 q5 v5 cx.f3 ∧ w.heap.size ≤ p5 ∧ p5 ≤ wd.heap.size ∧ g1 < p5 := ⟨_, _, Go.Proofs.Ytomakpfmghekfaa.RowLaw.IR.below (Go.Proofs.Ytomakpfmghekfaa.RowLaw.IR.of I4.out) hb, Go.Proofs.Ytomakpfmghekfaa.RowLaw.IR.of ho, HB.out.size, hb.size, blk_lt BK1.out⟩; have n0_ := Aside0.mk (below_step HB.out hb); have n1_ := Aside0.mk (blk_below BK1.out hb); clear HB BK1; have HB := n0_; have BK1 := n1_; clear n0_ n1_; clear I4; have I4 := Aside0.mk i4; have I5 := Aside0.mk i5; have M5 := Aside0.mk m5; have SZ := Aside0.mk z5; have G1 := Aside0.mk y5; obtain ⟨A5, c5, e5⟩ := Kd.R_slice ho; subst e5; clear ho hb i4 i5 m5 z5 y5; (try simp only [Act.put, List.setIfInBounds_toArray, List.set_cons_zero, List.set_cons_succ])) | ((with_reducible refine gate_dst (N := 5) rfl ?_); refine box_event ?hg (N := 5) ?hd (cs := #[.int .i64 0, .int .i64 0, .string (⟨#[]⟩ : ByteArray), .slice none 0 0]) (t := 30) ?hr ?_; (case hd => rfl); (case hg => rfl); (case hr => first | (go_simp; done) | (go_simp; rfl)); intro g5 hg w6 hbox hb; have HX := Aside0.mk hb; have HGE := Aside0.mk (Nat.le_of_eq hg.symm); have BK6 := Aside0.mk hbox; clear hg hbox hb; (try simp only [Act.put, List.setIfInBounds_toArray, List.set_cons_zero, List.set_cons_succ])) | ((with_reducible refine gate_store (t := 30) (p := 5) rfl ?_); refine Go.Proofs.Ytomakpfmghekfaa.RowLaw.put_event rfl 30 _ _ rfl g5 0 (.agg #[.int .i64 cx.f0, .int .i64 cx.f1, .string cx.f2, .slice A5 cx.f3.length c5]) rfl rfl [.int .i64 cx.f0, .int .i64 cx.f1, .string cx.f2, .slice A5 cx.f3.length c5] rfl 30 _ #[.int .i64 cx.f0, .int .i64 cx.f1, .string cx.f2, .slice A5 cx.f3.length c5] BK6.out HIP.out (Nat.le_of_ble_eq_true rfl) rfl rfl ?_; intro w7 hk hoth hbel hz; have hb := hbel _ _ HX.out HGE.out; have BK5 := Aside0.mk hk; have n0_ := Aside0.mk (below_step HB.out hb); have n1_ := Aside0.mk (blk_below BK1.out hb); have n2_ := Aside0.mk (Go.Proofs.Ytomakpfmghekfaa.RowLaw.IR.below I4.out hb); have n3_ := Aside0.mk (Go.Proofs.Ytomakpfmghekfaa.RowLaw.IR.below I5.out hb); have n4_ := Aside0.mk (Nat.le_trans SZ.out (Below.size hb)); clear HB BK1 I4 I5 SZ; have HB := n0_; have BK1 := n1_; have I4 := n2_; have I5 := n3_; have SZ := n4_; clear n0_ n1_ n2_ n3_ n4_; clear hk hoth hbel hz hb HX HGE BK6; (try simp only [Act.put, List.setIfInBounds_toArray, List.set_cons_zero, List.set_cons_succ])) | ((with_reducible refine gate_dst (N := 21) rfl ?_); refine wpList_load_row rfl 30 _ rfl g5 rfl 30 #[.int .i64 cx.f0, .int .i64 cx.f1, .string cx.f2, .slice A5 cx.f3.length c5] (0, 0) _ BK5.out huP rfl HIP.out ?_; (try simp only [Act.put, List.setIfInBounds_toArray, List.set_cons_zero, List.set_cons_succ])) | ((with_reducible refine gate_callee (f := 9) rfl ?_); refine goesL_ (some 22) rfl rfl Try.func9 (by kernel_rfl) rfl #[.agg #[.int .i64 cx.f0, .int .i64 cx.f1, .string cx.f2, .slice A5 cx.f3.length c5]] rfl (by (try simp only [List.map_toArray, List.map_cons, List.map_nil]); first | done | rfl) ?_; refine (impl_dn cx FX.out HCN.out A5 c5 _ (Kd.R_reads' I5.out).2.2 (Kd.R_reads' I5.out).2.1).mono ?_; rintro e wd ⟨v6, rfl, ho, hb⟩; refine ⟨_, rfl, ?_⟩; rw [HD.out] at ho; obtain ⟨p6, q6, i5, i6, m6, z6, y6⟩ : ∃ p6 q6, Go.Proofs.Ytomakpfmghekfaa.RowLaw.IR k30 30 wd p5 p6 (.slice A5 cx.f3.length c5) cx.f3 ∧ Go.Proofs.Ytomakpfmghekfaa.RowLaw.IR Kd.string 9 wd p6 q6 v6 dl ∧ w.heap.size ≤ p6 ∧ p5 ≤ p6 ∧ True := ⟨_, _, Go.Proofs.Ytomakpfmghekfaa.RowLaw.IR.below (Go.Proofs.Ytomakpfmghekfaa.RowLaw.IR.of I5.out) hb, Go.Proofs.Ytomakpfmghekfaa.RowLaw.IR.of ho, HB.out.size, SZ.out, trivial⟩; have n0_ := Aside0.mk (below_step HB.out hb); have n1_ := Aside0.mk (blk_below BK1.out hb); have n2_ := Aside0.mk (blk_below BK5.out hb); have n3_ := Aside0.mk (Go.Proofs.Ytomakpfmghekfaa.RowLaw.IR.below I4.out hb); have n4_ := Aside0.mk (Nat.le_trans SZ.out (Below.size hb)); clear HB BK1 BK5 I4 SZ; have HB := n0_; have BK1 := n1_; have BK5 := n2_; have I4 := n3_; have SZ := n4_; clear n0_ n1_ n2_ n3_ n4_; clear I5; have I5 := Aside0.mk i5; have I6 := Aside0.mk i6; have M6 := Aside0.mk m6; have P56 := Aside0.mk z6; obtain ⟨A6, c6, e6⟩ := Kd.R_slice ho; subst e6; clear ho hb i5 i6 m6 z6 y6; (try simp only [Act.put, List.setIfInBounds_toArray, List.set_cons_zero, List.set_cons_succ])) | ((with_reducible refine gate_callee (f := 10) rfl ?_); refine goesL_ (some 25) rfl rfl Try.func10 (by kernel_rfl) rfl #[.slice A6 dl.length c6, .slice A4 dl.length c4] rfl (by (try simp only [List.map_toArray, List.map_cons, List.map_nil]); first | done | rfl) ?_; refine (laws_eqStringS.calls kq A6 c6 dl A4 c4 dl true _ (Kd.R_reads' I6.out).2.2 (Kd.R_reads' I6.out).2.1 (Kd.R_reads' I4.out).2.2 (Kd.R_reads' I4.out).2.1 HQ.out).mono ?_; rintro e wd ⟨rfl, ⟨md, rfl⟩⟩; refine ⟨_, rfl, ?_⟩; have n0_ := Aside0.mk (below_step HB.out (pw_below_drewN (Below.refl _ _) md)); have n1_ := Aside0.mk (blk_below BK1.out (pw_below_drewN (Below.refl _ _) md)); have n2_ := Aside0.mk (blk_below BK5.out (pw_below_drewN (Below.refl _ _) md)); have n3_ := Aside0.mk (Go.Proofs.Ytomakpfmghekfaa.RowLaw.IR.below I4.out (pw_below_drewN (Below.refl _ _) md)); have n4_ := Aside0.mk (Go.Proofs.Ytomakpfmghekfaa.RowLaw.IR.below I5.out (pw_below_drewN (Below.refl _ _) md)); have n5_ := Aside0.mk (Go.Proofs.Ytomakpfmghekfaa.RowLaw.IR.below I6.out (pw_below_drewN (Below.refl _ _) md)); have n6_ := Aside0.mk (Nat.le_trans SZ.out (pw_below_drewN (Below.refl 0 _) md).size); clear HB BK1 BK5 I4 I5 I6 SZ; have HB := n0_; have BK1 := n1_; have BK5 := n2_; have I4 := n3_; have I5 := n4_; have I6 := n5_; have SZ := n6_; clear n0_ n1_ n2_ n3_ n4_ n5_ n6_; (try simp only [Act.put, List.setIfInBounds_toArray, List.set_cons_zero, List.set_cons_succ])))
    have n0_ := Aside0.mk (below_step HB.out (below_drew1 (Below.refl _ _)))
    have n1_ := Aside0.mk (blk_below BK1.out (below_drew1 (Below.refl _ _)))
    have n2_ := Aside0.mk (blk_below BK5.out (below_drew1 (Below.refl _ _)))
    have n3_ := Aside0.mk (Go.Proofs.Ytomakpfmghekfaa.RowLaw.IR.below I4.out (below_drew1 (Below.refl _ _)))
    have n4_ := Aside0.mk (Go.Proofs.Ytomakpfmghekfaa.RowLaw.IR.below I5.out (below_drew1 (Below.refl _ _)))
    have n5_ := Aside0.mk (Go.Proofs.Ytomakpfmghekfaa.RowLaw.IR.below I6.out (below_drew1 (Below.refl _ _)))
    have n6_ := Aside0.mk (Nat.le_trans SZ.out (below_drew1 (Below.refl 0 _)).size)
    clear HB BK1 BK5 I4 I5 I6 SZ
    have HB := n0_
    have BK1 := n1_
    have BK5 := n2_
    have I4 := n3_
    have I5 := n4_
    have I6 := n5_
    have SZ := n6_
    clear n0_ n1_ n2_ n3_ n4_ n5_ n6_
    refine start_ (n := 5) (S := fun w' => w'.heap[g5]? = some (.cells #[.int .i64 cx.f0, .int .i64 cx.f1, .string cx.f2, .slice A5 cx.f3.length c5] 30 (0, 0)) ∧ w'.heap[g1]? = some (.cells #[.int .i64 x.f0, .int .i64 x.f1, .string x.f2, .slice A x.f3.length c] 24 (0, 0))) (ds := []) #[false, false, false, false, false] (by kernel_rfl) rfl rfl ⟨BK5.out, BK1.out⟩ (fun hHeld => ?_)
    generalize _root_.Go.World.drew _ = wd at HB BK1 BK5 I4 I5 I6 SZ hHeld ⊢
    refine take_ (i := 0) (N := some 27) (v := .agg #[.int .i64 cx.f0, .int .i64 cx.f1, .string cx.f2, .slice A5 cx.f3.length c5]) (a' := ?_) #[true, false, false, false, false] rfl rfl (by kernel_rfl) (fun _ _ _ h => h) (Or.inl ⟨by rfl, fun w' s => Go.Proofs.Ytomakpfmghekfaa.RowLaw.load_run 30 _ rfl g5 rfl 30 _ _ s.1 huP rfl HIP.out⟩) hHeld ?_ ?_
    rotate_left
    · simp only [Act.put, List.setIfInBounds_toArray, List.set_cons_zero, List.set_cons_succ, i64_w, i32_w]
      rfl
    refine take_ (i := 1) (N := some 28) (v := .agg #[.int .i64 x.f0, .int .i64 x.f1, .string x.f2, .slice A x.f3.length c]) (a' := ?_) #[true, true, false, false, false] rfl rfl (by kernel_rfl) (fun _ _ _ h => h) (Or.inl ⟨by rfl, fun w' s => Go.Proofs.Ytomakpfmghekfaa.RowLaw.load_run 24 _ rfl g1 rfl 24 _ _ s.2 huQ rfl HIQ.out⟩) hHeld ?_ ?_
    rotate_left
    · simp only [Act.put, List.setIfInBounds_toArray, List.set_cons_zero, List.set_cons_succ, i64_w, i32_w]
      rfl
    refine one_ (i := 2) (N := some 29) #[true, true, true, false, false] rfl rfl (by kernel_rfl) (by decide) (fun K hK => ?_)
    refine goes_ Try.func8 (by kernel_rfl) rfl #[.agg #[.int .i64 x.f0, .int .i64 x.f1, .string x.f2, .slice A x.f3.length c]] (by rfl) rfl rfl (by (try simp only [List.map_toArray, List.map_cons, List.map_nil]); first | done | rfl) ?_
    with_reducible refine (laws_toPattern.calls kt x.f0 x.f1 x.f2 A c x.f3 cx.f0 cx.f1 cx.f2 cx.f3 _ ?side1 ?side2 HT.out).mono ?_
    (case side1 => exact Kd.C_below H3.out HB.out)
    (case side2 => exact L3.out)
    rintro e wc ⟨v29, rfl, ho, hb⟩
    refine ⟨_, rfl, ?_⟩
    have n0_ := Aside0.mk (below_step HB.out hb)
    have n1_ := Aside0.mk (blk_below BK1.out hb)
    have n2_ := Aside0.mk (blk_below BK5.out hb)
    have n3_ := Aside0.mk (Go.Proofs.Ytomakpfmghekfaa.RowLaw.IR.below I4.out hb)
    have n4_ := Aside0.mk (Go.Proofs.Ytomakpfmghekfaa.RowLaw.IR.below I5.out hb)
    have n5_ := Aside0.mk (Go.Proofs.Ytomakpfmghekfaa.RowLaw.IR.below I6.out hb)
    have n6_ := Aside0.mk (Nat.le_trans SZ.out (Below.size hb))
    clear HB BK1 BK5 I4 I5 I6 SZ
    have HB := n0_
    have BK1 := n1_
    have BK5 := n2_
    have I4 := n3_
    have I5 := n4_
    have I6 := n5_
    have SZ := n6_
    clear n0_ n1_ n2_ n3_ n4_ n5_ n6_
    have J29 := Aside0.mk ho
    obtain ⟨A29, c29, e29⟩ := Kd.R_slice ho
    subst e29
    clear ho hb
    refine hK.out _ _ ⟨BK5.out, BK1.out⟩ (fun hHeld => ?_)
    clear hK K
    refine norm_ (a' := ?_) ?_ ?_
    rotate_left
    · show Act.put _ (some 29) _ = _
      simp only [Act.put, List.setIfInBounds_toArray, List.set_cons_zero, List.set_cons_succ, i64_w, i32_w]
      rfl
    refine one_ (i := 3) (N := some 30) #[true, true, true, true, false] rfl rfl (by kernel_rfl) (by decide) (fun K hK => ?_)
    refine goes_ Try.func11 (by kernel_rfl) rfl #[.agg #[.int .i64 cx.f0, .int .i64 cx.f1, .string cx.f2, .slice A5 cx.f3.length c5], .agg #[.int .i64 cx.f0, .int .i64 cx.f1, .string cx.f2, .slice A29 cx.f3.length c29]] (by rfl) rfl rfl (by (try simp only [List.map_toArray, List.map_cons, List.map_nil]); first | done | rfl) ?_
    with_reducible refine (laws_eqPattern.calls ke cx.f0 cx.f1 cx.f2 A5 c5 cx.f3 cx.f0 cx.f1 cx.f2 A29 c29 cx.f3 true _ ?side1 ?side2 ?side3 ?side4 HE.out).mono ?_
    (case side1 => exact (Kd.R_reads' I5.out).2.2)
    (case side2 => exact (Kd.R_reads' I5.out).2.1)
    (case side3 => exact (Kd.R_reads' J29.out).2.2)
    (case side4 => exact (Kd.R_reads' J29.out).2.1)
    rintro e we ⟨rfl, hb⟩
    refine ⟨_, rfl, ?_⟩
    have n0_ := Aside0.mk (below_step HB.out hb)
    have n1_ := Aside0.mk (blk_below BK1.out hb)
    have n2_ := Aside0.mk (blk_below BK5.out hb)
    have n3_ := Aside0.mk (Go.Proofs.Ytomakpfmghekfaa.RowLaw.IR.below I4.out hb)
    have n4_ := Aside0.mk (Go.Proofs.Ytomakpfmghekfaa.RowLaw.IR.below I5.out hb)
    have n5_ := Aside0.mk (Go.Proofs.Ytomakpfmghekfaa.RowLaw.IR.below I6.out hb)
    have n6_ := Aside0.mk (Nat.le_trans SZ.out (Below.size hb))
    clear HB BK1 BK5 I4 I5 I6 SZ
    have HB := n0_
    have BK1 := n1_
    have BK5 := n2_
    have I4 := n3_
    have I5 := n4_
    have I6 := n5_
    have SZ := n6_
    clear n0_ n1_ n2_ n3_ n4_ n5_ n6_
    clear hb J29
    refine hK.out _ _ ⟨BK5.out, BK1.out⟩ (fun hHeld => ?_)
    clear hK K
    refine norm_ (a' := ?_) ?_ ?_
    rotate_left
    · show Act.put _ (some 30) _ = _
      simp only [Act.put, List.setIfInBounds_toArray, List.set_cons_zero, List.set_cons_succ, i64_w, i32_w]
      rfl
    refine pure_ (i := 4) (N := some 31) (v := ?_) (a' := ?_) #[true, true, true, true, true] rfl rfl (by kernel_rfl) (fun _ _ _ h => h) (Or.inl ⟨by rfl, ?_⟩) ?_ ?_
    rotate_left
    · intro w'
      go_simp
      with_reducible rfl
    rotate_left
    · simp only [Act.put, List.setIfInBounds_toArray, List.set_cons_zero, List.set_cons_succ, i64_w, i32_w]
      rfl
    refine done_ (by kernel_rfl) ?_
    go_wp2_with (first | ((with_reducible refine gate_dst (N := 32) rfl ?_); refine wpList_load_row rfl 30 _ rfl g5 rfl 30 #[.int .i64 cx.f0, .int .i64 cx.f1, .string cx.f2, .slice A5 cx.f3.length c5] (0, 0) _ BK5.out huP rfl HIP.out ?_; (try simp only [Act.put, List.setIfInBounds_toArray, List.set_cons_zero, List.set_cons_succ])) | ((with_reducible refine gate_dst (N := 54) rfl ?_); refine wpList_load_row rfl 24 _ rfl g1 rfl 24 #[.int .i64 x.f0, .int .i64 x.f1, .string x.f2, .slice A x.f3.length c] (0, 0) _ BK1.out huQ rfl HIQ.out ?_; (try simp only [Act.put, List.setIfInBounds_toArray, List.set_cons_zero, List.set_cons_succ])) | ((with_reducible refine gate_callee (f := 12) rfl ?_); refine goesL_ (some 34) rfl rfl Try.func12 (by kernel_rfl) rfl #[.agg #[.int .i64 cx.f0, .int .i64 cx.f1, .string cx.f2, .slice A5 cx.f3.length c5], .int .i64 1] rfl (by (try simp only [List.map_toArray, List.map_cons, List.map_nil]); first | done | rfl) ?_; refine (mark_calls cx (.slice A5 cx.f3.length c5) 1 p5 p6 _ (Shp.of_R _ cx.f3 (Nat.le_refl _) _ I5.out) SZ.out (by omega) HMC.out).mono ?_; rintro e wm ⟨he, hm⟩; rw [HTT.out] at he; subst he; refine ⟨_, rfl, ?_⟩; have n0_ := Aside0.mk (HB.out.trans (hm.bel.mono M5.out)); have n1_ := Aside0.mk ((hm.bel.block g1 G1.out).trans BK1.out); have n2_ := Aside0.mk (Kd.R_move I4.out (fun k hk => hm.bel.block k hk.2)); have n3_ := Aside0.mk (Kd.R_step I6.out (fun k hk hlt => hm.out k hk.1 hlt)); clear HB BK1 I4 I6; have HB := n0_; have BK1 := n1_; have I4 := n2_; have I6 := n3_; clear n0_ n1_ n2_ n3_; clear hm BK5 I5 SZ; (try simp only [Act.put, List.setIfInBounds_toArray, List.set_cons_zero, List.set_cons_succ])) | ((with_reducible refine gate_callee (f := 10) rfl ?_); (with_reducible refine gate_dst (N := 40) rfl ?_); refine gate_guard (by rfl) ?_; dsimp only; refine goesL_ (some 40) rfl rfl Try.func10 (by kernel_rfl) rfl #[.slice A6 dl.length c6, .slice A4 dl.length c4] rfl (by (try simp only [List.map_toArray, List.map_cons, List.map_nil]); first | done | rfl) ?_; refine (laws_eqStringS.calls kq A6 c6 dl A4 c4 dl true _ (Kd.R_reads' I6.out).2.2 (Kd.R_reads' I6.out).2.1 (Kd.R_reads' I4.out).2.2 (Kd.R_reads' I4.out).2.1 HQ.out).mono ?_; rintro e wd2 ⟨rfl, ⟨md, rfl⟩⟩; refine ⟨_, rfl, ?_⟩; have n0_ := Aside0.mk (below_step HB.out (pw_below_drewN (Below.refl _ _) md)); have n1_ := Aside0.mk (blk_below BK1.out (pw_below_drewN (Below.refl _ _) md)); have n2_ := Aside0.mk (Go.Proofs.Ytomakpfmghekfaa.RowLaw.IR.below I4.out (pw_below_drewN (Below.refl _ _) md)); have n3_ := Aside0.mk (Go.Proofs.Ytomakpfmghekfaa.RowLaw.IR.below I6.out (pw_below_drewN (Below.refl _ _) md)); clear HB BK1 I4 I6; have HB := n0_; have BK1 := n1_; have I4 := n2_; have I6 := n3_; clear n0_ n1_ n2_ n3_; (try simp only [Act.put, List.setIfInBounds_toArray, List.set_cons_zero, List.set_cons_succ])) | ((with_reducible refine gate_callee (f := 13) rfl ?_); refine goesL_ (some 45) rfl rfl Try.func13 (by kernel_rfl) rfl #[.slice A6 dl.length c6, .int .i64 1] rfl (by (try simp only [List.map_toArray, List.map_cons, List.map_nil]); first | done | rfl) ?_; refine (laws_markStringS.calls km (fun k => p6 ≤ k ∧ k < q6) (.slice A6 dl.length c6) dl 1 N rl w _ HB.out (Kd.R_lower I6.out M6.out) HM.out).mono ?_; rintro e wk ⟨rfl, ho, hb, hk⟩; refine ⟨_, rfl, ?_⟩; have HLN := Aside0.mk (Kd.R_reads' ho).1; have n0_ := Aside0.mk (hb); have n1_ := Aside0.mk (blk_kept BK1.out hk (fun hS => absurd hS.1 (by have := G1.out; have := P56.out; omega))); have n2_ := Aside0.mk (Kd.R_kept I4.out hk (fun k h1 h2 => absurd h2.1 (by have := h1.2; have := P56.out; omega))); clear HB BK1 I4; have HB := n0_; have BK1 := n1_; have I4 := n2_; clear n0_ n1_ n2_; clear I6; have J6 := Aside0.mk ho; clear ho hb hk; (try simp only [Act.put, List.setIfInBounds_toArray, List.set_cons_zero, List.set_cons_succ])) | ((with_reducible refine gate_callee (f := 14) rfl ?_); refine goesL_ (some 48) rfl rfl Try.func14 (by kernel_rfl) rfl #[.slice A6 dl.length c6, .int .i64 1] rfl (by (try simp only [List.map_toArray, List.map_cons, List.map_nil]); first | done | rfl) ?_; refine (calls_of_args (args' := #[.slice A6 rl.length c6, .int .i64 1]) (by rw [HLN.out]) (laws_heldStringS.calls kh A6 c6 rl 1 N _ (Kd.R_reads' J6.out).2.2 (Nat.le_trans (Nat.le_of_eq (Kd.R_reads' J6.out).1.symm) (Kd.R_reads' J6.out).2.1) HH.out)).mono ?_; rintro e wh ⟨rfl, hb⟩; refine ⟨_, rfl, ?_⟩; have n0_ := Aside0.mk (below_step HB.out hb); have n1_ := Aside0.mk (blk_below BK1.out hb); have n2_ := Aside0.mk (Go.Proofs.Ytomakpfmghekfaa.RowLaw.IR.below I4.out hb); have n3_ := Aside0.mk (Kd.R_below J6.out hb); clear HB BK1 I4 J6; have HB := n0_; have BK1 := n1_; have I4 := n2_; have J6 := n3_; clear n0_ n1_ n2_ n3_; clear hb; (try simp only [Act.put, List.setIfInBounds_toArray, List.set_cons_zero, List.set_cons_succ])) | ((with_reducible refine gate_callee (f := 8) rfl ?_); refine goesL_ (some 55) rfl rfl Try.func8 (by kernel_rfl) rfl #[.agg #[.int .i64 x.f0, .int .i64 x.f1, .string x.f2, .slice A x.f3.length c]] rfl (by (try simp only [List.map_toArray, List.map_cons, List.map_nil]); first | done | rfl) ?_; refine (laws_toPattern.calls kt x.f0 x.f1 x.f2 A c x.f3 cx.f0 cx.f1 cx.f2 cx.f3 _ (Kd.C_below H3.out HB.out) L3.out HT.out).mono ?_; rintro e wd ⟨v55, rfl, ho, hb⟩; refine ⟨_, rfl, ?_⟩; have n0_ := Aside0.mk (below_step HB.out hb); have n1_ := Aside0.mk (blk_below BK1.out hb); have n2_ := Aside0.mk (Go.Proofs.Ytomakpfmghekfaa.RowLaw.IR.below I4.out hb); have n3_ := Aside0.mk (Kd.R_below J6.out hb); clear HB BK1 I4 J6; have HB := n0_; have BK1 := n1_; have I4 := n2_; have J6 := n3_; clear n0_ n1_ n2_ n3_; have J55 := Aside0.mk ho; obtain ⟨A55, c55, e55⟩ := Kd.R_slice ho; subst e55; clear ho hb; (try simp only [Act.put, List.setIfInBounds_toArray, List.set_cons_zero, List.set_cons_succ])) | ((with_reducible refine gate_callee (f := 9) rfl ?_); refine goesL_ (some 56) rfl rfl Try.func9 (by kernel_rfl) rfl #[.agg #[.int .i64 cx.f0, .int .i64 cx.f1, .string cx.f2, .slice A55 cx.f3.length c55]] rfl (by (try simp only [List.map_toArray, List.map_cons, List.map_nil]); first | done | rfl) ?_; refine (impl_dn cx FX.out HCN.out A55 c55 _ (Kd.R_reads' J55.out).2.2 (Kd.R_reads' J55.out).2.1).mono ?_; rintro e wd ⟨v10, rfl, ho, hb⟩; refine ⟨_, rfl, ?_⟩; rw [HD.out] at ho; have n0_ := Aside0.mk (below_step HB.out hb); have n1_ := Aside0.mk (Go.Proofs.Ytomakpfmghekfaa.RowLaw.IR.below I4.out hb); have n2_ := Aside0.mk (Kd.R_below J6.out hb); clear HB I4 J6; have HB := n0_; have I4 := n1_; have J6 := n2_; clear n0_ n1_ n2_; have J10 := Aside0.mk ho; obtain ⟨A10, c10, e10⟩ := Kd.R_slice ho; subst e10; clear ho hb J55 BK1; (try simp only [Act.put, List.setIfInBounds_toArray, List.set_cons_zero, List.set_cons_succ])) | ((with_reducible refine gate_callee (f := 10) rfl ?_); refine goesL_ (some 59) rfl rfl Try.func10 (by kernel_rfl) rfl #[.slice A10 dl.length c10, .slice A4 dl.length c4] rfl (by (try simp only [List.map_toArray, List.map_cons, List.map_nil]); first | done | rfl) ?_; refine (laws_eqStringS.calls kq A10 c10 dl A4 c4 dl true _ (Kd.R_reads' J10.out).2.2 (Kd.R_reads' J10.out).2.1 (Kd.R_reads' I4.out).2.2 (Kd.R_reads' I4.out).2.1 HQ.out).mono ?_; rintro e wd3 ⟨rfl, ⟨md, rfl⟩⟩; refine ⟨_, rfl, ?_⟩; have n0_ := Aside0.mk (below_step HB.out (pw_below_drewN (Below.refl _ _) md)); have n1_ := Aside0.mk (Kd.R_below J6.out (pw_below_drewN (Below.refl _ _) md)); clear HB J6; have HB := n0_; have J6 := n1_; clear n0_ n1_; (try simp only [Act.put, List.setIfInBounds_toArray, List.set_cons_zero, List.set_cons_succ])) | ((with_reducible refine gate_callee (f := 14) rfl ?_); refine goesL_ (some 63) rfl rfl Try.func14 (by kernel_rfl) rfl #[.slice A6 dl.length c6, .int .i64 1] rfl (by (try simp only [List.map_toArray, List.map_cons, List.map_nil]); first | done | rfl) ?_; refine (calls_of_args (args' := #[.slice A6 rl.length c6, .int .i64 1]) (by rw [HLN.out]) (laws_heldStringS.calls kh A6 c6 rl 1 N _ (Kd.R_reads' J6.out).2.2 (Nat.le_trans (Nat.le_of_eq (Kd.R_reads' J6.out).1.symm) (Kd.R_reads' J6.out).2.1) HH.out)).mono ?_; rintro e wh2 ⟨rfl, hb⟩; refine ⟨_, rfl, ?_⟩; have n0_ := Aside0.mk (below_step HB.out hb); clear HB; have HB := n0_; clear n0_; clear hb; (try simp only [Act.put, List.setIfInBounds_toArray, List.set_cons_zero, List.set_cons_succ])))
    go_ret
    exact ⟨rfl, HB.out⟩
  · rw [if_neg hz] at hs
    have HS := Aside0.mk hs
    clear hs hz
    go_enter Try.func3, Try.ntmps3
    go_wp2_with (first | ((with_reducible refine gate_dst (N := 1) rfl ?_); refine box_event ?hg (N := 1) ?hd (cs := #[.int .i64 x.f0, .int .i64 x.f1, .string x.f2, .slice A x.f3.length c]) (t := 24) ?hr ?_; (case hd => rfl); (case hg => rfl); (case hr => first | (go_simp; done) | (go_simp; rfl)); intro g1 hg wg1 hbox hb; have n0_ := Aside0.mk (below_step HB.out hb); clear HB; have HB := n0_; clear n0_; have BK1 := Aside0.mk hbox; clear hbox hg hb; (try simp only [Act.put, List.setIfInBounds_toArray, List.set_cons_zero, List.set_cons_succ])) | ((with_reducible refine gate_dst (N := 11) rfl ?_); refine wpList_load_row rfl 24 _ rfl g1 rfl 24 #[.int .i64 x.f0, .int .i64 x.f1, .string x.f2, .slice A x.f3.length c] (0, 0) _ BK1.out huQ rfl HIQ.out ?_; (try simp only [Act.put, List.setIfInBounds_toArray, List.set_cons_zero, List.set_cons_succ])) | ((with_reducible refine gate_callee (f := 6) rfl ?_); refine goesL_ (some 13) rfl rfl Try.func6 (by kernel_rfl) rfl #[.agg #[.int .i64 x.f0, .int .i64 x.f1, .string x.f2, .slice A x.f3.length c], .int .i64 1048576] rfl (by (try simp only [List.map_toArray, List.map_cons, List.map_nil]); first | done | rfl) ?_; refine (laws_szPattern.calls ks x.f0 x.f1 x.f2 A c x.f3 1048576 (-1) _ (Kd.C_below H3.out HB.out) L3.out HS.out).mono ?_; rintro e wd ⟨rfl, hb⟩; refine ⟨_, rfl, ?_⟩; have n0_ := Aside0.mk (below_step HB.out hb); have n1_ := Aside0.mk (blk_below BK1.out hb); clear HB BK1; have HB := n0_; have BK1 := n1_; clear n0_ n1_; clear hb; (try simp only [Act.put, List.setIfInBounds_toArray, List.set_cons_zero, List.set_cons_succ])))
    go_ret
    exact ⟨rfl, HB.out⟩

end Go.Proofs.Ytomakpfmghekfaa.PFnExactDeferredNames
