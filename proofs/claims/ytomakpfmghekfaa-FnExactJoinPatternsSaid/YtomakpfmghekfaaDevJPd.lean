/- By hand: what the law FnExactJoinPatterns reaches beyond the printed texts, and the law's own function. Conditions: none beyond each statement. -/
import Derived.Test.YtomakpfmghekfaaProg
import Derived.Below
import Derived.Deep.Draws
import Derived.Deep.AppendLies
import Derived.Maps.AppendAt
import Derived.OwnWalk
import Derived.Laws.BytesArg
import Derived.Laws.MakeOwn
import Derived.Laws.OwnMore
import Derived.Deep.OwnRows
import Derived.Tactics
import Derived.Lib.ConvBytes
import Derived.Laws.Slices
import Derived.WalkKit
import Derived.KernelRfl
import Derived.RowKit3
import Derived.Deep.LoopGhost
import Derived.Deep.QuietTactic
import Derived.BigQuiet
import Derived.WideLaws
import Derived.Deep.DeepCutAuto
import Derived.Deep.CutBlock
import Derived.Deep.RegionHeld3
import Derived.Laws.Rows
import Derived.Lib.AppendStr
import Derived.ArgAppend
import Derived.Laws.IdiomCopy
import Derived.OrdersHeld
import Derived.Laws.BitsLemmas
import Derived.RowKit
import Derived.Test.YtomakpfmghekfaaWWords
import Derived.Test.YtomakpfmghekfaaWLast
import Derived.Test.YtomakpfmghekfaaWTab
import Derived.Test.YtomakpfmghekfaaWFour
import Derived.Test.YtomakpfmghekfaaWQPut
import Derived.Test.YtomakpfmghekfaaWApart
import Derived.Test.YtomakpfmghekfaaWArr
import Derived.Test.YtomakpfmghekfaaWZeros
import Derived.Test.YtomakpfmghekfaaWFoot
import Derived.Test.YtomakpfmghekfaaWKept
import Derived.Test.YtomakpfmghekfaaWShare
import Derived.Test.YtomakpfmghekfaaWN
import Derived.Test.YtomakpfmghekfaaWFootNe
import Derived.Test.YtomakpfmghekfaaWAt
import Derived.Test.YtomakpfmghekfaaWEqStruct
import Derived.Test.YtomakpfmghekfaaWRepsOne
import Derived.Test.YtomakpfmghekfaaWInv
import Derived.Test.YtomakpfmghekfaaWInvWords
import Derived.Test.YtomakpfmghekfaaWGuard
import Derived.Test.YtomakpfmghekfaaWNEv
import Derived.Test.YtomakpfmghekfaaWMore
import Derived.Test.YtomakpfmghekfaaDevJPa
import Derived.Test.YtomakpfmghekfaaDevJPb
import Derived.Test.YtomakpfmghekfaaDevJPcspec
import Derived.Test.YtomakpfmghekfaaRowLaw
namespace Go.Proofs.Ytomakpfmghekfaa.PFnExactJoinPatterns
open Go.RowKit Go.Proofs.YtomakpfmghekfaaW.PrintWords Go.Proofs.YtomakpfmghekfaaW.PrintLast Go.Proofs.YtomakpfmghekfaaW.PrintMore
attribute [local go_sem] max2_int min2_int max_two min_two max_three min_three max_four min_four
set_option linter.unusedVariables false
set_option linter.unusedSimpArgs false
set_option maxHeartbeats 8000000 in
set_option maxRecDepth 100000 in
theorem simple_calls (N : Nat) : ∀ (n : Nat) (x : PT), VP x → cntT x ≤ n → cntT x ≤ N → ∀ (va : Value) (B : Nat → Prop) (w : World), T False w B va x.f3 → (∀ k, B k → k < w.heap.size) →
  Calls Try.prog 30 #[.agg #[.int .i64 x.f0, .int .i64 x.f1, .string x.f2, va]] w (Res False w B (simpS N n x)) := by
 intro n
 induction n with
 | zero => intro x _ hn; exact absurd hn (by rw [cntT_eq]; omega)
 | succ n ih =>
 intro x hv hn hN va B w hT hL
 obtain ⟨A, c, rfl, _⟩ := hT.inv
 have huP := Try.underlying30
 have huS := Try.underlying28
 have HIP := Aside0.mk (by kernel_rfl : (Try.prog.info? 30).map (·.size) = some 4)
 have HT := Aside0.mk hT
 have HL := Aside0.mk hL
 have HV := Aside0.mk hv
 have HN := Aside0.mk hn
 have HNN := Aside0.mk hN
 have IH := Aside0.mk ih
 have HB := Aside0.mk (Below.refl w.heap.size w)
 clear hT hL hn hN ih
 go_enter Try.func30, Try.ntmps30
 go_upto_region 1 with (first | ((with_reducible refine gate_dst (N := 1) rfl ?_); refine box_event ?hg (N := 1) ?hd (cs := #[.int .i64 x.f0, .int .i64 x.f1, .string x.f2, .slice A x.f3.length c]) (t := 30) ?hr ?_; (case hd => rfl); (case hg => rfl); (case hr => first | (go_simp; done) | (go_simp; rfl)); intro g1 hg w1 hbox hb; have n0_ := Aside0.mk (below_step HB.out hb); clear HB; have HB := n0_; clear n0_; have BK1 := Aside0.mk hbox; clear hbox hg hb; (try simp only [Act.put, sq1, sq2, sq3])) | ((with_reducible refine gate_dst (N := 2) rfl ?_); refine box_event ?hg (N := 2) ?hd (cs := #[.int .i64 0, .int .i64 0, .string (⟨#[]⟩ : ByteArray), .slice none 0 0]) (t := 30) ?hr ?_; (case hd => rfl); (case hg => rfl); (case hr => first | (go_simp; done) | (go_simp; rfl)); intro g2 hg w2 hbox hb; have GE2 := Aside0.mk (by rw [hg]; exact HB.out.size : w.heap.size ≤ g2); have NE1 := Aside0.mk (by rw [hg]; exact Nat.ne_of_lt (blk_lt BK1.out) : g1 ≠ g2); have n_ := fr1 HB BK1 hb; clear HB BK1; obtain ⟨HB, BK1⟩ := n_; have BK2 := Aside0.mk hbox; clear hbox hg hb; (try simp only [Act.put, sq1, sq2, sq3])))
 (try simp only [Act.put, sq1, sq2, sq3])
 obtain ⟨zx0, zx1, zx2, zx3⟩ := z4 BK1.out
 by_cases c6 : x.f0 = 6
 ·have b6 : (x.f0 == 6) = true := beq_iff_eq.mpr c6
  by_cases d0 : x.f1 = 0
  ·have d0b : (x.f1 == 0) = true := beq_iff_eq.mpr d0
   have EQ : simpS N (n + 1) x = strP ⟨#[]⟩ := by simp only [simpS]; rw [if_pos (by rw [b6, d0b]; rfl)]
   go_wp2_with (first | ((with_reducible refine gate_store (t := 30) (p := 2) rfl ?_); refine Go.Proofs.Ytomakpfmghekfaa.RowLaw.put_event rfl 30 _ _ rfl g2 0 (.agg #[.int .i64 1, .int .i64 0, .string (⟨#[]⟩), .slice none 0 0]) rfl rfl [.int .i64 1, .int .i64 0, .string (⟨#[]⟩), .slice none 0 0] rfl 30 _ #[.int .i64 1, .int .i64 0, .string (⟨#[]⟩), .slice none 0 0] BK2.out HIP.out (Nat.le_of_ble_eq_true rfl) rfl rfl ?_; intro w9 hk hoth hbel hz; have q_ := Aside0.mk (hbel _ _ HB.out GE2.out); have HZ2 := Aside0.mk hz; clear HB BK2 ; have HB := q_; have BK2 := Aside0.mk hk; clear q_ hk hoth hbel hz ; (try simp only [Act.put, sq1, sq2, sq3])))
   refine bodyPost_ret (results_cell_row rfl _ _ _ 30 _ (0, 0) _ rfl BK2.out huP rfl (by kernel_rfl)) rfl ?_
   try rw [EQ]
   exact ⟨_, fun _ => False, rfl, .nil _ _ _, fun _ h => h.elim, HB.out⟩
  ·have d0b : (x.f1 == 0) = false := beq_eq_false_iff_ne.mpr d0
   have b19 : (x.f0 == 19) = false := beq_eq_false_iff_ne.mpr (by omega)
   have b18 : (x.f0 == 18) = false := beq_eq_false_iff_ne.mpr (by omega)
   have b20 : (x.f0 == 20) = false := beq_eq_false_iff_ne.mpr (by omega)
   have b21 : (x.f0 == 21) = false := beq_eq_false_iff_ne.mpr (by omega)
   have b22 : (x.f0 == 22) = false := beq_eq_false_iff_ne.mpr (by omega)
   have EQ : simpS N (n + 1) x = x := by simp only [simpS]; rw [if_neg (by rw [d0b]; simp), if_neg (by rw [b19]; simp), if_neg (by rw [b18]; simp), if_neg (by rw [b20]; simp), if_neg (by rw [b21, b22]; simp)]
   go_wp2_with (first | ((with_reducible refine gate_dst (N := 81) rfl ?_); refine wpList_load_row rfl 30 _ rfl g1 rfl 30 #[.int .i64 x.f0, .int .i64 x.f1, .string x.f2, .slice A x.f3.length c] (0, 0) _ BK1.out huP rfl HIP.out ?_; (try simp only [Act.put, sq1, sq2, sq3])) | ((with_reducible refine gate_store (t := 30) (p := 2) rfl ?_); refine Go.Proofs.Ytomakpfmghekfaa.RowLaw.put_event rfl 30 _ _ rfl g2 0 (.agg #[.int .i64 x.f0, .int .i64 x.f1, .string x.f2, .slice A x.f3.length c]) rfl rfl [.int .i64 x.f0, .int .i64 x.f1, .string x.f2, .slice A x.f3.length c] rfl 30 _ #[.int .i64 x.f0, .int .i64 x.f1, .string x.f2, .slice A x.f3.length c] BK2.out HIP.out (Nat.le_of_ble_eq_true rfl) rfl rfl ?_; intro w9 hk hoth hbel hz; have q_ := Aside0.mk (hbel _ _ HB.out GE2.out); have HZ2 := Aside0.mk hz; clear HB BK2 ; have HB := q_; have BK2 := Aside0.mk hk; clear q_ hk hoth hbel hz ; (try simp only [Act.put, sq1, sq2, sq3])))
   refine bodyPost_ret (results_cell_row rfl _ _ _ 30 _ (0, 0) _ rfl BK2.out huP rfl (by kernel_rfl)) rfl ?_
   try rw [EQ]
   exact ⟨_, B, rfl, HT.out.grow HB.out, fun k hk => ⟨.inl hk, Nat.lt_of_lt_of_le (HL.out k hk) HB.out.size⟩, HB.out⟩
 have b6 : (x.f0 == 6) = false := beq_eq_false_iff_ne.mpr c6
 by_cases c19 : x.f0 = 19
 ·have b19 : (x.f0 == 19) = true := beq_iff_eq.mpr c19
  have EQ : simpS N (n + 1) x = catF N (simpS N n (kid x 0)) (simpS N n (kid x 1)) := by simp only [simpS]; rw [if_neg (by rw [b6]; simp), if_pos b19]
  have hok := HV.out.okt
  have h2 := hok.two (.inl c19)
  have hl2 : x.f3.length = 2 := by rw [h2]; rfl
  have hcn := cnt_two h2
  obtain ⟨ge, A0, c0, B0, A1, c1, B1, rfl, hC0, hC1, hT0, hT1, hs0, hs1, _⟩ := HT.out.elems h2
  have V0 := Aside0.mk (HV.out.kid 0 (by omega))
  have V1 := Aside0.mk (HV.out.kid 1 (by omega))
  have EC0 := Aside0.mk hC0
  have EC1 := Aside0.mk hC1
  have HT0 := Aside0.mk hT0
  have HT1 := Aside0.mk hT1
  have HS0 := Aside0.mk hs0
  have HS1 := Aside0.mk hs1
  have CN0 := Aside0.mk (by have := HN.out; omega : cntT (kid x 0) ≤ n)
  have CN1 := Aside0.mk (by have := HN.out; omega : cntT (kid x 1) ≤ n)
  have CM0 := Aside0.mk (by have := HNN.out; omega : cntT (kid x 0) ≤ N)
  have CM1 := Aside0.mk (by have := HNN.out; omega : cntT (kid x 1) ≤ N)
  have S0 := Aside0.mk (simp_ok N n _ V0.out)
  have S1 := Aside0.mk (simp_ok N n _ V1.out)
  have k0 : ((0 : Int) < (x.f3.length : Int)) = True := eq_true (by omega)
  have k1 : ((1 : Int) < (x.f3.length : Int)) = True := eq_true (by omega)
  have k0n : (0 < x.f3.length) = True := eq_true (by omega)
  have k1n : (1 < x.f3.length) = True := eq_true (by omega)
  clear hC0 hC1 hT0 hT1 hs0 hs1 h2 hok hcn
  go_wp2
  have n_ := fr2 HB BK1 BK2 (below_drew1 (Below.refl _ _))
  clear HB BK1 BK2
  obtain ⟨HB, BK1, BK2⟩ := n_
  refine start_ (n := 12) (S := fun w' => w'.cell? ⟨g1, 3, none⟩ = some (.slice (some ⟨ge, 0, none⟩) x.f3.length c) ∧ Go.Proofs.Ytomakpfmghekfaa.RowLaw.CellsAt w' ⟨ge, 0, none⟩ [.int .i64 (kid x 0).f0, .int .i64 (kid x 0).f1, .string (kid x 0).f2, .slice A0 (kid x 0).f3.length c0] ∧ Go.Proofs.Ytomakpfmghekfaa.RowLaw.CellsAt w' ⟨ge, 4, none⟩ [.int .i64 (kid x 1).f0, .int .i64 (kid x 1).f1, .string (kid x 1).f2, .slice A1 (kid x 1).f3.length c1]) (ds := []) (btx 12 0) (by kernel_rfl) rfl rfl ⟨(blk_cell BK1.out 3).trans rfl, EC0.out.below HB.out, EC1.out.below HB.out⟩ (fun hHeld => ?_)
  generalize _root_.Go.World.drew _ = wd at HB BK1 BK2 hHeld ⊢
  iterate 3 (first | (refine pu (v := ?_) (a' := ?_) rfl rfl (by kernel_rfl) (fun _ _ _ h => h) (Or.inl ⟨by rfl, ?_⟩) ?_ ?_; rotate_left; (intro w'; go_simp; with_reducible rfl); rotate_left; (simp only [Act.put, sq1, sq2, sq3, i64_w, i32_w]; rfl)) | (refine tk (v := ?_) (a' := ?_) rfl rfl (by kernel_rfl) (fun _ _ _ h => h) (Or.inl ⟨by rfl, ?_⟩) hHeld ?_ ?_; rotate_left; (rintro w' ⟨s0, s1, s2⟩; go_simp; with_reducible rfl); rotate_left; (simp only [Act.put, sq1, sq2, sq3, i64_w, i32_w]; rfl)))
  refine take_ (i := 3) (N := some 18) (v := .agg #[.int .i64 (kid x 0).f0, .int .i64 (kid x 0).f1, .string (kid x 0).f2, .slice A0 (kid x 0).f3.length c0]) (a' := ?_) (btx 12 4) rfl rfl (by kernel_rfl) (fun _ _ _ h => h) (Or.inl ⟨by rfl, fun w' s => Go.Proofs.Ytomakpfmghekfaa.RowLaw.at_run 30 _ rfl _ rfl _ [.int .i64 (kid x 0).f0, .int .i64 (kid x 0).f1, .string (kid x 0).f2, .slice A0 (kid x 0).f3.length c0] huP rfl HIP.out s.2.1⟩) hHeld ?_ ?_
  rotate_left; (simp only [Act.put, sq1, sq2, sq3, i64_w, i32_w]; rfl)
  refine pure_ (i := 5) (N := some 20) (v := ?_) (a' := ?_) #[true, true, true, true, false, true, false, false, false, false, false, false] rfl rfl (by kernel_rfl) (fun _ _ _ h => h) (Or.inl ⟨by rfl, ?_⟩) ?_ ?_
  rotate_left; (intro w'; go_simp; with_reducible rfl)
  rotate_left; (simp only [Act.put, sq1, sq2, sq3, i64_w, i32_w]; rfl)
  refine take_ (i := 6) (N := some 21) (v := ?_) (a' := ?_) #[true, true, true, true, false, true, true, false, false, false, false, false] rfl rfl (by kernel_rfl) (fun _ _ _ h => h) (Or.inl ⟨by rfl, ?_⟩) hHeld ?_ ?_
  rotate_left; (rintro w' ⟨s0, s1, s2⟩; go_simp; with_reducible rfl)
  rotate_left; (simp only [Act.put, sq1, sq2, sq3, i64_w, i32_w]; rfl)
  refine pure_ (i := 7) (N := some 22) (v := ?_) (a' := ?_) #[true, true, true, true, false, true, true, true, false, false, false, false] rfl rfl (by kernel_rfl) (fun _ _ _ h => h) (Or.inl ⟨by rfl, ?_⟩) ?_ ?_
  rotate_left; (intro w'; go_simp; with_reducible rfl)
  rotate_left; (simp only [Act.put, sq1, sq2, sq3, i64_w, i32_w]; rfl)
  refine take_ (i := 8) (N := some 23) (v := .agg #[.int .i64 (kid x 1).f0, .int .i64 (kid x 1).f1, .string (kid x 1).f2, .slice A1 (kid x 1).f3.length c1]) (a' := ?_) #[true, true, true, true, false, true, true, true, true, false, false, false] rfl rfl (by kernel_rfl) (fun _ _ _ h => h) (Or.inl ⟨by rfl, fun w' s => Go.Proofs.Ytomakpfmghekfaa.RowLaw.at_run 30 _ rfl _ rfl _ [.int .i64 (kid x 1).f0, .int .i64 (kid x 1).f1, .string (kid x 1).f2, .slice A1 (kid x 1).f3.length c1] huP rfl HIP.out s.2.2⟩) hHeld ?_ ?_
  rotate_left; (simp only [Act.put, sq1, sq2, sq3, i64_w, i32_w]; rfl)
  refine one_ (i := 4) (N := some 19) (btx 12 9) rfl rfl (by kernel_rfl) (by decide) (fun K hK => ?_)
  refine goes_ Try.func30 (by kernel_rfl) rfl #[.agg #[.int .i64 (kid x 0).f0, .int .i64 (kid x 0).f1, .string (kid x 0).f2, .slice A0 (kid x 0).f3.length c0]] (by rfl) rfl rfl (by (try simp only [sm1, sm2, sm3]); first | done | rfl) ?_
  with_reducible refine (IH.out (kid x 0) V0.out CN0.out CM0.out (.slice A0 (kid x 0).f3.length c0) B0 _ ?side1 ?side2).mono ?_
  (case side1 => exact HT0.out.grow HB.out)
  (case side2 => exact fun k hk => Nat.lt_of_lt_of_le (HL.out k (HS0.out k hk)) HB.out.size)
  rintro e wc ⟨v5, B5, rfl, hT, hB', hb⟩
  refine ⟨_, rfl, ?_⟩
  have U5 := Aside0.mk hT
  have UB5 := Aside0.mk (fun k hk => (hB' k hk).1)
  have UL5 := Aside0.mk (fun k hk => (hB' k hk).2)
  have SZ5 := Aside0.mk HB.out.size
  have G25 := Aside0.mk (blk_lt BK2.out)
  have n_ := fr2 HB BK1 BK2 hb
  clear HB BK1 BK2
  obtain ⟨HB, BK1, BK2⟩ := n_
  obtain ⟨A5, c5, e5, _⟩ := hT.inv
  subst e5
  clear hT hB' hb
  refine hK.out _ _ ⟨(blk_cell BK1.out 3).trans rfl, EC0.out.below HB.out, EC1.out.below HB.out⟩ (fun hHeld => ?_)
  clear hK K
  refine norm_ (a' := ?_) ?_ ?_
  rotate_left
  ·show Act.put _ (some 19) _ = _
   simp only [Act.put, sq1, sq2, sq3, i64_w, i32_w]
   rfl
  refine one_ (i := 9) (N := some 24) (btx 12 10) rfl rfl (by kernel_rfl) (by decide) (fun K hK => ?_)
  refine goes_ Try.func30 (by kernel_rfl) rfl #[.agg #[.int .i64 (kid x 1).f0, .int .i64 (kid x 1).f1, .string (kid x 1).f2, .slice A1 (kid x 1).f3.length c1]] (by rfl) rfl rfl (by (try simp only [sm1, sm2, sm3]); first | done | rfl) ?_
  with_reducible refine (IH.out (kid x 1) V1.out CN1.out CM1.out (.slice A1 (kid x 1).f3.length c1) B1 _ ?side1 ?side2).mono ?_
  (case side1 => exact HT1.out.grow HB.out)
  (case side2 => exact fun k hk => Nat.lt_of_lt_of_le (HL.out k (HS1.out k hk)) HB.out.size)
  rintro e wf ⟨v6, B6, rfl, hT, hB', hb⟩
  refine ⟨_, rfl, ?_⟩
  have n8_ := Aside0.mk (U5.out.grow hb)
  have n9_ := Aside0.mk (fun k hk => Nat.lt_of_lt_of_le (UL5.out k hk) hb.size)
  clear U5 UL5
  have U5 := n8_
  have UL5 := n9_
  clear n8_ n9_
  have U6 := Aside0.mk hT
  have UB6 := Aside0.mk (fun k hk => (hB' k hk).1)
  have UL6 := Aside0.mk (fun k hk => (hB' k hk).2)
  have SZ6 := Aside0.mk HB.out.size
  have G26 := Aside0.mk (blk_lt BK2.out)
  have n_ := fr2 HB BK1 BK2 hb
  clear HB BK1 BK2
  obtain ⟨HB, BK1, BK2⟩ := n_
  obtain ⟨A6, c6, e6, _⟩ := hT.inv
  subst e6
  clear hT hB' hb
  refine hK.out _ _ ⟨(blk_cell BK1.out 3).trans rfl, EC0.out.below HB.out, EC1.out.below HB.out⟩ (fun hHeld => ?_)
  clear hK K
  refine norm_ (a' := ?_) ?_ ?_
  rotate_left
  ·show Act.put _ (some 24) _ = _
   simp only [Act.put, sq1, sq2, sq3, i64_w, i32_w]
   rfl
  refine one_ (i := 10) (N := some 25) (btx 12 11) rfl rfl (by kernel_rfl) (by decide) (fun K hK => ?_)
  refine goes_ Try.func33 (by kernel_rfl) rfl #[.agg #[.int .i64 (simpS N n (kid x 0)).f0, .int .i64 (simpS N n (kid x 0)).f1, .string (simpS N n (kid x 0)).f2, .slice A5 (simpS N n (kid x 0)).f3.length c5], .agg #[.int .i64 (simpS N n (kid x 1)).f0, .int .i64 (simpS N n (kid x 1)).f1, .string (simpS N n (kid x 1)).f2, .slice A6 (simpS N n (kid x 1)).f3.length c6]] (by rfl) rfl rfl (by (try simp only [sm1, sm2, sm3]); first | done | rfl) ?_
  with_reducible refine (cat_spec False N (simpS N n (kid x 0)) (simpS N n (kid x 1)) (Nat.le_trans S0.out.2 CM0.out) S0.out.1 S1.out.1 (.slice A5 (simpS N n (kid x 0)).f3.length c5) (.slice A6 (simpS N n (kid x 1)).f3.length c6) B5 B6 _ ?side1 ?side2 ?side3 ?side4).mono ?_
  (case side1 => exact U5.out)
  (case side2 => exact U6.out)
  (case side3 => exact fun h => h.elim)
  (case side4 => exact fun k hk => hk.elim (UL5.out k) (UL6.out k))
  rintro e wg ⟨v7, B7, rfl, hT, hB', hb⟩
  refine ⟨_, rfl, ?_⟩
  have U7 := Aside0.mk hT
  have UB7 := Aside0.mk (fun k hk => (hB' k hk).1)
  have UL7 := Aside0.mk (fun k hk => (hB' k hk).2)
  have SZ7 := Aside0.mk HB.out.size
  have G27 := Aside0.mk (blk_lt BK2.out)
  have n_ := fr2 HB BK1 BK2 hb
  clear HB BK1 BK2
  obtain ⟨HB, BK1, BK2⟩ := n_
  obtain ⟨A7, c7, e7, _⟩ := hT.inv
  subst e7
  clear hT hB' hb
  refine hK.out _ _ ⟨(blk_cell BK1.out 3).trans rfl, EC0.out.below HB.out, EC1.out.below HB.out⟩ (fun hHeld => ?_)
  clear hK K
  refine norm_ (a' := ?_) ?_ ?_
  rotate_left
  ·show Act.put _ (some 25) _ = _
   simp only [Act.put, sq1, sq2, sq3, i64_w, i32_w]
   rfl
  refine one_ (i := 11) (N := none) (btx 12 12) rfl rfl (by kernel_rfl) (by decide) (fun K hK => ?_)
  refine put_step rfl rfl 30 _ _ rfl g2 0 (.agg #[.int .i64 (catF N (simpS N n (kid x 0)) (simpS N n (kid x 1))).f0, .int .i64 (catF N (simpS N n (kid x 0)) (simpS N n (kid x 1))).f1, .string (catF N (simpS N n (kid x 0)) (simpS N n (kid x 1))).f2, .slice A7 (catF N (simpS N n (kid x 0)) (simpS N n (kid x 1))).f3.length c7]) rfl rfl [.int .i64 (catF N (simpS N n (kid x 0)) (simpS N n (kid x 1))).f0, .int .i64 (catF N (simpS N n (kid x 0)) (simpS N n (kid x 1))).f1, .string (catF N (simpS N n (kid x 0)) (simpS N n (kid x 1))).f2, .slice A7 (catF N (simpS N n (kid x 0)) (simpS N n (kid x 1))).f3.length c7] rfl 30 _ #[.int .i64 (catF N (simpS N n (kid x 0)) (simpS N n (kid x 1))).f0, .int .i64 (catF N (simpS N n (kid x 0)) (simpS N n (kid x 1))).f1, .string (catF N (simpS N n (kid x 0)) (simpS N n (kid x 1))).f2, .slice A7 (catF N (simpS N n (kid x 0)) (simpS N n (kid x 1))).f3.length c7] BK2.out HIP.out (Nat.le_of_ble_eq_true rfl) rfl rfl ?_
  intro w9 hk hoth hbel hz
  have SUB : ∀ k, B7 k → (B k ∨ w.heap.size ≤ k) ∧ k ≠ g2 := by
   intro k jb
   have q2 := GE2.out
   rcases UB7.out k jb with (h | h) | h
   ·rcases UB5.out k h with h | h
    ·have := HL.out k (HS0.out k h); exact ⟨.inl (HS0.out k h), by omega⟩
    ·have := G25.out; have := SZ5.out; exact ⟨.inr (by omega), by omega⟩
   ·rcases UB6.out k h with h | h
    ·have := HL.out k (HS1.out k h); exact ⟨.inl (HS1.out k h), by omega⟩
    ·have := G26.out; have := SZ6.out; exact ⟨.inr (by omega), by omega⟩
   ·have := G27.out; have := SZ7.out; exact ⟨.inr (by omega), by omega⟩
  have n0_ := Aside0.mk (hbel _ _ HB.out GE2.out)
  have n1_ := Aside0.mk (U7.out.move (fun k jb => hoth k (SUB k jb).2))
  have n2_ := Aside0.mk ((hoth g1 NE1.out).trans BK1.out)
  have HZ := Aside0.mk hz
  have HSUB := Aside0.mk SUB
  clear HB BK2 U7 BK1 SUB
  have HB := n0_
  have U7 := n1_
  have BK1 := n2_
  have BK2 := Aside0.mk hk
  clear n0_ n1_ n2_ hk hoth hbel hz
  refine hK.out _ _ ⟨(blk_cell BK1.out 3).trans rfl, EC0.out.below HB.out, EC1.out.below HB.out⟩ (fun hHeld => ?_)
  clear hK K
  refine done_ (by kernel_rfl) ?_
  go_wp2
  refine bodyPost_ret (results_cell_row rfl _ _ _ 30 _ (0, 0) _ rfl BK2.out huP rfl (by kernel_rfl)) rfl ?_
  try rw [EQ]
  exact ⟨_, B7, rfl, U7.out, fun k hk => ⟨(HSUB.out k hk).1, by rw [HZ.out]; exact UL7.out k hk⟩, HB.out⟩
 have b19 : (x.f0 == 19) = false := beq_eq_false_iff_ne.mpr c19
 by_cases c18 : x.f0 = 18
 ·have b18 : (x.f0 == 18) = true := beq_iff_eq.mpr c18
  have EQ : simpS N (n + 1) x = altF N (simpS N n (kid x 0)) (simpS N n (kid x 1)) := by simp only [simpS]; rw [if_neg (by rw [b6]; simp), if_neg (by rw [b19]; simp), if_pos b18]
  have hok := HV.out.okt
  have h2 := hok.two (.inr c18)
  have hl2 : x.f3.length = 2 := by rw [h2]; rfl
  have hcn := cnt_two h2
  obtain ⟨ge, A0, c0, B0, A1, c1, B1, rfl, hC0, hC1, hT0, hT1, hs0, hs1, _⟩ := HT.out.elems h2
  have V0 := Aside0.mk (HV.out.kid 0 (by omega))
  have V1 := Aside0.mk (HV.out.kid 1 (by omega))
  have EC0 := Aside0.mk hC0
  have EC1 := Aside0.mk hC1
  have HT0 := Aside0.mk hT0
  have HT1 := Aside0.mk hT1
  have HS0 := Aside0.mk hs0
  have HS1 := Aside0.mk hs1
  have CN0 := Aside0.mk (by have := HN.out; omega : cntT (kid x 0) ≤ n)
  have CN1 := Aside0.mk (by have := HN.out; omega : cntT (kid x 1) ≤ n)
  have CM0 := Aside0.mk (by have := HNN.out; omega : cntT (kid x 0) ≤ N)
  have CM1 := Aside0.mk (by have := HNN.out; omega : cntT (kid x 1) ≤ N)
  have S0 := Aside0.mk (simp_ok N n _ V0.out)
  have S1 := Aside0.mk (simp_ok N n _ V1.out)
  have k0 : ((0 : Int) < (x.f3.length : Int)) = True := eq_true (by omega)
  have k1 : ((1 : Int) < (x.f3.length : Int)) = True := eq_true (by omega)
  have k0n : (0 < x.f3.length) = True := eq_true (by omega)
  have k1n : (1 < x.f3.length) = True := eq_true (by omega)
  clear hC0 hC1 hT0 hT1 hs0 hs1 h2 hok hcn
  go_wp2
  have n_ := fr2 HB BK1 BK2 (below_drew1 (Below.refl _ _))
  clear HB BK1 BK2
  obtain ⟨HB, BK1, BK2⟩ := n_
  refine start_ (n := 12) (S := fun w' => w'.cell? ⟨g1, 3, none⟩ = some (.slice (some ⟨ge, 0, none⟩) x.f3.length c) ∧ Go.Proofs.Ytomakpfmghekfaa.RowLaw.CellsAt w' ⟨ge, 0, none⟩ [.int .i64 (kid x 0).f0, .int .i64 (kid x 0).f1, .string (kid x 0).f2, .slice A0 (kid x 0).f3.length c0] ∧ Go.Proofs.Ytomakpfmghekfaa.RowLaw.CellsAt w' ⟨ge, 4, none⟩ [.int .i64 (kid x 1).f0, .int .i64 (kid x 1).f1, .string (kid x 1).f2, .slice A1 (kid x 1).f3.length c1]) (ds := []) (btx 12 0) (by kernel_rfl) rfl rfl ⟨(blk_cell BK1.out 3).trans rfl, EC0.out.below HB.out, EC1.out.below HB.out⟩ (fun hHeld => ?_)
  generalize _root_.Go.World.drew _ = wd at HB BK1 BK2 hHeld ⊢
  iterate 3 (first | (refine pu (v := ?_) (a' := ?_) rfl rfl (by kernel_rfl) (fun _ _ _ h => h) (Or.inl ⟨by rfl, ?_⟩) ?_ ?_; rotate_left; (intro w'; go_simp; with_reducible rfl); rotate_left; (simp only [Act.put, sq1, sq2, sq3, i64_w, i32_w]; rfl)) | (refine tk (v := ?_) (a' := ?_) rfl rfl (by kernel_rfl) (fun _ _ _ h => h) (Or.inl ⟨by rfl, ?_⟩) hHeld ?_ ?_; rotate_left; (rintro w' ⟨s0, s1, s2⟩; go_simp; with_reducible rfl); rotate_left; (simp only [Act.put, sq1, sq2, sq3, i64_w, i32_w]; rfl)))
  refine take_ (i := 3) (N := some 31) (v := .agg #[.int .i64 (kid x 0).f0, .int .i64 (kid x 0).f1, .string (kid x 0).f2, .slice A0 (kid x 0).f3.length c0]) (a' := ?_) (btx 12 4) rfl rfl (by kernel_rfl) (fun _ _ _ h => h) (Or.inl ⟨by rfl, fun w' s => Go.Proofs.Ytomakpfmghekfaa.RowLaw.at_run 30 _ rfl _ rfl _ [.int .i64 (kid x 0).f0, .int .i64 (kid x 0).f1, .string (kid x 0).f2, .slice A0 (kid x 0).f3.length c0] huP rfl HIP.out s.2.1⟩) hHeld ?_ ?_
  rotate_left; (simp only [Act.put, sq1, sq2, sq3, i64_w, i32_w]; rfl)
  refine pure_ (i := 5) (N := some 33) (v := ?_) (a' := ?_) #[true, true, true, true, false, true, false, false, false, false, false, false] rfl rfl (by kernel_rfl) (fun _ _ _ h => h) (Or.inl ⟨by rfl, ?_⟩) ?_ ?_
  rotate_left; (intro w'; go_simp; with_reducible rfl)
  rotate_left; (simp only [Act.put, sq1, sq2, sq3, i64_w, i32_w]; rfl)
  refine take_ (i := 6) (N := some 34) (v := ?_) (a' := ?_) #[true, true, true, true, false, true, true, false, false, false, false, false] rfl rfl (by kernel_rfl) (fun _ _ _ h => h) (Or.inl ⟨by rfl, ?_⟩) hHeld ?_ ?_
  rotate_left; (rintro w' ⟨s0, s1, s2⟩; go_simp; with_reducible rfl)
  rotate_left; (simp only [Act.put, sq1, sq2, sq3, i64_w, i32_w]; rfl)
  refine pure_ (i := 7) (N := some 35) (v := ?_) (a' := ?_) #[true, true, true, true, false, true, true, true, false, false, false, false] rfl rfl (by kernel_rfl) (fun _ _ _ h => h) (Or.inl ⟨by rfl, ?_⟩) ?_ ?_
  rotate_left; (intro w'; go_simp; with_reducible rfl)
  rotate_left; (simp only [Act.put, sq1, sq2, sq3, i64_w, i32_w]; rfl)
  refine take_ (i := 8) (N := some 36) (v := .agg #[.int .i64 (kid x 1).f0, .int .i64 (kid x 1).f1, .string (kid x 1).f2, .slice A1 (kid x 1).f3.length c1]) (a' := ?_) #[true, true, true, true, false, true, true, true, true, false, false, false] rfl rfl (by kernel_rfl) (fun _ _ _ h => h) (Or.inl ⟨by rfl, fun w' s => Go.Proofs.Ytomakpfmghekfaa.RowLaw.at_run 30 _ rfl _ rfl _ [.int .i64 (kid x 1).f0, .int .i64 (kid x 1).f1, .string (kid x 1).f2, .slice A1 (kid x 1).f3.length c1] huP rfl HIP.out s.2.2⟩) hHeld ?_ ?_
  rotate_left; (simp only [Act.put, sq1, sq2, sq3, i64_w, i32_w]; rfl)
  refine one_ (i := 4) (N := some 32) (btx 12 9) rfl rfl (by kernel_rfl) (by decide) (fun K hK => ?_)
  refine goes_ Try.func30 (by kernel_rfl) rfl #[.agg #[.int .i64 (kid x 0).f0, .int .i64 (kid x 0).f1, .string (kid x 0).f2, .slice A0 (kid x 0).f3.length c0]] (by rfl) rfl rfl (by (try simp only [sm1, sm2, sm3]); first | done | rfl) ?_
  with_reducible refine (IH.out (kid x 0) V0.out CN0.out CM0.out (.slice A0 (kid x 0).f3.length c0) B0 _ ?side1 ?side2).mono ?_
  (case side1 => exact HT0.out.grow HB.out)
  (case side2 => exact fun k hk => Nat.lt_of_lt_of_le (HL.out k (HS0.out k hk)) HB.out.size)
  rintro e wc ⟨v5, B5, rfl, hT, hB', hb⟩
  refine ⟨_, rfl, ?_⟩
  have U5 := Aside0.mk hT
  have UB5 := Aside0.mk (fun k hk => (hB' k hk).1)
  have UL5 := Aside0.mk (fun k hk => (hB' k hk).2)
  have SZ5 := Aside0.mk HB.out.size
  have G25 := Aside0.mk (blk_lt BK2.out)
  have n_ := fr2 HB BK1 BK2 hb
  clear HB BK1 BK2
  obtain ⟨HB, BK1, BK2⟩ := n_
  obtain ⟨A5, c5, e5, _⟩ := hT.inv
  subst e5
  clear hT hB' hb
  refine hK.out _ _ ⟨(blk_cell BK1.out 3).trans rfl, EC0.out.below HB.out, EC1.out.below HB.out⟩ (fun hHeld => ?_)
  clear hK K
  refine norm_ (a' := ?_) ?_ ?_
  rotate_left
  ·show Act.put _ (some 32) _ = _
   simp only [Act.put, sq1, sq2, sq3, i64_w, i32_w]
   rfl
  refine one_ (i := 9) (N := some 37) (btx 12 10) rfl rfl (by kernel_rfl) (by decide) (fun K hK => ?_)
  refine goes_ Try.func30 (by kernel_rfl) rfl #[.agg #[.int .i64 (kid x 1).f0, .int .i64 (kid x 1).f1, .string (kid x 1).f2, .slice A1 (kid x 1).f3.length c1]] (by rfl) rfl rfl (by (try simp only [sm1, sm2, sm3]); first | done | rfl) ?_
  with_reducible refine (IH.out (kid x 1) V1.out CN1.out CM1.out (.slice A1 (kid x 1).f3.length c1) B1 _ ?side1 ?side2).mono ?_
  (case side1 => exact HT1.out.grow HB.out)
  (case side2 => exact fun k hk => Nat.lt_of_lt_of_le (HL.out k (HS1.out k hk)) HB.out.size)
  rintro e wf ⟨v6, B6, rfl, hT, hB', hb⟩
  refine ⟨_, rfl, ?_⟩
  have n8_ := Aside0.mk (U5.out.grow hb)
  have n9_ := Aside0.mk (fun k hk => Nat.lt_of_lt_of_le (UL5.out k hk) hb.size)
  clear U5 UL5
  have U5 := n8_
  have UL5 := n9_
  clear n8_ n9_
  have U6 := Aside0.mk hT
  have UB6 := Aside0.mk (fun k hk => (hB' k hk).1)
  have UL6 := Aside0.mk (fun k hk => (hB' k hk).2)
  have SZ6 := Aside0.mk HB.out.size
  have G26 := Aside0.mk (blk_lt BK2.out)
  have n_ := fr2 HB BK1 BK2 hb
  clear HB BK1 BK2
  obtain ⟨HB, BK1, BK2⟩ := n_
  obtain ⟨A6, c6, e6, _⟩ := hT.inv
  subst e6
  clear hT hB' hb
  refine hK.out _ _ ⟨(blk_cell BK1.out 3).trans rfl, EC0.out.below HB.out, EC1.out.below HB.out⟩ (fun hHeld => ?_)
  clear hK K
  refine norm_ (a' := ?_) ?_ ?_
  rotate_left
  ·show Act.put _ (some 37) _ = _
   simp only [Act.put, sq1, sq2, sq3, i64_w, i32_w]
   rfl
  refine one_ (i := 10) (N := some 38) (btx 12 11) rfl rfl (by kernel_rfl) (by decide) (fun K hK => ?_)
  refine goes_ Try.func38 (by kernel_rfl) rfl #[.agg #[.int .i64 (simpS N n (kid x 0)).f0, .int .i64 (simpS N n (kid x 0)).f1, .string (simpS N n (kid x 0)).f2, .slice A5 (simpS N n (kid x 0)).f3.length c5], .agg #[.int .i64 (simpS N n (kid x 1)).f0, .int .i64 (simpS N n (kid x 1)).f1, .string (simpS N n (kid x 1)).f2, .slice A6 (simpS N n (kid x 1)).f3.length c6]] (by rfl) rfl rfl (by (try simp only [sm1, sm2, sm3]); first | done | rfl) ?_
  with_reducible refine (alt_spec False N (simpS N n (kid x 0)) (simpS N n (kid x 1)) (Nat.le_trans S0.out.2 CM0.out) S0.out.1 S1.out.1 (.slice A5 (simpS N n (kid x 0)).f3.length c5) (.slice A6 (simpS N n (kid x 1)).f3.length c6) B5 B6 _ ?side1 ?side2 ?side3 ?side4).mono ?_
  (case side1 => exact U5.out)
  (case side2 => exact U6.out)
  (case side3 => exact fun h => h.elim)
  (case side4 => exact fun k hk => hk.elim (UL5.out k) (UL6.out k))
  rintro e wg ⟨v7, B7, rfl, hT, hB', hb⟩
  refine ⟨_, rfl, ?_⟩
  have U7 := Aside0.mk hT
  have UB7 := Aside0.mk (fun k hk => (hB' k hk).1)
  have UL7 := Aside0.mk (fun k hk => (hB' k hk).2)
  have SZ7 := Aside0.mk HB.out.size
  have G27 := Aside0.mk (blk_lt BK2.out)
  have n_ := fr2 HB BK1 BK2 hb
  clear HB BK1 BK2
  obtain ⟨HB, BK1, BK2⟩ := n_
  obtain ⟨A7, c7, e7, _⟩ := hT.inv
  subst e7
  clear hT hB' hb
  refine hK.out _ _ ⟨(blk_cell BK1.out 3).trans rfl, EC0.out.below HB.out, EC1.out.below HB.out⟩ (fun hHeld => ?_)
  clear hK K
  refine norm_ (a' := ?_) ?_ ?_
  rotate_left
  ·show Act.put _ (some 38) _ = _
   simp only [Act.put, sq1, sq2, sq3, i64_w, i32_w]
   rfl
  refine one_ (i := 11) (N := none) (btx 12 12) rfl rfl (by kernel_rfl) (by decide) (fun K hK => ?_)
  refine put_step rfl rfl 30 _ _ rfl g2 0 (.agg #[.int .i64 (altF N (simpS N n (kid x 0)) (simpS N n (kid x 1))).f0, .int .i64 (altF N (simpS N n (kid x 0)) (simpS N n (kid x 1))).f1, .string (altF N (simpS N n (kid x 0)) (simpS N n (kid x 1))).f2, .slice A7 (altF N (simpS N n (kid x 0)) (simpS N n (kid x 1))).f3.length c7]) rfl rfl [.int .i64 (altF N (simpS N n (kid x 0)) (simpS N n (kid x 1))).f0, .int .i64 (altF N (simpS N n (kid x 0)) (simpS N n (kid x 1))).f1, .string (altF N (simpS N n (kid x 0)) (simpS N n (kid x 1))).f2, .slice A7 (altF N (simpS N n (kid x 0)) (simpS N n (kid x 1))).f3.length c7] rfl 30 _ #[.int .i64 (altF N (simpS N n (kid x 0)) (simpS N n (kid x 1))).f0, .int .i64 (altF N (simpS N n (kid x 0)) (simpS N n (kid x 1))).f1, .string (altF N (simpS N n (kid x 0)) (simpS N n (kid x 1))).f2, .slice A7 (altF N (simpS N n (kid x 0)) (simpS N n (kid x 1))).f3.length c7] BK2.out HIP.out (Nat.le_of_ble_eq_true rfl) rfl rfl ?_
  intro w9 hk hoth hbel hz
  have SUB : ∀ k, B7 k → (B k ∨ w.heap.size ≤ k) ∧ k ≠ g2 := by
   intro k jb
   have q2 := GE2.out
   rcases UB7.out k jb with (h | h) | h
   ·rcases UB5.out k h with h | h
    ·have := HL.out k (HS0.out k h); exact ⟨.inl (HS0.out k h), by omega⟩
    ·have := G25.out; have := SZ5.out; exact ⟨.inr (by omega), by omega⟩
   ·rcases UB6.out k h with h | h
    ·have := HL.out k (HS1.out k h); exact ⟨.inl (HS1.out k h), by omega⟩
    ·have := G26.out; have := SZ6.out; exact ⟨.inr (by omega), by omega⟩
   ·have := G27.out; have := SZ7.out; exact ⟨.inr (by omega), by omega⟩
  have n0_ := Aside0.mk (hbel _ _ HB.out GE2.out)
  have n1_ := Aside0.mk (U7.out.move (fun k jb => hoth k (SUB k jb).2))
  have n2_ := Aside0.mk ((hoth g1 NE1.out).trans BK1.out)
  have HZ := Aside0.mk hz
  have HSUB := Aside0.mk SUB
  clear HB BK2 U7 BK1 SUB
  have HB := n0_
  have U7 := n1_
  have BK1 := n2_
  have BK2 := Aside0.mk hk
  clear n0_ n1_ n2_ hk hoth hbel hz
  refine hK.out _ _ ⟨(blk_cell BK1.out 3).trans rfl, EC0.out.below HB.out, EC1.out.below HB.out⟩ (fun hHeld => ?_)
  clear hK K
  refine done_ (by kernel_rfl) ?_
  go_wp2
  refine bodyPost_ret (results_cell_row rfl _ _ _ 30 _ (0, 0) _ rfl BK2.out huP rfl (by kernel_rfl)) rfl ?_
  try rw [EQ]
  exact ⟨_, B7, rfl, U7.out, fun k hk => ⟨(HSUB.out k hk).1, by rw [HZ.out]; exact UL7.out k hk⟩, HB.out⟩
 have b18 : (x.f0 == 18) = false := beq_eq_false_iff_ne.mpr c18
 by_cases c20 : x.f0 = 20
 ·have b20 : (x.f0 == 20) = true := beq_iff_eq.mpr c20
  have hl1 : x.f3.length = 1 := by cases HV.out with | mk _ _ h1 _ _ _ _ => exact (h1 (by omega)).1
  have e1 := kid_one hl1
  have hcn : cntT x = 1 + cntT (kid x 0) := by rw [cntT_eq, e1]; simp [cntL, kid]
  obtain ⟨ge, A0, c0, B0, rfl, hC0, hT0, hs0⟩ := HT.out.elem 0 (by omega)
  have V0 := Aside0.mk (HV.out.kid 0 (by omega))
  have EC0 := Aside0.mk (show Go.Proofs.Ytomakpfmghekfaa.RowLaw.CellsAt w ⟨ge, 0, none⟩ (cellsP (kid x 0) (.slice A0 (kid x 0).f3.length c0)) from hC0)
  have HT0 := Aside0.mk (show T False w B0 (.slice A0 (kid x 0).f3.length c0) (kid x 0).f3 from hT0)
  have HS0 := Aside0.mk hs0
  have CN0 := Aside0.mk (by have := HN.out; omega : cntT (kid x 0) ≤ n)
  have CM0 := Aside0.mk (by have := HNN.out; omega : cntT (kid x 0) ≤ N)
  have k0 : ((0 : Int) < (x.f3.length : Int)) = True := eq_true (by omega)
  have k0n : (0 < x.f3.length) = True := eq_true (by omega)
  clear hC0 hT0 hs0 e1 hcn
  by_cases e16 : (simpS N n (kid x 0)).f0 = 16
  ·have e16b : ((simpS N n (kid x 0)).f0 == 16) = true := beq_iff_eq.mpr e16
   have EQ : simpS N (n + 1) x = strP ⟨#[]⟩ := by simp only [simpS]; rw [if_neg (by rw [b6]; simp), if_neg (by rw [b19]; simp), if_neg (by rw [b18]; simp), if_pos b20, if_pos (by rw [e16b]; rfl)]
   go_wp2_with (first | ((with_reducible refine gate_dst (N := 44) rfl ?_); refine Go.Proofs.Ytomakpfmghekfaa.RowLaw.at_event rfl 30 _ rfl _ rfl _ [.int .i64 (kid x 0).f0, .int .i64 (kid x 0).f1, .string (kid x 0).f2, .slice A0 (kid x 0).f3.length c0] huP rfl HIP.out (EC0.out.below HB.out) ?_; (try simp only [Act.put, sq1, sq2, sq3])) | ((with_reducible refine gate_callee (f := 30) rfl ?_); refine goesL_ (some 45) rfl rfl Try.func30 (by kernel_rfl) rfl #[.agg #[.int .i64 (kid x 0).f0, .int .i64 (kid x 0).f1, .string (kid x 0).f2, .slice A0 (kid x 0).f3.length c0]] rfl (by (try simp only [sm1, sm2, sm3]); first | done | rfl) ?_; refine (IH.out (kid x 0) V0.out CN0.out CM0.out (.slice A0 (kid x 0).f3.length c0) B0 _ (HT0.out.grow HB.out) (fun k hk => Nat.lt_of_lt_of_le (HL.out k (HS0.out k hk)) HB.out.size)).mono ?_; rintro e wc ⟨v5, B5, rfl, hT, hB', hb⟩; refine ⟨_, rfl, ?_⟩; have U5 := Aside0.mk hT; have UB5 := Aside0.mk (fun k hk => (hB' k hk).1); have UL5 := Aside0.mk (fun k hk => (hB' k hk).2); have SZ5 := Aside0.mk HB.out.size; have G25 := Aside0.mk (blk_lt BK2.out); have n_ := fr2 HB BK1 BK2 hb; clear HB BK1 BK2; obtain ⟨HB, BK1, BK2⟩ := n_; obtain ⟨A5, c5, e5, _⟩ := hT.inv; subst e5; clear hT hB' hb zx0 zx1 zx2 zx3; obtain ⟨zx0, zx1, zx2, zx3⟩ := z4 BK1.out; (try simp only [Act.put, sq1, sq2, sq3])) | ((with_reducible refine gate_dst (N := 3) rfl ?_); refine box_event ?hg (N := 3) ?hd (cs := #[.int .i64 0, .int .i64 0, .string (⟨#[]⟩ : ByteArray), .slice none 0 0]) (t := 30) ?hr ?_; (case hd => rfl); (case hg => rfl); (case hr => first | (go_simp; done) | (go_simp; rfl)); intro g3 hg w3 hbox hb; have GE3 := Aside0.mk (by rw [hg]; exact HB.out.size : w.heap.size ≤ g3); have NN2 := Aside0.mk (by rw [hg]; exact Nat.ne_of_lt (blk_lt BK2.out) : g2 ≠ g3); have NN1 := Aside0.mk (by rw [hg]; exact Nat.ne_of_lt (blk_lt BK1.out) : g1 ≠ g3); have LG := Aside0.mk (by rw [hg]; exact UL5.out : ∀ k, B5 k → k < g3); have n8_ := Aside0.mk (U5.out.grow hb); clear U5; have U5 := n8_; clear n8_; have n_ := fr2 HB BK1 BK2 hb; clear HB BK1 BK2; obtain ⟨HB, BK1, BK2⟩ := n_; have BK3 := Aside0.mk hbox; clear hbox hg hb; (try simp only [Act.put, sq1, sq2, sq3])) | ((with_reducible refine gate_store (t := 30) (p := 3) rfl ?_); refine Go.Proofs.Ytomakpfmghekfaa.RowLaw.put_event rfl 30 _ _ rfl g3 0 (.agg #[.int .i64 (simpS N n (kid x 0)).f0, .int .i64 (simpS N n (kid x 0)).f1, .string (simpS N n (kid x 0)).f2, .slice A5 (simpS N n (kid x 0)).f3.length c5]) rfl rfl [.int .i64 (simpS N n (kid x 0)).f0, .int .i64 (simpS N n (kid x 0)).f1, .string (simpS N n (kid x 0)).f2, .slice A5 (simpS N n (kid x 0)).f3.length c5] rfl 30 _ #[.int .i64 (simpS N n (kid x 0)).f0, .int .i64 (simpS N n (kid x 0)).f1, .string (simpS N n (kid x 0)).f2, .slice A5 (simpS N n (kid x 0)).f3.length c5] BK3.out HIP.out (Nat.le_of_ble_eq_true rfl) rfl rfl ?_; intro w9 hk hoth hbel hz; have n0_ := Aside0.mk ((hoth g1 NN1.out).trans BK1.out); have n1_ := Aside0.mk ((hoth g2 NN2.out).trans BK2.out); have n2_ := Aside0.mk (U5.out.move (fun k jb => hoth k (Nat.ne_of_lt (LG.out k jb)))); have q_ := Aside0.mk (hbel _ _ HB.out GE3.out); have HZ3 := Aside0.mk hz; clear HB BK3 BK1 BK2 U5; have HB := q_; have BK1 := n0_; have BK2 := n1_; have U5 := n2_; have BK3 := Aside0.mk hk; clear q_ hk hoth hbel hz n0_ n1_ n2_; (try simp only [Act.put, sq1, sq2, sq3]); clear zx0 zx1 zx2 zx3; obtain ⟨zx0, zx1, zx2, zx3⟩ := z4 BK1.out; have zy0 : w9.cell? ⟨g3, 0, none⟩ = some (.int .i64 (simpS N n (kid x 0)).f0) := (blk_cell BK3.out 0).trans rfl; have zy1 : w9.cell? ⟨g3, 1, none⟩ = some (.int .i64 (simpS N n (kid x 0)).f1) := (blk_cell BK3.out 1).trans rfl; have zy2 : w9.cell? ⟨g3, 2, none⟩ = some (.string (simpS N n (kid x 0)).f2) := (blk_cell BK3.out 2).trans rfl; have zy3 : w9.cell? ⟨g3, 3, none⟩ = some (.slice A5 (simpS N n (kid x 0)).f3.length c5) := (blk_cell BK3.out 3).trans rfl) | ((with_reducible refine gate_store (t := 30) (p := 2) rfl ?_); refine Go.Proofs.Ytomakpfmghekfaa.RowLaw.put_event rfl 30 _ _ rfl g2 0 (.agg #[.int .i64 1, .int .i64 0, .string (⟨#[]⟩), .slice none 0 0]) rfl rfl [.int .i64 1, .int .i64 0, .string (⟨#[]⟩), .slice none 0 0] rfl 30 _ #[.int .i64 1, .int .i64 0, .string (⟨#[]⟩), .slice none 0 0] BK2.out HIP.out (Nat.le_of_ble_eq_true rfl) rfl rfl ?_; intro w9 hk hoth hbel hz; have q_ := Aside0.mk (hbel _ _ HB.out GE2.out); have HZ2 := Aside0.mk hz; clear HB BK2 ; have HB := q_; have BK2 := Aside0.mk hk; clear q_ hk hoth hbel hz ; (try simp only [Act.put, sq1, sq2, sq3])))
   refine bodyPost_ret (results_cell_row rfl _ _ _ 30 _ (0, 0) _ rfl BK2.out huP rfl (by kernel_rfl)) rfl ?_
   try rw [EQ]
   exact ⟨_, fun _ => False, rfl, .nil _ _ _, fun _ h => h.elim, HB.out⟩
  have e16b : ((simpS N n (kid x 0)).f0 == 16) = false := beq_eq_false_iff_ne.mpr e16
  cases hek : emptyB (simpS N n (kid x 0)) with
  | true =>
   have EQ : simpS N (n + 1) x = strP ⟨#[]⟩ := by simp only [simpS]; rw [if_neg (by rw [b6]; simp), if_neg (by rw [b19]; simp), if_neg (by rw [b18]; simp), if_pos b20, if_pos (by rw [hek]; simp)]
   have HEK := Aside0.mk hek
   clear hek
   go_wp2_with (first | ((with_reducible refine gate_dst (N := 44) rfl ?_); refine Go.Proofs.Ytomakpfmghekfaa.RowLaw.at_event rfl 30 _ rfl _ rfl _ [.int .i64 (kid x 0).f0, .int .i64 (kid x 0).f1, .string (kid x 0).f2, .slice A0 (kid x 0).f3.length c0] huP rfl HIP.out (EC0.out.below HB.out) ?_; (try simp only [Act.put, sq1, sq2, sq3])) | ((with_reducible refine gate_callee (f := 30) rfl ?_); refine goesL_ (some 45) rfl rfl Try.func30 (by kernel_rfl) rfl #[.agg #[.int .i64 (kid x 0).f0, .int .i64 (kid x 0).f1, .string (kid x 0).f2, .slice A0 (kid x 0).f3.length c0]] rfl (by (try simp only [sm1, sm2, sm3]); first | done | rfl) ?_; refine (IH.out (kid x 0) V0.out CN0.out CM0.out (.slice A0 (kid x 0).f3.length c0) B0 _ (HT0.out.grow HB.out) (fun k hk => Nat.lt_of_lt_of_le (HL.out k (HS0.out k hk)) HB.out.size)).mono ?_; rintro e wc ⟨v5, B5, rfl, hT, hB', hb⟩; refine ⟨_, rfl, ?_⟩; have U5 := Aside0.mk hT; have UB5 := Aside0.mk (fun k hk => (hB' k hk).1); have UL5 := Aside0.mk (fun k hk => (hB' k hk).2); have SZ5 := Aside0.mk HB.out.size; have G25 := Aside0.mk (blk_lt BK2.out); have n_ := fr2 HB BK1 BK2 hb; clear HB BK1 BK2; obtain ⟨HB, BK1, BK2⟩ := n_; obtain ⟨A5, c5, e5, _⟩ := hT.inv; subst e5; clear hT hB' hb zx0 zx1 zx2 zx3; obtain ⟨zx0, zx1, zx2, zx3⟩ := z4 BK1.out; (try simp only [Act.put, sq1, sq2, sq3])) | ((with_reducible refine gate_dst (N := 3) rfl ?_); refine box_event ?hg (N := 3) ?hd (cs := #[.int .i64 0, .int .i64 0, .string (⟨#[]⟩ : ByteArray), .slice none 0 0]) (t := 30) ?hr ?_; (case hd => rfl); (case hg => rfl); (case hr => first | (go_simp; done) | (go_simp; rfl)); intro g3 hg w3 hbox hb; have GE3 := Aside0.mk (by rw [hg]; exact HB.out.size : w.heap.size ≤ g3); have NN2 := Aside0.mk (by rw [hg]; exact Nat.ne_of_lt (blk_lt BK2.out) : g2 ≠ g3); have NN1 := Aside0.mk (by rw [hg]; exact Nat.ne_of_lt (blk_lt BK1.out) : g1 ≠ g3); have LG := Aside0.mk (by rw [hg]; exact UL5.out : ∀ k, B5 k → k < g3); have n8_ := Aside0.mk (U5.out.grow hb); clear U5; have U5 := n8_; clear n8_; have n_ := fr2 HB BK1 BK2 hb; clear HB BK1 BK2; obtain ⟨HB, BK1, BK2⟩ := n_; have BK3 := Aside0.mk hbox; clear hbox hg hb; (try simp only [Act.put, sq1, sq2, sq3])) | ((with_reducible refine gate_store (t := 30) (p := 3) rfl ?_); refine Go.Proofs.Ytomakpfmghekfaa.RowLaw.put_event rfl 30 _ _ rfl g3 0 (.agg #[.int .i64 (simpS N n (kid x 0)).f0, .int .i64 (simpS N n (kid x 0)).f1, .string (simpS N n (kid x 0)).f2, .slice A5 (simpS N n (kid x 0)).f3.length c5]) rfl rfl [.int .i64 (simpS N n (kid x 0)).f0, .int .i64 (simpS N n (kid x 0)).f1, .string (simpS N n (kid x 0)).f2, .slice A5 (simpS N n (kid x 0)).f3.length c5] rfl 30 _ #[.int .i64 (simpS N n (kid x 0)).f0, .int .i64 (simpS N n (kid x 0)).f1, .string (simpS N n (kid x 0)).f2, .slice A5 (simpS N n (kid x 0)).f3.length c5] BK3.out HIP.out (Nat.le_of_ble_eq_true rfl) rfl rfl ?_; intro w9 hk hoth hbel hz; have n0_ := Aside0.mk ((hoth g1 NN1.out).trans BK1.out); have n1_ := Aside0.mk ((hoth g2 NN2.out).trans BK2.out); have n2_ := Aside0.mk (U5.out.move (fun k jb => hoth k (Nat.ne_of_lt (LG.out k jb)))); have q_ := Aside0.mk (hbel _ _ HB.out GE3.out); have HZ3 := Aside0.mk hz; clear HB BK3 BK1 BK2 U5; have HB := q_; have BK1 := n0_; have BK2 := n1_; have U5 := n2_; have BK3 := Aside0.mk hk; clear q_ hk hoth hbel hz n0_ n1_ n2_; (try simp only [Act.put, sq1, sq2, sq3]); clear zx0 zx1 zx2 zx3; obtain ⟨zx0, zx1, zx2, zx3⟩ := z4 BK1.out; have zy0 : w9.cell? ⟨g3, 0, none⟩ = some (.int .i64 (simpS N n (kid x 0)).f0) := (blk_cell BK3.out 0).trans rfl; have zy1 : w9.cell? ⟨g3, 1, none⟩ = some (.int .i64 (simpS N n (kid x 0)).f1) := (blk_cell BK3.out 1).trans rfl; have zy2 : w9.cell? ⟨g3, 2, none⟩ = some (.string (simpS N n (kid x 0)).f2) := (blk_cell BK3.out 2).trans rfl; have zy3 : w9.cell? ⟨g3, 3, none⟩ = some (.slice A5 (simpS N n (kid x 0)).f3.length c5) := (blk_cell BK3.out 3).trans rfl) | ((with_reducible refine gate_dst (N := 50) rfl ?_); (try (refine gate_guard (by rfl) ?_; dsimp only)); refine wpList_load_row rfl 30 _ rfl g3 rfl 30 #[.int .i64 (simpS N n (kid x 0)).f0, .int .i64 (simpS N n (kid x 0)).f1, .string (simpS N n (kid x 0)).f2, .slice A5 (simpS N n (kid x 0)).f3.length c5] (0, 0) _ BK3.out huP rfl HIP.out ?_; (try simp only [Act.put, sq1, sq2, sq3])) | ((with_reducible refine gate_callee (f := 39) rfl ?_); (with_reducible refine gate_dst (N := 51) rfl ?_); refine gate_guard (by rfl) ?_; dsimp only; refine goesL_ (some 51) rfl rfl Try.func39 (by kernel_rfl) rfl #[.agg #[.int .i64 (simpS N n (kid x 0)).f0, .int .i64 (simpS N n (kid x 0)).f1, .string (simpS N n (kid x 0)).f2, .slice A5 (simpS N n (kid x 0)).f3.length c5]] rfl (by (try simp only [sm1, sm2, sm3]); first | done | rfl) ?_; refine (spec_l15Empty.calls (simpS N n (kid x 0)).f0 (simpS N n (kid x 0)).f1 (simpS N n (kid x 0)).f2 A5 c5 (simpS N n (kid x 0)).f3 true _ (T.C _ (simpS N n (kid x 0)).f3 (Nat.le_refl _) U5.out) U5.out.len ((spec_empty (simpS N n (kid x 0))).trans (congrArg some HEK.out))).mono ?_; rintro e we ⟨rfl, hb⟩; refine ⟨_, rfl, ?_⟩; have n8_ := Aside0.mk (U5.out.grow hb); clear U5; have U5 := n8_; clear n8_; have n_ := fr3 HB BK1 BK2 BK3 hb; clear HB BK1 BK2 BK3; obtain ⟨HB, BK1, BK2, BK3⟩ := n_; clear hb; (try simp only [Act.put, sq1, sq2, sq3])) | ((with_reducible refine gate_store (t := 30) (p := 2) rfl ?_); refine Go.Proofs.Ytomakpfmghekfaa.RowLaw.put_event rfl 30 _ _ rfl g2 0 (.agg #[.int .i64 1, .int .i64 0, .string (⟨#[]⟩), .slice none 0 0]) rfl rfl [.int .i64 1, .int .i64 0, .string (⟨#[]⟩), .slice none 0 0] rfl 30 _ #[.int .i64 1, .int .i64 0, .string (⟨#[]⟩), .slice none 0 0] BK2.out HIP.out (Nat.le_of_ble_eq_true rfl) rfl rfl ?_; intro w9 hk hoth hbel hz; have q_ := Aside0.mk (hbel _ _ HB.out GE2.out); have HZ2 := Aside0.mk hz; clear HB BK2 ; have HB := q_; have BK2 := Aside0.mk hk; clear q_ hk hoth hbel hz ; (try simp only [Act.put, sq1, sq2, sq3])))
   refine bodyPost_ret (results_cell_row rfl _ _ _ 30 _ (0, 0) _ rfl BK2.out huP rfl (by kernel_rfl)) rfl ?_
   try rw [EQ]
   exact ⟨_, fun _ => False, rfl, .nil _ _ _, fun _ h => h.elim, HB.out⟩
  | false =>
   have EQ : simpS N (n + 1) x = ⟨20, 0, ⟨#[]⟩, [(simpS N n (kid x 0))]⟩ := by simp only [simpS]; rw [if_neg (by rw [b6]; simp), if_neg (by rw [b19]; simp), if_neg (by rw [b18]; simp), if_pos b20, if_neg (by rw [e16b, hek]; simp)]
   have HEK := Aside0.mk hek
   clear hek
   go_wp2_with (first | ((with_reducible refine gate_dst (N := 44) rfl ?_); refine Go.Proofs.Ytomakpfmghekfaa.RowLaw.at_event rfl 30 _ rfl _ rfl _ [.int .i64 (kid x 0).f0, .int .i64 (kid x 0).f1, .string (kid x 0).f2, .slice A0 (kid x 0).f3.length c0] huP rfl HIP.out (EC0.out.below HB.out) ?_; (try simp only [Act.put, sq1, sq2, sq3])) | ((with_reducible refine gate_callee (f := 30) rfl ?_); refine goesL_ (some 45) rfl rfl Try.func30 (by kernel_rfl) rfl #[.agg #[.int .i64 (kid x 0).f0, .int .i64 (kid x 0).f1, .string (kid x 0).f2, .slice A0 (kid x 0).f3.length c0]] rfl (by (try simp only [sm1, sm2, sm3]); first | done | rfl) ?_; refine (IH.out (kid x 0) V0.out CN0.out CM0.out (.slice A0 (kid x 0).f3.length c0) B0 _ (HT0.out.grow HB.out) (fun k hk => Nat.lt_of_lt_of_le (HL.out k (HS0.out k hk)) HB.out.size)).mono ?_; rintro e wc ⟨v5, B5, rfl, hT, hB', hb⟩; refine ⟨_, rfl, ?_⟩; have U5 := Aside0.mk hT; have UB5 := Aside0.mk (fun k hk => (hB' k hk).1); have UL5 := Aside0.mk (fun k hk => (hB' k hk).2); have SZ5 := Aside0.mk HB.out.size; have G25 := Aside0.mk (blk_lt BK2.out); have n_ := fr2 HB BK1 BK2 hb; clear HB BK1 BK2; obtain ⟨HB, BK1, BK2⟩ := n_; obtain ⟨A5, c5, e5, _⟩ := hT.inv; subst e5; clear hT hB' hb zx0 zx1 zx2 zx3; obtain ⟨zx0, zx1, zx2, zx3⟩ := z4 BK1.out; (try simp only [Act.put, sq1, sq2, sq3])) | ((with_reducible refine gate_dst (N := 3) rfl ?_); refine box_event ?hg (N := 3) ?hd (cs := #[.int .i64 0, .int .i64 0, .string (⟨#[]⟩ : ByteArray), .slice none 0 0]) (t := 30) ?hr ?_; (case hd => rfl); (case hg => rfl); (case hr => first | (go_simp; done) | (go_simp; rfl)); intro g3 hg w3 hbox hb; have GE3 := Aside0.mk (by rw [hg]; exact HB.out.size : w.heap.size ≤ g3); have NN2 := Aside0.mk (by rw [hg]; exact Nat.ne_of_lt (blk_lt BK2.out) : g2 ≠ g3); have NN1 := Aside0.mk (by rw [hg]; exact Nat.ne_of_lt (blk_lt BK1.out) : g1 ≠ g3); have LG := Aside0.mk (by rw [hg]; exact UL5.out : ∀ k, B5 k → k < g3); have n8_ := Aside0.mk (U5.out.grow hb); clear U5; have U5 := n8_; clear n8_; have n_ := fr2 HB BK1 BK2 hb; clear HB BK1 BK2; obtain ⟨HB, BK1, BK2⟩ := n_; have BK3 := Aside0.mk hbox; clear hbox hg hb; (try simp only [Act.put, sq1, sq2, sq3])) | ((with_reducible refine gate_store (t := 30) (p := 3) rfl ?_); refine Go.Proofs.Ytomakpfmghekfaa.RowLaw.put_event rfl 30 _ _ rfl g3 0 (.agg #[.int .i64 (simpS N n (kid x 0)).f0, .int .i64 (simpS N n (kid x 0)).f1, .string (simpS N n (kid x 0)).f2, .slice A5 (simpS N n (kid x 0)).f3.length c5]) rfl rfl [.int .i64 (simpS N n (kid x 0)).f0, .int .i64 (simpS N n (kid x 0)).f1, .string (simpS N n (kid x 0)).f2, .slice A5 (simpS N n (kid x 0)).f3.length c5] rfl 30 _ #[.int .i64 (simpS N n (kid x 0)).f0, .int .i64 (simpS N n (kid x 0)).f1, .string (simpS N n (kid x 0)).f2, .slice A5 (simpS N n (kid x 0)).f3.length c5] BK3.out HIP.out (Nat.le_of_ble_eq_true rfl) rfl rfl ?_; intro w9 hk hoth hbel hz; have n0_ := Aside0.mk ((hoth g1 NN1.out).trans BK1.out); have n1_ := Aside0.mk ((hoth g2 NN2.out).trans BK2.out); have n2_ := Aside0.mk (U5.out.move (fun k jb => hoth k (Nat.ne_of_lt (LG.out k jb)))); have q_ := Aside0.mk (hbel _ _ HB.out GE3.out); have HZ3 := Aside0.mk hz; clear HB BK3 BK1 BK2 U5; have HB := q_; have BK1 := n0_; have BK2 := n1_; have U5 := n2_; have BK3 := Aside0.mk hk; clear q_ hk hoth hbel hz n0_ n1_ n2_; (try simp only [Act.put, sq1, sq2, sq3]); clear zx0 zx1 zx2 zx3; obtain ⟨zx0, zx1, zx2, zx3⟩ := z4 BK1.out; have zy0 : w9.cell? ⟨g3, 0, none⟩ = some (.int .i64 (simpS N n (kid x 0)).f0) := (blk_cell BK3.out 0).trans rfl; have zy1 : w9.cell? ⟨g3, 1, none⟩ = some (.int .i64 (simpS N n (kid x 0)).f1) := (blk_cell BK3.out 1).trans rfl; have zy2 : w9.cell? ⟨g3, 2, none⟩ = some (.string (simpS N n (kid x 0)).f2) := (blk_cell BK3.out 2).trans rfl; have zy3 : w9.cell? ⟨g3, 3, none⟩ = some (.slice A5 (simpS N n (kid x 0)).f3.length c5) := (blk_cell BK3.out 3).trans rfl) | ((with_reducible refine gate_dst (N := 50) rfl ?_); (try (refine gate_guard (by rfl) ?_; dsimp only)); refine wpList_load_row rfl 30 _ rfl g3 rfl 30 #[.int .i64 (simpS N n (kid x 0)).f0, .int .i64 (simpS N n (kid x 0)).f1, .string (simpS N n (kid x 0)).f2, .slice A5 (simpS N n (kid x 0)).f3.length c5] (0, 0) _ BK3.out huP rfl HIP.out ?_; (try simp only [Act.put, sq1, sq2, sq3])) | ((with_reducible refine gate_callee (f := 39) rfl ?_); (with_reducible refine gate_dst (N := 51) rfl ?_); refine gate_guard (by rfl) ?_; dsimp only; refine goesL_ (some 51) rfl rfl Try.func39 (by kernel_rfl) rfl #[.agg #[.int .i64 (simpS N n (kid x 0)).f0, .int .i64 (simpS N n (kid x 0)).f1, .string (simpS N n (kid x 0)).f2, .slice A5 (simpS N n (kid x 0)).f3.length c5]] rfl (by (try simp only [sm1, sm2, sm3]); first | done | rfl) ?_; refine (spec_l15Empty.calls (simpS N n (kid x 0)).f0 (simpS N n (kid x 0)).f1 (simpS N n (kid x 0)).f2 A5 c5 (simpS N n (kid x 0)).f3 false _ (T.C _ (simpS N n (kid x 0)).f3 (Nat.le_refl _) U5.out) U5.out.len ((spec_empty (simpS N n (kid x 0))).trans (congrArg some HEK.out))).mono ?_; rintro e we ⟨rfl, hb⟩; refine ⟨_, rfl, ?_⟩; have n8_ := Aside0.mk (U5.out.grow hb); clear U5; have U5 := n8_; clear n8_; have n_ := fr3 HB BK1 BK2 BK3 hb; clear HB BK1 BK2 BK3; obtain ⟨HB, BK1, BK2, BK3⟩ := n_; clear hb; (try simp only [Act.put, sq1, sq2, sq3])) | ((with_reducible refine gate_dst (N := 54) rfl ?_); refine wpList_load_row rfl 30 _ rfl g3 rfl 30 #[.int .i64 (simpS N n (kid x 0)).f0, .int .i64 (simpS N n (kid x 0)).f1, .string (simpS N n (kid x 0)).f2, .slice A5 (simpS N n (kid x 0)).f3.length c5] (0, 0) _ BK3.out huP rfl HIP.out ?_; (try simp only [Act.put, sq1, sq2, sq3])) | ((with_reducible refine gate_dst (N := 55) rfl ?_); refine row_event 30 1 ([.int .i64 (simpS N n (kid x 0)).f0, .int .i64 (simpS N n (kid x 0)).f1, .string (simpS N n (kid x 0)).f2, .slice A5 (simpS N n (kid x 0)).f3.length c5]) rfl ?hr ?_; (case hr => first | (go_simp; done) | (go_simp; rfl)); intro w5 m5 hm hn hb; have HN5 := Aside0.mk hn; have GM := Aside0.mk (by rw [hm]; exact Nat.ne_of_gt (blk_lt BK2.out) : m5 ≠ g2); have GE5 := Aside0.mk (by rw [hm]; exact HB.out.size : w.heap.size ≤ m5); have LM := Aside0.mk (by rw [hm]; intro k hk; exact Nat.lt_trans (LG.out k hk) (blk_lt BK3.out) : ∀ k, B5 k → k < m5); have n8_ := Aside0.mk (U5.out.grow hb); clear U5; have U5 := n8_; clear n8_; have n_ := fr2 HB BK1 BK2 hb; clear HB BK1 BK2; obtain ⟨HB, BK1, BK2⟩ := n_; clear hm hn hb; (try simp only [Act.put, sq1, sq2, sq3])) | ((with_reducible refine gate_store (t := 30) (p := 2) rfl ?_); refine Go.Proofs.Ytomakpfmghekfaa.RowLaw.put_event rfl 30 _ _ rfl g2 0 (.agg #[.int .i64 20, .int .i64 0, .string (⟨#[]⟩ : ByteArray), .slice (some ⟨m5, 0, none⟩) 1 1]) rfl rfl [.int .i64 20, .int .i64 0, .string (⟨#[]⟩ : ByteArray), .slice (some ⟨m5, 0, none⟩) 1 1] rfl 30 _ #[.int .i64 20, .int .i64 0, .string (⟨#[]⟩ : ByteArray), .slice (some ⟨m5, 0, none⟩) 1 1] BK2.out HIP.out (Nat.le_of_ble_eq_true rfl) rfl rfl ?_; intro w9 hk hoth hbel hz; have SUB : Aside0 (∀ k, B5 k → (B k ∨ w.heap.size ≤ k) ∧ k ≠ g2) := ⟨by intro k jb; have q2 := GE2.out; rcases UB5.out k jb with h | h; { have := HL.out k (HS0.out k h); exact ⟨.inl (HS0.out k h), by omega⟩ }; { have := G25.out; have := SZ5.out; exact ⟨.inr (by omega), by omega⟩ }⟩; have n0_ := Aside0.mk (U5.out.move (fun k jb => hoth k (SUB.out k jb).2)); have n1_ := Aside0.mk ((hoth m5 GM.out).trans HN5.out); have q_ := Aside0.mk (hbel _ _ HB.out GE2.out); have HZ2 := Aside0.mk hz; clear HB BK2 U5 HN5; have HB := q_; have U5 := n0_; have HN5 := n1_; have BK2 := Aside0.mk hk; clear q_ hk hoth hbel hz n0_ n1_; (try simp only [Act.put, sq1, sq2, sq3])))
   refine bodyPost_ret (results_cell_row rfl _ _ _ 30 _ (0, 0) _ rfl BK2.out huP rfl (by kernel_rfl)) rfl ?_
   try rw [EQ]
   refine ⟨_, _, rfl, T_one HN5.out U5.out (fun k hk => Nat.ne_of_lt (LM.out k hk)), fun k hk => ?_, HB.out⟩
   have hlt := blk_lt HN5.out
   rcases hk with hk | rfl
   ·exact ⟨(SUB.out k hk).1, Nat.lt_trans (LM.out k hk) hlt⟩
   ·exact ⟨.inr GE5.out, hlt⟩
 have b20 : (x.f0 == 20) = false := beq_eq_false_iff_ne.mpr c20
 by_cases c21 : x.f0 = 21
 ·have b21 : (x.f0 == 21) = true := beq_iff_eq.mpr c21
  have hl1 : x.f3.length = 1 := by cases HV.out with | mk _ _ h1 _ _ _ _ => exact (h1 (by omega)).1
  have e1 := kid_one hl1
  have hcn : cntT x = 1 + cntT (kid x 0) := by rw [cntT_eq, e1]; simp [cntL, kid]
  obtain ⟨ge, A0, c0, B0, rfl, hC0, hT0, hs0⟩ := HT.out.elem 0 (by omega)
  have V0 := Aside0.mk (HV.out.kid 0 (by omega))
  have EC0 := Aside0.mk (show Go.Proofs.Ytomakpfmghekfaa.RowLaw.CellsAt w ⟨ge, 0, none⟩ (cellsP (kid x 0) (.slice A0 (kid x 0).f3.length c0)) from hC0)
  have HT0 := Aside0.mk (show T False w B0 (.slice A0 (kid x 0).f3.length c0) (kid x 0).f3 from hT0)
  have HS0 := Aside0.mk hs0
  have CN0 := Aside0.mk (by have := HN.out; omega : cntT (kid x 0) ≤ n)
  have CM0 := Aside0.mk (by have := HNN.out; omega : cntT (kid x 0) ≤ N)
  have k0 : ((0 : Int) < (x.f3.length : Int)) = True := eq_true (by omega)
  have k0n : (0 < x.f3.length) = True := eq_true (by omega)
  clear hC0 hT0 hs0 e1 hcn
  by_cases e16 : (simpS N n (kid x 0)).f0 = 16
  ·have e16b : ((simpS N n (kid x 0)).f0 == 16) = true := beq_iff_eq.mpr e16
   have EQ : simpS N (n + 1) x = (simpS N n (kid x 0)) := by simp only [simpS]; rw [if_neg (by rw [b6]; simp), if_neg (by rw [b19]; simp), if_neg (by rw [b18]; simp), if_neg (by rw [b20]; simp), if_pos (by rw [b21]; simp), if_pos (by rw [e16b]; simp)]
   go_wp2_with (first | ((with_reducible refine gate_dst (N := 63) rfl ?_); refine Go.Proofs.Ytomakpfmghekfaa.RowLaw.at_event rfl 30 _ rfl _ rfl _ [.int .i64 (kid x 0).f0, .int .i64 (kid x 0).f1, .string (kid x 0).f2, .slice A0 (kid x 0).f3.length c0] huP rfl HIP.out (EC0.out.below HB.out) ?_; (try simp only [Act.put, sq1, sq2, sq3])) | ((with_reducible refine gate_callee (f := 30) rfl ?_); refine goesL_ (some 64) rfl rfl Try.func30 (by kernel_rfl) rfl #[.agg #[.int .i64 (kid x 0).f0, .int .i64 (kid x 0).f1, .string (kid x 0).f2, .slice A0 (kid x 0).f3.length c0]] rfl (by (try simp only [sm1, sm2, sm3]); first | done | rfl) ?_; refine (IH.out (kid x 0) V0.out CN0.out CM0.out (.slice A0 (kid x 0).f3.length c0) B0 _ (HT0.out.grow HB.out) (fun k hk => Nat.lt_of_lt_of_le (HL.out k (HS0.out k hk)) HB.out.size)).mono ?_; rintro e wc ⟨v5, B5, rfl, hT, hB', hb⟩; refine ⟨_, rfl, ?_⟩; have U5 := Aside0.mk hT; have UB5 := Aside0.mk (fun k hk => (hB' k hk).1); have UL5 := Aside0.mk (fun k hk => (hB' k hk).2); have SZ5 := Aside0.mk HB.out.size; have G25 := Aside0.mk (blk_lt BK2.out); have n_ := fr2 HB BK1 BK2 hb; clear HB BK1 BK2; obtain ⟨HB, BK1, BK2⟩ := n_; obtain ⟨A5, c5, e5, _⟩ := hT.inv; subst e5; clear hT hB' hb zx0 zx1 zx2 zx3; obtain ⟨zx0, zx1, zx2, zx3⟩ := z4 BK1.out; (try simp only [Act.put, sq1, sq2, sq3])) | ((with_reducible refine gate_dst (N := 4) rfl ?_); refine box_event ?hg (N := 4) ?hd (cs := #[.int .i64 0, .int .i64 0, .string (⟨#[]⟩ : ByteArray), .slice none 0 0]) (t := 30) ?hr ?_; (case hd => rfl); (case hg => rfl); (case hr => first | (go_simp; done) | (go_simp; rfl)); intro g4 hg w4 hbox hb; have GE4 := Aside0.mk (by rw [hg]; exact HB.out.size : w.heap.size ≤ g4); have NN2 := Aside0.mk (by rw [hg]; exact Nat.ne_of_lt (blk_lt BK2.out) : g2 ≠ g4); have NN1 := Aside0.mk (by rw [hg]; exact Nat.ne_of_lt (blk_lt BK1.out) : g1 ≠ g4); have LG := Aside0.mk (by rw [hg]; exact UL5.out : ∀ k, B5 k → k < g4); have n8_ := Aside0.mk (U5.out.grow hb); clear U5; have U5 := n8_; clear n8_; have n_ := fr2 HB BK1 BK2 hb; clear HB BK1 BK2; obtain ⟨HB, BK1, BK2⟩ := n_; have BK4 := Aside0.mk hbox; clear hbox hg hb; (try simp only [Act.put, sq1, sq2, sq3])) | ((with_reducible refine gate_store (t := 30) (p := 4) rfl ?_); refine Go.Proofs.Ytomakpfmghekfaa.RowLaw.put_event rfl 30 _ _ rfl g4 0 (.agg #[.int .i64 (simpS N n (kid x 0)).f0, .int .i64 (simpS N n (kid x 0)).f1, .string (simpS N n (kid x 0)).f2, .slice A5 (simpS N n (kid x 0)).f3.length c5]) rfl rfl [.int .i64 (simpS N n (kid x 0)).f0, .int .i64 (simpS N n (kid x 0)).f1, .string (simpS N n (kid x 0)).f2, .slice A5 (simpS N n (kid x 0)).f3.length c5] rfl 30 _ #[.int .i64 (simpS N n (kid x 0)).f0, .int .i64 (simpS N n (kid x 0)).f1, .string (simpS N n (kid x 0)).f2, .slice A5 (simpS N n (kid x 0)).f3.length c5] BK4.out HIP.out (Nat.le_of_ble_eq_true rfl) rfl rfl ?_; intro w9 hk hoth hbel hz; have n0_ := Aside0.mk ((hoth g1 NN1.out).trans BK1.out); have n1_ := Aside0.mk ((hoth g2 NN2.out).trans BK2.out); have n2_ := Aside0.mk (U5.out.move (fun k jb => hoth k (Nat.ne_of_lt (LG.out k jb)))); have q_ := Aside0.mk (hbel _ _ HB.out GE4.out); have HZ4 := Aside0.mk hz; clear HB BK4 BK1 BK2 U5; have HB := q_; have BK1 := n0_; have BK2 := n1_; have U5 := n2_; have BK4 := Aside0.mk hk; clear q_ hk hoth hbel hz n0_ n1_ n2_; (try simp only [Act.put, sq1, sq2, sq3]); clear zx0 zx1 zx2 zx3; obtain ⟨zx0, zx1, zx2, zx3⟩ := z4 BK1.out; have zy0 : w9.cell? ⟨g4, 0, none⟩ = some (.int .i64 (simpS N n (kid x 0)).f0) := (blk_cell BK4.out 0).trans rfl; have zy1 : w9.cell? ⟨g4, 1, none⟩ = some (.int .i64 (simpS N n (kid x 0)).f1) := (blk_cell BK4.out 1).trans rfl; have zy2 : w9.cell? ⟨g4, 2, none⟩ = some (.string (simpS N n (kid x 0)).f2) := (blk_cell BK4.out 2).trans rfl; have zy3 : w9.cell? ⟨g4, 3, none⟩ = some (.slice A5 (simpS N n (kid x 0)).f3.length c5) := (blk_cell BK4.out 3).trans rfl) | ((with_reducible refine gate_dst (N := 73) rfl ?_); refine wpList_load_row rfl 30 _ rfl g4 rfl 30 #[.int .i64 (simpS N n (kid x 0)).f0, .int .i64 (simpS N n (kid x 0)).f1, .string (simpS N n (kid x 0)).f2, .slice A5 (simpS N n (kid x 0)).f3.length c5] (0, 0) _ BK4.out huP rfl HIP.out ?_; (try simp only [Act.put, sq1, sq2, sq3])) | ((with_reducible refine gate_store (t := 30) (p := 2) rfl ?_); refine Go.Proofs.Ytomakpfmghekfaa.RowLaw.put_event rfl 30 _ _ rfl g2 0 (.agg #[.int .i64 (simpS N n (kid x 0)).f0, .int .i64 (simpS N n (kid x 0)).f1, .string (simpS N n (kid x 0)).f2, .slice A5 (simpS N n (kid x 0)).f3.length c5]) rfl rfl [.int .i64 (simpS N n (kid x 0)).f0, .int .i64 (simpS N n (kid x 0)).f1, .string (simpS N n (kid x 0)).f2, .slice A5 (simpS N n (kid x 0)).f3.length c5] rfl 30 _ #[.int .i64 (simpS N n (kid x 0)).f0, .int .i64 (simpS N n (kid x 0)).f1, .string (simpS N n (kid x 0)).f2, .slice A5 (simpS N n (kid x 0)).f3.length c5] BK2.out HIP.out (Nat.le_of_ble_eq_true rfl) rfl rfl ?_; intro w9 hk hoth hbel hz; have UZ := Aside0.mk (fun k (jb : B5 k) => (Nat.lt_trans (LG.out k jb) (blk_lt BK4.out))); have SUB : Aside0 (∀ k, B5 k → (B k ∨ w.heap.size ≤ k) ∧ k ≠ g2) := ⟨by intro k jb; have q2 := GE2.out; rcases UB5.out k jb with h | h; { have := HL.out k (HS0.out k h); exact ⟨.inl (HS0.out k h), by omega⟩ }; { have := G25.out; have := SZ5.out; exact ⟨.inr (by omega), by omega⟩ }⟩; have n0_ := Aside0.mk (U5.out.move (fun k jb => hoth k (SUB.out k jb).2)); have q_ := Aside0.mk (hbel _ _ HB.out GE2.out); have HZ2 := Aside0.mk hz; clear HB BK2 U5; have HB := q_; have U5 := n0_; have BK2 := Aside0.mk hk; clear q_ hk hoth hbel hz n0_; (try simp only [Act.put, sq1, sq2, sq3])))
   refine bodyPost_ret (results_cell_row rfl _ _ _ 30 _ (0, 0) _ rfl BK2.out huP rfl (by kernel_rfl)) rfl ?_
   try rw [EQ]
   exact ⟨_, B5, rfl, U5.out, fun k hk => ⟨(SUB.out k hk).1, by rw [HZ2.out]; exact UZ.out k hk⟩, HB.out⟩
  have e16b : ((simpS N n (kid x 0)).f0 == 16) = false := beq_eq_false_iff_ne.mpr e16
  by_cases e15 : (simpS N n (kid x 0)).f0 = 15
  ·have e15b : ((simpS N n (kid x 0)).f0 == 15) = true := beq_iff_eq.mpr e15
   have EQ : simpS N (n + 1) x = (simpS N n (kid x 0)) := by simp only [simpS]; rw [if_neg (by rw [b6]; simp), if_neg (by rw [b19]; simp), if_neg (by rw [b18]; simp), if_neg (by rw [b20]; simp), if_pos (by rw [b21]; simp), if_pos (by rw [e15b]; simp)]
   go_wp2_with (first | ((with_reducible refine gate_dst (N := 63) rfl ?_); refine Go.Proofs.Ytomakpfmghekfaa.RowLaw.at_event rfl 30 _ rfl _ rfl _ [.int .i64 (kid x 0).f0, .int .i64 (kid x 0).f1, .string (kid x 0).f2, .slice A0 (kid x 0).f3.length c0] huP rfl HIP.out (EC0.out.below HB.out) ?_; (try simp only [Act.put, sq1, sq2, sq3])) | ((with_reducible refine gate_callee (f := 30) rfl ?_); refine goesL_ (some 64) rfl rfl Try.func30 (by kernel_rfl) rfl #[.agg #[.int .i64 (kid x 0).f0, .int .i64 (kid x 0).f1, .string (kid x 0).f2, .slice A0 (kid x 0).f3.length c0]] rfl (by (try simp only [sm1, sm2, sm3]); first | done | rfl) ?_; refine (IH.out (kid x 0) V0.out CN0.out CM0.out (.slice A0 (kid x 0).f3.length c0) B0 _ (HT0.out.grow HB.out) (fun k hk => Nat.lt_of_lt_of_le (HL.out k (HS0.out k hk)) HB.out.size)).mono ?_; rintro e wc ⟨v5, B5, rfl, hT, hB', hb⟩; refine ⟨_, rfl, ?_⟩; have U5 := Aside0.mk hT; have UB5 := Aside0.mk (fun k hk => (hB' k hk).1); have UL5 := Aside0.mk (fun k hk => (hB' k hk).2); have SZ5 := Aside0.mk HB.out.size; have G25 := Aside0.mk (blk_lt BK2.out); have n_ := fr2 HB BK1 BK2 hb; clear HB BK1 BK2; obtain ⟨HB, BK1, BK2⟩ := n_; obtain ⟨A5, c5, e5, _⟩ := hT.inv; subst e5; clear hT hB' hb zx0 zx1 zx2 zx3; obtain ⟨zx0, zx1, zx2, zx3⟩ := z4 BK1.out; (try simp only [Act.put, sq1, sq2, sq3])) | ((with_reducible refine gate_dst (N := 4) rfl ?_); refine box_event ?hg (N := 4) ?hd (cs := #[.int .i64 0, .int .i64 0, .string (⟨#[]⟩ : ByteArray), .slice none 0 0]) (t := 30) ?hr ?_; (case hd => rfl); (case hg => rfl); (case hr => first | (go_simp; done) | (go_simp; rfl)); intro g4 hg w4 hbox hb; have GE4 := Aside0.mk (by rw [hg]; exact HB.out.size : w.heap.size ≤ g4); have NN2 := Aside0.mk (by rw [hg]; exact Nat.ne_of_lt (blk_lt BK2.out) : g2 ≠ g4); have NN1 := Aside0.mk (by rw [hg]; exact Nat.ne_of_lt (blk_lt BK1.out) : g1 ≠ g4); have LG := Aside0.mk (by rw [hg]; exact UL5.out : ∀ k, B5 k → k < g4); have n8_ := Aside0.mk (U5.out.grow hb); clear U5; have U5 := n8_; clear n8_; have n_ := fr2 HB BK1 BK2 hb; clear HB BK1 BK2; obtain ⟨HB, BK1, BK2⟩ := n_; have BK4 := Aside0.mk hbox; clear hbox hg hb; (try simp only [Act.put, sq1, sq2, sq3])) | ((with_reducible refine gate_store (t := 30) (p := 4) rfl ?_); refine Go.Proofs.Ytomakpfmghekfaa.RowLaw.put_event rfl 30 _ _ rfl g4 0 (.agg #[.int .i64 (simpS N n (kid x 0)).f0, .int .i64 (simpS N n (kid x 0)).f1, .string (simpS N n (kid x 0)).f2, .slice A5 (simpS N n (kid x 0)).f3.length c5]) rfl rfl [.int .i64 (simpS N n (kid x 0)).f0, .int .i64 (simpS N n (kid x 0)).f1, .string (simpS N n (kid x 0)).f2, .slice A5 (simpS N n (kid x 0)).f3.length c5] rfl 30 _ #[.int .i64 (simpS N n (kid x 0)).f0, .int .i64 (simpS N n (kid x 0)).f1, .string (simpS N n (kid x 0)).f2, .slice A5 (simpS N n (kid x 0)).f3.length c5] BK4.out HIP.out (Nat.le_of_ble_eq_true rfl) rfl rfl ?_; intro w9 hk hoth hbel hz; have n0_ := Aside0.mk ((hoth g1 NN1.out).trans BK1.out); have n1_ := Aside0.mk ((hoth g2 NN2.out).trans BK2.out); have n2_ := Aside0.mk (U5.out.move (fun k jb => hoth k (Nat.ne_of_lt (LG.out k jb)))); have q_ := Aside0.mk (hbel _ _ HB.out GE4.out); have HZ4 := Aside0.mk hz; clear HB BK4 BK1 BK2 U5; have HB := q_; have BK1 := n0_; have BK2 := n1_; have U5 := n2_; have BK4 := Aside0.mk hk; clear q_ hk hoth hbel hz n0_ n1_ n2_; (try simp only [Act.put, sq1, sq2, sq3]); clear zx0 zx1 zx2 zx3; obtain ⟨zx0, zx1, zx2, zx3⟩ := z4 BK1.out; have zy0 : w9.cell? ⟨g4, 0, none⟩ = some (.int .i64 (simpS N n (kid x 0)).f0) := (blk_cell BK4.out 0).trans rfl; have zy1 : w9.cell? ⟨g4, 1, none⟩ = some (.int .i64 (simpS N n (kid x 0)).f1) := (blk_cell BK4.out 1).trans rfl; have zy2 : w9.cell? ⟨g4, 2, none⟩ = some (.string (simpS N n (kid x 0)).f2) := (blk_cell BK4.out 2).trans rfl; have zy3 : w9.cell? ⟨g4, 3, none⟩ = some (.slice A5 (simpS N n (kid x 0)).f3.length c5) := (blk_cell BK4.out 3).trans rfl) | ((with_reducible refine gate_dst (N := 73) rfl ?_); refine wpList_load_row rfl 30 _ rfl g4 rfl 30 #[.int .i64 (simpS N n (kid x 0)).f0, .int .i64 (simpS N n (kid x 0)).f1, .string (simpS N n (kid x 0)).f2, .slice A5 (simpS N n (kid x 0)).f3.length c5] (0, 0) _ BK4.out huP rfl HIP.out ?_; (try simp only [Act.put, sq1, sq2, sq3])) | ((with_reducible refine gate_store (t := 30) (p := 2) rfl ?_); refine Go.Proofs.Ytomakpfmghekfaa.RowLaw.put_event rfl 30 _ _ rfl g2 0 (.agg #[.int .i64 (simpS N n (kid x 0)).f0, .int .i64 (simpS N n (kid x 0)).f1, .string (simpS N n (kid x 0)).f2, .slice A5 (simpS N n (kid x 0)).f3.length c5]) rfl rfl [.int .i64 (simpS N n (kid x 0)).f0, .int .i64 (simpS N n (kid x 0)).f1, .string (simpS N n (kid x 0)).f2, .slice A5 (simpS N n (kid x 0)).f3.length c5] rfl 30 _ #[.int .i64 (simpS N n (kid x 0)).f0, .int .i64 (simpS N n (kid x 0)).f1, .string (simpS N n (kid x 0)).f2, .slice A5 (simpS N n (kid x 0)).f3.length c5] BK2.out HIP.out (Nat.le_of_ble_eq_true rfl) rfl rfl ?_; intro w9 hk hoth hbel hz; have UZ := Aside0.mk (fun k (jb : B5 k) => (Nat.lt_trans (LG.out k jb) (blk_lt BK4.out))); have SUB : Aside0 (∀ k, B5 k → (B k ∨ w.heap.size ≤ k) ∧ k ≠ g2) := ⟨by intro k jb; have q2 := GE2.out; rcases UB5.out k jb with h | h; { have := HL.out k (HS0.out k h); exact ⟨.inl (HS0.out k h), by omega⟩ }; { have := G25.out; have := SZ5.out; exact ⟨.inr (by omega), by omega⟩ }⟩; have n0_ := Aside0.mk (U5.out.move (fun k jb => hoth k (SUB.out k jb).2)); have q_ := Aside0.mk (hbel _ _ HB.out GE2.out); have HZ2 := Aside0.mk hz; clear HB BK2 U5; have HB := q_; have U5 := n0_; have BK2 := Aside0.mk hk; clear q_ hk hoth hbel hz n0_; (try simp only [Act.put, sq1, sq2, sq3])))
   refine bodyPost_ret (results_cell_row rfl _ _ _ 30 _ (0, 0) _ rfl BK2.out huP rfl (by kernel_rfl)) rfl ?_
   try rw [EQ]
   exact ⟨_, B5, rfl, U5.out, fun k hk => ⟨(SUB.out k hk).1, by rw [HZ2.out]; exact UZ.out k hk⟩, HB.out⟩
  have e15b : ((simpS N n (kid x 0)).f0 == 15) = false := beq_eq_false_iff_ne.mpr e15
  have EQ : simpS N (n + 1) x = ⟨21, 0, x.f2, [(simpS N n (kid x 0))]⟩ := by simp only [simpS]; rw [if_neg (by rw [b6]; simp), if_neg (by rw [b19]; simp), if_neg (by rw [b18]; simp), if_neg (by rw [b20]; simp), if_pos (by rw [b21]; simp), if_neg (by rw [e16b, e15b]; simp), c21]
  go_wp2_with (first | ((with_reducible refine gate_dst (N := 63) rfl ?_); refine Go.Proofs.Ytomakpfmghekfaa.RowLaw.at_event rfl 30 _ rfl _ rfl _ [.int .i64 (kid x 0).f0, .int .i64 (kid x 0).f1, .string (kid x 0).f2, .slice A0 (kid x 0).f3.length c0] huP rfl HIP.out (EC0.out.below HB.out) ?_; (try simp only [Act.put, sq1, sq2, sq3])) | ((with_reducible refine gate_callee (f := 30) rfl ?_); refine goesL_ (some 64) rfl rfl Try.func30 (by kernel_rfl) rfl #[.agg #[.int .i64 (kid x 0).f0, .int .i64 (kid x 0).f1, .string (kid x 0).f2, .slice A0 (kid x 0).f3.length c0]] rfl (by (try simp only [sm1, sm2, sm3]); first | done | rfl) ?_; refine (IH.out (kid x 0) V0.out CN0.out CM0.out (.slice A0 (kid x 0).f3.length c0) B0 _ (HT0.out.grow HB.out) (fun k hk => Nat.lt_of_lt_of_le (HL.out k (HS0.out k hk)) HB.out.size)).mono ?_; rintro e wc ⟨v5, B5, rfl, hT, hB', hb⟩; refine ⟨_, rfl, ?_⟩; have U5 := Aside0.mk hT; have UB5 := Aside0.mk (fun k hk => (hB' k hk).1); have UL5 := Aside0.mk (fun k hk => (hB' k hk).2); have SZ5 := Aside0.mk HB.out.size; have G25 := Aside0.mk (blk_lt BK2.out); have n_ := fr2 HB BK1 BK2 hb; clear HB BK1 BK2; obtain ⟨HB, BK1, BK2⟩ := n_; obtain ⟨A5, c5, e5, _⟩ := hT.inv; subst e5; clear hT hB' hb zx0 zx1 zx2 zx3; obtain ⟨zx0, zx1, zx2, zx3⟩ := z4 BK1.out; (try simp only [Act.put, sq1, sq2, sq3])) | ((with_reducible refine gate_dst (N := 4) rfl ?_); refine box_event ?hg (N := 4) ?hd (cs := #[.int .i64 0, .int .i64 0, .string (⟨#[]⟩ : ByteArray), .slice none 0 0]) (t := 30) ?hr ?_; (case hd => rfl); (case hg => rfl); (case hr => first | (go_simp; done) | (go_simp; rfl)); intro g4 hg w4 hbox hb; have GE4 := Aside0.mk (by rw [hg]; exact HB.out.size : w.heap.size ≤ g4); have NN2 := Aside0.mk (by rw [hg]; exact Nat.ne_of_lt (blk_lt BK2.out) : g2 ≠ g4); have NN1 := Aside0.mk (by rw [hg]; exact Nat.ne_of_lt (blk_lt BK1.out) : g1 ≠ g4); have LG := Aside0.mk (by rw [hg]; exact UL5.out : ∀ k, B5 k → k < g4); have n8_ := Aside0.mk (U5.out.grow hb); clear U5; have U5 := n8_; clear n8_; have n_ := fr2 HB BK1 BK2 hb; clear HB BK1 BK2; obtain ⟨HB, BK1, BK2⟩ := n_; have BK4 := Aside0.mk hbox; clear hbox hg hb; (try simp only [Act.put, sq1, sq2, sq3])) | ((with_reducible refine gate_store (t := 30) (p := 4) rfl ?_); refine Go.Proofs.Ytomakpfmghekfaa.RowLaw.put_event rfl 30 _ _ rfl g4 0 (.agg #[.int .i64 (simpS N n (kid x 0)).f0, .int .i64 (simpS N n (kid x 0)).f1, .string (simpS N n (kid x 0)).f2, .slice A5 (simpS N n (kid x 0)).f3.length c5]) rfl rfl [.int .i64 (simpS N n (kid x 0)).f0, .int .i64 (simpS N n (kid x 0)).f1, .string (simpS N n (kid x 0)).f2, .slice A5 (simpS N n (kid x 0)).f3.length c5] rfl 30 _ #[.int .i64 (simpS N n (kid x 0)).f0, .int .i64 (simpS N n (kid x 0)).f1, .string (simpS N n (kid x 0)).f2, .slice A5 (simpS N n (kid x 0)).f3.length c5] BK4.out HIP.out (Nat.le_of_ble_eq_true rfl) rfl rfl ?_; intro w9 hk hoth hbel hz; have n0_ := Aside0.mk ((hoth g1 NN1.out).trans BK1.out); have n1_ := Aside0.mk ((hoth g2 NN2.out).trans BK2.out); have n2_ := Aside0.mk (U5.out.move (fun k jb => hoth k (Nat.ne_of_lt (LG.out k jb)))); have q_ := Aside0.mk (hbel _ _ HB.out GE4.out); have HZ4 := Aside0.mk hz; clear HB BK4 BK1 BK2 U5; have HB := q_; have BK1 := n0_; have BK2 := n1_; have U5 := n2_; have BK4 := Aside0.mk hk; clear q_ hk hoth hbel hz n0_ n1_ n2_; (try simp only [Act.put, sq1, sq2, sq3]); clear zx0 zx1 zx2 zx3; obtain ⟨zx0, zx1, zx2, zx3⟩ := z4 BK1.out; have zy0 : w9.cell? ⟨g4, 0, none⟩ = some (.int .i64 (simpS N n (kid x 0)).f0) := (blk_cell BK4.out 0).trans rfl; have zy1 : w9.cell? ⟨g4, 1, none⟩ = some (.int .i64 (simpS N n (kid x 0)).f1) := (blk_cell BK4.out 1).trans rfl; have zy2 : w9.cell? ⟨g4, 2, none⟩ = some (.string (simpS N n (kid x 0)).f2) := (blk_cell BK4.out 2).trans rfl; have zy3 : w9.cell? ⟨g4, 3, none⟩ = some (.slice A5 (simpS N n (kid x 0)).f3.length c5) := (blk_cell BK4.out 3).trans rfl) | ((with_reducible refine gate_dst (N := 78) rfl ?_); refine wpList_load_row rfl 30 _ rfl g4 rfl 30 #[.int .i64 (simpS N n (kid x 0)).f0, .int .i64 (simpS N n (kid x 0)).f1, .string (simpS N n (kid x 0)).f2, .slice A5 (simpS N n (kid x 0)).f3.length c5] (0, 0) _ BK4.out huP rfl HIP.out ?_; (try simp only [Act.put, sq1, sq2, sq3])) | ((with_reducible refine gate_dst (N := 79) rfl ?_); refine row_event 30 1 ([.int .i64 (simpS N n (kid x 0)).f0, .int .i64 (simpS N n (kid x 0)).f1, .string (simpS N n (kid x 0)).f2, .slice A5 (simpS N n (kid x 0)).f3.length c5]) rfl ?hr ?_; (case hr => first | (go_simp; done) | (go_simp; rfl)); intro w5 m5 hm hn hb; have HN5 := Aside0.mk hn; have GM := Aside0.mk (by rw [hm]; exact Nat.ne_of_gt (blk_lt BK2.out) : m5 ≠ g2); have GE5 := Aside0.mk (by rw [hm]; exact HB.out.size : w.heap.size ≤ m5); have LM := Aside0.mk (by rw [hm]; intro k hk; exact Nat.lt_trans (LG.out k hk) (blk_lt BK4.out) : ∀ k, B5 k → k < m5); have n8_ := Aside0.mk (U5.out.grow hb); clear U5; have U5 := n8_; clear n8_; have n_ := fr2 HB BK1 BK2 hb; clear HB BK1 BK2; obtain ⟨HB, BK1, BK2⟩ := n_; clear hm hn hb; (try simp only [Act.put, sq1, sq2, sq3])) | ((with_reducible refine gate_store (t := 30) (p := 2) rfl ?_); refine Go.Proofs.Ytomakpfmghekfaa.RowLaw.put_event rfl 30 _ _ rfl g2 0 (.agg #[.int .i64 21, .int .i64 0, .string (x.f2), .slice (some ⟨m5, 0, none⟩) 1 1]) rfl rfl [.int .i64 21, .int .i64 0, .string (x.f2), .slice (some ⟨m5, 0, none⟩) 1 1] rfl 30 _ #[.int .i64 21, .int .i64 0, .string (x.f2), .slice (some ⟨m5, 0, none⟩) 1 1] BK2.out HIP.out (Nat.le_of_ble_eq_true rfl) rfl rfl ?_; intro w9 hk hoth hbel hz; have SUB : Aside0 (∀ k, B5 k → (B k ∨ w.heap.size ≤ k) ∧ k ≠ g2) := ⟨by intro k jb; have q2 := GE2.out; rcases UB5.out k jb with h | h; { have := HL.out k (HS0.out k h); exact ⟨.inl (HS0.out k h), by omega⟩ }; { have := G25.out; have := SZ5.out; exact ⟨.inr (by omega), by omega⟩ }⟩; have n0_ := Aside0.mk (U5.out.move (fun k jb => hoth k (SUB.out k jb).2)); have n1_ := Aside0.mk ((hoth m5 GM.out).trans HN5.out); have q_ := Aside0.mk (hbel _ _ HB.out GE2.out); have HZ2 := Aside0.mk hz; clear HB BK2 U5 HN5; have HB := q_; have U5 := n0_; have HN5 := n1_; have BK2 := Aside0.mk hk; clear q_ hk hoth hbel hz n0_ n1_; (try simp only [Act.put, sq1, sq2, sq3])))
  refine bodyPost_ret (results_cell_row rfl _ _ _ 30 _ (0, 0) _ rfl BK2.out huP rfl (by kernel_rfl)) rfl ?_
  try rw [EQ]
  refine ⟨_, _, rfl, T_one HN5.out U5.out (fun k hk => Nat.ne_of_lt (LM.out k hk)), fun k hk => ?_, HB.out⟩
  have hlt := blk_lt HN5.out
  rcases hk with hk | rfl
  ·exact ⟨(SUB.out k hk).1, Nat.lt_trans (LM.out k hk) hlt⟩
  ·exact ⟨.inr GE5.out, hlt⟩
 have b21 : (x.f0 == 21) = false := beq_eq_false_iff_ne.mpr c21
 by_cases c22 : x.f0 = 22
 ·have b22 : (x.f0 == 22) = true := beq_iff_eq.mpr c22
  have hl1 : x.f3.length = 1 := by cases HV.out with | mk _ _ h1 _ _ _ _ => exact (h1 (by omega)).1
  have e1 := kid_one hl1
  have hcn : cntT x = 1 + cntT (kid x 0) := by rw [cntT_eq, e1]; simp [cntL, kid]
  obtain ⟨ge, A0, c0, B0, rfl, hC0, hT0, hs0⟩ := HT.out.elem 0 (by omega)
  have V0 := Aside0.mk (HV.out.kid 0 (by omega))
  have EC0 := Aside0.mk (show Go.Proofs.Ytomakpfmghekfaa.RowLaw.CellsAt w ⟨ge, 0, none⟩ (cellsP (kid x 0) (.slice A0 (kid x 0).f3.length c0)) from hC0)
  have HT0 := Aside0.mk (show T False w B0 (.slice A0 (kid x 0).f3.length c0) (kid x 0).f3 from hT0)
  have HS0 := Aside0.mk hs0
  have CN0 := Aside0.mk (by have := HN.out; omega : cntT (kid x 0) ≤ n)
  have CM0 := Aside0.mk (by have := HNN.out; omega : cntT (kid x 0) ≤ N)
  have k0 : ((0 : Int) < (x.f3.length : Int)) = True := eq_true (by omega)
  have k0n : (0 < x.f3.length) = True := eq_true (by omega)
  clear hC0 hT0 hs0 e1 hcn
  by_cases e16 : (simpS N n (kid x 0)).f0 = 16
  ·have e16b : ((simpS N n (kid x 0)).f0 == 16) = true := beq_iff_eq.mpr e16
   have EQ : simpS N (n + 1) x = (simpS N n (kid x 0)) := by simp only [simpS]; rw [if_neg (by rw [b6]; simp), if_neg (by rw [b19]; simp), if_neg (by rw [b18]; simp), if_neg (by rw [b20]; simp), if_pos (by rw [b22]; simp), if_pos (by rw [e16b]; simp)]
   go_wp2_with (first | ((with_reducible refine gate_dst (N := 63) rfl ?_); refine Go.Proofs.Ytomakpfmghekfaa.RowLaw.at_event rfl 30 _ rfl _ rfl _ [.int .i64 (kid x 0).f0, .int .i64 (kid x 0).f1, .string (kid x 0).f2, .slice A0 (kid x 0).f3.length c0] huP rfl HIP.out (EC0.out.below HB.out) ?_; (try simp only [Act.put, sq1, sq2, sq3])) | ((with_reducible refine gate_callee (f := 30) rfl ?_); refine goesL_ (some 64) rfl rfl Try.func30 (by kernel_rfl) rfl #[.agg #[.int .i64 (kid x 0).f0, .int .i64 (kid x 0).f1, .string (kid x 0).f2, .slice A0 (kid x 0).f3.length c0]] rfl (by (try simp only [sm1, sm2, sm3]); first | done | rfl) ?_; refine (IH.out (kid x 0) V0.out CN0.out CM0.out (.slice A0 (kid x 0).f3.length c0) B0 _ (HT0.out.grow HB.out) (fun k hk => Nat.lt_of_lt_of_le (HL.out k (HS0.out k hk)) HB.out.size)).mono ?_; rintro e wc ⟨v5, B5, rfl, hT, hB', hb⟩; refine ⟨_, rfl, ?_⟩; have U5 := Aside0.mk hT; have UB5 := Aside0.mk (fun k hk => (hB' k hk).1); have UL5 := Aside0.mk (fun k hk => (hB' k hk).2); have SZ5 := Aside0.mk HB.out.size; have G25 := Aside0.mk (blk_lt BK2.out); have n_ := fr2 HB BK1 BK2 hb; clear HB BK1 BK2; obtain ⟨HB, BK1, BK2⟩ := n_; obtain ⟨A5, c5, e5, _⟩ := hT.inv; subst e5; clear hT hB' hb zx0 zx1 zx2 zx3; obtain ⟨zx0, zx1, zx2, zx3⟩ := z4 BK1.out; (try simp only [Act.put, sq1, sq2, sq3])) | ((with_reducible refine gate_dst (N := 4) rfl ?_); refine box_event ?hg (N := 4) ?hd (cs := #[.int .i64 0, .int .i64 0, .string (⟨#[]⟩ : ByteArray), .slice none 0 0]) (t := 30) ?hr ?_; (case hd => rfl); (case hg => rfl); (case hr => first | (go_simp; done) | (go_simp; rfl)); intro g4 hg w4 hbox hb; have GE4 := Aside0.mk (by rw [hg]; exact HB.out.size : w.heap.size ≤ g4); have NN2 := Aside0.mk (by rw [hg]; exact Nat.ne_of_lt (blk_lt BK2.out) : g2 ≠ g4); have NN1 := Aside0.mk (by rw [hg]; exact Nat.ne_of_lt (blk_lt BK1.out) : g1 ≠ g4); have LG := Aside0.mk (by rw [hg]; exact UL5.out : ∀ k, B5 k → k < g4); have n8_ := Aside0.mk (U5.out.grow hb); clear U5; have U5 := n8_; clear n8_; have n_ := fr2 HB BK1 BK2 hb; clear HB BK1 BK2; obtain ⟨HB, BK1, BK2⟩ := n_; have BK4 := Aside0.mk hbox; clear hbox hg hb; (try simp only [Act.put, sq1, sq2, sq3])) | ((with_reducible refine gate_store (t := 30) (p := 4) rfl ?_); refine Go.Proofs.Ytomakpfmghekfaa.RowLaw.put_event rfl 30 _ _ rfl g4 0 (.agg #[.int .i64 (simpS N n (kid x 0)).f0, .int .i64 (simpS N n (kid x 0)).f1, .string (simpS N n (kid x 0)).f2, .slice A5 (simpS N n (kid x 0)).f3.length c5]) rfl rfl [.int .i64 (simpS N n (kid x 0)).f0, .int .i64 (simpS N n (kid x 0)).f1, .string (simpS N n (kid x 0)).f2, .slice A5 (simpS N n (kid x 0)).f3.length c5] rfl 30 _ #[.int .i64 (simpS N n (kid x 0)).f0, .int .i64 (simpS N n (kid x 0)).f1, .string (simpS N n (kid x 0)).f2, .slice A5 (simpS N n (kid x 0)).f3.length c5] BK4.out HIP.out (Nat.le_of_ble_eq_true rfl) rfl rfl ?_; intro w9 hk hoth hbel hz; have n0_ := Aside0.mk ((hoth g1 NN1.out).trans BK1.out); have n1_ := Aside0.mk ((hoth g2 NN2.out).trans BK2.out); have n2_ := Aside0.mk (U5.out.move (fun k jb => hoth k (Nat.ne_of_lt (LG.out k jb)))); have q_ := Aside0.mk (hbel _ _ HB.out GE4.out); have HZ4 := Aside0.mk hz; clear HB BK4 BK1 BK2 U5; have HB := q_; have BK1 := n0_; have BK2 := n1_; have U5 := n2_; have BK4 := Aside0.mk hk; clear q_ hk hoth hbel hz n0_ n1_ n2_; (try simp only [Act.put, sq1, sq2, sq3]); clear zx0 zx1 zx2 zx3; obtain ⟨zx0, zx1, zx2, zx3⟩ := z4 BK1.out; have zy0 : w9.cell? ⟨g4, 0, none⟩ = some (.int .i64 (simpS N n (kid x 0)).f0) := (blk_cell BK4.out 0).trans rfl; have zy1 : w9.cell? ⟨g4, 1, none⟩ = some (.int .i64 (simpS N n (kid x 0)).f1) := (blk_cell BK4.out 1).trans rfl; have zy2 : w9.cell? ⟨g4, 2, none⟩ = some (.string (simpS N n (kid x 0)).f2) := (blk_cell BK4.out 2).trans rfl; have zy3 : w9.cell? ⟨g4, 3, none⟩ = some (.slice A5 (simpS N n (kid x 0)).f3.length c5) := (blk_cell BK4.out 3).trans rfl) | ((with_reducible refine gate_dst (N := 73) rfl ?_); refine wpList_load_row rfl 30 _ rfl g4 rfl 30 #[.int .i64 (simpS N n (kid x 0)).f0, .int .i64 (simpS N n (kid x 0)).f1, .string (simpS N n (kid x 0)).f2, .slice A5 (simpS N n (kid x 0)).f3.length c5] (0, 0) _ BK4.out huP rfl HIP.out ?_; (try simp only [Act.put, sq1, sq2, sq3])) | ((with_reducible refine gate_store (t := 30) (p := 2) rfl ?_); refine Go.Proofs.Ytomakpfmghekfaa.RowLaw.put_event rfl 30 _ _ rfl g2 0 (.agg #[.int .i64 (simpS N n (kid x 0)).f0, .int .i64 (simpS N n (kid x 0)).f1, .string (simpS N n (kid x 0)).f2, .slice A5 (simpS N n (kid x 0)).f3.length c5]) rfl rfl [.int .i64 (simpS N n (kid x 0)).f0, .int .i64 (simpS N n (kid x 0)).f1, .string (simpS N n (kid x 0)).f2, .slice A5 (simpS N n (kid x 0)).f3.length c5] rfl 30 _ #[.int .i64 (simpS N n (kid x 0)).f0, .int .i64 (simpS N n (kid x 0)).f1, .string (simpS N n (kid x 0)).f2, .slice A5 (simpS N n (kid x 0)).f3.length c5] BK2.out HIP.out (Nat.le_of_ble_eq_true rfl) rfl rfl ?_; intro w9 hk hoth hbel hz; have UZ := Aside0.mk (fun k (jb : B5 k) => (Nat.lt_trans (LG.out k jb) (blk_lt BK4.out))); have SUB : Aside0 (∀ k, B5 k → (B k ∨ w.heap.size ≤ k) ∧ k ≠ g2) := ⟨by intro k jb; have q2 := GE2.out; rcases UB5.out k jb with h | h; { have := HL.out k (HS0.out k h); exact ⟨.inl (HS0.out k h), by omega⟩ }; { have := G25.out; have := SZ5.out; exact ⟨.inr (by omega), by omega⟩ }⟩; have n0_ := Aside0.mk (U5.out.move (fun k jb => hoth k (SUB.out k jb).2)); have q_ := Aside0.mk (hbel _ _ HB.out GE2.out); have HZ2 := Aside0.mk hz; clear HB BK2 U5; have HB := q_; have U5 := n0_; have BK2 := Aside0.mk hk; clear q_ hk hoth hbel hz n0_; (try simp only [Act.put, sq1, sq2, sq3])))
   refine bodyPost_ret (results_cell_row rfl _ _ _ 30 _ (0, 0) _ rfl BK2.out huP rfl (by kernel_rfl)) rfl ?_
   try rw [EQ]
   exact ⟨_, B5, rfl, U5.out, fun k hk => ⟨(SUB.out k hk).1, by rw [HZ2.out]; exact UZ.out k hk⟩, HB.out⟩
  have e16b : ((simpS N n (kid x 0)).f0 == 16) = false := beq_eq_false_iff_ne.mpr e16
  by_cases e15 : (simpS N n (kid x 0)).f0 = 15
  ·have e15b : ((simpS N n (kid x 0)).f0 == 15) = true := beq_iff_eq.mpr e15
   have EQ : simpS N (n + 1) x = (simpS N n (kid x 0)) := by simp only [simpS]; rw [if_neg (by rw [b6]; simp), if_neg (by rw [b19]; simp), if_neg (by rw [b18]; simp), if_neg (by rw [b20]; simp), if_pos (by rw [b22]; simp), if_pos (by rw [e15b]; simp)]
   go_wp2_with (first | ((with_reducible refine gate_dst (N := 63) rfl ?_); refine Go.Proofs.Ytomakpfmghekfaa.RowLaw.at_event rfl 30 _ rfl _ rfl _ [.int .i64 (kid x 0).f0, .int .i64 (kid x 0).f1, .string (kid x 0).f2, .slice A0 (kid x 0).f3.length c0] huP rfl HIP.out (EC0.out.below HB.out) ?_; (try simp only [Act.put, sq1, sq2, sq3])) | ((with_reducible refine gate_callee (f := 30) rfl ?_); refine goesL_ (some 64) rfl rfl Try.func30 (by kernel_rfl) rfl #[.agg #[.int .i64 (kid x 0).f0, .int .i64 (kid x 0).f1, .string (kid x 0).f2, .slice A0 (kid x 0).f3.length c0]] rfl (by (try simp only [sm1, sm2, sm3]); first | done | rfl) ?_; refine (IH.out (kid x 0) V0.out CN0.out CM0.out (.slice A0 (kid x 0).f3.length c0) B0 _ (HT0.out.grow HB.out) (fun k hk => Nat.lt_of_lt_of_le (HL.out k (HS0.out k hk)) HB.out.size)).mono ?_; rintro e wc ⟨v5, B5, rfl, hT, hB', hb⟩; refine ⟨_, rfl, ?_⟩; have U5 := Aside0.mk hT; have UB5 := Aside0.mk (fun k hk => (hB' k hk).1); have UL5 := Aside0.mk (fun k hk => (hB' k hk).2); have SZ5 := Aside0.mk HB.out.size; have G25 := Aside0.mk (blk_lt BK2.out); have n_ := fr2 HB BK1 BK2 hb; clear HB BK1 BK2; obtain ⟨HB, BK1, BK2⟩ := n_; obtain ⟨A5, c5, e5, _⟩ := hT.inv; subst e5; clear hT hB' hb zx0 zx1 zx2 zx3; obtain ⟨zx0, zx1, zx2, zx3⟩ := z4 BK1.out; (try simp only [Act.put, sq1, sq2, sq3])) | ((with_reducible refine gate_dst (N := 4) rfl ?_); refine box_event ?hg (N := 4) ?hd (cs := #[.int .i64 0, .int .i64 0, .string (⟨#[]⟩ : ByteArray), .slice none 0 0]) (t := 30) ?hr ?_; (case hd => rfl); (case hg => rfl); (case hr => first | (go_simp; done) | (go_simp; rfl)); intro g4 hg w4 hbox hb; have GE4 := Aside0.mk (by rw [hg]; exact HB.out.size : w.heap.size ≤ g4); have NN2 := Aside0.mk (by rw [hg]; exact Nat.ne_of_lt (blk_lt BK2.out) : g2 ≠ g4); have NN1 := Aside0.mk (by rw [hg]; exact Nat.ne_of_lt (blk_lt BK1.out) : g1 ≠ g4); have LG := Aside0.mk (by rw [hg]; exact UL5.out : ∀ k, B5 k → k < g4); have n8_ := Aside0.mk (U5.out.grow hb); clear U5; have U5 := n8_; clear n8_; have n_ := fr2 HB BK1 BK2 hb; clear HB BK1 BK2; obtain ⟨HB, BK1, BK2⟩ := n_; have BK4 := Aside0.mk hbox; clear hbox hg hb; (try simp only [Act.put, sq1, sq2, sq3])) | ((with_reducible refine gate_store (t := 30) (p := 4) rfl ?_); refine Go.Proofs.Ytomakpfmghekfaa.RowLaw.put_event rfl 30 _ _ rfl g4 0 (.agg #[.int .i64 (simpS N n (kid x 0)).f0, .int .i64 (simpS N n (kid x 0)).f1, .string (simpS N n (kid x 0)).f2, .slice A5 (simpS N n (kid x 0)).f3.length c5]) rfl rfl [.int .i64 (simpS N n (kid x 0)).f0, .int .i64 (simpS N n (kid x 0)).f1, .string (simpS N n (kid x 0)).f2, .slice A5 (simpS N n (kid x 0)).f3.length c5] rfl 30 _ #[.int .i64 (simpS N n (kid x 0)).f0, .int .i64 (simpS N n (kid x 0)).f1, .string (simpS N n (kid x 0)).f2, .slice A5 (simpS N n (kid x 0)).f3.length c5] BK4.out HIP.out (Nat.le_of_ble_eq_true rfl) rfl rfl ?_; intro w9 hk hoth hbel hz; have n0_ := Aside0.mk ((hoth g1 NN1.out).trans BK1.out); have n1_ := Aside0.mk ((hoth g2 NN2.out).trans BK2.out); have n2_ := Aside0.mk (U5.out.move (fun k jb => hoth k (Nat.ne_of_lt (LG.out k jb)))); have q_ := Aside0.mk (hbel _ _ HB.out GE4.out); have HZ4 := Aside0.mk hz; clear HB BK4 BK1 BK2 U5; have HB := q_; have BK1 := n0_; have BK2 := n1_; have U5 := n2_; have BK4 := Aside0.mk hk; clear q_ hk hoth hbel hz n0_ n1_ n2_; (try simp only [Act.put, sq1, sq2, sq3]); clear zx0 zx1 zx2 zx3; obtain ⟨zx0, zx1, zx2, zx3⟩ := z4 BK1.out; have zy0 : w9.cell? ⟨g4, 0, none⟩ = some (.int .i64 (simpS N n (kid x 0)).f0) := (blk_cell BK4.out 0).trans rfl; have zy1 : w9.cell? ⟨g4, 1, none⟩ = some (.int .i64 (simpS N n (kid x 0)).f1) := (blk_cell BK4.out 1).trans rfl; have zy2 : w9.cell? ⟨g4, 2, none⟩ = some (.string (simpS N n (kid x 0)).f2) := (blk_cell BK4.out 2).trans rfl; have zy3 : w9.cell? ⟨g4, 3, none⟩ = some (.slice A5 (simpS N n (kid x 0)).f3.length c5) := (blk_cell BK4.out 3).trans rfl) | ((with_reducible refine gate_dst (N := 73) rfl ?_); refine wpList_load_row rfl 30 _ rfl g4 rfl 30 #[.int .i64 (simpS N n (kid x 0)).f0, .int .i64 (simpS N n (kid x 0)).f1, .string (simpS N n (kid x 0)).f2, .slice A5 (simpS N n (kid x 0)).f3.length c5] (0, 0) _ BK4.out huP rfl HIP.out ?_; (try simp only [Act.put, sq1, sq2, sq3])) | ((with_reducible refine gate_store (t := 30) (p := 2) rfl ?_); refine Go.Proofs.Ytomakpfmghekfaa.RowLaw.put_event rfl 30 _ _ rfl g2 0 (.agg #[.int .i64 (simpS N n (kid x 0)).f0, .int .i64 (simpS N n (kid x 0)).f1, .string (simpS N n (kid x 0)).f2, .slice A5 (simpS N n (kid x 0)).f3.length c5]) rfl rfl [.int .i64 (simpS N n (kid x 0)).f0, .int .i64 (simpS N n (kid x 0)).f1, .string (simpS N n (kid x 0)).f2, .slice A5 (simpS N n (kid x 0)).f3.length c5] rfl 30 _ #[.int .i64 (simpS N n (kid x 0)).f0, .int .i64 (simpS N n (kid x 0)).f1, .string (simpS N n (kid x 0)).f2, .slice A5 (simpS N n (kid x 0)).f3.length c5] BK2.out HIP.out (Nat.le_of_ble_eq_true rfl) rfl rfl ?_; intro w9 hk hoth hbel hz; have UZ := Aside0.mk (fun k (jb : B5 k) => (Nat.lt_trans (LG.out k jb) (blk_lt BK4.out))); have SUB : Aside0 (∀ k, B5 k → (B k ∨ w.heap.size ≤ k) ∧ k ≠ g2) := ⟨by intro k jb; have q2 := GE2.out; rcases UB5.out k jb with h | h; { have := HL.out k (HS0.out k h); exact ⟨.inl (HS0.out k h), by omega⟩ }; { have := G25.out; have := SZ5.out; exact ⟨.inr (by omega), by omega⟩ }⟩; have n0_ := Aside0.mk (U5.out.move (fun k jb => hoth k (SUB.out k jb).2)); have q_ := Aside0.mk (hbel _ _ HB.out GE2.out); have HZ2 := Aside0.mk hz; clear HB BK2 U5; have HB := q_; have U5 := n0_; have BK2 := Aside0.mk hk; clear q_ hk hoth hbel hz n0_; (try simp only [Act.put, sq1, sq2, sq3])))
   refine bodyPost_ret (results_cell_row rfl _ _ _ 30 _ (0, 0) _ rfl BK2.out huP rfl (by kernel_rfl)) rfl ?_
   try rw [EQ]
   exact ⟨_, B5, rfl, U5.out, fun k hk => ⟨(SUB.out k hk).1, by rw [HZ2.out]; exact UZ.out k hk⟩, HB.out⟩
  have e15b : ((simpS N n (kid x 0)).f0 == 15) = false := beq_eq_false_iff_ne.mpr e15
  have EQ : simpS N (n + 1) x = ⟨22, 0, x.f2, [(simpS N n (kid x 0))]⟩ := by simp only [simpS]; rw [if_neg (by rw [b6]; simp), if_neg (by rw [b19]; simp), if_neg (by rw [b18]; simp), if_neg (by rw [b20]; simp), if_pos (by rw [b22]; simp), if_neg (by rw [e16b, e15b]; simp), c22]
  go_wp2_with (first | ((with_reducible refine gate_dst (N := 63) rfl ?_); refine Go.Proofs.Ytomakpfmghekfaa.RowLaw.at_event rfl 30 _ rfl _ rfl _ [.int .i64 (kid x 0).f0, .int .i64 (kid x 0).f1, .string (kid x 0).f2, .slice A0 (kid x 0).f3.length c0] huP rfl HIP.out (EC0.out.below HB.out) ?_; (try simp only [Act.put, sq1, sq2, sq3])) | ((with_reducible refine gate_callee (f := 30) rfl ?_); refine goesL_ (some 64) rfl rfl Try.func30 (by kernel_rfl) rfl #[.agg #[.int .i64 (kid x 0).f0, .int .i64 (kid x 0).f1, .string (kid x 0).f2, .slice A0 (kid x 0).f3.length c0]] rfl (by (try simp only [sm1, sm2, sm3]); first | done | rfl) ?_; refine (IH.out (kid x 0) V0.out CN0.out CM0.out (.slice A0 (kid x 0).f3.length c0) B0 _ (HT0.out.grow HB.out) (fun k hk => Nat.lt_of_lt_of_le (HL.out k (HS0.out k hk)) HB.out.size)).mono ?_; rintro e wc ⟨v5, B5, rfl, hT, hB', hb⟩; refine ⟨_, rfl, ?_⟩; have U5 := Aside0.mk hT; have UB5 := Aside0.mk (fun k hk => (hB' k hk).1); have UL5 := Aside0.mk (fun k hk => (hB' k hk).2); have SZ5 := Aside0.mk HB.out.size; have G25 := Aside0.mk (blk_lt BK2.out); have n_ := fr2 HB BK1 BK2 hb; clear HB BK1 BK2; obtain ⟨HB, BK1, BK2⟩ := n_; obtain ⟨A5, c5, e5, _⟩ := hT.inv; subst e5; clear hT hB' hb zx0 zx1 zx2 zx3; obtain ⟨zx0, zx1, zx2, zx3⟩ := z4 BK1.out; (try simp only [Act.put, sq1, sq2, sq3])) | ((with_reducible refine gate_dst (N := 4) rfl ?_); refine box_event ?hg (N := 4) ?hd (cs := #[.int .i64 0, .int .i64 0, .string (⟨#[]⟩ : ByteArray), .slice none 0 0]) (t := 30) ?hr ?_; (case hd => rfl); (case hg => rfl); (case hr => first | (go_simp; done) | (go_simp; rfl)); intro g4 hg w4 hbox hb; have GE4 := Aside0.mk (by rw [hg]; exact HB.out.size : w.heap.size ≤ g4); have NN2 := Aside0.mk (by rw [hg]; exact Nat.ne_of_lt (blk_lt BK2.out) : g2 ≠ g4); have NN1 := Aside0.mk (by rw [hg]; exact Nat.ne_of_lt (blk_lt BK1.out) : g1 ≠ g4); have LG := Aside0.mk (by rw [hg]; exact UL5.out : ∀ k, B5 k → k < g4); have n8_ := Aside0.mk (U5.out.grow hb); clear U5; have U5 := n8_; clear n8_; have n_ := fr2 HB BK1 BK2 hb; clear HB BK1 BK2; obtain ⟨HB, BK1, BK2⟩ := n_; have BK4 := Aside0.mk hbox; clear hbox hg hb; (try simp only [Act.put, sq1, sq2, sq3])) | ((with_reducible refine gate_store (t := 30) (p := 4) rfl ?_); refine Go.Proofs.Ytomakpfmghekfaa.RowLaw.put_event rfl 30 _ _ rfl g4 0 (.agg #[.int .i64 (simpS N n (kid x 0)).f0, .int .i64 (simpS N n (kid x 0)).f1, .string (simpS N n (kid x 0)).f2, .slice A5 (simpS N n (kid x 0)).f3.length c5]) rfl rfl [.int .i64 (simpS N n (kid x 0)).f0, .int .i64 (simpS N n (kid x 0)).f1, .string (simpS N n (kid x 0)).f2, .slice A5 (simpS N n (kid x 0)).f3.length c5] rfl 30 _ #[.int .i64 (simpS N n (kid x 0)).f0, .int .i64 (simpS N n (kid x 0)).f1, .string (simpS N n (kid x 0)).f2, .slice A5 (simpS N n (kid x 0)).f3.length c5] BK4.out HIP.out (Nat.le_of_ble_eq_true rfl) rfl rfl ?_; intro w9 hk hoth hbel hz; have n0_ := Aside0.mk ((hoth g1 NN1.out).trans BK1.out); have n1_ := Aside0.mk ((hoth g2 NN2.out).trans BK2.out); have n2_ := Aside0.mk (U5.out.move (fun k jb => hoth k (Nat.ne_of_lt (LG.out k jb)))); have q_ := Aside0.mk (hbel _ _ HB.out GE4.out); have HZ4 := Aside0.mk hz; clear HB BK4 BK1 BK2 U5; have HB := q_; have BK1 := n0_; have BK2 := n1_; have U5 := n2_; have BK4 := Aside0.mk hk; clear q_ hk hoth hbel hz n0_ n1_ n2_; (try simp only [Act.put, sq1, sq2, sq3]); clear zx0 zx1 zx2 zx3; obtain ⟨zx0, zx1, zx2, zx3⟩ := z4 BK1.out; have zy0 : w9.cell? ⟨g4, 0, none⟩ = some (.int .i64 (simpS N n (kid x 0)).f0) := (blk_cell BK4.out 0).trans rfl; have zy1 : w9.cell? ⟨g4, 1, none⟩ = some (.int .i64 (simpS N n (kid x 0)).f1) := (blk_cell BK4.out 1).trans rfl; have zy2 : w9.cell? ⟨g4, 2, none⟩ = some (.string (simpS N n (kid x 0)).f2) := (blk_cell BK4.out 2).trans rfl; have zy3 : w9.cell? ⟨g4, 3, none⟩ = some (.slice A5 (simpS N n (kid x 0)).f3.length c5) := (blk_cell BK4.out 3).trans rfl) | ((with_reducible refine gate_dst (N := 78) rfl ?_); refine wpList_load_row rfl 30 _ rfl g4 rfl 30 #[.int .i64 (simpS N n (kid x 0)).f0, .int .i64 (simpS N n (kid x 0)).f1, .string (simpS N n (kid x 0)).f2, .slice A5 (simpS N n (kid x 0)).f3.length c5] (0, 0) _ BK4.out huP rfl HIP.out ?_; (try simp only [Act.put, sq1, sq2, sq3])) | ((with_reducible refine gate_dst (N := 79) rfl ?_); refine row_event 30 1 ([.int .i64 (simpS N n (kid x 0)).f0, .int .i64 (simpS N n (kid x 0)).f1, .string (simpS N n (kid x 0)).f2, .slice A5 (simpS N n (kid x 0)).f3.length c5]) rfl ?hr ?_; (case hr => first | (go_simp; done) | (go_simp; rfl)); intro w5 m5 hm hn hb; have HN5 := Aside0.mk hn; have GM := Aside0.mk (by rw [hm]; exact Nat.ne_of_gt (blk_lt BK2.out) : m5 ≠ g2); have GE5 := Aside0.mk (by rw [hm]; exact HB.out.size : w.heap.size ≤ m5); have LM := Aside0.mk (by rw [hm]; intro k hk; exact Nat.lt_trans (LG.out k hk) (blk_lt BK4.out) : ∀ k, B5 k → k < m5); have n8_ := Aside0.mk (U5.out.grow hb); clear U5; have U5 := n8_; clear n8_; have n_ := fr2 HB BK1 BK2 hb; clear HB BK1 BK2; obtain ⟨HB, BK1, BK2⟩ := n_; clear hm hn hb; (try simp only [Act.put, sq1, sq2, sq3])) | ((with_reducible refine gate_store (t := 30) (p := 2) rfl ?_); refine Go.Proofs.Ytomakpfmghekfaa.RowLaw.put_event rfl 30 _ _ rfl g2 0 (.agg #[.int .i64 22, .int .i64 0, .string (x.f2), .slice (some ⟨m5, 0, none⟩) 1 1]) rfl rfl [.int .i64 22, .int .i64 0, .string (x.f2), .slice (some ⟨m5, 0, none⟩) 1 1] rfl 30 _ #[.int .i64 22, .int .i64 0, .string (x.f2), .slice (some ⟨m5, 0, none⟩) 1 1] BK2.out HIP.out (Nat.le_of_ble_eq_true rfl) rfl rfl ?_; intro w9 hk hoth hbel hz; have SUB : Aside0 (∀ k, B5 k → (B k ∨ w.heap.size ≤ k) ∧ k ≠ g2) := ⟨by intro k jb; have q2 := GE2.out; rcases UB5.out k jb with h | h; { have := HL.out k (HS0.out k h); exact ⟨.inl (HS0.out k h), by omega⟩ }; { have := G25.out; have := SZ5.out; exact ⟨.inr (by omega), by omega⟩ }⟩; have n0_ := Aside0.mk (U5.out.move (fun k jb => hoth k (SUB.out k jb).2)); have n1_ := Aside0.mk ((hoth m5 GM.out).trans HN5.out); have q_ := Aside0.mk (hbel _ _ HB.out GE2.out); have HZ2 := Aside0.mk hz; clear HB BK2 U5 HN5; have HB := q_; have U5 := n0_; have HN5 := n1_; have BK2 := Aside0.mk hk; clear q_ hk hoth hbel hz n0_ n1_; (try simp only [Act.put, sq1, sq2, sq3])))
  refine bodyPost_ret (results_cell_row rfl _ _ _ 30 _ (0, 0) _ rfl BK2.out huP rfl (by kernel_rfl)) rfl ?_
  try rw [EQ]
  refine ⟨_, _, rfl, T_one HN5.out U5.out (fun k hk => Nat.ne_of_lt (LM.out k hk)), fun k hk => ?_, HB.out⟩
  have hlt := blk_lt HN5.out
  rcases hk with hk | rfl
  ·exact ⟨(SUB.out k hk).1, Nat.lt_trans (LM.out k hk) hlt⟩
  ·exact ⟨.inr GE5.out, hlt⟩
 have b22 : (x.f0 == 22) = false := beq_eq_false_iff_ne.mpr c22
 have EQ : simpS N (n + 1) x = x := by simp only [simpS]; rw [if_neg (by rw [b6]; simp), if_neg (by rw [b19]; simp), if_neg (by rw [b18]; simp), if_neg (by rw [b20]; simp), if_neg (by rw [b21, b22]; simp)]
 go_wp2_with (first | ((with_reducible refine gate_dst (N := 81) rfl ?_); refine wpList_load_row rfl 30 _ rfl g1 rfl 30 #[.int .i64 x.f0, .int .i64 x.f1, .string x.f2, .slice A x.f3.length c] (0, 0) _ BK1.out huP rfl HIP.out ?_; (try simp only [Act.put, sq1, sq2, sq3])) | ((with_reducible refine gate_store (t := 30) (p := 2) rfl ?_); refine Go.Proofs.Ytomakpfmghekfaa.RowLaw.put_event rfl 30 _ _ rfl g2 0 (.agg #[.int .i64 x.f0, .int .i64 x.f1, .string x.f2, .slice A x.f3.length c]) rfl rfl [.int .i64 x.f0, .int .i64 x.f1, .string x.f2, .slice A x.f3.length c] rfl 30 _ #[.int .i64 x.f0, .int .i64 x.f1, .string x.f2, .slice A x.f3.length c] BK2.out HIP.out (Nat.le_of_ble_eq_true rfl) rfl rfl ?_; intro w9 hk hoth hbel hz; have q_ := Aside0.mk (hbel _ _ HB.out GE2.out); have HZ2 := Aside0.mk hz; clear HB BK2 ; have HB := q_; have BK2 := Aside0.mk hk; clear q_ hk hoth hbel hz ; (try simp only [Act.put, sq1, sq2, sq3])))
 refine bodyPost_ret (results_cell_row rfl _ _ _ 30 _ (0, 0) _ rfl BK2.out huP rfl (by kernel_rfl)) rfl ?_
 try rw [EQ]
 exact ⟨_, B, rfl, HT.out.grow HB.out, fun k hk => ⟨.inl hk, Nat.lt_of_lt_of_le (HL.out k hk) HB.out.size⟩, HB.out⟩
end Go.Proofs.Ytomakpfmghekfaa.PFnExactJoinPatterns
