/- By hand: what the law FnExactJoinPatterns reaches beyond the printed texts, and the law's own function. Conditions: none beyond each statement. -/
import Derived.Test.YtomakpfmghekfaaProg
import Derived.Below
import Derived.Deep.Draws
import Derived.Deep.AppendLies
import Derived.Maps.AppendAt
import Derived.OwnWalk
import Derived.Laws.BytesArg
import Derived.Laws.MakeOwn
import Derived.Laws.OwnMore
import Derived.Deep.OwnRows
import Derived.Tactics
import Derived.Lib.ConvBytes
import Derived.Laws.Slices
import Derived.WalkKit
import Derived.KernelRfl
import Derived.RowKit3
import Derived.Deep.LoopGhost
import Derived.Deep.QuietTactic
import Derived.BigQuiet
import Derived.WideLaws
import Derived.Deep.DeepCutAuto
import Derived.Deep.CutBlock
import Derived.Deep.RegionHeld3
import Derived.Laws.Rows
import Derived.Lib.AppendStr
import Derived.ArgAppend
import Derived.Laws.IdiomCopy
import Derived.OrdersHeld
import Derived.Laws.BitsLemmas
import Derived.RowKit
import Derived.Test.YtomakpfmghekfaaWWords
import Derived.Test.YtomakpfmghekfaaWLast
import Derived.Test.YtomakpfmghekfaaWTab
import Derived.Test.YtomakpfmghekfaaWFour
import Derived.Test.YtomakpfmghekfaaWQPut
import Derived.Test.YtomakpfmghekfaaWApart
import Derived.Test.YtomakpfmghekfaaWArr
import Derived.Test.YtomakpfmghekfaaWZeros
import Derived.Test.YtomakpfmghekfaaWFoot
import Derived.Test.YtomakpfmghekfaaWKept
import Derived.Test.YtomakpfmghekfaaWShare
import Derived.Test.YtomakpfmghekfaaWN
import Derived.Test.YtomakpfmghekfaaWFootNe
import Derived.Test.YtomakpfmghekfaaWAt
import Derived.Test.YtomakpfmghekfaaWEqStruct
import Derived.Test.YtomakpfmghekfaaWRepsOne
import Derived.Test.YtomakpfmghekfaaWInv
import Derived.Test.YtomakpfmghekfaaWInvWords
import Derived.Test.YtomakpfmghekfaaWGuard
import Derived.Test.YtomakpfmghekfaaWNEv
import Derived.Test.YtomakpfmghekfaaWMore
import Derived.Test.YtomakpfmghekfaaDevJPa
import Derived.Test.YtomakpfmghekfaaRowLaw
namespace Go.Proofs.Ytomakpfmghekfaa.PFnExactJoinPatterns
open Go.RowKit Go.Proofs.YtomakpfmghekfaaW.PrintWords Go.Proofs.YtomakpfmghekfaaW.PrintLast Go.Proofs.YtomakpfmghekfaaW.PrintMore
attribute [local go_sem] max2_int min2_int max_two min_two max_three min_three max_four min_four
set_option linter.unusedVariables false
set_option linter.unusedSimpArgs false
set_option maxHeartbeats 8000000 in
set_option maxRecDepth 100000 in
theorem alt_spec (d : Prop) : ∀ (n : Nat) (a b : PT), cntT a ≤ n → OKT a → OKT b → ∀ (va vb : Value) (Ba Bb : Nat → Prop) (w : World), T d w Ba va a.f3 → T d w Bb vb b.f3 → (d → ∀ k, Ba k → ¬ Bb k) → (∀ k, Ba k ∨ Bb k → k < w.heap.size) →
  Calls Try.prog 38 #[.agg #[.int .i64 a.f0, .int .i64 a.f1, .string a.f2, va], .agg #[.int .i64 b.f0, .int .i64 b.f1, .string b.f2, vb]] w (Res d w (fun k => Ba k ∨ Bb k) (altF n a b)) := by
 intro n
 induction n with
 | zero => intro a b hn; exact absurd hn (by rw [cntT_eq]; omega)
 | succ n ih =>
 intro a b hn ha hb va vb Ba Bb w hTa hTb hD hL
 obtain ⟨Aa, ca, rfl, _⟩ := hTa.inv
 obtain ⟨Ab, cb, rfl, _⟩ := hTb.inv
 have huP := Try.underlying30
 have huS := Try.underlying28
 have HIP := Aside0.mk (by kernel_rfl : (Try.prog.info? 30).map (·.size) = some 4)
 have HTa := Aside0.mk hTa
 have HTb := Aside0.mk hTb
 have HD := Aside0.mk hD
 have HL := Aside0.mk hL
 have HOA := Aside0.mk ha
 have HOB := Aside0.mk hb
 have HN := Aside0.mk hn
 have IH := Aside0.mk ih
 have HB := Aside0.mk (Below.refl w.heap.size w)
 clear hTa hTb hD hL ha hb hn ih
 go_enter Try.func38, Try.ntmps38
 go_upto_region 1 with (first | ((with_reducible refine gate_dst (N := 2) rfl ?_); refine box_event ?hg (N := 2) ?hd (cs := #[.int .i64 a.f0, .int .i64 a.f1, .string a.f2, .slice Aa a.f3.length ca]) (t := 30) ?hr ?_; (case hd => rfl); (case hg => rfl); (case hr => first | (go_simp; done) | (go_simp; rfl)); intro g2 hg w2 hbox hb; have n0_ := Aside0.mk (below_step HB.out hb); clear HB; have HB := n0_; clear n0_; have BK2 := Aside0.mk hbox; clear hbox hg hb; (try simp only [Act.put, sq1, sq2, sq3])) | ((with_reducible refine gate_dst (N := 3) rfl ?_); refine box_event ?hg (N := 3) ?hd (cs := #[.int .i64 b.f0, .int .i64 b.f1, .string b.f2, .slice Ab b.f3.length cb]) (t := 30) ?hr ?_; (case hd => rfl); (case hg => rfl); (case hr => first | (go_simp; done) | (go_simp; rfl)); intro g3 hg w3 hbox hb; have n_ := fr1 HB BK2 hb; clear HB BK2; obtain ⟨HB, BK2⟩ := n_; have BK3 := Aside0.mk hbox; clear hbox hg hb; (try simp only [Act.put, sq1, sq2, sq3])) | ((with_reducible refine gate_dst (N := 4) rfl ?_); refine box_event ?hg (N := 4) ?hd (cs := #[.int .i64 0, .int .i64 0, .string (⟨#[]⟩ : ByteArray), .slice none 0 0]) (t := 30) ?hr ?_; (case hd => rfl); (case hg => rfl); (case hr => first | (go_simp; done) | (go_simp; rfl)); intro g4 hg w4 hbox hb; have GE4 := Aside0.mk (by rw [hg]; exact HB.out.size : w.heap.size ≤ g4); have NE2 := Aside0.mk (by rw [hg]; exact Nat.ne_of_lt (blk_lt BK2.out) : g2 ≠ g4); have NE3 := Aside0.mk (by rw [hg]; exact Nat.ne_of_lt (blk_lt BK3.out) : g3 ≠ g4); have n_ := fr2 HB BK2 BK3 hb; clear HB BK2 BK3; obtain ⟨HB, BK2, BK3⟩ := n_; have BK4 := Aside0.mk hbox; clear hbox hg hb; obtain ⟨za0, za1, za2, za3⟩ := z4 BK2.out; obtain ⟨zb0, zb1, zb2, zb3⟩ := z4 BK3.out; (try simp only [Act.put, sq1, sq2, sq3])))
 (try simp only [Act.put, sq1, sq2, sq3])
 by_cases c16 : a.f0 = 16
 ·have c16b : (a.f0 == 16) = true := beq_iff_eq.mpr c16
  have EQ : altF (n + 1) a b = b := by simp only [altF]; rw [if_pos c16b]
  go_wp2_with (first | ((with_reducible refine gate_dst (N := 9) rfl ?_); refine wpList_load_row rfl 30 _ rfl g3 rfl 30 #[.int .i64 b.f0, .int .i64 b.f1, .string b.f2, .slice Ab b.f3.length cb] (0, 0) _ BK3.out huP rfl HIP.out ?_; (try simp only [Act.put, sq1, sq2, sq3])) | ((with_reducible refine gate_store (t := 30) (p := 4) rfl ?_); refine Go.Proofs.Ytomakpfmghekfaa.RowLaw.put_event rfl 30 _ _ rfl g4 0 (.agg #[.int .i64 b.f0, .int .i64 b.f1, .string b.f2, .slice Ab b.f3.length cb]) rfl rfl [.int .i64 b.f0, .int .i64 b.f1, .string b.f2, .slice Ab b.f3.length cb] rfl 30 _ #[.int .i64 b.f0, .int .i64 b.f1, .string b.f2, .slice Ab b.f3.length cb] BK4.out HIP.out (Nat.le_of_ble_eq_true rfl) rfl rfl ?_; intro w9 hk hoth hbel hz; have n0_ := Aside0.mk (hbel _ _ HB.out GE4.out); have HS9 := Aside0.mk (fun (B : Nat) (hB : B ≤ g4) => hbel B _ (Below.refl _ _) hB); clear HB BK4; have HB := n0_; have BK4 := Aside0.mk hk; clear n0_ hk hoth hbel hz; (try simp only [Act.put, sq1, sq2, sq3])))
  refine bodyPost_ret (results_cell_row rfl _ _ _ 30 _ (0, 0) _ rfl BK4.out huP rfl (by kernel_rfl)) rfl ?_
  try rw [EQ]
  exact ⟨_, Bb, rfl, HTb.out.grow HB.out, fun k hk => ⟨.inl (.inr hk), Nat.lt_of_lt_of_le (HL.out k (.inr hk)) HB.out.size⟩, HB.out⟩
 have c16b : (a.f0 == 16) = false := beq_eq_false_iff_ne.mpr c16
 by_cases d16 : b.f0 = 16
 ·have d16b : (b.f0 == 16) = true := beq_iff_eq.mpr d16
  have EQ : altF (n + 1) a b = a := by simp only [altF]; rw [if_neg (by rw [c16b]; simp), if_pos (by rw [d16b]; simp)]
  go_wp2_with (first | ((with_reducible refine gate_dst (N := 19) rfl ?_); refine wpList_load_row rfl 30 _ rfl g2 rfl 30 #[.int .i64 a.f0, .int .i64 a.f1, .string a.f2, .slice Aa a.f3.length ca] (0, 0) _ BK2.out huP rfl HIP.out ?_; (try simp only [Act.put, sq1, sq2, sq3])) | ((with_reducible refine gate_store (t := 30) (p := 4) rfl ?_); refine Go.Proofs.Ytomakpfmghekfaa.RowLaw.put_event rfl 30 _ _ rfl g4 0 (.agg #[.int .i64 a.f0, .int .i64 a.f1, .string a.f2, .slice Aa a.f3.length ca]) rfl rfl [.int .i64 a.f0, .int .i64 a.f1, .string a.f2, .slice Aa a.f3.length ca] rfl 30 _ #[.int .i64 a.f0, .int .i64 a.f1, .string a.f2, .slice Aa a.f3.length ca] BK4.out HIP.out (Nat.le_of_ble_eq_true rfl) rfl rfl ?_; intro w9 hk hoth hbel hz; have n0_ := Aside0.mk (hbel _ _ HB.out GE4.out); have HS9 := Aside0.mk (fun (B : Nat) (hB : B ≤ g4) => hbel B _ (Below.refl _ _) hB); clear HB BK4; have HB := n0_; have BK4 := Aside0.mk hk; clear n0_ hk hoth hbel hz; (try simp only [Act.put, sq1, sq2, sq3])))
  refine bodyPost_ret (results_cell_row rfl _ _ _ 30 _ (0, 0) _ rfl BK4.out huP rfl (by kernel_rfl)) rfl ?_
  try rw [EQ]
  exact ⟨_, Ba, rfl, HTa.out.grow HB.out, fun k hk => ⟨.inl (.inl hk), Nat.lt_of_lt_of_le (HL.out k (.inl hk)) HB.out.size⟩, HB.out⟩
 have d16b : (b.f0 == 16) = false := beq_eq_false_iff_ne.mpr d16
 by_cases c15 : a.f0 = 15
 ·have c15b : (a.f0 == 15) = true := beq_iff_eq.mpr c15
  have EQ : altF (n + 1) a b = a := by simp only [altF]; rw [if_neg (by rw [c16b]; simp), if_pos (by rw [c15b]; simp)]
  go_wp2_with (first | ((with_reducible refine gate_dst (N := 19) rfl ?_); refine wpList_load_row rfl 30 _ rfl g2 rfl 30 #[.int .i64 a.f0, .int .i64 a.f1, .string a.f2, .slice Aa a.f3.length ca] (0, 0) _ BK2.out huP rfl HIP.out ?_; (try simp only [Act.put, sq1, sq2, sq3])) | ((with_reducible refine gate_store (t := 30) (p := 4) rfl ?_); refine Go.Proofs.Ytomakpfmghekfaa.RowLaw.put_event rfl 30 _ _ rfl g4 0 (.agg #[.int .i64 a.f0, .int .i64 a.f1, .string a.f2, .slice Aa a.f3.length ca]) rfl rfl [.int .i64 a.f0, .int .i64 a.f1, .string a.f2, .slice Aa a.f3.length ca] rfl 30 _ #[.int .i64 a.f0, .int .i64 a.f1, .string a.f2, .slice Aa a.f3.length ca] BK4.out HIP.out (Nat.le_of_ble_eq_true rfl) rfl rfl ?_; intro w9 hk hoth hbel hz; have n0_ := Aside0.mk (hbel _ _ HB.out GE4.out); have HS9 := Aside0.mk (fun (B : Nat) (hB : B ≤ g4) => hbel B _ (Below.refl _ _) hB); clear HB BK4; have HB := n0_; have BK4 := Aside0.mk hk; clear n0_ hk hoth hbel hz; (try simp only [Act.put, sq1, sq2, sq3])))
  refine bodyPost_ret (results_cell_row rfl _ _ _ 30 _ (0, 0) _ rfl BK4.out huP rfl (by kernel_rfl)) rfl ?_
  try rw [EQ]
  exact ⟨_, Ba, rfl, HTa.out.grow HB.out, fun k hk => ⟨.inl (.inl hk), Nat.lt_of_lt_of_le (HL.out k (.inl hk)) HB.out.size⟩, HB.out⟩
 have c15b : (a.f0 == 15) = false := beq_eq_false_iff_ne.mpr c15
 by_cases c18 : a.f0 = 18
 ·have c18b : (a.f0 == 18) = true := beq_iff_eq.mpr c18
  have EQ : altF (n + 1) a b = altF n (kid a 0) (altF n (kid a 1) b) := by simp only [altF]; rw [if_neg (by rw [c16b]; simp), if_neg (by rw [d16b, c15b]; simp), if_pos c18b]
  have h2 := HOA.out.two (.inr c18)
  have hl2 : a.f3.length = 2 := by rw [h2]; rfl
  obtain ⟨ge, A0, c0, B0, A1, c1, B1, rfl, hC0, hC1, hT0, hT1, hs0, hs1, hd01⟩ := HTa.out.elems h2
  have EC0 := Aside0.mk hC0
  have EC1 := Aside0.mk hC1
  have HT0 := Aside0.mk hT0
  have HT1 := Aside0.mk hT1
  have HS0 := Aside0.mk hs0
  have HS1 := Aside0.mk hs1
  have HD01 := Aside0.mk hd01
  have OK0 := Aside0.mk (HOA.out.kid 0 (by omega))
  have OK1 := Aside0.mk (HOA.out.kid 1 (by omega))
  have CN0 := Aside0.mk (by have := cnt_two h2; have := HN.out; omega : cntT (kid a 0) ≤ n)
  have CN1 := Aside0.mk (by have := cnt_two h2; have := HN.out; omega : cntT (kid a 1) ≤ n)
  have k0 : ((0 : Int) < (a.f3.length : Int)) = True := eq_true (by omega)
  have k1 : ((1 : Int) < (a.f3.length : Int)) = True := eq_true (by omega)
  have k0d : decide ((0 : Int) < (a.f3.length : Int)) = true := decide_eq_true (by omega)
  have k1d : decide ((1 : Int) < (a.f3.length : Int)) = true := decide_eq_true (by omega)
  have k0n : (0 < a.f3.length) = True := eq_true (by omega)
  have k1n : (1 < a.f3.length) = True := eq_true (by omega)
  have k0m : decide (0 < a.f3.length) = true := decide_eq_true (by omega)
  have k1m : decide (1 < a.f3.length) = true := decide_eq_true (by omega)
  clear hC0 hC1 hT0 hT1 hs0 hs1 hd01 h2
  go_wp2
  have n_ := fr3 HB BK2 BK3 BK4 (below_drew1 (Below.refl _ _))
  clear HB BK2 BK3 BK4
  obtain ⟨HB, BK2, BK3, BK4⟩ := n_
  refine start_ (n := 12) (S := fun w' => w'.heap[g2]? = some (.cells #[.int .i64 a.f0, .int .i64 a.f1, .string a.f2, .slice (some ⟨ge, 0, none⟩) a.f3.length ca] 30 (0, 0)) ∧ w'.heap[g3]? = some (.cells #[.int .i64 b.f0, .int .i64 b.f1, .string b.f2, .slice Ab b.f3.length cb] 30 (0, 0)) ∧ w'.cell? ⟨g2, 3, none⟩ = some (.slice (some ⟨ge, 0, none⟩) a.f3.length ca) ∧ Go.Proofs.Ytomakpfmghekfaa.RowLaw.CellsAt w' ⟨ge, 0, none⟩ [.int .i64 (kid a 0).f0, .int .i64 (kid a 0).f1, .string (kid a 0).f2, .slice A0 (kid a 0).f3.length c0] ∧ Go.Proofs.Ytomakpfmghekfaa.RowLaw.CellsAt w' ⟨ge, 4, none⟩ [.int .i64 (kid a 1).f0, .int .i64 (kid a 1).f1, .string (kid a 1).f2, .slice A1 (kid a 1).f3.length c1]) (ds := []) (btx 12 0) (by kernel_rfl) rfl rfl ⟨BK2.out, BK3.out, (blk_cell BK2.out 3).trans rfl, EC0.out.below HB.out, EC1.out.below HB.out⟩ (fun hHeld => ?_)
  generalize _root_.Go.World.drew _ = wd at HB BK2 BK3 BK4 hHeld ⊢
  iterate 3 (first | (refine pu (v := ?_) (a' := ?_) rfl rfl (by kernel_rfl) (fun _ _ _ h => h) (Or.inl ⟨by rfl, ?_⟩) ?_ ?_; rotate_left; (intro w'; go_simp; with_reducible rfl); rotate_left; (simp only [Act.put, sq1, sq2, sq3, i64_w, i32_w]; rfl)) | (refine tk (v := ?_) (a' := ?_) rfl rfl (by kernel_rfl) (fun _ _ _ h => h) (Or.inl ⟨by rfl, ?_⟩) hHeld ?_ ?_; rotate_left; (rintro w' ⟨s0, s1, s2, s3, s4⟩; go_simp; with_reducible rfl); rotate_left; (simp only [Act.put, sq1, sq2, sq3, i64_w, i32_w]; rfl)))
  refine take_ (i := 3) (N := some 27) (v := .agg #[.int .i64 (kid a 0).f0, .int .i64 (kid a 0).f1, .string (kid a 0).f2, .slice A0 (kid a 0).f3.length c0]) (a' := ?_) (btx 12 4) rfl rfl (by kernel_rfl) (fun _ _ _ h => h) (Or.inl ⟨by rfl, fun w' s => Go.Proofs.Ytomakpfmghekfaa.RowLaw.at_run 30 _ rfl _ rfl _ [.int .i64 (kid a 0).f0, .int .i64 (kid a 0).f1, .string (kid a 0).f2, .slice A0 (kid a 0).f3.length c0] huP rfl HIP.out s.2.2.2.1⟩) hHeld ?_ ?_
  rotate_left; (simp only [Act.put, sq1, sq2, sq3, i64_w, i32_w]; rfl)
  iterate 3 (first | (refine pu (v := ?_) (a' := ?_) rfl rfl (by kernel_rfl) (fun _ _ _ h => h) (Or.inl ⟨by rfl, ?_⟩) ?_ ?_; rotate_left; (intro w'; go_simp; with_reducible rfl); rotate_left; (simp only [Act.put, sq1, sq2, sq3, i64_w, i32_w]; rfl)) | (refine tk (v := ?_) (a' := ?_) rfl rfl (by kernel_rfl) (fun _ _ _ h => h) (Or.inl ⟨by rfl, ?_⟩) hHeld ?_ ?_; rotate_left; (rintro w' ⟨s0, s1, s2, s3, s4⟩; go_simp; with_reducible rfl); rotate_left; (simp only [Act.put, sq1, sq2, sq3, i64_w, i32_w]; rfl)))
  refine take_ (i := 7) (N := some 31) (v := .agg #[.int .i64 (kid a 1).f0, .int .i64 (kid a 1).f1, .string (kid a 1).f2, .slice A1 (kid a 1).f3.length c1]) (a' := ?_) (btx 12 8) rfl rfl (by kernel_rfl) (fun _ _ _ h => h) (Or.inl ⟨by rfl, fun w' s => Go.Proofs.Ytomakpfmghekfaa.RowLaw.at_run 30 _ rfl _ rfl _ [.int .i64 (kid a 1).f0, .int .i64 (kid a 1).f1, .string (kid a 1).f2, .slice A1 (kid a 1).f3.length c1] huP rfl HIP.out s.2.2.2.2⟩) hHeld ?_ ?_
  rotate_left; (simp only [Act.put, sq1, sq2, sq3, i64_w, i32_w]; rfl)
  refine take_ (i := 8) (N := some 32) (v := .agg #[.int .i64 b.f0, .int .i64 b.f1, .string b.f2, .slice Ab b.f3.length cb]) (a' := ?_) (btx 12 9) rfl rfl (by kernel_rfl) (fun _ _ _ h => h) (Or.inl ⟨by rfl, fun w' s => Go.Proofs.Ytomakpfmghekfaa.RowLaw.load_run 30 _ rfl g3 rfl 30 _ _ s.2.1 huP rfl HIP.out⟩) hHeld ?_ ?_
  rotate_left; (simp only [Act.put, sq1, sq2, sq3, i64_w, i32_w]; rfl)
  refine one_ (i := 9) (N := some 33) (btx 12 10) rfl rfl (by kernel_rfl) (by decide) (fun K hK => ?_)
  refine goes_ Try.func38 (by kernel_rfl) rfl #[.agg #[.int .i64 (kid a 1).f0, .int .i64 (kid a 1).f1, .string (kid a 1).f2, .slice A1 (kid a 1).f3.length c1], .agg #[.int .i64 b.f0, .int .i64 b.f1, .string b.f2, .slice Ab b.f3.length cb]] (by rfl) rfl rfl (by (try simp only [sm1, sm2, sm3]); first | done | rfl) ?_
  with_reducible refine (IH.out (kid a 1) b CN1.out OK1.out HOB.out (.slice A1 (kid a 1).f3.length c1) (.slice Ab b.f3.length cb) B1 Bb _ ?side1 ?side2 ?side3 ?side4).mono ?_
  (case side1 => exact HT1.out.grow HB.out)
  (case side2 => exact HTb.out.grow HB.out)
  (case side3 => exact fun hd k h1 h2 => HD.out hd k (HS1.out k h1) h2)
  (case side4 => exact fun k hk => Nat.lt_of_lt_of_le (HL.out k (hk.elim (fun h => .inl (HS1.out k h)) .inr)) HB.out.size)
  rintro e wc ⟨v1, B1', rfl, hT, hB', hb⟩
  refine ⟨_, rfl, ?_⟩
  have HT5 := Aside0.mk hT
  have HB5 := Aside0.mk (fun k hk => (hB' k hk).1)
  have HL5 := Aside0.mk (fun k hk => (hB' k hk).2)
  have SZD := Aside0.mk HB.out.size
  have G4D := Aside0.mk (blk_lt BK4.out)
  have n_ := fr3 HB BK2 BK3 BK4 hb
  clear HB BK2 BK3 BK4
  obtain ⟨HB, BK2, BK3, BK4⟩ := n_
  obtain ⟨A5, c5, e5, _⟩ := hT.inv
  subst e5
  clear hT hB' hb
  refine hK.out _ _ ⟨BK2.out, BK3.out, (blk_cell BK2.out 3).trans rfl, EC0.out.below HB.out, EC1.out.below HB.out⟩ (fun hHeld => ?_)
  clear hK K
  refine norm_ (a' := ?_) ?_ ?_
  rotate_left
  ·show Act.put _ (some 33) _ = _
   simp only [Act.put, sq1, sq2, sq3, i64_w, i32_w]
   rfl
  refine one_ (i := 10) (N := some 34) (btx 12 11) rfl rfl (by kernel_rfl) (by decide) (fun K hK => ?_)
  refine goes_ Try.func38 (by kernel_rfl) rfl #[.agg #[.int .i64 (kid a 0).f0, .int .i64 (kid a 0).f1, .string (kid a 0).f2, .slice A0 (kid a 0).f3.length c0], .agg #[.int .i64 (altF n (kid a 1) b).f0, .int .i64 (altF n (kid a 1) b).f1, .string (altF n (kid a 1) b).f2, .slice A5 (altF n (kid a 1) b).f3.length c5]] (by rfl) rfl rfl (by (try simp only [sm1, sm2, sm3]); first | done | rfl) ?_
  with_reducible refine (IH.out (kid a 0) (altF n (kid a 1) b) CN0.out OK0.out (altF_ok n _ _ OK1.out HOB.out).1 (.slice A0 (kid a 0).f3.length c0) (.slice A5 (altF n (kid a 1) b).f3.length c5) B0 B1' _ ?side1 ?side2 ?side3 ?side4).mono ?_
  (case side1 => exact HT0.out.grow HB.out)
  (case side2 => exact HT5.out)
  (case side3 => exact fun hd k h0 h1 => (HB5.out k h1).elim (fun h => h.elim (HD01.out hd k h0) (HD.out hd k (HS0.out k h0))) (fun h => absurd (HL.out k (.inl (HS0.out k h0))) (by have := SZD.out; omega)))
  (case side4 => exact fun k hk => hk.elim (fun h => Nat.lt_of_lt_of_le (HL.out k (.inl (HS0.out k h))) HB.out.size) (HL5.out k))
  rintro e we ⟨v2, B2', rfl, hT, hB', hb⟩
  refine ⟨_, rfl, ?_⟩
  have HT6 := Aside0.mk hT
  have HB6 := Aside0.mk (fun k hk => (hB' k hk).1)
  have HL6 := Aside0.mk (fun k hk => (hB' k hk).2)
  have SZE := Aside0.mk HB.out.size
  have G4E := Aside0.mk (blk_lt BK4.out)
  have n_ := fr3 HB BK2 BK3 BK4 hb
  clear HB BK2 BK3 BK4
  obtain ⟨HB, BK2, BK3, BK4⟩ := n_
  obtain ⟨A6, c6, e6, _⟩ := hT.inv
  subst e6
  clear hT hB' hb
  refine hK.out _ _ ⟨BK2.out, BK3.out, (blk_cell BK2.out 3).trans rfl, EC0.out.below HB.out, EC1.out.below HB.out⟩ (fun hHeld => ?_)
  clear hK K
  refine norm_ (a' := ?_) ?_ ?_
  rotate_left
  ·show Act.put _ (some 34) _ = _
   simp only [Act.put, sq1, sq2, sq3, i64_w, i32_w]
   rfl
  refine one_ (i := 11) (N := none) (btx 12 12) rfl rfl (by kernel_rfl) (by decide) (fun K hK => ?_)
  refine put_step rfl rfl 30 _ _ rfl g4 0 (.agg #[.int .i64 (altF n (kid a 0) (altF n (kid a 1) b)).f0, .int .i64 (altF n (kid a 0) (altF n (kid a 1) b)).f1, .string (altF n (kid a 0) (altF n (kid a 1) b)).f2, .slice A6 (altF n (kid a 0) (altF n (kid a 1) b)).f3.length c6]) rfl rfl [.int .i64 (altF n (kid a 0) (altF n (kid a 1) b)).f0, .int .i64 (altF n (kid a 0) (altF n (kid a 1) b)).f1, .string (altF n (kid a 0) (altF n (kid a 1) b)).f2, .slice A6 (altF n (kid a 0) (altF n (kid a 1) b)).f3.length c6] rfl 30 _ #[.int .i64 (altF n (kid a 0) (altF n (kid a 1) b)).f0, .int .i64 (altF n (kid a 0) (altF n (kid a 1) b)).f1, .string (altF n (kid a 0) (altF n (kid a 1) b)).f2, .slice A6 (altF n (kid a 0) (altF n (kid a 1) b)).f3.length c6] BK4.out HIP.out (Nat.le_of_ble_eq_true rfl) rfl rfl ?_
  intro w9 hk hoth hbel hz
  have n0_ := Aside0.mk (hbel _ _ HB.out GE4.out)
  have n1_ := Aside0.mk (T.move HT6.out (fun k jb => hoth k (fun he => by subst he; exact ((HB6.out _ jb).elim (fun h => h.elim (fun h => absurd (HL.out _ (.inl (HS0.out _ h))) (by have := GE4.out; omega)) (fun h => (HB5.out _ h).elim (fun h => absurd (HL.out _ (h.elim (fun h => .inl (HS1.out _ h)) .inr)) (by have := GE4.out; omega)) (fun h => absurd G4D.out (by omega)))) (fun h => absurd G4E.out (by omega))))))
  have n2_ := Aside0.mk ((hoth g2 NE2.out).trans BK2.out)
  have n3_ := Aside0.mk ((hoth g3 NE3.out).trans BK3.out)
  have HZ := Aside0.mk hz
  clear HB BK4 HT6 BK2 BK3
  have HB := n0_
  have HT6 := n1_
  have BK2 := n2_
  have BK3 := n3_
  have BK4 := Aside0.mk hk
  clear n0_ n1_ n2_ n3_ hk hoth hbel hz
  refine hK.out _ _ ⟨BK2.out, BK3.out, (blk_cell BK2.out 3).trans rfl, EC0.out.below HB.out, EC1.out.below HB.out⟩ (fun hHeld => ?_)
  clear hK K
  refine done_ (by kernel_rfl) ?_
  go_wp2
  refine bodyPost_ret (results_cell_row rfl _ _ _ 30 _ (0, 0) _ rfl BK4.out huP rfl (by kernel_rfl)) rfl ?_
  try rw [EQ]
  refine ⟨_, B2', rfl, HT6.out, fun k hk => ⟨(HB6.out k hk).elim (fun h => h.elim (fun h => .inl (.inl (HS0.out k h))) (fun h => (HB5.out k h).elim (fun h => .inl (h.elim (fun h => .inl (HS1.out k h)) .inr)) (fun h => .inr (Nat.le_trans SZD.out h)))) (fun h => .inr (Nat.le_trans SZE.out h)), ?_⟩, HB.out⟩
  rw [HZ.out]
  exact HL6.out k hk
 have c18b : (a.f0 == 18) = false := beq_eq_false_iff_ne.mpr c18
 have EQ : altF (n + 1) a b = ⟨18, 0, ⟨#[]⟩, [a, b]⟩ := by simp only [altF]; rw [if_neg (by rw [c16b]; simp), if_neg (by rw [d16b, c15b]; simp), if_neg (by rw [c18b]; simp)]
 go_wp2_with (first | ((with_reducible refine gate_dst (N := 35) rfl ?_); refine wpList_load_row rfl 30 _ rfl g2 rfl 30 #[.int .i64 a.f0, .int .i64 a.f1, .string a.f2, .slice Aa a.f3.length ca] (0, 0) _ BK2.out huP rfl HIP.out ?_; (try simp only [Act.put, sq1, sq2, sq3])) | ((with_reducible refine gate_dst (N := 36) rfl ?_); refine wpList_load_row rfl 30 _ rfl g3 rfl 30 #[.int .i64 b.f0, .int .i64 b.f1, .string b.f2, .slice Ab b.f3.length cb] (0, 0) _ BK3.out huP rfl HIP.out ?_; (try simp only [Act.put, sq1, sq2, sq3])) | ((with_reducible refine gate_dst (N := 37) rfl ?_); refine row_event 30 2 ([.int .i64 a.f0, .int .i64 a.f1, .string a.f2, .slice Aa a.f3.length ca, .int .i64 b.f0, .int .i64 b.f1, .string b.f2, .slice Ab b.f3.length cb]) rfl ?hr ?_; (case hr => first | (go_simp; done) | (go_simp; rfl)); intro w5 m5 hm hn hb; have HN5 := Aside0.mk hn; have GM := Aside0.mk (by rw [hm]; exact Nat.ne_of_gt (blk_lt BK4.out) : m5 ≠ g4); have GE5 := Aside0.mk (by rw [hm]; exact HB.out.size : w.heap.size ≤ m5); have n_ := fr3 HB BK2 BK3 BK4 hb; clear HB BK2 BK3 BK4; obtain ⟨HB, BK2, BK3, BK4⟩ := n_; clear hm hn hb; (try simp only [Act.put, sq1, sq2, sq3])) | ((with_reducible refine gate_store (t := 30) (p := 4) rfl ?_); refine Go.Proofs.Ytomakpfmghekfaa.RowLaw.put_event rfl 30 _ _ rfl g4 0 (.agg #[.int .i64 18, .int .i64 0, .string (⟨#[]⟩ : ByteArray), .slice (some ⟨m5, 0, none⟩) 2 2]) rfl rfl [.int .i64 18, .int .i64 0, .string (⟨#[]⟩ : ByteArray), .slice (some ⟨m5, 0, none⟩) 2 2] rfl 30 _ #[.int .i64 18, .int .i64 0, .string (⟨#[]⟩ : ByteArray), .slice (some ⟨m5, 0, none⟩) 2 2] BK4.out HIP.out (Nat.le_of_ble_eq_true rfl) rfl rfl ?_; intro w9 hk hoth hbel hz; have n0_ := Aside0.mk (hbel _ _ HB.out GE4.out); have n1_ := Aside0.mk ((hoth m5 GM.out).trans HN5.out); clear HB BK4 HN5; have HB := n0_; have HN5 := n1_; have BK4 := Aside0.mk hk; clear n0_ n1_ hk hoth hbel hz; (try simp only [Act.put, sq1, sq2, sq3])))
 refine bodyPost_ret (results_cell_row rfl _ _ _ 30 _ (0, 0) _ rfl BK4.out huP rfl (by kernel_rfl)) rfl ?_
 try rw [EQ]
 exact res_pair 18 HN5.out (HTa.out.grow HB.out) (HTb.out.grow HB.out) HD.out (fun j hj => ⟨.inl hj, Nat.lt_of_lt_of_le (HL.out j hj) HB.out.size⟩) (fun j hj he => absurd (HL.out j hj) (by have := GE5.out; omega)) GE5.out HB.out
set_option maxHeartbeats 8000000 in
set_option maxRecDepth 100000 in
theorem alt_impl (d : Prop) : ∀ (n : Nat) (a b : PT), cntT a ≤ n → OKT a → OKT b → ∀ (va vb : Value) (Ba Bb : Nat → Prop) (w : World), T d w Ba va a.f3 → T d w Bb vb b.f3 → (d → ∀ k, Ba k → ¬ Bb k) → (∀ k, Ba k ∨ Bb k → k < w.heap.size) →
  Calls Try.prog 40 #[.agg #[.int .i64 a.f0, .int .i64 a.f1, .string a.f2, va], .agg #[.int .i64 b.f0, .int .i64 b.f1, .string b.f2, vb]] w (Res d w (fun k => Ba k ∨ Bb k) (altF n a b)) := by
 intro n
 induction n with
 | zero => intro a b hn; exact absurd hn (by rw [cntT_eq]; omega)
 | succ n ih =>
 intro a b hn ha hb va vb Ba Bb w hTa hTb hD hL
 obtain ⟨Aa, ca, rfl, _⟩ := hTa.inv
 obtain ⟨Ab, cb, rfl, _⟩ := hTb.inv
 have huP := Try.underlying30
 have huS := Try.underlying28
 have HIP := Aside0.mk (by kernel_rfl : (Try.prog.info? 30).map (·.size) = some 4)
 have HTa := Aside0.mk hTa
 have HTb := Aside0.mk hTb
 have HD := Aside0.mk hD
 have HL := Aside0.mk hL
 have HOA := Aside0.mk ha
 have HOB := Aside0.mk hb
 have HN := Aside0.mk hn
 have IH := Aside0.mk ih
 have HB := Aside0.mk (Below.refl w.heap.size w)
 clear hTa hTb hD hL ha hb hn ih
 go_enter Try.func40, Try.ntmps40
 go_upto_region 1 with (first | ((with_reducible refine gate_dst (N := 2) rfl ?_); refine box_event ?hg (N := 2) ?hd (cs := #[.int .i64 a.f0, .int .i64 a.f1, .string a.f2, .slice Aa a.f3.length ca]) (t := 30) ?hr ?_; (case hd => rfl); (case hg => rfl); (case hr => first | (go_simp; done) | (go_simp; rfl)); intro g2 hg w2 hbox hb; have n0_ := Aside0.mk (below_step HB.out hb); clear HB; have HB := n0_; clear n0_; have BK2 := Aside0.mk hbox; clear hbox hg hb; (try simp only [Act.put, sq1, sq2, sq3])) | ((with_reducible refine gate_dst (N := 3) rfl ?_); refine box_event ?hg (N := 3) ?hd (cs := #[.int .i64 b.f0, .int .i64 b.f1, .string b.f2, .slice Ab b.f3.length cb]) (t := 30) ?hr ?_; (case hd => rfl); (case hg => rfl); (case hr => first | (go_simp; done) | (go_simp; rfl)); intro g3 hg w3 hbox hb; have n_ := fr1 HB BK2 hb; clear HB BK2; obtain ⟨HB, BK2⟩ := n_; have BK3 := Aside0.mk hbox; clear hbox hg hb; (try simp only [Act.put, sq1, sq2, sq3])) | ((with_reducible refine gate_dst (N := 4) rfl ?_); refine box_event ?hg (N := 4) ?hd (cs := #[.int .i64 0, .int .i64 0, .string (⟨#[]⟩ : ByteArray), .slice none 0 0]) (t := 30) ?hr ?_; (case hd => rfl); (case hg => rfl); (case hr => first | (go_simp; done) | (go_simp; rfl)); intro g4 hg w4 hbox hb; have GE4 := Aside0.mk (by rw [hg]; exact HB.out.size : w.heap.size ≤ g4); have NE2 := Aside0.mk (by rw [hg]; exact Nat.ne_of_lt (blk_lt BK2.out) : g2 ≠ g4); have NE3 := Aside0.mk (by rw [hg]; exact Nat.ne_of_lt (blk_lt BK3.out) : g3 ≠ g4); have n_ := fr2 HB BK2 BK3 hb; clear HB BK2 BK3; obtain ⟨HB, BK2, BK3⟩ := n_; have BK4 := Aside0.mk hbox; clear hbox hg hb; obtain ⟨za0, za1, za2, za3⟩ := z4 BK2.out; obtain ⟨zb0, zb1, zb2, zb3⟩ := z4 BK3.out; (try simp only [Act.put, sq1, sq2, sq3])))
 (try simp only [Act.put, sq1, sq2, sq3])
 by_cases c16 : a.f0 = 16
 ·have c16b : (a.f0 == 16) = true := beq_iff_eq.mpr c16
  have EQ : altF (n + 1) a b = b := by simp only [altF]; rw [if_pos c16b]
  go_wp2_with (first | ((with_reducible refine gate_dst (N := 9) rfl ?_); refine wpList_load_row rfl 30 _ rfl g3 rfl 30 #[.int .i64 b.f0, .int .i64 b.f1, .string b.f2, .slice Ab b.f3.length cb] (0, 0) _ BK3.out huP rfl HIP.out ?_; (try simp only [Act.put, sq1, sq2, sq3])) | ((with_reducible refine gate_store (t := 30) (p := 4) rfl ?_); refine Go.Proofs.Ytomakpfmghekfaa.RowLaw.put_event rfl 30 _ _ rfl g4 0 (.agg #[.int .i64 b.f0, .int .i64 b.f1, .string b.f2, .slice Ab b.f3.length cb]) rfl rfl [.int .i64 b.f0, .int .i64 b.f1, .string b.f2, .slice Ab b.f3.length cb] rfl 30 _ #[.int .i64 b.f0, .int .i64 b.f1, .string b.f2, .slice Ab b.f3.length cb] BK4.out HIP.out (Nat.le_of_ble_eq_true rfl) rfl rfl ?_; intro w9 hk hoth hbel hz; have n0_ := Aside0.mk (hbel _ _ HB.out GE4.out); have HS9 := Aside0.mk (fun (B : Nat) (hB : B ≤ g4) => hbel B _ (Below.refl _ _) hB); clear HB BK4; have HB := n0_; have BK4 := Aside0.mk hk; clear n0_ hk hoth hbel hz; (try simp only [Act.put, sq1, sq2, sq3])))
  refine bodyPost_ret (results_cell_row rfl _ _ _ 30 _ (0, 0) _ rfl BK4.out huP rfl (by kernel_rfl)) rfl ?_
  try rw [EQ]
  exact ⟨_, Bb, rfl, HTb.out.grow HB.out, fun k hk => ⟨.inl (.inr hk), Nat.lt_of_lt_of_le (HL.out k (.inr hk)) HB.out.size⟩, HB.out⟩
 have c16b : (a.f0 == 16) = false := beq_eq_false_iff_ne.mpr c16
 by_cases d16 : b.f0 = 16
 ·have d16b : (b.f0 == 16) = true := beq_iff_eq.mpr d16
  have EQ : altF (n + 1) a b = a := by simp only [altF]; rw [if_neg (by rw [c16b]; simp), if_pos (by rw [d16b]; simp)]
  go_wp2_with (first | ((with_reducible refine gate_dst (N := 19) rfl ?_); refine wpList_load_row rfl 30 _ rfl g2 rfl 30 #[.int .i64 a.f0, .int .i64 a.f1, .string a.f2, .slice Aa a.f3.length ca] (0, 0) _ BK2.out huP rfl HIP.out ?_; (try simp only [Act.put, sq1, sq2, sq3])) | ((with_reducible refine gate_store (t := 30) (p := 4) rfl ?_); refine Go.Proofs.Ytomakpfmghekfaa.RowLaw.put_event rfl 30 _ _ rfl g4 0 (.agg #[.int .i64 a.f0, .int .i64 a.f1, .string a.f2, .slice Aa a.f3.length ca]) rfl rfl [.int .i64 a.f0, .int .i64 a.f1, .string a.f2, .slice Aa a.f3.length ca] rfl 30 _ #[.int .i64 a.f0, .int .i64 a.f1, .string a.f2, .slice Aa a.f3.length ca] BK4.out HIP.out (Nat.le_of_ble_eq_true rfl) rfl rfl ?_; intro w9 hk hoth hbel hz; have n0_ := Aside0.mk (hbel _ _ HB.out GE4.out); have HS9 := Aside0.mk (fun (B : Nat) (hB : B ≤ g4) => hbel B _ (Below.refl _ _) hB); clear HB BK4; have HB := n0_; have BK4 := Aside0.mk hk; clear n0_ hk hoth hbel hz; (try simp only [Act.put, sq1, sq2, sq3])))
  refine bodyPost_ret (results_cell_row rfl _ _ _ 30 _ (0, 0) _ rfl BK4.out huP rfl (by kernel_rfl)) rfl ?_
  try rw [EQ]
  exact ⟨_, Ba, rfl, HTa.out.grow HB.out, fun k hk => ⟨.inl (.inl hk), Nat.lt_of_lt_of_le (HL.out k (.inl hk)) HB.out.size⟩, HB.out⟩
 have d16b : (b.f0 == 16) = false := beq_eq_false_iff_ne.mpr d16
 by_cases c15 : a.f0 = 15
 ·have c15b : (a.f0 == 15) = true := beq_iff_eq.mpr c15
  have EQ : altF (n + 1) a b = a := by simp only [altF]; rw [if_neg (by rw [c16b]; simp), if_pos (by rw [c15b]; simp)]
  go_wp2_with (first | ((with_reducible refine gate_dst (N := 19) rfl ?_); refine wpList_load_row rfl 30 _ rfl g2 rfl 30 #[.int .i64 a.f0, .int .i64 a.f1, .string a.f2, .slice Aa a.f3.length ca] (0, 0) _ BK2.out huP rfl HIP.out ?_; (try simp only [Act.put, sq1, sq2, sq3])) | ((with_reducible refine gate_store (t := 30) (p := 4) rfl ?_); refine Go.Proofs.Ytomakpfmghekfaa.RowLaw.put_event rfl 30 _ _ rfl g4 0 (.agg #[.int .i64 a.f0, .int .i64 a.f1, .string a.f2, .slice Aa a.f3.length ca]) rfl rfl [.int .i64 a.f0, .int .i64 a.f1, .string a.f2, .slice Aa a.f3.length ca] rfl 30 _ #[.int .i64 a.f0, .int .i64 a.f1, .string a.f2, .slice Aa a.f3.length ca] BK4.out HIP.out (Nat.le_of_ble_eq_true rfl) rfl rfl ?_; intro w9 hk hoth hbel hz; have n0_ := Aside0.mk (hbel _ _ HB.out GE4.out); have HS9 := Aside0.mk (fun (B : Nat) (hB : B ≤ g4) => hbel B _ (Below.refl _ _) hB); clear HB BK4; have HB := n0_; have BK4 := Aside0.mk hk; clear n0_ hk hoth hbel hz; (try simp only [Act.put, sq1, sq2, sq3])))
  refine bodyPost_ret (results_cell_row rfl _ _ _ 30 _ (0, 0) _ rfl BK4.out huP rfl (by kernel_rfl)) rfl ?_
  try rw [EQ]
  exact ⟨_, Ba, rfl, HTa.out.grow HB.out, fun k hk => ⟨.inl (.inl hk), Nat.lt_of_lt_of_le (HL.out k (.inl hk)) HB.out.size⟩, HB.out⟩
 have c15b : (a.f0 == 15) = false := beq_eq_false_iff_ne.mpr c15
 by_cases c18 : a.f0 = 18
 ·have c18b : (a.f0 == 18) = true := beq_iff_eq.mpr c18
  have EQ : altF (n + 1) a b = altF n (kid a 0) (altF n (kid a 1) b) := by simp only [altF]; rw [if_neg (by rw [c16b]; simp), if_neg (by rw [d16b, c15b]; simp), if_pos c18b]
  have h2 := HOA.out.two (.inr c18)
  have hl2 : a.f3.length = 2 := by rw [h2]; rfl
  obtain ⟨ge, A0, c0, B0, A1, c1, B1, rfl, hC0, hC1, hT0, hT1, hs0, hs1, hd01⟩ := HTa.out.elems h2
  have EC0 := Aside0.mk hC0
  have EC1 := Aside0.mk hC1
  have HT0 := Aside0.mk hT0
  have HT1 := Aside0.mk hT1
  have HS0 := Aside0.mk hs0
  have HS1 := Aside0.mk hs1
  have HD01 := Aside0.mk hd01
  have OK0 := Aside0.mk (HOA.out.kid 0 (by omega))
  have OK1 := Aside0.mk (HOA.out.kid 1 (by omega))
  have CN0 := Aside0.mk (by have := cnt_two h2; have := HN.out; omega : cntT (kid a 0) ≤ n)
  have CN1 := Aside0.mk (by have := cnt_two h2; have := HN.out; omega : cntT (kid a 1) ≤ n)
  have k0 : ((0 : Int) < (a.f3.length : Int)) = True := eq_true (by omega)
  have k1 : ((1 : Int) < (a.f3.length : Int)) = True := eq_true (by omega)
  have k0d : decide ((0 : Int) < (a.f3.length : Int)) = true := decide_eq_true (by omega)
  have k1d : decide ((1 : Int) < (a.f3.length : Int)) = true := decide_eq_true (by omega)
  have k0n : (0 < a.f3.length) = True := eq_true (by omega)
  have k1n : (1 < a.f3.length) = True := eq_true (by omega)
  have k0m : decide (0 < a.f3.length) = true := decide_eq_true (by omega)
  have k1m : decide (1 < a.f3.length) = true := decide_eq_true (by omega)
  clear hC0 hC1 hT0 hT1 hs0 hs1 hd01 h2
  go_wp2
  have n_ := fr3 HB BK2 BK3 BK4 (below_drew1 (Below.refl _ _))
  clear HB BK2 BK3 BK4
  obtain ⟨HB, BK2, BK3, BK4⟩ := n_
  refine start_ (n := 12) (S := fun w' => w'.heap[g2]? = some (.cells #[.int .i64 a.f0, .int .i64 a.f1, .string a.f2, .slice (some ⟨ge, 0, none⟩) a.f3.length ca] 30 (0, 0)) ∧ w'.heap[g3]? = some (.cells #[.int .i64 b.f0, .int .i64 b.f1, .string b.f2, .slice Ab b.f3.length cb] 30 (0, 0)) ∧ w'.cell? ⟨g2, 3, none⟩ = some (.slice (some ⟨ge, 0, none⟩) a.f3.length ca) ∧ Go.Proofs.Ytomakpfmghekfaa.RowLaw.CellsAt w' ⟨ge, 0, none⟩ [.int .i64 (kid a 0).f0, .int .i64 (kid a 0).f1, .string (kid a 0).f2, .slice A0 (kid a 0).f3.length c0] ∧ Go.Proofs.Ytomakpfmghekfaa.RowLaw.CellsAt w' ⟨ge, 4, none⟩ [.int .i64 (kid a 1).f0, .int .i64 (kid a 1).f1, .string (kid a 1).f2, .slice A1 (kid a 1).f3.length c1]) (ds := []) (btx 12 0) (by kernel_rfl) rfl rfl ⟨BK2.out, BK3.out, (blk_cell BK2.out 3).trans rfl, EC0.out.below HB.out, EC1.out.below HB.out⟩ (fun hHeld => ?_)
  generalize _root_.Go.World.drew _ = wd at HB BK2 BK3 BK4 hHeld ⊢
  iterate 3 (first | (refine pu (v := ?_) (a' := ?_) rfl rfl (by kernel_rfl) (fun _ _ _ h => h) (Or.inl ⟨by rfl, ?_⟩) ?_ ?_; rotate_left; (intro w'; go_simp; with_reducible rfl); rotate_left; (simp only [Act.put, sq1, sq2, sq3, i64_w, i32_w]; rfl)) | (refine tk (v := ?_) (a' := ?_) rfl rfl (by kernel_rfl) (fun _ _ _ h => h) (Or.inl ⟨by rfl, ?_⟩) hHeld ?_ ?_; rotate_left; (rintro w' ⟨s0, s1, s2, s3, s4⟩; go_simp; with_reducible rfl); rotate_left; (simp only [Act.put, sq1, sq2, sq3, i64_w, i32_w]; rfl)))
  refine take_ (i := 3) (N := some 27) (v := .agg #[.int .i64 (kid a 0).f0, .int .i64 (kid a 0).f1, .string (kid a 0).f2, .slice A0 (kid a 0).f3.length c0]) (a' := ?_) (btx 12 4) rfl rfl (by kernel_rfl) (fun _ _ _ h => h) (Or.inl ⟨by rfl, fun w' s => Go.Proofs.Ytomakpfmghekfaa.RowLaw.at_run 30 _ rfl _ rfl _ [.int .i64 (kid a 0).f0, .int .i64 (kid a 0).f1, .string (kid a 0).f2, .slice A0 (kid a 0).f3.length c0] huP rfl HIP.out s.2.2.2.1⟩) hHeld ?_ ?_
  rotate_left; (simp only [Act.put, sq1, sq2, sq3, i64_w, i32_w]; rfl)
  iterate 3 (first | (refine pu (v := ?_) (a' := ?_) rfl rfl (by kernel_rfl) (fun _ _ _ h => h) (Or.inl ⟨by rfl, ?_⟩) ?_ ?_; rotate_left; (intro w'; go_simp; with_reducible rfl); rotate_left; (simp only [Act.put, sq1, sq2, sq3, i64_w, i32_w]; rfl)) | (refine tk (v := ?_) (a' := ?_) rfl rfl (by kernel_rfl) (fun _ _ _ h => h) (Or.inl ⟨by rfl, ?_⟩) hHeld ?_ ?_; rotate_left; (rintro w' ⟨s0, s1, s2, s3, s4⟩; go_simp; with_reducible rfl); rotate_left; (simp only [Act.put, sq1, sq2, sq3, i64_w, i32_w]; rfl)))
  refine take_ (i := 7) (N := some 31) (v := .agg #[.int .i64 (kid a 1).f0, .int .i64 (kid a 1).f1, .string (kid a 1).f2, .slice A1 (kid a 1).f3.length c1]) (a' := ?_) (btx 12 8) rfl rfl (by kernel_rfl) (fun _ _ _ h => h) (Or.inl ⟨by rfl, fun w' s => Go.Proofs.Ytomakpfmghekfaa.RowLaw.at_run 30 _ rfl _ rfl _ [.int .i64 (kid a 1).f0, .int .i64 (kid a 1).f1, .string (kid a 1).f2, .slice A1 (kid a 1).f3.length c1] huP rfl HIP.out s.2.2.2.2⟩) hHeld ?_ ?_
  rotate_left; (simp only [Act.put, sq1, sq2, sq3, i64_w, i32_w]; rfl)
  refine take_ (i := 8) (N := some 32) (v := .agg #[.int .i64 b.f0, .int .i64 b.f1, .string b.f2, .slice Ab b.f3.length cb]) (a' := ?_) (btx 12 9) rfl rfl (by kernel_rfl) (fun _ _ _ h => h) (Or.inl ⟨by rfl, fun w' s => Go.Proofs.Ytomakpfmghekfaa.RowLaw.load_run 30 _ rfl g3 rfl 30 _ _ s.2.1 huP rfl HIP.out⟩) hHeld ?_ ?_
  rotate_left; (simp only [Act.put, sq1, sq2, sq3, i64_w, i32_w]; rfl)
  refine one_ (i := 9) (N := some 33) (btx 12 10) rfl rfl (by kernel_rfl) (by decide) (fun K hK => ?_)
  refine goes_ Try.func40 (by kernel_rfl) rfl #[.agg #[.int .i64 (kid a 1).f0, .int .i64 (kid a 1).f1, .string (kid a 1).f2, .slice A1 (kid a 1).f3.length c1], .agg #[.int .i64 b.f0, .int .i64 b.f1, .string b.f2, .slice Ab b.f3.length cb]] (by rfl) rfl rfl (by (try simp only [sm1, sm2, sm3]); first | done | rfl) ?_
  with_reducible refine (IH.out (kid a 1) b CN1.out OK1.out HOB.out (.slice A1 (kid a 1).f3.length c1) (.slice Ab b.f3.length cb) B1 Bb _ ?side1 ?side2 ?side3 ?side4).mono ?_
  (case side1 => exact HT1.out.grow HB.out)
  (case side2 => exact HTb.out.grow HB.out)
  (case side3 => exact fun hd k h1 h2 => HD.out hd k (HS1.out k h1) h2)
  (case side4 => exact fun k hk => Nat.lt_of_lt_of_le (HL.out k (hk.elim (fun h => .inl (HS1.out k h)) .inr)) HB.out.size)
  rintro e wc ⟨v1, B1', rfl, hT, hB', hb⟩
  refine ⟨_, rfl, ?_⟩
  have HT5 := Aside0.mk hT
  have HB5 := Aside0.mk (fun k hk => (hB' k hk).1)
  have HL5 := Aside0.mk (fun k hk => (hB' k hk).2)
  have SZD := Aside0.mk HB.out.size
  have G4D := Aside0.mk (blk_lt BK4.out)
  have n_ := fr3 HB BK2 BK3 BK4 hb
  clear HB BK2 BK3 BK4
  obtain ⟨HB, BK2, BK3, BK4⟩ := n_
  obtain ⟨A5, c5, e5, _⟩ := hT.inv
  subst e5
  clear hT hB' hb
  refine hK.out _ _ ⟨BK2.out, BK3.out, (blk_cell BK2.out 3).trans rfl, EC0.out.below HB.out, EC1.out.below HB.out⟩ (fun hHeld => ?_)
  clear hK K
  refine norm_ (a' := ?_) ?_ ?_
  rotate_left
  ·show Act.put _ (some 33) _ = _
   simp only [Act.put, sq1, sq2, sq3, i64_w, i32_w]
   rfl
  refine one_ (i := 10) (N := some 34) (btx 12 11) rfl rfl (by kernel_rfl) (by decide) (fun K hK => ?_)
  refine goes_ Try.func40 (by kernel_rfl) rfl #[.agg #[.int .i64 (kid a 0).f0, .int .i64 (kid a 0).f1, .string (kid a 0).f2, .slice A0 (kid a 0).f3.length c0], .agg #[.int .i64 (altF n (kid a 1) b).f0, .int .i64 (altF n (kid a 1) b).f1, .string (altF n (kid a 1) b).f2, .slice A5 (altF n (kid a 1) b).f3.length c5]] (by rfl) rfl rfl (by (try simp only [sm1, sm2, sm3]); first | done | rfl) ?_
  with_reducible refine (IH.out (kid a 0) (altF n (kid a 1) b) CN0.out OK0.out (altF_ok n _ _ OK1.out HOB.out).1 (.slice A0 (kid a 0).f3.length c0) (.slice A5 (altF n (kid a 1) b).f3.length c5) B0 B1' _ ?side1 ?side2 ?side3 ?side4).mono ?_
  (case side1 => exact HT0.out.grow HB.out)
  (case side2 => exact HT5.out)
  (case side3 => exact fun hd k h0 h1 => (HB5.out k h1).elim (fun h => h.elim (HD01.out hd k h0) (HD.out hd k (HS0.out k h0))) (fun h => absurd (HL.out k (.inl (HS0.out k h0))) (by have := SZD.out; omega)))
  (case side4 => exact fun k hk => hk.elim (fun h => Nat.lt_of_lt_of_le (HL.out k (.inl (HS0.out k h))) HB.out.size) (HL5.out k))
  rintro e we ⟨v2, B2', rfl, hT, hB', hb⟩
  refine ⟨_, rfl, ?_⟩
  have HT6 := Aside0.mk hT
  have HB6 := Aside0.mk (fun k hk => (hB' k hk).1)
  have HL6 := Aside0.mk (fun k hk => (hB' k hk).2)
  have SZE := Aside0.mk HB.out.size
  have G4E := Aside0.mk (blk_lt BK4.out)
  have n_ := fr3 HB BK2 BK3 BK4 hb
  clear HB BK2 BK3 BK4
  obtain ⟨HB, BK2, BK3, BK4⟩ := n_
  obtain ⟨A6, c6, e6, _⟩ := hT.inv
  subst e6
  clear hT hB' hb
  refine hK.out _ _ ⟨BK2.out, BK3.out, (blk_cell BK2.out 3).trans rfl, EC0.out.below HB.out, EC1.out.below HB.out⟩ (fun hHeld => ?_)
  clear hK K
  refine norm_ (a' := ?_) ?_ ?_
  rotate_left
  ·show Act.put _ (some 34) _ = _
   simp only [Act.put, sq1, sq2, sq3, i64_w, i32_w]
   rfl
  refine one_ (i := 11) (N := none) (btx 12 12) rfl rfl (by kernel_rfl) (by decide) (fun K hK => ?_)
  refine put_step rfl rfl 30 _ _ rfl g4 0 (.agg #[.int .i64 (altF n (kid a 0) (altF n (kid a 1) b)).f0, .int .i64 (altF n (kid a 0) (altF n (kid a 1) b)).f1, .string (altF n (kid a 0) (altF n (kid a 1) b)).f2, .slice A6 (altF n (kid a 0) (altF n (kid a 1) b)).f3.length c6]) rfl rfl [.int .i64 (altF n (kid a 0) (altF n (kid a 1) b)).f0, .int .i64 (altF n (kid a 0) (altF n (kid a 1) b)).f1, .string (altF n (kid a 0) (altF n (kid a 1) b)).f2, .slice A6 (altF n (kid a 0) (altF n (kid a 1) b)).f3.length c6] rfl 30 _ #[.int .i64 (altF n (kid a 0) (altF n (kid a 1) b)).f0, .int .i64 (altF n (kid a 0) (altF n (kid a 1) b)).f1, .string (altF n (kid a 0) (altF n (kid a 1) b)).f2, .slice A6 (altF n (kid a 0) (altF n (kid a 1) b)).f3.length c6] BK4.out HIP.out (Nat.le_of_ble_eq_true rfl) rfl rfl ?_
  intro w9 hk hoth hbel hz
  have n0_ := Aside0.mk (hbel _ _ HB.out GE4.out)
  have n1_ := Aside0.mk (T.move HT6.out (fun k jb => hoth k (fun he => by subst he; exact ((HB6.out _ jb).elim (fun h => h.elim (fun h => absurd (HL.out _ (.inl (HS0.out _ h))) (by have := GE4.out; omega)) (fun h => (HB5.out _ h).elim (fun h => absurd (HL.out _ (h.elim (fun h => .inl (HS1.out _ h)) .inr)) (by have := GE4.out; omega)) (fun h => absurd G4D.out (by omega)))) (fun h => absurd G4E.out (by omega))))))
  have n2_ := Aside0.mk ((hoth g2 NE2.out).trans BK2.out)
  have n3_ := Aside0.mk ((hoth g3 NE3.out).trans BK3.out)
  have HZ := Aside0.mk hz
  clear HB BK4 HT6 BK2 BK3
  have HB := n0_
  have HT6 := n1_
  have BK2 := n2_
  have BK3 := n3_
  have BK4 := Aside0.mk hk
  clear n0_ n1_ n2_ n3_ hk hoth hbel hz
  refine hK.out _ _ ⟨BK2.out, BK3.out, (blk_cell BK2.out 3).trans rfl, EC0.out.below HB.out, EC1.out.below HB.out⟩ (fun hHeld => ?_)
  clear hK K
  refine done_ (by kernel_rfl) ?_
  go_wp2
  refine bodyPost_ret (results_cell_row rfl _ _ _ 30 _ (0, 0) _ rfl BK4.out huP rfl (by kernel_rfl)) rfl ?_
  try rw [EQ]
  refine ⟨_, B2', rfl, HT6.out, fun k hk => ⟨(HB6.out k hk).elim (fun h => h.elim (fun h => .inl (.inl (HS0.out k h))) (fun h => (HB5.out k h).elim (fun h => .inl (h.elim (fun h => .inl (HS1.out k h)) .inr)) (fun h => .inr (Nat.le_trans SZD.out h)))) (fun h => .inr (Nat.le_trans SZE.out h)), ?_⟩, HB.out⟩
  rw [HZ.out]
  exact HL6.out k hk
 have c18b : (a.f0 == 18) = false := beq_eq_false_iff_ne.mpr c18
 have EQ : altF (n + 1) a b = ⟨18, 0, ⟨#[]⟩, [a, b]⟩ := by simp only [altF]; rw [if_neg (by rw [c16b]; simp), if_neg (by rw [d16b, c15b]; simp), if_neg (by rw [c18b]; simp)]
 go_wp2_with (first | ((with_reducible refine gate_dst (N := 35) rfl ?_); refine wpList_load_row rfl 30 _ rfl g2 rfl 30 #[.int .i64 a.f0, .int .i64 a.f1, .string a.f2, .slice Aa a.f3.length ca] (0, 0) _ BK2.out huP rfl HIP.out ?_; (try simp only [Act.put, sq1, sq2, sq3])) | ((with_reducible refine gate_dst (N := 36) rfl ?_); refine wpList_load_row rfl 30 _ rfl g3 rfl 30 #[.int .i64 b.f0, .int .i64 b.f1, .string b.f2, .slice Ab b.f3.length cb] (0, 0) _ BK3.out huP rfl HIP.out ?_; (try simp only [Act.put, sq1, sq2, sq3])) | ((with_reducible refine gate_dst (N := 37) rfl ?_); refine row_event 30 2 ([.int .i64 a.f0, .int .i64 a.f1, .string a.f2, .slice Aa a.f3.length ca, .int .i64 b.f0, .int .i64 b.f1, .string b.f2, .slice Ab b.f3.length cb]) rfl ?hr ?_; (case hr => first | (go_simp; done) | (go_simp; rfl)); intro w5 m5 hm hn hb; have HN5 := Aside0.mk hn; have GM := Aside0.mk (by rw [hm]; exact Nat.ne_of_gt (blk_lt BK4.out) : m5 ≠ g4); have GE5 := Aside0.mk (by rw [hm]; exact HB.out.size : w.heap.size ≤ m5); have n_ := fr3 HB BK2 BK3 BK4 hb; clear HB BK2 BK3 BK4; obtain ⟨HB, BK2, BK3, BK4⟩ := n_; clear hm hn hb; (try simp only [Act.put, sq1, sq2, sq3])) | ((with_reducible refine gate_store (t := 30) (p := 4) rfl ?_); refine Go.Proofs.Ytomakpfmghekfaa.RowLaw.put_event rfl 30 _ _ rfl g4 0 (.agg #[.int .i64 18, .int .i64 0, .string (⟨#[]⟩ : ByteArray), .slice (some ⟨m5, 0, none⟩) 2 2]) rfl rfl [.int .i64 18, .int .i64 0, .string (⟨#[]⟩ : ByteArray), .slice (some ⟨m5, 0, none⟩) 2 2] rfl 30 _ #[.int .i64 18, .int .i64 0, .string (⟨#[]⟩ : ByteArray), .slice (some ⟨m5, 0, none⟩) 2 2] BK4.out HIP.out (Nat.le_of_ble_eq_true rfl) rfl rfl ?_; intro w9 hk hoth hbel hz; have n0_ := Aside0.mk (hbel _ _ HB.out GE4.out); have n1_ := Aside0.mk ((hoth m5 GM.out).trans HN5.out); clear HB BK4 HN5; have HB := n0_; have HN5 := n1_; have BK4 := Aside0.mk hk; clear n0_ n1_ hk hoth hbel hz; (try simp only [Act.put, sq1, sq2, sq3])))
 refine bodyPost_ret (results_cell_row rfl _ _ _ 30 _ (0, 0) _ rfl BK4.out huP rfl (by kernel_rfl)) rfl ?_
 try rw [EQ]
 exact res_pair 18 HN5.out (HTa.out.grow HB.out) (HTb.out.grow HB.out) HD.out (fun j hj => ⟨.inl hj, Nat.lt_of_lt_of_le (HL.out j hj) HB.out.size⟩) (fun j hj he => absurd (HL.out j hj) (by have := GE5.out; omega)) GE5.out HB.out
end Go.Proofs.Ytomakpfmghekfaa.PFnExactJoinPatterns
