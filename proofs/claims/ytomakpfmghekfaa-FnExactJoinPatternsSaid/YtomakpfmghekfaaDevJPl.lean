/- By hand: what the law FnExactJoinPatterns reaches beyond the printed texts, and the law's own function. Conditions: none beyond each statement. -/
import Derived.Test.YtomakpfmghekfaaProg
import Derived.Below
import Derived.Deep.Draws
import Derived.Deep.AppendLies
import Derived.Maps.AppendAt
import Derived.OwnWalk
import Derived.Laws.BytesArg
import Derived.Laws.MakeOwn
import Derived.Laws.OwnMore
import Derived.Deep.OwnRows
import Derived.Tactics
import Derived.Lib.ConvBytes
import Derived.Laws.Slices
import Derived.WalkKit
import Derived.KernelRfl
import Derived.RowKit3
import Derived.Deep.LoopGhost
import Derived.Deep.QuietTactic
import Derived.BigQuiet
import Derived.WideLaws
import Derived.Deep.DeepCutAuto
import Derived.Deep.CutBlock
import Derived.Deep.RegionHeld3
import Derived.Laws.Rows
import Derived.Lib.AppendStr
import Derived.ArgAppend
import Derived.Laws.IdiomCopy
import Derived.OrdersHeld
import Derived.Laws.BitsLemmas
import Derived.RowKit
import Derived.Test.YtomakpfmghekfaaWWords
import Derived.Test.YtomakpfmghekfaaWLast
import Derived.Test.YtomakpfmghekfaaWTab
import Derived.Test.YtomakpfmghekfaaWFour
import Derived.Test.YtomakpfmghekfaaWQPut
import Derived.Test.YtomakpfmghekfaaWApart
import Derived.Test.YtomakpfmghekfaaWArr
import Derived.Test.YtomakpfmghekfaaWZeros
import Derived.Test.YtomakpfmghekfaaWFoot
import Derived.Test.YtomakpfmghekfaaWKept
import Derived.Test.YtomakpfmghekfaaWShare
import Derived.Test.YtomakpfmghekfaaWN
import Derived.Test.YtomakpfmghekfaaWFootNe
import Derived.Test.YtomakpfmghekfaaWAt
import Derived.Test.YtomakpfmghekfaaWEqStruct
import Derived.Test.YtomakpfmghekfaaWRepsOne
import Derived.Test.YtomakpfmghekfaaWInv
import Derived.Test.YtomakpfmghekfaaWInvWords
import Derived.Test.YtomakpfmghekfaaWGuard
import Derived.Test.YtomakpfmghekfaaWNEv
import Derived.Test.YtomakpfmghekfaaWMore
import Derived.Test.YtomakpfmghekfaaDevJPm
import Derived.Test.YtomakpfmghekfaaDevJPg
import Derived.Test.YtomakpfmghekfaaRowLaw
namespace Go.Proofs.Ytomakpfmghekfaa.PFnExactJoinPatterns
open Go.RowKit Go.Proofs.YtomakpfmghekfaaW.PrintWords Go.Proofs.YtomakpfmghekfaaW.PrintLast Go.Proofs.YtomakpfmghekfaaW.PrintMore
attribute [local go_sem] max2_int min2_int max_two min_two max_three min_three max_four min_four
set_option linter.unusedVariables false
set_option linter.unusedSimpArgs false
theorem size_cnt (n : Nat) : ∀ x : S24, cntT (convPattern x) ≤ n → cntT (convPattern x) ≤ 1 + sizePattern x := by
  induction n using Nat.strongRecOn with
  | _ n ih =>
  intro x hn
  have kids : ∀ (s : List S24), cntL (convPatternS s) < n → cntL (convPatternS s) ≤ s.length + sizePatternS s := by
    intro s
    induction s with
    | nil => intro _; simp [convPatternS, cntL]
    | cons y ys ihs =>
      intro hs
      simp only [convPatternS, cntL] at hs ⊢
      rw [sizePatternS_cons, List.length_cons]
      have h0 := cntT_eq (convPattern y)
      have h1 := ih (cntT (convPattern y)) (by omega) y (Nat.le_refl _)
      have h2 := ihs (by omega)
      omega
  rw [cntT_eq] at hn ⊢
  rw [convPattern_f3] at hn ⊢
  have := kids x.f3 (by omega)
  rw [sizePattern_eq]
  omega
set_option maxHeartbeats 32000000 in
set_option maxRecDepth 100000 in
theorem law_jp (x y : S24) (gx : G24 x) (gy : G24 y) (A1 : Option Addr) (c1 : Nat) (A2 : Option Addr) (c2 : Nat) (w : World) (hx3 : k24.C w A1 x.f3.length x.f3) (lx3 : x.f3.length ≤ c1) (hy3 : k24.C w A2 y.f3.length y.f3) (ly3 : y.f3.length ≤ c2) :
    Calls Try.prog 5 #[.agg #[.int .i64 x.f0, .int .i64 x.f1, .string x.f2, .slice A1 x.f3.length c1], .agg #[.int .i64 y.f0, .int .i64 y.f1, .string y.f2, .slice A2 y.f3.length c2]] w fun e w' => e = .returned (.bool true) ∧ Below w.heap.size w w' := by
  obtain ⟨k1, hs⟩ := (szPattern_ev x gx 1048576 (by omega) (by omega)).rounds
  obtain ⟨m, hm⟩ := mtext_ex
  have huP := Try.underlying30
  have huQ := Try.underlying24
  have HIP := Aside0.mk (by kernel_rfl : (Try.prog.info? 30).map (·.size) = some 4)
  have HIQ := Aside0.mk (by kernel_rfl : (Try.prog.info? 24).map (·.size) = some 4)
  have HX3 := Aside0.mk hx3
  have LX3 := Aside0.mk lx3
  have HY3 := Aside0.mk hy3
  have LY3 := Aside0.mk ly3
  clear hx3 lx3 hy3 ly3
  have HB := Aside0.mk (Below.refl w.heap.size w)
  by_cases hz : ¬ ((sizePattern x : Int) ≤ 1048576)
  · rw [if_neg hz] at hs
    have HS := Aside0.mk hs
    clear hs hz
    go_enter Try.func5, Try.ntmps5
    go_wp2_with (first | ((with_reducible refine gate_dst (N := 2) rfl ?_); refine box_event ?hg (N := 2) ?hd (cs := #[.int .i64 x.f0, .int .i64 x.f1, .string x.f2, .slice A1 x.f3.length c1]) (t := 24) ?hr ?_; (case hd => rfl); (case hg => rfl); (case hr => first | (go_simp; done) | (go_simp; rfl)); intro g2 hg wg2 hbox hb; have n0_ := Aside0.mk (below_step HB.out hb); clear HB; have HB := n0_; clear n0_; have BK2 := Aside0.mk hbox; clear hbox hg hb; (try simp only [Act.put, sq1, sq2, sq3])) | ((with_reducible refine gate_dst (N := 3) rfl ?_); refine box_event ?hg (N := 3) ?hd (cs := #[.int .i64 y.f0, .int .i64 y.f1, .string y.f2, .slice A2 y.f3.length c2]) (t := 24) ?hr ?_; (case hd => rfl); (case hg => rfl); (case hr => first | (go_simp; done) | (go_simp; rfl)); intro g3 hg wg3 hbox hb; have n0_ := Aside0.mk (below_step HB.out hb); have n1_ := Aside0.mk (blk_below BK2.out hb); clear HB BK2; have HB := n0_; have BK2 := n1_; clear n0_ n1_; have BK3 := Aside0.mk hbox; clear hbox hg hb; (try simp only [Act.put, sq1, sq2, sq3])) | ((with_reducible refine gate_dst (N := 17) rfl ?_); refine wpList_load_row rfl 24 _ rfl g2 rfl 24 #[.int .i64 x.f0, .int .i64 x.f1, .string x.f2, .slice A1 x.f3.length c1] (0, 0) _ BK2.out huQ rfl HIQ.out ?_; (try simp only [Act.put, sq1, sq2, sq3])) | ((with_reducible refine gate_dst (N := 22) rfl ?_); refine wpList_load_row rfl 24 _ rfl g3 rfl 24 #[.int .i64 y.f0, .int .i64 y.f1, .string y.f2, .slice A2 y.f3.length c2] (0, 0) _ BK3.out huQ rfl HIQ.out ?_; (try simp only [Act.put, sq1, sq2, sq3])) | ((with_reducible refine gate_callee (f := 6) rfl ?_); refine goesL_ (some 19) rfl rfl Try.func6 (by kernel_rfl) rfl #[.agg #[.int .i64 x.f0, .int .i64 x.f1, .string x.f2, .slice A1 x.f3.length c1], .int .i64 1048576] rfl (by (try simp only [sm1, sm2, sm3]); first | done | rfl) ?_; refine (laws_szPattern.calls k1 x.f0 x.f1 x.f2 A1 c1 x.f3 1048576 (-1) _ (Kd.C_below HX3.out HB.out) LX3.out HS.out).mono ?_; rintro e wd ⟨rfl, hb⟩; refine ⟨_, rfl, ?_⟩; have n0_ := Aside0.mk (below_step HB.out hb); have n1_ := Aside0.mk (blk_below BK2.out hb); have n2_ := Aside0.mk (blk_below BK3.out hb); clear HB BK2 BK3; have HB := n0_; have BK2 := n1_; have BK3 := n2_; clear n0_ n1_ n2_; clear hb; (try simp only [Act.put, sq1, sq2, sq3])))
    go_ret
    exact ⟨rfl, HB.out⟩
  have hz := Classical.not_not.1 hz
  rw [if_pos hz] at hs
  obtain ⟨lf, hlf⟩ : ∃ lf : Int, lf = 1048576 - sizePattern x := ⟨_, rfl⟩
  rw [← hlf] at hs
  have HS := Aside0.mk hs
  have c0 : (lf < 0) = False := eq_false (by omega)
  have c0b : decide (lf < 0) = false := decide_eq_false (by omega)
  clear hs
  obtain ⟨k2, hs⟩ := (szPattern_ev y gy lf (by omega) (by omega)).rounds
  by_cases hz2 : ¬ ((sizePattern y : Int) ≤ lf)
  · rw [if_neg hz2] at hs
    have HS2 := Aside0.mk hs
    clear hs hz hz2 hlf
    go_enter Try.func5, Try.ntmps5
    go_wp2_with (first | ((with_reducible refine gate_dst (N := 2) rfl ?_); refine box_event ?hg (N := 2) ?hd (cs := #[.int .i64 x.f0, .int .i64 x.f1, .string x.f2, .slice A1 x.f3.length c1]) (t := 24) ?hr ?_; (case hd => rfl); (case hg => rfl); (case hr => first | (go_simp; done) | (go_simp; rfl)); intro g2 hg wg2 hbox hb; have n0_ := Aside0.mk (below_step HB.out hb); clear HB; have HB := n0_; clear n0_; have BK2 := Aside0.mk hbox; clear hbox hg hb; (try simp only [Act.put, sq1, sq2, sq3])) | ((with_reducible refine gate_dst (N := 3) rfl ?_); refine box_event ?hg (N := 3) ?hd (cs := #[.int .i64 y.f0, .int .i64 y.f1, .string y.f2, .slice A2 y.f3.length c2]) (t := 24) ?hr ?_; (case hd => rfl); (case hg => rfl); (case hr => first | (go_simp; done) | (go_simp; rfl)); intro g3 hg wg3 hbox hb; have n0_ := Aside0.mk (below_step HB.out hb); have n1_ := Aside0.mk (blk_below BK2.out hb); clear HB BK2; have HB := n0_; have BK2 := n1_; clear n0_ n1_; have BK3 := Aside0.mk hbox; clear hbox hg hb; (try simp only [Act.put, sq1, sq2, sq3])) | ((with_reducible refine gate_dst (N := 17) rfl ?_); refine wpList_load_row rfl 24 _ rfl g2 rfl 24 #[.int .i64 x.f0, .int .i64 x.f1, .string x.f2, .slice A1 x.f3.length c1] (0, 0) _ BK2.out huQ rfl HIQ.out ?_; (try simp only [Act.put, sq1, sq2, sq3])) | ((with_reducible refine gate_dst (N := 22) rfl ?_); refine wpList_load_row rfl 24 _ rfl g3 rfl 24 #[.int .i64 y.f0, .int .i64 y.f1, .string y.f2, .slice A2 y.f3.length c2] (0, 0) _ BK3.out huQ rfl HIQ.out ?_; (try simp only [Act.put, sq1, sq2, sq3])) | ((with_reducible refine gate_callee (f := 6) rfl ?_); refine goesL_ (some 19) rfl rfl Try.func6 (by kernel_rfl) rfl #[.agg #[.int .i64 x.f0, .int .i64 x.f1, .string x.f2, .slice A1 x.f3.length c1], .int .i64 1048576] rfl (by (try simp only [sm1, sm2, sm3]); first | done | rfl) ?_; refine (laws_szPattern.calls k1 x.f0 x.f1 x.f2 A1 c1 x.f3 1048576 (lf) _ (Kd.C_below HX3.out HB.out) LX3.out HS.out).mono ?_; rintro e wd ⟨rfl, hb⟩; refine ⟨_, rfl, ?_⟩; have n0_ := Aside0.mk (below_step HB.out hb); have n1_ := Aside0.mk (blk_below BK2.out hb); have n2_ := Aside0.mk (blk_below BK3.out hb); clear HB BK2 BK3; have HB := n0_; have BK2 := n1_; have BK3 := n2_; clear n0_ n1_ n2_; clear hb; (try simp only [Act.put, sq1, sq2, sq3])) | ((with_reducible refine gate_callee (f := 6) rfl ?_); refine goesL_ (some 24) rfl rfl Try.func6 (by kernel_rfl) rfl #[.agg #[.int .i64 y.f0, .int .i64 y.f1, .string y.f2, .slice A2 y.f3.length c2], .int .i64 lf] rfl (by (try simp only [sm1, sm2, sm3]); first | done | rfl) ?_; refine (laws_szPattern.calls k2 y.f0 y.f1 y.f2 A2 c2 y.f3 lf (-1) _ (Kd.C_below HY3.out HB.out) LY3.out HS2.out).mono ?_; rintro e wd ⟨rfl, hb⟩; refine ⟨_, rfl, ?_⟩; have n0_ := Aside0.mk (below_step HB.out hb); have n1_ := Aside0.mk (blk_below BK2.out hb); have n2_ := Aside0.mk (blk_below BK3.out hb); clear HB BK2 BK3; have HB := n0_; have BK2 := n1_; have BK3 := n2_; clear n0_ n1_ n2_; clear hb; (try simp only [Act.put, sq1, sq2, sq3])))
    go_ret
    exact ⟨rfl, HB.out⟩
  have hz2 := Classical.not_not.1 hz2
  rw [if_pos hz2] at hs
  obtain ⟨lg, hlg⟩ : ∃ lg : Int, lg = lf - sizePattern y := ⟨_, rfl⟩
  rw [← hlg] at hs
  have HS2 := Aside0.mk hs
  have c0c : (lg < 0) = False := eq_false (by omega)
  have c0d : decide (lg < 0) = false := decide_eq_false (by omega)
  clear hs
  obtain ⟨kx, htx⟩ := (toPattern_ev x gx (by omega)).rounds
  obtain ⟨ky, hty⟩ := (toPattern_ev y gy (by omega)).rounds
  have fx := finePattern_conv x gx
  have fy := finePattern_conv y gy
  have hcx := size_cnt _ x (Nat.le_refl _)
  have hcy := size_cnt _ y (Nat.le_refl _)
  obtain ⟨px, hpx⟩ : ∃ px, px = convPattern x := ⟨_, rfl⟩
  obtain ⟨py, hpy⟩ : ∃ py, py = convPattern y := ⟨_, rfl⟩
  rw [← hpx] at htx fx hcx
  rw [← hpy] at hty fy hcy
  have hcc : cntT px + cntT py ≤ 1999999 := by omega
  obtain ⟨kex, hex⟩ := (eq_self _ px (Nat.le_refl _) (by omega)).rounds
  obtain ⟨key, hey⟩ := (eq_self _ py (Nat.le_refl _) (by omega)).rounds
  have hsc := jn_cnt hcc
  obtain ⟨sx, hsx⟩ : ∃ sx, jn px py = sx := ⟨_, rfl⟩
  obtain ⟨sb, hsb⟩ : ∃ sb, jok px py = sb := ⟨_, rfl⟩
  rw [hsx] at hsc
  obtain ⟨kf, hf⟩ := (eq_self _ sx (Nat.le_refl _) hsc).rounds
  have e1 := cntT_eq px
  have e2 := cntT_eq py
  have e3 := cntT_eq sx
  obtain ⟨t1, ht1⟩ : ∃ t1 : Int, 1 + 3 * (cntL px.f3 : Int) = t1 := ⟨_, rfl⟩
  obtain ⟨t2, ht2⟩ : ∃ t2 : Int, t1 + 3 * (cntL py.f3 : Int) = t2 := ⟨_, rfl⟩
  obtain ⟨tm, htm⟩ : ∃ tm : Int, 1 + 3 * (cntL sx.f3 : Int) = tm := ⟨_, rfl⟩
  have HM1 := Aside0.mk (by omega : 1 + 3 * (cntL px.f3 : Int) ≤ 100000000)
  have HM2 := Aside0.mk (by omega : t1 + 3 * (cntL py.f3 : Int) ≤ 100000000)
  have HM3 := Aside0.mk (by omega : 1 + 3 * (cntL sx.f3 : Int) ≤ 100000000)
  have HT1 := Aside0.mk ht1
  have HT2 := Aside0.mk ht2
  have HTM := Aside0.mk htm
  have HP1 := Aside0.mk (by omega : 0 ≤ t1)
  have cT : (t2 < 0) = False := eq_false (by omega)
  have cTb : decide (t2 < 0) = false := decide_eq_false (by omega)
  have cM : (tm < 0) = False := eq_false (by omega)
  have cMb : decide (tm < 0) = false := decide_eq_false (by omega)
  have cMn : (tm != tm) = false := by simp
  have cSb : (sb != sb) = false := by simp
  have HCC := Aside0.mk hcc
  have HSX := Aside0.mk hsx
  have HSB := Aside0.mk hsb
  have HTX := Aside0.mk htx
  have HTY := Aside0.mk hty
  have FX := Aside0.mk fx
  have FY := Aside0.mk fy
  have HEX := Aside0.mk hex
  have HEY := Aside0.mk hey
  have HF := Aside0.mk hf
  have HM := Aside0.mk hm
  clear htx hty fx fy hex hey hf hm hcx hcy hpx hpy hz hz2 hlf hlg hcc hsc hsx hsb ht1 ht2 htm e1 e2 e3
  go_enter Try.func5, Try.ntmps5
  go_wp2_with (first | ((with_reducible refine gate_dst (N := 2) rfl ?_); refine box_event ?hg (N := 2) ?hd (cs := #[.int .i64 x.f0, .int .i64 x.f1, .string x.f2, .slice A1 x.f3.length c1]) (t := 24) ?hr ?_; (case hd => rfl); (case hg => rfl); (case hr => first | (go_simp; done) | (go_simp; rfl)); intro g2 hg wg2 hbox hb; have n0_ := Aside0.mk (below_step HB.out hb); clear HB; have HB := n0_; clear n0_; have BK2 := Aside0.mk hbox; clear hbox hg hb; (try simp only [Act.put, sq1, sq2, sq3])) | ((with_reducible refine gate_dst (N := 3) rfl ?_); refine box_event ?hg (N := 3) ?hd (cs := #[.int .i64 y.f0, .int .i64 y.f1, .string y.f2, .slice A2 y.f3.length c2]) (t := 24) ?hr ?_; (case hd => rfl); (case hg => rfl); (case hr => first | (go_simp; done) | (go_simp; rfl)); intro g3 hg wg3 hbox hb; have n0_ := Aside0.mk (below_step HB.out hb); have n1_ := Aside0.mk (blk_below BK2.out hb); clear HB BK2; have HB := n0_; have BK2 := n1_; clear n0_ n1_; have BK3 := Aside0.mk hbox; clear hbox hg hb; (try simp only [Act.put, sq1, sq2, sq3])) | ((with_reducible refine gate_dst (N := 17) rfl ?_); refine wpList_load_row rfl 24 _ rfl g2 rfl 24 #[.int .i64 x.f0, .int .i64 x.f1, .string x.f2, .slice A1 x.f3.length c1] (0, 0) _ BK2.out huQ rfl HIQ.out ?_; (try simp only [Act.put, sq1, sq2, sq3])) | ((with_reducible refine gate_dst (N := 22) rfl ?_); refine wpList_load_row rfl 24 _ rfl g3 rfl 24 #[.int .i64 y.f0, .int .i64 y.f1, .string y.f2, .slice A2 y.f3.length c2] (0, 0) _ BK3.out huQ rfl HIQ.out ?_; (try simp only [Act.put, sq1, sq2, sq3])) | ((with_reducible refine gate_callee (f := 6) rfl ?_); refine goesL_ (some 19) rfl rfl Try.func6 (by kernel_rfl) rfl #[.agg #[.int .i64 x.f0, .int .i64 x.f1, .string x.f2, .slice A1 x.f3.length c1], .int .i64 1048576] rfl (by (try simp only [sm1, sm2, sm3]); first | done | rfl) ?_; refine (laws_szPattern.calls k1 x.f0 x.f1 x.f2 A1 c1 x.f3 1048576 (lf) _ (Kd.C_below HX3.out HB.out) LX3.out HS.out).mono ?_; rintro e wd ⟨rfl, hb⟩; refine ⟨_, rfl, ?_⟩; have n0_ := Aside0.mk (below_step HB.out hb); have n1_ := Aside0.mk (blk_below BK2.out hb); have n2_ := Aside0.mk (blk_below BK3.out hb); clear HB BK2 BK3; have HB := n0_; have BK2 := n1_; have BK3 := n2_; clear n0_ n1_ n2_; clear hb; (try simp only [Act.put, sq1, sq2, sq3])) | ((with_reducible refine gate_callee (f := 6) rfl ?_); refine goesL_ (some 24) rfl rfl Try.func6 (by kernel_rfl) rfl #[.agg #[.int .i64 y.f0, .int .i64 y.f1, .string y.f2, .slice A2 y.f3.length c2], .int .i64 lf] rfl (by (try simp only [sm1, sm2, sm3]); first | done | rfl) ?_; refine (laws_szPattern.calls k2 y.f0 y.f1 y.f2 A2 c2 y.f3 lf (lg) _ (Kd.C_below HY3.out HB.out) LY3.out HS2.out).mono ?_; rintro e wd ⟨rfl, hb⟩; refine ⟨_, rfl, ?_⟩; have n0_ := Aside0.mk (below_step HB.out hb); have n1_ := Aside0.mk (blk_below BK2.out hb); have n2_ := Aside0.mk (blk_below BK3.out hb); clear HB BK2 BK3; have HB := n0_; have BK2 := n1_; have BK3 := n2_; clear n0_ n1_ n2_; clear hb; (try simp only [Act.put, sq1, sq2, sq3])))
  have n0_ := Aside0.mk (below_step HB.out (below_drew1 (Below.refl _ _)))
  have n1_ := Aside0.mk (blk_below BK2.out (below_drew1 (Below.refl _ _)))
  have n2_ := Aside0.mk (blk_below BK3.out (below_drew1 (Below.refl _ _)))
  clear HB BK2 BK3
  have HB := n0_
  have BK2 := n1_
  have BK3 := n2_
  clear n0_ n1_ n2_
  refine start_ (n := 11) (S := fun w' => w'.heap[g2]? = some (.cells #[.int .i64 x.f0, .int .i64 x.f1, .string x.f2, .slice A1 x.f3.length c1] 24 (0, 0)) ∧ w'.heap[g3]? = some (.cells #[.int .i64 y.f0, .int .i64 y.f1, .string y.f2, .slice A2 y.f3.length c2] 24 (0, 0))) (ds := []) #[false, false, false, false, false, false, false, false, false, false, false] (by kernel_rfl) rfl rfl ⟨BK2.out, BK3.out⟩ (fun hHeld => ?_)
  generalize _root_.Go.World.drew _ = wd at HB BK2 BK3 hHeld ⊢
  have LA := Aside0.mk (blk_lt BK2.out)
  have LB := Aside0.mk (blk_lt BK3.out)
  have LW := Aside0.mk HB.out.size
  obtain ⟨L0, hL0⟩ : ∃ l, l = wd.heap.size := ⟨_, rfl⟩
  rw [← hL0] at LW LA LB
  have ZL := Aside0.mk (Nat.le_of_eq hL0)
  clear hL0
  refine take_ (i := 0) (N := some 28) (v := .agg #[.int .i64 x.f0, .int .i64 x.f1, .string x.f2, .slice A1 x.f3.length c1]) (a' := ?_) #[true, false, false, false, false, false, false, false, false, false, false] rfl rfl (by kernel_rfl) (fun _ _ _ h => h) (Or.inl ⟨by rfl, fun w' s => Go.Proofs.Ytomakpfmghekfaa.RowLaw.load_run 24 _ rfl g2 rfl 24 _ _ s.1 huQ rfl HIQ.out⟩) hHeld ?_ ?_
  rotate_left; (simp only [Act.put, sq1, sq2, sq3, i64_w, i32_w]; rfl)
  refine take_ (i := 2) (N := some 30) (v := .agg #[.int .i64 y.f0, .int .i64 y.f1, .string y.f2, .slice A2 y.f3.length c2]) (a' := ?_) #[true, false, true, false, false, false, false, false, false, false, false] rfl rfl (by kernel_rfl) (fun _ _ _ h => h) (Or.inl ⟨by rfl, fun w' s => Go.Proofs.Ytomakpfmghekfaa.RowLaw.load_run 24 _ rfl g3 rfl 24 _ _ s.2 huQ rfl HIQ.out⟩) hHeld ?_ ?_
  rotate_left; (simp only [Act.put, sq1, sq2, sq3, i64_w, i32_w]; rfl)
  refine join_ (σ := Value × Value × Option Addr × Nat × Nat × Nat × Nat) 2 #[true, true, true, true, true, true, true, true, true, false, false] (fun s => match s with | (u1, u2, Ar, cr, gr, pr, qr) => [(29, u1), (31, u2), (32, .tuple #[.agg #[.int .i64 sx.f0, .int .i64 sx.f1, .string sx.f2, .slice Ar sx.f3.length cr], .bool sb]), (27, .tuple #[.agg #[.int .i64 sx.f0, .int .i64 sx.f1, .string sx.f2, .slice Ar sx.f3.length cr], .bool sb]), (33, .agg #[.int .i64 sx.f0, .int .i64 sx.f1, .string sx.f2, .slice Ar sx.f3.length cr]), (34, .bool sb), (6, .pointer (some ⟨gr, 0, none⟩))]) (fun s w' => match s with | (u1, u2, Ar, cr, gr, pr, qr) => Aside0 (Below w.heap.size w w') ∧ Aside0 (w'.heap[g2]? = some (.cells #[.int .i64 x.f0, .int .i64 x.f1, .string x.f2, .slice A1 x.f3.length c1] 24 (0, 0))) ∧ Aside0 (w'.heap[g3]? = some (.cells #[.int .i64 y.f0, .int .i64 y.f1, .string y.f2, .slice A2 y.f3.length c2] 24 (0, 0))) ∧ Aside0 (w'.heap[gr]? = some (.cells #[.int .i64 0, .int .i64 0, .string (⟨#[]⟩ : ByteArray), .slice none 0 0] 30 (0, 0))) ∧ Aside0 (w.heap.size ≤ gr ∧ L0 ≤ gr) ∧ Aside0 (Go.Proofs.Ytomakpfmghekfaa.RowLaw.IR k30 30 w' pr qr (.slice Ar sx.f3.length cr) sx.f3) ∧ Aside0 (qr ≤ w'.heap.size) ∧ Aside0 (∀ k, pr ≤ k → k < qr → k ≠ gr)) ?_ (fun hJ => ?_)
  rotate_left
  ·refine two_ (i := 1) (j := 8) (Ni := some 29) (Nj := some 6) #[true, true, true, false, false, false, false, false, false, false, false] #[true, false, true, false, false, false, false, false, true, false, false] rfl rfl rfl rfl (by kernel_rfl) (by decide) (by decide) (fun K hK => ?_) (fun K hK => ?_)
   ·refine goes_ Try.func8 (by kernel_rfl) rfl #[.agg #[.int .i64 x.f0, .int .i64 x.f1, .string x.f2, .slice A1 x.f3.length c1]] (by rfl) rfl rfl (by (try simp only [sm1, sm2, sm3]); first | done | rfl) ?_
    with_reducible refine (laws_toPattern.calls kx x.f0 x.f1 x.f2 A1 c1 x.f3 px.f0 px.f1 px.f2 px.f3 _ ?side1 LX3.out HTX.out).mono ?_
    (case side1 => exact Kd.C_below HX3.out HB.out)
    rintro e wc ⟨v1, rfl, ho, hb⟩
    refine ⟨_, rfl, ?_⟩
    obtain ⟨p1, q1, i_, z_⟩ : ∃ p q, Go.Proofs.Ytomakpfmghekfaa.RowLaw.IR k30 30 wc p q v1 px.f3 ∧ q ≤ wc.heap.size := ⟨_, _, Go.Proofs.Ytomakpfmghekfaa.RowLaw.IR.of ho, Nat.le_refl _⟩
    have n0_ := Aside0.mk (below_step HB.out hb)
    have n1_ := Aside0.mk (blk_below BK2.out hb)
    have n2_ := Aside0.mk (blk_below BK3.out hb)
    have n3_ := Aside0.mk (Nat.le_trans ZL.out (Below.size hb))
    clear HB BK2 BK3 ZL
    have HB := n0_
    have BK2 := n1_
    have BK3 := n2_
    have ZL := n3_
    clear n0_ n1_ n2_ n3_
    have I1 := Aside0.mk i_
    have Z1 := Aside0.mk z_
    obtain ⟨B1_, d1_, e_⟩ := Kd.R_slice ho
    subst e_
    clear ho hb i_ z_
    refine hK.out _ _ ⟨BK2.out, BK3.out⟩ (fun hHeld => ?_)
    clear hK K
    refine norm_ (a' := ?_) ?_ ?_
    rotate_left; (show Act.put _ (some 29) _ = _; simp only [Act.put, sq1, sq2, sq3, i64_w, i32_w]; rfl)
    refine two_ (i := 3) (j := 8) (Ni := some 31) (Nj := some 6) #[true, true, true, true, false, false, false, false, false, false, false] #[true, true, true, false, false, false, false, false, true, false, false] rfl rfl rfl rfl (by kernel_rfl) (by decide) (by decide) (fun K hK => ?_) (fun K hK => ?_)
    ·refine goes_ Try.func8 (by kernel_rfl) rfl #[.agg #[.int .i64 y.f0, .int .i64 y.f1, .string y.f2, .slice A2 y.f3.length c2]] (by rfl) rfl rfl (by (try simp only [sm1, sm2, sm3]); first | done | rfl) ?_
     with_reducible refine (laws_toPattern.calls ky y.f0 y.f1 y.f2 A2 c2 y.f3 py.f0 py.f1 py.f2 py.f3 _ ?side1 LY3.out HTY.out).mono ?_
     (case side1 => exact Kd.C_below HY3.out HB.out)
     rintro e wc ⟨v2, rfl, ho, hb⟩
     refine ⟨_, rfl, ?_⟩
     obtain ⟨p2, q2, i_, z_⟩ : ∃ p q, Go.Proofs.Ytomakpfmghekfaa.RowLaw.IR k30 30 wc p q v2 py.f3 ∧ q ≤ wc.heap.size := ⟨_, _, Go.Proofs.Ytomakpfmghekfaa.RowLaw.IR.of ho, Nat.le_refl _⟩
     have n0_ := Aside0.mk (below_step HB.out hb)
     have n1_ := Aside0.mk (blk_below BK2.out hb)
     have n2_ := Aside0.mk (blk_below BK3.out hb)
     have n3_ := Aside0.mk (Nat.le_trans ZL.out (Below.size hb))
     have n4_ := Aside0.mk (Go.Proofs.Ytomakpfmghekfaa.RowLaw.IR.below I1.out hb)
     have n5_ := Aside0.mk (Nat.le_trans Z1.out (Below.size hb))
     clear HB BK2 BK3 ZL I1 Z1
     have HB := n0_
     have BK2 := n1_
     have BK3 := n2_
     have ZL := n3_
     have I1 := n4_
     have Z1 := n5_
     clear n0_ n1_ n2_ n3_ n4_ n5_
     have I2 := Aside0.mk i_
     have Z2 := Aside0.mk z_
     obtain ⟨B2_, d2_, e_⟩ := Kd.R_slice ho
     subst e_
     clear ho hb i_ z_
     refine hK.out _ _ ⟨BK2.out, BK3.out⟩ (fun hHeld => ?_)
     clear hK K
     refine norm_ (a' := ?_) ?_ ?_
     rotate_left; (show Act.put _ (some 31) _ = _; simp only [Act.put, sq1, sq2, sq3, i64_w, i32_w]; rfl)
     refine two_ (i := 4) (j := 8) (Ni := some 32) (Nj := some 6) #[true, true, true, true, true, false, false, false, false, false, false] #[true, true, true, true, false, false, false, false, true, false, false] rfl rfl rfl rfl (by kernel_rfl) (by decide) (by decide) (fun K hK => ?_) (fun K hK => ?_)
     ·refine goes_ Try.func18 (by kernel_rfl) rfl #[.agg #[.int .i64 px.f0, .int .i64 px.f1, .string px.f2, .slice B1_ px.f3.length d1_], .agg #[.int .i64 py.f0, .int .i64 py.f1, .string py.f2, .slice B2_ py.f3.length d2_]] (by rfl) rfl rfl (by (try simp only [sm1, sm2, sm3]); first | done | rfl) ?_
      with_reducible refine (spec_jp px py FX.out FY.out HCC.out B1_ d1_ (fun k => p1 ≤ k ∧ k < q1) B2_ d2_ (fun k => p2 ≤ k ∧ k < q2) _ ?side1 ?side2 ?side3).mono ?_
      (case side1 => exact T.of_R _ _ (Nat.le_refl _) _ I1.out)
      (case side2 => exact T.of_R _ _ (Nat.le_refl _) _ I2.out)
      (case side3 => exact fun k hk => hk.elim (fun h => Nat.lt_of_lt_of_le h.2 Z1.out) (fun h => Nat.lt_of_lt_of_le h.2 Z2.out))
      rintro e wc ⟨v6, he, ho, hb⟩; rw [HSX.out, HSB.out] at he; rw [HSX.out] at ho; subst he
      refine ⟨_, rfl, ?_⟩
      obtain ⟨p6, q6, i_, z_⟩ : ∃ p q, Go.Proofs.Ytomakpfmghekfaa.RowLaw.IR k30 30 wc p q v6 sx.f3 ∧ q ≤ wc.heap.size := ⟨_, _, Go.Proofs.Ytomakpfmghekfaa.RowLaw.IR.of ho, Nat.le_refl _⟩
      have n0_ := Aside0.mk (below_step HB.out hb)
      have n1_ := Aside0.mk (blk_below BK2.out hb)
      have n2_ := Aside0.mk (blk_below BK3.out hb)
      have n3_ := Aside0.mk (Nat.le_trans ZL.out (Below.size hb))
      clear HB BK2 BK3 ZL
      have HB := n0_
      have BK2 := n1_
      have BK3 := n2_
      have ZL := n3_
      clear n0_ n1_ n2_ n3_
      have I6 := Aside0.mk i_
      have Z6 := Aside0.mk z_
      obtain ⟨A6, c6, e_⟩ := Kd.R_slice ho
      subst e_
      clear ho hb i_ z_ I1 Z1 I2 Z2
      refine hK.out _ _ ⟨BK2.out, BK3.out⟩ (fun hHeld => ?_)
      clear hK K
      refine norm_ (a' := ?_) ?_ ?_
      rotate_left; (show Act.put _ (some 32) _ = _; simp only [Act.put, sq1, sq2, sq3, i64_w, i32_w]; rfl)
      refine pure_ (i := 5) (N := some 27) (v := ?_) (a' := ?_) #[true, true, true, true, true, true, false, false, false, false, false] rfl rfl (by kernel_rfl) (fun _ _ _ h => h) (Or.inl ⟨by rfl, ?_⟩) ?_ ?_
      rotate_left; (intro w'; go_simp; with_reducible rfl)
      rotate_left; (simp only [Act.put, sq1, sq2, sq3, i64_w, i32_w]; rfl)
      refine pure_ (i := 6) (N := some 33) (v := ?_) (a' := ?_) #[true, true, true, true, true, true, true, false, false, false, false] rfl rfl (by kernel_rfl) (fun _ _ _ h => h) (Or.inl ⟨by rfl, ?_⟩) ?_ ?_
      rotate_left; (intro w'; go_simp; with_reducible rfl)
      rotate_left; (simp only [Act.put, sq1, sq2, sq3, i64_w, i32_w]; rfl)
      refine pure_ (i := 7) (N := some 34) (v := ?_) (a' := ?_) #[true, true, true, true, true, true, true, true, false, false, false] rfl rfl (by kernel_rfl) (fun _ _ _ h => h) (Or.inl ⟨by rfl, ?_⟩) ?_ ?_
      rotate_left; (intro w'; go_simp; with_reducible rfl)
      rotate_left; (simp only [Act.put, sq1, sq2, sq3, i64_w, i32_w]; rfl)
      refine one_ (i := 8) (N := some 6) #[true, true, true, true, true, true, true, true, true, false, false] rfl rfl (by kernel_rfl) (by decide) (fun K hK => ?_)
      refine new_step 30 [.int .i64 0, .int .i64 0, .string (⟨#[]⟩ : ByteArray), .slice none 0 0] (fun m => .pointer (some ⟨m, 0, none⟩)) rfl rfl ?hr ?_
      (case hr => first | (go_simp; done) | (go_simp; rfl))
      intro wn g6 hm hn hb
      have BN := Aside0.mk hn
      have GE := Aside0.mk (show w.heap.size ≤ g6 ∧ L0 ≤ g6 from by have := HB.out.size; have := ZL.out; omega)
      have NE6 := Aside0.mk (show ∀ k, p6 ≤ k → k < q6 → k ≠ g6 from fun k _ hk he => absurd Z6.out (by omega))
      have n0_ := Aside0.mk (below_step HB.out hb)
      have n1_ := Aside0.mk (blk_below BK2.out hb)
      have n2_ := Aside0.mk (blk_below BK3.out hb)
      have n3_ := Aside0.mk (Nat.le_trans ZL.out (Below.size hb))
      have n4_ := Aside0.mk (Go.Proofs.Ytomakpfmghekfaa.RowLaw.IR.below I6.out hb)
      have n5_ := Aside0.mk (Nat.le_trans Z6.out (Below.size hb))
      clear HB BK2 BK3 ZL I6 Z6
      have HB := n0_
      have BK2 := n1_
      have BK3 := n2_
      have ZL := n3_
      have I6 := n4_
      have Z6 := n5_
      clear n0_ n1_ n2_ n3_ n4_ n5_
      have BK6 := BN
      clear BN
      clear hm hn hb
      refine hK.out _ _ ⟨BK2.out, BK3.out⟩ (fun hHeld => ?_)
      clear hK K
      refine norm_ (a' := ?_) ?_ ?_
      rotate_left; (show Act.put _ (some 6) _ = _; simp only [Act.put, sq1, sq2, sq3, i64_w, i32_w]; rfl)
      have hq := hJ (.agg #[.int .i64 px.f0, .int .i64 px.f1, .string px.f2, .slice B1_ px.f3.length d1_], .agg #[.int .i64 py.f0, .int .i64 py.f1, .string py.f2, .slice B2_ py.f3.length d2_], A6, c6, g6, p6, q6) _ ⟨HB, BK2, BK3, BK6, GE, I6, Z6, NE6⟩
      simp only [putAll, Act.put, sq1, sq2, sq3, i64_w, i32_w] at hq
      exact hq
     ·refine new_step 30 [.int .i64 0, .int .i64 0, .string (⟨#[]⟩ : ByteArray), .slice none 0 0] (fun m => .pointer (some ⟨m, 0, none⟩)) rfl rfl ?hr ?_
      (case hr => first | (go_simp; done) | (go_simp; rfl))
      intro wn g6 hm hn hb
      have BN := Aside0.mk hn
      have GE := Aside0.mk (show w.heap.size ≤ g6 ∧ L0 ≤ g6 from by have := HB.out.size; have := ZL.out; omega)
      have n0_ := Aside0.mk (below_step HB.out hb)
      have n1_ := Aside0.mk (blk_below BK2.out hb)
      have n2_ := Aside0.mk (blk_below BK3.out hb)
      have n3_ := Aside0.mk (Nat.le_trans ZL.out (Below.size hb))
      have n4_ := Aside0.mk (Go.Proofs.Ytomakpfmghekfaa.RowLaw.IR.below I1.out hb)
      have n5_ := Aside0.mk (Nat.le_trans Z1.out (Below.size hb))
      have n6_ := Aside0.mk (Go.Proofs.Ytomakpfmghekfaa.RowLaw.IR.below I2.out hb)
      have n7_ := Aside0.mk (Nat.le_trans Z2.out (Below.size hb))
      clear HB BK2 BK3 ZL I1 Z1 I2 Z2
      have HB := n0_
      have BK2 := n1_
      have BK3 := n2_
      have ZL := n3_
      have I1 := n4_
      have Z1 := n5_
      have I2 := n6_
      have Z2 := n7_
      clear n0_ n1_ n2_ n3_ n4_ n5_ n6_ n7_
      have BK6 := BN
      clear BN
      clear hm hn hb
      refine hK.out _ _ ⟨BK2.out, BK3.out⟩ (fun hHeld => ?_)
      clear hK K
      refine norm_ (a' := ?_) ?_ ?_
      rotate_left; (show Act.put _ (some 6) _ = _; simp only [Act.put, sq1, sq2, sq3, i64_w, i32_w]; rfl)
      refine one_ (i := 4) (N := some 32) #[true, true, true, true, true, false, false, false, true, false, false] rfl rfl (by kernel_rfl) (by decide) (fun K hK => ?_)
      refine goes_ Try.func18 (by kernel_rfl) rfl #[.agg #[.int .i64 px.f0, .int .i64 px.f1, .string px.f2, .slice B1_ px.f3.length d1_], .agg #[.int .i64 py.f0, .int .i64 py.f1, .string py.f2, .slice B2_ py.f3.length d2_]] (by rfl) rfl rfl (by (try simp only [sm1, sm2, sm3]); first | done | rfl) ?_
      with_reducible refine (spec_jp px py FX.out FY.out HCC.out B1_ d1_ (fun k => p1 ≤ k ∧ k < q1) B2_ d2_ (fun k => p2 ≤ k ∧ k < q2) _ ?side1 ?side2 ?side3).mono ?_
      (case side1 => exact T.of_R _ _ (Nat.le_refl _) _ I1.out)
      (case side2 => exact T.of_R _ _ (Nat.le_refl _) _ I2.out)
      (case side3 => exact fun k hk => hk.elim (fun h => Nat.lt_of_lt_of_le h.2 Z1.out) (fun h => Nat.lt_of_lt_of_le h.2 Z2.out))
      rintro e wc ⟨v6, he, ho, hb⟩; rw [HSX.out, HSB.out] at he; rw [HSX.out] at ho; subst he
      refine ⟨_, rfl, ?_⟩
      obtain ⟨p6, q6, i_, z_, y_⟩ : ∃ p q, Go.Proofs.Ytomakpfmghekfaa.RowLaw.IR k30 30 wc p q v6 sx.f3 ∧ q ≤ wc.heap.size ∧ ∀ k, p ≤ k → k < q → k ≠ g6 := ⟨_, _, Go.Proofs.Ytomakpfmghekfaa.RowLaw.IR.of ho, Nat.le_refl _, fun k hk _ he => absurd (blk_lt BK6.out) (by omega)⟩
      have n0_ := Aside0.mk (below_step HB.out hb)
      have n1_ := Aside0.mk (blk_below BK2.out hb)
      have n2_ := Aside0.mk (blk_below BK3.out hb)
      have n3_ := Aside0.mk (Nat.le_trans ZL.out (Below.size hb))
      have n4_ := Aside0.mk (blk_below BK6.out hb)
      clear HB BK2 BK3 ZL BK6
      have HB := n0_
      have BK2 := n1_
      have BK3 := n2_
      have ZL := n3_
      have BK6 := n4_
      clear n0_ n1_ n2_ n3_ n4_
      have I6 := Aside0.mk i_
      have Z6 := Aside0.mk z_
      have NE6 := Aside0.mk y_
      clear y_
      obtain ⟨A6, c6, e_⟩ := Kd.R_slice ho
      subst e_
      clear ho hb i_ z_ I1 Z1 I2 Z2
      refine hK.out _ _ ⟨BK2.out, BK3.out⟩ (fun hHeld => ?_)
      clear hK K
      refine norm_ (a' := ?_) ?_ ?_
      rotate_left; (show Act.put _ (some 32) _ = _; simp only [Act.put, sq1, sq2, sq3, i64_w, i32_w]; rfl)
      refine pure_ (i := 5) (N := some 27) (v := ?_) (a' := ?_) #[true, true, true, true, true, true, false, false, true, false, false] rfl rfl (by kernel_rfl) (fun _ _ _ h => h) (Or.inl ⟨by rfl, ?_⟩) ?_ ?_
      rotate_left; (intro w'; go_simp; with_reducible rfl)
      rotate_left; (simp only [Act.put, sq1, sq2, sq3, i64_w, i32_w]; rfl)
      refine pure_ (i := 6) (N := some 33) (v := ?_) (a' := ?_) #[true, true, true, true, true, true, true, false, true, false, false] rfl rfl (by kernel_rfl) (fun _ _ _ h => h) (Or.inl ⟨by rfl, ?_⟩) ?_ ?_
      rotate_left; (intro w'; go_simp; with_reducible rfl)
      rotate_left; (simp only [Act.put, sq1, sq2, sq3, i64_w, i32_w]; rfl)
      refine pure_ (i := 7) (N := some 34) (v := ?_) (a' := ?_) #[true, true, true, true, true, true, true, true, true, false, false] rfl rfl (by kernel_rfl) (fun _ _ _ h => h) (Or.inl ⟨by rfl, ?_⟩) ?_ ?_
      rotate_left; (intro w'; go_simp; with_reducible rfl)
      rotate_left; (simp only [Act.put, sq1, sq2, sq3, i64_w, i32_w]; rfl)
      have hq := hJ (.agg #[.int .i64 px.f0, .int .i64 px.f1, .string px.f2, .slice B1_ px.f3.length d1_], .agg #[.int .i64 py.f0, .int .i64 py.f1, .string py.f2, .slice B2_ py.f3.length d2_], A6, c6, g6, p6, q6) _ ⟨HB, BK2, BK3, BK6, GE, I6, Z6, NE6⟩
      simp only [putAll, Act.put, sq1, sq2, sq3, i64_w, i32_w] at hq
      exact hq
    ·refine new_step 30 [.int .i64 0, .int .i64 0, .string (⟨#[]⟩ : ByteArray), .slice none 0 0] (fun m => .pointer (some ⟨m, 0, none⟩)) rfl rfl ?hr ?_
     (case hr => first | (go_simp; done) | (go_simp; rfl))
     intro wn g6 hm hn hb
     have BN := Aside0.mk hn
     have GE := Aside0.mk (show w.heap.size ≤ g6 ∧ L0 ≤ g6 from by have := HB.out.size; have := ZL.out; omega)
     have n0_ := Aside0.mk (below_step HB.out hb)
     have n1_ := Aside0.mk (blk_below BK2.out hb)
     have n2_ := Aside0.mk (blk_below BK3.out hb)
     have n3_ := Aside0.mk (Nat.le_trans ZL.out (Below.size hb))
     have n4_ := Aside0.mk (Go.Proofs.Ytomakpfmghekfaa.RowLaw.IR.below I1.out hb)
     have n5_ := Aside0.mk (Nat.le_trans Z1.out (Below.size hb))
     clear HB BK2 BK3 ZL I1 Z1
     have HB := n0_
     have BK2 := n1_
     have BK3 := n2_
     have ZL := n3_
     have I1 := n4_
     have Z1 := n5_
     clear n0_ n1_ n2_ n3_ n4_ n5_
     have BK6 := BN
     clear BN
     clear hm hn hb
     refine hK.out _ _ ⟨BK2.out, BK3.out⟩ (fun hHeld => ?_)
     clear hK K
     refine norm_ (a' := ?_) ?_ ?_
     rotate_left; (show Act.put _ (some 6) _ = _; simp only [Act.put, sq1, sq2, sq3, i64_w, i32_w]; rfl)
     refine one_ (i := 3) (N := some 31) #[true, true, true, true, false, false, false, false, true, false, false] rfl rfl (by kernel_rfl) (by decide) (fun K hK => ?_)
     refine goes_ Try.func8 (by kernel_rfl) rfl #[.agg #[.int .i64 y.f0, .int .i64 y.f1, .string y.f2, .slice A2 y.f3.length c2]] (by rfl) rfl rfl (by (try simp only [sm1, sm2, sm3]); first | done | rfl) ?_
     with_reducible refine (laws_toPattern.calls ky y.f0 y.f1 y.f2 A2 c2 y.f3 py.f0 py.f1 py.f2 py.f3 _ ?side1 LY3.out HTY.out).mono ?_
     (case side1 => exact Kd.C_below HY3.out HB.out)
     rintro e wc ⟨v2, rfl, ho, hb⟩
     refine ⟨_, rfl, ?_⟩
     obtain ⟨p2, q2, i_, z_⟩ : ∃ p q, Go.Proofs.Ytomakpfmghekfaa.RowLaw.IR k30 30 wc p q v2 py.f3 ∧ q ≤ wc.heap.size := ⟨_, _, Go.Proofs.Ytomakpfmghekfaa.RowLaw.IR.of ho, Nat.le_refl _⟩
     have n0_ := Aside0.mk (below_step HB.out hb)
     have n1_ := Aside0.mk (blk_below BK2.out hb)
     have n2_ := Aside0.mk (blk_below BK3.out hb)
     have n3_ := Aside0.mk (Nat.le_trans ZL.out (Below.size hb))
     have n4_ := Aside0.mk (blk_below BK6.out hb)
     have n5_ := Aside0.mk (Go.Proofs.Ytomakpfmghekfaa.RowLaw.IR.below I1.out hb)
     have n6_ := Aside0.mk (Nat.le_trans Z1.out (Below.size hb))
     clear HB BK2 BK3 ZL BK6 I1 Z1
     have HB := n0_
     have BK2 := n1_
     have BK3 := n2_
     have ZL := n3_
     have BK6 := n4_
     have I1 := n5_
     have Z1 := n6_
     clear n0_ n1_ n2_ n3_ n4_ n5_ n6_
     have I2 := Aside0.mk i_
     have Z2 := Aside0.mk z_
     obtain ⟨B2_, d2_, e_⟩ := Kd.R_slice ho
     subst e_
     clear ho hb i_ z_
     refine hK.out _ _ ⟨BK2.out, BK3.out⟩ (fun hHeld => ?_)
     clear hK K
     refine norm_ (a' := ?_) ?_ ?_
     rotate_left; (show Act.put _ (some 31) _ = _; simp only [Act.put, sq1, sq2, sq3, i64_w, i32_w]; rfl)
     refine one_ (i := 4) (N := some 32) #[true, true, true, true, true, false, false, false, true, false, false] rfl rfl (by kernel_rfl) (by decide) (fun K hK => ?_)
     refine goes_ Try.func18 (by kernel_rfl) rfl #[.agg #[.int .i64 px.f0, .int .i64 px.f1, .string px.f2, .slice B1_ px.f3.length d1_], .agg #[.int .i64 py.f0, .int .i64 py.f1, .string py.f2, .slice B2_ py.f3.length d2_]] (by rfl) rfl rfl (by (try simp only [sm1, sm2, sm3]); first | done | rfl) ?_
     with_reducible refine (spec_jp px py FX.out FY.out HCC.out B1_ d1_ (fun k => p1 ≤ k ∧ k < q1) B2_ d2_ (fun k => p2 ≤ k ∧ k < q2) _ ?side1 ?side2 ?side3).mono ?_
     (case side1 => exact T.of_R _ _ (Nat.le_refl _) _ I1.out)
     (case side2 => exact T.of_R _ _ (Nat.le_refl _) _ I2.out)
     (case side3 => exact fun k hk => hk.elim (fun h => Nat.lt_of_lt_of_le h.2 Z1.out) (fun h => Nat.lt_of_lt_of_le h.2 Z2.out))
     rintro e wc ⟨v6, he, ho, hb⟩; rw [HSX.out, HSB.out] at he; rw [HSX.out] at ho; subst he
     refine ⟨_, rfl, ?_⟩
     obtain ⟨p6, q6, i_, z_, y_⟩ : ∃ p q, Go.Proofs.Ytomakpfmghekfaa.RowLaw.IR k30 30 wc p q v6 sx.f3 ∧ q ≤ wc.heap.size ∧ ∀ k, p ≤ k → k < q → k ≠ g6 := ⟨_, _, Go.Proofs.Ytomakpfmghekfaa.RowLaw.IR.of ho, Nat.le_refl _, fun k hk _ he => absurd (blk_lt BK6.out) (by omega)⟩
     have n0_ := Aside0.mk (below_step HB.out hb)
     have n1_ := Aside0.mk (blk_below BK2.out hb)
     have n2_ := Aside0.mk (blk_below BK3.out hb)
     have n3_ := Aside0.mk (Nat.le_trans ZL.out (Below.size hb))
     have n4_ := Aside0.mk (blk_below BK6.out hb)
     clear HB BK2 BK3 ZL BK6
     have HB := n0_
     have BK2 := n1_
     have BK3 := n2_
     have ZL := n3_
     have BK6 := n4_
     clear n0_ n1_ n2_ n3_ n4_
     have I6 := Aside0.mk i_
     have Z6 := Aside0.mk z_
     have NE6 := Aside0.mk y_
     clear y_
     obtain ⟨A6, c6, e_⟩ := Kd.R_slice ho
     subst e_
     clear ho hb i_ z_ I1 Z1 I2 Z2
     refine hK.out _ _ ⟨BK2.out, BK3.out⟩ (fun hHeld => ?_)
     clear hK K
     refine norm_ (a' := ?_) ?_ ?_
     rotate_left; (show Act.put _ (some 32) _ = _; simp only [Act.put, sq1, sq2, sq3, i64_w, i32_w]; rfl)
     refine pure_ (i := 5) (N := some 27) (v := ?_) (a' := ?_) #[true, true, true, true, true, true, false, false, true, false, false] rfl rfl (by kernel_rfl) (fun _ _ _ h => h) (Or.inl ⟨by rfl, ?_⟩) ?_ ?_
     rotate_left; (intro w'; go_simp; with_reducible rfl)
     rotate_left; (simp only [Act.put, sq1, sq2, sq3, i64_w, i32_w]; rfl)
     refine pure_ (i := 6) (N := some 33) (v := ?_) (a' := ?_) #[true, true, true, true, true, true, true, false, true, false, false] rfl rfl (by kernel_rfl) (fun _ _ _ h => h) (Or.inl ⟨by rfl, ?_⟩) ?_ ?_
     rotate_left; (intro w'; go_simp; with_reducible rfl)
     rotate_left; (simp only [Act.put, sq1, sq2, sq3, i64_w, i32_w]; rfl)
     refine pure_ (i := 7) (N := some 34) (v := ?_) (a' := ?_) #[true, true, true, true, true, true, true, true, true, false, false] rfl rfl (by kernel_rfl) (fun _ _ _ h => h) (Or.inl ⟨by rfl, ?_⟩) ?_ ?_
     rotate_left; (intro w'; go_simp; with_reducible rfl)
     rotate_left; (simp only [Act.put, sq1, sq2, sq3, i64_w, i32_w]; rfl)
     have hq := hJ (.agg #[.int .i64 px.f0, .int .i64 px.f1, .string px.f2, .slice B1_ px.f3.length d1_], .agg #[.int .i64 py.f0, .int .i64 py.f1, .string py.f2, .slice B2_ py.f3.length d2_], A6, c6, g6, p6, q6) _ ⟨HB, BK2, BK3, BK6, GE, I6, Z6, NE6⟩
     simp only [putAll, Act.put, sq1, sq2, sq3, i64_w, i32_w] at hq
     exact hq
   ·refine new_step 30 [.int .i64 0, .int .i64 0, .string (⟨#[]⟩ : ByteArray), .slice none 0 0] (fun m => .pointer (some ⟨m, 0, none⟩)) rfl rfl ?hr ?_
    (case hr => first | (go_simp; done) | (go_simp; rfl))
    intro wn g6 hm hn hb
    have BN := Aside0.mk hn
    have GE := Aside0.mk (show w.heap.size ≤ g6 ∧ L0 ≤ g6 from by have := HB.out.size; have := ZL.out; omega)
    have n0_ := Aside0.mk (below_step HB.out hb)
    have n1_ := Aside0.mk (blk_below BK2.out hb)
    have n2_ := Aside0.mk (blk_below BK3.out hb)
    have n3_ := Aside0.mk (Nat.le_trans ZL.out (Below.size hb))
    clear HB BK2 BK3 ZL
    have HB := n0_
    have BK2 := n1_
    have BK3 := n2_
    have ZL := n3_
    clear n0_ n1_ n2_ n3_
    have BK6 := BN
    clear BN
    clear hm hn hb
    refine hK.out _ _ ⟨BK2.out, BK3.out⟩ (fun hHeld => ?_)
    clear hK K
    refine norm_ (a' := ?_) ?_ ?_
    rotate_left; (show Act.put _ (some 6) _ = _; simp only [Act.put, sq1, sq2, sq3, i64_w, i32_w]; rfl)
    refine one_ (i := 1) (N := some 29) #[true, true, true, false, false, false, false, false, true, false, false] rfl rfl (by kernel_rfl) (by decide) (fun K hK => ?_)
    refine goes_ Try.func8 (by kernel_rfl) rfl #[.agg #[.int .i64 x.f0, .int .i64 x.f1, .string x.f2, .slice A1 x.f3.length c1]] (by rfl) rfl rfl (by (try simp only [sm1, sm2, sm3]); first | done | rfl) ?_
    with_reducible refine (laws_toPattern.calls kx x.f0 x.f1 x.f2 A1 c1 x.f3 px.f0 px.f1 px.f2 px.f3 _ ?side1 LX3.out HTX.out).mono ?_
    (case side1 => exact Kd.C_below HX3.out HB.out)
    rintro e wc ⟨v1, rfl, ho, hb⟩
    refine ⟨_, rfl, ?_⟩
    obtain ⟨p1, q1, i_, z_⟩ : ∃ p q, Go.Proofs.Ytomakpfmghekfaa.RowLaw.IR k30 30 wc p q v1 px.f3 ∧ q ≤ wc.heap.size := ⟨_, _, Go.Proofs.Ytomakpfmghekfaa.RowLaw.IR.of ho, Nat.le_refl _⟩
    have n0_ := Aside0.mk (below_step HB.out hb)
    have n1_ := Aside0.mk (blk_below BK2.out hb)
    have n2_ := Aside0.mk (blk_below BK3.out hb)
    have n3_ := Aside0.mk (Nat.le_trans ZL.out (Below.size hb))
    have n4_ := Aside0.mk (blk_below BK6.out hb)
    clear HB BK2 BK3 ZL BK6
    have HB := n0_
    have BK2 := n1_
    have BK3 := n2_
    have ZL := n3_
    have BK6 := n4_
    clear n0_ n1_ n2_ n3_ n4_
    have I1 := Aside0.mk i_
    have Z1 := Aside0.mk z_
    obtain ⟨B1_, d1_, e_⟩ := Kd.R_slice ho
    subst e_
    clear ho hb i_ z_
    refine hK.out _ _ ⟨BK2.out, BK3.out⟩ (fun hHeld => ?_)
    clear hK K
    refine norm_ (a' := ?_) ?_ ?_
    rotate_left; (show Act.put _ (some 29) _ = _; simp only [Act.put, sq1, sq2, sq3, i64_w, i32_w]; rfl)
    refine one_ (i := 3) (N := some 31) #[true, true, true, true, false, false, false, false, true, false, false] rfl rfl (by kernel_rfl) (by decide) (fun K hK => ?_)
    refine goes_ Try.func8 (by kernel_rfl) rfl #[.agg #[.int .i64 y.f0, .int .i64 y.f1, .string y.f2, .slice A2 y.f3.length c2]] (by rfl) rfl rfl (by (try simp only [sm1, sm2, sm3]); first | done | rfl) ?_
    with_reducible refine (laws_toPattern.calls ky y.f0 y.f1 y.f2 A2 c2 y.f3 py.f0 py.f1 py.f2 py.f3 _ ?side1 LY3.out HTY.out).mono ?_
    (case side1 => exact Kd.C_below HY3.out HB.out)
    rintro e wc ⟨v2, rfl, ho, hb⟩
    refine ⟨_, rfl, ?_⟩
    obtain ⟨p2, q2, i_, z_⟩ : ∃ p q, Go.Proofs.Ytomakpfmghekfaa.RowLaw.IR k30 30 wc p q v2 py.f3 ∧ q ≤ wc.heap.size := ⟨_, _, Go.Proofs.Ytomakpfmghekfaa.RowLaw.IR.of ho, Nat.le_refl _⟩
    have n0_ := Aside0.mk (below_step HB.out hb)
    have n1_ := Aside0.mk (blk_below BK2.out hb)
    have n2_ := Aside0.mk (blk_below BK3.out hb)
    have n3_ := Aside0.mk (Nat.le_trans ZL.out (Below.size hb))
    have n4_ := Aside0.mk (blk_below BK6.out hb)
    have n5_ := Aside0.mk (Go.Proofs.Ytomakpfmghekfaa.RowLaw.IR.below I1.out hb)
    have n6_ := Aside0.mk (Nat.le_trans Z1.out (Below.size hb))
    clear HB BK2 BK3 ZL BK6 I1 Z1
    have HB := n0_
    have BK2 := n1_
    have BK3 := n2_
    have ZL := n3_
    have BK6 := n4_
    have I1 := n5_
    have Z1 := n6_
    clear n0_ n1_ n2_ n3_ n4_ n5_ n6_
    have I2 := Aside0.mk i_
    have Z2 := Aside0.mk z_
    obtain ⟨B2_, d2_, e_⟩ := Kd.R_slice ho
    subst e_
    clear ho hb i_ z_
    refine hK.out _ _ ⟨BK2.out, BK3.out⟩ (fun hHeld => ?_)
    clear hK K
    refine norm_ (a' := ?_) ?_ ?_
    rotate_left; (show Act.put _ (some 31) _ = _; simp only [Act.put, sq1, sq2, sq3, i64_w, i32_w]; rfl)
    refine one_ (i := 4) (N := some 32) #[true, true, true, true, true, false, false, false, true, false, false] rfl rfl (by kernel_rfl) (by decide) (fun K hK => ?_)
    refine goes_ Try.func18 (by kernel_rfl) rfl #[.agg #[.int .i64 px.f0, .int .i64 px.f1, .string px.f2, .slice B1_ px.f3.length d1_], .agg #[.int .i64 py.f0, .int .i64 py.f1, .string py.f2, .slice B2_ py.f3.length d2_]] (by rfl) rfl rfl (by (try simp only [sm1, sm2, sm3]); first | done | rfl) ?_
    with_reducible refine (spec_jp px py FX.out FY.out HCC.out B1_ d1_ (fun k => p1 ≤ k ∧ k < q1) B2_ d2_ (fun k => p2 ≤ k ∧ k < q2) _ ?side1 ?side2 ?side3).mono ?_
    (case side1 => exact T.of_R _ _ (Nat.le_refl _) _ I1.out)
    (case side2 => exact T.of_R _ _ (Nat.le_refl _) _ I2.out)
    (case side3 => exact fun k hk => hk.elim (fun h => Nat.lt_of_lt_of_le h.2 Z1.out) (fun h => Nat.lt_of_lt_of_le h.2 Z2.out))
    rintro e wc ⟨v6, he, ho, hb⟩; rw [HSX.out, HSB.out] at he; rw [HSX.out] at ho; subst he
    refine ⟨_, rfl, ?_⟩
    obtain ⟨p6, q6, i_, z_, y_⟩ : ∃ p q, Go.Proofs.Ytomakpfmghekfaa.RowLaw.IR k30 30 wc p q v6 sx.f3 ∧ q ≤ wc.heap.size ∧ ∀ k, p ≤ k → k < q → k ≠ g6 := ⟨_, _, Go.Proofs.Ytomakpfmghekfaa.RowLaw.IR.of ho, Nat.le_refl _, fun k hk _ he => absurd (blk_lt BK6.out) (by omega)⟩
    have n0_ := Aside0.mk (below_step HB.out hb)
    have n1_ := Aside0.mk (blk_below BK2.out hb)
    have n2_ := Aside0.mk (blk_below BK3.out hb)
    have n3_ := Aside0.mk (Nat.le_trans ZL.out (Below.size hb))
    have n4_ := Aside0.mk (blk_below BK6.out hb)
    clear HB BK2 BK3 ZL BK6
    have HB := n0_
    have BK2 := n1_
    have BK3 := n2_
    have ZL := n3_
    have BK6 := n4_
    clear n0_ n1_ n2_ n3_ n4_
    have I6 := Aside0.mk i_
    have Z6 := Aside0.mk z_
    have NE6 := Aside0.mk y_
    clear y_
    obtain ⟨A6, c6, e_⟩ := Kd.R_slice ho
    subst e_
    clear ho hb i_ z_ I1 Z1 I2 Z2
    refine hK.out _ _ ⟨BK2.out, BK3.out⟩ (fun hHeld => ?_)
    clear hK K
    refine norm_ (a' := ?_) ?_ ?_
    rotate_left; (show Act.put _ (some 32) _ = _; simp only [Act.put, sq1, sq2, sq3, i64_w, i32_w]; rfl)
    refine pure_ (i := 5) (N := some 27) (v := ?_) (a' := ?_) #[true, true, true, true, true, true, false, false, true, false, false] rfl rfl (by kernel_rfl) (fun _ _ _ h => h) (Or.inl ⟨by rfl, ?_⟩) ?_ ?_
    rotate_left; (intro w'; go_simp; with_reducible rfl)
    rotate_left; (simp only [Act.put, sq1, sq2, sq3, i64_w, i32_w]; rfl)
    refine pure_ (i := 6) (N := some 33) (v := ?_) (a' := ?_) #[true, true, true, true, true, true, true, false, true, false, false] rfl rfl (by kernel_rfl) (fun _ _ _ h => h) (Or.inl ⟨by rfl, ?_⟩) ?_ ?_
    rotate_left; (intro w'; go_simp; with_reducible rfl)
    rotate_left; (simp only [Act.put, sq1, sq2, sq3, i64_w, i32_w]; rfl)
    refine pure_ (i := 7) (N := some 34) (v := ?_) (a' := ?_) #[true, true, true, true, true, true, true, true, true, false, false] rfl rfl (by kernel_rfl) (fun _ _ _ h => h) (Or.inl ⟨by rfl, ?_⟩) ?_ ?_
    rotate_left; (intro w'; go_simp; with_reducible rfl)
    rotate_left; (simp only [Act.put, sq1, sq2, sq3, i64_w, i32_w]; rfl)
    have hq := hJ (.agg #[.int .i64 px.f0, .int .i64 px.f1, .string px.f2, .slice B1_ px.f3.length d1_], .agg #[.int .i64 py.f0, .int .i64 py.f1, .string py.f2, .slice B2_ py.f3.length d2_], A6, c6, g6, p6, q6) _ ⟨HB, BK2, BK3, BK6, GE, I6, Z6, NE6⟩
    simp only [putAll, Act.put, sq1, sq2, sq3, i64_w, i32_w] at hq
    exact hq
  rintro ⟨u1, u2, A6, c6, g6, p6, q6⟩ w' ⟨HB, BK2, BK3, BKn, GE, I6, Z6, NE6⟩
  refine norm_ (a' := ?_) ?_ ?_
  rotate_left; (simp only [putAll, Act.put, sq1, sq2, sq3, i64_w, i32_w]; rfl)
  refine one_ (i := 9) (N := none) #[true, true, true, true, true, true, true, true, true, true, false] rfl rfl (by kernel_rfl) (by decide) (fun K hK => ?_)
  refine put_step rfl rfl 30 _ _ rfl g6 0 (.agg #[.int .i64 sx.f0, .int .i64 sx.f1, .string sx.f2, .slice A6 sx.f3.length c6]) rfl rfl [.int .i64 sx.f0, .int .i64 sx.f1, .string sx.f2, .slice A6 sx.f3.length c6] rfl 30 _ #[.int .i64 sx.f0, .int .i64 sx.f1, .string sx.f2, .slice A6 sx.f3.length c6] BKn.out HIP.out (Nat.le_of_ble_eq_true rfl) rfl rfl ?_
  intro w9 hk hoth hbel hz
  have n0_ := Aside0.mk ((hoth g2 (by have := LA.out; have := GE.out.2; omega)).trans BK2.out)
  have n1_ := Aside0.mk ((hoth g3 (by have := LB.out; have := GE.out.2; omega)).trans BK3.out)
  have n2_ := Aside0.mk (Kd.R_move I6.out (fun k hk => hoth k (NE6.out k hk.1 hk.2)))
  have n3_ := Aside0.mk (Nat.le_trans Z6.out (Nat.le_of_eq hz.symm))
  have q_ := Aside0.mk (hbel _ _ HB.out GE.out.1)
  clear HB BKn NE6 ZL LW BK2 BK3 I6 Z6 LA LB
  have HB := q_
  have BK2 := n0_
  have BK3 := n1_
  have I6 := n2_
  have Z6 := n3_
  have BK6 := Aside0.mk hk
  clear q_ hk hoth hbel hz GE n0_ n1_ n2_ n3_
  refine hK.out _ _ ⟨BK2.out, BK3.out⟩ (fun hHeld => ?_)
  clear hK K
  refine pure_ (i := 10) (N := some 7) (v := ?_) (a' := ?_) #[true, true, true, true, true, true, true, true, true, true, true] rfl rfl (by kernel_rfl) (fun _ _ _ h => h) (Or.inl ⟨by rfl, ?_⟩) ?_ ?_
  rotate_left; (intro w'; go_simp; with_reducible rfl)
  rotate_left; (simp only [Act.put, sq1, sq2, sq3, i64_w, i32_w]; rfl)
  refine done_ (by kernel_rfl) ?_
  go_wp2_with (first | ((with_reducible refine gate_dst (N := 35) rfl ?_); refine wpList_load_row rfl 24 _ rfl g2 rfl 24 #[.int .i64 x.f0, .int .i64 x.f1, .string x.f2, .slice A1 x.f3.length c1] (0, 0) _ BK2.out huQ rfl HIQ.out ?_; (try simp only [Act.put, sq1, sq2, sq3])) | ((with_reducible refine gate_dst (N := 37) rfl ?_); refine wpList_load_row rfl 24 _ rfl g3 rfl 24 #[.int .i64 y.f0, .int .i64 y.f1, .string y.f2, .slice A2 y.f3.length c2] (0, 0) _ BK3.out huQ rfl HIQ.out ?_; (try simp only [Act.put, sq1, sq2, sq3])) | ((with_reducible refine gate_dst (N := 40) rfl ?_); refine wpList_load_row rfl 30 _ rfl g8 rfl 30 #[.int .i64 px.f0, .int .i64 px.f1, .string px.f2, .slice A8 px.f3.length c8] (0, 0) _ BK8.out huP rfl HIP.out ?_; (try simp only [Act.put, sq1, sq2, sq3])) | ((with_reducible refine gate_dst (N := 41) rfl ?_); refine wpList_load_row rfl 30 _ rfl g9 rfl 30 #[.int .i64 py.f0, .int .i64 py.f1, .string py.f2, .slice A9 py.f3.length c9] (0, 0) _ BK9.out huP rfl HIP.out ?_; (try simp only [Act.put, sq1, sq2, sq3])) | ((with_reducible refine gate_dst (N := 45) rfl ?_); refine wpList_load_row rfl 30 _ rfl g10 rfl 30 #[.int .i64 sx.f0, .int .i64 sx.f1, .string sx.f2, .slice A10 sx.f3.length c10] (0, 0) _ BK10.out huP rfl HIP.out ?_; (try simp only [Act.put, sq1, sq2, sq3])) | ((with_reducible refine gate_dst (N := 46) rfl ?_); refine wpList_load_row rfl 30 _ rfl g6 rfl 30 #[.int .i64 sx.f0, .int .i64 sx.f1, .string sx.f2, .slice A6 sx.f3.length c6] (0, 0) _ BK6.out huP rfl HIP.out ?_; (try simp only [Act.put, sq1, sq2, sq3])) | ((with_reducible refine gate_callee (f := 8) rfl ?_); refine goesL_ (some 36) rfl rfl Try.func8 (by kernel_rfl) rfl #[.agg #[.int .i64 x.f0, .int .i64 x.f1, .string x.f2, .slice A1 x.f3.length c1]] rfl (by (try simp only [sm1, sm2, sm3]); first | done | rfl) ?_; refine (laws_toPattern.calls kx x.f0 x.f1 x.f2 A1 c1 x.f3 px.f0 px.f1 px.f2 px.f3 _ (Kd.C_below HX3.out HB.out) LX3.out HTX.out).mono ?_; rintro e wd ⟨v_, rfl, ho, hb⟩; refine ⟨_, rfl, ?_⟩; obtain ⟨p8, q8, i_, z_, M_⟩ : ∃ p q, Go.Proofs.Ytomakpfmghekfaa.RowLaw.IR k30 30 wd p q v_ px.f3 ∧ (q ≤ wd.heap.size ∧ p ≤ wd.heap.size) ∧ (w.heap.size ≤ p ∧ g2 < p ∧ g3 < p ∧ g6 < p ∧ q6 ≤ p) := ⟨_, _, Go.Proofs.Ytomakpfmghekfaa.RowLaw.IR.of ho, ⟨Nat.le_refl _, hb.size⟩, HB.out.size, blk_lt BK2.out, blk_lt BK3.out, blk_lt BK6.out, Z6.out⟩; have n0_ := Aside0.mk (below_step HB.out hb); have n1_ := Aside0.mk (blk_below BK2.out hb); have n2_ := Aside0.mk (blk_below BK3.out hb); have n3_ := Aside0.mk (blk_below BK6.out hb); have n4_ := Aside0.mk (Go.Proofs.Ytomakpfmghekfaa.RowLaw.IR.below I6.out hb); clear HB BK2 BK3 BK6 I6; have HB := n0_; have BK2 := n1_; have BK3 := n2_; have BK6 := n3_; have I6 := n4_; clear n0_ n1_ n2_ n3_ n4_; have I8 := Aside0.mk i_; have ZA := Aside0.mk z_.1; have ZB := Aside0.mk z_.2; have P8 := Aside0.mk M_; obtain ⟨A8, c8, e_⟩ := Kd.R_slice ho; subst e_; clear ho hb i_ z_ M_ Z6; (try simp only [Act.put, sq1, sq2, sq3])) | ((with_reducible refine gate_dst (N := 8) rfl ?_); refine box_event ?hg (N := 8) ?hd (cs := #[.int .i64 0, .int .i64 0, .string (⟨#[]⟩ : ByteArray), .slice none 0 0]) (t := 30) ?hr ?_; (case hd => rfl); (case hg => rfl); (case hr => first | (go_simp; done) | (go_simp; rfl)); intro g8 hg wg8 hbox hb; have HX := Aside0.mk hb; have HGE := Aside0.mk (Nat.le_of_eq hg.symm); have BKn := Aside0.mk hbox; clear hg hbox hb; (try simp only [Act.put, sq1, sq2, sq3])) | ((with_reducible refine gate_store (t := 30) (p := 8) rfl ?_); refine Go.Proofs.Ytomakpfmghekfaa.RowLaw.put_event rfl 30 _ _ rfl g8 0 (.agg #[.int .i64 px.f0, .int .i64 px.f1, .string px.f2, .slice A8 px.f3.length c8]) rfl rfl [.int .i64 px.f0, .int .i64 px.f1, .string px.f2, .slice A8 px.f3.length c8] rfl 30 _ #[.int .i64 px.f0, .int .i64 px.f1, .string px.f2, .slice A8 px.f3.length c8] BKn.out HIP.out (Nat.le_of_ble_eq_true rfl) rfl rfl ?_; intro w7 hk hoth hbel hz; have hb := hbel _ _ HX.out HGE.out; have n0_ := Aside0.mk (below_step HB.out hb); have n1_ := Aside0.mk (blk_below BK2.out hb); have n2_ := Aside0.mk (blk_below BK3.out hb); have n3_ := Aside0.mk (blk_below BK6.out hb); have n4_ := Aside0.mk (Go.Proofs.Ytomakpfmghekfaa.RowLaw.IR.below I6.out hb); have n5_ := Aside0.mk (Go.Proofs.Ytomakpfmghekfaa.RowLaw.IR.below I8.out hb); have n6_ := Aside0.mk (Nat.le_trans ZA.out (Below.size hb)); have n7_ := Aside0.mk (Nat.le_trans ZB.out (Below.size hb)); clear HB BK2 BK3 BK6 I6 I8 ZA ZB; have HB := n0_; have BK2 := n1_; have BK3 := n2_; have BK6 := n3_; have I6 := n4_; have I8 := n5_; have ZA := n6_; have ZB := n7_; clear n0_ n1_ n2_ n3_ n4_ n5_ n6_ n7_; have BK8 := Aside0.mk hk; clear hk hoth hbel hz hb HX HGE BKn; (try simp only [Act.put, sq1, sq2, sq3])) | ((with_reducible refine gate_callee (f := 8) rfl ?_); refine goesL_ (some 38) rfl rfl Try.func8 (by kernel_rfl) rfl #[.agg #[.int .i64 y.f0, .int .i64 y.f1, .string y.f2, .slice A2 y.f3.length c2]] rfl (by (try simp only [sm1, sm2, sm3]); first | done | rfl) ?_; refine (laws_toPattern.calls ky y.f0 y.f1 y.f2 A2 c2 y.f3 py.f0 py.f1 py.f2 py.f3 _ (Kd.C_below HY3.out HB.out) LY3.out HTY.out).mono ?_; rintro e wd ⟨v_, rfl, ho, hb⟩; refine ⟨_, rfl, ?_⟩; obtain ⟨p9, q9, i_, z_, M_⟩ : ∃ p q, Go.Proofs.Ytomakpfmghekfaa.RowLaw.IR k30 30 wd p q v_ py.f3 ∧ (q ≤ wd.heap.size ∧ p ≤ wd.heap.size) ∧ (q8 ≤ p ∧ p8 ≤ p) := ⟨_, _, Go.Proofs.Ytomakpfmghekfaa.RowLaw.IR.of ho, ⟨Nat.le_refl _, hb.size⟩, ZA.out, ZB.out⟩; have n0_ := Aside0.mk (below_step HB.out hb); have n1_ := Aside0.mk (blk_below BK2.out hb); have n2_ := Aside0.mk (blk_below BK3.out hb); have n3_ := Aside0.mk (blk_below BK6.out hb); have n4_ := Aside0.mk (blk_below BK8.out hb); have n5_ := Aside0.mk (Go.Proofs.Ytomakpfmghekfaa.RowLaw.IR.below I6.out hb); have n6_ := Aside0.mk (Go.Proofs.Ytomakpfmghekfaa.RowLaw.IR.below I8.out hb); clear HB BK2 BK3 BK6 BK8 I6 I8; have HB := n0_; have BK2 := n1_; have BK3 := n2_; have BK6 := n3_; have BK8 := n4_; have I6 := n5_; have I8 := n6_; clear n0_ n1_ n2_ n3_ n4_ n5_ n6_; have I9 := Aside0.mk i_; have ZC := Aside0.mk z_.1; have ZD := Aside0.mk z_.2; have P9 := Aside0.mk M_; obtain ⟨A9, c9, e_⟩ := Kd.R_slice ho; subst e_; clear ho hb i_ z_ M_ ZA ZB; (try simp only [Act.put, sq1, sq2, sq3])) | ((with_reducible refine gate_dst (N := 9) rfl ?_); refine box_event ?hg (N := 9) ?hd (cs := #[.int .i64 0, .int .i64 0, .string (⟨#[]⟩ : ByteArray), .slice none 0 0]) (t := 30) ?hr ?_; (case hd => rfl); (case hg => rfl); (case hr => first | (go_simp; done) | (go_simp; rfl)); intro g9 hg wg9 hbox hb; have HX := Aside0.mk hb; have HGE := Aside0.mk (Nat.le_of_eq hg.symm); have BKn := Aside0.mk hbox; clear hg hbox hb; (try simp only [Act.put, sq1, sq2, sq3])) | ((with_reducible refine gate_store (t := 30) (p := 9) rfl ?_); refine Go.Proofs.Ytomakpfmghekfaa.RowLaw.put_event rfl 30 _ _ rfl g9 0 (.agg #[.int .i64 py.f0, .int .i64 py.f1, .string py.f2, .slice A9 py.f3.length c9]) rfl rfl [.int .i64 py.f0, .int .i64 py.f1, .string py.f2, .slice A9 py.f3.length c9] rfl 30 _ #[.int .i64 py.f0, .int .i64 py.f1, .string py.f2, .slice A9 py.f3.length c9] BKn.out HIP.out (Nat.le_of_ble_eq_true rfl) rfl rfl ?_; intro w7 hk hoth hbel hz; have hb := hbel _ _ HX.out HGE.out; have G9 := Aside0.mk (Nat.le_trans ZD.out HGE.out); have n0_ := Aside0.mk (below_step HB.out hb); have n1_ := Aside0.mk (blk_below BK2.out hb); have n2_ := Aside0.mk (blk_below BK3.out hb); have n3_ := Aside0.mk (blk_below BK6.out hb); have n4_ := Aside0.mk (blk_below BK8.out hb); have n5_ := Aside0.mk (Go.Proofs.Ytomakpfmghekfaa.RowLaw.IR.below I6.out hb); have n6_ := Aside0.mk (Go.Proofs.Ytomakpfmghekfaa.RowLaw.IR.below I8.out hb); have n7_ := Aside0.mk (Go.Proofs.Ytomakpfmghekfaa.RowLaw.IR.below I9.out hb); have n8_ := Aside0.mk (Nat.le_trans ZC.out (Below.size hb)); have n9_ := Aside0.mk (Nat.le_trans ZD.out (Below.size hb)); clear HB BK2 BK3 BK6 BK8 I6 I8 I9 ZC ZD; have HB := n0_; have BK2 := n1_; have BK3 := n2_; have BK6 := n3_; have BK8 := n4_; have I6 := n5_; have I8 := n6_; have I9 := n7_; have ZC := n8_; have ZD := n9_; clear n0_ n1_ n2_ n3_ n4_ n5_ n6_ n7_ n8_ n9_; have BK9 := Aside0.mk hk; clear hk hoth hbel hz hb HX HGE BKn; (try simp only [Act.put, sq1, sq2, sq3])) | ((with_reducible refine gate_callee (f := 19) rfl ?_); refine goesL_ (some 42) rfl rfl Try.func19 (by kernel_rfl) rfl #[.agg #[.int .i64 px.f0, .int .i64 px.f1, .string px.f2, .slice A8 px.f3.length c8], .agg #[.int .i64 py.f0, .int .i64 py.f1, .string py.f2, .slice A9 py.f3.length c9]] rfl (by (try simp only [sm1, sm2, sm3]); first | done | rfl) ?_; refine (impl_jp px py FX.out FY.out HCC.out A8 c8 _ A9 c9 _ _ (T.of_R _ _ (Nat.le_refl _) _ I8.out) (T.of_R _ _ (Nat.le_refl _) _ I9.out) (fun k hk => hk.elim (fun h => Nat.lt_of_lt_of_le (Nat.lt_of_lt_of_le h.2 P9.out.1) ZD.out) (fun h => Nat.lt_of_lt_of_le h.2 ZC.out))).mono ?_; rintro e wd ⟨v10, he, B10, hT, hQ, hb⟩; rw [HSX.out, HSB.out] at he; rw [HSX.out] at hT; subst he; refine ⟨_, rfl, ?_⟩; obtain ⟨p10, q10, u_, z_, M_⟩ : ∃ p q, (∀ k, B10 k → p ≤ k ∧ k < q) ∧ (q ≤ wd.heap.size ∧ p ≤ wd.heap.size) ∧ (q9 ≤ p ∧ p9 ≤ p) := ⟨_, _, hQ, ⟨Nat.le_refl _, hb.size⟩, ZC.out, ZD.out⟩; have n0_ := Aside0.mk (below_step HB.out hb); have n1_ := Aside0.mk (blk_below BK2.out hb); have n2_ := Aside0.mk (blk_below BK3.out hb); have n3_ := Aside0.mk (blk_below BK6.out hb); have n4_ := Aside0.mk (blk_below BK8.out hb); have n5_ := Aside0.mk (Go.Proofs.Ytomakpfmghekfaa.RowLaw.IR.below I6.out hb); have n6_ := Aside0.mk (Go.Proofs.Ytomakpfmghekfaa.RowLaw.IR.below I8.out hb); have n7_ := Aside0.mk (blk_below BK9.out hb); have n8_ := Aside0.mk (Go.Proofs.Ytomakpfmghekfaa.RowLaw.IR.below I9.out hb); clear HB BK2 BK3 BK6 BK8 I6 I8 BK9 I9; have HB := n0_; have BK2 := n1_; have BK3 := n2_; have BK6 := n3_; have BK8 := n4_; have I6 := n5_; have I8 := n6_; have BK9 := n7_; have I9 := n8_; clear n0_ n1_ n2_ n3_ n4_ n5_ n6_ n7_ n8_; obtain ⟨A10, c10, e_, _⟩ := hT.inv; subst e_; have U10 := Aside0.mk hT; have UB10 := Aside0.mk u_; have ZE := Aside0.mk z_; have P10 := Aside0.mk M_; clear hT hQ hb u_ z_ M_ ZC ZD; (try simp only [Act.put, sq1, sq2, sq3])) | ((with_reducible refine gate_dst (N := 10) rfl ?_); refine box_event ?hg (N := 10) ?hd (cs := #[.int .i64 0, .int .i64 0, .string (⟨#[]⟩ : ByteArray), .slice none 0 0]) (t := 30) ?hr ?_; (case hd => rfl); (case hg => rfl); (case hr => first | (go_simp; done) | (go_simp; rfl)); intro g10 hg wg10 hbox hb; have HX := Aside0.mk hb; have HGE := Aside0.mk (Nat.le_of_eq hg.symm); have BKn := Aside0.mk hbox; clear hg hbox hb; (try simp only [Act.put, sq1, sq2, sq3])) | ((with_reducible refine gate_store (t := 30) (p := 10) rfl ?_); refine Go.Proofs.Ytomakpfmghekfaa.RowLaw.put_event rfl 30 _ _ rfl g10 0 (.agg #[.int .i64 sx.f0, .int .i64 sx.f1, .string sx.f2, .slice A10 sx.f3.length c10]) rfl rfl [.int .i64 sx.f0, .int .i64 sx.f1, .string sx.f2, .slice A10 sx.f3.length c10] rfl 30 _ #[.int .i64 sx.f0, .int .i64 sx.f1, .string sx.f2, .slice A10 sx.f3.length c10] BKn.out HIP.out (Nat.le_of_ble_eq_true rfl) rfl rfl ?_; intro w7 hk hoth hbel hz; have hb := hbel _ _ HX.out HGE.out; have P11 := Aside0.mk (show q10 ≤ g10 ∧ p10 ≤ g10 from ⟨Nat.le_trans ZE.out.1 HGE.out, Nat.le_trans ZE.out.2 HGE.out⟩); clear ZE; have n0_ := Aside0.mk (below_step HB.out hb); have n1_ := Aside0.mk (blk_below BK2.out hb); have n2_ := Aside0.mk (blk_below BK3.out hb); have n3_ := Aside0.mk (blk_below BK6.out hb); have n4_ := Aside0.mk (blk_below BK8.out hb); have n5_ := Aside0.mk (Go.Proofs.Ytomakpfmghekfaa.RowLaw.IR.below I6.out hb); have n6_ := Aside0.mk (Go.Proofs.Ytomakpfmghekfaa.RowLaw.IR.below I8.out hb); have n7_ := Aside0.mk (blk_below BK9.out hb); have n8_ := Aside0.mk (Go.Proofs.Ytomakpfmghekfaa.RowLaw.IR.below I9.out hb); have n9_ := Aside0.mk (U10.out.grow hb); clear HB BK2 BK3 BK6 BK8 I6 I8 BK9 I9 U10; have HB := n0_; have BK2 := n1_; have BK3 := n2_; have BK6 := n3_; have BK8 := n4_; have I6 := n5_; have I8 := n6_; have BK9 := n7_; have I9 := n8_; have U10 := n9_; clear n0_ n1_ n2_ n3_ n4_ n5_ n6_ n7_ n8_ n9_; have BK10 := Aside0.mk hk; clear hk hoth hbel hz hb HX HGE BKn; (try simp only [Act.put, sq1, sq2, sq3])) | ((with_reducible refine gate_callee (f := 11) rfl ?_); refine goesL_ (some 47) rfl rfl Try.func11 (by kernel_rfl) rfl #[.agg #[.int .i64 sx.f0, .int .i64 sx.f1, .string sx.f2, .slice A10 sx.f3.length c10], .agg #[.int .i64 sx.f0, .int .i64 sx.f1, .string sx.f2, .slice A6 sx.f3.length c6]] rfl (by (try simp only [sm1, sm2, sm3]); first | done | rfl) ?_; refine (laws_eqPattern.calls kf sx.f0 sx.f1 sx.f2 A10 c10 sx.f3 sx.f0 sx.f1 sx.f2 A6 c6 sx.f3 true _ (T.C _ _ (Nat.le_refl _) U10.out) U10.out.len (Kd.R_reads' I6.out).2.2 (Kd.R_reads' I6.out).2.1 HF.out).mono ?_; rintro e wd ⟨rfl, hb⟩; refine ⟨_, rfl, ?_⟩; have n0_ := Aside0.mk (below_step HB.out hb); have n1_ := Aside0.mk (blk_below BK2.out hb); have n2_ := Aside0.mk (blk_below BK3.out hb); have n3_ := Aside0.mk (blk_below BK6.out hb); have n4_ := Aside0.mk (blk_below BK8.out hb); have n5_ := Aside0.mk (Go.Proofs.Ytomakpfmghekfaa.RowLaw.IR.below I6.out hb); have n6_ := Aside0.mk (Go.Proofs.Ytomakpfmghekfaa.RowLaw.IR.below I8.out hb); have n7_ := Aside0.mk (blk_below BK9.out hb); have n8_ := Aside0.mk (Go.Proofs.Ytomakpfmghekfaa.RowLaw.IR.below I9.out hb); have n9_ := Aside0.mk (blk_below BK10.out hb); have n10_ := Aside0.mk (U10.out.grow hb); clear HB BK2 BK3 BK6 BK8 I6 I8 BK9 I9 BK10 U10; have HB := n0_; have BK2 := n1_; have BK3 := n2_; have BK6 := n3_; have BK8 := n4_; have I6 := n5_; have I8 := n6_; have BK9 := n7_; have I9 := n8_; have BK10 := n9_; have U10 := n10_; clear n0_ n1_ n2_ n3_ n4_ n5_ n6_ n7_ n8_ n9_ n10_; clear hb; (try simp only [Act.put, sq1, sq2, sq3])))
  have n0_ := Aside0.mk (below_step HB.out (below_drew1 (Below.refl _ _)))
  have n1_ := Aside0.mk (blk_below BK2.out (below_drew1 (Below.refl _ _)))
  have n2_ := Aside0.mk (blk_below BK3.out (below_drew1 (Below.refl _ _)))
  have n3_ := Aside0.mk (blk_below BK6.out (below_drew1 (Below.refl _ _)))
  have n4_ := Aside0.mk (blk_below BK8.out (below_drew1 (Below.refl _ _)))
  have n5_ := Aside0.mk (Go.Proofs.Ytomakpfmghekfaa.RowLaw.IR.below I6.out (below_drew1 (Below.refl _ _)))
  have n6_ := Aside0.mk (Go.Proofs.Ytomakpfmghekfaa.RowLaw.IR.below I8.out (below_drew1 (Below.refl _ _)))
  have n7_ := Aside0.mk (blk_below BK9.out (below_drew1 (Below.refl _ _)))
  have n8_ := Aside0.mk (Go.Proofs.Ytomakpfmghekfaa.RowLaw.IR.below I9.out (below_drew1 (Below.refl _ _)))
  have n9_ := Aside0.mk (blk_below BK10.out (below_drew1 (Below.refl _ _)))
  have n10_ := Aside0.mk (U10.out.grow (below_drew1 (Below.refl _ _)))
  clear HB BK2 BK3 BK6 BK8 I6 I8 BK9 I9 BK10 U10
  have HB := n0_
  have BK2 := n1_
  have BK3 := n2_
  have BK6 := n3_
  have BK8 := n4_
  have I6 := n5_
  have I8 := n6_
  have BK9 := n7_
  have I9 := n8_
  have BK10 := n9_
  have U10 := n10_
  clear n0_ n1_ n2_ n3_ n4_ n5_ n6_ n7_ n8_ n9_ n10_
  refine start_ (n := 5) (S := fun w' => w'.heap[g8]? = some (.cells #[.int .i64 px.f0, .int .i64 px.f1, .string px.f2, .slice A8 px.f3.length c8] 30 (0, 0)) ∧ w'.heap[g2]? = some (.cells #[.int .i64 x.f0, .int .i64 x.f1, .string x.f2, .slice A1 x.f3.length c1] 24 (0, 0))) (ds := []) (btx 5 0) (by kernel_rfl) rfl rfl ⟨BK8.out, BK2.out⟩ (fun hHeld => ?_)
  generalize _root_.Go.World.drew _ = wd at HB BK2 BK3 BK6 BK8 I6 I8 BK9 I9 BK10 U10 hHeld ⊢
  refine take_ (i := 0) (N := some 54) (v := .agg #[.int .i64 px.f0, .int .i64 px.f1, .string px.f2, .slice A8 px.f3.length c8]) (a' := ?_) (btx 5 1) rfl rfl (by kernel_rfl) (fun _ _ _ h => h) (Or.inl ⟨by rfl, fun w' s => Go.Proofs.Ytomakpfmghekfaa.RowLaw.load_run 30 _ rfl g8 rfl 30 _ _ s.1 huP rfl HIP.out⟩) hHeld ?_ ?_
  rotate_left; (simp only [Act.put, sq1, sq2, sq3, i64_w, i32_w]; rfl)
  refine take_ (i := 1) (N := some 55) (v := .agg #[.int .i64 x.f0, .int .i64 x.f1, .string x.f2, .slice A1 x.f3.length c1]) (a' := ?_) (btx 5 2) rfl rfl (by kernel_rfl) (fun _ _ _ h => h) (Or.inl ⟨by rfl, fun w' s => Go.Proofs.Ytomakpfmghekfaa.RowLaw.load_run 24 _ rfl g2 rfl 24 _ _ s.2 huQ rfl HIQ.out⟩) hHeld ?_ ?_
  rotate_left; (simp only [Act.put, sq1, sq2, sq3, i64_w, i32_w]; rfl)
  refine one_ (i := 2) (N := some 56) (btx 5 3) rfl rfl (by kernel_rfl) (by decide) (fun K hK => ?_)
  refine goes_ Try.func8 (by kernel_rfl) rfl #[.agg #[.int .i64 x.f0, .int .i64 x.f1, .string x.f2, .slice A1 x.f3.length c1]] (by rfl) rfl rfl (by (try simp only [sm1, sm2, sm3]); first | done | rfl) ?_
  with_reducible refine (laws_toPattern.calls kx x.f0 x.f1 x.f2 A1 c1 x.f3 px.f0 px.f1 px.f2 px.f3 _ ?side1 LX3.out HTX.out).mono ?_
  (case side1 => exact Kd.C_below HX3.out HB.out)
  rintro e wc ⟨v29, rfl, ho, hb⟩
  refine ⟨_, rfl, ?_⟩
  have n0_ := Aside0.mk (below_step HB.out hb)
  have n1_ := Aside0.mk (blk_below BK2.out hb)
  have n2_ := Aside0.mk (blk_below BK3.out hb)
  have n3_ := Aside0.mk (blk_below BK6.out hb)
  have n4_ := Aside0.mk (blk_below BK8.out hb)
  have n5_ := Aside0.mk (Go.Proofs.Ytomakpfmghekfaa.RowLaw.IR.below I6.out hb)
  have n6_ := Aside0.mk (Go.Proofs.Ytomakpfmghekfaa.RowLaw.IR.below I8.out hb)
  have n7_ := Aside0.mk (blk_below BK9.out hb)
  have n8_ := Aside0.mk (Go.Proofs.Ytomakpfmghekfaa.RowLaw.IR.below I9.out hb)
  have n9_ := Aside0.mk (blk_below BK10.out hb)
  have n10_ := Aside0.mk (U10.out.grow hb)
  clear HB BK2 BK3 BK6 BK8 I6 I8 BK9 I9 BK10 U10
  have HB := n0_
  have BK2 := n1_
  have BK3 := n2_
  have BK6 := n3_
  have BK8 := n4_
  have I6 := n5_
  have I8 := n6_
  have BK9 := n7_
  have I9 := n8_
  have BK10 := n9_
  have U10 := n10_
  clear n0_ n1_ n2_ n3_ n4_ n5_ n6_ n7_ n8_ n9_ n10_
  have I29 := Aside0.mk (Go.Proofs.Ytomakpfmghekfaa.RowLaw.IR.of ho)
  obtain ⟨A29, c29, e29⟩ := Kd.R_slice ho
  subst e29
  clear ho hb
  refine hK.out _ _ ⟨BK8.out, BK2.out⟩ (fun hHeld => ?_)
  clear hK K
  refine norm_ (a' := ?_) ?_ ?_
  rotate_left
  · show Act.put _ (some 56) _ = _
    simp only [Act.put, sq1, sq2, sq3, i64_w, i32_w]
    rfl
  refine one_ (i := 3) (N := some 57) (btx 5 4) rfl rfl (by kernel_rfl) (by decide) (fun K hK => ?_)
  refine goes_ Try.func11 (by kernel_rfl) rfl #[.agg #[.int .i64 px.f0, .int .i64 px.f1, .string px.f2, .slice A8 px.f3.length c8], .agg #[.int .i64 px.f0, .int .i64 px.f1, .string px.f2, .slice A29 px.f3.length c29]] (by rfl) rfl rfl (by (try simp only [sm1, sm2, sm3]); first | done | rfl) ?_
  with_reducible refine (laws_eqPattern.calls kex px.f0 px.f1 px.f2 A8 c8 px.f3 px.f0 px.f1 px.f2 A29 c29 px.f3 true _ ?side1 ?side2 ?side3 ?side4 HEX.out).mono ?_
  (case side1 => exact (Kd.R_reads' I8.out).2.2)
  (case side2 => exact (Kd.R_reads' I8.out).2.1)
  (case side3 => exact (Kd.R_reads' I29.out).2.2)
  (case side4 => exact (Kd.R_reads' I29.out).2.1)
  rintro e we ⟨rfl, hb⟩
  refine ⟨_, rfl, ?_⟩
  have n0_ := Aside0.mk (below_step HB.out hb)
  have n1_ := Aside0.mk (blk_below BK2.out hb)
  have n2_ := Aside0.mk (blk_below BK3.out hb)
  have n3_ := Aside0.mk (blk_below BK6.out hb)
  have n4_ := Aside0.mk (blk_below BK8.out hb)
  have n5_ := Aside0.mk (Go.Proofs.Ytomakpfmghekfaa.RowLaw.IR.below I6.out hb)
  have n6_ := Aside0.mk (Go.Proofs.Ytomakpfmghekfaa.RowLaw.IR.below I8.out hb)
  have n7_ := Aside0.mk (blk_below BK9.out hb)
  have n8_ := Aside0.mk (Go.Proofs.Ytomakpfmghekfaa.RowLaw.IR.below I9.out hb)
  have n9_ := Aside0.mk (blk_below BK10.out hb)
  have n10_ := Aside0.mk (U10.out.grow hb)
  clear HB BK2 BK3 BK6 BK8 I6 I8 BK9 I9 BK10 U10
  have HB := n0_
  have BK2 := n1_
  have BK3 := n2_
  have BK6 := n3_
  have BK8 := n4_
  have I6 := n5_
  have I8 := n6_
  have BK9 := n7_
  have I9 := n8_
  have BK10 := n9_
  have U10 := n10_
  clear n0_ n1_ n2_ n3_ n4_ n5_ n6_ n7_ n8_ n9_ n10_
  clear hb I29
  refine hK.out _ _ ⟨BK8.out, BK2.out⟩ (fun hHeld => ?_)
  clear hK K
  refine norm_ (a' := ?_) ?_ ?_
  rotate_left
  · show Act.put _ (some 57) _ = _
    simp only [Act.put, sq1, sq2, sq3, i64_w, i32_w]
    rfl
  (refine pu (v := ?_) (a' := ?_) rfl rfl (by kernel_rfl) (fun _ _ _ h => h) (Or.inl ⟨by rfl, ?_⟩) ?_ ?_; rotate_left; (intro w'; go_simp; with_reducible rfl); rotate_left; (simp only [Act.put, sq1, sq2, sq3, i64_w, i32_w]; rfl))
  refine done_ (by kernel_rfl) ?_
  go_wp2
  have n0_ := Aside0.mk (below_step HB.out (below_drew1 (Below.refl _ _)))
  have n1_ := Aside0.mk (blk_below BK2.out (below_drew1 (Below.refl _ _)))
  have n2_ := Aside0.mk (blk_below BK3.out (below_drew1 (Below.refl _ _)))
  have n3_ := Aside0.mk (blk_below BK6.out (below_drew1 (Below.refl _ _)))
  have n4_ := Aside0.mk (blk_below BK8.out (below_drew1 (Below.refl _ _)))
  have n5_ := Aside0.mk (Go.Proofs.Ytomakpfmghekfaa.RowLaw.IR.below I6.out (below_drew1 (Below.refl _ _)))
  have n6_ := Aside0.mk (Go.Proofs.Ytomakpfmghekfaa.RowLaw.IR.below I8.out (below_drew1 (Below.refl _ _)))
  have n7_ := Aside0.mk (blk_below BK9.out (below_drew1 (Below.refl _ _)))
  have n8_ := Aside0.mk (Go.Proofs.Ytomakpfmghekfaa.RowLaw.IR.below I9.out (below_drew1 (Below.refl _ _)))
  have n9_ := Aside0.mk (blk_below BK10.out (below_drew1 (Below.refl _ _)))
  have n10_ := Aside0.mk (U10.out.grow (below_drew1 (Below.refl _ _)))
  clear HB BK2 BK3 BK6 BK8 I6 I8 BK9 I9 BK10 U10
  have HB := n0_
  have BK2 := n1_
  have BK3 := n2_
  have BK6 := n3_
  have BK8 := n4_
  have I6 := n5_
  have I8 := n6_
  have BK9 := n7_
  have I9 := n8_
  have BK10 := n9_
  have U10 := n10_
  clear n0_ n1_ n2_ n3_ n4_ n5_ n6_ n7_ n8_ n9_ n10_
  refine start_ (n := 5) (S := fun w' => w'.heap[g9]? = some (.cells #[.int .i64 py.f0, .int .i64 py.f1, .string py.f2, .slice A9 py.f3.length c9] 30 (0, 0)) ∧ w'.heap[g3]? = some (.cells #[.int .i64 y.f0, .int .i64 y.f1, .string y.f2, .slice A2 y.f3.length c2] 24 (0, 0))) (ds := []) (btx 5 0) (by kernel_rfl) rfl rfl ⟨BK9.out, BK3.out⟩ (fun hHeld => ?_)
  generalize _root_.Go.World.drew _ = wd at HB BK2 BK3 BK6 BK8 I6 I8 BK9 I9 BK10 U10 hHeld ⊢
  refine take_ (i := 0) (N := some 59) (v := .agg #[.int .i64 py.f0, .int .i64 py.f1, .string py.f2, .slice A9 py.f3.length c9]) (a' := ?_) (btx 5 1) rfl rfl (by kernel_rfl) (fun _ _ _ h => h) (Or.inl ⟨by rfl, fun w' s => Go.Proofs.Ytomakpfmghekfaa.RowLaw.load_run 30 _ rfl g9 rfl 30 _ _ s.1 huP rfl HIP.out⟩) hHeld ?_ ?_
  rotate_left; (simp only [Act.put, sq1, sq2, sq3, i64_w, i32_w]; rfl)
  refine take_ (i := 1) (N := some 60) (v := .agg #[.int .i64 y.f0, .int .i64 y.f1, .string y.f2, .slice A2 y.f3.length c2]) (a' := ?_) (btx 5 2) rfl rfl (by kernel_rfl) (fun _ _ _ h => h) (Or.inl ⟨by rfl, fun w' s => Go.Proofs.Ytomakpfmghekfaa.RowLaw.load_run 24 _ rfl g3 rfl 24 _ _ s.2 huQ rfl HIQ.out⟩) hHeld ?_ ?_
  rotate_left; (simp only [Act.put, sq1, sq2, sq3, i64_w, i32_w]; rfl)
  refine one_ (i := 2) (N := some 61) (btx 5 3) rfl rfl (by kernel_rfl) (by decide) (fun K hK => ?_)
  refine goes_ Try.func8 (by kernel_rfl) rfl #[.agg #[.int .i64 y.f0, .int .i64 y.f1, .string y.f2, .slice A2 y.f3.length c2]] (by rfl) rfl rfl (by (try simp only [sm1, sm2, sm3]); first | done | rfl) ?_
  with_reducible refine (laws_toPattern.calls ky y.f0 y.f1 y.f2 A2 c2 y.f3 py.f0 py.f1 py.f2 py.f3 _ ?side1 LY3.out HTY.out).mono ?_
  (case side1 => exact Kd.C_below HY3.out HB.out)
  rintro e wc ⟨v29, rfl, ho, hb⟩
  refine ⟨_, rfl, ?_⟩
  have n0_ := Aside0.mk (below_step HB.out hb)
  have n1_ := Aside0.mk (blk_below BK2.out hb)
  have n2_ := Aside0.mk (blk_below BK3.out hb)
  have n3_ := Aside0.mk (blk_below BK6.out hb)
  have n4_ := Aside0.mk (blk_below BK8.out hb)
  have n5_ := Aside0.mk (Go.Proofs.Ytomakpfmghekfaa.RowLaw.IR.below I6.out hb)
  have n6_ := Aside0.mk (Go.Proofs.Ytomakpfmghekfaa.RowLaw.IR.below I8.out hb)
  have n7_ := Aside0.mk (blk_below BK9.out hb)
  have n8_ := Aside0.mk (Go.Proofs.Ytomakpfmghekfaa.RowLaw.IR.below I9.out hb)
  have n9_ := Aside0.mk (blk_below BK10.out hb)
  have n10_ := Aside0.mk (U10.out.grow hb)
  clear HB BK2 BK3 BK6 BK8 I6 I8 BK9 I9 BK10 U10
  have HB := n0_
  have BK2 := n1_
  have BK3 := n2_
  have BK6 := n3_
  have BK8 := n4_
  have I6 := n5_
  have I8 := n6_
  have BK9 := n7_
  have I9 := n8_
  have BK10 := n9_
  have U10 := n10_
  clear n0_ n1_ n2_ n3_ n4_ n5_ n6_ n7_ n8_ n9_ n10_
  have I29 := Aside0.mk (Go.Proofs.Ytomakpfmghekfaa.RowLaw.IR.of ho)
  obtain ⟨A29, c29, e29⟩ := Kd.R_slice ho
  subst e29
  clear ho hb
  refine hK.out _ _ ⟨BK9.out, BK3.out⟩ (fun hHeld => ?_)
  clear hK K
  refine norm_ (a' := ?_) ?_ ?_
  rotate_left
  · show Act.put _ (some 61) _ = _
    simp only [Act.put, sq1, sq2, sq3, i64_w, i32_w]
    rfl
  refine one_ (i := 3) (N := some 62) (btx 5 4) rfl rfl (by kernel_rfl) (by decide) (fun K hK => ?_)
  refine goes_ Try.func11 (by kernel_rfl) rfl #[.agg #[.int .i64 py.f0, .int .i64 py.f1, .string py.f2, .slice A9 py.f3.length c9], .agg #[.int .i64 py.f0, .int .i64 py.f1, .string py.f2, .slice A29 py.f3.length c29]] (by rfl) rfl rfl (by (try simp only [sm1, sm2, sm3]); first | done | rfl) ?_
  with_reducible refine (laws_eqPattern.calls key py.f0 py.f1 py.f2 A9 c9 py.f3 py.f0 py.f1 py.f2 A29 c29 py.f3 true _ ?side1 ?side2 ?side3 ?side4 HEY.out).mono ?_
  (case side1 => exact (Kd.R_reads' I9.out).2.2)
  (case side2 => exact (Kd.R_reads' I9.out).2.1)
  (case side3 => exact (Kd.R_reads' I29.out).2.2)
  (case side4 => exact (Kd.R_reads' I29.out).2.1)
  rintro e we ⟨rfl, hb⟩
  refine ⟨_, rfl, ?_⟩
  have n0_ := Aside0.mk (below_step HB.out hb)
  have n1_ := Aside0.mk (blk_below BK2.out hb)
  have n2_ := Aside0.mk (blk_below BK3.out hb)
  have n3_ := Aside0.mk (blk_below BK6.out hb)
  have n4_ := Aside0.mk (blk_below BK8.out hb)
  have n5_ := Aside0.mk (Go.Proofs.Ytomakpfmghekfaa.RowLaw.IR.below I6.out hb)
  have n6_ := Aside0.mk (Go.Proofs.Ytomakpfmghekfaa.RowLaw.IR.below I8.out hb)
  have n7_ := Aside0.mk (blk_below BK9.out hb)
  have n8_ := Aside0.mk (Go.Proofs.Ytomakpfmghekfaa.RowLaw.IR.below I9.out hb)
  have n9_ := Aside0.mk (blk_below BK10.out hb)
  have n10_ := Aside0.mk (U10.out.grow hb)
  clear HB BK2 BK3 BK6 BK8 I6 I8 BK9 I9 BK10 U10
  have HB := n0_
  have BK2 := n1_
  have BK3 := n2_
  have BK6 := n3_
  have BK8 := n4_
  have I6 := n5_
  have I8 := n6_
  have BK9 := n7_
  have I9 := n8_
  have BK10 := n9_
  have U10 := n10_
  clear n0_ n1_ n2_ n3_ n4_ n5_ n6_ n7_ n8_ n9_ n10_
  clear hb I29
  refine hK.out _ _ ⟨BK9.out, BK3.out⟩ (fun hHeld => ?_)
  clear hK K
  refine norm_ (a' := ?_) ?_ ?_
  rotate_left
  · show Act.put _ (some 62) _ = _
    simp only [Act.put, sq1, sq2, sq3, i64_w, i32_w]
    rfl
  (refine pu (v := ?_) (a' := ?_) rfl rfl (by kernel_rfl) (fun _ _ _ h => h) (Or.inl ⟨by rfl, ?_⟩) ?_ ?_; rotate_left; (intro w'; go_simp; with_reducible rfl); rotate_left; (simp only [Act.put, sq1, sq2, sq3, i64_w, i32_w]; rfl))
  refine done_ (by kernel_rfl) ?_
  go_wp2_with (first | ((with_reducible refine gate_dst (N := 64) rfl ?_); refine wpList_load_row rfl 30 _ rfl g8 rfl 30 #[.int .i64 px.f0, .int .i64 px.f1, .string px.f2, .slice A8 px.f3.length c8] (0, 0) _ BK8.out huP rfl HIP.out ?_; (try simp only [Act.put, sq1, sq2, sq3])) | ((with_reducible refine gate_dst (N := 67) rfl ?_); refine wpList_load_row rfl 30 _ rfl g9 rfl 30 #[.int .i64 py.f0, .int .i64 py.f1, .string py.f2, .slice A9 py.f3.length c9] (0, 0) _ BK9.out huP rfl HIP.out ?_; (try simp only [Act.put, sq1, sq2, sq3])) | ((with_reducible refine gate_dst (N := 83) rfl ?_); refine wpList_load_row rfl 30 _ rfl g10 rfl 30 #[.int .i64 sx.f0, .int .i64 sx.f1, .string sx.f2, .slice A10 sx.f3.length c10] (0, 0) _ BK10.out huP rfl HIP.out ?_; (try simp only [Act.put, sq1, sq2, sq3])) | ((with_reducible refine gate_dst (N := 86) rfl ?_); refine wpList_load_row rfl 30 _ rfl g10 rfl 30 #[.int .i64 sx.f0, .int .i64 sx.f1, .string sx.f2, .slice A10 sx.f3.length c10] (0, 0) _ BK10.out huP rfl HIP.out ?_; (try simp only [Act.put, sq1, sq2, sq3])) | ((with_reducible refine gate_dst (N := 73) rfl ?_); refine gate_guard (by rfl) ?_; dsimp only; refine wpList_load_row rfl 30 _ rfl g10 rfl 30 #[.int .i64 sx.f0, .int .i64 sx.f1, .string sx.f2, .slice A10 sx.f3.length c10] (0, 0) _ BK10.out huP rfl HIP.out ?_; (try simp only [Act.put, sq1, sq2, sq3])) | ((with_reducible refine gate_dst (N := 74) rfl ?_); refine gate_guard (by rfl) ?_; dsimp only; refine wpList_load_row rfl 30 _ rfl g6 rfl 30 #[.int .i64 sx.f0, .int .i64 sx.f1, .string sx.f2, .slice A6 sx.f3.length c6] (0, 0) _ BK6.out huP rfl HIP.out ?_; (try simp only [Act.put, sq1, sq2, sq3])) | ((with_reducible refine gate_callee (f := 12) rfl ?_); refine goesL_ (some 66) rfl rfl Try.func12 (by kernel_rfl) rfl #[.agg #[.int .i64 px.f0, .int .i64 px.f1, .string px.f2, .slice A8 px.f3.length c8], .int .i64 1] rfl (by (try simp only [sm1, sm2, sm3]); first | done | rfl) ?_; refine (mark0_calls px (.slice A8 px.f3.length c8) 1 p8 q8 _ (Shp.of_R _ px.f3 (Nat.le_refl _) _ I8.out) (by have := P8.out; have := P9.out; have := G9.out; have := P10.out; have := P11.out; have := blk_lt BK10.out; omega) (by omega) HM1.out).mono ?_; rintro e wm ⟨he, hm⟩; rw [HT1.out] at he; subst he; refine ⟨_, rfl, ?_⟩; have n0_ := Aside0.mk (HB.out.trans (hm.bel.mono (by have := P8.out; have := P9.out; have := G9.out; have := P10.out; have := P11.out; omega))); have n1_ := Aside0.mk ((hm.bel.block g2 (by have := P8.out; have := P9.out; have := G9.out; have := P10.out; have := P11.out; omega)).trans BK2.out); have n2_ := Aside0.mk ((hm.bel.block g3 (by have := P8.out; have := P9.out; have := G9.out; have := P10.out; have := P11.out; omega)).trans BK3.out); have n3_ := Aside0.mk ((hm.bel.block g6 (by have := P8.out; have := P9.out; have := G9.out; have := P10.out; have := P11.out; omega)).trans BK6.out); have n4_ := Aside0.mk ((hm.out g9 (by have := P8.out; have := P9.out; have := G9.out; have := P10.out; have := P11.out; omega) (blk_lt BK9.out)).trans BK9.out); have n5_ := Aside0.mk ((hm.out g10 (by have := P8.out; have := P9.out; have := G9.out; have := P10.out; have := P11.out; omega) (blk_lt BK10.out)).trans BK10.out); have n6_ := Aside0.mk (Kd.R_move I6.out (fun k hk => hm.bel.block k (by have := P8.out; have := P9.out; have := G9.out; have := P10.out; have := P11.out; have := hk.2; omega))); have n7_ := Aside0.mk (Kd.R_step I9.out (fun k hk hlt => hm.out k (by have := P8.out; have := P9.out; have := G9.out; have := P10.out; have := P11.out; have := hk.1; omega) hlt)); have n8_ := Aside0.mk (U10.out.move (fun k hk => hm.out k (by have := P8.out; have := P9.out; have := G9.out; have := P10.out; have := P11.out; have := UB10.out k hk; omega) (by have := P8.out; have := P9.out; have := G9.out; have := P10.out; have := P11.out; have := UB10.out k hk; have := blk_lt BK10.out; omega))); clear HB BK2 BK3 BK6 BK9 BK10 I6 I9 U10; have HB := n0_; have BK2 := n1_; have BK3 := n2_; have BK6 := n3_; have BK9 := n4_; have BK10 := n5_; have I6 := n6_; have I9 := n7_; have U10 := n8_; clear n0_ n1_ n2_ n3_ n4_ n5_ n6_ n7_ n8_; clear hm BK8 I8; (try simp only [Act.put, sq1, sq2, sq3])) | ((with_reducible refine gate_callee (f := 12) rfl ?_); refine goesL_ (some 69) rfl rfl Try.func12 (by kernel_rfl) rfl #[.agg #[.int .i64 py.f0, .int .i64 py.f1, .string py.f2, .slice A9 py.f3.length c9], .int .i64 t1] rfl (by (try simp only [sm1, sm2, sm3]); first | done | rfl) ?_; refine (mark0_calls py (.slice A9 py.f3.length c9) t1 p9 q9 _ (Shp.of_R _ py.f3 (Nat.le_refl _) _ I9.out) (by have := P8.out; have := P9.out; have := G9.out; have := P10.out; have := P11.out; have := blk_lt BK10.out; omega) HP1.out HM2.out).mono ?_; rintro e wm2 ⟨he, hm⟩; rw [HT2.out] at he; subst he; refine ⟨_, rfl, ?_⟩; have n0_ := Aside0.mk (HB.out.trans (hm.bel.mono (by have := P8.out; have := P9.out; have := G9.out; have := P10.out; have := P11.out; omega))); have n1_ := Aside0.mk ((hm.bel.block g2 (by have := P8.out; have := P9.out; have := G9.out; have := P10.out; have := P11.out; omega)).trans BK2.out); have n2_ := Aside0.mk ((hm.bel.block g3 (by have := P8.out; have := P9.out; have := G9.out; have := P10.out; have := P11.out; omega)).trans BK3.out); have n3_ := Aside0.mk ((hm.bel.block g6 (by have := P8.out; have := P9.out; have := G9.out; have := P10.out; have := P11.out; omega)).trans BK6.out); have n4_ := Aside0.mk ((hm.out g10 (by have := P8.out; have := P9.out; have := G9.out; have := P10.out; have := P11.out; omega) (blk_lt BK10.out)).trans BK10.out); have n5_ := Aside0.mk (Kd.R_move I6.out (fun k hk => hm.bel.block k (by have := P8.out; have := P9.out; have := G9.out; have := P10.out; have := P11.out; have := hk.2; omega))); have n6_ := Aside0.mk (U10.out.move (fun k hk => hm.out k (by have := P8.out; have := P9.out; have := G9.out; have := P10.out; have := P11.out; have := UB10.out k hk; omega) (by have := P8.out; have := P9.out; have := G9.out; have := P10.out; have := P11.out; have := UB10.out k hk; have := blk_lt BK10.out; omega))); clear HB BK2 BK3 BK6 BK10 I6 U10; have HB := n0_; have BK2 := n1_; have BK3 := n2_; have BK6 := n3_; have BK10 := n4_; have I6 := n5_; have U10 := n6_; clear n0_ n1_ n2_ n3_ n4_ n5_ n6_; clear hm BK9 I9; (try simp only [Act.put, sq1, sq2, sq3])) | ((with_reducible refine gate_callee (f := 11) rfl ?_); (with_reducible refine gate_dst (N := 75) rfl ?_); refine gate_guard (by rfl) ?_; dsimp only; refine goesL_ (some 75) rfl rfl Try.func11 (by kernel_rfl) rfl #[.agg #[.int .i64 sx.f0, .int .i64 sx.f1, .string sx.f2, .slice A10 sx.f3.length c10], .agg #[.int .i64 sx.f0, .int .i64 sx.f1, .string sx.f2, .slice A6 sx.f3.length c6]] rfl (by (try simp only [sm1, sm2, sm3]); first | done | rfl) ?_; refine (laws_eqPattern.calls kf sx.f0 sx.f1 sx.f2 A10 c10 sx.f3 sx.f0 sx.f1 sx.f2 A6 c6 sx.f3 true _ (T.C _ _ (Nat.le_refl _) U10.out) U10.out.len (Kd.R_reads' I6.out).2.2 (Kd.R_reads' I6.out).2.1 HF.out).mono ?_; rintro e wd ⟨rfl, hb⟩; refine ⟨_, rfl, ?_⟩; have n0_ := Aside0.mk (below_step HB.out hb); have n1_ := Aside0.mk (blk_below BK2.out hb); have n2_ := Aside0.mk (blk_below BK3.out hb); have n3_ := Aside0.mk (blk_below BK6.out hb); have n4_ := Aside0.mk (blk_below BK10.out hb); have n5_ := Aside0.mk (Go.Proofs.Ytomakpfmghekfaa.RowLaw.IR.below I6.out hb); have n6_ := Aside0.mk (U10.out.grow hb); clear HB BK2 BK3 BK6 BK10 I6 U10; have HB := n0_; have BK2 := n1_; have BK3 := n2_; have BK6 := n3_; have BK10 := n4_; have I6 := n5_; have U10 := n6_; clear n0_ n1_ n2_ n3_ n4_ n5_ n6_; clear hb; (try simp only [Act.put, sq1, sq2, sq3])) | ((with_reducible refine gate_callee (f := 12) rfl ?_); refine goesL_ (some 85) rfl rfl Try.func12 (by kernel_rfl) rfl #[.agg #[.int .i64 sx.f0, .int .i64 sx.f1, .string sx.f2, .slice A10 sx.f3.length c10], .int .i64 1] rfl (by (try simp only [sm1, sm2, sm3]); first | done | rfl) ?_; refine (markX_calls m HM.out sx (.slice A10 sx.f3.length c10) 1 p10 B10 _ U10.out (fun k q => ⟨(UB10.out k q).1, (by have := P8.out; have := P9.out; have := G9.out; have := P10.out; have := P11.out; have := UB10.out k q; have := blk_lt BK10.out; omega)⟩) (by have := P8.out; have := P9.out; have := G9.out; have := P10.out; have := P11.out; have := blk_lt BK10.out; omega) (by omega) HM3.out).mono ?_; rintro e wm3 ⟨he, hu, hm⟩; rw [HTM.out] at he; subst he; refine ⟨_, rfl, ?_⟩; have n0_ := Aside0.mk (HB.out.trans (hm.bel.mono (by have := P8.out; have := P9.out; have := G9.out; have := P10.out; have := P11.out; omega))); have n1_ := Aside0.mk ((hm.bel.block g2 (by have := P8.out; have := P9.out; have := G9.out; have := P10.out; have := P11.out; omega)).trans BK2.out); have n2_ := Aside0.mk ((hm.bel.block g3 (by have := P8.out; have := P9.out; have := G9.out; have := P10.out; have := P11.out; omega)).trans BK3.out); have n3_ := Aside0.mk ((hm.bel.block g6 (by have := P8.out; have := P9.out; have := G9.out; have := P10.out; have := P11.out; omega)).trans BK6.out); have n4_ := Aside0.mk ((hm.out g10 (fun hq => absurd (UB10.out g10 hq).2 (Nat.not_lt_of_le P11.out.1)) (blk_lt BK10.out)).trans BK10.out); have n5_ := Aside0.mk (Kd.R_move I6.out (fun k hk => hm.bel.block k (by have := P8.out; have := P9.out; have := G9.out; have := P10.out; have := P11.out; have := hk.2; omega))); clear HB BK2 BK3 BK6 BK10 I6; have HB := n0_; have BK2 := n1_; have BK3 := n2_; have BK6 := n3_; have BK10 := n4_; have I6 := n5_; clear n0_ n1_ n2_ n3_ n4_ n5_; clear U10; have U10 := Aside0.mk hu; clear hm hu; (try simp only [Act.put, sq1, sq2, sq3])) | ((with_reducible refine gate_callee (f := 17) rfl ?_); refine goesL_ (some 88) rfl rfl Try.func17 (by kernel_rfl) rfl #[.agg #[.int .i64 sx.f0, .int .i64 sx.f1, .string sx.f2, .slice A10 sx.f3.length c10], .int .i64 1] rfl (by (try simp only [sm1, sm2, sm3]); first | done | rfl) ?_; refine (heldX_calls m HM.out sx (.slice A10 sx.f3.length c10) 1 B10 _ U10.out (by omega) HM3.out).mono ?_; rintro e wh ⟨he, hb⟩; rw [HTM.out] at he; subst he; refine ⟨_, rfl, ?_⟩; have n0_ := Aside0.mk (below_step HB.out hb); have n1_ := Aside0.mk (blk_below BK2.out hb); have n2_ := Aside0.mk (blk_below BK3.out hb); have n3_ := Aside0.mk (blk_below BK6.out hb); have n4_ := Aside0.mk (blk_below BK10.out hb); have n5_ := Aside0.mk (Go.Proofs.Ytomakpfmghekfaa.RowLaw.IR.below I6.out hb); have n6_ := Aside0.mk (U10.out.grow hb); clear HB BK2 BK3 BK6 BK10 I6 U10; have HB := n0_; have BK2 := n1_; have BK3 := n2_; have BK6 := n3_; have BK10 := n4_; have I6 := n5_; have U10 := n6_; clear n0_ n1_ n2_ n3_ n4_ n5_ n6_; clear hb; (try simp only [Act.put, sq1, sq2, sq3])))
  have PO := Aside0.mk (show q6 ≤ g10 from (by have := P8.out; have := P9.out; have := G9.out; have := P10.out; have := P11.out; omega))
  have PG := Aside0.mk (show q10 ≤ g10 from P11.out.1)
  have n0_ := Aside0.mk (below_step HB.out (below_drew1 (Below.refl _ _)))
  have n1_ := Aside0.mk (blk_below BK2.out (below_drew1 (Below.refl _ _)))
  have n2_ := Aside0.mk (blk_below BK3.out (below_drew1 (Below.refl _ _)))
  have n3_ := Aside0.mk (blk_below BK6.out (below_drew1 (Below.refl _ _)))
  have n4_ := Aside0.mk (blk_below BK10.out (below_drew1 (Below.refl _ _)))
  have n5_ := Aside0.mk (Go.Proofs.Ytomakpfmghekfaa.RowLaw.IR.below I6.out (below_drew1 (Below.refl _ _)))
  have n6_ := Aside0.mk (U10.out.grow (below_drew1 (Below.refl _ _)))
  clear HB BK2 BK3 BK6 BK10 I6 U10
  have HB := n0_
  have BK2 := n1_
  have BK3 := n2_
  have BK6 := n3_
  have BK10 := n4_
  have I6 := n5_
  have U10 := n6_
  clear n0_ n1_ n2_ n3_ n4_ n5_ n6_
  refine start_ (n := 11) (S := fun w' => w'.heap[g2]? = some (.cells #[.int .i64 x.f0, .int .i64 x.f1, .string x.f2, .slice A1 x.f3.length c1] 24 (0, 0)) ∧ w'.heap[g3]? = some (.cells #[.int .i64 y.f0, .int .i64 y.f1, .string y.f2, .slice A2 y.f3.length c2] 24 (0, 0))) (ds := []) #[false, false, false, false, false, false, false, false, false, false, false] (by kernel_rfl) rfl rfl ⟨BK2.out, BK3.out⟩ (fun hHeld => ?_)
  generalize _root_.Go.World.drew _ = wd at HB BK2 BK3 BK6 BK10 I6 U10 hHeld ⊢
  have LA := Aside0.mk (blk_lt BK2.out)
  have LB := Aside0.mk (blk_lt BK3.out)
  have LC := Aside0.mk (blk_lt BK6.out)
  have LD := Aside0.mk (blk_lt BK10.out)
  have LW := Aside0.mk HB.out.size
  obtain ⟨L1, hL0⟩ : ∃ l, l = wd.heap.size := ⟨_, rfl⟩
  rw [← hL0] at LW LA LB LC LD
  have ZL := Aside0.mk (Nat.le_of_eq hL0)
  clear hL0
  refine take_ (i := 0) (N := some 95) (v := .agg #[.int .i64 x.f0, .int .i64 x.f1, .string x.f2, .slice A1 x.f3.length c1]) (a' := ?_) #[true, false, false, false, false, false, false, false, false, false, false] rfl rfl (by kernel_rfl) (fun _ _ _ h => h) (Or.inl ⟨by rfl, fun w' s => Go.Proofs.Ytomakpfmghekfaa.RowLaw.load_run 24 _ rfl g2 rfl 24 _ _ s.1 huQ rfl HIQ.out⟩) hHeld ?_ ?_
  rotate_left; (simp only [Act.put, sq1, sq2, sq3, i64_w, i32_w]; rfl)
  refine take_ (i := 2) (N := some 97) (v := .agg #[.int .i64 y.f0, .int .i64 y.f1, .string y.f2, .slice A2 y.f3.length c2]) (a' := ?_) #[true, false, true, false, false, false, false, false, false, false, false] rfl rfl (by kernel_rfl) (fun _ _ _ h => h) (Or.inl ⟨by rfl, fun w' s => Go.Proofs.Ytomakpfmghekfaa.RowLaw.load_run 24 _ rfl g3 rfl 24 _ _ s.2 huQ rfl HIQ.out⟩) hHeld ?_ ?_
  rotate_left; (simp only [Act.put, sq1, sq2, sq3, i64_w, i32_w]; rfl)
  refine join_ (σ := Value × Value × Option Addr × Nat × Nat) 2 #[true, true, true, true, true, true, true, true, true, false, false] (fun s => match s with | (u1, u2, Ar, cr, gr) => [(96, u1), (98, u2), (99, .tuple #[.agg #[.int .i64 sx.f0, .int .i64 sx.f1, .string sx.f2, .slice Ar sx.f3.length cr], .bool sb]), (94, .tuple #[.agg #[.int .i64 sx.f0, .int .i64 sx.f1, .string sx.f2, .slice Ar sx.f3.length cr], .bool sb]), (100, .agg #[.int .i64 sx.f0, .int .i64 sx.f1, .string sx.f2, .slice Ar sx.f3.length cr]), (101, .bool sb), (15, .pointer (some ⟨gr, 0, none⟩))]) (fun s w' => match s with | (u1, u2, Ar, cr, gr) => Aside0 (Below w.heap.size w w') ∧ Aside0 (w'.heap[g2]? = some (.cells #[.int .i64 x.f0, .int .i64 x.f1, .string x.f2, .slice A1 x.f3.length c1] 24 (0, 0))) ∧ Aside0 (w'.heap[g3]? = some (.cells #[.int .i64 y.f0, .int .i64 y.f1, .string y.f2, .slice A2 y.f3.length c2] 24 (0, 0))) ∧ Aside0 (w'.heap[gr]? = some (.cells #[.int .i64 0, .int .i64 0, .string (⟨#[]⟩ : ByteArray), .slice none 0 0] 30 (0, 0))) ∧ Aside0 (w.heap.size ≤ gr ∧ L1 ≤ gr) ∧ Aside0 (w'.heap[g6]? = some (.cells #[.int .i64 sx.f0, .int .i64 sx.f1, .string sx.f2, .slice A6 sx.f3.length c6] 30 (0, 0))) ∧ Aside0 (w'.heap[g10]? = some (.cells #[.int .i64 sx.f0, .int .i64 sx.f1, .string sx.f2, .slice A10 sx.f3.length c10] 30 (0, 0))) ∧ Aside0 (Go.Proofs.Ytomakpfmghekfaa.RowLaw.IR k30 30 w' p6 q6 (.slice A6 sx.f3.length c6) sx.f3) ∧ Aside0 (T True w' B10 (.slice A10 sx.f3.length c10) (markL m 1 sx.f3)) ∧ ∃ Br : Nat → Prop, Aside0 (T True w' Br (.slice Ar sx.f3.length cr) sx.f3) ∧ Aside0 (∀ k, Br k → k ≠ gr)) ?_ (fun hJ => ?_)
  rotate_left
  ·refine two_ (i := 1) (j := 8) (Ni := some 96) (Nj := some 15) #[true, true, true, false, false, false, false, false, false, false, false] #[true, false, true, false, false, false, false, false, true, false, false] rfl rfl rfl rfl (by kernel_rfl) (by decide) (by decide) (fun K hK => ?_) (fun K hK => ?_)
   ·refine goes_ Try.func8 (by kernel_rfl) rfl #[.agg #[.int .i64 x.f0, .int .i64 x.f1, .string x.f2, .slice A1 x.f3.length c1]] (by rfl) rfl rfl (by (try simp only [sm1, sm2, sm3]); first | done | rfl) ?_
    with_reducible refine (laws_toPattern.calls kx x.f0 x.f1 x.f2 A1 c1 x.f3 px.f0 px.f1 px.f2 px.f3 _ ?side1 LX3.out HTX.out).mono ?_
    (case side1 => exact Kd.C_below HX3.out HB.out)
    rintro e wc ⟨v1, rfl, ho, hb⟩
    refine ⟨_, rfl, ?_⟩
    obtain ⟨p1, q1, i_, z_⟩ : ∃ p q, Go.Proofs.Ytomakpfmghekfaa.RowLaw.IR k30 30 wc p q v1 px.f3 ∧ q ≤ wc.heap.size := ⟨_, _, Go.Proofs.Ytomakpfmghekfaa.RowLaw.IR.of ho, Nat.le_refl _⟩
    have n0_ := Aside0.mk (below_step HB.out hb)
    have n1_ := Aside0.mk (blk_below BK2.out hb)
    have n2_ := Aside0.mk (blk_below BK3.out hb)
    have n3_ := Aside0.mk (blk_below BK6.out hb)
    have n4_ := Aside0.mk (blk_below BK10.out hb)
    have n5_ := Aside0.mk (Go.Proofs.Ytomakpfmghekfaa.RowLaw.IR.below I6.out hb)
    have n6_ := Aside0.mk (U10.out.grow hb)
    have n7_ := Aside0.mk (Nat.le_trans ZL.out (Below.size hb))
    clear HB BK2 BK3 BK6 BK10 I6 U10 ZL
    have HB := n0_
    have BK2 := n1_
    have BK3 := n2_
    have BK6 := n3_
    have BK10 := n4_
    have I6 := n5_
    have U10 := n6_
    have ZL := n7_
    clear n0_ n1_ n2_ n3_ n4_ n5_ n6_ n7_
    have I1 := Aside0.mk i_
    have Z1 := Aside0.mk z_
    obtain ⟨B1_, d1_, e_⟩ := Kd.R_slice ho
    subst e_
    clear ho hb i_ z_
    refine hK.out _ _ ⟨BK2.out, BK3.out⟩ (fun hHeld => ?_)
    clear hK K
    refine norm_ (a' := ?_) ?_ ?_
    rotate_left; (show Act.put _ (some 96) _ = _; simp only [Act.put, sq1, sq2, sq3, i64_w, i32_w]; rfl)
    refine two_ (i := 3) (j := 8) (Ni := some 98) (Nj := some 15) #[true, true, true, true, false, false, false, false, false, false, false] #[true, true, true, false, false, false, false, false, true, false, false] rfl rfl rfl rfl (by kernel_rfl) (by decide) (by decide) (fun K hK => ?_) (fun K hK => ?_)
    ·refine goes_ Try.func8 (by kernel_rfl) rfl #[.agg #[.int .i64 y.f0, .int .i64 y.f1, .string y.f2, .slice A2 y.f3.length c2]] (by rfl) rfl rfl (by (try simp only [sm1, sm2, sm3]); first | done | rfl) ?_
     with_reducible refine (laws_toPattern.calls ky y.f0 y.f1 y.f2 A2 c2 y.f3 py.f0 py.f1 py.f2 py.f3 _ ?side1 LY3.out HTY.out).mono ?_
     (case side1 => exact Kd.C_below HY3.out HB.out)
     rintro e wc ⟨v2, rfl, ho, hb⟩
     refine ⟨_, rfl, ?_⟩
     obtain ⟨p2, q2, i_, z_⟩ : ∃ p q, Go.Proofs.Ytomakpfmghekfaa.RowLaw.IR k30 30 wc p q v2 py.f3 ∧ q ≤ wc.heap.size := ⟨_, _, Go.Proofs.Ytomakpfmghekfaa.RowLaw.IR.of ho, Nat.le_refl _⟩
     have n0_ := Aside0.mk (below_step HB.out hb)
     have n1_ := Aside0.mk (blk_below BK2.out hb)
     have n2_ := Aside0.mk (blk_below BK3.out hb)
     have n3_ := Aside0.mk (blk_below BK6.out hb)
     have n4_ := Aside0.mk (blk_below BK10.out hb)
     have n5_ := Aside0.mk (Go.Proofs.Ytomakpfmghekfaa.RowLaw.IR.below I6.out hb)
     have n6_ := Aside0.mk (U10.out.grow hb)
     have n7_ := Aside0.mk (Nat.le_trans ZL.out (Below.size hb))
     have n8_ := Aside0.mk (Go.Proofs.Ytomakpfmghekfaa.RowLaw.IR.below I1.out hb)
     have n9_ := Aside0.mk (Nat.le_trans Z1.out (Below.size hb))
     clear HB BK2 BK3 BK6 BK10 I6 U10 ZL I1 Z1
     have HB := n0_
     have BK2 := n1_
     have BK3 := n2_
     have BK6 := n3_
     have BK10 := n4_
     have I6 := n5_
     have U10 := n6_
     have ZL := n7_
     have I1 := n8_
     have Z1 := n9_
     clear n0_ n1_ n2_ n3_ n4_ n5_ n6_ n7_ n8_ n9_
     have I2 := Aside0.mk i_
     have Z2 := Aside0.mk z_
     obtain ⟨B2_, d2_, e_⟩ := Kd.R_slice ho
     subst e_
     clear ho hb i_ z_
     refine hK.out _ _ ⟨BK2.out, BK3.out⟩ (fun hHeld => ?_)
     clear hK K
     refine norm_ (a' := ?_) ?_ ?_
     rotate_left; (show Act.put _ (some 98) _ = _; simp only [Act.put, sq1, sq2, sq3, i64_w, i32_w]; rfl)
     refine two_ (i := 4) (j := 8) (Ni := some 99) (Nj := some 15) #[true, true, true, true, true, false, false, false, false, false, false] #[true, true, true, true, false, false, false, false, true, false, false] rfl rfl rfl rfl (by kernel_rfl) (by decide) (by decide) (fun K hK => ?_) (fun K hK => ?_)
     ·refine goes_ Try.func19 (by kernel_rfl) rfl #[.agg #[.int .i64 px.f0, .int .i64 px.f1, .string px.f2, .slice B1_ px.f3.length d1_], .agg #[.int .i64 py.f0, .int .i64 py.f1, .string py.f2, .slice B2_ py.f3.length d2_]] (by rfl) rfl rfl (by (try simp only [sm1, sm2, sm3]); first | done | rfl) ?_
      with_reducible refine (impl_jp px py FX.out FY.out HCC.out B1_ d1_ (fun k => p1 ≤ k ∧ k < q1) B2_ d2_ (fun k => p2 ≤ k ∧ k < q2) _ ?side1 ?side2 ?side3).mono ?_
      (case side1 => exact T.of_R _ _ (Nat.le_refl _) _ I1.out)
      (case side2 => exact T.of_R _ _ (Nat.le_refl _) _ I2.out)
      (case side3 => exact fun k hk => hk.elim (fun h => Nat.lt_of_lt_of_le h.2 Z1.out) (fun h => Nat.lt_of_lt_of_le h.2 Z2.out))
      rintro e wc ⟨v15, he, B15, hT, hQ, hb⟩; rw [HSX.out, HSB.out] at he; rw [HSX.out] at hT; subst he
      refine ⟨_, rfl, ?_⟩
      have NL := Aside0.mk (fun k hk => (hQ k hk).2)
      have n0_ := Aside0.mk (below_step HB.out hb)
      have n1_ := Aside0.mk (blk_below BK2.out hb)
      have n2_ := Aside0.mk (blk_below BK3.out hb)
      have n3_ := Aside0.mk (blk_below BK6.out hb)
      have n4_ := Aside0.mk (blk_below BK10.out hb)
      have n5_ := Aside0.mk (Go.Proofs.Ytomakpfmghekfaa.RowLaw.IR.below I6.out hb)
      have n6_ := Aside0.mk (U10.out.grow hb)
      have n7_ := Aside0.mk (Nat.le_trans ZL.out (Below.size hb))
      clear HB BK2 BK3 BK6 BK10 I6 U10 ZL
      have HB := n0_
      have BK2 := n1_
      have BK3 := n2_
      have BK6 := n3_
      have BK10 := n4_
      have I6 := n5_
      have U10 := n6_
      have ZL := n7_
      clear n0_ n1_ n2_ n3_ n4_ n5_ n6_ n7_
      obtain ⟨A15, c15, e_, _⟩ := hT.inv
      subst e_
      have U15 := Aside0.mk hT
      clear hT hQ hb I1 Z1 I2 Z2
      refine hK.out _ _ ⟨BK2.out, BK3.out⟩ (fun hHeld => ?_)
      clear hK K
      refine norm_ (a' := ?_) ?_ ?_
      rotate_left; (show Act.put _ (some 99) _ = _; simp only [Act.put, sq1, sq2, sq3, i64_w, i32_w]; rfl)
      refine pure_ (i := 5) (N := some 94) (v := ?_) (a' := ?_) #[true, true, true, true, true, true, false, false, false, false, false] rfl rfl (by kernel_rfl) (fun _ _ _ h => h) (Or.inl ⟨by rfl, ?_⟩) ?_ ?_
      rotate_left; (intro w'; go_simp; with_reducible rfl)
      rotate_left; (simp only [Act.put, sq1, sq2, sq3, i64_w, i32_w]; rfl)
      refine pure_ (i := 6) (N := some 100) (v := ?_) (a' := ?_) #[true, true, true, true, true, true, true, false, false, false, false] rfl rfl (by kernel_rfl) (fun _ _ _ h => h) (Or.inl ⟨by rfl, ?_⟩) ?_ ?_
      rotate_left; (intro w'; go_simp; with_reducible rfl)
      rotate_left; (simp only [Act.put, sq1, sq2, sq3, i64_w, i32_w]; rfl)
      refine pure_ (i := 7) (N := some 101) (v := ?_) (a' := ?_) #[true, true, true, true, true, true, true, true, false, false, false] rfl rfl (by kernel_rfl) (fun _ _ _ h => h) (Or.inl ⟨by rfl, ?_⟩) ?_ ?_
      rotate_left; (intro w'; go_simp; with_reducible rfl)
      rotate_left; (simp only [Act.put, sq1, sq2, sq3, i64_w, i32_w]; rfl)
      refine one_ (i := 8) (N := some 15) #[true, true, true, true, true, true, true, true, true, false, false] rfl rfl (by kernel_rfl) (by decide) (fun K hK => ?_)
      refine new_step 30 [.int .i64 0, .int .i64 0, .string (⟨#[]⟩ : ByteArray), .slice none 0 0] (fun m => .pointer (some ⟨m, 0, none⟩)) rfl rfl ?hr ?_
      (case hr => first | (go_simp; done) | (go_simp; rfl))
      intro wn g15 hm hn hb
      have BN := Aside0.mk hn
      have GE := Aside0.mk (show w.heap.size ≤ g15 ∧ L1 ≤ g15 from by have := HB.out.size; have := ZL.out; omega)
      have NE15 := Aside0.mk (show ∀ k, B15 k → k ≠ g15 from fun k hk he => absurd (NL.out k hk) (by omega))
      clear NL
      have n0_ := Aside0.mk (below_step HB.out hb)
      have n1_ := Aside0.mk (blk_below BK2.out hb)
      have n2_ := Aside0.mk (blk_below BK3.out hb)
      have n3_ := Aside0.mk (blk_below BK6.out hb)
      have n4_ := Aside0.mk (blk_below BK10.out hb)
      have n5_ := Aside0.mk (Go.Proofs.Ytomakpfmghekfaa.RowLaw.IR.below I6.out hb)
      have n6_ := Aside0.mk (U10.out.grow hb)
      have n7_ := Aside0.mk (Nat.le_trans ZL.out (Below.size hb))
      have n8_ := Aside0.mk (U15.out.grow hb)
      clear HB BK2 BK3 BK6 BK10 I6 U10 ZL U15
      have HB := n0_
      have BK2 := n1_
      have BK3 := n2_
      have BK6 := n3_
      have BK10 := n4_
      have I6 := n5_
      have U10 := n6_
      have ZL := n7_
      have U15 := n8_
      clear n0_ n1_ n2_ n3_ n4_ n5_ n6_ n7_ n8_
      have BK15 := BN
      clear BN
      clear hm hn hb
      refine hK.out _ _ ⟨BK2.out, BK3.out⟩ (fun hHeld => ?_)
      clear hK K
      refine norm_ (a' := ?_) ?_ ?_
      rotate_left; (show Act.put _ (some 15) _ = _; simp only [Act.put, sq1, sq2, sq3, i64_w, i32_w]; rfl)
      have hq := hJ (.agg #[.int .i64 px.f0, .int .i64 px.f1, .string px.f2, .slice B1_ px.f3.length d1_], .agg #[.int .i64 py.f0, .int .i64 py.f1, .string py.f2, .slice B2_ py.f3.length d2_], A15, c15, g15) _ ⟨HB, BK2, BK3, BK15, GE, BK6, BK10, I6, U10, B15, U15, NE15⟩
      simp only [putAll, Act.put, sq1, sq2, sq3, i64_w, i32_w] at hq
      exact hq
     ·refine new_step 30 [.int .i64 0, .int .i64 0, .string (⟨#[]⟩ : ByteArray), .slice none 0 0] (fun m => .pointer (some ⟨m, 0, none⟩)) rfl rfl ?hr ?_
      (case hr => first | (go_simp; done) | (go_simp; rfl))
      intro wn g15 hm hn hb
      have BN := Aside0.mk hn
      have GE := Aside0.mk (show w.heap.size ≤ g15 ∧ L1 ≤ g15 from by have := HB.out.size; have := ZL.out; omega)
      have n0_ := Aside0.mk (below_step HB.out hb)
      have n1_ := Aside0.mk (blk_below BK2.out hb)
      have n2_ := Aside0.mk (blk_below BK3.out hb)
      have n3_ := Aside0.mk (blk_below BK6.out hb)
      have n4_ := Aside0.mk (blk_below BK10.out hb)
      have n5_ := Aside0.mk (Go.Proofs.Ytomakpfmghekfaa.RowLaw.IR.below I6.out hb)
      have n6_ := Aside0.mk (U10.out.grow hb)
      have n7_ := Aside0.mk (Nat.le_trans ZL.out (Below.size hb))
      have n8_ := Aside0.mk (Go.Proofs.Ytomakpfmghekfaa.RowLaw.IR.below I1.out hb)
      have n9_ := Aside0.mk (Nat.le_trans Z1.out (Below.size hb))
      have n10_ := Aside0.mk (Go.Proofs.Ytomakpfmghekfaa.RowLaw.IR.below I2.out hb)
      have n11_ := Aside0.mk (Nat.le_trans Z2.out (Below.size hb))
      clear HB BK2 BK3 BK6 BK10 I6 U10 ZL I1 Z1 I2 Z2
      have HB := n0_
      have BK2 := n1_
      have BK3 := n2_
      have BK6 := n3_
      have BK10 := n4_
      have I6 := n5_
      have U10 := n6_
      have ZL := n7_
      have I1 := n8_
      have Z1 := n9_
      have I2 := n10_
      have Z2 := n11_
      clear n0_ n1_ n2_ n3_ n4_ n5_ n6_ n7_ n8_ n9_ n10_ n11_
      have BK15 := BN
      clear BN
      clear hm hn hb
      refine hK.out _ _ ⟨BK2.out, BK3.out⟩ (fun hHeld => ?_)
      clear hK K
      refine norm_ (a' := ?_) ?_ ?_
      rotate_left; (show Act.put _ (some 15) _ = _; simp only [Act.put, sq1, sq2, sq3, i64_w, i32_w]; rfl)
      refine one_ (i := 4) (N := some 99) #[true, true, true, true, true, false, false, false, true, false, false] rfl rfl (by kernel_rfl) (by decide) (fun K hK => ?_)
      refine goes_ Try.func19 (by kernel_rfl) rfl #[.agg #[.int .i64 px.f0, .int .i64 px.f1, .string px.f2, .slice B1_ px.f3.length d1_], .agg #[.int .i64 py.f0, .int .i64 py.f1, .string py.f2, .slice B2_ py.f3.length d2_]] (by rfl) rfl rfl (by (try simp only [sm1, sm2, sm3]); first | done | rfl) ?_
      with_reducible refine (impl_jp px py FX.out FY.out HCC.out B1_ d1_ (fun k => p1 ≤ k ∧ k < q1) B2_ d2_ (fun k => p2 ≤ k ∧ k < q2) _ ?side1 ?side2 ?side3).mono ?_
      (case side1 => exact T.of_R _ _ (Nat.le_refl _) _ I1.out)
      (case side2 => exact T.of_R _ _ (Nat.le_refl _) _ I2.out)
      (case side3 => exact fun k hk => hk.elim (fun h => Nat.lt_of_lt_of_le h.2 Z1.out) (fun h => Nat.lt_of_lt_of_le h.2 Z2.out))
      rintro e wc ⟨v15, he, B15, hT, hQ, hb⟩; rw [HSX.out, HSB.out] at he; rw [HSX.out] at hT; subst he
      refine ⟨_, rfl, ?_⟩
      have NE15 := Aside0.mk (show ∀ k, B15 k → k ≠ g15 from fun k hk he => absurd (blk_lt BK15.out) (by have := (hQ k hk).1; omega))
      have n0_ := Aside0.mk (below_step HB.out hb)
      have n1_ := Aside0.mk (blk_below BK2.out hb)
      have n2_ := Aside0.mk (blk_below BK3.out hb)
      have n3_ := Aside0.mk (blk_below BK6.out hb)
      have n4_ := Aside0.mk (blk_below BK10.out hb)
      have n5_ := Aside0.mk (Go.Proofs.Ytomakpfmghekfaa.RowLaw.IR.below I6.out hb)
      have n6_ := Aside0.mk (U10.out.grow hb)
      have n7_ := Aside0.mk (Nat.le_trans ZL.out (Below.size hb))
      have n8_ := Aside0.mk (blk_below BK15.out hb)
      clear HB BK2 BK3 BK6 BK10 I6 U10 ZL BK15
      have HB := n0_
      have BK2 := n1_
      have BK3 := n2_
      have BK6 := n3_
      have BK10 := n4_
      have I6 := n5_
      have U10 := n6_
      have ZL := n7_
      have BK15 := n8_
      clear n0_ n1_ n2_ n3_ n4_ n5_ n6_ n7_ n8_
      obtain ⟨A15, c15, e_, _⟩ := hT.inv
      subst e_
      have U15 := Aside0.mk hT
      clear hT hQ hb I1 Z1 I2 Z2
      refine hK.out _ _ ⟨BK2.out, BK3.out⟩ (fun hHeld => ?_)
      clear hK K
      refine norm_ (a' := ?_) ?_ ?_
      rotate_left; (show Act.put _ (some 99) _ = _; simp only [Act.put, sq1, sq2, sq3, i64_w, i32_w]; rfl)
      refine pure_ (i := 5) (N := some 94) (v := ?_) (a' := ?_) #[true, true, true, true, true, true, false, false, true, false, false] rfl rfl (by kernel_rfl) (fun _ _ _ h => h) (Or.inl ⟨by rfl, ?_⟩) ?_ ?_
      rotate_left; (intro w'; go_simp; with_reducible rfl)
      rotate_left; (simp only [Act.put, sq1, sq2, sq3, i64_w, i32_w]; rfl)
      refine pure_ (i := 6) (N := some 100) (v := ?_) (a' := ?_) #[true, true, true, true, true, true, true, false, true, false, false] rfl rfl (by kernel_rfl) (fun _ _ _ h => h) (Or.inl ⟨by rfl, ?_⟩) ?_ ?_
      rotate_left; (intro w'; go_simp; with_reducible rfl)
      rotate_left; (simp only [Act.put, sq1, sq2, sq3, i64_w, i32_w]; rfl)
      refine pure_ (i := 7) (N := some 101) (v := ?_) (a' := ?_) #[true, true, true, true, true, true, true, true, true, false, false] rfl rfl (by kernel_rfl) (fun _ _ _ h => h) (Or.inl ⟨by rfl, ?_⟩) ?_ ?_
      rotate_left; (intro w'; go_simp; with_reducible rfl)
      rotate_left; (simp only [Act.put, sq1, sq2, sq3, i64_w, i32_w]; rfl)
      have hq := hJ (.agg #[.int .i64 px.f0, .int .i64 px.f1, .string px.f2, .slice B1_ px.f3.length d1_], .agg #[.int .i64 py.f0, .int .i64 py.f1, .string py.f2, .slice B2_ py.f3.length d2_], A15, c15, g15) _ ⟨HB, BK2, BK3, BK15, GE, BK6, BK10, I6, U10, B15, U15, NE15⟩
      simp only [putAll, Act.put, sq1, sq2, sq3, i64_w, i32_w] at hq
      exact hq
    ·refine new_step 30 [.int .i64 0, .int .i64 0, .string (⟨#[]⟩ : ByteArray), .slice none 0 0] (fun m => .pointer (some ⟨m, 0, none⟩)) rfl rfl ?hr ?_
     (case hr => first | (go_simp; done) | (go_simp; rfl))
     intro wn g15 hm hn hb
     have BN := Aside0.mk hn
     have GE := Aside0.mk (show w.heap.size ≤ g15 ∧ L1 ≤ g15 from by have := HB.out.size; have := ZL.out; omega)
     have n0_ := Aside0.mk (below_step HB.out hb)
     have n1_ := Aside0.mk (blk_below BK2.out hb)
     have n2_ := Aside0.mk (blk_below BK3.out hb)
     have n3_ := Aside0.mk (blk_below BK6.out hb)
     have n4_ := Aside0.mk (blk_below BK10.out hb)
     have n5_ := Aside0.mk (Go.Proofs.Ytomakpfmghekfaa.RowLaw.IR.below I6.out hb)
     have n6_ := Aside0.mk (U10.out.grow hb)
     have n7_ := Aside0.mk (Nat.le_trans ZL.out (Below.size hb))
     have n8_ := Aside0.mk (Go.Proofs.Ytomakpfmghekfaa.RowLaw.IR.below I1.out hb)
     have n9_ := Aside0.mk (Nat.le_trans Z1.out (Below.size hb))
     clear HB BK2 BK3 BK6 BK10 I6 U10 ZL I1 Z1
     have HB := n0_
     have BK2 := n1_
     have BK3 := n2_
     have BK6 := n3_
     have BK10 := n4_
     have I6 := n5_
     have U10 := n6_
     have ZL := n7_
     have I1 := n8_
     have Z1 := n9_
     clear n0_ n1_ n2_ n3_ n4_ n5_ n6_ n7_ n8_ n9_
     have BK15 := BN
     clear BN
     clear hm hn hb
     refine hK.out _ _ ⟨BK2.out, BK3.out⟩ (fun hHeld => ?_)
     clear hK K
     refine norm_ (a' := ?_) ?_ ?_
     rotate_left; (show Act.put _ (some 15) _ = _; simp only [Act.put, sq1, sq2, sq3, i64_w, i32_w]; rfl)
     refine one_ (i := 3) (N := some 98) #[true, true, true, true, false, false, false, false, true, false, false] rfl rfl (by kernel_rfl) (by decide) (fun K hK => ?_)
     refine goes_ Try.func8 (by kernel_rfl) rfl #[.agg #[.int .i64 y.f0, .int .i64 y.f1, .string y.f2, .slice A2 y.f3.length c2]] (by rfl) rfl rfl (by (try simp only [sm1, sm2, sm3]); first | done | rfl) ?_
     with_reducible refine (laws_toPattern.calls ky y.f0 y.f1 y.f2 A2 c2 y.f3 py.f0 py.f1 py.f2 py.f3 _ ?side1 LY3.out HTY.out).mono ?_
     (case side1 => exact Kd.C_below HY3.out HB.out)
     rintro e wc ⟨v2, rfl, ho, hb⟩
     refine ⟨_, rfl, ?_⟩
     obtain ⟨p2, q2, i_, z_⟩ : ∃ p q, Go.Proofs.Ytomakpfmghekfaa.RowLaw.IR k30 30 wc p q v2 py.f3 ∧ q ≤ wc.heap.size := ⟨_, _, Go.Proofs.Ytomakpfmghekfaa.RowLaw.IR.of ho, Nat.le_refl _⟩
     have n0_ := Aside0.mk (below_step HB.out hb)
     have n1_ := Aside0.mk (blk_below BK2.out hb)
     have n2_ := Aside0.mk (blk_below BK3.out hb)
     have n3_ := Aside0.mk (blk_below BK6.out hb)
     have n4_ := Aside0.mk (blk_below BK10.out hb)
     have n5_ := Aside0.mk (Go.Proofs.Ytomakpfmghekfaa.RowLaw.IR.below I6.out hb)
     have n6_ := Aside0.mk (U10.out.grow hb)
     have n7_ := Aside0.mk (Nat.le_trans ZL.out (Below.size hb))
     have n8_ := Aside0.mk (blk_below BK15.out hb)
     have n9_ := Aside0.mk (Go.Proofs.Ytomakpfmghekfaa.RowLaw.IR.below I1.out hb)
     have n10_ := Aside0.mk (Nat.le_trans Z1.out (Below.size hb))
     clear HB BK2 BK3 BK6 BK10 I6 U10 ZL BK15 I1 Z1
     have HB := n0_
     have BK2 := n1_
     have BK3 := n2_
     have BK6 := n3_
     have BK10 := n4_
     have I6 := n5_
     have U10 := n6_
     have ZL := n7_
     have BK15 := n8_
     have I1 := n9_
     have Z1 := n10_
     clear n0_ n1_ n2_ n3_ n4_ n5_ n6_ n7_ n8_ n9_ n10_
     have I2 := Aside0.mk i_
     have Z2 := Aside0.mk z_
     obtain ⟨B2_, d2_, e_⟩ := Kd.R_slice ho
     subst e_
     clear ho hb i_ z_
     refine hK.out _ _ ⟨BK2.out, BK3.out⟩ (fun hHeld => ?_)
     clear hK K
     refine norm_ (a' := ?_) ?_ ?_
     rotate_left; (show Act.put _ (some 98) _ = _; simp only [Act.put, sq1, sq2, sq3, i64_w, i32_w]; rfl)
     refine one_ (i := 4) (N := some 99) #[true, true, true, true, true, false, false, false, true, false, false] rfl rfl (by kernel_rfl) (by decide) (fun K hK => ?_)
     refine goes_ Try.func19 (by kernel_rfl) rfl #[.agg #[.int .i64 px.f0, .int .i64 px.f1, .string px.f2, .slice B1_ px.f3.length d1_], .agg #[.int .i64 py.f0, .int .i64 py.f1, .string py.f2, .slice B2_ py.f3.length d2_]] (by rfl) rfl rfl (by (try simp only [sm1, sm2, sm3]); first | done | rfl) ?_
     with_reducible refine (impl_jp px py FX.out FY.out HCC.out B1_ d1_ (fun k => p1 ≤ k ∧ k < q1) B2_ d2_ (fun k => p2 ≤ k ∧ k < q2) _ ?side1 ?side2 ?side3).mono ?_
     (case side1 => exact T.of_R _ _ (Nat.le_refl _) _ I1.out)
     (case side2 => exact T.of_R _ _ (Nat.le_refl _) _ I2.out)
     (case side3 => exact fun k hk => hk.elim (fun h => Nat.lt_of_lt_of_le h.2 Z1.out) (fun h => Nat.lt_of_lt_of_le h.2 Z2.out))
     rintro e wc ⟨v15, he, B15, hT, hQ, hb⟩; rw [HSX.out, HSB.out] at he; rw [HSX.out] at hT; subst he
     refine ⟨_, rfl, ?_⟩
     have NE15 := Aside0.mk (show ∀ k, B15 k → k ≠ g15 from fun k hk he => absurd (blk_lt BK15.out) (by have := (hQ k hk).1; omega))
     have n0_ := Aside0.mk (below_step HB.out hb)
     have n1_ := Aside0.mk (blk_below BK2.out hb)
     have n2_ := Aside0.mk (blk_below BK3.out hb)
     have n3_ := Aside0.mk (blk_below BK6.out hb)
     have n4_ := Aside0.mk (blk_below BK10.out hb)
     have n5_ := Aside0.mk (Go.Proofs.Ytomakpfmghekfaa.RowLaw.IR.below I6.out hb)
     have n6_ := Aside0.mk (U10.out.grow hb)
     have n7_ := Aside0.mk (Nat.le_trans ZL.out (Below.size hb))
     have n8_ := Aside0.mk (blk_below BK15.out hb)
     clear HB BK2 BK3 BK6 BK10 I6 U10 ZL BK15
     have HB := n0_
     have BK2 := n1_
     have BK3 := n2_
     have BK6 := n3_
     have BK10 := n4_
     have I6 := n5_
     have U10 := n6_
     have ZL := n7_
     have BK15 := n8_
     clear n0_ n1_ n2_ n3_ n4_ n5_ n6_ n7_ n8_
     obtain ⟨A15, c15, e_, _⟩ := hT.inv
     subst e_
     have U15 := Aside0.mk hT
     clear hT hQ hb I1 Z1 I2 Z2
     refine hK.out _ _ ⟨BK2.out, BK3.out⟩ (fun hHeld => ?_)
     clear hK K
     refine norm_ (a' := ?_) ?_ ?_
     rotate_left; (show Act.put _ (some 99) _ = _; simp only [Act.put, sq1, sq2, sq3, i64_w, i32_w]; rfl)
     refine pure_ (i := 5) (N := some 94) (v := ?_) (a' := ?_) #[true, true, true, true, true, true, false, false, true, false, false] rfl rfl (by kernel_rfl) (fun _ _ _ h => h) (Or.inl ⟨by rfl, ?_⟩) ?_ ?_
     rotate_left; (intro w'; go_simp; with_reducible rfl)
     rotate_left; (simp only [Act.put, sq1, sq2, sq3, i64_w, i32_w]; rfl)
     refine pure_ (i := 6) (N := some 100) (v := ?_) (a' := ?_) #[true, true, true, true, true, true, true, false, true, false, false] rfl rfl (by kernel_rfl) (fun _ _ _ h => h) (Or.inl ⟨by rfl, ?_⟩) ?_ ?_
     rotate_left; (intro w'; go_simp; with_reducible rfl)
     rotate_left; (simp only [Act.put, sq1, sq2, sq3, i64_w, i32_w]; rfl)
     refine pure_ (i := 7) (N := some 101) (v := ?_) (a' := ?_) #[true, true, true, true, true, true, true, true, true, false, false] rfl rfl (by kernel_rfl) (fun _ _ _ h => h) (Or.inl ⟨by rfl, ?_⟩) ?_ ?_
     rotate_left; (intro w'; go_simp; with_reducible rfl)
     rotate_left; (simp only [Act.put, sq1, sq2, sq3, i64_w, i32_w]; rfl)
     have hq := hJ (.agg #[.int .i64 px.f0, .int .i64 px.f1, .string px.f2, .slice B1_ px.f3.length d1_], .agg #[.int .i64 py.f0, .int .i64 py.f1, .string py.f2, .slice B2_ py.f3.length d2_], A15, c15, g15) _ ⟨HB, BK2, BK3, BK15, GE, BK6, BK10, I6, U10, B15, U15, NE15⟩
     simp only [putAll, Act.put, sq1, sq2, sq3, i64_w, i32_w] at hq
     exact hq
   ·refine new_step 30 [.int .i64 0, .int .i64 0, .string (⟨#[]⟩ : ByteArray), .slice none 0 0] (fun m => .pointer (some ⟨m, 0, none⟩)) rfl rfl ?hr ?_
    (case hr => first | (go_simp; done) | (go_simp; rfl))
    intro wn g15 hm hn hb
    have BN := Aside0.mk hn
    have GE := Aside0.mk (show w.heap.size ≤ g15 ∧ L1 ≤ g15 from by have := HB.out.size; have := ZL.out; omega)
    have n0_ := Aside0.mk (below_step HB.out hb)
    have n1_ := Aside0.mk (blk_below BK2.out hb)
    have n2_ := Aside0.mk (blk_below BK3.out hb)
    have n3_ := Aside0.mk (blk_below BK6.out hb)
    have n4_ := Aside0.mk (blk_below BK10.out hb)
    have n5_ := Aside0.mk (Go.Proofs.Ytomakpfmghekfaa.RowLaw.IR.below I6.out hb)
    have n6_ := Aside0.mk (U10.out.grow hb)
    have n7_ := Aside0.mk (Nat.le_trans ZL.out (Below.size hb))
    clear HB BK2 BK3 BK6 BK10 I6 U10 ZL
    have HB := n0_
    have BK2 := n1_
    have BK3 := n2_
    have BK6 := n3_
    have BK10 := n4_
    have I6 := n5_
    have U10 := n6_
    have ZL := n7_
    clear n0_ n1_ n2_ n3_ n4_ n5_ n6_ n7_
    have BK15 := BN
    clear BN
    clear hm hn hb
    refine hK.out _ _ ⟨BK2.out, BK3.out⟩ (fun hHeld => ?_)
    clear hK K
    refine norm_ (a' := ?_) ?_ ?_
    rotate_left; (show Act.put _ (some 15) _ = _; simp only [Act.put, sq1, sq2, sq3, i64_w, i32_w]; rfl)
    refine one_ (i := 1) (N := some 96) #[true, true, true, false, false, false, false, false, true, false, false] rfl rfl (by kernel_rfl) (by decide) (fun K hK => ?_)
    refine goes_ Try.func8 (by kernel_rfl) rfl #[.agg #[.int .i64 x.f0, .int .i64 x.f1, .string x.f2, .slice A1 x.f3.length c1]] (by rfl) rfl rfl (by (try simp only [sm1, sm2, sm3]); first | done | rfl) ?_
    with_reducible refine (laws_toPattern.calls kx x.f0 x.f1 x.f2 A1 c1 x.f3 px.f0 px.f1 px.f2 px.f3 _ ?side1 LX3.out HTX.out).mono ?_
    (case side1 => exact Kd.C_below HX3.out HB.out)
    rintro e wc ⟨v1, rfl, ho, hb⟩
    refine ⟨_, rfl, ?_⟩
    obtain ⟨p1, q1, i_, z_⟩ : ∃ p q, Go.Proofs.Ytomakpfmghekfaa.RowLaw.IR k30 30 wc p q v1 px.f3 ∧ q ≤ wc.heap.size := ⟨_, _, Go.Proofs.Ytomakpfmghekfaa.RowLaw.IR.of ho, Nat.le_refl _⟩
    have n0_ := Aside0.mk (below_step HB.out hb)
    have n1_ := Aside0.mk (blk_below BK2.out hb)
    have n2_ := Aside0.mk (blk_below BK3.out hb)
    have n3_ := Aside0.mk (blk_below BK6.out hb)
    have n4_ := Aside0.mk (blk_below BK10.out hb)
    have n5_ := Aside0.mk (Go.Proofs.Ytomakpfmghekfaa.RowLaw.IR.below I6.out hb)
    have n6_ := Aside0.mk (U10.out.grow hb)
    have n7_ := Aside0.mk (Nat.le_trans ZL.out (Below.size hb))
    have n8_ := Aside0.mk (blk_below BK15.out hb)
    clear HB BK2 BK3 BK6 BK10 I6 U10 ZL BK15
    have HB := n0_
    have BK2 := n1_
    have BK3 := n2_
    have BK6 := n3_
    have BK10 := n4_
    have I6 := n5_
    have U10 := n6_
    have ZL := n7_
    have BK15 := n8_
    clear n0_ n1_ n2_ n3_ n4_ n5_ n6_ n7_ n8_
    have I1 := Aside0.mk i_
    have Z1 := Aside0.mk z_
    obtain ⟨B1_, d1_, e_⟩ := Kd.R_slice ho
    subst e_
    clear ho hb i_ z_
    refine hK.out _ _ ⟨BK2.out, BK3.out⟩ (fun hHeld => ?_)
    clear hK K
    refine norm_ (a' := ?_) ?_ ?_
    rotate_left; (show Act.put _ (some 96) _ = _; simp only [Act.put, sq1, sq2, sq3, i64_w, i32_w]; rfl)
    refine one_ (i := 3) (N := some 98) #[true, true, true, true, false, false, false, false, true, false, false] rfl rfl (by kernel_rfl) (by decide) (fun K hK => ?_)
    refine goes_ Try.func8 (by kernel_rfl) rfl #[.agg #[.int .i64 y.f0, .int .i64 y.f1, .string y.f2, .slice A2 y.f3.length c2]] (by rfl) rfl rfl (by (try simp only [sm1, sm2, sm3]); first | done | rfl) ?_
    with_reducible refine (laws_toPattern.calls ky y.f0 y.f1 y.f2 A2 c2 y.f3 py.f0 py.f1 py.f2 py.f3 _ ?side1 LY3.out HTY.out).mono ?_
    (case side1 => exact Kd.C_below HY3.out HB.out)
    rintro e wc ⟨v2, rfl, ho, hb⟩
    refine ⟨_, rfl, ?_⟩
    obtain ⟨p2, q2, i_, z_⟩ : ∃ p q, Go.Proofs.Ytomakpfmghekfaa.RowLaw.IR k30 30 wc p q v2 py.f3 ∧ q ≤ wc.heap.size := ⟨_, _, Go.Proofs.Ytomakpfmghekfaa.RowLaw.IR.of ho, Nat.le_refl _⟩
    have n0_ := Aside0.mk (below_step HB.out hb)
    have n1_ := Aside0.mk (blk_below BK2.out hb)
    have n2_ := Aside0.mk (blk_below BK3.out hb)
    have n3_ := Aside0.mk (blk_below BK6.out hb)
    have n4_ := Aside0.mk (blk_below BK10.out hb)
    have n5_ := Aside0.mk (Go.Proofs.Ytomakpfmghekfaa.RowLaw.IR.below I6.out hb)
    have n6_ := Aside0.mk (U10.out.grow hb)
    have n7_ := Aside0.mk (Nat.le_trans ZL.out (Below.size hb))
    have n8_ := Aside0.mk (blk_below BK15.out hb)
    have n9_ := Aside0.mk (Go.Proofs.Ytomakpfmghekfaa.RowLaw.IR.below I1.out hb)
    have n10_ := Aside0.mk (Nat.le_trans Z1.out (Below.size hb))
    clear HB BK2 BK3 BK6 BK10 I6 U10 ZL BK15 I1 Z1
    have HB := n0_
    have BK2 := n1_
    have BK3 := n2_
    have BK6 := n3_
    have BK10 := n4_
    have I6 := n5_
    have U10 := n6_
    have ZL := n7_
    have BK15 := n8_
    have I1 := n9_
    have Z1 := n10_
    clear n0_ n1_ n2_ n3_ n4_ n5_ n6_ n7_ n8_ n9_ n10_
    have I2 := Aside0.mk i_
    have Z2 := Aside0.mk z_
    obtain ⟨B2_, d2_, e_⟩ := Kd.R_slice ho
    subst e_
    clear ho hb i_ z_
    refine hK.out _ _ ⟨BK2.out, BK3.out⟩ (fun hHeld => ?_)
    clear hK K
    refine norm_ (a' := ?_) ?_ ?_
    rotate_left; (show Act.put _ (some 98) _ = _; simp only [Act.put, sq1, sq2, sq3, i64_w, i32_w]; rfl)
    refine one_ (i := 4) (N := some 99) #[true, true, true, true, true, false, false, false, true, false, false] rfl rfl (by kernel_rfl) (by decide) (fun K hK => ?_)
    refine goes_ Try.func19 (by kernel_rfl) rfl #[.agg #[.int .i64 px.f0, .int .i64 px.f1, .string px.f2, .slice B1_ px.f3.length d1_], .agg #[.int .i64 py.f0, .int .i64 py.f1, .string py.f2, .slice B2_ py.f3.length d2_]] (by rfl) rfl rfl (by (try simp only [sm1, sm2, sm3]); first | done | rfl) ?_
    with_reducible refine (impl_jp px py FX.out FY.out HCC.out B1_ d1_ (fun k => p1 ≤ k ∧ k < q1) B2_ d2_ (fun k => p2 ≤ k ∧ k < q2) _ ?side1 ?side2 ?side3).mono ?_
    (case side1 => exact T.of_R _ _ (Nat.le_refl _) _ I1.out)
    (case side2 => exact T.of_R _ _ (Nat.le_refl _) _ I2.out)
    (case side3 => exact fun k hk => hk.elim (fun h => Nat.lt_of_lt_of_le h.2 Z1.out) (fun h => Nat.lt_of_lt_of_le h.2 Z2.out))
    rintro e wc ⟨v15, he, B15, hT, hQ, hb⟩; rw [HSX.out, HSB.out] at he; rw [HSX.out] at hT; subst he
    refine ⟨_, rfl, ?_⟩
    have NE15 := Aside0.mk (show ∀ k, B15 k → k ≠ g15 from fun k hk he => absurd (blk_lt BK15.out) (by have := (hQ k hk).1; omega))
    have n0_ := Aside0.mk (below_step HB.out hb)
    have n1_ := Aside0.mk (blk_below BK2.out hb)
    have n2_ := Aside0.mk (blk_below BK3.out hb)
    have n3_ := Aside0.mk (blk_below BK6.out hb)
    have n4_ := Aside0.mk (blk_below BK10.out hb)
    have n5_ := Aside0.mk (Go.Proofs.Ytomakpfmghekfaa.RowLaw.IR.below I6.out hb)
    have n6_ := Aside0.mk (U10.out.grow hb)
    have n7_ := Aside0.mk (Nat.le_trans ZL.out (Below.size hb))
    have n8_ := Aside0.mk (blk_below BK15.out hb)
    clear HB BK2 BK3 BK6 BK10 I6 U10 ZL BK15
    have HB := n0_
    have BK2 := n1_
    have BK3 := n2_
    have BK6 := n3_
    have BK10 := n4_
    have I6 := n5_
    have U10 := n6_
    have ZL := n7_
    have BK15 := n8_
    clear n0_ n1_ n2_ n3_ n4_ n5_ n6_ n7_ n8_
    obtain ⟨A15, c15, e_, _⟩ := hT.inv
    subst e_
    have U15 := Aside0.mk hT
    clear hT hQ hb I1 Z1 I2 Z2
    refine hK.out _ _ ⟨BK2.out, BK3.out⟩ (fun hHeld => ?_)
    clear hK K
    refine norm_ (a' := ?_) ?_ ?_
    rotate_left; (show Act.put _ (some 99) _ = _; simp only [Act.put, sq1, sq2, sq3, i64_w, i32_w]; rfl)
    refine pure_ (i := 5) (N := some 94) (v := ?_) (a' := ?_) #[true, true, true, true, true, true, false, false, true, false, false] rfl rfl (by kernel_rfl) (fun _ _ _ h => h) (Or.inl ⟨by rfl, ?_⟩) ?_ ?_
    rotate_left; (intro w'; go_simp; with_reducible rfl)
    rotate_left; (simp only [Act.put, sq1, sq2, sq3, i64_w, i32_w]; rfl)
    refine pure_ (i := 6) (N := some 100) (v := ?_) (a' := ?_) #[true, true, true, true, true, true, true, false, true, false, false] rfl rfl (by kernel_rfl) (fun _ _ _ h => h) (Or.inl ⟨by rfl, ?_⟩) ?_ ?_
    rotate_left; (intro w'; go_simp; with_reducible rfl)
    rotate_left; (simp only [Act.put, sq1, sq2, sq3, i64_w, i32_w]; rfl)
    refine pure_ (i := 7) (N := some 101) (v := ?_) (a' := ?_) #[true, true, true, true, true, true, true, true, true, false, false] rfl rfl (by kernel_rfl) (fun _ _ _ h => h) (Or.inl ⟨by rfl, ?_⟩) ?_ ?_
    rotate_left; (intro w'; go_simp; with_reducible rfl)
    rotate_left; (simp only [Act.put, sq1, sq2, sq3, i64_w, i32_w]; rfl)
    have hq := hJ (.agg #[.int .i64 px.f0, .int .i64 px.f1, .string px.f2, .slice B1_ px.f3.length d1_], .agg #[.int .i64 py.f0, .int .i64 py.f1, .string py.f2, .slice B2_ py.f3.length d2_], A15, c15, g15) _ ⟨HB, BK2, BK3, BK15, GE, BK6, BK10, I6, U10, B15, U15, NE15⟩
    simp only [putAll, Act.put, sq1, sq2, sq3, i64_w, i32_w] at hq
    exact hq
  rintro ⟨u1, u2, A15, c15, g15⟩ w' ⟨HB, BK2, BK3, BKn, GE, BK6, BK10, I6, U10, B15, U15, NE15⟩
  refine norm_ (a' := ?_) ?_ ?_
  rotate_left; (simp only [putAll, Act.put, sq1, sq2, sq3, i64_w, i32_w]; rfl)
  refine one_ (i := 9) (N := none) #[true, true, true, true, true, true, true, true, true, true, false] rfl rfl (by kernel_rfl) (by decide) (fun K hK => ?_)
  refine put_step rfl rfl 30 _ _ rfl g15 0 (.agg #[.int .i64 sx.f0, .int .i64 sx.f1, .string sx.f2, .slice A15 sx.f3.length c15]) rfl rfl [.int .i64 sx.f0, .int .i64 sx.f1, .string sx.f2, .slice A15 sx.f3.length c15] rfl 30 _ #[.int .i64 sx.f0, .int .i64 sx.f1, .string sx.f2, .slice A15 sx.f3.length c15] BKn.out HIP.out (Nat.le_of_ble_eq_true rfl) rfl rfl ?_
  intro w9 hk hoth hbel hz
  have n0_ := Aside0.mk ((hoth g2 (by have := LA.out; have := GE.out.2; omega)).trans BK2.out)
  have n1_ := Aside0.mk ((hoth g3 (by have := LB.out; have := GE.out.2; omega)).trans BK3.out)
  have n2_ := Aside0.mk ((hoth g6 (by have := LC.out; have := GE.out.2; omega)).trans BK6.out)
  have n3_ := Aside0.mk ((hoth g10 (by have := LD.out; have := GE.out.2; omega)).trans BK10.out)
  have n4_ := Aside0.mk (Kd.R_move I6.out (fun k hk => hoth k (by have := LA.out; have := LD.out; have := GE.out.2; have := PO.out; have := hk.2; omega)))
  have n5_ := Aside0.mk (U10.out.move (fun k hk => hoth k (by have := (UB10.out k hk).2; have := PG.out; have := LD.out; have := GE.out.2; omega)))
  have n6_ := Aside0.mk (U15.out.move (fun k hk => hoth k (NE15.out k hk)))
  have q_ := Aside0.mk (hbel _ _ HB.out GE.out.1)
  clear HB BKn NE15 ZL LW BK2 BK3 BK6 BK10 I6 U10 U15 LA LB LC LD
  have HB := q_
  have BK2 := n0_
  have BK3 := n1_
  have BK6 := n2_
  have BK10 := n3_
  have I6 := n4_
  have U10 := n5_
  have U15 := n6_
  have BK15 := Aside0.mk hk
  clear q_ hk hoth hbel hz GE n0_ n1_ n2_ n3_ n4_ n5_ n6_
  refine hK.out _ _ ⟨BK2.out, BK3.out⟩ (fun hHeld => ?_)
  clear hK K
  refine pure_ (i := 10) (N := some 16) (v := ?_) (a' := ?_) #[true, true, true, true, true, true, true, true, true, true, true] rfl rfl (by kernel_rfl) (fun _ _ _ h => h) (Or.inl ⟨by rfl, ?_⟩) ?_ ?_
  rotate_left; (intro w'; go_simp; with_reducible rfl)
  rotate_left; (simp only [Act.put, sq1, sq2, sq3, i64_w, i32_w]; rfl)
  refine done_ (by kernel_rfl) ?_
  go_wp2_with (first | ((with_reducible refine gate_dst (N := 102) rfl ?_); refine wpList_load_row rfl 30 _ rfl g15 rfl 30 #[.int .i64 sx.f0, .int .i64 sx.f1, .string sx.f2, .slice A15 sx.f3.length c15] (0, 0) _ BK15.out huP rfl HIP.out ?_; (try simp only [Act.put, sq1, sq2, sq3])) | ((with_reducible refine gate_dst (N := 103) rfl ?_); refine wpList_load_row rfl 30 _ rfl g6 rfl 30 #[.int .i64 sx.f0, .int .i64 sx.f1, .string sx.f2, .slice A6 sx.f3.length c6] (0, 0) _ BK6.out huP rfl HIP.out ?_; (try simp only [Act.put, sq1, sq2, sq3])) | ((with_reducible refine gate_dst (N := 111) rfl ?_); refine wpList_load_row rfl 30 _ rfl g10 rfl 30 #[.int .i64 sx.f0, .int .i64 sx.f1, .string sx.f2, .slice A10 sx.f3.length c10] (0, 0) _ BK10.out huP rfl HIP.out ?_; (try simp only [Act.put, sq1, sq2, sq3])) | ((with_reducible refine gate_callee (f := 11) rfl ?_); refine goesL_ (some 104) rfl rfl Try.func11 (by kernel_rfl) rfl #[.agg #[.int .i64 sx.f0, .int .i64 sx.f1, .string sx.f2, .slice A15 sx.f3.length c15], .agg #[.int .i64 sx.f0, .int .i64 sx.f1, .string sx.f2, .slice A6 sx.f3.length c6]] rfl (by (try simp only [sm1, sm2, sm3]); first | done | rfl) ?_; refine (laws_eqPattern.calls kf sx.f0 sx.f1 sx.f2 A15 c15 sx.f3 sx.f0 sx.f1 sx.f2 A6 c6 sx.f3 true _ (T.C _ _ (Nat.le_refl _) U15.out) U15.out.len (Kd.R_reads' I6.out).2.2 (Kd.R_reads' I6.out).2.1 HF.out).mono ?_; rintro e wd ⟨rfl, hb⟩; refine ⟨_, rfl, ?_⟩; have n0_ := Aside0.mk (below_step HB.out hb); have n1_ := Aside0.mk (blk_below BK10.out hb); have n2_ := Aside0.mk (U10.out.grow hb); clear HB BK10 U10; have HB := n0_; have BK10 := n1_; have U10 := n2_; clear n0_ n1_ n2_; clear hb; (try simp only [Act.put, sq1, sq2, sq3])) | ((with_reducible refine gate_callee (f := 17) rfl ?_); refine goesL_ (some 113) rfl rfl Try.func17 (by kernel_rfl) rfl #[.agg #[.int .i64 sx.f0, .int .i64 sx.f1, .string sx.f2, .slice A10 sx.f3.length c10], .int .i64 1] rfl (by (try simp only [sm1, sm2, sm3]); first | done | rfl) ?_; refine (heldX_calls m HM.out sx (.slice A10 sx.f3.length c10) 1 B10 _ U10.out (by omega) HM3.out).mono ?_; rintro e wh2 ⟨he, hb⟩; rw [HTM.out] at he; subst he; refine ⟨_, rfl, ?_⟩; have n0_ := Aside0.mk (below_step HB.out hb); clear HB; have HB := n0_; clear n0_; clear hb; (try simp only [Act.put, sq1, sq2, sq3])))
  go_ret
  exact ⟨rfl, HB.out⟩
end Go.Proofs.Ytomakpfmghekfaa.PFnExactJoinPatterns
