/- By hand: what the law FnExactSimplifyPattern reaches beyond the printed texts, and the law's own function. Conditions: none beyond each statement. -/
import Derived.Test.YtomakpfmghekfaaProg
import Derived.Below
import Derived.Deep.Draws
import Derived.Deep.AppendLies
import Derived.Maps.AppendAt
import Derived.OwnWalk
import Derived.Laws.BytesArg
import Derived.Laws.MakeOwn
import Derived.Laws.OwnMore
import Derived.Deep.OwnRows
import Derived.Tactics
import Derived.Lib.ConvBytes
import Derived.Laws.Slices
import Derived.WalkKit
import Derived.KernelRfl
import Derived.RowKit3
import Derived.Deep.LoopGhost
import Derived.Deep.QuietTactic
import Derived.BigQuiet
import Derived.WideLaws
import Derived.Deep.DeepCutAuto
import Derived.Deep.CutBlock
import Derived.Deep.RegionHeld3
import Derived.Laws.Rows
import Derived.Lib.AppendStr
import Derived.ArgAppend
import Derived.Laws.IdiomCopy
import Derived.OrdersHeld
import Derived.Laws.BitsLemmas
import Derived.RowKit
import Derived.Test.YtomakpfmghekfaaWWords
import Derived.Test.YtomakpfmghekfaaWLast
import Derived.Test.YtomakpfmghekfaaWTab
import Derived.Test.YtomakpfmghekfaaWFour
import Derived.Test.YtomakpfmghekfaaWQPut
import Derived.Test.YtomakpfmghekfaaWApart
import Derived.Test.YtomakpfmghekfaaWArr
import Derived.Test.YtomakpfmghekfaaWZeros
import Derived.Test.YtomakpfmghekfaaWFoot
import Derived.Test.YtomakpfmghekfaaWKept
import Derived.Test.YtomakpfmghekfaaWShare
import Derived.Test.YtomakpfmghekfaaWN
import Derived.Test.YtomakpfmghekfaaWFootNe
import Derived.Test.YtomakpfmghekfaaWAt
import Derived.Test.YtomakpfmghekfaaWEqStruct
import Derived.Test.YtomakpfmghekfaaWRepsOne
import Derived.Test.YtomakpfmghekfaaWInv
import Derived.Test.YtomakpfmghekfaaWInvWords
import Derived.Test.YtomakpfmghekfaaWGuard
import Derived.Test.YtomakpfmghekfaaWNEv
import Derived.Test.YtomakpfmghekfaaWMore
import Derived.Test.YtomakpfmghekfaaDevSPm
import Derived.Test.YtomakpfmghekfaaDevSPg
import Derived.Test.YtomakpfmghekfaaRowLaw
namespace Go.Proofs.Ytomakpfmghekfaa.PFnExactSimplifyPattern
open Go.RowKit Go.Proofs.YtomakpfmghekfaaW.PrintWords Go.Proofs.YtomakpfmghekfaaW.PrintLast Go.Proofs.YtomakpfmghekfaaW.PrintMore
attribute [local go_sem] max2_int min2_int max_two min_two max_three min_three max_four min_four
set_option linter.unusedVariables false
set_option linter.unusedSimpArgs false
theorem size_cnt (n : Nat) : ∀ x : S24, cntT (convPattern x) ≤ n → cntT (convPattern x) ≤ 1 + sizePattern x := by
 induction n using Nat.strongRecOn with
 | _ n ih =>
 intro x hn
 have kids : ∀ (s : List S24), cntL (convPatternS s) < n → cntL (convPatternS s) ≤ s.length + sizePatternS s := by
  intro s
  induction s with
  | nil => intro _; simp [convPatternS, cntL]
  | cons y ys ihs =>
   intro hs
   simp only [convPatternS, cntL] at hs ⊢
   rw [sizePatternS_cons, List.length_cons]
   have h0 := cntT_eq (convPattern y)
   have h1 := ih (cntT (convPattern y)) (by omega) y (Nat.le_refl _)
   have h2 := ihs (by omega)
   omega
 rw [cntT_eq] at hn ⊢
 rw [convPattern_f3] at hn ⊢
 have := kids x.f3 (by omega)
 rw [sizePattern_eq]
 omega
theorem smp_cnt (x : PT) (hc : cntT x ≤ 2000000) : cntT (smp x) ≤ 2000000 := by
 unfold smp
 split
 ·rename_i hv
  exact Nat.le_trans (simp_ok 2000000 2000000 x (vp_of _ x (Nat.le_refl _) (of_decide_eq_true hv).1)).2 hc
 ·exact Nat.le_of_ble_eq_true rfl
set_option maxHeartbeats 16000000 in
set_option maxRecDepth 100000 in
theorem law_sp (x : S24) (g : G24 x) (A : Option Addr) (c : Nat) (w : World) (h3 : k24.C w A x.f3.length x.f3) (l3 : x.f3.length ≤ c) :
  Calls Try.prog 4 #[.agg #[.int .i64 x.f0, .int .i64 x.f1, .string x.f2, .slice A x.f3.length c]] w fun e w' => e = .returned (.bool true) ∧ Below w.heap.size w w' := by
 obtain ⟨ks, hs⟩ := (szPattern_ev x g 1048576 (by omega) (by omega)).rounds
 obtain ⟨m, hm⟩ := mtext_ex
 have huP := Try.underlying30
 have huQ := Try.underlying24
 have HIP := Aside0.mk (by kernel_rfl : (Try.prog.info? 30).map (·.size) = some 4)
 have HIQ := Aside0.mk (by kernel_rfl : (Try.prog.info? 24).map (·.size) = some 4)
 have H3 := Aside0.mk h3
 have L3 := Aside0.mk l3
 clear h3 l3
 have HB := Aside0.mk (Below.refl w.heap.size w)
 by_cases hz : (sizePattern x : Int) ≤ 1048576
 ·rw [if_pos hz] at hs
  obtain ⟨lf, hlf⟩ : ∃ lf : Int, lf = 1048576 - sizePattern x := ⟨_, rfl⟩
  rw [← hlf] at hs
  have HS := Aside0.mk hs
  have c0 : (lf < 0) = False := eq_false (by omega)
  have c0b : decide (lf < 0) = false := decide_eq_false (by omega)
  clear hs hlf
  obtain ⟨kt, ht⟩ := (toPattern_ev x g (by omega)).rounds
  have fx := finePattern_conv x g
  have hcn := size_cnt _ x (Nat.le_refl _)
  obtain ⟨cx, hcx⟩ : ∃ cx, cx = convPattern x := ⟨_, rfl⟩
  rw [← hcx] at ht fx hcn
  have hcc : cntT cx ≤ 2000000 := by omega
  clear hcn
  obtain ⟨ke, he⟩ := (eq_self _ cx (Nat.le_refl _) hcc).rounds
  have hsc := smp_cnt cx hcc
  obtain ⟨sx, hsx⟩ : ∃ sx, smp cx = sx := ⟨_, rfl⟩
  rw [hsx] at hsc
  obtain ⟨kf, hf⟩ := (eq_self _ sx (Nat.le_refl _) hsc).rounds
  have hmc : 1 + 3 * (cntL cx.f3 : Int) ≤ 100000000 := by have := cntT_eq cx; omega
  have hmd : 1 + 3 * (cntL sx.f3 : Int) ≤ 100000000 := by have := cntT_eq sx; omega
  obtain ⟨tq, hT⟩ : ∃ tq : Int, 1 + 3 * (cntL cx.f3 : Int) = tq := ⟨_, rfl⟩
  obtain ⟨tm, hTm⟩ : ∃ tm : Int, 1 + 3 * (cntL sx.f3 : Int) = tm := ⟨_, rfl⟩
  have HCN := Aside0.mk hcc
  have HSX := Aside0.mk hsx
  have HMC := Aside0.mk hmc
  have HMD := Aside0.mk hmd
  have HTT := Aside0.mk hT
  have HTM := Aside0.mk hTm
  have cT : (tq < 0) = False := eq_false (by omega)
  have cTb : decide (tq < 0) = false := decide_eq_false (by omega)
  have cM : (tm < 0) = False := eq_false (by omega)
  have cMb : decide (tm < 0) = false := decide_eq_false (by omega)
  have cMn : (tm != tm) = false := by simp
  have HT := Aside0.mk ht
  have FX := Aside0.mk fx
  have HE := Aside0.mk he
  have HF := Aside0.mk hf
  have HM := Aside0.mk hm
  clear ht fx he hf hm hcx hz hcc hsc hsx hmc hmd hT hTm
  go_enter Try.func4, Try.ntmps4
  go_wp2_with (first | ((with_reducible refine gate_dst (N := 1) rfl ?_); refine box_event ?hg (N := 1) ?hd (cs := #[.int .i64 x.f0, .int .i64 x.f1, .string x.f2, .slice A x.f3.length c]) (t := 24) ?hr ?_; (case hd => rfl); (case hg => rfl); (case hr => first | (go_simp; done) | (go_simp; rfl)); intro g1 hg wg1 hbox hb; have n0_ := Aside0.mk (below_step HB.out hb); clear HB; have HB := n0_; clear n0_; have BK1 := Aside0.mk hbox; clear hbox hg hb; (try simp only [Act.put, sq1, sq2, sq3])) | ((with_reducible refine gate_dst (N := 11) rfl ?_); refine wpList_load_row rfl 24 _ rfl g1 rfl 24 #[.int .i64 x.f0, .int .i64 x.f1, .string x.f2, .slice A x.f3.length c] (0, 0) _ BK1.out huQ rfl HIQ.out ?_; (try simp only [Act.put, sq1, sq2, sq3])) | ((with_reducible refine gate_dst (N := 16) rfl ?_); refine wpList_load_row rfl 24 _ rfl g1 rfl 24 #[.int .i64 x.f0, .int .i64 x.f1, .string x.f2, .slice A x.f3.length c] (0, 0) _ BK1.out huQ rfl HIQ.out ?_; (try simp only [Act.put, sq1, sq2, sq3])) | ((with_reducible refine gate_dst (N := 19) rfl ?_); refine wpList_load_row rfl 24 _ rfl g1 rfl 24 #[.int .i64 x.f0, .int .i64 x.f1, .string x.f2, .slice A x.f3.length c] (0, 0) _ BK1.out huQ rfl HIQ.out ?_; (try simp only [Act.put, sq1, sq2, sq3])) | ((with_reducible refine gate_callee (f := 6) rfl ?_); refine goesL_ (some 13) rfl rfl Try.func6 (by kernel_rfl) rfl #[.agg #[.int .i64 x.f0, .int .i64 x.f1, .string x.f2, .slice A x.f3.length c], .int .i64 1048576] rfl (by (try simp only [sm1, sm2, sm3]); first | done | rfl) ?_; refine (laws_szPattern.calls ks x.f0 x.f1 x.f2 A c x.f3 1048576 (lf) _ (Kd.C_below H3.out HB.out) L3.out HS.out).mono ?_; rintro e wd ⟨rfl, hb⟩; refine ⟨_, rfl, ?_⟩; have n0_ := Aside0.mk (below_step HB.out hb); have n1_ := Aside0.mk (blk_below BK1.out hb); clear HB BK1; have HB := n0_; have BK1 := n1_; clear n0_ n1_; clear hb; (try simp only [Act.put, sq1, sq2, sq3])) | ((with_reducible refine gate_callee (f := 8) rfl ?_); refine goesL_ (some 17) rfl rfl Try.func8 (by kernel_rfl) rfl #[.agg #[.int .i64 x.f0, .int .i64 x.f1, .string x.f2, .slice A x.f3.length c]] rfl (by (try simp only [sm1, sm2, sm3]); first | done | rfl) ?_; refine (laws_toPattern.calls kt x.f0 x.f1 x.f2 A c x.f3 cx.f0 cx.f1 cx.f2 cx.f3 _ (Kd.C_below H3.out HB.out) L3.out HT.out).mono ?_; rintro e wd ⟨v17, rfl, ho, hb⟩; refine ⟨_, rfl, ?_⟩; have n0_ := Aside0.mk (below_step HB.out hb); have n1_ := Aside0.mk (blk_below BK1.out hb); clear HB BK1; have HB := n0_; have BK1 := n1_; clear n0_ n1_; have I17 := Aside0.mk (Go.Proofs.Ytomakpfmghekfaa.RowLaw.IR.of ho); obtain ⟨A17, c17, e17⟩ := Kd.R_slice ho; subst e17; clear ho hb; (try simp only [Act.put, sq1, sq2, sq3])) | ((with_reducible refine gate_callee (f := 15) rfl ?_); refine goesL_ (some 18) rfl rfl Try.func15 (by kernel_rfl) rfl #[.agg #[.int .i64 cx.f0, .int .i64 cx.f1, .string cx.f2, .slice A17 cx.f3.length c17]] rfl (by (try simp only [sm1, sm2, sm3]); first | done | rfl) ?_; refine (spec_sp cx FX.out HCN.out A17 c17 _ _ (T.of_R _ _ (Nat.le_refl _) _ I17.out) (fun k q => q.2)).mono ?_; rintro e wd ⟨v4, he, ho, hb⟩; rw [HSX.out] at he ho; subst he; refine ⟨_, rfl, ?_⟩; obtain ⟨p4, q4, i4, z4, g14, zz⟩ : ∃ p4 q4, Go.Proofs.Ytomakpfmghekfaa.RowLaw.IR k30 30 wd p4 q4 v4 sx.f3 ∧ q4 ≤ wd.heap.size ∧ g1 < p4 ∧ p4 ≤ wd.heap.size := ⟨_, _, Go.Proofs.Ytomakpfmghekfaa.RowLaw.IR.of ho, Nat.le_refl _, blk_lt BK1.out, hb.size⟩; have n0_ := Aside0.mk (below_step HB.out hb); have n1_ := Aside0.mk (blk_below BK1.out hb); clear HB BK1; have HB := n0_; have BK1 := n1_; clear n0_ n1_; have I4 := Aside0.mk i4; have Z4 := Aside0.mk z4; have G14 := Aside0.mk g14; obtain ⟨A4, c4, e4⟩ := Kd.R_slice ho; subst e4; clear ho hb i4 z4 g14 zz I17; (try simp only [Act.put, sq1, sq2, sq3])) | ((with_reducible refine gate_dst (N := 4) rfl ?_); refine box_event ?hg (N := 4) ?hd (cs := #[.int .i64 0, .int .i64 0, .string (⟨#[]⟩ : ByteArray), .slice none 0 0]) (t := 30) ?hr ?_; (case hd => rfl); (case hg => rfl); (case hr => first | (go_simp; done) | (go_simp; rfl)); intro g4 hg wg4 hbox hb; have HX := Aside0.mk hb; have HGE := Aside0.mk (Nat.le_of_eq hg.symm); have BKn := Aside0.mk hbox; clear hg hbox hb; (try simp only [Act.put, sq1, sq2, sq3])) | ((with_reducible refine gate_store (t := 30) (p := 4) rfl ?_); refine Go.Proofs.Ytomakpfmghekfaa.RowLaw.put_event rfl 30 _ _ rfl g4 0 (.agg #[.int .i64 sx.f0, .int .i64 sx.f1, .string sx.f2, .slice A4 sx.f3.length c4]) rfl rfl [.int .i64 sx.f0, .int .i64 sx.f1, .string sx.f2, .slice A4 sx.f3.length c4] rfl 30 _ #[.int .i64 sx.f0, .int .i64 sx.f1, .string sx.f2, .slice A4 sx.f3.length c4] BKn.out HIP.out (Nat.le_of_ble_eq_true rfl) rfl rfl ?_; intro w7 hk hoth hbel hz; have hb := hbel _ _ HX.out HGE.out; have n0_ := Aside0.mk (below_step HB.out hb); have n1_ := Aside0.mk (blk_below BK1.out hb); have n2_ := Aside0.mk (Go.Proofs.Ytomakpfmghekfaa.RowLaw.IR.below I4.out hb); have n3_ := Aside0.mk (Nat.le_trans Z4.out (Below.size hb)); clear HB BK1 I4 Z4; have HB := n0_; have BK1 := n1_; have I4 := n2_; have Z4 := n3_; clear n0_ n1_ n2_ n3_; have BK4 := Aside0.mk hk; clear hk hoth hbel hz hb HX HGE BKn; (try simp only [Act.put, sq1, sq2, sq3])) | ((with_reducible refine gate_callee (f := 8) rfl ?_); refine goesL_ (some 20) rfl rfl Try.func8 (by kernel_rfl) rfl #[.agg #[.int .i64 x.f0, .int .i64 x.f1, .string x.f2, .slice A x.f3.length c]] rfl (by (try simp only [sm1, sm2, sm3]); first | done | rfl) ?_; refine (laws_toPattern.calls kt x.f0 x.f1 x.f2 A c x.f3 cx.f0 cx.f1 cx.f2 cx.f3 _ (Kd.C_below H3.out HB.out) L3.out HT.out).mono ?_; rintro e wd ⟨v5, rfl, ho, hb⟩; refine ⟨_, rfl, ?_⟩; obtain ⟨p5, q5, i5, z5, a5, b5, d5, f5, zp5⟩ : ∃ p5 q5, Go.Proofs.Ytomakpfmghekfaa.RowLaw.IR k30 30 wd p5 q5 v5 cx.f3 ∧ q5 ≤ wd.heap.size ∧ w.heap.size ≤ p5 ∧ g1 < p5 ∧ g4 < p5 ∧ q4 ≤ p5 ∧ p5 ≤ wd.heap.size := ⟨_, _, Go.Proofs.Ytomakpfmghekfaa.RowLaw.IR.of ho, Nat.le_refl _, HB.out.size, blk_lt BK1.out, blk_lt BK4.out, Z4.out, hb.size⟩; have n0_ := Aside0.mk (below_step HB.out hb); have n1_ := Aside0.mk (blk_below BK1.out hb); have n2_ := Aside0.mk (blk_below BK4.out hb); have n3_ := Aside0.mk (Go.Proofs.Ytomakpfmghekfaa.RowLaw.IR.below I4.out hb); clear HB BK1 BK4 I4; have HB := n0_; have BK1 := n1_; have BK4 := n2_; have I4 := n3_; clear n0_ n1_ n2_ n3_; have I5 := Aside0.mk i5; have Z5 := Aside0.mk z5; have ZP5 := Aside0.mk zp5; have M5 := Aside0.mk a5; have G15 := Aside0.mk b5; have G45 := Aside0.mk d5; have Q45 := Aside0.mk f5; obtain ⟨A5, c5, e5⟩ := Kd.R_slice ho; subst e5; clear ho hb i5 z5 zp5 a5 b5 d5 f5 Z4; (try simp only [Act.put, sq1, sq2, sq3])) | ((with_reducible refine gate_dst (N := 5) rfl ?_); refine box_event ?hg (N := 5) ?hd (cs := #[.int .i64 0, .int .i64 0, .string (⟨#[]⟩ : ByteArray), .slice none 0 0]) (t := 30) ?hr ?_; (case hd => rfl); (case hg => rfl); (case hr => first | (go_simp; done) | (go_simp; rfl)); intro g5 hg wg5 hbox hb; have HX := Aside0.mk hb; have HGE := Aside0.mk (Nat.le_of_eq hg.symm); have BKn := Aside0.mk hbox; clear hg hbox hb; (try simp only [Act.put, sq1, sq2, sq3])) | ((with_reducible refine gate_store (t := 30) (p := 5) rfl ?_); refine Go.Proofs.Ytomakpfmghekfaa.RowLaw.put_event rfl 30 _ _ rfl g5 0 (.agg #[.int .i64 cx.f0, .int .i64 cx.f1, .string cx.f2, .slice A5 cx.f3.length c5]) rfl rfl [.int .i64 cx.f0, .int .i64 cx.f1, .string cx.f2, .slice A5 cx.f3.length c5] rfl 30 _ #[.int .i64 cx.f0, .int .i64 cx.f1, .string cx.f2, .slice A5 cx.f3.length c5] BKn.out HIP.out (Nat.le_of_ble_eq_true rfl) rfl rfl ?_; intro w7 hk hoth hbel hz; have hb := hbel _ _ HX.out HGE.out; have n0_ := Aside0.mk (below_step HB.out hb); have n1_ := Aside0.mk (blk_below BK1.out hb); have n2_ := Aside0.mk (blk_below BK4.out hb); have n3_ := Aside0.mk (Go.Proofs.Ytomakpfmghekfaa.RowLaw.IR.below I4.out hb); have n4_ := Aside0.mk (Go.Proofs.Ytomakpfmghekfaa.RowLaw.IR.below I5.out hb); have n5_ := Aside0.mk (Nat.le_trans Z5.out (Below.size hb)); have n6_ := Aside0.mk (Nat.le_trans ZP5.out (Below.size hb)); clear HB BK1 BK4 I4 I5 Z5 ZP5; have HB := n0_; have BK1 := n1_; have BK4 := n2_; have I4 := n3_; have I5 := n4_; have Z5 := n5_; have ZP5 := n6_; clear n0_ n1_ n2_ n3_ n4_ n5_ n6_; have BK5 := Aside0.mk hk; clear hk hoth hbel hz hb HX HGE BKn; (try simp only [Act.put, sq1, sq2, sq3])) | ((with_reducible refine gate_dst (N := 21) rfl ?_); refine wpList_load_row rfl 30 _ rfl g5 rfl 30 #[.int .i64 cx.f0, .int .i64 cx.f1, .string cx.f2, .slice A5 cx.f3.length c5] (0, 0) _ BK5.out huP rfl HIP.out ?_; (try simp only [Act.put, sq1, sq2, sq3])) | ((with_reducible refine gate_callee (f := 16) rfl ?_); refine goesL_ (some 22) rfl rfl Try.func16 (by kernel_rfl) rfl #[.agg #[.int .i64 cx.f0, .int .i64 cx.f1, .string cx.f2, .slice A5 cx.f3.length c5]] rfl (by (try simp only [sm1, sm2, sm3]); first | done | rfl) ?_; refine (impl_sp cx FX.out HCN.out A5 c5 _ _ (T.of_R _ _ (Nat.le_refl _) _ I5.out) (fun k q => Nat.lt_of_lt_of_le q.2 Z5.out)).mono ?_; rintro e wd ⟨v6, B6, he, hu, hub, hb⟩; rw [HSX.out] at he hu; have he : e = .returned (.agg #[.int .i64 sx.f0, .int .i64 sx.f1, .string sx.f2, v6]) := he; subst e; refine ⟨_, rfl, ?_⟩; obtain ⟨p6, q6, u6, z6, a6, b6, d6⟩ : ∃ p6 q6, (∀ k, B6 k → p6 ≤ k ∧ k < q6) ∧ q6 ≤ wd.heap.size ∧ p6 ≤ wd.heap.size ∧ q5 ≤ p6 ∧ p5 ≤ p6 := ⟨_, _, fun k q => ⟨(hub k q).1.resolve_left (fun h => h), (hub k q).2⟩, Nat.le_refl _, hb.size, Z5.out, ZP5.out⟩; have n0_ := Aside0.mk (below_step HB.out hb); have n1_ := Aside0.mk (blk_below BK1.out hb); have n2_ := Aside0.mk (blk_below BK4.out hb); have n3_ := Aside0.mk (blk_below BK5.out hb); have n4_ := Aside0.mk (Go.Proofs.Ytomakpfmghekfaa.RowLaw.IR.below I4.out hb); have n5_ := Aside0.mk (Go.Proofs.Ytomakpfmghekfaa.RowLaw.IR.below I5.out hb); have n6_ := Aside0.mk (Nat.le_trans ZP5.out (Below.size hb)); clear HB BK1 BK4 BK5 I4 I5 ZP5; have HB := n0_; have BK1 := n1_; have BK4 := n2_; have BK5 := n3_; have I4 := n4_; have I5 := n5_; have ZP5 := n6_; clear n0_ n1_ n2_ n3_ n4_ n5_ n6_; obtain ⟨A6, c6, e6, _⟩ := hu.inv; subst e6; have U6 := Aside0.mk hu; have UB6 := Aside0.mk u6; have Z6 := Aside0.mk z6; have ZP6 := Aside0.mk a6; have Q56 := Aside0.mk b6; have P56 := Aside0.mk d6; clear hu hub hb u6 z6 a6 b6 d6 Z5; (try simp only [Act.put, sq1, sq2, sq3])) | ((with_reducible refine gate_dst (N := 6) rfl ?_); refine box_event ?hg (N := 6) ?hd (cs := #[.int .i64 0, .int .i64 0, .string (⟨#[]⟩ : ByteArray), .slice none 0 0]) (t := 30) ?hr ?_; (case hd => rfl); (case hg => rfl); (case hr => first | (go_simp; done) | (go_simp; rfl)); intro g6 hg wg6 hbox hb; have HX := Aside0.mk hb; have HGE := Aside0.mk (Nat.le_of_eq hg.symm); have BKn := Aside0.mk hbox; clear hg hbox hb; (try simp only [Act.put, sq1, sq2, sq3])) | ((with_reducible refine gate_store (t := 30) (p := 6) rfl ?_); refine Go.Proofs.Ytomakpfmghekfaa.RowLaw.put_event rfl 30 _ _ rfl g6 0 (.agg #[.int .i64 sx.f0, .int .i64 sx.f1, .string sx.f2, .slice A6 sx.f3.length c6]) rfl rfl [.int .i64 sx.f0, .int .i64 sx.f1, .string sx.f2, .slice A6 sx.f3.length c6] rfl 30 _ #[.int .i64 sx.f0, .int .i64 sx.f1, .string sx.f2, .slice A6 sx.f3.length c6] BKn.out HIP.out (Nat.le_of_ble_eq_true rfl) rfl rfl ?_; intro w7 hk hoth hbel hz; have hb := hbel _ _ HX.out HGE.out; have G66 := Aside0.mk (Nat.le_trans Z6.out HGE.out); have GP6 := Aside0.mk (Nat.le_trans ZP6.out HGE.out); clear Z6 ZP6; have n0_ := Aside0.mk (below_step HB.out hb); have n1_ := Aside0.mk (blk_below BK1.out hb); have n2_ := Aside0.mk (blk_below BK4.out hb); have n3_ := Aside0.mk (blk_below BK5.out hb); have n4_ := Aside0.mk (Go.Proofs.Ytomakpfmghekfaa.RowLaw.IR.below I4.out hb); have n5_ := Aside0.mk (Go.Proofs.Ytomakpfmghekfaa.RowLaw.IR.below I5.out hb); have n6_ := Aside0.mk (Nat.le_trans ZP5.out (Below.size hb)); have n7_ := Aside0.mk (U6.out.grow hb); clear HB BK1 BK4 BK5 I4 I5 ZP5 U6; have HB := n0_; have BK1 := n1_; have BK4 := n2_; have BK5 := n3_; have I4 := n4_; have I5 := n5_; have ZP5 := n6_; have U6 := n7_; clear n0_ n1_ n2_ n3_ n4_ n5_ n6_ n7_; have BK6 := Aside0.mk hk; clear hk hoth hbel hz hb HX HGE BKn; (try simp only [Act.put, sq1, sq2, sq3])) | ((with_reducible refine gate_dst (N := 23) rfl ?_); refine wpList_load_row rfl 30 _ rfl g6 rfl 30 #[.int .i64 sx.f0, .int .i64 sx.f1, .string sx.f2, .slice A6 sx.f3.length c6] (0, 0) _ BK6.out huP rfl HIP.out ?_; (try simp only [Act.put, sq1, sq2, sq3])) | ((with_reducible refine gate_dst (N := 24) rfl ?_); refine wpList_load_row rfl 30 _ rfl g4 rfl 30 #[.int .i64 sx.f0, .int .i64 sx.f1, .string sx.f2, .slice A4 sx.f3.length c4] (0, 0) _ BK4.out huP rfl HIP.out ?_; (try simp only [Act.put, sq1, sq2, sq3])) | ((with_reducible refine gate_callee (f := 11) rfl ?_); refine goesL_ (some 25) rfl rfl Try.func11 (by kernel_rfl) rfl #[.agg #[.int .i64 sx.f0, .int .i64 sx.f1, .string sx.f2, .slice A6 sx.f3.length c6], .agg #[.int .i64 sx.f0, .int .i64 sx.f1, .string sx.f2, .slice A4 sx.f3.length c4]] rfl (by (try simp only [sm1, sm2, sm3]); first | done | rfl) ?_; refine (laws_eqPattern.calls kf sx.f0 sx.f1 sx.f2 A6 c6 sx.f3 sx.f0 sx.f1 sx.f2 A4 c4 sx.f3 true _ (T.C _ _ (Nat.le_refl _) U6.out) U6.out.len (Kd.R_reads' I4.out).2.2 (Kd.R_reads' I4.out).2.1 HF.out).mono ?_; rintro e wd ⟨rfl, hb⟩; refine ⟨_, rfl, ?_⟩; have n0_ := Aside0.mk (below_step HB.out hb); have n1_ := Aside0.mk (blk_below BK1.out hb); have n2_ := Aside0.mk (blk_below BK4.out hb); have n3_ := Aside0.mk (blk_below BK5.out hb); have n4_ := Aside0.mk (blk_below BK6.out hb); have n5_ := Aside0.mk (Go.Proofs.Ytomakpfmghekfaa.RowLaw.IR.below I4.out hb); have n6_ := Aside0.mk (Go.Proofs.Ytomakpfmghekfaa.RowLaw.IR.below I5.out hb); have n7_ := Aside0.mk (U6.out.grow hb); have n8_ := Aside0.mk (Nat.le_trans ZP5.out (Below.size hb)); clear HB BK1 BK4 BK5 BK6 I4 I5 U6 ZP5; have HB := n0_; have BK1 := n1_; have BK4 := n2_; have BK5 := n3_; have BK6 := n4_; have I4 := n5_; have I5 := n6_; have U6 := n7_; have ZP5 := n8_; clear n0_ n1_ n2_ n3_ n4_ n5_ n6_ n7_ n8_; clear hb; (try simp only [Act.put, sq1, sq2, sq3])))
  have n0_ := Aside0.mk (below_step HB.out (below_drew1 (Below.refl _ _)))
  have n1_ := Aside0.mk (blk_below BK1.out (below_drew1 (Below.refl _ _)))
  have n2_ := Aside0.mk (blk_below BK4.out (below_drew1 (Below.refl _ _)))
  have n3_ := Aside0.mk (blk_below BK5.out (below_drew1 (Below.refl _ _)))
  have n4_ := Aside0.mk (blk_below BK6.out (below_drew1 (Below.refl _ _)))
  have n5_ := Aside0.mk (Go.Proofs.Ytomakpfmghekfaa.RowLaw.IR.below I4.out (below_drew1 (Below.refl _ _)))
  have n6_ := Aside0.mk (Go.Proofs.Ytomakpfmghekfaa.RowLaw.IR.below I5.out (below_drew1 (Below.refl _ _)))
  have n7_ := Aside0.mk (U6.out.grow (below_drew1 (Below.refl _ _)))
  have n8_ := Aside0.mk (Nat.le_trans ZP5.out (below_drew1 (Below.refl 0 _)).size)
  clear HB BK1 BK4 BK5 BK6 I4 I5 U6 ZP5
  have HB := n0_
  have BK1 := n1_
  have BK4 := n2_
  have BK5 := n3_
  have BK6 := n4_
  have I4 := n5_
  have I5 := n6_
  have U6 := n7_
  have ZP5 := n8_
  clear n0_ n1_ n2_ n3_ n4_ n5_ n6_ n7_ n8_
  refine start_ (n := 5) (S := fun w' => w'.heap[g5]? = some (.cells #[.int .i64 cx.f0, .int .i64 cx.f1, .string cx.f2, .slice A5 cx.f3.length c5] 30 (0, 0)) ∧ w'.heap[g1]? = some (.cells #[.int .i64 x.f0, .int .i64 x.f1, .string x.f2, .slice A x.f3.length c] 24 (0, 0))) (ds := []) #[false, false, false, false, false] (by kernel_rfl) rfl rfl ⟨BK5.out, BK1.out⟩ (fun hHeld => ?_)
  generalize _root_.Go.World.drew _ = wd at HB BK1 BK4 BK5 BK6 I4 I5 U6 ZP5 hHeld ⊢
  refine take_ (i := 0) (N := some 27) (v := .agg #[.int .i64 cx.f0, .int .i64 cx.f1, .string cx.f2, .slice A5 cx.f3.length c5]) (a' := ?_) #[true, false, false, false, false] rfl rfl (by kernel_rfl) (fun _ _ _ h => h) (Or.inl ⟨by rfl, fun w' s => Go.Proofs.Ytomakpfmghekfaa.RowLaw.load_run 30 _ rfl g5 rfl 30 _ _ s.1 huP rfl HIP.out⟩) hHeld ?_ ?_
  rotate_left
  ·simp only [Act.put, sq1, sq2, sq3, i64_w, i32_w]
   rfl
  refine take_ (i := 1) (N := some 28) (v := .agg #[.int .i64 x.f0, .int .i64 x.f1, .string x.f2, .slice A x.f3.length c]) (a' := ?_) #[true, true, false, false, false] rfl rfl (by kernel_rfl) (fun _ _ _ h => h) (Or.inl ⟨by rfl, fun w' s => Go.Proofs.Ytomakpfmghekfaa.RowLaw.load_run 24 _ rfl g1 rfl 24 _ _ s.2 huQ rfl HIQ.out⟩) hHeld ?_ ?_
  rotate_left
  ·simp only [Act.put, sq1, sq2, sq3, i64_w, i32_w]
   rfl
  refine one_ (i := 2) (N := some 29) #[true, true, true, false, false] rfl rfl (by kernel_rfl) (by decide) (fun K hK => ?_)
  refine goes_ Try.func8 (by kernel_rfl) rfl #[.agg #[.int .i64 x.f0, .int .i64 x.f1, .string x.f2, .slice A x.f3.length c]] (by rfl) rfl rfl (by (try simp only [sm1, sm2, sm3]); first | done | rfl) ?_
  with_reducible refine (laws_toPattern.calls kt x.f0 x.f1 x.f2 A c x.f3 cx.f0 cx.f1 cx.f2 cx.f3 _ ?side1 ?side2 HT.out).mono ?_
  (case side1 => exact Kd.C_below H3.out HB.out)
  (case side2 => exact L3.out)
  rintro e wc ⟨v29, rfl, ho, hb⟩
  refine ⟨_, rfl, ?_⟩
  have n0_ := Aside0.mk (below_step HB.out hb)
  have n1_ := Aside0.mk (blk_below BK1.out hb)
  have n2_ := Aside0.mk (blk_below BK4.out hb)
  have n3_ := Aside0.mk (blk_below BK5.out hb)
  have n4_ := Aside0.mk (blk_below BK6.out hb)
  have n5_ := Aside0.mk (Go.Proofs.Ytomakpfmghekfaa.RowLaw.IR.below I4.out hb)
  have n6_ := Aside0.mk (Go.Proofs.Ytomakpfmghekfaa.RowLaw.IR.below I5.out hb)
  have n7_ := Aside0.mk (U6.out.grow hb)
  have n8_ := Aside0.mk (Nat.le_trans ZP5.out (Below.size hb))
  clear HB BK1 BK4 BK5 BK6 I4 I5 U6 ZP5
  have HB := n0_
  have BK1 := n1_
  have BK4 := n2_
  have BK5 := n3_
  have BK6 := n4_
  have I4 := n5_
  have I5 := n6_
  have U6 := n7_
  have ZP5 := n8_
  clear n0_ n1_ n2_ n3_ n4_ n5_ n6_ n7_ n8_
  have I29 := Aside0.mk (Go.Proofs.Ytomakpfmghekfaa.RowLaw.IR.of ho)
  obtain ⟨A29, c29, e29⟩ := Kd.R_slice ho
  subst e29
  clear ho hb
  refine hK.out _ _ ⟨BK5.out, BK1.out⟩ (fun hHeld => ?_)
  clear hK K
  refine norm_ (a' := ?_) ?_ ?_
  rotate_left
  ·show Act.put _ (some 29) _ = _
   simp only [Act.put, sq1, sq2, sq3, i64_w, i32_w]
   rfl
  refine one_ (i := 3) (N := some 30) #[true, true, true, true, false] rfl rfl (by kernel_rfl) (by decide) (fun K hK => ?_)
  refine goes_ Try.func11 (by kernel_rfl) rfl #[.agg #[.int .i64 cx.f0, .int .i64 cx.f1, .string cx.f2, .slice A5 cx.f3.length c5], .agg #[.int .i64 cx.f0, .int .i64 cx.f1, .string cx.f2, .slice A29 cx.f3.length c29]] (by rfl) rfl rfl (by (try simp only [sm1, sm2, sm3]); first | done | rfl) ?_
  with_reducible refine (laws_eqPattern.calls ke cx.f0 cx.f1 cx.f2 A5 c5 cx.f3 cx.f0 cx.f1 cx.f2 A29 c29 cx.f3 true _ ?side1 ?side2 ?side3 ?side4 HE.out).mono ?_
  (case side1 => exact (Kd.R_reads' I5.out).2.2)
  (case side2 => exact (Kd.R_reads' I5.out).2.1)
  (case side3 => exact (Kd.R_reads' I29.out).2.2)
  (case side4 => exact (Kd.R_reads' I29.out).2.1)
  rintro e we ⟨rfl, hb⟩
  refine ⟨_, rfl, ?_⟩
  have n0_ := Aside0.mk (below_step HB.out hb)
  have n1_ := Aside0.mk (blk_below BK1.out hb)
  have n2_ := Aside0.mk (blk_below BK4.out hb)
  have n3_ := Aside0.mk (blk_below BK5.out hb)
  have n4_ := Aside0.mk (blk_below BK6.out hb)
  have n5_ := Aside0.mk (Go.Proofs.Ytomakpfmghekfaa.RowLaw.IR.below I4.out hb)
  have n6_ := Aside0.mk (Go.Proofs.Ytomakpfmghekfaa.RowLaw.IR.below I5.out hb)
  have n7_ := Aside0.mk (U6.out.grow hb)
  have n8_ := Aside0.mk (Nat.le_trans ZP5.out (Below.size hb))
  clear HB BK1 BK4 BK5 BK6 I4 I5 U6 ZP5
  have HB := n0_
  have BK1 := n1_
  have BK4 := n2_
  have BK5 := n3_
  have BK6 := n4_
  have I4 := n5_
  have I5 := n6_
  have U6 := n7_
  have ZP5 := n8_
  clear n0_ n1_ n2_ n3_ n4_ n5_ n6_ n7_ n8_
  clear hb I29
  refine hK.out _ _ ⟨BK5.out, BK1.out⟩ (fun hHeld => ?_)
  clear hK K
  refine norm_ (a' := ?_) ?_ ?_
  rotate_left
  ·show Act.put _ (some 30) _ = _
   simp only [Act.put, sq1, sq2, sq3, i64_w, i32_w]
   rfl
  refine pure_ (i := 4) (N := some 31) (v := ?_) (a' := ?_) #[true, true, true, true, true] rfl rfl (by kernel_rfl) (fun _ _ _ h => h) (Or.inl ⟨by rfl, ?_⟩) ?_ ?_
  rotate_left
  ·intro w'
   go_simp
   with_reducible rfl
  rotate_left
  ·simp only [Act.put, sq1, sq2, sq3, i64_w, i32_w]
   rfl
  refine done_ (by kernel_rfl) ?_
  go_wp2_with (first | ((with_reducible refine gate_dst (N := 32) rfl ?_); refine wpList_load_row rfl 30 _ rfl g5 rfl 30 #[.int .i64 cx.f0, .int .i64 cx.f1, .string cx.f2, .slice A5 cx.f3.length c5] (0, 0) _ BK5.out huP rfl HIP.out ?_; (try simp only [Act.put, sq1, sq2, sq3])) | ((with_reducible refine gate_dst (N := 43) rfl ?_); refine wpList_load_row rfl 30 _ rfl g6 rfl 30 #[.int .i64 sx.f0, .int .i64 sx.f1, .string sx.f2, .slice A6 sx.f3.length c6] (0, 0) _ BK6.out huP rfl HIP.out ?_; (try simp only [Act.put, sq1, sq2, sq3])) | ((with_reducible refine gate_dst (N := 46) rfl ?_); refine wpList_load_row rfl 30 _ rfl g6 rfl 30 #[.int .i64 sx.f0, .int .i64 sx.f1, .string sx.f2, .slice A6 sx.f3.length c6] (0, 0) _ BK6.out huP rfl HIP.out ?_; (try simp only [Act.put, sq1, sq2, sq3])) | ((with_reducible refine gate_dst (N := 61) rfl ?_); refine wpList_load_row rfl 30 _ rfl g6 rfl 30 #[.int .i64 sx.f0, .int .i64 sx.f1, .string sx.f2, .slice A6 sx.f3.length c6] (0, 0) _ BK6.out huP rfl HIP.out ?_; (try simp only [Act.put, sq1, sq2, sq3])) | ((with_reducible refine gate_dst (N := 58) rfl ?_); refine wpList_load_row rfl 30 _ rfl g4 rfl 30 #[.int .i64 sx.f0, .int .i64 sx.f1, .string sx.f2, .slice A4 sx.f3.length c4] (0, 0) _ BK4.out huP rfl HIP.out ?_; (try simp only [Act.put, sq1, sq2, sq3])) | ((with_reducible refine gate_dst (N := 54) rfl ?_); refine wpList_load_row rfl 24 _ rfl g1 rfl 24 #[.int .i64 x.f0, .int .i64 x.f1, .string x.f2, .slice A x.f3.length c] (0, 0) _ BK1.out huQ rfl HIQ.out ?_; (try simp only [Act.put, sq1, sq2, sq3])) | ((with_reducible refine gate_dst (N := 57) rfl ?_); refine wpList_load_row rfl 30 _ rfl g10 rfl 30 #[.int .i64 sx.f0, .int .i64 sx.f1, .string sx.f2, .slice A10 sx.f3.length c10] (0, 0) _ BK10.out huP rfl HIP.out ?_; (try simp only [Act.put, sq1, sq2, sq3])) | ((with_reducible refine gate_dst (N := 38) rfl ?_); refine gate_guard (by rfl) ?_; dsimp only; refine wpList_load_row rfl 30 _ rfl g6 rfl 30 #[.int .i64 sx.f0, .int .i64 sx.f1, .string sx.f2, .slice A6 sx.f3.length c6] (0, 0) _ BK6.out huP rfl HIP.out ?_; (try simp only [Act.put, sq1, sq2, sq3])) | ((with_reducible refine gate_dst (N := 39) rfl ?_); refine gate_guard (by rfl) ?_; dsimp only; refine wpList_load_row rfl 30 _ rfl g4 rfl 30 #[.int .i64 sx.f0, .int .i64 sx.f1, .string sx.f2, .slice A4 sx.f3.length c4] (0, 0) _ BK4.out huP rfl HIP.out ?_; (try simp only [Act.put, sq1, sq2, sq3])) | ((with_reducible refine gate_callee (f := 12) rfl ?_); refine goesL_ (some 34) rfl rfl Try.func12 (by kernel_rfl) rfl #[.agg #[.int .i64 cx.f0, .int .i64 cx.f1, .string cx.f2, .slice A5 cx.f3.length c5], .int .i64 1] rfl (by (try simp only [sm1, sm2, sm3]); first | done | rfl) ?_; refine (mark0_calls cx (.slice A5 cx.f3.length c5) 1 p5 q5 _ (Shp.of_R _ cx.f3 (Nat.le_refl _) _ I5.out) ZP5.out (by omega) HMC.out).mono ?_; rintro e wm ⟨he, hm⟩; rw [HTT.out] at he; subst he; refine ⟨_, rfl, ?_⟩; have n0_ := Aside0.mk (HB.out.trans (hm.bel.mono M5.out)); have n1_ := Aside0.mk ((hm.bel.block g1 G15.out).trans BK1.out); have n2_ := Aside0.mk ((hm.bel.block g4 G45.out).trans BK4.out); have n3_ := Aside0.mk ((hm.out g6 (Nat.le_trans Q56.out GP6.out) (blk_lt BK6.out)).trans BK6.out); have n4_ := Aside0.mk (Kd.R_move I4.out (fun k hk => hm.bel.block k (Nat.lt_of_lt_of_le hk.2 Q45.out))); have n5_ := Aside0.mk (U6.out.move (fun k hk => hm.out k (Nat.le_trans Q56.out (UB6.out k hk).1) (Nat.lt_of_lt_of_le (UB6.out k hk).2 (Nat.le_trans G66.out (Nat.le_of_lt (blk_lt BK6.out)))))); clear HB BK1 BK4 BK6 I4 U6; have HB := n0_; have BK1 := n1_; have BK4 := n2_; have BK6 := n3_; have I4 := n4_; have U6 := n5_; clear n0_ n1_ n2_ n3_ n4_ n5_; clear hm BK5 I5 ZP5; (try simp only [Act.put, sq1, sq2, sq3])) | ((with_reducible refine gate_callee (f := 11) rfl ?_); (with_reducible refine gate_dst (N := 40) rfl ?_); refine gate_guard (by rfl) ?_; dsimp only; refine goesL_ (some 40) rfl rfl Try.func11 (by kernel_rfl) rfl #[.agg #[.int .i64 sx.f0, .int .i64 sx.f1, .string sx.f2, .slice A6 sx.f3.length c6], .agg #[.int .i64 sx.f0, .int .i64 sx.f1, .string sx.f2, .slice A4 sx.f3.length c4]] rfl (by (try simp only [sm1, sm2, sm3]); first | done | rfl) ?_; refine (laws_eqPattern.calls kf sx.f0 sx.f1 sx.f2 A6 c6 sx.f3 sx.f0 sx.f1 sx.f2 A4 c4 sx.f3 true _ (T.C _ _ (Nat.le_refl _) U6.out) U6.out.len (Kd.R_reads' I4.out).2.2 (Kd.R_reads' I4.out).2.1 HF.out).mono ?_; rintro e wd2 ⟨rfl, hb⟩; refine ⟨_, rfl, ?_⟩; have n0_ := Aside0.mk (below_step HB.out hb); have n1_ := Aside0.mk (blk_below BK1.out hb); have n2_ := Aside0.mk (blk_below BK4.out hb); have n3_ := Aside0.mk (blk_below BK6.out hb); have n4_ := Aside0.mk (Go.Proofs.Ytomakpfmghekfaa.RowLaw.IR.below I4.out hb); have n5_ := Aside0.mk (U6.out.grow hb); clear HB BK1 BK4 BK6 I4 U6; have HB := n0_; have BK1 := n1_; have BK4 := n2_; have BK6 := n3_; have I4 := n4_; have U6 := n5_; clear n0_ n1_ n2_ n3_ n4_ n5_; clear hb; (try simp only [Act.put, sq1, sq2, sq3])) | ((with_reducible refine gate_callee (f := 12) rfl ?_); refine goesL_ (some 45) rfl rfl Try.func12 (by kernel_rfl) rfl #[.agg #[.int .i64 sx.f0, .int .i64 sx.f1, .string sx.f2, .slice A6 sx.f3.length c6], .int .i64 1] rfl (by (try simp only [sm1, sm2, sm3]); first | done | rfl) ?_; refine (markX_calls m HM.out sx (.slice A6 sx.f3.length c6) 1 p6 B6 _ U6.out (fun k q => ⟨(UB6.out k q).1, Nat.lt_of_lt_of_le (UB6.out k q).2 (Nat.le_trans G66.out (Nat.le_of_lt (blk_lt BK6.out)))⟩) (Nat.le_trans GP6.out (Nat.le_of_lt (blk_lt BK6.out))) (by omega) HMD.out).mono ?_; rintro e wm2 ⟨he, hu, hm⟩; rw [HTM.out] at he; subst he; refine ⟨_, rfl, ?_⟩; have n0_ := Aside0.mk (HB.out.trans (hm.bel.mono (Nat.le_trans M5.out P56.out))); have n1_ := Aside0.mk ((hm.bel.block g1 (Nat.lt_of_lt_of_le G15.out P56.out)).trans BK1.out); have n2_ := Aside0.mk ((hm.bel.block g4 (Nat.lt_of_lt_of_le G45.out P56.out)).trans BK4.out); have n3_ := Aside0.mk ((hm.out g6 (fun hq => absurd (UB6.out g6 hq).2 (Nat.not_lt_of_le G66.out)) (blk_lt BK6.out)).trans BK6.out); have n4_ := Aside0.mk (Kd.R_move I4.out (fun k hk => hm.bel.block k (Nat.lt_of_lt_of_le hk.2 (Nat.le_trans Q45.out P56.out)))); clear HB BK1 BK4 BK6 I4; have HB := n0_; have BK1 := n1_; have BK4 := n2_; have BK6 := n3_; have I4 := n4_; clear n0_ n1_ n2_ n3_ n4_; clear U6; have U7 := Aside0.mk hu; clear hm hu; (try simp only [Act.put, sq1, sq2, sq3])) | ((with_reducible refine gate_callee (f := 17) rfl ?_); refine goesL_ (some 48) rfl rfl Try.func17 (by kernel_rfl) rfl #[.agg #[.int .i64 sx.f0, .int .i64 sx.f1, .string sx.f2, .slice A6 sx.f3.length c6], .int .i64 1] rfl (by (try simp only [sm1, sm2, sm3]); first | done | rfl) ?_; refine (heldX_calls m HM.out sx (.slice A6 sx.f3.length c6) 1 B6 _ U7.out (by omega) HMD.out).mono ?_; rintro e wh ⟨he, hb⟩; rw [HTM.out] at he; subst he; refine ⟨_, rfl, ?_⟩; have n0_ := Aside0.mk (below_step HB.out hb); have n1_ := Aside0.mk (blk_below BK1.out hb); have n2_ := Aside0.mk (blk_below BK4.out hb); have n3_ := Aside0.mk (blk_below BK6.out hb); have n4_ := Aside0.mk (Go.Proofs.Ytomakpfmghekfaa.RowLaw.IR.below I4.out hb); have n5_ := Aside0.mk (U7.out.grow hb); clear HB BK1 BK4 BK6 I4 U7; have HB := n0_; have BK1 := n1_; have BK4 := n2_; have BK6 := n3_; have I4 := n4_; have U7 := n5_; clear n0_ n1_ n2_ n3_ n4_ n5_; clear hb; (try simp only [Act.put, sq1, sq2, sq3])) | ((with_reducible refine gate_callee (f := 8) rfl ?_); refine goesL_ (some 55) rfl rfl Try.func8 (by kernel_rfl) rfl #[.agg #[.int .i64 x.f0, .int .i64 x.f1, .string x.f2, .slice A x.f3.length c]] rfl (by (try simp only [sm1, sm2, sm3]); first | done | rfl) ?_; refine (laws_toPattern.calls kt x.f0 x.f1 x.f2 A c x.f3 cx.f0 cx.f1 cx.f2 cx.f3 _ (Kd.C_below H3.out HB.out) L3.out HT.out).mono ?_; rintro e wd ⟨v55, rfl, ho, hb⟩; refine ⟨_, rfl, ?_⟩; have n0_ := Aside0.mk (below_step HB.out hb); have n1_ := Aside0.mk (blk_below BK1.out hb); have n2_ := Aside0.mk (blk_below BK4.out hb); have n3_ := Aside0.mk (blk_below BK6.out hb); have n4_ := Aside0.mk (Go.Proofs.Ytomakpfmghekfaa.RowLaw.IR.below I4.out hb); have n5_ := Aside0.mk (U7.out.grow hb); clear HB BK1 BK4 BK6 I4 U7; have HB := n0_; have BK1 := n1_; have BK4 := n2_; have BK6 := n3_; have I4 := n4_; have U7 := n5_; clear n0_ n1_ n2_ n3_ n4_ n5_; have I55 := Aside0.mk (Go.Proofs.Ytomakpfmghekfaa.RowLaw.IR.of ho); obtain ⟨A55, c55, e55⟩ := Kd.R_slice ho; subst e55; clear ho hb; (try simp only [Act.put, sq1, sq2, sq3])) | ((with_reducible refine gate_callee (f := 16) rfl ?_); refine goesL_ (some 56) rfl rfl Try.func16 (by kernel_rfl) rfl #[.agg #[.int .i64 cx.f0, .int .i64 cx.f1, .string cx.f2, .slice A55 cx.f3.length c55]] rfl (by (try simp only [sm1, sm2, sm3]); first | done | rfl) ?_; refine (impl_sp cx FX.out HCN.out A55 c55 _ _ (T.of_R _ _ (Nat.le_refl _) _ I55.out) (fun k q => q.2)).mono ?_; rintro e wd ⟨v10, B10, he, hu, hub, hb⟩; rw [HSX.out] at he hu; have he : e = .returned (.agg #[.int .i64 sx.f0, .int .i64 sx.f1, .string sx.f2, v10]) := he; subst e; refine ⟨_, rfl, ?_⟩; have n0_ := Aside0.mk (below_step HB.out hb); have n1_ := Aside0.mk (blk_below BK1.out hb); have n2_ := Aside0.mk (blk_below BK4.out hb); have n3_ := Aside0.mk (blk_below BK6.out hb); have n4_ := Aside0.mk (Go.Proofs.Ytomakpfmghekfaa.RowLaw.IR.below I4.out hb); have n5_ := Aside0.mk (U7.out.grow hb); clear HB BK1 BK4 BK6 I4 U7; have HB := n0_; have BK1 := n1_; have BK4 := n2_; have BK6 := n3_; have I4 := n4_; have U7 := n5_; clear n0_ n1_ n2_ n3_ n4_ n5_; obtain ⟨A10, c10, e10, _⟩ := hu.inv; subst e10; have U10 := Aside0.mk hu; clear hu hub hb I55; (try simp only [Act.put, sq1, sq2, sq3])) | ((with_reducible refine gate_dst (N := 10) rfl ?_); refine box_event ?hg (N := 10) ?hd (cs := #[.int .i64 0, .int .i64 0, .string (⟨#[]⟩ : ByteArray), .slice none 0 0]) (t := 30) ?hr ?_; (case hd => rfl); (case hg => rfl); (case hr => first | (go_simp; done) | (go_simp; rfl)); intro g10 hg wg10 hbox hb; have HX := Aside0.mk hb; have HGE := Aside0.mk (Nat.le_of_eq hg.symm); have BKn := Aside0.mk hbox; clear hg hbox hb; (try simp only [Act.put, sq1, sq2, sq3])) | ((with_reducible refine gate_store (t := 30) (p := 10) rfl ?_); refine Go.Proofs.Ytomakpfmghekfaa.RowLaw.put_event rfl 30 _ _ rfl g10 0 (.agg #[.int .i64 sx.f0, .int .i64 sx.f1, .string sx.f2, .slice A10 sx.f3.length c10]) rfl rfl [.int .i64 sx.f0, .int .i64 sx.f1, .string sx.f2, .slice A10 sx.f3.length c10] rfl 30 _ #[.int .i64 sx.f0, .int .i64 sx.f1, .string sx.f2, .slice A10 sx.f3.length c10] BKn.out HIP.out (Nat.le_of_ble_eq_true rfl) rfl rfl ?_; intro w7 hk hoth hbel hz; have hb := hbel _ _ HX.out HGE.out; have n0_ := Aside0.mk (below_step HB.out hb); have n1_ := Aside0.mk (blk_below BK1.out hb); have n2_ := Aside0.mk (blk_below BK4.out hb); have n3_ := Aside0.mk (blk_below BK6.out hb); have n4_ := Aside0.mk (Go.Proofs.Ytomakpfmghekfaa.RowLaw.IR.below I4.out hb); have n5_ := Aside0.mk (U7.out.grow hb); have n6_ := Aside0.mk (U10.out.grow hb); clear HB BK1 BK4 BK6 I4 U7 U10; have HB := n0_; have BK1 := n1_; have BK4 := n2_; have BK6 := n3_; have I4 := n4_; have U7 := n5_; have U10 := n6_; clear n0_ n1_ n2_ n3_ n4_ n5_ n6_; have BK10 := Aside0.mk hk; clear hk hoth hbel hz hb HX HGE BKn; (try simp only [Act.put, sq1, sq2, sq3])) | ((with_reducible refine gate_callee (f := 11) rfl ?_); refine goesL_ (some 59) rfl rfl Try.func11 (by kernel_rfl) rfl #[.agg #[.int .i64 sx.f0, .int .i64 sx.f1, .string sx.f2, .slice A10 sx.f3.length c10], .agg #[.int .i64 sx.f0, .int .i64 sx.f1, .string sx.f2, .slice A4 sx.f3.length c4]] rfl (by (try simp only [sm1, sm2, sm3]); first | done | rfl) ?_; refine (laws_eqPattern.calls kf sx.f0 sx.f1 sx.f2 A10 c10 sx.f3 sx.f0 sx.f1 sx.f2 A4 c4 sx.f3 true _ (T.C _ _ (Nat.le_refl _) U10.out) U10.out.len (Kd.R_reads' I4.out).2.2 (Kd.R_reads' I4.out).2.1 HF.out).mono ?_; rintro e wd3 ⟨rfl, hb⟩; refine ⟨_, rfl, ?_⟩; have n0_ := Aside0.mk (below_step HB.out hb); have n1_ := Aside0.mk (blk_below BK6.out hb); have n2_ := Aside0.mk (U7.out.grow hb); clear HB BK6 U7; have HB := n0_; have BK6 := n1_; have U7 := n2_; clear n0_ n1_ n2_; clear hb; (try simp only [Act.put, sq1, sq2, sq3])) | ((with_reducible refine gate_callee (f := 17) rfl ?_); refine goesL_ (some 63) rfl rfl Try.func17 (by kernel_rfl) rfl #[.agg #[.int .i64 sx.f0, .int .i64 sx.f1, .string sx.f2, .slice A6 sx.f3.length c6], .int .i64 1] rfl (by (try simp only [sm1, sm2, sm3]); first | done | rfl) ?_; refine (heldX_calls m HM.out sx (.slice A6 sx.f3.length c6) 1 B6 _ U7.out (by omega) HMD.out).mono ?_; rintro e wh2 ⟨he, hb⟩; rw [HTM.out] at he; subst he; refine ⟨_, rfl, ?_⟩; have n0_ := Aside0.mk (below_step HB.out hb); clear HB; have HB := n0_; clear n0_; clear hb; (try simp only [Act.put, sq1, sq2, sq3])))
  go_ret
  exact ⟨rfl, HB.out⟩
 ·rw [if_neg hz] at hs
  have HS := Aside0.mk hs
  clear hs hz
  go_enter Try.func4, Try.ntmps4
  go_wp2_with (first | ((with_reducible refine gate_dst (N := 1) rfl ?_); refine box_event ?hg (N := 1) ?hd (cs := #[.int .i64 x.f0, .int .i64 x.f1, .string x.f2, .slice A x.f3.length c]) (t := 24) ?hr ?_; (case hd => rfl); (case hg => rfl); (case hr => first | (go_simp; done) | (go_simp; rfl)); intro g1 hg wg1 hbox hb; have n0_ := Aside0.mk (below_step HB.out hb); clear HB; have HB := n0_; clear n0_; have BK1 := Aside0.mk hbox; clear hbox hg hb; (try simp only [Act.put, sq1, sq2, sq3])) | ((with_reducible refine gate_dst (N := 11) rfl ?_); refine wpList_load_row rfl 24 _ rfl g1 rfl 24 #[.int .i64 x.f0, .int .i64 x.f1, .string x.f2, .slice A x.f3.length c] (0, 0) _ BK1.out huQ rfl HIQ.out ?_; (try simp only [Act.put, sq1, sq2, sq3])) | ((with_reducible refine gate_callee (f := 6) rfl ?_); refine goesL_ (some 13) rfl rfl Try.func6 (by kernel_rfl) rfl #[.agg #[.int .i64 x.f0, .int .i64 x.f1, .string x.f2, .slice A x.f3.length c], .int .i64 1048576] rfl (by (try simp only [sm1, sm2, sm3]); first | done | rfl) ?_; refine (laws_szPattern.calls ks x.f0 x.f1 x.f2 A c x.f3 1048576 (-1) _ (Kd.C_below H3.out HB.out) L3.out HS.out).mono ?_; rintro e wd ⟨rfl, hb⟩; refine ⟨_, rfl, ?_⟩; have n0_ := Aside0.mk (below_step HB.out hb); have n1_ := Aside0.mk (blk_below BK1.out hb); clear HB BK1; have HB := n0_; have BK1 := n1_; clear n0_ n1_; clear hb; (try simp only [Act.put, sq1, sq2, sq3])))
  go_ret
  exact ⟨rfl, HB.out⟩
end Go.Proofs.Ytomakpfmghekfaa.PFnExactSimplifyPattern
