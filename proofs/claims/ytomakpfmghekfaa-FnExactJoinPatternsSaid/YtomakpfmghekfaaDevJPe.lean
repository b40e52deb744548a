/- By hand: what the law FnExactJoinPatterns reaches beyond the printed texts, and the law's own function. Conditions: none beyond each statement. -/
import Derived.Test.YtomakpfmghekfaaProg
import Derived.Below
import Derived.Deep.Draws
import Derived.Deep.AppendLies
import Derived.Maps.AppendAt
import Derived.OwnWalk
import Derived.Laws.BytesArg
import Derived.Laws.MakeOwn
import Derived.Laws.OwnMore
import Derived.Deep.OwnRows
import Derived.Tactics
import Derived.Lib.ConvBytes
import Derived.Laws.Slices
import Derived.WalkKit
import Derived.KernelRfl
import Derived.RowKit3
import Derived.Deep.LoopGhost
import Derived.Deep.QuietTactic
import Derived.BigQuiet
import Derived.WideLaws
import Derived.Deep.DeepCutAuto
import Derived.Deep.CutBlock
import Derived.Deep.RegionHeld3
import Derived.Laws.Rows
import Derived.Lib.AppendStr
import Derived.ArgAppend
import Derived.Laws.IdiomCopy
import Derived.OrdersHeld
import Derived.Laws.BitsLemmas
import Derived.RowKit
import Derived.Test.YtomakpfmghekfaaWWords
import Derived.Test.YtomakpfmghekfaaWLast
import Derived.Test.YtomakpfmghekfaaWTab
import Derived.Test.YtomakpfmghekfaaWFour
import Derived.Test.YtomakpfmghekfaaWQPut
import Derived.Test.YtomakpfmghekfaaWApart
import Derived.Test.YtomakpfmghekfaaWArr
import Derived.Test.YtomakpfmghekfaaWZeros
import Derived.Test.YtomakpfmghekfaaWFoot
import Derived.Test.YtomakpfmghekfaaWKept
import Derived.Test.YtomakpfmghekfaaWShare
import Derived.Test.YtomakpfmghekfaaWN
import Derived.Test.YtomakpfmghekfaaWFootNe
import Derived.Test.YtomakpfmghekfaaWAt
import Derived.Test.YtomakpfmghekfaaWEqStruct
import Derived.Test.YtomakpfmghekfaaWRepsOne
import Derived.Test.YtomakpfmghekfaaWInv
import Derived.Test.YtomakpfmghekfaaWInvWords
import Derived.Test.YtomakpfmghekfaaWGuard
import Derived.Test.YtomakpfmghekfaaWNEv
import Derived.Test.YtomakpfmghekfaaWMore
import Derived.Test.YtomakpfmghekfaaDevJPa
import Derived.Test.YtomakpfmghekfaaDevJPb
import Derived.Test.YtomakpfmghekfaaDevJPcimpl
import Derived.Test.YtomakpfmghekfaaRowLaw
namespace Go.Proofs.Ytomakpfmghekfaa.PFnExactJoinPatterns
open Go.RowKit Go.Proofs.YtomakpfmghekfaaW.PrintWords Go.Proofs.YtomakpfmghekfaaW.PrintLast Go.Proofs.YtomakpfmghekfaaW.PrintMore
attribute [local go_sem] max2_int min2_int max_two min_two max_three min_three max_four min_four
set_option linter.unusedVariables false
set_option linter.unusedSimpArgs false
set_option maxHeartbeats 8000000 in
set_option maxRecDepth 100000 in
theorem simplified_calls (N : Nat) (hNN : N ≤ 2000000) : ∀ (n : Nat) (x : PT), VP x → cntT x ≤ n → cntT x ≤ N → ∀ (va : Value) (B : Nat → Prop) (w : World), T False w B va x.f3 → (∀ k, B k → k < w.heap.size) →
  Calls Try.prog 31 #[.agg #[.int .i64 x.f0, .int .i64 x.f1, .string x.f2, va]] w (Res True w (fun _ => False) (simpI N n x)) := by
 intro n
 induction n with
 | zero => intro x _ hn; exact absurd hn (by rw [cntT_eq]; omega)
 | succ n ih =>
 intro x hv hn hN va B w hT hL
 obtain ⟨A, c, rfl, _⟩ := hT.inv
 have huP := Try.underlying30
 have huS := Try.underlying28
 have HIP := Aside0.mk (by kernel_rfl : (Try.prog.info? 30).map (·.size) = some 4)
 have HT := Aside0.mk hT
 have HL := Aside0.mk hL
 have HV := Aside0.mk hv
 have HN := Aside0.mk hn
 have HNN := Aside0.mk hN
 have IH := Aside0.mk ih
 have HB := Aside0.mk (Below.refl w.heap.size w)
 have HM := Aside0.mk (Nat.le_trans hN hNN)
 clear hT hL hn hN ih
 go_enter Try.func31, Try.ntmps31
 go_upto_region 1 with (first | ((with_reducible refine gate_dst (N := 1) rfl ?_); refine box_event ?hg (N := 1) ?hd (cs := #[.int .i64 x.f0, .int .i64 x.f1, .string x.f2, .slice A x.f3.length c]) (t := 30) ?hr ?_; (case hd => rfl); (case hg => rfl); (case hr => first | (go_simp; done) | (go_simp; rfl)); intro g1 hg w1 hbox hb; have GE1 := Aside0.mk (by rw [hg]; exact HB.out.size : w.heap.size ≤ g1); have n0_ := Aside0.mk (below_step HB.out hb); clear HB; have HB := n0_; clear n0_; have BK1 := Aside0.mk hbox; clear hbox hg hb; (try simp only [Act.put, sq1, sq2, sq3])) | ((with_reducible refine gate_dst (N := 2) rfl ?_); refine box_event ?hg (N := 2) ?hd (cs := #[.int .i64 0, .int .i64 0, .string (⟨#[]⟩ : ByteArray), .slice none 0 0]) (t := 30) ?hr ?_; (case hd => rfl); (case hg => rfl); (case hr => first | (go_simp; done) | (go_simp; rfl)); intro g2 hg w2 hbox hb; have GE2 := Aside0.mk (by rw [hg]; exact HB.out.size : w.heap.size ≤ g2); have NE1 := Aside0.mk (by rw [hg]; exact Nat.ne_of_lt (blk_lt BK1.out) : g1 ≠ g2); have n0_ := Aside0.mk (below_step HB.out hb); have n1_ := Aside0.mk (blk_below BK1.out hb); clear HB BK1; have HB := n0_; have BK1 := n1_; clear n0_ n1_; have BK2 := Aside0.mk hbox; clear hbox hg hb; (try simp only [Act.put, sq1, sq2, sq3])))
 (try simp only [Act.put, sq1, sq2, sq3])
 obtain ⟨zx0, zx1, zx2, zx3⟩ := z4 BK1.out
 have LT1 := Aside0.mk (blk_lt BK1.out)
 have LT2 := Aside0.mk (blk_lt BK2.out)
 have HW2 := Aside0.mk HB.out.size
 have HBW := Aside0.mk HB.out
 have BW1 := Aside0.mk BK1.out
 have BW2 := Aside0.mk BK2.out
 obtain ⟨f, hf⟩ : ∃ f : PT → PT, f = simpI N n := ⟨_, rfl⟩
 have HF := Aside0.mk hf
 clear hf
 go_wp2_with (first | ((with_reducible refine gate_dst (N := 7) rfl ?_); refine Kd.R_lit kFlat w2.heap.size 30 ?hg (N := 7) ?hd (xs := []) (inner := []) (ok := fun _ => True) (okp := fun _ => True) ?hr ?hp (fun _ hk => hk) trivial (Below.refl _ _) (Nat.le_refl _) (by simp) ?_; (case hd => rfl); (case hg => rfl); (case hr => first | (go_simp; done) | (go_simp; rfl)); (case hp => exact Reps.none _ _); intro v1 w5 ho hb hg_ hnew_; have HK := Aside0.mk (Kids.nil ho); have HB2 := Aside0.mk hb; have n0_ := Aside0.mk (below_step HB.out hb); have n1_ := Aside0.mk (blk_below BK1.out hb); have n2_ := Aside0.mk (blk_below BK2.out hb); clear HB BK1 BK2; have HB := n0_; have BK1 := n1_; have BK2 := n2_; clear n0_ n1_ n2_; clear hb ho hg_ hnew_ zx0 zx1 zx2 zx3; obtain ⟨zx0, zx1, zx2, zx3⟩ := z4 BK1.out; (try simp only [Act.put, sq1, sq2, sq3])))
 go_loopg [3, 11] x.f3.length (fun kq v3 v11 w' => ∃ (i : Nat) (vc : Value) (As : Nat → Option Addr) (cs : Nat → Nat) (Bs : Nat → Nat → Prop) (ys : List (Int × Int × ByteArray × (Option Addr × Nat × Nat))), v11 = .int .i64 (i : Int) ∧ vc = v3 ∧ Aside0 (Kids 30 w2.heap.size w' vc ((x.f3.take i).map f) As cs Bs ys) ∧ Aside0 (kq + i = x.f3.length) ∧ Aside0 (Below w2.heap.size w2 w') ∧ Aside0 (Below w.heap.size w w') ∧ Aside0 (w'.heap[g1]? = some (.cells #[.int .i64 x.f0, .int .i64 x.f1, .string x.f2, .slice A x.f3.length c] 30 (0, 0))) ∧ Aside0 (w'.heap[g2]? = some (.cells #[.int .i64 0, .int .i64 0, .string (⟨#[]⟩ : ByteArray), .slice none 0 0] 30 (0, 0))))
 case atStart => exact ⟨0, _, _, _, _, _, rfl, rfl, ⟨by simpa using HK.out⟩, ⟨by omega⟩, HB2, HB, BK1, BK2⟩
 case round =>
  clear HK HB2 HB BK1 BK2 zx0 zx1 zx2 zx3
  obtain ⟨i, vc, As, cs, Bs, ys, rfl, rfl, HK, HQ, HB2, HB, BK1, BK2⟩ := hrel
  obtain ⟨zx0, zx1, zx2, zx3⟩ := z4 BK1.out
  by_cases hi : i < x.f3.length
  ·obtain ⟨y, hy⟩ : ∃ y, x.f3[i]? = some y := ⟨_, List.getElem?_eq_getElem hi⟩
   have ey : x.f3.getD i z30 = y := by rw [List.getD_eq_getElem?_getD, hy]; rfl
   obtain ⟨ge, A0, c0, B0, rfl, hC0, hT0, hs0⟩ := HT.out.elem i hi
   rw [ey] at hC0 hT0
   have EC0 := Aside0.mk hC0
   have HT0 := Aside0.mk hT0
   have HS0 := Aside0.mk hs0
   have V0 := Aside0.mk (show VP y by rw [← ey]; exact HV.out.kid i hi)
   have hcm := cntL_mem x.f3 i y hy
   have hcx := cntT_eq x
   have hcy := cntT_eq y
   have CN0 := Aside0.mk (by have := HN.out; omega : cntT y ≤ n)
   have CM0 := Aside0.mk (by have := HNN.out; omega : cntT y ≤ N)
   have hlen := len_cnt x.f3
   have CI := Aside0.mk (by have := HM.out; omega : i ≤ 2000000)
   have HW := Aside0.mk (by have := HM.out; unfold wrap64; omega : wrap64 ((i : Int) + 1) = ((i + 1 : Nat) : Int))
   have ES := Aside0.mk (by rw [List.take_add_one, hy]; simp : (x.f3.take (i + 1)).map f = (x.f3.take i).map f ++ [f y])
   have EL := Aside0.mk (by simp; omega : ((x.f3.take i).map f).length = i)
   obtain ⟨kp, rfl⟩ : ∃ kp, gk = kp + 1 := ⟨gk - 1, by have := HQ.out; omega⟩
   have hkp : kp + (i + 1) = x.f3.length := by have := HQ.out; omega
   have c5 : ((i : Int) < (x.f3.length : Int)) = True := eq_true (by omega)
   have c5n : decide (i < x.f3.length) = true := decide_eq_true hi
   have c6 : (0 ≤ (i : Int)) = True := eq_true (by omega)
   clear hi hy hC0 hT0 hs0 ey hcm hcx hcy hlen
   go_wp2_with (first | ((with_reducible refine gate_dst (N := 14) rfl ?_); refine Go.Proofs.Ytomakpfmghekfaa.RowLaw.at_event rfl 30 _ rfl _ rfl _ [.int .i64 y.f0, .int .i64 y.f1, .string y.f2, .slice A0 y.f3.length c0] huP rfl HIP.out (EC0.out.below HB.out) ?_; (try simp only [Act.put, sq1, sq2, sq3])) | ((with_reducible refine gate_dst (N := 5) rfl ?_); refine box_event ?hg (N := 5) ?hd (cs := #[.int .i64 0, .int .i64 0, .string (⟨#[]⟩ : ByteArray), .slice none 0 0]) (t := 30) ?hr ?_; (case hd => rfl); (case hg => rfl); (case hr => first | (go_simp; done) | (go_simp; rfl)); intro g5 hg w5 hbox hb; have GE5 := Aside0.mk (by rw [hg]; exact HB2.out.size : w2.heap.size ≤ g5); have GW5 := Aside0.mk (by rw [hg]; exact HB.out.size : w.heap.size ≤ g5); have NK := Aside0.mk (by rw [hg]; exact ⟨fun k hk he => absurd (Kd.R_lt HK.out.row k hk) (by omega), fun j b hb => (HK.out.blk j b hb).2.1⟩ : (∀ k, vc.ownBlock = some k → k ≠ g5) ∧ ∀ j b, Bs j b → b < g5); have n0_ := Aside0.mk (below_step HB.out hb); have n1_ := Aside0.mk (below_step HB2.out hb); have n2_ := Aside0.mk (Kids.grow HK.out hb); have n3_ := Aside0.mk (blk_below BK1.out hb); have n4_ := Aside0.mk (blk_below BK2.out hb); clear HB HB2 HK BK1 BK2; have HB := n0_; have HB2 := n1_; have HK := n2_; have BK1 := n3_; have BK2 := n4_; clear n0_ n1_ n2_ n3_ n4_; have BK5 := Aside0.mk hbox; clear hbox hg hb; (try simp only [Act.put, sq1, sq2, sq3])) | ((with_reducible refine gate_store (t := 30) (p := 5) rfl ?_); refine Go.Proofs.Ytomakpfmghekfaa.RowLaw.put_event rfl 30 _ _ rfl g5 0 (.agg #[.int .i64 y.f0, .int .i64 y.f1, .string y.f2, .slice A0 y.f3.length c0]) rfl rfl [.int .i64 y.f0, .int .i64 y.f1, .string y.f2, .slice A0 y.f3.length c0] rfl 30 _ #[.int .i64 y.f0, .int .i64 y.f1, .string y.f2, .slice A0 y.f3.length c0] BK5.out HIP.out (Nat.le_of_ble_eq_true rfl) rfl rfl ?_; intro w9 hk hoth hbel hz; have n0_ := Aside0.mk (hbel _ _ HB.out GW5.out); have n1_ := Aside0.mk (hbel _ _ HB2.out GE5.out); have n2_ := Aside0.mk (Kids.put HK.out hoth hz NK.out.1 NK.out.2); have n3_ := Aside0.mk ((hoth g1 (Nat.ne_of_lt (Nat.lt_of_lt_of_le LT1.out GE5.out))).trans BK1.out); have n4_ := Aside0.mk ((hoth g2 (Nat.ne_of_lt (Nat.lt_of_lt_of_le LT2.out GE5.out))).trans BK2.out); clear HB HB2 HK BK1 BK2 BK5; have HB := n0_; have HB2 := n1_; have HK := n2_; have BK1 := n3_; have BK2 := n4_; have BK5 := Aside0.mk hk; clear n0_ n1_ n2_ n3_ n4_ hk hoth hbel hz; (try simp only [Act.put, sq1, sq2, sq3])) | ((with_reducible refine gate_dst (N := 16) rfl ?_); refine wpList_load_row rfl 30 _ rfl g5 rfl 30 #[.int .i64 y.f0, .int .i64 y.f1, .string y.f2, .slice A0 y.f3.length c0] (0, 0) _ BK5.out huP rfl HIP.out ?_; (try simp only [Act.put, sq1, sq2, sq3])) | ((with_reducible refine gate_callee (f := 31) rfl ?_); refine goesL_ (some 17) rfl rfl Try.func31 (by kernel_rfl) rfl #[.agg #[.int .i64 y.f0, .int .i64 y.f1, .string y.f2, .slice A0 y.f3.length c0]] rfl (by (try simp only [sm1, sm2, sm3]); first | done | rfl) ?_; refine (IH.out y V0.out CN0.out CM0.out (.slice A0 y.f3.length c0) B0 _ (HT0.out.grow HB.out) (fun k hk => Nat.lt_of_lt_of_le (HL.out k (HS0.out k hk)) HB.out.size)).mono ?_; rw [← HF.out]; rintro e wd ⟨v5, B5, rfl, hT, hB', hb⟩; obtain ⟨A5, c5_, e5, _⟩ := hT.inv; subst e5; refine ⟨.agg #[.int .i64 (f y).f0, .int .i64 (f y).f1, .string (f y).f2, .slice A5 (f y).f3.length c5_], rfl, ?_⟩; have HBN := Aside0.mk (fun b (jb : B5 b) => (⟨Nat.le_trans HB2.out.size ((hB' b jb).1.resolve_left id), (hB' b jb).2, fun he => absurd (Kd.R_lt HK.out.row b he.symm) (Nat.not_lt.2 ((hB' b jb).1.resolve_left id))⟩ : w2.heap.size ≤ b ∧ b < wd.heap.size ∧ some b ≠ vc.ownBlock)); have HDN := Aside0.mk ((fun j b jb h2 => absurd (HK.out.blk j b h2).2.1 (Nat.not_lt.2 ((hB' b jb).1.resolve_left id))) : ∀ j b, B5 b → ¬ Bs j b); have U5 := Aside0.mk hT; have n0_ := Aside0.mk (below_step HB.out hb); have n1_ := Aside0.mk (below_step HB2.out hb); have n2_ := Aside0.mk (Kids.grow HK.out hb); have n3_ := Aside0.mk (blk_below BK1.out hb); have n4_ := Aside0.mk (blk_below BK2.out hb); clear HB HB2 HK BK1 BK2; have HB := n0_; have HB2 := n1_; have HK := n2_; have BK1 := n3_; have BK2 := n4_; clear n0_ n1_ n2_ n3_ n4_; clear hT hB' hb; (try simp only [Act.put, sq1, sq2, sq3])) | ((with_reducible refine gate_builtin (b := .append) (xs := #[.tmp 15, .tmp 18]) rfl ?_); at_builtin; refine Kd.R_append kFlat (w0 := w2) w2.heap.size rfl (.tmp 15) (.tmp 18) 28 30 (.agg #[(.int .i64 0), (.int .i64 0), (.string ⟨#[]⟩), (.slice none 0 0)]) 56 rfl Try.underlying28 info30 rfl (Nat.le_of_ble_eq_true rfl) (by omega) vc ys (kOf (f y) A5 c5_) [.int .i64 (f y).f0, .int .i64 (f y).f1, .string (f y).f2, .slice A5 (f y).f3.length c5_] (fun _ => True) (fun _ => False) rfl rfl ?aP (fun _ hk => hk.elim) ?aF ?aO ?aB ?aS ?aL ?_; (case aP => exact kFlat_M); (case aB => exact HB2.out); (case aF => exact (fun _ _ => trivial)); (case aO => exact HK.out.row); (case aS => exact HB2.out.size); (case aL => have := CI.out; have := HK.out.len; have := EL.out; omega); intro v1 w6 ho hb hg hat; have n0_ := Aside0.mk (HK.out.snoc U5.out HBN.out HDN.out ho hg hat); have n1_ := Aside0.mk hb; have n2_ := Aside0.mk (below_two (w2 := w2) HBW.out HW2.out hb); have n3_ := Aside0.mk ((hb.block g1 LT1.out).trans BW1.out); have n4_ := Aside0.mk ((hb.block g2 LT2.out).trans BW2.out); clear HK HB2 HB BK1 BK2; have HK := n0_; have HB2 := n1_; have HB := n2_; have BK1 := n3_; have BK2 := n4_; clear n0_ n1_ n2_ n3_ n4_ ho hb hg hat; (try simp only [Act.put, sq1, sq2, sq3])))
   go_roundg kp
   case measure => omega
   case rel => exact ⟨i + 1, _, _, _, _, _, by first | rw [HW.out] | rfl, rfl, ⟨by rw [ES.out]; exact HK.out⟩, ⟨by omega⟩, HB2, HB, BK1, BK2⟩
  ·obtain rfl : i = x.f3.length := by have := HQ.out; omega
   obtain ⟨ks, hks⟩ : ∃ ks, ks = x.f3.map f := ⟨_, rfl⟩
   have TK := Aside0.mk (by have h := HK.out.toT; rw [List.take_length, ← hks] at h; exact h : T True wr (fun b => w2.heap.size ≤ b ∧ b < wr.heap.size) vc ks)
   obtain ⟨Ak, ck, ek, _⟩ := TK.out.inv
   subst ek
   have hlk : ks.length = x.f3.length := by rw [hks]; simp
   have HKS := Aside0.mk hks
   have c5 : ((x.f3.length : Int) < (x.f3.length : Int)) = False := eq_false (by omega)
   obtain ⟨mS, hmS⟩ : ∃ m, m = wr.heap.size := ⟨_, rfl⟩
   rw [← hmS] at TK
   have GM := Aside0.mk (hmS ▸ HB2.out.size : w2.heap.size ≤ mS)
   have SM := Aside0.mk (Nat.le_of_eq hmS : mS ≤ wr.heap.size)
   have HKD := Aside0.mk (by intro i hi; rw [hks, List.getD_eq_getElem?_getD, List.getElem?_map]; unfold kid; rw [List.getD_eq_getElem?_getD, List.getElem?_eq_getElem hi]; rfl : ∀ i, i < x.f3.length → ks.getD i z30 = f (kid x i))
   clear hks hmS hi HK HQ HB2
   go_upto_region 8 with (first | ((with_reducible refine gate_dst (N := 6) rfl ?_); refine box_event ?hg (N := 6) ?hd (cs := #[.int .i64 0, .int .i64 0, .string (⟨#[]⟩ : ByteArray), .slice none 0 0]) (t := 30) ?hr ?_; (case hd => rfl); (case hg => rfl); (case hr => first | (go_simp; done) | (go_simp; rfl)); intro g6 hg w6 hbox hb; have N61 := Aside0.mk (by rw [hg]; exact Nat.ne_of_lt (blk_lt BK1.out) : g1 ≠ g6); have N62 := Aside0.mk (by rw [hg]; exact Nat.ne_of_lt (blk_lt BK2.out) : g2 ≠ g6); have GE6 := Aside0.mk (by rw [hg]; exact HB.out.size : w.heap.size ≤ g6); have MG := Aside0.mk (by rw [hg]; exact SM.out : mS ≤ g6); have n8_ := Aside0.mk (Nat.le_trans SM.out hb.size); clear SM; have SM := n8_; clear n8_; have n0_ := Aside0.mk (below_step HB.out hb); have n1_ := Aside0.mk (blk_below BK1.out hb); have n2_ := Aside0.mk (blk_below BK2.out hb); have n3_ := Aside0.mk (T.grow TK.out hb); clear HB BK1 BK2 TK; have HB := n0_; have BK1 := n1_; have BK2 := n2_; have TK := n3_; clear n0_ n1_ n2_ n3_; have BK6 := Aside0.mk hbox; clear hbox hg hb; (try simp only [Act.put, sq1, sq2, sq3])) | ((with_reducible refine gate_store (t := 30) (p := 6) rfl ?_); refine Go.Proofs.Ytomakpfmghekfaa.RowLaw.put_event rfl 30 _ _ rfl g6 0 (.agg #[.int .i64 1, .int .i64 0, .string (⟨#[]⟩), .slice none 0 0]) rfl rfl [.int .i64 1, .int .i64 0, .string (⟨#[]⟩), .slice none 0 0] rfl 30 _ #[.int .i64 1, .int .i64 0, .string (⟨#[]⟩), .slice none 0 0] BK6.out HIP.out (Nat.le_of_ble_eq_true rfl) rfl rfl ?_; intro w9 hk hoth hbel hz; have n0_ := Aside0.mk ((hoth g1 N61.out).trans BK1.out); have n1_ := Aside0.mk ((hoth g2 N62.out).trans BK2.out); have n2_ := Aside0.mk (TK.out.move (fun k jb => hoth k (Nat.ne_of_lt (Nat.lt_of_lt_of_le jb.2 MG.out)))); have q_ := Aside0.mk (hbel _ _ HB.out GE6.out); have q2_ := Aside0.mk (by rw [hz]; exact SM.out : mS ≤ w9.heap.size); clear HB SM BK6 BK1 BK2 TK; have HB := q_; have SM := q2_; have BK1 := n0_; have BK2 := n1_; have TK := n2_; have BK6 := Aside0.mk hk; clear q_ q2_ hk hoth hbel hz n0_ n1_ n2_; (try simp only [Act.put, sq1, sq2, sq3])))
   (try simp only [Act.put, sq1, sq2, sq3])
   clear zx0 zx1 zx2 zx3
   obtain ⟨zx0, zx1, zx2, zx3⟩ := z4 BK1.out
   by_cases c6 : x.f0 = 6
   ·have b6 : (x.f0 == 6) = true := beq_iff_eq.mpr c6
    by_cases d0 : x.f1 = 0
    ·have d0b : (x.f1 == 0) = true := beq_iff_eq.mpr d0
     have EQ : simpI N (n + 1) x = strP ⟨#[]⟩ := by simp only [simpI]; rw [← HF.out, ← HKS.out]; rw [if_pos (by rw [b6, d0b]; rfl)]
     go_wp2_with (first | ((with_reducible refine gate_dst (N := 31) rfl ?_); refine wpList_load_row rfl 30 _ rfl g6 rfl 30 #[.int .i64 1, .int .i64 0, .string (⟨#[]⟩), .slice none 0 0] (0, 0) _ BK6.out huP rfl HIP.out ?_; (try simp only [Act.put, sq1, sq2, sq3])) | ((with_reducible refine gate_store (t := 30) (p := 2) rfl ?_); refine Go.Proofs.Ytomakpfmghekfaa.RowLaw.put_event rfl 30 _ _ rfl g2 0 (.agg #[.int .i64 1, .int .i64 0, .string (⟨#[]⟩), .slice none 0 0]) rfl rfl [.int .i64 1, .int .i64 0, .string (⟨#[]⟩), .slice none 0 0] rfl 30 _ #[.int .i64 1, .int .i64 0, .string (⟨#[]⟩), .slice none 0 0] BK2.out HIP.out (Nat.le_of_ble_eq_true rfl) rfl rfl ?_; intro w9 hk hoth hbel hz; have q_ := Aside0.mk (hbel _ _ HB.out GE2.out); have q2_ := Aside0.mk (by rw [hz]; exact SM.out : mS ≤ w9.heap.size); clear HB SM BK2 ; have HB := q_; have SM := q2_; have BK2 := Aside0.mk hk; clear q_ q2_ hk hoth hbel hz ; (try simp only [Act.put, sq1, sq2, sq3])))
     refine bodyPost_ret (results_cell_row rfl _ _ _ 30 _ (0, 0) _ rfl BK2.out huP rfl (by kernel_rfl)) rfl ?_
     try rw [EQ]
     exact ⟨_, fun _ => False, rfl, .nil _ _ _, fun _ h => h.elim, HB.out⟩
    ·have d0b : (x.f1 == 0) = false := beq_eq_false_iff_ne.mpr d0
     have b19 : (x.f0 == 19) = false := beq_eq_false_iff_ne.mpr (by omega)
     have b18 : (x.f0 == 18) = false := beq_eq_false_iff_ne.mpr (by omega)
     have b20 : (x.f0 == 20) = false := beq_eq_false_iff_ne.mpr (by omega)
     have b21 : (x.f0 == 21) = false := beq_eq_false_iff_ne.mpr (by omega)
     have b22 : (x.f0 == 22) = false := beq_eq_false_iff_ne.mpr (by omega)
     have EQ : simpI N (n + 1) x = ⟨x.f0, x.f1, x.f2, ks⟩ := by simp only [simpI]; rw [← HF.out, ← HKS.out]; rw [if_neg (by rw [d0b]; simp), if_neg (by rw [b19]; simp), if_neg (by rw [b18]; simp), if_neg (by rw [b20]; simp), if_neg (by rw [b21, b22]; simp)]
     go_wp2_with (first | ((with_reducible refine gate_store (t := 28) (p := 99) rfl ?_); refine Go.Proofs.Ytomakpfmghekfaa.RowLaw.put_event rfl 28 _ _ rfl g1 3 (.slice Ak ks.length ck) rfl rfl [.slice Ak ks.length ck] rfl 30 _ #[.int .i64 x.f0, .int .i64 x.f1, .string x.f2, .slice Ak ks.length ck] BK1.out (by kernel_rfl) (Nat.le_of_ble_eq_true rfl) rfl rfl ?_; intro w8 hk hoth hbel hz; have q_ := Aside0.mk (hbel _ _ HB.out GE1.out); have n0_ := Aside0.mk (TK.out.move (fun k jb => hoth k (Nat.ne_of_gt (Nat.lt_of_lt_of_le LT1.out jb.1)))); have n1_ := Aside0.mk ((hoth g2 (Ne.symm NE1.out)).trans BK2.out); have q2_ := Aside0.mk (by rw [hz]; exact SM.out : mS ≤ w8.heap.size); clear HB SM TK BK1 BK2; have HB := q_; have SM := q2_; have TK := n0_; have BK2 := n1_; have BK1 := Aside0.mk hk; clear q_ q2_ n0_ n1_ hk hoth hbel hz; (try simp only [Act.put, sq1, sq2, sq3])) | ((with_reducible refine gate_dst (N := 100) rfl ?_); refine wpList_load_row rfl 30 _ rfl g1 rfl 30 #[.int .i64 x.f0, .int .i64 x.f1, .string x.f2, .slice Ak ks.length ck] (0, 0) _ BK1.out huP rfl HIP.out ?_; (try simp only [Act.put, sq1, sq2, sq3])) | ((with_reducible refine gate_store (t := 30) (p := 2) rfl ?_); refine Go.Proofs.Ytomakpfmghekfaa.RowLaw.put_event rfl 30 _ _ rfl g2 0 (.agg #[.int .i64 x.f0, .int .i64 x.f1, .string x.f2, .slice Ak ks.length ck]) rfl rfl [.int .i64 x.f0, .int .i64 x.f1, .string x.f2, .slice Ak ks.length ck] rfl 30 _ #[.int .i64 x.f0, .int .i64 x.f1, .string x.f2, .slice Ak ks.length ck] BK2.out HIP.out (Nat.le_of_ble_eq_true rfl) rfl rfl ?_; intro w9 hk hoth hbel hz; have n0_ := Aside0.mk (TK.out.move (fun k jb => hoth k (Nat.ne_of_gt (Nat.lt_of_lt_of_le LT2.out jb.1)))); have q_ := Aside0.mk (hbel _ _ HB.out GE2.out); have q2_ := Aside0.mk (by rw [hz]; exact SM.out : mS ≤ w9.heap.size); clear HB SM BK2 TK; have HB := q_; have SM := q2_; have TK := n0_; have BK2 := Aside0.mk hk; clear q_ q2_ hk hoth hbel hz n0_; (try simp only [Act.put, sq1, sq2, sq3])))
     refine bodyPost_ret (results_cell_row rfl _ _ _ 30 _ (0, 0) _ rfl BK2.out huP rfl (by kernel_rfl)) rfl ?_
     try rw [EQ]
     exact ⟨_, _, rfl, TK.out, fun k hk => ⟨.inr (Nat.le_trans HW2.out hk.1), Nat.lt_of_lt_of_le hk.2 SM.out⟩, HB.out⟩
   ·have b6 : (x.f0 == 6) = false := beq_eq_false_iff_ne.mpr c6
    by_cases c19 : x.f0 = 19
    ·have b19 : (x.f0 == 19) = true := beq_iff_eq.mpr c19
     have h2 := HV.out.okt.two (.inl c19)
     have hl2 : x.f3.length = 2 := by rw [h2]; rfl
     have hcn := cnt_two h2
     obtain ⟨q, hq⟩ : ∃ q : PT, q = ⟨0, 0, ⟨#[]⟩, ks⟩ := ⟨_, rfl⟩
     have hq3 : q.f3 = ks := by rw [hq]
     have q0 : kid q 0 = f (kid x 0) := by unfold kid; rw [hq3]; exact HKD.out 0 (by omega)
     have q1 : kid q 1 = f (kid x 1) := by unfold kid; rw [hq3]; exact HKD.out 1 (by omega)
     have hq2 : q.f3 = [kid q 0, kid q 1] := by rw [hq3, q0, q1, HKS.out, h2]; rfl
     have TQ : T True w9 (fun b => w2.heap.size ≤ b ∧ b < mS) (.slice Ak q.f3.length ck) q.f3 := by rw [hq3]; exact TK.out
     obtain ⟨ge, A0, c0, B0, A1, c1, B1, rfl, hC0, hC1, hT0, hT1, hs0, hs1, hd01⟩ := TQ.elems hq2
     have NGE := Aside0.mk (Nat.ne_of_gt (Nat.lt_of_lt_of_le LT2.out (TQ.head (by rw [hq2]; simp)).1) : ge ≠ g2)
     have EC0 := Aside0.mk hC0
     have EC1 := Aside0.mk hC1
     have HT0 := Aside0.mk hT0
     have HT1 := Aside0.mk hT1
     have HS0 := Aside0.mk hs0
     have HS1 := Aside0.mk hs1
     have HD01 := Aside0.mk hd01
     have S0 := Aside0.mk (by have := simp_ok N n _ (HV.out.kid 0 (by omega)); rw [← simp_same N n _ (HV.out.kid 0 (by omega)), ← HF.out, ← q0] at this; exact ⟨this.1, by have := this.2; have := HNN.out; omega⟩ : OKT (kid q 0) ∧ cntT (kid q 0) ≤ N)
     have S1 := Aside0.mk (by have := simp_ok N n _ (HV.out.kid 1 (by omega)); rw [← simp_same N n _ (HV.out.kid 1 (by omega)), ← HF.out, ← q1] at this; exact this.1 : OKT (kid q 1))
     have EQ : simpI N (n + 1) x = catF N (kid q 0) (kid q 1) := by simp only [simpI]; rw [← HF.out, ← HKS.out, if_neg (by rw [b6]; simp), if_pos b19]; unfold kid; rw [hq3]
     have k0 : ((0 : Int) < (ks.length : Int)) = True := eq_true (by omega)
     have k0n : (0 < ks.length) = True := eq_true (by omega)
     have k1 : ((1 : Int) < (ks.length : Int)) = True := eq_true (by omega)
     have k1n : (1 < ks.length) = True := eq_true (by omega)
     have HE := Aside0.mk EQ
     clear hC0 hC1 hT0 hT1 hs0 hs1 hd01 TQ hq2 q0 q1 hq3 hq h2 hcn EQ
     go_wp2
     have n0_ := Aside0.mk (below_step HB.out (below_drew1 (Below.refl _ _)))
     have n1_ := Aside0.mk (blk_below BK1.out (below_drew1 (Below.refl _ _)))
     have n2_ := Aside0.mk (blk_below BK2.out (below_drew1 (Below.refl _ _)))
     clear HB BK1 BK2
     have HB := n0_
     have BK1 := n1_
     have BK2 := n2_
     clear n0_ n1_ n2_
     have n0_ := Aside0.mk (HT0.out.grow (below_drew1 (Below.refl _ _)))
     have n1_ := Aside0.mk (HT1.out.grow (below_drew1 (Below.refl _ _)))
     have n2_ := Aside0.mk (EC0.out.below (below_drew1 (Below.refl _ _)))
     have n3_ := Aside0.mk (EC1.out.below (below_drew1 (Below.refl _ _)))
     have n4_ := Aside0.mk (Nat.le_trans SM.out (below_drew1 (Below.refl 0 _)).size)
     clear HT0 HT1 EC0 EC1 SM
     have HT0 := n0_
     have HT1 := n1_
     have EC0 := n2_
     have EC1 := n3_
     have SM := n4_
     clear n0_ n1_ n2_ n3_ n4_
     refine start_ (n := 8) (S := fun w' => Go.Proofs.Ytomakpfmghekfaa.RowLaw.CellsAt w' ⟨ge, 0, none⟩ [.int .i64 (kid q 0).f0, .int .i64 (kid q 0).f1, .string (kid q 0).f2, .slice A0 (kid q 0).f3.length c0] ∧ Go.Proofs.Ytomakpfmghekfaa.RowLaw.CellsAt w' ⟨ge, 4, none⟩ [.int .i64 (kid q 1).f0, .int .i64 (kid q 1).f1, .string (kid q 1).f2, .slice A1 (kid q 1).f3.length c1]) (ds := []) (btx 8 0) (by kernel_rfl) rfl rfl ⟨EC0.out, EC1.out⟩ (fun hHeld => ?_)
     generalize _root_.Go.World.drew _ = wd at HB BK1 BK2 HT0 HT1 EC0 EC1 SM hHeld ⊢
     iterate 2 (refine pu (v := ?_) (a' := ?_) rfl rfl (by kernel_rfl) (fun _ _ _ h => h) (Or.inl ⟨by rfl, ?_⟩) ?_ ?_; rotate_left; (intro w'; go_simp; with_reducible rfl); rotate_left; (simp only [Act.put, sq1, sq2, sq3, i64_w, i32_w]; rfl))
     refine take_ (i := 2) (N := some 38) (v := .agg #[.int .i64 (kid q 0).f0, .int .i64 (kid q 0).f1, .string (kid q 0).f2, .slice A0 (kid q 0).f3.length c0]) (a' := ?_) (btx 8 3) rfl rfl (by kernel_rfl) (fun _ _ _ h => h) (Or.inl ⟨by rfl, fun w' s => Go.Proofs.Ytomakpfmghekfaa.RowLaw.at_run 30 _ rfl _ rfl _ [.int .i64 (kid q 0).f0, .int .i64 (kid q 0).f1, .string (kid q 0).f2, .slice A0 (kid q 0).f3.length c0] huP rfl HIP.out s.1⟩) hHeld ?_ ?_
     rotate_left; (simp only [Act.put, sq1, sq2, sq3, i64_w, i32_w]; rfl)
     iterate 2 (refine pu (v := ?_) (a' := ?_) rfl rfl (by kernel_rfl) (fun _ _ _ h => h) (Or.inl ⟨by rfl, ?_⟩) ?_ ?_; rotate_left; (intro w'; go_simp; with_reducible rfl); rotate_left; (simp only [Act.put, sq1, sq2, sq3, i64_w, i32_w]; rfl))
     refine take_ (i := 5) (N := some 41) (v := .agg #[.int .i64 (kid q 1).f0, .int .i64 (kid q 1).f1, .string (kid q 1).f2, .slice A1 (kid q 1).f3.length c1]) (a' := ?_) (btx 8 6) rfl rfl (by kernel_rfl) (fun _ _ _ h => h) (Or.inl ⟨by rfl, fun w' s => Go.Proofs.Ytomakpfmghekfaa.RowLaw.at_run 30 _ rfl _ rfl _ [.int .i64 (kid q 1).f0, .int .i64 (kid q 1).f1, .string (kid q 1).f2, .slice A1 (kid q 1).f3.length c1] huP rfl HIP.out s.2⟩) hHeld ?_ ?_
     rotate_left; (simp only [Act.put, sq1, sq2, sq3, i64_w, i32_w]; rfl)
     refine one_ (i := 6) (N := some 42) (btx 8 7) rfl rfl (by kernel_rfl) (by decide) (fun K hK => ?_)
     refine goes_ Try.func34 (by kernel_rfl) rfl #[.agg #[.int .i64 (kid q 0).f0, .int .i64 (kid q 0).f1, .string (kid q 0).f2, .slice A0 (kid q 0).f3.length c0], .agg #[.int .i64 (kid q 1).f0, .int .i64 (kid q 1).f1, .string (kid q 1).f2, .slice A1 (kid q 1).f3.length c1]] (by rfl) rfl rfl (by (try simp only [sm1, sm2, sm3]); first | done | rfl) ?_
     with_reducible refine (cat_impl True N (kid q 0) (kid q 1) S0.out.2 S0.out.1 S1.out (.slice A0 (kid q 0).f3.length c0) (.slice A1 (kid q 1).f3.length c1) B0 B1 _ ?side1 ?side2 ?side3 ?side4).mono ?_
     (case side1 => exact HT0.out)
     (case side2 => exact HT1.out)
     (case side3 => exact HD01.out)
     (case side4 => exact fun k hk => Nat.lt_of_lt_of_le (hk.elim (fun h => (HS0.out k h).2) (fun h => (HS1.out k h).2)) SM.out)
     rintro e wg ⟨v7, B7, rfl, hT, hB', hb⟩
     refine ⟨_, rfl, ?_⟩
     have U7 := Aside0.mk hT
     have UB7 := Aside0.mk (fun k hk => (hB' k hk).1)
     have UL7 := Aside0.mk (fun k hk => (hB' k hk).2)
     have SZ7 := Aside0.mk HB.out.size
     have G27 := Aside0.mk (blk_lt BK2.out)
     have n2_ := Aside0.mk (EC0.out.below hb)
     have n3_ := Aside0.mk (EC1.out.below hb)
     clear EC0 EC1
     have EC0 := n2_
     have EC1 := n3_
     clear n2_ n3_
     have n0_ := Aside0.mk (below_step HB.out hb)
     have n1_ := Aside0.mk (blk_below BK1.out hb)
     have n2_ := Aside0.mk (blk_below BK2.out hb)
     clear HB BK1 BK2
     have HB := n0_
     have BK1 := n1_
     have BK2 := n2_
     clear n0_ n1_ n2_
     obtain ⟨A7, c7, e7, _⟩ := hT.inv
     subst e7
     clear hT hB' hb
     refine hK.out _ _ ⟨EC0.out, EC1.out⟩ (fun hHeld => ?_)
     clear hK K
     refine norm_ (a' := ?_) ?_ ?_
     rotate_left
     ·show Act.put _ (some 42) _ = _
      simp only [Act.put, sq1, sq2, sq3, i64_w, i32_w]
      rfl
     refine one_ (i := 7) (N := none) (btx 8 8) rfl rfl (by kernel_rfl) (by decide) (fun K hK => ?_)
     refine put_step rfl rfl 30 _ _ rfl g2 0 (.agg #[.int .i64 (catF N (kid q 0) (kid q 1)).f0, .int .i64 (catF N (kid q 0) (kid q 1)).f1, .string (catF N (kid q 0) (kid q 1)).f2, .slice A7 (catF N (kid q 0) (kid q 1)).f3.length c7]) rfl rfl [.int .i64 (catF N (kid q 0) (kid q 1)).f0, .int .i64 (catF N (kid q 0) (kid q 1)).f1, .string (catF N (kid q 0) (kid q 1)).f2, .slice A7 (catF N (kid q 0) (kid q 1)).f3.length c7] rfl 30 _ #[.int .i64 (catF N (kid q 0) (kid q 1)).f0, .int .i64 (catF N (kid q 0) (kid q 1)).f1, .string (catF N (kid q 0) (kid q 1)).f2, .slice A7 (catF N (kid q 0) (kid q 1)).f3.length c7] BK2.out HIP.out (Nat.le_of_ble_eq_true rfl) rfl rfl ?_
     intro w8 hk hoth hbel hz
     have SUB : ∀ k, B7 k → w.heap.size ≤ k ∧ k ≠ g2 := by
      intro k jb
      have q2 := LT2.out
      have q3 := HW2.out
      rcases UB7.out k jb with (h | h) | h
      ·have := (HS0.out k h).1; exact ⟨by omega, by omega⟩
      ·have := (HS1.out k h).1; exact ⟨by omega, by omega⟩
      ·have := G27.out; have := SZ7.out; exact ⟨by omega, by omega⟩
     have n0_ := Aside0.mk (hbel _ _ HB.out GE2.out)
     have n1_ := Aside0.mk (U7.out.move (fun k jb => hoth k (SUB k jb).2))
     have HZ := Aside0.mk hz
     have HSUB := Aside0.mk SUB
     have nge : ge ≠ g2 := NGE.out
     have n2_ := Aside0.mk (cells_put EC0.out hoth nge)
     have n3_ := Aside0.mk (cells_put EC1.out hoth nge)
     clear HB BK2 U7 SUB EC0 EC1 nge
     have HB := n0_
     have U7 := n1_
     have EC0 := n2_
     have EC1 := n3_
     have BK2 := Aside0.mk hk
     clear n0_ n1_ n2_ n3_ hk hoth hbel hz
     refine hK.out _ _ ⟨EC0.out, EC1.out⟩ (fun hHeld => ?_)
     clear hK K
     refine done_ (by kernel_rfl) ?_
     go_wp2
     refine bodyPost_ret (results_cell_row rfl _ _ _ 30 _ (0, 0) _ rfl BK2.out huP rfl (by kernel_rfl)) rfl ?_
     first | rw [HE.out] | skip
     exact ⟨_, B7, rfl, U7.out, fun k hk => ⟨.inr (HSUB.out k hk).1, by rw [HZ.out]; exact UL7.out k hk⟩, HB.out⟩
    have b19 : (x.f0 == 19) = false := beq_eq_false_iff_ne.mpr c19
    by_cases c18 : x.f0 = 18
    ·have b18 : (x.f0 == 18) = true := beq_iff_eq.mpr c18
     have h2 := HV.out.okt.two (.inr c18)
     have hl2 : x.f3.length = 2 := by rw [h2]; rfl
     have hcn := cnt_two h2
     obtain ⟨q, hq⟩ : ∃ q : PT, q = ⟨0, 0, ⟨#[]⟩, ks⟩ := ⟨_, rfl⟩
     have hq3 : q.f3 = ks := by rw [hq]
     have q0 : kid q 0 = f (kid x 0) := by unfold kid; rw [hq3]; exact HKD.out 0 (by omega)
     have q1 : kid q 1 = f (kid x 1) := by unfold kid; rw [hq3]; exact HKD.out 1 (by omega)
     have hq2 : q.f3 = [kid q 0, kid q 1] := by rw [hq3, q0, q1, HKS.out, h2]; rfl
     have TQ : T True w9 (fun b => w2.heap.size ≤ b ∧ b < mS) (.slice Ak q.f3.length ck) q.f3 := by rw [hq3]; exact TK.out
     obtain ⟨ge, A0, c0, B0, A1, c1, B1, rfl, hC0, hC1, hT0, hT1, hs0, hs1, hd01⟩ := TQ.elems hq2
     have NGE := Aside0.mk (Nat.ne_of_gt (Nat.lt_of_lt_of_le LT2.out (TQ.head (by rw [hq2]; simp)).1) : ge ≠ g2)
     have EC0 := Aside0.mk hC0
     have EC1 := Aside0.mk hC1
     have HT0 := Aside0.mk hT0
     have HT1 := Aside0.mk hT1
     have HS0 := Aside0.mk hs0
     have HS1 := Aside0.mk hs1
     have HD01 := Aside0.mk hd01
     have S0 := Aside0.mk (by have := simp_ok N n _ (HV.out.kid 0 (by omega)); rw [← simp_same N n _ (HV.out.kid 0 (by omega)), ← HF.out, ← q0] at this; exact ⟨this.1, by have := this.2; have := HNN.out; omega⟩ : OKT (kid q 0) ∧ cntT (kid q 0) ≤ N)
     have S1 := Aside0.mk (by have := simp_ok N n _ (HV.out.kid 1 (by omega)); rw [← simp_same N n _ (HV.out.kid 1 (by omega)), ← HF.out, ← q1] at this; exact this.1 : OKT (kid q 1))
     have EQ : simpI N (n + 1) x = altF N (kid q 0) (kid q 1) := by simp only [simpI]; rw [← HF.out, ← HKS.out, if_neg (by rw [b6]; simp), if_neg (by rw [b19]; simp), if_pos b18]; unfold kid; rw [hq3]
     have k0 : ((0 : Int) < (ks.length : Int)) = True := eq_true (by omega)
     have k0n : (0 < ks.length) = True := eq_true (by omega)
     have k1 : ((1 : Int) < (ks.length : Int)) = True := eq_true (by omega)
     have k1n : (1 < ks.length) = True := eq_true (by omega)
     have HE := Aside0.mk EQ
     clear hC0 hC1 hT0 hT1 hs0 hs1 hd01 TQ hq2 q0 q1 hq3 hq h2 hcn EQ
     go_wp2
     have n0_ := Aside0.mk (below_step HB.out (below_drew1 (Below.refl _ _)))
     have n1_ := Aside0.mk (blk_below BK1.out (below_drew1 (Below.refl _ _)))
     have n2_ := Aside0.mk (blk_below BK2.out (below_drew1 (Below.refl _ _)))
     clear HB BK1 BK2
     have HB := n0_
     have BK1 := n1_
     have BK2 := n2_
     clear n0_ n1_ n2_
     have n0_ := Aside0.mk (HT0.out.grow (below_drew1 (Below.refl _ _)))
     have n1_ := Aside0.mk (HT1.out.grow (below_drew1 (Below.refl _ _)))
     have n2_ := Aside0.mk (EC0.out.below (below_drew1 (Below.refl _ _)))
     have n3_ := Aside0.mk (EC1.out.below (below_drew1 (Below.refl _ _)))
     have n4_ := Aside0.mk (Nat.le_trans SM.out (below_drew1 (Below.refl 0 _)).size)
     clear HT0 HT1 EC0 EC1 SM
     have HT0 := n0_
     have HT1 := n1_
     have EC0 := n2_
     have EC1 := n3_
     have SM := n4_
     clear n0_ n1_ n2_ n3_ n4_
     refine start_ (n := 8) (S := fun w' => Go.Proofs.Ytomakpfmghekfaa.RowLaw.CellsAt w' ⟨ge, 0, none⟩ [.int .i64 (kid q 0).f0, .int .i64 (kid q 0).f1, .string (kid q 0).f2, .slice A0 (kid q 0).f3.length c0] ∧ Go.Proofs.Ytomakpfmghekfaa.RowLaw.CellsAt w' ⟨ge, 4, none⟩ [.int .i64 (kid q 1).f0, .int .i64 (kid q 1).f1, .string (kid q 1).f2, .slice A1 (kid q 1).f3.length c1]) (ds := []) (btx 8 0) (by kernel_rfl) rfl rfl ⟨EC0.out, EC1.out⟩ (fun hHeld => ?_)
     generalize _root_.Go.World.drew _ = wd at HB BK1 BK2 HT0 HT1 EC0 EC1 SM hHeld ⊢
     iterate 2 (refine pu (v := ?_) (a' := ?_) rfl rfl (by kernel_rfl) (fun _ _ _ h => h) (Or.inl ⟨by rfl, ?_⟩) ?_ ?_; rotate_left; (intro w'; go_simp; with_reducible rfl); rotate_left; (simp only [Act.put, sq1, sq2, sq3, i64_w, i32_w]; rfl))
     refine take_ (i := 2) (N := some 49) (v := .agg #[.int .i64 (kid q 0).f0, .int .i64 (kid q 0).f1, .string (kid q 0).f2, .slice A0 (kid q 0).f3.length c0]) (a' := ?_) (btx 8 3) rfl rfl (by kernel_rfl) (fun _ _ _ h => h) (Or.inl ⟨by rfl, fun w' s => Go.Proofs.Ytomakpfmghekfaa.RowLaw.at_run 30 _ rfl _ rfl _ [.int .i64 (kid q 0).f0, .int .i64 (kid q 0).f1, .string (kid q 0).f2, .slice A0 (kid q 0).f3.length c0] huP rfl HIP.out s.1⟩) hHeld ?_ ?_
     rotate_left; (simp only [Act.put, sq1, sq2, sq3, i64_w, i32_w]; rfl)
     iterate 2 (refine pu (v := ?_) (a' := ?_) rfl rfl (by kernel_rfl) (fun _ _ _ h => h) (Or.inl ⟨by rfl, ?_⟩) ?_ ?_; rotate_left; (intro w'; go_simp; with_reducible rfl); rotate_left; (simp only [Act.put, sq1, sq2, sq3, i64_w, i32_w]; rfl))
     refine take_ (i := 5) (N := some 52) (v := .agg #[.int .i64 (kid q 1).f0, .int .i64 (kid q 1).f1, .string (kid q 1).f2, .slice A1 (kid q 1).f3.length c1]) (a' := ?_) (btx 8 6) rfl rfl (by kernel_rfl) (fun _ _ _ h => h) (Or.inl ⟨by rfl, fun w' s => Go.Proofs.Ytomakpfmghekfaa.RowLaw.at_run 30 _ rfl _ rfl _ [.int .i64 (kid q 1).f0, .int .i64 (kid q 1).f1, .string (kid q 1).f2, .slice A1 (kid q 1).f3.length c1] huP rfl HIP.out s.2⟩) hHeld ?_ ?_
     rotate_left; (simp only [Act.put, sq1, sq2, sq3, i64_w, i32_w]; rfl)
     refine one_ (i := 6) (N := some 53) (btx 8 7) rfl rfl (by kernel_rfl) (by decide) (fun K hK => ?_)
     refine goes_ Try.func40 (by kernel_rfl) rfl #[.agg #[.int .i64 (kid q 0).f0, .int .i64 (kid q 0).f1, .string (kid q 0).f2, .slice A0 (kid q 0).f3.length c0], .agg #[.int .i64 (kid q 1).f0, .int .i64 (kid q 1).f1, .string (kid q 1).f2, .slice A1 (kid q 1).f3.length c1]] (by rfl) rfl rfl (by (try simp only [sm1, sm2, sm3]); first | done | rfl) ?_
     with_reducible refine (alt_impl True N (kid q 0) (kid q 1) S0.out.2 S0.out.1 S1.out (.slice A0 (kid q 0).f3.length c0) (.slice A1 (kid q 1).f3.length c1) B0 B1 _ ?side1 ?side2 ?side3 ?side4).mono ?_
     (case side1 => exact HT0.out)
     (case side2 => exact HT1.out)
     (case side3 => exact HD01.out)
     (case side4 => exact fun k hk => Nat.lt_of_lt_of_le (hk.elim (fun h => (HS0.out k h).2) (fun h => (HS1.out k h).2)) SM.out)
     rintro e wg ⟨v7, B7, rfl, hT, hB', hb⟩
     refine ⟨_, rfl, ?_⟩
     have U7 := Aside0.mk hT
     have UB7 := Aside0.mk (fun k hk => (hB' k hk).1)
     have UL7 := Aside0.mk (fun k hk => (hB' k hk).2)
     have SZ7 := Aside0.mk HB.out.size
     have G27 := Aside0.mk (blk_lt BK2.out)
     have n2_ := Aside0.mk (EC0.out.below hb)
     have n3_ := Aside0.mk (EC1.out.below hb)
     clear EC0 EC1
     have EC0 := n2_
     have EC1 := n3_
     clear n2_ n3_
     have n0_ := Aside0.mk (below_step HB.out hb)
     have n1_ := Aside0.mk (blk_below BK1.out hb)
     have n2_ := Aside0.mk (blk_below BK2.out hb)
     clear HB BK1 BK2
     have HB := n0_
     have BK1 := n1_
     have BK2 := n2_
     clear n0_ n1_ n2_
     obtain ⟨A7, c7, e7, _⟩ := hT.inv
     subst e7
     clear hT hB' hb
     refine hK.out _ _ ⟨EC0.out, EC1.out⟩ (fun hHeld => ?_)
     clear hK K
     refine norm_ (a' := ?_) ?_ ?_
     rotate_left
     ·show Act.put _ (some 53) _ = _
      simp only [Act.put, sq1, sq2, sq3, i64_w, i32_w]
      rfl
     refine one_ (i := 7) (N := none) (btx 8 8) rfl rfl (by kernel_rfl) (by decide) (fun K hK => ?_)
     refine put_step rfl rfl 30 _ _ rfl g2 0 (.agg #[.int .i64 (altF N (kid q 0) (kid q 1)).f0, .int .i64 (altF N (kid q 0) (kid q 1)).f1, .string (altF N (kid q 0) (kid q 1)).f2, .slice A7 (altF N (kid q 0) (kid q 1)).f3.length c7]) rfl rfl [.int .i64 (altF N (kid q 0) (kid q 1)).f0, .int .i64 (altF N (kid q 0) (kid q 1)).f1, .string (altF N (kid q 0) (kid q 1)).f2, .slice A7 (altF N (kid q 0) (kid q 1)).f3.length c7] rfl 30 _ #[.int .i64 (altF N (kid q 0) (kid q 1)).f0, .int .i64 (altF N (kid q 0) (kid q 1)).f1, .string (altF N (kid q 0) (kid q 1)).f2, .slice A7 (altF N (kid q 0) (kid q 1)).f3.length c7] BK2.out HIP.out (Nat.le_of_ble_eq_true rfl) rfl rfl ?_
     intro w8 hk hoth hbel hz
     have SUB : ∀ k, B7 k → w.heap.size ≤ k ∧ k ≠ g2 := by
      intro k jb
      have q2 := LT2.out
      have q3 := HW2.out
      rcases UB7.out k jb with (h | h) | h
      ·have := (HS0.out k h).1; exact ⟨by omega, by omega⟩
      ·have := (HS1.out k h).1; exact ⟨by omega, by omega⟩
      ·have := G27.out; have := SZ7.out; exact ⟨by omega, by omega⟩
     have n0_ := Aside0.mk (hbel _ _ HB.out GE2.out)
     have n1_ := Aside0.mk (U7.out.move (fun k jb => hoth k (SUB k jb).2))
     have HZ := Aside0.mk hz
     have HSUB := Aside0.mk SUB
     have nge : ge ≠ g2 := NGE.out
     have n2_ := Aside0.mk (cells_put EC0.out hoth nge)
     have n3_ := Aside0.mk (cells_put EC1.out hoth nge)
     clear HB BK2 U7 SUB EC0 EC1 nge
     have HB := n0_
     have U7 := n1_
     have EC0 := n2_
     have EC1 := n3_
     have BK2 := Aside0.mk hk
     clear n0_ n1_ n2_ n3_ hk hoth hbel hz
     refine hK.out _ _ ⟨EC0.out, EC1.out⟩ (fun hHeld => ?_)
     clear hK K
     refine done_ (by kernel_rfl) ?_
     go_wp2
     refine bodyPost_ret (results_cell_row rfl _ _ _ 30 _ (0, 0) _ rfl BK2.out huP rfl (by kernel_rfl)) rfl ?_
     first | rw [HE.out] | skip
     exact ⟨_, B7, rfl, U7.out, fun k hk => ⟨.inr (HSUB.out k hk).1, by rw [HZ.out]; exact UL7.out k hk⟩, HB.out⟩
    have b18 : (x.f0 == 18) = false := beq_eq_false_iff_ne.mpr c18
    by_cases c20 : x.f0 = 20
    ·have b20 : (x.f0 == 20) = true := beq_iff_eq.mpr c20
     have hl1 : x.f3.length = 1 := by cases HV.out with | mk _ _ h1 _ _ _ _ => exact (h1 (by omega)).1
     obtain ⟨ge, A0, c0, B0, rfl, hC0, hT0, hs0⟩ := TK.out.elem 0 (by omega)
     obtain ⟨kd, hkd⟩ : ∃ kd, kd = ks.getD 0 z30 := ⟨_, rfl⟩
     rw [← hkd] at hC0 hT0
     have HKK := Aside0.mk hkd
     have EC0 := Aside0.mk hC0
     have HT0 := Aside0.mk hT0
     have HS0 := Aside0.mk hs0
     have zk0 : w9.cell? ⟨ge, 0, none⟩ = some (.int .i64 kd.f0) := hC0 0 _ rfl
     have k0 : ((0 : Int) < (ks.length : Int)) = True := eq_true (by omega)
     have k0n : (0 < ks.length) = True := eq_true (by omega)
     clear hC0 hT0 hs0 hkd
     have b21 : (x.f0 == 21) = false := beq_eq_false_iff_ne.mpr (by omega)
     have b22 : (x.f0 == 22) = false := beq_eq_false_iff_ne.mpr (by omega)
     by_cases e16 : kd.f0 = 16
     ·have e16b : (kd.f0 == 16) = true := beq_iff_eq.mpr e16
      have EQ : simpI N (n + 1) x = strP ⟨#[]⟩ := by simp only [simpI]; rw [← HF.out, ← HKS.out, ← HKK.out]; rw [if_neg (by rw [b6]; simp), if_neg (by rw [b19]; simp), if_neg (by rw [b18]; simp), if_pos (by rw [b20, e16b]; rfl)]
      go_wp2_with (first | ((with_reducible refine gate_dst (N := 71) rfl ?_); refine wpList_load_row rfl 30 _ rfl g6 rfl 30 #[.int .i64 1, .int .i64 0, .string (⟨#[]⟩), .slice none 0 0] (0, 0) _ BK6.out huP rfl HIP.out ?_; (try simp only [Act.put, sq1, sq2, sq3])) | ((with_reducible refine gate_store (t := 30) (p := 2) rfl ?_); refine Go.Proofs.Ytomakpfmghekfaa.RowLaw.put_event rfl 30 _ _ rfl g2 0 (.agg #[.int .i64 1, .int .i64 0, .string (⟨#[]⟩), .slice none 0 0]) rfl rfl [.int .i64 1, .int .i64 0, .string (⟨#[]⟩), .slice none 0 0] rfl 30 _ #[.int .i64 1, .int .i64 0, .string (⟨#[]⟩), .slice none 0 0] BK2.out HIP.out (Nat.le_of_ble_eq_true rfl) rfl rfl ?_; intro w9 hk hoth hbel hz; have q_ := Aside0.mk (hbel _ _ HB.out GE2.out); have q2_ := Aside0.mk (by rw [hz]; exact SM.out : mS ≤ w9.heap.size); clear HB SM BK2 ; have HB := q_; have SM := q2_; have BK2 := Aside0.mk hk; clear q_ q2_ hk hoth hbel hz ; (try simp only [Act.put, sq1, sq2, sq3])))
      refine bodyPost_ret (results_cell_row rfl _ _ _ 30 _ (0, 0) _ rfl BK2.out huP rfl (by kernel_rfl)) rfl ?_
      try rw [EQ]
      exact ⟨_, fun _ => False, rfl, .nil _ _ _, fun _ h => h.elim, HB.out⟩
     have e16b : (kd.f0 == 16) = false := beq_eq_false_iff_ne.mpr e16
     cases hek : emptyB kd with
     | true =>
      have EQ : simpI N (n + 1) x = strP ⟨#[]⟩ := by simp only [simpI]; rw [← HF.out, ← HKS.out, ← HKK.out]; rw [if_neg (by rw [b6]; simp), if_neg (by rw [b19]; simp), if_neg (by rw [b18]; simp), if_pos (by rw [b20, hek]; simp)]
      have HEK := Aside0.mk hek
      clear hek
      go_wp2_with (first | ((with_reducible refine gate_dst (N := 67) rfl ?_); refine gate_guard (by rfl) ?_; dsimp only; refine Go.Proofs.Ytomakpfmghekfaa.RowLaw.at_event rfl 30 _ rfl _ rfl _ [.int .i64 kd.f0, .int .i64 kd.f1, .string kd.f2, .slice A0 kd.f3.length c0] huP rfl HIP.out EC0.out ?_; (try simp only [Act.put, sq1, sq2, sq3])) | ((with_reducible refine gate_callee (f := 41) rfl ?_); (with_reducible refine gate_dst (N := 68) rfl ?_); refine gate_guard (by rfl) ?_; dsimp only; refine goesL_ (some 68) rfl rfl Try.func41 (by kernel_rfl) rfl #[.agg #[.int .i64 kd.f0, .int .i64 kd.f1, .string kd.f2, .slice A0 kd.f3.length c0]] rfl (by (try simp only [sm1, sm2, sm3]); first | done | rfl) ?_; refine (impl_Pattern_isEmptyString.calls kd.f0 kd.f1 kd.f2 A0 c0 kd.f3 true _ (T.C _ kd.f3 (Nat.le_refl _) HT0.out) HT0.out.len ((impl_empty kd).trans (congrArg some HEK.out))).mono ?_; rintro e we ⟨rfl, hb⟩; refine ⟨_, rfl, ?_⟩; have n8_ := Aside0.mk (Nat.le_trans SM.out hb.size); clear SM; have SM := n8_; clear n8_; have n0_ := Aside0.mk (below_step HB.out hb); have n1_ := Aside0.mk (blk_below BK1.out hb); have n2_ := Aside0.mk (blk_below BK2.out hb); have n3_ := Aside0.mk (blk_below BK6.out hb); have n4_ := Aside0.mk (T.grow TK.out hb); clear HB BK1 BK2 BK6 TK; have HB := n0_; have BK1 := n1_; have BK2 := n2_; have BK6 := n3_; have TK := n4_; clear n0_ n1_ n2_ n3_ n4_; clear hb zx0 zx1 zx2 zx3 zk0; obtain ⟨zx0, zx1, zx2, zx3⟩ := z4 BK1.out; (try simp only [Act.put, sq1, sq2, sq3])) | ((with_reducible refine gate_dst (N := 71) rfl ?_); refine wpList_load_row rfl 30 _ rfl g6 rfl 30 #[.int .i64 1, .int .i64 0, .string (⟨#[]⟩), .slice none 0 0] (0, 0) _ BK6.out huP rfl HIP.out ?_; (try simp only [Act.put, sq1, sq2, sq3])) | ((with_reducible refine gate_store (t := 30) (p := 2) rfl ?_); refine Go.Proofs.Ytomakpfmghekfaa.RowLaw.put_event rfl 30 _ _ rfl g2 0 (.agg #[.int .i64 1, .int .i64 0, .string (⟨#[]⟩), .slice none 0 0]) rfl rfl [.int .i64 1, .int .i64 0, .string (⟨#[]⟩), .slice none 0 0] rfl 30 _ #[.int .i64 1, .int .i64 0, .string (⟨#[]⟩), .slice none 0 0] BK2.out HIP.out (Nat.le_of_ble_eq_true rfl) rfl rfl ?_; intro w9 hk hoth hbel hz; have q_ := Aside0.mk (hbel _ _ HB.out GE2.out); have q2_ := Aside0.mk (by rw [hz]; exact SM.out : mS ≤ w9.heap.size); clear HB SM BK2 ; have HB := q_; have SM := q2_; have BK2 := Aside0.mk hk; clear q_ q2_ hk hoth hbel hz ; (try simp only [Act.put, sq1, sq2, sq3])))
      refine bodyPost_ret (results_cell_row rfl _ _ _ 30 _ (0, 0) _ rfl BK2.out huP rfl (by kernel_rfl)) rfl ?_
      try rw [EQ]
      exact ⟨_, fun _ => False, rfl, .nil _ _ _, fun _ h => h.elim, HB.out⟩
     | false =>
      have EQ : simpI N (n + 1) x = ⟨x.f0, x.f1, x.f2, ks⟩ := by simp only [simpI]; rw [← HF.out, ← HKS.out, ← HKK.out]; rw [if_neg (by rw [b6]; simp), if_neg (by rw [b19]; simp), if_neg (by rw [b18]; simp), if_neg (by rw [e16b, hek]; simp), if_neg (by rw [b21, b22]; simp)]
      have HEK := Aside0.mk hek
      clear hek
      go_wp2_with (first | ((with_reducible refine gate_dst (N := 67) rfl ?_); refine gate_guard (by rfl) ?_; dsimp only; refine Go.Proofs.Ytomakpfmghekfaa.RowLaw.at_event rfl 30 _ rfl _ rfl _ [.int .i64 kd.f0, .int .i64 kd.f1, .string kd.f2, .slice A0 kd.f3.length c0] huP rfl HIP.out EC0.out ?_; (try simp only [Act.put, sq1, sq2, sq3])) | ((with_reducible refine gate_callee (f := 41) rfl ?_); (with_reducible refine gate_dst (N := 68) rfl ?_); refine gate_guard (by rfl) ?_; dsimp only; refine goesL_ (some 68) rfl rfl Try.func41 (by kernel_rfl) rfl #[.agg #[.int .i64 kd.f0, .int .i64 kd.f1, .string kd.f2, .slice A0 kd.f3.length c0]] rfl (by (try simp only [sm1, sm2, sm3]); first | done | rfl) ?_; refine (impl_Pattern_isEmptyString.calls kd.f0 kd.f1 kd.f2 A0 c0 kd.f3 false _ (T.C _ kd.f3 (Nat.le_refl _) HT0.out) HT0.out.len ((impl_empty kd).trans (congrArg some HEK.out))).mono ?_; rintro e we ⟨rfl, hb⟩; refine ⟨_, rfl, ?_⟩; have n8_ := Aside0.mk (Nat.le_trans SM.out hb.size); clear SM; have SM := n8_; clear n8_; have n0_ := Aside0.mk (below_step HB.out hb); have n1_ := Aside0.mk (blk_below BK1.out hb); have n2_ := Aside0.mk (blk_below BK2.out hb); have n3_ := Aside0.mk (blk_below BK6.out hb); have n4_ := Aside0.mk (T.grow TK.out hb); clear HB BK1 BK2 BK6 TK; have HB := n0_; have BK1 := n1_; have BK2 := n2_; have BK6 := n3_; have TK := n4_; clear n0_ n1_ n2_ n3_ n4_; clear hb zx0 zx1 zx2 zx3 zk0; obtain ⟨zx0, zx1, zx2, zx3⟩ := z4 BK1.out; (try simp only [Act.put, sq1, sq2, sq3])) | ((with_reducible refine gate_store (t := 28) (p := 99) rfl ?_); refine Go.Proofs.Ytomakpfmghekfaa.RowLaw.put_event rfl 28 _ _ rfl g1 3 (.slice (some ⟨ge, 0, none⟩) ks.length ck) rfl rfl [.slice (some ⟨ge, 0, none⟩) ks.length ck] rfl 30 _ #[.int .i64 x.f0, .int .i64 x.f1, .string x.f2, .slice (some ⟨ge, 0, none⟩) ks.length ck] BK1.out (by kernel_rfl) (Nat.le_of_ble_eq_true rfl) rfl rfl ?_; intro w8 hk hoth hbel hz; have q_ := Aside0.mk (hbel _ _ HB.out GE1.out); have n0_ := Aside0.mk (TK.out.move (fun k jb => hoth k (Nat.ne_of_gt (Nat.lt_of_lt_of_le LT1.out jb.1)))); have n1_ := Aside0.mk ((hoth g2 (Ne.symm NE1.out)).trans BK2.out); have q2_ := Aside0.mk (by rw [hz]; exact SM.out : mS ≤ w8.heap.size); clear HB SM TK BK1 BK2; have HB := q_; have SM := q2_; have TK := n0_; have BK2 := n1_; have BK1 := Aside0.mk hk; clear q_ q2_ n0_ n1_ hk hoth hbel hz; (try simp only [Act.put, sq1, sq2, sq3])) | ((with_reducible refine gate_dst (N := 100) rfl ?_); refine wpList_load_row rfl 30 _ rfl g1 rfl 30 #[.int .i64 x.f0, .int .i64 x.f1, .string x.f2, .slice (some ⟨ge, 0, none⟩) ks.length ck] (0, 0) _ BK1.out huP rfl HIP.out ?_; (try simp only [Act.put, sq1, sq2, sq3])) | ((with_reducible refine gate_store (t := 30) (p := 2) rfl ?_); refine Go.Proofs.Ytomakpfmghekfaa.RowLaw.put_event rfl 30 _ _ rfl g2 0 (.agg #[.int .i64 x.f0, .int .i64 x.f1, .string x.f2, .slice (some ⟨ge, 0, none⟩) ks.length ck]) rfl rfl [.int .i64 x.f0, .int .i64 x.f1, .string x.f2, .slice (some ⟨ge, 0, none⟩) ks.length ck] rfl 30 _ #[.int .i64 x.f0, .int .i64 x.f1, .string x.f2, .slice (some ⟨ge, 0, none⟩) ks.length ck] BK2.out HIP.out (Nat.le_of_ble_eq_true rfl) rfl rfl ?_; intro w9 hk hoth hbel hz; have n0_ := Aside0.mk (TK.out.move (fun k jb => hoth k (Nat.ne_of_gt (Nat.lt_of_lt_of_le LT2.out jb.1)))); have q_ := Aside0.mk (hbel _ _ HB.out GE2.out); have q2_ := Aside0.mk (by rw [hz]; exact SM.out : mS ≤ w9.heap.size); clear HB SM BK2 TK; have HB := q_; have SM := q2_; have TK := n0_; have BK2 := Aside0.mk hk; clear q_ q2_ hk hoth hbel hz n0_; (try simp only [Act.put, sq1, sq2, sq3])))
      refine bodyPost_ret (results_cell_row rfl _ _ _ 30 _ (0, 0) _ rfl BK2.out huP rfl (by kernel_rfl)) rfl ?_
      try rw [EQ]
      exact ⟨_, _, rfl, TK.out, fun k hk => ⟨.inr (Nat.le_trans HW2.out hk.1), Nat.lt_of_lt_of_le hk.2 SM.out⟩, HB.out⟩
    have b20 : (x.f0 == 20) = false := beq_eq_false_iff_ne.mpr c20
    by_cases c21 : x.f0 = 21
    ·have b21 : (x.f0 == 21) = true := beq_iff_eq.mpr c21
     have hl1 : x.f3.length = 1 := by cases HV.out with | mk _ _ h1 _ _ _ _ => exact (h1 (by omega)).1
     obtain ⟨ge, A0, c0, B0, rfl, hC0, hT0, hs0⟩ := TK.out.elem 0 (by omega)
     obtain ⟨kd, hkd⟩ : ∃ kd, kd = ks.getD 0 z30 := ⟨_, rfl⟩
     rw [← hkd] at hC0 hT0
     have HKK := Aside0.mk hkd
     have EC0 := Aside0.mk hC0
     have HT0 := Aside0.mk hT0
     have HS0 := Aside0.mk hs0
     have zk0 : w9.cell? ⟨ge, 0, none⟩ = some (.int .i64 kd.f0) := hC0 0 _ rfl
     have k0 : ((0 : Int) < (ks.length : Int)) = True := eq_true (by omega)
     have k0n : (0 < ks.length) = True := eq_true (by omega)
     clear hC0 hT0 hs0 hkd
     have b22 : (x.f0 == 22) = false := beq_eq_false_iff_ne.mpr (by omega)
     by_cases e16 : kd.f0 = 16
     ·have e16b : (kd.f0 == 16) = true := beq_iff_eq.mpr e16
      have EQ : simpI N (n + 1) x = kd := by simp only [simpI]; rw [← HF.out, ← HKS.out, ← HKK.out]; rw [if_neg (by rw [b6]; simp), if_neg (by rw [b19]; simp), if_neg (by rw [b18]; simp), if_neg (by rw [b20]; simp), if_pos (by rw [b21, e16b]; simp)]
      go_wp2_with (first | ((with_reducible refine gate_dst (N := 97) rfl ?_); refine Go.Proofs.Ytomakpfmghekfaa.RowLaw.at_event rfl 30 _ rfl _ rfl _ [.int .i64 kd.f0, .int .i64 kd.f1, .string kd.f2, .slice A0 kd.f3.length c0] huP rfl HIP.out EC0.out ?_; (try simp only [Act.put, sq1, sq2, sq3])) | ((with_reducible refine gate_store (t := 30) (p := 2) rfl ?_); refine Go.Proofs.Ytomakpfmghekfaa.RowLaw.put_event rfl 30 _ _ rfl g2 0 (.agg #[.int .i64 kd.f0, .int .i64 kd.f1, .string kd.f2, .slice A0 kd.f3.length c0]) rfl rfl [.int .i64 kd.f0, .int .i64 kd.f1, .string kd.f2, .slice A0 kd.f3.length c0] rfl 30 _ #[.int .i64 kd.f0, .int .i64 kd.f1, .string kd.f2, .slice A0 kd.f3.length c0] BK2.out HIP.out (Nat.le_of_ble_eq_true rfl) rfl rfl ?_; intro w9 hk hoth hbel hz; have n0_ := Aside0.mk (HT0.out.move (fun k jb => hoth k (Nat.ne_of_gt (Nat.lt_of_lt_of_le LT2.out (HS0.out k jb).1)))); have q_ := Aside0.mk (hbel _ _ HB.out GE2.out); have q2_ := Aside0.mk (by rw [hz]; exact SM.out : mS ≤ w9.heap.size); clear HB SM BK2 HT0; have HB := q_; have SM := q2_; have HT0 := n0_; have BK2 := Aside0.mk hk; clear q_ q2_ hk hoth hbel hz n0_; (try simp only [Act.put, sq1, sq2, sq3])))
      refine bodyPost_ret (results_cell_row rfl _ _ _ 30 _ (0, 0) _ rfl BK2.out huP rfl (by kernel_rfl)) rfl ?_
      try rw [EQ]
      exact ⟨_, B0, rfl, HT0.out, fun k hk => ⟨.inr (Nat.le_trans HW2.out (HS0.out k hk).1), Nat.lt_of_lt_of_le (HS0.out k hk).2 SM.out⟩, HB.out⟩
     have e16b : (kd.f0 == 16) = false := beq_eq_false_iff_ne.mpr e16
     by_cases e15 : kd.f0 = 15
     ·have e15b : (kd.f0 == 15) = true := beq_iff_eq.mpr e15
      have EQ : simpI N (n + 1) x = kd := by simp only [simpI]; rw [← HF.out, ← HKS.out, ← HKK.out]; rw [if_neg (by rw [b6]; simp), if_neg (by rw [b19]; simp), if_neg (by rw [b18]; simp), if_neg (by rw [b20]; simp), if_pos (by rw [b21, e15b]; simp)]
      go_wp2_with (first | ((with_reducible refine gate_dst (N := 97) rfl ?_); refine Go.Proofs.Ytomakpfmghekfaa.RowLaw.at_event rfl 30 _ rfl _ rfl _ [.int .i64 kd.f0, .int .i64 kd.f1, .string kd.f2, .slice A0 kd.f3.length c0] huP rfl HIP.out EC0.out ?_; (try simp only [Act.put, sq1, sq2, sq3])) | ((with_reducible refine gate_store (t := 30) (p := 2) rfl ?_); refine Go.Proofs.Ytomakpfmghekfaa.RowLaw.put_event rfl 30 _ _ rfl g2 0 (.agg #[.int .i64 kd.f0, .int .i64 kd.f1, .string kd.f2, .slice A0 kd.f3.length c0]) rfl rfl [.int .i64 kd.f0, .int .i64 kd.f1, .string kd.f2, .slice A0 kd.f3.length c0] rfl 30 _ #[.int .i64 kd.f0, .int .i64 kd.f1, .string kd.f2, .slice A0 kd.f3.length c0] BK2.out HIP.out (Nat.le_of_ble_eq_true rfl) rfl rfl ?_; intro w9 hk hoth hbel hz; have n0_ := Aside0.mk (HT0.out.move (fun k jb => hoth k (Nat.ne_of_gt (Nat.lt_of_lt_of_le LT2.out (HS0.out k jb).1)))); have q_ := Aside0.mk (hbel _ _ HB.out GE2.out); have q2_ := Aside0.mk (by rw [hz]; exact SM.out : mS ≤ w9.heap.size); clear HB SM BK2 HT0; have HB := q_; have SM := q2_; have HT0 := n0_; have BK2 := Aside0.mk hk; clear q_ q2_ hk hoth hbel hz n0_; (try simp only [Act.put, sq1, sq2, sq3])))
      refine bodyPost_ret (results_cell_row rfl _ _ _ 30 _ (0, 0) _ rfl BK2.out huP rfl (by kernel_rfl)) rfl ?_
      try rw [EQ]
      exact ⟨_, B0, rfl, HT0.out, fun k hk => ⟨.inr (Nat.le_trans HW2.out (HS0.out k hk).1), Nat.lt_of_lt_of_le (HS0.out k hk).2 SM.out⟩, HB.out⟩
     have e15b : (kd.f0 == 15) = false := beq_eq_false_iff_ne.mpr e15
     have EQ : simpI N (n + 1) x = ⟨x.f0, x.f1, x.f2, ks⟩ := by simp only [simpI]; rw [← HF.out, ← HKS.out, ← HKK.out]; rw [if_neg (by rw [b6]; simp), if_neg (by rw [b19]; simp), if_neg (by rw [b18]; simp), if_neg (by rw [b20]; simp), if_neg (by rw [e16b, e15b]; simp)]
     go_wp2_with (first | ((with_reducible refine gate_store (t := 28) (p := 99) rfl ?_); refine Go.Proofs.Ytomakpfmghekfaa.RowLaw.put_event rfl 28 _ _ rfl g1 3 (.slice (some ⟨ge, 0, none⟩) ks.length ck) rfl rfl [.slice (some ⟨ge, 0, none⟩) ks.length ck] rfl 30 _ #[.int .i64 x.f0, .int .i64 x.f1, .string x.f2, .slice (some ⟨ge, 0, none⟩) ks.length ck] BK1.out (by kernel_rfl) (Nat.le_of_ble_eq_true rfl) rfl rfl ?_; intro w8 hk hoth hbel hz; have q_ := Aside0.mk (hbel _ _ HB.out GE1.out); have n0_ := Aside0.mk (TK.out.move (fun k jb => hoth k (Nat.ne_of_gt (Nat.lt_of_lt_of_le LT1.out jb.1)))); have n1_ := Aside0.mk ((hoth g2 (Ne.symm NE1.out)).trans BK2.out); have q2_ := Aside0.mk (by rw [hz]; exact SM.out : mS ≤ w8.heap.size); clear HB SM TK BK1 BK2; have HB := q_; have SM := q2_; have TK := n0_; have BK2 := n1_; have BK1 := Aside0.mk hk; clear q_ q2_ n0_ n1_ hk hoth hbel hz; (try simp only [Act.put, sq1, sq2, sq3])) | ((with_reducible refine gate_dst (N := 100) rfl ?_); refine wpList_load_row rfl 30 _ rfl g1 rfl 30 #[.int .i64 x.f0, .int .i64 x.f1, .string x.f2, .slice (some ⟨ge, 0, none⟩) ks.length ck] (0, 0) _ BK1.out huP rfl HIP.out ?_; (try simp only [Act.put, sq1, sq2, sq3])) | ((with_reducible refine gate_store (t := 30) (p := 2) rfl ?_); refine Go.Proofs.Ytomakpfmghekfaa.RowLaw.put_event rfl 30 _ _ rfl g2 0 (.agg #[.int .i64 x.f0, .int .i64 x.f1, .string x.f2, .slice (some ⟨ge, 0, none⟩) ks.length ck]) rfl rfl [.int .i64 x.f0, .int .i64 x.f1, .string x.f2, .slice (some ⟨ge, 0, none⟩) ks.length ck] rfl 30 _ #[.int .i64 x.f0, .int .i64 x.f1, .string x.f2, .slice (some ⟨ge, 0, none⟩) ks.length ck] BK2.out HIP.out (Nat.le_of_ble_eq_true rfl) rfl rfl ?_; intro w9 hk hoth hbel hz; have n0_ := Aside0.mk (TK.out.move (fun k jb => hoth k (Nat.ne_of_gt (Nat.lt_of_lt_of_le LT2.out jb.1)))); have q_ := Aside0.mk (hbel _ _ HB.out GE2.out); have q2_ := Aside0.mk (by rw [hz]; exact SM.out : mS ≤ w9.heap.size); clear HB SM BK2 TK; have HB := q_; have SM := q2_; have TK := n0_; have BK2 := Aside0.mk hk; clear q_ q2_ hk hoth hbel hz n0_; (try simp only [Act.put, sq1, sq2, sq3])))
     refine bodyPost_ret (results_cell_row rfl _ _ _ 30 _ (0, 0) _ rfl BK2.out huP rfl (by kernel_rfl)) rfl ?_
     try rw [EQ]
     exact ⟨_, _, rfl, TK.out, fun k hk => ⟨.inr (Nat.le_trans HW2.out hk.1), Nat.lt_of_lt_of_le hk.2 SM.out⟩, HB.out⟩
    have b21 : (x.f0 == 21) = false := beq_eq_false_iff_ne.mpr c21
    by_cases c22 : x.f0 = 22
    ·have b22 : (x.f0 == 22) = true := beq_iff_eq.mpr c22
     have hl1 : x.f3.length = 1 := by cases HV.out with | mk _ _ h1 _ _ _ _ => exact (h1 (by omega)).1
     obtain ⟨ge, A0, c0, B0, rfl, hC0, hT0, hs0⟩ := TK.out.elem 0 (by omega)
     obtain ⟨kd, hkd⟩ : ∃ kd, kd = ks.getD 0 z30 := ⟨_, rfl⟩
     rw [← hkd] at hC0 hT0
     have HKK := Aside0.mk hkd
     have EC0 := Aside0.mk hC0
     have HT0 := Aside0.mk hT0
     have HS0 := Aside0.mk hs0
     have zk0 : w9.cell? ⟨ge, 0, none⟩ = some (.int .i64 kd.f0) := hC0 0 _ rfl
     have k0 : ((0 : Int) < (ks.length : Int)) = True := eq_true (by omega)
     have k0n : (0 < ks.length) = True := eq_true (by omega)
     clear hC0 hT0 hs0 hkd
     by_cases e16 : kd.f0 = 16
     ·have e16b : (kd.f0 == 16) = true := beq_iff_eq.mpr e16
      have EQ : simpI N (n + 1) x = kd := by simp only [simpI]; rw [← HF.out, ← HKS.out, ← HKK.out]; rw [if_neg (by rw [b6]; simp), if_neg (by rw [b19]; simp), if_neg (by rw [b18]; simp), if_neg (by rw [b20]; simp), if_pos (by rw [b22, e16b]; simp)]
      go_wp2_with (first | ((with_reducible refine gate_dst (N := 97) rfl ?_); refine Go.Proofs.Ytomakpfmghekfaa.RowLaw.at_event rfl 30 _ rfl _ rfl _ [.int .i64 kd.f0, .int .i64 kd.f1, .string kd.f2, .slice A0 kd.f3.length c0] huP rfl HIP.out EC0.out ?_; (try simp only [Act.put, sq1, sq2, sq3])) | ((with_reducible refine gate_store (t := 30) (p := 2) rfl ?_); refine Go.Proofs.Ytomakpfmghekfaa.RowLaw.put_event rfl 30 _ _ rfl g2 0 (.agg #[.int .i64 kd.f0, .int .i64 kd.f1, .string kd.f2, .slice A0 kd.f3.length c0]) rfl rfl [.int .i64 kd.f0, .int .i64 kd.f1, .string kd.f2, .slice A0 kd.f3.length c0] rfl 30 _ #[.int .i64 kd.f0, .int .i64 kd.f1, .string kd.f2, .slice A0 kd.f3.length c0] BK2.out HIP.out (Nat.le_of_ble_eq_true rfl) rfl rfl ?_; intro w9 hk hoth hbel hz; have n0_ := Aside0.mk (HT0.out.move (fun k jb => hoth k (Nat.ne_of_gt (Nat.lt_of_lt_of_le LT2.out (HS0.out k jb).1)))); have q_ := Aside0.mk (hbel _ _ HB.out GE2.out); have q2_ := Aside0.mk (by rw [hz]; exact SM.out : mS ≤ w9.heap.size); clear HB SM BK2 HT0; have HB := q_; have SM := q2_; have HT0 := n0_; have BK2 := Aside0.mk hk; clear q_ q2_ hk hoth hbel hz n0_; (try simp only [Act.put, sq1, sq2, sq3])))
      refine bodyPost_ret (results_cell_row rfl _ _ _ 30 _ (0, 0) _ rfl BK2.out huP rfl (by kernel_rfl)) rfl ?_
      try rw [EQ]
      exact ⟨_, B0, rfl, HT0.out, fun k hk => ⟨.inr (Nat.le_trans HW2.out (HS0.out k hk).1), Nat.lt_of_lt_of_le (HS0.out k hk).2 SM.out⟩, HB.out⟩
     have e16b : (kd.f0 == 16) = false := beq_eq_false_iff_ne.mpr e16
     by_cases e15 : kd.f0 = 15
     ·have e15b : (kd.f0 == 15) = true := beq_iff_eq.mpr e15
      have EQ : simpI N (n + 1) x = kd := by simp only [simpI]; rw [← HF.out, ← HKS.out, ← HKK.out]; rw [if_neg (by rw [b6]; simp), if_neg (by rw [b19]; simp), if_neg (by rw [b18]; simp), if_neg (by rw [b20]; simp), if_pos (by rw [b22, e15b]; simp)]
      go_wp2_with (first | ((with_reducible refine gate_dst (N := 97) rfl ?_); refine Go.Proofs.Ytomakpfmghekfaa.RowLaw.at_event rfl 30 _ rfl _ rfl _ [.int .i64 kd.f0, .int .i64 kd.f1, .string kd.f2, .slice A0 kd.f3.length c0] huP rfl HIP.out EC0.out ?_; (try simp only [Act.put, sq1, sq2, sq3])) | ((with_reducible refine gate_store (t := 30) (p := 2) rfl ?_); refine Go.Proofs.Ytomakpfmghekfaa.RowLaw.put_event rfl 30 _ _ rfl g2 0 (.agg #[.int .i64 kd.f0, .int .i64 kd.f1, .string kd.f2, .slice A0 kd.f3.length c0]) rfl rfl [.int .i64 kd.f0, .int .i64 kd.f1, .string kd.f2, .slice A0 kd.f3.length c0] rfl 30 _ #[.int .i64 kd.f0, .int .i64 kd.f1, .string kd.f2, .slice A0 kd.f3.length c0] BK2.out HIP.out (Nat.le_of_ble_eq_true rfl) rfl rfl ?_; intro w9 hk hoth hbel hz; have n0_ := Aside0.mk (HT0.out.move (fun k jb => hoth k (Nat.ne_of_gt (Nat.lt_of_lt_of_le LT2.out (HS0.out k jb).1)))); have q_ := Aside0.mk (hbel _ _ HB.out GE2.out); have q2_ := Aside0.mk (by rw [hz]; exact SM.out : mS ≤ w9.heap.size); clear HB SM BK2 HT0; have HB := q_; have SM := q2_; have HT0 := n0_; have BK2 := Aside0.mk hk; clear q_ q2_ hk hoth hbel hz n0_; (try simp only [Act.put, sq1, sq2, sq3])))
      refine bodyPost_ret (results_cell_row rfl _ _ _ 30 _ (0, 0) _ rfl BK2.out huP rfl (by kernel_rfl)) rfl ?_
      try rw [EQ]
      exact ⟨_, B0, rfl, HT0.out, fun k hk => ⟨.inr (Nat.le_trans HW2.out (HS0.out k hk).1), Nat.lt_of_lt_of_le (HS0.out k hk).2 SM.out⟩, HB.out⟩
     have e15b : (kd.f0 == 15) = false := beq_eq_false_iff_ne.mpr e15
     have EQ : simpI N (n + 1) x = ⟨x.f0, x.f1, x.f2, ks⟩ := by simp only [simpI]; rw [← HF.out, ← HKS.out, ← HKK.out]; rw [if_neg (by rw [b6]; simp), if_neg (by rw [b19]; simp), if_neg (by rw [b18]; simp), if_neg (by rw [b20]; simp), if_neg (by rw [e16b, e15b]; simp)]
     go_wp2_with (first | ((with_reducible refine gate_store (t := 28) (p := 99) rfl ?_); refine Go.Proofs.Ytomakpfmghekfaa.RowLaw.put_event rfl 28 _ _ rfl g1 3 (.slice (some ⟨ge, 0, none⟩) ks.length ck) rfl rfl [.slice (some ⟨ge, 0, none⟩) ks.length ck] rfl 30 _ #[.int .i64 x.f0, .int .i64 x.f1, .string x.f2, .slice (some ⟨ge, 0, none⟩) ks.length ck] BK1.out (by kernel_rfl) (Nat.le_of_ble_eq_true rfl) rfl rfl ?_; intro w8 hk hoth hbel hz; have q_ := Aside0.mk (hbel _ _ HB.out GE1.out); have n0_ := Aside0.mk (TK.out.move (fun k jb => hoth k (Nat.ne_of_gt (Nat.lt_of_lt_of_le LT1.out jb.1)))); have n1_ := Aside0.mk ((hoth g2 (Ne.symm NE1.out)).trans BK2.out); have q2_ := Aside0.mk (by rw [hz]; exact SM.out : mS ≤ w8.heap.size); clear HB SM TK BK1 BK2; have HB := q_; have SM := q2_; have TK := n0_; have BK2 := n1_; have BK1 := Aside0.mk hk; clear q_ q2_ n0_ n1_ hk hoth hbel hz; (try simp only [Act.put, sq1, sq2, sq3])) | ((with_reducible refine gate_dst (N := 100) rfl ?_); refine wpList_load_row rfl 30 _ rfl g1 rfl 30 #[.int .i64 x.f0, .int .i64 x.f1, .string x.f2, .slice (some ⟨ge, 0, none⟩) ks.length ck] (0, 0) _ BK1.out huP rfl HIP.out ?_; (try simp only [Act.put, sq1, sq2, sq3])) | ((with_reducible refine gate_store (t := 30) (p := 2) rfl ?_); refine Go.Proofs.Ytomakpfmghekfaa.RowLaw.put_event rfl 30 _ _ rfl g2 0 (.agg #[.int .i64 x.f0, .int .i64 x.f1, .string x.f2, .slice (some ⟨ge, 0, none⟩) ks.length ck]) rfl rfl [.int .i64 x.f0, .int .i64 x.f1, .string x.f2, .slice (some ⟨ge, 0, none⟩) ks.length ck] rfl 30 _ #[.int .i64 x.f0, .int .i64 x.f1, .string x.f2, .slice (some ⟨ge, 0, none⟩) ks.length ck] BK2.out HIP.out (Nat.le_of_ble_eq_true rfl) rfl rfl ?_; intro w9 hk hoth hbel hz; have n0_ := Aside0.mk (TK.out.move (fun k jb => hoth k (Nat.ne_of_gt (Nat.lt_of_lt_of_le LT2.out jb.1)))); have q_ := Aside0.mk (hbel _ _ HB.out GE2.out); have q2_ := Aside0.mk (by rw [hz]; exact SM.out : mS ≤ w9.heap.size); clear HB SM BK2 TK; have HB := q_; have SM := q2_; have TK := n0_; have BK2 := Aside0.mk hk; clear q_ q2_ hk hoth hbel hz n0_; (try simp only [Act.put, sq1, sq2, sq3])))
     refine bodyPost_ret (results_cell_row rfl _ _ _ 30 _ (0, 0) _ rfl BK2.out huP rfl (by kernel_rfl)) rfl ?_
     try rw [EQ]
     exact ⟨_, _, rfl, TK.out, fun k hk => ⟨.inr (Nat.le_trans HW2.out hk.1), Nat.lt_of_lt_of_le hk.2 SM.out⟩, HB.out⟩
    have b22 : (x.f0 == 22) = false := beq_eq_false_iff_ne.mpr c22
    have EQ : simpI N (n + 1) x = ⟨x.f0, x.f1, x.f2, ks⟩ := by simp only [simpI]; rw [← HF.out, ← HKS.out]; rw [if_neg (by rw [b6]; simp), if_neg (by rw [b19]; simp), if_neg (by rw [b18]; simp), if_neg (by rw [b20]; simp), if_neg (by rw [b21, b22]; simp)]
    go_wp2_with (first | ((with_reducible refine gate_store (t := 28) (p := 99) rfl ?_); refine Go.Proofs.Ytomakpfmghekfaa.RowLaw.put_event rfl 28 _ _ rfl g1 3 (.slice Ak ks.length ck) rfl rfl [.slice Ak ks.length ck] rfl 30 _ #[.int .i64 x.f0, .int .i64 x.f1, .string x.f2, .slice Ak ks.length ck] BK1.out (by kernel_rfl) (Nat.le_of_ble_eq_true rfl) rfl rfl ?_; intro w8 hk hoth hbel hz; have q_ := Aside0.mk (hbel _ _ HB.out GE1.out); have n0_ := Aside0.mk (TK.out.move (fun k jb => hoth k (Nat.ne_of_gt (Nat.lt_of_lt_of_le LT1.out jb.1)))); have n1_ := Aside0.mk ((hoth g2 (Ne.symm NE1.out)).trans BK2.out); have q2_ := Aside0.mk (by rw [hz]; exact SM.out : mS ≤ w8.heap.size); clear HB SM TK BK1 BK2; have HB := q_; have SM := q2_; have TK := n0_; have BK2 := n1_; have BK1 := Aside0.mk hk; clear q_ q2_ n0_ n1_ hk hoth hbel hz; (try simp only [Act.put, sq1, sq2, sq3])) | ((with_reducible refine gate_dst (N := 100) rfl ?_); refine wpList_load_row rfl 30 _ rfl g1 rfl 30 #[.int .i64 x.f0, .int .i64 x.f1, .string x.f2, .slice Ak ks.length ck] (0, 0) _ BK1.out huP rfl HIP.out ?_; (try simp only [Act.put, sq1, sq2, sq3])) | ((with_reducible refine gate_store (t := 30) (p := 2) rfl ?_); refine Go.Proofs.Ytomakpfmghekfaa.RowLaw.put_event rfl 30 _ _ rfl g2 0 (.agg #[.int .i64 x.f0, .int .i64 x.f1, .string x.f2, .slice Ak ks.length ck]) rfl rfl [.int .i64 x.f0, .int .i64 x.f1, .string x.f2, .slice Ak ks.length ck] rfl 30 _ #[.int .i64 x.f0, .int .i64 x.f1, .string x.f2, .slice Ak ks.length ck] BK2.out HIP.out (Nat.le_of_ble_eq_true rfl) rfl rfl ?_; intro w9 hk hoth hbel hz; have n0_ := Aside0.mk (TK.out.move (fun k jb => hoth k (Nat.ne_of_gt (Nat.lt_of_lt_of_le LT2.out jb.1)))); have q_ := Aside0.mk (hbel _ _ HB.out GE2.out); have q2_ := Aside0.mk (by rw [hz]; exact SM.out : mS ≤ w9.heap.size); clear HB SM BK2 TK; have HB := q_; have SM := q2_; have TK := n0_; have BK2 := Aside0.mk hk; clear q_ q2_ hk hoth hbel hz n0_; (try simp only [Act.put, sq1, sq2, sq3])))
    refine bodyPost_ret (results_cell_row rfl _ _ _ 30 _ (0, 0) _ rfl BK2.out huP rfl (by kernel_rfl)) rfl ?_
    try rw [EQ]
    exact ⟨_, _, rfl, TK.out, fun k hk => ⟨.inr (Nat.le_trans HW2.out hk.1), Nat.lt_of_lt_of_le hk.2 SM.out⟩, HB.out⟩
end Go.Proofs.Ytomakpfmghekfaa.PFnExactJoinPatterns
