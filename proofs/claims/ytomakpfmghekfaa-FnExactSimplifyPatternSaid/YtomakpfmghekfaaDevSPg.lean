/- By hand: what the law FnExactSimplifyPattern reaches beyond the printed texts, and the law's own function. Conditions: none beyond each statement. -/
import Derived.Test.YtomakpfmghekfaaProg
import Derived.Below
import Derived.Deep.Draws
import Derived.Deep.AppendLies
import Derived.Maps.AppendAt
import Derived.OwnWalk
import Derived.Laws.BytesArg
import Derived.Laws.MakeOwn
import Derived.Laws.OwnMore
import Derived.Deep.OwnRows
import Derived.Tactics
import Derived.Lib.ConvBytes
import Derived.Laws.Slices
import Derived.WalkKit
import Derived.KernelRfl
import Derived.RowKit3
import Derived.Deep.LoopGhost
import Derived.Deep.QuietTactic
import Derived.BigQuiet
import Derived.WideLaws
import Derived.Deep.DeepCutAuto
import Derived.Deep.CutBlock
import Derived.Deep.RegionHeld3
import Derived.Laws.Rows
import Derived.Lib.AppendStr
import Derived.ArgAppend
import Derived.Laws.IdiomCopy
import Derived.OrdersHeld
import Derived.Laws.BitsLemmas
import Derived.RowKit
import Derived.Test.YtomakpfmghekfaaWWords
import Derived.Test.YtomakpfmghekfaaWLast
import Derived.Test.YtomakpfmghekfaaWTab
import Derived.Test.YtomakpfmghekfaaWFour
import Derived.Test.YtomakpfmghekfaaWQPut
import Derived.Test.YtomakpfmghekfaaWApart
import Derived.Test.YtomakpfmghekfaaWArr
import Derived.Test.YtomakpfmghekfaaWZeros
import Derived.Test.YtomakpfmghekfaaWFoot
import Derived.Test.YtomakpfmghekfaaWKept
import Derived.Test.YtomakpfmghekfaaWShare
import Derived.Test.YtomakpfmghekfaaWN
import Derived.Test.YtomakpfmghekfaaWFootNe
import Derived.Test.YtomakpfmghekfaaWAt
import Derived.Test.YtomakpfmghekfaaWEqStruct
import Derived.Test.YtomakpfmghekfaaWRepsOne
import Derived.Test.YtomakpfmghekfaaWInv
import Derived.Test.YtomakpfmghekfaaWInvWords
import Derived.Test.YtomakpfmghekfaaWGuard
import Derived.Test.YtomakpfmghekfaaWNEv
import Derived.Test.YtomakpfmghekfaaWMore
import Derived.Test.YtomakpfmghekfaaDevSPf
import Derived.Test.YtomakpfmghekfaaDevSPd
import Derived.Test.YtomakpfmghekfaaDevSPe
import Derived.Test.YtomakpfmghekfaaRowLaw
namespace Go.Proofs.Ytomakpfmghekfaa.PFnExactSimplifyPattern
open Go.RowKit Go.Proofs.YtomakpfmghekfaaW.PrintWords Go.Proofs.YtomakpfmghekfaaW.PrintLast Go.Proofs.YtomakpfmghekfaaW.PrintMore
attribute [local go_sem] max2_int min2_int max_two min_two max_three min_three max_four min_four
set_option linter.unusedVariables false
set_option linter.unusedSimpArgs false
def smp (x : PT) : PT := if validP x = true then simpS 2000000 2000000 x else z30
set_option maxHeartbeats 4000000 in
set_option maxRecDepth 100000 in
theorem spec_sp (x : PT) (g : FinePattern x) (hc : cntT x ≤ 2000000) (A : Option Addr) (c : Nat) (B : Nat → Prop) (w : World) (hT : T False w B (.slice A x.f3.length c) x.f3) (hL : ∀ k, B k → k < w.heap.size) :
  Calls Try.prog 15 #[.agg #[.int .i64 x.f0, .int .i64 x.f1, .string x.f2, .slice A x.f3.length c]] w (fun e w' => ∃ v' : Value, e = .returned (.agg #[.int .i64 (smp x).f0, .int .i64 (smp x).f1, .string (smp x).f2, v']) ∧ Kd.R k30 30 w' w.heap.size (fun _ => True) v' (smp x).f3 ∧ Below w.heap.size w w') := by
 obtain ⟨k, hk⟩ := (spec_validP x g).rounds
 have huP := Try.underlying30
 have HIP := Aside0.mk (by kernel_rfl : (Try.prog.info? 30).map (·.size) = some 4)
 have HT := Aside0.mk hT
 have HL := Aside0.mk hL
 have HC := Aside0.mk hc
 clear hT hL hc
 have HB := Aside0.mk (Below.refl w.heap.size w)
 cases hv : validP x with
 | false =>
  have HV := Aside0.mk (hv ▸ hk : spec_ValidPattern.f k x.f0 x.f1 x.f2 x.f3 = some false)
  have ED : smp x = z30 := by unfold smp; rw [hv]; rfl
  rw [ED]
  clear ED hk hv
  go_enter Try.func15, Try.ntmps15
  go_wp2_with (first | ((with_reducible refine gate_dst (N := 1) rfl ?_); refine box_event ?hg (N := 1) ?hd (cs := #[.int .i64 x.f0, .int .i64 x.f1, .string x.f2, .slice A x.f3.length c]) (t := 30) ?hr ?_; (case hd => rfl); (case hg => rfl); (case hr => first | (go_simp; done) | (go_simp; rfl)); intro g1 hg w1 hbox hb; have n0_ := Aside0.mk (below_step HB.out hb); clear HB; have HB := n0_; clear n0_; have BK1 := Aside0.mk hbox; clear hbox hg hb; (try simp only [Act.put, sq1, sq2, sq3])) | ((with_reducible refine gate_dst (N := 2) rfl ?_); refine box_event ?hg (N := 2) ?hd (cs := #[.int .i64 0, .int .i64 0, .string (⟨#[]⟩ : ByteArray), .slice none 0 0]) (t := 30) ?hr ?_; (case hd => rfl); (case hg => rfl); (case hr => first | (go_simp; done) | (go_simp; rfl)); intro g2 hg w2 hbox hb; have GE2 := Aside0.mk (by rw [hg]; exact HB.out.size : w.heap.size ≤ g2); have n_ := fr1 HB BK1 hb; clear HB BK1; obtain ⟨HB, BK1⟩ := n_; have BK2 := Aside0.mk hbox; clear hbox hg hb; (try simp only [Act.put, sq1, sq2, sq3])) | ((with_reducible refine gate_dst (N := 3) rfl ?_); refine wpList_load_row rfl 30 _ rfl g1 rfl 30 #[.int .i64 x.f0, .int .i64 x.f1, .string x.f2, .slice A x.f3.length c] (0, 0) _ BK1.out huP rfl HIP.out ?_; (try simp only [Act.put, sq1, sq2, sq3])) | ((with_reducible refine gate_callee (f := 21) rfl ?_); refine goesL_ (some 4) rfl rfl Try.func21 (by kernel_rfl) rfl #[.agg #[.int .i64 x.f0, .int .i64 x.f1, .string x.f2, .slice A x.f3.length c]] rfl (by (try simp only [sm1, sm2, sm3]); first | done | rfl) ?_; refine (spec_ValidPattern.calls k x.f0 x.f1 x.f2 A c x.f3 false _ (T.C _ x.f3 (Nat.le_refl _) (HT.out.grow HB.out)) HT.out.len HV.out).mono ?_; rintro e wv ⟨rfl, hb⟩; refine ⟨_, rfl, ?_⟩; have n_ := fr2 HB BK1 BK2 hb; clear HB BK1 BK2; obtain ⟨HB, BK1, BK2⟩ := n_; clear hb; (try simp only [Act.put, sq1, sq2, sq3])) | ((with_reducible refine gate_store (t := 30) (p := 2) rfl ?_); refine Go.Proofs.Ytomakpfmghekfaa.RowLaw.put_event rfl 30 _ _ rfl g2 0 (.agg #[.int .i64 0, .int .i64 0, .string (⟨#[]⟩ : ByteArray), .slice none 0 0]) rfl rfl [.int .i64 0, .int .i64 0, .string (⟨#[]⟩ : ByteArray), .slice none 0 0] rfl 30 _ #[.int .i64 0, .int .i64 0, .string (⟨#[]⟩ : ByteArray), .slice none 0 0] BK2.out HIP.out (Nat.le_of_ble_eq_true rfl) rfl rfl ?_; intro w9 hk hoth hbel hz; have q_ := Aside0.mk (hbel _ _ HB.out GE2.out); have HZ := Aside0.mk hz; clear HB BK2 ; have HB := q_; have BK2 := Aside0.mk hk; clear q_ hk hoth hbel hz ; (try simp only [Act.put, sq1, sq2, sq3])))
  refine bodyPost_ret (results_cell_row rfl _ _ _ 30 _ (0, 0) _ rfl BK2.out huP rfl (by kernel_rfl)) rfl ?_
  exact ⟨_, rfl, Kd.R_nil _ _ _ _ _, HB.out⟩
 | true =>
  have HV := Aside0.mk (hv ▸ hk : spec_ValidPattern.f k x.f0 x.f1 x.f2 x.f3 = some true)
  have hvp := vp_of _ x (Nat.le_refl _) (of_decide_eq_true hv).1
  have hok := simp_ok 2000000 2000000 x hvp
  have ED : smp x = simpS 2000000 2000000 x := by unfold smp; rw [hv, if_pos rfl]
  rw [ED]
  have hcd : cntT (simpS 2000000 2000000 x) ≤ 2000000 := Nat.le_trans hok.2 HC.out
  obtain ⟨d, hd⟩ : ∃ d, d = simpS 2000000 2000000 x := ⟨_, rfl⟩
  rw [← hd]
  have HD := Aside0.mk hd
  rw [← hd] at hcd
  obtain ⟨kc, hkc⟩ := (copy_self _ d (Nat.le_refl _) hcd).rounds
  have HKC := Aside0.mk hkc
  clear hkc
  have HVP := Aside0.mk hvp
  clear ED hk hv hvp hok hcd hd
  go_enter Try.func15, Try.ntmps15
  go_wp2_with (first | ((with_reducible refine gate_dst (N := 1) rfl ?_); refine box_event ?hg (N := 1) ?hd (cs := #[.int .i64 x.f0, .int .i64 x.f1, .string x.f2, .slice A x.f3.length c]) (t := 30) ?hr ?_; (case hd => rfl); (case hg => rfl); (case hr => first | (go_simp; done) | (go_simp; rfl)); intro g1 hg w1 hbox hb; have n0_ := Aside0.mk (below_step HB.out hb); clear HB; have HB := n0_; clear n0_; have BK1 := Aside0.mk hbox; clear hbox hg hb; (try simp only [Act.put, sq1, sq2, sq3])) | ((with_reducible refine gate_dst (N := 2) rfl ?_); refine box_event ?hg (N := 2) ?hd (cs := #[.int .i64 0, .int .i64 0, .string (⟨#[]⟩ : ByteArray), .slice none 0 0]) (t := 30) ?hr ?_; (case hd => rfl); (case hg => rfl); (case hr => first | (go_simp; done) | (go_simp; rfl)); intro g2 hg w2 hbox hb; have GE2 := Aside0.mk (by rw [hg]; exact HB.out.size : w.heap.size ≤ g2); have n_ := fr1 HB BK1 hb; clear HB BK1; obtain ⟨HB, BK1⟩ := n_; have BK2 := Aside0.mk hbox; clear hbox hg hb; (try simp only [Act.put, sq1, sq2, sq3])) | ((with_reducible refine gate_dst (N := 3) rfl ?_); refine wpList_load_row rfl 30 _ rfl g1 rfl 30 #[.int .i64 x.f0, .int .i64 x.f1, .string x.f2, .slice A x.f3.length c] (0, 0) _ BK1.out huP rfl HIP.out ?_; (try simp only [Act.put, sq1, sq2, sq3])) | ((with_reducible refine gate_callee (f := 21) rfl ?_); refine goesL_ (some 4) rfl rfl Try.func21 (by kernel_rfl) rfl #[.agg #[.int .i64 x.f0, .int .i64 x.f1, .string x.f2, .slice A x.f3.length c]] rfl (by (try simp only [sm1, sm2, sm3]); first | done | rfl) ?_; refine (spec_ValidPattern.calls k x.f0 x.f1 x.f2 A c x.f3 true _ (T.C _ x.f3 (Nat.le_refl _) (HT.out.grow HB.out)) HT.out.len HV.out).mono ?_; rintro e wv ⟨rfl, hb⟩; refine ⟨_, rfl, ?_⟩; have n_ := fr2 HB BK1 BK2 hb; clear HB BK1 BK2; obtain ⟨HB, BK1, BK2⟩ := n_; clear hb; (try simp only [Act.put, sq1, sq2, sq3])) | ((with_reducible refine gate_dst (N := 7) rfl ?_); refine wpList_load_row rfl 30 _ rfl g1 rfl 30 #[.int .i64 x.f0, .int .i64 x.f1, .string x.f2, .slice A x.f3.length c] (0, 0) _ BK1.out huP rfl HIP.out ?_; (try simp only [Act.put, sq1, sq2, sq3])) | ((with_reducible refine gate_callee (f := 30) rfl ?_); refine goesL_ (some 8) rfl rfl Try.func30 (by kernel_rfl) rfl #[.agg #[.int .i64 x.f0, .int .i64 x.f1, .string x.f2, .slice A x.f3.length c]] rfl (by (try simp only [sm1, sm2, sm3]); first | done | rfl) ?_; refine (simple_calls 2000000 2000000 x HVP.out HC.out HC.out (.slice A x.f3.length c) B _ (HT.out.grow HB.out) (fun k hk => Nat.lt_of_lt_of_le (HL.out k hk) HB.out.size)).mono ?_; rw [← HD.out]; rintro e wd ⟨v5, B5, rfl, hT, hB', hb⟩; obtain ⟨A5, c5, e5, _⟩ := hT.inv; subst e5; refine ⟨.agg #[.int .i64 d.f0, .int .i64 d.f1, .string d.f2, .slice A5 d.f3.length c5], rfl, ?_⟩; have U5 := Aside0.mk hT; have UB5 := Aside0.mk hB'; have SZ5 := Aside0.mk HB.out.size; have G25 := Aside0.mk (blk_lt BK2.out); have n_ := fr2 HB BK1 BK2 hb; clear HB BK1 BK2; obtain ⟨HB, BK1, BK2⟩ := n_; clear hT hB' hb; (try simp only [Act.put, sq1, sq2, sq3])) | ((with_reducible refine gate_callee (f := 29) rfl ?_); refine goesL_ (some 9) rfl rfl Try.func29 (by kernel_rfl) rfl #[.agg #[.int .i64 d.f0, .int .i64 d.f1, .string d.f2, .slice A5 d.f3.length c5]] rfl (by (try simp only [sm1, sm2, sm3]); first | done | rfl) ?_; refine (spec_l11Copy.calls kc d.f0 d.f1 d.f2 A5 c5 d.f3 d.f0 d.f1 d.f2 d.f3 _ (T.C _ d.f3 (Nat.le_refl _) U5.out) U5.out.len HKC.out).mono ?_; rintro e wd2 ⟨v9, rfl, ho, hb⟩; obtain ⟨A9, c9, e9⟩ := Kd.R_slice ho; subst e9; refine ⟨_, rfl, ?_⟩; have RO := Aside0.mk (show Kd.R k30 30 wd2 w.heap.size (fun k => g2 < k) (.slice A9 d.f3.length c9) d.f3 from Kd.R_lower (Kd.R_mono (Kd.R_bound ho) (fun k hk => Nat.lt_of_lt_of_le (blk_lt BK2.out) hk.2.1)) HB.out.size); have n_ := fr2 HB BK1 BK2 hb; clear HB BK1 BK2; obtain ⟨HB, BK1, BK2⟩ := n_; clear ho hb; (try simp only [Act.put, sq1, sq2, sq3])) | ((with_reducible refine gate_store (t := 30) (p := 2) rfl ?_); refine Go.Proofs.Ytomakpfmghekfaa.RowLaw.put_event rfl 30 _ _ rfl g2 0 (.agg #[.int .i64 d.f0, .int .i64 d.f1, .string d.f2, .slice A9 d.f3.length c9]) rfl rfl [.int .i64 d.f0, .int .i64 d.f1, .string d.f2, .slice A9 d.f3.length c9] rfl 30 _ #[.int .i64 d.f0, .int .i64 d.f1, .string d.f2, .slice A9 d.f3.length c9] BK2.out HIP.out (Nat.le_of_ble_eq_true rfl) rfl rfl ?_; intro w9 hk hoth hbel hz; have q_ := Aside0.mk (hbel _ _ HB.out GE2.out); have n0_ := Aside0.mk (Kd.R_move RO.out (fun k hk => hoth k (Nat.ne_of_gt hk))); have HZ := Aside0.mk hz; clear HB BK2 RO; have HB := q_; have BK2 := Aside0.mk hk; have RO := n0_; clear q_ hk hoth hbel hz n0_; (try simp only [Act.put, sq1, sq2, sq3])))
  refine bodyPost_ret (results_cell_row rfl _ _ _ 30 _ (0, 0) _ rfl BK2.out huP rfl (by kernel_rfl)) rfl ?_
  exact ⟨_, rfl, Kd.R_mono RO.out (fun _ _ => trivial), HB.out⟩
set_option maxHeartbeats 4000000 in
set_option maxRecDepth 100000 in
theorem impl_sp (x : PT) (g : FinePattern x) (hc : cntT x ≤ 2000000) (A : Option Addr) (c : Nat) (B : Nat → Prop) (w : World) (hT : T False w B (.slice A x.f3.length c) x.f3) (hL : ∀ k, B k → k < w.heap.size) :
  Calls Try.prog 16 #[.agg #[.int .i64 x.f0, .int .i64 x.f1, .string x.f2, .slice A x.f3.length c]] w (Res True w (fun _ => False) (smp x)) := by
 obtain ⟨k, hk⟩ := (impl_validP x g).rounds
 have huP := Try.underlying30
 have HIP := Aside0.mk (by kernel_rfl : (Try.prog.info? 30).map (·.size) = some 4)
 have HT := Aside0.mk hT
 have HL := Aside0.mk hL
 have HC := Aside0.mk hc
 clear hT hL hc
 have HB := Aside0.mk (Below.refl w.heap.size w)
 cases hv : validP x with
 | false =>
  have HV := Aside0.mk (hv ▸ hk : impl_ValidPattern.f k x.f0 x.f1 x.f2 x.f3 = some false)
  have ED : smp x = z30 := by unfold smp; rw [hv]; rfl
  rw [ED]
  clear ED hk hv
  go_enter Try.func16, Try.ntmps16
  go_wp2_with (first | ((with_reducible refine gate_dst (N := 1) rfl ?_); refine box_event ?hg (N := 1) ?hd (cs := #[.int .i64 x.f0, .int .i64 x.f1, .string x.f2, .slice A x.f3.length c]) (t := 30) ?hr ?_; (case hd => rfl); (case hg => rfl); (case hr => first | (go_simp; done) | (go_simp; rfl)); intro g1 hg w1 hbox hb; have n0_ := Aside0.mk (below_step HB.out hb); clear HB; have HB := n0_; clear n0_; have BK1 := Aside0.mk hbox; clear hbox hg hb; (try simp only [Act.put, sq1, sq2, sq3])) | ((with_reducible refine gate_dst (N := 2) rfl ?_); refine box_event ?hg (N := 2) ?hd (cs := #[.int .i64 0, .int .i64 0, .string (⟨#[]⟩ : ByteArray), .slice none 0 0]) (t := 30) ?hr ?_; (case hd => rfl); (case hg => rfl); (case hr => first | (go_simp; done) | (go_simp; rfl)); intro g2 hg w2 hbox hb; have GE2 := Aside0.mk (by rw [hg]; exact HB.out.size : w.heap.size ≤ g2); have n_ := fr1 HB BK1 hb; clear HB BK1; obtain ⟨HB, BK1⟩ := n_; have BK2 := Aside0.mk hbox; clear hbox hg hb; (try simp only [Act.put, sq1, sq2, sq3])) | ((with_reducible refine gate_dst (N := 3) rfl ?_); refine wpList_load_row rfl 30 _ rfl g1 rfl 30 #[.int .i64 x.f0, .int .i64 x.f1, .string x.f2, .slice A x.f3.length c] (0, 0) _ BK1.out huP rfl HIP.out ?_; (try simp only [Act.put, sq1, sq2, sq3])) | ((with_reducible refine gate_callee (f := 24) rfl ?_); refine goesL_ (some 4) rfl rfl Try.func24 (by kernel_rfl) rfl #[.agg #[.int .i64 x.f0, .int .i64 x.f1, .string x.f2, .slice A x.f3.length c]] rfl (by (try simp only [sm1, sm2, sm3]); first | done | rfl) ?_; refine (impl_ValidPattern.calls k x.f0 x.f1 x.f2 A c x.f3 false _ (T.C _ x.f3 (Nat.le_refl _) (HT.out.grow HB.out)) HT.out.len HV.out).mono ?_; rintro e wv ⟨rfl, hb⟩; refine ⟨_, rfl, ?_⟩; have n_ := fr2 HB BK1 BK2 hb; clear HB BK1 BK2; obtain ⟨HB, BK1, BK2⟩ := n_; clear hb; (try simp only [Act.put, sq1, sq2, sq3])) | ((with_reducible refine gate_store (t := 30) (p := 2) rfl ?_); refine Go.Proofs.Ytomakpfmghekfaa.RowLaw.put_event rfl 30 _ _ rfl g2 0 (.agg #[.int .i64 0, .int .i64 0, .string (⟨#[]⟩ : ByteArray), .slice none 0 0]) rfl rfl [.int .i64 0, .int .i64 0, .string (⟨#[]⟩ : ByteArray), .slice none 0 0] rfl 30 _ #[.int .i64 0, .int .i64 0, .string (⟨#[]⟩ : ByteArray), .slice none 0 0] BK2.out HIP.out (Nat.le_of_ble_eq_true rfl) rfl rfl ?_; intro w9 hk hoth hbel hz; have q_ := Aside0.mk (hbel _ _ HB.out GE2.out); have HZ := Aside0.mk hz; clear HB BK2 ; have HB := q_; have BK2 := Aside0.mk hk; clear q_ hk hoth hbel hz ; (try simp only [Act.put, sq1, sq2, sq3])))
  refine bodyPost_ret (results_cell_row rfl _ _ _ 30 _ (0, 0) _ rfl BK2.out huP rfl (by kernel_rfl)) rfl ?_
  exact ⟨_, fun _ => False, rfl, .nil _ _ _, fun _ h => h.elim, HB.out⟩
 | true =>
  have HV := Aside0.mk (hv ▸ hk : impl_ValidPattern.f k x.f0 x.f1 x.f2 x.f3 = some true)
  have hvp := vp_of _ x (Nat.le_refl _) (of_decide_eq_true hv).1
  have hok := simp_ok 2000000 2000000 x hvp
  have ED : smp x = simpS 2000000 2000000 x := by unfold smp; rw [hv, if_pos rfl]
  rw [ED]
  rw [← simp_same 2000000 2000000 x hvp]
  have hcd : cntT (simpS 2000000 2000000 x) ≤ 2000000 := Nat.le_trans hok.2 HC.out
  obtain ⟨d, hd⟩ : ∃ d, d = simpI 2000000 2000000 x := ⟨_, rfl⟩
  rw [← hd]
  have HD := Aside0.mk hd
  have HVP := Aside0.mk hvp
  clear ED hk hv hvp hok hcd hd
  go_enter Try.func16, Try.ntmps16
  go_wp2_with (first | ((with_reducible refine gate_dst (N := 1) rfl ?_); refine box_event ?hg (N := 1) ?hd (cs := #[.int .i64 x.f0, .int .i64 x.f1, .string x.f2, .slice A x.f3.length c]) (t := 30) ?hr ?_; (case hd => rfl); (case hg => rfl); (case hr => first | (go_simp; done) | (go_simp; rfl)); intro g1 hg w1 hbox hb; have n0_ := Aside0.mk (below_step HB.out hb); clear HB; have HB := n0_; clear n0_; have BK1 := Aside0.mk hbox; clear hbox hg hb; (try simp only [Act.put, sq1, sq2, sq3])) | ((with_reducible refine gate_dst (N := 2) rfl ?_); refine box_event ?hg (N := 2) ?hd (cs := #[.int .i64 0, .int .i64 0, .string (⟨#[]⟩ : ByteArray), .slice none 0 0]) (t := 30) ?hr ?_; (case hd => rfl); (case hg => rfl); (case hr => first | (go_simp; done) | (go_simp; rfl)); intro g2 hg w2 hbox hb; have GE2 := Aside0.mk (by rw [hg]; exact HB.out.size : w.heap.size ≤ g2); have n_ := fr1 HB BK1 hb; clear HB BK1; obtain ⟨HB, BK1⟩ := n_; have BK2 := Aside0.mk hbox; clear hbox hg hb; (try simp only [Act.put, sq1, sq2, sq3])) | ((with_reducible refine gate_dst (N := 3) rfl ?_); refine wpList_load_row rfl 30 _ rfl g1 rfl 30 #[.int .i64 x.f0, .int .i64 x.f1, .string x.f2, .slice A x.f3.length c] (0, 0) _ BK1.out huP rfl HIP.out ?_; (try simp only [Act.put, sq1, sq2, sq3])) | ((with_reducible refine gate_callee (f := 24) rfl ?_); refine goesL_ (some 4) rfl rfl Try.func24 (by kernel_rfl) rfl #[.agg #[.int .i64 x.f0, .int .i64 x.f1, .string x.f2, .slice A x.f3.length c]] rfl (by (try simp only [sm1, sm2, sm3]); first | done | rfl) ?_; refine (impl_ValidPattern.calls k x.f0 x.f1 x.f2 A c x.f3 true _ (T.C _ x.f3 (Nat.le_refl _) (HT.out.grow HB.out)) HT.out.len HV.out).mono ?_; rintro e wv ⟨rfl, hb⟩; refine ⟨_, rfl, ?_⟩; have n_ := fr2 HB BK1 BK2 hb; clear HB BK1 BK2; obtain ⟨HB, BK1, BK2⟩ := n_; clear hb; (try simp only [Act.put, sq1, sq2, sq3])) | ((with_reducible refine gate_dst (N := 7) rfl ?_); refine wpList_load_row rfl 30 _ rfl g1 rfl 30 #[.int .i64 x.f0, .int .i64 x.f1, .string x.f2, .slice A x.f3.length c] (0, 0) _ BK1.out huP rfl HIP.out ?_; (try simp only [Act.put, sq1, sq2, sq3])) | ((with_reducible refine gate_callee (f := 31) rfl ?_); refine goesL_ (some 8) rfl rfl Try.func31 (by kernel_rfl) rfl #[.agg #[.int .i64 x.f0, .int .i64 x.f1, .string x.f2, .slice A x.f3.length c]] rfl (by (try simp only [sm1, sm2, sm3]); first | done | rfl) ?_; refine (simplified_calls 2000000 (Nat.le_refl _) 2000000 x HVP.out HC.out HC.out (.slice A x.f3.length c) B _ (HT.out.grow HB.out) (fun k hk => Nat.lt_of_lt_of_le (HL.out k hk) HB.out.size)).mono ?_; rw [← HD.out]; rintro e wd ⟨v5, B5, rfl, hT, hB', hb⟩; obtain ⟨A5, c5, e5, _⟩ := hT.inv; subst e5; refine ⟨.agg #[.int .i64 d.f0, .int .i64 d.f1, .string d.f2, .slice A5 d.f3.length c5], rfl, ?_⟩; have U5 := Aside0.mk hT; have UB5 := Aside0.mk hB'; have SZ5 := Aside0.mk HB.out.size; have G25 := Aside0.mk (blk_lt BK2.out); have n_ := fr2 HB BK1 BK2 hb; clear HB BK1 BK2; obtain ⟨HB, BK1, BK2⟩ := n_; clear hT hB' hb; (try simp only [Act.put, sq1, sq2, sq3])) | ((with_reducible refine gate_store (t := 30) (p := 2) rfl ?_); refine Go.Proofs.Ytomakpfmghekfaa.RowLaw.put_event rfl 30 _ _ rfl g2 0 (.agg #[.int .i64 d.f0, .int .i64 d.f1, .string d.f2, .slice A5 d.f3.length c5]) rfl rfl [.int .i64 d.f0, .int .i64 d.f1, .string d.f2, .slice A5 d.f3.length c5] rfl 30 _ #[.int .i64 d.f0, .int .i64 d.f1, .string d.f2, .slice A5 d.f3.length c5] BK2.out HIP.out (Nat.le_of_ble_eq_true rfl) rfl rfl ?_; intro w9 hk hoth hbel hz; have q_ := Aside0.mk (hbel _ _ HB.out GE2.out); have n0_ := Aside0.mk (U5.out.move (fun k jb => hoth k (fun he => absurd G25.out (by have := ((UB5.out k jb).1.resolve_left (fun h => h)); omega)))); have HZ := Aside0.mk hz; clear HB BK2 U5; have HB := q_; have BK2 := Aside0.mk hk; have U5 := n0_; clear q_ hk hoth hbel hz n0_; (try simp only [Act.put, sq1, sq2, sq3])))
  refine bodyPost_ret (results_cell_row rfl _ _ _ 30 _ (0, 0) _ rfl BK2.out huP rfl (by kernel_rfl)) rfl ?_
  exact ⟨_, B5, rfl, U5.out, fun k jb => ⟨.inr (Nat.le_trans SZ5.out ((UB5.out k jb).1.resolve_left (fun h => h))), by rw [HZ.out]; exact (UB5.out k jb).2⟩, HB.out⟩
end Go.Proofs.Ytomakpfmghekfaa.PFnExactSimplifyPattern
