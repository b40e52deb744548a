/- By hand: what the law FnExactJoinPatterns reaches beyond the printed texts, and the law's own function. Conditions: none beyond each statement. -/
import Derived.Test.YtomakpfmghekfaaProg
import Derived.Below
import Derived.Deep.Draws
import Derived.Deep.AppendLies
import Derived.Maps.AppendAt
import Derived.OwnWalk
import Derived.Laws.BytesArg
import Derived.Laws.MakeOwn
import Derived.Laws.OwnMore
import Derived.Deep.OwnRows
import Derived.Tactics
import Derived.Lib.ConvBytes
import Derived.Laws.Slices
import Derived.WalkKit
import Derived.KernelRfl
import Derived.RowKit3
import Derived.Deep.LoopGhost
import Derived.Deep.QuietTactic
import Derived.BigQuiet
import Derived.WideLaws
import Derived.Deep.DeepCutAuto
import Derived.Deep.CutBlock
import Derived.Deep.RegionHeld3
import Derived.Laws.Rows
import Derived.Lib.AppendStr
import Derived.ArgAppend
import Derived.Laws.IdiomCopy
import Derived.OrdersHeld
import Derived.Laws.BitsLemmas
import Derived.RowKit
import Derived.Test.YtomakpfmghekfaaWWords
import Derived.Test.YtomakpfmghekfaaWLast
import Derived.Test.YtomakpfmghekfaaWTab
import Derived.Test.YtomakpfmghekfaaWFour
import Derived.Test.YtomakpfmghekfaaWQPut
import Derived.Test.YtomakpfmghekfaaWApart
import Derived.Test.YtomakpfmghekfaaWArr
import Derived.Test.YtomakpfmghekfaaWZeros
import Derived.Test.YtomakpfmghekfaaWFoot
import Derived.Test.YtomakpfmghekfaaWKept
import Derived.Test.YtomakpfmghekfaaWShare
import Derived.Test.YtomakpfmghekfaaWN
import Derived.Test.YtomakpfmghekfaaWFootNe
import Derived.Test.YtomakpfmghekfaaWAt
import Derived.Test.YtomakpfmghekfaaWEqStruct
import Derived.Test.YtomakpfmghekfaaWRepsOne
import Derived.Test.YtomakpfmghekfaaWInv
import Derived.Test.YtomakpfmghekfaaWInvWords
import Derived.Test.YtomakpfmghekfaaWGuard
import Derived.Test.YtomakpfmghekfaaWNEv
import Derived.Test.YtomakpfmghekfaaWMore
import Derived.Test.YtomakpfmghekfaaDevJPh
import Derived.Test.YtomakpfmghekfaaDevJPd
import Derived.Test.YtomakpfmghekfaaDevJPe
import Derived.Test.YtomakpfmghekfaaRowLaw
namespace Go.Proofs.Ytomakpfmghekfaa.PFnExactJoinPatterns
open Go.RowKit Go.Proofs.YtomakpfmghekfaaW.PrintWords Go.Proofs.YtomakpfmghekfaaW.PrintLast Go.Proofs.YtomakpfmghekfaaW.PrintMore
attribute [local go_sem] max2_int min2_int max_two min_two max_three min_three max_four min_four
set_option linter.unusedVariables false
set_option linter.unusedSimpArgs false
set_option maxHeartbeats 16000000 in
set_option maxRecDepth 100000 in
theorem spec_jp (a b : PT) (ga : FinePattern a) (gb : FinePattern b) (hc : cntT a + cntT b ≤ 1999999) (Aa : Option Addr) (ca : Nat) (Ba : Nat → Prop) (Ab : Option Addr) (cb : Nat) (Bb : Nat → Prop) (w : World) (hTa : T False w Ba (.slice Aa a.f3.length ca) a.f3) (hTb : T False w Bb (.slice Ab b.f3.length cb) b.f3) (hL : ∀ k, Ba k ∨ Bb k → k < w.heap.size) :
    Calls Try.prog 18 #[.agg #[.int .i64 a.f0, .int .i64 a.f1, .string a.f2, .slice Aa a.f3.length ca], .agg #[.int .i64 b.f0, .int .i64 b.f1, .string b.f2, .slice Ab b.f3.length cb]] w (fun e w' => ∃ v' : Value, e = .returned (.tuple #[.agg #[.int .i64 (jn a b).f0, .int .i64 (jn a b).f1, .string (jn a b).f2, v'], .bool (jok a b)]) ∧ Kd.R k30 30 w' w.heap.size (fun _ => True) v' (jn a b).f3 ∧ Below w.heap.size w w') := by
  obtain ⟨ka, hka⟩ := (spec_validP a ga).rounds
  obtain ⟨kb, hkb⟩ := (spec_validP b gb).rounds
  obtain ⟨kd, hkd⟩ := (spec_validP _ (fine_jcat ga gb)).rounds
  have huP := Try.underlying30
  have HIP := Aside0.mk (by kernel_rfl : (Try.prog.info? 30).map (·.size) = some 4)
  have HTa := Aside0.mk hTa
  have HTb := Aside0.mk hTb
  have HL := Aside0.mk hL
  have HCA := Aside0.mk (by omega : cntT a ≤ 2000000)
  have HCB := Aside0.mk (by omega : cntT b ≤ 2000000)
  have HCC := Aside0.mk hc
  clear hTa hTb hL hc
  have HB := Aside0.mk (Below.refl w.heap.size w)
  cases hva : validP a with
  | false =>
    have HVA := Aside0.mk (hva ▸ hka : spec_ValidPattern.f ka a.f0 a.f1 a.f2 a.f3 = some false)
    have HJ := Aside0.mk (by unfold jok; rw [hva]; rfl : jok a b = false)
    clear hka hkb hkd hva
    rw [jn_no HJ.out, HJ.out]
    go_enter Try.func18, Try.ntmps18
    go_wp2_with (first | ((with_reducible refine gate_dst (N := 2) rfl ?_); refine box_event ?hg (N := 2) ?hd (cs := #[.int .i64 a.f0, .int .i64 a.f1, .string a.f2, .slice Aa a.f3.length ca]) (t := 30) ?hr ?_; (case hd => rfl); (case hg => rfl); (case hr => first | (go_simp; done) | (go_simp; rfl)); intro g2 hg w2 hbox hb; have n0_ := Aside0.mk (below_step HB.out hb); clear HB; have HB := n0_; clear n0_; have BK2 := Aside0.mk hbox; clear hbox hg hb; (try simp only [Act.put, sq1, sq2, sq3])) | ((with_reducible refine gate_dst (N := 3) rfl ?_); refine box_event ?hg (N := 3) ?hd (cs := #[.int .i64 b.f0, .int .i64 b.f1, .string b.f2, .slice Ab b.f3.length cb]) (t := 30) ?hr ?_; (case hd => rfl); (case hg => rfl); (case hr => first | (go_simp; done) | (go_simp; rfl)); intro g3 hg w3 hbox hb; have n_ := fr1 HB BK2 hb; clear HB BK2; obtain ⟨HB, BK2⟩ := n_; have BK3 := Aside0.mk hbox; clear hbox hg hb; (try simp only [Act.put, sq1, sq2, sq3])) | ((with_reducible refine gate_dst (N := 4) rfl ?_); refine box_event ?hg (N := 4) ?hd (cs := #[.int .i64 0, .int .i64 0, .string (⟨#[]⟩ : ByteArray), .slice none 0 0]) (t := 30) ?hr ?_; (case hd => rfl); (case hg => rfl); (case hr => first | (go_simp; done) | (go_simp; rfl)); intro g4 hg w4 hbox hb; have GE4 := Aside0.mk (by rw [hg]; exact HB.out.size : w.heap.size ≤ g4); have n_ := fr2 HB BK2 BK3 hb; clear HB BK2 BK3; obtain ⟨HB, BK2, BK3⟩ := n_; have BK4 := Aside0.mk hbox; clear hbox hg hb; (try simp only [Act.put, sq1, sq2, sq3])) | ((with_reducible refine gate_dst (N := 7) rfl ?_); refine wpList_load_row rfl 30 _ rfl g2 rfl 30 #[.int .i64 a.f0, .int .i64 a.f1, .string a.f2, .slice Aa a.f3.length ca] (0, 0) _ BK2.out huP rfl HIP.out ?_; (try simp only [Act.put, sq1, sq2, sq3])) | ((with_reducible refine gate_dst (N := 11) rfl ?_); refine gate_guard (by rfl) ?_; dsimp only; refine wpList_load_row rfl 30 _ rfl g3 rfl 30 #[.int .i64 b.f0, .int .i64 b.f1, .string b.f2, .slice Ab b.f3.length cb] (0, 0) _ BK3.out huP rfl HIP.out ?_; (try simp only [Act.put, sq1, sq2, sq3])) | ((with_reducible refine gate_callee (f := 21) rfl ?_); refine goesL_ (some 8) rfl rfl Try.func21 (by kernel_rfl) rfl #[.agg #[.int .i64 a.f0, .int .i64 a.f1, .string a.f2, .slice Aa a.f3.length ca]] rfl (by (try simp only [sm1, sm2, sm3]); first | done | rfl) ?_; refine (spec_ValidPattern.calls ka a.f0 a.f1 a.f2 Aa ca a.f3 false _ (T.C _ a.f3 (Nat.le_refl _) (HTa.out.grow HB.out)) HTa.out.len HVA.out).mono ?_; rintro e wva ⟨rfl, hb⟩; refine ⟨_, rfl, ?_⟩; have n_ := fr3 HB BK2 BK3 BK4 hb; clear HB BK2 BK3 BK4; obtain ⟨HB, BK2, BK3, BK4⟩ := n_; clear hb; (try simp only [Act.put, sq1, sq2, sq3])) | ((with_reducible refine gate_store (t := 30) (p := 4) rfl ?_); refine Go.Proofs.Ytomakpfmghekfaa.RowLaw.put_event rfl 30 _ _ rfl g4 0 (.agg #[.int .i64 0, .int .i64 0, .string (⟨#[]⟩ : ByteArray), .slice none 0 0]) rfl rfl [.int .i64 0, .int .i64 0, .string (⟨#[]⟩ : ByteArray), .slice none 0 0] rfl 30 _ #[.int .i64 0, .int .i64 0, .string (⟨#[]⟩ : ByteArray), .slice none 0 0] BK4.out HIP.out (Nat.le_of_ble_eq_true rfl) rfl rfl ?_; intro w9 hk hoth hbel hz; have q_ := Aside0.mk (hbel _ _ HB.out GE4.out); have HZ := Aside0.mk hz; clear HB BK4 ; have HB := q_; have BK4 := Aside0.mk hk; clear q_ hk hoth hbel hz ; (try simp only [Act.put, sq1, sq2, sq3])))
    refine bodyPost_ret (results_cell_row2 rfl _ _ _ 30 _ (0, 0) _ rfl BK4.out huP rfl (by kernel_rfl) (.bool false) rfl) rfl ?_
    exact ⟨_, rfl, Kd.R_nil _ _ _ _ _, HB.out⟩
  | true =>
    have HVA := Aside0.mk (hva ▸ hka : spec_ValidPattern.f ka a.f0 a.f1 a.f2 a.f3 = some true)
    cases hvb : validP b with
    | false =>
      have HVB := Aside0.mk (hvb ▸ hkb : spec_ValidPattern.f kb b.f0 b.f1 b.f2 b.f3 = some false)
      have HJ := Aside0.mk (by unfold jok; rw [hva, hvb]; rfl : jok a b = false)
      clear hka hkb hkd hva hvb
      rw [jn_no HJ.out, HJ.out]
      go_enter Try.func18, Try.ntmps18
      go_wp2_with (first | ((with_reducible refine gate_dst (N := 2) rfl ?_); refine box_event ?hg (N := 2) ?hd (cs := #[.int .i64 a.f0, .int .i64 a.f1, .string a.f2, .slice Aa a.f3.length ca]) (t := 30) ?hr ?_; (case hd => rfl); (case hg => rfl); (case hr => first | (go_simp; done) | (go_simp; rfl)); intro g2 hg w2 hbox hb; have n0_ := Aside0.mk (below_step HB.out hb); clear HB; have HB := n0_; clear n0_; have BK2 := Aside0.mk hbox; clear hbox hg hb; (try simp only [Act.put, sq1, sq2, sq3])) | ((with_reducible refine gate_dst (N := 3) rfl ?_); refine box_event ?hg (N := 3) ?hd (cs := #[.int .i64 b.f0, .int .i64 b.f1, .string b.f2, .slice Ab b.f3.length cb]) (t := 30) ?hr ?_; (case hd => rfl); (case hg => rfl); (case hr => first | (go_simp; done) | (go_simp; rfl)); intro g3 hg w3 hbox hb; have n_ := fr1 HB BK2 hb; clear HB BK2; obtain ⟨HB, BK2⟩ := n_; have BK3 := Aside0.mk hbox; clear hbox hg hb; (try simp only [Act.put, sq1, sq2, sq3])) | ((with_reducible refine gate_dst (N := 4) rfl ?_); refine box_event ?hg (N := 4) ?hd (cs := #[.int .i64 0, .int .i64 0, .string (⟨#[]⟩ : ByteArray), .slice none 0 0]) (t := 30) ?hr ?_; (case hd => rfl); (case hg => rfl); (case hr => first | (go_simp; done) | (go_simp; rfl)); intro g4 hg w4 hbox hb; have GE4 := Aside0.mk (by rw [hg]; exact HB.out.size : w.heap.size ≤ g4); have n_ := fr2 HB BK2 BK3 hb; clear HB BK2 BK3; obtain ⟨HB, BK2, BK3⟩ := n_; have BK4 := Aside0.mk hbox; clear hbox hg hb; (try simp only [Act.put, sq1, sq2, sq3])) | ((with_reducible refine gate_dst (N := 7) rfl ?_); refine wpList_load_row rfl 30 _ rfl g2 rfl 30 #[.int .i64 a.f0, .int .i64 a.f1, .string a.f2, .slice Aa a.f3.length ca] (0, 0) _ BK2.out huP rfl HIP.out ?_; (try simp only [Act.put, sq1, sq2, sq3])) | ((with_reducible refine gate_dst (N := 11) rfl ?_); refine gate_guard (by rfl) ?_; dsimp only; refine wpList_load_row rfl 30 _ rfl g3 rfl 30 #[.int .i64 b.f0, .int .i64 b.f1, .string b.f2, .slice Ab b.f3.length cb] (0, 0) _ BK3.out huP rfl HIP.out ?_; (try simp only [Act.put, sq1, sq2, sq3])) | ((with_reducible refine gate_callee (f := 21) rfl ?_); refine goesL_ (some 8) rfl rfl Try.func21 (by kernel_rfl) rfl #[.agg #[.int .i64 a.f0, .int .i64 a.f1, .string a.f2, .slice Aa a.f3.length ca]] rfl (by (try simp only [sm1, sm2, sm3]); first | done | rfl) ?_; refine (spec_ValidPattern.calls ka a.f0 a.f1 a.f2 Aa ca a.f3 true _ (T.C _ a.f3 (Nat.le_refl _) (HTa.out.grow HB.out)) HTa.out.len HVA.out).mono ?_; rintro e wva ⟨rfl, hb⟩; refine ⟨_, rfl, ?_⟩; have n_ := fr3 HB BK2 BK3 BK4 hb; clear HB BK2 BK3 BK4; obtain ⟨HB, BK2, BK3, BK4⟩ := n_; clear hb; (try simp only [Act.put, sq1, sq2, sq3])) | ((with_reducible refine gate_callee (f := 21) rfl ?_); (with_reducible refine gate_dst (N := 12) rfl ?_); refine gate_guard (by rfl) ?_; dsimp only; refine goesL_ (some 12) rfl rfl Try.func21 (by kernel_rfl) rfl #[.agg #[.int .i64 b.f0, .int .i64 b.f1, .string b.f2, .slice Ab b.f3.length cb]] rfl (by (try simp only [sm1, sm2, sm3]); first | done | rfl) ?_; refine (spec_ValidPattern.calls kb b.f0 b.f1 b.f2 Ab cb b.f3 false _ (T.C _ b.f3 (Nat.le_refl _) (HTb.out.grow HB.out)) HTb.out.len HVB.out).mono ?_; rintro e wvb ⟨rfl, hb⟩; refine ⟨_, rfl, ?_⟩; have n_ := fr3 HB BK2 BK3 BK4 hb; clear HB BK2 BK3 BK4; obtain ⟨HB, BK2, BK3, BK4⟩ := n_; clear hb; (try simp only [Act.put, sq1, sq2, sq3])) | ((with_reducible refine gate_store (t := 30) (p := 4) rfl ?_); refine Go.Proofs.Ytomakpfmghekfaa.RowLaw.put_event rfl 30 _ _ rfl g4 0 (.agg #[.int .i64 0, .int .i64 0, .string (⟨#[]⟩ : ByteArray), .slice none 0 0]) rfl rfl [.int .i64 0, .int .i64 0, .string (⟨#[]⟩ : ByteArray), .slice none 0 0] rfl 30 _ #[.int .i64 0, .int .i64 0, .string (⟨#[]⟩ : ByteArray), .slice none 0 0] BK4.out HIP.out (Nat.le_of_ble_eq_true rfl) rfl rfl ?_; intro w9 hk hoth hbel hz; have q_ := Aside0.mk (hbel _ _ HB.out GE4.out); have HZ := Aside0.mk hz; clear HB BK4 ; have HB := q_; have BK4 := Aside0.mk hk; clear q_ hk hoth hbel hz ; (try simp only [Act.put, sq1, sq2, sq3])))
      refine bodyPost_ret (results_cell_row2 rfl _ _ _ 30 _ (0, 0) _ rfl BK4.out huP rfl (by kernel_rfl) (.bool false) rfl) rfl ?_
      exact ⟨_, rfl, Kd.R_nil _ _ _ _ _, HB.out⟩
    | true =>
      have HVB := Aside0.mk (hvb ▸ hkb : spec_ValidPattern.f kb b.f0 b.f1 b.f2 b.f3 = some true)
      have VA := Aside0.mk (vp_of _ a (Nat.le_refl _) (of_decide_eq_true hva).1)
      have VB := Aside0.mk (vp_of _ b (Nat.le_refl _) (of_decide_eq_true hvb).1)
      have OA := Aside0.mk (simp_ok 2000000 2000000 a VA.out)
      have OB := Aside0.mk (simp_ok 2000000 2000000 b VB.out)
      have hcd := jcat_cnt hva hvb
      have hno : validP (jcat a b) = false → jok a b = false := fun h => by unfold jok; rw [h]; simp
      have hyes := fun h => jn_yes hva hvb h
      obtain ⟨d, hd⟩ : ∃ d, d = jcat a b := ⟨_, rfl⟩
      rw [← hd] at hkd hcd hno hyes
      have HD := Aside0.mk (show d = catF 2000000 (simpS 2000000 2000000 a) (simpS 2000000 2000000 b) from hd)
      have HDC := Aside0.mk (by have := HCC.out; omega : cntT d ≤ 2000000)
      have HNO := Aside0.mk hno
      have HYES := Aside0.mk hyes
      obtain ⟨kc, hkc⟩ := (copy_self _ d (Nat.le_refl _) HDC.out).rounds
      have HKC := Aside0.mk hkc
      clear hkc
      obtain ⟨r, hr⟩ : ∃ r, validP d = r := ⟨_, rfl⟩
      have HRR := Aside0.mk hr
      rw [hr] at hkd
      have HKD := Aside0.mk hkd
      clear hka hkb hkd hva hvb hcd hno hyes hd hr
      go_enter Try.func18, Try.ntmps18
      go_wp2_with (first | ((with_reducible refine gate_dst (N := 2) rfl ?_); refine box_event ?hg (N := 2) ?hd (cs := #[.int .i64 a.f0, .int .i64 a.f1, .string a.f2, .slice Aa a.f3.length ca]) (t := 30) ?hr ?_; (case hd => rfl); (case hg => rfl); (case hr => first | (go_simp; done) | (go_simp; rfl)); intro g2 hg w2 hbox hb; have n0_ := Aside0.mk (below_step HB.out hb); clear HB; have HB := n0_; clear n0_; have BK2 := Aside0.mk hbox; clear hbox hg hb; (try simp only [Act.put, sq1, sq2, sq3])) | ((with_reducible refine gate_dst (N := 3) rfl ?_); refine box_event ?hg (N := 3) ?hd (cs := #[.int .i64 b.f0, .int .i64 b.f1, .string b.f2, .slice Ab b.f3.length cb]) (t := 30) ?hr ?_; (case hd => rfl); (case hg => rfl); (case hr => first | (go_simp; done) | (go_simp; rfl)); intro g3 hg w3 hbox hb; have n_ := fr1 HB BK2 hb; clear HB BK2; obtain ⟨HB, BK2⟩ := n_; have BK3 := Aside0.mk hbox; clear hbox hg hb; (try simp only [Act.put, sq1, sq2, sq3])) | ((with_reducible refine gate_dst (N := 4) rfl ?_); refine box_event ?hg (N := 4) ?hd (cs := #[.int .i64 0, .int .i64 0, .string (⟨#[]⟩ : ByteArray), .slice none 0 0]) (t := 30) ?hr ?_; (case hd => rfl); (case hg => rfl); (case hr => first | (go_simp; done) | (go_simp; rfl)); intro g4 hg w4 hbox hb; have GE4 := Aside0.mk (by rw [hg]; exact HB.out.size : w.heap.size ≤ g4); have n_ := fr2 HB BK2 BK3 hb; clear HB BK2 BK3; obtain ⟨HB, BK2, BK3⟩ := n_; have BK4 := Aside0.mk hbox; clear hbox hg hb; (try simp only [Act.put, sq1, sq2, sq3])) | ((with_reducible refine gate_dst (N := 7) rfl ?_); refine wpList_load_row rfl 30 _ rfl g2 rfl 30 #[.int .i64 a.f0, .int .i64 a.f1, .string a.f2, .slice Aa a.f3.length ca] (0, 0) _ BK2.out huP rfl HIP.out ?_; (try simp only [Act.put, sq1, sq2, sq3])) | ((with_reducible refine gate_dst (N := 11) rfl ?_); refine gate_guard (by rfl) ?_; dsimp only; refine wpList_load_row rfl 30 _ rfl g3 rfl 30 #[.int .i64 b.f0, .int .i64 b.f1, .string b.f2, .slice Ab b.f3.length cb] (0, 0) _ BK3.out huP rfl HIP.out ?_; (try simp only [Act.put, sq1, sq2, sq3])) | ((with_reducible refine gate_callee (f := 21) rfl ?_); refine goesL_ (some 8) rfl rfl Try.func21 (by kernel_rfl) rfl #[.agg #[.int .i64 a.f0, .int .i64 a.f1, .string a.f2, .slice Aa a.f3.length ca]] rfl (by (try simp only [sm1, sm2, sm3]); first | done | rfl) ?_; refine (spec_ValidPattern.calls ka a.f0 a.f1 a.f2 Aa ca a.f3 true _ (T.C _ a.f3 (Nat.le_refl _) (HTa.out.grow HB.out)) HTa.out.len HVA.out).mono ?_; rintro e wva ⟨rfl, hb⟩; refine ⟨_, rfl, ?_⟩; have n_ := fr3 HB BK2 BK3 BK4 hb; clear HB BK2 BK3 BK4; obtain ⟨HB, BK2, BK3, BK4⟩ := n_; clear hb; (try simp only [Act.put, sq1, sq2, sq3])) | ((with_reducible refine gate_callee (f := 21) rfl ?_); (with_reducible refine gate_dst (N := 12) rfl ?_); refine gate_guard (by rfl) ?_; dsimp only; refine goesL_ (some 12) rfl rfl Try.func21 (by kernel_rfl) rfl #[.agg #[.int .i64 b.f0, .int .i64 b.f1, .string b.f2, .slice Ab b.f3.length cb]] rfl (by (try simp only [sm1, sm2, sm3]); first | done | rfl) ?_; refine (spec_ValidPattern.calls kb b.f0 b.f1 b.f2 Ab cb b.f3 true _ (T.C _ b.f3 (Nat.le_refl _) (HTb.out.grow HB.out)) HTb.out.len HVB.out).mono ?_; rintro e wvb ⟨rfl, hb⟩; refine ⟨_, rfl, ?_⟩; have n_ := fr3 HB BK2 BK3 BK4 hb; clear HB BK2 BK3 BK4; obtain ⟨HB, BK2, BK3, BK4⟩ := n_; clear hb; (try simp only [Act.put, sq1, sq2, sq3])))
      have n_ := fr3 HB BK2 BK3 BK4 (below_drew1 (Below.refl _ _))
      clear HB BK2 BK3 BK4
      obtain ⟨HB, BK2, BK3, BK4⟩ := n_
      refine start_ (n := 8) (S := fun w' => w'.heap[g2]? = some (.cells #[.int .i64 a.f0, .int .i64 a.f1, .string a.f2, .slice Aa a.f3.length ca] 30 (0, 0)) ∧ w'.heap[g3]? = some (.cells #[.int .i64 b.f0, .int .i64 b.f1, .string b.f2, .slice Ab b.f3.length cb] 30 (0, 0))) (ds := []) #[false, false, false, false, false, false, false, false] (by kernel_rfl) rfl rfl ⟨BK2.out, BK3.out⟩ (fun hHeld => ?_)
      generalize _root_.Go.World.drew _ = wd at HB BK2 BK3 BK4 hHeld ⊢
      have L24 := Aside0.mk (blk_lt BK2.out)
      have L34 := Aside0.mk (blk_lt BK3.out)
      have L44 := Aside0.mk (blk_lt BK4.out)
      have LW := Aside0.mk HB.out.size
      obtain ⟨L0, hL0⟩ : ∃ L0, L0 = wd.heap.size := ⟨_, rfl⟩
      rw [← hL0] at L24 L34 L44 LW
      have LZ := Aside0.mk (Nat.le_of_eq hL0)
      clear hL0
      refine take_ (i := 0) (N := some 16) (v := .agg #[.int .i64 a.f0, .int .i64 a.f1, .string a.f2, .slice Aa a.f3.length ca]) (a' := ?_) #[true, false, false, false, false, false, false, false] rfl rfl (by kernel_rfl) (fun _ _ _ h => h) (Or.inl ⟨by rfl, fun w' s => Go.Proofs.Ytomakpfmghekfaa.RowLaw.load_run 30 _ rfl g2 rfl 30 _ _ s.1 huP rfl HIP.out⟩) hHeld ?_ ?_
      rotate_left; (simp only [Act.put, sq1, sq2, sq3, i64_w, i32_w]; rfl)
      refine take_ (i := 2) (N := some 18) (v := .agg #[.int .i64 b.f0, .int .i64 b.f1, .string b.f2, .slice Ab b.f3.length cb]) (a' := ?_) #[true, false, true, false, false, false, false, false] rfl rfl (by kernel_rfl) (fun _ _ _ h => h) (Or.inl ⟨by rfl, fun w' s => Go.Proofs.Ytomakpfmghekfaa.RowLaw.load_run 30 _ rfl g3 rfl 30 _ _ s.2 huP rfl HIP.out⟩) hHeld ?_ ?_
      rotate_left; (simp only [Act.put, sq1, sq2, sq3, i64_w, i32_w]; rfl)
      refine join_ (σ := Value × Value × Value × Option Addr × Nat × Nat) 1 #[true, true, true, true, true, true, true, false] (fun s => match s with | (u5, u6, u7, Ar, cr, g6) => [(17, u5), (19, u6), (20, u7), (21, .agg #[.int .i64 d.f0, .int .i64 d.f1, .string d.f2, .slice Ar d.f3.length cr]), (6, .pointer (some ⟨g6, 0, none⟩))]) (fun s w' => match s with | (u5, u6, u7, Ar, cr, g6) => Aside0 (Below w.heap.size w w') ∧ Aside0 (w'.heap[g2]? = some (.cells #[.int .i64 a.f0, .int .i64 a.f1, .string a.f2, .slice Aa a.f3.length ca] 30 (0, 0))) ∧ Aside0 (w'.heap[g3]? = some (.cells #[.int .i64 b.f0, .int .i64 b.f1, .string b.f2, .slice Ab b.f3.length cb] 30 (0, 0))) ∧ Aside0 (w'.heap[g4]? = some (.cells #[.int .i64 0, .int .i64 0, .string (⟨#[]⟩ : ByteArray), .slice none 0 0] 30 (0, 0))) ∧ Aside0 (w'.heap[g6]? = some (.cells #[.int .i64 0, .int .i64 0, .string (⟨#[]⟩ : ByteArray), .slice none 0 0] 30 (0, 0))) ∧ Aside0 (w.heap.size ≤ g6 ∧ L0 ≤ g6) ∧ Aside0 (Kd.R k30 30 w' w.heap.size (fun k => g4 < k ∧ k ≠ g6) (.slice Ar d.f3.length cr) d.f3)) ?_ (fun hJ => ?_)
      rotate_left
      ·refine two_ (i := 1) (j := 6) (Ni := some 17) (Nj := some 6) #[true, true, true, false, false, false, false, false] #[true, false, true, false, false, false, true, false] rfl rfl rfl rfl (by kernel_rfl) (by decide) (by decide) (fun K hK => ?_) (fun K hK => ?_)
       ·refine goes_ Try.func30 (by kernel_rfl) rfl #[.agg #[.int .i64 a.f0, .int .i64 a.f1, .string a.f2, .slice Aa a.f3.length ca]] (by rfl) rfl rfl (by (try simp only [sm1, sm2, sm3]); first | done | rfl) ?_
        with_reducible refine (simple_calls 2000000 2000000 a VA.out HCA.out HCA.out (.slice Aa a.f3.length ca) Ba _ ?side1 ?side2).mono ?_
        (case side1 => exact HTa.out.grow HB.out)
        (case side2 => exact fun k hk => Nat.lt_of_lt_of_le (HL.out k (.inl hk)) HB.out.size)
        rintro e wc ⟨v5, B5, rfl, hT, hB', hb⟩
        refine ⟨_, rfl, ?_⟩
        have m_ := hb.size
        have NU := Aside0.mk hT
        have NQ := Aside0.mk (fun k (hk : B5 k) => (⟨trivial, (hB' k hk).2⟩ : True ∧ k < wc.heap.size))
        have n_ := fr3 HB BK2 BK3 BK4 hb
        clear HB BK2 BK3 BK4
        obtain ⟨HB, BK2, BK3, BK4⟩ := n_
        have n_ := Aside0.mk (Nat.le_trans LZ.out (Below.size hb))
        clear LZ
        have LZ := n_
        clear n_
        have U5 := NU
        have Q5 := NQ
        clear NU NQ
        obtain ⟨A5, c5, e5, _⟩ := hT.inv
        subst e5
        clear hT hB' hb m_
        refine hK.out _ _ ⟨BK2.out, BK3.out⟩ (fun hHeld => ?_)
        clear hK K
        refine norm_ (a' := ?_) ?_ ?_
        rotate_left; (show Act.put _ (some 17) _ = _; simp only [Act.put, sq1, sq2, sq3, i64_w, i32_w]; rfl)
        refine two_ (i := 3) (j := 6) (Ni := some 19) (Nj := some 6) #[true, true, true, true, false, false, false, false] #[true, true, true, false, false, false, true, false] rfl rfl rfl rfl (by kernel_rfl) (by decide) (by decide) (fun K hK => ?_) (fun K hK => ?_)
        ·refine goes_ Try.func30 (by kernel_rfl) rfl #[.agg #[.int .i64 b.f0, .int .i64 b.f1, .string b.f2, .slice Ab b.f3.length cb]] (by rfl) rfl rfl (by (try simp only [sm1, sm2, sm3]); first | done | rfl) ?_
         with_reducible refine (simple_calls 2000000 2000000 b VB.out HCB.out HCB.out (.slice Ab b.f3.length cb) Bb _ ?side1 ?side2).mono ?_
         (case side1 => exact HTb.out.grow HB.out)
         (case side2 => exact fun k hk => Nat.lt_of_lt_of_le (HL.out k (.inr hk)) HB.out.size)
         rintro e wc ⟨v6, B6, rfl, hT, hB', hb⟩
         refine ⟨_, rfl, ?_⟩
         have m_ := hb.size
         have NU := Aside0.mk hT
         have NQ := Aside0.mk (fun k (hk : B6 k) => (⟨trivial, (hB' k hk).2⟩ : True ∧ k < wc.heap.size))
         have n_ := fr3 HB BK2 BK3 BK4 hb
         clear HB BK2 BK3 BK4
         obtain ⟨HB, BK2, BK3, BK4⟩ := n_
         have n_ := Aside0.mk (Nat.le_trans LZ.out (Below.size hb))
         clear LZ
         have LZ := n_
         clear n_
         have n_ := Aside0.mk (U5.out.grow hb)
         clear U5
         have U5 := n_
         clear n_
         have n_ := Aside0.mk (q_up Q5.out (Below.size hb))
         clear Q5
         have Q5 := n_
         clear n_
         have U6 := NU
         have Q6 := NQ
         clear NU NQ
         obtain ⟨A6, c6, e6, _⟩ := hT.inv
         subst e6
         clear hT hB' hb m_
         refine hK.out _ _ ⟨BK2.out, BK3.out⟩ (fun hHeld => ?_)
         clear hK K
         refine norm_ (a' := ?_) ?_ ?_
         rotate_left; (show Act.put _ (some 19) _ = _; simp only [Act.put, sq1, sq2, sq3, i64_w, i32_w]; rfl)
         refine two_ (i := 4) (j := 6) (Ni := some 20) (Nj := some 6) #[true, true, true, true, true, false, false, false] #[true, true, true, true, false, false, true, false] rfl rfl rfl rfl (by kernel_rfl) (by decide) (by decide) (fun K hK => ?_) (fun K hK => ?_)
         ·refine goes_ Try.func33 (by kernel_rfl) rfl #[.agg #[.int .i64 (simpS 2000000 2000000 a).f0, .int .i64 (simpS 2000000 2000000 a).f1, .string (simpS 2000000 2000000 a).f2, .slice A5 (simpS 2000000 2000000 a).f3.length c5], .agg #[.int .i64 (simpS 2000000 2000000 b).f0, .int .i64 (simpS 2000000 2000000 b).f1, .string (simpS 2000000 2000000 b).f2, .slice A6 (simpS 2000000 2000000 b).f3.length c6]] (by rfl) rfl rfl (by (try simp only [sm1, sm2, sm3]); first | done | rfl) ?_
          with_reducible refine (cat_spec False 2000000 (simpS 2000000 2000000 a) (simpS 2000000 2000000 b) (Nat.le_trans OA.out.2 HCA.out) OA.out.1 OB.out.1 (.slice A5 (simpS 2000000 2000000 a).f3.length c5) (.slice A6 (simpS 2000000 2000000 b).f3.length c6) B5 B6 _ ?side1 ?side2 ?side3 ?side4).mono ?_
          (case side1 => exact U5.out)
          (case side2 => exact U6.out)
          (case side3 => exact fun h => h.elim)
          (case side4 => exact fun k hk => hk.elim (fun h => (Q5.out k h).2) (fun h => (Q6.out k h).2))
          rw [← HD.out]; rintro e wc ⟨v7, B7, rfl, hT, hB', hb⟩
          refine ⟨_, rfl, ?_⟩
          have NU := Aside0.mk hT
          have NQ := Aside0.mk (fun k (hk : B7 k) => (⟨trivial, (hB' k hk).2⟩ : True ∧ k < wc.heap.size))
          have n_ := fr3 HB BK2 BK3 BK4 hb
          clear HB BK2 BK3 BK4
          obtain ⟨HB, BK2, BK3, BK4⟩ := n_
          have n_ := Aside0.mk (Nat.le_trans LZ.out (Below.size hb))
          clear LZ
          have LZ := n_
          clear n_
          clear U5 Q5 U6 Q6
          have U7 := NU
          have Q7 := NQ
          clear NU NQ
          obtain ⟨A7, c7, e7, _⟩ := hT.inv
          subst e7
          clear hT hB' hb
          refine hK.out _ _ ⟨BK2.out, BK3.out⟩ (fun hHeld => ?_)
          clear hK K
          refine norm_ (a' := ?_) ?_ ?_
          rotate_left; (show Act.put _ (some 20) _ = _; simp only [Act.put, sq1, sq2, sq3, i64_w, i32_w]; rfl)
          refine two_ (i := 5) (j := 6) (Ni := some 21) (Nj := some 6) #[true, true, true, true, true, true, false, false] #[true, true, true, true, true, false, true, false] rfl rfl rfl rfl (by kernel_rfl) (by decide) (by decide) (fun K hK => ?_) (fun K hK => ?_)
          ·refine goes_ Try.func29 (by kernel_rfl) rfl #[.agg #[.int .i64 d.f0, .int .i64 d.f1, .string d.f2, .slice A7 d.f3.length c7]] (by rfl) rfl rfl (by (try simp only [sm1, sm2, sm3]); first | done | rfl) ?_
           with_reducible refine (spec_l11Copy.calls kc d.f0 d.f1 d.f2 A7 c7 d.f3 d.f0 d.f1 d.f2 d.f3 _ ?side1 ?side2 ?side3).mono ?_
           (case side1 => exact T.C _ d.f3 (Nat.le_refl _) U7.out)
           (case side2 => exact U7.out.len)
           (case side3 => exact HKC.out)
           rintro e wc ⟨v9, rfl, ho, hb⟩
           refine ⟨_, rfl, ?_⟩
           obtain ⟨A9, c9, e9⟩ := Kd.R_slice ho
           subst e9
           have NR := Aside0.mk (show Kd.R k30 30 wc w.heap.size (fun k => g4 < k ∧ k < wc.heap.size) (.slice A9 d.f3.length c9) d.f3 from Kd.R_lower (Kd.R_mono (Kd.R_bound ho) (fun k hk => ⟨Nat.lt_of_lt_of_le (Nat.lt_of_lt_of_le L44.out LZ.out) hk.2.1, hk.2.2.1⟩)) HB.out.size)
           have n_ := fr3 HB BK2 BK3 BK4 hb
           clear HB BK2 BK3 BK4
           obtain ⟨HB, BK2, BK3, BK4⟩ := n_
           have n_ := Aside0.mk (Nat.le_trans LZ.out (Below.size hb))
           clear LZ
           have LZ := n_
           clear n_
           clear U7 Q7
           have RO := NR
           clear NR ho hb
           refine hK.out _ _ ⟨BK2.out, BK3.out⟩ (fun hHeld => ?_)
           clear hK K
           refine norm_ (a' := ?_) ?_ ?_
           rotate_left; (show Act.put _ (some 21) _ = _; simp only [Act.put, sq1, sq2, sq3, i64_w, i32_w]; rfl)
           refine one_ (i := 6) (N := some 6) #[true, true, true, true, true, true, true, false] rfl rfl (by kernel_rfl) (by decide) (fun K hK => ?_)
           refine new_step 30 [.int .i64 0, .int .i64 0, .string (⟨#[]⟩ : ByteArray), .slice none 0 0] (fun m => .pointer (some ⟨m, 0, none⟩)) rfl rfl ?hr ?_
           (case hr => first | (go_simp; done) | (go_simp; rfl))
           intro wn g6 hm hn hb
           have BN := Aside0.mk hn
           have GE6 := Aside0.mk (show w.heap.size ≤ g6 ∧ L0 ≤ g6 from by have := HB.out.size; have := LZ.out; omega)
           have NR := Aside0.mk (Kd.R_mono (ok' := fun k => g4 < k ∧ k ≠ g6) RO.out (fun k hk => ⟨hk.1, fun he => absurd hk.2 (by omega)⟩))
           clear RO
           have RO := NR
           clear NR
           have n_ := fr3 HB BK2 BK3 BK4 hb
           clear HB BK2 BK3 BK4
           obtain ⟨HB, BK2, BK3, BK4⟩ := n_
           have n_ := Aside0.mk (Nat.le_trans LZ.out (Below.size hb))
           clear LZ
           have LZ := n_
           clear n_
           have n_ := Aside0.mk (Kd.R_below RO.out hb)
           clear RO
           have RO := n_
           clear n_
           have BK6 := BN
           clear BN
           clear hm hn hb
           refine hK.out _ _ ⟨BK2.out, BK3.out⟩ (fun hHeld => ?_)
           clear hK K
           refine norm_ (a' := ?_) ?_ ?_
           rotate_left; (show Act.put _ (some 6) _ = _; simp only [Act.put, sq1, sq2, sq3, i64_w, i32_w]; rfl)
           have hq := hJ (.agg #[.int .i64 (simpS 2000000 2000000 a).f0, .int .i64 (simpS 2000000 2000000 a).f1, .string (simpS 2000000 2000000 a).f2, .slice A5 (simpS 2000000 2000000 a).f3.length c5], .agg #[.int .i64 (simpS 2000000 2000000 b).f0, .int .i64 (simpS 2000000 2000000 b).f1, .string (simpS 2000000 2000000 b).f2, .slice A6 (simpS 2000000 2000000 b).f3.length c6], .agg #[.int .i64 d.f0, .int .i64 d.f1, .string d.f2, .slice A7 d.f3.length c7], A9, c9, g6) _ ⟨HB, BK2, BK3, BK4, BK6, GE6, RO⟩
           simp only [putAll, Act.put, sq1, sq2, sq3, i64_w, i32_w] at hq
           exact hq
          ·refine new_step 30 [.int .i64 0, .int .i64 0, .string (⟨#[]⟩ : ByteArray), .slice none 0 0] (fun m => .pointer (some ⟨m, 0, none⟩)) rfl rfl ?hr ?_
           (case hr => first | (go_simp; done) | (go_simp; rfl))
           intro wn g6 hm hn hb
           have BN := Aside0.mk hn
           have GE6 := Aside0.mk (show w.heap.size ≤ g6 ∧ L0 ≤ g6 from by have := HB.out.size; have := LZ.out; omega)
           have n_ := fr3 HB BK2 BK3 BK4 hb
           clear HB BK2 BK3 BK4
           obtain ⟨HB, BK2, BK3, BK4⟩ := n_
           have n_ := Aside0.mk (Nat.le_trans LZ.out (Below.size hb))
           clear LZ
           have LZ := n_
           clear n_
           have n_ := Aside0.mk (U7.out.grow hb)
           clear U7
           have U7 := n_
           clear n_
           have n_ := Aside0.mk (q_up Q7.out (Below.size hb))
           clear Q7
           have Q7 := n_
           clear n_
           have BK6 := BN
           clear BN
           clear hm hn hb
           refine hK.out _ _ ⟨BK2.out, BK3.out⟩ (fun hHeld => ?_)
           clear hK K
           refine norm_ (a' := ?_) ?_ ?_
           rotate_left; (show Act.put _ (some 6) _ = _; simp only [Act.put, sq1, sq2, sq3, i64_w, i32_w]; rfl)
           refine one_ (i := 5) (N := some 21) #[true, true, true, true, true, true, true, false] rfl rfl (by kernel_rfl) (by decide) (fun K hK => ?_)
           refine goes_ Try.func29 (by kernel_rfl) rfl #[.agg #[.int .i64 d.f0, .int .i64 d.f1, .string d.f2, .slice A7 d.f3.length c7]] (by rfl) rfl rfl (by (try simp only [sm1, sm2, sm3]); first | done | rfl) ?_
           with_reducible refine (spec_l11Copy.calls kc d.f0 d.f1 d.f2 A7 c7 d.f3 d.f0 d.f1 d.f2 d.f3 _ ?side1 ?side2 ?side3).mono ?_
           (case side1 => exact T.C _ d.f3 (Nat.le_refl _) U7.out)
           (case side2 => exact U7.out.len)
           (case side3 => exact HKC.out)
           rintro e wc ⟨v9, rfl, ho, hb⟩
           refine ⟨_, rfl, ?_⟩
           obtain ⟨A9, c9, e9⟩ := Kd.R_slice ho
           subst e9
           have NR := Aside0.mk (show Kd.R k30 30 wc w.heap.size (fun k => g4 < k ∧ k ≠ g6) (.slice A9 d.f3.length c9) d.f3 from Kd.R_lower (Kd.R_mono (Kd.R_bound ho) (fun k hk => ⟨Nat.lt_of_lt_of_le (Nat.lt_of_lt_of_le L44.out LZ.out) hk.2.1, fun he => absurd (blk_lt BK6.out) (by have := hk.2.1; omega)⟩)) HB.out.size)
           have n_ := fr3 HB BK2 BK3 BK4 hb
           clear HB BK2 BK3 BK4
           obtain ⟨HB, BK2, BK3, BK4⟩ := n_
           have n_ := Aside0.mk (Nat.le_trans LZ.out (Below.size hb))
           clear LZ
           have LZ := n_
           clear n_
           have n_ := Aside0.mk (blk_below BK6.out hb)
           clear BK6
           have BK6 := n_
           clear n_
           clear U7 Q7
           have RO := NR
           clear NR ho hb
           refine hK.out _ _ ⟨BK2.out, BK3.out⟩ (fun hHeld => ?_)
           clear hK K
           refine norm_ (a' := ?_) ?_ ?_
           rotate_left; (show Act.put _ (some 21) _ = _; simp only [Act.put, sq1, sq2, sq3, i64_w, i32_w]; rfl)
           have hq := hJ (.agg #[.int .i64 (simpS 2000000 2000000 a).f0, .int .i64 (simpS 2000000 2000000 a).f1, .string (simpS 2000000 2000000 a).f2, .slice A5 (simpS 2000000 2000000 a).f3.length c5], .agg #[.int .i64 (simpS 2000000 2000000 b).f0, .int .i64 (simpS 2000000 2000000 b).f1, .string (simpS 2000000 2000000 b).f2, .slice A6 (simpS 2000000 2000000 b).f3.length c6], .agg #[.int .i64 d.f0, .int .i64 d.f1, .string d.f2, .slice A7 d.f3.length c7], A9, c9, g6) _ ⟨HB, BK2, BK3, BK4, BK6, GE6, RO⟩
           simp only [putAll, Act.put, sq1, sq2, sq3, i64_w, i32_w] at hq
           exact hq
         ·refine new_step 30 [.int .i64 0, .int .i64 0, .string (⟨#[]⟩ : ByteArray), .slice none 0 0] (fun m => .pointer (some ⟨m, 0, none⟩)) rfl rfl ?hr ?_
          (case hr => first | (go_simp; done) | (go_simp; rfl))
          intro wn g6 hm hn hb
          have BN := Aside0.mk hn
          have GE6 := Aside0.mk (show w.heap.size ≤ g6 ∧ L0 ≤ g6 from by have := HB.out.size; have := LZ.out; omega)
          have n_ := fr3 HB BK2 BK3 BK4 hb
          clear HB BK2 BK3 BK4
          obtain ⟨HB, BK2, BK3, BK4⟩ := n_
          have n_ := Aside0.mk (Nat.le_trans LZ.out (Below.size hb))
          clear LZ
          have LZ := n_
          clear n_
          have n_ := Aside0.mk (U5.out.grow hb)
          clear U5
          have U5 := n_
          clear n_
          have n_ := Aside0.mk (q_up Q5.out (Below.size hb))
          clear Q5
          have Q5 := n_
          clear n_
          have n_ := Aside0.mk (U6.out.grow hb)
          clear U6
          have U6 := n_
          clear n_
          have n_ := Aside0.mk (q_up Q6.out (Below.size hb))
          clear Q6
          have Q6 := n_
          clear n_
          have BK6 := BN
          clear BN
          clear hm hn hb
          refine hK.out _ _ ⟨BK2.out, BK3.out⟩ (fun hHeld => ?_)
          clear hK K
          refine norm_ (a' := ?_) ?_ ?_
          rotate_left; (show Act.put _ (some 6) _ = _; simp only [Act.put, sq1, sq2, sq3, i64_w, i32_w]; rfl)
          refine one_ (i := 4) (N := some 20) #[true, true, true, true, true, false, true, false] rfl rfl (by kernel_rfl) (by decide) (fun K hK => ?_)
          refine goes_ Try.func33 (by kernel_rfl) rfl #[.agg #[.int .i64 (simpS 2000000 2000000 a).f0, .int .i64 (simpS 2000000 2000000 a).f1, .string (simpS 2000000 2000000 a).f2, .slice A5 (simpS 2000000 2000000 a).f3.length c5], .agg #[.int .i64 (simpS 2000000 2000000 b).f0, .int .i64 (simpS 2000000 2000000 b).f1, .string (simpS 2000000 2000000 b).f2, .slice A6 (simpS 2000000 2000000 b).f3.length c6]] (by rfl) rfl rfl (by (try simp only [sm1, sm2, sm3]); first | done | rfl) ?_
          with_reducible refine (cat_spec False 2000000 (simpS 2000000 2000000 a) (simpS 2000000 2000000 b) (Nat.le_trans OA.out.2 HCA.out) OA.out.1 OB.out.1 (.slice A5 (simpS 2000000 2000000 a).f3.length c5) (.slice A6 (simpS 2000000 2000000 b).f3.length c6) B5 B6 _ ?side1 ?side2 ?side3 ?side4).mono ?_
          (case side1 => exact U5.out)
          (case side2 => exact U6.out)
          (case side3 => exact fun h => h.elim)
          (case side4 => exact fun k hk => hk.elim (fun h => (Q5.out k h).2) (fun h => (Q6.out k h).2))
          rw [← HD.out]; rintro e wc ⟨v7, B7, rfl, hT, hB', hb⟩
          refine ⟨_, rfl, ?_⟩
          have NU := Aside0.mk hT
          have NQ := Aside0.mk (fun k (hk : B7 k) => (⟨trivial, (hB' k hk).2⟩ : True ∧ k < wc.heap.size))
          have n_ := fr3 HB BK2 BK3 BK4 hb
          clear HB BK2 BK3 BK4
          obtain ⟨HB, BK2, BK3, BK4⟩ := n_
          have n_ := Aside0.mk (Nat.le_trans LZ.out (Below.size hb))
          clear LZ
          have LZ := n_
          clear n_
          have n_ := Aside0.mk (blk_below BK6.out hb)
          clear BK6
          have BK6 := n_
          clear n_
          clear U5 Q5 U6 Q6
          have U7 := NU
          have Q7 := NQ
          clear NU NQ
          obtain ⟨A7, c7, e7, _⟩ := hT.inv
          subst e7
          clear hT hB' hb
          refine hK.out _ _ ⟨BK2.out, BK3.out⟩ (fun hHeld => ?_)
          clear hK K
          refine norm_ (a' := ?_) ?_ ?_
          rotate_left; (show Act.put _ (some 20) _ = _; simp only [Act.put, sq1, sq2, sq3, i64_w, i32_w]; rfl)
          refine one_ (i := 5) (N := some 21) #[true, true, true, true, true, true, true, false] rfl rfl (by kernel_rfl) (by decide) (fun K hK => ?_)
          refine goes_ Try.func29 (by kernel_rfl) rfl #[.agg #[.int .i64 d.f0, .int .i64 d.f1, .string d.f2, .slice A7 d.f3.length c7]] (by rfl) rfl rfl (by (try simp only [sm1, sm2, sm3]); first | done | rfl) ?_
          with_reducible refine (spec_l11Copy.calls kc d.f0 d.f1 d.f2 A7 c7 d.f3 d.f0 d.f1 d.f2 d.f3 _ ?side1 ?side2 ?side3).mono ?_
          (case side1 => exact T.C _ d.f3 (Nat.le_refl _) U7.out)
          (case side2 => exact U7.out.len)
          (case side3 => exact HKC.out)
          rintro e wc ⟨v9, rfl, ho, hb⟩
          refine ⟨_, rfl, ?_⟩
          obtain ⟨A9, c9, e9⟩ := Kd.R_slice ho
          subst e9
          have NR := Aside0.mk (show Kd.R k30 30 wc w.heap.size (fun k => g4 < k ∧ k ≠ g6) (.slice A9 d.f3.length c9) d.f3 from Kd.R_lower (Kd.R_mono (Kd.R_bound ho) (fun k hk => ⟨Nat.lt_of_lt_of_le (Nat.lt_of_lt_of_le L44.out LZ.out) hk.2.1, fun he => absurd (blk_lt BK6.out) (by have := hk.2.1; omega)⟩)) HB.out.size)
          have n_ := fr3 HB BK2 BK3 BK4 hb
          clear HB BK2 BK3 BK4
          obtain ⟨HB, BK2, BK3, BK4⟩ := n_
          have n_ := Aside0.mk (Nat.le_trans LZ.out (Below.size hb))
          clear LZ
          have LZ := n_
          clear n_
          have n_ := Aside0.mk (blk_below BK6.out hb)
          clear BK6
          have BK6 := n_
          clear n_
          clear U7 Q7
          have RO := NR
          clear NR ho hb
          refine hK.out _ _ ⟨BK2.out, BK3.out⟩ (fun hHeld => ?_)
          clear hK K
          refine norm_ (a' := ?_) ?_ ?_
          rotate_left; (show Act.put _ (some 21) _ = _; simp only [Act.put, sq1, sq2, sq3, i64_w, i32_w]; rfl)
          have hq := hJ (.agg #[.int .i64 (simpS 2000000 2000000 a).f0, .int .i64 (simpS 2000000 2000000 a).f1, .string (simpS 2000000 2000000 a).f2, .slice A5 (simpS 2000000 2000000 a).f3.length c5], .agg #[.int .i64 (simpS 2000000 2000000 b).f0, .int .i64 (simpS 2000000 2000000 b).f1, .string (simpS 2000000 2000000 b).f2, .slice A6 (simpS 2000000 2000000 b).f3.length c6], .agg #[.int .i64 d.f0, .int .i64 d.f1, .string d.f2, .slice A7 d.f3.length c7], A9, c9, g6) _ ⟨HB, BK2, BK3, BK4, BK6, GE6, RO⟩
          simp only [putAll, Act.put, sq1, sq2, sq3, i64_w, i32_w] at hq
          exact hq
        ·refine new_step 30 [.int .i64 0, .int .i64 0, .string (⟨#[]⟩ : ByteArray), .slice none 0 0] (fun m => .pointer (some ⟨m, 0, none⟩)) rfl rfl ?hr ?_
         (case hr => first | (go_simp; done) | (go_simp; rfl))
         intro wn g6 hm hn hb
         have BN := Aside0.mk hn
         have GE6 := Aside0.mk (show w.heap.size ≤ g6 ∧ L0 ≤ g6 from by have := HB.out.size; have := LZ.out; omega)
         have n_ := fr3 HB BK2 BK3 BK4 hb
         clear HB BK2 BK3 BK4
         obtain ⟨HB, BK2, BK3, BK4⟩ := n_
         have n_ := Aside0.mk (Nat.le_trans LZ.out (Below.size hb))
         clear LZ
         have LZ := n_
         clear n_
         have n_ := Aside0.mk (U5.out.grow hb)
         clear U5
         have U5 := n_
         clear n_
         have n_ := Aside0.mk (q_up Q5.out (Below.size hb))
         clear Q5
         have Q5 := n_
         clear n_
         have BK6 := BN
         clear BN
         clear hm hn hb
         refine hK.out _ _ ⟨BK2.out, BK3.out⟩ (fun hHeld => ?_)
         clear hK K
         refine norm_ (a' := ?_) ?_ ?_
         rotate_left; (show Act.put _ (some 6) _ = _; simp only [Act.put, sq1, sq2, sq3, i64_w, i32_w]; rfl)
         refine one_ (i := 3) (N := some 19) #[true, true, true, true, false, false, true, false] rfl rfl (by kernel_rfl) (by decide) (fun K hK => ?_)
         refine goes_ Try.func30 (by kernel_rfl) rfl #[.agg #[.int .i64 b.f0, .int .i64 b.f1, .string b.f2, .slice Ab b.f3.length cb]] (by rfl) rfl rfl (by (try simp only [sm1, sm2, sm3]); first | done | rfl) ?_
         with_reducible refine (simple_calls 2000000 2000000 b VB.out HCB.out HCB.out (.slice Ab b.f3.length cb) Bb _ ?side1 ?side2).mono ?_
         (case side1 => exact HTb.out.grow HB.out)
         (case side2 => exact fun k hk => Nat.lt_of_lt_of_le (HL.out k (.inr hk)) HB.out.size)
         rintro e wc ⟨v6, B6, rfl, hT, hB', hb⟩
         refine ⟨_, rfl, ?_⟩
         have m_ := hb.size
         have NU := Aside0.mk hT
         have NQ := Aside0.mk (fun k (hk : B6 k) => (⟨trivial, (hB' k hk).2⟩ : True ∧ k < wc.heap.size))
         have n_ := fr3 HB BK2 BK3 BK4 hb
         clear HB BK2 BK3 BK4
         obtain ⟨HB, BK2, BK3, BK4⟩ := n_
         have n_ := Aside0.mk (Nat.le_trans LZ.out (Below.size hb))
         clear LZ
         have LZ := n_
         clear n_
         have n_ := Aside0.mk (blk_below BK6.out hb)
         clear BK6
         have BK6 := n_
         clear n_
         have n_ := Aside0.mk (U5.out.grow hb)
         clear U5
         have U5 := n_
         clear n_
         have n_ := Aside0.mk (q_up Q5.out (Below.size hb))
         clear Q5
         have Q5 := n_
         clear n_
         have U6 := NU
         have Q6 := NQ
         clear NU NQ
         obtain ⟨A6, c6, e6, _⟩ := hT.inv
         subst e6
         clear hT hB' hb m_
         refine hK.out _ _ ⟨BK2.out, BK3.out⟩ (fun hHeld => ?_)
         clear hK K
         refine norm_ (a' := ?_) ?_ ?_
         rotate_left; (show Act.put _ (some 19) _ = _; simp only [Act.put, sq1, sq2, sq3, i64_w, i32_w]; rfl)
         refine one_ (i := 4) (N := some 20) #[true, true, true, true, true, false, true, false] rfl rfl (by kernel_rfl) (by decide) (fun K hK => ?_)
         refine goes_ Try.func33 (by kernel_rfl) rfl #[.agg #[.int .i64 (simpS 2000000 2000000 a).f0, .int .i64 (simpS 2000000 2000000 a).f1, .string (simpS 2000000 2000000 a).f2, .slice A5 (simpS 2000000 2000000 a).f3.length c5], .agg #[.int .i64 (simpS 2000000 2000000 b).f0, .int .i64 (simpS 2000000 2000000 b).f1, .string (simpS 2000000 2000000 b).f2, .slice A6 (simpS 2000000 2000000 b).f3.length c6]] (by rfl) rfl rfl (by (try simp only [sm1, sm2, sm3]); first | done | rfl) ?_
         with_reducible refine (cat_spec False 2000000 (simpS 2000000 2000000 a) (simpS 2000000 2000000 b) (Nat.le_trans OA.out.2 HCA.out) OA.out.1 OB.out.1 (.slice A5 (simpS 2000000 2000000 a).f3.length c5) (.slice A6 (simpS 2000000 2000000 b).f3.length c6) B5 B6 _ ?side1 ?side2 ?side3 ?side4).mono ?_
         (case side1 => exact U5.out)
         (case side2 => exact U6.out)
         (case side3 => exact fun h => h.elim)
         (case side4 => exact fun k hk => hk.elim (fun h => (Q5.out k h).2) (fun h => (Q6.out k h).2))
         rw [← HD.out]; rintro e wc ⟨v7, B7, rfl, hT, hB', hb⟩
         refine ⟨_, rfl, ?_⟩
         have NU := Aside0.mk hT
         have NQ := Aside0.mk (fun k (hk : B7 k) => (⟨trivial, (hB' k hk).2⟩ : True ∧ k < wc.heap.size))
         have n_ := fr3 HB BK2 BK3 BK4 hb
         clear HB BK2 BK3 BK4
         obtain ⟨HB, BK2, BK3, BK4⟩ := n_
         have n_ := Aside0.mk (Nat.le_trans LZ.out (Below.size hb))
         clear LZ
         have LZ := n_
         clear n_
         have n_ := Aside0.mk (blk_below BK6.out hb)
         clear BK6
         have BK6 := n_
         clear n_
         clear U5 Q5 U6 Q6
         have U7 := NU
         have Q7 := NQ
         clear NU NQ
         obtain ⟨A7, c7, e7, _⟩ := hT.inv
         subst e7
         clear hT hB' hb
         refine hK.out _ _ ⟨BK2.out, BK3.out⟩ (fun hHeld => ?_)
         clear hK K
         refine norm_ (a' := ?_) ?_ ?_
         rotate_left; (show Act.put _ (some 20) _ = _; simp only [Act.put, sq1, sq2, sq3, i64_w, i32_w]; rfl)
         refine one_ (i := 5) (N := some 21) #[true, true, true, true, true, true, true, false] rfl rfl (by kernel_rfl) (by decide) (fun K hK => ?_)
         refine goes_ Try.func29 (by kernel_rfl) rfl #[.agg #[.int .i64 d.f0, .int .i64 d.f1, .string d.f2, .slice A7 d.f3.length c7]] (by rfl) rfl rfl (by (try simp only [sm1, sm2, sm3]); first | done | rfl) ?_
         with_reducible refine (spec_l11Copy.calls kc d.f0 d.f1 d.f2 A7 c7 d.f3 d.f0 d.f1 d.f2 d.f3 _ ?side1 ?side2 ?side3).mono ?_
         (case side1 => exact T.C _ d.f3 (Nat.le_refl _) U7.out)
         (case side2 => exact U7.out.len)
         (case side3 => exact HKC.out)
         rintro e wc ⟨v9, rfl, ho, hb⟩
         refine ⟨_, rfl, ?_⟩
         obtain ⟨A9, c9, e9⟩ := Kd.R_slice ho
         subst e9
         have NR := Aside0.mk (show Kd.R k30 30 wc w.heap.size (fun k => g4 < k ∧ k ≠ g6) (.slice A9 d.f3.length c9) d.f3 from Kd.R_lower (Kd.R_mono (Kd.R_bound ho) (fun k hk => ⟨Nat.lt_of_lt_of_le (Nat.lt_of_lt_of_le L44.out LZ.out) hk.2.1, fun he => absurd (blk_lt BK6.out) (by have := hk.2.1; omega)⟩)) HB.out.size)
         have n_ := fr3 HB BK2 BK3 BK4 hb
         clear HB BK2 BK3 BK4
         obtain ⟨HB, BK2, BK3, BK4⟩ := n_
         have n_ := Aside0.mk (Nat.le_trans LZ.out (Below.size hb))
         clear LZ
         have LZ := n_
         clear n_
         have n_ := Aside0.mk (blk_below BK6.out hb)
         clear BK6
         have BK6 := n_
         clear n_
         clear U7 Q7
         have RO := NR
         clear NR ho hb
         refine hK.out _ _ ⟨BK2.out, BK3.out⟩ (fun hHeld => ?_)
         clear hK K
         refine norm_ (a' := ?_) ?_ ?_
         rotate_left; (show Act.put _ (some 21) _ = _; simp only [Act.put, sq1, sq2, sq3, i64_w, i32_w]; rfl)
         have hq := hJ (.agg #[.int .i64 (simpS 2000000 2000000 a).f0, .int .i64 (simpS 2000000 2000000 a).f1, .string (simpS 2000000 2000000 a).f2, .slice A5 (simpS 2000000 2000000 a).f3.length c5], .agg #[.int .i64 (simpS 2000000 2000000 b).f0, .int .i64 (simpS 2000000 2000000 b).f1, .string (simpS 2000000 2000000 b).f2, .slice A6 (simpS 2000000 2000000 b).f3.length c6], .agg #[.int .i64 d.f0, .int .i64 d.f1, .string d.f2, .slice A7 d.f3.length c7], A9, c9, g6) _ ⟨HB, BK2, BK3, BK4, BK6, GE6, RO⟩
         simp only [putAll, Act.put, sq1, sq2, sq3, i64_w, i32_w] at hq
         exact hq
       ·refine new_step 30 [.int .i64 0, .int .i64 0, .string (⟨#[]⟩ : ByteArray), .slice none 0 0] (fun m => .pointer (some ⟨m, 0, none⟩)) rfl rfl ?hr ?_
        (case hr => first | (go_simp; done) | (go_simp; rfl))
        intro wn g6 hm hn hb
        have BN := Aside0.mk hn
        have GE6 := Aside0.mk (show w.heap.size ≤ g6 ∧ L0 ≤ g6 from by have := HB.out.size; have := LZ.out; omega)
        have n_ := fr3 HB BK2 BK3 BK4 hb
        clear HB BK2 BK3 BK4
        obtain ⟨HB, BK2, BK3, BK4⟩ := n_
        have n_ := Aside0.mk (Nat.le_trans LZ.out (Below.size hb))
        clear LZ
        have LZ := n_
        clear n_
        have BK6 := BN
        clear BN
        clear hm hn hb
        refine hK.out _ _ ⟨BK2.out, BK3.out⟩ (fun hHeld => ?_)
        clear hK K
        refine norm_ (a' := ?_) ?_ ?_
        rotate_left; (show Act.put _ (some 6) _ = _; simp only [Act.put, sq1, sq2, sq3, i64_w, i32_w]; rfl)
        refine one_ (i := 1) (N := some 17) #[true, true, true, false, false, false, true, false] rfl rfl (by kernel_rfl) (by decide) (fun K hK => ?_)
        refine goes_ Try.func30 (by kernel_rfl) rfl #[.agg #[.int .i64 a.f0, .int .i64 a.f1, .string a.f2, .slice Aa a.f3.length ca]] (by rfl) rfl rfl (by (try simp only [sm1, sm2, sm3]); first | done | rfl) ?_
        with_reducible refine (simple_calls 2000000 2000000 a VA.out HCA.out HCA.out (.slice Aa a.f3.length ca) Ba _ ?side1 ?side2).mono ?_
        (case side1 => exact HTa.out.grow HB.out)
        (case side2 => exact fun k hk => Nat.lt_of_lt_of_le (HL.out k (.inl hk)) HB.out.size)
        rintro e wc ⟨v5, B5, rfl, hT, hB', hb⟩
        refine ⟨_, rfl, ?_⟩
        have m_ := hb.size
        have NU := Aside0.mk hT
        have NQ := Aside0.mk (fun k (hk : B5 k) => (⟨trivial, (hB' k hk).2⟩ : True ∧ k < wc.heap.size))
        have n_ := fr3 HB BK2 BK3 BK4 hb
        clear HB BK2 BK3 BK4
        obtain ⟨HB, BK2, BK3, BK4⟩ := n_
        have n_ := Aside0.mk (Nat.le_trans LZ.out (Below.size hb))
        clear LZ
        have LZ := n_
        clear n_
        have n_ := Aside0.mk (blk_below BK6.out hb)
        clear BK6
        have BK6 := n_
        clear n_
        have U5 := NU
        have Q5 := NQ
        clear NU NQ
        obtain ⟨A5, c5, e5, _⟩ := hT.inv
        subst e5
        clear hT hB' hb m_
        refine hK.out _ _ ⟨BK2.out, BK3.out⟩ (fun hHeld => ?_)
        clear hK K
        refine norm_ (a' := ?_) ?_ ?_
        rotate_left; (show Act.put _ (some 17) _ = _; simp only [Act.put, sq1, sq2, sq3, i64_w, i32_w]; rfl)
        refine one_ (i := 3) (N := some 19) #[true, true, true, true, false, false, true, false] rfl rfl (by kernel_rfl) (by decide) (fun K hK => ?_)
        refine goes_ Try.func30 (by kernel_rfl) rfl #[.agg #[.int .i64 b.f0, .int .i64 b.f1, .string b.f2, .slice Ab b.f3.length cb]] (by rfl) rfl rfl (by (try simp only [sm1, sm2, sm3]); first | done | rfl) ?_
        with_reducible refine (simple_calls 2000000 2000000 b VB.out HCB.out HCB.out (.slice Ab b.f3.length cb) Bb _ ?side1 ?side2).mono ?_
        (case side1 => exact HTb.out.grow HB.out)
        (case side2 => exact fun k hk => Nat.lt_of_lt_of_le (HL.out k (.inr hk)) HB.out.size)
        rintro e wc ⟨v6, B6, rfl, hT, hB', hb⟩
        refine ⟨_, rfl, ?_⟩
        have m_ := hb.size
        have NU := Aside0.mk hT
        have NQ := Aside0.mk (fun k (hk : B6 k) => (⟨trivial, (hB' k hk).2⟩ : True ∧ k < wc.heap.size))
        have n_ := fr3 HB BK2 BK3 BK4 hb
        clear HB BK2 BK3 BK4
        obtain ⟨HB, BK2, BK3, BK4⟩ := n_
        have n_ := Aside0.mk (Nat.le_trans LZ.out (Below.size hb))
        clear LZ
        have LZ := n_
        clear n_
        have n_ := Aside0.mk (blk_below BK6.out hb)
        clear BK6
        have BK6 := n_
        clear n_
        have n_ := Aside0.mk (U5.out.grow hb)
        clear U5
        have U5 := n_
        clear n_
        have n_ := Aside0.mk (q_up Q5.out (Below.size hb))
        clear Q5
        have Q5 := n_
        clear n_
        have U6 := NU
        have Q6 := NQ
        clear NU NQ
        obtain ⟨A6, c6, e6, _⟩ := hT.inv
        subst e6
        clear hT hB' hb m_
        refine hK.out _ _ ⟨BK2.out, BK3.out⟩ (fun hHeld => ?_)
        clear hK K
        refine norm_ (a' := ?_) ?_ ?_
        rotate_left; (show Act.put _ (some 19) _ = _; simp only [Act.put, sq1, sq2, sq3, i64_w, i32_w]; rfl)
        refine one_ (i := 4) (N := some 20) #[true, true, true, true, true, false, true, false] rfl rfl (by kernel_rfl) (by decide) (fun K hK => ?_)
        refine goes_ Try.func33 (by kernel_rfl) rfl #[.agg #[.int .i64 (simpS 2000000 2000000 a).f0, .int .i64 (simpS 2000000 2000000 a).f1, .string (simpS 2000000 2000000 a).f2, .slice A5 (simpS 2000000 2000000 a).f3.length c5], .agg #[.int .i64 (simpS 2000000 2000000 b).f0, .int .i64 (simpS 2000000 2000000 b).f1, .string (simpS 2000000 2000000 b).f2, .slice A6 (simpS 2000000 2000000 b).f3.length c6]] (by rfl) rfl rfl (by (try simp only [sm1, sm2, sm3]); first | done | rfl) ?_
        with_reducible refine (cat_spec False 2000000 (simpS 2000000 2000000 a) (simpS 2000000 2000000 b) (Nat.le_trans OA.out.2 HCA.out) OA.out.1 OB.out.1 (.slice A5 (simpS 2000000 2000000 a).f3.length c5) (.slice A6 (simpS 2000000 2000000 b).f3.length c6) B5 B6 _ ?side1 ?side2 ?side3 ?side4).mono ?_
        (case side1 => exact U5.out)
        (case side2 => exact U6.out)
        (case side3 => exact fun h => h.elim)
        (case side4 => exact fun k hk => hk.elim (fun h => (Q5.out k h).2) (fun h => (Q6.out k h).2))
        rw [← HD.out]; rintro e wc ⟨v7, B7, rfl, hT, hB', hb⟩
        refine ⟨_, rfl, ?_⟩
        have NU := Aside0.mk hT
        have NQ := Aside0.mk (fun k (hk : B7 k) => (⟨trivial, (hB' k hk).2⟩ : True ∧ k < wc.heap.size))
        have n_ := fr3 HB BK2 BK3 BK4 hb
        clear HB BK2 BK3 BK4
        obtain ⟨HB, BK2, BK3, BK4⟩ := n_
        have n_ := Aside0.mk (Nat.le_trans LZ.out (Below.size hb))
        clear LZ
        have LZ := n_
        clear n_
        have n_ := Aside0.mk (blk_below BK6.out hb)
        clear BK6
        have BK6 := n_
        clear n_
        clear U5 Q5 U6 Q6
        have U7 := NU
        have Q7 := NQ
        clear NU NQ
        obtain ⟨A7, c7, e7, _⟩ := hT.inv
        subst e7
        clear hT hB' hb
        refine hK.out _ _ ⟨BK2.out, BK3.out⟩ (fun hHeld => ?_)
        clear hK K
        refine norm_ (a' := ?_) ?_ ?_
        rotate_left; (show Act.put _ (some 20) _ = _; simp only [Act.put, sq1, sq2, sq3, i64_w, i32_w]; rfl)
        refine one_ (i := 5) (N := some 21) #[true, true, true, true, true, true, true, false] rfl rfl (by kernel_rfl) (by decide) (fun K hK => ?_)
        refine goes_ Try.func29 (by kernel_rfl) rfl #[.agg #[.int .i64 d.f0, .int .i64 d.f1, .string d.f2, .slice A7 d.f3.length c7]] (by rfl) rfl rfl (by (try simp only [sm1, sm2, sm3]); first | done | rfl) ?_
        with_reducible refine (spec_l11Copy.calls kc d.f0 d.f1 d.f2 A7 c7 d.f3 d.f0 d.f1 d.f2 d.f3 _ ?side1 ?side2 ?side3).mono ?_
        (case side1 => exact T.C _ d.f3 (Nat.le_refl _) U7.out)
        (case side2 => exact U7.out.len)
        (case side3 => exact HKC.out)
        rintro e wc ⟨v9, rfl, ho, hb⟩
        refine ⟨_, rfl, ?_⟩
        obtain ⟨A9, c9, e9⟩ := Kd.R_slice ho
        subst e9
        have NR := Aside0.mk (show Kd.R k30 30 wc w.heap.size (fun k => g4 < k ∧ k ≠ g6) (.slice A9 d.f3.length c9) d.f3 from Kd.R_lower (Kd.R_mono (Kd.R_bound ho) (fun k hk => ⟨Nat.lt_of_lt_of_le (Nat.lt_of_lt_of_le L44.out LZ.out) hk.2.1, fun he => absurd (blk_lt BK6.out) (by have := hk.2.1; omega)⟩)) HB.out.size)
        have n_ := fr3 HB BK2 BK3 BK4 hb
        clear HB BK2 BK3 BK4
        obtain ⟨HB, BK2, BK3, BK4⟩ := n_
        have n_ := Aside0.mk (Nat.le_trans LZ.out (Below.size hb))
        clear LZ
        have LZ := n_
        clear n_
        have n_ := Aside0.mk (blk_below BK6.out hb)
        clear BK6
        have BK6 := n_
        clear n_
        clear U7 Q7
        have RO := NR
        clear NR ho hb
        refine hK.out _ _ ⟨BK2.out, BK3.out⟩ (fun hHeld => ?_)
        clear hK K
        refine norm_ (a' := ?_) ?_ ?_
        rotate_left; (show Act.put _ (some 21) _ = _; simp only [Act.put, sq1, sq2, sq3, i64_w, i32_w]; rfl)
        have hq := hJ (.agg #[.int .i64 (simpS 2000000 2000000 a).f0, .int .i64 (simpS 2000000 2000000 a).f1, .string (simpS 2000000 2000000 a).f2, .slice A5 (simpS 2000000 2000000 a).f3.length c5], .agg #[.int .i64 (simpS 2000000 2000000 b).f0, .int .i64 (simpS 2000000 2000000 b).f1, .string (simpS 2000000 2000000 b).f2, .slice A6 (simpS 2000000 2000000 b).f3.length c6], .agg #[.int .i64 d.f0, .int .i64 d.f1, .string d.f2, .slice A7 d.f3.length c7], A9, c9, g6) _ ⟨HB, BK2, BK3, BK4, BK6, GE6, RO⟩
        simp only [putAll, Act.put, sq1, sq2, sq3, i64_w, i32_w] at hq
        exact hq
      rintro ⟨u5, u6, u7, A9, c9, g6⟩ w' ⟨HB, BK2, BK3, BK4, BK6, GE6, RO⟩
      refine norm_ (a' := ?_) ?_ ?_
      rotate_left; (simp only [putAll, Act.put, sq1, sq2, sq3, i64_w, i32_w]; rfl)
      refine one_ (i := 7) (N := none) #[true, true, true, true, true, true, true, true] rfl rfl (by kernel_rfl) (by decide) (fun K hK => ?_)
      refine put_step rfl rfl 30 _ _ rfl g6 0 (.agg #[.int .i64 d.f0, .int .i64 d.f1, .string d.f2, .slice A9 d.f3.length c9]) rfl rfl [.int .i64 d.f0, .int .i64 d.f1, .string d.f2, .slice A9 d.f3.length c9] rfl 30 _ #[.int .i64 d.f0, .int .i64 d.f1, .string d.f2, .slice A9 d.f3.length c9] BK6.out HIP.out (Nat.le_of_ble_eq_true rfl) rfl rfl ?_
      intro w9 hk hoth hbel hz
      have n0_ := Aside0.mk ((hoth g2 (by have := L24.out; have := GE6.out.2; omega)).trans BK2.out)
      have n1_ := Aside0.mk ((hoth g3 (by have := L34.out; have := GE6.out.2; omega)).trans BK3.out)
      have n2_ := Aside0.mk ((hoth g4 (by have := L44.out; have := GE6.out.2; omega)).trans BK4.out)
      have n3_ := Aside0.mk (Kd.R_move RO.out (fun k hk => hoth k hk.2))
      have q_ := Aside0.mk (hbel _ _ HB.out GE6.out.1)
      clear HB BK6 BK2 BK3 BK4 RO
      have HB := q_
      have BK2 := n0_
      have BK3 := n1_
      have BK4 := n2_
      have RO := n3_
      have BK6 := Aside0.mk hk
      clear q_ hk hoth hbel hz n0_ n1_ n2_ n3_
      refine hK.out _ _ ⟨BK2.out, BK3.out⟩ (fun hHeld => ?_)
      clear hK K
      refine done_ (by kernel_rfl) ?_
      cases r with
      | false =>
        have HJ := Aside0.mk (HNO.out HRR.out)
        go_wp2_with (first | ((with_reducible refine gate_dst (N := 22) rfl ?_); refine wpList_load_row rfl 30 _ rfl g6 rfl 30 #[.int .i64 d.f0, .int .i64 d.f1, .string d.f2, .slice A9 d.f3.length c9] (0, 0) _ BK6.out huP rfl HIP.out ?_; (try simp only [Act.put, sq1, sq2, sq3])) | ((with_reducible refine gate_callee (f := 21) rfl ?_); refine goesL_ (some 23) rfl rfl Try.func21 (by kernel_rfl) rfl #[.agg #[.int .i64 d.f0, .int .i64 d.f1, .string d.f2, .slice A9 d.f3.length c9]] rfl (by (try simp only [sm1, sm2, sm3]); first | done | rfl) ?_; refine (spec_ValidPattern.calls kd d.f0 d.f1 d.f2 A9 c9 d.f3 false _ (Kd.R_reads' RO.out).2.2 (Kd.R_reads' RO.out).2.1 HKD.out).mono ?_; rintro e wv ⟨rfl, hb⟩; refine ⟨_, rfl, ?_⟩; have n_ := Aside0.mk (Kd.R_below RO.out hb); clear RO; have RO := n_; have n_ := fr2 HB BK4 BK6 hb; clear HB BK4 BK6; obtain ⟨HB, BK4, BK6⟩ := n_; clear n_ hb; (try simp only [Act.put, sq1, sq2, sq3])) | ((with_reducible refine gate_store (t := 30) (p := 4) rfl ?_); refine Go.Proofs.Ytomakpfmghekfaa.RowLaw.put_event rfl 30 _ _ rfl g4 0 (.agg #[.int .i64 0, .int .i64 0, .string (⟨#[]⟩ : ByteArray), .slice none 0 0]) rfl rfl [.int .i64 0, .int .i64 0, .string (⟨#[]⟩ : ByteArray), .slice none 0 0] rfl 30 _ #[.int .i64 0, .int .i64 0, .string (⟨#[]⟩ : ByteArray), .slice none 0 0] BK4.out HIP.out (Nat.le_of_ble_eq_true rfl) rfl rfl ?_; intro w9 hk hoth hbel hz; have q_ := Aside0.mk (hbel _ _ HB.out GE4.out); have HZ := Aside0.mk hz; clear HB BK4 ; have HB := q_; have BK4 := Aside0.mk hk; clear q_ hk hoth hbel hz ; (try simp only [Act.put, sq1, sq2, sq3])))
        refine bodyPost_ret (results_cell_row2 rfl _ _ _ 30 _ (0, 0) _ rfl BK4.out huP rfl (by kernel_rfl) (.bool false) rfl) rfl ?_
        rw [jn_no HJ.out, HJ.out]
        exact ⟨_, rfl, Kd.R_nil _ _ _ _ _, HB.out⟩
      | true =>
        have HJ := Aside0.mk (HYES.out HRR.out)
        go_wp2_with (first | ((with_reducible refine gate_dst (N := 22) rfl ?_); refine wpList_load_row rfl 30 _ rfl g6 rfl 30 #[.int .i64 d.f0, .int .i64 d.f1, .string d.f2, .slice A9 d.f3.length c9] (0, 0) _ BK6.out huP rfl HIP.out ?_; (try simp only [Act.put, sq1, sq2, sq3])) | ((with_reducible refine gate_callee (f := 21) rfl ?_); refine goesL_ (some 23) rfl rfl Try.func21 (by kernel_rfl) rfl #[.agg #[.int .i64 d.f0, .int .i64 d.f1, .string d.f2, .slice A9 d.f3.length c9]] rfl (by (try simp only [sm1, sm2, sm3]); first | done | rfl) ?_; refine (spec_ValidPattern.calls kd d.f0 d.f1 d.f2 A9 c9 d.f3 true _ (Kd.R_reads' RO.out).2.2 (Kd.R_reads' RO.out).2.1 HKD.out).mono ?_; rintro e wv ⟨rfl, hb⟩; refine ⟨_, rfl, ?_⟩; have n_ := Aside0.mk (Kd.R_below RO.out hb); clear RO; have RO := n_; have n_ := fr2 HB BK4 BK6 hb; clear HB BK4 BK6; obtain ⟨HB, BK4, BK6⟩ := n_; clear n_ hb; (try simp only [Act.put, sq1, sq2, sq3])) | ((with_reducible refine gate_dst (N := 26) rfl ?_); refine wpList_load_row rfl 30 _ rfl g6 rfl 30 #[.int .i64 d.f0, .int .i64 d.f1, .string d.f2, .slice A9 d.f3.length c9] (0, 0) _ BK6.out huP rfl HIP.out ?_; (try simp only [Act.put, sq1, sq2, sq3])) | ((with_reducible refine gate_store (t := 30) (p := 4) rfl ?_); refine Go.Proofs.Ytomakpfmghekfaa.RowLaw.put_event rfl 30 _ _ rfl g4 0 (.agg #[.int .i64 d.f0, .int .i64 d.f1, .string d.f2, .slice A9 d.f3.length c9]) rfl rfl [.int .i64 d.f0, .int .i64 d.f1, .string d.f2, .slice A9 d.f3.length c9] rfl 30 _ #[.int .i64 d.f0, .int .i64 d.f1, .string d.f2, .slice A9 d.f3.length c9] BK4.out HIP.out (Nat.le_of_ble_eq_true rfl) rfl rfl ?_; intro w9 hk hoth hbel hz; have q_ := Aside0.mk (hbel _ _ HB.out GE4.out); have n0_ := Aside0.mk (Kd.R_move RO.out (fun k hk => hoth k (Nat.ne_of_gt hk.1))); have HZ := Aside0.mk hz; clear HB BK4 RO; have HB := q_; have BK4 := Aside0.mk hk; have RO := n0_; clear q_ hk hoth hbel hz n0_; (try simp only [Act.put, sq1, sq2, sq3])))
        refine bodyPost_ret (results_cell_row2 rfl _ _ _ 30 _ (0, 0) _ rfl BK4.out huP rfl (by kernel_rfl) (.bool true) rfl) rfl ?_
        rw [HJ.out.1, HJ.out.2]
        exact ⟨_, rfl, Kd.R_mono RO.out (fun _ _ => trivial), HB.out⟩
set_option maxHeartbeats 16000000 in
set_option maxRecDepth 100000 in
theorem impl_jp (a b : PT) (ga : FinePattern a) (gb : FinePattern b) (hc : cntT a + cntT b ≤ 1999999) (Aa : Option Addr) (ca : Nat) (Ba : Nat → Prop) (Ab : Option Addr) (cb : Nat) (Bb : Nat → Prop) (w : World) (hTa : T False w Ba (.slice Aa a.f3.length ca) a.f3) (hTb : T False w Bb (.slice Ab b.f3.length cb) b.f3) (hL : ∀ k, Ba k ∨ Bb k → k < w.heap.size) :
    Calls Try.prog 19 #[.agg #[.int .i64 a.f0, .int .i64 a.f1, .string a.f2, .slice Aa a.f3.length ca], .agg #[.int .i64 b.f0, .int .i64 b.f1, .string b.f2, .slice Ab b.f3.length cb]] w (fun e w' => ∃ v' : Value, e = .returned (.tuple #[.agg #[.int .i64 (jn a b).f0, .int .i64 (jn a b).f1, .string (jn a b).f2, v'], .bool (jok a b)]) ∧ ∃ B' : Nat → Prop, T True w' B' v' (jn a b).f3 ∧ (∀ k, B' k → w.heap.size ≤ k ∧ k < w'.heap.size) ∧ Below w.heap.size w w') := by
  obtain ⟨ka, hka⟩ := (impl_validP a ga).rounds
  obtain ⟨kb, hkb⟩ := (impl_validP b gb).rounds
  obtain ⟨kd, hkd⟩ := (impl_validP _ (fine_jcat ga gb)).rounds
  have huP := Try.underlying30
  have HIP := Aside0.mk (by kernel_rfl : (Try.prog.info? 30).map (·.size) = some 4)
  have HTa := Aside0.mk hTa
  have HTb := Aside0.mk hTb
  have HL := Aside0.mk hL
  have HCA := Aside0.mk (by omega : cntT a ≤ 2000000)
  have HCB := Aside0.mk (by omega : cntT b ≤ 2000000)
  have HCC := Aside0.mk hc
  clear hTa hTb hL hc
  have HB := Aside0.mk (Below.refl w.heap.size w)
  cases hva : validP a with
  | false =>
    have HVA := Aside0.mk (hva ▸ hka : impl_ValidPattern.f ka a.f0 a.f1 a.f2 a.f3 = some false)
    have HJ := Aside0.mk (by unfold jok; rw [hva]; rfl : jok a b = false)
    clear hka hkb hkd hva
    rw [jn_no HJ.out, HJ.out]
    go_enter Try.func19, Try.ntmps19
    go_wp2_with (first | ((with_reducible refine gate_dst (N := 2) rfl ?_); refine box_event ?hg (N := 2) ?hd (cs := #[.int .i64 a.f0, .int .i64 a.f1, .string a.f2, .slice Aa a.f3.length ca]) (t := 30) ?hr ?_; (case hd => rfl); (case hg => rfl); (case hr => first | (go_simp; done) | (go_simp; rfl)); intro g2 hg w2 hbox hb; have n0_ := Aside0.mk (below_step HB.out hb); clear HB; have HB := n0_; clear n0_; have BK2 := Aside0.mk hbox; clear hbox hg hb; (try simp only [Act.put, sq1, sq2, sq3])) | ((with_reducible refine gate_dst (N := 3) rfl ?_); refine box_event ?hg (N := 3) ?hd (cs := #[.int .i64 b.f0, .int .i64 b.f1, .string b.f2, .slice Ab b.f3.length cb]) (t := 30) ?hr ?_; (case hd => rfl); (case hg => rfl); (case hr => first | (go_simp; done) | (go_simp; rfl)); intro g3 hg w3 hbox hb; have n_ := fr1 HB BK2 hb; clear HB BK2; obtain ⟨HB, BK2⟩ := n_; have BK3 := Aside0.mk hbox; clear hbox hg hb; (try simp only [Act.put, sq1, sq2, sq3])) | ((with_reducible refine gate_dst (N := 4) rfl ?_); refine box_event ?hg (N := 4) ?hd (cs := #[.int .i64 0, .int .i64 0, .string (⟨#[]⟩ : ByteArray), .slice none 0 0]) (t := 30) ?hr ?_; (case hd => rfl); (case hg => rfl); (case hr => first | (go_simp; done) | (go_simp; rfl)); intro g4 hg w4 hbox hb; have GE4 := Aside0.mk (by rw [hg]; exact HB.out.size : w.heap.size ≤ g4); have n_ := fr2 HB BK2 BK3 hb; clear HB BK2 BK3; obtain ⟨HB, BK2, BK3⟩ := n_; have BK4 := Aside0.mk hbox; clear hbox hg hb; (try simp only [Act.put, sq1, sq2, sq3])) | ((with_reducible refine gate_dst (N := 7) rfl ?_); refine wpList_load_row rfl 30 _ rfl g2 rfl 30 #[.int .i64 a.f0, .int .i64 a.f1, .string a.f2, .slice Aa a.f3.length ca] (0, 0) _ BK2.out huP rfl HIP.out ?_; (try simp only [Act.put, sq1, sq2, sq3])) | ((with_reducible refine gate_dst (N := 11) rfl ?_); refine gate_guard (by rfl) ?_; dsimp only; refine wpList_load_row rfl 30 _ rfl g3 rfl 30 #[.int .i64 b.f0, .int .i64 b.f1, .string b.f2, .slice Ab b.f3.length cb] (0, 0) _ BK3.out huP rfl HIP.out ?_; (try simp only [Act.put, sq1, sq2, sq3])) | ((with_reducible refine gate_callee (f := 24) rfl ?_); refine goesL_ (some 8) rfl rfl Try.func24 (by kernel_rfl) rfl #[.agg #[.int .i64 a.f0, .int .i64 a.f1, .string a.f2, .slice Aa a.f3.length ca]] rfl (by (try simp only [sm1, sm2, sm3]); first | done | rfl) ?_; refine (impl_ValidPattern.calls ka a.f0 a.f1 a.f2 Aa ca a.f3 false _ (T.C _ a.f3 (Nat.le_refl _) (HTa.out.grow HB.out)) HTa.out.len HVA.out).mono ?_; rintro e wva ⟨rfl, hb⟩; refine ⟨_, rfl, ?_⟩; have n_ := fr3 HB BK2 BK3 BK4 hb; clear HB BK2 BK3 BK4; obtain ⟨HB, BK2, BK3, BK4⟩ := n_; clear hb; (try simp only [Act.put, sq1, sq2, sq3])) | ((with_reducible refine gate_store (t := 30) (p := 4) rfl ?_); refine Go.Proofs.Ytomakpfmghekfaa.RowLaw.put_event rfl 30 _ _ rfl g4 0 (.agg #[.int .i64 0, .int .i64 0, .string (⟨#[]⟩ : ByteArray), .slice none 0 0]) rfl rfl [.int .i64 0, .int .i64 0, .string (⟨#[]⟩ : ByteArray), .slice none 0 0] rfl 30 _ #[.int .i64 0, .int .i64 0, .string (⟨#[]⟩ : ByteArray), .slice none 0 0] BK4.out HIP.out (Nat.le_of_ble_eq_true rfl) rfl rfl ?_; intro w9 hk hoth hbel hz; have q_ := Aside0.mk (hbel _ _ HB.out GE4.out); have HZ := Aside0.mk hz; clear HB BK4 ; have HB := q_; have BK4 := Aside0.mk hk; clear q_ hk hoth hbel hz ; (try simp only [Act.put, sq1, sq2, sq3])))
    refine bodyPost_ret (results_cell_row2 rfl _ _ _ 30 _ (0, 0) _ rfl BK4.out huP rfl (by kernel_rfl) (.bool false) rfl) rfl ?_
    exact ⟨_, rfl, fun _ => False, .nil _ _ _, fun _ h => h.elim, HB.out⟩
  | true =>
    have HVA := Aside0.mk (hva ▸ hka : impl_ValidPattern.f ka a.f0 a.f1 a.f2 a.f3 = some true)
    cases hvb : validP b with
    | false =>
      have HVB := Aside0.mk (hvb ▸ hkb : impl_ValidPattern.f kb b.f0 b.f1 b.f2 b.f3 = some false)
      have HJ := Aside0.mk (by unfold jok; rw [hva, hvb]; rfl : jok a b = false)
      clear hka hkb hkd hva hvb
      rw [jn_no HJ.out, HJ.out]
      go_enter Try.func19, Try.ntmps19
      go_wp2_with (first | ((with_reducible refine gate_dst (N := 2) rfl ?_); refine box_event ?hg (N := 2) ?hd (cs := #[.int .i64 a.f0, .int .i64 a.f1, .string a.f2, .slice Aa a.f3.length ca]) (t := 30) ?hr ?_; (case hd => rfl); (case hg => rfl); (case hr => first | (go_simp; done) | (go_simp; rfl)); intro g2 hg w2 hbox hb; have n0_ := Aside0.mk (below_step HB.out hb); clear HB; have HB := n0_; clear n0_; have BK2 := Aside0.mk hbox; clear hbox hg hb; (try simp only [Act.put, sq1, sq2, sq3])) | ((with_reducible refine gate_dst (N := 3) rfl ?_); refine box_event ?hg (N := 3) ?hd (cs := #[.int .i64 b.f0, .int .i64 b.f1, .string b.f2, .slice Ab b.f3.length cb]) (t := 30) ?hr ?_; (case hd => rfl); (case hg => rfl); (case hr => first | (go_simp; done) | (go_simp; rfl)); intro g3 hg w3 hbox hb; have n_ := fr1 HB BK2 hb; clear HB BK2; obtain ⟨HB, BK2⟩ := n_; have BK3 := Aside0.mk hbox; clear hbox hg hb; (try simp only [Act.put, sq1, sq2, sq3])) | ((with_reducible refine gate_dst (N := 4) rfl ?_); refine box_event ?hg (N := 4) ?hd (cs := #[.int .i64 0, .int .i64 0, .string (⟨#[]⟩ : ByteArray), .slice none 0 0]) (t := 30) ?hr ?_; (case hd => rfl); (case hg => rfl); (case hr => first | (go_simp; done) | (go_simp; rfl)); intro g4 hg w4 hbox hb; have GE4 := Aside0.mk (by rw [hg]; exact HB.out.size : w.heap.size ≤ g4); have n_ := fr2 HB BK2 BK3 hb; clear HB BK2 BK3; obtain ⟨HB, BK2, BK3⟩ := n_; have BK4 := Aside0.mk hbox; clear hbox hg hb; (try simp only [Act.put, sq1, sq2, sq3])) | ((with_reducible refine gate_dst (N := 7) rfl ?_); refine wpList_load_row rfl 30 _ rfl g2 rfl 30 #[.int .i64 a.f0, .int .i64 a.f1, .string a.f2, .slice Aa a.f3.length ca] (0, 0) _ BK2.out huP rfl HIP.out ?_; (try simp only [Act.put, sq1, sq2, sq3])) | ((with_reducible refine gate_dst (N := 11) rfl ?_); refine gate_guard (by rfl) ?_; dsimp only; refine wpList_load_row rfl 30 _ rfl g3 rfl 30 #[.int .i64 b.f0, .int .i64 b.f1, .string b.f2, .slice Ab b.f3.length cb] (0, 0) _ BK3.out huP rfl HIP.out ?_; (try simp only [Act.put, sq1, sq2, sq3])) | ((with_reducible refine gate_callee (f := 24) rfl ?_); refine goesL_ (some 8) rfl rfl Try.func24 (by kernel_rfl) rfl #[.agg #[.int .i64 a.f0, .int .i64 a.f1, .string a.f2, .slice Aa a.f3.length ca]] rfl (by (try simp only [sm1, sm2, sm3]); first | done | rfl) ?_; refine (impl_ValidPattern.calls ka a.f0 a.f1 a.f2 Aa ca a.f3 true _ (T.C _ a.f3 (Nat.le_refl _) (HTa.out.grow HB.out)) HTa.out.len HVA.out).mono ?_; rintro e wva ⟨rfl, hb⟩; refine ⟨_, rfl, ?_⟩; have n_ := fr3 HB BK2 BK3 BK4 hb; clear HB BK2 BK3 BK4; obtain ⟨HB, BK2, BK3, BK4⟩ := n_; clear hb; (try simp only [Act.put, sq1, sq2, sq3])) | ((with_reducible refine gate_callee (f := 24) rfl ?_); (with_reducible refine gate_dst (N := 12) rfl ?_); refine gate_guard (by rfl) ?_; dsimp only; refine goesL_ (some 12) rfl rfl Try.func24 (by kernel_rfl) rfl #[.agg #[.int .i64 b.f0, .int .i64 b.f1, .string b.f2, .slice Ab b.f3.length cb]] rfl (by (try simp only [sm1, sm2, sm3]); first | done | rfl) ?_; refine (impl_ValidPattern.calls kb b.f0 b.f1 b.f2 Ab cb b.f3 false _ (T.C _ b.f3 (Nat.le_refl _) (HTb.out.grow HB.out)) HTb.out.len HVB.out).mono ?_; rintro e wvb ⟨rfl, hb⟩; refine ⟨_, rfl, ?_⟩; have n_ := fr3 HB BK2 BK3 BK4 hb; clear HB BK2 BK3 BK4; obtain ⟨HB, BK2, BK3, BK4⟩ := n_; clear hb; (try simp only [Act.put, sq1, sq2, sq3])) | ((with_reducible refine gate_store (t := 30) (p := 4) rfl ?_); refine Go.Proofs.Ytomakpfmghekfaa.RowLaw.put_event rfl 30 _ _ rfl g4 0 (.agg #[.int .i64 0, .int .i64 0, .string (⟨#[]⟩ : ByteArray), .slice none 0 0]) rfl rfl [.int .i64 0, .int .i64 0, .string (⟨#[]⟩ : ByteArray), .slice none 0 0] rfl 30 _ #[.int .i64 0, .int .i64 0, .string (⟨#[]⟩ : ByteArray), .slice none 0 0] BK4.out HIP.out (Nat.le_of_ble_eq_true rfl) rfl rfl ?_; intro w9 hk hoth hbel hz; have q_ := Aside0.mk (hbel _ _ HB.out GE4.out); have HZ := Aside0.mk hz; clear HB BK4 ; have HB := q_; have BK4 := Aside0.mk hk; clear q_ hk hoth hbel hz ; (try simp only [Act.put, sq1, sq2, sq3])))
      refine bodyPost_ret (results_cell_row2 rfl _ _ _ 30 _ (0, 0) _ rfl BK4.out huP rfl (by kernel_rfl) (.bool false) rfl) rfl ?_
      exact ⟨_, rfl, fun _ => False, .nil _ _ _, fun _ h => h.elim, HB.out⟩
    | true =>
      have HVB := Aside0.mk (hvb ▸ hkb : impl_ValidPattern.f kb b.f0 b.f1 b.f2 b.f3 = some true)
      have VA := Aside0.mk (vp_of _ a (Nat.le_refl _) (of_decide_eq_true hva).1)
      have VB := Aside0.mk (vp_of _ b (Nat.le_refl _) (of_decide_eq_true hvb).1)
      have OA := Aside0.mk (simp_ok 2000000 2000000 a VA.out)
      have OB := Aside0.mk (simp_ok 2000000 2000000 b VB.out)
      have hcd := jcat_cnt hva hvb
      have hno : validP (jcat a b) = false → jok a b = false := fun h => by unfold jok; rw [h]; simp
      have hyes := fun h => jn_yes hva hvb h
      obtain ⟨d, hd⟩ : ∃ d, d = jcat a b := ⟨_, rfl⟩
      rw [← hd] at hkd hcd hno hyes
      have HD := Aside0.mk (show d = catF 2000000 (simpS 2000000 2000000 a) (simpS 2000000 2000000 b) from hd)
      have HDC := Aside0.mk (by have := HCC.out; omega : cntT d ≤ 2000000)
      have HNO := Aside0.mk hno
      have HYES := Aside0.mk hyes
      obtain ⟨r, hr⟩ : ∃ r, validP d = r := ⟨_, rfl⟩
      have HRR := Aside0.mk hr
      rw [hr] at hkd
      have HKD := Aside0.mk hkd
      clear hka hkb hkd hva hvb hcd hno hyes hd hr
      go_enter Try.func19, Try.ntmps19
      go_wp2_with (first | ((with_reducible refine gate_dst (N := 2) rfl ?_); refine box_event ?hg (N := 2) ?hd (cs := #[.int .i64 a.f0, .int .i64 a.f1, .string a.f2, .slice Aa a.f3.length ca]) (t := 30) ?hr ?_; (case hd => rfl); (case hg => rfl); (case hr => first | (go_simp; done) | (go_simp; rfl)); intro g2 hg w2 hbox hb; have n0_ := Aside0.mk (below_step HB.out hb); clear HB; have HB := n0_; clear n0_; have BK2 := Aside0.mk hbox; clear hbox hg hb; (try simp only [Act.put, sq1, sq2, sq3])) | ((with_reducible refine gate_dst (N := 3) rfl ?_); refine box_event ?hg (N := 3) ?hd (cs := #[.int .i64 b.f0, .int .i64 b.f1, .string b.f2, .slice Ab b.f3.length cb]) (t := 30) ?hr ?_; (case hd => rfl); (case hg => rfl); (case hr => first | (go_simp; done) | (go_simp; rfl)); intro g3 hg w3 hbox hb; have n_ := fr1 HB BK2 hb; clear HB BK2; obtain ⟨HB, BK2⟩ := n_; have BK3 := Aside0.mk hbox; clear hbox hg hb; (try simp only [Act.put, sq1, sq2, sq3])) | ((with_reducible refine gate_dst (N := 4) rfl ?_); refine box_event ?hg (N := 4) ?hd (cs := #[.int .i64 0, .int .i64 0, .string (⟨#[]⟩ : ByteArray), .slice none 0 0]) (t := 30) ?hr ?_; (case hd => rfl); (case hg => rfl); (case hr => first | (go_simp; done) | (go_simp; rfl)); intro g4 hg w4 hbox hb; have GE4 := Aside0.mk (by rw [hg]; exact HB.out.size : w.heap.size ≤ g4); have n_ := fr2 HB BK2 BK3 hb; clear HB BK2 BK3; obtain ⟨HB, BK2, BK3⟩ := n_; have BK4 := Aside0.mk hbox; clear hbox hg hb; (try simp only [Act.put, sq1, sq2, sq3])) | ((with_reducible refine gate_dst (N := 7) rfl ?_); refine wpList_load_row rfl 30 _ rfl g2 rfl 30 #[.int .i64 a.f0, .int .i64 a.f1, .string a.f2, .slice Aa a.f3.length ca] (0, 0) _ BK2.out huP rfl HIP.out ?_; (try simp only [Act.put, sq1, sq2, sq3])) | ((with_reducible refine gate_dst (N := 11) rfl ?_); refine gate_guard (by rfl) ?_; dsimp only; refine wpList_load_row rfl 30 _ rfl g3 rfl 30 #[.int .i64 b.f0, .int .i64 b.f1, .string b.f2, .slice Ab b.f3.length cb] (0, 0) _ BK3.out huP rfl HIP.out ?_; (try simp only [Act.put, sq1, sq2, sq3])) | ((with_reducible refine gate_callee (f := 24) rfl ?_); refine goesL_ (some 8) rfl rfl Try.func24 (by kernel_rfl) rfl #[.agg #[.int .i64 a.f0, .int .i64 a.f1, .string a.f2, .slice Aa a.f3.length ca]] rfl (by (try simp only [sm1, sm2, sm3]); first | done | rfl) ?_; refine (impl_ValidPattern.calls ka a.f0 a.f1 a.f2 Aa ca a.f3 true _ (T.C _ a.f3 (Nat.le_refl _) (HTa.out.grow HB.out)) HTa.out.len HVA.out).mono ?_; rintro e wva ⟨rfl, hb⟩; refine ⟨_, rfl, ?_⟩; have n_ := fr3 HB BK2 BK3 BK4 hb; clear HB BK2 BK3 BK4; obtain ⟨HB, BK2, BK3, BK4⟩ := n_; clear hb; (try simp only [Act.put, sq1, sq2, sq3])) | ((with_reducible refine gate_callee (f := 24) rfl ?_); (with_reducible refine gate_dst (N := 12) rfl ?_); refine gate_guard (by rfl) ?_; dsimp only; refine goesL_ (some 12) rfl rfl Try.func24 (by kernel_rfl) rfl #[.agg #[.int .i64 b.f0, .int .i64 b.f1, .string b.f2, .slice Ab b.f3.length cb]] rfl (by (try simp only [sm1, sm2, sm3]); first | done | rfl) ?_; refine (impl_ValidPattern.calls kb b.f0 b.f1 b.f2 Ab cb b.f3 true _ (T.C _ b.f3 (Nat.le_refl _) (HTb.out.grow HB.out)) HTb.out.len HVB.out).mono ?_; rintro e wvb ⟨rfl, hb⟩; refine ⟨_, rfl, ?_⟩; have n_ := fr3 HB BK2 BK3 BK4 hb; clear HB BK2 BK3 BK4; obtain ⟨HB, BK2, BK3, BK4⟩ := n_; clear hb; (try simp only [Act.put, sq1, sq2, sq3])))
      have n_ := fr3 HB BK2 BK3 BK4 (below_drew1 (Below.refl _ _))
      clear HB BK2 BK3 BK4
      obtain ⟨HB, BK2, BK3, BK4⟩ := n_
      refine start_ (n := 7) (S := fun w' => w'.heap[g2]? = some (.cells #[.int .i64 a.f0, .int .i64 a.f1, .string a.f2, .slice Aa a.f3.length ca] 30 (0, 0)) ∧ w'.heap[g3]? = some (.cells #[.int .i64 b.f0, .int .i64 b.f1, .string b.f2, .slice Ab b.f3.length cb] 30 (0, 0))) (ds := []) #[false, false, false, false, false, false, false] (by kernel_rfl) rfl rfl ⟨BK2.out, BK3.out⟩ (fun hHeld => ?_)
      generalize _root_.Go.World.drew _ = wd at HB BK2 BK3 BK4 hHeld ⊢
      have L24 := Aside0.mk (blk_lt BK2.out)
      have L34 := Aside0.mk (blk_lt BK3.out)
      have L44 := Aside0.mk (blk_lt BK4.out)
      have LW := Aside0.mk HB.out.size
      obtain ⟨L0, hL0⟩ : ∃ L0, L0 = wd.heap.size := ⟨_, rfl⟩
      rw [← hL0] at L24 L34 L44 LW
      have LZ := Aside0.mk (Nat.le_of_eq hL0)
      clear hL0
      refine take_ (i := 0) (N := some 16) (v := .agg #[.int .i64 a.f0, .int .i64 a.f1, .string a.f2, .slice Aa a.f3.length ca]) (a' := ?_) #[true, false, false, false, false, false, false] rfl rfl (by kernel_rfl) (fun _ _ _ h => h) (Or.inl ⟨by rfl, fun w' s => Go.Proofs.Ytomakpfmghekfaa.RowLaw.load_run 30 _ rfl g2 rfl 30 _ _ s.1 huP rfl HIP.out⟩) hHeld ?_ ?_
      rotate_left; (simp only [Act.put, sq1, sq2, sq3, i64_w, i32_w]; rfl)
      refine take_ (i := 2) (N := some 18) (v := .agg #[.int .i64 b.f0, .int .i64 b.f1, .string b.f2, .slice Ab b.f3.length cb]) (a' := ?_) #[true, false, true, false, false, false, false] rfl rfl (by kernel_rfl) (fun _ _ _ h => h) (Or.inl ⟨by rfl, fun w' s => Go.Proofs.Ytomakpfmghekfaa.RowLaw.load_run 30 _ rfl g3 rfl 30 _ _ s.2 huP rfl HIP.out⟩) hHeld ?_ ?_
      rotate_left; (simp only [Act.put, sq1, sq2, sq3, i64_w, i32_w]; rfl)
      refine join_ (σ := Value × Value × Option Addr × Nat × Nat) 1 #[true, true, true, true, true, true, false] (fun s => match s with | (u5, u6, Ar, cr, g6) => [(17, u5), (19, u6), (20, .agg #[.int .i64 d.f0, .int .i64 d.f1, .string d.f2, .slice Ar d.f3.length cr]), (6, .pointer (some ⟨g6, 0, none⟩))]) (fun s w' => match s with | (u5, u6, Ar, cr, g6) => Aside0 (Below w.heap.size w w') ∧ Aside0 (w'.heap[g2]? = some (.cells #[.int .i64 a.f0, .int .i64 a.f1, .string a.f2, .slice Aa a.f3.length ca] 30 (0, 0))) ∧ Aside0 (w'.heap[g3]? = some (.cells #[.int .i64 b.f0, .int .i64 b.f1, .string b.f2, .slice Ab b.f3.length cb] 30 (0, 0))) ∧ Aside0 (w'.heap[g4]? = some (.cells #[.int .i64 0, .int .i64 0, .string (⟨#[]⟩ : ByteArray), .slice none 0 0] 30 (0, 0))) ∧ Aside0 (w'.heap[g6]? = some (.cells #[.int .i64 0, .int .i64 0, .string (⟨#[]⟩ : ByteArray), .slice none 0 0] 30 (0, 0))) ∧ Aside0 (w.heap.size ≤ g6 ∧ L0 ≤ g6) ∧ ∃ B7 : Nat → Prop, Aside0 (T True w' B7 (.slice Ar d.f3.length cr) d.f3) ∧ Aside0 (∀ k, B7 k → (w.heap.size ≤ k ∧ k ≠ g4 ∧ k ≠ g6) ∧ k < w'.heap.size)) ?_ (fun hJ => ?_)
      rotate_left
      ·refine two_ (i := 1) (j := 5) (Ni := some 17) (Nj := some 6) #[true, true, true, false, false, false, false] #[true, false, true, false, false, true, false] rfl rfl rfl rfl (by kernel_rfl) (by decide) (by decide) (fun K hK => ?_) (fun K hK => ?_)
       ·refine goes_ Try.func31 (by kernel_rfl) rfl #[.agg #[.int .i64 a.f0, .int .i64 a.f1, .string a.f2, .slice Aa a.f3.length ca]] (by rfl) rfl rfl (by (try simp only [sm1, sm2, sm3]); first | done | rfl) ?_
        with_reducible refine (simplified_calls 2000000 (Nat.le_refl _) 2000000 a VA.out HCA.out HCA.out (.slice Aa a.f3.length ca) Ba _ ?side1 ?side2).mono ?_
        (case side1 => exact HTa.out.grow HB.out)
        (case side2 => exact fun k hk => Nat.lt_of_lt_of_le (HL.out k (.inl hk)) HB.out.size)
        rw [simp_same 2000000 2000000 a VA.out]; rintro e wc ⟨v5, B5, rfl, hT, hB', hb⟩
        refine ⟨_, rfl, ?_⟩
        have m_ := hb.size
        have NU := Aside0.mk hT
        have NQ := Aside0.mk (fun k (hk : B5 k) => (⟨⟨Nat.le_trans LZ.out ((hB' k hk).1.resolve_left (fun h => h)), trivial⟩, (hB' k hk).2⟩ : (L0 ≤ k ∧ True) ∧ k < wc.heap.size))
        have n_ := fr3 HB BK2 BK3 BK4 hb
        clear HB BK2 BK3 BK4
        obtain ⟨HB, BK2, BK3, BK4⟩ := n_
        have n_ := Aside0.mk (Nat.le_trans LZ.out (Below.size hb))
        clear LZ
        have LZ := n_
        clear n_
        have U5 := NU
        have Q5 := NQ
        clear NU NQ
        obtain ⟨A5, c5, e5, _⟩ := hT.inv
        subst e5
        clear hT hB' hb m_
        refine hK.out _ _ ⟨BK2.out, BK3.out⟩ (fun hHeld => ?_)
        clear hK K
        refine norm_ (a' := ?_) ?_ ?_
        rotate_left; (show Act.put _ (some 17) _ = _; simp only [Act.put, sq1, sq2, sq3, i64_w, i32_w]; rfl)
        refine two_ (i := 3) (j := 5) (Ni := some 19) (Nj := some 6) #[true, true, true, true, false, false, false] #[true, true, true, false, false, true, false] rfl rfl rfl rfl (by kernel_rfl) (by decide) (by decide) (fun K hK => ?_) (fun K hK => ?_)
        ·refine goes_ Try.func31 (by kernel_rfl) rfl #[.agg #[.int .i64 b.f0, .int .i64 b.f1, .string b.f2, .slice Ab b.f3.length cb]] (by rfl) rfl rfl (by (try simp only [sm1, sm2, sm3]); first | done | rfl) ?_
         with_reducible refine (simplified_calls 2000000 (Nat.le_refl _) 2000000 b VB.out HCB.out HCB.out (.slice Ab b.f3.length cb) Bb _ ?side1 ?side2).mono ?_
         (case side1 => exact HTb.out.grow HB.out)
         (case side2 => exact fun k hk => Nat.lt_of_lt_of_le (HL.out k (.inr hk)) HB.out.size)
         rw [simp_same 2000000 2000000 b VB.out]; rintro e wc ⟨v6, B6, rfl, hT, hB', hb⟩
         refine ⟨_, rfl, ?_⟩
         have m_ := hb.size
         have NU := Aside0.mk hT
         have NQ := Aside0.mk (fun k (hk : B6 k) => (⟨⟨Nat.le_trans LZ.out ((hB' k hk).1.resolve_left (fun h => h)), trivial⟩, (hB' k hk).2⟩ : (L0 ≤ k ∧ True) ∧ k < wc.heap.size))
         have D56 := Aside0.mk (show ∀ k, B5 k → ¬ B6 k from fun k h5 h6 => absurd (Q5.out k h5).2 (Nat.not_lt.2 ((hB' k h6).1.resolve_left (fun h => h))))
         have n_ := fr3 HB BK2 BK3 BK4 hb
         clear HB BK2 BK3 BK4
         obtain ⟨HB, BK2, BK3, BK4⟩ := n_
         have n_ := Aside0.mk (Nat.le_trans LZ.out (Below.size hb))
         clear LZ
         have LZ := n_
         clear n_
         have n_ := Aside0.mk (U5.out.grow hb)
         clear U5
         have U5 := n_
         clear n_
         have n_ := Aside0.mk (q_up Q5.out (Below.size hb))
         clear Q5
         have Q5 := n_
         clear n_
         have U6 := NU
         have Q6 := NQ
         clear NU NQ
         obtain ⟨A6, c6, e6, _⟩ := hT.inv
         subst e6
         clear hT hB' hb m_
         refine hK.out _ _ ⟨BK2.out, BK3.out⟩ (fun hHeld => ?_)
         clear hK K
         refine norm_ (a' := ?_) ?_ ?_
         rotate_left; (show Act.put _ (some 19) _ = _; simp only [Act.put, sq1, sq2, sq3, i64_w, i32_w]; rfl)
         refine two_ (i := 4) (j := 5) (Ni := some 20) (Nj := some 6) #[true, true, true, true, true, false, false] #[true, true, true, true, false, true, false] rfl rfl rfl rfl (by kernel_rfl) (by decide) (by decide) (fun K hK => ?_) (fun K hK => ?_)
         ·refine goes_ Try.func34 (by kernel_rfl) rfl #[.agg #[.int .i64 (simpS 2000000 2000000 a).f0, .int .i64 (simpS 2000000 2000000 a).f1, .string (simpS 2000000 2000000 a).f2, .slice A5 (simpS 2000000 2000000 a).f3.length c5], .agg #[.int .i64 (simpS 2000000 2000000 b).f0, .int .i64 (simpS 2000000 2000000 b).f1, .string (simpS 2000000 2000000 b).f2, .slice A6 (simpS 2000000 2000000 b).f3.length c6]] (by rfl) rfl rfl (by (try simp only [sm1, sm2, sm3]); first | done | rfl) ?_
          with_reducible refine (cat_impl True 2000000 (simpS 2000000 2000000 a) (simpS 2000000 2000000 b) (Nat.le_trans OA.out.2 HCA.out) OA.out.1 OB.out.1 (.slice A5 (simpS 2000000 2000000 a).f3.length c5) (.slice A6 (simpS 2000000 2000000 b).f3.length c6) B5 B6 _ ?side1 ?side2 ?side3 ?side4).mono ?_
          (case side1 => exact U5.out)
          (case side2 => exact U6.out)
          (case side3 => exact fun _ => D56.out)
          (case side4 => exact fun k hk => hk.elim (fun h => (Q5.out k h).2) (fun h => (Q6.out k h).2))
          rw [← HD.out]; rintro e wc ⟨v7, B7, rfl, hT, hB', hb⟩
          refine ⟨_, rfl, ?_⟩
          have NU := Aside0.mk hT
          have NQ := Aside0.mk (fun k (hk : B7 k) => (⟨(hB' k hk).1.elim (fun h => h.elim (fun h => (Q5.out k h).1) (fun h => (Q6.out k h).1)) (fun h => ⟨Nat.le_trans LZ.out h, trivial⟩), (hB' k hk).2⟩ : (L0 ≤ k ∧ True) ∧ k < wc.heap.size))
          have n_ := fr3 HB BK2 BK3 BK4 hb
          clear HB BK2 BK3 BK4
          obtain ⟨HB, BK2, BK3, BK4⟩ := n_
          have n_ := Aside0.mk (Nat.le_trans LZ.out (Below.size hb))
          clear LZ
          have LZ := n_
          clear n_
          clear U5 Q5 U6 Q6 D56
          have U7 := NU
          have Q7 := NQ
          clear NU NQ
          obtain ⟨A7, c7, e7, _⟩ := hT.inv
          subst e7
          clear hT hB' hb
          refine hK.out _ _ ⟨BK2.out, BK3.out⟩ (fun hHeld => ?_)
          clear hK K
          refine norm_ (a' := ?_) ?_ ?_
          rotate_left; (show Act.put _ (some 20) _ = _; simp only [Act.put, sq1, sq2, sq3, i64_w, i32_w]; rfl)
          refine one_ (i := 5) (N := some 6) #[true, true, true, true, true, true, false] rfl rfl (by kernel_rfl) (by decide) (fun K hK => ?_)
          refine new_step 30 [.int .i64 0, .int .i64 0, .string (⟨#[]⟩ : ByteArray), .slice none 0 0] (fun m => .pointer (some ⟨m, 0, none⟩)) rfl rfl ?hr ?_
          (case hr => first | (go_simp; done) | (go_simp; rfl))
          intro wn g6 hm hn hb
          have BN := Aside0.mk hn
          have GE6 := Aside0.mk (show w.heap.size ≤ g6 ∧ L0 ≤ g6 from by have := HB.out.size; have := LZ.out; omega)
          have NQ7 := Aside0.mk (fun k (hk : B7 k) => (⟨⟨(Q7.out k hk).1.1, fun he => absurd (Q7.out k hk).2 (by omega)⟩, (Q7.out k hk).2⟩ : (L0 ≤ k ∧ k ≠ g6) ∧ k < _))
          clear Q7
          have Q7 := NQ7
          clear NQ7
          have n_ := fr3 HB BK2 BK3 BK4 hb
          clear HB BK2 BK3 BK4
          obtain ⟨HB, BK2, BK3, BK4⟩ := n_
          have n_ := Aside0.mk (Nat.le_trans LZ.out (Below.size hb))
          clear LZ
          have LZ := n_
          clear n_
          have n_ := Aside0.mk (U7.out.grow hb)
          clear U7
          have U7 := n_
          clear n_
          have n_ := Aside0.mk (q_up Q7.out (Below.size hb))
          clear Q7
          have Q7 := n_
          clear n_
          have BK6 := BN
          clear BN
          clear hm hn hb
          refine hK.out _ _ ⟨BK2.out, BK3.out⟩ (fun hHeld => ?_)
          clear hK K
          refine norm_ (a' := ?_) ?_ ?_
          rotate_left; (show Act.put _ (some 6) _ = _; simp only [Act.put, sq1, sq2, sq3, i64_w, i32_w]; rfl)
          have hq := hJ (.agg #[.int .i64 (simpS 2000000 2000000 a).f0, .int .i64 (simpS 2000000 2000000 a).f1, .string (simpS 2000000 2000000 a).f2, .slice A5 (simpS 2000000 2000000 a).f3.length c5], .agg #[.int .i64 (simpS 2000000 2000000 b).f0, .int .i64 (simpS 2000000 2000000 b).f1, .string (simpS 2000000 2000000 b).f2, .slice A6 (simpS 2000000 2000000 b).f3.length c6], A7, c7, g6) _ ⟨HB, BK2, BK3, BK4, BK6, GE6, B7, U7, ⟨fun k hk => ⟨⟨Nat.le_trans LW.out (Q7.out k hk).1.1, fun he => absurd L44.out (by have := (Q7.out k hk).1.1; omega), (Q7.out k hk).1.2⟩, (Q7.out k hk).2⟩⟩⟩
          simp only [putAll, Act.put, sq1, sq2, sq3, i64_w, i32_w] at hq
          exact hq
         ·refine new_step 30 [.int .i64 0, .int .i64 0, .string (⟨#[]⟩ : ByteArray), .slice none 0 0] (fun m => .pointer (some ⟨m, 0, none⟩)) rfl rfl ?hr ?_
          (case hr => first | (go_simp; done) | (go_simp; rfl))
          intro wn g6 hm hn hb
          have BN := Aside0.mk hn
          have GE6 := Aside0.mk (show w.heap.size ≤ g6 ∧ L0 ≤ g6 from by have := HB.out.size; have := LZ.out; omega)
          have NQ5 := Aside0.mk (fun k (hk : B5 k) => (⟨⟨(Q5.out k hk).1.1, fun he => absurd (Q5.out k hk).2 (by omega)⟩, (Q5.out k hk).2⟩ : (L0 ≤ k ∧ k ≠ g6) ∧ k < _))
          clear Q5
          have Q5 := NQ5
          clear NQ5
          have NQ6 := Aside0.mk (fun k (hk : B6 k) => (⟨⟨(Q6.out k hk).1.1, fun he => absurd (Q6.out k hk).2 (by omega)⟩, (Q6.out k hk).2⟩ : (L0 ≤ k ∧ k ≠ g6) ∧ k < _))
          clear Q6
          have Q6 := NQ6
          clear NQ6
          have n_ := fr3 HB BK2 BK3 BK4 hb
          clear HB BK2 BK3 BK4
          obtain ⟨HB, BK2, BK3, BK4⟩ := n_
          have n_ := Aside0.mk (Nat.le_trans LZ.out (Below.size hb))
          clear LZ
          have LZ := n_
          clear n_
          have n_ := Aside0.mk (U5.out.grow hb)
          clear U5
          have U5 := n_
          clear n_
          have n_ := Aside0.mk (q_up Q5.out (Below.size hb))
          clear Q5
          have Q5 := n_
          clear n_
          have n_ := Aside0.mk (U6.out.grow hb)
          clear U6
          have U6 := n_
          clear n_
          have n_ := Aside0.mk (q_up Q6.out (Below.size hb))
          clear Q6
          have Q6 := n_
          clear n_
          have BK6 := BN
          clear BN
          clear hm hn hb
          refine hK.out _ _ ⟨BK2.out, BK3.out⟩ (fun hHeld => ?_)
          clear hK K
          refine norm_ (a' := ?_) ?_ ?_
          rotate_left; (show Act.put _ (some 6) _ = _; simp only [Act.put, sq1, sq2, sq3, i64_w, i32_w]; rfl)
          refine one_ (i := 4) (N := some 20) #[true, true, true, true, true, true, false] rfl rfl (by kernel_rfl) (by decide) (fun K hK => ?_)
          refine goes_ Try.func34 (by kernel_rfl) rfl #[.agg #[.int .i64 (simpS 2000000 2000000 a).f0, .int .i64 (simpS 2000000 2000000 a).f1, .string (simpS 2000000 2000000 a).f2, .slice A5 (simpS 2000000 2000000 a).f3.length c5], .agg #[.int .i64 (simpS 2000000 2000000 b).f0, .int .i64 (simpS 2000000 2000000 b).f1, .string (simpS 2000000 2000000 b).f2, .slice A6 (simpS 2000000 2000000 b).f3.length c6]] (by rfl) rfl rfl (by (try simp only [sm1, sm2, sm3]); first | done | rfl) ?_
          with_reducible refine (cat_impl True 2000000 (simpS 2000000 2000000 a) (simpS 2000000 2000000 b) (Nat.le_trans OA.out.2 HCA.out) OA.out.1 OB.out.1 (.slice A5 (simpS 2000000 2000000 a).f3.length c5) (.slice A6 (simpS 2000000 2000000 b).f3.length c6) B5 B6 _ ?side1 ?side2 ?side3 ?side4).mono ?_
          (case side1 => exact U5.out)
          (case side2 => exact U6.out)
          (case side3 => exact fun _ => D56.out)
          (case side4 => exact fun k hk => hk.elim (fun h => (Q5.out k h).2) (fun h => (Q6.out k h).2))
          rw [← HD.out]; rintro e wc ⟨v7, B7, rfl, hT, hB', hb⟩
          refine ⟨_, rfl, ?_⟩
          have NU := Aside0.mk hT
          have NQ := Aside0.mk (fun k (hk : B7 k) => (⟨(hB' k hk).1.elim (fun h => h.elim (fun h => (Q5.out k h).1) (fun h => (Q6.out k h).1)) (fun h => ⟨Nat.le_trans LZ.out h, fun he => absurd (blk_lt BK6.out) (by omega)⟩), (hB' k hk).2⟩ : (L0 ≤ k ∧ k ≠ g6) ∧ k < wc.heap.size))
          have n_ := fr3 HB BK2 BK3 BK4 hb
          clear HB BK2 BK3 BK4
          obtain ⟨HB, BK2, BK3, BK4⟩ := n_
          have n_ := Aside0.mk (Nat.le_trans LZ.out (Below.size hb))
          clear LZ
          have LZ := n_
          clear n_
          have n_ := Aside0.mk (blk_below BK6.out hb)
          clear BK6
          have BK6 := n_
          clear n_
          clear U5 Q5 U6 Q6 D56
          have U7 := NU
          have Q7 := NQ
          clear NU NQ
          obtain ⟨A7, c7, e7, _⟩ := hT.inv
          subst e7
          clear hT hB' hb
          refine hK.out _ _ ⟨BK2.out, BK3.out⟩ (fun hHeld => ?_)
          clear hK K
          refine norm_ (a' := ?_) ?_ ?_
          rotate_left; (show Act.put _ (some 20) _ = _; simp only [Act.put, sq1, sq2, sq3, i64_w, i32_w]; rfl)
          have hq := hJ (.agg #[.int .i64 (simpS 2000000 2000000 a).f0, .int .i64 (simpS 2000000 2000000 a).f1, .string (simpS 2000000 2000000 a).f2, .slice A5 (simpS 2000000 2000000 a).f3.length c5], .agg #[.int .i64 (simpS 2000000 2000000 b).f0, .int .i64 (simpS 2000000 2000000 b).f1, .string (simpS 2000000 2000000 b).f2, .slice A6 (simpS 2000000 2000000 b).f3.length c6], A7, c7, g6) _ ⟨HB, BK2, BK3, BK4, BK6, GE6, B7, U7, ⟨fun k hk => ⟨⟨Nat.le_trans LW.out (Q7.out k hk).1.1, fun he => absurd L44.out (by have := (Q7.out k hk).1.1; omega), (Q7.out k hk).1.2⟩, (Q7.out k hk).2⟩⟩⟩
          simp only [putAll, Act.put, sq1, sq2, sq3, i64_w, i32_w] at hq
          exact hq
        ·refine new_step 30 [.int .i64 0, .int .i64 0, .string (⟨#[]⟩ : ByteArray), .slice none 0 0] (fun m => .pointer (some ⟨m, 0, none⟩)) rfl rfl ?hr ?_
         (case hr => first | (go_simp; done) | (go_simp; rfl))
         intro wn g6 hm hn hb
         have BN := Aside0.mk hn
         have GE6 := Aside0.mk (show w.heap.size ≤ g6 ∧ L0 ≤ g6 from by have := HB.out.size; have := LZ.out; omega)
         have NQ5 := Aside0.mk (fun k (hk : B5 k) => (⟨⟨(Q5.out k hk).1.1, fun he => absurd (Q5.out k hk).2 (by omega)⟩, (Q5.out k hk).2⟩ : (L0 ≤ k ∧ k ≠ g6) ∧ k < _))
         clear Q5
         have Q5 := NQ5
         clear NQ5
         have n_ := fr3 HB BK2 BK3 BK4 hb
         clear HB BK2 BK3 BK4
         obtain ⟨HB, BK2, BK3, BK4⟩ := n_
         have n_ := Aside0.mk (Nat.le_trans LZ.out (Below.size hb))
         clear LZ
         have LZ := n_
         clear n_
         have n_ := Aside0.mk (U5.out.grow hb)
         clear U5
         have U5 := n_
         clear n_
         have n_ := Aside0.mk (q_up Q5.out (Below.size hb))
         clear Q5
         have Q5 := n_
         clear n_
         have BK6 := BN
         clear BN
         clear hm hn hb
         refine hK.out _ _ ⟨BK2.out, BK3.out⟩ (fun hHeld => ?_)
         clear hK K
         refine norm_ (a' := ?_) ?_ ?_
         rotate_left; (show Act.put _ (some 6) _ = _; simp only [Act.put, sq1, sq2, sq3, i64_w, i32_w]; rfl)
         refine one_ (i := 3) (N := some 19) #[true, true, true, true, false, true, false] rfl rfl (by kernel_rfl) (by decide) (fun K hK => ?_)
         refine goes_ Try.func31 (by kernel_rfl) rfl #[.agg #[.int .i64 b.f0, .int .i64 b.f1, .string b.f2, .slice Ab b.f3.length cb]] (by rfl) rfl rfl (by (try simp only [sm1, sm2, sm3]); first | done | rfl) ?_
         with_reducible refine (simplified_calls 2000000 (Nat.le_refl _) 2000000 b VB.out HCB.out HCB.out (.slice Ab b.f3.length cb) Bb _ ?side1 ?side2).mono ?_
         (case side1 => exact HTb.out.grow HB.out)
         (case side2 => exact fun k hk => Nat.lt_of_lt_of_le (HL.out k (.inr hk)) HB.out.size)
         rw [simp_same 2000000 2000000 b VB.out]; rintro e wc ⟨v6, B6, rfl, hT, hB', hb⟩
         refine ⟨_, rfl, ?_⟩
         have m_ := hb.size
         have NU := Aside0.mk hT
         have NQ := Aside0.mk (fun k (hk : B6 k) => (⟨⟨Nat.le_trans LZ.out ((hB' k hk).1.resolve_left (fun h => h)), fun he => absurd (blk_lt BK6.out) (by have := (hB' k hk).1.resolve_left (fun h => h); omega)⟩, (hB' k hk).2⟩ : (L0 ≤ k ∧ k ≠ g6) ∧ k < wc.heap.size))
         have D56 := Aside0.mk (show ∀ k, B5 k → ¬ B6 k from fun k h5 h6 => absurd (Q5.out k h5).2 (Nat.not_lt.2 ((hB' k h6).1.resolve_left (fun h => h))))
         have n_ := fr3 HB BK2 BK3 BK4 hb
         clear HB BK2 BK3 BK4
         obtain ⟨HB, BK2, BK3, BK4⟩ := n_
         have n_ := Aside0.mk (Nat.le_trans LZ.out (Below.size hb))
         clear LZ
         have LZ := n_
         clear n_
         have n_ := Aside0.mk (blk_below BK6.out hb)
         clear BK6
         have BK6 := n_
         clear n_
         have n_ := Aside0.mk (U5.out.grow hb)
         clear U5
         have U5 := n_
         clear n_
         have n_ := Aside0.mk (q_up Q5.out (Below.size hb))
         clear Q5
         have Q5 := n_
         clear n_
         have U6 := NU
         have Q6 := NQ
         clear NU NQ
         obtain ⟨A6, c6, e6, _⟩ := hT.inv
         subst e6
         clear hT hB' hb m_
         refine hK.out _ _ ⟨BK2.out, BK3.out⟩ (fun hHeld => ?_)
         clear hK K
         refine norm_ (a' := ?_) ?_ ?_
         rotate_left; (show Act.put _ (some 19) _ = _; simp only [Act.put, sq1, sq2, sq3, i64_w, i32_w]; rfl)
         refine one_ (i := 4) (N := some 20) #[true, true, true, true, true, true, false] rfl rfl (by kernel_rfl) (by decide) (fun K hK => ?_)
         refine goes_ Try.func34 (by kernel_rfl) rfl #[.agg #[.int .i64 (simpS 2000000 2000000 a).f0, .int .i64 (simpS 2000000 2000000 a).f1, .string (simpS 2000000 2000000 a).f2, .slice A5 (simpS 2000000 2000000 a).f3.length c5], .agg #[.int .i64 (simpS 2000000 2000000 b).f0, .int .i64 (simpS 2000000 2000000 b).f1, .string (simpS 2000000 2000000 b).f2, .slice A6 (simpS 2000000 2000000 b).f3.length c6]] (by rfl) rfl rfl (by (try simp only [sm1, sm2, sm3]); first | done | rfl) ?_
         with_reducible refine (cat_impl True 2000000 (simpS 2000000 2000000 a) (simpS 2000000 2000000 b) (Nat.le_trans OA.out.2 HCA.out) OA.out.1 OB.out.1 (.slice A5 (simpS 2000000 2000000 a).f3.length c5) (.slice A6 (simpS 2000000 2000000 b).f3.length c6) B5 B6 _ ?side1 ?side2 ?side3 ?side4).mono ?_
         (case side1 => exact U5.out)
         (case side2 => exact U6.out)
         (case side3 => exact fun _ => D56.out)
         (case side4 => exact fun k hk => hk.elim (fun h => (Q5.out k h).2) (fun h => (Q6.out k h).2))
         rw [← HD.out]; rintro e wc ⟨v7, B7, rfl, hT, hB', hb⟩
         refine ⟨_, rfl, ?_⟩
         have NU := Aside0.mk hT
         have NQ := Aside0.mk (fun k (hk : B7 k) => (⟨(hB' k hk).1.elim (fun h => h.elim (fun h => (Q5.out k h).1) (fun h => (Q6.out k h).1)) (fun h => ⟨Nat.le_trans LZ.out h, fun he => absurd (blk_lt BK6.out) (by omega)⟩), (hB' k hk).2⟩ : (L0 ≤ k ∧ k ≠ g6) ∧ k < wc.heap.size))
         have n_ := fr3 HB BK2 BK3 BK4 hb
         clear HB BK2 BK3 BK4
         obtain ⟨HB, BK2, BK3, BK4⟩ := n_
         have n_ := Aside0.mk (Nat.le_trans LZ.out (Below.size hb))
         clear LZ
         have LZ := n_
         clear n_
         have n_ := Aside0.mk (blk_below BK6.out hb)
         clear BK6
         have BK6 := n_
         clear n_
         clear U5 Q5 U6 Q6 D56
         have U7 := NU
         have Q7 := NQ
         clear NU NQ
         obtain ⟨A7, c7, e7, _⟩ := hT.inv
         subst e7
         clear hT hB' hb
         refine hK.out _ _ ⟨BK2.out, BK3.out⟩ (fun hHeld => ?_)
         clear hK K
         refine norm_ (a' := ?_) ?_ ?_
         rotate_left; (show Act.put _ (some 20) _ = _; simp only [Act.put, sq1, sq2, sq3, i64_w, i32_w]; rfl)
         have hq := hJ (.agg #[.int .i64 (simpS 2000000 2000000 a).f0, .int .i64 (simpS 2000000 2000000 a).f1, .string (simpS 2000000 2000000 a).f2, .slice A5 (simpS 2000000 2000000 a).f3.length c5], .agg #[.int .i64 (simpS 2000000 2000000 b).f0, .int .i64 (simpS 2000000 2000000 b).f1, .string (simpS 2000000 2000000 b).f2, .slice A6 (simpS 2000000 2000000 b).f3.length c6], A7, c7, g6) _ ⟨HB, BK2, BK3, BK4, BK6, GE6, B7, U7, ⟨fun k hk => ⟨⟨Nat.le_trans LW.out (Q7.out k hk).1.1, fun he => absurd L44.out (by have := (Q7.out k hk).1.1; omega), (Q7.out k hk).1.2⟩, (Q7.out k hk).2⟩⟩⟩
         simp only [putAll, Act.put, sq1, sq2, sq3, i64_w, i32_w] at hq
         exact hq
       ·refine new_step 30 [.int .i64 0, .int .i64 0, .string (⟨#[]⟩ : ByteArray), .slice none 0 0] (fun m => .pointer (some ⟨m, 0, none⟩)) rfl rfl ?hr ?_
        (case hr => first | (go_simp; done) | (go_simp; rfl))
        intro wn g6 hm hn hb
        have BN := Aside0.mk hn
        have GE6 := Aside0.mk (show w.heap.size ≤ g6 ∧ L0 ≤ g6 from by have := HB.out.size; have := LZ.out; omega)
        have n_ := fr3 HB BK2 BK3 BK4 hb
        clear HB BK2 BK3 BK4
        obtain ⟨HB, BK2, BK3, BK4⟩ := n_
        have n_ := Aside0.mk (Nat.le_trans LZ.out (Below.size hb))
        clear LZ
        have LZ := n_
        clear n_
        have BK6 := BN
        clear BN
        clear hm hn hb
        refine hK.out _ _ ⟨BK2.out, BK3.out⟩ (fun hHeld => ?_)
        clear hK K
        refine norm_ (a' := ?_) ?_ ?_
        rotate_left; (show Act.put _ (some 6) _ = _; simp only [Act.put, sq1, sq2, sq3, i64_w, i32_w]; rfl)
        refine one_ (i := 1) (N := some 17) #[true, true, true, false, false, true, false] rfl rfl (by kernel_rfl) (by decide) (fun K hK => ?_)
        refine goes_ Try.func31 (by kernel_rfl) rfl #[.agg #[.int .i64 a.f0, .int .i64 a.f1, .string a.f2, .slice Aa a.f3.length ca]] (by rfl) rfl rfl (by (try simp only [sm1, sm2, sm3]); first | done | rfl) ?_
        with_reducible refine (simplified_calls 2000000 (Nat.le_refl _) 2000000 a VA.out HCA.out HCA.out (.slice Aa a.f3.length ca) Ba _ ?side1 ?side2).mono ?_
        (case side1 => exact HTa.out.grow HB.out)
        (case side2 => exact fun k hk => Nat.lt_of_lt_of_le (HL.out k (.inl hk)) HB.out.size)
        rw [simp_same 2000000 2000000 a VA.out]; rintro e wc ⟨v5, B5, rfl, hT, hB', hb⟩
        refine ⟨_, rfl, ?_⟩
        have m_ := hb.size
        have NU := Aside0.mk hT
        have NQ := Aside0.mk (fun k (hk : B5 k) => (⟨⟨Nat.le_trans LZ.out ((hB' k hk).1.resolve_left (fun h => h)), fun he => absurd (blk_lt BK6.out) (by have := (hB' k hk).1.resolve_left (fun h => h); omega)⟩, (hB' k hk).2⟩ : (L0 ≤ k ∧ k ≠ g6) ∧ k < wc.heap.size))
        have n_ := fr3 HB BK2 BK3 BK4 hb
        clear HB BK2 BK3 BK4
        obtain ⟨HB, BK2, BK3, BK4⟩ := n_
        have n_ := Aside0.mk (Nat.le_trans LZ.out (Below.size hb))
        clear LZ
        have LZ := n_
        clear n_
        have n_ := Aside0.mk (blk_below BK6.out hb)
        clear BK6
        have BK6 := n_
        clear n_
        have U5 := NU
        have Q5 := NQ
        clear NU NQ
        obtain ⟨A5, c5, e5, _⟩ := hT.inv
        subst e5
        clear hT hB' hb m_
        refine hK.out _ _ ⟨BK2.out, BK3.out⟩ (fun hHeld => ?_)
        clear hK K
        refine norm_ (a' := ?_) ?_ ?_
        rotate_left; (show Act.put _ (some 17) _ = _; simp only [Act.put, sq1, sq2, sq3, i64_w, i32_w]; rfl)
        refine one_ (i := 3) (N := some 19) #[true, true, true, true, false, true, false] rfl rfl (by kernel_rfl) (by decide) (fun K hK => ?_)
        refine goes_ Try.func31 (by kernel_rfl) rfl #[.agg #[.int .i64 b.f0, .int .i64 b.f1, .string b.f2, .slice Ab b.f3.length cb]] (by rfl) rfl rfl (by (try simp only [sm1, sm2, sm3]); first | done | rfl) ?_
        with_reducible refine (simplified_calls 2000000 (Nat.le_refl _) 2000000 b VB.out HCB.out HCB.out (.slice Ab b.f3.length cb) Bb _ ?side1 ?side2).mono ?_
        (case side1 => exact HTb.out.grow HB.out)
        (case side2 => exact fun k hk => Nat.lt_of_lt_of_le (HL.out k (.inr hk)) HB.out.size)
        rw [simp_same 2000000 2000000 b VB.out]; rintro e wc ⟨v6, B6, rfl, hT, hB', hb⟩
        refine ⟨_, rfl, ?_⟩
        have m_ := hb.size
        have NU := Aside0.mk hT
        have NQ := Aside0.mk (fun k (hk : B6 k) => (⟨⟨Nat.le_trans LZ.out ((hB' k hk).1.resolve_left (fun h => h)), fun he => absurd (blk_lt BK6.out) (by have := (hB' k hk).1.resolve_left (fun h => h); omega)⟩, (hB' k hk).2⟩ : (L0 ≤ k ∧ k ≠ g6) ∧ k < wc.heap.size))
        have D56 := Aside0.mk (show ∀ k, B5 k → ¬ B6 k from fun k h5 h6 => absurd (Q5.out k h5).2 (Nat.not_lt.2 ((hB' k h6).1.resolve_left (fun h => h))))
        have n_ := fr3 HB BK2 BK3 BK4 hb
        clear HB BK2 BK3 BK4
        obtain ⟨HB, BK2, BK3, BK4⟩ := n_
        have n_ := Aside0.mk (Nat.le_trans LZ.out (Below.size hb))
        clear LZ
        have LZ := n_
        clear n_
        have n_ := Aside0.mk (blk_below BK6.out hb)
        clear BK6
        have BK6 := n_
        clear n_
        have n_ := Aside0.mk (U5.out.grow hb)
        clear U5
        have U5 := n_
        clear n_
        have n_ := Aside0.mk (q_up Q5.out (Below.size hb))
        clear Q5
        have Q5 := n_
        clear n_
        have U6 := NU
        have Q6 := NQ
        clear NU NQ
        obtain ⟨A6, c6, e6, _⟩ := hT.inv
        subst e6
        clear hT hB' hb m_
        refine hK.out _ _ ⟨BK2.out, BK3.out⟩ (fun hHeld => ?_)
        clear hK K
        refine norm_ (a' := ?_) ?_ ?_
        rotate_left; (show Act.put _ (some 19) _ = _; simp only [Act.put, sq1, sq2, sq3, i64_w, i32_w]; rfl)
        refine one_ (i := 4) (N := some 20) #[true, true, true, true, true, true, false] rfl rfl (by kernel_rfl) (by decide) (fun K hK => ?_)
        refine goes_ Try.func34 (by kernel_rfl) rfl #[.agg #[.int .i64 (simpS 2000000 2000000 a).f0, .int .i64 (simpS 2000000 2000000 a).f1, .string (simpS 2000000 2000000 a).f2, .slice A5 (simpS 2000000 2000000 a).f3.length c5], .agg #[.int .i64 (simpS 2000000 2000000 b).f0, .int .i64 (simpS 2000000 2000000 b).f1, .string (simpS 2000000 2000000 b).f2, .slice A6 (simpS 2000000 2000000 b).f3.length c6]] (by rfl) rfl rfl (by (try simp only [sm1, sm2, sm3]); first | done | rfl) ?_
        with_reducible refine (cat_impl True 2000000 (simpS 2000000 2000000 a) (simpS 2000000 2000000 b) (Nat.le_trans OA.out.2 HCA.out) OA.out.1 OB.out.1 (.slice A5 (simpS 2000000 2000000 a).f3.length c5) (.slice A6 (simpS 2000000 2000000 b).f3.length c6) B5 B6 _ ?side1 ?side2 ?side3 ?side4).mono ?_
        (case side1 => exact U5.out)
        (case side2 => exact U6.out)
        (case side3 => exact fun _ => D56.out)
        (case side4 => exact fun k hk => hk.elim (fun h => (Q5.out k h).2) (fun h => (Q6.out k h).2))
        rw [← HD.out]; rintro e wc ⟨v7, B7, rfl, hT, hB', hb⟩
        refine ⟨_, rfl, ?_⟩
        have NU := Aside0.mk hT
        have NQ := Aside0.mk (fun k (hk : B7 k) => (⟨(hB' k hk).1.elim (fun h => h.elim (fun h => (Q5.out k h).1) (fun h => (Q6.out k h).1)) (fun h => ⟨Nat.le_trans LZ.out h, fun he => absurd (blk_lt BK6.out) (by omega)⟩), (hB' k hk).2⟩ : (L0 ≤ k ∧ k ≠ g6) ∧ k < wc.heap.size))
        have n_ := fr3 HB BK2 BK3 BK4 hb
        clear HB BK2 BK3 BK4
        obtain ⟨HB, BK2, BK3, BK4⟩ := n_
        have n_ := Aside0.mk (Nat.le_trans LZ.out (Below.size hb))
        clear LZ
        have LZ := n_
        clear n_
        have n_ := Aside0.mk (blk_below BK6.out hb)
        clear BK6
        have BK6 := n_
        clear n_
        clear U5 Q5 U6 Q6 D56
        have U7 := NU
        have Q7 := NQ
        clear NU NQ
        obtain ⟨A7, c7, e7, _⟩ := hT.inv
        subst e7
        clear hT hB' hb
        refine hK.out _ _ ⟨BK2.out, BK3.out⟩ (fun hHeld => ?_)
        clear hK K
        refine norm_ (a' := ?_) ?_ ?_
        rotate_left; (show Act.put _ (some 20) _ = _; simp only [Act.put, sq1, sq2, sq3, i64_w, i32_w]; rfl)
        have hq := hJ (.agg #[.int .i64 (simpS 2000000 2000000 a).f0, .int .i64 (simpS 2000000 2000000 a).f1, .string (simpS 2000000 2000000 a).f2, .slice A5 (simpS 2000000 2000000 a).f3.length c5], .agg #[.int .i64 (simpS 2000000 2000000 b).f0, .int .i64 (simpS 2000000 2000000 b).f1, .string (simpS 2000000 2000000 b).f2, .slice A6 (simpS 2000000 2000000 b).f3.length c6], A7, c7, g6) _ ⟨HB, BK2, BK3, BK4, BK6, GE6, B7, U7, ⟨fun k hk => ⟨⟨Nat.le_trans LW.out (Q7.out k hk).1.1, fun he => absurd L44.out (by have := (Q7.out k hk).1.1; omega), (Q7.out k hk).1.2⟩, (Q7.out k hk).2⟩⟩⟩
        simp only [putAll, Act.put, sq1, sq2, sq3, i64_w, i32_w] at hq
        exact hq
      rintro ⟨u5, u6, A7, c7, g6⟩ w' ⟨HB, BK2, BK3, BK4, BK6, GE6, B7, U7, Q7⟩
      refine norm_ (a' := ?_) ?_ ?_
      rotate_left; (simp only [putAll, Act.put, sq1, sq2, sq3, i64_w, i32_w]; rfl)
      refine one_ (i := 6) (N := none) #[true, true, true, true, true, true, true] rfl rfl (by kernel_rfl) (by decide) (fun K hK => ?_)
      refine put_step rfl rfl 30 _ _ rfl g6 0 (.agg #[.int .i64 d.f0, .int .i64 d.f1, .string d.f2, .slice A7 d.f3.length c7]) rfl rfl [.int .i64 d.f0, .int .i64 d.f1, .string d.f2, .slice A7 d.f3.length c7] rfl 30 _ #[.int .i64 d.f0, .int .i64 d.f1, .string d.f2, .slice A7 d.f3.length c7] BK6.out HIP.out (Nat.le_of_ble_eq_true rfl) rfl rfl ?_
      intro w9 hk hoth hbel hz
      have n0_ := Aside0.mk ((hoth g2 (by have := L24.out; have := GE6.out.2; omega)).trans BK2.out)
      have n1_ := Aside0.mk ((hoth g3 (by have := L34.out; have := GE6.out.2; omega)).trans BK3.out)
      have n2_ := Aside0.mk ((hoth g4 (by have := L44.out; have := GE6.out.2; omega)).trans BK4.out)
      have n3_ := Aside0.mk (U7.out.move (fun k hk => hoth k (Q7.out k hk).1.2.2))
      have n4_ := Aside0.mk (fun k hk => (⟨(Q7.out k hk).1, by rw [hz]; exact (Q7.out k hk).2⟩ : (w.heap.size ≤ k ∧ k ≠ g4 ∧ k ≠ g6) ∧ k < w9.heap.size))
      have q_ := Aside0.mk (hbel _ _ HB.out GE6.out.1)
      clear HB BK6 BK2 BK3 BK4 U7 Q7
      have HB := q_
      have BK2 := n0_
      have BK3 := n1_
      have BK4 := n2_
      have U7 := n3_
      have Q7 := n4_
      have BK6 := Aside0.mk hk
      clear q_ hk hoth hbel hz n0_ n1_ n2_ n3_ n4_
      refine hK.out _ _ ⟨BK2.out, BK3.out⟩ (fun hHeld => ?_)
      clear hK K
      refine done_ (by kernel_rfl) ?_
      cases r with
      | false =>
        have HJ := Aside0.mk (HNO.out HRR.out)
        go_wp2_with (first | ((with_reducible refine gate_dst (N := 21) rfl ?_); refine wpList_load_row rfl 30 _ rfl g6 rfl 30 #[.int .i64 d.f0, .int .i64 d.f1, .string d.f2, .slice A7 d.f3.length c7] (0, 0) _ BK6.out huP rfl HIP.out ?_; (try simp only [Act.put, sq1, sq2, sq3])) | ((with_reducible refine gate_callee (f := 24) rfl ?_); refine goesL_ (some 22) rfl rfl Try.func24 (by kernel_rfl) rfl #[.agg #[.int .i64 d.f0, .int .i64 d.f1, .string d.f2, .slice A7 d.f3.length c7]] rfl (by (try simp only [sm1, sm2, sm3]); first | done | rfl) ?_; refine (impl_ValidPattern.calls kd d.f0 d.f1 d.f2 A7 c7 d.f3 false _ (T.C _ _ (Nat.le_refl _) U7.out) U7.out.len HKD.out).mono ?_; rintro e wv ⟨rfl, hb⟩; refine ⟨_, rfl, ?_⟩; have n_ := Aside0.mk (U7.out.grow hb); have m_ := Aside0.mk (fun k hk => (⟨(Q7.out k hk).1, Nat.lt_of_lt_of_le (Q7.out k hk).2 hb.size⟩ : (w.heap.size ≤ k ∧ k ≠ g4 ∧ k ≠ g6) ∧ k < wv.heap.size)); clear U7 Q7; have U7 := n_; have Q7 := m_; clear m_; have n_ := fr2 HB BK4 BK6 hb; clear HB BK4 BK6; obtain ⟨HB, BK4, BK6⟩ := n_; clear n_ hb; (try simp only [Act.put, sq1, sq2, sq3])) | ((with_reducible refine gate_store (t := 30) (p := 4) rfl ?_); refine Go.Proofs.Ytomakpfmghekfaa.RowLaw.put_event rfl 30 _ _ rfl g4 0 (.agg #[.int .i64 0, .int .i64 0, .string (⟨#[]⟩ : ByteArray), .slice none 0 0]) rfl rfl [.int .i64 0, .int .i64 0, .string (⟨#[]⟩ : ByteArray), .slice none 0 0] rfl 30 _ #[.int .i64 0, .int .i64 0, .string (⟨#[]⟩ : ByteArray), .slice none 0 0] BK4.out HIP.out (Nat.le_of_ble_eq_true rfl) rfl rfl ?_; intro w9 hk hoth hbel hz; have q_ := Aside0.mk (hbel _ _ HB.out GE4.out); have HZ := Aside0.mk hz; clear HB BK4 ; have HB := q_; have BK4 := Aside0.mk hk; clear q_ hk hoth hbel hz ; (try simp only [Act.put, sq1, sq2, sq3])))
        refine bodyPost_ret (results_cell_row2 rfl _ _ _ 30 _ (0, 0) _ rfl BK4.out huP rfl (by kernel_rfl) (.bool false) rfl) rfl ?_
        rw [jn_no HJ.out, HJ.out]
        exact ⟨_, rfl, fun _ => False, .nil _ _ _, fun _ h => h.elim, HB.out⟩
      | true =>
        have HJ := Aside0.mk (HYES.out HRR.out)
        go_wp2_with (first | ((with_reducible refine gate_dst (N := 21) rfl ?_); refine wpList_load_row rfl 30 _ rfl g6 rfl 30 #[.int .i64 d.f0, .int .i64 d.f1, .string d.f2, .slice A7 d.f3.length c7] (0, 0) _ BK6.out huP rfl HIP.out ?_; (try simp only [Act.put, sq1, sq2, sq3])) | ((with_reducible refine gate_callee (f := 24) rfl ?_); refine goesL_ (some 22) rfl rfl Try.func24 (by kernel_rfl) rfl #[.agg #[.int .i64 d.f0, .int .i64 d.f1, .string d.f2, .slice A7 d.f3.length c7]] rfl (by (try simp only [sm1, sm2, sm3]); first | done | rfl) ?_; refine (impl_ValidPattern.calls kd d.f0 d.f1 d.f2 A7 c7 d.f3 true _ (T.C _ _ (Nat.le_refl _) U7.out) U7.out.len HKD.out).mono ?_; rintro e wv ⟨rfl, hb⟩; refine ⟨_, rfl, ?_⟩; have n_ := Aside0.mk (U7.out.grow hb); have m_ := Aside0.mk (fun k hk => (⟨(Q7.out k hk).1, Nat.lt_of_lt_of_le (Q7.out k hk).2 hb.size⟩ : (w.heap.size ≤ k ∧ k ≠ g4 ∧ k ≠ g6) ∧ k < wv.heap.size)); clear U7 Q7; have U7 := n_; have Q7 := m_; clear m_; have n_ := fr2 HB BK4 BK6 hb; clear HB BK4 BK6; obtain ⟨HB, BK4, BK6⟩ := n_; clear n_ hb; (try simp only [Act.put, sq1, sq2, sq3])) | ((with_reducible refine gate_dst (N := 25) rfl ?_); refine wpList_load_row rfl 30 _ rfl g6 rfl 30 #[.int .i64 d.f0, .int .i64 d.f1, .string d.f2, .slice A7 d.f3.length c7] (0, 0) _ BK6.out huP rfl HIP.out ?_; (try simp only [Act.put, sq1, sq2, sq3])) | ((with_reducible refine gate_store (t := 30) (p := 4) rfl ?_); refine Go.Proofs.Ytomakpfmghekfaa.RowLaw.put_event rfl 30 _ _ rfl g4 0 (.agg #[.int .i64 d.f0, .int .i64 d.f1, .string d.f2, .slice A7 d.f3.length c7]) rfl rfl [.int .i64 d.f0, .int .i64 d.f1, .string d.f2, .slice A7 d.f3.length c7] rfl 30 _ #[.int .i64 d.f0, .int .i64 d.f1, .string d.f2, .slice A7 d.f3.length c7] BK4.out HIP.out (Nat.le_of_ble_eq_true rfl) rfl rfl ?_; intro w9 hk hoth hbel hz; have q_ := Aside0.mk (hbel _ _ HB.out GE4.out); have n0_ := Aside0.mk (U7.out.move (fun k hk => hoth k (Q7.out k hk).1.2.1)); have HZ := Aside0.mk hz; clear HB BK4 U7; have HB := q_; have BK4 := Aside0.mk hk; have U7 := n0_; clear q_ hk hoth hbel hz n0_; (try simp only [Act.put, sq1, sq2, sq3])))
        refine bodyPost_ret (results_cell_row2 rfl _ _ _ 30 _ (0, 0) _ rfl BK4.out huP rfl (by kernel_rfl) (.bool true) rfl) rfl ?_
        rw [HJ.out.1, HJ.out.2]
        exact ⟨_, rfl, B7, U7.out, fun k hk => ⟨(Q7.out k hk).1.1, by rw [HZ.out]; exact (Q7.out k hk).2⟩, HB.out⟩
end Go.Proofs.Ytomakpfmghekfaa.PFnExactJoinPatterns
