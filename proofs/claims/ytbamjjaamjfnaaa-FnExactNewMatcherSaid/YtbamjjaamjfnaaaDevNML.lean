/- By hand: what the law FnExactNewMatcher reaches beyond the printed texts, and the law's own function. Conditions: none beyond each statement. -/
import Derived.Test.YtbamjjaamjfnaaaProg
import Derived.Below
import Derived.Deep.Draws
import Derived.Deep.AppendLies
import Derived.Maps.AppendAt
import Derived.OwnWalk
import Derived.Laws.BytesArg
import Derived.Laws.MakeOwn
import Derived.Laws.OwnMore
import Derived.Deep.OwnRows
import Derived.Tactics
import Derived.Lib.ConvBytes
import Derived.Laws.Slices
import Derived.WalkKit
import Derived.KernelRfl
import Derived.RowKit3
import Derived.Deep.LoopGhost
import Derived.Deep.QuietTactic
import Derived.BigQuiet
import Derived.WideLaws
import Derived.Deep.DeepCutAuto
import Derived.Deep.CutBlock
import Derived.Deep.RegionHeld3
import Derived.Laws.Rows
import Derived.Lib.AppendStr
import Derived.ArgAppend
import Derived.Laws.IdiomCopy
import Derived.OrdersHeld
import Derived.Laws.BitsLemmas
import Derived.RowKit
import Derived.Lib.SliceRun
import Derived.Test.YtbamjjaamjfnaaaRowLaw
import Derived.Test.YtbamjjaamjfnaaaWWords
import Derived.Test.YtbamjjaamjfnaaaWLast
import Derived.Test.YtbamjjaamjfnaaaWTab
import Derived.Test.YtbamjjaamjfnaaaWFour
import Derived.Test.YtbamjjaamjfnaaaWQPut
import Derived.Test.YtbamjjaamjfnaaaWApart
import Derived.Test.YtbamjjaamjfnaaaWArr
import Derived.Test.YtbamjjaamjfnaaaWZeros
import Derived.Test.YtbamjjaamjfnaaaWFoot
import Derived.Test.YtbamjjaamjfnaaaWKept
import Derived.Test.YtbamjjaamjfnaaaWShare
import Derived.Test.YtbamjjaamjfnaaaWN
import Derived.Test.YtbamjjaamjfnaaaWFootNe
import Derived.Test.YtbamjjaamjfnaaaWAt
import Derived.Test.YtbamjjaamjfnaaaWEqStruct
import Derived.Test.YtbamjjaamjfnaaaWRepsOne
import Derived.Test.YtbamjjaamjfnaaaWInv
import Derived.Test.YtbamjjaamjfnaaaWInvWords
import Derived.Test.YtbamjjaamjfnaaaWGuard
import Derived.Test.YtbamjjaamjfnaaaWNEv
import Derived.Test.YtbamjjaamjfnaaaWMore
import Derived.Test.YtbamjjaamjfnaaaPFnExactNewMatcherx1
import Derived.Test.YtbamjjaamjfnaaaPFnExactNewMatcherx2
import Derived.Test.YtbamjjaamjfnaaaPFnExactNewMatcherx3
import Derived.Test.YtbamjjaamjfnaaaDevNMB
import Derived.Test.YtbamjjaamjfnaaaDevNMP
import Derived.Test.YtbamjjaamjfnaaaRowLaw
namespace Go.Proofs.Ytbamjjaamjfnaaa.PFnExactNewMatcher
open Go.RowKit Go.Proofs.YtbamjjaamjfnaaaW.PrintWords Go.Proofs.YtbamjjaamjfnaaaW.PrintLast Go.Proofs.YtbamjjaamjfnaaaW.PrintMore
attribute [local go_sem] max2_int min2_int max_two min_two max_three min_three max_four min_four
set_option linter.unusedVariables false
set_option linter.unusedSimpArgs false
set_option maxHeartbeats 16000000 in
set_option maxRecDepth 100000 in
theorem law_nm (x : S25) (g : G25 x) (A0 : Option Addr) (c0 : Nat) (A1 : Option Addr) (c1 : Nat) (s : ByteArray) (b : Bool) (w : World) (h0 : Kd.C k72 w A0 x.f0.length x.f0) (l0 : x.f0.length ≤ c0) (h1 : Kd.C k75 w A1 x.f1.length x.f1) (l1 : x.f1.length ≤ c1) (hsz : s.size ≤ 9223372036854775807) :
  Calls Try.prog 5 #[.agg #[.slice A0 x.f0.length c0, .slice A1 x.f1.length c1], .string s, .bool b] w fun e w' => e = .returned (.bool true) ∧ Below w.heap.size w w' := by
 have huM := Try.underlying45
 have huC := Try.underlying31
 have huL := Try.underlying25
 have HIM := As.mk (by kernel_rfl : (Try.prog.info? 45).map (·.size) = some 15)
 have HIC := As.mk (by kernel_rfl : (Try.prog.info? 31).map (·.size) = some 2)
 have HIL := As.mk (by kernel_rfl : (Try.prog.info? 25).map (·.size) = some 2)
 have H0 := As.mk h0
 have L0 := As.mk l0
 have H1 := As.mk h1
 have L1 := As.mk l1
 clear h0 l0 h1 l1
 have HB := As.mk (Below.refl w.heap.size w)
 by_cases hbig : (s.size : Int) > 1048576
 ·skip
  have q1 : decide ((s.size : Int) > 1048576) = true := decide_eq_true (by omega)
  have q2 : decide (1048576 < (s.size : Int)) = true := decide_eq_true (by omega)
  have q3 : decide (1048576 < s.size) = true := decide_eq_true (by omega)
  clear hbig
  go_enter Try.func5, Try.ntmps5
  go_wp2_with (first | ((with_reducible refine gD (N := 3) rfl ?_); refine bX ?hg (N := 3) ?hd (cs := #[.slice A0 x.f0.length c0, .slice A1 x.f1.length c1]) (t := 25) ?hr ?_; (case hd => rfl); (case hg => rfl); (case hr => first | (go_simp; done) | (go_simp; rfl)); intro g1 hg wg1 hbox hb; replace HB := As.mk (bT HB.out hb); have BK1 := As.mk hbox; clear hbox hg hb; (try simp only [Act.put, sq1, sq2, sq3])))
  go_ret
  exact ⟨rfl, HB.out⟩
 have q1 : decide ((s.size : Int) > 1048576) = false := decide_eq_false (by omega)
 have q2 : decide (1048576 < (s.size : Int)) = false := decide_eq_false (by omega)
 have q3 : decide (1048576 < s.size) = false := decide_eq_false (by omega)
 clear hbig hsz
 obtain ⟨lf, hlf, hc⟩ := szPatternCode_ev x g 1048576 (by omega) (by omega)
 obtain ⟨ks, hs⟩ := hlf.rounds
 have HS := As.mk hs
 clear hlf hs
 by_cases hz : lf < 0
 ·have c0t : (lf < 0) = True := eq_true hz
  have c0b : decide (lf < 0) = true := decide_eq_true hz
  clear hz hc
  go_enter Try.func5, Try.ntmps5
  go_wp2_with (first | ((with_reducible refine gD (N := 3) rfl ?_); refine bX ?hg (N := 3) ?hd (cs := #[.slice A0 x.f0.length c0, .slice A1 x.f1.length c1]) (t := 25) ?hr ?_; (case hd => rfl); (case hg => rfl); (case hr => first | (go_simp; done) | (go_simp; rfl)); intro g1 hg wg1 hbox hb; replace HB := As.mk (bT HB.out hb); have BK1 := As.mk hbox; clear hbox hg hb; (try simp only [Act.put, sq1, sq2, sq3])) | ((with_reducible refine gD (N := 21) rfl ?_); (try (refine gG (by rfl) ?_; dsimp only)); refine wpList_load_row rfl 25 _ rfl g1 rfl 25 #[.slice A0 x.f0.length c0, .slice A1 x.f1.length c1] (0, 0) _ BK1.out huL rfl HIL.out ?_; (try simp only [Act.put, sq1, sq2, sq3])) | ((with_reducible refine gC (f := 6) rfl ?_); (with_reducible refine gD (N := 23) rfl ?_); refine gL (some 23) rfl rfl Try.func6 (by kernel_rfl) rfl #[.agg #[.slice A0 x.f0.length c0, .slice A1 x.f1.length c1], .int .i64 1048576] rfl (by (try simp only [sm1, sm2, sm3]); first | done | rfl) ?_; refine (laws_szPatternCode.calls ks A0 c0 x.f0 A1 c1 x.f1 1048576 lf _ (Kd.CB H0.out HB.out) L0.out (Kd.CB H1.out HB.out) L1.out HS.out).mono ?_; rintro e wd ⟨rfl, hb⟩; refine ⟨_, rfl, ?_⟩; replace HB := As.mk (bT HB.out hb); replace BK1 := As.mk (kB BK1.out hb); clear hb; (try simp only [Act.put, sq1, sq2, sq3])))
  go_ret
  exact ⟨rfl, HB.out⟩
 have sm : smallPatternCode x := by
  rcases hc with hc | hc
  ·exact absurd hc hz
  ·exact hc.2.2
 have c0t : (lf < 0) = False := eq_false hz
 have c0b : decide (lf < 0) = false := decide_eq_false hz
 clear hz hc
 obtain ⟨kt, ht⟩ := (toPatternCode_ev x sm).rounds
 obtain ⟨ke, he⟩ := (eqPatternCode_ev x sm).rounds
 obtain ⟨cs, hcs⟩ : ∃ cs, cs = x.f0.map convPatternIns := ⟨_, rfl⟩
 obtain ⟨es, hes⟩ : ∃ es, es = x.f1.map convPatternEntry := ⟨_, rfl⟩
 have hl0 : cs.length ≤ 1048576 := by rw [hcs, List.length_map]; exact sm.1
 have hl1 : es.length ≤ 1048576 := by rw [hes, List.length_map]; exact sm.2
 rw [← hcs, ← hes] at ht he
 clear hcs hes sm
 obtain ⟨v, ev1, ev2⟩ := vpc_same cs es
 obtain ⟨kv, hv1⟩ := ev1.rounds
 obtain ⟨ki, hv2⟩ := ev2.rounds
 obtain ⟨mq, mr, hmq, hmk⟩ := markCode_ev cs es hl0 hl1
 obtain ⟨km, hmk⟩ := hmk.rounds
 obtain ⟨mr1, mr2⟩ := mr
 have HT := As.mk ht
 have HE := As.mk he
 have HV1 := As.mk hv1
 have HV2 := As.mk hv2
 have HM := As.mk hmk
 have cT : (mq < 0) = False := eq_false (by omega)
 have cTb : decide (mq < 0) = false := decide_eq_false (by omega)
 clear ht he hv1 hv2 hmk hmq ev1 ev2 hl0 hl1
 obtain ⟨st, sub, an, code, hN⟩ : ∃ (st : Int) (sub : ByteArray) (an : Bool) (code : Int), (.tuple #[.agg #[.int .i64 st, .int .i64 0, .string sub, .bool an, .int .i64 0, .int .i64 0, .int .i64 0, .int .i64 0, .bool false, .int .i64 0, .int .i64 0, .slice none 0 0, .slice none 0 0, .slice none 0 0, .slice none 0 0], .int .i64 code] : Value) = if v = true ∧ s.size ≤ 200 then .tuple #[.agg #[.int .i64 1, .int .i64 0, .string s, .bool b, .int .i64 0, .int .i64 0, .int .i64 0, .int .i64 0, .bool false, .int .i64 0, .int .i64 0, .slice none 0 0, .slice none 0 0, .slice none 0 0, .slice none 0 0], .int .i64 0] else .tuple #[.agg #[.int .i64 0, .int .i64 0, .string (⟨#[]⟩ : ByteArray), .bool false, .int .i64 0, .int .i64 0, .int .i64 0, .int .i64 0, .bool false, .int .i64 0, .int .i64 0, .slice none 0 0, .slice none 0 0, .slice none 0 0, .slice none 0 0], .int .i64 1] := by
  split
  ·exact ⟨1, s, b, 0, rfl⟩
  ·exact ⟨0, (⟨#[]⟩ : ByteArray), false, 1, rfl⟩
 have HN := As.mk hN
 clear hN
 have cC : (code != code) = false := by simp
 have cD : decide (code = code) = true := decide_eq_true rfl
 go_enter Try.func5, Try.ntmps5
 go_wp2_with (first | ((with_reducible refine gD (N := 3) rfl ?_); refine bX ?hg (N := 3) ?hd (cs := #[.slice A0 x.f0.length c0, .slice A1 x.f1.length c1]) (t := 25) ?hr ?_; (case hd => rfl); (case hg => rfl); (case hr => first | (go_simp; done) | (go_simp; rfl)); intro g1 hg wg1 hbox hb; replace HB := As.mk (bT HB.out hb); have BK1 := As.mk hbox; clear hbox hg hb; (try simp only [Act.put, sq1, sq2, sq3])) | ((with_reducible refine gD (N := 21) rfl ?_); (try (refine gG (by rfl) ?_; dsimp only)); refine wpList_load_row rfl 25 _ rfl g1 rfl 25 #[.slice A0 x.f0.length c0, .slice A1 x.f1.length c1] (0, 0) _ BK1.out huL rfl HIL.out ?_; (try simp only [Act.put, sq1, sq2, sq3])) | ((with_reducible refine gD (N := 27) rfl ?_); (try (refine gG (by rfl) ?_; dsimp only)); refine wpList_load_row rfl 25 _ rfl g1 rfl 25 #[.slice A0 x.f0.length c0, .slice A1 x.f1.length c1] (0, 0) _ BK1.out huL rfl HIL.out ?_; (try simp only [Act.put, sq1, sq2, sq3])) | ((with_reducible refine gD (N := 34) rfl ?_); (try (refine gG (by rfl) ?_; dsimp only)); refine wpList_load_row rfl 25 _ rfl g1 rfl 25 #[.slice A0 x.f0.length c0, .slice A1 x.f1.length c1] (0, 0) _ BK1.out huL rfl HIL.out ?_; (try simp only [Act.put, sq1, sq2, sq3])) | ((with_reducible refine gC (f := 6) rfl ?_); (with_reducible refine gD (N := 23) rfl ?_); refine gL (some 23) rfl rfl Try.func6 (by kernel_rfl) rfl #[.agg #[.slice A0 x.f0.length c0, .slice A1 x.f1.length c1], .int .i64 1048576] rfl (by (try simp only [sm1, sm2, sm3]); first | done | rfl) ?_; refine (laws_szPatternCode.calls ks A0 c0 x.f0 A1 c1 x.f1 1048576 lf _ (Kd.CB H0.out HB.out) L0.out (Kd.CB H1.out HB.out) L1.out HS.out).mono ?_; rintro e wd ⟨rfl, hb⟩; refine ⟨_, rfl, ?_⟩; replace HB := As.mk (bT HB.out hb); replace BK1 := As.mk (kB BK1.out hb); clear hb; (try simp only [Act.put, sq1, sq2, sq3])) | ((with_reducible refine gC (f := 8) rfl ?_); (with_reducible refine gD (N := 28) rfl ?_); refine gL (some 28) rfl rfl Try.func8 (by kernel_rfl) rfl #[.agg #[.slice A0 x.f0.length c0, .slice A1 x.f1.length c1]] rfl (by (try simp only [sm1, sm2, sm3]); first | done | rfl) ?_; refine (laws_toPatternCode.calls kt A0 c0 x.f0 A1 c1 x.f1 cs es _ (Kd.CB H0.out HB.out) L0.out (Kd.CB H1.out HB.out) L1.out HT.out).mono ?_; rintro e wd ⟨va2, vb2, rfl, ho0, ho1, hb⟩; refine ⟨_, rfl, ?_⟩; obtain ⟨A2a, c2a, e2a⟩ := Kd.R_slice ho0; subst e2a; obtain ⟨A2b, c2b, e2b⟩ := Kd.R_slice ho1; subst e2b; have Ja2 := As.mk ho0; have Jb2 := As.mk ho1; replace HB := As.mk (bT HB.out hb); replace BK1 := As.mk (kB BK1.out hb); clear ho0 ho1 hb; (try simp only [Act.put, sq1, sq2, sq3])) | ((with_reducible refine gC (f := 17) rfl ?_); (with_reducible refine gD (N := 31) rfl ?_); refine gL (some 31) rfl rfl Try.func17 (by kernel_rfl) rfl #[.agg #[.slice A2a cs.length c2a, .slice A2b es.length c2b], .string s, .bool b] rfl (by (try simp only [sm1, sm2, sm3]); first | done | rfl) ?_; refine (spec_new kv A2a c2a cs A2b c2b es s b v _ (Kd.RR Ja2.out).2.2 (Kd.RR Ja2.out).2.1 (Kd.RR Jb2.out).2.2 (Kd.RR Jb2.out).2.1 HV1.out (.tuple #[.agg #[.int .i64 st, .int .i64 0, .string sub, .bool an, .int .i64 0, .int .i64 0, .int .i64 0, .int .i64 0, .bool false, .int .i64 0, .int .i64 0, .slice none 0 0, .slice none 0 0, .slice none 0 0, .slice none 0 0], .int .i64 code]) HN).mono ?_; rintro e wd ⟨rfl, hb⟩; refine ⟨_, rfl, ?_⟩; replace HB := As.mk (bT HB.out hb); replace BK1 := As.mk (kB BK1.out hb); clear hb; (try simp only [Act.put, sq1, sq2, sq3])) | ((with_reducible refine gD (N := 8) rfl ?_); refine bX ?hg (N := 8) ?hd (cs := #[.int .i64 0, .int .i64 0, .string (⟨#[]⟩ : ByteArray), .bool false, .int .i64 0, .int .i64 0, .int .i64 0, .int .i64 0, .bool false, .int .i64 0, .int .i64 0, .slice none 0 0, .slice none 0 0, .slice none 0 0, .slice none 0 0]) (t := 45) ?hr ?_; (case hd => rfl); (case hg => rfl); (case hr => first | (go_simp; done) | (go_simp; rfl)); intro g2 hg wg2 hbox hb; have HX := As.mk hb; have HGE := As.mk (Nat.le_of_eq hg.symm); have BKn := As.mk hbox; clear hg hbox hb; (try simp only [Act.put, sq1, sq2, sq3])) | ((with_reducible refine gS (t := 45) (p := 8) rfl ?_); refine Go.Proofs.Ytbamjjaamjfnaaa.RowLaw.put_event rfl 45 _ _ rfl g2 0 (.agg #[.int .i64 st, .int .i64 0, .string sub, .bool an, .int .i64 0, .int .i64 0, .int .i64 0, .int .i64 0, .bool false, .int .i64 0, .int .i64 0, .slice none 0 0, .slice none 0 0, .slice none 0 0, .slice none 0 0]) rfl rfl [.int .i64 st, .int .i64 0, .string sub, .bool an, .int .i64 0, .int .i64 0, .int .i64 0, .int .i64 0, .bool false, .int .i64 0, .int .i64 0, .slice none 0 0, .slice none 0 0, .slice none 0 0, .slice none 0 0] rfl 45 _ #[.int .i64 st, .int .i64 0, .string sub, .bool an, .int .i64 0, .int .i64 0, .int .i64 0, .int .i64 0, .bool false, .int .i64 0, .int .i64 0, .slice none 0 0, .slice none 0 0, .slice none 0 0, .slice none 0 0] BKn.out HIM.out (Nat.le_of_ble_eq_true rfl) rfl rfl ?_; intro wp8 hk hoth hbel hz; have hb := hbel _ _ HX.out HGE.out; replace HB := As.mk (bT HB.out hb); replace BK1 := As.mk (kB BK1.out hb); have BK2 := As.mk hk; clear hk hoth hbel hz hb HX HGE BKn; (try simp only [Act.put, sq1, sq2, sq3])) | ((with_reducible refine gC (f := 8) rfl ?_); (with_reducible refine gD (N := 35) rfl ?_); refine gL (some 35) rfl rfl Try.func8 (by kernel_rfl) rfl #[.agg #[.slice A0 x.f0.length c0, .slice A1 x.f1.length c1]] rfl (by (try simp only [sm1, sm2, sm3]); first | done | rfl) ?_; refine (laws_toPatternCode.calls kt A0 c0 x.f0 A1 c1 x.f1 cs es _ (Kd.CB H0.out HB.out) L0.out (Kd.CB H1.out HB.out) L1.out HT.out).mono ?_; rintro e wd ⟨va3, vb3, rfl, ho0, ho1, hb⟩; refine ⟨_, rfl, ?_⟩; obtain ⟨A3a, c3a, e3a⟩ := Kd.R_slice ho0; subst e3a; obtain ⟨A3b, c3b, e3b⟩ := Kd.R_slice ho1; subst e3b; have Ja3 := As.mk (Kd.R_lower ho0 HB.out.size); have Jb3 := As.mk (Kd.R_lower ho1 HB.out.size); replace HB := As.mk (bT HB.out hb); replace BK1 := As.mk (kB BK1.out hb); replace BK2 := As.mk (kB BK2.out hb); clear ho0 ho1 hb; (try simp only [Act.put, sq1, sq2, sq3])) | ((with_reducible refine gD (N := 10) rfl ?_); refine bX ?hg (N := 10) ?hd (cs := #[.slice none 0 0, .slice none 0 0]) (t := 31) ?hr ?_; (case hd => rfl); (case hg => rfl); (case hr => first | (go_simp; done) | (go_simp; rfl)); intro g3 hg wg3 hbox hb; have HX := As.mk hb; have HGE := As.mk (Nat.le_of_eq hg.symm); have BKn := As.mk hbox; clear hg hbox hb; (try simp only [Act.put, sq1, sq2, sq3])) | ((with_reducible refine gS (t := 31) (p := 10) rfl ?_); refine Go.Proofs.Ytbamjjaamjfnaaa.RowLaw.put_event rfl 31 _ _ rfl g3 0 (.agg #[.slice A3a cs.length c3a, .slice A3b es.length c3b]) rfl rfl [.slice A3a cs.length c3a, .slice A3b es.length c3b] rfl 31 _ #[.slice A3a cs.length c3a, .slice A3b es.length c3b] BKn.out HIC.out (Nat.le_of_ble_eq_true rfl) rfl rfl ?_; intro wp10 hk hoth hbel hz; have hb := hbel _ _ HX.out HGE.out; replace HB := As.mk (bT HB.out hb); replace BK1 := As.mk (kB BK1.out hb); replace BK2 := As.mk (kB BK2.out hb); replace Ja3 := As.mk (Kd.R_below Ja3.out hb); replace Jb3 := As.mk (Kd.R_below Jb3.out hb); have BK3 := As.mk hk; clear hk hoth hbel hz hb HX HGE BKn; (try simp only [Act.put, sq1, sq2, sq3])) | ((with_reducible refine gD (N := 37) rfl ?_); (try (refine gG (by rfl) ?_; dsimp only)); refine wpList_load_row rfl 31 _ rfl g3 rfl 31 #[.slice A3a cs.length c3a, .slice A3b es.length c3b] (0, 0) _ BK3.out huC rfl HIC.out ?_; (try simp only [Act.put, sq1, sq2, sq3])) | ((with_reducible refine gC (f := 18) rfl ?_); (with_reducible refine gD (N := 40) rfl ?_); refine gL (some 40) rfl rfl Try.func18 (by kernel_rfl) rfl #[.agg #[.slice A3a cs.length c3a, .slice A3b es.length c3b], .string s, .bool b] rfl (by (try simp only [sm1, sm2, sm3]); first | done | rfl) ?_; refine (impl_new ki A3a c3a cs A3b c3b es s b v _ (Kd.RR Ja3.out).2.2 (Kd.RR Ja3.out).2.1 (Kd.RR Jb3.out).2.2 (Kd.RR Jb3.out).2.1 HV2.out (.tuple #[.agg #[.int .i64 st, .int .i64 0, .string sub, .bool an, .int .i64 0, .int .i64 0, .int .i64 0, .int .i64 0, .bool false, .int .i64 0, .int .i64 0, .slice none 0 0, .slice none 0 0, .slice none 0 0, .slice none 0 0], .int .i64 code]) HN).mono ?_; rintro e wd ⟨rfl, hb⟩; refine ⟨_, rfl, ?_⟩; replace HB := As.mk (bT HB.out hb); replace BK1 := As.mk (kB BK1.out hb); replace BK2 := As.mk (kB BK2.out hb); replace Ja3 := As.mk (Kd.R_below Ja3.out hb); replace Jb3 := As.mk (Kd.R_below Jb3.out hb); replace BK3 := As.mk (kB BK3.out hb); clear hb; (try simp only [Act.put, sq1, sq2, sq3])) | ((with_reducible refine gD (N := 11) rfl ?_); refine bX ?hg (N := 11) ?hd (cs := #[.int .i64 0, .int .i64 0, .string (⟨#[]⟩ : ByteArray), .bool false, .int .i64 0, .int .i64 0, .int .i64 0, .int .i64 0, .bool false, .int .i64 0, .int .i64 0, .slice none 0 0, .slice none 0 0, .slice none 0 0, .slice none 0 0]) (t := 45) ?hr ?_; (case hd => rfl); (case hg => rfl); (case hr => first | (go_simp; done) | (go_simp; rfl)); intro g4 hg wg4 hbox hb; have HX := As.mk hb; have HGE := As.mk (Nat.le_of_eq hg.symm); have BKn := As.mk hbox; clear hg hbox hb; (try simp only [Act.put, sq1, sq2, sq3])) | ((with_reducible refine gS (t := 45) (p := 11) rfl ?_); refine Go.Proofs.Ytbamjjaamjfnaaa.RowLaw.put_event rfl 45 _ _ rfl g4 0 (.agg #[.int .i64 st, .int .i64 0, .string sub, .bool an, .int .i64 0, .int .i64 0, .int .i64 0, .int .i64 0, .bool false, .int .i64 0, .int .i64 0, .slice none 0 0, .slice none 0 0, .slice none 0 0, .slice none 0 0]) rfl rfl [.int .i64 st, .int .i64 0, .string sub, .bool an, .int .i64 0, .int .i64 0, .int .i64 0, .int .i64 0, .bool false, .int .i64 0, .int .i64 0, .slice none 0 0, .slice none 0 0, .slice none 0 0, .slice none 0 0] rfl 45 _ #[.int .i64 st, .int .i64 0, .string sub, .bool an, .int .i64 0, .int .i64 0, .int .i64 0, .int .i64 0, .bool false, .int .i64 0, .int .i64 0, .slice none 0 0, .slice none 0 0, .slice none 0 0, .slice none 0 0] BKn.out HIM.out (Nat.le_of_ble_eq_true rfl) rfl rfl ?_; intro wp11 hk hoth hbel hz; have hb := hbel _ _ HX.out HGE.out; replace HB := As.mk (bT HB.out hb); replace BK1 := As.mk (kB BK1.out hb); replace BK2 := As.mk (kB BK2.out hb); replace Ja3 := As.mk (Kd.R_below Ja3.out hb); replace Jb3 := As.mk (Kd.R_below Jb3.out hb); replace BK3 := As.mk (kB BK3.out hb); have BK4 := As.mk hk; clear hk hoth hbel hz hb HX HGE BKn; (try simp only [Act.put, sq1, sq2, sq3])) | ((with_reducible refine gD (N := 43) rfl ?_); (try (refine gG (by rfl) ?_; dsimp only)); refine wpList_load_row rfl 45 _ rfl g4 rfl 45 #[.int .i64 st, .int .i64 0, .string sub, .bool an, .int .i64 0, .int .i64 0, .int .i64 0, .int .i64 0, .bool false, .int .i64 0, .int .i64 0, .slice none 0 0, .slice none 0 0, .slice none 0 0, .slice none 0 0] (0, 0) _ BK4.out huM rfl HIM.out ?_; (try simp only [Act.put, sq1, sq2, sq3])) | ((with_reducible refine gD (N := 44) rfl ?_); (try (refine gG (by rfl) ?_; dsimp only)); refine wpList_load_row rfl 45 _ rfl g2 rfl 45 #[.int .i64 st, .int .i64 0, .string sub, .bool an, .int .i64 0, .int .i64 0, .int .i64 0, .int .i64 0, .bool false, .int .i64 0, .int .i64 0, .slice none 0 0, .slice none 0 0, .slice none 0 0, .slice none 0 0] (0, 0) _ BK2.out huM rfl HIM.out ?_; (try simp only [Act.put, sq1, sq2, sq3])) | ((with_reducible refine gC (f := 19) rfl ?_); (with_reducible refine gD (N := 45) rfl ?_); refine gL (some 45) rfl rfl Try.func19 (by kernel_rfl) rfl #[.agg #[.int .i64 st, .int .i64 0, .string sub, .bool an, .int .i64 0, .int .i64 0, .int .i64 0, .int .i64 0, .bool false, .int .i64 0, .int .i64 0, .slice none 0 0, .slice none 0 0, .slice none 0 0, .slice none 0 0], .agg #[.int .i64 st, .int .i64 0, .string sub, .bool an, .int .i64 0, .int .i64 0, .int .i64 0, .int .i64 0, .bool false, .int .i64 0, .int .i64 0, .slice none 0 0, .slice none 0 0, .slice none 0 0, .slice none 0 0]] rfl (by (try simp only [sm1, sm2, sm3]); first | done | rfl) ?_; refine (eqM st sub an _).mono ?_; rintro e wd ⟨rfl, hb⟩; refine ⟨_, rfl, ?_⟩; replace HB := As.mk (bT HB.out hb); replace BK1 := As.mk (kB BK1.out hb); replace BK2 := As.mk (kB BK2.out hb); replace Ja3 := As.mk (Kd.R_below Ja3.out hb); replace Jb3 := As.mk (Kd.R_below Jb3.out hb); replace BK3 := As.mk (kB BK3.out hb); replace BK4 := As.mk (kB BK4.out hb); clear hb; (try simp only [Act.put, sq1, sq2, sq3])))
 replace HB := As.mk (bT HB.out (bE (Below.refl _ _)))
 replace BK1 := As.mk (kB BK1.out (bE (Below.refl _ _)))
 replace BK2 := As.mk (kB BK2.out (bE (Below.refl _ _)))
 replace Ja3 := As.mk (Kd.R_below Ja3.out (bE (Below.refl _ _)))
 replace Jb3 := As.mk (Kd.R_below Jb3.out (bE (Below.refl _ _)))
 replace BK3 := As.mk (kB BK3.out (bE (Below.refl _ _)))
 replace BK4 := As.mk (kB BK4.out (bE (Below.refl _ _)))
 refine start_ (n := 5) (S := fun w' => w'.heap[g3]? = some (.cells #[.slice A3a cs.length c3a, .slice A3b es.length c3b] 31 (0, 0)) ∧ w'.heap[g1]? = some (.cells #[.slice A0 x.f0.length c0, .slice A1 x.f1.length c1] 25 (0, 0))) (ds := []) #[false, false, false, false, false] (by kernel_rfl) rfl rfl ⟨BK3.out, BK1.out⟩ (fun hHeld => ?_)
 generalize _root_.Go.World.drew _ = wd at HB BK1 BK2 Ja3 Jb3 BK3 BK4 hHeld ⊢
 refine take_ (i := 0) (N := some 52) (v := .agg #[.slice A3a cs.length c3a, .slice A3b es.length c3b]) (a' := ?_) #[true, false, false, false, false] rfl rfl (by kernel_rfl) (fun _ _ _ h => h) (Or.inl ⟨by rfl, fun w' s => Go.Proofs.Ytbamjjaamjfnaaa.RowLaw.load_run 31 _ rfl g3 rfl 31 _ _ s.1 huC rfl HIC.out⟩) hHeld ?_ ?_
 rotate_left
 ·simp only [Act.put, sq1, sq2, sq3, i64_w, i32_w]
  rfl
 refine take_ (i := 1) (N := some 53) (v := .agg #[.slice A0 x.f0.length c0, .slice A1 x.f1.length c1]) (a' := ?_) #[true, true, false, false, false] rfl rfl (by kernel_rfl) (fun _ _ _ h => h) (Or.inl ⟨by rfl, fun w' s => Go.Proofs.Ytbamjjaamjfnaaa.RowLaw.load_run 25 _ rfl g1 rfl 25 _ _ s.2 huL rfl HIL.out⟩) hHeld ?_ ?_
 rotate_left
 ·simp only [Act.put, sq1, sq2, sq3, i64_w, i32_w]
  rfl
 refine one_ (i := 2) (N := some 54) #[true, true, true, false, false] rfl rfl (by kernel_rfl) (by decide) (fun K hK => ?_)
 refine goes_ Try.func8 (by kernel_rfl) rfl #[.agg #[.slice A0 x.f0.length c0, .slice A1 x.f1.length c1]] (by rfl) rfl rfl (by (try simp only [sm1, sm2, sm3]); first | done | rfl) ?_
 with_reducible refine (laws_toPatternCode.calls kt A0 c0 x.f0 A1 c1 x.f1 cs es _ ?side1 ?side2 ?side3 ?side4 HT.out).mono ?_
 (case side1 => exact Kd.CB H0.out HB.out)
 (case side2 => exact L0.out)
 (case side3 => exact Kd.CB H1.out HB.out)
 (case side4 => exact L1.out)
 rintro e wc ⟨va5, vb5, rfl, ho0, ho1, hb⟩
 refine ⟨_, rfl, ?_⟩
 obtain ⟨A5a, c5a, e5a⟩ := Kd.R_slice ho0
 subst e5a
 obtain ⟨A5b, c5b, e5b⟩ := Kd.R_slice ho1
 subst e5b
 have Ja5 := As.mk ho0
 have Jb5 := As.mk ho1
 replace HB := As.mk (bT HB.out hb)
 replace BK1 := As.mk (kB BK1.out hb)
 replace BK2 := As.mk (kB BK2.out hb)
 replace Ja3 := As.mk (Kd.R_below Ja3.out hb)
 replace Jb3 := As.mk (Kd.R_below Jb3.out hb)
 replace BK3 := As.mk (kB BK3.out hb)
 replace BK4 := As.mk (kB BK4.out hb)
 clear ho0 ho1 hb
 refine hK.out _ _ ⟨BK3.out, BK1.out⟩ (fun hHeld => ?_)
 clear hK K
 refine norm_ (a' := ?_) ?_ ?_
 rotate_left
 ·show Act.put _ (some 54) _ = _
  simp only [Act.put, sq1, sq2, sq3, i64_w, i32_w]
  rfl
 refine one_ (i := 3) (N := some 55) #[true, true, true, true, false] rfl rfl (by kernel_rfl) (by decide) (fun K hK => ?_)
 refine goes_ Try.func10 (by kernel_rfl) rfl #[.agg #[.slice A3a cs.length c3a, .slice A3b es.length c3b], .agg #[.slice A5a cs.length c5a, .slice A5b es.length c5b]] (by rfl) rfl rfl (by (try simp only [sm1, sm2, sm3]); first | done | rfl) ?_
 with_reducible refine (laws_eqPatternCode.calls ke A3a c3a cs A3b c3b es A5a c5a cs A5b c5b es true _ ?side1 ?side2 ?side3 ?side4 ?side5 ?side6 ?side7 ?side8 HE.out).mono ?_
 (case side1 => exact (Kd.RR Ja3.out).2.2)
 (case side2 => exact (Kd.RR Ja3.out).2.1)
 (case side3 => exact (Kd.RR Jb3.out).2.2)
 (case side4 => exact (Kd.RR Jb3.out).2.1)
 (case side5 => exact (Kd.RR Ja5.out).2.2)
 (case side6 => exact (Kd.RR Ja5.out).2.1)
 (case side7 => exact (Kd.RR Jb5.out).2.2)
 (case side8 => exact (Kd.RR Jb5.out).2.1)
 rintro e we ⟨rfl, hb⟩
 refine ⟨_, rfl, ?_⟩
 replace HB := As.mk (bT HB.out hb)
 replace BK1 := As.mk (kB BK1.out hb)
 replace BK2 := As.mk (kB BK2.out hb)
 replace Ja3 := As.mk (Kd.R_below Ja3.out hb)
 replace Jb3 := As.mk (Kd.R_below Jb3.out hb)
 replace BK3 := As.mk (kB BK3.out hb)
 replace BK4 := As.mk (kB BK4.out hb)
 clear hb Ja5 Jb5
 refine hK.out _ _ ⟨BK3.out, BK1.out⟩ (fun hHeld => ?_)
 clear hK K
 refine norm_ (a' := ?_) ?_ ?_
 rotate_left
 ·show Act.put _ (some 55) _ = _
  simp only [Act.put, sq1, sq2, sq3, i64_w, i32_w]
  rfl
 refine pure_ (i := 4) (N := some 56) (v := ?_) (a' := ?_) #[true, true, true, true, true] rfl rfl (by kernel_rfl) (fun _ _ _ h => h) (Or.inl ⟨by rfl, ?_⟩) ?_ ?_
 rotate_left
 ·intro w'
  go_simp
  with_reducible rfl
 rotate_left
 ·simp only [Act.put, sq1, sq2, sq3, i64_w, i32_w]
  rfl
 refine done_ (by kernel_rfl) ?_
 go_wp2_with (first | ((with_reducible refine gD (N := 57) rfl ?_); (try (refine gG (by rfl) ?_; dsimp only)); refine wpList_load_row rfl 31 _ rfl g3 rfl 31 #[.slice A3a cs.length c3a, .slice A3b es.length c3b] (0, 0) _ BK3.out huC rfl HIC.out ?_; (try simp only [Act.put, sq1, sq2, sq3])) | ((with_reducible refine gC (f := 14) rfl ?_); (with_reducible refine gD (N := 59) rfl ?_); refine gL (some 59) rfl rfl Try.func14 (by kernel_rfl) rfl #[.agg #[.slice A3a cs.length c3a, .slice A3b es.length c3b], .int .i64 1] rfl (by (try simp only [sm1, sm2, sm3]); first | done | rfl) ?_; refine (laws_markPatternCode.calls km (fun k_ => some k_ = (.slice A3a cs.length c3a : Value).ownBlock) (.slice A3a cs.length c3a) cs (fun k_ => some k_ = (.slice A3b es.length c3b : Value).ownBlock) (.slice A3b es.length c3b) es 1 mq mr1 mr2 w _ HB.out (Kd.R_tight rfl Ja3.out) (Kd.R_tight rfl Jb3.out) HM.out).mono ?_; rintro e wm ⟨rfl, hy0, hy1, hb, hkp⟩; refine ⟨_, rfl, ?_⟩; replace BK1 := As.mk (blk_kept BK1.out hkp (fun hs_ => Or.elim hs_ (fun e_ => (Kd.R_ne Ja3.out BK1.out (by decide)) e_) (fun e_ => (Kd.R_ne Jb3.out BK1.out (by decide)) e_))); replace BK2 := As.mk (blk_kept BK2.out hkp (fun hs_ => Or.elim hs_ (fun e_ => (Kd.R_ne Ja3.out BK2.out (by decide)) e_) (fun e_ => (Kd.R_ne Jb3.out BK2.out (by decide)) e_))); replace BK4 := As.mk (blk_kept BK4.out hkp (fun hs_ => Or.elim hs_ (fun e_ => (Kd.R_ne Ja3.out BK4.out (by decide)) e_) (fun e_ => (Kd.R_ne Jb3.out BK4.out (by decide)) e_))); replace HB := As.mk (hb); clear hb hkp hy0 hy1 Ja3 Jb3 BK3; (try simp only [Act.put, sq1, sq2, sq3])) | ((with_reducible refine gD (N := 63) rfl ?_); (try (refine gG (by rfl) ?_; dsimp only)); refine wpList_load_row rfl 45 _ rfl g4 rfl 45 #[.int .i64 st, .int .i64 0, .string sub, .bool an, .int .i64 0, .int .i64 0, .int .i64 0, .int .i64 0, .bool false, .int .i64 0, .int .i64 0, .slice none 0 0, .slice none 0 0, .slice none 0 0, .slice none 0 0] (0, 0) _ BK4.out huM rfl HIM.out ?_; (try simp only [Act.put, sq1, sq2, sq3])) | ((with_reducible refine gD (N := 64) rfl ?_); (try (refine gG (by rfl) ?_; dsimp only)); refine wpList_load_row rfl 45 _ rfl g2 rfl 45 #[.int .i64 st, .int .i64 0, .string sub, .bool an, .int .i64 0, .int .i64 0, .int .i64 0, .int .i64 0, .bool false, .int .i64 0, .int .i64 0, .slice none 0 0, .slice none 0 0, .slice none 0 0, .slice none 0 0] (0, 0) _ BK2.out huM rfl HIM.out ?_; (try simp only [Act.put, sq1, sq2, sq3])) | ((with_reducible refine gC (f := 19) rfl ?_); (with_reducible refine gD (N := 65) rfl ?_); refine gG (by rfl) ?_; dsimp only; refine gL (some 65) rfl rfl Try.func19 (by kernel_rfl) rfl #[.agg #[.int .i64 st, .int .i64 0, .string sub, .bool an, .int .i64 0, .int .i64 0, .int .i64 0, .int .i64 0, .bool false, .int .i64 0, .int .i64 0, .slice none 0 0, .slice none 0 0, .slice none 0 0, .slice none 0 0], .agg #[.int .i64 st, .int .i64 0, .string sub, .bool an, .int .i64 0, .int .i64 0, .int .i64 0, .int .i64 0, .bool false, .int .i64 0, .int .i64 0, .slice none 0 0, .slice none 0 0, .slice none 0 0, .slice none 0 0]] rfl (by (try simp only [sm1, sm2, sm3]); first | done | rfl) ?_; refine (eqM st sub an _).mono ?_; rintro e wd ⟨rfl, hb⟩; refine ⟨_, rfl, ?_⟩; replace HB := As.mk (bT HB.out hb); replace BK1 := As.mk (kB BK1.out hb); replace BK2 := As.mk (kB BK2.out hb); replace BK4 := As.mk (kB BK4.out hb); clear hb; (try simp only [Act.put, sq1, sq2, sq3])) | ((with_reducible refine gD (N := 73) rfl ?_); (try (refine gG (by rfl) ?_; dsimp only)); refine wpList_load_row rfl 45 _ rfl g4 rfl 45 #[.int .i64 st, .int .i64 0, .string sub, .bool an, .int .i64 0, .int .i64 0, .int .i64 0, .int .i64 0, .bool false, .int .i64 0, .int .i64 0, .slice none 0 0, .slice none 0 0, .slice none 0 0, .slice none 0 0] (0, 0) _ BK4.out huM rfl HIM.out ?_; (try simp only [Act.put, sq1, sq2, sq3])) | ((with_reducible refine gC (f := 20) rfl ?_); (with_reducible refine gD (N := 75) rfl ?_); refine gL (some 75) rfl rfl Try.func20 (by kernel_rfl) rfl #[.agg #[.int .i64 st, .int .i64 0, .string sub, .bool an, .int .i64 0, .int .i64 0, .int .i64 0, .int .i64 0, .bool false, .int .i64 0, .int .i64 0, .slice none 0 0, .slice none 0 0, .slice none 0 0, .slice none 0 0], .int .i64 1] rfl (by (try simp only [sm1, sm2, sm3]); first | done | rfl) ?_; refine (mkM st sub an _).mono ?_; rintro e wd ⟨rfl, hb⟩; refine ⟨_, rfl, ?_⟩; replace HB := As.mk (bT HB.out hb); replace BK1 := As.mk (kB BK1.out hb); replace BK2 := As.mk (kB BK2.out hb); replace BK4 := As.mk (kB BK4.out hb); clear hb; (try simp only [Act.put, sq1, sq2, sq3])) | ((with_reducible refine gD (N := 76) rfl ?_); (try (refine gG (by rfl) ?_; dsimp only)); refine wpList_load_row rfl 45 _ rfl g4 rfl 45 #[.int .i64 st, .int .i64 0, .string sub, .bool an, .int .i64 0, .int .i64 0, .int .i64 0, .int .i64 0, .bool false, .int .i64 0, .int .i64 0, .slice none 0 0, .slice none 0 0, .slice none 0 0, .slice none 0 0] (0, 0) _ BK4.out huM rfl HIM.out ?_; (try simp only [Act.put, sq1, sq2, sq3])) | ((with_reducible refine gC (f := 21) rfl ?_); (with_reducible refine gD (N := 78) rfl ?_); refine gL (some 78) rfl rfl Try.func21 (by kernel_rfl) rfl #[.agg #[.int .i64 st, .int .i64 0, .string sub, .bool an, .int .i64 0, .int .i64 0, .int .i64 0, .int .i64 0, .bool false, .int .i64 0, .int .i64 0, .slice none 0 0, .slice none 0 0, .slice none 0 0, .slice none 0 0], .int .i64 1] rfl (by (try simp only [sm1, sm2, sm3]); first | done | rfl) ?_; refine (hdM st sub an _).mono ?_; rintro e wd ⟨rfl, hb⟩; refine ⟨_, rfl, ?_⟩; replace HB := As.mk (bT HB.out hb); replace BK1 := As.mk (kB BK1.out hb); replace BK2 := As.mk (kB BK2.out hb); replace BK4 := As.mk (kB BK4.out hb); clear hb; (try simp only [Act.put, sq1, sq2, sq3])) | ((with_reducible refine gD (N := 85) rfl ?_); (try (refine gG (by rfl) ?_; dsimp only)); refine wpList_load_row rfl 25 _ rfl g1 rfl 25 #[.slice A0 x.f0.length c0, .slice A1 x.f1.length c1] (0, 0) _ BK1.out huL rfl HIL.out ?_; (try simp only [Act.put, sq1, sq2, sq3])) | ((with_reducible refine gC (f := 8) rfl ?_); (with_reducible refine gD (N := 86) rfl ?_); refine gL (some 86) rfl rfl Try.func8 (by kernel_rfl) rfl #[.agg #[.slice A0 x.f0.length c0, .slice A1 x.f1.length c1]] rfl (by (try simp only [sm1, sm2, sm3]); first | done | rfl) ?_; refine (laws_toPatternCode.calls kt A0 c0 x.f0 A1 c1 x.f1 cs es _ (Kd.CB H0.out HB.out) L0.out (Kd.CB H1.out HB.out) L1.out HT.out).mono ?_; rintro e wd ⟨va6, vb6, rfl, ho0, ho1, hb⟩; refine ⟨_, rfl, ?_⟩; obtain ⟨A6a, c6a, e6a⟩ := Kd.R_slice ho0; subst e6a; obtain ⟨A6b, c6b, e6b⟩ := Kd.R_slice ho1; subst e6b; have Ja6 := As.mk ho0; have Jb6 := As.mk ho1; replace HB := As.mk (bT HB.out hb); replace BK1 := As.mk (kB BK1.out hb); replace BK2 := As.mk (kB BK2.out hb); replace BK4 := As.mk (kB BK4.out hb); clear ho0 ho1 hb; (try simp only [Act.put, sq1, sq2, sq3])) | ((with_reducible refine gC (f := 18) rfl ?_); (with_reducible refine gD (N := 89) rfl ?_); refine gL (some 89) rfl rfl Try.func18 (by kernel_rfl) rfl #[.agg #[.slice A6a cs.length c6a, .slice A6b es.length c6b], .string s, .bool b] rfl (by (try simp only [sm1, sm2, sm3]); first | done | rfl) ?_; refine (impl_new ki A6a c6a cs A6b c6b es s b v _ (Kd.RR Ja6.out).2.2 (Kd.RR Ja6.out).2.1 (Kd.RR Jb6.out).2.2 (Kd.RR Jb6.out).2.1 HV2.out (.tuple #[.agg #[.int .i64 st, .int .i64 0, .string sub, .bool an, .int .i64 0, .int .i64 0, .int .i64 0, .int .i64 0, .bool false, .int .i64 0, .int .i64 0, .slice none 0 0, .slice none 0 0, .slice none 0 0, .slice none 0 0], .int .i64 code]) HN).mono ?_; rintro e wd ⟨rfl, hb⟩; refine ⟨_, rfl, ?_⟩; replace HB := As.mk (bT HB.out hb); replace BK1 := As.mk (kB BK1.out hb); replace BK2 := As.mk (kB BK2.out hb); replace BK4 := As.mk (kB BK4.out hb); clear hb; (try simp only [Act.put, sq1, sq2, sq3])) | ((with_reducible refine gD (N := 16) rfl ?_); refine bX ?hg (N := 16) ?hd (cs := #[.int .i64 0, .int .i64 0, .string (⟨#[]⟩ : ByteArray), .bool false, .int .i64 0, .int .i64 0, .int .i64 0, .int .i64 0, .bool false, .int .i64 0, .int .i64 0, .slice none 0 0, .slice none 0 0, .slice none 0 0, .slice none 0 0]) (t := 45) ?hr ?_; (case hd => rfl); (case hg => rfl); (case hr => first | (go_simp; done) | (go_simp; rfl)); intro g5 hg wg5 hbox hb; have HX := As.mk hb; have HGE := As.mk (Nat.le_of_eq hg.symm); have BKn := As.mk hbox; clear hg hbox hb; (try simp only [Act.put, sq1, sq2, sq3])) | ((with_reducible refine gS (t := 45) (p := 16) rfl ?_); refine Go.Proofs.Ytbamjjaamjfnaaa.RowLaw.put_event rfl 45 _ _ rfl g5 0 (.agg #[.int .i64 st, .int .i64 0, .string sub, .bool an, .int .i64 0, .int .i64 0, .int .i64 0, .int .i64 0, .bool false, .int .i64 0, .int .i64 0, .slice none 0 0, .slice none 0 0, .slice none 0 0, .slice none 0 0]) rfl rfl [.int .i64 st, .int .i64 0, .string sub, .bool an, .int .i64 0, .int .i64 0, .int .i64 0, .int .i64 0, .bool false, .int .i64 0, .int .i64 0, .slice none 0 0, .slice none 0 0, .slice none 0 0, .slice none 0 0] rfl 45 _ #[.int .i64 st, .int .i64 0, .string sub, .bool an, .int .i64 0, .int .i64 0, .int .i64 0, .int .i64 0, .bool false, .int .i64 0, .int .i64 0, .slice none 0 0, .slice none 0 0, .slice none 0 0, .slice none 0 0] BKn.out HIM.out (Nat.le_of_ble_eq_true rfl) rfl rfl ?_; intro wp16 hk hoth hbel hz; have hb := hbel _ _ HX.out HGE.out; replace HB := As.mk (bT HB.out hb); replace BK1 := As.mk (kB BK1.out hb); replace BK2 := As.mk (kB BK2.out hb); replace BK4 := As.mk (kB BK4.out hb); have BK5 := As.mk hk; clear hk hoth hbel hz hb HX HGE BKn; (try simp only [Act.put, sq1, sq2, sq3])) | ((with_reducible refine gD (N := 92) rfl ?_); (try (refine gG (by rfl) ?_; dsimp only)); refine wpList_load_row rfl 45 _ rfl g5 rfl 45 #[.int .i64 st, .int .i64 0, .string sub, .bool an, .int .i64 0, .int .i64 0, .int .i64 0, .int .i64 0, .bool false, .int .i64 0, .int .i64 0, .slice none 0 0, .slice none 0 0, .slice none 0 0, .slice none 0 0] (0, 0) _ BK5.out huM rfl HIM.out ?_; (try simp only [Act.put, sq1, sq2, sq3])) | ((with_reducible refine gD (N := 93) rfl ?_); (try (refine gG (by rfl) ?_; dsimp only)); refine wpList_load_row rfl 45 _ rfl g2 rfl 45 #[.int .i64 st, .int .i64 0, .string sub, .bool an, .int .i64 0, .int .i64 0, .int .i64 0, .int .i64 0, .bool false, .int .i64 0, .int .i64 0, .slice none 0 0, .slice none 0 0, .slice none 0 0, .slice none 0 0] (0, 0) _ BK2.out huM rfl HIM.out ?_; (try simp only [Act.put, sq1, sq2, sq3])) | ((with_reducible refine gC (f := 19) rfl ?_); (with_reducible refine gD (N := 94) rfl ?_); refine gL (some 94) rfl rfl Try.func19 (by kernel_rfl) rfl #[.agg #[.int .i64 st, .int .i64 0, .string sub, .bool an, .int .i64 0, .int .i64 0, .int .i64 0, .int .i64 0, .bool false, .int .i64 0, .int .i64 0, .slice none 0 0, .slice none 0 0, .slice none 0 0, .slice none 0 0], .agg #[.int .i64 st, .int .i64 0, .string sub, .bool an, .int .i64 0, .int .i64 0, .int .i64 0, .int .i64 0, .bool false, .int .i64 0, .int .i64 0, .slice none 0 0, .slice none 0 0, .slice none 0 0, .slice none 0 0]] rfl (by (try simp only [sm1, sm2, sm3]); first | done | rfl) ?_; refine (eqM st sub an _).mono ?_; rintro e wd ⟨rfl, hb⟩; refine ⟨_, rfl, ?_⟩; replace HB := As.mk (bT HB.out hb); replace BK1 := As.mk (kB BK1.out hb); replace BK2 := As.mk (kB BK2.out hb); replace BK4 := As.mk (kB BK4.out hb); clear hb; (try simp only [Act.put, sq1, sq2, sq3])) | ((with_reducible refine gD (N := 101) rfl ?_); (try (refine gG (by rfl) ?_; dsimp only)); refine wpList_load_row rfl 45 _ rfl g4 rfl 45 #[.int .i64 st, .int .i64 0, .string sub, .bool an, .int .i64 0, .int .i64 0, .int .i64 0, .int .i64 0, .bool false, .int .i64 0, .int .i64 0, .slice none 0 0, .slice none 0 0, .slice none 0 0, .slice none 0 0] (0, 0) _ BK4.out huM rfl HIM.out ?_; (try simp only [Act.put, sq1, sq2, sq3])) | ((with_reducible refine gC (f := 21) rfl ?_); (with_reducible refine gD (N := 103) rfl ?_); refine gL (some 103) rfl rfl Try.func21 (by kernel_rfl) rfl #[.agg #[.int .i64 st, .int .i64 0, .string sub, .bool an, .int .i64 0, .int .i64 0, .int .i64 0, .int .i64 0, .bool false, .int .i64 0, .int .i64 0, .slice none 0 0, .slice none 0 0, .slice none 0 0, .slice none 0 0], .int .i64 1] rfl (by (try simp only [sm1, sm2, sm3]); first | done | rfl) ?_; refine (hdM st sub an _).mono ?_; rintro e wd ⟨rfl, hb⟩; refine ⟨_, rfl, ?_⟩; replace HB := As.mk (bT HB.out hb); clear hb; (try simp only [Act.put, sq1, sq2, sq3])))
 go_ret
 exact ⟨rfl, HB.out⟩
end Go.Proofs.Ytbamjjaamjfnaaa.PFnExactNewMatcher
