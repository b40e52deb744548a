/- By hand: what the law FnExactNewMatcher reaches beyond the printed texts, and the law's own function. Conditions: none beyond each statement. -/
import Derived.Test.YtbamjjaamjfnaaaProg
import Derived.Below
import Derived.Deep.Draws
import Derived.Deep.AppendLies
import Derived.Maps.AppendAt
import Derived.OwnWalk
import Derived.Laws.BytesArg
import Derived.Laws.MakeOwn
import Derived.Laws.OwnMore
import Derived.Deep.OwnRows
import Derived.Tactics
import Derived.Lib.ConvBytes
import Derived.Laws.Slices
import Derived.WalkKit
import Derived.KernelRfl
import Derived.RowKit3
import Derived.Deep.LoopGhost
import Derived.Deep.QuietTactic
import Derived.BigQuiet
import Derived.WideLaws
import Derived.Deep.DeepCutAuto
import Derived.Deep.CutBlock
import Derived.Deep.RegionHeld3
import Derived.Laws.Rows
import Derived.Lib.AppendStr
import Derived.ArgAppend
import Derived.Laws.IdiomCopy
import Derived.OrdersHeld
import Derived.Laws.BitsLemmas
import Derived.RowKit
import Derived.Lib.SliceRun
import Derived.Test.YtbamjjaamjfnaaaRowLaw
import Derived.Test.YtbamjjaamjfnaaaWWords
import Derived.Test.YtbamjjaamjfnaaaWLast
import Derived.Test.YtbamjjaamjfnaaaWTab
import Derived.Test.YtbamjjaamjfnaaaWFour
import Derived.Test.YtbamjjaamjfnaaaWQPut
import Derived.Test.YtbamjjaamjfnaaaWApart
import Derived.Test.YtbamjjaamjfnaaaWArr
import Derived.Test.YtbamjjaamjfnaaaWZeros
import Derived.Test.YtbamjjaamjfnaaaWFoot
import Derived.Test.YtbamjjaamjfnaaaWKept
import Derived.Test.YtbamjjaamjfnaaaWShare
import Derived.Test.YtbamjjaamjfnaaaWN
import Derived.Test.YtbamjjaamjfnaaaWFootNe
import Derived.Test.YtbamjjaamjfnaaaWAt
import Derived.Test.YtbamjjaamjfnaaaWEqStruct
import Derived.Test.YtbamjjaamjfnaaaWRepsOne
import Derived.Test.YtbamjjaamjfnaaaWInv
import Derived.Test.YtbamjjaamjfnaaaWInvWords
import Derived.Test.YtbamjjaamjfnaaaWGuard
import Derived.Test.YtbamjjaamjfnaaaWNEv
import Derived.Test.YtbamjjaamjfnaaaWMore
import Derived.Test.YtbamjjaamjfnaaaPFnExactNewMatcherx9
import Derived.Test.YtbamjjaamjfnaaaPFnExactNewMatcherx16
import Derived.Test.YtbamjjaamjfnaaaDevNMA
import Derived.Test.YtbamjjaamjfnaaaRowLaw
namespace Go.Proofs.Ytbamjjaamjfnaaa.PFnExactNewMatcher
open Go.RowKit Go.Proofs.YtbamjjaamjfnaaaW.PrintWords Go.Proofs.YtbamjjaamjfnaaaW.PrintLast Go.Proofs.YtbamjjaamjfnaaaW.PrintMore
attribute [local go_sem] max2_int min2_int max_two min_two max_three min_three max_four min_four
set_option linter.unusedVariables false
set_option linter.unusedSimpArgs false
set_option maxHeartbeats 16000000 in
set_option maxRecDepth 100000 in
theorem new_calls (s : ByteArray) (b : Bool) (w : World) : Calls Try.prog 34 #[.string s, .bool b] w fun e w' => e = .returned (.agg #[.int .i64 1, .int .i64 0, .string s, .bool b, .int .i64 0, .int .i64 0, .int .i64 0, .int .i64 0, .bool false, .int .i64 0, .int .i64 0, .slice none 0 0, .slice none 0 0, .slice none 0 0, .slice none 0 0]) ∧ Below w.heap.size w w' := by
 have huM := Try.underlying45
 have huC := Try.underlying31
 have HIM := As.mk (by kernel_rfl : (Try.prog.info? 45).map (·.size) = some 15)
 have HIC := As.mk (by kernel_rfl : (Try.prog.info? 31).map (·.size) = some 2)
 have HB := As.mk (Below.refl w.heap.size w)
 go_enter Try.func34, Try.ntmps34
 go_wp2_with (first | ((with_reducible refine gD (N := 4) rfl ?_); refine bX ?hg (N := 4) ?hd (cs := #[.int .i64 0, .int .i64 0, .string (⟨#[]⟩ : ByteArray), .bool false, .int .i64 0, .int .i64 0, .int .i64 0, .int .i64 0, .bool false, .int .i64 0, .int .i64 0, .slice none 0 0, .slice none 0 0, .slice none 0 0, .slice none 0 0]) (t := 45) ?hr ?_; (case hd => rfl); (case hg => rfl); (case hr => first | (go_simp; done) | (go_simp; rfl)); intro g4 hg wg4 hbox hb; have GE := As.mk (by rw [hg]; exact HB.out.size : w.heap.size ≤ g4); replace HB := As.mk (bT HB.out hb); have BK4 := As.mk hbox; clear hbox hg hb; (try simp only [Act.put, sq1, sq2, sq3])) | ((with_reducible refine gS (t := 45) (p := 4) rfl ?_); refine Go.Proofs.Ytbamjjaamjfnaaa.RowLaw.put_event rfl 45 _ _ rfl g4 0 (.agg #[.int .i64 1, .int .i64 0, .string s, .bool b, .int .i64 0, .int .i64 0, .int .i64 0, .int .i64 0, .bool false, .int .i64 0, .int .i64 0, .slice none 0 0, .slice none 0 0, .slice none 0 0, .slice none 0 0]) rfl rfl [.int .i64 1, .int .i64 0, .string s, .bool b, .int .i64 0, .int .i64 0, .int .i64 0, .int .i64 0, .bool false, .int .i64 0, .int .i64 0, .slice none 0 0, .slice none 0 0, .slice none 0 0, .slice none 0 0] rfl 45 _ #[.int .i64 1, .int .i64 0, .string s, .bool b, .int .i64 0, .int .i64 0, .int .i64 0, .int .i64 0, .bool false, .int .i64 0, .int .i64 0, .slice none 0 0, .slice none 0 0, .slice none 0 0, .slice none 0 0] BK4.out HIM.out (Nat.le_of_ble_eq_true rfl) rfl rfl ?_; intro w74 hk hoth hbel hz; replace HB := As.mk (hbel _ _ HB.out GE.out); replace BK4 := As.mk hk; clear hk hoth hbel hz; (try simp only [Act.put, sq1, sq2, sq3])))
 refine bodyPost_ret (results_cell_row rfl _ _ g4 45 #[.int .i64 1, .int .i64 0, .string s, .bool b, .int .i64 0, .int .i64 0, .int .i64 0, .int .i64 0, .bool false, .int .i64 0, .int .i64 0, .slice none 0 0, .slice none 0 0, .slice none 0 0, .slice none 0 0] (0, 0) _ rfl BK4.out huM rfl HIM.out) rfl ?_
 exact ⟨rfl, HB.out⟩
set_option maxHeartbeats 16000000 in
set_option maxRecDepth 100000 in
theorem spec_new (k : Nat) (A0 : Option Addr) (c0 : Nat) (l0 : List S80) (A1 : Option Addr) (c1 : Nat) (l1 : List S77) (s : ByteArray) (b v : Bool) (w : World) (hr0 : Kd.C k80 w A0 l0.length l0) (hc0 : l0.length ≤ c0) (hr1 : Kd.C k77 w A1 l1.length l1) (hc1 : l1.length ≤ c1) (h : F34.f k l0 l1 = some v) (R : Value) (hR : As (R = if v = true ∧ s.size ≤ 200 then .tuple #[.agg #[.int .i64 1, .int .i64 0, .string s, .bool b, .int .i64 0, .int .i64 0, .int .i64 0, .int .i64 0, .bool false, .int .i64 0, .int .i64 0, .slice none 0 0, .slice none 0 0, .slice none 0 0, .slice none 0 0], .int .i64 0] else .tuple #[.agg #[.int .i64 0, .int .i64 0, .string (⟨#[]⟩ : ByteArray), .bool false, .int .i64 0, .int .i64 0, .int .i64 0, .int .i64 0, .bool false, .int .i64 0, .int .i64 0, .slice none 0 0, .slice none 0 0, .slice none 0 0, .slice none 0 0], .int .i64 1])) : Calls Try.prog 17 #[.agg #[.slice A0 l0.length c0, .slice A1 l1.length c1], .string s, .bool b] w fun e w' => e = .returned (R) ∧ Below w.heap.size w w' := by
 have huM := Try.underlying45
 have huC := Try.underlying31
 have HIM := As.mk (by kernel_rfl : (Try.prog.info? 45).map (·.size) = some 15)
 have HIC := As.mk (by kernel_rfl : (Try.prog.info? 31).map (·.size) = some 2)
 have HB := As.mk (Below.refl w.heap.size w)
 have HR0 := As.mk hr0
 have HR1 := As.mk hr1
 have HC0 := As.mk hc0
 have HC1 := As.mk hc1
 have HV := As.mk h
 clear hr0 hr1 hc0 hc1 h
 cases v with
 | false =>
  have HRR := As.mk (hR.out.trans (if_neg (show ¬ (false = true ∧ s.size ≤ 200) from fun hq => Bool.noConfusion hq.1)))
  clear hR
  try clear c
  go_enter Try.func17, Try.ntmps17
  go_wp2_with (first | ((with_reducible refine gD (N := 3) rfl ?_); refine bX ?hg (N := 3) ?hd (cs := #[.slice A0 l0.length c0, .slice A1 l1.length c1]) (t := 31) ?hr ?_; (case hd => rfl); (case hg => rfl); (case hr => first | (go_simp; done) | (go_simp; rfl)); intro g3 hg wg3 hbox hb; replace HB := As.mk (bT HB.out hb); have BK3 := As.mk hbox; clear hbox hg hb; (try simp only [Act.put, sq1, sq2, sq3])) | ((with_reducible refine gD (N := 6) rfl ?_); refine bX ?hg (N := 6) ?hd (cs := #[.int .i64 0, .int .i64 0, .string (⟨#[]⟩ : ByteArray), .bool false, .int .i64 0, .int .i64 0, .int .i64 0, .int .i64 0, .bool false, .int .i64 0, .int .i64 0, .slice none 0 0, .slice none 0 0, .slice none 0 0, .slice none 0 0]) (t := 45) ?hr ?_; (case hd => rfl); (case hg => rfl); (case hr => first | (go_simp; done) | (go_simp; rfl)); intro g6 hg wg6 hbox hb; have GE := As.mk (by rw [hg]; exact HB.out.size : w.heap.size ≤ g6); replace HB := As.mk (bT HB.out hb); replace BK3 := As.mk (kB BK3.out hb); have BK6 := As.mk hbox; clear hbox hg hb; (try simp only [Act.put, sq1, sq2, sq3])) | ((with_reducible refine gD (N := 8) rfl ?_); (try (refine gG (by rfl) ?_; dsimp only)); refine wpList_load_row rfl 31 _ rfl g3 rfl 31 #[.slice A0 l0.length c0, .slice A1 l1.length c1] (0, 0) _ BK3.out huC rfl HIC.out ?_; (try simp only [Act.put, sq1, sq2, sq3])) | ((with_reducible refine gC (f := 7) rfl ?_); (with_reducible refine gD (N := 9) rfl ?_); refine gL (some 9) rfl rfl Try.func7 (by kernel_rfl) rfl #[.agg #[.slice A0 l0.length c0, .slice A1 l1.length c1]] rfl (by (try simp only [sm1, sm2, sm3]); first | done | rfl) ?_; refine (F34.calls k A0 c0 l0 A1 c1 l1 false _ (Kd.CB HR0.out HB.out) HC0.out (Kd.CB HR1.out HB.out) HC1.out HV.out).mono ?_; rintro e wd ⟨rfl, hb⟩; refine ⟨_, rfl, ?_⟩; replace HB := As.mk (bT HB.out hb); replace BK3 := As.mk (kB BK3.out hb); replace BK6 := As.mk (kB BK6.out hb); clear hb; (try simp only [Act.put, sq1, sq2, sq3])) | ((with_reducible refine gS (t := 45) (p := 6) rfl ?_); refine Go.Proofs.Ytbamjjaamjfnaaa.RowLaw.put_event rfl 45 _ _ rfl g6 0 (.agg #[.int .i64 0, .int .i64 0, .string (⟨#[]⟩ : ByteArray), .bool false, .int .i64 0, .int .i64 0, .int .i64 0, .int .i64 0, .bool false, .int .i64 0, .int .i64 0, .slice none 0 0, .slice none 0 0, .slice none 0 0, .slice none 0 0]) rfl rfl [.int .i64 0, .int .i64 0, .string (⟨#[]⟩ : ByteArray), .bool false, .int .i64 0, .int .i64 0, .int .i64 0, .int .i64 0, .bool false, .int .i64 0, .int .i64 0, .slice none 0 0, .slice none 0 0, .slice none 0 0, .slice none 0 0] rfl 45 _ #[.int .i64 0, .int .i64 0, .string (⟨#[]⟩ : ByteArray), .bool false, .int .i64 0, .int .i64 0, .int .i64 0, .int .i64 0, .bool false, .int .i64 0, .int .i64 0, .slice none 0 0, .slice none 0 0, .slice none 0 0, .slice none 0 0] BK6.out HIM.out (Nat.le_of_ble_eq_true rfl) rfl rfl ?_; intro w76 hk hoth hbel hz; replace HB := As.mk (hbel _ _ HB.out GE.out); replace BK6 := As.mk hk; clear hk hoth hbel hz BK3; (try simp only [Act.put, sq1, sq2, sq3])))
  refine bodyPost_ret (results_ct rfl _ _ g6 45 #[.int .i64 0, .int .i64 0, .string (⟨#[]⟩ : ByteArray), .bool false, .int .i64 0, .int .i64 0, .int .i64 0, .int .i64 0, .bool false, .int .i64 0, .int .i64 0, .slice none 0 0, .slice none 0 0, .slice none 0 0, .slice none 0 0] (0, 0) _ rfl BK6.out huM rfl HIM.out) rfl ?_
  exact ⟨by rw [HRR.out]; rfl, HB.out⟩
 | true =>
  by_cases c : s.size ≤ 200
  ·have q1 : decide ((s.size : Int) > 200) = false := by exact decide_eq_false (by omega)
   have q1b : decide (200 < (s.size : Int)) = false := by exact decide_eq_false (by omega)
   have q1n : decide (200 < s.size) = false := by exact decide_eq_false (by omega)
   have HRR := As.mk (hR.out.trans (if_pos (show true = true ∧ s.size ≤ 200 from ⟨rfl, c⟩)))
   clear hR
   try clear c
   go_enter Try.func17, Try.ntmps17
   go_wp2_with (first | ((with_reducible refine gD (N := 3) rfl ?_); refine bX ?hg (N := 3) ?hd (cs := #[.slice A0 l0.length c0, .slice A1 l1.length c1]) (t := 31) ?hr ?_; (case hd => rfl); (case hg => rfl); (case hr => first | (go_simp; done) | (go_simp; rfl)); intro g3 hg wg3 hbox hb; replace HB := As.mk (bT HB.out hb); have BK3 := As.mk hbox; clear hbox hg hb; (try simp only [Act.put, sq1, sq2, sq3])) | ((with_reducible refine gD (N := 6) rfl ?_); refine bX ?hg (N := 6) ?hd (cs := #[.int .i64 0, .int .i64 0, .string (⟨#[]⟩ : ByteArray), .bool false, .int .i64 0, .int .i64 0, .int .i64 0, .int .i64 0, .bool false, .int .i64 0, .int .i64 0, .slice none 0 0, .slice none 0 0, .slice none 0 0, .slice none 0 0]) (t := 45) ?hr ?_; (case hd => rfl); (case hg => rfl); (case hr => first | (go_simp; done) | (go_simp; rfl)); intro g6 hg wg6 hbox hb; have GE := As.mk (by rw [hg]; exact HB.out.size : w.heap.size ≤ g6); replace HB := As.mk (bT HB.out hb); replace BK3 := As.mk (kB BK3.out hb); have BK6 := As.mk hbox; clear hbox hg hb; (try simp only [Act.put, sq1, sq2, sq3])) | ((with_reducible refine gD (N := 8) rfl ?_); (try (refine gG (by rfl) ?_; dsimp only)); refine wpList_load_row rfl 31 _ rfl g3 rfl 31 #[.slice A0 l0.length c0, .slice A1 l1.length c1] (0, 0) _ BK3.out huC rfl HIC.out ?_; (try simp only [Act.put, sq1, sq2, sq3])) | ((with_reducible refine gC (f := 7) rfl ?_); (with_reducible refine gD (N := 9) rfl ?_); refine gL (some 9) rfl rfl Try.func7 (by kernel_rfl) rfl #[.agg #[.slice A0 l0.length c0, .slice A1 l1.length c1]] rfl (by (try simp only [sm1, sm2, sm3]); first | done | rfl) ?_; refine (F34.calls k A0 c0 l0 A1 c1 l1 true _ (Kd.CB HR0.out HB.out) HC0.out (Kd.CB HR1.out HB.out) HC1.out HV.out).mono ?_; rintro e wd ⟨rfl, hb⟩; refine ⟨_, rfl, ?_⟩; replace HB := As.mk (bT HB.out hb); replace BK3 := As.mk (kB BK3.out hb); replace BK6 := As.mk (kB BK6.out hb); clear hb; (try simp only [Act.put, sq1, sq2, sq3])) | ((with_reducible refine gS (t := 45) (p := 6) rfl ?_); refine Go.Proofs.Ytbamjjaamjfnaaa.RowLaw.put_event rfl 45 _ _ rfl g6 0 (.agg #[.int .i64 1, .int .i64 0, .string s, .bool b, .int .i64 0, .int .i64 0, .int .i64 0, .int .i64 0, .bool false, .int .i64 0, .int .i64 0, .slice none 0 0, .slice none 0 0, .slice none 0 0, .slice none 0 0]) rfl rfl [.int .i64 1, .int .i64 0, .string s, .bool b, .int .i64 0, .int .i64 0, .int .i64 0, .int .i64 0, .bool false, .int .i64 0, .int .i64 0, .slice none 0 0, .slice none 0 0, .slice none 0 0, .slice none 0 0] rfl 45 _ #[.int .i64 1, .int .i64 0, .string s, .bool b, .int .i64 0, .int .i64 0, .int .i64 0, .int .i64 0, .bool false, .int .i64 0, .int .i64 0, .slice none 0 0, .slice none 0 0, .slice none 0 0, .slice none 0 0] BK6.out HIM.out (Nat.le_of_ble_eq_true rfl) rfl rfl ?_; intro w76 hk hoth hbel hz; replace HB := As.mk (hbel _ _ HB.out GE.out); replace BK6 := As.mk hk; clear hk hoth hbel hz BK3; (try simp only [Act.put, sq1, sq2, sq3])))
   refine bodyPost_ret (results_ct rfl _ _ g6 45 #[.int .i64 1, .int .i64 0, .string s, .bool b, .int .i64 0, .int .i64 0, .int .i64 0, .int .i64 0, .bool false, .int .i64 0, .int .i64 0, .slice none 0 0, .slice none 0 0, .slice none 0 0, .slice none 0 0] (0, 0) _ rfl BK6.out huM rfl HIM.out) rfl ?_
   exact ⟨by rw [HRR.out]; rfl, HB.out⟩
  ·have q1 : decide ((s.size : Int) > 200) = true := by exact decide_eq_true (by omega)
   have q1b : decide (200 < (s.size : Int)) = true := by exact decide_eq_true (by omega)
   have q1n : decide (200 < s.size) = true := by exact decide_eq_true (by omega)
   have HRR := As.mk (hR.out.trans (if_neg (show ¬ (true = true ∧ s.size ≤ 200) from fun hq => c hq.2)))
   clear hR
   try clear c
   go_enter Try.func17, Try.ntmps17
   go_wp2_with (first | ((with_reducible refine gD (N := 3) rfl ?_); refine bX ?hg (N := 3) ?hd (cs := #[.slice A0 l0.length c0, .slice A1 l1.length c1]) (t := 31) ?hr ?_; (case hd => rfl); (case hg => rfl); (case hr => first | (go_simp; done) | (go_simp; rfl)); intro g3 hg wg3 hbox hb; replace HB := As.mk (bT HB.out hb); have BK3 := As.mk hbox; clear hbox hg hb; (try simp only [Act.put, sq1, sq2, sq3])) | ((with_reducible refine gD (N := 6) rfl ?_); refine bX ?hg (N := 6) ?hd (cs := #[.int .i64 0, .int .i64 0, .string (⟨#[]⟩ : ByteArray), .bool false, .int .i64 0, .int .i64 0, .int .i64 0, .int .i64 0, .bool false, .int .i64 0, .int .i64 0, .slice none 0 0, .slice none 0 0, .slice none 0 0, .slice none 0 0]) (t := 45) ?hr ?_; (case hd => rfl); (case hg => rfl); (case hr => first | (go_simp; done) | (go_simp; rfl)); intro g6 hg wg6 hbox hb; have GE := As.mk (by rw [hg]; exact HB.out.size : w.heap.size ≤ g6); replace HB := As.mk (bT HB.out hb); replace BK3 := As.mk (kB BK3.out hb); have BK6 := As.mk hbox; clear hbox hg hb; (try simp only [Act.put, sq1, sq2, sq3])) | ((with_reducible refine gD (N := 8) rfl ?_); (try (refine gG (by rfl) ?_; dsimp only)); refine wpList_load_row rfl 31 _ rfl g3 rfl 31 #[.slice A0 l0.length c0, .slice A1 l1.length c1] (0, 0) _ BK3.out huC rfl HIC.out ?_; (try simp only [Act.put, sq1, sq2, sq3])) | ((with_reducible refine gC (f := 7) rfl ?_); (with_reducible refine gD (N := 9) rfl ?_); refine gL (some 9) rfl rfl Try.func7 (by kernel_rfl) rfl #[.agg #[.slice A0 l0.length c0, .slice A1 l1.length c1]] rfl (by (try simp only [sm1, sm2, sm3]); first | done | rfl) ?_; refine (F34.calls k A0 c0 l0 A1 c1 l1 true _ (Kd.CB HR0.out HB.out) HC0.out (Kd.CB HR1.out HB.out) HC1.out HV.out).mono ?_; rintro e wd ⟨rfl, hb⟩; refine ⟨_, rfl, ?_⟩; replace HB := As.mk (bT HB.out hb); replace BK3 := As.mk (kB BK3.out hb); replace BK6 := As.mk (kB BK6.out hb); clear hb; (try simp only [Act.put, sq1, sq2, sq3])) | ((with_reducible refine gS (t := 45) (p := 6) rfl ?_); refine Go.Proofs.Ytbamjjaamjfnaaa.RowLaw.put_event rfl 45 _ _ rfl g6 0 (.agg #[.int .i64 0, .int .i64 0, .string (⟨#[]⟩ : ByteArray), .bool false, .int .i64 0, .int .i64 0, .int .i64 0, .int .i64 0, .bool false, .int .i64 0, .int .i64 0, .slice none 0 0, .slice none 0 0, .slice none 0 0, .slice none 0 0]) rfl rfl [.int .i64 0, .int .i64 0, .string (⟨#[]⟩ : ByteArray), .bool false, .int .i64 0, .int .i64 0, .int .i64 0, .int .i64 0, .bool false, .int .i64 0, .int .i64 0, .slice none 0 0, .slice none 0 0, .slice none 0 0, .slice none 0 0] rfl 45 _ #[.int .i64 0, .int .i64 0, .string (⟨#[]⟩ : ByteArray), .bool false, .int .i64 0, .int .i64 0, .int .i64 0, .int .i64 0, .bool false, .int .i64 0, .int .i64 0, .slice none 0 0, .slice none 0 0, .slice none 0 0, .slice none 0 0] BK6.out HIM.out (Nat.le_of_ble_eq_true rfl) rfl rfl ?_; intro w76 hk hoth hbel hz; replace HB := As.mk (hbel _ _ HB.out GE.out); replace BK6 := As.mk hk; clear hk hoth hbel hz BK3; (try simp only [Act.put, sq1, sq2, sq3])))
   refine bodyPost_ret (results_ct rfl _ _ g6 45 #[.int .i64 0, .int .i64 0, .string (⟨#[]⟩ : ByteArray), .bool false, .int .i64 0, .int .i64 0, .int .i64 0, .int .i64 0, .bool false, .int .i64 0, .int .i64 0, .slice none 0 0, .slice none 0 0, .slice none 0 0, .slice none 0 0] (0, 0) _ rfl BK6.out huM rfl HIM.out) rfl ?_
   exact ⟨by rw [HRR.out]; rfl, HB.out⟩
set_option maxHeartbeats 16000000 in
set_option maxRecDepth 100000 in
theorem impl_new (k : Nat) (A0 : Option Addr) (c0 : Nat) (l0 : List S80) (A1 : Option Addr) (c1 : Nat) (l1 : List S77) (s : ByteArray) (b v : Bool) (w : World) (hr0 : Kd.C k80 w A0 l0.length l0) (hc0 : l0.length ≤ c0) (hr1 : Kd.C k77 w A1 l1.length l1) (hc1 : l1.length ≤ c1) (h : F35.f k l0 l1 = some v) (R : Value) (hR : As (R = if v = true ∧ s.size ≤ 200 then .tuple #[.agg #[.int .i64 1, .int .i64 0, .string s, .bool b, .int .i64 0, .int .i64 0, .int .i64 0, .int .i64 0, .bool false, .int .i64 0, .int .i64 0, .slice none 0 0, .slice none 0 0, .slice none 0 0, .slice none 0 0], .int .i64 0] else .tuple #[.agg #[.int .i64 0, .int .i64 0, .string (⟨#[]⟩ : ByteArray), .bool false, .int .i64 0, .int .i64 0, .int .i64 0, .int .i64 0, .bool false, .int .i64 0, .int .i64 0, .slice none 0 0, .slice none 0 0, .slice none 0 0, .slice none 0 0], .int .i64 1])) : Calls Try.prog 18 #[.agg #[.slice A0 l0.length c0, .slice A1 l1.length c1], .string s, .bool b] w fun e w' => e = .returned (R) ∧ Below w.heap.size w w' := by
 have huM := Try.underlying45
 have huC := Try.underlying31
 have HIM := As.mk (by kernel_rfl : (Try.prog.info? 45).map (·.size) = some 15)
 have HIC := As.mk (by kernel_rfl : (Try.prog.info? 31).map (·.size) = some 2)
 have HB := As.mk (Below.refl w.heap.size w)
 have HR0 := As.mk hr0
 have HR1 := As.mk hr1
 have HC0 := As.mk hc0
 have HC1 := As.mk hc1
 have HV := As.mk h
 clear hr0 hr1 hc0 hc1 h
 cases v with
 | false =>
  have HRR := As.mk (hR.out.trans (if_neg (show ¬ (false = true ∧ s.size ≤ 200) from fun hq => Bool.noConfusion hq.1)))
  clear hR
  try clear c
  go_enter Try.func18, Try.ntmps18
  go_wp2_with (first | ((with_reducible refine gD (N := 3) rfl ?_); refine bX ?hg (N := 3) ?hd (cs := #[.slice A0 l0.length c0, .slice A1 l1.length c1]) (t := 31) ?hr ?_; (case hd => rfl); (case hg => rfl); (case hr => first | (go_simp; done) | (go_simp; rfl)); intro g3 hg wg3 hbox hb; replace HB := As.mk (bT HB.out hb); have BK3 := As.mk hbox; clear hbox hg hb; (try simp only [Act.put, sq1, sq2, sq3])) | ((with_reducible refine gD (N := 6) rfl ?_); refine bX ?hg (N := 6) ?hd (cs := #[.int .i64 0, .int .i64 0, .string (⟨#[]⟩ : ByteArray), .bool false, .int .i64 0, .int .i64 0, .int .i64 0, .int .i64 0, .bool false, .int .i64 0, .int .i64 0, .slice none 0 0, .slice none 0 0, .slice none 0 0, .slice none 0 0]) (t := 45) ?hr ?_; (case hd => rfl); (case hg => rfl); (case hr => first | (go_simp; done) | (go_simp; rfl)); intro g6 hg wg6 hbox hb; have GE := As.mk (by rw [hg]; exact HB.out.size : w.heap.size ≤ g6); replace HB := As.mk (bT HB.out hb); replace BK3 := As.mk (kB BK3.out hb); have BK6 := As.mk hbox; clear hbox hg hb; (try simp only [Act.put, sq1, sq2, sq3])) | ((with_reducible refine gD (N := 8) rfl ?_); (try (refine gG (by rfl) ?_; dsimp only)); refine wpList_load_row rfl 31 _ rfl g3 rfl 31 #[.slice A0 l0.length c0, .slice A1 l1.length c1] (0, 0) _ BK3.out huC rfl HIC.out ?_; (try simp only [Act.put, sq1, sq2, sq3])) | ((with_reducible refine gC (f := 9) rfl ?_); (with_reducible refine gD (N := 9) rfl ?_); refine gL (some 9) rfl rfl Try.func9 (by kernel_rfl) rfl #[.agg #[.slice A0 l0.length c0, .slice A1 l1.length c1]] rfl (by (try simp only [sm1, sm2, sm3]); first | done | rfl) ?_; refine (F35.calls k A0 c0 l0 A1 c1 l1 false _ (Kd.CB HR0.out HB.out) HC0.out (Kd.CB HR1.out HB.out) HC1.out HV.out).mono ?_; rintro e wd ⟨rfl, hb⟩; refine ⟨_, rfl, ?_⟩; replace HB := As.mk (bT HB.out hb); replace BK3 := As.mk (kB BK3.out hb); replace BK6 := As.mk (kB BK6.out hb); clear hb; (try simp only [Act.put, sq1, sq2, sq3])) | ((with_reducible refine gS (t := 45) (p := 6) rfl ?_); refine Go.Proofs.Ytbamjjaamjfnaaa.RowLaw.put_event rfl 45 _ _ rfl g6 0 (.agg #[.int .i64 0, .int .i64 0, .string (⟨#[]⟩ : ByteArray), .bool false, .int .i64 0, .int .i64 0, .int .i64 0, .int .i64 0, .bool false, .int .i64 0, .int .i64 0, .slice none 0 0, .slice none 0 0, .slice none 0 0, .slice none 0 0]) rfl rfl [.int .i64 0, .int .i64 0, .string (⟨#[]⟩ : ByteArray), .bool false, .int .i64 0, .int .i64 0, .int .i64 0, .int .i64 0, .bool false, .int .i64 0, .int .i64 0, .slice none 0 0, .slice none 0 0, .slice none 0 0, .slice none 0 0] rfl 45 _ #[.int .i64 0, .int .i64 0, .string (⟨#[]⟩ : ByteArray), .bool false, .int .i64 0, .int .i64 0, .int .i64 0, .int .i64 0, .bool false, .int .i64 0, .int .i64 0, .slice none 0 0, .slice none 0 0, .slice none 0 0, .slice none 0 0] BK6.out HIM.out (Nat.le_of_ble_eq_true rfl) rfl rfl ?_; intro w76 hk hoth hbel hz; replace HB := As.mk (hbel _ _ HB.out GE.out); replace BK6 := As.mk hk; clear hk hoth hbel hz BK3; (try simp only [Act.put, sq1, sq2, sq3])))
  refine bodyPost_ret (results_ct rfl _ _ g6 45 #[.int .i64 0, .int .i64 0, .string (⟨#[]⟩ : ByteArray), .bool false, .int .i64 0, .int .i64 0, .int .i64 0, .int .i64 0, .bool false, .int .i64 0, .int .i64 0, .slice none 0 0, .slice none 0 0, .slice none 0 0, .slice none 0 0] (0, 0) _ rfl BK6.out huM rfl HIM.out) rfl ?_
  exact ⟨by rw [HRR.out]; rfl, HB.out⟩
 | true =>
  by_cases c : s.size ≤ 200
  ·have q1 : decide ((s.size : Int) > 200) = false := by exact decide_eq_false (by omega)
   have q1b : decide (200 < (s.size : Int)) = false := by exact decide_eq_false (by omega)
   have q1n : decide (200 < s.size) = false := by exact decide_eq_false (by omega)
   have HS := As.mk (by unfold impl_isShort.f; exact congrArg some (decide_eq_true (by omega)) : impl_isShort.f s = some true)
   have HRR := As.mk (hR.out.trans (if_pos (show true = true ∧ s.size ≤ 200 from ⟨rfl, c⟩)))
   clear hR
   try clear c
   go_enter Try.func18, Try.ntmps18
   go_wp2_with (first | ((with_reducible refine gD (N := 3) rfl ?_); refine bX ?hg (N := 3) ?hd (cs := #[.slice A0 l0.length c0, .slice A1 l1.length c1]) (t := 31) ?hr ?_; (case hd => rfl); (case hg => rfl); (case hr => first | (go_simp; done) | (go_simp; rfl)); intro g3 hg wg3 hbox hb; replace HB := As.mk (bT HB.out hb); have BK3 := As.mk hbox; clear hbox hg hb; (try simp only [Act.put, sq1, sq2, sq3])) | ((with_reducible refine gD (N := 6) rfl ?_); refine bX ?hg (N := 6) ?hd (cs := #[.int .i64 0, .int .i64 0, .string (⟨#[]⟩ : ByteArray), .bool false, .int .i64 0, .int .i64 0, .int .i64 0, .int .i64 0, .bool false, .int .i64 0, .int .i64 0, .slice none 0 0, .slice none 0 0, .slice none 0 0, .slice none 0 0]) (t := 45) ?hr ?_; (case hd => rfl); (case hg => rfl); (case hr => first | (go_simp; done) | (go_simp; rfl)); intro g6 hg wg6 hbox hb; have GE := As.mk (by rw [hg]; exact HB.out.size : w.heap.size ≤ g6); replace HB := As.mk (bT HB.out hb); replace BK3 := As.mk (kB BK3.out hb); have BK6 := As.mk hbox; clear hbox hg hb; (try simp only [Act.put, sq1, sq2, sq3])) | ((with_reducible refine gD (N := 8) rfl ?_); (try (refine gG (by rfl) ?_; dsimp only)); refine wpList_load_row rfl 31 _ rfl g3 rfl 31 #[.slice A0 l0.length c0, .slice A1 l1.length c1] (0, 0) _ BK3.out huC rfl HIC.out ?_; (try simp only [Act.put, sq1, sq2, sq3])) | ((with_reducible refine gC (f := 9) rfl ?_); (with_reducible refine gD (N := 9) rfl ?_); refine gL (some 9) rfl rfl Try.func9 (by kernel_rfl) rfl #[.agg #[.slice A0 l0.length c0, .slice A1 l1.length c1]] rfl (by (try simp only [sm1, sm2, sm3]); first | done | rfl) ?_; refine (F35.calls k A0 c0 l0 A1 c1 l1 true _ (Kd.CB HR0.out HB.out) HC0.out (Kd.CB HR1.out HB.out) HC1.out HV.out).mono ?_; rintro e wd ⟨rfl, hb⟩; refine ⟨_, rfl, ?_⟩; replace HB := As.mk (bT HB.out hb); replace BK3 := As.mk (kB BK3.out hb); replace BK6 := As.mk (kB BK6.out hb); clear hb; (try simp only [Act.put, sq1, sq2, sq3])) | ((with_reducible refine gC (f := 33) rfl ?_); (with_reducible refine gD (N := 13) rfl ?_); refine gG (by rfl) ?_; dsimp only; refine gL (some 13) rfl rfl Try.func33 (by kernel_rfl) rfl #[.string s] rfl (by (try simp only [sm1, sm2, sm3]); first | done | rfl) ?_; refine (impl_isShort.calls s true _ HS.out).mono ?_; rintro e wd ⟨rfl, ⟨nd, rfl⟩⟩; refine ⟨_, rfl, ?_⟩; replace HB := As.mk (bT HB.out (bD (Below.refl _ _) nd)); replace BK3 := As.mk (kB BK3.out (bD (Below.refl _ _) nd)); replace BK6 := As.mk (kB BK6.out (bD (Below.refl _ _) nd)); (try simp only [Act.put, sq1, sq2, sq3])) | ((with_reducible refine gC (f := 34) rfl ?_); (with_reducible refine gD (N := 19) rfl ?_); refine gL (some 19) rfl rfl Try.func34 (by kernel_rfl) rfl #[.string s, .bool b] rfl (by (try simp only [sm1, sm2, sm3]); first | done | rfl) ?_; refine (new_calls s b _).mono ?_; rintro e wd ⟨rfl, hb⟩; refine ⟨_, rfl, ?_⟩; replace HB := As.mk (bT HB.out hb); replace BK3 := As.mk (kB BK3.out hb); replace BK6 := As.mk (kB BK6.out hb); clear hb; (try simp only [Act.put, sq1, sq2, sq3])) | ((with_reducible refine gS (t := 45) (p := 6) rfl ?_); refine Go.Proofs.Ytbamjjaamjfnaaa.RowLaw.put_event rfl 45 _ _ rfl g6 0 (.agg #[.int .i64 1, .int .i64 0, .string s, .bool b, .int .i64 0, .int .i64 0, .int .i64 0, .int .i64 0, .bool false, .int .i64 0, .int .i64 0, .slice none 0 0, .slice none 0 0, .slice none 0 0, .slice none 0 0]) rfl rfl [.int .i64 1, .int .i64 0, .string s, .bool b, .int .i64 0, .int .i64 0, .int .i64 0, .int .i64 0, .bool false, .int .i64 0, .int .i64 0, .slice none 0 0, .slice none 0 0, .slice none 0 0, .slice none 0 0] rfl 45 _ #[.int .i64 1, .int .i64 0, .string s, .bool b, .int .i64 0, .int .i64 0, .int .i64 0, .int .i64 0, .bool false, .int .i64 0, .int .i64 0, .slice none 0 0, .slice none 0 0, .slice none 0 0, .slice none 0 0] BK6.out HIM.out (Nat.le_of_ble_eq_true rfl) rfl rfl ?_; intro w76 hk hoth hbel hz; replace HB := As.mk (hbel _ _ HB.out GE.out); replace BK6 := As.mk hk; clear hk hoth hbel hz BK3; (try simp only [Act.put, sq1, sq2, sq3])))
   refine bodyPost_ret (results_ct rfl _ _ g6 45 #[.int .i64 1, .int .i64 0, .string s, .bool b, .int .i64 0, .int .i64 0, .int .i64 0, .int .i64 0, .bool false, .int .i64 0, .int .i64 0, .slice none 0 0, .slice none 0 0, .slice none 0 0, .slice none 0 0] (0, 0) _ rfl BK6.out huM rfl HIM.out) rfl ?_
   exact ⟨by rw [HRR.out]; rfl, HB.out⟩
  ·have q1 : decide ((s.size : Int) > 200) = true := by exact decide_eq_true (by omega)
   have q1b : decide (200 < (s.size : Int)) = true := by exact decide_eq_true (by omega)
   have q1n : decide (200 < s.size) = true := by exact decide_eq_true (by omega)
   have HS := As.mk (by unfold impl_isShort.f; exact congrArg some (decide_eq_false (by omega)) : impl_isShort.f s = some false)
   have HRR := As.mk (hR.out.trans (if_neg (show ¬ (true = true ∧ s.size ≤ 200) from fun hq => c hq.2)))
   clear hR
   try clear c
   go_enter Try.func18, Try.ntmps18
   go_wp2_with (first | ((with_reducible refine gD (N := 3) rfl ?_); refine bX ?hg (N := 3) ?hd (cs := #[.slice A0 l0.length c0, .slice A1 l1.length c1]) (t := 31) ?hr ?_; (case hd => rfl); (case hg => rfl); (case hr => first | (go_simp; done) | (go_simp; rfl)); intro g3 hg wg3 hbox hb; replace HB := As.mk (bT HB.out hb); have BK3 := As.mk hbox; clear hbox hg hb; (try simp only [Act.put, sq1, sq2, sq3])) | ((with_reducible refine gD (N := 6) rfl ?_); refine bX ?hg (N := 6) ?hd (cs := #[.int .i64 0, .int .i64 0, .string (⟨#[]⟩ : ByteArray), .bool false, .int .i64 0, .int .i64 0, .int .i64 0, .int .i64 0, .bool false, .int .i64 0, .int .i64 0, .slice none 0 0, .slice none 0 0, .slice none 0 0, .slice none 0 0]) (t := 45) ?hr ?_; (case hd => rfl); (case hg => rfl); (case hr => first | (go_simp; done) | (go_simp; rfl)); intro g6 hg wg6 hbox hb; have GE := As.mk (by rw [hg]; exact HB.out.size : w.heap.size ≤ g6); replace HB := As.mk (bT HB.out hb); replace BK3 := As.mk (kB BK3.out hb); have BK6 := As.mk hbox; clear hbox hg hb; (try simp only [Act.put, sq1, sq2, sq3])) | ((with_reducible refine gD (N := 8) rfl ?_); (try (refine gG (by rfl) ?_; dsimp only)); refine wpList_load_row rfl 31 _ rfl g3 rfl 31 #[.slice A0 l0.length c0, .slice A1 l1.length c1] (0, 0) _ BK3.out huC rfl HIC.out ?_; (try simp only [Act.put, sq1, sq2, sq3])) | ((with_reducible refine gC (f := 9) rfl ?_); (with_reducible refine gD (N := 9) rfl ?_); refine gL (some 9) rfl rfl Try.func9 (by kernel_rfl) rfl #[.agg #[.slice A0 l0.length c0, .slice A1 l1.length c1]] rfl (by (try simp only [sm1, sm2, sm3]); first | done | rfl) ?_; refine (F35.calls k A0 c0 l0 A1 c1 l1 true _ (Kd.CB HR0.out HB.out) HC0.out (Kd.CB HR1.out HB.out) HC1.out HV.out).mono ?_; rintro e wd ⟨rfl, hb⟩; refine ⟨_, rfl, ?_⟩; replace HB := As.mk (bT HB.out hb); replace BK3 := As.mk (kB BK3.out hb); replace BK6 := As.mk (kB BK6.out hb); clear hb; (try simp only [Act.put, sq1, sq2, sq3])) | ((with_reducible refine gC (f := 33) rfl ?_); (with_reducible refine gD (N := 13) rfl ?_); refine gG (by rfl) ?_; dsimp only; refine gL (some 13) rfl rfl Try.func33 (by kernel_rfl) rfl #[.string s] rfl (by (try simp only [sm1, sm2, sm3]); first | done | rfl) ?_; refine (impl_isShort.calls s false _ HS.out).mono ?_; rintro e wd ⟨rfl, ⟨nd, rfl⟩⟩; refine ⟨_, rfl, ?_⟩; replace HB := As.mk (bT HB.out (bD (Below.refl _ _) nd)); replace BK3 := As.mk (kB BK3.out (bD (Below.refl _ _) nd)); replace BK6 := As.mk (kB BK6.out (bD (Below.refl _ _) nd)); (try simp only [Act.put, sq1, sq2, sq3])) | ((with_reducible refine gS (t := 45) (p := 6) rfl ?_); refine Go.Proofs.Ytbamjjaamjfnaaa.RowLaw.put_event rfl 45 _ _ rfl g6 0 (.agg #[.int .i64 0, .int .i64 0, .string (⟨#[]⟩ : ByteArray), .bool false, .int .i64 0, .int .i64 0, .int .i64 0, .int .i64 0, .bool false, .int .i64 0, .int .i64 0, .slice none 0 0, .slice none 0 0, .slice none 0 0, .slice none 0 0]) rfl rfl [.int .i64 0, .int .i64 0, .string (⟨#[]⟩ : ByteArray), .bool false, .int .i64 0, .int .i64 0, .int .i64 0, .int .i64 0, .bool false, .int .i64 0, .int .i64 0, .slice none 0 0, .slice none 0 0, .slice none 0 0, .slice none 0 0] rfl 45 _ #[.int .i64 0, .int .i64 0, .string (⟨#[]⟩ : ByteArray), .bool false, .int .i64 0, .int .i64 0, .int .i64 0, .int .i64 0, .bool false, .int .i64 0, .int .i64 0, .slice none 0 0, .slice none 0 0, .slice none 0 0, .slice none 0 0] BK6.out HIM.out (Nat.le_of_ble_eq_true rfl) rfl rfl ?_; intro w76 hk hoth hbel hz; replace HB := As.mk (hbel _ _ HB.out GE.out); replace BK6 := As.mk hk; clear hk hoth hbel hz BK3; (try simp only [Act.put, sq1, sq2, sq3])))
   refine bodyPost_ret (results_ct rfl _ _ g6 45 #[.int .i64 0, .int .i64 0, .string (⟨#[]⟩ : ByteArray), .bool false, .int .i64 0, .int .i64 0, .int .i64 0, .int .i64 0, .bool false, .int .i64 0, .int .i64 0, .slice none 0 0, .slice none 0 0, .slice none 0 0, .slice none 0 0] (0, 0) _ rfl BK6.out huM rfl HIM.out) rfl ?_
   exact ⟨by rw [HRR.out]; rfl, HB.out⟩
end Go.Proofs.Ytbamjjaamjfnaaa.PFnExactNewMatcher
