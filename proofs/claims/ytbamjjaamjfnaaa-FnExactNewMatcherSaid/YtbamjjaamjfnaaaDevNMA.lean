/- By hand: what the law FnExactNewMatcher reaches beyond the printed texts, and the law's own function. Conditions: none beyond each statement. -/
import Derived.Test.YtbamjjaamjfnaaaProg
import Derived.Below
import Derived.Deep.Draws
import Derived.Deep.AppendLies
import Derived.Maps.AppendAt
import Derived.OwnWalk
import Derived.Laws.BytesArg
import Derived.Laws.MakeOwn
import Derived.Laws.OwnMore
import Derived.Deep.OwnRows
import Derived.Tactics
import Derived.Lib.ConvBytes
import Derived.Laws.Slices
import Derived.WalkKit
import Derived.KernelRfl
import Derived.RowKit3
import Derived.Deep.LoopGhost
import Derived.Deep.QuietTactic
import Derived.BigQuiet
import Derived.WideLaws
import Derived.Deep.DeepCutAuto
import Derived.Deep.CutBlock
import Derived.Deep.RegionHeld3
import Derived.Laws.Rows
import Derived.Lib.AppendStr
import Derived.ArgAppend
import Derived.Laws.IdiomCopy
import Derived.OrdersHeld
import Derived.Laws.BitsLemmas
import Derived.RowKit
import Derived.Lib.SliceRun
import Derived.Test.YtbamjjaamjfnaaaRowLaw
import Derived.Test.YtbamjjaamjfnaaaWWords
import Derived.Test.YtbamjjaamjfnaaaWLast
import Derived.Test.YtbamjjaamjfnaaaWTab
import Derived.Test.YtbamjjaamjfnaaaWFour
import Derived.Test.YtbamjjaamjfnaaaWQPut
import Derived.Test.YtbamjjaamjfnaaaWApart
import Derived.Test.YtbamjjaamjfnaaaWArr
import Derived.Test.YtbamjjaamjfnaaaWZeros
import Derived.Test.YtbamjjaamjfnaaaWFoot
import Derived.Test.YtbamjjaamjfnaaaWKept
import Derived.Test.YtbamjjaamjfnaaaWShare
import Derived.Test.YtbamjjaamjfnaaaWN
import Derived.Test.YtbamjjaamjfnaaaWFootNe
import Derived.Test.YtbamjjaamjfnaaaWAt
import Derived.Test.YtbamjjaamjfnaaaWEqStruct
import Derived.Test.YtbamjjaamjfnaaaWRepsOne
import Derived.Test.YtbamjjaamjfnaaaWInv
import Derived.Test.YtbamjjaamjfnaaaWInvWords
import Derived.Test.YtbamjjaamjfnaaaWGuard
import Derived.Test.YtbamjjaamjfnaaaWNEv
import Derived.Test.YtbamjjaamjfnaaaWMore
import Derived.Test.YtbamjjaamjfnaaaPFnExactNewMatcherx0
import Derived.Test.YtbamjjaamjfnaaaRowLaw
namespace Go.Proofs.Ytbamjjaamjfnaaa.PFnExactNewMatcher
open Go.RowKit Go.Proofs.YtbamjjaamjfnaaaW.PrintWords Go.Proofs.YtbamjjaamjfnaaaW.PrintLast Go.Proofs.YtbamjjaamjfnaaaW.PrintMore
attribute [local go_sem] max2_int min2_int max_two min_two max_three min_three max_four min_four
set_option linter.unusedVariables false
set_option linter.unusedSimpArgs false
theorem z15 {w : World} {g : Nat} {t : TypeId} {c0 c1 c2 c3 c4 c5 c6 c7 c8 c9 c10 c11 c12 c13 c14 : Value} (h : w.heap[g]? = some (.cells #[c0, c1, c2, c3, c4, c5, c6, c7, c8, c9, c10, c11, c12, c13, c14] t (0, 0))) : w.cell? ⟨g, 0, none⟩ = some c0 ∧ w.cell? ⟨g, 1, none⟩ = some c1 ∧ w.cell? ⟨g, 2, none⟩ = some c2 ∧ w.cell? ⟨g, 3, none⟩ = some c3 ∧ w.cell? ⟨g, 4, none⟩ = some c4 ∧ w.cell? ⟨g, 5, none⟩ = some c5 ∧ w.cell? ⟨g, 6, none⟩ = some c6 ∧ w.cell? ⟨g, 7, none⟩ = some c7 ∧ w.cell? ⟨g, 8, none⟩ = some c8 ∧ w.cell? ⟨g, 9, none⟩ = some c9 ∧ w.cell? ⟨g, 10, none⟩ = some c10 ∧ w.cell? ⟨g, 11, none⟩ = some c11 ∧ w.cell? ⟨g, 12, none⟩ = some c12 ∧ w.cell? ⟨g, 13, none⟩ = some c13 ∧ w.cell? ⟨g, 14, none⟩ = some c14 := ⟨(kC h 0).trans rfl, (kC h 1).trans rfl, (kC h 2).trans rfl, (kC h 3).trans rfl, (kC h 4).trans rfl, (kC h 5).trans rfl, (kC h 6).trans rfl, (kC h 7).trans rfl, (kC h 8).trans rfl, (kC h 9).trans rfl, (kC h 10).trans rfl, (kC h 11).trans rfl, (kC h 12).trans rfl, (kC h 13).trans rfl, (kC h 14).trans rfl⟩
set_option maxHeartbeats 16000000 in
set_option maxRecDepth 100000 in
theorem eqF_nil (w : World) : Calls Try.prog 35 #[.slice none 0 0, .slice none 0 0] w fun e w' => e = .returned (.bool true) ∧ Below w.heap.size w w' := by
 have HB := As.mk (Below.refl w.heap.size w)
 go_enter Try.func35, Try.ntmps35
 go_wp2
 go_loopg [5] 0 (fun kq v5 w' => v5 = .int .i64 0 ∧ As (Below w.heap.size w w'))
 case atStart => exact ⟨rfl, ⟨by repeat (first | exact HB.out | apply bA | apply bD | apply bE)⟩⟩
 case round =>
  obtain ⟨rfl, HB⟩ := hrel
  go_wp2
  go_ret
  exact ⟨rfl, by repeat (first | exact HB.out | apply bA | apply bD | apply bE)⟩
set_option maxHeartbeats 16000000 in
set_option maxRecDepth 100000 in
theorem eqC_nil (w : World) : Calls Try.prog 36 #[.slice none 0 0, .slice none 0 0] w fun e w' => e = .returned (.bool true) ∧ Below w.heap.size w w' := by
 have HB := As.mk (Below.refl w.heap.size w)
 go_enter Try.func36, Try.ntmps36
 go_wp2
 go_loopg [5] 0 (fun kq v5 w' => v5 = .int .i64 0 ∧ As (Below w.heap.size w w'))
 case atStart => exact ⟨rfl, ⟨by repeat (first | exact HB.out | apply bA | apply bD | apply bE)⟩⟩
 case round =>
  obtain ⟨rfl, HB⟩ := hrel
  go_wp2
  go_ret
  exact ⟨rfl, by repeat (first | exact HB.out | apply bA | apply bD | apply bE)⟩
set_option maxHeartbeats 16000000 in
set_option maxRecDepth 100000 in
theorem eqP_nil (w : World) : Calls Try.prog 37 #[.slice none 0 0, .slice none 0 0] w fun e w' => e = .returned (.bool true) ∧ Below w.heap.size w w' := by
 have HB := As.mk (Below.refl w.heap.size w)
 go_enter Try.func37, Try.ntmps37
 go_wp2
 go_loopg [5] 0 (fun kq v5 w' => v5 = .int .i64 0 ∧ As (Below w.heap.size w w'))
 case atStart => exact ⟨rfl, ⟨by repeat (first | exact HB.out | apply bA | apply bD | apply bE)⟩⟩
 case round =>
  obtain ⟨rfl, HB⟩ := hrel
  go_wp2
  go_ret
  exact ⟨rfl, by repeat (first | exact HB.out | apply bA | apply bD | apply bE)⟩
set_option maxHeartbeats 16000000 in
set_option maxRecDepth 100000 in
theorem mkF_nil (w : World) : Calls Try.prog 38 #[.slice none 0 0, .int .i64 1] w fun e w' => e = .returned (.int .i64 1) ∧ Below w.heap.size w w' := by
 have HB := As.mk (Below.refl w.heap.size w)
 go_enter Try.func38, Try.ntmps38
 go_wp2
 go_loopg [1, 5] 0 (fun kq v1 v5 w' => v1 = .int .i64 1 ∧ v5 = .int .i64 0 ∧ As (Below w.heap.size w w'))
 case atStart => exact ⟨rfl, rfl, ⟨by repeat (first | exact HB.out | apply bA | apply bD | apply bE)⟩⟩
 case round =>
  obtain ⟨rfl, rfl, HB⟩ := hrel
  go_wp2
  go_ret
  exact ⟨rfl, by repeat (first | exact HB.out | apply bA | apply bD | apply bE)⟩
set_option maxHeartbeats 16000000 in
set_option maxRecDepth 100000 in
theorem mkC_nil (w : World) : Calls Try.prog 39 #[.slice none 0 0, .int .i64 1] w fun e w' => e = .returned (.int .i64 1) ∧ Below w.heap.size w w' := by
 have HB := As.mk (Below.refl w.heap.size w)
 go_enter Try.func39, Try.ntmps39
 go_wp2
 go_loopg [1, 5] 0 (fun kq v1 v5 w' => v1 = .int .i64 1 ∧ v5 = .int .i64 0 ∧ As (Below w.heap.size w w'))
 case atStart => exact ⟨rfl, rfl, ⟨by repeat (first | exact HB.out | apply bA | apply bD | apply bE)⟩⟩
 case round =>
  obtain ⟨rfl, rfl, HB⟩ := hrel
  go_wp2
  go_ret
  exact ⟨rfl, by repeat (first | exact HB.out | apply bA | apply bD | apply bE)⟩
set_option maxHeartbeats 16000000 in
set_option maxRecDepth 100000 in
theorem mkP_nil (w : World) : Calls Try.prog 40 #[.slice none 0 0, .int .i64 1] w fun e w' => e = .returned (.int .i64 1) ∧ Below w.heap.size w w' := by
 have HB := As.mk (Below.refl w.heap.size w)
 go_enter Try.func40, Try.ntmps40
 go_wp2
 go_loopg [1, 5] 0 (fun kq v1 v5 w' => v1 = .int .i64 1 ∧ v5 = .int .i64 0 ∧ As (Below w.heap.size w w'))
 case atStart => exact ⟨rfl, rfl, ⟨by repeat (first | exact HB.out | apply bA | apply bD | apply bE)⟩⟩
 case round =>
  obtain ⟨rfl, rfl, HB⟩ := hrel
  go_wp2
  go_ret
  exact ⟨rfl, by repeat (first | exact HB.out | apply bA | apply bD | apply bE)⟩
set_option maxHeartbeats 16000000 in
set_option maxRecDepth 100000 in
theorem hdF_nil (w : World) : Calls Try.prog 41 #[.slice none 0 0, .int .i64 1] w fun e w' => e = .returned (.int .i64 1) ∧ Below w.heap.size w w' := by
 have HB := As.mk (Below.refl w.heap.size w)
 go_enter Try.func41, Try.ntmps41
 go_wp2
 go_loopg [1, 5] 0 (fun kq v1 v5 w' => v1 = .int .i64 1 ∧ v5 = .int .i64 0 ∧ As (Below w.heap.size w w'))
 case atStart => exact ⟨rfl, rfl, ⟨by repeat (first | exact HB.out | apply bA | apply bD | apply bE)⟩⟩
 case round =>
  obtain ⟨rfl, rfl, HB⟩ := hrel
  go_wp2
  go_ret
  exact ⟨rfl, by repeat (first | exact HB.out | apply bA | apply bD | apply bE)⟩
set_option maxHeartbeats 16000000 in
set_option maxRecDepth 100000 in
theorem hdC_nil (w : World) : Calls Try.prog 42 #[.slice none 0 0, .int .i64 1] w fun e w' => e = .returned (.int .i64 1) ∧ Below w.heap.size w w' := by
 have HB := As.mk (Below.refl w.heap.size w)
 go_enter Try.func42, Try.ntmps42
 go_wp2
 go_loopg [1, 5] 0 (fun kq v1 v5 w' => v1 = .int .i64 1 ∧ v5 = .int .i64 0 ∧ As (Below w.heap.size w w'))
 case atStart => exact ⟨rfl, rfl, ⟨by repeat (first | exact HB.out | apply bA | apply bD | apply bE)⟩⟩
 case round =>
  obtain ⟨rfl, rfl, HB⟩ := hrel
  go_wp2
  go_ret
  exact ⟨rfl, by repeat (first | exact HB.out | apply bA | apply bD | apply bE)⟩
set_option maxHeartbeats 16000000 in
set_option maxRecDepth 100000 in
theorem hdP_nil (w : World) : Calls Try.prog 43 #[.slice none 0 0, .int .i64 1] w fun e w' => e = .returned (.int .i64 1) ∧ Below w.heap.size w w' := by
 have HB := As.mk (Below.refl w.heap.size w)
 go_enter Try.func43, Try.ntmps43
 go_wp2
 go_loopg [1, 5] 0 (fun kq v1 v5 w' => v1 = .int .i64 1 ∧ v5 = .int .i64 0 ∧ As (Below w.heap.size w w'))
 case atStart => exact ⟨rfl, rfl, ⟨by repeat (first | exact HB.out | apply bA | apply bD | apply bE)⟩⟩
 case round =>
  obtain ⟨rfl, rfl, HB⟩ := hrel
  go_wp2
  go_ret
  exact ⟨rfl, by repeat (first | exact HB.out | apply bA | apply bD | apply bE)⟩
set_option maxHeartbeats 16000000 in
set_option maxRecDepth 100000 in
theorem eqM (st : Int) (s : ByteArray) (b : Bool) (w : World) : Calls Try.prog 19 #[.agg #[.int .i64 st, .int .i64 0, .string s, .bool b, .int .i64 0, .int .i64 0, .int .i64 0, .int .i64 0, .bool false, .int .i64 0, .int .i64 0, .slice none 0 0, .slice none 0 0, .slice none 0 0, .slice none 0 0], .agg #[.int .i64 st, .int .i64 0, .string s, .bool b, .int .i64 0, .int .i64 0, .int .i64 0, .int .i64 0, .bool false, .int .i64 0, .int .i64 0, .slice none 0 0, .slice none 0 0, .slice none 0 0, .slice none 0 0]] w fun e w' => e = .returned (.bool true) ∧ Below w.heap.size w w' := by
 have hu0 := Try.underlying2
 have hu1 := Try.underlying9
 have hu2 := Try.underlying4
 have hu3 := Try.underlying41
 have hu4 := Try.underlying42
 have hu5 := Try.underlying43
 have hu6 := Try.underlying45
 have HB := As.mk (Below.refl w.heap.size w)
 go_enter Try.func19, Try.ntmps19
 go_wp2_with (first | ((with_reducible refine gD (N := 2) rfl ?_); refine bX ?hg (N := 2) ?hd (cs := #[.int .i64 st, .int .i64 0, .string s, .bool b, .int .i64 0, .int .i64 0, .int .i64 0, .int .i64 0, .bool false, .int .i64 0, .int .i64 0, .slice none 0 0, .slice none 0 0, .slice none 0 0, .slice none 0 0]) (t := 45) ?hr ?_; (case hd => rfl); (case hg => rfl); (case hr => first | (go_simp; done) | (go_simp; rfl)); intro g1 hg wg1 hbox hb; replace HB := As.mk (bT HB.out hb); have BK1 := As.mk hbox; clear hbox hg hb; (try simp only [Act.put, sq1, sq2, sq3])) | ((with_reducible refine gD (N := 3) rfl ?_); refine bX ?hg (N := 3) ?hd (cs := #[.int .i64 st, .int .i64 0, .string s, .bool b, .int .i64 0, .int .i64 0, .int .i64 0, .int .i64 0, .bool false, .int .i64 0, .int .i64 0, .slice none 0 0, .slice none 0 0, .slice none 0 0, .slice none 0 0]) (t := 45) ?hr ?_; (case hd => rfl); (case hg => rfl); (case hr => first | (go_simp; done) | (go_simp; rfl)); intro g2 hg wg2 hbox hb; replace HB := As.mk (bT HB.out hb); replace BK1 := As.mk (kB BK1.out hb); have BK2 := As.mk hbox; clear hbox hg hb; obtain ⟨hcz1_0, hcz1_1, hcz1_2, hcz1_3, hcz1_4, hcz1_5, hcz1_6, hcz1_7, hcz1_8, hcz1_9, hcz1_10, hcz1_11, hcz1_12, hcz1_13, hcz1_14⟩ := z15 BK1.out; have hfz1 := kF BK1.out; obtain ⟨hcz2_0, hcz2_1, hcz2_2, hcz2_3, hcz2_4, hcz2_5, hcz2_6, hcz2_7, hcz2_8, hcz2_9, hcz2_10, hcz2_11, hcz2_12, hcz2_13, hcz2_14⟩ := z15 BK2.out; have hfz2 := kF BK2.out; (try simp only [Act.put, sq1, sq2, sq3])) | ((with_reducible refine gC (f := 35) rfl ?_); (with_reducible refine gD (N := 64) rfl ?_); refine gL (some 64) rfl rfl Try.func35 (by kernel_rfl) rfl #[.slice none 0 0, .slice none 0 0] rfl (by (try simp only [sm1, sm2, sm3]); first | done | rfl) ?_; refine (eqF_nil _).mono ?_; rintro e wd ⟨rfl, hb⟩; refine ⟨_, rfl, ?_⟩; replace HB := As.mk (bT HB.out hb); replace BK1 := As.mk (kB BK1.out hb); replace BK2 := As.mk (kB BK2.out hb); clear hb; obtain ⟨hcz3_0, hcz3_1, hcz3_2, hcz3_3, hcz3_4, hcz3_5, hcz3_6, hcz3_7, hcz3_8, hcz3_9, hcz3_10, hcz3_11, hcz3_12, hcz3_13, hcz3_14⟩ := z15 BK1.out; have hfz3 := kF BK1.out; obtain ⟨hcz4_0, hcz4_1, hcz4_2, hcz4_3, hcz4_4, hcz4_5, hcz4_6, hcz4_7, hcz4_8, hcz4_9, hcz4_10, hcz4_11, hcz4_12, hcz4_13, hcz4_14⟩ := z15 BK2.out; have hfz4 := kF BK2.out; (try simp only [Act.put, sq1, sq2, sq3])) | ((with_reducible refine gC (f := 36) rfl ?_); (with_reducible refine gD (N := 70) rfl ?_); refine gL (some 70) rfl rfl Try.func36 (by kernel_rfl) rfl #[.slice none 0 0, .slice none 0 0] rfl (by (try simp only [sm1, sm2, sm3]); first | done | rfl) ?_; refine (eqC_nil _).mono ?_; rintro e wd ⟨rfl, hb⟩; refine ⟨_, rfl, ?_⟩; replace HB := As.mk (bT HB.out hb); replace BK1 := As.mk (kB BK1.out hb); replace BK2 := As.mk (kB BK2.out hb); clear hb; obtain ⟨hcz5_0, hcz5_1, hcz5_2, hcz5_3, hcz5_4, hcz5_5, hcz5_6, hcz5_7, hcz5_8, hcz5_9, hcz5_10, hcz5_11, hcz5_12, hcz5_13, hcz5_14⟩ := z15 BK1.out; have hfz5 := kF BK1.out; obtain ⟨hcz6_0, hcz6_1, hcz6_2, hcz6_3, hcz6_4, hcz6_5, hcz6_6, hcz6_7, hcz6_8, hcz6_9, hcz6_10, hcz6_11, hcz6_12, hcz6_13, hcz6_14⟩ := z15 BK2.out; have hfz6 := kF BK2.out; (try simp only [Act.put, sq1, sq2, sq3])) | ((with_reducible refine gC (f := 37) rfl ?_); (with_reducible refine gD (N := 76) rfl ?_); refine gL (some 76) rfl rfl Try.func37 (by kernel_rfl) rfl #[.slice none 0 0, .slice none 0 0] rfl (by (try simp only [sm1, sm2, sm3]); first | done | rfl) ?_; refine (eqP_nil _).mono ?_; rintro e wd ⟨rfl, hb⟩; refine ⟨_, rfl, ?_⟩; replace HB := As.mk (bT HB.out hb); replace BK1 := As.mk (kB BK1.out hb); replace BK2 := As.mk (kB BK2.out hb); clear hb; obtain ⟨hcz7_0, hcz7_1, hcz7_2, hcz7_3, hcz7_4, hcz7_5, hcz7_6, hcz7_7, hcz7_8, hcz7_9, hcz7_10, hcz7_11, hcz7_12, hcz7_13, hcz7_14⟩ := z15 BK1.out; have hfz7 := kF BK1.out; obtain ⟨hcz8_0, hcz8_1, hcz8_2, hcz8_3, hcz8_4, hcz8_5, hcz8_6, hcz8_7, hcz8_8, hcz8_9, hcz8_10, hcz8_11, hcz8_12, hcz8_13, hcz8_14⟩ := z15 BK2.out; have hfz8 := kF BK2.out; (try simp only [Act.put, sq1, sq2, sq3])) | ((with_reducible refine gC (f := 37) rfl ?_); (with_reducible refine gD (N := 82) rfl ?_); refine gL (some 82) rfl rfl Try.func37 (by kernel_rfl) rfl #[.slice none 0 0, .slice none 0 0] rfl (by (try simp only [sm1, sm2, sm3]); first | done | rfl) ?_; refine (eqP_nil _).mono ?_; rintro e wd ⟨rfl, hb⟩; refine ⟨_, rfl, ?_⟩; replace HB := As.mk (bT HB.out hb); replace BK1 := As.mk (kB BK1.out hb); replace BK2 := As.mk (kB BK2.out hb); clear hb; obtain ⟨hcz9_0, hcz9_1, hcz9_2, hcz9_3, hcz9_4, hcz9_5, hcz9_6, hcz9_7, hcz9_8, hcz9_9, hcz9_10, hcz9_11, hcz9_12, hcz9_13, hcz9_14⟩ := z15 BK1.out; have hfz9 := kF BK1.out; obtain ⟨hcz10_0, hcz10_1, hcz10_2, hcz10_3, hcz10_4, hcz10_5, hcz10_6, hcz10_7, hcz10_8, hcz10_9, hcz10_10, hcz10_11, hcz10_12, hcz10_13, hcz10_14⟩ := z15 BK2.out; have hfz10 := kF BK2.out; (try simp only [Act.put, sq1, sq2, sq3])))
 go_ret
 exact ⟨rfl, by repeat (first | exact HB.out | apply bA | apply bD | apply bE)⟩
set_option maxHeartbeats 16000000 in
set_option maxRecDepth 100000 in
theorem mkM (st : Int) (s : ByteArray) (b : Bool) (w : World) : Calls Try.prog 20 #[.agg #[.int .i64 st, .int .i64 0, .string s, .bool b, .int .i64 0, .int .i64 0, .int .i64 0, .int .i64 0, .bool false, .int .i64 0, .int .i64 0, .slice none 0 0, .slice none 0 0, .slice none 0 0, .slice none 0 0], .int .i64 1] w fun e w' => e = .returned (.int .i64 1) ∧ Below w.heap.size w w' := by
 have hu0 := Try.underlying2
 have hu1 := Try.underlying9
 have hu2 := Try.underlying4
 have hu3 := Try.underlying41
 have hu4 := Try.underlying42
 have hu5 := Try.underlying43
 have hu6 := Try.underlying45
 have HB := As.mk (Below.refl w.heap.size w)
 go_enter Try.func20, Try.ntmps20
 go_wp2_with (first | ((with_reducible refine gD (N := 2) rfl ?_); refine bX ?hg (N := 2) ?hd (cs := #[.int .i64 st, .int .i64 0, .string s, .bool b, .int .i64 0, .int .i64 0, .int .i64 0, .int .i64 0, .bool false, .int .i64 0, .int .i64 0, .slice none 0 0, .slice none 0 0, .slice none 0 0, .slice none 0 0]) (t := 45) ?hr ?_; (case hd => rfl); (case hg => rfl); (case hr => first | (go_simp; done) | (go_simp; rfl)); intro g1 hg wg1 hbox hb; replace HB := As.mk (bT HB.out hb); have BK1 := As.mk hbox; clear hbox hg hb; obtain ⟨hcz11_0, hcz11_1, hcz11_2, hcz11_3, hcz11_4, hcz11_5, hcz11_6, hcz11_7, hcz11_8, hcz11_9, hcz11_10, hcz11_11, hcz11_12, hcz11_13, hcz11_14⟩ := z15 BK1.out; have hfz11 := kF BK1.out; (try simp only [Act.put, sq1, sq2, sq3])) | ((with_reducible refine gC (f := 38) rfl ?_); (with_reducible refine gD (N := 8) rfl ?_); refine gL (some 8) rfl rfl Try.func38 (by kernel_rfl) rfl #[.slice none 0 0, .int .i64 1] rfl (by (try simp only [sm1, sm2, sm3]); first | done | rfl) ?_; refine (mkF_nil _).mono ?_; rintro e wd ⟨rfl, hb⟩; refine ⟨_, rfl, ?_⟩; replace HB := As.mk (bT HB.out hb); replace BK1 := As.mk (kB BK1.out hb); clear hb; obtain ⟨hcz12_0, hcz12_1, hcz12_2, hcz12_3, hcz12_4, hcz12_5, hcz12_6, hcz12_7, hcz12_8, hcz12_9, hcz12_10, hcz12_11, hcz12_12, hcz12_13, hcz12_14⟩ := z15 BK1.out; have hfz12 := kF BK1.out; (try simp only [Act.put, sq1, sq2, sq3])) | ((with_reducible refine gC (f := 39) rfl ?_); (with_reducible refine gD (N := 12) rfl ?_); refine gL (some 12) rfl rfl Try.func39 (by kernel_rfl) rfl #[.slice none 0 0, .int .i64 1] rfl (by (try simp only [sm1, sm2, sm3]); first | done | rfl) ?_; refine (mkC_nil _).mono ?_; rintro e wd ⟨rfl, hb⟩; refine ⟨_, rfl, ?_⟩; replace HB := As.mk (bT HB.out hb); replace BK1 := As.mk (kB BK1.out hb); clear hb; obtain ⟨hcz13_0, hcz13_1, hcz13_2, hcz13_3, hcz13_4, hcz13_5, hcz13_6, hcz13_7, hcz13_8, hcz13_9, hcz13_10, hcz13_11, hcz13_12, hcz13_13, hcz13_14⟩ := z15 BK1.out; have hfz13 := kF BK1.out; (try simp only [Act.put, sq1, sq2, sq3])) | ((with_reducible refine gC (f := 40) rfl ?_); (with_reducible refine gD (N := 16) rfl ?_); refine gL (some 16) rfl rfl Try.func40 (by kernel_rfl) rfl #[.slice none 0 0, .int .i64 1] rfl (by (try simp only [sm1, sm2, sm3]); first | done | rfl) ?_; refine (mkP_nil _).mono ?_; rintro e wd ⟨rfl, hb⟩; refine ⟨_, rfl, ?_⟩; replace HB := As.mk (bT HB.out hb); replace BK1 := As.mk (kB BK1.out hb); clear hb; obtain ⟨hcz14_0, hcz14_1, hcz14_2, hcz14_3, hcz14_4, hcz14_5, hcz14_6, hcz14_7, hcz14_8, hcz14_9, hcz14_10, hcz14_11, hcz14_12, hcz14_13, hcz14_14⟩ := z15 BK1.out; have hfz14 := kF BK1.out; (try simp only [Act.put, sq1, sq2, sq3])) | ((with_reducible refine gC (f := 40) rfl ?_); (with_reducible refine gD (N := 20) rfl ?_); refine gL (some 20) rfl rfl Try.func40 (by kernel_rfl) rfl #[.slice none 0 0, .int .i64 1] rfl (by (try simp only [sm1, sm2, sm3]); first | done | rfl) ?_; refine (mkP_nil _).mono ?_; rintro e wd ⟨rfl, hb⟩; refine ⟨_, rfl, ?_⟩; replace HB := As.mk (bT HB.out hb); replace BK1 := As.mk (kB BK1.out hb); clear hb; obtain ⟨hcz15_0, hcz15_1, hcz15_2, hcz15_3, hcz15_4, hcz15_5, hcz15_6, hcz15_7, hcz15_8, hcz15_9, hcz15_10, hcz15_11, hcz15_12, hcz15_13, hcz15_14⟩ := z15 BK1.out; have hfz15 := kF BK1.out; (try simp only [Act.put, sq1, sq2, sq3])))
 go_ret
 exact ⟨rfl, by repeat (first | exact HB.out | apply bA | apply bD | apply bE)⟩
set_option maxHeartbeats 16000000 in
set_option maxRecDepth 100000 in
theorem hdM (st : Int) (s : ByteArray) (b : Bool) (w : World) : Calls Try.prog 21 #[.agg #[.int .i64 st, .int .i64 0, .string s, .bool b, .int .i64 0, .int .i64 0, .int .i64 0, .int .i64 0, .bool false, .int .i64 0, .int .i64 0, .slice none 0 0, .slice none 0 0, .slice none 0 0, .slice none 0 0], .int .i64 1] w fun e w' => e = .returned (.int .i64 1) ∧ Below w.heap.size w w' := by
 have hu0 := Try.underlying2
 have hu1 := Try.underlying9
 have hu2 := Try.underlying4
 have hu3 := Try.underlying41
 have hu4 := Try.underlying42
 have hu5 := Try.underlying43
 have hu6 := Try.underlying45
 have HB := As.mk (Below.refl w.heap.size w)
 go_enter Try.func21, Try.ntmps21
 go_wp2_with (first | ((with_reducible refine gD (N := 2) rfl ?_); refine bX ?hg (N := 2) ?hd (cs := #[.int .i64 st, .int .i64 0, .string s, .bool b, .int .i64 0, .int .i64 0, .int .i64 0, .int .i64 0, .bool false, .int .i64 0, .int .i64 0, .slice none 0 0, .slice none 0 0, .slice none 0 0, .slice none 0 0]) (t := 45) ?hr ?_; (case hd => rfl); (case hg => rfl); (case hr => first | (go_simp; done) | (go_simp; rfl)); intro g1 hg wg1 hbox hb; replace HB := As.mk (bT HB.out hb); have BK1 := As.mk hbox; clear hbox hg hb; obtain ⟨hcz16_0, hcz16_1, hcz16_2, hcz16_3, hcz16_4, hcz16_5, hcz16_6, hcz16_7, hcz16_8, hcz16_9, hcz16_10, hcz16_11, hcz16_12, hcz16_13, hcz16_14⟩ := z15 BK1.out; have hfz16 := kF BK1.out; (try simp only [Act.put, sq1, sq2, sq3])) | ((with_reducible refine gC (f := 41) rfl ?_); (with_reducible refine gD (N := 8) rfl ?_); refine gL (some 8) rfl rfl Try.func41 (by kernel_rfl) rfl #[.slice none 0 0, .int .i64 1] rfl (by (try simp only [sm1, sm2, sm3]); first | done | rfl) ?_; refine (hdF_nil _).mono ?_; rintro e wd ⟨rfl, hb⟩; refine ⟨_, rfl, ?_⟩; replace HB := As.mk (bT HB.out hb); replace BK1 := As.mk (kB BK1.out hb); clear hb; obtain ⟨hcz17_0, hcz17_1, hcz17_2, hcz17_3, hcz17_4, hcz17_5, hcz17_6, hcz17_7, hcz17_8, hcz17_9, hcz17_10, hcz17_11, hcz17_12, hcz17_13, hcz17_14⟩ := z15 BK1.out; have hfz17 := kF BK1.out; (try simp only [Act.put, sq1, sq2, sq3])) | ((with_reducible refine gC (f := 42) rfl ?_); (with_reducible refine gD (N := 14) rfl ?_); refine gL (some 14) rfl rfl Try.func42 (by kernel_rfl) rfl #[.slice none 0 0, .int .i64 1] rfl (by (try simp only [sm1, sm2, sm3]); first | done | rfl) ?_; refine (hdC_nil _).mono ?_; rintro e wd ⟨rfl, hb⟩; refine ⟨_, rfl, ?_⟩; replace HB := As.mk (bT HB.out hb); replace BK1 := As.mk (kB BK1.out hb); clear hb; obtain ⟨hcz18_0, hcz18_1, hcz18_2, hcz18_3, hcz18_4, hcz18_5, hcz18_6, hcz18_7, hcz18_8, hcz18_9, hcz18_10, hcz18_11, hcz18_12, hcz18_13, hcz18_14⟩ := z15 BK1.out; have hfz18 := kF BK1.out; (try simp only [Act.put, sq1, sq2, sq3])) | ((with_reducible refine gC (f := 43) rfl ?_); (with_reducible refine gD (N := 20) rfl ?_); refine gL (some 20) rfl rfl Try.func43 (by kernel_rfl) rfl #[.slice none 0 0, .int .i64 1] rfl (by (try simp only [sm1, sm2, sm3]); first | done | rfl) ?_; refine (hdP_nil _).mono ?_; rintro e wd ⟨rfl, hb⟩; refine ⟨_, rfl, ?_⟩; replace HB := As.mk (bT HB.out hb); replace BK1 := As.mk (kB BK1.out hb); clear hb; obtain ⟨hcz19_0, hcz19_1, hcz19_2, hcz19_3, hcz19_4, hcz19_5, hcz19_6, hcz19_7, hcz19_8, hcz19_9, hcz19_10, hcz19_11, hcz19_12, hcz19_13, hcz19_14⟩ := z15 BK1.out; have hfz19 := kF BK1.out; (try simp only [Act.put, sq1, sq2, sq3])) | ((with_reducible refine gC (f := 43) rfl ?_); (with_reducible refine gD (N := 26) rfl ?_); refine gL (some 26) rfl rfl Try.func43 (by kernel_rfl) rfl #[.slice none 0 0, .int .i64 1] rfl (by (try simp only [sm1, sm2, sm3]); first | done | rfl) ?_; refine (hdP_nil _).mono ?_; rintro e wd ⟨rfl, hb⟩; refine ⟨_, rfl, ?_⟩; replace HB := As.mk (bT HB.out hb); replace BK1 := As.mk (kB BK1.out hb); clear hb; obtain ⟨hcz20_0, hcz20_1, hcz20_2, hcz20_3, hcz20_4, hcz20_5, hcz20_6, hcz20_7, hcz20_8, hcz20_9, hcz20_10, hcz20_11, hcz20_12, hcz20_13, hcz20_14⟩ := z15 BK1.out; have hfz20 := kF BK1.out; (try simp only [Act.put, sq1, sq2, sq3])))
 go_ret
 exact ⟨rfl, by repeat (first | exact HB.out | apply bA | apply bD | apply bE)⟩
end Go.Proofs.Ytbamjjaamjfnaaa.PFnExactNewMatcher
