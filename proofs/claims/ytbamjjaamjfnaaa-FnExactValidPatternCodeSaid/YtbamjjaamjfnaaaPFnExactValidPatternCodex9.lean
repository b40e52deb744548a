/- By a program of this session: for each Go function that the law reaches, a Lean function with the same answers, and that the code comes to exactly these answers. Conditions: none beyond each statement. -/
import Derived.Test.YtbamjjaamjfnaaaPFnExactValidPatternCodex0
import Derived.Test.YtbamjjaamjfnaaaPFnExactValidPatternCodex8
namespace Go.Proofs.Ytbamjjaamjfnaaa.PFnExactValidPatternCode
open Go.RowKit Go.Proofs.YtbamjjaamjfnaaaW.PrintWords Go.Proofs.YtbamjjaamjfnaaaW.PrintLast Go.Proofs.YtbamjjaamjfnaaaW.PrintMore
set_option maxHeartbeats 8000000
set_option maxRecDepth 100000
attribute [local go_sem] max2_int min2_int max_two min_two max_three min_three max_four min_four   -- for this text's walks alone
set_option linter.unusedVariables false
set_option linter.unusedSimpArgs false
def sameName (e x : S77) : Bool := x.f0.toList == e.f0.toList
def F9.g (k : Nat) (n : Int) (l : List S77) : Nat → Int → List S77 → Option Bool
 | _, _, [] => some true
 | i, last, e :: es => if (l.take i).any (sameName e) = true then some false else (impl_IsName.f k e.f0).bind fun b => if b = false then some false else if e.f1 ≤ last then some false else (impl_isIndex.f e.f1 n).bind fun q => if q = true then F9.g k n l (i + 1) e.f1 es else some false
def F9.f (k : Nat) (l0_0 : List S80) (l0_1 : List S77) : Option Bool := (F9.g k (l0_0.length : Int) l0_1 0 0 l0_1).bind fun b => some (b && decide ((l0_1.length : Int) ≤ 40))
theorem F9.mono_g (k : Nat) (n : Int) (l : List S77) (es : List S77) : ∀ (i : Nat) (last : Int), LeO (F9.g k n l i last es) (F9.g (k + 1) n l i last es) := by
 induction es with
 | nil => intro i last; exact LeO.refl _
 | cons e es ih =>
  intro i last
  simp only [F9.g]
  refine LeO.ite (LeO.refl _) (LeO.bind (impl_IsName.mono _ _) (fun b => LeO.ite (LeO.refl _) (LeO.ite (LeO.refl _) (LeO.bind (LeO.refl _) (fun q => LeO.ite (ih _ _) (LeO.refl _))))))
theorem F9.mono : ∀ a0 a1 k, LeO (F9.f k a0 a1) (F9.f (k + 1) a0 a1) := by
 intro a0 a1 k
 unfold F9.f
 exact LeO.bind (F9.mono_g k _ _ _ _ _) (fun _ => LeO.refl _)
set_option maxHeartbeats 4000000 in
set_option maxRecDepth 100000 in
theorem sameName_calls (e x : S77) (g5 : Nat) (w : World) (hg : w.heap[g5]? = some (.cells #[.string e.f0, .int .i64 e.f1] 77 (0, 0))) :
  Calls Try.prog 76 #[.agg #[.string x.f0, .int .i64 x.f1], .pointer (some ⟨g5, 0, none⟩)] w fun r w' => r = .returned (.bool (sameName e x)) ∧ Below w.heap.size w w' := by
 have huT := Try.underlying9
 have BK5 := As.mk hg
 have HB := As.mk (Below.refl w.heap.size w)
 clear hg
 go_enter Try.func76, Try.ntmps76
 go_wp2_with (first | ((with_reducible refine gate_dst (N := 2) rfl ?_); refine box_event ?hg (N := 2) ?hd (cs := #[.string x.f0, .int .i64 x.f1]) (t := 77) ?hr ?_; (case hd => rfl); (case hg => rfl); (case hr => first | (go_simp; done) | (go_simp; rfl)); intro g2 hg wg2 hbox hb; have n0_ := As.mk (bT HB.out hb); have n1_ := As.mk (kB BK5.out hb); clear HB BK5; have HB := n0_; have BK5 := n1_; clear n0_ n1_; have BK2 := As.mk hbox; clear hbox hg hb; (try simp only [Act.put, sq1, sq2, sq3])) | ((with_reducible refine gate_dst (N := 5) rfl ?_); refine Go.Proofs.Ytbamjjaamjfnaaa.RowLaw.cell_event rfl 9 _ rfl g2 0 rfl 77 #[.string x.f0, .int .i64 x.f1] _ (.string x.f0) BK2.out huT rfl rfl ?_; (try simp only [Act.put, sq1, sq2, sq3])) | ((with_reducible refine gate_dst (N := 7) rfl ?_); refine Go.Proofs.Ytbamjjaamjfnaaa.RowLaw.cell_event rfl 9 _ rfl g5 0 rfl 77 #[.string e.f0, .int .i64 e.f1] _ (.string e.f0) BK5.out huT rfl rfl ?_; (try simp only [Act.put, sq1, sq2, sq3])))
 go_ret
 exact ⟨rfl, HB.out⟩
set_option maxHeartbeats 4000000 in
set_option maxRecDepth 100000 in
theorem indexFunc_calls (e : S77) (g5 : Nat) (A : Option Addr) (c : Nat) (xs : List S77) (w : World) (hg : w.heap[g5]? = some (.cells #[.string e.f0, .int .i64 e.f1] 77 (0, 0))) (hx : Kd.C k77 w A xs.length xs) (hm : xs.length ≤ 9223372036854775807) :
  Calls Try.prog 92 #[.slice A xs.length c, .func (.func 76) #[] #[.pointer (some ⟨g5, 0, none⟩)]] w fun r w' => ∃ v : Int, r = .returned (.int .i64 v) ∧ (decide (0 ≤ v) = xs.any (sameName e)) ∧ Below w.heap.size w w' := by
 have huE := Try.underlying77
 have HIE := As.mk (by kernel_rfl : (Try.prog.info? 77).map (·.size) = some 2)
 have BK5 := As.mk hg
 have HX := As.mk hx
 have HM := As.mk hm
 clear hg hx hm
 go_enter Try.func92, Try.ntmps92
 go_wp2
 go_loopg [5, 8] xs.length (fun kq v5 v8 w' => ∃ (i : Nat), v8 = .int .i64 (i : Int) ∧ As (kq + i = xs.length) ∧ As (Below w.heap.size w w') ∧ As (w'.heap[g5]? = some (.cells #[.string e.f0, .int .i64 e.f1] 77 (0, 0))) ∧ As ((xs.take i).any (sameName e) = false))
 case atStart => exact ⟨0, rfl, ⟨by omega⟩, ⟨Below.refl _ _⟩, BK5, ⟨by simp⟩⟩
 case round =>
  clear BK5
  obtain ⟨i, rfl, HK, HB, BK5, HN⟩ := hrel
  by_cases hi2 : i < xs.length
  ·obtain ⟨kp, rfl⟩ : ∃ kp, gk = kp + 1 := ⟨gk - 1, by have := HK.out; omega⟩
   obtain ⟨x, hx⟩ : ∃ x, xs[i]? = some x := ⟨_, List.getElem?_eq_getElem hi2⟩
   have ex : xs.getD ((i : Int)).toNat z77 = x := by rw [List.getD_eq_getElem?_getD, Int.toNat_natCast, hx]; rfl
   obtain ⟨ad, c_, rfl, _, hK, hC⟩ := Go.Proofs.Ytbamjjaamjfnaaa.RowLaw.elem_of HX.out z77 (i : Int) (by omega) (by omega)
   rw [ex] at hK
   obtain rfl := k77_open hK
   have EC := As.mk hC
   have hkp : kp + (i + 1) = xs.length := by have := HK.out; omega
   have HT := As.mk (by rw [List.take_add_one, hx, List.any_append, HN.out]; simp : (xs.take (i + 1)).any (sameName e) = sameName e x)
   have HA := As.mk (fun hq : sameName e x = true => (List.any_eq_true.2 ⟨x, List.mem_of_getElem? hx, hq⟩ : xs.any (sameName e) = true))
   have HW := As.mk (by have := HM.out; unfold wrap64; omega : wrap64 ((i : Int) + 1) = ((i + 1 : Nat) : Int))
   have c5 : ((i : Int) < (xs.length : Int)) = True := eq_true (by omega)
   have c5n : decide (i < xs.length) = true := decide_eq_true hi2
   have c5b : decide ((i : Int) < (xs.length : Int)) = true := decide_eq_true (by omega)
   have c6 : (0 ≤ (i : Int)) = True := eq_true (by omega)
   clear hx hK hC ex hi2
   cases hq : sameName e x with
   | true =>
    have HQ := As.mk hq
    clear hq
    go_wp2_with (first | ((with_reducible refine gate_dst (N := 15) rfl ?_); refine Go.Proofs.Ytbamjjaamjfnaaa.RowLaw.at_event rfl 77 _ rfl _ rfl _ [.string x.f0, .int .i64 x.f1] huE rfl HIE.out (EC.out.below HB.out) ?_; (try simp only [Act.put, sq1, sq2, sq3])) | (go_at_call 76; have hc := sameName_calls e x g5 _ BK5.out; rw [HQ.out] at hc; refine hc.mono ?_; clear hc; rintro r w3 ⟨rfl, hb⟩; have n0_ := As.mk (bT HB.out hb); have n1_ := As.mk (kB BK5.out hb); clear HB BK5; have HB := n0_; have BK5 := n1_; clear n0_ n1_; clear hb))
    go_ret
    exact ⟨_, rfl, by rw [HA.out HQ.out]; exact decide_eq_true (by omega), HB.out⟩
   | false =>
    have HQ := As.mk hq
    clear hq
    go_wp2_with (first | ((with_reducible refine gate_dst (N := 15) rfl ?_); refine Go.Proofs.Ytbamjjaamjfnaaa.RowLaw.at_event rfl 77 _ rfl _ rfl _ [.string x.f0, .int .i64 x.f1] huE rfl HIE.out (EC.out.below HB.out) ?_; (try simp only [Act.put, sq1, sq2, sq3])) | (go_at_call 76; have hc := sameName_calls e x g5 _ BK5.out; rw [HQ.out] at hc; refine hc.mono ?_; clear hc; rintro r w3 ⟨rfl, hb⟩; have n0_ := As.mk (bT HB.out hb); have n1_ := As.mk (kB BK5.out hb); clear HB BK5; have HB := n0_; have BK5 := n1_; clear n0_ n1_; clear hb))
    go_roundg kp
    case measure => omega
    case rel => exact ⟨i + 1, by rw [HW.out], ⟨by omega⟩, HB, BK5, ⟨by rw [HT.out]; exact HQ.out⟩⟩
  ·obtain rfl : i = xs.length := by have := HK.out; omega
   have c5 : ((xs.length : Int) < (xs.length : Int)) = False := eq_false (by omega)
   have HZ := As.mk (by have := HN.out; rwa [List.take_length] at this : xs.any (sameName e) = false)
   clear hi2
   go_wp2
   go_ret
   exact ⟨_, rfl, by rw [HZ.out]; rfl, HB.out⟩
set_option maxHeartbeats 4000000 in
set_option maxRecDepth 100000 in
theorem containsFunc_calls (e : S77) (g5 : Nat) (A : Option Addr) (c : Nat) (xs : List S77) (w : World) (hg : w.heap[g5]? = some (.cells #[.string e.f0, .int .i64 e.f1] 77 (0, 0))) (hx : Kd.C k77 w A xs.length xs) (hm : xs.length ≤ 9223372036854775807) :
  Calls Try.prog 75 #[.slice A xs.length c, .func (.func 76) #[] #[.pointer (some ⟨g5, 0, none⟩)]] w fun r w' => r = .returned (.bool (xs.any (sameName e))) ∧ Below w.heap.size w w' := by
 have HX := As.mk hx
 have BK5 := As.mk hg
 have HM := As.mk hm
 clear hx hg hm
 go_enter Try.func75, Try.ntmps75
 go_wp2_with (go_at_call 92; refine (indexFunc_calls e g5 A c xs _ BK5.out HX.out HM.out).mono ?_; rintro r w2 ⟨v, rfl, hv, hb⟩; have HV := As.mk hv; have HB := As.mk hb; clear hv hb)
 go_ret
 exact ⟨by rw [← HV.out]; rfl, HB.out⟩
set_option maxHeartbeats 16000000 in
set_option maxRecDepth 100000 in
theorem F9.calls (k : Nat) (A0_0 : Option Addr) (c0_0 : Nat) (l0_0 : List S80) (A0_1 : Option Addr) (c0_1 : Nat) (l0_1 : List S77) (r : Bool) (w : World) (hr0_0 : Kd.C k80 w A0_0 l0_0.length l0_0) (hc0_0 : l0_0.length ≤ c0_0) (hr0_1 : Kd.C k77 w A0_1 l0_1.length l0_1) (hc0_1 : l0_1.length ≤ c0_1) (h : F9.f k l0_0 l0_1 = some r) :
  Calls Try.prog 55 #[.agg #[.slice A0_0 l0_0.length c0_0, .slice A0_1 l0_1.length c0_1]] w fun e w' => e = .returned (.bool r) ∧ Below w.heap.size w w' := by
 have huE := Try.underlying77
 have huSE := Try.underlying29
 have huSI := Try.underlying28
 have huT := Try.underlying9
 have huI := Try.underlying2
 have HIE := As.mk (by kernel_rfl : (Try.prog.info? 77).map (·.size) = some 2)
 have HX := As.mk hr0_1
 have HC := As.mk hc0_1
 have HB := As.mk (Below.refl w.heap.size w)
 clear hr0_0 hc0_0 hr0_1 hc0_1
 unfold F9.f at h
 replace h := Option.bind_eq_some_iff.mp h
 obtain ⟨r0, hg, h⟩ := h
 obtain rfl := Option.some.inj h
 have HG := As.mk hg
 clear hg
 obtain ⟨n, hn⟩ : ∃ n : Int, n = (l0_0.length : Int) := ⟨_, rfl⟩
 rw [← hn] at HG
 have HNN := As.mk hn
 clear hn
 go_enter Try.func55, Try.ntmps55
 go_wp2_with (first | ((with_reducible refine gate_dst (N := 1) rfl ?_); refine box_event ?hg (N := 1) ?hd (cs := #[.slice A0_0 l0_0.length c0_0, .slice A0_1 l0_1.length c0_1]) (t := 31) ?hr ?_; (case hd => rfl); (case hg => rfl); (case hr => first | (go_simp; done) | (go_simp; rfl)); intro g1 hg wg1 hbox hb; have n0_ := As.mk (bT HB.out hb); clear HB; have HB := n0_; clear n0_; have BK1 := As.mk hbox; clear hbox hg hb; (try simp only [Act.put, sq1, sq2, sq3])) | ((with_reducible refine gate_dst (N := 8) rfl ?_); refine Go.Proofs.Ytbamjjaamjfnaaa.RowLaw.cell_event rfl 29 _ rfl g1 1 rfl 31 #[.slice A0_0 l0_0.length c0_0, .slice A0_1 l0_1.length c0_1] _ (.slice A0_1 l0_1.length c0_1) BK1.out huSE rfl rfl ?_; (try simp only [Act.put, sq1, sq2, sq3])))
 go_loopg [3, 10] l0_1.length (fun kq v3 v10 w' => ∃ (i : Nat) (last : Int), v10 = .int .i64 (i : Int) ∧ v3 = .int .i64 last ∧ As (kq + i = l0_1.length) ∧ As (Below w.heap.size w w') ∧ As (w'.heap[g1]? = some (.cells #[.slice A0_0 l0_0.length c0_0, .slice A0_1 l0_1.length c0_1] 31 (0, 0))) ∧ As (F9.g k n l0_1 i last (l0_1.drop i) = some r0))
 case atStart => exact ⟨0, 0, rfl, rfl, ⟨by omega⟩, HB, BK1, HG⟩
 case round =>
  clear HB BK1 HG
  obtain ⟨i, last, rfl, rfl, HK, HB, BK1, HG⟩ := hrel
  by_cases hi2 : i < l0_1.length
  ·obtain ⟨kp, rfl⟩ : ∃ kp, gk = kp + 1 := ⟨gk - 1, by have := HK.out; omega⟩
   obtain ⟨x, hx⟩ : ∃ x, l0_1[i]? = some x := ⟨_, List.getElem?_eq_getElem hi2⟩
   have ex : l0_1.getD ((i : Int)).toNat z77 = x := by rw [List.getD_eq_getElem?_getD, Int.toNat_natCast, hx]; rfl
   obtain ⟨ad, c_, rfl, _, hK, hC⟩ := Go.Proofs.Ytbamjjaamjfnaaa.RowLaw.elem_of HX.out z77 (i : Int) (by omega) (by omega)
   rw [ex] at hK
   obtain rfl := k77_open hK
   have EC := As.mk hC
   have hkp : kp + (i + 1) = l0_1.length := by have := HK.out; omega
   have hlm : l0_1.length ≤ 9223372036854775807 := HX.out.2.1
   have XT := As.mk (Kd.C_take HX.out (Nat.le_of_lt hi2))
   have HTL := As.mk (by rw [List.length_take]; omega : (l0_1.take i).length = i)
   have HML := As.mk (by rw [List.length_take]; omega : (l0_1.take i).length ≤ 9223372036854775807)
   have hgg := HG.out
   rw [List.drop_eq_getElem_cons hi2, show l0_1[i] = x from by rw [List.getElem?_eq_getElem hi2] at hx; exact Option.some.inj hx] at hgg
   simp only [F9.g] at hgg
   have HW := As.mk (by unfold wrap64; omega : wrap64 ((i : Int) + 1) = ((i + 1 : Nat) : Int))
   have c5 : ((i : Int) < (l0_1.length : Int)) = True := eq_true (by omega)
   have c5n : decide (i < l0_1.length) = true := decide_eq_true hi2
   have c5b : decide ((i : Int) < (l0_1.length : Int)) = true := decide_eq_true (by omega)
   have c6 : (0 ≤ (i : Int)) = True := eq_true (by omega)
   have c7 : ((i : Int) ≤ (c0_1 : Int)) = True := eq_true (by have := HC.out; omega)
   have c7n : (i ≤ c0_1) = True := eq_true (by have := HC.out; omega)
   clear hx hK hC ex HG
   cases hmet : (l0_1.take i).any (sameName x) with
   | true =>
    rw [hmet, if_pos rfl] at hgg
    obtain rfl := Option.some.inj hgg
    have HMET := As.mk hmet
    clear hmet hgg
    go_wp2_with (first | ((with_reducible refine gate_dst (N := 14) rfl ?_); refine Go.Proofs.Ytbamjjaamjfnaaa.RowLaw.at_event rfl 77 _ rfl _ rfl _ [.string x.f0, .int .i64 x.f1] huE rfl HIE.out (EC.out.below HB.out) ?_; (try simp only [Act.put, sq1, sq2, sq3])) | ((with_reducible refine gate_dst (N := 5) rfl ?_); refine box_event ?hg (N := 5) ?hd (cs := #[.string (⟨#[]⟩ : ByteArray), .int .i64 0]) (t := 77) ?hr ?_; (case hd => rfl); (case hg => rfl); (case hr => first | (go_simp; done) | (go_simp; rfl)); intro g5 hg w5 hbox hb; have HX5 := As.mk hb; have HGE := As.mk (Nat.le_of_eq hg.symm); have BKn := As.mk hbox; clear hg hbox hb; (try simp only [Act.put, sq1, sq2, sq3])) | ((with_reducible refine gate_store (t := 77) (p := 5) rfl ?_); refine Go.Proofs.Ytbamjjaamjfnaaa.RowLaw.put_event rfl 77 _ _ rfl g5 0 (.agg #[.string x.f0, .int .i64 x.f1]) rfl rfl [.string x.f0, .int .i64 x.f1] rfl 77 _ #[.string x.f0, .int .i64 x.f1] BKn.out HIE.out (Nat.le_of_ble_eq_true rfl) rfl rfl ?_; intro w7 hk hoth hbel hz; have hb := hbel _ _ HX5.out HGE.out; have n0_ := As.mk (bT HB.out hb); have n1_ := As.mk (kB BK1.out hb); clear HB BK1; have HB := n0_; have BK1 := n1_; clear n0_ n1_; have BK5 := As.mk hk; clear hk hoth hbel hz hb HX5 HGE BKn; (try simp only [Act.put, sq1, sq2, sq3])) | ((with_reducible refine gate_dst (N := 16) rfl ?_); refine Go.Proofs.Ytbamjjaamjfnaaa.RowLaw.cell_event rfl 29 _ rfl g1 1 rfl 31 #[.slice A0_0 l0_0.length c0_0, .slice (some ad) l0_1.length c0_1] _ (.slice (some ad) l0_1.length c0_1) BK1.out huSE rfl rfl ?_; (try simp only [Act.put, sq1, sq2, sq3])) | (go_at_call 75; refine calls_of_args (args' := #[.slice (some ad) (l0_1.take i).length c0_1, .func (.func 76) #[] #[.pointer (some ⟨g5, 0, none⟩)]]) (by rw [HTL.out]) ?_; have hc := containsFunc_calls x g5 (some ad) c0_1 (l0_1.take i) _ BK5.out (Kd.C_below XT.out HB.out) HML.out; rw [HMET.out] at hc; refine hc.mono ?_; clear hc; rintro r w3 ⟨rfl, hb⟩; have n0_ := As.mk (bT HB.out hb); have n1_ := As.mk (kB BK1.out hb); have n2_ := As.mk (kB BK5.out hb); clear HB BK1 BK5; have HB := n0_; have BK1 := n1_; have BK5 := n2_; clear n0_ n1_ n2_; clear hb) | ((with_reducible refine gate_dst (N := 24) rfl ?_); refine gate_guard (by rfl) ?_; dsimp only; refine Go.Proofs.Ytbamjjaamjfnaaa.RowLaw.cell_event rfl 9 _ rfl g5 0 rfl 77 #[.string x.f0, .int .i64 x.f1] _ (.string x.f0) BK5.out huT rfl rfl ?_; (try simp only [Act.put, sq1, sq2, sq3])) | ((with_reducible refine gate_dst (N := 30) rfl ?_); refine gate_guard (by rfl) ?_; dsimp only; refine Go.Proofs.Ytbamjjaamjfnaaa.RowLaw.cell_event rfl 2 _ rfl g5 1 rfl 77 #[.string x.f0, .int .i64 x.f1] _ (.int .i64 x.f1) BK5.out huI rfl rfl ?_; (try simp only [Act.put, sq1, sq2, sq3])) | ((with_reducible refine gate_dst (N := 36) rfl ?_); refine gate_guard (by rfl) ?_; dsimp only; refine Go.Proofs.Ytbamjjaamjfnaaa.RowLaw.cell_event rfl 2 _ rfl g5 1 rfl 77 #[.string x.f0, .int .i64 x.f1] _ (.int .i64 x.f1) BK5.out huI rfl rfl ?_; (try simp only [Act.put, sq1, sq2, sq3])) | ((with_reducible refine gate_dst (N := 38) rfl ?_); refine gate_guard (by rfl) ?_; dsimp only; refine Go.Proofs.Ytbamjjaamjfnaaa.RowLaw.cell_event rfl 28 _ rfl g1 0 rfl 31 #[.slice A0_0 l0_0.length c0_0, .slice (some ad) l0_1.length c0_1] _ (.slice A0_0 l0_0.length c0_0) BK1.out huSI rfl rfl ?_; (try simp only [Act.put, sq1, sq2, sq3])) | ((with_reducible refine gate_dst (N := 44) rfl ?_); refine Go.Proofs.Ytbamjjaamjfnaaa.RowLaw.cell_event rfl 2 _ rfl g5 1 rfl 77 #[.string x.f0, .int .i64 x.f1] _ (.int .i64 x.f1) BK5.out huI rfl rfl ?_; (try simp only [Act.put, sq1, sq2, sq3])))
    go_ret
    exact ⟨by rfl, HB.out⟩
   | false =>
    rw [hmet, if_neg (by simp)] at hgg
    have HMET := As.mk hmet
    replace hgg := Option.bind_eq_some_iff.mp hgg
    obtain ⟨b, hI, hgg⟩ := hgg
    have HI := As.mk hI
    clear hmet hI
    cases b with
    | false =>
     rw [if_pos rfl] at hgg
     obtain rfl := Option.some.inj hgg
     clear hgg
     go_wp2_with (first | ((with_reducible refine gate_dst (N := 14) rfl ?_); refine Go.Proofs.Ytbamjjaamjfnaaa.RowLaw.at_event rfl 77 _ rfl _ rfl _ [.string x.f0, .int .i64 x.f1] huE rfl HIE.out (EC.out.below HB.out) ?_; (try simp only [Act.put, sq1, sq2, sq3])) | ((with_reducible refine gate_dst (N := 5) rfl ?_); refine box_event ?hg (N := 5) ?hd (cs := #[.string (⟨#[]⟩ : ByteArray), .int .i64 0]) (t := 77) ?hr ?_; (case hd => rfl); (case hg => rfl); (case hr => first | (go_simp; done) | (go_simp; rfl)); intro g5 hg w5 hbox hb; have HX5 := As.mk hb; have HGE := As.mk (Nat.le_of_eq hg.symm); have BKn := As.mk hbox; clear hg hbox hb; (try simp only [Act.put, sq1, sq2, sq3])) | ((with_reducible refine gate_store (t := 77) (p := 5) rfl ?_); refine Go.Proofs.Ytbamjjaamjfnaaa.RowLaw.put_event rfl 77 _ _ rfl g5 0 (.agg #[.string x.f0, .int .i64 x.f1]) rfl rfl [.string x.f0, .int .i64 x.f1] rfl 77 _ #[.string x.f0, .int .i64 x.f1] BKn.out HIE.out (Nat.le_of_ble_eq_true rfl) rfl rfl ?_; intro w7 hk hoth hbel hz; have hb := hbel _ _ HX5.out HGE.out; have n0_ := As.mk (bT HB.out hb); have n1_ := As.mk (kB BK1.out hb); clear HB BK1; have HB := n0_; have BK1 := n1_; clear n0_ n1_; have BK5 := As.mk hk; clear hk hoth hbel hz hb HX5 HGE BKn; (try simp only [Act.put, sq1, sq2, sq3])) | ((with_reducible refine gate_dst (N := 16) rfl ?_); refine Go.Proofs.Ytbamjjaamjfnaaa.RowLaw.cell_event rfl 29 _ rfl g1 1 rfl 31 #[.slice A0_0 l0_0.length c0_0, .slice (some ad) l0_1.length c0_1] _ (.slice (some ad) l0_1.length c0_1) BK1.out huSE rfl rfl ?_; (try simp only [Act.put, sq1, sq2, sq3])) | (go_at_call 75; refine calls_of_args (args' := #[.slice (some ad) (l0_1.take i).length c0_1, .func (.func 76) #[] #[.pointer (some ⟨g5, 0, none⟩)]]) (by rw [HTL.out]) ?_; have hc := containsFunc_calls x g5 (some ad) c0_1 (l0_1.take i) _ BK5.out (Kd.C_below XT.out HB.out) HML.out; rw [HMET.out] at hc; refine hc.mono ?_; clear hc; rintro r w3 ⟨rfl, hb⟩; have n0_ := As.mk (bT HB.out hb); have n1_ := As.mk (kB BK1.out hb); have n2_ := As.mk (kB BK5.out hb); clear HB BK1 BK5; have HB := n0_; have BK1 := n1_; have BK5 := n2_; clear n0_ n1_ n2_; clear hb) | ((with_reducible refine gate_dst (N := 24) rfl ?_); refine gate_guard (by rfl) ?_; dsimp only; refine Go.Proofs.Ytbamjjaamjfnaaa.RowLaw.cell_event rfl 9 _ rfl g5 0 rfl 77 #[.string x.f0, .int .i64 x.f1] _ (.string x.f0) BK5.out huT rfl rfl ?_; (try simp only [Act.put, sq1, sq2, sq3])) | ((with_reducible refine gate_dst (N := 30) rfl ?_); refine gate_guard (by rfl) ?_; dsimp only; refine Go.Proofs.Ytbamjjaamjfnaaa.RowLaw.cell_event rfl 2 _ rfl g5 1 rfl 77 #[.string x.f0, .int .i64 x.f1] _ (.int .i64 x.f1) BK5.out huI rfl rfl ?_; (try simp only [Act.put, sq1, sq2, sq3])) | ((with_reducible refine gate_dst (N := 36) rfl ?_); refine gate_guard (by rfl) ?_; dsimp only; refine Go.Proofs.Ytbamjjaamjfnaaa.RowLaw.cell_event rfl 2 _ rfl g5 1 rfl 77 #[.string x.f0, .int .i64 x.f1] _ (.int .i64 x.f1) BK5.out huI rfl rfl ?_; (try simp only [Act.put, sq1, sq2, sq3])) | ((with_reducible refine gate_dst (N := 38) rfl ?_); refine gate_guard (by rfl) ?_; dsimp only; refine Go.Proofs.Ytbamjjaamjfnaaa.RowLaw.cell_event rfl 28 _ rfl g1 0 rfl 31 #[.slice A0_0 l0_0.length c0_0, .slice (some ad) l0_1.length c0_1] _ (.slice A0_0 l0_0.length c0_0) BK1.out huSI rfl rfl ?_; (try simp only [Act.put, sq1, sq2, sq3])) | ((with_reducible refine gate_dst (N := 44) rfl ?_); refine Go.Proofs.Ytbamjjaamjfnaaa.RowLaw.cell_event rfl 2 _ rfl g5 1 rfl 77 #[.string x.f0, .int .i64 x.f1] _ (.int .i64 x.f1) BK5.out huI rfl rfl ?_; (try simp only [Act.put, sq1, sq2, sq3])) | ((with_reducible refine gate_callee (f := 73) rfl ?_); (with_reducible refine gate_dst (N := 25) rfl ?_); refine gate_guard (by rfl) ?_; dsimp only; refine goesL_ (some 25) rfl rfl Try.func73 (by kernel_rfl) rfl #[.string x.f0] rfl (by (try simp only [sm1, sm2, sm3]); first | done | rfl) ?_; refine (impl_IsName.calls k x.f0 false _ HI.out).mono ?_; rintro e w4 ⟨rfl, hb⟩; refine ⟨_, rfl, ?_⟩; have n0_ := As.mk (bT HB.out hb); have n1_ := As.mk (kB BK1.out hb); have n2_ := As.mk (kB BK5.out hb); clear HB BK1 BK5; have HB := n0_; have BK1 := n1_; have BK5 := n2_; clear n0_ n1_ n2_; clear hb; (try simp only [Act.put, sq1, sq2, sq3])))
     go_ret
     exact ⟨by rfl, HB.out⟩
    | true =>
     rw [if_neg (by simp)] at hgg
     by_cases hle : x.f1 ≤ last
     ·rw [if_pos hle] at hgg
      obtain rfl := Option.some.inj hgg
      have c8 : (x.f1 ≤ last) = True := eq_true hle
      have c8b : decide (x.f1 ≤ last) = true := decide_eq_true hle
      clear hgg hle
      go_wp2_with (first | ((with_reducible refine gate_dst (N := 14) rfl ?_); refine Go.Proofs.Ytbamjjaamjfnaaa.RowLaw.at_event rfl 77 _ rfl _ rfl _ [.string x.f0, .int .i64 x.f1] huE rfl HIE.out (EC.out.below HB.out) ?_; (try simp only [Act.put, sq1, sq2, sq3])) | ((with_reducible refine gate_dst (N := 5) rfl ?_); refine box_event ?hg (N := 5) ?hd (cs := #[.string (⟨#[]⟩ : ByteArray), .int .i64 0]) (t := 77) ?hr ?_; (case hd => rfl); (case hg => rfl); (case hr => first | (go_simp; done) | (go_simp; rfl)); intro g5 hg w5 hbox hb; have HX5 := As.mk hb; have HGE := As.mk (Nat.le_of_eq hg.symm); have BKn := As.mk hbox; clear hg hbox hb; (try simp only [Act.put, sq1, sq2, sq3])) | ((with_reducible refine gate_store (t := 77) (p := 5) rfl ?_); refine Go.Proofs.Ytbamjjaamjfnaaa.RowLaw.put_event rfl 77 _ _ rfl g5 0 (.agg #[.string x.f0, .int .i64 x.f1]) rfl rfl [.string x.f0, .int .i64 x.f1] rfl 77 _ #[.string x.f0, .int .i64 x.f1] BKn.out HIE.out (Nat.le_of_ble_eq_true rfl) rfl rfl ?_; intro w7 hk hoth hbel hz; have hb := hbel _ _ HX5.out HGE.out; have n0_ := As.mk (bT HB.out hb); have n1_ := As.mk (kB BK1.out hb); clear HB BK1; have HB := n0_; have BK1 := n1_; clear n0_ n1_; have BK5 := As.mk hk; clear hk hoth hbel hz hb HX5 HGE BKn; (try simp only [Act.put, sq1, sq2, sq3])) | ((with_reducible refine gate_dst (N := 16) rfl ?_); refine Go.Proofs.Ytbamjjaamjfnaaa.RowLaw.cell_event rfl 29 _ rfl g1 1 rfl 31 #[.slice A0_0 l0_0.length c0_0, .slice (some ad) l0_1.length c0_1] _ (.slice (some ad) l0_1.length c0_1) BK1.out huSE rfl rfl ?_; (try simp only [Act.put, sq1, sq2, sq3])) | (go_at_call 75; refine calls_of_args (args' := #[.slice (some ad) (l0_1.take i).length c0_1, .func (.func 76) #[] #[.pointer (some ⟨g5, 0, none⟩)]]) (by rw [HTL.out]) ?_; have hc := containsFunc_calls x g5 (some ad) c0_1 (l0_1.take i) _ BK5.out (Kd.C_below XT.out HB.out) HML.out; rw [HMET.out] at hc; refine hc.mono ?_; clear hc; rintro r w3 ⟨rfl, hb⟩; have n0_ := As.mk (bT HB.out hb); have n1_ := As.mk (kB BK1.out hb); have n2_ := As.mk (kB BK5.out hb); clear HB BK1 BK5; have HB := n0_; have BK1 := n1_; have BK5 := n2_; clear n0_ n1_ n2_; clear hb) | ((with_reducible refine gate_dst (N := 24) rfl ?_); refine gate_guard (by rfl) ?_; dsimp only; refine Go.Proofs.Ytbamjjaamjfnaaa.RowLaw.cell_event rfl 9 _ rfl g5 0 rfl 77 #[.string x.f0, .int .i64 x.f1] _ (.string x.f0) BK5.out huT rfl rfl ?_; (try simp only [Act.put, sq1, sq2, sq3])) | ((with_reducible refine gate_dst (N := 30) rfl ?_); refine gate_guard (by rfl) ?_; dsimp only; refine Go.Proofs.Ytbamjjaamjfnaaa.RowLaw.cell_event rfl 2 _ rfl g5 1 rfl 77 #[.string x.f0, .int .i64 x.f1] _ (.int .i64 x.f1) BK5.out huI rfl rfl ?_; (try simp only [Act.put, sq1, sq2, sq3])) | ((with_reducible refine gate_dst (N := 36) rfl ?_); refine gate_guard (by rfl) ?_; dsimp only; refine Go.Proofs.Ytbamjjaamjfnaaa.RowLaw.cell_event rfl 2 _ rfl g5 1 rfl 77 #[.string x.f0, .int .i64 x.f1] _ (.int .i64 x.f1) BK5.out huI rfl rfl ?_; (try simp only [Act.put, sq1, sq2, sq3])) | ((with_reducible refine gate_dst (N := 38) rfl ?_); refine gate_guard (by rfl) ?_; dsimp only; refine Go.Proofs.Ytbamjjaamjfnaaa.RowLaw.cell_event rfl 28 _ rfl g1 0 rfl 31 #[.slice A0_0 l0_0.length c0_0, .slice (some ad) l0_1.length c0_1] _ (.slice A0_0 l0_0.length c0_0) BK1.out huSI rfl rfl ?_; (try simp only [Act.put, sq1, sq2, sq3])) | ((with_reducible refine gate_dst (N := 44) rfl ?_); refine Go.Proofs.Ytbamjjaamjfnaaa.RowLaw.cell_event rfl 2 _ rfl g5 1 rfl 77 #[.string x.f0, .int .i64 x.f1] _ (.int .i64 x.f1) BK5.out huI rfl rfl ?_; (try simp only [Act.put, sq1, sq2, sq3])) | ((with_reducible refine gate_callee (f := 73) rfl ?_); (with_reducible refine gate_dst (N := 25) rfl ?_); refine gate_guard (by rfl) ?_; dsimp only; refine goesL_ (some 25) rfl rfl Try.func73 (by kernel_rfl) rfl #[.string x.f0] rfl (by (try simp only [sm1, sm2, sm3]); first | done | rfl) ?_; refine (impl_IsName.calls k x.f0 true _ HI.out).mono ?_; rintro e w4 ⟨rfl, hb⟩; refine ⟨_, rfl, ?_⟩; have n0_ := As.mk (bT HB.out hb); have n1_ := As.mk (kB BK1.out hb); have n2_ := As.mk (kB BK5.out hb); clear HB BK1 BK5; have HB := n0_; have BK1 := n1_; have BK5 := n2_; clear n0_ n1_ n2_; clear hb; (try simp only [Act.put, sq1, sq2, sq3])))
      go_ret
      exact ⟨by rfl, HB.out⟩
     rw [if_neg hle] at hgg
     have c8 : (x.f1 ≤ last) = False := eq_false hle
     have c8b : decide (x.f1 ≤ last) = false := decide_eq_false hle
     replace hgg := Option.bind_eq_some_iff.mp hgg
     obtain ⟨q, hJ, hgg⟩ := hgg
     rw [HNN.out] at hJ
     have HJ := As.mk hJ
     clear hJ hle
     cases q with
     | false =>
      rw [if_neg (by simp)] at hgg
      obtain rfl := Option.some.inj hgg
      clear hgg
      go_wp2_with (first | ((with_reducible refine gate_dst (N := 14) rfl ?_); refine Go.Proofs.Ytbamjjaamjfnaaa.RowLaw.at_event rfl 77 _ rfl _ rfl _ [.string x.f0, .int .i64 x.f1] huE rfl HIE.out (EC.out.below HB.out) ?_; (try simp only [Act.put, sq1, sq2, sq3])) | ((with_reducible refine gate_dst (N := 5) rfl ?_); refine box_event ?hg (N := 5) ?hd (cs := #[.string (⟨#[]⟩ : ByteArray), .int .i64 0]) (t := 77) ?hr ?_; (case hd => rfl); (case hg => rfl); (case hr => first | (go_simp; done) | (go_simp; rfl)); intro g5 hg w5 hbox hb; have HX5 := As.mk hb; have HGE := As.mk (Nat.le_of_eq hg.symm); have BKn := As.mk hbox; clear hg hbox hb; (try simp only [Act.put, sq1, sq2, sq3])) | ((with_reducible refine gate_store (t := 77) (p := 5) rfl ?_); refine Go.Proofs.Ytbamjjaamjfnaaa.RowLaw.put_event rfl 77 _ _ rfl g5 0 (.agg #[.string x.f0, .int .i64 x.f1]) rfl rfl [.string x.f0, .int .i64 x.f1] rfl 77 _ #[.string x.f0, .int .i64 x.f1] BKn.out HIE.out (Nat.le_of_ble_eq_true rfl) rfl rfl ?_; intro w7 hk hoth hbel hz; have hb := hbel _ _ HX5.out HGE.out; have n0_ := As.mk (bT HB.out hb); have n1_ := As.mk (kB BK1.out hb); clear HB BK1; have HB := n0_; have BK1 := n1_; clear n0_ n1_; have BK5 := As.mk hk; clear hk hoth hbel hz hb HX5 HGE BKn; (try simp only [Act.put, sq1, sq2, sq3])) | ((with_reducible refine gate_dst (N := 16) rfl ?_); refine Go.Proofs.Ytbamjjaamjfnaaa.RowLaw.cell_event rfl 29 _ rfl g1 1 rfl 31 #[.slice A0_0 l0_0.length c0_0, .slice (some ad) l0_1.length c0_1] _ (.slice (some ad) l0_1.length c0_1) BK1.out huSE rfl rfl ?_; (try simp only [Act.put, sq1, sq2, sq3])) | (go_at_call 75; refine calls_of_args (args' := #[.slice (some ad) (l0_1.take i).length c0_1, .func (.func 76) #[] #[.pointer (some ⟨g5, 0, none⟩)]]) (by rw [HTL.out]) ?_; have hc := containsFunc_calls x g5 (some ad) c0_1 (l0_1.take i) _ BK5.out (Kd.C_below XT.out HB.out) HML.out; rw [HMET.out] at hc; refine hc.mono ?_; clear hc; rintro r w3 ⟨rfl, hb⟩; have n0_ := As.mk (bT HB.out hb); have n1_ := As.mk (kB BK1.out hb); have n2_ := As.mk (kB BK5.out hb); clear HB BK1 BK5; have HB := n0_; have BK1 := n1_; have BK5 := n2_; clear n0_ n1_ n2_; clear hb) | ((with_reducible refine gate_dst (N := 24) rfl ?_); refine gate_guard (by rfl) ?_; dsimp only; refine Go.Proofs.Ytbamjjaamjfnaaa.RowLaw.cell_event rfl 9 _ rfl g5 0 rfl 77 #[.string x.f0, .int .i64 x.f1] _ (.string x.f0) BK5.out huT rfl rfl ?_; (try simp only [Act.put, sq1, sq2, sq3])) | ((with_reducible refine gate_dst (N := 30) rfl ?_); refine gate_guard (by rfl) ?_; dsimp only; refine Go.Proofs.Ytbamjjaamjfnaaa.RowLaw.cell_event rfl 2 _ rfl g5 1 rfl 77 #[.string x.f0, .int .i64 x.f1] _ (.int .i64 x.f1) BK5.out huI rfl rfl ?_; (try simp only [Act.put, sq1, sq2, sq3])) | ((with_reducible refine gate_dst (N := 36) rfl ?_); refine gate_guard (by rfl) ?_; dsimp only; refine Go.Proofs.Ytbamjjaamjfnaaa.RowLaw.cell_event rfl 2 _ rfl g5 1 rfl 77 #[.string x.f0, .int .i64 x.f1] _ (.int .i64 x.f1) BK5.out huI rfl rfl ?_; (try simp only [Act.put, sq1, sq2, sq3])) | ((with_reducible refine gate_dst (N := 38) rfl ?_); refine gate_guard (by rfl) ?_; dsimp only; refine Go.Proofs.Ytbamjjaamjfnaaa.RowLaw.cell_event rfl 28 _ rfl g1 0 rfl 31 #[.slice A0_0 l0_0.length c0_0, .slice (some ad) l0_1.length c0_1] _ (.slice A0_0 l0_0.length c0_0) BK1.out huSI rfl rfl ?_; (try simp only [Act.put, sq1, sq2, sq3])) | ((with_reducible refine gate_dst (N := 44) rfl ?_); refine Go.Proofs.Ytbamjjaamjfnaaa.RowLaw.cell_event rfl 2 _ rfl g5 1 rfl 77 #[.string x.f0, .int .i64 x.f1] _ (.int .i64 x.f1) BK5.out huI rfl rfl ?_; (try simp only [Act.put, sq1, sq2, sq3])) | ((with_reducible refine gate_callee (f := 73) rfl ?_); (with_reducible refine gate_dst (N := 25) rfl ?_); refine gate_guard (by rfl) ?_; dsimp only; refine goesL_ (some 25) rfl rfl Try.func73 (by kernel_rfl) rfl #[.string x.f0] rfl (by (try simp only [sm1, sm2, sm3]); first | done | rfl) ?_; refine (impl_IsName.calls k x.f0 true _ HI.out).mono ?_; rintro e w4 ⟨rfl, hb⟩; refine ⟨_, rfl, ?_⟩; have n0_ := As.mk (bT HB.out hb); have n1_ := As.mk (kB BK1.out hb); have n2_ := As.mk (kB BK5.out hb); clear HB BK1 BK5; have HB := n0_; have BK1 := n1_; have BK5 := n2_; clear n0_ n1_ n2_; clear hb; (try simp only [Act.put, sq1, sq2, sq3])) | ((with_reducible refine gate_callee (f := 71) rfl ?_); (with_reducible refine gate_dst (N := 40) rfl ?_); refine gate_guard (by rfl) ?_; dsimp only; refine goesL_ (some 40) rfl rfl Try.func71 (by kernel_rfl) rfl #[.int .i64 x.f1, .int .i64 (l0_0.length : Int)] rfl (by (try simp only [sm1, sm2, sm3]); first | done | rfl) ?_; refine (impl_isIndex.calls x.f1 (l0_0.length : Int) false _ HJ.out).mono ?_; rintro e w4 ⟨rfl, ⟨md, rfl⟩⟩; refine ⟨_, rfl, ?_⟩; have n0_ := As.mk (bT HB.out (bD (Below.refl _ _) md)); have n1_ := As.mk (kB BK1.out (bD (Below.refl _ _) md)); have n2_ := As.mk (kB BK5.out (bD (Below.refl _ _) md)); clear HB BK1 BK5; have HB := n0_; have BK1 := n1_; have BK5 := n2_; clear n0_ n1_ n2_; (try simp only [Act.put, sq1, sq2, sq3])))
      go_ret
      exact ⟨by rfl, HB.out⟩
     | true =>
      rw [if_pos rfl] at hgg
      have HG := As.mk hgg
      clear hgg
      go_wp2_with (first | ((with_reducible refine gate_dst (N := 14) rfl ?_); refine Go.Proofs.Ytbamjjaamjfnaaa.RowLaw.at_event rfl 77 _ rfl _ rfl _ [.string x.f0, .int .i64 x.f1] huE rfl HIE.out (EC.out.below HB.out) ?_; (try simp only [Act.put, sq1, sq2, sq3])) | ((with_reducible refine gate_dst (N := 5) rfl ?_); refine box_event ?hg (N := 5) ?hd (cs := #[.string (⟨#[]⟩ : ByteArray), .int .i64 0]) (t := 77) ?hr ?_; (case hd => rfl); (case hg => rfl); (case hr => first | (go_simp; done) | (go_simp; rfl)); intro g5 hg w5 hbox hb; have HX5 := As.mk hb; have HGE := As.mk (Nat.le_of_eq hg.symm); have BKn := As.mk hbox; clear hg hbox hb; (try simp only [Act.put, sq1, sq2, sq3])) | ((with_reducible refine gate_store (t := 77) (p := 5) rfl ?_); refine Go.Proofs.Ytbamjjaamjfnaaa.RowLaw.put_event rfl 77 _ _ rfl g5 0 (.agg #[.string x.f0, .int .i64 x.f1]) rfl rfl [.string x.f0, .int .i64 x.f1] rfl 77 _ #[.string x.f0, .int .i64 x.f1] BKn.out HIE.out (Nat.le_of_ble_eq_true rfl) rfl rfl ?_; intro w7 hk hoth hbel hz; have hb := hbel _ _ HX5.out HGE.out; have n0_ := As.mk (bT HB.out hb); have n1_ := As.mk (kB BK1.out hb); clear HB BK1; have HB := n0_; have BK1 := n1_; clear n0_ n1_; have BK5 := As.mk hk; clear hk hoth hbel hz hb HX5 HGE BKn; (try simp only [Act.put, sq1, sq2, sq3])) | ((with_reducible refine gate_dst (N := 16) rfl ?_); refine Go.Proofs.Ytbamjjaamjfnaaa.RowLaw.cell_event rfl 29 _ rfl g1 1 rfl 31 #[.slice A0_0 l0_0.length c0_0, .slice (some ad) l0_1.length c0_1] _ (.slice (some ad) l0_1.length c0_1) BK1.out huSE rfl rfl ?_; (try simp only [Act.put, sq1, sq2, sq3])) | (go_at_call 75; refine calls_of_args (args' := #[.slice (some ad) (l0_1.take i).length c0_1, .func (.func 76) #[] #[.pointer (some ⟨g5, 0, none⟩)]]) (by rw [HTL.out]) ?_; have hc := containsFunc_calls x g5 (some ad) c0_1 (l0_1.take i) _ BK5.out (Kd.C_below XT.out HB.out) HML.out; rw [HMET.out] at hc; refine hc.mono ?_; clear hc; rintro r w3 ⟨rfl, hb⟩; have n0_ := As.mk (bT HB.out hb); have n1_ := As.mk (kB BK1.out hb); have n2_ := As.mk (kB BK5.out hb); clear HB BK1 BK5; have HB := n0_; have BK1 := n1_; have BK5 := n2_; clear n0_ n1_ n2_; clear hb) | ((with_reducible refine gate_dst (N := 24) rfl ?_); refine gate_guard (by rfl) ?_; dsimp only; refine Go.Proofs.Ytbamjjaamjfnaaa.RowLaw.cell_event rfl 9 _ rfl g5 0 rfl 77 #[.string x.f0, .int .i64 x.f1] _ (.string x.f0) BK5.out huT rfl rfl ?_; (try simp only [Act.put, sq1, sq2, sq3])) | ((with_reducible refine gate_dst (N := 30) rfl ?_); refine gate_guard (by rfl) ?_; dsimp only; refine Go.Proofs.Ytbamjjaamjfnaaa.RowLaw.cell_event rfl 2 _ rfl g5 1 rfl 77 #[.string x.f0, .int .i64 x.f1] _ (.int .i64 x.f1) BK5.out huI rfl rfl ?_; (try simp only [Act.put, sq1, sq2, sq3])) | ((with_reducible refine gate_dst (N := 36) rfl ?_); refine gate_guard (by rfl) ?_; dsimp only; refine Go.Proofs.Ytbamjjaamjfnaaa.RowLaw.cell_event rfl 2 _ rfl g5 1 rfl 77 #[.string x.f0, .int .i64 x.f1] _ (.int .i64 x.f1) BK5.out huI rfl rfl ?_; (try simp only [Act.put, sq1, sq2, sq3])) | ((with_reducible refine gate_dst (N := 38) rfl ?_); refine gate_guard (by rfl) ?_; dsimp only; refine Go.Proofs.Ytbamjjaamjfnaaa.RowLaw.cell_event rfl 28 _ rfl g1 0 rfl 31 #[.slice A0_0 l0_0.length c0_0, .slice (some ad) l0_1.length c0_1] _ (.slice A0_0 l0_0.length c0_0) BK1.out huSI rfl rfl ?_; (try simp only [Act.put, sq1, sq2, sq3])) | ((with_reducible refine gate_dst (N := 44) rfl ?_); refine Go.Proofs.Ytbamjjaamjfnaaa.RowLaw.cell_event rfl 2 _ rfl g5 1 rfl 77 #[.string x.f0, .int .i64 x.f1] _ (.int .i64 x.f1) BK5.out huI rfl rfl ?_; (try simp only [Act.put, sq1, sq2, sq3])) | ((with_reducible refine gate_callee (f := 73) rfl ?_); (with_reducible refine gate_dst (N := 25) rfl ?_); refine gate_guard (by rfl) ?_; dsimp only; refine goesL_ (some 25) rfl rfl Try.func73 (by kernel_rfl) rfl #[.string x.f0] rfl (by (try simp only [sm1, sm2, sm3]); first | done | rfl) ?_; refine (impl_IsName.calls k x.f0 true _ HI.out).mono ?_; rintro e w4 ⟨rfl, hb⟩; refine ⟨_, rfl, ?_⟩; have n0_ := As.mk (bT HB.out hb); have n1_ := As.mk (kB BK1.out hb); have n2_ := As.mk (kB BK5.out hb); clear HB BK1 BK5; have HB := n0_; have BK1 := n1_; have BK5 := n2_; clear n0_ n1_ n2_; clear hb; (try simp only [Act.put, sq1, sq2, sq3])) | ((with_reducible refine gate_callee (f := 71) rfl ?_); (with_reducible refine gate_dst (N := 40) rfl ?_); refine gate_guard (by rfl) ?_; dsimp only; refine goesL_ (some 40) rfl rfl Try.func71 (by kernel_rfl) rfl #[.int .i64 x.f1, .int .i64 (l0_0.length : Int)] rfl (by (try simp only [sm1, sm2, sm3]); first | done | rfl) ?_; refine (impl_isIndex.calls x.f1 (l0_0.length : Int) true _ HJ.out).mono ?_; rintro e w4 ⟨rfl, ⟨md, rfl⟩⟩; refine ⟨_, rfl, ?_⟩; have n0_ := As.mk (bT HB.out (bD (Below.refl _ _) md)); have n1_ := As.mk (kB BK1.out (bD (Below.refl _ _) md)); have n2_ := As.mk (kB BK5.out (bD (Below.refl _ _) md)); clear HB BK1 BK5; have HB := n0_; have BK1 := n1_; have BK5 := n2_; clear n0_ n1_ n2_; (try simp only [Act.put, sq1, sq2, sq3])))
      go_roundg kp
      case measure => omega
      case rel => exact ⟨i + 1, x.f1, by first | rfl | rw [HW.out], rfl, ⟨by omega⟩, HB, BK1, HG⟩
  ·obtain rfl : i = l0_1.length := by have := HK.out; omega
   have hgg := HG.out
   rw [List.drop_length] at hgg
   simp only [F9.g] at hgg
   obtain rfl := Option.some.inj hgg
   have c5 : ((l0_1.length : Int) < (l0_1.length : Int)) = False := eq_false (by omega)
   clear hi2 hgg HG
   go_wp2_with (first | ((with_reducible refine gate_dst (N := 47) rfl ?_); refine Go.Proofs.Ytbamjjaamjfnaaa.RowLaw.cell_event rfl 29 _ rfl g1 1 rfl 31 #[.slice A0_0 l0_0.length c0_0, .slice A0_1 l0_1.length c0_1] _ (.slice A0_1 l0_1.length c0_1) BK1.out huSE rfl rfl ?_; (try simp only [Act.put, sq1, sq2, sq3])))
   go_ret
   exact ⟨by simp, HB.out⟩
def F6.l0 : Nat → List Int → List (S77) → Int → Int → List (S80) → List (S77) → Option (List Int)
 | 0, _, _, _, _, _, _ => none
 | k + 1, x3, x8, x9, x10, x264000, x264001 => if x10 < x9 then (if 0 ≤ x10 then (if x10 < (x8.length : Int) then (if x3.length < 17592186044416 then (F6.l0 k (x3 ++ [(rd_T77 x8 x10).f1]) x8 x9 (wrap64 (x10 + 1)) x264000 x264001) else (none)) else (none)) else (none)) else (if x3.length < 17592186044416 then (some (x3 ++ [(x264000.length : Int)])) else (none))
def F6.f (k : Nat) (l0_0 : List (S80)) (l0_1 : List (S77)) : Option (List Int) := F6.l0 k (([0] : List Int)) l0_1 (l0_1.length : Int) 0 l0_0 l0_1
theorem F6.mono_l : ∀ k, (∀ y0 y1 y2 y3 y4 y5, LeO (F6.l0 k y0 y1 y2 y3 y4 y5) (F6.l0 (k + 1) y0 y1 y2 y3 y4 y5))
 | 0 => fun _ _ _ _ _ _ r h => by simp [F6.l0] at h
 | k + 1 => by
  have ih0 := F6.mono_l k
  ·intro y0 y1 y2 y3 y4 y5
   unfold F6.l0
   repeat' with_reducible first
   | exact ih0 _ _ _ _ _ _
   | exact LeO.refl _
   | exact LeO.none _
   | refine LeO.ite ?_ ?_
   | refine LeO.bind ?_ (fun _ => ?_)
theorem F6.mono : ∀ a0 a1 k, LeO (F6.f k a0 a1) (F6.f (k + 1) a0 a1) := by
 intro a0 a1 k
 have ih0 := F6.mono_l k
 unfold F6.f
 repeat' with_reducible first
   | exact ih0 _ _ _ _ _ _
   | exact LeO.refl _
   | exact LeO.none _
   | refine LeO.ite ?_ ?_
   | refine LeO.bind ?_ (fun _ => ?_)
theorem F6.calls (k : Nat) (A0_0 : Option Addr) (c0_0 : Nat) (l0_0 : List (S80)) (A0_1 : Option Addr) (c0_1 : Nat) (l0_1 : List (S77)) (r : List Int) (w : World) (hr0_0 : Kd.C k80 w A0_0 l0_0.length l0_0) (hc0_0 : l0_0.length ≤ c0_0) (hr0_1 : Kd.C k77 w A0_1 l0_1.length l0_1) (hc0_1 : l0_1.length ≤ c0_1) (h : F6.f k l0_0 l0_1 = some r) :
  Calls Try.prog 56 #[.agg #[.slice A0_0 l0_0.length c0_0, .slice A0_1 l0_1.length c0_1]] w fun e w' => ∃ v0_ : Value, e = .returned (v0_) ∧ Kd.R (Kd.int .i64) 2 w' w.heap.size (fun _ => True) v0_ r ∧ Below w.heap.size w w' := by
 have hu31 := Try.underlying31
 have hu77 := Try.underlying77
 have HR0_0 := As.mk hr0_0
 have HC0_0 := As.mk hc0_0
 clear hr0_0 hc0_0
 have HR0_1 := As.mk hr0_1
 have HC0_1 := As.mk hc0_1
 clear hr0_1 hc0_1
 have HB := As.mk (Below.refl w.heap.size w)
 have H : (F6.l0 k (([0] : List Int)) l0_1 (l0_1.length : Int) 0 l0_0 l0_1) = some r := h
 clear h
 obtain ⟨y264, hy264⟩ : ∃ y_ : List Int, y_ = (([0] : List Int)) := ⟨_, rfl⟩
 replace H : (F6.l0 k y264 l0_1 (l0_1.length : Int) 0 l0_0 l0_1) = some r := by first | (rw [hy264]; with_reducible exact H) | (have H2_ := (Option.bind_some _ _).symm.trans H; rw [hy264]; with_reducible exact H2_) | (have H2_ := (Option.bind_some _ _).symm.trans H; with_reducible exact H2_) | with_reducible exact H | (rw [hy264]; exact H) | exact H
 have Ny264 := As.mk hy264
 clear hy264
 have H' := As.mk H
 clear H
 go_enter Try.func56, Try.ntmps56
 go_wp2_with (first | ((with_reducible refine gate_dst (N := 1) rfl ?_); refine box_event ?hg (N := 1) ?hd (cs := #[.slice A0_0 l0_0.length c0_0, .slice A0_1 l0_1.length c0_1]) (t := 31) ?hr ?_; (case hd => rfl); (case hg => rfl); (case hr => first | (go_simp; done) | (go_simp; rfl)); intro gb263 hg w2 hbox hb; have n0_ := As.mk (bT (by repeat (first | (with_reducible first | exact HB.out | apply bA | apply bD | apply bE) | exact HB.out)) hb); have n1_ := As.mk (hbox); have n2_ := As.mk ((by rw [hg]; exact (bZ (by repeat (first | (with_reducible first | exact HB.out | apply bA | apply bD | apply bE) | exact HB.out))) : w.heap.size ≤ gb263)); have n3_ := n2_; clear HB; have HB := n0_; have BK263 := n1_; have GW263 := n2_; have GE263 := n3_; clear n0_ n1_ n2_ n3_; clear hb hbox hg) | ((with_reducible refine gate_dst (N := 6) rfl ?_); refine Kd.R_lit (Kd.int .i64) _ 2 ?hg (N := 6) ?hd (xs := ([0] : List Int)) (inner := [.int .i64 0]) (ok := fun _ => True) (okp := fun _ => True) ?hr ?hp (fun _ hk => hk) trivial (Below.refl _ _) (Nat.le_refl _) (by simp) ?_; (case hd => rfl); (case hg => rfl); (case hr => first | (go_simp; done) | (go_simp; rfl)); (case hp => exact (Reps.one (show Kd.M (Kd.int .i64) _ _ _ 0 [.int .i64 0] from rfl) (Reps.none _ _))); intro v265 w3 ho4 hb hg_ hnew_; clear hg_ hnew_; (first | rw [← Ny264.out] at ho4 | (simp only [Int.reduceToNat] at ho4; rw [← Ny264.out] at ho4)); have n0_ := As.mk (Kd.R_lower ho4 (bZ (by repeat (first | (with_reducible first | exact HB.out | apply bA | apply bD | apply bE | refine bS ?_ GE263.out) | exact HB.out)))); have n1_ := As.mk (kB (g := gb263) (o := .cells #[.slice A0_0 l0_0.length c0_0, .slice A0_1 l0_1.length c0_1] 31 (0, 0)) (by (with_reducible repeat (first | refine kD ?_ _ | refine kE ?_ | refine kA ?_ _)); exact BK263.out) hb); have n2_ := As.mk (bT (by repeat (first | (with_reducible first | exact HB.out | apply bA | apply bD | apply bE | refine bS ?_ GE263.out) | exact HB.out)) hb); clear BK263; clear HB; have HO266 := n0_; have BK263 := n1_; have HB := n2_; clear n0_ n1_ n2_; clear hb ho4; have hcz5_0 : w3.cell? ⟨gb263, 0, none⟩ = some (.slice A0_0 l0_0.length c0_0) := (kC BK263.out 0).trans rfl; have hcz5_1 : w3.cell? ⟨gb263, 1, none⟩ = some (.slice A0_1 l0_1.length c0_1) := (kC BK263.out 1).trans rfl; have hfz5_0 := kF BK263.out 0; have hfz5_1 := kF BK263.out 1))
 go_loopg [3, 10] k (fun kq v3 v10 w' => ∃ (x3_1 : List Int) (x10_1 : Int), v10 = .int .i64 x10_1 ∧ As (F6.l0 kq x3_1 l0_1 (l0_1.length : Int) x10_1 l0_0 l0_1 = some r) ∧ As (kq ≤ k) ∧ As (Kd.R (Kd.int .i64) 2 w' w.heap.size (fun _ => True) v3 x3_1) ∧ As (w'.heap[gb263]? = some (.cells #[(.slice A0_0 l0_0.length c0_0), (.slice A0_1 l0_1.length c0_1)] 31 (0, 0))) ∧ As (Below w.heap.size w w'))
 case atStart => exact ⟨(y264), (0), (by first | rfl | (simp; done) | (simp [*]; done)), H', ⟨Nat.le_refl _⟩, ⟨by (with_reducible repeat (first | apply Kd.R_alloc | apply Kd.R_drewN | apply Kd.R_drew)); exact HO266.out⟩, ⟨by (with_reducible repeat (first | refine kD ?_ _ | refine kE ?_ | refine kA ?_ _)); exact BK263.out⟩, ⟨by repeat (first | (with_reducible first | exact HB.out | apply bA | apply bD | apply bE | refine bS ?_ GE263.out) | exact HB.out)⟩⟩
 case round =>
  clear H'
  try clear hcz5_0
  try clear hcz5_1
  try clear hfz5_0
  try clear hfz5_1
  obtain ⟨x3_1, x10_1, rfl, HA, HK1, HO_3, BK263, HB⟩ := hrel
  cases gk with
  | zero => exact absurd HA.out (by simp [F6.l0])
  | succ k1 =>
   have H := HA.out
   clear HA
   simp only [F6.l0] at H
   by_cases c6 : x10_1 < (l0_1.length : Int)
   ·rw [if_pos c6] at H
    have c6b0 : decide (x10_1 < (l0_1.length : Int)) = true := decide_eq_true c6
    clear c6
    by_cases c7 : 0 ≤ x10_1
    ·rw [if_pos c7] at H
     have c7b0 : decide (0 ≤ x10_1) = true := decide_eq_true c7
     clear c7
     by_cases c8 : x10_1 < (l0_1.length : Int)
     ·rw [if_pos c8] at H
      have c8b0 : decide (x10_1 < (l0_1.length : Int)) = true := decide_eq_true c8
      clear c8
      by_cases c9 : x3_1.length < 17592186044416
      ·rw [if_pos c9] at H
       have LMc9 := As.mk c9
       clear c9
       obtain ⟨y269, hy269⟩ : ∃ y_ : List Int, y_ = (x3_1 ++ [(rd_T77 l0_1 x10_1).f1]) := ⟨_, rfl⟩
       replace H : (F6.l0 k1 y269 l0_1 (l0_1.length : Int) (wrap64 (x10_1 + 1)) l0_0 l0_1) = some r := by first | (rw [hy269]; with_reducible exact H) | (have H2_ := (Option.bind_some _ _).symm.trans H; rw [hy269]; with_reducible exact H2_) | (have H2_ := (Option.bind_some _ _).symm.trans H; with_reducible exact H2_) | with_reducible exact H | (rw [hy269]; exact H) | exact H
       have Ny269 := As.mk hy269
       clear hy269
       have H' := As.mk H
       clear H
       have p267 : 0 ≤ (x10_1 : Int) := of_decide_eq_true (by first | (with_reducible assumption) | assumption)
       have q267 : x10_1 < (l0_1.length : Int) := of_decide_eq_true (by first | (with_reducible assumption) | assumption)
       obtain ⟨ad267, e267, hx267_0, hx267_1⟩ := at_T77 HR0_1.out x10_1 p267 q267
       cases e267
       replace hx267_0 := (HB.out.cell (World.block_lt_of_cell? w _ hx267_0)).trans hx267_0
       replace hx267_1 := (HB.out.cell (World.block_lt_of_cell? w _ hx267_1)).trans hx267_1
       replace p267 := eq_true p267
       replace q267 := eq_true q267
       go_wp2_with (first | ((with_reducible refine gate_dst (N := 5) rfl ?_); refine box_event ?hg (N := 5) ?hd (cs := #[.string (⟨#[]⟩ : ByteArray), .int .i64 0]) (t := 77) ?hr ?_; (case hd => rfl); (case hg => rfl); (case hr => first | (go_simp; done) | (go_simp; rfl)); intro gb268 hg w10 hbox hb; have n0_ := As.mk (Kd.R_below (by (with_reducible repeat (first | apply Kd.R_alloc | apply Kd.R_drewN | apply Kd.R_drew)); exact HO_3.out) hb); have n1_ := As.mk (kB (g := gb263) (o := .cells #[.slice A0_0 l0_0.length c0_0, .slice (some ad267) l0_1.length c0_1] 31 (0, 0)) (by (with_reducible repeat (first | refine kD ?_ _ | refine kE ?_ | refine kA ?_ _)); exact BK263.out) hb); have n2_ := As.mk (bT (by repeat (first | (with_reducible first | exact HB.out | apply bA | apply bD | apply bE | refine bS ?_ GE263.out) | exact HB.out)) hb); have n3_ := As.mk (hbox); have n4_ := As.mk ((by rw [hg]; exact (bZ (by repeat (first | (with_reducible first | exact HB.out | apply bA | apply bD | apply bE | refine bS ?_ GE263.out) | exact HB.out))) : w.heap.size ≤ gb268)); have n5_ := n4_; have n6_ := As.mk ((by rw [hg]; exact Nat.ne_of_lt (kL (g := gb263) (o := .cells #[.slice A0_0 l0_0.length c0_0, .slice (some ad267) l0_1.length c0_1] 31 (0, 0)) (by (with_reducible repeat (first | refine kD ?_ _ | refine kE ?_ | refine kA ?_ _)); exact BK263.out)) : gb263 ≠ gb268)); have n7_ := As.mk n6_.out.symm; clear HO_3; clear BK263; clear HB; have HO_3 := n0_; have BK263 := n1_; have HB := n2_; have BK268 := n3_; have GW268 := n4_; have GE268 := n5_; have NB263_268 := n6_; have NB268_263 := n7_; clear n0_ n1_ n2_ n3_ n4_ n5_ n6_ n7_; clear hb hbox hg; have hnb11 := NB268_263.out; have hnc11 := NB263_268.out; have hcz12_0 : w10.cell? ⟨gb268, 0, none⟩ = some (.string (⟨#[]⟩ : ByteArray)) := (kC BK268.out 0).trans rfl; have hcz12_1 : w10.cell? ⟨gb268, 1, none⟩ = some (.int .i64 0) := (kC BK268.out 1).trans rfl; have hfz12_0 := kF BK268.out 0; have hfz12_1 := kF BK268.out 1) | ((with_reducible refine gate_builtin (b := .append) (xs := #[.tmp 14, .tmp 17]) rfl ?_); at_builtin; refine Kd.R_append (Kd.int .i64) (w0 := w) w.heap.size rfl (.tmp 14) (.tmp 17) 35 2 (.int .i64 0) 8 rfl Try.underlying35 info2 rfl (by decide) (by omega) u3 x3_1 ((rd_T77 l0_1 x10_1).f1) [.int .i64 ((rd_T77 l0_1 x10_1).f1)] (fun _ => True) (fun _ => False) rfl (by first | (go_simp; done) | (go_simp; rfl)) ?aP (fun _ hk => hk.elim) ?aF ?aO ?aB ?aS ?aL ?_; (case aP => exact rfl); (case aB => exact (by repeat (first | (with_reducible first | exact HB.out | apply bA | apply bD | apply bE | refine bS ?_ GE263.out | refine bS ?_ GE268.out) | exact HB.out))); (case aF => exact (fun _ _ => trivial)); (case aO => exact (by (with_reducible repeat (first | apply Kd.R_alloc | apply Kd.R_drewN | apply Kd.R_drew)); exact Kd.R_mono (Kd.R_far (p := ⟨gb268, 1, none⟩) (Kd.R_far (p := ⟨gb268, 0, none⟩) (Kd.R_types HO_3.out BK268.out (by decide)) (fun _ hk => hk.2) (.string ((rd_T77 l0_1 x10_1).f0))) (fun _ hk => hk.2) (.int .i64 ((rd_T77 l0_1 x10_1).f1))) (fun _ hk => trivial))); (case aS => exact (bZ (by repeat (first | (with_reducible first | exact HB.out | apply bA | apply bD | apply bE | refine bS ?_ GE263.out | refine bS ?_ GE268.out) | exact HB.out)))); (case aL => have := LMc9.out; omega); intro v270 w13 ho hb hg hat; rw [← Ny269.out] at ho; have n0_ := As.mk (blk_grown (g := gb263) (o := .cells #[.slice A0_0 l0_0.length c0_0, .slice (some ad267) l0_1.length c0_1] 31 (0, 0)) (by (with_reducible repeat (first | refine kD ?_ _ | refine kE ?_ | refine kA ?_ _)); refine blk_far ?_ NB263_268.out _; (with_reducible repeat (first | refine kD ?_ _ | refine kE ?_ | refine kA ?_ _)); refine blk_far ?_ NB263_268.out _; (with_reducible repeat (first | refine kD ?_ _ | refine kE ?_ | refine kA ?_ _)); exact BK263.out) hg (Kd.R_ne HO_3.out BK263.out (by decide))); have n1_ := As.mk (blk_grown (g := gb268) (o := .cells #[.string ((rd_T77 l0_1 x10_1).f0), .int .i64 ((rd_T77 l0_1 x10_1).f1)] 77 (0, 0)) (by (with_reducible repeat (first | refine kD ?_ _ | refine kE ?_ | refine kA ?_ _)); refine blk_put (cs := #[.string ((rd_T77 l0_1 x10_1).f0), .int .i64 0]) ?_ 1 _ rfl; (with_reducible repeat (first | refine kD ?_ _ | refine kE ?_ | refine kA ?_ _)); refine blk_put (cs := #[.string (⟨#[]⟩ : ByteArray), .int .i64 0]) ?_ 0 _ rfl; (with_reducible repeat (first | refine kD ?_ _ | refine kE ?_ | refine kA ?_ _)); exact BK268.out) hg (Kd.R_ne HO_3.out BK268.out (by decide))); have n2_ := As.mk (hb); have n3_ := As.mk (ho); clear BK263; clear BK268; clear HB; clear HO_3; have BK263 := n0_; have BK268 := n1_; have HB := n2_; have HO271 := n3_; clear n0_ n1_ n2_ n3_; clear ho hb hg hat))
       go_roundg k1
       case measure => have := HK1.out; omega
       case rel => exact ⟨(y269), (wrap64 (x10_1 + 1)), (by first | rfl | (simp; done) | (simp [*]; done)), H', ⟨by have := HK1.out; omega⟩, ⟨by (with_reducible repeat (first | apply Kd.R_alloc | apply Kd.R_drewN | apply Kd.R_drew)); exact HO271.out⟩, ⟨by (with_reducible repeat (first | refine kD ?_ _ | refine kE ?_ | refine kA ?_ _)); exact BK263.out⟩, ⟨by repeat (first | (with_reducible first | exact HB.out | apply bA | apply bD | apply bE | refine bS ?_ GE263.out | refine bS ?_ GE268.out) | exact HB.out)⟩⟩
      ·rw [if_neg c9] at H
       exact absurd H (by simp)
     ·rw [if_neg c8] at H
      exact absurd H (by simp)
    ·rw [if_neg c7] at H
     exact absurd H (by simp)
   ·rw [if_neg c6] at H
    have c6b0 : decide (x10_1 < (l0_1.length : Int)) = false := decide_eq_false c6
    clear c6
    by_cases c14 : x3_1.length < 17592186044416
    ·rw [if_pos c14] at H
     have LMc14 := As.mk c14
     clear c14
     obtain ⟨y272, hy272⟩ : ∃ y_ : List Int, y_ = (x3_1 ++ [(l0_0.length : Int)]) := ⟨_, rfl⟩
     replace H : (some y272) = some r := by first | (rw [hy272]; with_reducible exact H) | (have H2_ := (Option.bind_some _ _).symm.trans H; rw [hy272]; with_reducible exact H2_) | (have H2_ := (Option.bind_some _ _).symm.trans H; with_reducible exact H2_) | with_reducible exact H | (rw [hy272]; exact H) | exact H
     have Ny272 := As.mk hy272
     clear hy272
     obtain rfl := Option.some.inj H
     have hcz15_0 : wr.cell? ⟨gb263, 0, none⟩ = some (.slice A0_0 l0_0.length c0_0) := (kC BK263.out 0).trans rfl
     have hcz15_1 : wr.cell? ⟨gb263, 1, none⟩ = some (.slice A0_1 l0_1.length c0_1) := (kC BK263.out 1).trans rfl
     have hfz15_0 := kF BK263.out 0
     have hfz15_1 := kF BK263.out 1
     go_wp2_with (first | ((with_reducible refine gate_builtin (b := .append) (xs := #[.tmp 20, .tmp 24]) rfl ?_); at_builtin; refine Kd.R_append (Kd.int .i64) (w0 := w) w.heap.size rfl (.tmp 20) (.tmp 24) 35 2 (.int .i64 0) 8 rfl Try.underlying35 info2 rfl (by decide) (by omega) u3 x3_1 (l0_0.length : Int) [.int .i64 (l0_0.length : Int)] (fun _ => True) (fun _ => False) rfl rfl ?aP (fun _ hk => hk.elim) ?aF ?aO ?aB ?aS ?aL ?_; (case aP => exact rfl); (case aB => exact (by repeat (first | (with_reducible first | exact HB.out | apply bA | apply bD | apply bE | refine bS ?_ GE263.out) | exact HB.out))); (case aF => exact (fun _ _ => trivial)); (case aO => exact (by (with_reducible repeat (first | apply Kd.R_alloc | apply Kd.R_drewN | apply Kd.R_drew)); exact HO_3.out)); (case aS => exact (bZ (by repeat (first | (with_reducible first | exact HB.out | apply bA | apply bD | apply bE | refine bS ?_ GE263.out) | exact HB.out)))); (case aL => have := LMc14.out; omega); intro v273 w16 ho hb hg hat; rw [← Ny272.out] at ho; have n0_ := As.mk (blk_grown (g := gb263) (o := .cells #[.slice A0_0 l0_0.length c0_0, .slice A0_1 l0_1.length c0_1] 31 (0, 0)) (by (with_reducible repeat (first | refine kD ?_ _ | refine kE ?_ | refine kA ?_ _)); exact BK263.out) hg (Kd.R_ne HO_3.out BK263.out (by decide))); have n1_ := As.mk (hb); have n2_ := As.mk (ho); clear BK263; clear HB; clear HO_3; have BK263 := n0_; have HB := n1_; have HO274 := n2_; clear n0_ n1_ n2_; clear ho hb hg hat))
     go_ret
     exact ⟨_, by first | rfl | (simp [eN, eS] <;> rfl) | (simp [*, eN, eS] <;> rfl), by (with_reducible repeat (first | apply Kd.R_alloc | apply Kd.R_drewN | apply Kd.R_drew)); exact HO274.out, by repeat (first | (with_reducible first | exact HB.out | apply bA | apply bD | apply bE | refine bS ?_ GE263.out) | exact HB.out)⟩
    ·rw [if_neg c14] at H
     exact absurd H (by simp)
def impl_isLast.f (a0 : Int) : Option (Bool) := if a0 = 39 then (some true) else (some (a0 == 38))
theorem impl_isLast.calls (a0 : Int) (r : Bool) (w : World) (h : impl_isLast.f a0 = some r) :
  Calls Try.prog 77 #[.int .i64 a0] w fun e w' => e = .returned (.bool r) ∧ Drawn0 w w' := by
 have H : (if a0 = 39 then (some true) else (some (a0 == 38))) = some r := h
 clear h
 by_cases c2 : a0 = 39
 ·rw [if_pos c2] at H
  have c2b0 : (a0 == 39) = true := beq_iff_eq.mpr c2
  have c2b1 : (a0 != 39) = false := bne_eq_false_iff_eq.mpr c2
  clear c2
  obtain rfl := Option.some.inj H
  go_enter Try.func77, Try.ntmps77
  go_wp2
  go_ret
  exact ⟨by first | rfl | (simp; done) | (simp [*]; done), by repeat (first | exact Drawn0.refl _ | apply Drawn0.step)⟩
 ·rw [if_neg c2] at H
  have c2b0 : (a0 == 39) = false := beq_eq_false_iff_ne.mpr c2
  have c2b1 : (a0 != 39) = true := bne_iff_ne.mpr c2
  obtain rfl := Option.some.inj H
  go_enter Try.func77, Try.ntmps77
  go_wp2
  go_ret
  exact ⟨by first | rfl | (simp; done) | (simp [*]; done), by repeat (first | exact Drawn0.refl _ | apply Drawn0.step)⟩
def F4.l0 : Nat → Int → Int → Int → Int → List (S80) → List (S77) → Option (Bool)
 | 0, _, _, _, _, _, _ => none
 | k + 1, x1, x2, x3, x9, x276000, x276001 => if x9 < x2 then (if 0 ≤ x9 then (if x9 < (x276000.length : Int) then ((impl_isLast.f ((rd_T80 x276000 x9).f0)).bind fun t278 => (if t278 = true then (if x9 = (wrap64 (x2 - 1)) then (if (((rd_T80 x276000 x9).f0) = x3) then (F4.l0 k x1 x2 x3 (wrap64 (x9 + 1)) x276000 x276001) else (some false)) else (some false)) else (if x9 = (wrap64 (x2 - 1)) then (some false) else (if ((rd_T80 x276000 x9).f0) = 37 then (if ((rd_T80 x276000 x9).f1) ≥ x1 then (if ((rd_T80 x276000 x9).f1) < x9 then (if 0 ≤ ((rd_T80 x276000 x9).f1) then (if ((rd_T80 x276000 x9).f1) < (x276000.length : Int) then (if (((rd_T80 x276000 ((rd_T80 x276000 x9).f1)).f0) = 31) then (F4.l0 k x1 x2 x3 (wrap64 (x9 + 1)) x276000 x276001) else (some false)) else (none)) else (none)) else (some false)) else (some false)) else ((impl_hasAddress.f ((rd_T80 x276000 x9).f0)).bind fun t280 => (if t280 = true then (if ((rd_T80 x276000 x9).f1) > x9 then (if (((rd_T80 x276000 x9).f1) < x2) then (F4.l0 k x1 x2 x3 (wrap64 (x9 + 1)) x276000 x276001) else (some false)) else (some false)) else (F4.l0 k x1 x2 x3 (wrap64 (x9 + 1)) x276000 x276001))))))) else (none)) else (none)) else (some true)
def F4.f (k : Nat) (l0_0 : List (S80)) (l0_1 : List (S77)) (a1 : Int) (a2 : Int) (a3 : Int) : Option (Bool) := F4.l0 k a1 a2 a3 a1 l0_0 l0_1
theorem F4.mono_l : ∀ k, (∀ y0 y1 y2 y3 y4 y5, LeO (F4.l0 k y0 y1 y2 y3 y4 y5) (F4.l0 (k + 1) y0 y1 y2 y3 y4 y5))
 | 0 => fun _ _ _ _ _ _ r h => by simp [F4.l0] at h
 | k + 1 => by
  have ih0 := F4.mono_l k
  ·intro y0 y1 y2 y3 y4 y5
   unfold F4.l0
   repeat' with_reducible first
   | exact ih0 _ _ _ _ _ _
   | exact LeO.refl _
   | exact LeO.none _
   | refine LeO.ite ?_ ?_
   | refine LeO.bind ?_ (fun _ => ?_)
theorem F4.mono : ∀ a0 a1 a2 a3 a4 k, LeO (F4.f k a0 a1 a2 a3 a4) (F4.f (k + 1) a0 a1 a2 a3 a4) := by
 intro a0 a1 a2 a3 a4 k
 have ih0 := F4.mono_l k
 unfold F4.f
 repeat' with_reducible first
   | exact ih0 _ _ _ _ _ _
   | exact LeO.refl _
   | exact LeO.none _
   | refine LeO.ite ?_ ?_
   | refine LeO.bind ?_ (fun _ => ?_)
theorem F4.calls (k : Nat) (A0_0 : Option Addr) (c0_0 : Nat) (l0_0 : List (S80)) (A0_1 : Option Addr) (c0_1 : Nat) (l0_1 : List (S77)) (a1 : Int) (a2 : Int) (a3 : Int) (r : Bool) (w : World) (hr0_0 : Kd.C k80 w A0_0 l0_0.length l0_0) (hc0_0 : l0_0.length ≤ c0_0) (hr0_1 : Kd.C k77 w A0_1 l0_1.length l0_1) (hc0_1 : l0_1.length ≤ c0_1) (h : F4.f k l0_0 l0_1 a1 a2 a3 = some r) :
  Calls Try.prog 57 #[.agg #[.slice A0_0 l0_0.length c0_0, .slice A0_1 l0_1.length c0_1], .int .i64 a1, .int .i64 a2, .int .i64 a3] w fun e w' => e = .returned (.bool r) ∧ Below w.heap.size w w' := by
 have hu31 := Try.underlying31
 have hu80 := Try.underlying80
 have HR0_0 := As.mk hr0_0
 have HC0_0 := As.mk hc0_0
 clear hr0_0 hc0_0
 have HR0_1 := As.mk hr0_1
 have HC0_1 := As.mk hc0_1
 clear hr0_1 hc0_1
 have HB := As.mk (Below.refl w.heap.size w)
 have H : (F4.l0 k a1 a2 a3 a1 l0_0 l0_1) = some r := h
 clear h
 have H' := As.mk H
 clear H
 go_enter Try.func57, Try.ntmps57
 go_wp2_with (first | ((with_reducible refine gate_dst (N := 4) rfl ?_); refine box_event ?hg (N := 4) ?hd (cs := #[.slice A0_0 l0_0.length c0_0, .slice A0_1 l0_1.length c0_1]) (t := 31) ?hr ?_; (case hd => rfl); (case hg => rfl); (case hr => first | (go_simp; done) | (go_simp; rfl)); intro gb275 hg w5 hbox hb; have n0_ := As.mk (bT (by repeat (first | (with_reducible first | exact HB.out | apply bA | apply bD | apply bE) | exact HB.out)) hb); have n1_ := As.mk (hbox); have n2_ := As.mk ((by rw [hg]; exact (bZ (by repeat (first | (with_reducible first | exact HB.out | apply bA | apply bD | apply bE) | exact HB.out))) : w.heap.size ≤ gb275)); have n3_ := n2_; clear HB; have HB := n0_; have BK275 := n1_; have GW275 := n2_; have GE275 := n3_; clear n0_ n1_ n2_ n3_; clear hb hbox hg))
 go_loopg [9] k (fun kq v9 w' => ∃ (x9_1 : Int), v9 = .int .i64 x9_1 ∧ As (F4.l0 kq a1 a2 a3 x9_1 l0_0 l0_1 = some r) ∧ As (kq ≤ k) ∧ As (w'.heap[gb275]? = some (.cells #[(.slice A0_0 l0_0.length c0_0), (.slice A0_1 l0_1.length c0_1)] 31 (0, 0))) ∧ As (Below w.heap.size w w'))
 case atStart => exact ⟨(a1), (by first | rfl | (simp; done) | (simp [*]; done)), H', ⟨Nat.le_refl _⟩, ⟨by (with_reducible repeat (first | refine kD ?_ _ | refine kE ?_ | refine kA ?_ _)); exact BK275.out⟩, ⟨by repeat (first | (with_reducible first | exact HB.out | apply bA | apply bD | apply bE | refine bS ?_ GE275.out) | exact HB.out)⟩⟩
 case round =>
  clear H'
  obtain ⟨x9_1, rfl, HA, HK1, BK275, HB⟩ := hrel
  cases gk with
  | zero => exact absurd HA.out (by simp [F4.l0])
  | succ k1 =>
   have H := HA.out
   clear HA
   simp only [F4.l0] at H
   by_cases c6 : x9_1 < a2
   ·rw [if_pos c6] at H
    have c6b0 : decide (x9_1 < a2) = true := decide_eq_true c6
    clear c6
    by_cases c7 : 0 ≤ x9_1
    ·rw [if_pos c7] at H
     have c7b0 : decide (0 ≤ x9_1) = true := decide_eq_true c7
     clear c7
     by_cases c8 : x9_1 < (l0_0.length : Int)
     ·rw [if_pos c8] at H
      have c8b0 : decide (x9_1 < (l0_0.length : Int)) = true := decide_eq_true c8
      clear c8
      replace H := Option.bind_eq_some_iff.mp H
      obtain ⟨t278, A90, H⟩ := H
      replace H : (if t278 = true then (if x9_1 = (wrap64 (a2 - 1)) then (if (((rd_T80 l0_0 x9_1).f0) = a3) then (F4.l0 k1 a1 a2 a3 (wrap64 (x9_1 + 1)) l0_0 l0_1) else (some false)) else (some false)) else (if x9_1 = (wrap64 (a2 - 1)) then (some false) else (if ((rd_T80 l0_0 x9_1).f0) = 37 then (if ((rd_T80 l0_0 x9_1).f1) ≥ a1 then (if ((rd_T80 l0_0 x9_1).f1) < x9_1 then (if 0 ≤ ((rd_T80 l0_0 x9_1).f1) then (if ((rd_T80 l0_0 x9_1).f1) < (l0_0.length : Int) then (if (((rd_T80 l0_0 ((rd_T80 l0_0 x9_1).f1)).f0) = 31) then (F4.l0 k1 a1 a2 a3 (wrap64 (x9_1 + 1)) l0_0 l0_1) else (some false)) else (none)) else (none)) else (some false)) else (some false)) else ((impl_hasAddress.f ((rd_T80 l0_0 x9_1).f0)).bind fun t280 => (if t280 = true then (if ((rd_T80 l0_0 x9_1).f1) > x9_1 then (if (((rd_T80 l0_0 x9_1).f1) < a2) then (F4.l0 k1 a1 a2 a3 (wrap64 (x9_1 + 1)) l0_0 l0_1) else (some false)) else (some false)) else (F4.l0 k1 a1 a2 a3 (wrap64 (x9_1 + 1)) l0_0 l0_1)))))) = some r := H
      have A9 := As.mk A90
      clear A90
      by_cases c10 : t278 = true
      ·subst c10
       have H1 : (if x9_1 = (wrap64 (a2 - 1)) then (if (((rd_T80 l0_0 x9_1).f0) = a3) then (F4.l0 k1 a1 a2 a3 (wrap64 (x9_1 + 1)) l0_0 l0_1) else (some false)) else (some false)) = some r := by rw [if_pos rfl] at H; exact H
       clear H
       have H := H1
       clear H1
       by_cases c11 : x9_1 = (wrap64 (a2 - 1))
       ·rw [if_pos c11] at H
        have c11b0 : (x9_1 == (wrap64 (a2 - 1))) = true := beq_iff_eq.mpr c11
        have c11b1 : (x9_1 != (wrap64 (a2 - 1))) = false := bne_eq_false_iff_eq.mpr c11
        clear c11
        by_cases c12 : (((rd_T80 l0_0 x9_1).f0) = a3)
        ·rw [if_pos c12] at H
         have c12b0 : (((rd_T80 l0_0 x9_1).f0) == a3) = true := beq_iff_eq.mpr c12
         have c12b1 : (((rd_T80 l0_0 x9_1).f0) != a3) = false := bne_eq_false_iff_eq.mpr c12
         clear c12
         have H' := As.mk H
         clear H
         have hcz13_0 : wr.cell? ⟨gb275, 0, none⟩ = some (.slice A0_0 l0_0.length c0_0) := (kC BK275.out 0).trans rfl
         have hcz13_1 : wr.cell? ⟨gb275, 1, none⟩ = some (.slice A0_1 l0_1.length c0_1) := (kC BK275.out 1).trans rfl
         have hfz13_0 := kF BK275.out 0
         have hfz13_1 := kF BK275.out 1
         have p276 : 0 ≤ (x9_1 : Int) := of_decide_eq_true (by first | (with_reducible assumption) | assumption)
         have q276 : x9_1 < (l0_0.length : Int) := of_decide_eq_true (by first | (with_reducible assumption) | assumption)
         obtain ⟨ad276, e276, hx276_0, hx276_1, hx276_2⟩ := at_T80 HR0_0.out x9_1 p276 q276
         cases e276
         replace hx276_0 := (HB.out.cell (World.block_lt_of_cell? w _ hx276_0)).trans hx276_0
         replace hx276_1 := (HB.out.cell (World.block_lt_of_cell? w _ hx276_1)).trans hx276_1
         replace hx276_2 := (HB.out.cell (World.block_lt_of_cell? w _ hx276_2)).trans hx276_2
         replace p276 := eq_true p276
         replace q276 := eq_true q276
         go_wp2_with (first | ((with_reducible refine gate_dst (N := 10) rfl ?_); refine box_event ?hg (N := 10) ?hd (cs := #[.int .i64 0, .int .i64 0, .string (⟨#[]⟩ : ByteArray)]) (t := 80) ?hr ?_; (case hd => rfl); (case hg => rfl); (case hr => first | (go_simp; done) | (go_simp; rfl)); intro gb277 hg w14 hbox hb; have n0_ := As.mk (kB (g := gb275) (o := .cells #[.slice (some ad276) l0_0.length c0_0, .slice A0_1 l0_1.length c0_1] 31 (0, 0)) (by (with_reducible repeat (first | refine kD ?_ _ | refine kE ?_ | refine kA ?_ _)); exact BK275.out) hb); have n1_ := As.mk (bT (by repeat (first | (with_reducible first | exact HB.out | apply bA | apply bD | apply bE | refine bS ?_ GE275.out) | exact HB.out)) hb); have n2_ := As.mk (hbox); have n3_ := As.mk ((by rw [hg]; exact (bZ (by repeat (first | (with_reducible first | exact HB.out | apply bA | apply bD | apply bE | refine bS ?_ GE275.out) | exact HB.out))) : w.heap.size ≤ gb277)); have n4_ := n3_; have n5_ := As.mk ((by rw [hg]; exact Nat.ne_of_lt (kL (g := gb275) (o := .cells #[.slice (some ad276) l0_0.length c0_0, .slice A0_1 l0_1.length c0_1] 31 (0, 0)) (by (with_reducible repeat (first | refine kD ?_ _ | refine kE ?_ | refine kA ?_ _)); exact BK275.out)) : gb275 ≠ gb277)); have n6_ := As.mk n5_.out.symm; clear BK275; clear HB; have BK275 := n0_; have HB := n1_; have BK277 := n2_; have GW277 := n3_; have GE277 := n4_; have NB275_277 := n5_; have NB277_275 := n6_; clear n0_ n1_ n2_ n3_ n4_ n5_ n6_; clear hb hbox hg; have hnb15 := NB277_275.out; have hnc15 := NB275_277.out; have hcz16_0 : w14.cell? ⟨gb277, 0, none⟩ = some (.int .i64 0) := (kC BK277.out 0).trans rfl; have hcz16_1 : w14.cell? ⟨gb277, 1, none⟩ = some (.int .i64 0) := (kC BK277.out 1).trans rfl; have hcz16_2 : w14.cell? ⟨gb277, 2, none⟩ = some (.string (⟨#[]⟩ : ByteArray)) := (kC BK277.out 2).trans rfl; have hfz16_0 := kF BK277.out 0; have hfz16_1 := kF BK277.out 1; have hfz16_2 := kF BK277.out 2) | ((with_reducible refine gate_callee (f := 77) rfl ?_); refine goesL_ (some 26) rfl rfl Try.func77 (by kernel_rfl) rfl #[.int .i64 ((rd_T80 l0_0 x9_1).f0)] rfl (by (try simp only [sm1, sm2, sm3]); first | done | rfl | (simp only [List.length_drop, List.length_take]; rfl)) ?_; (with_reducible refine (impl_isLast.calls ((rd_T80 l0_0 x9_1).f0) true _ A9.out).mono ?_); rintro e w' ⟨rfl, ⟨nd, rfl⟩⟩; refine ⟨_, rfl, ?_⟩))
         go_roundg k1
         case measure => have := HK1.out; omega
         case rel => exact ⟨(wrap64 (x9_1 + 1)), (by first | rfl | (simp; done) | (simp [*]; done)), H', ⟨by have := HK1.out; omega⟩, ⟨by (with_reducible repeat (first | refine kD ?_ _ | refine kE ?_ | refine kA ?_ _)); refine blk_far ?_ NB275_277.out _; (with_reducible repeat (first | refine kD ?_ _ | refine kE ?_ | refine kA ?_ _)); refine blk_far ?_ NB275_277.out _; (with_reducible repeat (first | refine kD ?_ _ | refine kE ?_ | refine kA ?_ _)); refine blk_far ?_ NB275_277.out _; (with_reducible repeat (first | refine kD ?_ _ | refine kE ?_ | refine kA ?_ _)); exact BK275.out⟩, ⟨by repeat (first | (with_reducible first | exact HB.out | apply bA | apply bD | apply bE | refine bS ?_ GE275.out | refine bS ?_ GE277.out) | exact HB.out)⟩⟩
        ·rw [if_neg c12] at H
         have c12b0 : (((rd_T80 l0_0 x9_1).f0) == a3) = false := beq_eq_false_iff_ne.mpr c12
         have c12b1 : (((rd_T80 l0_0 x9_1).f0) != a3) = true := bne_iff_ne.mpr c12
         obtain rfl := Option.some.inj H
         have hcz17_0 : wr.cell? ⟨gb275, 0, none⟩ = some (.slice A0_0 l0_0.length c0_0) := (kC BK275.out 0).trans rfl
         have hcz17_1 : wr.cell? ⟨gb275, 1, none⟩ = some (.slice A0_1 l0_1.length c0_1) := (kC BK275.out 1).trans rfl
         have hfz17_0 := kF BK275.out 0
         have hfz17_1 := kF BK275.out 1
         have p276 : 0 ≤ (x9_1 : Int) := of_decide_eq_true (by first | (with_reducible assumption) | assumption)
         have q276 : x9_1 < (l0_0.length : Int) := of_decide_eq_true (by first | (with_reducible assumption) | assumption)
         obtain ⟨ad276, e276, hx276_0, hx276_1, hx276_2⟩ := at_T80 HR0_0.out x9_1 p276 q276
         cases e276
         replace hx276_0 := (HB.out.cell (World.block_lt_of_cell? w _ hx276_0)).trans hx276_0
         replace hx276_1 := (HB.out.cell (World.block_lt_of_cell? w _ hx276_1)).trans hx276_1
         replace hx276_2 := (HB.out.cell (World.block_lt_of_cell? w _ hx276_2)).trans hx276_2
         replace p276 := eq_true p276
         replace q276 := eq_true q276
         go_wp2_with (first | ((with_reducible refine gate_dst (N := 10) rfl ?_); refine box_event ?hg (N := 10) ?hd (cs := #[.int .i64 0, .int .i64 0, .string (⟨#[]⟩ : ByteArray)]) (t := 80) ?hr ?_; (case hd => rfl); (case hg => rfl); (case hr => first | (go_simp; done) | (go_simp; rfl)); intro gb277 hg w18 hbox hb; have n0_ := As.mk (kB (g := gb275) (o := .cells #[.slice (some ad276) l0_0.length c0_0, .slice A0_1 l0_1.length c0_1] 31 (0, 0)) (by (with_reducible repeat (first | refine kD ?_ _ | refine kE ?_ | refine kA ?_ _)); exact BK275.out) hb); have n1_ := As.mk (bT (by repeat (first | (with_reducible first | exact HB.out | apply bA | apply bD | apply bE | refine bS ?_ GE275.out) | exact HB.out)) hb); have n2_ := As.mk (hbox); have n3_ := As.mk ((by rw [hg]; exact (bZ (by repeat (first | (with_reducible first | exact HB.out | apply bA | apply bD | apply bE | refine bS ?_ GE275.out) | exact HB.out))) : w.heap.size ≤ gb277)); have n4_ := n3_; have n5_ := As.mk ((by rw [hg]; exact Nat.ne_of_lt (kL (g := gb275) (o := .cells #[.slice (some ad276) l0_0.length c0_0, .slice A0_1 l0_1.length c0_1] 31 (0, 0)) (by (with_reducible repeat (first | refine kD ?_ _ | refine kE ?_ | refine kA ?_ _)); exact BK275.out)) : gb275 ≠ gb277)); have n6_ := As.mk n5_.out.symm; clear BK275; clear HB; have BK275 := n0_; have HB := n1_; have BK277 := n2_; have GW277 := n3_; have GE277 := n4_; have NB275_277 := n5_; have NB277_275 := n6_; clear n0_ n1_ n2_ n3_ n4_ n5_ n6_; clear hb hbox hg; have hnb19 := NB277_275.out; have hnc19 := NB275_277.out; have hcz20_0 : w18.cell? ⟨gb277, 0, none⟩ = some (.int .i64 0) := (kC BK277.out 0).trans rfl; have hcz20_1 : w18.cell? ⟨gb277, 1, none⟩ = some (.int .i64 0) := (kC BK277.out 1).trans rfl; have hcz20_2 : w18.cell? ⟨gb277, 2, none⟩ = some (.string (⟨#[]⟩ : ByteArray)) := (kC BK277.out 2).trans rfl; have hfz20_0 := kF BK277.out 0; have hfz20_1 := kF BK277.out 1; have hfz20_2 := kF BK277.out 2) | ((with_reducible refine gate_callee (f := 77) rfl ?_); refine goesL_ (some 26) rfl rfl Try.func77 (by kernel_rfl) rfl #[.int .i64 ((rd_T80 l0_0 x9_1).f0)] rfl (by (try simp only [sm1, sm2, sm3]); first | done | rfl | (simp only [List.length_drop, List.length_take]; rfl)) ?_; (with_reducible refine (impl_isLast.calls ((rd_T80 l0_0 x9_1).f0) true _ A9.out).mono ?_); rintro e w' ⟨rfl, ⟨nd, rfl⟩⟩; refine ⟨_, rfl, ?_⟩))
         go_ret
         exact ⟨by first | rfl | (simp [eN, eS] <;> rfl) | (simp [*, eN, eS] <;> rfl), by repeat (first | (with_reducible first | exact HB.out | apply bA | apply bD | apply bE | refine bS ?_ GE275.out | refine bS ?_ GE277.out) | exact HB.out)⟩
       ·rw [if_neg c11] at H
        have c11b0 : (x9_1 == (wrap64 (a2 - 1))) = false := beq_eq_false_iff_ne.mpr c11
        have c11b1 : (x9_1 != (wrap64 (a2 - 1))) = true := bne_iff_ne.mpr c11
        obtain rfl := Option.some.inj H
        have hcz21_0 : wr.cell? ⟨gb275, 0, none⟩ = some (.slice A0_0 l0_0.length c0_0) := (kC BK275.out 0).trans rfl
        have hcz21_1 : wr.cell? ⟨gb275, 1, none⟩ = some (.slice A0_1 l0_1.length c0_1) := (kC BK275.out 1).trans rfl
        have hfz21_0 := kF BK275.out 0
        have hfz21_1 := kF BK275.out 1
        have p276 : 0 ≤ (x9_1 : Int) := of_decide_eq_true (by first | (with_reducible assumption) | assumption)
        have q276 : x9_1 < (l0_0.length : Int) := of_decide_eq_true (by first | (with_reducible assumption) | assumption)
        obtain ⟨ad276, e276, hx276_0, hx276_1, hx276_2⟩ := at_T80 HR0_0.out x9_1 p276 q276
        cases e276
        replace hx276_0 := (HB.out.cell (World.block_lt_of_cell? w _ hx276_0)).trans hx276_0
        replace hx276_1 := (HB.out.cell (World.block_lt_of_cell? w _ hx276_1)).trans hx276_1
        replace hx276_2 := (HB.out.cell (World.block_lt_of_cell? w _ hx276_2)).trans hx276_2
        replace p276 := eq_true p276
        replace q276 := eq_true q276
        go_wp2_with (first | ((with_reducible refine gate_dst (N := 10) rfl ?_); refine box_event ?hg (N := 10) ?hd (cs := #[.int .i64 0, .int .i64 0, .string (⟨#[]⟩ : ByteArray)]) (t := 80) ?hr ?_; (case hd => rfl); (case hg => rfl); (case hr => first | (go_simp; done) | (go_simp; rfl)); intro gb277 hg w22 hbox hb; have n0_ := As.mk (kB (g := gb275) (o := .cells #[.slice (some ad276) l0_0.length c0_0, .slice A0_1 l0_1.length c0_1] 31 (0, 0)) (by (with_reducible repeat (first | refine kD ?_ _ | refine kE ?_ | refine kA ?_ _)); exact BK275.out) hb); have n1_ := As.mk (bT (by repeat (first | (with_reducible first | exact HB.out | apply bA | apply bD | apply bE | refine bS ?_ GE275.out) | exact HB.out)) hb); have n2_ := As.mk (hbox); have n3_ := As.mk ((by rw [hg]; exact (bZ (by repeat (first | (with_reducible first | exact HB.out | apply bA | apply bD | apply bE | refine bS ?_ GE275.out) | exact HB.out))) : w.heap.size ≤ gb277)); have n4_ := n3_; have n5_ := As.mk ((by rw [hg]; exact Nat.ne_of_lt (kL (g := gb275) (o := .cells #[.slice (some ad276) l0_0.length c0_0, .slice A0_1 l0_1.length c0_1] 31 (0, 0)) (by (with_reducible repeat (first | refine kD ?_ _ | refine kE ?_ | refine kA ?_ _)); exact BK275.out)) : gb275 ≠ gb277)); have n6_ := As.mk n5_.out.symm; clear BK275; clear HB; have BK275 := n0_; have HB := n1_; have BK277 := n2_; have GW277 := n3_; have GE277 := n4_; have NB275_277 := n5_; have NB277_275 := n6_; clear n0_ n1_ n2_ n3_ n4_ n5_ n6_; clear hb hbox hg; have hnb23 := NB277_275.out; have hnc23 := NB275_277.out; have hcz24_0 : w22.cell? ⟨gb277, 0, none⟩ = some (.int .i64 0) := (kC BK277.out 0).trans rfl; have hcz24_1 : w22.cell? ⟨gb277, 1, none⟩ = some (.int .i64 0) := (kC BK277.out 1).trans rfl; have hcz24_2 : w22.cell? ⟨gb277, 2, none⟩ = some (.string (⟨#[]⟩ : ByteArray)) := (kC BK277.out 2).trans rfl; have hfz24_0 := kF BK277.out 0; have hfz24_1 := kF BK277.out 1; have hfz24_2 := kF BK277.out 2) | ((with_reducible refine gate_callee (f := 77) rfl ?_); refine goesL_ (some 26) rfl rfl Try.func77 (by kernel_rfl) rfl #[.int .i64 ((rd_T80 l0_0 x9_1).f0)] rfl (by (try simp only [sm1, sm2, sm3]); first | done | rfl | (simp only [List.length_drop, List.length_take]; rfl)) ?_; (with_reducible refine (impl_isLast.calls ((rd_T80 l0_0 x9_1).f0) true _ A9.out).mono ?_); rintro e w' ⟨rfl, ⟨nd, rfl⟩⟩; refine ⟨_, rfl, ?_⟩))
        go_ret
        exact ⟨by first | rfl | (simp [eN, eS] <;> rfl) | (simp [*, eN, eS] <;> rfl), by repeat (first | (with_reducible first | exact HB.out | apply bA | apply bD | apply bE | refine bS ?_ GE275.out | refine bS ?_ GE277.out) | exact HB.out)⟩
      ·replace c10 := Bool.eq_false_iff.mpr c10
       subst c10
       have H1 : (if x9_1 = (wrap64 (a2 - 1)) then (some false) else (if ((rd_T80 l0_0 x9_1).f0) = 37 then (if ((rd_T80 l0_0 x9_1).f1) ≥ a1 then (if ((rd_T80 l0_0 x9_1).f1) < x9_1 then (if 0 ≤ ((rd_T80 l0_0 x9_1).f1) then (if ((rd_T80 l0_0 x9_1).f1) < (l0_0.length : Int) then (if (((rd_T80 l0_0 ((rd_T80 l0_0 x9_1).f1)).f0) = 31) then (F4.l0 k1 a1 a2 a3 (wrap64 (x9_1 + 1)) l0_0 l0_1) else (some false)) else (none)) else (none)) else (some false)) else (some false)) else ((impl_hasAddress.f ((rd_T80 l0_0 x9_1).f0)).bind fun t280 => (if t280 = true then (if ((rd_T80 l0_0 x9_1).f1) > x9_1 then (if (((rd_T80 l0_0 x9_1).f1) < a2) then (F4.l0 k1 a1 a2 a3 (wrap64 (x9_1 + 1)) l0_0 l0_1) else (some false)) else (some false)) else (F4.l0 k1 a1 a2 a3 (wrap64 (x9_1 + 1)) l0_0 l0_1))))) = some r := by rw [if_neg (show ¬ (false = true) by decide)] at H; exact H
       clear H
       have H := H1
       clear H1
       by_cases c25 : x9_1 = (wrap64 (a2 - 1))
       ·rw [if_pos c25] at H
        have c25b0 : (x9_1 == (wrap64 (a2 - 1))) = true := beq_iff_eq.mpr c25
        have c25b1 : (x9_1 != (wrap64 (a2 - 1))) = false := bne_eq_false_iff_eq.mpr c25
        clear c25
        obtain rfl := Option.some.inj H
        have hcz26_0 : wr.cell? ⟨gb275, 0, none⟩ = some (.slice A0_0 l0_0.length c0_0) := (kC BK275.out 0).trans rfl
        have hcz26_1 : wr.cell? ⟨gb275, 1, none⟩ = some (.slice A0_1 l0_1.length c0_1) := (kC BK275.out 1).trans rfl
        have hfz26_0 := kF BK275.out 0
        have hfz26_1 := kF BK275.out 1
        have p276 : 0 ≤ (x9_1 : Int) := of_decide_eq_true (by first | (with_reducible assumption) | assumption)
        have q276 : x9_1 < (l0_0.length : Int) := of_decide_eq_true (by first | (with_reducible assumption) | assumption)
        obtain ⟨ad276, e276, hx276_0, hx276_1, hx276_2⟩ := at_T80 HR0_0.out x9_1 p276 q276
        cases e276
        replace hx276_0 := (HB.out.cell (World.block_lt_of_cell? w _ hx276_0)).trans hx276_0
        replace hx276_1 := (HB.out.cell (World.block_lt_of_cell? w _ hx276_1)).trans hx276_1
        replace hx276_2 := (HB.out.cell (World.block_lt_of_cell? w _ hx276_2)).trans hx276_2
        replace p276 := eq_true p276
        replace q276 := eq_true q276
        go_wp2_with (first | ((with_reducible refine gate_dst (N := 10) rfl ?_); refine box_event ?hg (N := 10) ?hd (cs := #[.int .i64 0, .int .i64 0, .string (⟨#[]⟩ : ByteArray)]) (t := 80) ?hr ?_; (case hd => rfl); (case hg => rfl); (case hr => first | (go_simp; done) | (go_simp; rfl)); intro gb277 hg w27 hbox hb; have n0_ := As.mk (kB (g := gb275) (o := .cells #[.slice (some ad276) l0_0.length c0_0, .slice A0_1 l0_1.length c0_1] 31 (0, 0)) (by (with_reducible repeat (first | refine kD ?_ _ | refine kE ?_ | refine kA ?_ _)); exact BK275.out) hb); have n1_ := As.mk (bT (by repeat (first | (with_reducible first | exact HB.out | apply bA | apply bD | apply bE | refine bS ?_ GE275.out) | exact HB.out)) hb); have n2_ := As.mk (hbox); have n3_ := As.mk ((by rw [hg]; exact (bZ (by repeat (first | (with_reducible first | exact HB.out | apply bA | apply bD | apply bE | refine bS ?_ GE275.out) | exact HB.out))) : w.heap.size ≤ gb277)); have n4_ := n3_; have n5_ := As.mk ((by rw [hg]; exact Nat.ne_of_lt (kL (g := gb275) (o := .cells #[.slice (some ad276) l0_0.length c0_0, .slice A0_1 l0_1.length c0_1] 31 (0, 0)) (by (with_reducible repeat (first | refine kD ?_ _ | refine kE ?_ | refine kA ?_ _)); exact BK275.out)) : gb275 ≠ gb277)); have n6_ := As.mk n5_.out.symm; clear BK275; clear HB; have BK275 := n0_; have HB := n1_; have BK277 := n2_; have GW277 := n3_; have GE277 := n4_; have NB275_277 := n5_; have NB277_275 := n6_; clear n0_ n1_ n2_ n3_ n4_ n5_ n6_; clear hb hbox hg; have hnb28 := NB277_275.out; have hnc28 := NB275_277.out; have hcz29_0 : w27.cell? ⟨gb277, 0, none⟩ = some (.int .i64 0) := (kC BK277.out 0).trans rfl; have hcz29_1 : w27.cell? ⟨gb277, 1, none⟩ = some (.int .i64 0) := (kC BK277.out 1).trans rfl; have hcz29_2 : w27.cell? ⟨gb277, 2, none⟩ = some (.string (⟨#[]⟩ : ByteArray)) := (kC BK277.out 2).trans rfl; have hfz29_0 := kF BK277.out 0; have hfz29_1 := kF BK277.out 1; have hfz29_2 := kF BK277.out 2) | ((with_reducible refine gate_callee (f := 77) rfl ?_); refine goesL_ (some 26) rfl rfl Try.func77 (by kernel_rfl) rfl #[.int .i64 ((rd_T80 l0_0 x9_1).f0)] rfl (by (try simp only [sm1, sm2, sm3]); first | done | rfl | (simp only [List.length_drop, List.length_take]; rfl)) ?_; (with_reducible refine (impl_isLast.calls ((rd_T80 l0_0 x9_1).f0) false _ A9.out).mono ?_); rintro e w' ⟨rfl, ⟨nd, rfl⟩⟩; refine ⟨_, rfl, ?_⟩))
        go_ret
        exact ⟨by first | rfl | (simp [eN, eS] <;> rfl) | (simp [*, eN, eS] <;> rfl), by repeat (first | (with_reducible first | exact HB.out | apply bA | apply bD | apply bE | refine bS ?_ GE275.out | refine bS ?_ GE277.out) | exact HB.out)⟩
       ·rw [if_neg c25] at H
        have c25b0 : (x9_1 == (wrap64 (a2 - 1))) = false := beq_eq_false_iff_ne.mpr c25
        have c25b1 : (x9_1 != (wrap64 (a2 - 1))) = true := bne_iff_ne.mpr c25
        by_cases c30 : ((rd_T80 l0_0 x9_1).f0) = 37
        ·rw [if_pos c30] at H
         have c30b0 : (((rd_T80 l0_0 x9_1).f0) == 37) = true := beq_iff_eq.mpr c30
         have c30b1 : (((rd_T80 l0_0 x9_1).f0) != 37) = false := bne_eq_false_iff_eq.mpr c30
         clear c30
         by_cases c31 : ((rd_T80 l0_0 x9_1).f1) ≥ a1
         ·rw [if_pos c31] at H
          have c31b0 : decide (a1 ≤ ((rd_T80 l0_0 x9_1).f1)) = true := decide_eq_true c31
          clear c31
          by_cases c32 : ((rd_T80 l0_0 x9_1).f1) < x9_1
          ·rw [if_pos c32] at H
           have c32b0 : decide (((rd_T80 l0_0 x9_1).f1) < x9_1) = true := decide_eq_true c32
           clear c32
           by_cases c33 : 0 ≤ ((rd_T80 l0_0 x9_1).f1)
           ·rw [if_pos c33] at H
            have c33b0 : decide (0 ≤ ((rd_T80 l0_0 x9_1).f1)) = true := decide_eq_true c33
            clear c33
            by_cases c34 : ((rd_T80 l0_0 x9_1).f1) < (l0_0.length : Int)
            ·rw [if_pos c34] at H
             have c34b0 : decide (((rd_T80 l0_0 x9_1).f1) < (l0_0.length : Int)) = true := decide_eq_true c34
             clear c34
             by_cases c35 : (((rd_T80 l0_0 ((rd_T80 l0_0 x9_1).f1)).f0) = 31)
             ·rw [if_pos c35] at H
              have c35b0 : (((rd_T80 l0_0 ((rd_T80 l0_0 x9_1).f1)).f0) == 31) = true := beq_iff_eq.mpr c35
              have c35b1 : (((rd_T80 l0_0 ((rd_T80 l0_0 x9_1).f1)).f0) != 31) = false := bne_eq_false_iff_eq.mpr c35
              clear c35
              have H' := As.mk H
              clear H
              have hcz36_0 : wr.cell? ⟨gb275, 0, none⟩ = some (.slice A0_0 l0_0.length c0_0) := (kC BK275.out 0).trans rfl
              have hcz36_1 : wr.cell? ⟨gb275, 1, none⟩ = some (.slice A0_1 l0_1.length c0_1) := (kC BK275.out 1).trans rfl
              have hfz36_0 := kF BK275.out 0
              have hfz36_1 := kF BK275.out 1
              have p276 : 0 ≤ (x9_1 : Int) := of_decide_eq_true (by first | (with_reducible assumption) | assumption)
              have q276 : x9_1 < (l0_0.length : Int) := of_decide_eq_true (by first | (with_reducible assumption) | assumption)
              obtain ⟨ad276, e276, hx276_0, hx276_1, hx276_2⟩ := at_T80 HR0_0.out x9_1 p276 q276
              cases e276
              replace hx276_0 := (HB.out.cell (World.block_lt_of_cell? w _ hx276_0)).trans hx276_0
              replace hx276_1 := (HB.out.cell (World.block_lt_of_cell? w _ hx276_1)).trans hx276_1
              replace hx276_2 := (HB.out.cell (World.block_lt_of_cell? w _ hx276_2)).trans hx276_2
              replace p276 := eq_true p276
              replace q276 := eq_true q276
              go_wp2_with (first | ((with_reducible refine gate_dst (N := 10) rfl ?_); refine box_event ?hg (N := 10) ?hd (cs := #[.int .i64 0, .int .i64 0, .string (⟨#[]⟩ : ByteArray)]) (t := 80) ?hr ?_; (case hd => rfl); (case hg => rfl); (case hr => first | (go_simp; done) | (go_simp; rfl)); intro gb277 hg w37 hbox hb; have n0_ := As.mk (kB (g := gb275) (o := .cells #[.slice (some ad276) l0_0.length c0_0, .slice A0_1 l0_1.length c0_1] 31 (0, 0)) (by (with_reducible repeat (first | refine kD ?_ _ | refine kE ?_ | refine kA ?_ _)); exact BK275.out) hb); have n1_ := As.mk (bT (by repeat (first | (with_reducible first | exact HB.out | apply bA | apply bD | apply bE | refine bS ?_ GE275.out) | exact HB.out)) hb); have n2_ := As.mk (hbox); have n3_ := As.mk ((by rw [hg]; exact (bZ (by repeat (first | (with_reducible first | exact HB.out | apply bA | apply bD | apply bE | refine bS ?_ GE275.out) | exact HB.out))) : w.heap.size ≤ gb277)); have n4_ := n3_; have n5_ := As.mk ((by rw [hg]; exact Nat.ne_of_lt (kL (g := gb275) (o := .cells #[.slice (some ad276) l0_0.length c0_0, .slice A0_1 l0_1.length c0_1] 31 (0, 0)) (by (with_reducible repeat (first | refine kD ?_ _ | refine kE ?_ | refine kA ?_ _)); exact BK275.out)) : gb275 ≠ gb277)); have n6_ := As.mk n5_.out.symm; clear BK275; clear HB; have BK275 := n0_; have HB := n1_; have BK277 := n2_; have GW277 := n3_; have GE277 := n4_; have NB275_277 := n5_; have NB277_275 := n6_; clear n0_ n1_ n2_ n3_ n4_ n5_ n6_; clear hb hbox hg; have hnb38 := NB277_275.out; have hnc38 := NB275_277.out; have hcz39_0 : w37.cell? ⟨gb277, 0, none⟩ = some (.int .i64 0) := (kC BK277.out 0).trans rfl; have hcz39_1 : w37.cell? ⟨gb277, 1, none⟩ = some (.int .i64 0) := (kC BK277.out 1).trans rfl; have hcz39_2 : w37.cell? ⟨gb277, 2, none⟩ = some (.string (⟨#[]⟩ : ByteArray)) := (kC BK277.out 2).trans rfl; have hfz39_0 := kF BK277.out 0; have hfz39_1 := kF BK277.out 1; have hfz39_2 := kF BK277.out 2) | ((with_reducible refine gate_callee (f := 77) rfl ?_); refine goesL_ (some 26) rfl rfl Try.func77 (by kernel_rfl) rfl #[.int .i64 ((rd_T80 l0_0 x9_1).f0)] rfl (by (try simp only [sm1, sm2, sm3]); first | done | rfl | (simp only [List.length_drop, List.length_take]; rfl)) ?_; (with_reducible refine (impl_isLast.calls ((rd_T80 l0_0 x9_1).f0) false _ A9.out).mono ?_); rintro e w' ⟨rfl, ⟨nd, rfl⟩⟩; refine ⟨_, rfl, ?_⟩; have hcz40_0 : w37.cell? ⟨gb275, 0, none⟩ = some (.slice (some ad276) l0_0.length c0_0) := (kC BK275.out 0).trans rfl; have hcz40_1 : w37.cell? ⟨gb275, 1, none⟩ = some (.slice A0_1 l0_1.length c0_1) := (kC BK275.out 1).trans rfl; have hfz40_0 := kF BK275.out 0; have hfz40_1 := kF BK275.out 1; have p279 : 0 ≤ (((rd_T80 l0_0 x9_1).f1) : Int) := of_decide_eq_true (by first | (with_reducible assumption) | assumption); have q279 : ((rd_T80 l0_0 x9_1).f1) < (l0_0.length : Int) := of_decide_eq_true (by first | (with_reducible assumption) | assumption); obtain ⟨ad279, e279, hx279_0, hx279_1, hx279_2⟩ := at_T80 HR0_0.out ((rd_T80 l0_0 x9_1).f1) p279 q279; obtain rfl : ad276 = ad279 := (by injection e279); have hn279_0 : ad276.block ≠ gb277 := Nat.ne_of_lt (Nat.lt_of_lt_of_le (by have := World.block_lt_of_cell? _ _ hx279_0; first | rwa [add_block] at this | exact this) GW277.out); have hn279_1 : ad276.block ≠ gb277 := Nat.ne_of_lt (Nat.lt_of_lt_of_le (by have := World.block_lt_of_cell? _ _ hx279_0; first | rwa [add_block] at this | exact this) GW277.out); have hn279_2 : ad276.block ≠ gb277 := Nat.ne_of_lt (Nat.lt_of_lt_of_le (by have := World.block_lt_of_cell? _ _ hx279_0; first | rwa [add_block] at this | exact this) GW277.out); replace hx279_0 := (HB.out.cell (World.block_lt_of_cell? w _ hx279_0)).trans hx279_0; replace hx279_1 := (HB.out.cell (World.block_lt_of_cell? w _ hx279_1)).trans hx279_1; replace hx279_2 := (HB.out.cell (World.block_lt_of_cell? w _ hx279_2)).trans hx279_2; replace hx279_0 := (cell_far (p := ⟨gb277, 0, none⟩) (by first | (rw [add_block]; exact hn279_0) | (show (Addr.add _ _).block ≠ _; rw [add_block]; exact hn279_0) | exact hn279_0) (.int .i64 ((rd_T80 l0_0 x9_1).f0))).trans hx279_0; replace hx279_1 := (cell_far (p := ⟨gb277, 0, none⟩) (by first | (rw [add_block]; exact hn279_0) | (show (Addr.add _ _).block ≠ _; rw [add_block]; exact hn279_0) | exact hn279_0) (.int .i64 ((rd_T80 l0_0 x9_1).f0))).trans hx279_1; replace hx279_2 := (cell_far (p := ⟨gb277, 0, none⟩) (by first | (rw [add_block]; exact hn279_0) | (show (Addr.add _ _).block ≠ _; rw [add_block]; exact hn279_0) | exact hn279_0) (.int .i64 ((rd_T80 l0_0 x9_1).f0))).trans hx279_2; replace hx279_0 := (cell_far (p := ⟨gb277, 1, none⟩) (by first | (rw [add_block]; exact hn279_1) | (show (Addr.add _ _).block ≠ _; rw [add_block]; exact hn279_1) | exact hn279_1) (.int .i64 ((rd_T80 l0_0 x9_1).f1))).trans hx279_0; replace hx279_1 := (cell_far (p := ⟨gb277, 1, none⟩) (by first | (rw [add_block]; exact hn279_1) | (show (Addr.add _ _).block ≠ _; rw [add_block]; exact hn279_1) | exact hn279_1) (.int .i64 ((rd_T80 l0_0 x9_1).f1))).trans hx279_1; replace hx279_2 := (cell_far (p := ⟨gb277, 1, none⟩) (by first | (rw [add_block]; exact hn279_1) | (show (Addr.add _ _).block ≠ _; rw [add_block]; exact hn279_1) | exact hn279_1) (.int .i64 ((rd_T80 l0_0 x9_1).f1))).trans hx279_2; replace hx279_0 := (cell_far (p := ⟨gb277, 2, none⟩) (by first | (rw [add_block]; exact hn279_2) | (show (Addr.add _ _).block ≠ _; rw [add_block]; exact hn279_2) | exact hn279_2) (.string ((rd_T80 l0_0 x9_1).f2))).trans hx279_0; replace hx279_1 := (cell_far (p := ⟨gb277, 2, none⟩) (by first | (rw [add_block]; exact hn279_2) | (show (Addr.add _ _).block ≠ _; rw [add_block]; exact hn279_2) | exact hn279_2) (.string ((rd_T80 l0_0 x9_1).f2))).trans hx279_1; replace hx279_2 := (cell_far (p := ⟨gb277, 2, none⟩) (by first | (rw [add_block]; exact hn279_2) | (show (Addr.add _ _).block ≠ _; rw [add_block]; exact hn279_2) | exact hn279_2) (.string ((rd_T80 l0_0 x9_1).f2))).trans hx279_2; clear hn279_0; clear hn279_1; clear hn279_2; replace p279 := eq_true p279; replace q279 := eq_true q279))
              go_roundg k1
              case measure => have := HK1.out; omega
              case rel => exact ⟨(wrap64 (x9_1 + 1)), (by first | rfl | (simp; done) | (simp [*]; done)), H', ⟨by have := HK1.out; omega⟩, ⟨by (with_reducible repeat (first | refine kD ?_ _ | refine kE ?_ | refine kA ?_ _)); refine blk_far ?_ NB275_277.out _; (with_reducible repeat (first | refine kD ?_ _ | refine kE ?_ | refine kA ?_ _)); refine blk_far ?_ NB275_277.out _; (with_reducible repeat (first | refine kD ?_ _ | refine kE ?_ | refine kA ?_ _)); refine blk_far ?_ NB275_277.out _; (with_reducible repeat (first | refine kD ?_ _ | refine kE ?_ | refine kA ?_ _)); exact BK275.out⟩, ⟨by repeat (first | (with_reducible first | exact HB.out | apply bA | apply bD | apply bE | refine bS ?_ GE275.out | refine bS ?_ GE277.out) | exact HB.out)⟩⟩
             ·rw [if_neg c35] at H
              have c35b0 : (((rd_T80 l0_0 ((rd_T80 l0_0 x9_1).f1)).f0) == 31) = false := beq_eq_false_iff_ne.mpr c35
              have c35b1 : (((rd_T80 l0_0 ((rd_T80 l0_0 x9_1).f1)).f0) != 31) = true := bne_iff_ne.mpr c35
              obtain rfl := Option.some.inj H
              have hcz41_0 : wr.cell? ⟨gb275, 0, none⟩ = some (.slice A0_0 l0_0.length c0_0) := (kC BK275.out 0).trans rfl
              have hcz41_1 : wr.cell? ⟨gb275, 1, none⟩ = some (.slice A0_1 l0_1.length c0_1) := (kC BK275.out 1).trans rfl
              have hfz41_0 := kF BK275.out 0
              have hfz41_1 := kF BK275.out 1
              have p276 : 0 ≤ (x9_1 : Int) := of_decide_eq_true (by first | (with_reducible assumption) | assumption)
              have q276 : x9_1 < (l0_0.length : Int) := of_decide_eq_true (by first | (with_reducible assumption) | assumption)
              obtain ⟨ad276, e276, hx276_0, hx276_1, hx276_2⟩ := at_T80 HR0_0.out x9_1 p276 q276
              cases e276
              replace hx276_0 := (HB.out.cell (World.block_lt_of_cell? w _ hx276_0)).trans hx276_0
              replace hx276_1 := (HB.out.cell (World.block_lt_of_cell? w _ hx276_1)).trans hx276_1
              replace hx276_2 := (HB.out.cell (World.block_lt_of_cell? w _ hx276_2)).trans hx276_2
              replace p276 := eq_true p276
              replace q276 := eq_true q276
              go_wp2_with (first | ((with_reducible refine gate_dst (N := 10) rfl ?_); refine box_event ?hg (N := 10) ?hd (cs := #[.int .i64 0, .int .i64 0, .string (⟨#[]⟩ : ByteArray)]) (t := 80) ?hr ?_; (case hd => rfl); (case hg => rfl); (case hr => first | (go_simp; done) | (go_simp; rfl)); intro gb277 hg w42 hbox hb; have n0_ := As.mk (kB (g := gb275) (o := .cells #[.slice (some ad276) l0_0.length c0_0, .slice A0_1 l0_1.length c0_1] 31 (0, 0)) (by (with_reducible repeat (first | refine kD ?_ _ | refine kE ?_ | refine kA ?_ _)); exact BK275.out) hb); have n1_ := As.mk (bT (by repeat (first | (with_reducible first | exact HB.out | apply bA | apply bD | apply bE | refine bS ?_ GE275.out) | exact HB.out)) hb); have n2_ := As.mk (hbox); have n3_ := As.mk ((by rw [hg]; exact (bZ (by repeat (first | (with_reducible first | exact HB.out | apply bA | apply bD | apply bE | refine bS ?_ GE275.out) | exact HB.out))) : w.heap.size ≤ gb277)); have n4_ := n3_; have n5_ := As.mk ((by rw [hg]; exact Nat.ne_of_lt (kL (g := gb275) (o := .cells #[.slice (some ad276) l0_0.length c0_0, .slice A0_1 l0_1.length c0_1] 31 (0, 0)) (by (with_reducible repeat (first | refine kD ?_ _ | refine kE ?_ | refine kA ?_ _)); exact BK275.out)) : gb275 ≠ gb277)); have n6_ := As.mk n5_.out.symm; clear BK275; clear HB; have BK275 := n0_; have HB := n1_; have BK277 := n2_; have GW277 := n3_; have GE277 := n4_; have NB275_277 := n5_; have NB277_275 := n6_; clear n0_ n1_ n2_ n3_ n4_ n5_ n6_; clear hb hbox hg; have hnb43 := NB277_275.out; have hnc43 := NB275_277.out; have hcz44_0 : w42.cell? ⟨gb277, 0, none⟩ = some (.int .i64 0) := (kC BK277.out 0).trans rfl; have hcz44_1 : w42.cell? ⟨gb277, 1, none⟩ = some (.int .i64 0) := (kC BK277.out 1).trans rfl; have hcz44_2 : w42.cell? ⟨gb277, 2, none⟩ = some (.string (⟨#[]⟩ : ByteArray)) := (kC BK277.out 2).trans rfl; have hfz44_0 := kF BK277.out 0; have hfz44_1 := kF BK277.out 1; have hfz44_2 := kF BK277.out 2) | ((with_reducible refine gate_callee (f := 77) rfl ?_); refine goesL_ (some 26) rfl rfl Try.func77 (by kernel_rfl) rfl #[.int .i64 ((rd_T80 l0_0 x9_1).f0)] rfl (by (try simp only [sm1, sm2, sm3]); first | done | rfl | (simp only [List.length_drop, List.length_take]; rfl)) ?_; (with_reducible refine (impl_isLast.calls ((rd_T80 l0_0 x9_1).f0) false _ A9.out).mono ?_); rintro e w' ⟨rfl, ⟨nd, rfl⟩⟩; refine ⟨_, rfl, ?_⟩; have hcz45_0 : w42.cell? ⟨gb275, 0, none⟩ = some (.slice (some ad276) l0_0.length c0_0) := (kC BK275.out 0).trans rfl; have hcz45_1 : w42.cell? ⟨gb275, 1, none⟩ = some (.slice A0_1 l0_1.length c0_1) := (kC BK275.out 1).trans rfl; have hfz45_0 := kF BK275.out 0; have hfz45_1 := kF BK275.out 1; have p279 : 0 ≤ (((rd_T80 l0_0 x9_1).f1) : Int) := of_decide_eq_true (by first | (with_reducible assumption) | assumption); have q279 : ((rd_T80 l0_0 x9_1).f1) < (l0_0.length : Int) := of_decide_eq_true (by first | (with_reducible assumption) | assumption); obtain ⟨ad279, e279, hx279_0, hx279_1, hx279_2⟩ := at_T80 HR0_0.out ((rd_T80 l0_0 x9_1).f1) p279 q279; obtain rfl : ad276 = ad279 := (by injection e279); have hn279_0 : ad276.block ≠ gb277 := Nat.ne_of_lt (Nat.lt_of_lt_of_le (by have := World.block_lt_of_cell? _ _ hx279_0; first | rwa [add_block] at this | exact this) GW277.out); have hn279_1 : ad276.block ≠ gb277 := Nat.ne_of_lt (Nat.lt_of_lt_of_le (by have := World.block_lt_of_cell? _ _ hx279_0; first | rwa [add_block] at this | exact this) GW277.out); have hn279_2 : ad276.block ≠ gb277 := Nat.ne_of_lt (Nat.lt_of_lt_of_le (by have := World.block_lt_of_cell? _ _ hx279_0; first | rwa [add_block] at this | exact this) GW277.out); replace hx279_0 := (HB.out.cell (World.block_lt_of_cell? w _ hx279_0)).trans hx279_0; replace hx279_1 := (HB.out.cell (World.block_lt_of_cell? w _ hx279_1)).trans hx279_1; replace hx279_2 := (HB.out.cell (World.block_lt_of_cell? w _ hx279_2)).trans hx279_2; replace hx279_0 := (cell_far (p := ⟨gb277, 0, none⟩) (by first | (rw [add_block]; exact hn279_0) | (show (Addr.add _ _).block ≠ _; rw [add_block]; exact hn279_0) | exact hn279_0) (.int .i64 ((rd_T80 l0_0 x9_1).f0))).trans hx279_0; replace hx279_1 := (cell_far (p := ⟨gb277, 0, none⟩) (by first | (rw [add_block]; exact hn279_0) | (show (Addr.add _ _).block ≠ _; rw [add_block]; exact hn279_0) | exact hn279_0) (.int .i64 ((rd_T80 l0_0 x9_1).f0))).trans hx279_1; replace hx279_2 := (cell_far (p := ⟨gb277, 0, none⟩) (by first | (rw [add_block]; exact hn279_0) | (show (Addr.add _ _).block ≠ _; rw [add_block]; exact hn279_0) | exact hn279_0) (.int .i64 ((rd_T80 l0_0 x9_1).f0))).trans hx279_2; replace hx279_0 := (cell_far (p := ⟨gb277, 1, none⟩) (by first | (rw [add_block]; exact hn279_1) | (show (Addr.add _ _).block ≠ _; rw [add_block]; exact hn279_1) | exact hn279_1) (.int .i64 ((rd_T80 l0_0 x9_1).f1))).trans hx279_0; replace hx279_1 := (cell_far (p := ⟨gb277, 1, none⟩) (by first | (rw [add_block]; exact hn279_1) | (show (Addr.add _ _).block ≠ _; rw [add_block]; exact hn279_1) | exact hn279_1) (.int .i64 ((rd_T80 l0_0 x9_1).f1))).trans hx279_1; replace hx279_2 := (cell_far (p := ⟨gb277, 1, none⟩) (by first | (rw [add_block]; exact hn279_1) | (show (Addr.add _ _).block ≠ _; rw [add_block]; exact hn279_1) | exact hn279_1) (.int .i64 ((rd_T80 l0_0 x9_1).f1))).trans hx279_2; replace hx279_0 := (cell_far (p := ⟨gb277, 2, none⟩) (by first | (rw [add_block]; exact hn279_2) | (show (Addr.add _ _).block ≠ _; rw [add_block]; exact hn279_2) | exact hn279_2) (.string ((rd_T80 l0_0 x9_1).f2))).trans hx279_0; replace hx279_1 := (cell_far (p := ⟨gb277, 2, none⟩) (by first | (rw [add_block]; exact hn279_2) | (show (Addr.add _ _).block ≠ _; rw [add_block]; exact hn279_2) | exact hn279_2) (.string ((rd_T80 l0_0 x9_1).f2))).trans hx279_1; replace hx279_2 := (cell_far (p := ⟨gb277, 2, none⟩) (by first | (rw [add_block]; exact hn279_2) | (show (Addr.add _ _).block ≠ _; rw [add_block]; exact hn279_2) | exact hn279_2) (.string ((rd_T80 l0_0 x9_1).f2))).trans hx279_2; clear hn279_0; clear hn279_1; clear hn279_2; replace p279 := eq_true p279; replace q279 := eq_true q279))
              go_ret
              exact ⟨by first | rfl | (simp [eN, eS] <;> rfl) | (simp [*, eN, eS] <;> rfl), by repeat (first | (with_reducible first | exact HB.out | apply bA | apply bD | apply bE | refine bS ?_ GE275.out | refine bS ?_ GE277.out) | exact HB.out)⟩
            ·rw [if_neg c34] at H
             exact absurd H (by simp)
           ·rw [if_neg c33] at H
            exact absurd H (by simp)
          ·rw [if_neg c32] at H
           have c32b0 : decide (((rd_T80 l0_0 x9_1).f1) < x9_1) = false := decide_eq_false c32
           clear c32
           obtain rfl := Option.some.inj H
           have hcz46_0 : wr.cell? ⟨gb275, 0, none⟩ = some (.slice A0_0 l0_0.length c0_0) := (kC BK275.out 0).trans rfl
           have hcz46_1 : wr.cell? ⟨gb275, 1, none⟩ = some (.slice A0_1 l0_1.length c0_1) := (kC BK275.out 1).trans rfl
           have hfz46_0 := kF BK275.out 0
           have hfz46_1 := kF BK275.out 1
           have p276 : 0 ≤ (x9_1 : Int) := of_decide_eq_true (by first | (with_reducible assumption) | assumption)
           have q276 : x9_1 < (l0_0.length : Int) := of_decide_eq_true (by first | (with_reducible assumption) | assumption)
           obtain ⟨ad276, e276, hx276_0, hx276_1, hx276_2⟩ := at_T80 HR0_0.out x9_1 p276 q276
           cases e276
           replace hx276_0 := (HB.out.cell (World.block_lt_of_cell? w _ hx276_0)).trans hx276_0
           replace hx276_1 := (HB.out.cell (World.block_lt_of_cell? w _ hx276_1)).trans hx276_1
           replace hx276_2 := (HB.out.cell (World.block_lt_of_cell? w _ hx276_2)).trans hx276_2
           replace p276 := eq_true p276
           replace q276 := eq_true q276
           go_wp2_with (first | ((with_reducible refine gate_dst (N := 10) rfl ?_); refine box_event ?hg (N := 10) ?hd (cs := #[.int .i64 0, .int .i64 0, .string (⟨#[]⟩ : ByteArray)]) (t := 80) ?hr ?_; (case hd => rfl); (case hg => rfl); (case hr => first | (go_simp; done) | (go_simp; rfl)); intro gb277 hg w47 hbox hb; have n0_ := As.mk (kB (g := gb275) (o := .cells #[.slice (some ad276) l0_0.length c0_0, .slice A0_1 l0_1.length c0_1] 31 (0, 0)) (by (with_reducible repeat (first | refine kD ?_ _ | refine kE ?_ | refine kA ?_ _)); exact BK275.out) hb); have n1_ := As.mk (bT (by repeat (first | (with_reducible first | exact HB.out | apply bA | apply bD | apply bE | refine bS ?_ GE275.out) | exact HB.out)) hb); have n2_ := As.mk (hbox); have n3_ := As.mk ((by rw [hg]; exact (bZ (by repeat (first | (with_reducible first | exact HB.out | apply bA | apply bD | apply bE | refine bS ?_ GE275.out) | exact HB.out))) : w.heap.size ≤ gb277)); have n4_ := n3_; have n5_ := As.mk ((by rw [hg]; exact Nat.ne_of_lt (kL (g := gb275) (o := .cells #[.slice (some ad276) l0_0.length c0_0, .slice A0_1 l0_1.length c0_1] 31 (0, 0)) (by (with_reducible repeat (first | refine kD ?_ _ | refine kE ?_ | refine kA ?_ _)); exact BK275.out)) : gb275 ≠ gb277)); have n6_ := As.mk n5_.out.symm; clear BK275; clear HB; have BK275 := n0_; have HB := n1_; have BK277 := n2_; have GW277 := n3_; have GE277 := n4_; have NB275_277 := n5_; have NB277_275 := n6_; clear n0_ n1_ n2_ n3_ n4_ n5_ n6_; clear hb hbox hg; have hnb48 := NB277_275.out; have hnc48 := NB275_277.out; have hcz49_0 : w47.cell? ⟨gb277, 0, none⟩ = some (.int .i64 0) := (kC BK277.out 0).trans rfl; have hcz49_1 : w47.cell? ⟨gb277, 1, none⟩ = some (.int .i64 0) := (kC BK277.out 1).trans rfl; have hcz49_2 : w47.cell? ⟨gb277, 2, none⟩ = some (.string (⟨#[]⟩ : ByteArray)) := (kC BK277.out 2).trans rfl; have hfz49_0 := kF BK277.out 0; have hfz49_1 := kF BK277.out 1; have hfz49_2 := kF BK277.out 2) | ((with_reducible refine gate_callee (f := 77) rfl ?_); refine goesL_ (some 26) rfl rfl Try.func77 (by kernel_rfl) rfl #[.int .i64 ((rd_T80 l0_0 x9_1).f0)] rfl (by (try simp only [sm1, sm2, sm3]); first | done | rfl | (simp only [List.length_drop, List.length_take]; rfl)) ?_; (with_reducible refine (impl_isLast.calls ((rd_T80 l0_0 x9_1).f0) false _ A9.out).mono ?_); rintro e w' ⟨rfl, ⟨nd, rfl⟩⟩; refine ⟨_, rfl, ?_⟩))
           go_ret
           exact ⟨by first | rfl | (simp [eN, eS] <;> rfl) | (simp [*, eN, eS] <;> rfl), by repeat (first | (with_reducible first | exact HB.out | apply bA | apply bD | apply bE | refine bS ?_ GE275.out | refine bS ?_ GE277.out) | exact HB.out)⟩
         ·rw [if_neg c31] at H
          have c31b0 : decide (a1 ≤ ((rd_T80 l0_0 x9_1).f1)) = false := decide_eq_false c31
          clear c31
          obtain rfl := Option.some.inj H
          have hcz50_0 : wr.cell? ⟨gb275, 0, none⟩ = some (.slice A0_0 l0_0.length c0_0) := (kC BK275.out 0).trans rfl
          have hcz50_1 : wr.cell? ⟨gb275, 1, none⟩ = some (.slice A0_1 l0_1.length c0_1) := (kC BK275.out 1).trans rfl
          have hfz50_0 := kF BK275.out 0
          have hfz50_1 := kF BK275.out 1
          have p276 : 0 ≤ (x9_1 : Int) := of_decide_eq_true (by first | (with_reducible assumption) | assumption)
          have q276 : x9_1 < (l0_0.length : Int) := of_decide_eq_true (by first | (with_reducible assumption) | assumption)
          obtain ⟨ad276, e276, hx276_0, hx276_1, hx276_2⟩ := at_T80 HR0_0.out x9_1 p276 q276
          cases e276
          replace hx276_0 := (HB.out.cell (World.block_lt_of_cell? w _ hx276_0)).trans hx276_0
          replace hx276_1 := (HB.out.cell (World.block_lt_of_cell? w _ hx276_1)).trans hx276_1
          replace hx276_2 := (HB.out.cell (World.block_lt_of_cell? w _ hx276_2)).trans hx276_2
          replace p276 := eq_true p276
          replace q276 := eq_true q276
          go_wp2_with (first | ((with_reducible refine gate_dst (N := 10) rfl ?_); refine box_event ?hg (N := 10) ?hd (cs := #[.int .i64 0, .int .i64 0, .string (⟨#[]⟩ : ByteArray)]) (t := 80) ?hr ?_; (case hd => rfl); (case hg => rfl); (case hr => first | (go_simp; done) | (go_simp; rfl)); intro gb277 hg w51 hbox hb; have n0_ := As.mk (kB (g := gb275) (o := .cells #[.slice (some ad276) l0_0.length c0_0, .slice A0_1 l0_1.length c0_1] 31 (0, 0)) (by (with_reducible repeat (first | refine kD ?_ _ | refine kE ?_ | refine kA ?_ _)); exact BK275.out) hb); have n1_ := As.mk (bT (by repeat (first | (with_reducible first | exact HB.out | apply bA | apply bD | apply bE | refine bS ?_ GE275.out) | exact HB.out)) hb); have n2_ := As.mk (hbox); have n3_ := As.mk ((by rw [hg]; exact (bZ (by repeat (first | (with_reducible first | exact HB.out | apply bA | apply bD | apply bE | refine bS ?_ GE275.out) | exact HB.out))) : w.heap.size ≤ gb277)); have n4_ := n3_; have n5_ := As.mk ((by rw [hg]; exact Nat.ne_of_lt (kL (g := gb275) (o := .cells #[.slice (some ad276) l0_0.length c0_0, .slice A0_1 l0_1.length c0_1] 31 (0, 0)) (by (with_reducible repeat (first | refine kD ?_ _ | refine kE ?_ | refine kA ?_ _)); exact BK275.out)) : gb275 ≠ gb277)); have n6_ := As.mk n5_.out.symm; clear BK275; clear HB; have BK275 := n0_; have HB := n1_; have BK277 := n2_; have GW277 := n3_; have GE277 := n4_; have NB275_277 := n5_; have NB277_275 := n6_; clear n0_ n1_ n2_ n3_ n4_ n5_ n6_; clear hb hbox hg; have hnb52 := NB277_275.out; have hnc52 := NB275_277.out; have hcz53_0 : w51.cell? ⟨gb277, 0, none⟩ = some (.int .i64 0) := (kC BK277.out 0).trans rfl; have hcz53_1 : w51.cell? ⟨gb277, 1, none⟩ = some (.int .i64 0) := (kC BK277.out 1).trans rfl; have hcz53_2 : w51.cell? ⟨gb277, 2, none⟩ = some (.string (⟨#[]⟩ : ByteArray)) := (kC BK277.out 2).trans rfl; have hfz53_0 := kF BK277.out 0; have hfz53_1 := kF BK277.out 1; have hfz53_2 := kF BK277.out 2) | ((with_reducible refine gate_callee (f := 77) rfl ?_); refine goesL_ (some 26) rfl rfl Try.func77 (by kernel_rfl) rfl #[.int .i64 ((rd_T80 l0_0 x9_1).f0)] rfl (by (try simp only [sm1, sm2, sm3]); first | done | rfl | (simp only [List.length_drop, List.length_take]; rfl)) ?_; (with_reducible refine (impl_isLast.calls ((rd_T80 l0_0 x9_1).f0) false _ A9.out).mono ?_); rintro e w' ⟨rfl, ⟨nd, rfl⟩⟩; refine ⟨_, rfl, ?_⟩))
          go_ret
          exact ⟨by first | rfl | (simp [eN, eS] <;> rfl) | (simp [*, eN, eS] <;> rfl), by repeat (first | (with_reducible first | exact HB.out | apply bA | apply bD | apply bE | refine bS ?_ GE275.out | refine bS ?_ GE277.out) | exact HB.out)⟩
        ·rw [if_neg c30] at H
         have c30b0 : (((rd_T80 l0_0 x9_1).f0) == 37) = false := beq_eq_false_iff_ne.mpr c30
         have c30b1 : (((rd_T80 l0_0 x9_1).f0) != 37) = true := bne_iff_ne.mpr c30
         replace H := Option.bind_eq_some_iff.mp H
         obtain ⟨t280, A540, H⟩ := H
         replace H : (if t280 = true then (if ((rd_T80 l0_0 x9_1).f1) > x9_1 then (if (((rd_T80 l0_0 x9_1).f1) < a2) then (F4.l0 k1 a1 a2 a3 (wrap64 (x9_1 + 1)) l0_0 l0_1) else (some false)) else (some false)) else (F4.l0 k1 a1 a2 a3 (wrap64 (x9_1 + 1)) l0_0 l0_1)) = some r := H
         have A54 := As.mk A540
         clear A540
         by_cases c55 : t280 = true
         ·subst c55
          have H1 : (if ((rd_T80 l0_0 x9_1).f1) > x9_1 then (if (((rd_T80 l0_0 x9_1).f1) < a2) then (F4.l0 k1 a1 a2 a3 (wrap64 (x9_1 + 1)) l0_0 l0_1) else (some false)) else (some false)) = some r := by rw [if_pos rfl] at H; exact H
          clear H
          have H := H1
          clear H1
          by_cases c56 : ((rd_T80 l0_0 x9_1).f1) > x9_1
          ·rw [if_pos c56] at H
           have c56b0 : decide (x9_1 < ((rd_T80 l0_0 x9_1).f1)) = true := decide_eq_true c56
           clear c56
           by_cases c57 : (((rd_T80 l0_0 x9_1).f1) < a2)
           ·rw [if_pos c57] at H
            have c57b0 : decide (((rd_T80 l0_0 x9_1).f1) < a2) = true := decide_eq_true c57
            clear c57
            have H' := As.mk H
            clear H
            have hcz58_0 : wr.cell? ⟨gb275, 0, none⟩ = some (.slice A0_0 l0_0.length c0_0) := (kC BK275.out 0).trans rfl
            have hcz58_1 : wr.cell? ⟨gb275, 1, none⟩ = some (.slice A0_1 l0_1.length c0_1) := (kC BK275.out 1).trans rfl
            have hfz58_0 := kF BK275.out 0
            have hfz58_1 := kF BK275.out 1
            have p276 : 0 ≤ (x9_1 : Int) := of_decide_eq_true (by first | (with_reducible assumption) | assumption)
            have q276 : x9_1 < (l0_0.length : Int) := of_decide_eq_true (by first | (with_reducible assumption) | assumption)
            obtain ⟨ad276, e276, hx276_0, hx276_1, hx276_2⟩ := at_T80 HR0_0.out x9_1 p276 q276
            cases e276
            replace hx276_0 := (HB.out.cell (World.block_lt_of_cell? w _ hx276_0)).trans hx276_0
            replace hx276_1 := (HB.out.cell (World.block_lt_of_cell? w _ hx276_1)).trans hx276_1
            replace hx276_2 := (HB.out.cell (World.block_lt_of_cell? w _ hx276_2)).trans hx276_2
            replace p276 := eq_true p276
            replace q276 := eq_true q276
            go_wp2_with (first | ((with_reducible refine gate_dst (N := 10) rfl ?_); refine box_event ?hg (N := 10) ?hd (cs := #[.int .i64 0, .int .i64 0, .string (⟨#[]⟩ : ByteArray)]) (t := 80) ?hr ?_; (case hd => rfl); (case hg => rfl); (case hr => first | (go_simp; done) | (go_simp; rfl)); intro gb277 hg w59 hbox hb; have n0_ := As.mk (kB (g := gb275) (o := .cells #[.slice (some ad276) l0_0.length c0_0, .slice A0_1 l0_1.length c0_1] 31 (0, 0)) (by (with_reducible repeat (first | refine kD ?_ _ | refine kE ?_ | refine kA ?_ _)); exact BK275.out) hb); have n1_ := As.mk (bT (by repeat (first | (with_reducible first | exact HB.out | apply bA | apply bD | apply bE | refine bS ?_ GE275.out) | exact HB.out)) hb); have n2_ := As.mk (hbox); have n3_ := As.mk ((by rw [hg]; exact (bZ (by repeat (first | (with_reducible first | exact HB.out | apply bA | apply bD | apply bE | refine bS ?_ GE275.out) | exact HB.out))) : w.heap.size ≤ gb277)); have n4_ := n3_; have n5_ := As.mk ((by rw [hg]; exact Nat.ne_of_lt (kL (g := gb275) (o := .cells #[.slice (some ad276) l0_0.length c0_0, .slice A0_1 l0_1.length c0_1] 31 (0, 0)) (by (with_reducible repeat (first | refine kD ?_ _ | refine kE ?_ | refine kA ?_ _)); exact BK275.out)) : gb275 ≠ gb277)); have n6_ := As.mk n5_.out.symm; clear BK275; clear HB; have BK275 := n0_; have HB := n1_; have BK277 := n2_; have GW277 := n3_; have GE277 := n4_; have NB275_277 := n5_; have NB277_275 := n6_; clear n0_ n1_ n2_ n3_ n4_ n5_ n6_; clear hb hbox hg; have hnb60 := NB277_275.out; have hnc60 := NB275_277.out; have hcz61_0 : w59.cell? ⟨gb277, 0, none⟩ = some (.int .i64 0) := (kC BK277.out 0).trans rfl; have hcz61_1 : w59.cell? ⟨gb277, 1, none⟩ = some (.int .i64 0) := (kC BK277.out 1).trans rfl; have hcz61_2 : w59.cell? ⟨gb277, 2, none⟩ = some (.string (⟨#[]⟩ : ByteArray)) := (kC BK277.out 2).trans rfl; have hfz61_0 := kF BK277.out 0; have hfz61_1 := kF BK277.out 1; have hfz61_2 := kF BK277.out 2) | ((with_reducible refine gate_callee (f := 77) rfl ?_); refine goesL_ (some 26) rfl rfl Try.func77 (by kernel_rfl) rfl #[.int .i64 ((rd_T80 l0_0 x9_1).f0)] rfl (by (try simp only [sm1, sm2, sm3]); first | done | rfl | (simp only [List.length_drop, List.length_take]; rfl)) ?_; (with_reducible refine (impl_isLast.calls ((rd_T80 l0_0 x9_1).f0) false _ A9.out).mono ?_); rintro e w' ⟨rfl, ⟨nd, rfl⟩⟩; refine ⟨_, rfl, ?_⟩) | ((with_reducible refine gate_callee (f := 70) rfl ?_); refine goesL_ (some 69) rfl rfl Try.func70 (by kernel_rfl) rfl #[.int .i64 ((rd_T80 l0_0 x9_1).f0)] rfl (by (try simp only [sm1, sm2, sm3]); first | done | rfl | (simp only [List.length_drop, List.length_take]; rfl)) ?_; (with_reducible refine (impl_hasAddress.calls ((rd_T80 l0_0 x9_1).f0) true _ A54.out).mono ?_); rintro e w' ⟨rfl, ⟨nd, rfl⟩⟩; refine ⟨_, rfl, ?_⟩))
            go_roundg k1
            case measure => have := HK1.out; omega
            case rel => exact ⟨(wrap64 (x9_1 + 1)), (by first | rfl | (simp; done) | (simp [*]; done)), H', ⟨by have := HK1.out; omega⟩, ⟨by (with_reducible repeat (first | refine kD ?_ _ | refine kE ?_ | refine kA ?_ _)); refine blk_far ?_ NB275_277.out _; (with_reducible repeat (first | refine kD ?_ _ | refine kE ?_ | refine kA ?_ _)); refine blk_far ?_ NB275_277.out _; (with_reducible repeat (first | refine kD ?_ _ | refine kE ?_ | refine kA ?_ _)); refine blk_far ?_ NB275_277.out _; (with_reducible repeat (first | refine kD ?_ _ | refine kE ?_ | refine kA ?_ _)); exact BK275.out⟩, ⟨by repeat (first | (with_reducible first | exact HB.out | apply bA | apply bD | apply bE | refine bS ?_ GE275.out | refine bS ?_ GE277.out) | exact HB.out)⟩⟩
           ·rw [if_neg c57] at H
            have c57b0 : decide (((rd_T80 l0_0 x9_1).f1) < a2) = false := decide_eq_false c57
            clear c57
            obtain rfl := Option.some.inj H
            have hcz62_0 : wr.cell? ⟨gb275, 0, none⟩ = some (.slice A0_0 l0_0.length c0_0) := (kC BK275.out 0).trans rfl
            have hcz62_1 : wr.cell? ⟨gb275, 1, none⟩ = some (.slice A0_1 l0_1.length c0_1) := (kC BK275.out 1).trans rfl
            have hfz62_0 := kF BK275.out 0
            have hfz62_1 := kF BK275.out 1
            have p276 : 0 ≤ (x9_1 : Int) := of_decide_eq_true (by first | (with_reducible assumption) | assumption)
            have q276 : x9_1 < (l0_0.length : Int) := of_decide_eq_true (by first | (with_reducible assumption) | assumption)
            obtain ⟨ad276, e276, hx276_0, hx276_1, hx276_2⟩ := at_T80 HR0_0.out x9_1 p276 q276
            cases e276
            replace hx276_0 := (HB.out.cell (World.block_lt_of_cell? w _ hx276_0)).trans hx276_0
            replace hx276_1 := (HB.out.cell (World.block_lt_of_cell? w _ hx276_1)).trans hx276_1
            replace hx276_2 := (HB.out.cell (World.block_lt_of_cell? w _ hx276_2)).trans hx276_2
            replace p276 := eq_true p276
            replace q276 := eq_true q276
            go_wp2_with (first | ((with_reducible refine gate_dst (N := 10) rfl ?_); refine box_event ?hg (N := 10) ?hd (cs := #[.int .i64 0, .int .i64 0, .string (⟨#[]⟩ : ByteArray)]) (t := 80) ?hr ?_; (case hd => rfl); (case hg => rfl); (case hr => first | (go_simp; done) | (go_simp; rfl)); intro gb277 hg w63 hbox hb; have n0_ := As.mk (kB (g := gb275) (o := .cells #[.slice (some ad276) l0_0.length c0_0, .slice A0_1 l0_1.length c0_1] 31 (0, 0)) (by (with_reducible repeat (first | refine kD ?_ _ | refine kE ?_ | refine kA ?_ _)); exact BK275.out) hb); have n1_ := As.mk (bT (by repeat (first | (with_reducible first | exact HB.out | apply bA | apply bD | apply bE | refine bS ?_ GE275.out) | exact HB.out)) hb); have n2_ := As.mk (hbox); have n3_ := As.mk ((by rw [hg]; exact (bZ (by repeat (first | (with_reducible first | exact HB.out | apply bA | apply bD | apply bE | refine bS ?_ GE275.out) | exact HB.out))) : w.heap.size ≤ gb277)); have n4_ := n3_; have n5_ := As.mk ((by rw [hg]; exact Nat.ne_of_lt (kL (g := gb275) (o := .cells #[.slice (some ad276) l0_0.length c0_0, .slice A0_1 l0_1.length c0_1] 31 (0, 0)) (by (with_reducible repeat (first | refine kD ?_ _ | refine kE ?_ | refine kA ?_ _)); exact BK275.out)) : gb275 ≠ gb277)); have n6_ := As.mk n5_.out.symm; clear BK275; clear HB; have BK275 := n0_; have HB := n1_; have BK277 := n2_; have GW277 := n3_; have GE277 := n4_; have NB275_277 := n5_; have NB277_275 := n6_; clear n0_ n1_ n2_ n3_ n4_ n5_ n6_; clear hb hbox hg; have hnb64 := NB277_275.out; have hnc64 := NB275_277.out; have hcz65_0 : w63.cell? ⟨gb277, 0, none⟩ = some (.int .i64 0) := (kC BK277.out 0).trans rfl; have hcz65_1 : w63.cell? ⟨gb277, 1, none⟩ = some (.int .i64 0) := (kC BK277.out 1).trans rfl; have hcz65_2 : w63.cell? ⟨gb277, 2, none⟩ = some (.string (⟨#[]⟩ : ByteArray)) := (kC BK277.out 2).trans rfl; have hfz65_0 := kF BK277.out 0; have hfz65_1 := kF BK277.out 1; have hfz65_2 := kF BK277.out 2) | ((with_reducible refine gate_callee (f := 77) rfl ?_); refine goesL_ (some 26) rfl rfl Try.func77 (by kernel_rfl) rfl #[.int .i64 ((rd_T80 l0_0 x9_1).f0)] rfl (by (try simp only [sm1, sm2, sm3]); first | done | rfl | (simp only [List.length_drop, List.length_take]; rfl)) ?_; (with_reducible refine (impl_isLast.calls ((rd_T80 l0_0 x9_1).f0) false _ A9.out).mono ?_); rintro e w' ⟨rfl, ⟨nd, rfl⟩⟩; refine ⟨_, rfl, ?_⟩) | ((with_reducible refine gate_callee (f := 70) rfl ?_); refine goesL_ (some 69) rfl rfl Try.func70 (by kernel_rfl) rfl #[.int .i64 ((rd_T80 l0_0 x9_1).f0)] rfl (by (try simp only [sm1, sm2, sm3]); first | done | rfl | (simp only [List.length_drop, List.length_take]; rfl)) ?_; (with_reducible refine (impl_hasAddress.calls ((rd_T80 l0_0 x9_1).f0) true _ A54.out).mono ?_); rintro e w' ⟨rfl, ⟨nd, rfl⟩⟩; refine ⟨_, rfl, ?_⟩))
            go_ret
            exact ⟨by first | rfl | (simp [eN, eS] <;> rfl) | (simp [*, eN, eS] <;> rfl), by repeat (first | (with_reducible first | exact HB.out | apply bA | apply bD | apply bE | refine bS ?_ GE275.out | refine bS ?_ GE277.out) | exact HB.out)⟩
          ·rw [if_neg c56] at H
           have c56b0 : decide (x9_1 < ((rd_T80 l0_0 x9_1).f1)) = false := decide_eq_false c56
           clear c56
           obtain rfl := Option.some.inj H
           have hcz66_0 : wr.cell? ⟨gb275, 0, none⟩ = some (.slice A0_0 l0_0.length c0_0) := (kC BK275.out 0).trans rfl
           have hcz66_1 : wr.cell? ⟨gb275, 1, none⟩ = some (.slice A0_1 l0_1.length c0_1) := (kC BK275.out 1).trans rfl
           have hfz66_0 := kF BK275.out 0
           have hfz66_1 := kF BK275.out 1
           have p276 : 0 ≤ (x9_1 : Int) := of_decide_eq_true (by first | (with_reducible assumption) | assumption)
           have q276 : x9_1 < (l0_0.length : Int) := of_decide_eq_true (by first | (with_reducible assumption) | assumption)
           obtain ⟨ad276, e276, hx276_0, hx276_1, hx276_2⟩ := at_T80 HR0_0.out x9_1 p276 q276
           cases e276
           replace hx276_0 := (HB.out.cell (World.block_lt_of_cell? w _ hx276_0)).trans hx276_0
           replace hx276_1 := (HB.out.cell (World.block_lt_of_cell? w _ hx276_1)).trans hx276_1
           replace hx276_2 := (HB.out.cell (World.block_lt_of_cell? w _ hx276_2)).trans hx276_2
           replace p276 := eq_true p276
           replace q276 := eq_true q276
           go_wp2_with (first | ((with_reducible refine gate_dst (N := 10) rfl ?_); refine box_event ?hg (N := 10) ?hd (cs := #[.int .i64 0, .int .i64 0, .string (⟨#[]⟩ : ByteArray)]) (t := 80) ?hr ?_; (case hd => rfl); (case hg => rfl); (case hr => first | (go_simp; done) | (go_simp; rfl)); intro gb277 hg w67 hbox hb; have n0_ := As.mk (kB (g := gb275) (o := .cells #[.slice (some ad276) l0_0.length c0_0, .slice A0_1 l0_1.length c0_1] 31 (0, 0)) (by (with_reducible repeat (first | refine kD ?_ _ | refine kE ?_ | refine kA ?_ _)); exact BK275.out) hb); have n1_ := As.mk (bT (by repeat (first | (with_reducible first | exact HB.out | apply bA | apply bD | apply bE | refine bS ?_ GE275.out) | exact HB.out)) hb); have n2_ := As.mk (hbox); have n3_ := As.mk ((by rw [hg]; exact (bZ (by repeat (first | (with_reducible first | exact HB.out | apply bA | apply bD | apply bE | refine bS ?_ GE275.out) | exact HB.out))) : w.heap.size ≤ gb277)); have n4_ := n3_; have n5_ := As.mk ((by rw [hg]; exact Nat.ne_of_lt (kL (g := gb275) (o := .cells #[.slice (some ad276) l0_0.length c0_0, .slice A0_1 l0_1.length c0_1] 31 (0, 0)) (by (with_reducible repeat (first | refine kD ?_ _ | refine kE ?_ | refine kA ?_ _)); exact BK275.out)) : gb275 ≠ gb277)); have n6_ := As.mk n5_.out.symm; clear BK275; clear HB; have BK275 := n0_; have HB := n1_; have BK277 := n2_; have GW277 := n3_; have GE277 := n4_; have NB275_277 := n5_; have NB277_275 := n6_; clear n0_ n1_ n2_ n3_ n4_ n5_ n6_; clear hb hbox hg; have hnb68 := NB277_275.out; have hnc68 := NB275_277.out; have hcz69_0 : w67.cell? ⟨gb277, 0, none⟩ = some (.int .i64 0) := (kC BK277.out 0).trans rfl; have hcz69_1 : w67.cell? ⟨gb277, 1, none⟩ = some (.int .i64 0) := (kC BK277.out 1).trans rfl; have hcz69_2 : w67.cell? ⟨gb277, 2, none⟩ = some (.string (⟨#[]⟩ : ByteArray)) := (kC BK277.out 2).trans rfl; have hfz69_0 := kF BK277.out 0; have hfz69_1 := kF BK277.out 1; have hfz69_2 := kF BK277.out 2) | ((with_reducible refine gate_callee (f := 77) rfl ?_); refine goesL_ (some 26) rfl rfl Try.func77 (by kernel_rfl) rfl #[.int .i64 ((rd_T80 l0_0 x9_1).f0)] rfl (by (try simp only [sm1, sm2, sm3]); first | done | rfl | (simp only [List.length_drop, List.length_take]; rfl)) ?_; (with_reducible refine (impl_isLast.calls ((rd_T80 l0_0 x9_1).f0) false _ A9.out).mono ?_); rintro e w' ⟨rfl, ⟨nd, rfl⟩⟩; refine ⟨_, rfl, ?_⟩) | ((with_reducible refine gate_callee (f := 70) rfl ?_); refine goesL_ (some 69) rfl rfl Try.func70 (by kernel_rfl) rfl #[.int .i64 ((rd_T80 l0_0 x9_1).f0)] rfl (by (try simp only [sm1, sm2, sm3]); first | done | rfl | (simp only [List.length_drop, List.length_take]; rfl)) ?_; (with_reducible refine (impl_hasAddress.calls ((rd_T80 l0_0 x9_1).f0) true _ A54.out).mono ?_); rintro e w' ⟨rfl, ⟨nd, rfl⟩⟩; refine ⟨_, rfl, ?_⟩))
           go_ret
           exact ⟨by first | rfl | (simp [eN, eS] <;> rfl) | (simp [*, eN, eS] <;> rfl), by repeat (first | (with_reducible first | exact HB.out | apply bA | apply bD | apply bE | refine bS ?_ GE275.out | refine bS ?_ GE277.out) | exact HB.out)⟩
         ·replace c55 := Bool.eq_false_iff.mpr c55
          subst c55
          have H1 : (F4.l0 k1 a1 a2 a3 (wrap64 (x9_1 + 1)) l0_0 l0_1) = some r := by rw [if_neg (show ¬ (false = true) by decide)] at H; exact H
          clear H
          have H := H1
          clear H1
          have H' := As.mk H
          clear H
          have hcz70_0 : wr.cell? ⟨gb275, 0, none⟩ = some (.slice A0_0 l0_0.length c0_0) := (kC BK275.out 0).trans rfl
          have hcz70_1 : wr.cell? ⟨gb275, 1, none⟩ = some (.slice A0_1 l0_1.length c0_1) := (kC BK275.out 1).trans rfl
          have hfz70_0 := kF BK275.out 0
          have hfz70_1 := kF BK275.out 1
          have p276 : 0 ≤ (x9_1 : Int) := of_decide_eq_true (by first | (with_reducible assumption) | assumption)
          have q276 : x9_1 < (l0_0.length : Int) := of_decide_eq_true (by first | (with_reducible assumption) | assumption)
          obtain ⟨ad276, e276, hx276_0, hx276_1, hx276_2⟩ := at_T80 HR0_0.out x9_1 p276 q276
          cases e276
          replace hx276_0 := (HB.out.cell (World.block_lt_of_cell? w _ hx276_0)).trans hx276_0
          replace hx276_1 := (HB.out.cell (World.block_lt_of_cell? w _ hx276_1)).trans hx276_1
          replace hx276_2 := (HB.out.cell (World.block_lt_of_cell? w _ hx276_2)).trans hx276_2
          replace p276 := eq_true p276
          replace q276 := eq_true q276
          go_wp2_with (first | ((with_reducible refine gate_dst (N := 10) rfl ?_); refine box_event ?hg (N := 10) ?hd (cs := #[.int .i64 0, .int .i64 0, .string (⟨#[]⟩ : ByteArray)]) (t := 80) ?hr ?_; (case hd => rfl); (case hg => rfl); (case hr => first | (go_simp; done) | (go_simp; rfl)); intro gb277 hg w71 hbox hb; have n0_ := As.mk (kB (g := gb275) (o := .cells #[.slice (some ad276) l0_0.length c0_0, .slice A0_1 l0_1.length c0_1] 31 (0, 0)) (by (with_reducible repeat (first | refine kD ?_ _ | refine kE ?_ | refine kA ?_ _)); exact BK275.out) hb); have n1_ := As.mk (bT (by repeat (first | (with_reducible first | exact HB.out | apply bA | apply bD | apply bE | refine bS ?_ GE275.out) | exact HB.out)) hb); have n2_ := As.mk (hbox); have n3_ := As.mk ((by rw [hg]; exact (bZ (by repeat (first | (with_reducible first | exact HB.out | apply bA | apply bD | apply bE | refine bS ?_ GE275.out) | exact HB.out))) : w.heap.size ≤ gb277)); have n4_ := n3_; have n5_ := As.mk ((by rw [hg]; exact Nat.ne_of_lt (kL (g := gb275) (o := .cells #[.slice (some ad276) l0_0.length c0_0, .slice A0_1 l0_1.length c0_1] 31 (0, 0)) (by (with_reducible repeat (first | refine kD ?_ _ | refine kE ?_ | refine kA ?_ _)); exact BK275.out)) : gb275 ≠ gb277)); have n6_ := As.mk n5_.out.symm; clear BK275; clear HB; have BK275 := n0_; have HB := n1_; have BK277 := n2_; have GW277 := n3_; have GE277 := n4_; have NB275_277 := n5_; have NB277_275 := n6_; clear n0_ n1_ n2_ n3_ n4_ n5_ n6_; clear hb hbox hg; have hnb72 := NB277_275.out; have hnc72 := NB275_277.out; have hcz73_0 : w71.cell? ⟨gb277, 0, none⟩ = some (.int .i64 0) := (kC BK277.out 0).trans rfl; have hcz73_1 : w71.cell? ⟨gb277, 1, none⟩ = some (.int .i64 0) := (kC BK277.out 1).trans rfl; have hcz73_2 : w71.cell? ⟨gb277, 2, none⟩ = some (.string (⟨#[]⟩ : ByteArray)) := (kC BK277.out 2).trans rfl; have hfz73_0 := kF BK277.out 0; have hfz73_1 := kF BK277.out 1; have hfz73_2 := kF BK277.out 2) | ((with_reducible refine gate_callee (f := 77) rfl ?_); refine goesL_ (some 26) rfl rfl Try.func77 (by kernel_rfl) rfl #[.int .i64 ((rd_T80 l0_0 x9_1).f0)] rfl (by (try simp only [sm1, sm2, sm3]); first | done | rfl | (simp only [List.length_drop, List.length_take]; rfl)) ?_; (with_reducible refine (impl_isLast.calls ((rd_T80 l0_0 x9_1).f0) false _ A9.out).mono ?_); rintro e w' ⟨rfl, ⟨nd, rfl⟩⟩; refine ⟨_, rfl, ?_⟩) | ((with_reducible refine gate_callee (f := 70) rfl ?_); refine goesL_ (some 69) rfl rfl Try.func70 (by kernel_rfl) rfl #[.int .i64 ((rd_T80 l0_0 x9_1).f0)] rfl (by (try simp only [sm1, sm2, sm3]); first | done | rfl | (simp only [List.length_drop, List.length_take]; rfl)) ?_; (with_reducible refine (impl_hasAddress.calls ((rd_T80 l0_0 x9_1).f0) false _ A54.out).mono ?_); rintro e w' ⟨rfl, ⟨nd, rfl⟩⟩; refine ⟨_, rfl, ?_⟩))
          go_roundg k1
          case measure => have := HK1.out; omega
          case rel => exact ⟨(wrap64 (x9_1 + 1)), (by first | rfl | (simp; done) | (simp [*]; done)), H', ⟨by have := HK1.out; omega⟩, ⟨by (with_reducible repeat (first | refine kD ?_ _ | refine kE ?_ | refine kA ?_ _)); refine blk_far ?_ NB275_277.out _; (with_reducible repeat (first | refine kD ?_ _ | refine kE ?_ | refine kA ?_ _)); refine blk_far ?_ NB275_277.out _; (with_reducible repeat (first | refine kD ?_ _ | refine kE ?_ | refine kA ?_ _)); refine blk_far ?_ NB275_277.out _; (with_reducible repeat (first | refine kD ?_ _ | refine kE ?_ | refine kA ?_ _)); exact BK275.out⟩, ⟨by repeat (first | (with_reducible first | exact HB.out | apply bA | apply bD | apply bE | refine bS ?_ GE275.out | refine bS ?_ GE277.out) | exact HB.out)⟩⟩
     ·rw [if_neg c8] at H
      exact absurd H (by simp)
    ·rw [if_neg c7] at H
     exact absurd H (by simp)
   ·rw [if_neg c6] at H
    have c6b0 : decide (x9_1 < a2) = false := decide_eq_false c6
    clear c6
    obtain rfl := Option.some.inj H
    go_wp2
    go_ret
    exact ⟨by first | rfl | (simp [eN, eS] <;> rfl) | (simp [*, eN, eS] <;> rfl), by repeat (first | (with_reducible first | exact HB.out | apply bA | apply bD | apply bE | refine bS ?_ GE275.out) | exact HB.out)⟩
def bits_Mul32.f (a0 : Int) (a1 : Int) : Option (Int × Int) := some (((IntKind.u64.wrap ((IntKind.u64.wrap (a0)) * (IntKind.u64.wrap (a1)))) / 4294967296) % 4294967296, (IntKind.u64.wrap ((IntKind.u64.wrap (a0)) * (IntKind.u64.wrap (a1)))) % 4294967296)
theorem bits_Mul32.calls (a0 : Int) (a1 : Int) (r1 : Int) (r2 : Int) (w : World) (h : bits_Mul32.f a0 a1 = some (r1, r2)) :
  Calls Try.prog 96 #[.int .u32 a0, .int .u32 a1] w fun e w' => e = .returned (.tuple #[.int .u32 r1, .int .u32 r2]) ∧ Drawn0 w w' := by
 have H : (some (((IntKind.u64.wrap ((IntKind.u64.wrap (a0)) * (IntKind.u64.wrap (a1)))) / 4294967296) % 4294967296, (IntKind.u64.wrap ((IntKind.u64.wrap (a0)) * (IntKind.u64.wrap (a1)))) % 4294967296)) = some (r1, r2) := h
 clear h
 simp only [Option.some.injEq, Prod.mk.injEq] at H
 obtain ⟨rfl, rfl⟩ := H
 go_enter Try.func96, Try.ntmps96
 go_wp2
 go_ret2
 exact ⟨by first | rfl | (simp; done) | (simp [*]; done), by repeat (first | exact Drawn0.refl _ | apply Drawn0.step)⟩
def bits_Mul64.f (a0 : Int) (a1 : Int) : Option (Int × Int) := some (IntKind.u64.wrap ((IntKind.u64.wrap ((IntKind.u64.wrap ((a0 / 4294967296) * (a1 / 4294967296))) + ((IntKind.u64.wrap ((IntKind.u64.wrap ((a0 / 4294967296) * (Go.bits .and .u64 a1 4294967295))) + ((IntKind.u64.wrap ((Go.bits .and .u64 a0 4294967295) * (Go.bits .and .u64 a1 4294967295))) / 4294967296))) / 4294967296))) + ((IntKind.u64.wrap ((Go.bits .and .u64 (IntKind.u64.wrap ((IntKind.u64.wrap ((a0 / 4294967296) * (Go.bits .and .u64 a1 4294967295))) + ((IntKind.u64.wrap ((Go.bits .and .u64 a0 4294967295) * (Go.bits .and .u64 a1 4294967295))) / 4294967296))) 4294967295) + (IntKind.u64.wrap ((Go.bits .and .u64 a0 4294967295) * (a1 / 4294967296))))) / 4294967296)), IntKind.u64.wrap (a0 * a1))
theorem bits_Mul64.calls (a0 : Int) (a1 : Int) (r1 : Int) (r2 : Int) (w : World) (h : bits_Mul64.f a0 a1 = some (r1, r2)) :
  Calls Try.prog 97 #[.int .u64 a0, .int .u64 a1] w fun e w' => e = .returned (.tuple #[.int .u64 r1, .int .u64 r2]) ∧ Drawn0 w w' := by
 have H : (some (IntKind.u64.wrap ((IntKind.u64.wrap ((IntKind.u64.wrap ((a0 / 4294967296) * (a1 / 4294967296))) + ((IntKind.u64.wrap ((IntKind.u64.wrap ((a0 / 4294967296) * (Go.bits .and .u64 a1 4294967295))) + ((IntKind.u64.wrap ((Go.bits .and .u64 a0 4294967295) * (Go.bits .and .u64 a1 4294967295))) / 4294967296))) / 4294967296))) + ((IntKind.u64.wrap ((Go.bits .and .u64 (IntKind.u64.wrap ((IntKind.u64.wrap ((a0 / 4294967296) * (Go.bits .and .u64 a1 4294967295))) + ((IntKind.u64.wrap ((Go.bits .and .u64 a0 4294967295) * (Go.bits .and .u64 a1 4294967295))) / 4294967296))) 4294967295) + (IntKind.u64.wrap ((Go.bits .and .u64 a0 4294967295) * (a1 / 4294967296))))) / 4294967296)), IntKind.u64.wrap (a0 * a1))) = some (r1, r2) := h
 clear h
 simp only [Option.some.injEq, Prod.mk.injEq] at H
 obtain ⟨rfl, rfl⟩ := H
 go_enter Try.func97, Try.ntmps97
 go_wp2
 go_ret2
 exact ⟨by first | rfl | (simp; done) | (simp [*]; done), by repeat (first | exact Drawn0.refl _ | apply Drawn0.step)⟩
def bits_Mul.f (a0 : Int) (a1 : Int) : Option (Int × Int) := (bits_Mul64.f a0 a1).bind fun bt281 => (some (bt281.1, bt281.2))
theorem bits_Mul.calls (a0 : Int) (a1 : Int) (r1 : Int) (r2 : Int) (w : World) (h : bits_Mul.f a0 a1 = some (r1, r2)) :
  Calls Try.prog 93 #[.int .u64 a0, .int .u64 a1] w fun e w' => e = .returned (.tuple #[.int .u64 r1, .int .u64 r2]) ∧ Drawn0 w w' := by
 have H : ((bits_Mul64.f a0 a1).bind fun bt281 => (some (bt281.1, bt281.2))) = some (r1, r2) := h
 clear h
 replace H := Option.bind_eq_some_iff.mp H
 obtain ⟨⟨t281, t282⟩, A30, H⟩ := H
 replace H : (some (t281, t282)) = some (r1, r2) := H
 have A3 := As.mk A30
 clear A30
 simp only [Option.some.injEq, Prod.mk.injEq] at H
 obtain ⟨rfl, rfl⟩ := H
 go_enter Try.func93, Try.ntmps93
 go_wp2_with (first | ((with_reducible refine gate_callee (f := 97) rfl ?_); refine goesL_ (some 25) rfl rfl Try.func97 (by kernel_rfl) rfl #[.int .u64 a0, .int .u64 a1] rfl (by (try simp only [sm1, sm2, sm3]); first | done | rfl | (simp only [List.length_drop, List.length_take]; rfl)) ?_; (with_reducible refine (bits_Mul64.calls a0 a1 t281 t282 _ A3.out).mono ?_); rintro e w' ⟨rfl, ⟨nd, rfl⟩⟩; refine ⟨_, rfl, ?_⟩))
 go_ret2
 exact ⟨by first | rfl | (simp; done) | (simp [*]; done), by repeat (first | exact Drawn0.refl _ | apply Drawn0.step)⟩
end Go.Proofs.Ytbamjjaamjfnaaa.PFnExactValidPatternCode
