/- By a program of this session: for each Go function that the law reaches, a Lean function with the same answers, and that the code comes to exactly these answers. Conditions: none beyond each statement. -/
import Derived.Test.YtbamjjaamjfnaaaPFnExactValidPatternCodex0
import Derived.Test.YtbamjjaamjfnaaaPFnExactValidPatternCodex9
namespace Go.Proofs.Ytbamjjaamjfnaaa.PFnExactValidPatternCode
open Go.RowKit Go.Proofs.YtbamjjaamjfnaaaW.PrintWords Go.Proofs.YtbamjjaamjfnaaaW.PrintLast Go.Proofs.YtbamjjaamjfnaaaW.PrintMore
set_option maxHeartbeats 8000000
set_option maxRecDepth 100000
attribute [local go_sem] max2_int min2_int max_two min_two max_three min_three max_four min_four   -- for this text's walks alone
set_option linter.unusedVariables false
set_option linter.unusedSimpArgs false
theorem wrap_u64 (m : Int) : IntKind.u64.wrap m = m % 18446744073709551616 := by simp [IntKind.wrap, IntKind.bits, IntKind.signed]
theorem mask_u64 (n : Int) (h0 : 0 ≤ n) (h1 : n ≤ 1000000) : Go.bits .and .u64 n 4294967295 = n := by
 have h := bits_mask .u64 63 (by decide) (fun m a b => by rw [wrap_u64]; omega) 32 (by decide) n h0 (by omega)
 have e : ((2 : Int) ^ 32 - 1) = 4294967295 := by decide
 have e2 : ((2 : Int) ^ 32) = 4294967296 := by decide
 first
 | (rw [e, e2] at h; rw [h]; omega)
 | (simp only [e, e2] at h; rw [h]; omega)
 | (rw [show (4294967295 : Int) = ((2 ^ 32 - 1 : Nat) : Int) from by decide, h]; omega)
theorem mul_one_ev (n : Int) (h0 : 0 ≤ n) (h1 : n ≤ 1000000) : bits_Mul.f 1 n = some (0, n) := by
 have m1 : Go.bits .and .u64 1 4294967295 = 1 := mask_u64 1 (by omega) (by omega)
 have m0 : Go.bits .and .u64 0 4294967295 = 0 := mask_u64 0 (by omega) (by omega)
 have hn := mask_u64 n h0 h1
 have d1 : (1 : Int) / 4294967296 = 0 := by decide
 have dn : n / 4294967296 = 0 := by omega
 have dm : (n % 18446744073709551616) / 4294967296 = 0 := by omega
 have en : n % 18446744073709551616 = n := by omega
 unfold bits_Mul.f bits_Mul64.f
 simp [wrap_u64, m1, hn, d1, dn, en, m0]
def slices_Repeat_int64_int64.f (l0 : List Int) (a1 : Int) : Option (List Int) := if l0.length = 1 then (if 1 ≤ a1 then (if a1 ≤ 1000000 then (some (List.replicate a1.toNat (l0.getD 0 0))) else (none)) else (none)) else (none)
structure Fill (w : World) (g n cap q : Nat) (v : Int) : Prop where
 row : ∃ cur : Array Value, w.heap[g]? = some (.cells cur 2 (0, 0)) ∧ cur.size = cap ∧ cur.toList.take q = List.replicate q (.int .i64 v)
theorem Fill.step {w : World} {g n cap q t : Nat} {v : Int} (h : Fill w g n cap q v) (hf : q + t ≤ cap) : Fill (w.setCells g q (List.replicate t (.int .i64 v))) g n cap (q + t) v := by
 obtain ⟨cur, h1, h2, h3⟩ := h.row
 obtain ⟨cur', h4, h5, h6⟩ := setCells_row (List.replicate t (Value.int .i64 v)) q w cur h1 (by rw [List.length_replicate]; omega)
 refine ⟨cur', h4, by omega, ?_⟩
 have hl : (cur.toList.take q).length = q := by rw [List.length_take, Array.length_toList]; omega
 rw [h6, List.append_assoc, List.take_append, hl, List.take_of_length_le (by omega), h3, show q + t - q = t from by omega, List.take_append, List.length_replicate, List.take_of_length_le (by rw [List.length_replicate]; exact Nat.le_refl _), show t - t = 0 from by omega, List.take_zero, List.append_nil, List.replicate_append_replicate]
theorem Fill.cell {w : World} {g n cap q : Nat} {v : Int} (h : Fill w g n cap q v) (j : Nat) (hj : j < q) (hq : q ≤ cap) : w.cell? ⟨g, j, none⟩ = some (.int .i64 v) := by
 obtain ⟨cur, h1, h2, h3⟩ := h.row
 rw [kC h1 j]
 have e : (cur.toList.take q)[j]? = some (.int .i64 v) := by rw [h3]; simp [hj]
 rw [List.getElem?_take_of_lt hj] at e
 simpa using e
theorem Fill.drew {w : World} {g n cap q : Nat} {v : Int} (h : Fill w g n cap q v) : Fill w.drew g n cap q v := ⟨h.row⟩
theorem Fill.copy {P : Program} {W : World} {g n cap q t : Nat} {v : Int} {ty : TypeId} (h : Fill W g n cap q v) (ht : t = min q (n - q)) (hq : q ≤ n) (hn : n ≤ cap) (hu : P.underlying 35 = some (.slice 2)) (hs : (P.info? 2).map (·.size) = some 1) :
  (Builtin.copy_ #[35, 35] ty #[.slice (some ⟨g, q, none⟩) (n - q) (cap - q), .slice (some ⟨g, 0, none⟩) q cap]).run P W = .ok (.int .i64 (t : Int)) (W.setCells g q (List.replicate t (.int .i64 v))) := by
 obtain ⟨cur, h1, h2, h3⟩ := h.row
 have hr := run_copy_cells (P := P) W 35 35 ty 2 g q (n - q) (cap - q) ⟨g, 0, none⟩ q cap (List.replicate t (Value.int .i64 v)) hu hs (by rw [List.length_replicate, ht])
  (fun j u hj => by
   have hjt : j < t := by
    rcases Nat.lt_or_ge j t with h | h
    ·exact h
    ·rw [List.getElem?_eq_none (by rw [List.length_replicate]; exact h)] at hj; cases hj
   rw [Go.Proofs.Ytbamjjaamjfnaaa.RowLaw.add_zero, h.cell j (by omega) (by omega)]
   rw [List.getElem?_replicate_of_lt hjt] at hj
   exact hj)
  (fun j hj => by rw [List.length_replicate] at hj; rw [kC h1, Array.getElem?_eq_getElem (by omega)]; rfl) (fun j _ => kF h1 _) (by intro u hu; rw [List.mem_replicate] at hu; rw [hu.2]; rfl)
 rw [List.length_replicate] at hr
 exact hr
theorem Fill.own {w : World} {base g n cap : Nat} {v : Int} (h : Fill w g n cap n v) (hb : base ≤ g) (hnc : n ≤ cap) (hcm : cap ≤ 9223372036854775807) : w.ownsRow base 2 1 (.slice (some ⟨g, 0, none⟩) n cap) n (encs (Value.int .i64) (List.replicate n v)) := by
 obtain ⟨cur, h1, h2, h3⟩ := h.row
 have e : encs (Value.int .i64) (List.replicate n v) = List.replicate n (Value.int .i64 v) := by simp [encs]
 refine ⟨by rw [e, List.length_replicate, Nat.mul_one], .inr ⟨g, cap, cur, rfl, hb, h1, hnc, hcm, by rw [h2, Nat.mul_one], ?_⟩⟩
 rw [Nat.mul_one, h3, e]
theorem copy_run {P : Program} {oi : Oper} {a : Act} {w w1 : World} (s x : Operand) (t t' : TypeId) (ho : oi.op = .call { callee := .builtin .copy, args := #[s, x], argTypes := #[t, t'] }) (dv sv m : Value) (hs : a.eval s = dv) (hx : a.eval x = sv)
  (hr : (Builtin.copy_ #[t, t'] oi.type #[dv, sv]).run P w = .ok m w1) : (execOp a.eval oi).run P w = .ok (.value m) w1 := by
 unfold execOp
 simp only [ho, resolve, invoke, builtin, Sem.run_bind, Sem.run_pure, Result.andThen_ok, List.map_toArray, List.map_cons, List.map_nil, hs, hx, hr]
theorem slices_Repeat_int64_int64.calls (A0 : Option Addr) (c0 : Nat) (l0 : List Int) (a1 : Int) (r : List Int) (w : World) (hr0 : Kd.C (Kd.int .i64) w A0 l0.length l0) (hc0 : l0.length ≤ c0) (h : slices_Repeat_int64_int64.f l0 a1 = some r) :
  Calls Try.prog 78 #[.slice A0 l0.length c0, .int .i64 a1] w fun e w' => ∃ v0_ : Value, e = .returned (v0_) ∧ Kd.R (Kd.int .i64) 2 w' w.heap.size (fun _ => True) v0_ r ∧ Below w.heap.size w w' := by
 unfold slices_Repeat_int64_int64.f at h
 by_cases h1 : l0.length = 1
 rotate_left
 ·rw [if_neg h1] at h; cases h
 rw [if_pos h1] at h
 by_cases h2 : 1 ≤ a1
 rotate_left
 ·rw [if_neg h2] at h; cases h
 rw [if_pos h2] at h
 by_cases h3 : a1 ≤ 1000000
 rotate_left
 ·rw [if_neg h3] at h; cases h
 rw [if_pos h3] at h
 obtain rfl := Option.some.inj h
 clear h
 obtain ⟨v, rfl⟩ : ∃ v, l0 = [v] := List.length_eq_one_iff.1 h1
 obtain ⟨n, rfl⟩ : ∃ n : Nat, a1 = (n : Int) := ⟨a1.toNat, by omega⟩
 obtain ⟨ad, rfl, _⟩ := hr0.2.2 (by simp)
 have HX := As.mk hr0
 have HN1 := As.mk (by omega : 1 ≤ n)
 have HN2 := As.mk (by omega : n ≤ 1000000)
 have HM := As.mk (mul_one_ev (n : Int) (by omega) (by omega))
 have HB := As.mk (Below.refl w.heap.size w)
 have d1 : ((n : Int) < 0) = False := eq_false (by omega)
 have d1b : decide ((n : Int) < 0) = false := decide_eq_false (by omega)
 have d2 : IntKind.u64.wrap (n : Int) = (n : Int) := by rw [wrap_u64]; omega
 have d3 : IntKind.u64.wrap 1 = 1 := by rw [wrap_u64]; decide
 have d4 : ((n : Int) > 9223372036854775807) = False := eq_false (by omega)
 have d4b : decide ((n : Int) > 9223372036854775807) = false := decide_eq_false (by omega)
 have d4c : (9223372036854775807 < (n : Int)) = False := eq_false (by omega)
 have d4d : decide (9223372036854775807 < (n : Int)) = false := decide_eq_false (by omega)
 have d5 : wrap64 (n : Int) = (n : Int) := by unfold wrap64; omega
 have d5b : IntKind.i64.wrap (n : Int) = (n : Int) := by rw [IntKind.wrap_i64]; omega
 clear hr0 hc0 h1 h2 h3
 go_enter Try.func78, Try.ntmps78
 go_wp2_with (first | ((with_reducible refine gate_callee (f := 93) rfl ?_); refine goesL_ (some 18) rfl rfl Try.func93 (by kernel_rfl) rfl #[.int .u64 1, .int .u64 (n : Int)] rfl (by first | rfl | (simp; done) | ((try simp only [sm1, sm2, sm3]); first | done | rfl)) ?_; refine (bits_Mul.calls 1 (n : Int) 0 (n : Int) _ HM.out).mono ?_; rintro e w2 ⟨rfl, ⟨md, rfl⟩⟩; refine ⟨_, rfl, ?_⟩; have n0_ := As.mk (bT HB.out (bD (Below.refl _ _) md)); clear HB; have HB := n0_; clear n0_; (try simp only [Act.put, sq1, sq2, sq3])) | ((with_reducible refine gate_dst (N := 30) rfl ?_); refine Kd.R_make (w0 := w) (Kd.int .i64) w.heap.size 2 rfl (N := 30) rfl 35 _ _ rfl (n : Int) rfl rfl Try.underlying35 (.int .i64 0) 8 (by kernel_rfl) rfl (Nat.le_of_ble_eq_true rfl) (Nat.le_of_ble_eq_true rfl) (0 : Int) (ok := fun _ => True) (okp := fun _ => True) (by first | exact rfl | exact ⟨_, rfl⟩ | (constructor <;> rfl)) (fun _ hk => hk) trivial (by omega) (by have := HN2.out; omega) HB.out HB.out.size ?_; intro v30 w4 ho hb hg_ hnew_; have HR := As.mk ho; clear HB; have HB := As.mk hb; clear ho hb hg_ hnew_; (try simp only [Act.put, sq1, sq2, sq3])) | ((with_reducible refine gate_builtin (b := .copy) (xs := #[.tmp 31, .tmp 32]) rfl ?_); refine Kd.R_copy (enc := Value.int .i64) (h1 := fun _ => rfl) (0 : Int) (w0 := w) w.heap.size rfl (.tmp 31) (.tmp 32) 35 35 2 rfl Try.underlying35 (by kernel_rfl) v30 (List.replicate (n : Int).toNat (0 : Int)) [v] (some ad) 1 c0 (fun _ => True) rfl rfl HR.out (Kd.C_below HX.out HB.out) HB.out HB.out.size ?_; intro w5 ho hb hg_; have HR2 := As.mk ho; clear HB HR; have HB := As.mk hb; clear ho hb hg_; (try simp only [Act.put, sq1, sq2, sq3])))
 have hmn : min 1 (List.replicate (n : Int).toNat (0 : Int)).length = 1 := by rw [List.length_replicate, Int.toNat_natCast]; have := HN1.out; omega
 rw [hmn] at HR2 ⊢
 have hlen : ([v].take 1 ++ (List.replicate (n : Int).toNat (0 : Int)).drop 1).length = n := by simp; have := HN1.out; omega
 have ho := Kd.own_of_R HR2.out
 rw [hlen] at ho
 rcases ho.2 with ⟨_, hx0⟩ | ⟨g, cap, cur, hv, hb, hh, hnc, hcm, hcs, htake⟩
 ·exact absurd hx0 (by have := HN1.out; omega)
 subst hv
 have HF := As.mk (show Fill w5 g n cap 1 v from ⟨cur, hh, by omega, by
  have e : (cur.toList.take (n * 1)).take 1 = [Value.int .i64 v] := by rw [htake]; rfl
  rw [List.take_take, show min 1 (n * 1) = 1 from by have := HN1.out; omega] at e
  rw [e]; rfl⟩)
 have HGB := As.mk hb
 have HNC := As.mk hnc
 have HCM := As.mk hcm
 clear ho hh hcs htake hlen hmn HR2 hb hnc hcm
 go_loopg [8] n (fun kq v8 w' => ∃ q : Nat, v8 = .int .i64 (q : Int) ∧ As (n ≤ kq + q ∧ q ≤ n ∧ 1 ≤ q) ∧ As (Below w.heap.size w w') ∧ As (Fill w' g n cap q v))
 case atStart => exact ⟨1, rfl, ⟨by have := HN1.out; omega⟩, HB, HF⟩
 case round =>
  clear HB HF
  obtain ⟨q, rfl, HQ, HB, HF⟩ := hrel
  by_cases hq : q < n
  ·have c5 : ((q : Int) < (n : Int)) = True := eq_true (by omega)
   have c5n : decide (q < n) = true := decide_eq_true hq
   have c5b : decide ((q : Int) < (n : Int)) = true := decide_eq_true (by omega)
   have c6 : (0 ≤ (q : Int)) = True := eq_true (by omega)
   have c7 : ((q : Int) ≤ (n : Int)) = True := eq_true (by omega)
   have c7n : (q ≤ n) = True := eq_true (by omega)
   have c8 : ((q : Int) ≤ (cap : Int)) = True := eq_true (by have := HNC.out; omega)
   have c8n : (q ≤ cap) = True := eq_true (by have := HNC.out; omega)
   have c9 : ((n : Int) ≤ (cap : Int)) = True := eq_true (by have := HNC.out; omega)
   have c9n : (n ≤ cap) = True := eq_true HNC.out
   have c10 : (cap = q) = False := eq_false (by have := HNC.out; omega)
   have c10b : (q = cap) = False := eq_false (by have := HNC.out; omega)
   obtain ⟨t, ht⟩ : ∃ t, t = min q (n - q) := ⟨_, rfl⟩
   have ht1 : 1 ≤ t ∧ q + t ≤ n := by have := HQ.out; omega
   have HT := As.mk ht
   have HT1 := As.mk ht1
   have c11 : wrap64 ((q : Int) + (t : Int)) = ((q + t : Nat) : Int) := by have := HN2.out; unfold wrap64; omega
   clear ht ht1
   have HQN := As.mk hq
   clear hq
   go_wp2
   have n0_ := As.mk (bT HB.out (bE (Below.refl _ _)))
   have n1_ := Fill.drew HF.out
   clear HB
   have HB := n0_
   clear n0_
   refine start_ (n := 10) (S := fun w' => True) (ds := []) #[false, false, false, false, false, false, false, false, false, false] (by kernel_rfl) rfl rfl trivial (fun hHeld => ?_)
   refine pure_ (i := 0) (N := some 38) (v := ?_) (a' := ?_) #[true, false, false, false, false, false, false, false, false, false] rfl rfl (by kernel_rfl) (fun _ _ _ h => h) (Or.inl ⟨by rfl, ?_⟩) ?_ ?_
   rotate_left
   ·intro w'
    go_simp
    with_reducible rfl
   rotate_left
   ·simp only [Act.put, sq1, sq2, sq3, i64_w, i32_w]
    rfl
   refine pure_ (i := 1) (N := some 39) (v := ?_) (a' := ?_) #[true, true, false, false, false, false, false, false, false, false] rfl rfl (by kernel_rfl) (fun _ _ _ h => h) (Or.inl ⟨by rfl, ?_⟩) ?_ ?_
   rotate_left
   ·intro w'
    go_simp
    with_reducible rfl
   rotate_left
   ·simp only [Act.put, sq1, sq2, sq3, i64_w, i32_w]
    rfl
   refine pure_ (i := 2) (N := some 40) (v := ?_) (a' := ?_) #[true, true, true, false, false, false, false, false, false, false] rfl rfl (by kernel_rfl) (fun _ _ _ h => h) (Or.inl ⟨by rfl, ?_⟩) ?_ ?_
   rotate_left
   ·intro w'
    go_simp
    with_reducible rfl
   rotate_left
   ·simp only [Act.put, sq1, sq2, sq3, i64_w, i32_w]
    rfl
   refine pure_ (i := 3) (N := some 41) (v := ?_) (a' := ?_) #[true, true, true, true, false, false, false, false, false, false] rfl rfl (by kernel_rfl) (fun _ _ _ h => h) (Or.inl ⟨by rfl, ?_⟩) ?_ ?_
   rotate_left
   ·intro w'
    go_simp
    with_reducible rfl
   rotate_left
   ·simp only [Act.put, sq1, sq2, sq3, i64_w, i32_w]
    rfl
   refine pure_ (i := 4) (N := some 42) (v := ?_) (a' := ?_) #[true, true, true, true, true, false, false, false, false, false] rfl rfl (by kernel_rfl) (fun _ _ _ h => h) (Or.inl ⟨by rfl, ?_⟩) ?_ ?_
   rotate_left
   ·intro w'
    go_simp
    with_reducible rfl
   rotate_left
   ·simp only [Act.put, sq1, sq2, sq3, i64_w, i32_w]
    rfl
   refine pure_ (i := 5) (N := some 43) (v := ?_) (a' := ?_) #[true, true, true, true, true, true, false, false, false, false] rfl rfl (by kernel_rfl) (fun _ _ _ h => h) (Or.inl ⟨by rfl, ?_⟩) ?_ ?_
   rotate_left
   ·intro w'
    go_simp
    with_reducible rfl
   rotate_left
   ·simp only [Act.put, sq1, sq2, sq3, i64_w, i32_w]
    rfl
   refine pure_ (i := 6) (N := some 44) (v := ?_) (a' := ?_) #[true, true, true, true, true, true, true, false, false, false] rfl rfl (by kernel_rfl) (fun _ _ _ h => h) (Or.inl ⟨by rfl, ?_⟩) ?_ ?_
   rotate_left
   ·intro w'
    go_simp
    with_reducible rfl
   rotate_left
   ·simp only [Act.put, sq1, sq2, sq3, i64_w, i32_w]
    rfl
   refine one_ (i := 7) (N := some 45) #[true, true, true, true, true, true, true, true, false, false] rfl rfl (by kernel_rfl) (by decide) (fun K hK => ?_)
   refine value_ rfl rfl (copy_run (.tmp 41) (.tmp 44) 35 35 rfl (.slice (some ⟨g, q, none⟩) (n - q) (cap - q)) (.slice (some ⟨g, 0, none⟩) q cap) (.int .i64 (t : Int)) rfl rfl (Fill.copy n1_ HT.out (Nat.le_of_lt HQN.out) HNC.out Try.underlying35 (by kernel_rfl))) ?_
   have n2_ := As.mk (Fill.step n1_ (t := t) (by have := HT1.out; have := HNC.out; omega))
   have n0_ := As.mk (Go.Proofs.Ytbamjjaamjfnaaa.RowLaw.below_setCells HGB.out (List.replicate t (Value.int .i64 v)) q _ HB.out)
   clear HB HF n1_
   have HB := n0_
   have HF := n2_
   clear n0_ n2_
   refine hK.out _ _ trivial (fun hHeld => ?_)
   clear hK K
   refine norm_ (a' := ?_) ?_ ?_
   rotate_left
   ·show Act.put _ (some 45) _ = _
    simp only [Act.put, sq1, sq2, sq3, i64_w, i32_w]
    rfl
   refine pure_ (i := 8) (N := some 46) (v := ?_) (a' := ?_) #[true, true, true, true, true, true, true, true, true, false] rfl rfl (by kernel_rfl) (fun _ _ _ h => h) (Or.inl ⟨by rfl, ?_⟩) ?_ ?_
   rotate_left
   ·intro w'
    go_simp
    with_reducible rfl
   rotate_left
   ·simp only [Act.put, sq1, sq2, sq3, i64_w, i32_w]
    rfl
   refine pure_ (i := 9) (N := some 8) (v := ?_) (a' := ?_) #[true, true, true, true, true, true, true, true, true, true] rfl rfl (by kernel_rfl) (fun _ _ _ h => h) (Or.inl ⟨by rfl, ?_⟩) ?_ ?_
   rotate_left
   ·intro w'
    go_simp
    with_reducible rfl
   rotate_left
   ·simp only [Act.put, sq1, sq2, sq3, i64_w, i32_w]
    rfl
   refine done_ (by kernel_rfl) ?_
   go_wp2
   go_roundg (n - (q + t))
   case measure => have := HT1.out; have := HQ.out; have := HQN.out; omega
   case rel => exact ⟨q + t, by first | rfl | rw [c11], ⟨by have := HT1.out; have := HQ.out; omega⟩, HB, HF⟩
  ·obtain rfl : q = n := by have := HQ.out; omega
   have c5 : ((q : Int) < (q : Int)) = False := eq_false (by omega)
   clear hq
   go_wp2
   go_ret
   refine ⟨_, rfl, Kd.R_of_own (enc := Value.int .i64) (h1 := fun _ => rfl) ?_ (fun _ _ => trivial), HB.out⟩
   have e : List.replicate (q : Int).toNat ([v].getD 0 0) = List.replicate q v := by rw [Int.toNat_natCast]; rfl
   rw [e, List.length_replicate]
   exact Fill.own HF.out HGB.out HNC.out HCM.out
def slices_Clone_int64_int64.f (l0 : List Int) : Option (List Int) := if 0 < l0.length then (if l0.length ≤ 1000000 then (some l0) else (none)) else (none)
set_option maxHeartbeats 4000000 in
set_option maxRecDepth 100000 in
theorem slices_Clone_int64_int64.calls (A0 : Option Addr) (c0 : Nat) (l0 : List Int) (r : List Int) (w : World) (hr0 : Kd.C (Kd.int .i64) w A0 l0.length l0) (hc0 : l0.length ≤ c0) (h : slices_Clone_int64_int64.f l0 = some r) :
  Calls Try.prog 79 #[.slice A0 l0.length c0] w fun e w' => ∃ v0_ : Value, e = .returned (v0_) ∧ Kd.R (Kd.int .i64) 2 w' w.heap.size (fun _ => True) v0_ r ∧ Below w.heap.size w w' := by
 unfold slices_Clone_int64_int64.f at h
 by_cases h1 : 0 < l0.length
 ·rw [if_pos h1] at h
  by_cases h2 : l0.length ≤ 1000000
  ·rw [if_pos h2] at h
   obtain rfl := Option.some.inj h
   obtain ⟨ad, rfl, _⟩ := hr0.2.2 h1
   have HR0 := As.mk hr0
   have HL := As.mk h2
   have HB := As.mk (Below.refl w.heap.size w)
   have q22 : ∀ (w : World) (a : Option Addr) (n c n' c' : Nat), (binOp .eql 35 (.slice a n c) (.slice none n' c')).run Try.prog w = .ok (.bool a.isNone) w := fun w a n c n' c' => Go.Lib.run_eql_slice_nil w _ _ a n c n' c' Try.underlying35
   clear hr0 hc0 h h1 h2
   go_enter Try.func79, Try.ntmps79
   go_wp2_with (first | ((with_reducible refine gate_dst (N := 5) rfl ?_); refine Kd.R_lit (Kd.int .i64) w.heap.size 2 ?hg (N := 5) ?hd (xs := ([] : List Int)) (inner := []) (ok := fun _ => True) (okp := fun _ => True) ?hr ?hp (fun _ hk => hk) trivial HB.out HB.out.size (by simp) ?_; (case hd => rfl); (case hg => rfl); (case hr => first | (go_simp; done) | (go_simp; rfl)); (case hp => exact Reps.none _ _); intro v1 w5 ho hb hg_ hnew_; have HR := As.mk ho; have n0_ := As.mk hb; clear HB; have HB := n0_; clear n0_ ho hb hg_ hnew_; (try simp only [Act.put, sq1, sq2, sq3])) | ((with_reducible refine gate_builtin (b := .append) (xs := #[.tmp 5, .tmp 6]) rfl ?_); at_builtin; refine Kd.R_append_row (Value.int .i64) (0 : Int) (h1 := fun _ => rfl) (w0 := w) w.heap.size rfl (.tmp 5) (.tmp 6) 35 2 (.int .i64 0) 8 rfl Try.underlying35 (by kernel_rfl) rfl (Nat.le_of_ble_eq_true rfl) v1 [] l0 (some ad) l0.length c0 (fun _ => True) rfl rfl (fun _ _ => trivial) HR.out (Kd.C_below HR0.out HB.out) HB.out HB.out.size (by have := HL.out; simp only [List.length_nil]; omega) ?_; intro v2 w6 ho2 hb2 hg2 hat2; have HR2 := As.mk ho2; have n0_ := As.mk hb2; clear HB; have HB := n0_; clear n0_ ho2 hb2 hg2 hat2; (try simp only [Act.put, sq1, sq2, sq3])))
   go_ret
   exact ⟨_, rfl, HR2.out, HB.out⟩
  ·rw [if_neg h2] at h
   cases h
 ·rw [if_neg h1] at h
  cases h
def F10.j0 : Nat → Int → Int → Bool → Int → Int → ByteArray → Option (List Int)
 | 0, _, _, _, _, _, _ => none
 | k + 1, x1, x12, x13, x286000, x286001, x286002 => if x13 = true then (some (([x286001] : List Int))) else (if x12 = 32 then (some (([wrap64 (x1 + 1), x286001] : List Int))) else (if x12 = 39 then (some ([] : List Int)) else (if x12 = 38 then (some ([] : List Int)) else (some (([wrap64 (x1 + 1)] : List Int))))))
def F10.f (k : Nat) (l0_0 : List (S80)) (l0_1 : List (S77)) (a1 : Int) : Option (List Int) := if 0 ≤ a1 then (if a1 < (l0_0.length : Int) then (if ((rd_T80 l0_0 a1).f0) = 33 then (F10.j0 k a1 ((rd_T80 l0_0 a1).f0) (((rd_T80 l0_0 a1).f0) == 33) ((rd_T80 l0_0 a1).f0) ((rd_T80 l0_0 a1).f1) ((rd_T80 l0_0 a1).f2)) else (F10.j0 k a1 ((rd_T80 l0_0 a1).f0) (((rd_T80 l0_0 a1).f0) == 37) ((rd_T80 l0_0 a1).f0) ((rd_T80 l0_0 a1).f1) ((rd_T80 l0_0 a1).f2))) else (none)) else (none)
theorem F10.mono_l : ∀ k, (∀ y0 y1 y2 y3 y4 y5, LeO (F10.j0 k y0 y1 y2 y3 y4 y5) (F10.j0 (k + 1) y0 y1 y2 y3 y4 y5))
 | 0 => fun _ _ _ _ _ _ r h => by simp [F10.j0] at h
 | k + 1 => by
  have ih0 := F10.mono_l k
  ·intro y0 y1 y2 y3 y4 y5
   unfold F10.j0
   repeat' with_reducible first
   | exact ih0 _ _ _ _ _ _
   | exact LeO.refl _
   | exact LeO.none _
   | refine LeO.ite ?_ ?_
   | refine LeO.bind ?_ (fun _ => ?_)
theorem F10.mono : ∀ a0 a1 a2 k, LeO (F10.f k a0 a1 a2) (F10.f (k + 1) a0 a1 a2) := by
 intro a0 a1 a2 k
 have ih0 := F10.mono_l k
 unfold F10.f
 repeat' with_reducible first
   | exact ih0 _ _ _ _ _ _
   | exact LeO.refl _
   | exact LeO.none _
   | refine LeO.ite ?_ ?_
   | refine LeO.bind ?_ (fun _ => ?_)
theorem F10.calls (k : Nat) (A0_0 : Option Addr) (c0_0 : Nat) (l0_0 : List (S80)) (A0_1 : Option Addr) (c0_1 : Nat) (l0_1 : List (S77)) (a1 : Int) (r : List Int) (w : World) (hr0_0 : Kd.C k80 w A0_0 l0_0.length l0_0) (hc0_0 : l0_0.length ≤ c0_0) (hr0_1 : Kd.C k77 w A0_1 l0_1.length l0_1) (hc0_1 : l0_1.length ≤ c0_1) (h : F10.f k l0_0 l0_1 a1 = some r) :
  Calls Try.prog 80 #[.agg #[.slice A0_0 l0_0.length c0_0, .slice A0_1 l0_1.length c0_1], .int .i64 a1] w fun e w' => ∃ v0_ : Value, e = .returned (v0_) ∧ Kd.R (Kd.int .i64) 2 w' w.heap.size (fun _ => True) v0_ r ∧ Below w.heap.size w w' := by
 have hu31 := Try.underlying31
 have hu80 := Try.underlying80
 have HR0_0 := As.mk hr0_0
 have HC0_0 := As.mk hc0_0
 clear hr0_0 hc0_0
 have HR0_1 := As.mk hr0_1
 have HC0_1 := As.mk hc0_1
 clear hr0_1 hc0_1
 have HB := As.mk (Below.refl w.heap.size w)
 have H : (if 0 ≤ a1 then (if a1 < (l0_0.length : Int) then (if ((rd_T80 l0_0 a1).f0) = 33 then (F10.j0 k a1 ((rd_T80 l0_0 a1).f0) (((rd_T80 l0_0 a1).f0) == 33) ((rd_T80 l0_0 a1).f0) ((rd_T80 l0_0 a1).f1) ((rd_T80 l0_0 a1).f2)) else (F10.j0 k a1 ((rd_T80 l0_0 a1).f0) (((rd_T80 l0_0 a1).f0) == 37) ((rd_T80 l0_0 a1).f0) ((rd_T80 l0_0 a1).f1) ((rd_T80 l0_0 a1).f2))) else (none)) else (none)) = some r := h
 clear h
 by_cases c3 : 0 ≤ a1
 ·rw [if_pos c3] at H
  have c3b0 : decide (0 ≤ a1) = true := decide_eq_true c3
  clear c3
  by_cases c4 : a1 < (l0_0.length : Int)
  ·rw [if_pos c4] at H
   have c4b0 : decide (a1 < (l0_0.length : Int)) = true := decide_eq_true c4
   clear c4
   have HC5 := As.mk H
   clear H
   go_enter Try.func80, Try.ntmps80
   go_upto_if 13 with (first | ((with_reducible refine gate_dst (N := 2) rfl ?_); refine box_event ?hg (N := 2) ?hd (cs := #[.slice A0_0 l0_0.length c0_0, .slice A0_1 l0_1.length c0_1]) (t := 31) ?hr ?_; (case hd => rfl); (case hg => rfl); (case hr => first | (go_simp; done) | (go_simp; rfl)); intro gb283 hg w6 hbox hb; have n0_ := As.mk (bT (by repeat (first | (with_reducible first | exact HB.out | apply bA | apply bD | apply bE) | exact HB.out)) hb); have n1_ := As.mk (hbox); have n2_ := As.mk ((by rw [hg]; exact (bZ (by repeat (first | (with_reducible first | exact HB.out | apply bA | apply bD | apply bE) | exact HB.out))) : w.heap.size ≤ gb283)); have n3_ := n2_; clear HB; have HB := n0_; have BK283 := n1_; have GW283 := n2_; have GE283 := n3_; clear n0_ n1_ n2_ n3_; clear hb hbox hg; have hcz7_0 : w6.cell? ⟨gb283, 0, none⟩ = some (.slice A0_0 l0_0.length c0_0) := (kC BK283.out 0).trans rfl; have hcz7_1 : w6.cell? ⟨gb283, 1, none⟩ = some (.slice A0_1 l0_1.length c0_1) := (kC BK283.out 1).trans rfl; have hfz7_0 := kF BK283.out 0; have hfz7_1 := kF BK283.out 1; have p284 : 0 ≤ (a1 : Int) := of_decide_eq_true (by first | (with_reducible assumption) | assumption); have q284 : a1 < (l0_0.length : Int) := of_decide_eq_true (by first | (with_reducible assumption) | assumption); obtain ⟨ad284, e284, hx284_0, hx284_1, hx284_2⟩ := at_T80 HR0_0.out a1 p284 q284; cases e284; replace hx284_0 := (HB.out.cell (World.block_lt_of_cell? w _ hx284_0)).trans hx284_0; replace hx284_1 := (HB.out.cell (World.block_lt_of_cell? w _ hx284_1)).trans hx284_1; replace hx284_2 := (HB.out.cell (World.block_lt_of_cell? w _ hx284_2)).trans hx284_2; replace p284 := eq_true p284; replace q284 := eq_true q284) | ((with_reducible refine gate_dst (N := 5) rfl ?_); refine box_event ?hg (N := 5) ?hd (cs := #[.int .i64 0, .int .i64 0, .string (⟨#[]⟩ : ByteArray)]) (t := 80) ?hr ?_; (case hd => rfl); (case hg => rfl); (case hr => first | (go_simp; done) | (go_simp; rfl)); intro gb285 hg w8 hbox hb; have n0_ := As.mk (kB (g := gb283) (o := .cells #[.slice (some ad284) l0_0.length c0_0, .slice A0_1 l0_1.length c0_1] 31 (0, 0)) (by (with_reducible repeat (first | refine kD ?_ _ | refine kE ?_ | refine kA ?_ _)); exact BK283.out) hb); have n1_ := As.mk (bT (by repeat (first | (with_reducible first | exact HB.out | apply bA | apply bD | apply bE | refine bS ?_ GE283.out) | exact HB.out)) hb); have n2_ := As.mk (hbox); have n3_ := As.mk ((by rw [hg]; exact (bZ (by repeat (first | (with_reducible first | exact HB.out | apply bA | apply bD | apply bE | refine bS ?_ GE283.out) | exact HB.out))) : w.heap.size ≤ gb285)); have n4_ := n3_; have n5_ := As.mk ((by rw [hg]; exact Nat.ne_of_lt (kL (g := gb283) (o := .cells #[.slice (some ad284) l0_0.length c0_0, .slice A0_1 l0_1.length c0_1] 31 (0, 0)) (by (with_reducible repeat (first | refine kD ?_ _ | refine kE ?_ | refine kA ?_ _)); exact BK283.out)) : gb283 ≠ gb285)); have n6_ := As.mk n5_.out.symm; clear BK283; clear HB; have BK283 := n0_; have HB := n1_; have BK285 := n2_; have GW285 := n3_; have GE285 := n4_; have NB283_285 := n5_; have NB285_283 := n6_; clear n0_ n1_ n2_ n3_ n4_ n5_ n6_; clear hb hbox hg; have hnb9 := NB285_283.out; have hnc9 := NB283_285.out; have hcz10_0 : w8.cell? ⟨gb285, 0, none⟩ = some (.int .i64 0) := (kC BK285.out 0).trans rfl; have hcz10_1 : w8.cell? ⟨gb285, 1, none⟩ = some (.int .i64 0) := (kC BK285.out 1).trans rfl; have hcz10_2 : w8.cell? ⟨gb285, 2, none⟩ = some (.string (⟨#[]⟩ : ByteArray)) := (kC BK285.out 2).trans rfl; have hfz10_0 := kF BK285.out 0; have hfz10_1 := kF BK285.out 1; have hfz10_2 := kF BK285.out 2))
   (try simp only [Act.put, sq1, sq2, sq3])
   go_cut [13] (fun v13 wc => ∃ (kq : Nat) (x13_4 : Bool), v13 = .bool x13_4 ∧ As (F10.j0 kq a1 ((rd_T80 l0_0 a1).f0) x13_4 ((rd_T80 l0_0 a1).f0) ((rd_T80 l0_0 a1).f1) ((rd_T80 l0_0 a1).f2) = some r) ∧ As (kq ≤ k) ∧ As (wc.heap[gb283]? = some (.cells #[(.slice (some ad284) l0_0.length c0_0), (.slice A0_1 l0_1.length c0_1)] 31 (0, 0))) ∧ As (wc.heap[gb285]? = some (.cells #[.int .i64 ((rd_T80 l0_0 a1).f0), .int .i64 ((rd_T80 l0_0 a1).f1), .string ((rd_T80 l0_0 a1).f2)] 80 (0, 0))) ∧ As (Below w.heap.size w wc))
   case first =>
    have H := HC5.out
    clear HC5
    by_cases c11 : ((rd_T80 l0_0 a1).f0) = 33
    ·rw [if_pos c11] at H
     have c11b0 : (((rd_T80 l0_0 a1).f0) == 33) = true := beq_iff_eq.mpr c11
     have c11b1 : (((rd_T80 l0_0 a1).f0) != 33) = false := bne_eq_false_iff_eq.mpr c11
     clear c11
     (first | rw [c11b0] | (simp only [i64_w, i32_w]; rw [c11b0]) | skip)
     have H' := As.mk H
     clear H
     go_wp2
     go_meet
     case rel => exact ⟨_, ((((rd_T80 l0_0 a1).f0) == 33)), (by first | rfl | (simp; done) | (simp [*]; done)), H', ⟨by first | omega | exact Nat.le_refl _⟩, ⟨by (with_reducible repeat (first | refine kD ?_ _ | refine kE ?_ | refine kA ?_ _)); refine blk_far ?_ NB283_285.out _; (with_reducible repeat (first | refine kD ?_ _ | refine kE ?_ | refine kA ?_ _)); refine blk_far ?_ NB283_285.out _; (with_reducible repeat (first | refine kD ?_ _ | refine kE ?_ | refine kA ?_ _)); refine blk_far ?_ NB283_285.out _; (with_reducible repeat (first | refine kD ?_ _ | refine kE ?_ | refine kA ?_ _)); exact BK283.out⟩, ⟨by (with_reducible repeat (first | refine kD ?_ _ | refine kE ?_ | refine kA ?_ _)); refine blk_put (cs := #[.int .i64 ((rd_T80 l0_0 a1).f0), .int .i64 ((rd_T80 l0_0 a1).f1), .string (⟨#[]⟩ : ByteArray)]) ?_ 2 _ rfl; (with_reducible repeat (first | refine kD ?_ _ | refine kE ?_ | refine kA ?_ _)); refine blk_put (cs := #[.int .i64 ((rd_T80 l0_0 a1).f0), .int .i64 0, .string (⟨#[]⟩ : ByteArray)]) ?_ 1 _ rfl; (with_reducible repeat (first | refine kD ?_ _ | refine kE ?_ | refine kA ?_ _)); refine blk_put (cs := #[.int .i64 0, .int .i64 0, .string (⟨#[]⟩ : ByteArray)]) ?_ 0 _ rfl; (with_reducible repeat (first | refine kD ?_ _ | refine kE ?_ | refine kA ?_ _)); exact BK285.out⟩, ⟨by repeat (first | (with_reducible first | exact HB.out | apply bA | apply bD | apply bE | refine bS ?_ GE283.out | refine bS ?_ GE285.out) | exact HB.out)⟩⟩
    ·rw [if_neg c11] at H
     have c11b0 : (((rd_T80 l0_0 a1).f0) == 33) = false := beq_eq_false_iff_ne.mpr c11
     have c11b1 : (((rd_T80 l0_0 a1).f0) != 33) = true := bne_iff_ne.mpr c11
     (first | rw [c11b0] | (simp only [i64_w, i32_w]; rw [c11b0]) | skip)
     have H' := As.mk H
     clear H
     go_wp2
     go_meet
     case rel => exact ⟨_, ((((rd_T80 l0_0 a1).f0) == 37)), (by first | rfl | (simp; done) | (simp [*]; done)), H', ⟨by first | omega | exact Nat.le_refl _⟩, ⟨by (with_reducible repeat (first | refine kD ?_ _ | refine kE ?_ | refine kA ?_ _)); refine blk_far ?_ NB283_285.out _; (with_reducible repeat (first | refine kD ?_ _ | refine kE ?_ | refine kA ?_ _)); refine blk_far ?_ NB283_285.out _; (with_reducible repeat (first | refine kD ?_ _ | refine kE ?_ | refine kA ?_ _)); refine blk_far ?_ NB283_285.out _; (with_reducible repeat (first | refine kD ?_ _ | refine kE ?_ | refine kA ?_ _)); exact BK283.out⟩, ⟨by (with_reducible repeat (first | refine kD ?_ _ | refine kE ?_ | refine kA ?_ _)); refine blk_put (cs := #[.int .i64 ((rd_T80 l0_0 a1).f0), .int .i64 ((rd_T80 l0_0 a1).f1), .string (⟨#[]⟩ : ByteArray)]) ?_ 2 _ rfl; (with_reducible repeat (first | refine kD ?_ _ | refine kE ?_ | refine kA ?_ _)); refine blk_put (cs := #[.int .i64 ((rd_T80 l0_0 a1).f0), .int .i64 0, .string (⟨#[]⟩ : ByteArray)]) ?_ 1 _ rfl; (with_reducible repeat (first | refine kD ?_ _ | refine kE ?_ | refine kA ?_ _)); refine blk_put (cs := #[.int .i64 0, .int .i64 0, .string (⟨#[]⟩ : ByteArray)]) ?_ 0 _ rfl; (with_reducible repeat (first | refine kD ?_ _ | refine kE ?_ | refine kA ?_ _)); exact BK285.out⟩, ⟨by repeat (first | (with_reducible first | exact HB.out | apply bA | apply bD | apply bE | refine bS ?_ GE283.out | refine bS ?_ GE285.out) | exact HB.out)⟩⟩
   case rest =>
    clear HC5
    try clear c3
    try clear c3b0
    try clear c4
    try clear c4b0
    try clear hcz10_0
    try clear hcz10_1
    try clear hcz10_2
    try clear hcz7_0
    try clear hcz7_1
    try clear hfz10_0
    try clear hfz10_1
    try clear hfz10_2
    try clear hfz7_0
    try clear hfz7_1
    try clear hx284_0
    try clear hx284_1
    try clear hx284_2
    try clear p284
    try clear q284
    obtain ⟨kq, x13_4, rfl, HA, HJ4, BK283, BK285, HB⟩ := hcut
    cases kq with
    | zero => exact absurd HA.out (by simp [F10.j0])
    | succ kj4 =>
     have H := HA.out
     clear HA
     simp only [F10.j0] at H
     by_cases c12 : x13_4 = true
     ·subst c12
      have H1 : (some (([((rd_T80 l0_0 a1).f1)] : List Int))) = some r := by rw [if_pos rfl] at H; exact H
      clear H
      have H := H1
      clear H1
      obtain ⟨y286, hy286⟩ : ∃ y_ : List Int, y_ = (([((rd_T80 l0_0 a1).f1)] : List Int)) := ⟨_, rfl⟩
      replace H : (some y286) = some r := by first | (rw [hy286]; with_reducible exact H) | (have H2_ := (Option.bind_some _ _).symm.trans H; rw [hy286]; with_reducible exact H2_) | (have H2_ := (Option.bind_some _ _).symm.trans H; with_reducible exact H2_) | with_reducible exact H | (rw [hy286]; exact H) | exact H
      have Ny286 := As.mk hy286
      clear hy286
      obtain rfl := Option.some.inj H
      have hnb13 := NB285_283.out
      have hnc13 := NB283_285.out
      have hcz14_0 : wc.cell? ⟨gb285, 0, none⟩ = some (.int .i64 ((rd_T80 l0_0 a1).f0)) := (kC BK285.out 0).trans rfl
      have hcz14_1 : wc.cell? ⟨gb285, 1, none⟩ = some (.int .i64 ((rd_T80 l0_0 a1).f1)) := (kC BK285.out 1).trans rfl
      have hcz14_2 : wc.cell? ⟨gb285, 2, none⟩ = some (.string ((rd_T80 l0_0 a1).f2)) := (kC BK285.out 2).trans rfl
      have hfz14_0 := kF BK285.out 0
      have hfz14_1 := kF BK285.out 1
      have hfz14_2 := kF BK285.out 2
      go_wp2_with (first | ((with_reducible refine gate_dst (N := 18) rfl ?_); refine Kd.R_lit (Kd.int .i64) _ 2 ?hg (N := 18) ?hd (xs := ([((rd_T80 l0_0 a1).f1)] : List Int)) (inner := [.int .i64 ((rd_T80 l0_0 a1).f1)]) (ok := fun _ => True) (okp := fun _ => True) ?hr ?hp (fun _ hk => hk) trivial (Below.refl _ _) (Nat.le_refl _) (by simp) ?_; (case hd => rfl); (case hg => rfl); (case hr => first | (go_simp; done) | (go_simp; rfl)); (case hp => exact (Reps.one (show Kd.M (Kd.int .i64) _ _ _ ((rd_T80 l0_0 a1).f1) [.int .i64 ((rd_T80 l0_0 a1).f1)] from rfl) (Reps.none _ _))); intro v287 w15 ho16 hb hg_ hnew_; clear hg_ hnew_; (first | rw [← Ny286.out] at ho16 | (simp only [Int.reduceToNat] at ho16; rw [← Ny286.out] at ho16)); have n0_ := As.mk (Kd.R_lower ho16 (bZ (by repeat (first | (with_reducible first | exact HB.out | apply bA | apply bD | apply bE | refine bS ?_ GE283.out | refine bS ?_ GE285.out) | exact HB.out)))); have n1_ := As.mk (kB (g := gb283) (o := .cells #[.slice (some ad284) l0_0.length c0_0, .slice A0_1 l0_1.length c0_1] 31 (0, 0)) (by (with_reducible repeat (first | refine kD ?_ _ | refine kE ?_ | refine kA ?_ _)); exact BK283.out) hb); have n2_ := As.mk (kB (g := gb285) (o := .cells #[.int .i64 ((rd_T80 l0_0 a1).f0), .int .i64 ((rd_T80 l0_0 a1).f1), .string ((rd_T80 l0_0 a1).f2)] 80 (0, 0)) (by (with_reducible repeat (first | refine kD ?_ _ | refine kE ?_ | refine kA ?_ _)); exact BK285.out) hb); have n3_ := As.mk (bT (by repeat (first | (with_reducible first | exact HB.out | apply bA | apply bD | apply bE | refine bS ?_ GE283.out | refine bS ?_ GE285.out) | exact HB.out)) hb); clear BK283; clear BK285; clear HB; have HO288 := n0_; have BK283 := n1_; have BK285 := n2_; have HB := n3_; clear n0_ n1_ n2_ n3_; clear hb ho16))
      go_ret
      exact ⟨_, by first | rfl | (simp [eN, eS] <;> rfl) | (simp [*, eN, eS] <;> rfl), by (with_reducible repeat (first | apply Kd.R_alloc | apply Kd.R_drewN | apply Kd.R_drew)); exact HO288.out, by repeat (first | (with_reducible first | exact HB.out | apply bA | apply bD | apply bE | refine bS ?_ GE283.out | refine bS ?_ GE285.out) | exact HB.out)⟩
     ·replace c12 := Bool.eq_false_iff.mpr c12
      subst c12
      have H1 : (if ((rd_T80 l0_0 a1).f0) = 32 then (some (([wrap64 (a1 + 1), ((rd_T80 l0_0 a1).f1)] : List Int))) else (if ((rd_T80 l0_0 a1).f0) = 39 then (some ([] : List Int)) else (if ((rd_T80 l0_0 a1).f0) = 38 then (some ([] : List Int)) else (some (([wrap64 (a1 + 1)] : List Int)))))) = some r := by rw [if_neg (show ¬ (false = true) by decide)] at H; exact H
      clear H
      have H := H1
      clear H1
      by_cases c17 : ((rd_T80 l0_0 a1).f0) = 32
      ·rw [if_pos c17] at H
       have c17b0 : (((rd_T80 l0_0 a1).f0) == 32) = true := beq_iff_eq.mpr c17
       have c17b1 : (((rd_T80 l0_0 a1).f0) != 32) = false := bne_eq_false_iff_eq.mpr c17
       clear c17
       obtain ⟨y289, hy289⟩ : ∃ y_ : List Int, y_ = (([wrap64 (a1 + 1), ((rd_T80 l0_0 a1).f1)] : List Int)) := ⟨_, rfl⟩
       replace H : (some y289) = some r := by first | (rw [hy289]; with_reducible exact H) | (have H2_ := (Option.bind_some _ _).symm.trans H; rw [hy289]; with_reducible exact H2_) | (have H2_ := (Option.bind_some _ _).symm.trans H; with_reducible exact H2_) | with_reducible exact H | (rw [hy289]; exact H) | exact H
       have Ny289 := As.mk hy289
       clear hy289
       obtain rfl := Option.some.inj H
       have hnb18 := NB285_283.out
       have hnc18 := NB283_285.out
       have hcz19_0 : wc.cell? ⟨gb285, 0, none⟩ = some (.int .i64 ((rd_T80 l0_0 a1).f0)) := (kC BK285.out 0).trans rfl
       have hcz19_1 : wc.cell? ⟨gb285, 1, none⟩ = some (.int .i64 ((rd_T80 l0_0 a1).f1)) := (kC BK285.out 1).trans rfl
       have hcz19_2 : wc.cell? ⟨gb285, 2, none⟩ = some (.string ((rd_T80 l0_0 a1).f2)) := (kC BK285.out 2).trans rfl
       have hfz19_0 := kF BK285.out 0
       have hfz19_1 := kF BK285.out 1
       have hfz19_2 := kF BK285.out 2
       go_wp2_with (first | ((with_reducible refine gate_dst (N := 25) rfl ?_); refine Kd.R_lit (Kd.int .i64) _ 2 ?hg (N := 25) ?hd (xs := ([wrap64 (a1 + 1), ((rd_T80 l0_0 a1).f1)] : List Int)) (inner := [.int .i64 (wrap64 (a1 + 1)), .int .i64 ((rd_T80 l0_0 a1).f1)]) (ok := fun _ => True) (okp := fun _ => True) ?hr ?hp (fun _ hk => hk) trivial (Below.refl _ _) (Nat.le_refl _) (by simp) ?_; (case hd => rfl); (case hg => rfl); (case hr => first | (go_simp; done) | (go_simp; rfl)); (case hp => exact (Reps.one (show Kd.M (Kd.int .i64) _ _ _ (wrap64 (a1 + 1)) [.int .i64 (wrap64 (a1 + 1))] from rfl) (Reps.one (show Kd.M (Kd.int .i64) _ _ _ ((rd_T80 l0_0 a1).f1) [.int .i64 ((rd_T80 l0_0 a1).f1)] from rfl) (Reps.none _ _)))); intro v290 w20 ho21 hb hg_ hnew_; clear hg_ hnew_; (first | rw [← Ny289.out] at ho21 | (simp only [Int.reduceToNat] at ho21; rw [← Ny289.out] at ho21)); have n0_ := As.mk (Kd.R_lower ho21 (bZ (by repeat (first | (with_reducible first | exact HB.out | apply bA | apply bD | apply bE | refine bS ?_ GE283.out | refine bS ?_ GE285.out) | exact HB.out)))); have n1_ := As.mk (kB (g := gb283) (o := .cells #[.slice (some ad284) l0_0.length c0_0, .slice A0_1 l0_1.length c0_1] 31 (0, 0)) (by (with_reducible repeat (first | refine kD ?_ _ | refine kE ?_ | refine kA ?_ _)); exact BK283.out) hb); have n2_ := As.mk (kB (g := gb285) (o := .cells #[.int .i64 ((rd_T80 l0_0 a1).f0), .int .i64 ((rd_T80 l0_0 a1).f1), .string ((rd_T80 l0_0 a1).f2)] 80 (0, 0)) (by (with_reducible repeat (first | refine kD ?_ _ | refine kE ?_ | refine kA ?_ _)); exact BK285.out) hb); have n3_ := As.mk (bT (by repeat (first | (with_reducible first | exact HB.out | apply bA | apply bD | apply bE | refine bS ?_ GE283.out | refine bS ?_ GE285.out) | exact HB.out)) hb); clear BK283; clear BK285; clear HB; have HO291 := n0_; have BK283 := n1_; have BK285 := n2_; have HB := n3_; clear n0_ n1_ n2_ n3_; clear hb ho21))
       go_ret
       exact ⟨_, by first | rfl | (simp [eN, eS] <;> rfl) | (simp [*, eN, eS] <;> rfl), by (with_reducible repeat (first | apply Kd.R_alloc | apply Kd.R_drewN | apply Kd.R_drew)); exact HO291.out, by repeat (first | (with_reducible first | exact HB.out | apply bA | apply bD | apply bE | refine bS ?_ GE283.out | refine bS ?_ GE285.out) | exact HB.out)⟩
      ·rw [if_neg c17] at H
       have c17b0 : (((rd_T80 l0_0 a1).f0) == 32) = false := beq_eq_false_iff_ne.mpr c17
       have c17b1 : (((rd_T80 l0_0 a1).f0) != 32) = true := bne_iff_ne.mpr c17
       by_cases c22 : ((rd_T80 l0_0 a1).f0) = 39
       ·rw [if_pos c22] at H
        have c22b0 : (((rd_T80 l0_0 a1).f0) == 39) = true := beq_iff_eq.mpr c22
        have c22b1 : (((rd_T80 l0_0 a1).f0) != 39) = false := bne_eq_false_iff_eq.mpr c22
        clear c22
        obtain rfl := Option.some.inj H
        go_wp2
        go_ret
        exact ⟨_, by first | rfl | (simp [eN, eS] <;> rfl) | (simp [*, eN, eS] <;> rfl), by first | exact Kd.R_nil _ _ _ _ _ | exact Kd.N_nil _ _ _ _ _ | exact Kd.V_nil _ _ _ _ _ | exact Kd.Q_nil _ _ _ _ _ | exact Kd.S_nil _ _ _ _ _, by repeat (first | (with_reducible first | exact HB.out | apply bA | apply bD | apply bE | refine bS ?_ GE283.out | refine bS ?_ GE285.out) | exact HB.out)⟩
       ·rw [if_neg c22] at H
        have c22b0 : (((rd_T80 l0_0 a1).f0) == 39) = false := beq_eq_false_iff_ne.mpr c22
        have c22b1 : (((rd_T80 l0_0 a1).f0) != 39) = true := bne_iff_ne.mpr c22
        by_cases c23 : ((rd_T80 l0_0 a1).f0) = 38
        ·rw [if_pos c23] at H
         have c23b0 : (((rd_T80 l0_0 a1).f0) == 38) = true := beq_iff_eq.mpr c23
         have c23b1 : (((rd_T80 l0_0 a1).f0) != 38) = false := bne_eq_false_iff_eq.mpr c23
         clear c23
         obtain rfl := Option.some.inj H
         go_wp2
         go_ret
         exact ⟨_, by first | rfl | (simp [eN, eS] <;> rfl) | (simp [*, eN, eS] <;> rfl), by first | exact Kd.R_nil _ _ _ _ _ | exact Kd.N_nil _ _ _ _ _ | exact Kd.V_nil _ _ _ _ _ | exact Kd.Q_nil _ _ _ _ _ | exact Kd.S_nil _ _ _ _ _, by repeat (first | (with_reducible first | exact HB.out | apply bA | apply bD | apply bE | refine bS ?_ GE283.out | refine bS ?_ GE285.out) | exact HB.out)⟩
        ·rw [if_neg c23] at H
         have c23b0 : (((rd_T80 l0_0 a1).f0) == 38) = false := beq_eq_false_iff_ne.mpr c23
         have c23b1 : (((rd_T80 l0_0 a1).f0) != 38) = true := bne_iff_ne.mpr c23
         obtain ⟨y292, hy292⟩ : ∃ y_ : List Int, y_ = (([wrap64 (a1 + 1)] : List Int)) := ⟨_, rfl⟩
         replace H : (some y292) = some r := by first | (rw [hy292]; with_reducible exact H) | (have H2_ := (Option.bind_some _ _).symm.trans H; rw [hy292]; with_reducible exact H2_) | (have H2_ := (Option.bind_some _ _).symm.trans H; with_reducible exact H2_) | with_reducible exact H | (rw [hy292]; exact H) | exact H
         have Ny292 := As.mk hy292
         clear hy292
         obtain rfl := Option.some.inj H
         go_wp2_with (first | ((with_reducible refine gate_dst (N := 31) rfl ?_); refine Kd.R_lit (Kd.int .i64) _ 2 ?hg (N := 31) ?hd (xs := ([wrap64 (a1 + 1)] : List Int)) (inner := [.int .i64 (wrap64 (a1 + 1))]) (ok := fun _ => True) (okp := fun _ => True) ?hr ?hp (fun _ hk => hk) trivial (Below.refl _ _) (Nat.le_refl _) (by simp) ?_; (case hd => rfl); (case hg => rfl); (case hr => first | (go_simp; done) | (go_simp; rfl)); (case hp => exact (Reps.one (show Kd.M (Kd.int .i64) _ _ _ (wrap64 (a1 + 1)) [.int .i64 (wrap64 (a1 + 1))] from rfl) (Reps.none _ _))); intro v293 w24 ho25 hb hg_ hnew_; clear hg_ hnew_; (first | rw [← Ny292.out] at ho25 | (simp only [Int.reduceToNat] at ho25; rw [← Ny292.out] at ho25)); have n0_ := As.mk (Kd.R_lower ho25 (bZ (by repeat (first | (with_reducible first | exact HB.out | apply bA | apply bD | apply bE | refine bS ?_ GE283.out | refine bS ?_ GE285.out) | exact HB.out)))); have n1_ := As.mk (kB (g := gb283) (o := .cells #[.slice (some ad284) l0_0.length c0_0, .slice A0_1 l0_1.length c0_1] 31 (0, 0)) (by (with_reducible repeat (first | refine kD ?_ _ | refine kE ?_ | refine kA ?_ _)); exact BK283.out) hb); have n2_ := As.mk (kB (g := gb285) (o := .cells #[.int .i64 ((rd_T80 l0_0 a1).f0), .int .i64 ((rd_T80 l0_0 a1).f1), .string ((rd_T80 l0_0 a1).f2)] 80 (0, 0)) (by (with_reducible repeat (first | refine kD ?_ _ | refine kE ?_ | refine kA ?_ _)); exact BK285.out) hb); have n3_ := As.mk (bT (by repeat (first | (with_reducible first | exact HB.out | apply bA | apply bD | apply bE | refine bS ?_ GE283.out | refine bS ?_ GE285.out) | exact HB.out)) hb); clear BK283; clear BK285; clear HB; have HO294 := n0_; have BK283 := n1_; have BK285 := n2_; have HB := n3_; clear n0_ n1_ n2_ n3_; clear hb ho25))
         go_ret
         exact ⟨_, by first | rfl | (simp [eN, eS] <;> rfl) | (simp [*, eN, eS] <;> rfl), by (with_reducible repeat (first | apply Kd.R_alloc | apply Kd.R_drewN | apply Kd.R_drew)); exact HO294.out, by repeat (first | (with_reducible first | exact HB.out | apply bA | apply bD | apply bE | refine bS ?_ GE283.out | refine bS ?_ GE285.out) | exact HB.out)⟩
  ·rw [if_neg c4] at H
   exact absurd H (by simp)
 ·rw [if_neg c3] at H
  exact absurd H (by simp)
end Go.Proofs.Ytbamjjaamjfnaaa.PFnExactValidPatternCode
