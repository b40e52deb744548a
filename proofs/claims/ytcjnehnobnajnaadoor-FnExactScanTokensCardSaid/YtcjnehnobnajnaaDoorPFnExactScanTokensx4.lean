/- By a program of this session: for each Go function that the law reaches, a Lean function with the same answers, and that the code comes to exactly these answers. Conditions: none beyond each statement. -/
import Derived.Test.YtcjnehnobnajnaaDoorPFnExactScanTokensx0
import Derived.Test.YtcjnehnobnajnaaDoorPFnExactScanTokensx3
namespace Go.Proofs.YtcjnehnobnajnaaDoor.PFnExactScanTokens
open Go.RowKit Go.Proofs.YtcjnehnobnajnaaDoorW.PrintWords Go.Proofs.YtcjnehnobnajnaaDoorW.PrintLast Go.Proofs.YtcjnehnobnajnaaDoorW.PrintMore
attribute [local go_sem] max2_int min2_int max_two min_two max_three min_three max_four min_four   -- for this text's walks alone
set_option linter.unusedVariables false
set_option linter.unusedSimpArgs false

/-! ### impl_scanToken: function 14, by hand -/
-- NEEDS impl_isLetter
-- NEEDS impl_isDigit
-- NEEDS impl_isNameByte
-- NEEDS impl_readInteger
-- NEEDS strings_IndexByte
-- IMPORT Derived.Test.YtcjnehnobnajnaaDoorRowLaw
def scG (p : Int → Bool) (s : ByteArray) : Nat → Nat → Nat
  | 0, _ => 0
  | d + 1, e => if p (bt s (e : Int)) = true then scG p s d (e + 1) + 1 else 0
/-- How many bytes from a place on are as told. -/
def scP (p : Int → Bool) (s : ByteArray) (a : Nat) : Nat := scG p s (s.size - a) a
theorem scP_end (p : Int → Bool) (s : ByteArray) : scP p s s.size = 0 := by unfold scP; rw [Nat.sub_self]; rfl
theorem scP_t (p : Int → Bool) (s : ByteArray) (e : Nat) (h : e < s.size) (hp : p (bt s (e : Int)) = true) : scP p s e = scP p s (e + 1) + 1 := by
  unfold scP
  obtain ⟨d, hd⟩ : ∃ d, s.size - e = d + 1 := ⟨s.size - e - 1, by omega⟩
  rw [hd, show s.size - (e + 1) = d by omega]
  simp only [scG, hp, if_true]
theorem scP_f (p : Int → Bool) (s : ByteArray) (e : Nat) (hp : p (bt s (e : Int)) = false) : scP p s e = 0 := by
  unfold scP
  cases s.size - e with
  | zero => rfl
  | succ d => simp only [scG, hp, Bool.false_eq_true, if_false]
theorem scP_le (p : Int → Bool) (s : ByteArray) : ∀ (d e : Nat), scG p s d e ≤ d := by
  intro d
  induction d with
  | zero => intro e; exact Nat.le_refl _
  | succ d ih =>
    intro e
    simp only [scG]
    split
    · exact Nat.succ_le_succ (ih _)
    · exact Nat.zero_le _
theorem scP_bound (p : Int → Bool) (s : ByteArray) (a : Nat) (h : a ≤ s.size) : a + scP p s a ≤ s.size := by have := scP_le p s (s.size - a) a; unfold scP; omega
def scL (c : Int) : Bool := (decide (65 ≤ c) && decide (c ≤ 90)) || (decide (97 ≤ c) && decide (c ≤ 122))
def scD (c : Int) : Bool := decide (48 ≤ c) && decide (c ≤ 57)
def scN (c : Int) : Bool := scL c || (scD c || c == 95)
theorem scL_ev (c : Int) : impl_isLetter.f c = some (scL c) := by
  unfold impl_isLetter.f scL
  by_cases h1 : 65 ≤ c <;> by_cases h2 : c ≤ 90 <;> by_cases h3 : 97 ≤ c <;> simp [h1, h2, h3]
theorem scD_ev (c : Int) : impl_isDigit.f c = some (scD c) := by
  unfold impl_isDigit.f scD
  by_cases h1 : 48 ≤ c <;> simp [h1]
theorem scN_ev (c : Int) : impl_isNameByte.f c = some (scN c) := by
  unfold impl_isNameByte.f scN
  rw [scL_ev, scD_ev]
  cases scL c <;> cases scD c <;> simp
set_option maxHeartbeats 8000000 in
set_option maxRecDepth 100000 in
theorem sp_nm (s : ByteArray) (a : Nat) (hs : s.size ≤ 1000000) (ha : a ≤ s.size) (w : World) :
    Calls Tryd.prog 12 #[.string s, .int .i64 (a : Int), .func (.func 23) #[] #[]] w fun e w' => e = .returned (.int .i64 ((scP scN s a : Nat) : Int)) ∧ Below w.heap.size w w' := by
  have HS := Aside0.mk hs
  have HA := Aside0.mk ha
  have HB := Aside0.mk (Below.refl w.heap.size w)
  clear hs ha
  go_enter Tryd.func12, Tryd.ntmps12
  go_wp2
  go_loopg [7] s.size (fun kq v7 w' => ∃ (e : Nat), v7 = .int .i64 (e : Int) ∧ Aside0 (kq + e = s.size + a) ∧ Aside0 (a ≤ e ∧ e ≤ s.size) ∧ Aside0 (scP scN s a = (e - a) + scP scN s e) ∧ Aside0 (Below w.heap.size w w'))
  case atStart => exact ⟨a, rfl, ⟨by omega⟩, ⟨Nat.le_refl _, HA.out⟩, ⟨by omega⟩, ⟨by repeat (first | exact HB.out | apply below_alloc | apply pw_below_drewN | apply below_drew1)⟩⟩
  case round =>
    clear HB
    obtain ⟨e, rfl, HK, HE, HN, HB⟩ := hrel
    by_cases hi2 : e < s.size
    · obtain ⟨kp, rfl⟩ : ∃ kp, gk = kp + 1 := ⟨gk - 1, by have := HK.out; have := HE.out; omega⟩
      have hkp : kp + (e + 1) = s.size + a := by have := HK.out; omega
      have HW := Aside0.mk (by have := HS.out; unfold wrap64; omega : wrap64 ((e : Int) + 1) = ((e + 1 : Nat) : Int))
      have HI := Aside0.mk hi2
      have c5 : ((e : Int) < (s.size : Int)) = True := eq_true (by omega)
      have c5n : decide (e < s.size) = true := decide_eq_true hi2
      have c5b : decide ((e : Int) < (s.size : Int)) = true := decide_eq_true (by omega)
      have c6 : (0 ≤ (e : Int)) = True := eq_true (by omega)
      have hx : ∀ h : e < s.size, ((s[e]'h).toNat : Int) = bt s (e : Int) := fun h => bt_at s (e : Int) h
      clear hi2
      obtain ⟨q, hq⟩ : ∃ q, scN (bt s (e : Int)) = q := ⟨_, rfl⟩
      cases q with
      | true =>
        have HQ := Aside0.mk hq
        clear hq
        have HT := Aside0.mk (by have h1 := HN.out; have h2 := HE.out; rw [scP_t _ s e HI.out HQ.out] at h1; omega : scP scN s a = (e + 1 - a) + scP scN s (e + 1))
        have HEE := Aside0.mk (by have h2 := HE.out; have h3 := HI.out; omega : a ≤ e + 1 ∧ e + 1 ≤ s.size)
        go_wp2_with (first | (go_at_call 23; refine (impl_isNameByte.calls (bt s (e : Int)) true _ (by rw [scN_ev, HQ.out])).mono ?_; rintro r w2 ⟨rfl, ⟨nd, rfl⟩⟩))
        go_roundg kp
        case measure => omega
        case rel => exact ⟨e + 1, by rw [HW.out], ⟨hkp⟩, HEE, HT, ⟨by repeat (first | exact HB.out | apply below_alloc | apply pw_below_drewN | apply below_drew1)⟩⟩
      | false =>
        have HQ := Aside0.mk hq
        clear hq
        have HT := Aside0.mk (by have h1 := HN.out; rw [scP_f _ s e HQ.out] at h1; have h2 := HE.out; have h3 := HS.out; unfold wrap64; omega : wrap64 ((e : Int) - (a : Int)) = ((scP scN s a : Nat) : Int))
        go_wp2_with (first | (go_at_call 23; refine (impl_isNameByte.calls (bt s (e : Int)) false _ (by rw [scN_ev, HQ.out])).mono ?_; rintro r w2 ⟨rfl, ⟨nd, rfl⟩⟩))
        go_ret
        exact ⟨by first | (simp only [i64_w]; rw [HT.out]; rfl) | (rw [HT.out]; rfl) | (rw [HT.out]; done), by repeat (first | exact HB.out | apply below_alloc | apply pw_below_drewN | apply below_drew1)⟩
    · obtain rfl : e = s.size := by have := HE.out; omega
      have c5 : ((s.size : Int) < (s.size : Int)) = False := eq_false (by omega)
      have HT := Aside0.mk (by have h1 := HN.out; rw [scP_end] at h1; have h2 := HE.out; have h3 := HS.out; unfold wrap64; omega : wrap64 ((s.size : Int) - (a : Int)) = ((scP scN s a : Nat) : Int))
      clear hi2
      go_wp2
      go_ret
      exact ⟨by first | (simp only [i64_w]; rw [HT.out]; rfl) | (rw [HT.out]; rfl) | (rw [HT.out]; done), by repeat (first | exact HB.out | apply below_alloc | apply pw_below_drewN | apply below_drew1)⟩
set_option maxHeartbeats 8000000 in
set_option maxRecDepth 100000 in
theorem sp_dg (s : ByteArray) (a : Nat) (hs : s.size ≤ 1000000) (ha : a ≤ s.size) (w : World) :
    Calls Tryd.prog 12 #[.string s, .int .i64 (a : Int), .func (.func 24) #[] #[]] w fun e w' => e = .returned (.int .i64 ((scP scD s a : Nat) : Int)) ∧ Below w.heap.size w w' := by
  have HS := Aside0.mk hs
  have HA := Aside0.mk ha
  have HB := Aside0.mk (Below.refl w.heap.size w)
  clear hs ha
  go_enter Tryd.func12, Tryd.ntmps12
  go_wp2
  go_loopg [7] s.size (fun kq v7 w' => ∃ (e : Nat), v7 = .int .i64 (e : Int) ∧ Aside0 (kq + e = s.size + a) ∧ Aside0 (a ≤ e ∧ e ≤ s.size) ∧ Aside0 (scP scD s a = (e - a) + scP scD s e) ∧ Aside0 (Below w.heap.size w w'))
  case atStart => exact ⟨a, rfl, ⟨by omega⟩, ⟨Nat.le_refl _, HA.out⟩, ⟨by omega⟩, ⟨by repeat (first | exact HB.out | apply below_alloc | apply pw_below_drewN | apply below_drew1)⟩⟩
  case round =>
    clear HB
    obtain ⟨e, rfl, HK, HE, HN, HB⟩ := hrel
    by_cases hi2 : e < s.size
    · obtain ⟨kp, rfl⟩ : ∃ kp, gk = kp + 1 := ⟨gk - 1, by have := HK.out; have := HE.out; omega⟩
      have hkp : kp + (e + 1) = s.size + a := by have := HK.out; omega
      have HW := Aside0.mk (by have := HS.out; unfold wrap64; omega : wrap64 ((e : Int) + 1) = ((e + 1 : Nat) : Int))
      have HI := Aside0.mk hi2
      have c5 : ((e : Int) < (s.size : Int)) = True := eq_true (by omega)
      have c5n : decide (e < s.size) = true := decide_eq_true hi2
      have c5b : decide ((e : Int) < (s.size : Int)) = true := decide_eq_true (by omega)
      have c6 : (0 ≤ (e : Int)) = True := eq_true (by omega)
      have hx : ∀ h : e < s.size, ((s[e]'h).toNat : Int) = bt s (e : Int) := fun h => bt_at s (e : Int) h
      clear hi2
      obtain ⟨q, hq⟩ : ∃ q, scD (bt s (e : Int)) = q := ⟨_, rfl⟩
      cases q with
      | true =>
        have HQ := Aside0.mk hq
        clear hq
        have HT := Aside0.mk (by have h1 := HN.out; have h2 := HE.out; rw [scP_t _ s e HI.out HQ.out] at h1; omega : scP scD s a = (e + 1 - a) + scP scD s (e + 1))
        have HEE := Aside0.mk (by have h2 := HE.out; have h3 := HI.out; omega : a ≤ e + 1 ∧ e + 1 ≤ s.size)
        go_wp2_with (first | (go_at_call 24; refine (impl_isDigit.calls (bt s (e : Int)) true _ (by rw [scD_ev, HQ.out])).mono ?_; rintro r w2 ⟨rfl, ⟨nd, rfl⟩⟩))
        go_roundg kp
        case measure => omega
        case rel => exact ⟨e + 1, by rw [HW.out], ⟨hkp⟩, HEE, HT, ⟨by repeat (first | exact HB.out | apply below_alloc | apply pw_below_drewN | apply below_drew1)⟩⟩
      | false =>
        have HQ := Aside0.mk hq
        clear hq
        have HT := Aside0.mk (by have h1 := HN.out; rw [scP_f _ s e HQ.out] at h1; have h2 := HE.out; have h3 := HS.out; unfold wrap64; omega : wrap64 ((e : Int) - (a : Int)) = ((scP scD s a : Nat) : Int))
        go_wp2_with (first | (go_at_call 24; refine (impl_isDigit.calls (bt s (e : Int)) false _ (by rw [scD_ev, HQ.out])).mono ?_; rintro r w2 ⟨rfl, ⟨nd, rfl⟩⟩))
        go_ret
        exact ⟨by first | (simp only [i64_w]; rw [HT.out]; rfl) | (rw [HT.out]; rfl) | (rw [HT.out]; done), by repeat (first | exact HB.out | apply below_alloc | apply pw_below_drewN | apply below_drew1)⟩
    · obtain rfl : e = s.size := by have := HE.out; omega
      have c5 : ((s.size : Int) < (s.size : Int)) = False := eq_false (by omega)
      have HT := Aside0.mk (by have h1 := HN.out; rw [scP_end] at h1; have h2 := HE.out; have h3 := HS.out; unfold wrap64; omega : wrap64 ((s.size : Int) - (a : Int)) = ((scP scD s a : Nat) : Int))
      clear hi2
      go_wp2
      go_ret
      exact ⟨by first | (simp only [i64_w]; rw [HT.out]; rfl) | (rw [HT.out]; rfl) | (rw [HT.out]; done), by repeat (first | exact HB.out | apply below_alloc | apply pw_below_drewN | apply below_drew1)⟩
set_option maxHeartbeats 8000000 in
set_option maxRecDepth 100000 in
theorem ne_calls (b c : Int) (g5 : Nat) (w : World) (hg : w.heap[g5]? = some (.cells #[.int .u8 b] 5 (0, 0))) :
    Calls Tryd.prog 26 #[.int .u8 c, .pointer (some ⟨g5, 0, none⟩)] w fun e w' => e = .returned (.bool (c != b)) ∧ Below w.heap.size w w' := by
  have huB := Tryd.underlying5
  have BK5 := Aside0.mk hg
  have HB := Aside0.mk (Below.refl w.heap.size w)
  clear hg
  have hcz : w.cell? ⟨g5, 0, none⟩ = some (.int .u8 b) := (blk_cell BK5.out 0).trans rfl
  have hfz := blk_frozen BK5.out 0
  go_enter Tryd.func26, Tryd.ntmps26
  go_wp2
  go_ret
  exact ⟨by first | rfl | (simp; done), by repeat (first | exact HB.out | apply below_alloc | apply pw_below_drewN | apply below_drew1)⟩
set_option maxHeartbeats 8000000 in
set_option maxRecDepth 100000 in
theorem sp_ne (s : ByteArray) (a : Nat) (hs : s.size ≤ 1000000) (ha : a ≤ s.size) (b : Int) (g5 : Nat) (w : World) (hg : w.heap[g5]? = some (.cells #[.int .u8 b] 5 (0, 0))) :
    Calls Tryd.prog 12 #[.string s, .int .i64 (a : Int), .func (.func 26) #[] #[.pointer (some ⟨g5, 0, none⟩)]] w fun e w' => e = .returned (.int .i64 ((scP (fun c => c != b) s a : Nat) : Int)) ∧ Below w.heap.size w w' := by
  have HS := Aside0.mk hs
  have HA := Aside0.mk ha
  have HB := Aside0.mk (Below.refl w.heap.size w)
  have BK5 := Aside0.mk hg
  clear hg
  clear hs ha
  go_enter Tryd.func12, Tryd.ntmps12
  go_wp2
  go_loopg [7] s.size (fun kq v7 w' => ∃ (e : Nat), v7 = .int .i64 (e : Int) ∧ Aside0 (kq + e = s.size + a) ∧ Aside0 (a ≤ e ∧ e ≤ s.size) ∧ Aside0 (scP (fun c => c != b) s a = (e - a) + scP (fun c => c != b) s e) ∧ Aside0 (Below w.heap.size w w') ∧ Aside0 (w'.heap[g5]? = some (.cells #[.int .u8 b] 5 (0, 0))))
  case atStart => exact ⟨a, rfl, ⟨by omega⟩, ⟨Nat.le_refl _, HA.out⟩, ⟨by omega⟩, ⟨by repeat (first | exact HB.out | apply below_alloc | apply pw_below_drewN | apply below_drew1)⟩, BK5⟩
  case round =>
    clear HB BK5
    obtain ⟨e, rfl, HK, HE, HN, HB, BK5⟩ := hrel
    by_cases hi2 : e < s.size
    · obtain ⟨kp, rfl⟩ : ∃ kp, gk = kp + 1 := ⟨gk - 1, by have := HK.out; have := HE.out; omega⟩
      have hkp : kp + (e + 1) = s.size + a := by have := HK.out; omega
      have HW := Aside0.mk (by have := HS.out; unfold wrap64; omega : wrap64 ((e : Int) + 1) = ((e + 1 : Nat) : Int))
      have HI := Aside0.mk hi2
      have c5 : ((e : Int) < (s.size : Int)) = True := eq_true (by omega)
      have c5n : decide (e < s.size) = true := decide_eq_true hi2
      have c5b : decide ((e : Int) < (s.size : Int)) = true := decide_eq_true (by omega)
      have c6 : (0 ≤ (e : Int)) = True := eq_true (by omega)
      have hx : ∀ h : e < s.size, ((s[e]'h).toNat : Int) = bt s (e : Int) := fun h => bt_at s (e : Int) h
      clear hi2
      obtain ⟨q, hq⟩ : ∃ q, (fun c => c != b) (bt s (e : Int)) = q := ⟨_, rfl⟩
      cases q with
      | true =>
        have HQ := Aside0.mk hq
        clear hq
        have HT := Aside0.mk (by have h1 := HN.out; have h2 := HE.out; rw [scP_t _ s e HI.out HQ.out] at h1; omega : scP (fun c => c != b) s a = (e + 1 - a) + scP (fun c => c != b) s (e + 1))
        have HEE := Aside0.mk (by have h2 := HE.out; have h3 := HI.out; omega : a ≤ e + 1 ∧ e + 1 ≤ s.size)
        go_wp2_with (first | (go_at_call 26; refine (ne_calls b (bt s (e : Int)) g5 _ BK5.out).mono ?_; rintro r w2 ⟨rfl, hb⟩; have HV := Aside0.mk (show Value.bool (bt s (e : Int) != b) = .bool true from congrArg Value.bool HQ.out); rw [HV.out]; replace HB := Aside0.mk (below_step HB.out hb); replace BK5 := Aside0.mk (blk_below BK5.out hb); clear hb HV))
        go_roundg kp
        case measure => omega
        case rel => exact ⟨e + 1, by rw [HW.out], ⟨hkp⟩, HEE, HT, ⟨by repeat (first | exact HB.out | apply below_alloc | apply pw_below_drewN | apply below_drew1)⟩, BK5⟩
      | false =>
        have HQ := Aside0.mk hq
        clear hq
        have HT := Aside0.mk (by have h1 := HN.out; rw [scP_f _ s e HQ.out] at h1; have h2 := HE.out; have h3 := HS.out; unfold wrap64; omega : wrap64 ((e : Int) - (a : Int)) = ((scP (fun c => c != b) s a : Nat) : Int))
        go_wp2_with (first | (go_at_call 26; refine (ne_calls b (bt s (e : Int)) g5 _ BK5.out).mono ?_; rintro r w2 ⟨rfl, hb⟩; have HV := Aside0.mk (show Value.bool (bt s (e : Int) != b) = .bool false from congrArg Value.bool HQ.out); rw [HV.out]; replace HB := Aside0.mk (below_step HB.out hb); replace BK5 := Aside0.mk (blk_below BK5.out hb); clear hb HV))
        go_ret
        exact ⟨by first | (simp only [i64_w]; rw [HT.out]; rfl) | (rw [HT.out]; rfl) | (rw [HT.out]; done), by repeat (first | exact HB.out | apply below_alloc | apply pw_below_drewN | apply below_drew1)⟩
    · obtain rfl : e = s.size := by have := HE.out; omega
      have c5 : ((s.size : Int) < (s.size : Int)) = False := eq_false (by omega)
      have HT := Aside0.mk (by have h1 := HN.out; rw [scP_end] at h1; have h2 := HE.out; have h3 := HS.out; unfold wrap64; omega : wrap64 ((s.size : Int) - (a : Int)) = ((scP (fun c => c != b) s a : Nat) : Int))
      clear hi2
      go_wp2
      go_ret
      exact ⟨by first | (simp only [i64_w]; rw [HT.out]; rfl) | (rw [HT.out]; rfl) | (rw [HT.out]; done), by repeat (first | exact HB.out | apply below_alloc | apply pw_below_drewN | apply below_drew1)⟩
set_option maxHeartbeats 8000000 in
set_option maxRecDepth 100000 in
theorem st_letter (s : ByteArray) (a : Nat) (hs : s.size ≤ 1000000) (ha : a < s.size) (hL : impl_isLetter.f (bt s (a : Int)) = some true) (n m : Nat) (hn : scP scN s a = n) (hm : a + n = m) (hm2 : m ≤ s.size) (v : Bool) (hv : decide (n ≤ 12) = v) (w : World) :
    Calls Tryd.prog 14 #[.string s, .int .i64 (a : Int)] w fun e w' => e = .returned (.tuple #[.agg #[.int .i64 1, .int .i64 0, .string (s.extract a m), .bool false, .bool false], .int .i64 (n : Int), .bool v]) ∧ Below w.heap.size w w' := by
  have huT := Tryd.underlying32
  have huB := Tryd.underlying5
  have HIT := Aside0.mk (by kernel_rfl : (Tryd.prog.info? 32).map (·.size) = some 5)
  have HIB := Aside0.mk (by kernel_rfl : (Tryd.prog.info? 5).map (·.size) = some 1)
  have HS := Aside0.mk hs
  have HB := Aside0.mk (Below.refl w.heap.size w)
  have c5 : ((a : Int) < (s.size : Int)) = True := eq_true (by omega)
  have c5n : decide (a < s.size) = true := decide_eq_true ha
  have c5b : decide ((a : Int) < (s.size : Int)) = true := decide_eq_true (by omega)
  have c6 : (0 ≤ (a : Int)) = True := eq_true (by omega)
  have hx : ∀ h : a < s.size, ((s[a]'h).toNat : Int) = bt s (a : Int) := fun h => bt_at s (a : Int) h
  have HL := Aside0.mk hL
  have HN := Aside0.mk hn
  have w1 : wrap64 ((a : Int) + (n : Int)) = (m : Int) := by unfold wrap64; omega
  have w1k : IntKind.i64.wrap ((a : Int) + (n : Int)) = (m : Int) := by rw [i64_w]; exact w1
  have l1 : ((a : Int) ≤ (m : Int)) = True := eq_true (by omega)
  have l1n : decide (a ≤ m) = true := decide_eq_true (by omega)
  have l1b : decide ((a : Int) ≤ (m : Int)) = true := decide_eq_true (by omega)
  have l2 : ((m : Int) ≤ (s.size : Int)) = True := eq_true (by omega)
  have l2n : decide (m ≤ s.size) = true := decide_eq_true (by omega)
  have l2b : decide ((m : Int) ≤ (s.size : Int)) = true := decide_eq_true (by omega)
  have t1 : decide ((n : Int) ≤ 12) = v := by rw [← hv]; exact decide_eq_decide.2 (by omega)
  have t1n : decide (n ≤ 12) = v := hv
  have HA := Aside0.mk (Nat.le_of_lt ha)
  clear hL hn hm hm2 hv hs ha
  go_enter Tryd.func14, Tryd.ntmps14
  go_wp2_with (first | ((with_reducible refine gate_dst (N := 4) rfl ?_); refine box_event ?hg (N := 4) ?hd (cs := #[.int .i64 0, .int .i64 0, .string (⟨#[]⟩ : ByteArray), .bool false, .bool false]) (t := 32) ?hr ?_; (case hd => rfl); (case hg => rfl); (case hr => first | (go_simp; done) | (go_simp; rfl)); intro g4 hg wg4 hbox hb; have GE4 := Aside0.mk (by rw [hg]; exact HB.out.size : w.heap.size ≤ g4); replace HB := Aside0.mk (below_step HB.out hb); have BK4 := Aside0.mk hbox; clear hbox hg hb; (try simp only [Act.put, List.setIfInBounds_toArray, List.set_cons_zero, List.set_cons_succ])) | ((with_reducible refine gate_dst (N := 7) rfl ?_); refine box_event ?hg (N := 7) ?hd (cs := #[.int .u8 0]) (t := 5) ?hr ?_; (case hd => rfl); (case hg => rfl); (case hr => first | (go_simp; done) | (go_simp; rfl)); intro g7 hg wg7 hbox hb; have GE7 := Aside0.mk (by rw [hg]; exact HB.out.size : w.heap.size ≤ g7); have NE := Aside0.mk (by rw [hg]; exact Nat.ne_of_lt (blk_lt BK4.out) : g4 ≠ g7); replace HB := Aside0.mk (below_step HB.out hb); replace BK4 := Aside0.mk (blk_below BK4.out hb); have BK7 := Aside0.mk hbox; clear hbox hg hb; (try simp only [Act.put, List.setIfInBounds_toArray, List.set_cons_zero, List.set_cons_succ])) | ((with_reducible refine gate_store (t := 5) (p := 7) rfl ?_); refine Go.Proofs.YtcjnehnobnajnaaDoor.RowLaw.put_event rfl 5 _ _ rfl g7 0 (.int .u8 (bt s (a : Int))) rfl rfl [.int .u8 (bt s (a : Int))] rfl 5 _ #[.int .u8 (bt s (a : Int))] BK7.out HIB.out (Nat.le_of_ble_eq_true rfl) rfl rfl ?_; intro wp7 hk hoth hbel hz; replace HB := Aside0.mk (hbel _ _ HB.out GE7.out); replace BK4 := Aside0.mk ((hoth g4 NE.out).trans BK4.out); replace BK7 := Aside0.mk hk; clear hk hoth hbel hz; (try simp only [Act.put, List.setIfInBounds_toArray, List.set_cons_zero, List.set_cons_succ])) | ((with_reducible refine gate_dst (N := 18) rfl ?_); (try (refine gate_guard (by rfl) ?_; dsimp only)); refine Go.Proofs.YtcjnehnobnajnaaDoor.RowLaw.cell_event rfl 5 _ rfl g7 0 rfl 5 #[.int .u8 (bt s (a : Int))] _ (.int .u8 (bt s (a : Int))) BK7.out huB rfl rfl ?_; (try simp only [Act.put, List.setIfInBounds_toArray, List.set_cons_zero, List.set_cons_succ])) | ((with_reducible refine gate_callee (f := 22) rfl ?_); (with_reducible refine gate_dst (N := 19) rfl ?_); refine goesL_ (some 19) rfl rfl Tryd.func22 (by kernel_rfl) rfl #[.int .u8 (bt s (a : Int))] rfl (by (try simp only [List.map_toArray, List.map_cons, List.map_nil]); first | done | rfl) ?_; refine (impl_isLetter.calls (bt s (a : Int)) true _ HL.out).mono ?_; rintro e wd ⟨rfl, ⟨nd, rfl⟩⟩; refine ⟨_, rfl, ?_⟩; replace HB := Aside0.mk (below_step HB.out (pw_below_drewN (Below.refl _ _) nd)); replace BK4 := Aside0.mk (blk_below BK4.out (pw_below_drewN (Below.refl _ _) nd)); replace BK7 := Aside0.mk (blk_below BK7.out (pw_below_drewN (Below.refl _ _) nd)); generalize _root_.Go.World.drewN _ nd = wn at HB BK4 BK7 ⊢; (try simp only [Act.put, List.setIfInBounds_toArray, List.set_cons_zero, List.set_cons_succ])) | ((with_reducible refine gate_callee (f := 12) rfl ?_); (with_reducible refine gate_dst (N := 22) rfl ?_); refine goesL_ (some 22) rfl rfl Tryd.func12 (by kernel_rfl) rfl #[.string s, .int .i64 (a : Int), .func (.func 23) #[] #[]] rfl (by (try simp only [List.map_toArray, List.map_cons, List.map_nil]); first | done | rfl) ?_; refine (sp_nm s a HS.out HA.out _).mono ?_; rintro e wd ⟨rfl, hb⟩; rw [HN.out]; refine ⟨_, rfl, ?_⟩; replace HB := Aside0.mk (below_step HB.out hb); replace BK4 := Aside0.mk (blk_below BK4.out hb); replace BK7 := Aside0.mk (blk_below BK7.out hb); clear hb; (try simp only [Act.put, List.setIfInBounds_toArray, List.set_cons_zero, List.set_cons_succ])) | ((with_reducible refine gate_store (t := 32) (p := 4) rfl ?_); refine Go.Proofs.YtcjnehnobnajnaaDoor.RowLaw.put_event rfl 32 _ _ rfl g4 0 (.agg #[.int .i64 1, .int .i64 0, .string (s.extract a m), .bool false, .bool false]) rfl rfl [.int .i64 1, .int .i64 0, .string (s.extract a m), .bool false, .bool false] rfl 32 _ #[.int .i64 1, .int .i64 0, .string (s.extract a m), .bool false, .bool false] BK4.out HIT.out (Nat.le_of_ble_eq_true rfl) rfl rfl ?_; intro wp4 hk hoth hbel hz; replace HB := Aside0.mk (hbel _ _ HB.out GE4.out); replace BK4 := Aside0.mk hk; clear hk hoth hbel hz BK7; (try simp only [Act.put, List.setIfInBounds_toArray, List.set_cons_zero, List.set_cons_succ])))
  refine bodyPost_ret (results_ctt rfl _ _ g4 32 #[.int .i64 1, .int .i64 0, .string (s.extract a m), .bool false, .bool false] (0, 0) _ rfl BK4.out huT rfl HIT.out) rfl ?_
  exact ⟨by first | rfl | (simp; done), HB.out⟩
set_option maxHeartbeats 8000000 in
set_option maxRecDepth 100000 in
theorem st_digit (s : ByteArray) (a : Nat) (hs : s.size ≤ 1000000) (ha : a < s.size) (hL : impl_isLetter.f (bt s (a : Int)) = some false) (hD : impl_isDigit.f (bt s (a : Int)) = some true) (n m : Nat) (hn : scP scD s a = n) (hm : a + n = m) (hm2 : m ≤ s.size) (q : Int) (v : Bool) (hr : impl_readInteger.f (s.extract a m) = some (q, v)) (w : World) :
    Calls Tryd.prog 14 #[.string s, .int .i64 (a : Int)] w fun e w' => e = .returned (.tuple #[.agg #[.int .i64 2, .int .i64 q, .string (⟨#[]⟩ : ByteArray), .bool false, .bool false], .int .i64 (n : Int), .bool v]) ∧ Below w.heap.size w w' := by
  have huT := Tryd.underlying32
  have huB := Tryd.underlying5
  have HIT := Aside0.mk (by kernel_rfl : (Tryd.prog.info? 32).map (·.size) = some 5)
  have HIB := Aside0.mk (by kernel_rfl : (Tryd.prog.info? 5).map (·.size) = some 1)
  have HS := Aside0.mk hs
  have HB := Aside0.mk (Below.refl w.heap.size w)
  have c5 : ((a : Int) < (s.size : Int)) = True := eq_true (by omega)
  have c5n : decide (a < s.size) = true := decide_eq_true ha
  have c5b : decide ((a : Int) < (s.size : Int)) = true := decide_eq_true (by omega)
  have c6 : (0 ≤ (a : Int)) = True := eq_true (by omega)
  have hx : ∀ h : a < s.size, ((s[a]'h).toNat : Int) = bt s (a : Int) := fun h => bt_at s (a : Int) h
  have HL := Aside0.mk hL
  have HD := Aside0.mk hD
  have HR := Aside0.mk hr
  have HN := Aside0.mk hn
  have w1 : wrap64 ((a : Int) + (n : Int)) = (m : Int) := by unfold wrap64; omega
  have w1k : IntKind.i64.wrap ((a : Int) + (n : Int)) = (m : Int) := by rw [i64_w]; exact w1
  have l1 : ((a : Int) ≤ (m : Int)) = True := eq_true (by omega)
  have l1n : decide (a ≤ m) = true := decide_eq_true (by omega)
  have l1b : decide ((a : Int) ≤ (m : Int)) = true := decide_eq_true (by omega)
  have l2 : ((m : Int) ≤ (s.size : Int)) = True := eq_true (by omega)
  have l2n : decide (m ≤ s.size) = true := decide_eq_true (by omega)
  have l2b : decide ((m : Int) ≤ (s.size : Int)) = true := decide_eq_true (by omega)
  have HA := Aside0.mk (Nat.le_of_lt ha)
  clear hL hD hr hn hm hm2 hs ha
  go_enter Tryd.func14, Tryd.ntmps14
  go_wp2_with (first | ((with_reducible refine gate_dst (N := 4) rfl ?_); refine box_event ?hg (N := 4) ?hd (cs := #[.int .i64 0, .int .i64 0, .string (⟨#[]⟩ : ByteArray), .bool false, .bool false]) (t := 32) ?hr ?_; (case hd => rfl); (case hg => rfl); (case hr => first | (go_simp; done) | (go_simp; rfl)); intro g4 hg wg4 hbox hb; have GE4 := Aside0.mk (by rw [hg]; exact HB.out.size : w.heap.size ≤ g4); replace HB := Aside0.mk (below_step HB.out hb); have BK4 := Aside0.mk hbox; clear hbox hg hb; (try simp only [Act.put, List.setIfInBounds_toArray, List.set_cons_zero, List.set_cons_succ])) | ((with_reducible refine gate_dst (N := 7) rfl ?_); refine box_event ?hg (N := 7) ?hd (cs := #[.int .u8 0]) (t := 5) ?hr ?_; (case hd => rfl); (case hg => rfl); (case hr => first | (go_simp; done) | (go_simp; rfl)); intro g7 hg wg7 hbox hb; have GE7 := Aside0.mk (by rw [hg]; exact HB.out.size : w.heap.size ≤ g7); have NE := Aside0.mk (by rw [hg]; exact Nat.ne_of_lt (blk_lt BK4.out) : g4 ≠ g7); replace HB := Aside0.mk (below_step HB.out hb); replace BK4 := Aside0.mk (blk_below BK4.out hb); have BK7 := Aside0.mk hbox; clear hbox hg hb; (try simp only [Act.put, List.setIfInBounds_toArray, List.set_cons_zero, List.set_cons_succ])) | ((with_reducible refine gate_store (t := 5) (p := 7) rfl ?_); refine Go.Proofs.YtcjnehnobnajnaaDoor.RowLaw.put_event rfl 5 _ _ rfl g7 0 (.int .u8 (bt s (a : Int))) rfl rfl [.int .u8 (bt s (a : Int))] rfl 5 _ #[.int .u8 (bt s (a : Int))] BK7.out HIB.out (Nat.le_of_ble_eq_true rfl) rfl rfl ?_; intro wp7 hk hoth hbel hz; replace HB := Aside0.mk (hbel _ _ HB.out GE7.out); replace BK4 := Aside0.mk ((hoth g4 NE.out).trans BK4.out); replace BK7 := Aside0.mk hk; clear hk hoth hbel hz; (try simp only [Act.put, List.setIfInBounds_toArray, List.set_cons_zero, List.set_cons_succ])) | ((with_reducible refine gate_dst (N := 18) rfl ?_); (try (refine gate_guard (by rfl) ?_; dsimp only)); refine Go.Proofs.YtcjnehnobnajnaaDoor.RowLaw.cell_event rfl 5 _ rfl g7 0 rfl 5 #[.int .u8 (bt s (a : Int))] _ (.int .u8 (bt s (a : Int))) BK7.out huB rfl rfl ?_; (try simp only [Act.put, List.setIfInBounds_toArray, List.set_cons_zero, List.set_cons_succ])) | ((with_reducible refine gate_callee (f := 22) rfl ?_); (with_reducible refine gate_dst (N := 19) rfl ?_); refine goesL_ (some 19) rfl rfl Tryd.func22 (by kernel_rfl) rfl #[.int .u8 (bt s (a : Int))] rfl (by (try simp only [List.map_toArray, List.map_cons, List.map_nil]); first | done | rfl) ?_; refine (impl_isLetter.calls (bt s (a : Int)) false _ HL.out).mono ?_; rintro e wd ⟨rfl, ⟨nd, rfl⟩⟩; refine ⟨_, rfl, ?_⟩; replace HB := Aside0.mk (below_step HB.out (pw_below_drewN (Below.refl _ _) nd)); replace BK4 := Aside0.mk (blk_below BK4.out (pw_below_drewN (Below.refl _ _) nd)); replace BK7 := Aside0.mk (blk_below BK7.out (pw_below_drewN (Below.refl _ _) nd)); generalize _root_.Go.World.drewN _ nd = wn at HB BK4 BK7 ⊢; (try simp only [Act.put, List.setIfInBounds_toArray, List.set_cons_zero, List.set_cons_succ])) | ((with_reducible refine gate_dst (N := 34) rfl ?_); (try (refine gate_guard (by rfl) ?_; dsimp only)); refine Go.Proofs.YtcjnehnobnajnaaDoor.RowLaw.cell_event rfl 5 _ rfl g7 0 rfl 5 #[.int .u8 (bt s (a : Int))] _ (.int .u8 (bt s (a : Int))) BK7.out huB rfl rfl ?_; (try simp only [Act.put, List.setIfInBounds_toArray, List.set_cons_zero, List.set_cons_succ])) | ((with_reducible refine gate_callee (f := 24) rfl ?_); (with_reducible refine gate_dst (N := 35) rfl ?_); refine goesL_ (some 35) rfl rfl Tryd.func24 (by kernel_rfl) rfl #[.int .u8 (bt s (a : Int))] rfl (by (try simp only [List.map_toArray, List.map_cons, List.map_nil]); first | done | rfl) ?_; refine (impl_isDigit.calls (bt s (a : Int)) true _ HD.out).mono ?_; rintro e wd ⟨rfl, ⟨nd, rfl⟩⟩; refine ⟨_, rfl, ?_⟩; replace HB := Aside0.mk (below_step HB.out (pw_below_drewN (Below.refl _ _) nd)); replace BK4 := Aside0.mk (blk_below BK4.out (pw_below_drewN (Below.refl _ _) nd)); replace BK7 := Aside0.mk (blk_below BK7.out (pw_below_drewN (Below.refl _ _) nd)); generalize _root_.Go.World.drewN _ nd = wn at HB BK4 BK7 ⊢; (try simp only [Act.put, List.setIfInBounds_toArray, List.set_cons_zero, List.set_cons_succ])) | ((with_reducible refine gate_callee (f := 12) rfl ?_); (with_reducible refine gate_dst (N := 38) rfl ?_); refine goesL_ (some 38) rfl rfl Tryd.func12 (by kernel_rfl) rfl #[.string s, .int .i64 (a : Int), .func (.func 24) #[] #[]] rfl (by (try simp only [List.map_toArray, List.map_cons, List.map_nil]); first | done | rfl) ?_; refine (sp_dg s a HS.out HA.out _).mono ?_; rintro e wd ⟨rfl, hb⟩; rw [HN.out]; refine ⟨_, rfl, ?_⟩; replace HB := Aside0.mk (below_step HB.out hb); replace BK4 := Aside0.mk (blk_below BK4.out hb); replace BK7 := Aside0.mk (blk_below BK7.out hb); clear hb; (try simp only [Act.put, List.setIfInBounds_toArray, List.set_cons_zero, List.set_cons_succ])) | ((with_reducible refine gate_callee (f := 25) rfl ?_); (with_reducible refine gate_dst (N := 46) rfl ?_); refine goesL_ (some 46) rfl rfl Tryd.func25 (by kernel_rfl) rfl #[.string (s.extract a m)] rfl (by (try simp only [List.map_toArray, List.map_cons, List.map_nil]); first | done | rfl) ?_; refine (impl_readInteger.calls (s.extract a m) q v _ HR.out).mono ?_; rintro e wd ⟨rfl, hb⟩; refine ⟨_, rfl, ?_⟩; replace HB := Aside0.mk (below_step HB.out hb); replace BK4 := Aside0.mk (blk_below BK4.out hb); replace BK7 := Aside0.mk (blk_below BK7.out hb); clear hb; (try simp only [Act.put, List.setIfInBounds_toArray, List.set_cons_zero, List.set_cons_succ])) | ((with_reducible refine gate_store (t := 32) (p := 4) rfl ?_); refine Go.Proofs.YtcjnehnobnajnaaDoor.RowLaw.put_event rfl 32 _ _ rfl g4 0 (.agg #[.int .i64 2, .int .i64 q, .string (⟨#[]⟩ : ByteArray), .bool false, .bool false]) rfl rfl [.int .i64 2, .int .i64 q, .string (⟨#[]⟩ : ByteArray), .bool false, .bool false] rfl 32 _ #[.int .i64 2, .int .i64 q, .string (⟨#[]⟩ : ByteArray), .bool false, .bool false] BK4.out HIT.out (Nat.le_of_ble_eq_true rfl) rfl rfl ?_; intro wp4 hk hoth hbel hz; replace HB := Aside0.mk (hbel _ _ HB.out GE4.out); replace BK4 := Aside0.mk hk; clear hk hoth hbel hz BK7; (try simp only [Act.put, List.setIfInBounds_toArray, List.set_cons_zero, List.set_cons_succ])))
  refine bodyPost_ret (results_ctt rfl _ _ g4 32 #[.int .i64 2, .int .i64 q, .string (⟨#[]⟩ : ByteArray), .bool false, .bool false] (0, 0) _ rfl BK4.out huT rfl HIT.out) rfl ?_
  exact ⟨by first | rfl | (simp; done), HB.out⟩
set_option maxHeartbeats 8000000 in
set_option maxRecDepth 100000 in
theorem st_str (s : ByteArray) (a : Nat) (hs : s.size ≤ 1000000) (ha : a < s.size) (hL : impl_isLetter.f (bt s (a : Int)) = some false) (hD : impl_isDigit.f (bt s (a : Int)) = some false) (z : Bool) (hz : ((bt s (a : Int)) == 39) = z) (hz2 : z = false → ((bt s (a : Int)) == 34) = true) (p n m : Nat) (hp : a + 1 = p) (hn : scP (fun c => c != (bt s (a : Int))) s p = n) (hm : p + n = m) (hm2 : m ≤ s.size) (u : Bool) (hu : decide (m < s.size) = u) (v : Bool) (hv : decide (n ≤ 200) = v) (w : World) :
    Calls Tryd.prog 14 #[.string s, .int .i64 (a : Int)] w fun e w' => e = .returned (.tuple #[.agg #[.int .i64 3, .int .i64 0, .string (s.extract p m), .bool false, .bool false], .int .i64 ((n : Int) + 2), .bool (u && v)]) ∧ Below w.heap.size w w' := by
  have huT := Tryd.underlying32
  have huB := Tryd.underlying5
  have HIT := Aside0.mk (by kernel_rfl : (Tryd.prog.info? 32).map (·.size) = some 5)
  have HIB := Aside0.mk (by kernel_rfl : (Tryd.prog.info? 5).map (·.size) = some 1)
  have HS := Aside0.mk hs
  have HB := Aside0.mk (Below.refl w.heap.size w)
  have c5 : ((a : Int) < (s.size : Int)) = True := eq_true (by omega)
  have c5n : decide (a < s.size) = true := decide_eq_true ha
  have c5b : decide ((a : Int) < (s.size : Int)) = true := decide_eq_true (by omega)
  have c6 : (0 ≤ (a : Int)) = True := eq_true (by omega)
  have hx : ∀ h : a < s.size, ((s[a]'h).toNat : Int) = bt s (a : Int) := fun h => bt_at s (a : Int) h
  have HL := Aside0.mk hL
  have HD := Aside0.mk hD
  have HN := Aside0.mk hn
  have HZ := Aside0.mk hz
  have HZ2 := Aside0.mk hz2
  clear hn hz hz2 hL hD
  have HA := Aside0.mk (by omega : p ≤ s.size)
  have w0 : wrap64 ((a : Int) + 1) = (p : Int) := by unfold wrap64; omega
  have w0k : IntKind.i64.wrap ((a : Int) + 1) = (p : Int) := by rw [i64_w]; exact w0
  have w2 : wrap64 ((n : Int) + 2) = (n : Int) + 2 := by unfold wrap64; omega
  have w2k : IntKind.i64.wrap ((n : Int) + 2) = (n : Int) + 2 := by rw [i64_w]; exact w2
  have w1 : wrap64 ((p : Int) + (n : Int)) = (m : Int) := by unfold wrap64; omega
  have w1k : IntKind.i64.wrap ((p : Int) + (n : Int)) = (m : Int) := by rw [i64_w]; exact w1
  have l1 : ((p : Int) ≤ (m : Int)) = True := eq_true (by omega)
  have l1n : decide (p ≤ m) = true := decide_eq_true (by omega)
  have l1b : decide ((p : Int) ≤ (m : Int)) = true := decide_eq_true (by omega)
  have l2 : ((m : Int) ≤ (s.size : Int)) = True := eq_true (by omega)
  have l2n : decide (m ≤ s.size) = true := decide_eq_true (by omega)
  have l2b : decide ((m : Int) ≤ (s.size : Int)) = true := decide_eq_true (by omega)
  have t1 : decide ((n : Int) ≤ 200) = v := by rw [← hv]; exact decide_eq_decide.2 (by omega)
  have t1n : decide (n ≤ 200) = v := hv
  have c7 : (0 ≤ (p : Int)) = True := eq_true (by omega)
  have u1 : decide ((m : Int) < (s.size : Int)) = u := by rw [← hu]; exact decide_eq_decide.2 (by omega)
  have u2 : decide (m < s.size) = u := hu
  clear hp hm hm2 hu hv hs ha
  cases z with
  | true =>
    have z1 : ((bt s (a : Int)) == 39) = true := HZ.out
    clear HZ HZ2
    cases u with
    | true =>
      go_enter Tryd.func14, Tryd.ntmps14
      go_wp2_with (first | ((with_reducible refine gate_dst (N := 4) rfl ?_); refine box_event ?hg (N := 4) ?hd (cs := #[.int .i64 0, .int .i64 0, .string (⟨#[]⟩ : ByteArray), .bool false, .bool false]) (t := 32) ?hr ?_; (case hd => rfl); (case hg => rfl); (case hr => first | (go_simp; done) | (go_simp; rfl)); intro g4 hg wg4 hbox hb; have GE4 := Aside0.mk (by rw [hg]; exact HB.out.size : w.heap.size ≤ g4); replace HB := Aside0.mk (below_step HB.out hb); have BK4 := Aside0.mk hbox; clear hbox hg hb; (try simp only [Act.put, List.setIfInBounds_toArray, List.set_cons_zero, List.set_cons_succ])) | ((with_reducible refine gate_dst (N := 7) rfl ?_); refine box_event ?hg (N := 7) ?hd (cs := #[.int .u8 0]) (t := 5) ?hr ?_; (case hd => rfl); (case hg => rfl); (case hr => first | (go_simp; done) | (go_simp; rfl)); intro g7 hg wg7 hbox hb; have GE7 := Aside0.mk (by rw [hg]; exact HB.out.size : w.heap.size ≤ g7); have NE := Aside0.mk (by rw [hg]; exact Nat.ne_of_lt (blk_lt BK4.out) : g4 ≠ g7); replace HB := Aside0.mk (below_step HB.out hb); replace BK4 := Aside0.mk (blk_below BK4.out hb); have BK7 := Aside0.mk hbox; clear hbox hg hb; (try simp only [Act.put, List.setIfInBounds_toArray, List.set_cons_zero, List.set_cons_succ])) | ((with_reducible refine gate_store (t := 5) (p := 7) rfl ?_); refine Go.Proofs.YtcjnehnobnajnaaDoor.RowLaw.put_event rfl 5 _ _ rfl g7 0 (.int .u8 (bt s (a : Int))) rfl rfl [.int .u8 (bt s (a : Int))] rfl 5 _ #[.int .u8 (bt s (a : Int))] BK7.out HIB.out (Nat.le_of_ble_eq_true rfl) rfl rfl ?_; intro wp7 hk hoth hbel hz; replace HB := Aside0.mk (hbel _ _ HB.out GE7.out); replace BK4 := Aside0.mk ((hoth g4 NE.out).trans BK4.out); replace BK7 := Aside0.mk hk; clear hk hoth hbel hz; (try simp only [Act.put, List.setIfInBounds_toArray, List.set_cons_zero, List.set_cons_succ])) | ((with_reducible refine gate_dst (N := 18) rfl ?_); (try (refine gate_guard (by rfl) ?_; dsimp only)); refine Go.Proofs.YtcjnehnobnajnaaDoor.RowLaw.cell_event rfl 5 _ rfl g7 0 rfl 5 #[.int .u8 (bt s (a : Int))] _ (.int .u8 (bt s (a : Int))) BK7.out huB rfl rfl ?_; (try simp only [Act.put, List.setIfInBounds_toArray, List.set_cons_zero, List.set_cons_succ])) | ((with_reducible refine gate_dst (N := 34) rfl ?_); (try (refine gate_guard (by rfl) ?_; dsimp only)); refine Go.Proofs.YtcjnehnobnajnaaDoor.RowLaw.cell_event rfl 5 _ rfl g7 0 rfl 5 #[.int .u8 (bt s (a : Int))] _ (.int .u8 (bt s (a : Int))) BK7.out huB rfl rfl ?_; (try simp only [Act.put, List.setIfInBounds_toArray, List.set_cons_zero, List.set_cons_succ])) | ((with_reducible refine gate_dst (N := 54) rfl ?_); (try (refine gate_guard (by rfl) ?_; dsimp only)); refine Go.Proofs.YtcjnehnobnajnaaDoor.RowLaw.cell_event rfl 5 _ rfl g7 0 rfl 5 #[.int .u8 (bt s (a : Int))] _ (.int .u8 (bt s (a : Int))) BK7.out huB rfl rfl ?_; (try simp only [Act.put, List.setIfInBounds_toArray, List.set_cons_zero, List.set_cons_succ])) | ((with_reducible refine gate_dst (N := 57) rfl ?_); (try (refine gate_guard (by rfl) ?_; dsimp only)); refine Go.Proofs.YtcjnehnobnajnaaDoor.RowLaw.cell_event rfl 5 _ rfl g7 0 rfl 5 #[.int .u8 (bt s (a : Int))] _ (.int .u8 (bt s (a : Int))) BK7.out huB rfl rfl ?_; (try simp only [Act.put, List.setIfInBounds_toArray, List.set_cons_zero, List.set_cons_succ])) | ((with_reducible refine gate_callee (f := 22) rfl ?_); (with_reducible refine gate_dst (N := 19) rfl ?_); refine goesL_ (some 19) rfl rfl Tryd.func22 (by kernel_rfl) rfl #[.int .u8 (bt s (a : Int))] rfl (by (try simp only [List.map_toArray, List.map_cons, List.map_nil]); first | done | rfl) ?_; refine (impl_isLetter.calls (bt s (a : Int)) false _ HL.out).mono ?_; rintro e wd ⟨rfl, ⟨nd, rfl⟩⟩; refine ⟨_, rfl, ?_⟩; replace HB := Aside0.mk (below_step HB.out (pw_below_drewN (Below.refl _ _) nd)); replace BK4 := Aside0.mk (blk_below BK4.out (pw_below_drewN (Below.refl _ _) nd)); replace BK7 := Aside0.mk (blk_below BK7.out (pw_below_drewN (Below.refl _ _) nd)); generalize _root_.Go.World.drewN _ nd = wn at HB BK4 BK7 ⊢; (try simp only [Act.put, List.setIfInBounds_toArray, List.set_cons_zero, List.set_cons_succ])) | ((with_reducible refine gate_callee (f := 24) rfl ?_); (with_reducible refine gate_dst (N := 35) rfl ?_); refine goesL_ (some 35) rfl rfl Tryd.func24 (by kernel_rfl) rfl #[.int .u8 (bt s (a : Int))] rfl (by (try simp only [List.map_toArray, List.map_cons, List.map_nil]); first | done | rfl) ?_; refine (impl_isDigit.calls (bt s (a : Int)) false _ HD.out).mono ?_; rintro e wd ⟨rfl, ⟨nd, rfl⟩⟩; refine ⟨_, rfl, ?_⟩; replace HB := Aside0.mk (below_step HB.out (pw_below_drewN (Below.refl _ _) nd)); replace BK4 := Aside0.mk (blk_below BK4.out (pw_below_drewN (Below.refl _ _) nd)); replace BK7 := Aside0.mk (blk_below BK7.out (pw_below_drewN (Below.refl _ _) nd)); generalize _root_.Go.World.drewN _ nd = wn at HB BK4 BK7 ⊢; (try simp only [Act.put, List.setIfInBounds_toArray, List.set_cons_zero, List.set_cons_succ])) | ((with_reducible refine gate_callee (f := 12) rfl ?_); (with_reducible refine gate_dst (N := 64) rfl ?_); (try simp only [w0k, w0]); refine goesL_ (some 64) rfl rfl Tryd.func12 (by kernel_rfl) rfl #[.string s, .int .i64 (p : Int), .func (.func 26) #[] #[.pointer (some ⟨g7, 0, none⟩)]] rfl (by (try simp only [List.map_toArray, List.map_cons, List.map_nil]); first | done | rfl) ?_; refine (sp_ne s p HS.out HA.out (bt s (a : Int)) g7 _ BK7.out).mono ?_; rintro e wd ⟨rfl, hb⟩; rw [HN.out]; refine ⟨_, rfl, ?_⟩; replace HB := Aside0.mk (below_step HB.out hb); replace BK4 := Aside0.mk (blk_below BK4.out hb); replace BK7 := Aside0.mk (blk_below BK7.out hb); clear hb; (try simp only [Act.put, List.setIfInBounds_toArray, List.set_cons_zero, List.set_cons_succ])) | ((with_reducible refine gate_store (t := 32) (p := 4) rfl ?_); (try simp only [w0k, w0, w1k, w1, w2k, w2]); refine Go.Proofs.YtcjnehnobnajnaaDoor.RowLaw.put_event rfl 32 _ _ rfl g4 0 (.agg #[.int .i64 3, .int .i64 0, .string (s.extract p m), .bool false, .bool false]) rfl rfl [.int .i64 3, .int .i64 0, .string (s.extract p m), .bool false, .bool false] rfl 32 _ #[.int .i64 3, .int .i64 0, .string (s.extract p m), .bool false, .bool false] BK4.out HIT.out (Nat.le_of_ble_eq_true rfl) rfl rfl ?_; intro wp4 hk hoth hbel hz; replace HB := Aside0.mk (hbel _ _ HB.out GE4.out); replace BK4 := Aside0.mk hk; clear hk hoth hbel hz BK7; (try simp only [Act.put, List.setIfInBounds_toArray, List.set_cons_zero, List.set_cons_succ])))
      refine bodyPost_ret (results_ctt rfl _ _ g4 32 #[.int .i64 3, .int .i64 0, .string (s.extract p m), .bool false, .bool false] (0, 0) _ rfl BK4.out huT rfl HIT.out) rfl ?_
      exact ⟨by first | rfl | (simp; done), HB.out⟩
    | false =>
      go_enter Tryd.func14, Tryd.ntmps14
      go_wp2_with (first | ((with_reducible refine gate_dst (N := 4) rfl ?_); refine box_event ?hg (N := 4) ?hd (cs := #[.int .i64 0, .int .i64 0, .string (⟨#[]⟩ : ByteArray), .bool false, .bool false]) (t := 32) ?hr ?_; (case hd => rfl); (case hg => rfl); (case hr => first | (go_simp; done) | (go_simp; rfl)); intro g4 hg wg4 hbox hb; have GE4 := Aside0.mk (by rw [hg]; exact HB.out.size : w.heap.size ≤ g4); replace HB := Aside0.mk (below_step HB.out hb); have BK4 := Aside0.mk hbox; clear hbox hg hb; (try simp only [Act.put, List.setIfInBounds_toArray, List.set_cons_zero, List.set_cons_succ])) | ((with_reducible refine gate_dst (N := 7) rfl ?_); refine box_event ?hg (N := 7) ?hd (cs := #[.int .u8 0]) (t := 5) ?hr ?_; (case hd => rfl); (case hg => rfl); (case hr => first | (go_simp; done) | (go_simp; rfl)); intro g7 hg wg7 hbox hb; have GE7 := Aside0.mk (by rw [hg]; exact HB.out.size : w.heap.size ≤ g7); have NE := Aside0.mk (by rw [hg]; exact Nat.ne_of_lt (blk_lt BK4.out) : g4 ≠ g7); replace HB := Aside0.mk (below_step HB.out hb); replace BK4 := Aside0.mk (blk_below BK4.out hb); have BK7 := Aside0.mk hbox; clear hbox hg hb; (try simp only [Act.put, List.setIfInBounds_toArray, List.set_cons_zero, List.set_cons_succ])) | ((with_reducible refine gate_store (t := 5) (p := 7) rfl ?_); refine Go.Proofs.YtcjnehnobnajnaaDoor.RowLaw.put_event rfl 5 _ _ rfl g7 0 (.int .u8 (bt s (a : Int))) rfl rfl [.int .u8 (bt s (a : Int))] rfl 5 _ #[.int .u8 (bt s (a : Int))] BK7.out HIB.out (Nat.le_of_ble_eq_true rfl) rfl rfl ?_; intro wp7 hk hoth hbel hz; replace HB := Aside0.mk (hbel _ _ HB.out GE7.out); replace BK4 := Aside0.mk ((hoth g4 NE.out).trans BK4.out); replace BK7 := Aside0.mk hk; clear hk hoth hbel hz; (try simp only [Act.put, List.setIfInBounds_toArray, List.set_cons_zero, List.set_cons_succ])) | ((with_reducible refine gate_dst (N := 18) rfl ?_); (try (refine gate_guard (by rfl) ?_; dsimp only)); refine Go.Proofs.YtcjnehnobnajnaaDoor.RowLaw.cell_event rfl 5 _ rfl g7 0 rfl 5 #[.int .u8 (bt s (a : Int))] _ (.int .u8 (bt s (a : Int))) BK7.out huB rfl rfl ?_; (try simp only [Act.put, List.setIfInBounds_toArray, List.set_cons_zero, List.set_cons_succ])) | ((with_reducible refine gate_dst (N := 34) rfl ?_); (try (refine gate_guard (by rfl) ?_; dsimp only)); refine Go.Proofs.YtcjnehnobnajnaaDoor.RowLaw.cell_event rfl 5 _ rfl g7 0 rfl 5 #[.int .u8 (bt s (a : Int))] _ (.int .u8 (bt s (a : Int))) BK7.out huB rfl rfl ?_; (try simp only [Act.put, List.setIfInBounds_toArray, List.set_cons_zero, List.set_cons_succ])) | ((with_reducible refine gate_dst (N := 54) rfl ?_); (try (refine gate_guard (by rfl) ?_; dsimp only)); refine Go.Proofs.YtcjnehnobnajnaaDoor.RowLaw.cell_event rfl 5 _ rfl g7 0 rfl 5 #[.int .u8 (bt s (a : Int))] _ (.int .u8 (bt s (a : Int))) BK7.out huB rfl rfl ?_; (try simp only [Act.put, List.setIfInBounds_toArray, List.set_cons_zero, List.set_cons_succ])) | ((with_reducible refine gate_dst (N := 57) rfl ?_); (try (refine gate_guard (by rfl) ?_; dsimp only)); refine Go.Proofs.YtcjnehnobnajnaaDoor.RowLaw.cell_event rfl 5 _ rfl g7 0 rfl 5 #[.int .u8 (bt s (a : Int))] _ (.int .u8 (bt s (a : Int))) BK7.out huB rfl rfl ?_; (try simp only [Act.put, List.setIfInBounds_toArray, List.set_cons_zero, List.set_cons_succ])) | ((with_reducible refine gate_callee (f := 22) rfl ?_); (with_reducible refine gate_dst (N := 19) rfl ?_); refine goesL_ (some 19) rfl rfl Tryd.func22 (by kernel_rfl) rfl #[.int .u8 (bt s (a : Int))] rfl (by (try simp only [List.map_toArray, List.map_cons, List.map_nil]); first | done | rfl) ?_; refine (impl_isLetter.calls (bt s (a : Int)) false _ HL.out).mono ?_; rintro e wd ⟨rfl, ⟨nd, rfl⟩⟩; refine ⟨_, rfl, ?_⟩; replace HB := Aside0.mk (below_step HB.out (pw_below_drewN (Below.refl _ _) nd)); replace BK4 := Aside0.mk (blk_below BK4.out (pw_below_drewN (Below.refl _ _) nd)); replace BK7 := Aside0.mk (blk_below BK7.out (pw_below_drewN (Below.refl _ _) nd)); generalize _root_.Go.World.drewN _ nd = wn at HB BK4 BK7 ⊢; (try simp only [Act.put, List.setIfInBounds_toArray, List.set_cons_zero, List.set_cons_succ])) | ((with_reducible refine gate_callee (f := 24) rfl ?_); (with_reducible refine gate_dst (N := 35) rfl ?_); refine goesL_ (some 35) rfl rfl Tryd.func24 (by kernel_rfl) rfl #[.int .u8 (bt s (a : Int))] rfl (by (try simp only [List.map_toArray, List.map_cons, List.map_nil]); first | done | rfl) ?_; refine (impl_isDigit.calls (bt s (a : Int)) false _ HD.out).mono ?_; rintro e wd ⟨rfl, ⟨nd, rfl⟩⟩; refine ⟨_, rfl, ?_⟩; replace HB := Aside0.mk (below_step HB.out (pw_below_drewN (Below.refl _ _) nd)); replace BK4 := Aside0.mk (blk_below BK4.out (pw_below_drewN (Below.refl _ _) nd)); replace BK7 := Aside0.mk (blk_below BK7.out (pw_below_drewN (Below.refl _ _) nd)); generalize _root_.Go.World.drewN _ nd = wn at HB BK4 BK7 ⊢; (try simp only [Act.put, List.setIfInBounds_toArray, List.set_cons_zero, List.set_cons_succ])) | ((with_reducible refine gate_callee (f := 12) rfl ?_); (with_reducible refine gate_dst (N := 64) rfl ?_); (try simp only [w0k, w0]); refine goesL_ (some 64) rfl rfl Tryd.func12 (by kernel_rfl) rfl #[.string s, .int .i64 (p : Int), .func (.func 26) #[] #[.pointer (some ⟨g7, 0, none⟩)]] rfl (by (try simp only [List.map_toArray, List.map_cons, List.map_nil]); first | done | rfl) ?_; refine (sp_ne s p HS.out HA.out (bt s (a : Int)) g7 _ BK7.out).mono ?_; rintro e wd ⟨rfl, hb⟩; rw [HN.out]; refine ⟨_, rfl, ?_⟩; replace HB := Aside0.mk (below_step HB.out hb); replace BK4 := Aside0.mk (blk_below BK4.out hb); replace BK7 := Aside0.mk (blk_below BK7.out hb); clear hb; (try simp only [Act.put, List.setIfInBounds_toArray, List.set_cons_zero, List.set_cons_succ])) | ((with_reducible refine gate_store (t := 32) (p := 4) rfl ?_); (try simp only [w0k, w0, w1k, w1, w2k, w2]); refine Go.Proofs.YtcjnehnobnajnaaDoor.RowLaw.put_event rfl 32 _ _ rfl g4 0 (.agg #[.int .i64 3, .int .i64 0, .string (s.extract p m), .bool false, .bool false]) rfl rfl [.int .i64 3, .int .i64 0, .string (s.extract p m), .bool false, .bool false] rfl 32 _ #[.int .i64 3, .int .i64 0, .string (s.extract p m), .bool false, .bool false] BK4.out HIT.out (Nat.le_of_ble_eq_true rfl) rfl rfl ?_; intro wp4 hk hoth hbel hz; replace HB := Aside0.mk (hbel _ _ HB.out GE4.out); replace BK4 := Aside0.mk hk; clear hk hoth hbel hz BK7; (try simp only [Act.put, List.setIfInBounds_toArray, List.set_cons_zero, List.set_cons_succ])))
      refine bodyPost_ret (results_ctt rfl _ _ g4 32 #[.int .i64 3, .int .i64 0, .string (s.extract p m), .bool false, .bool false] (0, 0) _ rfl BK4.out huT rfl HIT.out) rfl ?_
      exact ⟨by first | rfl | (simp; done), HB.out⟩
  | false =>
    have z1 : ((bt s (a : Int)) == 39) = false := HZ.out
    have z2 : ((bt s (a : Int)) == 34) = true := HZ2.out rfl
    clear HZ HZ2
    cases u with
    | true =>
      go_enter Tryd.func14, Tryd.ntmps14
      go_wp2_with (first | ((with_reducible refine gate_dst (N := 4) rfl ?_); refine box_event ?hg (N := 4) ?hd (cs := #[.int .i64 0, .int .i64 0, .string (⟨#[]⟩ : ByteArray), .bool false, .bool false]) (t := 32) ?hr ?_; (case hd => rfl); (case hg => rfl); (case hr => first | (go_simp; done) | (go_simp; rfl)); intro g4 hg wg4 hbox hb; have GE4 := Aside0.mk (by rw [hg]; exact HB.out.size : w.heap.size ≤ g4); replace HB := Aside0.mk (below_step HB.out hb); have BK4 := Aside0.mk hbox; clear hbox hg hb; (try simp only [Act.put, List.setIfInBounds_toArray, List.set_cons_zero, List.set_cons_succ])) | ((with_reducible refine gate_dst (N := 7) rfl ?_); refine box_event ?hg (N := 7) ?hd (cs := #[.int .u8 0]) (t := 5) ?hr ?_; (case hd => rfl); (case hg => rfl); (case hr => first | (go_simp; done) | (go_simp; rfl)); intro g7 hg wg7 hbox hb; have GE7 := Aside0.mk (by rw [hg]; exact HB.out.size : w.heap.size ≤ g7); have NE := Aside0.mk (by rw [hg]; exact Nat.ne_of_lt (blk_lt BK4.out) : g4 ≠ g7); replace HB := Aside0.mk (below_step HB.out hb); replace BK4 := Aside0.mk (blk_below BK4.out hb); have BK7 := Aside0.mk hbox; clear hbox hg hb; (try simp only [Act.put, List.setIfInBounds_toArray, List.set_cons_zero, List.set_cons_succ])) | ((with_reducible refine gate_store (t := 5) (p := 7) rfl ?_); refine Go.Proofs.YtcjnehnobnajnaaDoor.RowLaw.put_event rfl 5 _ _ rfl g7 0 (.int .u8 (bt s (a : Int))) rfl rfl [.int .u8 (bt s (a : Int))] rfl 5 _ #[.int .u8 (bt s (a : Int))] BK7.out HIB.out (Nat.le_of_ble_eq_true rfl) rfl rfl ?_; intro wp7 hk hoth hbel hz; replace HB := Aside0.mk (hbel _ _ HB.out GE7.out); replace BK4 := Aside0.mk ((hoth g4 NE.out).trans BK4.out); replace BK7 := Aside0.mk hk; clear hk hoth hbel hz; (try simp only [Act.put, List.setIfInBounds_toArray, List.set_cons_zero, List.set_cons_succ])) | ((with_reducible refine gate_dst (N := 18) rfl ?_); (try (refine gate_guard (by rfl) ?_; dsimp only)); refine Go.Proofs.YtcjnehnobnajnaaDoor.RowLaw.cell_event rfl 5 _ rfl g7 0 rfl 5 #[.int .u8 (bt s (a : Int))] _ (.int .u8 (bt s (a : Int))) BK7.out huB rfl rfl ?_; (try simp only [Act.put, List.setIfInBounds_toArray, List.set_cons_zero, List.set_cons_succ])) | ((with_reducible refine gate_dst (N := 34) rfl ?_); (try (refine gate_guard (by rfl) ?_; dsimp only)); refine Go.Proofs.YtcjnehnobnajnaaDoor.RowLaw.cell_event rfl 5 _ rfl g7 0 rfl 5 #[.int .u8 (bt s (a : Int))] _ (.int .u8 (bt s (a : Int))) BK7.out huB rfl rfl ?_; (try simp only [Act.put, List.setIfInBounds_toArray, List.set_cons_zero, List.set_cons_succ])) | ((with_reducible refine gate_dst (N := 54) rfl ?_); (try (refine gate_guard (by rfl) ?_; dsimp only)); refine Go.Proofs.YtcjnehnobnajnaaDoor.RowLaw.cell_event rfl 5 _ rfl g7 0 rfl 5 #[.int .u8 (bt s (a : Int))] _ (.int .u8 (bt s (a : Int))) BK7.out huB rfl rfl ?_; (try simp only [Act.put, List.setIfInBounds_toArray, List.set_cons_zero, List.set_cons_succ])) | ((with_reducible refine gate_dst (N := 57) rfl ?_); (try (refine gate_guard (by rfl) ?_; dsimp only)); refine Go.Proofs.YtcjnehnobnajnaaDoor.RowLaw.cell_event rfl 5 _ rfl g7 0 rfl 5 #[.int .u8 (bt s (a : Int))] _ (.int .u8 (bt s (a : Int))) BK7.out huB rfl rfl ?_; (try simp only [Act.put, List.setIfInBounds_toArray, List.set_cons_zero, List.set_cons_succ])) | ((with_reducible refine gate_callee (f := 22) rfl ?_); (with_reducible refine gate_dst (N := 19) rfl ?_); refine goesL_ (some 19) rfl rfl Tryd.func22 (by kernel_rfl) rfl #[.int .u8 (bt s (a : Int))] rfl (by (try simp only [List.map_toArray, List.map_cons, List.map_nil]); first | done | rfl) ?_; refine (impl_isLetter.calls (bt s (a : Int)) false _ HL.out).mono ?_; rintro e wd ⟨rfl, ⟨nd, rfl⟩⟩; refine ⟨_, rfl, ?_⟩; replace HB := Aside0.mk (below_step HB.out (pw_below_drewN (Below.refl _ _) nd)); replace BK4 := Aside0.mk (blk_below BK4.out (pw_below_drewN (Below.refl _ _) nd)); replace BK7 := Aside0.mk (blk_below BK7.out (pw_below_drewN (Below.refl _ _) nd)); generalize _root_.Go.World.drewN _ nd = wn at HB BK4 BK7 ⊢; (try simp only [Act.put, List.setIfInBounds_toArray, List.set_cons_zero, List.set_cons_succ])) | ((with_reducible refine gate_callee (f := 24) rfl ?_); (with_reducible refine gate_dst (N := 35) rfl ?_); refine goesL_ (some 35) rfl rfl Tryd.func24 (by kernel_rfl) rfl #[.int .u8 (bt s (a : Int))] rfl (by (try simp only [List.map_toArray, List.map_cons, List.map_nil]); first | done | rfl) ?_; refine (impl_isDigit.calls (bt s (a : Int)) false _ HD.out).mono ?_; rintro e wd ⟨rfl, ⟨nd, rfl⟩⟩; refine ⟨_, rfl, ?_⟩; replace HB := Aside0.mk (below_step HB.out (pw_below_drewN (Below.refl _ _) nd)); replace BK4 := Aside0.mk (blk_below BK4.out (pw_below_drewN (Below.refl _ _) nd)); replace BK7 := Aside0.mk (blk_below BK7.out (pw_below_drewN (Below.refl _ _) nd)); generalize _root_.Go.World.drewN _ nd = wn at HB BK4 BK7 ⊢; (try simp only [Act.put, List.setIfInBounds_toArray, List.set_cons_zero, List.set_cons_succ])) | ((with_reducible refine gate_callee (f := 12) rfl ?_); (with_reducible refine gate_dst (N := 64) rfl ?_); (try simp only [w0k, w0]); refine goesL_ (some 64) rfl rfl Tryd.func12 (by kernel_rfl) rfl #[.string s, .int .i64 (p : Int), .func (.func 26) #[] #[.pointer (some ⟨g7, 0, none⟩)]] rfl (by (try simp only [List.map_toArray, List.map_cons, List.map_nil]); first | done | rfl) ?_; refine (sp_ne s p HS.out HA.out (bt s (a : Int)) g7 _ BK7.out).mono ?_; rintro e wd ⟨rfl, hb⟩; rw [HN.out]; refine ⟨_, rfl, ?_⟩; replace HB := Aside0.mk (below_step HB.out hb); replace BK4 := Aside0.mk (blk_below BK4.out hb); replace BK7 := Aside0.mk (blk_below BK7.out hb); clear hb; (try simp only [Act.put, List.setIfInBounds_toArray, List.set_cons_zero, List.set_cons_succ])) | ((with_reducible refine gate_store (t := 32) (p := 4) rfl ?_); (try simp only [w0k, w0, w1k, w1, w2k, w2]); refine Go.Proofs.YtcjnehnobnajnaaDoor.RowLaw.put_event rfl 32 _ _ rfl g4 0 (.agg #[.int .i64 3, .int .i64 0, .string (s.extract p m), .bool false, .bool false]) rfl rfl [.int .i64 3, .int .i64 0, .string (s.extract p m), .bool false, .bool false] rfl 32 _ #[.int .i64 3, .int .i64 0, .string (s.extract p m), .bool false, .bool false] BK4.out HIT.out (Nat.le_of_ble_eq_true rfl) rfl rfl ?_; intro wp4 hk hoth hbel hz; replace HB := Aside0.mk (hbel _ _ HB.out GE4.out); replace BK4 := Aside0.mk hk; clear hk hoth hbel hz BK7; (try simp only [Act.put, List.setIfInBounds_toArray, List.set_cons_zero, List.set_cons_succ])))
      refine bodyPost_ret (results_ctt rfl _ _ g4 32 #[.int .i64 3, .int .i64 0, .string (s.extract p m), .bool false, .bool false] (0, 0) _ rfl BK4.out huT rfl HIT.out) rfl ?_
      exact ⟨by first | rfl | (simp; done), HB.out⟩
    | false =>
      go_enter Tryd.func14, Tryd.ntmps14
      go_wp2_with (first | ((with_reducible refine gate_dst (N := 4) rfl ?_); refine box_event ?hg (N := 4) ?hd (cs := #[.int .i64 0, .int .i64 0, .string (⟨#[]⟩ : ByteArray), .bool false, .bool false]) (t := 32) ?hr ?_; (case hd => rfl); (case hg => rfl); (case hr => first | (go_simp; done) | (go_simp; rfl)); intro g4 hg wg4 hbox hb; have GE4 := Aside0.mk (by rw [hg]; exact HB.out.size : w.heap.size ≤ g4); replace HB := Aside0.mk (below_step HB.out hb); have BK4 := Aside0.mk hbox; clear hbox hg hb; (try simp only [Act.put, List.setIfInBounds_toArray, List.set_cons_zero, List.set_cons_succ])) | ((with_reducible refine gate_dst (N := 7) rfl ?_); refine box_event ?hg (N := 7) ?hd (cs := #[.int .u8 0]) (t := 5) ?hr ?_; (case hd => rfl); (case hg => rfl); (case hr => first | (go_simp; done) | (go_simp; rfl)); intro g7 hg wg7 hbox hb; have GE7 := Aside0.mk (by rw [hg]; exact HB.out.size : w.heap.size ≤ g7); have NE := Aside0.mk (by rw [hg]; exact Nat.ne_of_lt (blk_lt BK4.out) : g4 ≠ g7); replace HB := Aside0.mk (below_step HB.out hb); replace BK4 := Aside0.mk (blk_below BK4.out hb); have BK7 := Aside0.mk hbox; clear hbox hg hb; (try simp only [Act.put, List.setIfInBounds_toArray, List.set_cons_zero, List.set_cons_succ])) | ((with_reducible refine gate_store (t := 5) (p := 7) rfl ?_); refine Go.Proofs.YtcjnehnobnajnaaDoor.RowLaw.put_event rfl 5 _ _ rfl g7 0 (.int .u8 (bt s (a : Int))) rfl rfl [.int .u8 (bt s (a : Int))] rfl 5 _ #[.int .u8 (bt s (a : Int))] BK7.out HIB.out (Nat.le_of_ble_eq_true rfl) rfl rfl ?_; intro wp7 hk hoth hbel hz; replace HB := Aside0.mk (hbel _ _ HB.out GE7.out); replace BK4 := Aside0.mk ((hoth g4 NE.out).trans BK4.out); replace BK7 := Aside0.mk hk; clear hk hoth hbel hz; (try simp only [Act.put, List.setIfInBounds_toArray, List.set_cons_zero, List.set_cons_succ])) | ((with_reducible refine gate_dst (N := 18) rfl ?_); (try (refine gate_guard (by rfl) ?_; dsimp only)); refine Go.Proofs.YtcjnehnobnajnaaDoor.RowLaw.cell_event rfl 5 _ rfl g7 0 rfl 5 #[.int .u8 (bt s (a : Int))] _ (.int .u8 (bt s (a : Int))) BK7.out huB rfl rfl ?_; (try simp only [Act.put, List.setIfInBounds_toArray, List.set_cons_zero, List.set_cons_succ])) | ((with_reducible refine gate_dst (N := 34) rfl ?_); (try (refine gate_guard (by rfl) ?_; dsimp only)); refine Go.Proofs.YtcjnehnobnajnaaDoor.RowLaw.cell_event rfl 5 _ rfl g7 0 rfl 5 #[.int .u8 (bt s (a : Int))] _ (.int .u8 (bt s (a : Int))) BK7.out huB rfl rfl ?_; (try simp only [Act.put, List.setIfInBounds_toArray, List.set_cons_zero, List.set_cons_succ])) | ((with_reducible refine gate_dst (N := 54) rfl ?_); (try (refine gate_guard (by rfl) ?_; dsimp only)); refine Go.Proofs.YtcjnehnobnajnaaDoor.RowLaw.cell_event rfl 5 _ rfl g7 0 rfl 5 #[.int .u8 (bt s (a : Int))] _ (.int .u8 (bt s (a : Int))) BK7.out huB rfl rfl ?_; (try simp only [Act.put, List.setIfInBounds_toArray, List.set_cons_zero, List.set_cons_succ])) | ((with_reducible refine gate_dst (N := 57) rfl ?_); (try (refine gate_guard (by rfl) ?_; dsimp only)); refine Go.Proofs.YtcjnehnobnajnaaDoor.RowLaw.cell_event rfl 5 _ rfl g7 0 rfl 5 #[.int .u8 (bt s (a : Int))] _ (.int .u8 (bt s (a : Int))) BK7.out huB rfl rfl ?_; (try simp only [Act.put, List.setIfInBounds_toArray, List.set_cons_zero, List.set_cons_succ])) | ((with_reducible refine gate_callee (f := 22) rfl ?_); (with_reducible refine gate_dst (N := 19) rfl ?_); refine goesL_ (some 19) rfl rfl Tryd.func22 (by kernel_rfl) rfl #[.int .u8 (bt s (a : Int))] rfl (by (try simp only [List.map_toArray, List.map_cons, List.map_nil]); first | done | rfl) ?_; refine (impl_isLetter.calls (bt s (a : Int)) false _ HL.out).mono ?_; rintro e wd ⟨rfl, ⟨nd, rfl⟩⟩; refine ⟨_, rfl, ?_⟩; replace HB := Aside0.mk (below_step HB.out (pw_below_drewN (Below.refl _ _) nd)); replace BK4 := Aside0.mk (blk_below BK4.out (pw_below_drewN (Below.refl _ _) nd)); replace BK7 := Aside0.mk (blk_below BK7.out (pw_below_drewN (Below.refl _ _) nd)); generalize _root_.Go.World.drewN _ nd = wn at HB BK4 BK7 ⊢; (try simp only [Act.put, List.setIfInBounds_toArray, List.set_cons_zero, List.set_cons_succ])) | ((with_reducible refine gate_callee (f := 24) rfl ?_); (with_reducible refine gate_dst (N := 35) rfl ?_); refine goesL_ (some 35) rfl rfl Tryd.func24 (by kernel_rfl) rfl #[.int .u8 (bt s (a : Int))] rfl (by (try simp only [List.map_toArray, List.map_cons, List.map_nil]); first | done | rfl) ?_; refine (impl_isDigit.calls (bt s (a : Int)) false _ HD.out).mono ?_; rintro e wd ⟨rfl, ⟨nd, rfl⟩⟩; refine ⟨_, rfl, ?_⟩; replace HB := Aside0.mk (below_step HB.out (pw_below_drewN (Below.refl _ _) nd)); replace BK4 := Aside0.mk (blk_below BK4.out (pw_below_drewN (Below.refl _ _) nd)); replace BK7 := Aside0.mk (blk_below BK7.out (pw_below_drewN (Below.refl _ _) nd)); generalize _root_.Go.World.drewN _ nd = wn at HB BK4 BK7 ⊢; (try simp only [Act.put, List.setIfInBounds_toArray, List.set_cons_zero, List.set_cons_succ])) | ((with_reducible refine gate_callee (f := 12) rfl ?_); (with_reducible refine gate_dst (N := 64) rfl ?_); (try simp only [w0k, w0]); refine goesL_ (some 64) rfl rfl Tryd.func12 (by kernel_rfl) rfl #[.string s, .int .i64 (p : Int), .func (.func 26) #[] #[.pointer (some ⟨g7, 0, none⟩)]] rfl (by (try simp only [List.map_toArray, List.map_cons, List.map_nil]); first | done | rfl) ?_; refine (sp_ne s p HS.out HA.out (bt s (a : Int)) g7 _ BK7.out).mono ?_; rintro e wd ⟨rfl, hb⟩; rw [HN.out]; refine ⟨_, rfl, ?_⟩; replace HB := Aside0.mk (below_step HB.out hb); replace BK4 := Aside0.mk (blk_below BK4.out hb); replace BK7 := Aside0.mk (blk_below BK7.out hb); clear hb; (try simp only [Act.put, List.setIfInBounds_toArray, List.set_cons_zero, List.set_cons_succ])) | ((with_reducible refine gate_store (t := 32) (p := 4) rfl ?_); (try simp only [w0k, w0, w1k, w1, w2k, w2]); refine Go.Proofs.YtcjnehnobnajnaaDoor.RowLaw.put_event rfl 32 _ _ rfl g4 0 (.agg #[.int .i64 3, .int .i64 0, .string (s.extract p m), .bool false, .bool false]) rfl rfl [.int .i64 3, .int .i64 0, .string (s.extract p m), .bool false, .bool false] rfl 32 _ #[.int .i64 3, .int .i64 0, .string (s.extract p m), .bool false, .bool false] BK4.out HIT.out (Nat.le_of_ble_eq_true rfl) rfl rfl ?_; intro wp4 hk hoth hbel hz; replace HB := Aside0.mk (hbel _ _ HB.out GE4.out); replace BK4 := Aside0.mk hk; clear hk hoth hbel hz BK7; (try simp only [Act.put, List.setIfInBounds_toArray, List.set_cons_zero, List.set_cons_succ])))
      refine bodyPost_ret (results_ctt rfl _ _ g4 32 #[.int .i64 3, .int .i64 0, .string (s.extract p m), .bool false, .bool false] (0, 0) _ rfl BK4.out huT rfl HIT.out) rfl ?_
      exact ⟨by first | rfl | (simp; done), HB.out⟩
set_option maxHeartbeats 8000000 in
set_option maxRecDepth 100000 in
theorem st_op (s : ByteArray) (a : Nat) (hs : s.size ≤ 1000000) (ha : a < s.size) (hL : impl_isLetter.f (bt s (a : Int)) = some false) (hD : impl_isDigit.f (bt s (a : Int)) = some false) (h39 : ((bt s (a : Int)) == 39) = false) (h34 : ((bt s (a : Int)) == 34) = false) (i : Int) (hi : strings_IndexByte.f (⟨#[43, 45, 42, 47, 124, 46, 36, 64, 61]⟩ : ByteArray) (bt s (a : Int)) = some i) (h0 : 0 ≤ i) (w : World) :
    Calls Tryd.prog 14 #[.string s, .int .i64 (a : Int)] w fun e w' => e = .returned (.tuple #[.agg #[.int .i64 4, .int .i64 0, .string (Utf8.encode (bt s (a : Int))), .bool false, .bool false], .int .i64 1, .bool true]) ∧ Below w.heap.size w w' := by
  have huT := Tryd.underlying32
  have huB := Tryd.underlying5
  have HIT := Aside0.mk (by kernel_rfl : (Tryd.prog.info? 32).map (·.size) = some 5)
  have HIB := Aside0.mk (by kernel_rfl : (Tryd.prog.info? 5).map (·.size) = some 1)
  have HS := Aside0.mk hs
  have HB := Aside0.mk (Below.refl w.heap.size w)
  have c5 : ((a : Int) < (s.size : Int)) = True := eq_true (by omega)
  have c5n : decide (a < s.size) = true := decide_eq_true ha
  have c5b : decide ((a : Int) < (s.size : Int)) = true := decide_eq_true (by omega)
  have c6 : (0 ≤ (a : Int)) = True := eq_true (by omega)
  have hx : ∀ h : a < s.size, ((s[a]'h).toNat : Int) = bt s (a : Int) := fun h => bt_at s (a : Int) h
  have g1 : (i ≥ 0) = True := eq_true h0
  have g2 : decide (i ≥ 0) = true := decide_eq_true h0
  have g3 : decide (0 ≤ i) = true := decide_eq_true h0
  have g4 : (0 ≤ i) = True := eq_true h0
  have HL := Aside0.mk hL
  have HD := Aside0.mk hD
  have HI := Aside0.mk hi
  clear hL hD hi hs ha h0
  go_enter Tryd.func14, Tryd.ntmps14
  go_wp2_with (first | ((with_reducible refine gate_dst (N := 4) rfl ?_); refine box_event ?hg (N := 4) ?hd (cs := #[.int .i64 0, .int .i64 0, .string (⟨#[]⟩ : ByteArray), .bool false, .bool false]) (t := 32) ?hr ?_; (case hd => rfl); (case hg => rfl); (case hr => first | (go_simp; done) | (go_simp; rfl)); intro g4 hg wg4 hbox hb; have GE4 := Aside0.mk (by rw [hg]; exact HB.out.size : w.heap.size ≤ g4); replace HB := Aside0.mk (below_step HB.out hb); have BK4 := Aside0.mk hbox; clear hbox hg hb; (try simp only [Act.put, List.setIfInBounds_toArray, List.set_cons_zero, List.set_cons_succ])) | ((with_reducible refine gate_dst (N := 7) rfl ?_); refine box_event ?hg (N := 7) ?hd (cs := #[.int .u8 0]) (t := 5) ?hr ?_; (case hd => rfl); (case hg => rfl); (case hr => first | (go_simp; done) | (go_simp; rfl)); intro g7 hg wg7 hbox hb; have GE7 := Aside0.mk (by rw [hg]; exact HB.out.size : w.heap.size ≤ g7); have NE := Aside0.mk (by rw [hg]; exact Nat.ne_of_lt (blk_lt BK4.out) : g4 ≠ g7); replace HB := Aside0.mk (below_step HB.out hb); replace BK4 := Aside0.mk (blk_below BK4.out hb); have BK7 := Aside0.mk hbox; clear hbox hg hb; (try simp only [Act.put, List.setIfInBounds_toArray, List.set_cons_zero, List.set_cons_succ])) | ((with_reducible refine gate_store (t := 5) (p := 7) rfl ?_); refine Go.Proofs.YtcjnehnobnajnaaDoor.RowLaw.put_event rfl 5 _ _ rfl g7 0 (.int .u8 (bt s (a : Int))) rfl rfl [.int .u8 (bt s (a : Int))] rfl 5 _ #[.int .u8 (bt s (a : Int))] BK7.out HIB.out (Nat.le_of_ble_eq_true rfl) rfl rfl ?_; intro wp7 hk hoth hbel hz; replace HB := Aside0.mk (hbel _ _ HB.out GE7.out); replace BK4 := Aside0.mk ((hoth g4 NE.out).trans BK4.out); replace BK7 := Aside0.mk hk; clear hk hoth hbel hz; (try simp only [Act.put, List.setIfInBounds_toArray, List.set_cons_zero, List.set_cons_succ])) | ((with_reducible refine gate_dst (N := 18) rfl ?_); (try (refine gate_guard (by rfl) ?_; dsimp only)); refine Go.Proofs.YtcjnehnobnajnaaDoor.RowLaw.cell_event rfl 5 _ rfl g7 0 rfl 5 #[.int .u8 (bt s (a : Int))] _ (.int .u8 (bt s (a : Int))) BK7.out huB rfl rfl ?_; (try simp only [Act.put, List.setIfInBounds_toArray, List.set_cons_zero, List.set_cons_succ])) | ((with_reducible refine gate_dst (N := 34) rfl ?_); (try (refine gate_guard (by rfl) ?_; dsimp only)); refine Go.Proofs.YtcjnehnobnajnaaDoor.RowLaw.cell_event rfl 5 _ rfl g7 0 rfl 5 #[.int .u8 (bt s (a : Int))] _ (.int .u8 (bt s (a : Int))) BK7.out huB rfl rfl ?_; (try simp only [Act.put, List.setIfInBounds_toArray, List.set_cons_zero, List.set_cons_succ])) | ((with_reducible refine gate_dst (N := 54) rfl ?_); (try (refine gate_guard (by rfl) ?_; dsimp only)); refine Go.Proofs.YtcjnehnobnajnaaDoor.RowLaw.cell_event rfl 5 _ rfl g7 0 rfl 5 #[.int .u8 (bt s (a : Int))] _ (.int .u8 (bt s (a : Int))) BK7.out huB rfl rfl ?_; (try simp only [Act.put, List.setIfInBounds_toArray, List.set_cons_zero, List.set_cons_succ])) | ((with_reducible refine gate_dst (N := 57) rfl ?_); (try (refine gate_guard (by rfl) ?_; dsimp only)); refine Go.Proofs.YtcjnehnobnajnaaDoor.RowLaw.cell_event rfl 5 _ rfl g7 0 rfl 5 #[.int .u8 (bt s (a : Int))] _ (.int .u8 (bt s (a : Int))) BK7.out huB rfl rfl ?_; (try simp only [Act.put, List.setIfInBounds_toArray, List.set_cons_zero, List.set_cons_succ])) | ((with_reducible refine gate_dst (N := 88) rfl ?_); (try (refine gate_guard (by rfl) ?_; dsimp only)); refine Go.Proofs.YtcjnehnobnajnaaDoor.RowLaw.cell_event rfl 5 _ rfl g7 0 rfl 5 #[.int .u8 (bt s (a : Int))] _ (.int .u8 (bt s (a : Int))) BK7.out huB rfl rfl ?_; (try simp only [Act.put, List.setIfInBounds_toArray, List.set_cons_zero, List.set_cons_succ])) | ((with_reducible refine gate_callee (f := 22) rfl ?_); (with_reducible refine gate_dst (N := 19) rfl ?_); refine goesL_ (some 19) rfl rfl Tryd.func22 (by kernel_rfl) rfl #[.int .u8 (bt s (a : Int))] rfl (by (try simp only [List.map_toArray, List.map_cons, List.map_nil]); first | done | rfl) ?_; refine (impl_isLetter.calls (bt s (a : Int)) false _ HL.out).mono ?_; rintro e wd ⟨rfl, ⟨nd, rfl⟩⟩; refine ⟨_, rfl, ?_⟩; replace HB := Aside0.mk (below_step HB.out (pw_below_drewN (Below.refl _ _) nd)); replace BK4 := Aside0.mk (blk_below BK4.out (pw_below_drewN (Below.refl _ _) nd)); replace BK7 := Aside0.mk (blk_below BK7.out (pw_below_drewN (Below.refl _ _) nd)); generalize _root_.Go.World.drewN _ nd = wn at HB BK4 BK7 ⊢; (try simp only [Act.put, List.setIfInBounds_toArray, List.set_cons_zero, List.set_cons_succ])) | ((with_reducible refine gate_callee (f := 24) rfl ?_); (with_reducible refine gate_dst (N := 35) rfl ?_); refine goesL_ (some 35) rfl rfl Tryd.func24 (by kernel_rfl) rfl #[.int .u8 (bt s (a : Int))] rfl (by (try simp only [List.map_toArray, List.map_cons, List.map_nil]); first | done | rfl) ?_; refine (impl_isDigit.calls (bt s (a : Int)) false _ HD.out).mono ?_; rintro e wd ⟨rfl, ⟨nd, rfl⟩⟩; refine ⟨_, rfl, ?_⟩; replace HB := Aside0.mk (below_step HB.out (pw_below_drewN (Below.refl _ _) nd)); replace BK4 := Aside0.mk (blk_below BK4.out (pw_below_drewN (Below.refl _ _) nd)); replace BK7 := Aside0.mk (blk_below BK7.out (pw_below_drewN (Below.refl _ _) nd)); generalize _root_.Go.World.drewN _ nd = wn at HB BK4 BK7 ⊢; (try simp only [Act.put, List.setIfInBounds_toArray, List.set_cons_zero, List.set_cons_succ])) | ((with_reducible refine gate_callee (f := 27) rfl ?_); (with_reducible refine gate_dst (N := 89) rfl ?_); refine goesL_ (some 89) rfl rfl Tryd.func27 (by kernel_rfl) rfl #[.string (⟨#[43, 45, 42, 47, 124, 46, 36, 64, 61]⟩ : ByteArray), .int .u8 (bt s (a : Int))] rfl (by (try simp only [List.map_toArray, List.map_cons, List.map_nil]); first | done | rfl) ?_; refine (strings_IndexByte.calls (⟨#[43, 45, 42, 47, 124, 46, 36, 64, 61]⟩ : ByteArray) (bt s (a : Int)) i _ HI.out).mono ?_; rintro e wd ⟨rfl, ⟨nd, rfl⟩⟩; refine ⟨_, rfl, ?_⟩; replace HB := Aside0.mk (below_step HB.out (pw_below_drewN (Below.refl _ _) nd)); replace BK4 := Aside0.mk (blk_below BK4.out (pw_below_drewN (Below.refl _ _) nd)); replace BK7 := Aside0.mk (blk_below BK7.out (pw_below_drewN (Below.refl _ _) nd)); generalize _root_.Go.World.drewN _ nd = wn at HB BK4 BK7 ⊢; (try simp only [Act.put, List.setIfInBounds_toArray, List.set_cons_zero, List.set_cons_succ])) | ((with_reducible refine gate_dst (N := 91) rfl ?_); (try (refine gate_guard (by rfl) ?_; dsimp only)); refine Go.Proofs.YtcjnehnobnajnaaDoor.RowLaw.cell_event rfl 5 _ rfl g7 0 rfl 5 #[.int .u8 (bt s (a : Int))] _ (.int .u8 (bt s (a : Int))) BK7.out huB rfl rfl ?_; (try simp only [Act.put, List.setIfInBounds_toArray, List.set_cons_zero, List.set_cons_succ])) | ((with_reducible refine gate_store (t := 32) (p := 4) rfl ?_); refine Go.Proofs.YtcjnehnobnajnaaDoor.RowLaw.put_event rfl 32 _ _ rfl g4 0 (.agg #[.int .i64 4, .int .i64 0, .string (Utf8.encode (bt s (a : Int))), .bool false, .bool false]) rfl rfl [.int .i64 4, .int .i64 0, .string (Utf8.encode (bt s (a : Int))), .bool false, .bool false] rfl 32 _ #[.int .i64 4, .int .i64 0, .string (Utf8.encode (bt s (a : Int))), .bool false, .bool false] BK4.out HIT.out (Nat.le_of_ble_eq_true rfl) rfl rfl ?_; intro wp4 hk hoth hbel hz; replace HB := Aside0.mk (hbel _ _ HB.out GE4.out); replace BK4 := Aside0.mk hk; clear hk hoth hbel hz BK7; (try simp only [Act.put, List.setIfInBounds_toArray, List.set_cons_zero, List.set_cons_succ])))
  refine bodyPost_ret (results_ctt rfl _ _ g4 32 #[.int .i64 4, .int .i64 0, .string (Utf8.encode (bt s (a : Int))), .bool false, .bool false] (0, 0) _ rfl BK4.out huT rfl HIT.out) rfl ?_
  exact ⟨by first | rfl | (simp; done), HB.out⟩
set_option maxHeartbeats 8000000 in
set_option maxRecDepth 100000 in
theorem st_sign (s : ByteArray) (a : Nat) (hs : s.size ≤ 1000000) (ha : a < s.size) (hL : impl_isLetter.f (bt s (a : Int)) = some false) (hD : impl_isDigit.f (bt s (a : Int)) = some false) (h39 : ((bt s (a : Int)) == 39) = false) (h34 : ((bt s (a : Int)) == 34) = false) (i : Int) (hi : strings_IndexByte.f (⟨#[43, 45, 42, 47, 124, 46, 36, 64, 61]⟩ : ByteArray) (bt s (a : Int)) = some i) (h0 : i < 0) (j : Int) (hj : strings_IndexByte.f (⟨#[40, 41, 60, 62, 44, 58]⟩ : ByteArray) (bt s (a : Int)) = some j) (j1 : -1 ≤ j) (j2 : j ≤ 100) (v : Bool) (hv : decide (0 ≤ j) = v) (w : World) :
    Calls Tryd.prog 14 #[.string s, .int .i64 (a : Int)] w fun e w' => e = .returned (.tuple #[.agg #[.int .i64 (5 + j), .int .i64 0, .string (⟨#[]⟩ : ByteArray), .bool false, .bool false], .int .i64 1, .bool v]) ∧ Below w.heap.size w w' := by
  have huT := Tryd.underlying32
  have huB := Tryd.underlying5
  have HIT := Aside0.mk (by kernel_rfl : (Tryd.prog.info? 32).map (·.size) = some 5)
  have HIB := Aside0.mk (by kernel_rfl : (Tryd.prog.info? 5).map (·.size) = some 1)
  have HS := Aside0.mk hs
  have HB := Aside0.mk (Below.refl w.heap.size w)
  have c5 : ((a : Int) < (s.size : Int)) = True := eq_true (by omega)
  have c5n : decide (a < s.size) = true := decide_eq_true ha
  have c5b : decide ((a : Int) < (s.size : Int)) = true := decide_eq_true (by omega)
  have c6 : (0 ≤ (a : Int)) = True := eq_true (by omega)
  have hx : ∀ h : a < s.size, ((s[a]'h).toNat : Int) = bt s (a : Int) := fun h => bt_at s (a : Int) h
  have g1 : (0 ≤ i) = False := eq_false (by omega)
  have g3 : decide (0 ≤ i) = false := decide_eq_false (by omega)
  have g5 : decide (i ≥ 0) = false := decide_eq_false (by omega)
  have HJ := Aside0.mk hj
  have v1 : decide (0 ≤ j) = v := hv
  have w1 : wrap64 (5 + j) = 5 + j := by unfold wrap64; omega
  have w1k : IntKind.i64.wrap (5 + j) = 5 + j := by rw [i64_w]; exact w1
  clear hj hv j1 j2
  have HL := Aside0.mk hL
  have HD := Aside0.mk hD
  have HI := Aside0.mk hi
  clear hL hD hi hs ha h0
  go_enter Tryd.func14, Tryd.ntmps14
  go_wp2_with (first | ((with_reducible refine gate_dst (N := 4) rfl ?_); refine box_event ?hg (N := 4) ?hd (cs := #[.int .i64 0, .int .i64 0, .string (⟨#[]⟩ : ByteArray), .bool false, .bool false]) (t := 32) ?hr ?_; (case hd => rfl); (case hg => rfl); (case hr => first | (go_simp; done) | (go_simp; rfl)); intro g4 hg wg4 hbox hb; have GE4 := Aside0.mk (by rw [hg]; exact HB.out.size : w.heap.size ≤ g4); replace HB := Aside0.mk (below_step HB.out hb); have BK4 := Aside0.mk hbox; clear hbox hg hb; (try simp only [Act.put, List.setIfInBounds_toArray, List.set_cons_zero, List.set_cons_succ])) | ((with_reducible refine gate_dst (N := 7) rfl ?_); refine box_event ?hg (N := 7) ?hd (cs := #[.int .u8 0]) (t := 5) ?hr ?_; (case hd => rfl); (case hg => rfl); (case hr => first | (go_simp; done) | (go_simp; rfl)); intro g7 hg wg7 hbox hb; have GE7 := Aside0.mk (by rw [hg]; exact HB.out.size : w.heap.size ≤ g7); have NE := Aside0.mk (by rw [hg]; exact Nat.ne_of_lt (blk_lt BK4.out) : g4 ≠ g7); replace HB := Aside0.mk (below_step HB.out hb); replace BK4 := Aside0.mk (blk_below BK4.out hb); have BK7 := Aside0.mk hbox; clear hbox hg hb; (try simp only [Act.put, List.setIfInBounds_toArray, List.set_cons_zero, List.set_cons_succ])) | ((with_reducible refine gate_store (t := 5) (p := 7) rfl ?_); refine Go.Proofs.YtcjnehnobnajnaaDoor.RowLaw.put_event rfl 5 _ _ rfl g7 0 (.int .u8 (bt s (a : Int))) rfl rfl [.int .u8 (bt s (a : Int))] rfl 5 _ #[.int .u8 (bt s (a : Int))] BK7.out HIB.out (Nat.le_of_ble_eq_true rfl) rfl rfl ?_; intro wp7 hk hoth hbel hz; replace HB := Aside0.mk (hbel _ _ HB.out GE7.out); replace BK4 := Aside0.mk ((hoth g4 NE.out).trans BK4.out); replace BK7 := Aside0.mk hk; clear hk hoth hbel hz; (try simp only [Act.put, List.setIfInBounds_toArray, List.set_cons_zero, List.set_cons_succ])) | ((with_reducible refine gate_dst (N := 18) rfl ?_); (try (refine gate_guard (by rfl) ?_; dsimp only)); refine Go.Proofs.YtcjnehnobnajnaaDoor.RowLaw.cell_event rfl 5 _ rfl g7 0 rfl 5 #[.int .u8 (bt s (a : Int))] _ (.int .u8 (bt s (a : Int))) BK7.out huB rfl rfl ?_; (try simp only [Act.put, List.setIfInBounds_toArray, List.set_cons_zero, List.set_cons_succ])) | ((with_reducible refine gate_dst (N := 34) rfl ?_); (try (refine gate_guard (by rfl) ?_; dsimp only)); refine Go.Proofs.YtcjnehnobnajnaaDoor.RowLaw.cell_event rfl 5 _ rfl g7 0 rfl 5 #[.int .u8 (bt s (a : Int))] _ (.int .u8 (bt s (a : Int))) BK7.out huB rfl rfl ?_; (try simp only [Act.put, List.setIfInBounds_toArray, List.set_cons_zero, List.set_cons_succ])) | ((with_reducible refine gate_dst (N := 54) rfl ?_); (try (refine gate_guard (by rfl) ?_; dsimp only)); refine Go.Proofs.YtcjnehnobnajnaaDoor.RowLaw.cell_event rfl 5 _ rfl g7 0 rfl 5 #[.int .u8 (bt s (a : Int))] _ (.int .u8 (bt s (a : Int))) BK7.out huB rfl rfl ?_; (try simp only [Act.put, List.setIfInBounds_toArray, List.set_cons_zero, List.set_cons_succ])) | ((with_reducible refine gate_dst (N := 57) rfl ?_); (try (refine gate_guard (by rfl) ?_; dsimp only)); refine Go.Proofs.YtcjnehnobnajnaaDoor.RowLaw.cell_event rfl 5 _ rfl g7 0 rfl 5 #[.int .u8 (bt s (a : Int))] _ (.int .u8 (bt s (a : Int))) BK7.out huB rfl rfl ?_; (try simp only [Act.put, List.setIfInBounds_toArray, List.set_cons_zero, List.set_cons_succ])) | ((with_reducible refine gate_dst (N := 88) rfl ?_); (try (refine gate_guard (by rfl) ?_; dsimp only)); refine Go.Proofs.YtcjnehnobnajnaaDoor.RowLaw.cell_event rfl 5 _ rfl g7 0 rfl 5 #[.int .u8 (bt s (a : Int))] _ (.int .u8 (bt s (a : Int))) BK7.out huB rfl rfl ?_; (try simp only [Act.put, List.setIfInBounds_toArray, List.set_cons_zero, List.set_cons_succ])) | ((with_reducible refine gate_callee (f := 22) rfl ?_); (with_reducible refine gate_dst (N := 19) rfl ?_); refine goesL_ (some 19) rfl rfl Tryd.func22 (by kernel_rfl) rfl #[.int .u8 (bt s (a : Int))] rfl (by (try simp only [List.map_toArray, List.map_cons, List.map_nil]); first | done | rfl) ?_; refine (impl_isLetter.calls (bt s (a : Int)) false _ HL.out).mono ?_; rintro e wd ⟨rfl, ⟨nd, rfl⟩⟩; refine ⟨_, rfl, ?_⟩; replace HB := Aside0.mk (below_step HB.out (pw_below_drewN (Below.refl _ _) nd)); replace BK4 := Aside0.mk (blk_below BK4.out (pw_below_drewN (Below.refl _ _) nd)); replace BK7 := Aside0.mk (blk_below BK7.out (pw_below_drewN (Below.refl _ _) nd)); generalize _root_.Go.World.drewN _ nd = wn at HB BK4 BK7 ⊢; (try simp only [Act.put, List.setIfInBounds_toArray, List.set_cons_zero, List.set_cons_succ])) | ((with_reducible refine gate_callee (f := 24) rfl ?_); (with_reducible refine gate_dst (N := 35) rfl ?_); refine goesL_ (some 35) rfl rfl Tryd.func24 (by kernel_rfl) rfl #[.int .u8 (bt s (a : Int))] rfl (by (try simp only [List.map_toArray, List.map_cons, List.map_nil]); first | done | rfl) ?_; refine (impl_isDigit.calls (bt s (a : Int)) false _ HD.out).mono ?_; rintro e wd ⟨rfl, ⟨nd, rfl⟩⟩; refine ⟨_, rfl, ?_⟩; replace HB := Aside0.mk (below_step HB.out (pw_below_drewN (Below.refl _ _) nd)); replace BK4 := Aside0.mk (blk_below BK4.out (pw_below_drewN (Below.refl _ _) nd)); replace BK7 := Aside0.mk (blk_below BK7.out (pw_below_drewN (Below.refl _ _) nd)); generalize _root_.Go.World.drewN _ nd = wn at HB BK4 BK7 ⊢; (try simp only [Act.put, List.setIfInBounds_toArray, List.set_cons_zero, List.set_cons_succ])) | ((with_reducible refine gate_callee (f := 27) rfl ?_); (with_reducible refine gate_dst (N := 89) rfl ?_); refine goesL_ (some 89) rfl rfl Tryd.func27 (by kernel_rfl) rfl #[.string (⟨#[43, 45, 42, 47, 124, 46, 36, 64, 61]⟩ : ByteArray), .int .u8 (bt s (a : Int))] rfl (by (try simp only [List.map_toArray, List.map_cons, List.map_nil]); first | done | rfl) ?_; refine (strings_IndexByte.calls (⟨#[43, 45, 42, 47, 124, 46, 36, 64, 61]⟩ : ByteArray) (bt s (a : Int)) i _ HI.out).mono ?_; rintro e wd ⟨rfl, ⟨nd, rfl⟩⟩; refine ⟨_, rfl, ?_⟩; replace HB := Aside0.mk (below_step HB.out (pw_below_drewN (Below.refl _ _) nd)); replace BK4 := Aside0.mk (blk_below BK4.out (pw_below_drewN (Below.refl _ _) nd)); replace BK7 := Aside0.mk (blk_below BK7.out (pw_below_drewN (Below.refl _ _) nd)); generalize _root_.Go.World.drewN _ nd = wn at HB BK4 BK7 ⊢; (try simp only [Act.put, List.setIfInBounds_toArray, List.set_cons_zero, List.set_cons_succ])) | ((with_reducible refine gate_dst (N := 94) rfl ?_); (try (refine gate_guard (by rfl) ?_; dsimp only)); refine Go.Proofs.YtcjnehnobnajnaaDoor.RowLaw.cell_event rfl 5 _ rfl g7 0 rfl 5 #[.int .u8 (bt s (a : Int))] _ (.int .u8 (bt s (a : Int))) BK7.out huB rfl rfl ?_; (try simp only [Act.put, List.setIfInBounds_toArray, List.set_cons_zero, List.set_cons_succ])) | ((with_reducible refine gate_callee (f := 27) rfl ?_); (with_reducible refine gate_dst (N := 95) rfl ?_); refine goesL_ (some 95) rfl rfl Tryd.func27 (by kernel_rfl) rfl #[.string (⟨#[40, 41, 60, 62, 44, 58]⟩ : ByteArray), .int .u8 (bt s (a : Int))] rfl (by (try simp only [List.map_toArray, List.map_cons, List.map_nil]); first | done | rfl) ?_; refine (strings_IndexByte.calls (⟨#[40, 41, 60, 62, 44, 58]⟩ : ByteArray) (bt s (a : Int)) j _ HJ.out).mono ?_; rintro e wd ⟨rfl, ⟨nd, rfl⟩⟩; refine ⟨_, rfl, ?_⟩; replace HB := Aside0.mk (below_step HB.out (pw_below_drewN (Below.refl _ _) nd)); replace BK4 := Aside0.mk (blk_below BK4.out (pw_below_drewN (Below.refl _ _) nd)); replace BK7 := Aside0.mk (blk_below BK7.out (pw_below_drewN (Below.refl _ _) nd)); generalize _root_.Go.World.drewN _ nd = wn at HB BK4 BK7 ⊢; (try simp only [Act.put, List.setIfInBounds_toArray, List.set_cons_zero, List.set_cons_succ])) | ((with_reducible refine gate_store (t := 32) (p := 4) rfl ?_); (try simp only [w1k, w1]); refine Go.Proofs.YtcjnehnobnajnaaDoor.RowLaw.put_event rfl 32 _ _ rfl g4 0 (.agg #[.int .i64 (5 + j), .int .i64 0, .string (⟨#[]⟩ : ByteArray), .bool false, .bool false]) rfl rfl [.int .i64 (5 + j), .int .i64 0, .string (⟨#[]⟩ : ByteArray), .bool false, .bool false] rfl 32 _ #[.int .i64 (5 + j), .int .i64 0, .string (⟨#[]⟩ : ByteArray), .bool false, .bool false] BK4.out HIT.out (Nat.le_of_ble_eq_true rfl) rfl rfl ?_; intro wp4 hk hoth hbel hz; replace HB := Aside0.mk (hbel _ _ HB.out GE4.out); replace BK4 := Aside0.mk hk; clear hk hoth hbel hz BK7; (try simp only [Act.put, List.setIfInBounds_toArray, List.set_cons_zero, List.set_cons_succ])))
  refine bodyPost_ret (results_ctt rfl _ _ g4 32 #[.int .i64 (5 + j), .int .i64 0, .string (⟨#[]⟩ : ByteArray), .bool false, .bool false] (0, 0) _ rfl BK4.out huT rfl HIT.out) rfl ?_
  exact ⟨by first | rfl | (simp; done), HB.out⟩
theorem ix_lt (l : List UInt8) (c : UInt8) : Lib.indexByte l c ≤ l.length := by
  induction l with
  | nil => simp [Lib.indexByte]
  | cons b l ih =>
    unfold Lib.indexByte
    rw [List.length_cons]
    split
    · omega
    · split <;> omega
def scO (b : Int) : Int := Lib.indexByte [(43 : UInt8), 45, 42, 47, 124, 46, 36, 64, 61] b.toNat.toUInt8
def scK (b : Int) : Int := Lib.indexByte [(40 : UInt8), 41, 60, 62, 44, 58] b.toNat.toUInt8
def scT (s : ByteArray) (a : Nat) : Option (Int × Int × ByteArray × Bool × Bool × Int × Bool) :=
  if scL (bt s (a : Int)) = true then some (1, 0, s.extract a (a + scP scN s a), false, false, ((scP scN s a : Nat) : Int), decide (scP scN s a ≤ 12))
  else if scD (bt s (a : Int)) = true then (impl_readInteger.f (s.extract a (a + scP scD s a))).bind fun r => some (2, r.1, (⟨#[]⟩ : ByteArray), false, false, ((scP scD s a : Nat) : Int), r.2)
  else if bt s (a : Int) = 39 ∨ bt s (a : Int) = 34 then some (3, 0, s.extract (a + 1) (a + 1 + scP (fun c => c != bt s (a : Int)) s (a + 1)), false, false, ((scP (fun c => c != bt s (a : Int)) s (a + 1) : Nat) : Int) + 2, decide (a + 1 + scP (fun c => c != bt s (a : Int)) s (a + 1) < s.size) && decide (scP (fun c => c != bt s (a : Int)) s (a + 1) ≤ 200))
  else if 0 ≤ scO (bt s (a : Int)) then some (4, 0, Utf8.encode (bt s (a : Int)), false, false, 1, true)
  else some (5 + scK (bt s (a : Int)), 0, (⟨#[]⟩ : ByteArray), false, false, 1, decide (0 ≤ scK (bt s (a : Int))))
def impl_scanToken.f (a0 : ByteArray) (a1 : Int) : Option (Int × Int × ByteArray × Bool × Bool × Int × Bool) := if 0 ≤ a1 ∧ a1 < (a0.size : Int) ∧ a0.size ≤ 1000000 then scT a0 a1.toNat else none
theorem impl_scanToken.calls (a0 : ByteArray) (a1 : Int) (r1 : Int) (r2 : Int) (r3 : ByteArray) (r4 : Bool) (r5 : Bool) (r6 : Int) (r7 : Bool) (w : World) (h : impl_scanToken.f a0 a1 = some (r1, r2, r3, r4, r5, r6, r7)) :
    Calls Tryd.prog 14 #[.string a0, .int .i64 a1] w fun e w' => e = .returned (.tuple #[.agg #[.int .i64 r1, .int .i64 r2, .string r3, .bool r4, .bool r5], .int .i64 r6, .bool r7]) ∧ Below w.heap.size w w' := by
  unfold impl_scanToken.f at h
  split at h
  · rename_i hd
    obtain ⟨d1, d2, d3⟩ := hd
    obtain ⟨a, rfl⟩ : ∃ a : Nat, a1 = (a : Int) := ⟨a1.toNat, by omega⟩
    rw [Int.toNat_natCast] at h
    have ha : a < a0.size := by omega
    clear d1 d2
    unfold scT at h
    split at h
    · rename_i hL
      simp only [Option.some.injEq, Prod.mk.injEq] at h
      obtain ⟨rfl, rfl, rfl, rfl, rfl, rfl, rfl⟩ := h
      exact st_letter a0 a d3 ha (by rw [scL_ev, hL]) _ _ rfl rfl (scP_bound scN a0 a (Nat.le_of_lt ha)) _ rfl w
    · rename_i hL
      have hL := scL_ev (bt a0 (a : Int)) |>.trans (congrArg some (Bool.eq_false_iff.mpr hL))
      split at h
      · rename_i hD
        cases hr : impl_readInteger.f (a0.extract a (a + scP scD a0 a)) with
        | none => rw [hr] at h; cases h
        | some q =>
          rw [hr, Option.bind_some] at h
          simp only [Option.some.injEq, Prod.mk.injEq] at h
          obtain ⟨rfl, rfl, rfl, rfl, rfl, rfl, rfl⟩ := h
          exact st_digit a0 a d3 ha hL (by rw [scD_ev, hD]) _ _ rfl rfl (scP_bound scD a0 a (Nat.le_of_lt ha)) q.1 q.2 hr w
      · rename_i hD
        have hD := scD_ev (bt a0 (a : Int)) |>.trans (congrArg some (Bool.eq_false_iff.mpr hD))
        split at h
        · rename_i hq
          simp only [Option.some.injEq, Prod.mk.injEq] at h
          obtain ⟨rfl, rfl, rfl, rfl, rfl, rfl, rfl⟩ := h
          refine st_str a0 a d3 ha hL hD _ rfl (fun hz => ?_) _ _ _ rfl rfl rfl (scP_bound _ a0 (a + 1) ha) _ rfl _ rfl w
          rw [beq_eq_false_iff_ne] at hz
          rcases hq with hq | hq
          · exact absurd hq hz
          · exact beq_iff_eq.mpr hq
        · rename_i hq
          have h39 : (bt a0 (a : Int) == 39) = false := beq_eq_false_iff_ne.mpr (fun e => hq (Or.inl e))
          have h34 : (bt a0 (a : Int) == 34) = false := beq_eq_false_iff_ne.mpr (fun e => hq (Or.inr e))
          split at h
          · rename_i h0
            simp only [Option.some.injEq, Prod.mk.injEq] at h
            obtain ⟨rfl, rfl, rfl, rfl, rfl, rfl, rfl⟩ := h
            exact st_op a0 a d3 ha hL hD h39 h34 _ rfl h0 w
          · rename_i h0
            simp only [Option.some.injEq, Prod.mk.injEq] at h
            obtain ⟨rfl, rfl, rfl, rfl, rfl, rfl, rfl⟩ := h
            exact st_sign a0 a d3 ha hL hD h39 h34 _ rfl (Int.lt_of_not_ge h0) _ rfl (Lib.indexByte_ge _ _) (Int.le_trans (ix_lt _ _) (by decide)) _ rfl w
  · cases h

/-! ### impl_first: function 15 -/
def impl_first.l0 : Nat → List Int → Int → Int → Option (Int)
  | 0, _, _, _ => none
  | k + 1, x5, x6, x7 => if x7 < x6 then (if 0 ≤ x7 then (if x7 < (x5.length : Int) then (if (rd x5 x7) = 0 then (impl_first.l0 k x5 x6 (wrap64 (x7 + 1))) else (some (rd x5 x7))) else (none)) else (none)) else (some 0)
def impl_first.f (k : Nat) (l0 : List Int) : Option (Int) := impl_first.l0 k l0 (l0.length : Int) 0
theorem impl_first.mono_l : ∀ k, (∀ y0 y1 y2, LeO (impl_first.l0 k y0 y1 y2) (impl_first.l0 (k + 1) y0 y1 y2))
  | 0 => fun _ _ _ r h => by simp [impl_first.l0] at h
  | k + 1 => by
    have ih0 := impl_first.mono_l k
    · intro y0 y1 y2
      unfold impl_first.l0
      repeat' first
      | (with_reducible exact ih0 _ _ _)
      | (with_reducible exact LeO.refl _)
      | (with_reducible exact LeO.none _)
      | (with_reducible refine LeO.ite ?_ ?_)
      | (with_reducible refine LeO.bind ?_ (fun _ => ?_))
      | exact ih0 _ _ _
      | exact LeO.none _
      | refine LeO.ite ?_ ?_
      | refine LeO.bind ?_ (fun _ => ?_)
theorem impl_first.mono : ∀ a0 k, LeO (impl_first.f k a0) (impl_first.f (k + 1) a0) := by
  intro a0 k
  have ih0 := impl_first.mono_l k
  unfold impl_first.f
  repeat' first
      | (with_reducible exact ih0 _ _ _)
      | (with_reducible exact LeO.refl _)
      | (with_reducible exact LeO.none _)
      | (with_reducible refine LeO.ite ?_ ?_)
      | (with_reducible refine LeO.bind ?_ (fun _ => ?_))
      | exact ih0 _ _ _
      | exact LeO.none _
      | refine LeO.ite ?_ ?_
      | refine LeO.bind ?_ (fun _ => ?_)
set_option maxHeartbeats 8000000 in
set_option maxRecDepth 100000 in
theorem impl_first.calls (k : Nat) (A0 : Option Addr) (c0 : Nat) (l0 : List Int) (r : Int) (w : World) (hr0 : Kd.C (Kd.int .i64) w A0 l0.length l0) (hc0 : l0.length ≤ c0) (h : impl_first.f k l0 = some r) :
    Calls Tryd.prog 15 #[.slice A0 l0.length c0] w fun e w' => e = .returned (.int .i64 r) ∧ Drawn0 w w' := by
  have HR0 := Aside0.mk hr0
  have HC0 := Aside0.mk hc0
  clear hr0 hc0
  have H : (impl_first.l0 k l0 (l0.length : Int) 0) = some r := h
  clear h
  have H' := Aside0.mk H
  clear H
  go_enter Tryd.func15, Tryd.ntmps15
  go_wp2
  go_loopg [7] k (fun kq v7 w' => ∃ (x7_1 : Int), v7 = .int .i64 x7_1 ∧ Aside0 (impl_first.l0 kq l0 (l0.length : Int) x7_1 = some r) ∧ Aside0 (kq ≤ k) ∧ Drawn0 w w')
  case atStart => exact ⟨(0), (by first | rfl | (simp; done) | (simp [*]; done)), H', ⟨Nat.le_refl _⟩, by repeat (first | exact Drawn0.refl _ | apply Drawn0.step)⟩
  case round =>
    clear H'
    obtain ⟨x7_1, rfl, HA, HK1, ⟨m1, rfl⟩⟩ := hrel
    cases gk with
    | zero => exact absurd HA.out (by simp [impl_first.l0])
    | succ k1 =>
      have H := HA.out
      clear HA
      simp only [impl_first.l0] at H
      by_cases c2 : x7_1 < (l0.length : Int)
      · rw [if_pos c2] at H
        have c2b0 : decide (x7_1 < (l0.length : Int)) = true := decide_eq_true c2
        clear c2
        by_cases c3 : 0 ≤ x7_1
        · rw [if_pos c3] at H
          have c3b0 : decide (0 ≤ x7_1) = true := decide_eq_true c3
          clear c3
          by_cases c4 : x7_1 < (l0.length : Int)
          · rw [if_pos c4] at H
            have c4b0 : decide (x7_1 < (l0.length : Int)) = true := decide_eq_true c4
            clear c4
            by_cases c5 : (rd l0 x7_1) = 0
            · rw [if_pos c5] at H
              have c5b0 : ((rd l0 x7_1) == 0) = true := beq_iff_eq.mpr c5
              have c5b1 : ((rd l0 x7_1) != 0) = false := bne_eq_false_iff_eq.mpr c5
              clear c5
              have H' := Aside0.mk H
              clear H
              have p151 : 0 ≤ (x7_1 : Int) := of_decide_eq_true (by first | (with_reducible assumption) | assumption)
              have q151 : x7_1 < (l0.length : Int) := of_decide_eq_true (by first | (with_reducible assumption) | assumption)
              obtain ⟨ad151, e151, hx151_0⟩ := Kd.at_int HR0.out x7_1 p151 q151
              cases e151
              replace p151 := eq_true p151
              replace q151 := eq_true q151
              go_wp2
              go_roundg k1
              case measure => have := HK1.out; omega
              case rel => exact ⟨(wrap64 (x7_1 + 1)), (by first | rfl | (simp; done) | (simp [*]; done)), H', ⟨by have := HK1.out; omega⟩, by repeat (first | exact Drawn0.refl _ | apply Drawn0.step)⟩
            · rw [if_neg c5] at H
              have c5b0 : ((rd l0 x7_1) == 0) = false := beq_eq_false_iff_ne.mpr c5
              have c5b1 : ((rd l0 x7_1) != 0) = true := bne_iff_ne.mpr c5
              obtain rfl := Option.some.inj H
              have p151 : 0 ≤ (x7_1 : Int) := of_decide_eq_true (by first | (with_reducible assumption) | assumption)
              have q151 : x7_1 < (l0.length : Int) := of_decide_eq_true (by first | (with_reducible assumption) | assumption)
              obtain ⟨ad151, e151, hx151_0⟩ := Kd.at_int HR0.out x7_1 p151 q151
              cases e151
              replace p151 := eq_true p151
              replace q151 := eq_true q151
              go_wp2
              go_ret
              exact ⟨by first | rfl | (simp; done) | (simp [*]; done), by repeat (first | exact Drawn0.refl _ | apply Drawn0.step)⟩
          · rw [if_neg c4] at H
            exact absurd H (by simp)
        · rw [if_neg c3] at H
          exact absurd H (by simp)
      · rw [if_neg c2] at H
        have c2b0 : decide (x7_1 < (l0.length : Int)) = false := decide_eq_false c2
        clear c2
        obtain rfl := Option.some.inj H
        go_wp2
        go_ret
        exact ⟨by first | rfl | (simp; done) | (simp [*]; done), by repeat (first | exact Drawn0.refl _ | apply Drawn0.step)⟩

/-! ### impl_unless: function 16 -/
def impl_unless.f (a0 : Bool) (a1 : Int) : Option (Int) := if a0 = true then (some 0) else (some a1)
set_option maxHeartbeats 8000000 in
set_option maxRecDepth 100000 in
theorem impl_unless.calls (a0 : Bool) (a1 : Int) (r : Int) (w : World) (h : impl_unless.f a0 a1 = some r) :
    Calls Tryd.prog 16 #[.bool a0, .int .i64 a1] w fun e w' => e = .returned (.int .i64 r) ∧ Drawn0 w w' := by
  have H : (if a0 = true then (some 0) else (some a1)) = some r := h
  clear h
  by_cases c3 : a0 = true
  · subst c3
    have H1 : (some 0) = some r := by rw [if_pos rfl] at H; exact H
    clear H
    have H := H1
    clear H1
    obtain rfl := Option.some.inj H
    go_enter Tryd.func16, Tryd.ntmps16
    go_wp2
    go_ret
    exact ⟨by first | rfl | (simp; done) | (simp [*]; done), by repeat (first | exact Drawn0.refl _ | apply Drawn0.step)⟩
  · replace c3 := Bool.eq_false_iff.mpr c3
    subst c3
    have H1 : (some a1) = some r := by rw [if_neg (show ¬ (false = true) by decide)] at H; exact H
    clear H
    have H := H1
    clear H1
    obtain rfl := Option.some.inj H
    go_enter Tryd.func16, Tryd.ntmps16
    go_wp2
    go_ret
    exact ⟨by first | rfl | (simp; done) | (simp [*]; done), by repeat (first | exact Drawn0.refl _ | apply Drawn0.step)⟩

/-! ### impl_span_at_impl_ScanTokens_1: function 12 -/
def impl_span_at_impl_ScanTokens_1.l0 : Nat → ByteArray → Int → Int → Option (Int)
  | 0, _, _, _ => none
  | k + 1, x0, x1, x7 => if x7 < (x0.size : Int) then (if 0 ≤ x7 then ((impl_ScanTokens_1.f (bt x0 x7)).bind fun t152 => (if t152 = true then (impl_span_at_impl_ScanTokens_1.l0 k x0 x1 (wrap64 (x7 + 1))) else (some (wrap64 (x7 - x1))))) else (none)) else (some (wrap64 (x7 - x1)))
def impl_span_at_impl_ScanTokens_1.f (k : Nat) (a0 : ByteArray) (a1 : Int)  : Option (Int) := impl_span_at_impl_ScanTokens_1.l0 k a0 a1 a1
theorem impl_span_at_impl_ScanTokens_1.mono_l : ∀ k, (∀ y0 y1 y2, LeO (impl_span_at_impl_ScanTokens_1.l0 k y0 y1 y2) (impl_span_at_impl_ScanTokens_1.l0 (k + 1) y0 y1 y2))
  | 0 => fun _ _ _ r h => by simp [impl_span_at_impl_ScanTokens_1.l0] at h
  | k + 1 => by
    have ih0 := impl_span_at_impl_ScanTokens_1.mono_l k
    · intro y0 y1 y2
      unfold impl_span_at_impl_ScanTokens_1.l0
      repeat' first
      | (with_reducible exact ih0 _ _ _)
      | (with_reducible exact LeO.refl _)
      | (with_reducible exact LeO.none _)
      | (with_reducible refine LeO.ite ?_ ?_)
      | (with_reducible refine LeO.bind ?_ (fun _ => ?_))
      | exact ih0 _ _ _
      | exact LeO.none _
      | refine LeO.ite ?_ ?_
      | refine LeO.bind ?_ (fun _ => ?_)
theorem impl_span_at_impl_ScanTokens_1.mono : ∀ a0 a1 k, LeO (impl_span_at_impl_ScanTokens_1.f k a0 a1) (impl_span_at_impl_ScanTokens_1.f (k + 1) a0 a1) := by
  intro a0 a1 k
  have ih0 := impl_span_at_impl_ScanTokens_1.mono_l k
  unfold impl_span_at_impl_ScanTokens_1.f
  repeat' first
      | (with_reducible exact ih0 _ _ _)
      | (with_reducible exact LeO.refl _)
      | (with_reducible exact LeO.none _)
      | (with_reducible refine LeO.ite ?_ ?_)
      | (with_reducible refine LeO.bind ?_ (fun _ => ?_))
      | exact ih0 _ _ _
      | exact LeO.none _
      | refine LeO.ite ?_ ?_
      | refine LeO.bind ?_ (fun _ => ?_)
set_option maxHeartbeats 8000000 in
set_option maxRecDepth 100000 in
theorem impl_span_at_impl_ScanTokens_1.calls (k : Nat) (a0 : ByteArray) (a1 : Int)  (r : Int) (w : World) (h : impl_span_at_impl_ScanTokens_1.f k a0 a1 = some r) :
    Calls Tryd.prog 12 #[.string a0, .int .i64 a1, .func (.func 13) #[] #[]] w fun e w' => e = .returned (.int .i64 r) ∧ Below w.heap.size w w' := by
  have HB := Aside0.mk (Below.refl w.heap.size w)
  have H : (impl_span_at_impl_ScanTokens_1.l0 k a0 a1 a1) = some r := h
  clear h
  have H' := Aside0.mk H
  clear H
  go_enter Tryd.func12, Tryd.ntmps12
  go_wp2
  go_loopg [7] k (fun kq v7 w' => ∃ (x7_1 : Int), v7 = .int .i64 x7_1 ∧ Aside0 (impl_span_at_impl_ScanTokens_1.l0 kq a0 a1 x7_1 = some r) ∧ Aside0 (kq ≤ k) ∧ Aside0 (Below w.heap.size w w'))
  case atStart => exact ⟨(a1), (by first | rfl | (simp; done) | (simp [*]; done)), H', ⟨Nat.le_refl _⟩, ⟨by repeat (first | (with_reducible first | exact HB.out | apply below_alloc | apply pw_below_drewN | apply below_drew1) | exact HB.out)⟩⟩
  case round =>
    clear H'
    obtain ⟨x7_1, rfl, HA, HK1, HB⟩ := hrel
    cases gk with
    | zero => exact absurd HA.out (by simp [impl_span_at_impl_ScanTokens_1.l0])
    | succ k1 =>
      have H := HA.out
      clear HA
      simp only [impl_span_at_impl_ScanTokens_1.l0] at H
      by_cases c4 : x7_1 < (a0.size : Int)
      · rw [if_pos c4] at H
        have c4b0 : decide (x7_1 < (a0.size : Int)) = true := decide_eq_true c4
        clear c4
        by_cases c5 : 0 ≤ x7_1
        · rw [if_pos c5] at H
          have c5b0 : decide (0 ≤ x7_1) = true := decide_eq_true c5
          clear c5
          replace H := Option.bind_eq_some_iff.mp H
          obtain ⟨t152, A70, H⟩ := H
          replace H : (if t152 = true then (impl_span_at_impl_ScanTokens_1.l0 k1 a0 a1 (wrap64 (x7_1 + 1))) else (some (wrap64 (x7_1 - a1)))) = some r := H
          have A7 := Aside0.mk A70
          clear A70
          by_cases c8 : t152 = true
          · subst c8
            have H1 : (impl_span_at_impl_ScanTokens_1.l0 k1 a0 a1 (wrap64 (x7_1 + 1))) = some r := by rw [if_pos rfl] at H; exact H
            clear H
            have H := H1
            clear H1
            have H' := Aside0.mk H
            clear H
            have p6 : 0 ≤ (x7_1 : Int) := of_decide_eq_true (by first | (with_reducible assumption) | assumption)
            have q6 : x7_1 < (a0.size : Int) := of_decide_eq_true (by first | (with_reducible assumption) | assumption)
            have hx6 := bt_at a0 x7_1
            replace p6 := eq_true p6
            replace q6 := eq_true q6
            go_wp2_with (first | (go_at_call 13; (with_reducible refine (impl_ScanTokens_1.calls (bt a0 x7_1) true _ A7.out).mono ?_); rintro e w' ⟨rfl, ⟨nd, rfl⟩⟩))
            go_roundg k1
            case measure => have := HK1.out; omega
            case rel => exact ⟨(wrap64 (x7_1 + 1)), (by first | rfl | (simp; done) | (simp [*]; done)), H', ⟨by have := HK1.out; omega⟩, ⟨by repeat (first | (with_reducible first | exact HB.out | apply below_alloc | apply pw_below_drewN | apply below_drew1) | exact HB.out)⟩⟩
          · replace c8 := Bool.eq_false_iff.mpr c8
            subst c8
            have H1 : (some (wrap64 (x7_1 - a1))) = some r := by rw [if_neg (show ¬ (false = true) by decide)] at H; exact H
            clear H
            have H := H1
            clear H1
            obtain rfl := Option.some.inj H
            have p6 : 0 ≤ (x7_1 : Int) := of_decide_eq_true (by first | (with_reducible assumption) | assumption)
            have q6 : x7_1 < (a0.size : Int) := of_decide_eq_true (by first | (with_reducible assumption) | assumption)
            have hx6 := bt_at a0 x7_1
            replace p6 := eq_true p6
            replace q6 := eq_true q6
            go_wp2_with (first | (go_at_call 13; (with_reducible refine (impl_ScanTokens_1.calls (bt a0 x7_1) false _ A7.out).mono ?_); rintro e w' ⟨rfl, ⟨nd, rfl⟩⟩))
            go_ret
            exact ⟨by first | rfl | (simp [errW_none, errW_some] <;> rfl) | (simp [*, errW_none, errW_some] <;> rfl), by repeat (first | (with_reducible first | exact HB.out | apply below_alloc | apply pw_below_drewN | apply below_drew1) | exact HB.out)⟩
        · rw [if_neg c5] at H
          exact absurd H (by simp)
      · rw [if_neg c4] at H
        have c4b0 : decide (x7_1 < (a0.size : Int)) = false := decide_eq_false c4
        clear c4
        obtain rfl := Option.some.inj H
        go_wp2
        go_ret
        exact ⟨by first | rfl | (simp [errW_none, errW_some] <;> rfl) | (simp [*, errW_none, errW_some] <;> rfl), by repeat (first | (with_reducible first | exact HB.out | apply below_alloc | apply pw_below_drewN | apply below_drew1) | exact HB.out)⟩

end Go.Proofs.YtcjnehnobnajnaaDoor.PFnExactScanTokens
