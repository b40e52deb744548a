/- FnExactScanTokens answers true for every text: the program's ScanTokens and the reference's give the same tokens, the same place and the same word; the tokens are memory of their own. Conditions: none beyond the statement's own. -/
import Derived.Test.YtcjnehnobnajnaaDoorPFnExactScanTokensx8
namespace Go.Proofs.YtcjnehnobnajnaaDoor.Pure
open Go.RowKit Go.Proofs.YtcjnehnobnajnaaDoor.PFnExactScanTokens Go.Proofs.YtcjnehnobnajnaaDoorW.PrintWords Go.Proofs.YtcjnehnobnajnaaDoorW.PrintLast Go.Proofs.YtcjnehnobnajnaaDoorW.PrintMore
set_option linter.unusedVariables false
namespace ScanTokens
-- the bytes of a string, one after another
theorem byt_at (s : ByteArray) (i : Nat) (c : Int) (l : List Int) (h : (bytesOf s).drop i = c :: l) : i < s.size ∧ bt s (i : Int) = c ∧ rd (bytesOf s) (i : Int) = c ∧ (bytesOf s).drop (i + 1) = l := by
  have h1 : i < (bytesOf s).length := by
    rcases Nat.lt_or_ge i (bytesOf s).length with h2 | h2
    · exact h2
    · rw [List.drop_eq_nil_of_le h2] at h
      cases h
  rw [List.drop_eq_getElem_cons h1] at h
  injection h with h2 h3
  have h4 : rd (bytesOf s) (i : Int) = c := by
    unfold rd
    rw [Int.toNat_natCast, List.getD_eq_getElem?_getD, List.getElem?_eq_getElem h1]
    exact h2
  refine ⟨by rw [← bytesOf_length]; exact h1, ?_, h4, h3⟩
  rw [← rd_bytesOf]
  exact h4
theorem byt_end (s : ByteArray) (i : Nat) (h : (bytesOf s).drop i = []) (hi : i ≤ s.size) : i = s.size := by
  have := congrArg List.length h
  rw [List.length_drop, bytesOf_length] at this
  simp at this
  omega
theorem wrapb (i n : Nat) (h : i < n) (hn : n ≤ 9223372036854775807) : wrap64 ((i : Int) + 1) = ((i + 1 : Nat) : Int) := by unfold wrap64; omega
-- plain texts: the program's isPlainText and the reference's l01Printable (behind Bytes)
def plainB (c : Int) : Bool := decide (32 ≤ c) && decide (c ≤ 126)
theorem spec_print_loop (s : ByteArray) (hs : s.size ≤ 9223372036854775807) (l : List Int) : ∀ i : Nat, i ≤ s.size → (bytesOf s).drop i = l → Ev (fun k => spec_l01Printable.l0 k s false (i : Int)) (l.all plainB) := by
  induction l with
  | nil =>
    intro i hi hd
    have h2 := byt_end s i hd hi
    refine Ev.step (f := fun _ => some true) (fun k => ?_) (by simpa using Ev.now true)
    simp only [spec_l01Printable.l0]
    rw [if_neg (by omega)]
  | cons c l ih =>
    intro i hi hd
    obtain ⟨hlt, hb, _, hd'⟩ := byt_at s i c l hd
    rw [List.all_cons]
    by_cases h1 : c < 32
    · rw [show plainB c = false by unfold plainB; rw [decide_eq_false (by omega), Bool.false_and], Bool.false_and]
      refine Ev.step (f := fun _ => some false) (fun k => ?_) (Ev.now false)
      simp only [spec_l01Printable.l0]
      rw [if_pos (by omega), if_pos (by omega), hb, if_pos h1]
      simp
    · by_cases h2 : c > 126
      · rw [show plainB c = false by unfold plainB; rw [decide_eq_false (show ¬ c ≤ 126 by omega), Bool.and_false], Bool.false_and]
        refine Ev.step (f := fun _ => some false) (fun k => ?_) (Ev.now false)
        simp only [spec_l01Printable.l0]
        rw [if_pos (by omega), if_pos (by omega), hb, if_neg h1, if_pos h2]
        simp
      · rw [show plainB c = true by unfold plainB; rw [decide_eq_true (show 32 ≤ c by omega), decide_eq_true (show c ≤ 126 by omega)]; rfl, Bool.true_and]
        refine Ev.step (f := fun k => spec_l01Printable.l0 k s false ((i + 1 : Nat) : Int)) (fun k => ?_) (ih (i + 1) (by omega) hd')
        simp only [spec_l01Printable.l0]
        rw [if_pos (by omega), if_pos (by omega), hb, if_neg h1, if_neg h2, wrapb i s.size hlt hs]
theorem impl_isPlain_ev (c : Int) : impl_isPlain.f c = some (plainB c) := by
  unfold impl_isPlain.f plainB
  by_cases h1 : 32 ≤ c <;> simp [h1]
theorem areAllPlain_loop (s : ByteArray) (hs : s.size ≤ 9223372036854775807) (l : List Int) : ∀ i : Nat, i ≤ s.size → (bytesOf s).drop i = l → Ev (fun k => impl_areAll_byte_at_impl_isPlain.l0 k (bytesOf s) (s.size : Int) (i : Int)) (l.all plainB) := by
  induction l with
  | nil =>
    intro i hi hd
    have h2 := byt_end s i hd hi
    refine Ev.step (f := fun _ => some true) (fun k => ?_) (by simpa using Ev.now true)
    simp only [impl_areAll_byte_at_impl_isPlain.l0]
    rw [if_neg (by omega)]
  | cons c l ih =>
    intro i hi hd
    obtain ⟨hlt, _, hb, hd'⟩ := byt_at s i c l hd
    rw [List.all_cons]
    cases hn : plainB c with
    | true =>
      rw [Bool.true_and]
      refine Ev.step (f := fun k => impl_areAll_byte_at_impl_isPlain.l0 k (bytesOf s) (s.size : Int) ((i + 1 : Nat) : Int)) (fun k => ?_) (ih (i + 1) (by omega) hd')
      simp only [impl_areAll_byte_at_impl_isPlain.l0]
      rw [if_pos (by omega), if_pos (by omega), if_pos (by rw [bytesOf_length]; omega), hb, impl_isPlain_ev, hn, wrapb i s.size hlt hs]
      rfl
    | false =>
      rw [Bool.false_and]
      refine Ev.step (f := fun _ => some false) (fun k => ?_) (Ev.now false)
      simp only [impl_areAll_byte_at_impl_isPlain.l0]
      rw [if_pos (by omega), if_pos (by omega), if_pos (by rw [bytesOf_length]; omega), hb, impl_isPlain_ev, hn]
      rfl
theorem impl_plainText (s : ByteArray) (hs : s.size ≤ 9223372036854775807) : Ev (fun k => impl_isPlainText.f k s) ((bytesOf s).all plainB) := by
  have r := areAllPlain_loop s hs (bytesOf s) 0 (by omega) rfl
  refine Ev.congr (f := fun k => (impl_areAll_byte_at_impl_isPlain.f k (bytesOf s)).bind fun t => some t) (fun k => ?_) (Ev.bind (Ev.congr (fun k => ?_) r) (Ev.now _))
  · unfold impl_isPlainText.f
    rw [if_pos hs]
  · unfold impl_areAll_byte_at_impl_isPlain.f
    rw [bytesOf_length]
    rfl
theorem spec_printable (s : ByteArray) (hs : s.size ≤ 9223372036854775807) : Ev (fun k => spec_l01Printable.f k s false) ((bytesOf s).all plainB) := by
  refine Ev.congr (fun k => ?_) (spec_print_loop s hs (bytesOf s) 0 (by omega) rfl)
  unfold spec_l01Printable.f
  rfl
-- numbers in digits, the core (lines of Digits)
def dval (l : List UInt8) : Nat := l.foldl (fun n c => n * 10 + (c.toNat - 48)) 0
def isDig (c : UInt8) : Bool := decide (48 ≤ c.toNat ∧ c.toNat ≤ 57)
theorem dval_snoc (l : List UInt8) (c : UInt8) : dval (l ++ [c]) = dval l * 10 + (c.toNat - 48) := by unfold dval; rw [List.foldl_append]; rfl
theorem dval_lt (l : List UInt8) : l.all isDig = true → dval l < 10 ^ l.length := by
  have key : ∀ (r : List UInt8) (a m : Nat), a < 10 ^ m → r.all isDig = true → r.foldl (fun n c => n * 10 + (c.toNat - 48)) a < 10 ^ (m + r.length) := by
    intro r
    induction r with
    | nil => intro a m h _; simpa using h
    | cons c r ih =>
      intro a m h hd
      rw [List.all_cons, Bool.and_eq_true] at hd
      have hc := of_decide_eq_true hd.1
      rw [List.foldl_cons, List.length_cons, ← Nat.add_assoc, Nat.add_right_comm]
      refine ih _ (m + 1) ?_ hd.2
      rw [Nat.pow_succ]
      omega
  intro h
  have := key l 0 0 (by simp) h
  simpa [dval] using this
theorem parseM (r : List UInt8) : ∀ (p : List UInt8), (p ++ r).all isDig = true → (p ++ r).length ≤ 13 → Lib.parseUintM 18446744073709551615 (dval p) r = .ok (dval (p ++ r)) := by
  induction r with
  | nil => intro p _ _; rw [List.append_nil]; rfl
  | cons c r ih =>
    intro p hd hl
    have e : p ++ c :: r = (p ++ [c]) ++ r := by simp
    have hdp : p.all isDig = true := by rw [List.all_append, Bool.and_eq_true] at hd; exact hd.1
    have hc : 48 ≤ c.toNat ∧ c.toNat ≤ 57 := by
      rw [List.all_append, Bool.and_eq_true, List.all_cons, Bool.and_eq_true] at hd
      exact of_decide_eq_true hd.2.1
    have hlp : p.length ≤ 12 := by simp at hl; omega
    have h1 := dval_lt p hdp
    have h2 : (10 : Nat) ^ p.length ≤ 10 ^ 12 := Nat.pow_le_pow_right (by omega) hlp
    have h3 : (10 : Nat) ^ 12 = 1000000000000 := by decide
    unfold Lib.parseUintM
    rw [if_pos hc, if_neg (by omega), if_neg (by omega), ← dval_snoc, e]
    exact ih (p ++ [c]) (e ▸ hd) (e ▸ hl)
theorem parse_digits (l : List UInt8) (h0 : l ≠ []) (hd : l.all isDig = true) (hl : l.length ≤ 13) : Lib.parseIntB 64 l = .ok (dval l : Int) := by
  cases l with
  | nil => exact absurd rfl h0
  | cons c r =>
    have hc : 48 ≤ c.toNat ∧ c.toNat ≤ 57 := by
      have := hd
      rw [List.all_cons, Bool.and_eq_true] at this
      exact of_decide_eq_true this.1
    have hv := dval_lt (c :: r) hd
    have h2 : (10 : Nat) ^ (c :: r).length ≤ 10 ^ 13 := Nat.pow_le_pow_right (by omega) hl
    have h3 : (10 : Nat) ^ 13 = 10000000000000 := by decide
    have hm := parseM (c :: r) [] (by simpa using hd) (by simpa using hl)
    have hu : Lib.parseUintB 64 (c :: r) = .ok (dval (c :: r)) := by
      unfold Lib.parseUintB
      rw [if_neg (by simp)]
      exact hm
    rw [Lib.parseIntB_plain 64 c r (by omega) (by omega), hu]
    unfold Lib.signlessC
    simp only
    rw [if_neg]
    have h4 : (2 : Nat) ^ (64 - 1) = 9223372036854775808 := by decide
    omega
-- the reference's operators (lines of OneByte, Operator)
theorem idx_mem (l : List UInt8) (c : UInt8) : (0 ≤ Lib.indexByte l c) ↔ c ∈ l := by
  induction l with
  | nil => simp [Lib.indexByte]
  | cons b l ih =>
    unfold Lib.indexByte
    by_cases h : b = c
    · simp [h]
    · have hb : (b == c) = false := by simp [h]
      have hc : ¬ c = b := fun e => h e.symm
      have g := Lib.indexByte_ge l c
      rw [hb, List.mem_cons, ← ih]
      simp only [Bool.false_eq_true, if_false]
      by_cases e : Lib.indexByte l c = -1
      · rw [if_pos (by simp [e]), e]
        simp [hc]
      · rw [if_neg (by simp [e])]
        constructor
        · intro _
          exact Or.inr (by omega)
        · intro h2
          rcases h2 with h2 | h2
          · exact absurd h2 hc
          · omega
theorem op_byte (c : UInt8) : spec_l02Operator.f (c.toNat : Int) = some (decide (c ∈ [43, 45, 42, 47, 124, 46, 36, 64, 61])) := by
  unfold spec_l02Operator.f
  have z : ∀ n : UInt8, ((c.toNat : Int) = (n.toNat : Int)) ↔ c = n := fun n => ⟨fun e => UInt8.toNat_inj.1 (by omega), fun e => by rw [e]⟩
  have e0 := z 43; have e1 := z 45; have e2 := z 42; have e3 := z 47; have e4 := z 124; have e5 := z 46; have e6 := z 36; have e7 := z 64; have e8 := z 61
  simp only [show ((43 : UInt8).toNat : Int) = 43 from rfl, show ((45 : UInt8).toNat : Int) = 45 from rfl, show ((42 : UInt8).toNat : Int) = 42 from rfl, show ((47 : UInt8).toNat : Int) = 47 from rfl, show ((124 : UInt8).toNat : Int) = 124 from rfl, show ((46 : UInt8).toNat : Int) = 46 from rfl, show ((36 : UInt8).toNat : Int) = 36 from rfl, show ((64 : UInt8).toNat : Int) = 64 from rfl, show ((61 : UInt8).toNat : Int) = 61 from rfl] at e0 e1 e2 e3 e4 e5 e6 e7 e8
  simp only [e0, e1, e2, e3, e4, e5, e6, e7, e8, List.mem_cons, List.not_mem_nil, or_false]
  by_cases h0 : c = 43
  · simp [h0]
  by_cases h1 : c = 45
  · simp [h1]
  by_cases h2 : c = 42
  · simp [h2]
  by_cases h3 : c = 47
  · simp [h3]
  by_cases h4 : c = 124
  · simp [h4]
  by_cases h5 : c = 46
  · simp [h5]
  by_cases h6 : c = 36
  · simp [h6]
  by_cases h7 : c = 64
  · simp [h7]
  by_cases h8 : c = 61
  · simp [h8]
  simp [h0, h1, h2, h3, h4, h5, h6, h7, h8]
/-! ### one token, as both sides scan it (behind Digits' dval, OneByte, Operator) -/
theorem spec_scL (c : Int) : spec_l02Letter.f c = some (scL c) := by
  unfold spec_l02Letter.f scL
  by_cases h1 : 65 ≤ c <;> by_cases h2 : c ≤ 90 <;> by_cases h3 : 97 ≤ c <;> simp [h1, h2, h3]
theorem spec_scD (c : Int) : spec_l02Digit.f c = some (scD c) := by
  unfold spec_l02Digit.f scD
  by_cases h1 : 48 ≤ c <;> simp [h1]
theorem sw1 (i n : Nat) (h : i ≤ n) (hn : n ≤ 1000000) : wrap64 ((i : Int) + 1) = ((i + 1 : Nat) : Int) := by unfold wrap64; omega
/-- The reference's end of a name. -/
theorem nameEnd_at (s : ByteArray) (hs : s.size ≤ 1000000) (d : Nat) : ∀ e : Nat, e + d = s.size → Ev (fun k => spec_l02NameEnd.l0 k s (e : Int)) ((e + scP scN s e : Nat) : Int) := by
  induction d with
  | zero =>
    intro e he
    obtain rfl : e = s.size := by omega
    rw [scP_end, Nat.add_zero]
    refine Ev.step (f := fun _ => some ((s.size : Nat) : Int)) (fun k => ?_) (Ev.now _)
    simp only [spec_l02NameEnd.l0]
    rw [if_neg (Int.lt_irrefl _)]
  | succ d ih =>
    intro e he
    have hlt : e < s.size := by omega
    have q1 : (e : Int) < (s.size : Int) := by omega
    have hw := sw1 e s.size (by omega) hs
    have h := ih (e + 1) (by omega)
    cases hp : scN (bt s (e : Int)) with
    | true =>
      rw [scP_t scN s e hlt hp, show e + (scP scN s (e + 1) + 1) = (e + 1) + scP scN s (e + 1) by omega]
      refine Ev.step (fun k => ?_) h
      simp only [spec_l02NameEnd.l0]
      rw [if_pos q1, if_pos (Int.natCast_nonneg _), spec_scL, spec_scD, hw]
      unfold scN at hp
      cases hl : scL (bt s (e : Int)) with
      | true => simp
      | false =>
        cases hg : scD (bt s (e : Int)) with
        | true => simp
        | false =>
          rw [hl, hg] at hp
          have hc : bt s (e : Int) = 95 := by simpa using hp
          simp [hc]
    | false =>
      rw [scP_f scN s e hp, Nat.add_zero]
      refine Ev.step (f := fun _ => some ((e : Nat) : Int)) (fun k => ?_) (Ev.now _)
      simp only [spec_l02NameEnd.l0]
      rw [if_pos q1, if_pos (Int.natCast_nonneg _), spec_scL, spec_scD]
      unfold scN at hp
      cases hl : scL (bt s (e : Int)) with
      | true => rw [hl] at hp; simp at hp
      | false =>
        cases hg : scD (bt s (e : Int)) with
        | true => rw [hl, hg] at hp; simp at hp
        | false =>
          rw [hl, hg] at hp
          have hc : ¬ bt s (e : Int) = 95 := by simpa using hp
          simp [hc]
/-- What a side tells of a token: the token, how many bytes it has; none: an error. -/
def errTok : Int × Int × ByteArray × Bool × Bool × Int := (0, 0, (⟨#[]⟩ : ByteArray), false, false, -1)
def TokOK (s : ByteArray) (a : Nat) : Prop :=
  (∃ (K N : Int) (T : ByteArray) (n : Nat), 1 ≤ n ∧ a + n ≤ s.size ∧ scT s a = some (K, N, T, false, false, (n : Int), true) ∧ Ev (fun k => spec_l02One.f k s (a : Int)) (K, N, T, false, false, ((a + n : Nat) : Int))) ∨
  (∃ (K N : Int) (T : ByteArray) (n : Int), scT s a = some (K, N, T, false, false, n, false) ∧ Ev (fun k => spec_l02One.f k s (a : Int)) errTok)
def contN (s : ByteArray) (a t : Int) : Option (Int × Int × ByteArray × Bool × Bool × Int) := if (wrap64 (t - a)) > 12 then (some (0, 0, (⟨#[]⟩ : ByteArray), false, false, (-1))) else (if a ≤ t then (if t ≤ (s.size : Int) then (some (1, 0, s.extract (a : Int).toNat (t : Int).toNat, false, false, t)) else (none)) else (none))
theorem tok_name (s : ByteArray) (hs : s.size ≤ 1000000) (a : Nat) (ha : a < s.size) (hL : scL (bt s (a : Int)) = true) : TokOK s a := by
  have hN : scN (bt s (a : Int)) = true := by unfold scN; rw [hL]; rfl
  have q1 : (a : Int) < (s.size : Int) := by omega
  have ne : Ev (fun k => spec_l02NameEnd.f k s (a : Int)) ((a + scP scN s a : Nat) : Int) := by
    refine Ev.congr (f := fun k => spec_l02NameEnd.j0 k s (a : Int) false) (fun k => ?_) (Ev.step (f := fun k => spec_l02NameEnd.l0 k s (a : Int)) (fun k => by simp only [spec_l02NameEnd.j0]; rw [if_neg (by simp)]) (nameEnd_at s hs (s.size - a) a (by omega)))
    unfold spec_l02NameEnd.f
    rw [if_neg (by omega), if_pos (Int.natCast_nonneg _), if_pos q1, spec_scL, hL]
    rfl
  have hb := scP_bound scN s a (Nat.le_of_lt ha)
  have h1 : 1 ≤ scP scN s a := by rw [scP_t scN s a ha hN]; omega
  generalize hn : scP scN s a = n at *
  have hw : wrap64 (((a + n : Nat) : Int) - (a : Int)) = (n : Int) := by unfold wrap64; clear ne; omega
  have un : ∀ r, contN s (a : Int) ((a + n : Nat) : Int) = some r → Ev (fun k => spec_l02One.f k s (a : Int)) r := by
    intro r hr
    refine Ev.congr (f := fun k => (spec_l02NameEnd.f k s (a : Int)).bind (contN s (a : Int))) (fun k => ?_) (Ev.bind ne (by rw [hr]; exact Ev.now _))
    unfold spec_l02One.f
    rw [if_pos (Int.natCast_nonneg _), if_pos q1, spec_scL, hL, Option.bind_some, if_pos rfl]
    rfl
  have hcn : contN s (a : Int) ((a + n : Nat) : Int) = if (n : Int) > 12 then some errTok else some (1, 0, s.extract a (a + n), false, false, ((a + n : Nat) : Int)) := by
    unfold contN
    rw [hw, if_pos (show (a : Int) ≤ ((a + n : Nat) : Int) by clear ne un hw; omega), if_pos (show ((a + n : Nat) : Int) ≤ (s.size : Int) by clear ne un hw; omega), Int.toNat_natCast, Int.toNat_natCast]
    rfl
  have hT : scT s a = some (1, 0, s.extract a (a + n), false, false, (n : Int), decide (n ≤ 12)) := by unfold scT; rw [if_pos hL, hn]
  by_cases c : n ≤ 12
  · rw [decide_eq_true c] at hT
    exact Or.inl ⟨1, 0, _, n, h1, hb, hT, un _ (by rw [hcn, if_neg (show ¬ (n : Int) > 12 by clear ne un hw hcn; omega)])⟩
  · rw [decide_eq_false c] at hT
    exact Or.inr ⟨1, 0, _, _, hT, un _ (by rw [hcn, if_pos (show (n : Int) > 12 by clear ne un hw hcn; omega)])⟩
/-! a string -/
def strR (s : ByteArray) (a m : Nat) : Int × Int × ByteArray × Bool × Bool × Int := if m = s.size then errTok else if m - a - 1 > 200 then errTok else (3, 0, s.extract (a + 1) m, false, false, ((m + 1 : Nat) : Int))
theorem str_end (s : ByteArray) (hs : s.size ≤ 1000000) (a m : Nat) (h1 : a + 1 ≤ m) (h2 : m ≤ s.size) :
    (if (m : Int) = (s.size : Int) then (some (0, 0, (⟨#[]⟩ : ByteArray), false, false, (-1))) else (if (wrap64 ((wrap64 ((m : Int) - (a : Int))) - 1)) > 200 then (some (0, 0, (⟨#[]⟩ : ByteArray), false, false, (-1))) else (if 0 ≤ (wrap64 ((a : Int) + 1)) then (if (wrap64 ((a : Int) + 1)) ≤ (m : Int) then (if (m : Int) ≤ (s.size : Int) then (some (3, 0, s.extract ((wrap64 ((a : Int) + 1)) : Int).toNat ((m : Int) : Int).toNat, false, false, wrap64 ((m : Int) + 1))) else (none)) else (none)) else (none)))) = some (strR s a m) := by
  have w1 : wrap64 (wrap64 ((m : Int) - (a : Int)) - 1) = ((m - a - 1 : Nat) : Int) := by unfold wrap64; omega
  have w2 : wrap64 ((a : Int) + 1) = ((a + 1 : Nat) : Int) := by unfold wrap64; omega
  have w3 : wrap64 ((m : Int) + 1) = ((m + 1 : Nat) : Int) := by unfold wrap64; omega
  rw [w1, w2, w3, Int.toNat_natCast, Int.toNat_natCast]
  unfold strR errTok
  by_cases c1 : m = s.size
  · rw [if_pos (by omega), if_pos c1]
  · rw [if_neg (by omega), if_neg c1]
    by_cases c2 : m - a - 1 > 200
    · rw [if_pos (by omega), if_pos c2]
    · rw [if_neg (by omega), if_neg c2, if_pos (Int.natCast_nonneg _), if_pos (by omega), if_pos (by omega)]
theorem str_loop (s : ByteArray) (hs : s.size ≤ 1000000) (a : Nat) (b : Int) (d : Nat) : ∀ e : Nat, e + d = s.size → a + 1 ≤ e → Ev (fun k => spec_l02One.l1 k s (a : Int) b (e : Int)) (strR s a (e + scP (fun c => c != b) s e)) := by
  induction d with
  | zero =>
    intro e he h1
    obtain rfl : e = s.size := by omega
    have h := str_end s hs a s.size h1 (Nat.le_refl _)
    rw [scP_end, Nat.add_zero]
    refine Ev.step (f := fun _ => some (strR s a s.size)) (fun k => ?_) (Ev.now _)
    simp only [spec_l02One.l1]
    rw [if_neg (Int.lt_irrefl _), if_pos trivial]
    rw [if_pos rfl] at h
    exact h
  | succ d ih =>
    intro e he h1
    have hlt : e < s.size := by omega
    have q1 : (e : Int) < (s.size : Int) := by omega
    have hw := sw1 e s.size (by omega) hs
    have h2 := str_end s hs a e h1 (by omega)
    have h := ih (e + 1) (by omega) (by omega)
    by_cases c : bt s (e : Int) = b
    · rw [scP_f _ s e (by simp [c]), Nat.add_zero]
      refine Ev.step (f := fun _ => some (strR s a e)) (fun k => ?_) (Ev.now _)
      simp only [spec_l02One.l1]
      rw [if_pos q1, if_pos (Int.natCast_nonneg _), if_pos c]
      exact h2
    · rw [scP_t _ s e hlt (by simp [c]), show e + (scP (fun c => c != b) s (e + 1) + 1) = (e + 1) + scP (fun c => c != b) s (e + 1) by omega]
      refine Ev.step (fun k => ?_) h
      simp only [spec_l02One.l1]
      rw [if_pos q1, if_pos (Int.natCast_nonneg _), if_neg c, hw]
theorem one_else (s : ByteArray) (a : Nat) (ha : a < s.size) (hL : scL (bt s (a : Int)) = false) (hD : scD (bt s (a : Int)) = false) (r : Int × Int × ByteArray × Bool × Bool × Int)
    (h : Ev (fun k => if bt s (a : Int) = 39 then spec_l02One.j1 k s (a : Int) (bt s (a : Int)) true else spec_l02One.j1 k s (a : Int) (bt s (a : Int)) (bt s (a : Int) == 34)) r) : Ev (fun k => spec_l02One.f k s (a : Int)) r := by
  refine Ev.congr (fun k => ?_) h
  unfold spec_l02One.f
  rw [if_pos (Int.natCast_nonneg _), if_pos (show (a : Int) < (s.size : Int) by omega), spec_scL, hL, Option.bind_some, if_neg (by simp), spec_scD, hD, Option.bind_some, if_neg (by simp)]
theorem tok_str (s : ByteArray) (hs : s.size ≤ 1000000) (a : Nat) (ha : a < s.size) (hL : scL (bt s (a : Int)) = false) (hD : scD (bt s (a : Int)) = false) (hq : bt s (a : Int) = 39 ∨ bt s (a : Int) = 34) : TokOK s a := by
  have hw := sw1 a s.size (by omega) hs
  have hl := str_loop s hs a (bt s (a : Int)) (s.size - (a + 1)) (a + 1) (by omega) (Nat.le_refl _)
  have hb := scP_bound (fun c => c != bt s (a : Int)) s (a + 1) ha
  have hT : scT s a = some (3, 0, s.extract (a + 1) (a + 1 + scP (fun c => c != bt s (a : Int)) s (a + 1)), false, false, ((scP (fun c => c != bt s (a : Int)) s (a + 1) : Nat) : Int) + 2, decide (a + 1 + scP (fun c => c != bt s (a : Int)) s (a + 1) < s.size) && decide (scP (fun c => c != bt s (a : Int)) s (a + 1) ≤ 200)) := by
    unfold scT
    rw [if_neg (by rw [hL]; simp), if_neg (by rw [hD]; simp), if_pos hq]
  generalize hn : scP (fun c => c != bt s (a : Int)) s (a + 1) = n at hl hb hT
  clear hn
  have hj : Ev (fun k => spec_l02One.j1 k s (a : Int) (bt s (a : Int)) true) (strR s a (a + 1 + n)) := Ev.step (f := fun k => spec_l02One.l1 k s (a : Int) (bt s (a : Int)) ((a + 1 : Nat) : Int)) (fun k => by simp only [spec_l02One.j1, if_true, hw]) hl
  have ho : Ev (fun k => spec_l02One.f k s (a : Int)) (strR s a (a + 1 + n)) := by
    refine one_else s a ha hL hD _ (Ev.congr (fun k => ?_) hj)
    rcases hq with c | c
    · rw [if_pos c]
    · rw [if_neg (by omega), beq_iff_eq.mpr c]
  clear hl hj hw
  unfold strR at ho
  by_cases c1 : a + 1 + n = s.size
  · rw [if_pos c1] at ho
    rw [decide_eq_false (show ¬ (a + 1 + n < s.size) by omega), Bool.false_and] at hT
    exact Or.inr ⟨_, _, _, _, hT, ho⟩
  · rw [if_neg c1] at ho
    rw [decide_eq_true (show a + 1 + n < s.size by omega), Bool.true_and] at hT
    by_cases c2 : n ≤ 200
    · rw [decide_eq_true c2] at hT
      rw [if_neg (by omega)] at ho
      exact Or.inl ⟨3, 0, _, n + 2, by omega, by omega, hT, by rw [show a + (n + 2) = a + 1 + n + 1 by omega]; exact ho⟩
    · rw [decide_eq_false c2] at hT
      rw [if_pos (by omega)] at ho
      exact Or.inr ⟨_, _, _, _, hT, ho⟩
/-! an operator, another sign -/
theorem byte_at (s : ByteArray) (a : Nat) (ha : a < s.size) : ∃ c : UInt8, bt s (a : Int) = (c.toNat : Int) ∧ s.extract a (a + 1) = ⟨#[c]⟩ := by
  refine ⟨s[a], (bt_at s (a : Int) ha).symm, ?_⟩
  apply ByteArray.ext
  apply Array.ext'
  have h1 : (s.extract a (a + 1)).data.toList = (s.data.toList.drop a).take 1 := by
    simp [ByteArray.data_extract, List.take_drop]
  rw [h1]
  have h2 : a < s.data.toList.length := by simpa using ha
  rw [List.drop_eq_getElem_cons h2]
  simp
  rfl
theorem enc_byte (c : UInt8) (h : c.toNat < 128) : Utf8.encode (c.toNat : Int) = ⟨#[c]⟩ := by
  have hv : Utf8.valid (c.toNat : Int) = true := by
    unfold Utf8.valid
    rw [decide_eq_true (show (0 : Int) ≤ (c.toNat : Int) by omega), decide_eq_true (show (c.toNat : Int) < 55296 by omega)]
    rfl
  have hc : (if Utf8.valid (c.toNat : Int) = true then ((c.toNat : Int)).toNat else Utf8.runeError) = c.toNat := by rw [if_pos hv]; rfl
  unfold Utf8.encode
  simp only [hc]
  rw [if_pos h, UInt8.ofNat_toNat]
theorem idx_none (l : List UInt8) (c : UInt8) : (Lib.indexByte l c < 0) ↔ Lib.indexByte l c = -1 := by have := Lib.indexByte_ge l c; omega
def signR (a : Nat) (c : UInt8) (i : Nat) (l : List UInt8) : Int × Int × ByteArray × Bool × Bool × Int := if Lib.indexByte l c < 0 then errTok else (5 + ((i : Int) + Lib.indexByte l c), 0, (⟨#[]⟩ : ByteArray), false, false, ((a + 1 : Nat) : Int))
theorem sign_step (a : Nat) (ha : a ≤ 1000000) (c d : UInt8) (i : Nat) (hi : i < 6) (l : List UInt8) (hb : bt (⟨#[40, 41, 60, 62, 44, 58]⟩ : ByteArray) (i : Int) = (d.toNat : Int)) (h : Ev (fun k => spec_l02One.l2 k (a : Int) (c.toNat : Int) (⟨#[40, 41, 60, 62, 44, 58]⟩ : ByteArray) ((i + 1 : Nat) : Int)) (signR a c (i + 1) l)) :
    Ev (fun k => spec_l02One.l2 k (a : Int) (c.toNat : Int) (⟨#[40, 41, 60, 62, 44, 58]⟩ : ByteArray) (i : Int)) (signR a c i (d :: l)) := by
  have w1 : wrap64 ((i : Int) + 1) = ((i + 1 : Nat) : Int) := by unfold wrap64; omega
  have w2 : wrap64 (5 + (i : Int)) = 5 + (i : Int) := by unfold wrap64; omega
  have w3 : wrap64 ((a : Int) + 1) = ((a + 1 : Nat) : Int) := by unfold wrap64; omega
  have q1 : (i : Int) < (((⟨#[40, 41, 60, 62, 44, 58]⟩ : ByteArray).size : Nat) : Int) := by show (i : Int) < 6; omega
  by_cases e : d = c
  · subst e
    have hx : Lib.indexByte (d :: l) d = 0 := by unfold Lib.indexByte; rw [if_pos (by simp)]
    refine Ev.step (f := fun _ => some (signR a d i (d :: l))) (fun k => ?_) (Ev.now _)
    simp only [spec_l02One.l2, w2, w3]
    rw [if_pos q1, if_pos (Int.natCast_nonneg _), if_pos hb, signR, hx, if_neg (by decide), Int.add_zero]
  · have hne : ¬ (d.toNat : Int) = (c.toNat : Int) := fun h2 => e (UInt8.toNat_inj.1 (by omega))
    have hx : signR a c i (d :: l) = signR a c (i + 1) l := by
      have hq : Lib.indexByte (d :: l) c = if Lib.indexByte l c = -1 then -1 else Lib.indexByte l c + 1 := by
        rw [Lib.indexByte, if_neg (by simpa using e)]
        by_cases z : Lib.indexByte l c = -1
        · rw [if_pos (by simpa using z), if_pos z]
        · rw [if_neg (by simpa using z), if_neg z]
      have hg := Lib.indexByte_ge l c
      unfold signR
      rw [hq]
      by_cases z : Lib.indexByte l c = -1
      · rw [if_pos z, z, if_pos (by decide), if_pos (by decide)]
      · rw [if_neg z, if_neg (by omega), if_neg (by omega)]
        congr 1
        omega
    rw [hx]
    refine Ev.step (fun k => ?_) h
    simp only [spec_l02One.l2, w1]
    rw [if_pos q1, if_pos (Int.natCast_nonneg _), hb, if_neg hne]
theorem sign_all (a : Nat) (ha : a ≤ 1000000) (c : UInt8) : Ev (fun k => spec_l02One.l2 k (a : Int) (c.toNat : Int) (⟨#[40, 41, 60, 62, 44, 58]⟩ : ByteArray) 0) (signR a c 0 [40, 41, 60, 62, 44, 58]) := by
  have h6 : Ev (fun k => spec_l02One.l2 k (a : Int) (c.toNat : Int) (⟨#[40, 41, 60, 62, 44, 58]⟩ : ByteArray) ((6 : Nat) : Int)) (signR a c 6 []) := by
    refine Ev.step (f := fun _ => some errTok) (fun k => ?_) (Ev.now _)
    simp only [spec_l02One.l2]
    rw [if_neg (by decide)]
    rfl
  exact sign_step a ha c 40 0 (by decide) _ rfl (sign_step a ha c 41 1 (by decide) _ rfl (sign_step a ha c 60 2 (by decide) _ rfl (sign_step a ha c 62 3 (by decide) _ rfl (sign_step a ha c 44 4 (by decide) _ rfl (sign_step a ha c 58 5 (by decide) _ rfl h6)))))
theorem to_byte (c : UInt8) : ((c.toNat : Int)).toNat.toUInt8 = c := by rw [Int.toNat_natCast]; exact UInt8.ofNat_toNat
theorem tok_other (s : ByteArray) (hs : s.size ≤ 1000000) (a : Nat) (ha : a < s.size) (hL : scL (bt s (a : Int)) = false) (hD : scD (bt s (a : Int)) = false) (hq : ¬ (bt s (a : Int) = 39 ∨ bt s (a : Int) = 34)) (h128 : bt s (a : Int) < 128) : TokOK s a := by
  have hw := sw1 a s.size (by omega) hs
  obtain ⟨c, hc, hx⟩ := byte_at s a ha
  have hO : scO (bt s (a : Int)) = Lib.indexByte [(43 : UInt8), 45, 42, 47, 124, 46, 36, 64, 61] c := by unfold scO; rw [hc, to_byte]
  have hK : scK (bt s (a : Int)) = Lib.indexByte [(40 : UInt8), 41, 60, 62, 44, 58] c := by unfold scK; rw [hc, to_byte]
  have hT : scT s a = if 0 ≤ scO (bt s (a : Int)) then some (4, 0, Utf8.encode (bt s (a : Int)), false, false, 1, true) else some (5 + scK (bt s (a : Int)), 0, (⟨#[]⟩ : ByteArray), false, false, 1, decide (0 ≤ scK (bt s (a : Int)))) := by
    unfold scT
    rw [if_neg (by rw [hL]; simp), if_neg (by rw [hD]; simp), if_neg hq]
  have ho : ∀ r, Ev (fun k => if decide (c ∈ [(43 : UInt8), 45, 42, 47, 124, 46, 36, 64, 61]) = true then (if 0 ≤ (a : Int) then (if (a : Int) ≤ (wrap64 ((a : Int) + 1)) then (if (wrap64 ((a : Int) + 1)) ≤ (s.size : Int) then (some (4, 0, s.extract ((a : Int) : Int).toNat ((wrap64 ((a : Int) + 1)) : Int).toNat, false, false, wrap64 ((a : Int) + 1))) else (none)) else (none)) else (none)) else spec_l02One.l2 k (a : Int) (bt s (a : Int)) (⟨#[40, 41, 60, 62, 44, 58]⟩ : ByteArray) 0) r → Ev (fun k => spec_l02One.f k s (a : Int)) r := by
    intro r hr
    refine one_else s a ha hL hD r ?_
    refine Ev.congr (f := fun k => spec_l02One.j1 k s (a : Int) (bt s (a : Int)) false) (fun k => ?_) (Ev.step (fun k => ?_) hr)
    · rw [if_neg (fun e => hq (Or.inl e)), beq_eq_false_iff_ne.mpr (fun e => hq (Or.inr e))]
    · simp only [spec_l02One.j1]
      rw [if_neg (by simp), hc, op_byte, Option.bind_some]
  have hm := idx_mem [(43 : UInt8), 45, 42, 47, 124, 46, 36, 64, 61] c
  by_cases c1 : c ∈ [(43 : UInt8), 45, 42, 47, 124, 46, 36, 64, 61]
  · rw [if_pos (by rw [hO]; exact hm.2 c1), hc, enc_byte c (by omega)] at hT
    refine Or.inl ⟨4, 0, _, 1, Nat.le_refl _, ha, hT, ho _ (Ev.congr (f := fun _ => some (4, 0, s.extract a (a + 1), false, false, ((a + 1 : Nat) : Int))) (fun k => ?_) (by rw [hx]; exact Ev.now _))⟩
    rw [if_pos (decide_eq_true c1), hw, if_pos (Int.natCast_nonneg _), if_pos (by omega), if_pos (by omega), Int.toNat_natCast, Int.toNat_natCast]
  · rw [if_neg (by rw [hO]; exact fun h => c1 (hm.1 h)), hK] at hT
    have sg := ho _ (Ev.congr (fun k => by rw [if_neg (by rw [decide_eq_false c1]; simp), hc]) (sign_all a (by omega) c))
    have hg := Lib.indexByte_ge [(40 : UInt8), 41, 60, 62, 44, 58] c
    generalize hj : Lib.indexByte [(40 : UInt8), 41, 60, 62, 44, 58] c = j at *
    unfold signR at sg
    rw [hj] at sg
    by_cases c2 : j < 0
    · rw [if_pos c2] at sg
      rw [decide_eq_false (by omega)] at hT
      exact Or.inr ⟨_, _, _, _, hT, sg⟩
    · rw [if_neg c2] at sg
      rw [decide_eq_true (by omega)] at hT
      refine Or.inl ⟨5 + j, 0, _, 1, Nat.le_refl _, ha, hT, ?_⟩
      rw [show ((0 : Nat) : Int) + j = j by omega] at sg
      exact sg
/-! a number -/
theorem drop_c (s : ByteArray) (e : Nat) (h : e < s.size) : ∃ c : UInt8, s.data.toList.drop e = c :: s.data.toList.drop (e + 1) ∧ bt s (e : Int) = (c.toNat : Int) := by
  have h2 : e < s.data.toList.length := by simpa using h
  refine ⟨s.data.toList[e], List.drop_eq_getElem_cons h2, ?_⟩
  rw [← bt_at s (e : Int) h]
  simp
  rfl
theorem dig_iff (c : UInt8) : scD (c.toNat : Int) = isDig c := by
  unfold scD isDig
  rw [Bool.eq_iff_iff, Bool.and_eq_true, decide_eq_true_eq, decide_eq_true_eq, decide_eq_true_eq]
  omega
theorem digs_all (s : ByteArray) (d : Nat) : ∀ e : Nat, e + d = s.size → ((s.data.toList.drop e).take (scP scD s e)).all isDig = true := by
  induction d with
  | zero =>
    intro e he
    obtain rfl : e = s.size := by omega
    rw [scP_end]
    rfl
  | succ d ih =>
    intro e he
    obtain ⟨c, h1, h2⟩ := drop_c s e (by omega)
    cases hp : scD (bt s (e : Int)) with
    | true =>
      rw [scP_t scD s e (by omega) hp, h1, List.take_succ_cons, List.all_cons, ih (e + 1) (by omega), Bool.and_true, ← dig_iff, ← h2]
      exact hp
    | false =>
      rw [scP_f scD s e hp]
      rfl
theorem ext_list (s : ByteArray) (a n : Nat) : (s.extract a (a + n)).data.toList = (s.data.toList.drop a).take n := by
  simp [ByteArray.data_extract, List.take_drop]
def numR (a n v : Nat) : Int × Int × ByteArray × Bool × Bool × Int := if n > 13 then errTok else if v > 1000000000000 then errTok else (2, (v : Int), (⟨#[]⟩ : ByteArray), false, false, ((a + n : Nat) : Int))
theorem num_end (a m v : Nat) (h1 : a + m ≤ 2000000) :
    (if (wrap64 (((a + m : Nat) : Int) - (a : Int))) > 13 then (some (0, 0, (⟨#[]⟩ : ByteArray), false, false, (-1))) else (if (v : Int) > 1000000000000 then (some (0, 0, (⟨#[]⟩ : ByteArray), false, false, (-1))) else (some (2, (v : Int), (⟨#[]⟩ : ByteArray), false, false, ((a + m : Nat) : Int))))) = some (numR a m v) := by
  have w1 : wrap64 (((a + m : Nat) : Int) - (a : Int)) = (m : Int) := by unfold wrap64; omega
  rw [w1]
  unfold numR errTok
  by_cases c1 : m > 13
  · rw [if_pos (by omega), if_pos c1]
  · rw [if_neg (by omega), if_neg c1]
    by_cases c2 : v > 1000000000000
    · rw [if_pos (by omega), if_pos c2]
    · rw [if_neg (by omega), if_neg c2]
theorem num_step (v c : Nat) (hv : v < 10000000000000) (hc : 48 ≤ c ∧ c ≤ 57) : wrap64 (wrap64 (10 * (v : Int)) + (((c : Int) - 48) % 256)) = ((v * 10 + (c - 48) : Nat) : Int) := by
  have w : wrap64 (10 * (v : Int)) = 10 * (v : Int) := by unfold wrap64; omega
  have m : ((c : Int) - 48) % 256 = (c : Int) - 48 := by omega
  rw [w, m]
  unfold wrap64
  omega
theorem num_loop (s : ByteArray) (hs : s.size ≤ 1000000) (a : Nat) (ha : a ≤ s.size) (d : Nat) : ∀ m : Nat, m + d = 14 → a + m ≤ s.size → scP scD s a = m + scP scD s (a + m) → ((s.data.toList.drop a).take m).all isDig = true →
    Ev (fun k => spec_l02One.l0 k s (a : Int) ((dval ((s.data.toList.drop a).take m) : Nat) : Int) ((a + m : Nat) : Int)) (numR a (scP scD s a) (dval ((s.data.toList.drop a).take (scP scD s a)))) := by
  induction d with
  | zero =>
    intro m hm h1 hn _
    obtain rfl : m = 14 := by omega
    have hr : numR a (scP scD s a) (dval ((s.data.toList.drop a).take (scP scD s a))) = numR a 14 (dval ((s.data.toList.drop a).take 14)) := by
      unfold numR
      rw [if_pos (by omega), if_pos (by omega)]
    have he := num_end a 14 (dval ((s.data.toList.drop a).take 14)) (by omega)
    have w1 : wrap64 (((a + 14 : Nat) : Int) - (a : Int)) = ((14 : Nat) : Int) := by clear he hr hn; unfold wrap64; omega
    rw [hr]
    refine Ev.step (f := fun _ => some (numR a 14 (dval ((s.data.toList.drop a).take 14)))) (fun k => ?_) (Ev.now _)
    simp only [spec_l02One.l0, spec_scD, Option.bind_some]
    by_cases c : ((a + 14 : Nat) : Int) < (s.size : Int)
    · rw [if_pos c, if_pos (Int.natCast_nonneg _)]
      cases scD (bt s ((a + 14 : Nat) : Int)) with
      | true =>
        rw [if_pos rfl, if_neg (by rw [w1]; decide)]
        exact he
      | false =>
        rw [if_neg (by simp)]
        exact he
    · rw [if_neg c]
      exact he
  | succ d ih =>
    intro m hm h1 hn hd
    have fin : scP scD s (a + m) = 0 → numR a m (dval ((s.data.toList.drop a).take m)) = numR a (scP scD s a) (dval ((s.data.toList.drop a).take (scP scD s a))) := by
      intro h0
      rw [show scP scD s a = m by omega]
    have he := num_end a m (dval ((s.data.toList.drop a).take m)) (by omega)
    have w1 : wrap64 (((a + m : Nat) : Int) - (a : Int)) = (m : Int) := by clear he fin hn; unfold wrap64; omega
    have w2 : wrap64 (((a + m : Nat) : Int) + 1) = ((a + (m + 1) : Nat) : Int) := by clear he fin hn w1; unfold wrap64; omega
    by_cases c : a + m < s.size
    · have q1 : ((a + m : Nat) : Int) < (s.size : Int) := by omega
      cases hp : scD (bt s ((a + m : Nat) : Int)) with
      | true =>
        obtain ⟨b, hb1, hb2⟩ := drop_c s (a + m) c
        have hl := dval_lt _ hd
        have hlen : ((s.data.toList.drop a).take m).length ≤ 13 := by rw [List.length_take]; omega
        have hpw : (10 : Nat) ^ ((s.data.toList.drop a).take m).length ≤ 10 ^ 13 := Nat.pow_le_pow_right (by omega) hlen
        have h13 : (10 : Nat) ^ 13 = 10000000000000 := by decide
        have hbd : 48 ≤ b.toNat ∧ b.toNat ≤ 57 := by
          rw [hb2, dig_iff] at hp
          exact of_decide_eq_true hp
        have htk : (s.data.toList.drop a).take (m + 1) = (s.data.toList.drop a).take m ++ [b] := by
          rw [List.take_add_one]
          congr 1
          rw [List.getElem?_drop, ← List.head?_drop, hb1]
          rfl
        have hdv : dval ((s.data.toList.drop a).take (m + 1)) = dval ((s.data.toList.drop a).take m) * 10 + (b.toNat - 48) := by rw [htk, dval_snoc]
        have hall : ((s.data.toList.drop a).take (m + 1)).all isDig = true := by
          rw [htk, List.all_append, hd, Bool.true_and, List.all_cons, List.all_nil, Bool.and_true, ← dig_iff, ← hb2]
          exact hp
        have hv : wrap64 (wrap64 (10 * ((dval ((s.data.toList.drop a).take m) : Nat) : Int)) + ((bt s ((a + m : Nat) : Int) - 48) % 256)) = ((dval ((s.data.toList.drop a).take (m + 1)) : Nat) : Int) := by
          have hvb : dval ((s.data.toList.drop a).take m) < 10000000000000 := Nat.lt_of_lt_of_le hl (by rw [← h13]; exact hpw)
          rw [hdv, hb2]
          exact num_step _ _ hvb hbd
        have h := ih (m + 1) (by omega) (by omega) (by rw [scP_t scD s (a + m) c hp] at hn; rw [show a + (m + 1) = a + m + 1 by omega]; omega) hall
        refine Ev.step (fun k => ?_) h
        simp only [spec_l02One.l0, spec_scD, Option.bind_some]
        rw [if_pos q1, if_pos (Int.natCast_nonneg _), hp, if_pos rfl, w1, if_pos (by clear hn he fin w1 w2 hv; omega), hv, w2]
      | false =>
        have h0 := scP_f scD s (a + m) hp
        rw [← fin h0]
        refine Ev.step (f := fun _ => some (numR a m (dval ((s.data.toList.drop a).take m)))) (fun k => ?_) (Ev.now _)
        simp only [spec_l02One.l0, spec_scD, Option.bind_some]
        rw [if_pos q1, if_pos (Int.natCast_nonneg _), hp, if_neg (by simp)]
        exact he
    · have h0 : scP scD s (a + m) = 0 := by rw [show a + m = s.size by omega]; exact scP_end scD s
      rw [← fin h0]
      refine Ev.step (f := fun _ => some (numR a m (dval ((s.data.toList.drop a).take m)))) (fun k => ?_) (Ev.now _)
      simp only [spec_l02One.l0, spec_scD, Option.bind_some]
      rw [if_neg (by omega)]
      exact he
theorem tok_num (s : ByteArray) (hs : s.size ≤ 1000000) (a : Nat) (ha : a < s.size) (hL : scL (bt s (a : Int)) = false) (hD : scD (bt s (a : Int)) = true) : TokOK s a := by
  have hb := scP_bound scD s a (Nat.le_of_lt ha)
  have h1 : 1 ≤ scP scD s a := by rw [scP_t scD s a ha hD]; omega
  have hl := num_loop s hs a (Nat.le_of_lt ha) 14 0 (by omega) (by omega) (by rw [Nat.zero_add, Nat.add_zero]) rfl
  have hall := digs_all s (s.size - a) a (by omega)
  have hex := ext_list s a (scP scD s a)
  have hT : scT s a = (impl_readInteger.f (s.extract a (a + scP scD s a))).bind fun r => some (2, r.1, (⟨#[]⟩ : ByteArray), false, false, ((scP scD s a : Nat) : Int), r.2) := by
    unfold scT
    rw [if_neg (by rw [hL]; simp), if_pos hD]
  have ho : Ev (fun k => spec_l02One.f k s (a : Int)) (numR a (scP scD s a) (dval ((s.data.toList.drop a).take (scP scD s a)))) := by
    refine Ev.congr (fun k => ?_) hl
    unfold spec_l02One.f
    rw [if_pos (Int.natCast_nonneg _), if_pos (show (a : Int) < (s.size : Int) by omega), spec_scL, hL, Option.bind_some, if_neg (by simp), spec_scD, hD, Option.bind_some, if_pos rfl]
    rfl
  clear hl
  generalize hn : scP scD s a = n at *
  rw [← hex] at ho hall
  have hsz : (s.extract a (a + n)).data.toList.length = n := by
    have hq : s.data.toList.length = s.size := by simp
    rw [hex, List.length_take, List.length_drop, hq]
    omega
  have hsz2 : (s.extract a (a + n)).size = n := by rw [ByteArray.size_extract]; omega
  generalize hx : s.extract a (a + n) = x at *
  unfold numR at ho
  by_cases c1 : n > 13
  · rw [if_pos c1] at ho
    have hr : impl_readInteger.f x = some (0, false) := by unfold impl_readInteger.f; rw [if_pos (by omega)]
    rw [hr, Option.bind_some] at hT
    exact Or.inr ⟨_, _, _, _, hT, ho⟩
  · rw [if_neg c1] at ho
    have hp := parse_digits x.data.toList (fun e => by rw [e] at hsz; simp at hsz; omega) hall (by omega)
    have hr : impl_readInteger.f x = some (((dval x.data.toList : Nat) : Int), decide (dval x.data.toList ≤ 1000000000000)) := by
      unfold impl_readInteger.f impl_isNumber.f impl_within.f
      rw [if_neg (by omega), hp]
      simp only
      rw [if_pos (Int.natCast_nonneg _), Option.bind_some, Option.bind_some]
      congr 2
      exact decide_eq_decide.2 (by omega)
    rw [hr, Option.bind_some] at hT
    by_cases c2 : dval x.data.toList > 1000000000000
    · rw [if_pos c2] at ho
      rw [decide_eq_false (by omega)] at hT
      exact Or.inr ⟨_, _, _, _, hT, ho⟩
    · rw [if_neg c2] at ho
      rw [decide_eq_true (by omega)] at hT
      exact Or.inl ⟨2, _, _, n, h1, hb, hT, ho⟩
/-- One token, both sides. -/
theorem tok_ok (s : ByteArray) (hs : s.size ≤ 1000000) (a : Nat) (ha : a < s.size) (h128 : bt s (a : Int) < 128) : TokOK s a := by
  cases hL : scL (bt s (a : Int)) with
  | true => exact tok_name s hs a ha hL
  | false =>
    cases hD : scD (bt s (a : Int)) with
    | true => exact tok_num s hs a ha hL hD
    | false =>
      by_cases hq : bt s (a : Int) = 39 ∨ bt s (a : Int) = 34
      · exact tok_str s hs a ha hL hD hq
      · exact tok_other s hs a ha hL hD hq h128
/-! ### the loops over a text (behind ScanOne) -/
def B32 (c : Int) : Bool := c == 32
theorem span_b (s : ByteArray) (hs : s.size ≤ 1000000) (a : Nat) (d : Nat) : ∀ e : Nat, e + d = s.size → a ≤ e → Ev (fun k => impl_span_at_impl_ScanTokens_1.l0 k s (a : Int) (e : Int)) ((e - a + scP B32 s e : Nat) : Int) := by
  induction d with
  | zero =>
    intro e he h1
    obtain rfl : e = s.size := by omega
    have hw : wrap64 ((s.size : Int) - (a : Int)) = ((s.size - a : Nat) : Int) := by unfold wrap64; omega
    rw [scP_end, Nat.add_zero]
    refine Ev.step (f := fun _ => some ((s.size - a : Nat) : Int)) (fun k => ?_) (Ev.now _)
    simp only [impl_span_at_impl_ScanTokens_1.l0]
    rw [if_neg (Int.lt_irrefl _), hw]
  | succ d ih =>
    intro e he h1
    have q1 : (e : Int) < (s.size : Int) := by omega
    have hw := sw1 e s.size (by omega) hs
    have hw2 : wrap64 ((e : Int) - (a : Int)) = ((e - a : Nat) : Int) := by unfold wrap64; omega
    have h := ih (e + 1) (by omega) (by omega)
    cases hp : B32 (bt s (e : Int)) with
    | true =>
      rw [scP_t B32 s e (by omega) hp, show e - a + (scP B32 s (e + 1) + 1) = e + 1 - a + scP B32 s (e + 1) by omega]
      refine Ev.step (fun k => ?_) h
      simp only [impl_span_at_impl_ScanTokens_1.l0, impl_ScanTokens_1.f, Option.bind_some]
      rw [if_pos q1, if_pos (Int.natCast_nonneg _), if_pos (show (bt s (e : Int) == 32) = true from hp), hw]
    | false =>
      rw [scP_f B32 s e hp, Nat.add_zero]
      refine Ev.step (f := fun _ => some ((e - a : Nat) : Int)) (fun k => ?_) (Ev.now _)
      simp only [impl_span_at_impl_ScanTokens_1.l0, impl_ScanTokens_1.f, Option.bind_some]
      rw [if_pos q1, if_pos (Int.natCast_nonneg _), if_neg (by unfold B32 at hp; rw [hp]; simp), hw2]
/-- The reference goes over blanks. -/
theorem spec_blanks (s : ByteArray) (hs : s.size ≤ 1000000) (out : List S32) (d : Nat) : ∀ (a : Nat) (b : Bool), a + d = s.size → ∀ r, Ev (fun k => spec_l02Scan.l0 k s out ((a + scP B32 s a : Nat) : Int) (b || decide (0 < scP B32 s a))) r → Ev (fun k => spec_l02Scan.l0 k s out (a : Int) b) r := by
  induction d with
  | zero =>
    intro a b ha r h
    obtain rfl : a = s.size := by omega
    rw [scP_end, decide_eq_false (by omega), Bool.or_false, Nat.add_zero] at h
    exact h
  | succ d ih =>
    intro a b ha r h
    have q1 : (a : Int) < (s.size : Int) := by omega
    have hw := sw1 a s.size (by omega) hs
    cases hp : B32 (bt s (a : Int)) with
    | true =>
      rw [scP_t B32 s a (by omega) hp, decide_eq_true (by omega), Bool.or_true] at h
      refine Ev.step (fun k => ?_) (ih (a + 1) true (by omega) r (by rw [Bool.true_or, show a + 1 + scP B32 s (a + 1) = a + (scP B32 s (a + 1) + 1) by omega]; exact h))
      simp only [spec_l02Scan.l0]
      rw [if_pos q1, if_pos (Int.natCast_nonneg _), if_pos (show bt s (a : Int) = 32 from beq_iff_eq.1 hp), hw]
    | false =>
      rw [scP_f B32 s a hp, decide_eq_false (by omega), Bool.or_false, Nat.add_zero] at h
      exact h
def LastOK (s : ByteArray) (out : List S32) (a : Nat) : Prop := out = [] ∨ ∃ o t, out = o ++ [t] ∧ ((a = s.size ∨ bt s (a : Int) = 32) → t.f4 = true)
/-- The reference's last step changes nothing. -/
theorem spec_final (s : ByteArray) (out : List S32) (hl : out.length ≤ 1000000) (h : out = [] ∨ ∃ o t, out = o ++ [t] ∧ t.f4 = true) (b : Bool) : Ev (fun k => spec_l02Scan.l0 k s out (s.size : Int) b) (out, 0, 0) := by
  refine Ev.step (f := fun _ => some (out, (0 : Int), (0 : Int))) (fun k => ?_) (Ev.now _)
  simp only [spec_l02Scan.l0]
  rw [if_neg (Int.lt_irrefl _)]
  rcases h with rfl | ⟨o, t, rfl, ht⟩
  · rfl
  · have hlen : (o ++ [t]).length = o.length + 1 := by simp
    have hw : wrap64 (((o ++ [t]).length : Int) - 1) = (o.length : Int) := by rw [hlen]; rw [hlen] at hl; unfold wrap64; omega
    have hrd : rd_T32 (o ++ [t]) (o.length : Int) = t := by
      unfold rd_T32
      rw [Int.toNat_natCast, List.getD_eq_getElem?_getD, List.getElem?_append_right (Nat.le_refl _), Nat.sub_self]
      rfl
    rw [hw, hrd, if_pos (by rw [hlen]; omega), if_pos (Int.natCast_nonneg _), if_pos (by rw [hlen]; omega), Int.toNat_natCast]
    have hset : (o ++ [t]).set o.length (⟨t.f0, t.f1, t.f2, t.f3, true⟩ : S32) = o ++ [t] := by
      rw [List.set_append_right _ _ (Nat.le_refl _), Nat.sub_self]
      congr 1
      cases t
      simp only at ht
      subst ht
      rfl
    rw [hset]
theorem first_two (u v : Int) : Ev (fun k => impl_first.f k [u, v]) (if u = 0 then v else u) := by
  have w0 : wrap64 (0 + 1) = 1 := by unfold wrap64; omega
  have w1 : wrap64 (1 + 1) = 2 := by unfold wrap64; omega
  have l2 : (([u, v] : List Int).length : Int) = 2 := rfl
  have r0 : rd [u, v] 0 = u := rfl
  have r1 : rd [u, v] 1 = v := rfl
  have h2 : Ev (fun k => impl_first.l0 k [u, v] 2 2) 0 := Ev.step (f := fun _ => some 0) (fun k => by simp only [impl_first.l0]; rw [if_neg (by decide)]) (Ev.now _)
  have h1 : Ev (fun k => impl_first.l0 k [u, v] 2 1) v := by
    by_cases c : v = 0
    · rw [c] at h2 r1 l2 ⊢
      refine Ev.step (fun k => ?_) h2
      simp only [impl_first.l0, r1, w1, l2]
      rw [if_pos (by decide), if_pos (by decide), if_pos trivial]
      try rw [if_pos (by decide)]
    · refine Ev.step (f := fun _ => some v) (fun k => ?_) (Ev.now _)
      simp only [impl_first.l0, r1, w1, l2]
      rw [if_pos (by decide), if_pos (by decide), if_neg c]
      try rw [if_pos (by decide)]
  show Ev (fun k => impl_first.l0 k [u, v] 2 0) _
  by_cases c : u = 0
  · rw [if_pos c]
    refine Ev.step (fun k => ?_) h1
    simp only [impl_first.l0, r0, w0, l2]
    rw [if_pos (by decide), if_pos (by decide), if_pos c]
    try rw [if_pos (by decide)]
  · rw [if_neg c]
    refine Ev.step (f := fun _ => some u) (fun k => ?_) (Ev.now _)
    simp only [impl_first.l0, r0, w0, l2]
    rw [if_pos (by decide), if_pos (by decide), if_neg c]
    try rw [if_pos (by decide)]
theorem scP_stop (s : ByteArray) (d : Nat) : ∀ e : Nat, e + d = s.size → e + scP B32 s e < s.size → ¬ bt s ((e + scP B32 s e : Nat) : Int) = 32 := by
  induction d with
  | zero =>
    intro e he h
    omega
  | succ d ih =>
    intro e he h
    cases hp : B32 (bt s (e : Int)) with
    | true =>
      have h2 := ih (e + 1) (by omega)
      rw [scP_t B32 s e (by omega) hp] at h ⊢
      rw [show e + (scP B32 s (e + 1) + 1) = e + 1 + scP B32 s (e + 1) by omega] at h ⊢
      exact h2 h
    | false =>
      rw [scP_f B32 s e hp, Nat.add_zero]
      exact fun h2 => by unfold B32 at hp; rw [h2] at hp; simp at hp
def contS (k : Nat) (s : ByteArray) (out : List S32) (A n : Int) (bt158 : Int × Int × ByteArray × Bool × Bool × Int × Bool) (t171 : Int) : Option (List S32 × Int × Int) :=
  if t171 = 0 then (if n > 0 then (if (wrap64 (A + bt158.2.2.2.2.2.1)) = (s.size : Int) then (if out.length < 3518437208883 then (impl_ScanTokens.l0 k s (out ++ [(⟨bt158.1, bt158.2.1, bt158.2.2.1, true, true⟩ : S32)]) (wrap64 (A + bt158.2.2.2.2.2.1))) else (none)) else (if 0 ≤ (wrap64 (A + bt158.2.2.2.2.2.1)) then (if (wrap64 (A + bt158.2.2.2.2.2.1)) < (s.size : Int) then (if out.length < 3518437208883 then (impl_ScanTokens.l0 k s (out ++ [(⟨bt158.1, bt158.2.1, bt158.2.2.1, true, ((bt s (wrap64 (A + bt158.2.2.2.2.2.1))) == 32)⟩ : S32)]) (wrap64 (A + bt158.2.2.2.2.2.1))) else (none)) else (none)) else (none))) else (if (wrap64 (A + bt158.2.2.2.2.2.1)) = (s.size : Int) then (if out.length < 3518437208883 then (impl_ScanTokens.l0 k s (out ++ [(⟨bt158.1, bt158.2.1, bt158.2.2.1, ((out.length : Int) == 0), true⟩ : S32)]) (wrap64 (A + bt158.2.2.2.2.2.1))) else (none)) else (if 0 ≤ (wrap64 (A + bt158.2.2.2.2.2.1)) then (if (wrap64 (A + bt158.2.2.2.2.2.1)) < (s.size : Int) then (if out.length < 3518437208883 then (impl_ScanTokens.l0 k s (out ++ [(⟨bt158.1, bt158.2.1, bt158.2.2.1, ((out.length : Int) == 0), ((bt s (wrap64 (A + bt158.2.2.2.2.2.1))) == 32)⟩ : S32)]) (wrap64 (A + bt158.2.2.2.2.2.1))) else (none)) else (none)) else (none)))) else (some (([] : List S32), A, t171))
def contR (k : Nat) (s : ByteArray) (out : List S32) (A : Int) (b : Bool) (bt114 : Int × Int × ByteArray × Bool × Bool × Int) : Option (List S32 × Int × Int) :=
  if bt114.2.2.2.2.2 < 0 then (some ((([] : List S32)), A, 2)) else (if (out.length : Int) = 120 then (some ((([] : List S32)), A, 6)) else (if bt114.2.2.2.2.2 = (s.size : Int) then (if out.length < 3518437208883 then (spec_l02Scan.l0 k s (out ++ [(⟨bt114.1, bt114.2.1, bt114.2.2.1, b, true⟩ : S32)]) bt114.2.2.2.2.2 false) else (none)) else (if 0 ≤ bt114.2.2.2.2.2 then (if bt114.2.2.2.2.2 < (s.size : Int) then (if out.length < 3518437208883 then (spec_l02Scan.l0 k s (out ++ [(⟨bt114.1, bt114.2.1, bt114.2.2.1, b, ((bt s bt114.2.2.2.2.2) == 32)⟩ : S32)]) bt114.2.2.2.2.2 false) else (none)) else (none)) else (none))))
/-- Both loops, from the place behind a token on. -/
theorem scan_same (s : ByteArray) (hs : s.size ≤ 4000) (hp : ∀ a : Nat, a < s.size → bt s (a : Int) < 128) (m : Nat) : ∀ (a : Nat) (out : List S32), s.size - a ≤ m → a ≤ s.size → out.length ≤ 120 → LastOK s out a →
    ∃ R : List S32 × Int × Int, R.1.length ≤ 120 ∧ Ev (fun k => spec_l02Scan.l0 k s out (a : Int) ((out.length : Int) == 0)) R ∧ Ev (fun k => impl_ScanTokens.l0 k s out (a : Int)) R := by
  induction m with
  | zero =>
    intro a out hm ha ho hL
    obtain rfl : a = s.size := by omega
    refine ⟨(out, 0, 0), ho, spec_final s out (by omega) ?_ _, Ev.step (f := fun _ => some (out, (0 : Int), (0 : Int))) (fun k => by simp only [impl_ScanTokens.l0]; rw [if_neg (Int.lt_irrefl _)]) (Ev.now _)⟩
    rcases hL with h | ⟨o, t, h1, h2⟩
    · exact Or.inl h
    · exact Or.inr ⟨o, t, h1, h2 (Or.inl rfl)⟩
  | succ m ih =>
    intro a out hm ha ho hL
    by_cases hend : a = s.size
    · subst hend
      refine ⟨(out, 0, 0), ho, spec_final s out (by omega) ?_ _, Ev.step (f := fun _ => some (out, (0 : Int), (0 : Int))) (fun k => by simp only [impl_ScanTokens.l0]; rw [if_neg (Int.lt_irrefl _)]) (Ev.now _)⟩
      rcases hL with h | ⟨o, t, h1, h2⟩
      · exact Or.inl h
      · exact Or.inr ⟨o, t, h1, h2 (Or.inl rfl)⟩
    · have hlt : a < s.size := by omega
      have q1 : (a : Int) < (s.size : Int) := by omega
      have sp := span_b s (by omega) a (s.size - a) a (by omega) (Nat.le_refl _)
      rw [Nat.sub_self, Nat.zero_add] at sp
      have hb := scP_bound B32 s a ha
      have hbl := spec_blanks s (by omega) out (s.size - a) a ((out.length : Int) == 0) (by omega)
      have hz0 : scP B32 s a ≠ 0 → bt s (a : Int) = 32 := by
        intro h
        cases hx : B32 (bt s (a : Int)) with
        | true => exact beq_iff_eq.1 hx
        | false => exact absurd (scP_f B32 s a hx) h
      have hst : a + scP B32 s a < s.size → ¬ bt s ((a + scP B32 s a : Nat) : Int) = 32 := scP_stop s (s.size - a) a (by omega)
      generalize hn : scP B32 s a = n at *
      clear hn
      have hw1 : wrap64 ((a : Int) + (n : Int)) = ((a + n : Nat) : Int) := by clear sp hbl hz0 hst; unfold wrap64; omega
      have spf : Ev (fun k => impl_span_at_impl_ScanTokens_1.f k s (a : Int)) ((n : Nat) : Int) := sp
      by_cases hfin : a + n = s.size
      · refine ⟨(out, 0, 0), ho, hbl _ ?_, ?_⟩
        · rw [hfin]
          refine spec_final s out (by omega) ?_ _
          rcases hL with h | ⟨o, t, h1, h2⟩
          · exact Or.inl h
          · exact Or.inr ⟨o, t, h1, h2 (Or.inr (hz0 (by omega)))⟩
        · refine Ev.step (f := fun k => impl_ScanTokens.l0 (k + 1) s out (a : Int)) (fun k => rfl) ?_
          simp only [impl_ScanTokens.l0, if_pos q1]
          refine Ev.bind spf ?_
          simp only [hw1, if_pos (show ((a + n : Nat) : Int) = (s.size : Int) by rw [hfin])]
          exact Ev.now _
      · have hlt2 : a + n < s.size := by omega
        have hne : ¬ ((a + n : Nat) : Int) = (s.size : Int) := by omega
        have hbt := hst hlt2
        have hk := tok_ok s (by omega) (a + n) hlt2 (hp _ hlt2)
        have hsc : impl_scanToken.f s ((a + n : Nat) : Int) = scT s (a + n) := by
          unfold impl_scanToken.f
          rw [if_pos ⟨Int.natCast_nonneg _, by omega, by omega⟩, Int.toNat_natCast]
        have hgt : decide (0 < n) = true → ((n : Nat) : Int) > 0 := fun h => by have := of_decide_eq_true h; omega
        clear hst hz0 sp
        generalize hA : a + n = A at *
        have q2 : (A : Int) < (s.size : Int) := by omega
        have impl0 : ∀ R, Ev (fun k => (scT s A).bind fun bt158 => ((impl_unless.f bt158.2.2.2.2.2.2 2).bind fun t166 => ((impl_unless.f (decide ((out.length : Int) < 120)) 6).bind fun t167 => ((impl_first.f k (([t166, t167] : List Int))).bind fun t171 => contS k s out (A : Int) (n : Int) bt158 t171)))) R → Ev (fun k => impl_ScanTokens.l0 k s out (a : Int)) R := by
          intro R h
          refine Ev.step (f := fun k => impl_ScanTokens.l0 (k + 1) s out (a : Int)) (fun k => rfl) ?_
          simp only [impl_ScanTokens.l0, if_pos q1]
          refine Ev.bind spf ?_
          simp only [hw1, if_neg hne, hsc]
          exact h
        have spec0 : ∀ R b x, Ev (fun k => spec_l02One.f k s (A : Int)) x → Ev (fun k => contR k s out (A : Int) b x) R → Ev (fun k => spec_l02Scan.l0 k s out (A : Int) b) R := by
          intro R b x hx h
          refine Ev.step (f := fun k => spec_l02Scan.l0 (k + 1) s out (A : Int) b) (fun k => rfl) ?_
          simp only [spec_l02Scan.l0, if_pos q2, if_pos (Int.natCast_nonneg A), if_neg hbt]
          exact Ev.bind hx h
        rcases hk with ⟨K, N, T, n2, g1, g2, hT, hS⟩ | ⟨K, N, T, n2, hT, hS⟩
        · by_cases hfull : out.length = 120
          · refine ⟨([], (A : Int), 6), Nat.zero_le _, hbl _ (spec0 _ _ _ hS ?_), impl0 _ ?_⟩
            · refine Ev.congr (f := fun _ => some (([] : List S32), (A : Int), (6 : Int))) (fun k => ?_) (Ev.now _)
              simp only [contR]
              rw [if_neg (by omega), if_pos (by omega)]
            · rw [hT]
              simp only [Option.bind_some, impl_unless.f, if_true]
              rw [if_neg (by rw [decide_eq_false (by omega)]; simp)]
              simp only [Option.bind_some]
              refine Ev.bind (first_two 0 6) ?_
              rw [if_pos rfl]
              exact Ev.congr (f := fun _ => some (([] : List S32), (A : Int), (6 : Int))) (fun k => by simp only [contS]; rw [if_neg (by decide)]) (Ev.now _)
          · have hw2 : wrap64 ((A : Int) + (n2 : Int)) = ((A + n2 : Nat) : Int) := by clear hbl spf hT hS impl0 spec0 hw1 hsc; unfold wrap64; omega
            obtain ⟨af, haf⟩ : ∃ af : Bool, af = if A + n2 = s.size then true else (bt s ((A + n2 : Nat) : Int) == 32) := ⟨_, rfl⟩
            obtain ⟨R, hR0, hR1, hR2⟩ := ih (A + n2) (out ++ [(⟨K, N, T, (((out.length : Int) == 0) || decide (0 < n)), af⟩ : S32)]) (by omega) g2 (by rw [List.length_append]; simp only [List.length_singleton]; omega) (Or.inr ⟨out, _, rfl, fun h => by
              rw [haf]
              rcases h with h | h
              · rw [if_pos h]
              · by_cases z : A + n2 = s.size
                · rw [if_pos z]
                · rw [if_neg z]; exact beq_iff_eq.mpr h⟩)
            have hbz : (((out ++ [(⟨K, N, T, (((out.length : Int) == 0) || decide (0 < n)), af⟩ : S32)]).length : Int) == 0) = false := by
              rw [beq_eq_false_iff_ne, List.length_append]
              simp only [List.length_singleton]
              omega
            rw [hbz] at hR1
            refine ⟨R, hR0, hbl _ (spec0 _ _ _ hS (Ev.congr (fun k => ?_) hR1)), impl0 _ ?_⟩
            · simp only [contR]
              rw [if_neg (by omega), if_neg (by omega)]
              by_cases z : A + n2 = s.size
              · rw [if_pos (by omega), if_pos (by omega), haf, if_pos z]
              · rw [if_neg (by omega), if_pos (Int.natCast_nonneg _), if_pos (by omega), if_pos (by omega), haf, if_neg z]
            · rw [hT]
              simp only [Option.bind_some, impl_unless.f, if_true]
              rw [if_pos (decide_eq_true (by omega))]
              simp only [Option.bind_some]
              refine Ev.bind (first_two 0 0) ?_
              rw [if_pos rfl]
              refine Ev.congr (fun k => ?_) hR2
              simp only [contS, hw2]
              rw [if_pos trivial]
              by_cases hn0 : 0 < n
              · rw [if_pos (by omega), decide_eq_true hn0, Bool.or_true]
                by_cases z : A + n2 = s.size
                · rw [if_pos (by omega), if_pos (by omega), haf, if_pos z]
                · rw [if_neg (by omega), if_pos (Int.natCast_nonneg _), if_pos (by omega), if_pos (by omega), haf, if_neg z]
              · rw [if_neg (by omega), decide_eq_false hn0, Bool.or_false]
                by_cases z : A + n2 = s.size
                · rw [if_pos (by omega), if_pos (by omega), haf, if_pos z]
                · rw [if_neg (by omega), if_pos (Int.natCast_nonneg _), if_pos (by omega), if_pos (by omega), haf, if_neg z]
        · refine ⟨([], (A : Int), 2), Nat.zero_le _, hbl _ (spec0 _ _ _ hS ?_), impl0 _ ?_⟩
          · refine Ev.congr (f := fun _ => some (([] : List S32), (A : Int), (2 : Int))) (fun k => ?_) (Ev.now _)
            unfold contR
            rw [if_pos (show errTok.2.2.2.2.2 < 0 by decide)]
          · rw [hT]
            obtain ⟨u, hu⟩ : ∃ u, impl_unless.f (decide ((out.length : Int) < 120)) 6 = some u := by unfold impl_unless.f; split <;> exact ⟨_, rfl⟩
            simp only [Option.bind_some, hu]
            rw [show impl_unless.f false 2 = some 2 from rfl]
            simp only [Option.bind_some]
            refine Ev.bind (first_two 2 u) ?_
            rw [if_neg (by decide)]
            exact Ev.congr (f := fun _ => some (([] : List S32), (A : Int), (2 : Int))) (fun k => by simp only [contS]; rw [if_neg (by decide)]) (Ev.now _)
-- markText of the laws: it ends
theorem strOfNums_one (c : Int) : (strOfNums [c]).size = 1 := by
  unfold strOfNums
  rfl
theorem markText_loop (d : Nat) : ∀ (n : Int) (t : ByteArray), n < 10 ^ d → n ≤ 9223372036854775807 → t.size + d ≤ 1000 → ∃ r, Ev (fun k => laws_markText.l0 k n t) r := by
  induction d with
  | zero =>
    intro n t hn _ ht
    refine ⟨_, Ev.step (f := fun _ => some ((⟨#[109]⟩ : ByteArray) ++ t)) (fun k => ?_) (Ev.now _)⟩
    simp only [laws_markText.l0]
    rw [if_neg (by omega), if_pos (by omega)]
  | succ d ih =>
    intro n t hn hm ht
    by_cases h : n > 0
    · have hw : wrap64 (Int.tdiv n 10) = n / 10 := by
        rw [Int.tdiv_eq_ediv_of_nonneg (by omega)]
        unfold wrap64
        omega
      have hp : (10 : Int) ^ (d + 1) = 10 ^ d * 10 := by rw [Int.pow_succ]
      have h2 : n / 10 < 10 ^ d := by
        rw [hp] at hn
        exact Int.ediv_lt_of_lt_mul (by omega) hn
      obtain ⟨r, hr⟩ := ih (n / 10) (strOfNums [(wrap64 (48 + Int.tmod n 10)) % 256] ++ t) h2 (by omega) (by rw [ByteArray.size_append, strOfNums_one]; omega)
      refine ⟨r, Ev.step (f := fun k => laws_markText.l0 k (n / 10) (strOfNums [(wrap64 (48 + Int.tmod n 10)) % 256] ++ t)) (fun k => ?_) hr⟩
      simp only [laws_markText.l0]
      rw [if_pos h, hw, Option.bind_some, if_pos (by rw [strOfNums_one]; omega)]
    · refine ⟨_, Ev.step (f := fun _ => some ((⟨#[109]⟩ : ByteArray) ++ t)) (fun k => ?_) (Ev.now _)⟩
      simp only [laws_markText.l0]
      rw [if_neg h, if_pos (by omega)]
theorem markText_ev (n : Int) (hn : n ≤ 9223372036854775807) : ∃ r, Ev (fun k => laws_markText.f k n) r := by
  by_cases h : n ≤ 0
  · refine ⟨(⟨#[109, 48]⟩ : ByteArray), Ev.congr (f := fun _ => some (⟨#[109, 48]⟩ : ByteArray)) (fun k => ?_) (Ev.now _)⟩
    unfold laws_markText.f
    rw [if_pos h]
  · have hp : (10 : Int) ^ 19 = 10000000000000000000 := by decide
    obtain ⟨r, hr⟩ := markText_loop 19 n (⟨#[]⟩ : ByteArray) (by omega) hn (by show 0 + 19 ≤ 1000; omega)
    refine ⟨r, Ev.congr (fun k => ?_) hr⟩
    unfold laws_markText.f
    rw [if_neg h]
-- []Token: eqTokenS, markTokenS, heldTokenS of the laws (behind MarkText)
theorem eqTok_self (t : S32) : laws_eqToken.f t.f0 t.f1 t.f2 t.f3 t.f4 t.f0 t.f1 t.f2 t.f3 t.f4 = some true := by
  unfold laws_eqToken.f
  rw [if_pos rfl, if_pos rfl, if_pos rfl, if_neg (by simp), if_neg (by simp)]
theorem eqTokenS_loop (l : List S32) (hl : l.length ≤ 1000000) (d : Nat) : ∀ i : Nat, i + d = l.length → Ev (fun k => laws_eqTokenS.l0 k l l (i : Int)) true := by
  induction d with
  | zero =>
    intro i hi
    refine Ev.step (f := fun _ => some true) (fun k => ?_) (Ev.now true)
    simp only [laws_eqTokenS.l0]
    rw [if_neg (by omega)]
  | succ d ih =>
    intro i hi
    refine Ev.step (f := fun k => laws_eqTokenS.l0 k l l ((i + 1 : Nat) : Int)) (fun k => ?_) (ih (i + 1) (by omega))
    simp only [laws_eqTokenS.l0, eqTok_self, Option.bind_some]
    rw [if_pos (by omega), if_pos (by omega), if_pos (by omega), if_pos trivial, show wrap64 ((i : Int) + 1) = ((i + 1 : Nat) : Int) by unfold wrap64; omega]
theorem eqTokenS_ev (l : List S32) (hl : l.length ≤ 1000000) : Ev (fun k => laws_eqTokenS.f k l l) true := by
  refine Ev.congr (f := fun k => laws_eqTokenS.l0 k l l ((0 : Nat) : Int)) (fun k => ?_) (eqTokenS_loop l hl l.length 0 (by omega))
  unfold laws_eqTokenS.f
  rw [if_pos rfl]
  rfl
def mt (m : Int) (t : ByteArray) : S32 := ⟨m, m + 1, t, Int.tmod (m + 3) 3 == 0, Int.tmod (m + 4) 3 == 0⟩
theorem markTok_loop (d : Nat) : ∀ (l : List S32) (i : Nat), i + d = l.length → l.length ≤ 1000000 → ∃ r, Ev (fun k => laws_markTokenS.l0 k l (5 * (i : Int) + 1) (i : Int)) (5 * (l.length : Int) + 1, r) ∧ r.length = l.length ∧ (∀ j, j < i → r[j]? = l[j]?) ∧
    ∀ j : Nat, i ≤ j → j < l.length → ∃ t, r[j]? = some (mt (5 * (j : Int) + 1) t) ∧ Ev (fun k => laws_markText.f k (5 * (j : Int) + 3)) t := by
  induction d with
  | zero =>
    intro l i hi hl
    refine ⟨l, Ev.step (f := fun _ => some (5 * (l.length : Int) + 1, l)) (fun k => ?_) (Ev.now _), rfl, fun _ _ => rfl, fun j h1 h2 => by omega⟩
    simp only [laws_markTokenS.l0]
    rw [if_neg (by omega), show i = l.length by omega]
  | succ d ih =>
    intro l i hi hl
    obtain ⟨t, ht⟩ := markText_ev (5 * (i : Int) + 3) (by omega)
    obtain ⟨r, hr, hrl, hlo, hhi⟩ := ih (l.set i (mt (5 * (i : Int) + 1) t)) (i + 1) (by rw [List.length_set]; omega) (by rw [List.length_set]; omega)
    rw [List.length_set] at hr hrl hhi
    have hrds : ∀ y, rd_T32 (l.set i y) (i : Int) = y := by
      intro y
      unfold rd_T32
      rw [Int.toNat_natCast, List.getD_eq_getElem?_getD, List.getElem?_set_self (by omega)]
      rfl
    have w1 : wrap64 (5 * (i : Int) + 1 + 1) = 5 * (i : Int) + 1 + 1 := by unfold wrap64; omega
    have w2 : wrap64 (5 * (i : Int) + 1 + 1 + 1) = 5 * (i : Int) + 3 := by unfold wrap64; omega
    have w3 : wrap64 (5 * (i : Int) + 3 + 1) = 5 * (i : Int) + 1 + 3 := by unfold wrap64; omega
    have w4 : wrap64 (5 * (i : Int) + 1 + 3 + 1) = 5 * (i : Int) + 1 + 4 := by unfold wrap64; omega
    have w5 : wrap64 (5 * (i : Int) + 1 + 4 + 1) = 5 * ((i + 1 : Nat) : Int) + 1 := by unfold wrap64; omega
    have w6 : wrap64 ((i : Int) + 1) = ((i + 1 : Nat) : Int) := by unfold wrap64; omega
    have q1 : (i : Int) < (l.length : Int) := by omega
    refine ⟨r, Ev.step (f := fun k => (laws_markText.f k (5 * (i : Int) + 3)).bind fun u => laws_markTokenS.l0 k (l.set i (mt (5 * (i : Int) + 1) u)) (5 * ((i + 1 : Nat) : Int) + 1) ((i + 1 : Nat) : Int)) (fun k => ?_) (Ev.bind ht hr), hrl, fun j hj => ?_, fun j h1 h2 => ?_⟩
    · simp only [laws_markTokenS.l0, w1, w2, w3, w4, w5, w6, Option.bind_some, Int.toNat_natCast, hrds, List.set_set]
      rw [if_pos q1, if_pos (Int.natCast_nonneg _)]
      rfl
    · rw [hlo j (by omega), List.getElem?_set_ne (by omega)]
    · by_cases hj : j = i
      · subst hj
        refine ⟨t, ?_, ht⟩
        rw [hlo j (by omega), List.getElem?_set_self (by omega)]
      · exact hhi j (by omega) h2
theorem heldTok_loop (r : List S32) (hl : r.length ≤ 1000000) (hr : ∀ j : Nat, j < r.length → ∃ t, r[j]? = some (mt (5 * (j : Int) + 1) t) ∧ Ev (fun k => laws_markText.f k (5 * (j : Int) + 3)) t) (d : Nat) : ∀ i : Nat, i + d = r.length → Ev (fun k => laws_heldTokenS.l0 k r (5 * (i : Int) + 1) (i : Int)) (5 * (r.length : Int) + 1) := by
  induction d with
  | zero =>
    intro i hi
    refine Ev.step (f := fun _ => some (5 * (i : Int) + 1)) (fun k => ?_) (by rw [show r.length = i by omega]; exact Ev.now _)
    simp only [laws_heldTokenS.l0]
    rw [if_neg (by omega)]
  | succ d ih =>
    intro i hi
    obtain ⟨t, h1, h2⟩ := hr i (by omega)
    have hrd : rd_T32 r (i : Int) = mt (5 * (i : Int) + 1) t := by
      unfold rd_T32
      rw [Int.toNat_natCast, List.getD_eq_getElem?_getD, h1]
      rfl
    have w1 : wrap64 (5 * (i : Int) + 1 + 1) = 5 * (i : Int) + 1 + 1 := by clear hrd; unfold wrap64; omega
    have w2 : wrap64 (5 * (i : Int) + 1 + 1 + 1) = 5 * (i : Int) + 3 := by clear hrd; unfold wrap64; omega
    have w3 : wrap64 (5 * (i : Int) + 3 + 1) = 5 * (i : Int) + 1 + 3 := by clear hrd; unfold wrap64; omega
    have w4 : wrap64 (5 * (i : Int) + 1 + 3 + 1) = 5 * (i : Int) + 1 + 4 := by clear hrd; unfold wrap64; omega
    have w5 : wrap64 (5 * (i : Int) + 1 + 4 + 1) = 5 * ((i + 1 : Nat) : Int) + 1 := by clear hrd; unfold wrap64; omega
    have w6 : wrap64 ((i : Int) + 1) = ((i + 1 : Nat) : Int) := by clear hrd; unfold wrap64; omega
    have q1 : (i : Int) < (r.length : Int) := by clear hrd w1 w2 w3 w4 w5 w6; omega
    refine Ev.step (f := fun k => (laws_markText.f k (5 * (i : Int) + 3)).bind fun u => if t.toList = u.toList then laws_heldTokenS.l0 k r (5 * ((i + 1 : Nat) : Int) + 1) ((i + 1 : Nat) : Int) else some (-1)) (fun k => ?_) (Ev.bind h2 (Ev.congr (fun k => by rw [if_pos rfl]) (ih (i + 1) (by clear hrd w1 w2 w3 w4 w5 w6; omega))))
    simp only [laws_heldTokenS.l0, hrd, mt, w1, w2, w3, w4, w5, w6, bne_self_eq_false, Bool.false_eq_true, if_false, if_true]
    rw [if_pos q1, if_pos (Int.natCast_nonneg _)]
theorem marksTok_ev (l : List S32) (hl : l.length ≤ 1000000) : ∃ r, Ev (fun k => laws_markTokenS.f k l 1) (5 * (l.length : Int) + 1, r) ∧ Ev (fun k => laws_heldTokenS.f k r 1) (5 * (l.length : Int) + 1) := by
  obtain ⟨r, h1, h2, _, h4⟩ := markTok_loop l.length l 0 (by omega) hl
  refine ⟨r, h1, ?_⟩
  have := heldTok_loop r (by omega) (fun j hj => h4 j (by omega) (by omega)) r.length 0 (by omega)
  rw [h2] at this
  exact this
theorem plain_bt (s : ByteArray) (h : (bytesOf s).all plainB = true) (a : Nat) (ha : a < s.size) : bt s (a : Int) < 128 := by
  have h1 : a < (bytesOf s).length := by rw [bytesOf_length]; exact ha
  have hd := List.drop_eq_getElem_cons h1
  obtain ⟨_, h2, _, _⟩ := byt_at s a _ _ hd
  have h3 := List.all_eq_true.1 h _ (List.getElem_mem h1)
  rw [← h2] at h3
  unfold plainB at h3
  rw [Bool.and_eq_true, decide_eq_true_eq, decide_eq_true_eq] at h3
  omega
/-- Both functions answer the same. -/
theorem scan_both (s : ByteArray) (hs : s.size ≤ 1048576) : ∃ R : List S32 × Int × Int, R.1.length ≤ 120 ∧ Ev (fun k => spec_ScanTokens.f k s) R ∧ Ev (fun k => impl_ScanTokens.f k s) R := by
  unfold spec_ScanTokens.f impl_ScanTokens.f
  have bad : Ev (fun k => impl_ScanTokens.j0 k s true) ([], 0, 1) :=
    Ev.step (f := fun _ => some (([] : List S32), (0 : Int), (1 : Int))) (fun k => by simp only [impl_ScanTokens.j0, if_true]) (Ev.now _)
  by_cases h : (s.size : Int) > 4000
  · simp only [if_pos h]
    exact ⟨([], 0, 1), Nat.zero_le _, Ev.now _, bad⟩
  · simp only [if_neg h]
    have sp := spec_printable s (by omega)
    have ip := impl_plainText s (by omega)
    cases hp : (bytesOf s).all plainB with
    | false =>
      rw [hp] at sp ip
      exact ⟨([], 0, 1), Nat.zero_le _, Ev.bind sp (Ev.congr (f := fun _ => some (([] : List S32), (0 : Int), (1 : Int))) (fun k => by rw [if_neg (by simp)]) (Ev.now _)), Ev.bind ip bad⟩
    | true =>
      rw [hp] at sp ip
      obtain ⟨R, hR, h1, h2⟩ := scan_same s (by omega) (plain_bt s hp) s.size 0 [] (by omega) (Nat.zero_le _) (Nat.zero_le _) (Or.inl rfl)
      refine ⟨R, hR, Ev.bind sp ?_, Ev.bind ip ?_⟩
      · simp only [if_true]
        refine Ev.bind (a := R) ?_ (Ev.now _)
        exact Ev.congr (fun k => by unfold spec_l02Scan.f; rfl) h1
      · refine Ev.step (fun k => ?_) h2
        simp only [impl_ScanTokens.j0, Bool.not_true, Bool.false_eq_true, if_false]
        rfl
end ScanTokens
open ScanTokens in
theorem FnExactScanTokens : laws_FnExactScanTokens.Pure := by
  intro s hs
  apply Ev.rounds
  unfold laws_FnExactScanTokens.f
  by_cases h : (s.size : Int) > 1048576
  · simp only [if_pos h]
    exact Ev.now true
  simp only [if_neg h]
  obtain ⟨R, hR, e1, e2⟩ := scan_both s (by omega)
  have q := eqTokenS_ev R.1 (by omega)
  obtain ⟨r, hm, hh⟩ := marksTok_ev R.1 (by omega)
  have j1 : Ev (fun k => laws_FnExactScanTokens.j1 k r (5 * (R.1.length : Int) + 1) false) true := by
    refine Ev.step (f := fun k => laws_FnExactScanTokens.j1 (k + 1) r (5 * (R.1.length : Int) + 1) false) (fun k => rfl) ?_
    simp only [laws_FnExactScanTokens.j1, Bool.false_eq_true, if_false]
    refine Ev.bind hh ?_
    exact Ev.congr (f := fun _ => some true) (fun k => by rw [if_neg (by omega), if_pos rfl]) (Ev.now true)
  refine Ev.bind e1 (Ev.bind e2 (Ev.bind q ?_))
  simp only [if_true, bne_self_eq_false]
  refine Ev.step (f := fun k => laws_FnExactScanTokens.j0 (k + 1) s R.1 R.2.1 R.2.2 R.1 false) (fun k => rfl) ?_
  simp only [laws_FnExactScanTokens.j0, Bool.false_eq_true, if_false]
  refine Ev.bind hm (Ev.bind hh ?_)
  simp only [if_neg (show ¬ (5 * (R.1.length : Int) + 1) < 0 by omega), if_true]
  refine Ev.bind e2 (Ev.bind q ?_)
  simp only [if_true, bne_self_eq_false]
  exact j1
end Go.Proofs.YtcjnehnobnajnaaDoor.Pure
