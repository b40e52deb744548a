/- By hand: what the law FnExactJoinPatterns reaches beyond the printed texts, and the law's own function. Conditions: none beyond each statement. -/
import Derived.Test.YtomakpfmghekfaaProg
import Derived.Below
import Derived.Deep.Draws
import Derived.Deep.AppendLies
import Derived.Maps.AppendAt
import Derived.OwnWalk
import Derived.Laws.BytesArg
import Derived.Laws.MakeOwn
import Derived.Laws.OwnMore
import Derived.Deep.OwnRows
import Derived.Tactics
import Derived.Lib.ConvBytes
import Derived.Laws.Slices
import Derived.WalkKit
import Derived.KernelRfl
import Derived.RowKit3
import Derived.Deep.LoopGhost
import Derived.Deep.QuietTactic
import Derived.BigQuiet
import Derived.WideLaws
import Derived.Deep.DeepCutAuto
import Derived.Deep.CutBlock
import Derived.Deep.RegionHeld3
import Derived.Laws.Rows
import Derived.Lib.AppendStr
import Derived.ArgAppend
import Derived.Laws.IdiomCopy
import Derived.OrdersHeld
import Derived.Laws.BitsLemmas
import Derived.RowKit
import Derived.Test.YtomakpfmghekfaaWWords
import Derived.Test.YtomakpfmghekfaaWLast
import Derived.Test.YtomakpfmghekfaaWTab
import Derived.Test.YtomakpfmghekfaaWFour
import Derived.Test.YtomakpfmghekfaaWQPut
import Derived.Test.YtomakpfmghekfaaWApart
import Derived.Test.YtomakpfmghekfaaWArr
import Derived.Test.YtomakpfmghekfaaWZeros
import Derived.Test.YtomakpfmghekfaaWFoot
import Derived.Test.YtomakpfmghekfaaWKept
import Derived.Test.YtomakpfmghekfaaWShare
import Derived.Test.YtomakpfmghekfaaWN
import Derived.Test.YtomakpfmghekfaaWFootNe
import Derived.Test.YtomakpfmghekfaaWAt
import Derived.Test.YtomakpfmghekfaaWEqStruct
import Derived.Test.YtomakpfmghekfaaWRepsOne
import Derived.Test.YtomakpfmghekfaaWInv
import Derived.Test.YtomakpfmghekfaaWInvWords
import Derived.Test.YtomakpfmghekfaaWGuard
import Derived.Test.YtomakpfmghekfaaWNEv
import Derived.Test.YtomakpfmghekfaaWMore
import Derived.Test.YtomakpfmghekfaaPFnExactJoinPatternsx0
import Derived.Test.YtomakpfmghekfaaPFnExactJoinPatternsx5
import Derived.Test.YtomakpfmghekfaaPFnExactJoinPatternsx6
import Derived.Test.YtomakpfmghekfaaRowLaw
namespace Go.Proofs.Ytomakpfmghekfaa.PFnExactJoinPatterns
open Go.RowKit Go.Proofs.YtomakpfmghekfaaW.PrintWords Go.Proofs.YtomakpfmghekfaaW.PrintLast Go.Proofs.YtomakpfmghekfaaW.PrintMore
attribute [local go_sem] max2_int min2_int max_two min_two max_three min_three max_four min_four
set_option linter.unusedVariables false
set_option linter.unusedSimpArgs false
mutual
def cntT : S30 → Nat
 | ⟨_, _, _, d⟩ => 1 + cntL d
def cntL : List S30 → Nat
 | [] => 0
 | x :: xs => cntT x + cntL xs
end
theorem cntT_eq (x : S30) : cntT x = 1 + cntL x.f3 := by cases x; simp [cntT]
theorem cntL_take (xs : List S30) (i : Nat) (x : S30) (h : xs[i]? = some x) : cntL (xs.take (i + 1)) = cntL (xs.take i) + (1 + cntL x.f3) := by
 induction xs generalizing i with
 | nil => simp at h
 | cons y ys ih =>
  cases i with
  | zero =>
   obtain rfl : y = x := by simpa using h
   simp [cntL, cntT_eq]
  | succ i =>
   have := ih i (by simpa using h)
   simp only [List.take_succ_cons, cntL]
   omega
theorem cntL_mem (xs : List S30) (i : Nat) (x : S30) (h : xs[i]? = some x) : cntL (xs.take i) + (1 + cntL x.f3) ≤ cntL xs := by
 induction xs generalizing i with
 | nil => simp at h
 | cons y ys ih =>
  cases i with
  | zero =>
   obtain rfl : y = x := by simpa using h
   simp [cntL, cntT_eq]
  | succ i =>
   have := ih i (by simpa using h)
   simp only [List.take_succ_cons, cntL]
   omega
theorem len_cnt (xs : List S30) : xs.length ≤ cntL xs := by
 induction xs with
 | nil => simp [cntL]
 | cons y ys ih =>
  simp only [List.length_cons, cntL, cntT_eq]
  omega
structure EltV (w : World) (b m : Nat) (x : S30) (u : Value) : Prop where
 c0 : w.cell? ⟨b, m * 4 + 0, none⟩ = some (.int .i64 x.f0)
 c1 : w.cell? ⟨b, m * 4 + 1, none⟩ = some (.int .i64 x.f1)
 c2 : w.cell? ⟨b, m * 4 + 2, none⟩ = some (.string x.f2)
 c3 : w.cell? ⟨b, m * 4 + 3, none⟩ = some u
 fz : ∀ j, w.frozen? ⟨b, j, none⟩ = false
inductive T (d : Prop) (w : World) : (Nat → Prop) → Value → List S30 → Prop where
 | nil (B : Nat → Prop) (A : Option Addr) (c : Nat) : T d w B (.slice A 0 c) []
 | row (B : Nat → Prop) (b c : Nat) (xs : List S30) (vs : Nat → Value) (Bs : Nat → Nat → Prop) (hc : xs.length ≤ c) (hm : c ≤ 9223372036854775807)
   (hE : ∀ i x, xs[i]? = some x → EltV w b i x (vs i)) (hb : B b) (hB : ∀ i k, Bs i k → B k ∧ k ≠ b) (hD : d → ∀ i j k, i ≠ j → Bs i k → ¬ Bs j k)
   (hS : ∀ i x, xs[i]? = some x → T d w (Bs i) (vs i) x.f3) : T d w B (.slice (some ⟨b, 0, none⟩) xs.length c) xs
theorem T.inv {d : Prop} {w : World} {B : Nat → Prop} {v : Value} {xs : List S30} (h : T d w B v xs) : ∃ A c, v = .slice A xs.length c ∧ (0 < xs.length → ∃ (b : Nat) (vs : Nat → Value) (Bs : Nat → Nat → Prop), A = some ⟨b, 0, none⟩ ∧ xs.length ≤ c ∧ c ≤ 9223372036854775807 ∧ B b ∧ (∀ i k, Bs i k → B k ∧ k ≠ b) ∧ (d → ∀ i j k, i ≠ j → Bs i k → ¬ Bs j k) ∧ ∀ i x, xs[i]? = some x → EltV w b i x (vs i) ∧ T d w (Bs i) (vs i) x.f3) := by
 cases h with
 | nil B A c => exact ⟨A, c, rfl, fun h => absurd h (by simp)⟩
 | row B b c xs vs Bs hc hm hE hb hB hD hS => exact ⟨_, c, rfl, fun _ => ⟨b, vs, Bs, rfl, hc, hm, hb, hB, hD, fun i x hx => ⟨hE i x hx, hS i x hx⟩⟩⟩
theorem T.of {d : Prop} {w : World} {B : Nat → Prop} {b c : Nat} {xs : List S30} {vs : Nat → Value} {Bs : Nat → Nat → Prop} (hc : xs.length ≤ c) (hm : c ≤ 9223372036854775807) (hb : B b) (hB : ∀ i k, Bs i k → B k ∧ k ≠ b) (hD : d → ∀ i j k, i ≠ j → Bs i k → ¬ Bs j k)
  (h : ∀ i x, xs[i]? = some x → EltV w b i x (vs i) ∧ T d w (Bs i) (vs i) x.f3) : T d w B (.slice (some ⟨b, 0, none⟩) xs.length c) xs :=
 .row B b c xs vs Bs hc hm (fun i x hx => (h i x hx).1) hb hB hD (fun i x hx => (h i x hx).2)
theorem EltV.move {w w1 : World} {b m : Nat} {x : S30} {u : Value} (e : EltV w b m x u) (hm : w1.heap[b]? = w.heap[b]?) : EltV w1 b m x u := by
 have c (q : Nat) : w1.cell? ⟨b, q, none⟩ = w.cell? ⟨b, q, none⟩ := by simp [World.cell?, hm]
 have f (q : Nat) : w1.frozen? ⟨b, q, none⟩ = w.frozen? ⟨b, q, none⟩ := by simp [World.frozen?, hm]
 exact ⟨by rw [c]; exact e.c0, by rw [c]; exact e.c1, by rw [c]; exact e.c2, by rw [c]; exact e.c3, fun j => by rw [f]; exact e.fz j⟩
theorem EltV.lt {w : World} {b m : Nat} {x : S30} {u : Value} (e : EltV w b m x u) : b < w.heap.size := World.block_lt_of_cell? w _ e.c0
theorem T.grow {d : Prop} {w w1 : World} {B : Nat → Prop} {v : Value} {xs : List S30} (h : T d w B v xs) (hb : Below w.heap.size w w1) : T d w1 B v xs := by
 induction h with
 | nil B A c => exact .nil B A c
 | row B b c xs vs Bs hc hm hE hb' hB hD hS ih => exact .row B b c xs vs Bs hc hm (fun i x hx => (hE i x hx).move (hb.block b (hE i x hx).lt)) hb' hB hD (fun i x hx => ih i x hx)
theorem T.move {d : Prop} {w w1 : World} {B : Nat → Prop} {v : Value} {xs : List S30} (h : T d w B v xs) (hm : ∀ k, B k → w1.heap[k]? = w.heap[k]?) : T d w1 B v xs := by
 induction h with
 | nil B A c => exact .nil B A c
 | row B b c xs vs Bs hc hm' hE hb' hB hD hS ih => exact .row B b c xs vs Bs hc hm' (fun i x hx => (hE i x hx).move (hm b hb')) hb' hB hD (fun i x hx => ih i x hx (fun k hk => hm k (hB i k hk).1))
theorem T.mono {d : Prop} {w : World} {B B' : Nat → Prop} {v : Value} {xs : List S30} (h : T d w B v xs) (hB' : ∀ k, B k → B' k) : T d w B' v xs := by
 cases h with
 | nil B A c => exact .nil B' A c
 | row B b c xs vs Bs hc hm hE hb hB hD hS => exact .row B' b c xs vs Bs hc hm hE (hB' b hb) (fun i k hk => ⟨hB' k (hB i k hk).1, (hB i k hk).2⟩) hD hS
theorem T.C {d : Prop} {w : World} : ∀ (n : Nat) (xs : List S30), cntL xs ≤ n → ∀ {B : Nat → Prop} {A : Option Addr} {c : Nat}, T d w B (.slice A xs.length c) xs → k30.C w A xs.length xs := by
 intro n
 induction n using Nat.strongRecOn with
 | _ n ih =>
 intro xs hn B A c h
 by_cases h0 : 0 < xs.length
 ·obtain ⟨A2, c2, e, hh⟩ := h.inv
  injection e with eA _ ec
  subst eA
  subst ec
  obtain ⟨b, vs, Bs, rfl, hc, hm, _, _, _, hr⟩ := hh h0
  refine ⟨rfl, Nat.le_trans hc hm, fun _ => ⟨_, rfl, fun j p hp => ?_⟩⟩
  obtain ⟨hE, hT⟩ := hr j p hp
  obtain ⟨A3, c3, e3, hh3⟩ := hT.inv
  have hle := cntL_mem xs j p hp
  have l3 : p.f3.length ≤ c3 ∨ p.f3 = [] := by
   by_cases h3 : 0 < p.f3.length
   ·obtain ⟨_, _, _, _, h4, _⟩ := hh3 h3
    exact .inl h4
   ·exact .inr (List.eq_nil_of_length_eq_zero (by omega))
  rw [e3] at hT hE
  have hC := ih (cntL p.f3) (by omega) p.f3 (Nat.le_refl _) hT
  refine ⟨[.int .i64 p.f0, .int .i64 p.f1, .string p.f2, .slice A3 p.f3.length c3], rfl, k30_mk w p ?_ hC, ?_⟩
  ·rcases l3 with l3 | l3
   ·exact l3
   ·rw [l3]; exact Nat.zero_le _
  ·intro i u hu
   rw [show k30.sz = 4 from rfl, Go.Proofs.Ytomakpfmghekfaa.RowLaw.add_zero]
   match i, hu with
   | 0, hu => cases hu; exact hE.c0
   | 1, hu => cases hu; exact hE.c1
   | 2, hu => cases hu; exact hE.c2
   | 3, hu => cases hu; exact hE.c3
 ·obtain rfl : xs = [] := List.length_eq_zero_iff.1 (by omega)
  exact ⟨rfl, by simp, fun h => absurd h (by simp)⟩
theorem T.len {d : Prop} {w : World} {B : Nat → Prop} {A : Option Addr} {c : Nat} {xs : List S30} (h : T d w B (.slice A xs.length c) xs) : xs.length ≤ c := by
 obtain ⟨A2, c2, e, hh⟩ := h.inv
 injection e with _ _ ec
 subst ec
 by_cases h0 : 0 < xs.length
 ·obtain ⟨_, _, _, _, h4, _⟩ := hh h0
  exact h4
 ·omega
theorem T.of_R {w : World} {base : Nat} : ∀ (n : Nat) (xs : List S30), cntL xs ≤ n → ∀ {ok : Nat → Prop} v, Kd.R k30 30 w base ok v xs → T False w ok v xs := by
 intro n
 induction n using Nat.strongRecOn with
 | _ n ih =>
 intro xs hn ok v h
 by_cases h0 : 0 < xs.length
 ·obtain ⟨g, cap, rfl, hlo, hgl, _⟩ := Kd.R_form h h0
  have key : ∀ i : Nat, ∃ u : Value, ∀ x, xs[i]? = some x → EltV w g i x u ∧ T False w (fun k => ok k ∧ k ≠ g) u x.f3 := by
   intro i
   by_cases hi2 : i < xs.length
   ·obtain ⟨c, hcl, hM, hcc, hfr⟩ := Kd.R_elem h z30 (i : Int) (by omega) (by omega)
    obtain ⟨v3, rfl, o3⟩ := k30_openM hM
    refine ⟨v3, fun x hx => ?_⟩
    have hxe : xs.getD ((i : Int)).toNat z30 = x := by
     rw [List.getD_eq_getElem?_getD, Int.toNat_natCast, hx]
     rfl
    rw [hxe] at hcc o3
    refine ⟨⟨hcc 0 _ rfl, hcc 1 _ rfl, hcc 2 _ rfl, hcc 3 _ rfl, fun j => ?_⟩, ?_⟩
    ·obtain ⟨_, inner, ho, _⟩ := h
     obtain ⟨cells, hc⟩ := own_typed ho g (by simp [Value.ownBlock])
     exact blk_frozen hc j
    ·have hle := cntL_mem xs i x hx
     exact (ih (cntL x.f3) (by omega) x.f3 (Nat.le_refl _) v3 o3).mono (fun k hk => ⟨hk.1, fun he => hk.2 (by rw [he])⟩)
   ·exact ⟨.slice none 0 0, fun x hx => by rw [List.getElem?_eq_none (by omega)] at hx; cases hx⟩
  have hvs := fun i => Classical.choose_spec (key i)
  have hcap : xs.length ≤ cap ∧ cap ≤ 9223372036854775807 := by
   obtain ⟨_, inner, ho, _⟩ := h
   rcases ho.2 with ⟨h1, _⟩ | ⟨g2, cap2, cur, h1, _, _, h3, h4, _⟩
   ·cases h1
   ·injection h1 with _ _ h1
    subst h1
    exact ⟨h3, h4⟩
  exact .row ok g cap xs (fun i => Classical.choose (key i)) (fun _ k => ok k ∧ k ≠ g) hcap.1 hcap.2 (fun i x hx => (hvs i x hx).1) (h.1 g (by simp [Value.ownBlock])) (fun _ _ hk => hk) (fun h => h.elim) (fun i x hx => (hvs i x hx).2)
 ·obtain rfl : xs = [] := List.length_eq_zero_iff.1 (by omega)
  obtain ⟨A, c, rfl⟩ := Kd.R_slice h
  exact .nil _ A c
abbrev PT := S30
def emptyB (x : PT) : Bool := (x.f0 == 1) && (x.f2.toList == ([] : List UInt8))
def strP (s : ByteArray) : PT := ⟨1, 0, s, []⟩
def kid (x : PT) (i : Nat) : PT := x.f3.getD i z30
def bothStr (a b : PT) : Bool := (a.f0 == 1) && ((b.f0 == 1) && decide ((a.f2 ++ b.f2).size ≤ 200))
def strCat (a b : PT) : Bool := (a.f0 == 1) && ((b.f0 == 19) && (((kid b 0).f0 == 1) && decide ((a.f2 ++ (kid b 0).f2).size ≤ 200)))
def catF : Nat → PT → PT → PT
 | 0, _, b => b
 | n + 1, a, b => if emptyB a = true then b else if (emptyB b || ((a.f0 == 16) || (a.f0 == 15))) = true then a else if (a.f0 == 19) = true then catF n (kid a 0) (catF n (kid a 1) b)
   else if bothStr a b = true then strP (a.f2 ++ b.f2) else if strCat a b = true then ⟨19, 0, ⟨#[]⟩, [strP (a.f2 ++ (kid b 0).f2), kid b 1]⟩ else ⟨19, 0, ⟨#[]⟩, [a, b]⟩
def altF : Nat → PT → PT → PT
 | 0, _, b => b
 | n + 1, a, b => if (a.f0 == 16) = true then b else if ((b.f0 == 16) || (a.f0 == 15)) = true then a else if (a.f0 == 18) = true then altF n (kid a 0) (altF n (kid a 1) b) else ⟨18, 0, ⟨#[]⟩, [a, b]⟩
def simpS (N : Nat) : Nat → PT → PT
 | 0, x => x
 | n + 1, x => if ((x.f0 == 6) && (x.f1 == 0)) = true then strP ⟨#[]⟩ else if (x.f0 == 19) = true then catF N (simpS N n (kid x 0)) (simpS N n (kid x 1)) else if (x.f0 == 18) = true then altF N (simpS N n (kid x 0)) (simpS N n (kid x 1))
   else if (x.f0 == 20) = true then (if (((simpS N n (kid x 0)).f0 == 16) || emptyB (simpS N n (kid x 0))) = true then strP ⟨#[]⟩ else ⟨20, 0, ⟨#[]⟩, [simpS N n (kid x 0)]⟩)
   else if ((x.f0 == 21) || (x.f0 == 22)) = true then (if (((simpS N n (kid x 0)).f0 == 16) || ((simpS N n (kid x 0)).f0 == 15)) = true then simpS N n (kid x 0) else ⟨x.f0, 0, x.f2, [simpS N n (kid x 0)]⟩) else x
def simpI (N : Nat) : Nat → PT → PT
 | 0, x => x
 | n + 1, x => if ((x.f0 == 6) && (x.f1 == 0)) = true then strP ⟨#[]⟩ else if (x.f0 == 19) = true then catF N ((x.f3.map (simpI N n)).getD 0 z30) ((x.f3.map (simpI N n)).getD 1 z30) else if (x.f0 == 18) = true then altF N ((x.f3.map (simpI N n)).getD 0 z30) ((x.f3.map (simpI N n)).getD 1 z30)
   else if ((x.f0 == 20) && ((((x.f3.map (simpI N n)).getD 0 z30).f0 == 16) || emptyB ((x.f3.map (simpI N n)).getD 0 z30))) = true then strP ⟨#[]⟩
   else if (((x.f0 == 21) || (x.f0 == 22)) && ((((x.f3.map (simpI N n)).getD 0 z30).f0 == 16) || (((x.f3.map (simpI N n)).getD 0 z30).f0 == 15))) = true then (x.f3.map (simpI N n)).getD 0 z30
   else ⟨x.f0, x.f1, x.f2, x.f3.map (simpI N n)⟩
inductive OKT : PT → Prop where
 | mk (x : PT) (h2 : x.f0 = 19 ∨ x.f0 = 18 → x.f3.length = 2) (ht : x.f2.size ≤ 200) (hk : ∀ y, y ∈ x.f3 → OKT y) : OKT x
theorem OKT.two {x : PT} (h : OKT x) (hk : x.f0 = 19 ∨ x.f0 = 18) : x.f3 = [kid x 0, kid x 1] := by
 cases h with
 | mk x h2 ht hk' =>
  have := h2 hk
  match hx : x.f3, this with
  | [a, b], _ => simp [kid, hx]
theorem OKT.kid {x : PT} (h : OKT x) (i : Nat) (hi : i < x.f3.length) : OKT (kid x i) := by
 cases h with
 | mk x h2 ht hk =>
  unfold PFnExactJoinPatterns.kid
  rw [List.getD_eq_getElem?_getD, List.getElem?_eq_getElem hi]
  exact hk _ (List.getElem_mem hi)
theorem OKT.text {x : PT} (h : OKT x) : x.f2.size ≤ 200 := by cases h; assumption
theorem OKT.str {s : ByteArray} (h : s.size ≤ 200) : OKT (strP s) := .mk _ (by simp [strP]) h (by simp [strP])
theorem cnt_two {x a b : PT} (h : x.f3 = [a, b]) : cntT x = 1 + (cntT a + cntT b) := by rw [cntT_eq, h]; simp [cntL]
theorem cnt_pair (k : Int) (m : Int) (s : ByteArray) (a b : PT) : cntT ⟨k, m, s, [a, b]⟩ = 1 + (cntT a + cntT b) := by simp [cntT, cntL]
theorem okt_pair (k : Int) {a b : PT} (ha : OKT a) (hb : OKT b) : OKT ⟨k, 0, ⟨#[]⟩, [a, b]⟩ := .mk _ (fun _ => rfl) (Nat.le_of_ble_eq_true rfl) (by
 intro y hy
 simp only [List.mem_cons, List.not_mem_nil, or_false] at hy
 rcases hy with rfl | rfl
 ·exact ha
 ·exact hb)
theorem catF_ok (n : Nat) : ∀ a b : PT, OKT a → OKT b → OKT (catF n a b) ∧ cntT (catF n a b) ≤ 1 + cntT a + cntT b := by
 induction n with
 | zero => intro a b _ hb; exact ⟨hb, by simp only [catF]; omega⟩
 | succ n ih =>
  intro a b ha hb
  simp only [catF]
  split
  ·exact ⟨hb, by omega⟩
  split
  ·exact ⟨ha, by omega⟩
  split
  ·rename_i h19
   have h2 := ha.two (.inl (beq_iff_eq.mp h19))
   have hl : a.f3.length = 2 := by rw [h2]; rfl
   have hc := cnt_two h2
   obtain ⟨o1, c1⟩ := ih (kid a 1) b (ha.kid 1 (by omega)) hb
   obtain ⟨o2, c2⟩ := ih (kid a 0) (catF n (kid a 1) b) (ha.kid 0 (by omega)) o1
   exact ⟨o2, by omega⟩
  split
  ·rename_i hs
   simp only [bothStr, Bool.and_eq_true, decide_eq_true_eq] at hs
   exact ⟨OKT.str hs.2.2, by have h1 := cntT_eq a; simp only [strP, cntT, cntL]; omega⟩
  split
  ·rename_i hs
   simp only [strCat, Bool.and_eq_true, decide_eq_true_eq] at hs
   have h2 := hb.two (.inl (beq_iff_eq.mp hs.2.1))
   have hl : b.f3.length = 2 := by rw [h2]; rfl
   have hc := cnt_two h2
   refine ⟨okt_pair 19 (OKT.str hs.2.2.2) (hb.kid 1 (by omega)), ?_⟩
   rw [cnt_pair]
   have h1 := cntT_eq (kid b 0)
   have h3 : cntT (strP (a.f2 ++ (kid b 0).f2)) = 1 := by simp [strP, cntT, cntL]
   omega
  ·exact ⟨okt_pair 19 ha hb, by rw [cnt_pair]; omega⟩
theorem altF_ok (n : Nat) : ∀ a b : PT, OKT a → OKT b → OKT (altF n a b) ∧ cntT (altF n a b) ≤ 1 + cntT a + cntT b := by
 induction n with
 | zero => intro a b _ hb; exact ⟨hb, by simp only [altF]; omega⟩
 | succ n ih =>
  intro a b ha hb
  simp only [altF]
  split
  ·exact ⟨hb, by omega⟩
  split
  ·exact ⟨ha, by omega⟩
  split
  ·rename_i h18
   have h2 := ha.two (.inr (beq_iff_eq.mp h18))
   have hl : a.f3.length = 2 := by rw [h2]; rfl
   have hc := cnt_two h2
   obtain ⟨o1, c1⟩ := ih (kid a 1) b (ha.kid 1 (by omega)) hb
   obtain ⟨o2, c2⟩ := ih (kid a 0) (altF n (kid a 1) b) (ha.kid 0 (by omega)) o1
   exact ⟨o2, by omega⟩
  ·exact ⟨okt_pair 18 ha hb, by rw [cnt_pair]; omega⟩
inductive VP : PT → Prop where
 | mk (x : PT) (h2 : x.f0 = 19 ∨ x.f0 = 18 → x.f3.length = 2) (h1 : x.f0 = 20 ∨ x.f0 = 21 ∨ x.f0 = 22 → x.f3.length = 1 ∧ x.f1 = 0) (h20 : x.f0 = 20 → x.f2.toList = []) (h0 : x.f0 ≠ 19 → x.f0 ≠ 18 → x.f0 ≠ 20 → x.f0 ≠ 21 → x.f0 ≠ 22 → x.f3 = []) (ht : x.f2.size ≤ 200) (hk : ∀ y, y ∈ x.f3 → VP y) : VP x
theorem VP.okt {x : PT} (h : VP x) : OKT x := by
 induction h with
 | mk x h2 _ _ _ ht hk ih => exact .mk x h2 ht ih
theorem VP.kid {x : PT} (h : VP x) (i : Nat) (hi : i < x.f3.length) : VP (kid x i) := by
 cases h with
 | mk x _ _ _ _ _ hk =>
  unfold PFnExactJoinPatterns.kid
  rw [List.getD_eq_getElem?_getD, List.getElem?_eq_getElem hi]
  exact hk _ (List.getElem_mem hi)
theorem kid_one {x : PT} (h : x.f3.length = 1) : x.f3 = [kid x 0] := by
 match hx : x.f3, h with
 | [a], _ => simp [kid, hx]
theorem bytes_nil {s : ByteArray} (h : s.toList = []) : s = ⟨#[]⟩ := by
 have h2 : s.data.toList = [] := (ByteArray.toList_eq s).symm.trans h
 cases s with
 | mk d =>
  simp only at h2
  rw [show d = #[] from by apply Array.ext'; rw [h2]]
theorem simp_same (N n : Nat) : ∀ x : PT, VP x → simpI N n x = simpS N n x := by
 induction n with
 | zero => intro x _; rfl
 | succ n ih =>
  intro x h
  have hx := h
  cases h with
  | mk x h2 h1 h20 h0 ht hk =>
  simp only [simpI, simpS]
  split
  ·rfl
  split
  ·rename_i hq
   have e := hx.okt.two (.inl (beq_iff_eq.mp hq))
   have hl : x.f3.length = 2 := by rw [e]; rfl
   rw [show x.f3.map (simpI N n) = [simpS N n (kid x 0), simpS N n (kid x 1)] from by rw [e]; simp only [List.map_cons, List.map_nil]; rw [ih _ (hx.kid 0 (by omega)), ih _ (hx.kid 1 (by omega))]]
   rfl
  split
  ·rename_i hq
   have e := hx.okt.two (.inr (beq_iff_eq.mp hq))
   have hl : x.f3.length = 2 := by rw [e]; rfl
   rw [show x.f3.map (simpI N n) = [simpS N n (kid x 0), simpS N n (kid x 1)] from by rw [e]; simp only [List.map_cons, List.map_nil]; rw [ih _ (hx.kid 0 (by omega)), ih _ (hx.kid 1 (by omega))]]
   rfl
  rename_i c19 c18
  have one : ∀ (_ : x.f3.length = 1), x.f3.map (simpI N n) = [simpS N n (kid x 0)] := by
   intro hl
   rw [kid_one hl]
   simp only [List.map_cons, List.map_nil]
   rw [ih _ (hx.kid 0 (by omega))]
  by_cases c20 : x.f0 = 20
  ·obtain ⟨hl, h10⟩ := h1 (.inl c20)
   have b20 : (x.f0 == 20) = true := beq_iff_eq.mpr c20
   have b21 : (x.f0 == 21) = false := beq_eq_false_iff_ne.mpr (by omega)
   have b22 : (x.f0 == 22) = false := beq_eq_false_iff_ne.mpr (by omega)
   have hb := bytes_nil (h20 c20)
   rw [one hl, b20, b21, b22]
   simp only [List.getD_cons_zero, Bool.true_and, Bool.false_or, Bool.or_false, Bool.false_and, if_true]
   split
   ·rfl
   ·simp only [if_false, Bool.false_eq_true]
    rw [c20, h10, hb]
  by_cases c21 : x.f0 = 21 ∨ x.f0 = 22
  ·obtain ⟨hl, h10⟩ := h1 (.inr c21)
   have b20 : (x.f0 == 20) = false := beq_eq_false_iff_ne.mpr c20
   have b2 : ((x.f0 == 21) || (x.f0 == 22)) = true := by simpa using c21
   rw [one hl, b20, b2]
   simp only [List.getD_cons_zero, Bool.true_and, Bool.false_or, Bool.or_false, Bool.false_and, if_true, Bool.false_eq_true, if_false]
   split
   ·rfl
   ·rw [h10]
  ·have b20 : (x.f0 == 20) = false := beq_eq_false_iff_ne.mpr c20
   have b2 : ((x.f0 == 21) || (x.f0 == 22)) = false := by simpa using c21
   have e := h0 (by simpa using c19) (by simpa using c18) c20 (fun h => c21 (.inl h)) (fun h => c21 (.inr h))
   rw [b20, b2]
   simp only [Bool.false_and, Bool.false_eq_true, if_false]
   rw [e]
   simp only [List.map_nil]
   cases x
   simp_all
theorem simp_ok (N n : Nat) : ∀ x : PT, VP x → OKT (simpS N n x) ∧ cntT (simpS N n x) ≤ cntT x := by
 induction n with
 | zero => intro x h; exact ⟨h.okt, Nat.le_refl _⟩
 | succ n ih =>
  intro x h
  have hx := h
  cases h with
  | mk x h2 h1 h20 h0 ht hk =>
  have hs : OKT (strP ⟨#[]⟩) ∧ cntT (strP ⟨#[]⟩) ≤ cntT x := ⟨OKT.str (Nat.le_of_ble_eq_true rfl), by have := cntT_eq x; simp only [strP, cntT, cntL]; omega⟩
  have one : ∀ (k : Int) (t : ByteArray), t.size ≤ 200 → k ≠ 19 → k ≠ 18 → (x.f0 = 20 ∨ x.f0 = 21 ∨ x.f0 = 22) → (OKT (simpS N n (kid x 0)) ∧ cntT (simpS N n (kid x 0)) ≤ cntT x) ∧ OKT ⟨k, 0, t, [simpS N n (kid x 0)]⟩ ∧ cntT (⟨k, 0, t, [simpS N n (kid x 0)]⟩ : PT) ≤ cntT x := by
   intro k t ht k1 k2 hq
   obtain ⟨hl, _⟩ := h1 hq
   obtain ⟨o1, c1⟩ := ih _ (hx.kid 0 (by omega))
   have e := kid_one hl
   have hc : cntT x = 1 + cntT (kid x 0) := by rw [cntT_eq, e]; simp [cntL, kid]
   refine ⟨⟨o1, by omega⟩, .mk _ (fun h => absurd h (by simp [k1, k2])) ht (by intro y hy; rw [List.mem_singleton] at hy; rw [hy]; exact o1), ?_⟩
   simp only [cntT, cntL]
   omega
  simp only [simpS]
  split
  ·exact hs
  split
  ·rename_i hq
   have e := hx.okt.two (.inl (beq_iff_eq.mp hq))
   have hl : x.f3.length = 2 := by rw [e]; rfl
   have hc := cnt_two e
   obtain ⟨o1, c1⟩ := ih _ (hx.kid 0 (by omega))
   obtain ⟨o2, c2⟩ := ih _ (hx.kid 1 (by omega))
   obtain ⟨o3, c3⟩ := catF_ok N _ _ o1 o2
   exact ⟨o3, by omega⟩
  split
  ·rename_i hq
   have e := hx.okt.two (.inr (beq_iff_eq.mp hq))
   have hl : x.f3.length = 2 := by rw [e]; rfl
   have hc := cnt_two e
   obtain ⟨o1, c1⟩ := ih _ (hx.kid 0 (by omega))
   obtain ⟨o2, c2⟩ := ih _ (hx.kid 1 (by omega))
   obtain ⟨o3, c3⟩ := altF_ok N _ _ o1 o2
   exact ⟨o3, by omega⟩
  split
  ·rename_i hq
   split
   ·exact hs
   ·exact (one 20 ⟨#[]⟩ (Nat.le_of_ble_eq_true rfl) (by omega) (by omega) (.inl (beq_iff_eq.mp hq))).2
  split
  ·rename_i hq
   have hq' : x.f0 = 21 ∨ x.f0 = 22 := by simpa using hq
   have := one x.f0 x.f2 ht (by omega) (by omega) (.inr hq')
   split
   ·exact this.1
   ·exact this.2
  ·exact ⟨hx.okt, Nat.le_refl _⟩
def cellsP (x : PT) (v : Value) : List Value := [.int .i64 x.f0, .int .i64 x.f1, .string x.f2, v]
def Res (d : Prop) (w : World) (B : Nat → Prop) (x : PT) (e : Ending) (w' : World) : Prop :=
 ∃ v' B', e = .returned (.agg (cellsP x v').toArray) ∧ T d w' B' v' x.f3 ∧ (∀ k, B' k → (B k ∨ w.heap.size ≤ k) ∧ k < w'.heap.size) ∧ Below w.heap.size w w'
theorem put_step {P : Program} {ops : Array Oper} {oi : Oper} {a : Act} {w : World} {Q : Exit → Act → World → Prop} {K : Act → World → Prop} (hw : Region.wanted oi (yielded ops a.tmps) = true) (hN : oi.dst = none) (ty : TypeId) (x y : Operand) (ho : oi.op = .store ty x y)
  (g off : Nat) (val : Value) (hx : a.eval x = .pointer (some ⟨g, off, none⟩)) (hy : a.eval y = val) (vs : List Value) (hv : val.cells = vs.toArray)
  (t : TypeId) (cur new : Array Value) (hg : w.heap[g]? = some (.cells cur t (0, 0))) (hi : (P.info? ty).map (·.size) = some vs.length)
  (hl : off + vs.length ≤ cur.size) (h1 : vs.all (·.oneCell') = true) (hn : (cur.toList.take off ++ vs ++ cur.toList.drop (off + vs.length)).toArray = new)
  (h : ∀ w2 : World, w2.heap[g]? = some (.cells new t (0, 0)) → (∀ k, k ≠ g → w2.heap[k]? = w.heap[k]?) → (∀ (B : Nat) (w0 : World), Below B w0 w → B ≤ g → Below B w0 w2) → w2.heap.size = w.heap.size → K a w2) : if Region.wanted oi (yielded ops a.tmps) = true then Oper.wp P oi a w K Q else K (a.put none undef) w := by
 have hst := run_storeCells_at (P := P) g off t vs 0 cur w hg (by omega) (fun v hv => List.all_eq_true.1 h1 v hv)
 simp only [Nat.add_zero] at hst
 have hsv : (storeVar ty ⟨g, off, none⟩ val).run P w = .ok () (w.setRow g new) := by
  cases hq : P.info? ty with
  | none => simp [hq] at hi
  | some i =>
   have hs : vs.length = i.size := by simp [hq] at hi; omega
   rw [← hn]
   simp [storeVar, sizeOf, typeInfo, hq, hv, hs]
   simpa [hs] using hst
 refine skip_ hw hN (w1 := w.setRow g new) ?_ (h _ (setRow_heap w g cur new t (0, 0) hg) (fun k hk => setRow_other w g k new hk) (fun _ _ hb hl => below_setRow hb hl new) (size_setRow w g new))
 unfold execOp
 simp only [ho, hx, hy, Instr.storeAt, Instr.sureAddr, Sem.run_bind, Sem.run_pure, Result.andThen_ok, hsv]
theorem elt_at {w : World} {g : Nat} {cs : List Value} {m : Nat} {x : PT} {v : Value} {t : TypeId} (hb : w.heap[g]? = some (.cells cs.toArray t (0, 0))) (h0 : cs[m * 4 + 0]? = some (.int .i64 x.f0)) (h1 : cs[m * 4 + 1]? = some (.int .i64 x.f1)) (h2 : cs[m * 4 + 2]? = some (.string x.f2)) (h3 : cs[m * 4 + 3]? = some v) : EltV w g m x v := by
 have c (q : Nat) : w.cell? ⟨g, q, none⟩ = cs[q]? := by rw [blk_cell hb q]; simp
 exact ⟨by rw [c]; exact h0, by rw [c]; exact h1, by rw [c]; exact h2, by rw [c]; exact h3, fun j => blk_frozen hb j⟩
theorem T_pair {d : Prop} {w : World} {Ba Bb : Nat → Prop} {a b : PT} {va vb : Value} {t : TypeId} {g : Nat} (hn : w.heap[g]? = some (.cells (cellsP a va ++ cellsP b vb).toArray t (0, 0))) (ha : T d w Ba va a.f3) (hb : T d w Bb vb b.f3) (hD : d → ∀ k, Ba k → ¬ Bb k) (hl : ∀ k, Ba k ∨ Bb k → k ≠ g) :
  T d w (fun k => (Ba k ∨ Bb k) ∨ k = g) (.slice (some ⟨g, 0, none⟩) 2 2) [a, b] := by
 refine T.of (xs := [a, b]) (vs := fun i => if i = 0 then va else vb) (Bs := fun i k => if i = 0 then Ba k else if i = 1 then Bb k else False) (Nat.le_refl _) (Nat.le_of_ble_eq_true rfl) (.inr rfl) ?_ ?_ ?_
 ·intro i k hk
  by_cases h0 : i = 0
  ·simp only [h0, if_true] at hk
   exact ⟨.inl (.inl hk), hl k (.inl hk)⟩
  ·by_cases h1 : i = 1
   ·simp only [h1, if_true, Nat.one_ne_zero, if_false] at hk
    exact ⟨.inl (.inr hk), hl k (.inr hk)⟩
   ·simp only [h0, h1, if_false] at hk
 ·intro hd i j k hij hi hj
  by_cases i0 : i = 0
  ·simp only [i0, if_true] at hi
   have j0 : j ≠ 0 := fun h => hij (by omega)
   by_cases j1 : j = 1
   ·simp only [j1, if_true, Nat.one_ne_zero, if_false] at hj
    exact hD hd k hi hj
   ·simp only [j0, j1, if_false] at hj
  ·by_cases i1 : i = 1
   ·simp only [i1, if_true, Nat.one_ne_zero, if_false] at hi
    by_cases j0 : j = 0
    ·simp only [j0, if_true] at hj
     exact hD hd k hj hi
    ·have j1 : j ≠ 1 := fun h => hij (by omega)
     simp only [j0, j1, if_false] at hj
   ·simp only [i0, i1, if_false] at hi
 ·intro i x hx
  match i, hx with
  | 0, hx => cases hx; exact ⟨elt_at hn rfl rfl rfl rfl, ha⟩
  | 1, hx => cases hx; exact ⟨elt_at hn rfl rfl rfl rfl, hb⟩
theorem T_one {d : Prop} {w : World} {Ba : Nat → Prop} {a : PT} {va : Value} {t : TypeId} {g : Nat} (hn : w.heap[g]? = some (.cells (cellsP a va).toArray t (0, 0))) (ha : T d w Ba va a.f3) (hl : ∀ k, Ba k → k ≠ g) :
  T d w (fun k => Ba k ∨ k = g) (.slice (some ⟨g, 0, none⟩) 1 1) [a] := by
 refine T.of (xs := [a]) (vs := fun _ => va) (Bs := fun i k => if i = 0 then Ba k else False) (Nat.le_refl _) (Nat.le_of_ble_eq_true rfl) (.inr rfl) ?_ ?_ ?_
 ·intro i k hk
  by_cases h0 : i = 0
  ·simp only [h0, if_true] at hk
   exact ⟨.inl hk, hl k hk⟩
  ·simp only [h0, if_false] at hk
 ·intro hd i j k hij hi hj
  by_cases i0 : i = 0
  ·have j0 : j ≠ 0 := fun h => hij (by omega)
   simp only [j0, if_false] at hj
  ·simp only [i0, if_false] at hi
 ·intro i x hx
  match i, hx with
  | 0, hx => cases hx; exact ⟨elt_at hn rfl rfl rfl rfl, ha⟩
theorem T.elem {d : Prop} {w : World} {B : Nat → Prop} {A : Option Addr} {c : Nat} {xs : List PT} (h : T d w B (.slice A xs.length c) xs) (i : Nat) (hi : i < xs.length) :
  ∃ g A3 c3 B3, A = some ⟨g, 0, none⟩ ∧ Go.Proofs.Ytomakpfmghekfaa.RowLaw.CellsAt w ⟨g, i * 4, none⟩ (cellsP (xs.getD i z30) (.slice A3 (xs.getD i z30).f3.length c3)) ∧ T d w B3 (.slice A3 (xs.getD i z30).f3.length c3) (xs.getD i z30).f3 ∧ (∀ k, B3 k → B k) := by
 obtain ⟨A2, c2, e, hh⟩ := h.inv
 injection e with eA _ ec
 subst eA
 subst ec
 obtain ⟨g, vs, Bs, rfl, _, _, _, hB, _, hr⟩ := hh (by omega)
 have hx : xs[i]? = some (xs.getD i z30) := by rw [List.getD_eq_getElem?_getD, List.getElem?_eq_getElem hi]; rfl
 obtain ⟨hE, hT⟩ := hr i _ hx
 obtain ⟨A3, c3, e3, _⟩ := hT.inv
 rw [e3] at hE hT
 refine ⟨g, A3, c3, Bs i, rfl, fun j u hu => ?_, hT, fun k hk => (hB i k hk).1⟩
 have hadd : (⟨g, i * 4, none⟩ : Addr).add j = ⟨g, i * 4 + j, none⟩ := by unfold Addr.add; split <;> simp_all
 rw [hadd]
 match j, hu with
 | 0, hu => cases hu; exact hE.c0
 | 1, hu => cases hu; exact hE.c1
 | 2, hu => cases hu; exact hE.c2
 | 3, hu => cases hu; exact hE.c3
theorem T.elems {d : Prop} {w : World} {B : Nat → Prop} {A : Option Addr} {c : Nat} {a : PT} (h : T d w B (.slice A a.f3.length c) a.f3) (h2 : a.f3 = [kid a 0, kid a 1]) :
  ∃ g A0 c0 B0 A1 c1 B1, A = some ⟨g, 0, none⟩ ∧ Go.Proofs.Ytomakpfmghekfaa.RowLaw.CellsAt w ⟨g, 0, none⟩ (cellsP (kid a 0) (.slice A0 (kid a 0).f3.length c0)) ∧ Go.Proofs.Ytomakpfmghekfaa.RowLaw.CellsAt w ⟨g, 4, none⟩ (cellsP (kid a 1) (.slice A1 (kid a 1).f3.length c1)) ∧
   T d w B0 (.slice A0 (kid a 0).f3.length c0) (kid a 0).f3 ∧ T d w B1 (.slice A1 (kid a 1).f3.length c1) (kid a 1).f3 ∧ (∀ k, B0 k → B k) ∧ (∀ k, B1 k → B k) ∧ (d → ∀ k, B0 k → ¬ B1 k) := by
 obtain ⟨A2, c2, e, hh⟩ := h.inv
 injection e with eA _ ec
 subst eA
 subst ec
 obtain ⟨g, vs, Bs, rfl, _, _, _, hB, hD, hr⟩ := hh (by rw [h2]; simp)
 have cells : ∀ (i : Nat) (x : PT) (v : Value), EltV w g i x v → Go.Proofs.Ytomakpfmghekfaa.RowLaw.CellsAt w ⟨g, i * 4, none⟩ (cellsP x v) := by
  intro i x v hE j u hu
  have hadd : (⟨g, i * 4, none⟩ : Addr).add j = ⟨g, i * 4 + j, none⟩ := by unfold Addr.add; split <;> simp_all
  rw [hadd]
  match j, hu with
  | 0, hu => cases hu; exact hE.c0
  | 1, hu => cases hu; exact hE.c1
  | 2, hu => cases hu; exact hE.c2
  | 3, hu => cases hu; exact hE.c3
 obtain ⟨hE0, hT0⟩ := hr 0 (kid a 0) (by rw [h2]; rfl)
 obtain ⟨hE1, hT1⟩ := hr 1 (kid a 1) (by rw [h2]; rfl)
 obtain ⟨A0, c0, e0, _⟩ := hT0.inv
 obtain ⟨A1, c1, e1, _⟩ := hT1.inv
 rw [e0] at hE0 hT0
 rw [e1] at hE1 hT1
 exact ⟨g, A0, c0, Bs 0, A1, c1, Bs 1, rfl, cells 0 _ _ hE0, cells 1 _ _ hE1, hT0, hT1, fun k hk => (hB 0 k hk).1, fun k hk => (hB 1 k hk).1, fun hd k hk => hD hd 0 1 k (by omega) hk⟩
theorem row_event {P : Program} {ops : Array Oper} {rest : List Oper} {o : Oper} {a' : Act} {W : World} {Q : Exit → Act → World → Prop} (t : TypeId) (n : Nat) (cs : List Value) (hgd : o.guard = none)
  (hrun : (execOp a'.eval o).run P W = .ok (.value (.slice (some ⟨W.heap.size, 0, none⟩) n n)) (W.alloc (.cells cs.toArray t)))
  (h : ∀ (w1 : World) (m : Nat), m = W.heap.size → w1.heap[m]? = some (.cells cs.toArray t (0, 0)) → Below W.heap.size W w1 → wpList P ops Q rest (a'.put o.dst (.slice (some ⟨m, 0, none⟩) n n)) w1) : wpList P ops Q (o :: rest) a' W :=
 Kd.event_run hgd hrun (h _ _ rfl (heap_alloc_new W _) (below_alloc (Below.refl _ _) _))
theorem res_pair {d : Prop} {w w9 : World} {Ba Bb B : Nat → Prop} {m : Nat} {a b : PT} {va vb : Value} {t : TypeId} (k : Int) (hn : w9.heap[m]? = some (.cells (cellsP a va ++ cellsP b vb).toArray t (0, 0))) (ha : T d w9 Ba va a.f3) (hb : T d w9 Bb vb b.f3) (hD : d → ∀ k, Ba k → ¬ Bb k)
  (hB : ∀ j, Ba j ∨ Bb j → (B j ∨ w.heap.size ≤ j) ∧ j < w9.heap.size) (hl : ∀ k, Ba k ∨ Bb k → k ≠ m) (hm : w.heap.size ≤ m) (hb9 : Below w.heap.size w w9) : Res d w B ⟨k, 0, ⟨#[]⟩, [a, b]⟩ (.returned (.agg #[.int .i64 k, .int .i64 0, .string ⟨#[]⟩, .slice (some ⟨m, 0, none⟩) 2 2])) w9 := by
 refine ⟨_, _, rfl, T_pair hn ha hb hD hl, fun j hj => ?_, hb9⟩
 rcases hj with hj | rfl
 ·exact hB j hj
 ·exact ⟨.inr hm, blk_lt hn⟩
theorem bothStr_of {a b : PT} {r : Bool} (ha : (a.f0 == 1) = true) (hb : (b.f0 == 1) = true) (h : decide ((a.f2 ++ b.f2).size ≤ 200) = r) : bothStr a b = r := by unfold bothStr; rw [ha, hb, h]; rfl
theorem strCat_of {a b : PT} {r : Bool} (ha : (a.f0 == 1) = true) (hb : (b.f0 == 19) = true) (hk : ((kid b 0).f0 == 1) = true) (h : decide ((a.f2 ++ (kid b 0).f2).size ≤ 200) = r) : strCat a b = r := by unfold strCat; rw [ha, hb, hk, h]; rfl
theorem emptyB_ne {a : PT} (h : (a.f0 == 1) = false) : emptyB a = false := by unfold emptyB; rw [h]; rfl
theorem T.first {d : Prop} {w : World} {B : Nat → Prop} {g c : Nat} {xs : List PT} (h : T d w B (.slice (some ⟨g, 0, none⟩) xs.length c) xs) (hi : 0 < xs.length) : w.cell? ⟨g, 0, none⟩ = some (.int .i64 (xs.getD 0 z30).f0) ∧ w.cell? ⟨g, 2, none⟩ = some (.string (xs.getD 0 z30).f2) := by
 obtain ⟨A2, c2, e, hh⟩ := h.inv
 injection e with eA _ ec
 obtain ⟨g2, vs, Bs, e2, _, _, _, _, _, hr⟩ := hh hi
 rw [e2] at eA
 injection eA with eA
 injection eA with eA
 subst eA
 have hx : xs[0]? = some (xs.getD 0 z30) := by rw [List.getD_eq_getElem?_getD, List.getElem?_eq_getElem hi]; rfl
 obtain ⟨hE, _⟩ := hr 0 _ hx
 exact ⟨hE.c0, hE.c2⟩
theorem cell_grow {w W : World} {A : Addr} {v : Value} (h : w.cell? A = some v) (hb : Below w.heap.size w W) : W.cell? A = some v := (hb.cell (World.block_lt_of_cell? w _ h)).trans h
theorem new_step {P : Program} {ops : Array Oper} {oi : Oper} {N : Option Tmp} {a' : Act} {W : World} {Q : Exit → Act → World → Prop} {K : Act → World → Prop} (t : TypeId) (cs : List Value) (v : Nat → Value) (hw : Region.wanted oi (yielded ops a'.tmps) = true) (hN : oi.dst = N)
  (hrun : (execOp a'.eval oi).run P W = .ok (.value (v W.heap.size)) (W.alloc (.cells cs.toArray t)))
  (h : ∀ (w1 : World) (m : Nat), m = W.heap.size → w1.heap[m]? = some (.cells cs.toArray t (0, 0)) → Below W.heap.size W w1 → K (a'.put N (v m)) w1) : if Region.wanted oi (yielded ops a'.tmps) = true then Oper.wp P oi a' W K Q else K (a'.put N undef) W := by
 rw [if_pos hw]
 subst hN
 unfold Oper.wp
 rw [hrun]
 exact h _ _ rfl (heap_alloc_new W _) (below_alloc (Below.refl _ _) _)
theorem below_of_drawn {w w' : World} (h : Drawn0 w w') : Below w.heap.size w w' := by
 obtain ⟨m, rfl⟩ := h
 exact pw_below_drewN (Below.refl _ _) m
def btx (n k : Nat) : Array Bool := (List.replicate k true ++ List.replicate (n - k) false).toArray
theorem z4 {w : World} {g : Nat} {t : TypeId} {a b c d : Value} (h : w.heap[g]? = some (.cells #[a, b, c, d] t (0, 0))) : w.cell? ⟨g, 0, none⟩ = some a ∧ w.cell? ⟨g, 1, none⟩ = some b ∧ w.cell? ⟨g, 2, none⟩ = some c ∧ w.cell? ⟨g, 3, none⟩ = some d := ⟨(blk_cell h 0).trans rfl, (blk_cell h 1).trans rfl, (blk_cell h 2).trans rfl, (blk_cell h 3).trans rfl⟩
theorem fr1 {w0 w w1 : World} {g0 : Nat} {o0 : Obj} (HB : Aside0 (Below w0.heap.size w0 w)) (h0 : Aside0 (w.heap[g0]? = some o0)) (hb : Below w.heap.size w w1) : Aside0 (Below w0.heap.size w0 w1) ∧ Aside0 (w1.heap[g0]? = some o0) := ⟨⟨below_step HB.out hb⟩, ⟨blk_below h0.out hb⟩⟩
theorem fr2 {w0 w w1 : World} {g0 g1 : Nat} {o0 o1 : Obj} (HB : Aside0 (Below w0.heap.size w0 w)) (h0 : Aside0 (w.heap[g0]? = some o0)) (h1 : Aside0 (w.heap[g1]? = some o1)) (hb : Below w.heap.size w w1) : Aside0 (Below w0.heap.size w0 w1) ∧ Aside0 (w1.heap[g0]? = some o0) ∧ Aside0 (w1.heap[g1]? = some o1) := ⟨⟨below_step HB.out hb⟩, ⟨blk_below h0.out hb⟩, ⟨blk_below h1.out hb⟩⟩
theorem fr3 {w0 w w1 : World} {g0 g1 g2 : Nat} {o0 o1 o2 : Obj} (HB : Aside0 (Below w0.heap.size w0 w)) (h0 : Aside0 (w.heap[g0]? = some o0)) (h1 : Aside0 (w.heap[g1]? = some o1)) (h2 : Aside0 (w.heap[g2]? = some o2)) (hb : Below w.heap.size w w1) : Aside0 (Below w0.heap.size w0 w1) ∧ Aside0 (w1.heap[g0]? = some o0) ∧ Aside0 (w1.heap[g1]? = some o1) ∧ Aside0 (w1.heap[g2]? = some o2) := ⟨⟨below_step HB.out hb⟩, ⟨blk_below h0.out hb⟩, ⟨blk_below h1.out hb⟩, ⟨blk_below h2.out hb⟩⟩
theorem fr4 {w0 w w1 : World} {g0 g1 g2 g3 : Nat} {o0 o1 o2 o3 : Obj} (HB : Aside0 (Below w0.heap.size w0 w)) (h0 : Aside0 (w.heap[g0]? = some o0)) (h1 : Aside0 (w.heap[g1]? = some o1)) (h2 : Aside0 (w.heap[g2]? = some o2)) (h3 : Aside0 (w.heap[g3]? = some o3)) (hb : Below w.heap.size w w1) : Aside0 (Below w0.heap.size w0 w1) ∧ Aside0 (w1.heap[g0]? = some o0) ∧ Aside0 (w1.heap[g1]? = some o1) ∧ Aside0 (w1.heap[g2]? = some o2) ∧ Aside0 (w1.heap[g3]? = some o3) := ⟨⟨below_step HB.out hb⟩, ⟨blk_below h0.out hb⟩, ⟨blk_below h1.out hb⟩, ⟨blk_below h2.out hb⟩, ⟨blk_below h3.out hb⟩⟩
theorem pu {P : Program} {ops : Array Oper} {Q : Exit → Act → World → Prop} {md : Region.Mode} {S : World → Prop} {ds : List Nat} {n k : Nat} {N : Tmp} {oi : Oper} {v : Value} {fuel : Nat} {a : Act} {w : World} (hi : ops[k]? = some oi) (hN : oi.dst = some N) (hc : anyB md ops (btx n k) (btx n (k + 1)) k = true)
  (hQ : ∀ c a w, Q (.panic c) (a.put oi.dst v) w → Q (.panic c) a w) (hy : Yields P ops oi v a) {a' : Act} (ha : a.put (some N) v = a') (h : wpAnyLast P md ops Q S ds fuel (btx n (k + 1)) a' w) : wpAnyLast P md ops Q S ds (fuel + 1) (btx n k) a w := pure_ (btx n (k + 1)) hi hN hc hQ hy ha h
theorem tk {P : Program} {ops : Array Oper} {Q : Exit → Act → World → Prop} {md : Region.Mode} {S : World → Prop} {ds : List Nat} {n k : Nat} {N : Tmp} {oi : Oper} {v : Value} {fuel : Nat} {a : Act} {w : World} (hi : ops[k]? = some oi) (hN : oi.dst = some N) (hc : takeB md ops ds (btx n k) (btx n (k + 1)) k = true)
  (hQ : ∀ c a w, Q (.panic c) (a.put oi.dst v) w → Q (.panic c) a w) (hy : YieldsIf P ops S oi v a) (hS : S w) {a' : Act} (ha : a.put (some N) v = a') (h : wpAnyLast P md ops Q S ds fuel (btx n (k + 1)) a' w) : wpAnyLast P md ops Q S ds (fuel + 1) (btx n k) a w := take_ (btx n (k + 1)) hi hN hc hQ hy hS ha h
theorem spec_empty (x : PT) : spec_l15Empty.f x.f0 x.f1 x.f2 x.f3 = some (emptyB x) := by
 unfold spec_l15Empty.f emptyB
 by_cases h : x.f0 = 1
 ·rw [if_pos h, beq_iff_eq.mpr h]; rfl
 ·rw [if_neg h, beq_eq_false_iff_ne.mpr h]; rfl
theorem impl_empty (x : PT) : impl_Pattern_isEmptyString.f x.f0 x.f1 x.f2 x.f3 = some (emptyB x) := by
 unfold impl_Pattern_isEmptyString.f emptyB
 by_cases h : x.f0 = 1
 ·rw [if_pos h, beq_iff_eq.mpr h]; rfl
 ·rw [if_neg h, beq_eq_false_iff_ne.mpr h]; rfl
def kFlat : Kd (Int × Int × ByteArray × (Option Addr × Nat × Nat)) := Kd.pair (Kd.int .i64) (Kd.pair (Kd.int .i64) (Kd.pair Kd.string (Kd.scalar (fun t => .slice t.1 t.2.1 t.2.2) (fun _ => rfl))))
theorem kFlat_M {w : World} {base : Nat} {ok : Nat → Prop} {y : Int × Int × ByteArray × (Option Addr × Nat × Nat)} : kFlat.M w base ok y [.int .i64 y.1, .int .i64 y.2.1, .string y.2.2.1, .slice y.2.2.2.1 y.2.2.2.2.1 y.2.2.2.2.2] :=
 ⟨[_], [_, _, _], rfl, rfl, [_], [_, _], rfl, rfl, [_], [_], rfl, rfl, rfl⟩
theorem kFlat_open {w : World} {y : Int × Int × ByteArray × (Option Addr × Nat × Nat)} {cs : List Value} (h : kFlat.K w y cs) : cs = [.int .i64 y.1, .int .i64 y.2.1, .string y.2.2.1, .slice y.2.2.2.1 y.2.2.2.2.1 y.2.2.2.2.2] := by
 obtain ⟨_, _, rfl, rfl, _, _, rfl, rfl, _, _, rfl, rfl, rfl⟩ := h
 rfl
def kOf (k : PT) (A : Option Addr) (c : Nat) : Int × Int × ByteArray × (Option Addr × Nat × Nat) := (k.f0, k.f1, k.f2, (A, k.f3.length, c))
structure Kids (e : TypeId) (base : Nat) (w : World) (v : Value) (ks : List PT) (As : Nat → Option Addr) (cs : Nat → Nat) (Bs : Nat → Nat → Prop) (ys : List (Int × Int × ByteArray × (Option Addr × Nat × Nat))) : Prop where
 row : Kd.R kFlat e w base (fun _ => True) v ys
 len : ys.length = ks.length
 at_ : ∀ j k, ks[j]? = some k → ys[j]? = some (kOf k (As j) (cs j))
 tree : ∀ j k, ks[j]? = some k → T True w (Bs j) (.slice (As j) k.f3.length (cs j)) k.f3
 blk : ∀ j b, Bs j b → base ≤ b ∧ b < w.heap.size ∧ some b ≠ v.ownBlock
 apart : ∀ i j b, i ≠ j → Bs i b → ¬ Bs j b
theorem Kids.nil {e : TypeId} {base : Nat} {w : World} {v : Value} (h : Kd.R kFlat e w base (fun _ => True) v []) : Kids e base w v [] (fun _ => none) (fun _ => 0) (fun _ _ => False) [] :=
 ⟨h, rfl, fun j k h => by simp at h, fun j k h => by simp at h, fun _ _ h => h.elim, fun _ _ _ _ h => h.elim⟩
theorem Kids.grow {e : TypeId} {base : Nat} {w w1 : World} {v : Value} {ks : List PT} {As : Nat → Option Addr} {cs : Nat → Nat} {Bs : Nat → Nat → Prop} {ys : List (Int × Int × ByteArray × (Option Addr × Nat × Nat))} (h : Kids e base w v ks As cs Bs ys) (hb : Below w.heap.size w w1) : Kids e base w1 v ks As cs Bs ys :=
 ⟨Kd.R_below h.row hb, h.len, h.at_, fun j k hk => (h.tree j k hk).grow hb, fun j b hj => ⟨(h.blk j b hj).1, Nat.lt_of_lt_of_le (h.blk j b hj).2.1 hb.size, (h.blk j b hj).2.2⟩, h.apart⟩
theorem Kids.snoc {e : TypeId} {base : Nat} {w w1 : World} {v v1 : Value} {ks : List PT} {As : Nat → Option Addr} {cs : Nat → Nat} {Bs : Nat → Nat → Prop} {ys : List (Int × Int × ByteArray × (Option Addr × Nat × Nat))} {k : PT} {A : Option Addr} {c : Nat} {B : Nat → Prop} (h : Kids e base w v ks As cs Bs ys)
  (hT : T True w B (.slice A k.f3.length c) k.f3) (hB : ∀ b, B b → base ≤ b ∧ b < w.heap.size ∧ some b ≠ v.ownBlock) (hD : ∀ j b, B b → ¬ Bs j b)
  (hr : Kd.R kFlat e w1 base (fun _ => True) v1 (ys ++ [kOf k A c])) (hg : w.grownBy w1 v.ownBlock) (hat : v1.ownBlock = v.ownBlock ∨ ∃ b, v1.ownBlock = some b ∧ w.heap.size ≤ b) :
  Kids e base w1 v1 (ks ++ [k]) (fun j => if j = ks.length then A else As j) (fun j => if j = ks.length then c else cs j) (fun j b => if j = ks.length then B b else j < ks.length ∧ Bs j b) (ys ++ [kOf k A c]) := by
 have ne : ∀ b, b < w.heap.size → some b ≠ v.ownBlock → some b ≠ v1.ownBlock := by
  intro b hb hn he
  rcases hat with h1 | ⟨b2, h1, h2⟩
  ·exact hn (he.trans h1)
  ·rw [h1] at he
   injection he with he
   omega
 have mv : ∀ {B2 : Nat → Prop} {u : Value} {xs : List PT}, (∀ b, B2 b → base ≤ b ∧ b < w.heap.size ∧ some b ≠ v.ownBlock) → T True w B2 u xs → T True w1 B2 u xs := fun hB2 ht => ht.move (fun b hb => hg.block b (hB2 b hb).2.1 (hB2 b hb).2.2)
 refine ⟨hr, by simp [h.len], ?_, ?_, ?_, ?_⟩
 ·intro j q hq
  by_cases hj : j < ks.length
  ·rw [List.getElem?_append_left hj] at hq
   rw [List.getElem?_append_left (by rw [h.len]; exact hj)]
   simp only [Nat.ne_of_lt hj, if_false]
   exact h.at_ j q hq
  ·rw [List.getElem?_append_right (by omega)] at hq
   obtain rfl : j = ks.length := by
    by_cases h2 : j - ks.length = 0
    ·omega
    ·rw [List.getElem?_eq_none (by simp; omega)] at hq
     cases hq
   simp at hq
   subst hq
   rw [List.getElem?_append_right (by rw [h.len]; exact Nat.le_refl _), h.len]
   simp
 ·intro j q hq
  by_cases hj : j < ks.length
  ·rw [List.getElem?_append_left hj] at hq
   simp only [Nat.ne_of_lt hj, if_false, hj, true_and]
   exact mv (fun b hb => h.blk j b hb) (h.tree j q hq)
  ·rw [List.getElem?_append_right (by omega)] at hq
   obtain rfl : j = ks.length := by
    by_cases h2 : j - ks.length = 0
    ·omega
    ·rw [List.getElem?_eq_none (by simp; omega)] at hq
     cases hq
   simp at hq
   subst hq
   simp only [if_true]
   exact mv hB hT
 ·intro j b hb
  by_cases hj : j = ks.length
  ·simp only [hj, if_true] at hb
   exact ⟨(hB b hb).1, Nat.lt_of_lt_of_le (hB b hb).2.1 hg.size, ne b (hB b hb).2.1 (hB b hb).2.2⟩
  ·simp only [hj, if_false] at hb
   have := h.blk j b hb.2
   exact ⟨this.1, Nat.lt_of_lt_of_le this.2.1 hg.size, ne b this.2.1 this.2.2⟩
 ·intro i j b hij hi hj
  by_cases hi2 : i = ks.length
  ·simp only [hi2, if_true] at hi
   have hj2 : j ≠ ks.length := fun h => hij (by omega)
   simp only [hj2, if_false] at hj
   exact hD j b hi hj.2
  ·simp only [hi2, if_false] at hi
   by_cases hj2 : j = ks.length
   ·simp only [hj2, if_true] at hj
    exact hD i b hj hi.2
   ·simp only [hj2, if_false] at hj
    exact h.apart i j b hij hi.2 hj.2
theorem Kids.toT {e : TypeId} {base : Nat} {w : World} {v : Value} {ks : List PT} {As : Nat → Option Addr} {cs : Nat → Nat} {Bs : Nat → Nat → Prop} {ys : List (Int × Int × ByteArray × (Option Addr × Nat × Nat))} (h : Kids e base w v ks As cs Bs ys) :
  T True w (fun b => base ≤ b ∧ b < w.heap.size) v ks := by
 by_cases h0 : 0 < ks.length
 ·obtain ⟨g, cap, rfl, hlo, hgl, _⟩ := Kd.R_form h.row (by rw [h.len]; exact h0)
  have hcap : ys.length ≤ cap ∧ cap ≤ 9223372036854775807 := by
   obtain ⟨_, inner, ho, _⟩ := h.row
   rcases ho.2 with ⟨h1, _⟩ | ⟨g2, cap2, cur, h1, _, _, h3, h4, _⟩
   ·cases h1
   ·injection h1 with _ _ h1
    subst h1
    exact ⟨h3, h4⟩
  have hfz : ∀ j, w.frozen? ⟨g, j, none⟩ = false := by
   obtain ⟨_, inner, ho, _⟩ := h.row
   obtain ⟨cells, hc⟩ := own_typed ho g (by simp [Value.ownBlock])
   exact fun j => blk_frozen hc j
  have key : ∀ i k, ks[i]? = some k → EltV w g i k (.slice (As i) k.f3.length (cs i)) := by
   intro i k hk
   have hi : i < ks.length := by
    by_cases hq : i < ks.length
    ·exact hq
    ·rw [List.getElem?_eq_none (by omega)] at hk
     cases hk
   obtain ⟨c, hcl, hM, hcc, hfr⟩ := Kd.R_elem h.row (0, 0, ⟨#[]⟩, (none, 0, 0)) (i : Int) (by omega) (by rw [h.len]; omega)
   have hx : ys.getD ((i : Int)).toNat (0, 0, ⟨#[]⟩, (none, 0, 0)) = kOf k (As i) (cs i) := by
    rw [List.getD_eq_getElem?_getD, Int.toNat_natCast, h.at_ i k hk]
    rfl
   rw [hx] at hM
   obtain rfl := kFlat_open (kFlat.K_of_M hM)
   exact ⟨hcc 0 _ rfl, hcc 1 _ rfl, hcc 2 _ rfl, hcc 3 _ rfl, hfz⟩
  rw [h.len] at hcap ⊢
  exact T.of (vs := fun i => .slice (As i) (ks.getD i z30).f3.length (cs i)) (Bs := Bs) hcap.1 hcap.2 ⟨hlo, hgl⟩ (fun i b hb => ⟨⟨(h.blk i b hb).1, (h.blk i b hb).2.1⟩, fun he => (h.blk i b hb).2.2 (by rw [he]; rfl)⟩) (fun _ i j b hij hi hj => h.apart i j b hij hi hj)
   (fun i k hk => by
    have e : ks.getD i z30 = k := by rw [List.getD_eq_getElem?_getD, hk]; rfl
    rw [e]
    exact ⟨key i k hk, h.tree i k hk⟩)
 ·obtain rfl : ks = [] := List.length_eq_zero_iff.1 (by omega)
  obtain ⟨A, c, rfl⟩ := Kd.R_slice h.row
  rw [h.len]
  exact .nil _ A c
theorem Kids.put {e : TypeId} {base : Nat} {w w1 : World} {v : Value} {ks : List PT} {As : Nat → Option Addr} {cs : Nat → Nat} {Bs : Nat → Nat → Prop} {ys : List (Int × Int × ByteArray × (Option Addr × Nat × Nat))} {g : Nat} (h : Kids e base w v ks As cs Bs ys) (hoth : ∀ k, k ≠ g → w1.heap[k]? = w.heap[k]?) (hz : w1.heap.size = w.heap.size) (hv : ∀ k, v.ownBlock = some k → k ≠ g) (hB : ∀ j b, Bs j b → b < g) : Kids e base w1 v ks As cs Bs ys := by
 refine ⟨?_, h.len, h.at_, fun j k hk => (h.tree j k hk).move (fun b hb => hoth b (Nat.ne_of_lt (hB j b hb))), fun j b hj => ⟨(h.blk j b hj).1, by rw [hz]; exact (h.blk j b hj).2.1, (h.blk j b hj).2.2⟩, h.apart⟩
 obtain ⟨_, inner, ho, hr⟩ := h.row
 refine ⟨fun _ _ => trivial, inner, own_move ho (fun k hk => hoth k (hv k hk)), hr.imp_ (fun p c hp => ?_)⟩
 obtain rfl := kFlat_open (kFlat.K_of_M hp)
 exact kFlat_M
theorem below_two {w w2 w3 : World} (h : Below w.heap.size w w2) (hs : w.heap.size ≤ w2.heap.size) (h2 : Below w2.heap.size w2 w3) : Below w.heap.size w w3 := below_step h h2
theorem T.head {d : Prop} {w : World} {B : Nat → Prop} {g c : Nat} {xs : List PT} (h : T d w B (.slice (some ⟨g, 0, none⟩) xs.length c) xs) (h0 : 0 < xs.length) : B g := by
 obtain ⟨A2, c2, e, hh⟩ := h.inv
 injection e with eA _ _
 obtain ⟨b, _, _, e2, _, _, hb, _⟩ := hh h0
 rw [e2] at eA
 injection eA with eA
 injection eA with eA
 subst eA
 exact hb
theorem cells_put {w w1 : World} {ge off g : Nat} {c : List Value} (h : Go.Proofs.Ytomakpfmghekfaa.RowLaw.CellsAt w ⟨ge, off, none⟩ c) (hoth : ∀ k, k ≠ g → w1.heap[k]? = w.heap[k]?) (hne : ge ≠ g) : Go.Proofs.Ytomakpfmghekfaa.RowLaw.CellsAt w1 ⟨ge, off, none⟩ c := by
 intro j u hu
 have h1 := h j u hu
 have hadd : (⟨ge, off, none⟩ : Addr).add j = ⟨ge, off + j, none⟩ := by unfold Addr.add; split <;> simp_all
 rw [hadd] at h1 ⊢
 have e : w1.cell? ⟨ge, off + j, none⟩ = w.cell? ⟨ge, off + j, none⟩ := by simp [World.cell?, hoth ge hne]
 rw [e]
 exact h1
end Go.Proofs.Ytomakpfmghekfaa.PFnExactJoinPatterns
