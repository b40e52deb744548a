/- By hand: what the law FnExactJoinPatterns reaches beyond the printed texts, and the law's own function. Conditions: none beyond each statement. -/
import Derived.Test.YtomakpfmghekfaaProg
import Derived.Below
import Derived.Deep.Draws
import Derived.Deep.AppendLies
import Derived.Maps.AppendAt
import Derived.OwnWalk
import Derived.Laws.BytesArg
import Derived.Laws.MakeOwn
import Derived.Laws.OwnMore
import Derived.Deep.OwnRows
import Derived.Tactics
import Derived.Lib.ConvBytes
import Derived.Laws.Slices
import Derived.WalkKit
import Derived.KernelRfl
import Derived.RowKit3
import Derived.Deep.LoopGhost
import Derived.Deep.QuietTactic
import Derived.BigQuiet
import Derived.WideLaws
import Derived.Deep.DeepCutAuto
import Derived.Deep.CutBlock
import Derived.Deep.RegionHeld3
import Derived.Laws.Rows
import Derived.Lib.AppendStr
import Derived.ArgAppend
import Derived.Laws.IdiomCopy
import Derived.OrdersHeld
import Derived.Laws.BitsLemmas
import Derived.RowKit
import Derived.Test.YtomakpfmghekfaaWWords
import Derived.Test.YtomakpfmghekfaaWLast
import Derived.Test.YtomakpfmghekfaaWTab
import Derived.Test.YtomakpfmghekfaaWFour
import Derived.Test.YtomakpfmghekfaaWQPut
import Derived.Test.YtomakpfmghekfaaWApart
import Derived.Test.YtomakpfmghekfaaWArr
import Derived.Test.YtomakpfmghekfaaWZeros
import Derived.Test.YtomakpfmghekfaaWFoot
import Derived.Test.YtomakpfmghekfaaWKept
import Derived.Test.YtomakpfmghekfaaWShare
import Derived.Test.YtomakpfmghekfaaWN
import Derived.Test.YtomakpfmghekfaaWFootNe
import Derived.Test.YtomakpfmghekfaaWAt
import Derived.Test.YtomakpfmghekfaaWEqStruct
import Derived.Test.YtomakpfmghekfaaWRepsOne
import Derived.Test.YtomakpfmghekfaaWInv
import Derived.Test.YtomakpfmghekfaaWInvWords
import Derived.Test.YtomakpfmghekfaaWGuard
import Derived.Test.YtomakpfmghekfaaWNEv
import Derived.Test.YtomakpfmghekfaaWMore
import Derived.Test.YtomakpfmghekfaaPFnExactJoinPatternsx0
import Derived.Test.YtomakpfmghekfaaPFnExactJoinPatternsx1
import Derived.Test.YtomakpfmghekfaaPFnExactJoinPatternsx2
import Derived.Test.YtomakpfmghekfaaPFnExactJoinPatternsx3
import Derived.Test.YtomakpfmghekfaaPFnExactJoinPatternsx4
import Derived.Test.YtomakpfmghekfaaPFnExactJoinPatternsx5
import Derived.Test.YtomakpfmghekfaaPFnExactJoinPatternsx6
import Derived.Test.YtomakpfmghekfaaDevJPa
import Derived.Test.YtomakpfmghekfaaRowLaw
namespace Go.Proofs.Ytomakpfmghekfaa.PFnExactJoinPatterns
open Go.RowKit Go.Proofs.YtomakpfmghekfaaW.PrintWords Go.Proofs.YtomakpfmghekfaaW.PrintLast Go.Proofs.YtomakpfmghekfaaW.PrintMore
attribute [local go_sem] max2_int min2_int max_two min_two max_three min_three max_four min_four
set_option linter.unusedVariables false
set_option linter.unusedSimpArgs false
theorem strOfNums_one (c : Int) : (strOfNums [c]).size = 1 := by
 unfold strOfNums
 rfl
theorem markText_loop (d : Nat) : ∀ (n : Int) (t : ByteArray), n < 10 ^ d → n ≤ 9223372036854775807 → t.size + d ≤ 1000 → ∃ r, Ev (fun k => laws_markText.l0 k n t) r := by
 induction d with
 | zero =>
  intro n t hn _ ht
  refine ⟨_, Ev.step (f := fun _ => some ((⟨#[109]⟩ : ByteArray) ++ t)) (fun k => ?_) (Ev.now _)⟩
  simp only [laws_markText.l0]
  rw [if_neg (by omega), if_pos (by omega)]
 | succ d ih =>
  intro n t hn hm ht
  by_cases h : n > 0
  ·have hw : wrap64 (Int.tdiv n 10) = n / 10 := by
    rw [Int.tdiv_eq_ediv_of_nonneg (by omega)]
    unfold wrap64
    omega
   have hp : (10 : Int) ^ (d + 1) = 10 ^ d * 10 := by rw [Int.pow_succ]
   have h2 : n / 10 < 10 ^ d := by
    rw [hp] at hn
    exact Int.ediv_lt_of_lt_mul (by omega) hn
   obtain ⟨r, hr⟩ := ih (n / 10) (strOfNums [(wrap64 (48 + Int.tmod n 10)) % 256] ++ t) h2 (by omega) (by rw [ByteArray.size_append, strOfNums_one]; omega)
   refine ⟨r, Ev.step (f := fun k => laws_markText.l0 k (n / 10) (strOfNums [(wrap64 (48 + Int.tmod n 10)) % 256] ++ t)) (fun k => ?_) hr⟩
   simp only [laws_markText.l0]
   rw [if_pos h, hw, Option.bind_some, if_pos (by rw [strOfNums_one]; omega)]
  ·refine ⟨_, Ev.step (f := fun _ => some ((⟨#[109]⟩ : ByteArray) ++ t)) (fun k => ?_) (Ev.now _)⟩
   simp only [laws_markText.l0]
   rw [if_neg h, if_pos (by omega)]
theorem markText_ev (n : Int) (hn : n ≤ 9223372036854775807) : ∃ r, Ev (fun k => laws_markText.f k n) r := by
 by_cases h : n ≤ 0
 ·refine ⟨(⟨#[109, 48]⟩ : ByteArray), Ev.congr (f := fun _ => some (⟨#[109, 48]⟩ : ByteArray)) (fun k => ?_) (Ev.now _)⟩
  unfold laws_markText.f
  rw [if_pos h]
 ·have hp : (10 : Int) ^ 19 = 10000000000000000000 := by decide
  obtain ⟨r, hr⟩ := markText_loop 19 n (⟨#[]⟩ : ByteArray) (by omega) hn (by show 0 + 19 ≤ 1000; omega)
  refine ⟨r, Ev.congr (fun k => ?_) hr⟩
  unfold laws_markText.f
  rw [if_neg h]
structure Elt (w : World) (lo hi b m : Nat) (v : Value) : Prop where
 lo_ : lo ≤ b
 hi_ : b < hi
 c0 : ∃ x, w.cell? ⟨b, m * 4 + 0, none⟩ = some (.int .i64 x)
 c1 : ∃ x, w.cell? ⟨b, m * 4 + 1, none⟩ = some (.int .i64 x)
 c2 : ∃ x, w.cell? ⟨b, m * 4 + 2, none⟩ = some (.string x)
 c3 : w.cell? ⟨b, m * 4 + 3, none⟩ = some v
 fz : ∀ j, w.frozen? ⟨b, j, none⟩ = false
inductive Shp (w : World) (lo hi : Nat) : Value → List S30 → Prop where
 | nil (A : Option Addr) (c : Nat) : Shp w lo hi (.slice A 0 c) []
 | row (b c : Nat) (xs : List S30) (vs : Nat → Value) (hE : ∀ i x, xs[i]? = some x → Elt w lo hi b i (vs i)) (hS : ∀ i x, xs[i]? = some x → Shp w lo hi (vs i) x.f3) : Shp w lo hi (.slice (some ⟨b, 0, none⟩) xs.length c) xs
theorem Shp.inv {w : World} {lo hi : Nat} {v : Value} {xs : List S30} (h : Shp w lo hi v xs) : ∃ A c, v = .slice A xs.length c ∧ ∀ i x, xs[i]? = some x → ∃ b u, A = some ⟨b, 0, none⟩ ∧ Elt w lo hi b i u ∧ Shp w lo hi u x.f3 := by
 cases h with
 | nil A c => exact ⟨A, c, rfl, fun i x hx => by simp at hx⟩
 | row b c xs vs hE hS => exact ⟨_, c, rfl, fun i x hx => ⟨b, vs i, rfl, hE i x hx, hS i x hx⟩⟩
theorem Elt.below {w w1 : World} {lo hi b m : Nat} {v : Value} (e : Elt w lo hi b m v) (hb : Below w.heap.size w w1) : Elt w1 lo hi b m v := by
 have hl : b < w.heap.size := World.block_lt_of_cell? w _ e.c3
 have c (q : Nat) : w1.cell? ⟨b, q, none⟩ = w.cell? ⟨b, q, none⟩ := hb.cell (p := ⟨b, q, none⟩) hl
 exact ⟨e.lo_, e.hi_, by rw [c]; exact e.c0, by rw [c]; exact e.c1, by rw [c]; exact e.c2, by rw [c]; exact e.c3, fun j => (hb.frozen (p := ⟨b, j, none⟩) hl).trans (e.fz j)⟩
theorem Elt.set {w : World} {lo hi b' m' : Nat} {v : Value} (e : Elt w lo hi b' m' v) {b m j : Nat} {u : Value} (hk : (j < 2 ∧ ∃ x, u = .int .i64 x) ∨ (j = 2 ∧ ∃ x, u = .string x)) : Elt (w.setCell ⟨b, m * 4 + j, none⟩ u) lo hi b' m' v := by
 have far : ∀ q (x : Value), w.cell? ⟨b', m' * 4 + q, none⟩ = some x → (⟨b, m * 4 + j, none⟩ : Addr) ≠ ⟨b', m' * 4 + q, none⟩ → (w.setCell ⟨b, m * 4 + j, none⟩ u).cell? ⟨b', m' * 4 + q, none⟩ = some x := fun q x h hn => (World.cell?_setCell_other _ _ _ _ hn).trans h
 have same : ∀ q (x : Value), w.cell? ⟨b', m' * 4 + q, none⟩ = some x → (⟨b, m * 4 + j, none⟩ : Addr) = ⟨b', m' * 4 + q, none⟩ → (w.setCell ⟨b, m * 4 + j, none⟩ u).cell? ⟨b', m' * 4 + q, none⟩ = some u := fun q x h he => by rw [he]; exact World.cell?_setCell_same _ _ _ h
 refine ⟨e.lo_, e.hi_, ?_, ?_, ?_, ?_, fun q => by rw [World.frozen?_setCell]; exact e.fz q⟩
 ·obtain ⟨x, hx⟩ := e.c0
  by_cases he : (⟨b, m * 4 + j, none⟩ : Addr) = ⟨b', m' * 4 + 0, none⟩
  ·rcases hk with ⟨_, y, rfl⟩ | ⟨rfl, _⟩
   ·exact ⟨y, same 0 _ hx he⟩
   ·injection he with _ he2
    omega
  ·exact ⟨x, far 0 _ hx he⟩
 ·obtain ⟨x, hx⟩ := e.c1
  by_cases he : (⟨b, m * 4 + j, none⟩ : Addr) = ⟨b', m' * 4 + 1, none⟩
  ·rcases hk with ⟨_, y, rfl⟩ | ⟨rfl, _⟩
   ·exact ⟨y, same 1 _ hx he⟩
   ·injection he with _ he2
    omega
  ·exact ⟨x, far 1 _ hx he⟩
 ·obtain ⟨x, hx⟩ := e.c2
  by_cases he : (⟨b, m * 4 + j, none⟩ : Addr) = ⟨b', m' * 4 + 2, none⟩
  ·rcases hk with ⟨hj, _⟩ | ⟨_, y, rfl⟩
   ·injection he with _ he2
    omega
   ·exact ⟨y, same 2 _ hx he⟩
  ·exact ⟨x, far 2 _ hx he⟩
 ·refine far 3 _ e.c3 (fun he => ?_)
  injection he with _ he2
  rcases hk with ⟨hj, _⟩ | ⟨hj, _⟩ <;> omega
structure Mk (lo hi : Nat) (w w' : World) : Prop where
 bel : Below lo w w'
 out : ∀ j, hi ≤ j → j < w.heap.size → w'.heap[j]? = w.heap[j]?
 shp : ∀ v xs, Shp w lo hi v xs → Shp w' lo hi v xs
theorem Mk.refl (lo hi : Nat) (w : World) : Mk lo hi w w := ⟨Below.refl _ _, fun _ _ _ => rfl, fun _ _ h => h⟩
theorem Mk.trans {lo hi : Nat} {a b c : World} (h : Mk lo hi a b) (k : Mk lo hi b c) : Mk lo hi a c :=
 ⟨h.bel.trans k.bel, fun j h1 h2 => (k.out j h1 (Nat.lt_of_lt_of_le h2 h.bel.size)).trans (h.out j h1 h2), fun v xs hs => k.shp v xs (h.shp v xs hs)⟩
theorem Mk.of_below {lo hi : Nat} {w w' : World} (hb : Below w.heap.size w w') (hlo : lo ≤ w.heap.size) : Mk lo hi w w' := by
 refine ⟨hb.mono hlo, fun j _ h2 => hb.block j h2, fun v xs hs => ?_⟩
 induction hs with
 | nil A c => exact .nil A c
 | row b c xs vs hE hS ih => exact .row b c xs vs (fun i x hx => (hE i x hx).below hb) (fun i x hx => ih i x hx)
theorem Mk.set {lo hi : Nat} {w : World} {b m j : Nat} {u : Value} (h1 : lo ≤ b) (h2 : b < hi) (hk : (j < 2 ∧ ∃ x, u = .int .i64 x) ∨ (j = 2 ∧ ∃ x, u = .string x)) : Mk lo hi w (w.setCell ⟨b, m * 4 + j, none⟩ u) := by
 refine ⟨(Below.refl lo w).setCell (p := ⟨b, m * 4 + j, none⟩) h1 u, fun q hq _ => Below.heap_setCell w _ u q (show q ≠ b by omega), fun v xs hs => ?_⟩
 induction hs with
 | nil A c => exact .nil A c
 | row b' c xs vs hE hS ih => exact .row b' c xs vs (fun i x hx => (hE i x hx).set hk) (fun i x hx => ih i x hx)
theorem Shp.of_R {w : World} {lo hi : Nat} : ∀ (n : Nat) (xs : List S30), cntL xs ≤ n → ∀ v, Kd.R k30 30 w lo (fun k => lo ≤ k ∧ k < hi) v xs → Shp w lo hi v xs := by
 intro n
 induction n using Nat.strongRecOn with
 | _ n ih =>
 intro xs hn v h
 by_cases h0 : 0 < xs.length
 ·obtain ⟨g, cap, rfl, hlo, hgl, _⟩ := Kd.R_form h h0
  have hg : lo ≤ g ∧ g < hi := h.1 g (by simp [Value.ownBlock])
  have key : ∀ i : Nat, ∃ u : Value, ∀ x, xs[i]? = some x → Elt w lo hi g i u ∧ Shp w lo hi u x.f3 := by
   intro i
   by_cases hi2 : i < xs.length
   ·obtain ⟨c, hcl, hM, hcc, hfr⟩ := Kd.R_elem h z30 (i : Int) (by omega) (by omega)
    obtain ⟨v3, rfl, o3⟩ := k30_openM hM
    refine ⟨v3, fun x hx => ?_⟩
    have hxe : xs.getD ((i : Int)).toNat z30 = x := by
     rw [List.getD_eq_getElem?_getD, Int.toNat_natCast, hx]
     rfl
    rw [hxe] at o3
    refine ⟨⟨hg.1, hg.2, ⟨_, hcc 0 _ rfl⟩, ⟨_, hcc 1 _ rfl⟩, ⟨_, hcc 2 _ rfl⟩, hcc 3 _ rfl, fun j => ?_⟩, ?_⟩
    ·obtain ⟨_, inner, ho, _⟩ := h
     obtain ⟨cells, hc⟩ := own_typed ho g (by simp [Value.ownBlock])
     exact blk_frozen hc j
    ·have hle := cntL_mem xs i x hx
     exact ih (cntL x.f3) (by omega) x.f3 (Nat.le_refl _) v3 (Kd.R_mono o3 (fun _ hk => hk.1))
   ·exact ⟨.slice none 0 0, fun x hx => by rw [List.getElem?_eq_none (by omega)] at hx; cases hx⟩
  have hvs := fun i => Classical.choose_spec (key i)
  exact .row g cap xs (fun i => Classical.choose (key i)) (fun i x hx => (hvs i x hx).1) (fun i x hx => (hvs i x hx).2)
 ·obtain rfl : xs = [] := List.length_eq_zero_iff.1 (by omega)
  obtain ⟨A, c, rfl⟩ := Kd.R_slice h
  exact .nil A c
theorem mark_event {P : Program} {ops : Array Oper} {rest : List Oper} {o : Oper} {a : Act} {w : World} {Q : Exit → Act → World → Prop} (hgd : o.guard = none) (ty : TypeId) (x y : Operand) (ho : o.op = .store ty x y)
  (A : Addr) (b off : Nat) (u old : Value) (hx : a.eval x = .pointer (some A)) (hA : A = ⟨b, off, none⟩) (hy : a.eval y = u) (hu : u.cells = #[u]) (h1 : u.oneCell' = true) (hi : (P.info? ty).map (·.size) = some 1)
  (hc : w.cell? ⟨b, off, none⟩ = some old) (hf : w.frozen? ⟨b, off, none⟩ = false)
  (h : ∀ w2 : World, w2 = w.setCell ⟨b, off, none⟩ u → wpList P ops Q rest (a.put o.dst undef) w2) : wpList P ops Q (o :: rest) a w :=
 wpList_plain hgd fun _ hK => by
  subst hA
  have hadd : (⟨b, off, none⟩ : Addr).add 0 = ⟨b, off, none⟩ := by unfold Addr.add; simp
  have hsv : (storeVar ty ⟨b, off, none⟩ u).run P w = .ok () (w.setCell ⟨b, off, none⟩ u) := by
   cases hq : P.info? ty with
   | none => simp [hq] at hi
   | some i =>
    have hs : i.size = 1 := by simpa [hq] using hi
    have hst : (store (⟨b, off, none⟩ : Addr) u).run P w = .ok () (w.setCell ⟨b, off, none⟩ u) := by
     rw [run_store P w _ u _ h1, hc]
     simp [hf]
    simp [storeVar, sizeOf, typeInfo, hq, hu, hs, storeCells, hadd, Sem.run_bind, hst]
  unfold Oper.wp execOp
  simp only [ho, hx, hy, Instr.storeAt, Instr.sureAddr, Sem.run_bind, Sem.run_pure, Result.andThen_ok, hsv]
  exact hK _ _ (h _ rfl)
theorem cellat_event {P : Program} {ops : Array Oper} {rest : List Oper} {o : Oper} {a : Act} {w : World} {Q : Exit → Act → World → Prop} (hgd : o.guard = none) (ty : TypeId) (x : Operand) (ho : o.op = .load ty x)
  (A : Addr) (b off : Nat) (hx : a.eval x = .pointer (some A)) (hA : A = ⟨b, off, none⟩) (d : TypeDesc) (v : Value) (hu : P.underlying ty = some d) (hd : (match d with | .struct _ | .array _ _ => true | _ => false) = false) (hp : w.cell? ⟨b, off, none⟩ = some v)
  (h : wpList P ops Q rest (a.put o.dst v) w) : wpList P ops Q (o :: rest) a w :=
 wpList_plain hgd fun _ hK => by
  subst hA
  have hagg : (isAgg ty).run P w = .ok false w := by
   unfold isAgg
   rw [Sem.run_bind, run_underlying hu w]
   cases d <;> simp_all
  have hl : (loadVar ty ⟨b, off, none⟩).run P w = .ok v w := by simp [loadVar, Sem.run_bind, hagg, hp]
  unfold Oper.wp execOp
  simp only [ho, hx, Instr.loadAt, Instr.sureAddr, Sem.run_bind, Sem.run_pure, Result.andThen_ok, hl]
  exact hK _ _ h
theorem mt_calls (t : Int) (ht : t ≤ 9223372036854775807) (w : World) : Calls Try.prog 28 #[.int .i64 t] w fun e w' => ∃ r : ByteArray, e = .returned (.string r) ∧ Below w.heap.size w w' := by
 obtain ⟨r, hr⟩ := markText_ev t ht
 obtain ⟨k, hk⟩ := hr.rounds
 refine (laws_markText.calls k t r w hk).mono ?_
 rintro e w' ⟨rfl, hb⟩
 exact ⟨r, rfl, hb⟩
set_option maxHeartbeats 4000000 in
set_option maxRecDepth 100000 in
theorem marks_calls : ∀ (n : Nat) (xs : List S30), cntL xs ≤ n → ∀ (v : Value) (t : Int) (lo hi : Nat) (w : World) (_ : Shp w lo hi v xs) (_ : lo ≤ w.heap.size) (_ : 0 ≤ t) (_ : t + 3 * (cntL xs : Int) ≤ 100000000),
  Calls Try.prog 27 #[v, .int .i64 t] w fun e w' => e = .returned (.int .i64 (t + 3 * (cntL xs : Int))) ∧ Mk lo hi w w' := by
 intro n
 induction n using Nat.strongRecOn with
 | _ n ih =>
 intro xs hn v t lo hi w hS hlo ht0 ht1
 obtain ⟨A, c, rfl, _⟩ := hS.inv
 have HS := Aside0.mk hS
 have HLO := Aside0.mk hlo
 have HT0 := Aside0.mk ht0
 have HT1 := Aside0.mk ht1
 have HN := Aside0.mk hn
 have huS := Try.underlying28
 clear hS hlo ht0 ht1 hn
 go_enter Try.func27, Try.ntmps27
 go_wp2
 go_loopg [1, 5] xs.length (fun kq v1 v5 w' => ∃ (i : Nat) (T : Int), v5 = .int .i64 (i : Int) ∧ v1 = .int .i64 T ∧ Aside0 (T = t + 3 * (cntL (xs.take i) : Int)) ∧ Aside0 (kq + i = xs.length) ∧ Aside0 (Mk lo hi w w'))
 case atStart => exact ⟨0, t, rfl, rfl, ⟨by simp [cntL]⟩, ⟨by omega⟩, ⟨Mk.refl _ _ _⟩⟩
 case round =>
  obtain ⟨i, T, rfl, rfl, HT, HK, HM⟩ := hrel
  by_cases hi2 : i < xs.length
  ·obtain ⟨x, hx⟩ : ∃ x, xs[i]? = some x := ⟨_, List.getElem?_eq_getElem hi2⟩
   obtain ⟨kp, rfl⟩ : ∃ kp, gk = kp + 1 := ⟨gk - 1, by have := HK.out; omega⟩
   have hkp : kp + (i + 1) = xs.length := by have := HK.out; omega
   obtain ⟨A2, c2, e2, hin⟩ := (HM.out.shp _ _ HS.out).inv
   obtain ⟨b, u, rfl, hE, hU⟩ := hin i x hx
   injection e2 with eA _ ec
   subst eA
   subst ec
   have HE := Aside0.mk hE
   have HU := Aside0.mk hU
   have HX := Aside0.mk hx
   have hc1 := cntL_mem xs i x hx
   have hc2 := cntL_take xs i x hx
   have C1 := Aside0.mk hc1
   have C2 := Aside0.mk hc2
   have hT0 : 0 ≤ T := by have := HT.out; have := HT0.out; omega
   have hT1 : T ≤ 100000000 := by have := HT.out; have := HT1.out; omega
   have HT3 := Aside0.mk (by have := HT.out; have := HT1.out; omega : T + 1 + 1 + 1 + 3 * (cntL x.f3 : Int) ≤ 100000000)
   have HI := Aside0.mk hi2
   have HW := Aside0.mk (by have := len_cnt xs; have := HT0.out; have := HT1.out; unfold wrap64; omega : wrap64 ((i : Int) + 1) = ((i + 1 : Nat) : Int))
   have HLW := Aside0.mk (Nat.le_trans HLO.out HM.out.bel.size)
   clear hE hU hx hc1 hc2 hin
   have c5 : ((i : Int) < (xs.length : Int)) = True := eq_true (by omega)
   have c5b : decide ((i : Int) < (xs.length : Int)) = true := decide_eq_true (by omega)
   have c5n : decide (i < xs.length) = true := decide_eq_true hi2
   have c6 : (0 ≤ (i : Int)) = True := eq_true (by omega)
   clear hi2
   go_wp2_with (first | ((with_reducible refine gate_store (t := 2) (p := 16) rfl ?_); obtain ⟨o0, ho0⟩ := HE.out.c0; refine mark_event rfl 2 _ _ rfl _ b (i * 4 + 0) (.int .i64 T) (.int .i64 o0) rfl (by first | rfl | (rw [Go.Proofs.Ytomakpfmghekfaa.RowLaw.add_zero]) | (rw [Go.Proofs.Ytomakpfmghekfaa.RowLaw.add_zero]; rfl)) rfl rfl rfl (by kernel_rfl) ho0 (HE.out.fz _) ?_; intro w6 hw6; have hm := fun wz : World => Mk.set (lo := lo) (hi := hi) (w := wz) (b := b) (m := i) (j := 0) (u := .int .i64 T) HE.out.lo_ HE.out.hi_ (.inl ⟨by omega, _, rfl⟩); have n0_ := Aside0.mk (show Mk lo hi w w6 from by rw [hw6]; exact HM.out.trans (hm _)); have n1_ := Aside0.mk (show Elt w6 lo hi b i u from by rw [hw6]; exact HE.out.set (.inl ⟨by omega, _, rfl⟩)); have n2_ := Aside0.mk (show Shp w6 lo hi u x.f3 from by rw [hw6]; exact (hm _).shp _ _ HU.out); clear HM HE HU hm ho0; have HM := n0_; have HE := n1_; have HU := n2_; clear n0_ n1_ n2_ hw6; (try simp only [Act.put, sq1, sq2, sq3])) | ((with_reducible refine gate_store (t := 2) (p := 23) rfl ?_); obtain ⟨o0, ho0⟩ := HE.out.c1; refine mark_event rfl 2 _ _ rfl _ b (i * 4 + 1) (.int .i64 (T + 1)) (.int .i64 o0) rfl (by first | rfl | (rw [Go.Proofs.Ytomakpfmghekfaa.RowLaw.add_zero]) | (rw [Go.Proofs.Ytomakpfmghekfaa.RowLaw.add_zero]; rfl)) rfl rfl rfl (by kernel_rfl) ho0 (HE.out.fz _) ?_; intro w6 hw6; have hm := fun wz : World => Mk.set (lo := lo) (hi := hi) (w := wz) (b := b) (m := i) (j := 1) (u := .int .i64 (T + 1)) HE.out.lo_ HE.out.hi_ (.inl ⟨by omega, _, rfl⟩); have n0_ := Aside0.mk (show Mk lo hi w w6 from by rw [hw6]; exact HM.out.trans (hm _)); have n1_ := Aside0.mk (show Elt w6 lo hi b i u from by rw [hw6]; exact HE.out.set (.inl ⟨by omega, _, rfl⟩)); have n2_ := Aside0.mk (show Shp w6 lo hi u x.f3 from by rw [hw6]; exact (hm _).shp _ _ HU.out); clear HM HE HU hm ho0; have HM := n0_; have HE := n1_; have HU := n2_; clear n0_ n1_ n2_ hw6; (try simp only [Act.put, sq1, sq2, sq3])) | ((with_reducible refine gate_callee (f := 28) rfl ?_); refine goesL_ (some 29) rfl rfl Try.func28 (by kernel_rfl) rfl #[.int .i64 (T + 1 + 1)] rfl (by (try simp only [sm1, sm2, sm3]); first | done | rfl) ?_; (with_reducible refine (mt_calls (T + 1 + 1) ?side1 _).mono ?_); (case side1 => omega); rintro e wc ⟨rt, rfl, hb⟩; refine ⟨_, rfl, ?_⟩; have hm := Mk.of_below (lo := lo) (hi := hi) hb (Nat.le_trans HLO.out HM.out.bel.size); have n0_ := Aside0.mk (HM.out.trans hm); have n1_ := Aside0.mk (HE.out.below hb); have n2_ := Aside0.mk (hm.shp _ _ HU.out); clear HM HE HU hm hb; have HM := n0_; have HE := n1_; have HU := n2_; clear n0_ n1_ n2_; (try simp only [Act.put, sq1, sq2, sq3])) | ((with_reducible refine gate_store (t := 9) (p := 31) rfl ?_); obtain ⟨o0, ho0⟩ := HE.out.c2; refine mark_event rfl 9 _ _ rfl _ b (i * 4 + 2) (.string rt) (.string o0) rfl (by first | rfl | (rw [Go.Proofs.Ytomakpfmghekfaa.RowLaw.add_zero]) | (rw [Go.Proofs.Ytomakpfmghekfaa.RowLaw.add_zero]; rfl)) rfl rfl rfl (by kernel_rfl) ho0 (HE.out.fz _) ?_; intro w6 hw6; have hm := fun wz : World => Mk.set (lo := lo) (hi := hi) (w := wz) (b := b) (m := i) (j := 2) (u := .string rt) HE.out.lo_ HE.out.hi_ (.inr ⟨rfl, _, rfl⟩); have n0_ := Aside0.mk (show Mk lo hi w w6 from by rw [hw6]; exact HM.out.trans (hm _)); have n1_ := Aside0.mk (show Elt w6 lo hi b i u from by rw [hw6]; exact HE.out.set (.inr ⟨rfl, _, rfl⟩)); have n2_ := Aside0.mk (show Shp w6 lo hi u x.f3 from by rw [hw6]; exact (hm _).shp _ _ HU.out); clear HM HE HU hm ho0; have HM := n0_; have HE := n1_; have HU := n2_; clear n0_ n1_ n2_ hw6; (try simp only [Act.put, sq1, sq2, sq3])) | ((with_reducible refine gate_dst (N := 38) rfl ?_); refine cellat_event rfl 28 _ rfl _ b (i * 4 + 3) rfl (by first | rfl | (rw [Go.Proofs.Ytomakpfmghekfaa.RowLaw.add_zero]) | (rw [Go.Proofs.Ytomakpfmghekfaa.RowLaw.add_zero]; rfl)) _ u huS rfl HE.out.c3 ?_; (try simp only [Act.put, sq1, sq2, sq3])) | (go_at_call 27; refine (ih (cntL x.f3) (by have := C1.out; have := HN.out; omega) x.f3 (Nat.le_refl _) u (T + 1 + 1 + 1) lo hi _ HU.out (Nat.le_trans HLO.out HM.out.bel.size) (by omega) HT3.out).mono ?_; rintro e wd ⟨rfl, hm⟩; have n0_ := Aside0.mk (HM.out.trans hm); clear HM HE HU hm; have HM := n0_; clear n0_))
   go_roundg kp
   case measure => omega
   case rel => exact ⟨i + 1, _, by rw [HW.out], rfl, ⟨by have := HT.out; have := C2.out; omega⟩, ⟨by omega⟩, HM⟩
  ·obtain rfl : i = xs.length := by have := HK.out; omega
   have HE := Aside0.mk (show T = t + 3 * (cntL xs : Int) from by rw [HT.out, List.take_length])
   have c5 : ((xs.length : Int) < (xs.length : Int)) = False := eq_false (by omega)
   clear hi2
   go_wp2
   go_ret
   exact ⟨by rw [HE.out]; rfl, HM.out⟩
theorem mtext_ex : ∃ m : Int → ByteArray, ∀ t : Int, t ≤ 9223372036854775807 → ∀ w : World, Calls Try.prog 28 #[.int .i64 t] w fun e w' => e = .returned (.string (m t)) ∧ Below w.heap.size w w' := by
 have key : ∀ t : Int, ∃ r : ByteArray, t ≤ 9223372036854775807 → ∀ w : World, Calls Try.prog 28 #[.int .i64 t] w fun e w' => e = .returned (.string r) ∧ Below w.heap.size w w' := by
  intro t
  by_cases ht : t ≤ 9223372036854775807
  ·obtain ⟨r, hr⟩ := markText_ev t ht
   obtain ⟨k, hk⟩ := hr.rounds
   exact ⟨r, fun _ w => laws_markText.calls k t r w hk⟩
  ·exact ⟨⟨#[]⟩, fun h => absurd h ht⟩
 exact ⟨fun t => Classical.choose (key t), fun t ht => Classical.choose_spec (key t) ht⟩
mutual
def markT (m : Int → ByteArray) (t : Int) : PT → PT
 | ⟨_, _, _, d⟩ => ⟨t, t + 1, m (t + 1 + 1), markL m (t + 1 + 1 + 1) d⟩
def markL (m : Int → ByteArray) (t : Int) : List PT → List PT
 | [] => []
 | x :: xs => markT m t x :: markL m (t + 3 * (cntT x : Int)) xs
end
theorem markT_eq (m : Int → ByteArray) (t : Int) (x : PT) : markT m t x = ⟨t, t + 1, m (t + 1 + 1), markL m (t + 1 + 1 + 1) x.f3⟩ := by cases x; simp [markT]
theorem markL_len (m : Int → ByteArray) (xs : List PT) : ∀ t : Int, (markL m t xs).length = xs.length := by
 induction xs with
 | nil => intro t; simp [markL]
 | cons y ys ih => intro t; simp [markL, ih]
theorem markL_get (m : Int → ByteArray) (xs : List PT) : ∀ (t : Int) (i : Nat), (markL m t xs)[i]? = xs[i]?.map (fun x => markT m (t + 3 * (cntL (xs.take i) : Int)) x) := by
 induction xs with
 | nil => intro t i; simp [markL]
 | cons y ys ih =>
  intro t i
  cases i with
  | zero => simp [markL, cntL]
  | succ i =>
   simp only [markL, List.getElem?_cons_succ, List.take_succ_cons, cntL]
   rw [ih, show t + 3 * (cntT y : Int) + 3 * (cntL (ys.take i) : Int) = t + 3 * ((cntT y + cntL (ys.take i) : Nat) : Int) from by omega]
structure Mx (B : Nat → Prop) (lo : Nat) (w w' : World) : Prop where
 bel : Below lo w w'
 out : ∀ k, ¬ B k → k < w.heap.size → w'.heap[k]? = w.heap[k]?
structure Rd (lo b i : Nat) (w w' : World) : Prop where
 bel : Below lo w w'
 oth : ∀ k, k ≠ b → k < w.heap.size → w'.heap[k]? = w.heap[k]?
 row : ∀ j y u, j ≠ i → EltV w b j y u → EltV w' b j y u
theorem Rd.refl (lo b i : Nat) (w : World) : Rd lo b i w w := ⟨Below.refl _ _, fun _ _ _ => rfl, fun _ _ _ _ h => h⟩
theorem Rd.of_elt {w : World} {b i : Nat} {x : PT} {u : Value} (lo : Nat) (_ : EltV w b i x u) : Rd lo b i w w := Rd.refl lo b i w
theorem Rd.below {lo b i : Nat} {w w1 w2 : World} (h : Rd lo b i w w1) (hb : Below w1.heap.size w1 w2) (hlo : lo ≤ w.heap.size) : Rd lo b i w w2 :=
 ⟨h.bel.trans (hb.mono (Nat.le_trans hlo h.bel.size)), fun k hk hl => (hb.block k (Nat.lt_of_lt_of_le hl h.bel.size)).trans (h.oth k hk hl), fun j y u hj he => have e := h.row j y u hj he; e.move (hb.block b e.lt)⟩
theorem EltV.far {w : World} {b i j q : Nat} {y : PT} {u z : Value} (e : EltV w b j y u) (hj : j ≠ i) (hq : q < 4) : EltV (w.setCell ⟨b, i * 4 + q, none⟩ z) b j y u := by
 have ne : ∀ r, r < 4 → (⟨b, i * 4 + q, none⟩ : Addr) ≠ ⟨b, j * 4 + r, none⟩ := by
  intro r hr he
  injection he with _ he2
  omega
 exact ⟨(World.cell?_setCell_other _ _ _ _ (ne 0 (by omega))).trans e.c0, (World.cell?_setCell_other _ _ _ _ (ne 1 (by omega))).trans e.c1, (World.cell?_setCell_other _ _ _ _ (ne 2 (by omega))).trans e.c2, (World.cell?_setCell_other _ _ _ _ (ne 3 (by omega))).trans e.c3, fun r => by rw [World.frozen?_setCell]; exact e.fz r⟩
theorem Rd.set {lo b i q : Nat} {w w1 : World} {z : Value} (h : Rd lo b i w w1) (hlo : lo ≤ b) (hq : q < 4) : Rd lo b i w (w1.setCell ⟨b, i * 4 + q, none⟩ z) :=
 ⟨h.bel.setCell (p := ⟨b, i * 4 + q, none⟩) hlo z, fun k hk hl => (Below.heap_setCell w1 _ z k (show k ≠ b from hk)).trans (h.oth k hk hl), fun j y u hj he => (h.row j y u hj he).far hj hq⟩
theorem ne_q {b i q r : Nat} (h : q ≠ r) : (⟨b, i * 4 + q, none⟩ : Addr) ≠ ⟨b, i * 4 + r, none⟩ := by
 intro he
 injection he with _ he2
 omega
theorem EltV.put0 {w : World} {b i : Nat} {x : PT} {u : Value} (e : EltV w b i x u) (t : Int) : EltV (w.setCell ⟨b, i * 4 + 0, none⟩ (.int .i64 t)) b i ⟨t, x.f1, x.f2, x.f3⟩ u :=
 ⟨World.cell?_setCell_same _ _ _ e.c0, (World.cell?_setCell_other _ _ _ _ (ne_q (by omega))).trans e.c1, (World.cell?_setCell_other _ _ _ _ (ne_q (by omega))).trans e.c2, (World.cell?_setCell_other _ _ _ _ (ne_q (by omega))).trans e.c3, fun r => by rw [World.frozen?_setCell]; exact e.fz r⟩
theorem EltV.put1 {w : World} {b i : Nat} {x : PT} {u : Value} (e : EltV w b i x u) (t : Int) : EltV (w.setCell ⟨b, i * 4 + 1, none⟩ (.int .i64 t)) b i ⟨x.f0, t, x.f2, x.f3⟩ u :=
 ⟨(World.cell?_setCell_other _ _ _ _ (ne_q (by omega))).trans e.c0, World.cell?_setCell_same _ _ _ e.c1, (World.cell?_setCell_other _ _ _ _ (ne_q (by omega))).trans e.c2, (World.cell?_setCell_other _ _ _ _ (ne_q (by omega))).trans e.c3, fun r => by rw [World.frozen?_setCell]; exact e.fz r⟩
theorem EltV.put2 {w : World} {b i : Nat} {x : PT} {u : Value} (e : EltV w b i x u) (t : ByteArray) : EltV (w.setCell ⟨b, i * 4 + 2, none⟩ (.string t)) b i ⟨x.f0, x.f1, t, x.f3⟩ u :=
 ⟨(World.cell?_setCell_other _ _ _ _ (ne_q (by omega))).trans e.c0, (World.cell?_setCell_other _ _ _ _ (ne_q (by omega))).trans e.c1, World.cell?_setCell_same _ _ _ e.c2, (World.cell?_setCell_other _ _ _ _ (ne_q (by omega))).trans e.c3, fun r => by rw [World.frozen?_setCell]; exact e.fz r⟩
structure Half (m : Int → ByteArray) (xs : List PT) (t : Int) (b : Nat) (vs : Nat → Value) (B : Nat → Prop) (Bs : Nat → Nat → Prop) (lo : Nat) (w0 : World) (i : Nat) (w : World) : Prop where
 mx : Mx B lo w0 w
 done : ∀ j x, j < i → xs[j]? = some x → EltV w b j (markT m (t + 3 * (cntL (xs.take j) : Int)) x) (vs j) ∧ T True w (Bs j) (vs j) (markT m (t + 3 * (cntL (xs.take j) : Int)) x).f3
 todo : ∀ j x, i ≤ j → xs[j]? = some x → EltV w b j x (vs j) ∧ T True w (Bs j) (vs j) x.f3
theorem Half.step {m : Int → ByteArray} {xs : List PT} {t : Int} {b : Nat} {vs : Nat → Value} {B : Nat → Prop} {Bs : Nat → Nat → Prop} {lo : Nat} {w0 : World} {i : Nat} {w w1 w2 : World} {x : PT} (h : Half m xs t b vs B Bs lo w0 i w) (hx : xs[i]? = some x)
  (hr : Rd lo b i w w1) (hk : Mx (Bs i) lo w1 w2) (he : EltV w1 b i (markT m (t + 3 * (cntL (xs.take i) : Int)) x) (vs i)) (ht : T True w2 (Bs i) (vs i) (markT m (t + 3 * (cntL (xs.take i) : Int)) x).f3)
  (hb : B b) (hB : ∀ i k, Bs i k → B k ∧ k ≠ b) (hD : ∀ i j k, i ≠ j → Bs i k → ¬ Bs j k) (hL : ∀ k, B k → k < w0.heap.size) : Half m xs t b vs B Bs lo w0 (i + 1) w2 := by
 have hbl : b < w1.heap.size := he.lt
 have nb : ¬ Bs i b := fun q => (hB i b q).2 rfl
 have row : ∀ j y, j ≠ i → EltV w b j y (vs j) → EltV w2 b j y (vs j) := fun j y hj e => (hr.row j y _ hj e).move (hk.out b nb hbl)
 have tree : ∀ j ys, j ≠ i → T True w (Bs j) (vs j) ys → T True w2 (Bs j) (vs j) ys := fun j ys hj e => e.move (fun k q => by
  have q1 := Nat.lt_of_lt_of_le (hL k (hB j k q).1) h.mx.bel.size
  exact (hk.out k (hD j i k hj q) (Nat.lt_of_lt_of_le q1 hr.bel.size)).trans (hr.oth k (hB j k q).2 q1))
 refine ⟨⟨h.mx.bel.trans (hr.bel.trans hk.bel), fun k q l => ?_⟩, fun j y hj hy => ?_, fun j y hj hy => ?_⟩
 ·have l1 := Nat.lt_of_lt_of_le l h.mx.bel.size
  exact (hk.out k (fun z => q (hB i k z).1) (Nat.lt_of_lt_of_le l1 hr.bel.size)).trans ((hr.oth k (fun z => q (by rw [z]; exact hb)) l1).trans (h.mx.out k q l))
 ·by_cases hji : j = i
  ·subst hji
   rw [hx] at hy
   cases hy
   exact ⟨he.move (hk.out b nb hbl), ht⟩
  ·have e := h.done j y (by omega) hy
   exact ⟨row j _ hji e.1, tree j _ hji e.2⟩
 ·have e := h.todo j y (by omega) hy
  exact ⟨row j _ (by omega) e.1, tree j _ (by omega) e.2⟩
set_option maxHeartbeats 4000000 in
set_option maxRecDepth 100000 in
theorem marksT_calls (m : Int → ByteArray) (hm : ∀ t : Int, t ≤ 9223372036854775807 → ∀ w : World, Calls Try.prog 28 #[.int .i64 t] w fun e w' => e = .returned (.string (m t)) ∧ Below w.heap.size w w') : ∀ (n : Nat) (xs : List PT), cntL xs ≤ n → ∀ (v : Value) (t : Int) (lo : Nat) (B : Nat → Prop) (w : World) (_ : T True w B v xs) (_ : ∀ k, B k → lo ≤ k ∧ k < w.heap.size) (_ : lo ≤ w.heap.size) (_ : 0 ≤ t) (_ : t + 3 * (cntL xs : Int) ≤ 100000000),
  Calls Try.prog 27 #[v, .int .i64 t] w fun e w' => e = .returned (.int .i64 (t + 3 * (cntL xs : Int))) ∧ T True w' B v (markL m t xs) ∧ Mx B lo w w' := by
 intro n
 induction n using Nat.strongRecOn with
 | _ n ih =>
 intro xs hn v t lo B w hS hL hlo ht0 ht1
 obtain ⟨A, c, rfl, hin⟩ := hS.inv
 obtain ⟨b, vs, Bs, hA, hB, hD, hAll⟩ : ∃ (b : Nat) (vs : Nat → Value) (Bs : Nat → Nat → Prop), (0 < xs.length → A = some ⟨b, 0, none⟩ ∧ xs.length ≤ c ∧ c ≤ 9223372036854775807 ∧ B b) ∧ (∀ i k, Bs i k → B k ∧ k ≠ b) ∧ (∀ i j k, i ≠ j → Bs i k → ¬ Bs j k) ∧ ∀ i x, xs[i]? = some x → EltV w b i x (vs i) ∧ T True w (Bs i) (vs i) x.f3 := by
  by_cases h0 : 0 < xs.length
  ·obtain ⟨b, vs, Bs, h1, h2, h3, h4, h5, h6, h7⟩ := hin h0
   exact ⟨b, vs, Bs, fun _ => ⟨h1, h2, h3, h4⟩, h5, h6 trivial, h7⟩
  ·exact ⟨0, fun _ => undef, fun _ _ => False, fun h => absurd h h0, fun _ _ h => h.elim, fun _ _ _ _ h => h.elim, fun i x hx => by rw [List.getElem?_eq_none (by omega)] at hx; cases hx⟩
 have HH := Aside0.mk (show Half m xs t b vs B Bs lo w 0 w from ⟨⟨Below.refl _ _, fun _ _ _ => rfl⟩, fun _ _ h _ => absurd h (Nat.not_lt_zero _), fun j x _ hx => hAll j x hx⟩)
 have HA := Aside0.mk hA
 have HB_ := Aside0.mk hB
 have HD := Aside0.mk hD
 have HL := Aside0.mk hL
 have HLO := Aside0.mk hlo
 have HT0 := Aside0.mk ht0
 have HT1 := Aside0.mk ht1
 have HN := Aside0.mk hn
 have HM_ := Aside0.mk hm
 have huS := Try.underlying28
 clear hS hL hlo ht0 ht1 hn hin hA hB hD hAll hm
 go_enter Try.func27, Try.ntmps27
 go_wp2
 go_loopg [1, 5] xs.length (fun kq v1 v5 w' => ∃ (i : Nat) (tq : Int), v5 = .int .i64 (i : Int) ∧ v1 = .int .i64 tq ∧ Aside0 (tq = t + 3 * (cntL (xs.take i) : Int)) ∧ Aside0 (kq + i = xs.length) ∧ Aside0 (Half m xs t b vs B Bs lo w i w'))
 case atStart => exact ⟨0, t, rfl, rfl, ⟨by simp [cntL]⟩, ⟨by omega⟩, HH⟩
 case round =>
  clear HH
  obtain ⟨i, tq, rfl, rfl, HT, HK, HH⟩ := hrel
  by_cases hi2 : i < xs.length
  ·obtain ⟨x, hx⟩ : ∃ x, xs[i]? = some x := ⟨_, List.getElem?_eq_getElem hi2⟩
   obtain ⟨kp, rfl⟩ : ∃ kp, gk = kp + 1 := ⟨gk - 1, by have := HK.out; omega⟩
   have hkp : kp + (i + 1) = xs.length := by have := HK.out; omega
   obtain ⟨rfl, hlc, hmc, hBb⟩ := HA.out (by omega)
   obtain ⟨hE, hU⟩ := HH.out.todo i x (Nat.le_refl _) hx
   obtain ⟨u, hu⟩ : ∃ u, u = vs i := ⟨_, rfl⟩
   rw [← hu] at hE hU
   have HUU := Aside0.mk hu
   have HE := Aside0.mk hE
   have HU := Aside0.mk hU
   have HX := Aside0.mk hx
   have HBB := Aside0.mk hBb
   have HLB := Aside0.mk (HL.out b hBb).1
   have HR := Aside0.mk (Rd.of_elt lo HE.out)
   have hc1 := cntL_mem xs i x hx
   have hc2 := cntL_take xs i x hx
   have C1 := Aside0.mk hc1
   have C2 := Aside0.mk hc2
   have hT0 : 0 ≤ tq := by have := HT.out; have := HT0.out; omega
   have hT1 : tq ≤ 100000000 := by have := HT.out; have := HT1.out; omega
   have HT3 := Aside0.mk (by have := HT.out; have := HT1.out; omega : tq + 1 + 1 + 1 + 3 * (cntL x.f3 : Int) ≤ 100000000)
   have HI := Aside0.mk hi2
   have HW := Aside0.mk (by have := len_cnt xs; have := HT0.out; have := HT1.out; unfold wrap64; omega : wrap64 ((i : Int) + 1) = ((i + 1 : Nat) : Int))
   have HLW := Aside0.mk (Nat.le_trans HLO.out HH.out.mx.bel.size)
   have HLIM := Aside0.mk hlc
   clear hE hU hx hc1 hc2 hlc hmc hBb hu
   have c5 : ((i : Int) < (xs.length : Int)) = True := eq_true (by omega)
   have c5b : decide ((i : Int) < (xs.length : Int)) = true := decide_eq_true (by omega)
   have c5n : decide (i < xs.length) = true := decide_eq_true hi2
   have c6 : (0 ≤ (i : Int)) = True := eq_true (by omega)
   clear hi2
   go_wp2_with (first | ((with_reducible refine gate_store (t := 2) (p := 16) rfl ?_); refine mark_event rfl 2 _ _ rfl _ b (i * 4 + 0) (.int .i64 tq) (.int .i64 x.f0) rfl (by first | rfl | (rw [Go.Proofs.Ytomakpfmghekfaa.RowLaw.add_zero]) | (rw [Go.Proofs.Ytomakpfmghekfaa.RowLaw.add_zero]; rfl)) rfl rfl rfl (by kernel_rfl) HE.out.c0 (HE.out.fz _) ?_; intro w6 hw6; have n0_ := HE.out.put0 tq; rw [← hw6] at n0_; have n1_ := HR.out.set (q := 0) (z := .int .i64 tq) HLB.out (by omega); rw [← hw6] at n1_; clear HE HR hw6; have HE := Aside0.mk n0_; have HR := Aside0.mk n1_; clear n0_ n1_; (try simp only [Act.put, sq1, sq2, sq3])) | ((with_reducible refine gate_store (t := 2) (p := 23) rfl ?_); refine mark_event rfl 2 _ _ rfl _ b (i * 4 + 1) (.int .i64 (tq + 1)) (.int .i64 x.f1) rfl (by first | rfl | (rw [Go.Proofs.Ytomakpfmghekfaa.RowLaw.add_zero]) | (rw [Go.Proofs.Ytomakpfmghekfaa.RowLaw.add_zero]; rfl)) rfl rfl rfl (by kernel_rfl) HE.out.c1 (HE.out.fz _) ?_; intro w6 hw6; have n0_ := HE.out.put1 (tq + 1); rw [← hw6] at n0_; have n1_ := HR.out.set (q := 1) (z := .int .i64 (tq + 1)) HLB.out (by omega); rw [← hw6] at n1_; clear HE HR hw6; have HE := Aside0.mk n0_; have HR := Aside0.mk n1_; clear n0_ n1_; (try simp only [Act.put, sq1, sq2, sq3])) | ((with_reducible refine gate_callee (f := 28) rfl ?_); refine goesL_ (some 29) rfl rfl Try.func28 (by kernel_rfl) rfl #[.int .i64 (tq + 1 + 1)] rfl (by (try simp only [sm1, sm2, sm3]); first | done | rfl) ?_; (with_reducible refine (HM_.out (tq + 1 + 1) ?side1 _).mono ?_); (case side1 => omega); rintro e wc ⟨rfl, hb⟩; refine ⟨_, rfl, ?_⟩; have n0_ := Aside0.mk (HE.out.move (hb.block b HE.out.lt)); have n1_ := Aside0.mk (HR.out.below hb HLW.out); clear HE HR; have HE := n0_; have HR := n1_; clear n0_ n1_; clear hb; (try simp only [Act.put, sq1, sq2, sq3])) | ((with_reducible refine gate_store (t := 9) (p := 31) rfl ?_); refine mark_event rfl 9 _ _ rfl _ b (i * 4 + 2) (.string (m (tq + 1 + 1))) (.string x.f2) rfl (by first | rfl | (rw [Go.Proofs.Ytomakpfmghekfaa.RowLaw.add_zero]) | (rw [Go.Proofs.Ytomakpfmghekfaa.RowLaw.add_zero]; rfl)) rfl rfl rfl (by kernel_rfl) HE.out.c2 (HE.out.fz _) ?_; intro w6 hw6; have n0_ := HE.out.put2 (m (tq + 1 + 1)); rw [← hw6] at n0_; have n1_ := HR.out.set (q := 2) (z := .string (m (tq + 1 + 1))) HLB.out (by omega); rw [← hw6] at n1_; clear HE HR hw6; have HE := Aside0.mk n0_; have HR := Aside0.mk n1_; clear n0_ n1_; (try simp only [Act.put, sq1, sq2, sq3])) | ((with_reducible refine gate_dst (N := 38) rfl ?_); refine cellat_event rfl 28 _ rfl _ b (i * 4 + 3) rfl (by first | rfl | (rw [Go.Proofs.Ytomakpfmghekfaa.RowLaw.add_zero]) | (rw [Go.Proofs.Ytomakpfmghekfaa.RowLaw.add_zero]; rfl)) _ u huS rfl HE.out.c3 ?_; (try simp only [Act.put, sq1, sq2, sq3])) | (go_at_call 27; refine (ih (cntL x.f3) (by have := C1.out; have := HN.out; omega) x.f3 (Nat.le_refl _) u (tq + 1 + 1 + 1) lo (Bs i) _ (HU.out.move (fun k q => HR.out.oth k (HB_.out i k q).2 (Nat.lt_of_lt_of_le (HL.out k (HB_.out i k q).1).2 HH.out.mx.bel.size))) (fun k q => ⟨(HL.out k (HB_.out i k q).1).1, Nat.lt_of_lt_of_le (Nat.lt_of_lt_of_le (HL.out k (HB_.out i k q).1).2 HH.out.mx.bel.size) HR.out.bel.size⟩) (Nat.le_trans HLW.out HR.out.bel.size) (by omega) HT3.out).mono ?_; rintro e wd ⟨rfl, ht, hmx⟩; have HH2 := Aside0.mk (HH.out.step HX.out HR.out hmx (by rw [markT_eq, ← HT.out, ← HUU.out]; exact ⟨HE.out.c0, HE.out.c1, HE.out.c2, HE.out.c3, HE.out.fz⟩) (by rw [markT_eq, ← HT.out, ← HUU.out]; exact ht) HBB.out HB_.out HD.out (fun k q => (HL.out k q).2)); clear HH HE HU HR ht hmx; have HH := HH2; clear HH2))
   go_roundg kp
   case measure => omega
   case rel => exact ⟨i + 1, _, by rw [HW.out], rfl, ⟨by have := HT.out; have := C2.out; omega⟩, ⟨by omega⟩, HH⟩
  ·obtain rfl : i = xs.length := by have := HK.out; omega
   have HEE := Aside0.mk (show tq = t + 3 * (cntL xs : Int) from by rw [HT.out, List.take_length])
   have c5 : ((xs.length : Int) < (xs.length : Int)) = False := eq_false (by omega)
   clear hi2
   go_wp2
   go_ret
   refine ⟨by rw [HEE.out]; rfl, ?_, HH.out.mx⟩
   by_cases h0 : 0 < xs.length
   ·obtain ⟨rfl, h2, h3, h4⟩ := HA.out h0
    have hml := markL_len m xs t
    rw [← hml]
    refine T.of (vs := vs) (Bs := Bs) (by rw [hml]; exact h2) h3 h4 HB_.out (fun _ => HD.out) (fun j y hy => ?_)
    rw [markL_get] at hy
    cases hx : xs[j]? with
    | none => rw [hx] at hy; cases hy
    | some x =>
     rw [hx] at hy
     cases hy
     exact HH.out.done j x (List.getElem?_eq_some_iff.1 hx).1 hx
   ·obtain rfl : xs = [] := List.length_eq_zero_iff.1 (by omega)
    exact T.nil _ _ _
theorem cell_run {P : Program} {oi : Oper} {a : Act} {w : World} (ty : TypeId) (x : Operand) (ho : oi.op = .load ty x) (A : Addr) (b off : Nat) (hx : a.eval x = .pointer (some A)) (hA : A = ⟨b, off, none⟩) (d : TypeDesc) (v : Value) (hu : P.underlying ty = some d)
  (hd : (match d with | .struct _ | .array _ _ => true | _ => false) = false) (hp : w.cell? ⟨b, off, none⟩ = some v) : (execOp a.eval oi).run P w = .ok (.value v) w := by
 subst hA
 have hagg : (isAgg ty).run P w = .ok false w := by
  unfold isAgg
  rw [Sem.run_bind, run_underlying hu w]
  cases d <;> simp_all
 have hl : (loadVar ty ⟨b, off, none⟩).run P w = .ok v w := by simp [loadVar, Sem.run_bind, hagg, hp]
 unfold execOp
 simp only [ho, hx, Instr.loadAt, Instr.sureAddr, Sem.run_bind, Sem.run_pure, Result.andThen_ok, hl]
set_option maxHeartbeats 4000000 in
set_option maxRecDepth 100000 in
theorem heldS_calls (m : Int → ByteArray) (hm : ∀ t : Int, t ≤ 9223372036854775807 → ∀ w : World, Calls Try.prog 28 #[.int .i64 t] w fun e w' => e = .returned (.string (m t)) ∧ Below w.heap.size w w') : ∀ (n : Nat) (xs : List PT), cntL xs ≤ n → ∀ (v : Value) (t : Int) (B : Nat → Prop) (w : World) (_ : T True w B v (markL m t xs)) (_ : 0 ≤ t) (_ : t + 3 * (cntL xs : Int) ≤ 100000000),
  Calls Try.prog 32 #[v, .int .i64 t] w fun e w' => e = .returned (.int .i64 (t + 3 * (cntL xs : Int))) ∧ Below w.heap.size w w' := by
 intro n
 induction n using Nat.strongRecOn with
 | _ n ih =>
 intro xs hn v t B w hS ht0 ht1
 obtain ⟨A, c, e, hin⟩ := hS.inv
 rw [markL_len] at e hin
 subst e
 have HIN := Aside0.mk hin
 have HT0 := Aside0.mk ht0
 have HT1 := Aside0.mk ht1
 have HN := Aside0.mk hn
 have HM_ := Aside0.mk hm
 have huS := Try.underlying28
 have huI := Try.underlying2
 have huT := Try.underlying9
 clear hS ht0 ht1 hn hin hm
 go_enter Try.func32, Try.ntmps32
 go_wp2
 go_loopg [1, 5] xs.length (fun kq v1 v5 w' => ∃ (i : Nat) (tq : Int), v5 = .int .i64 (i : Int) ∧ v1 = .int .i64 tq ∧ Aside0 (tq = t + 3 * (cntL (xs.take i) : Int)) ∧ Aside0 (kq + i = xs.length) ∧ Aside0 (Below w.heap.size w w'))
 case atStart => exact ⟨0, t, rfl, rfl, ⟨by simp [cntL]⟩, ⟨by omega⟩, ⟨Below.refl _ _⟩⟩
 case round =>
  obtain ⟨i, tq, rfl, rfl, HT, HK, HB⟩ := hrel
  by_cases hi2 : i < xs.length
  ·obtain ⟨x, hx⟩ : ∃ x, xs[i]? = some x := ⟨_, List.getElem?_eq_getElem hi2⟩
   obtain ⟨kp, rfl⟩ : ∃ kp, gk = kp + 1 := ⟨gk - 1, by have := HK.out; omega⟩
   have hkp : kp + (i + 1) = xs.length := by have := HK.out; omega
   obtain ⟨b, vs, Bs, rfl, hlc, hmc, _, _, _, hAll⟩ := HIN.out (by omega)
   obtain ⟨hE, hU⟩ := hAll i (markT m (t + 3 * (cntL (xs.take i) : Int)) x) (by rw [markL_get, hx]; rfl)
   rw [markT_eq, ← HT.out] at hE hU
   obtain ⟨u, hu⟩ : ∃ u, u = vs i := ⟨_, rfl⟩
   rw [← hu] at hE hU
   clear hu
   have HE := Aside0.mk (hE.move (HB.out.block b hE.lt))
   have HU := Aside0.mk (hU.grow HB.out)
   have HX := Aside0.mk hx
   have hc1 := cntL_mem xs i x hx
   have hc2 := cntL_take xs i x hx
   have C1 := Aside0.mk hc1
   have C2 := Aside0.mk hc2
   have hT0 : 0 ≤ tq := by have := HT.out; have := HT0.out; omega
   have hT1 : tq ≤ 100000000 := by have := HT.out; have := HT1.out; omega
   have HT3 := Aside0.mk (by have := HT.out; have := HT1.out; omega : tq + 1 + 1 + 1 + 3 * (cntL x.f3 : Int) ≤ 100000000)
   have HI := Aside0.mk hi2
   have HW := Aside0.mk (by have := len_cnt xs; have := HT0.out; have := HT1.out; unfold wrap64; omega : wrap64 ((i : Int) + 1) = ((i + 1 : Nat) : Int))
   have HLIM := Aside0.mk hlc
   clear hE hU hx hc1 hc2 hlc hmc hAll
   have c5 : ((i : Int) < (xs.length : Int)) = True := eq_true (by omega)
   have c5b : decide ((i : Int) < (xs.length : Int)) = true := decide_eq_true (by omega)
   have c5n : decide (i < xs.length) = true := decide_eq_true hi2
   have c6 : (0 ≤ (i : Int)) = True := eq_true (by omega)
   have c7 : (tq != tq) = false := by simp
   have c8 : (tq + 1 != tq + 1) = false := by simp
   clear hi2
   go_wp2_with (first | ((with_reducible refine gate_dst (N := 16) rfl ?_); refine cellat_event rfl 2 _ rfl _ b (i * 4 + 0) rfl (by first | rfl | (rw [Go.Proofs.Ytomakpfmghekfaa.RowLaw.add_zero]) | (rw [Go.Proofs.Ytomakpfmghekfaa.RowLaw.add_zero]; rfl)) _ (.int .i64 tq) huI rfl HE.out.c0 ?_; (try simp only [Act.put, sq1, sq2, sq3])) | ((with_reducible refine gate_dst (N := 25) rfl ?_); refine cellat_event rfl 2 _ rfl _ b (i * 4 + 1) rfl (by first | rfl | (rw [Go.Proofs.Ytomakpfmghekfaa.RowLaw.add_zero]) | (rw [Go.Proofs.Ytomakpfmghekfaa.RowLaw.add_zero]; rfl)) _ (.int .i64 (tq + 1)) huI rfl HE.out.c1 ?_; (try simp only [Act.put, sq1, sq2, sq3])))
   refine start_ (n := 8) (S := fun w' => w'.cell? ⟨b, i * 4 + 2, none⟩ = some (.string (m (tq + 1 + 1)))) (ds := []) #[false, false, false, false, false, false, false, false] (by kernel_rfl) rfl rfl HE.out.c2 (fun hHeld => ?_)
   have n0_ := Aside0.mk (below_step HB.out (below_drew1 (Below.refl _ _)))
   have n1_ := Aside0.mk (HE.out.move ((below_drew1 (Below.refl _ _)).block b HE.out.lt))
   have n2_ := Aside0.mk (HU.out.grow (below_drew1 (Below.refl _ _)))
   clear HB HE HU
   have HB := n0_
   have HE := n1_
   have HU := n2_
   clear n0_ n1_ n2_
   generalize _root_.Go.World.drew _ = wd at HB HE HU hHeld ⊢
   refine pure_ (i := 0) (N := some 30) (v := ?_) (a' := ?_) #[true, false, false, false, false, false, false, false] rfl rfl (by kernel_rfl) (fun _ _ _ h => h) (Or.inl ⟨by rfl, ?_⟩) ?_ ?_
   rotate_left
   ·intro w'
    go_simp
    with_reducible rfl
   rotate_left
   ·simp only [Act.put, sq1, sq2, sq3, i64_w, i32_w]
    rfl
   refine pure_ (i := 1) (N := some 31) (v := ?_) (a' := ?_) #[true, true, false, false, false, false, false, false] rfl rfl (by kernel_rfl) (fun _ _ _ h => h) (Or.inl ⟨by rfl, ?_⟩) ?_ ?_
   rotate_left
   ·intro w'
    go_simp
    with_reducible rfl
   rotate_left
   ·simp only [Act.put, sq1, sq2, sq3, i64_w, i32_w]
    rfl
   refine pure_ (i := 2) (N := some 32) (v := ?_) (a' := ?_) #[true, true, true, false, false, false, false, false] rfl rfl (by kernel_rfl) (fun _ _ _ h => h) (Or.inl ⟨by rfl, ?_⟩) ?_ ?_
   rotate_left
   ·intro w'
    go_simp
    with_reducible rfl
   rotate_left
   ·simp only [Act.put, sq1, sq2, sq3, i64_w, i32_w]
    rfl
   refine pure_ (i := 3) (N := some 33) (v := ?_) (a' := ?_) #[true, true, true, true, false, false, false, false] rfl rfl (by kernel_rfl) (fun _ _ _ h => h) (Or.inl ⟨by rfl, ?_⟩) ?_ ?_
   rotate_left
   ·intro w'
    go_simp
    with_reducible rfl
   rotate_left
   ·simp only [Act.put, sq1, sq2, sq3, i64_w, i32_w]
    rfl
   refine take_ (i := 4) (N := some 34) (v := .string (m (tq + 1 + 1))) (a' := ?_) #[true, true, true, true, true, false, false, false] rfl rfl (by kernel_rfl) (fun _ _ _ h => h) (Or.inl ⟨by rfl, fun w' s => cell_run 9 _ rfl _ b (i * 4 + 2) rfl (by first | rfl | (rw [Go.Proofs.Ytomakpfmghekfaa.RowLaw.add_zero]) | (rw [Go.Proofs.Ytomakpfmghekfaa.RowLaw.add_zero]; rfl)) _ _ huT rfl s⟩) hHeld ?_ ?_
   rotate_left
   ·simp only [Act.put, sq1, sq2, sq3, i64_w, i32_w]
    rfl
   refine pure_ (i := 5) (N := some 35) (v := ?_) (a' := ?_) #[true, true, true, true, true, true, false, false] rfl rfl (by kernel_rfl) (fun _ _ _ h => h) (Or.inl ⟨by rfl, ?_⟩) ?_ ?_
   rotate_left
   ·intro w'
    go_simp
    with_reducible rfl
   rotate_left
   ·simp only [Act.put, sq1, sq2, sq3, i64_w, i32_w]
    rfl
   refine one_ (i := 6) (N := some 36) #[true, true, true, true, true, true, true, false] rfl rfl (by kernel_rfl) (by decide) (fun K hK => ?_)
   refine goes_ Try.func28 (by kernel_rfl) rfl #[.int .i64 (tq + 1 + 1)] (by rfl) rfl rfl (by (try simp only [sm1, sm2, sm3]); first | done | rfl) ?_
   with_reducible refine (HM_.out (tq + 1 + 1) ?side1 _).mono ?_
   (case side1 => exact (by omega))
   rintro e we ⟨rfl, hb⟩
   refine ⟨_, rfl, ?_⟩
   have n0_ := Aside0.mk (below_step HB.out hb)
   have n1_ := Aside0.mk (HE.out.move (hb.block b HE.out.lt))
   have n2_ := Aside0.mk (HU.out.grow hb)
   clear HB HE HU
   have HB := n0_
   have HE := n1_
   have HU := n2_
   clear n0_ n1_ n2_
   clear hb
   refine hK.out _ _ HE.out.c2 (fun hHeld => ?_)
   clear hK K
   refine norm_ (a' := ?_) ?_ ?_
   rotate_left
   ·show Act.put _ (some 36) _ = _
    simp only [Act.put, sq1, sq2, sq3, i64_w, i32_w]
    rfl
   refine pure_ (i := 7) (N := some 37) (v := ?_) (a' := ?_) #[true, true, true, true, true, true, true, true] rfl rfl (by kernel_rfl) (fun _ _ _ h => h) (Or.inl ⟨by rfl, ?_⟩) ?_ ?_
   rotate_left
   ·intro w'
    go_simp
    with_reducible rfl
   rotate_left
   ·simp only [Act.put, sq1, sq2, sq3, i64_w, i32_w]
    rfl
   refine done_ (by kernel_rfl) ?_
   have c9 : ((m (tq + 1 + 1)).toList == (m (tq + 1 + 1)).toList) = true := by simp
   have c10 : (tq + 1 + 1 + 1 + 3 * (cntL x.f3 : Int) < 0) = False := eq_false (by omega)
   have c10b : decide (tq + 1 + 1 + 1 + 3 * (cntL x.f3 : Int) < 0) = false := decide_eq_false (by omega)
   go_wp2_with (first | ((with_reducible refine gate_dst (N := 44) rfl ?_); refine cellat_event rfl 28 _ rfl _ b (i * 4 + 3) rfl (by first | rfl | (rw [Go.Proofs.Ytomakpfmghekfaa.RowLaw.add_zero]) | (rw [Go.Proofs.Ytomakpfmghekfaa.RowLaw.add_zero]; rfl)) _ (u) huS rfl HE.out.c3 ?_; (try simp only [Act.put, sq1, sq2, sq3])) | (go_at_call 32; refine (ih (cntL x.f3) (by have := C1.out; have := HN.out; omega) x.f3 (Nat.le_refl _) u (tq + 1 + 1 + 1) (Bs i) _ HU.out (by omega) HT3.out).mono ?_; rintro e wf ⟨rfl, hb⟩; have n0_ := Aside0.mk (below_step HB.out hb); have n1_ := Aside0.mk (HE.out.move (hb.block b HE.out.lt)); have n2_ := Aside0.mk (HU.out.grow hb); clear HB HE HU; have HB := n0_; have HE := n1_; have HU := n2_; clear n0_ n1_ n2_; clear hb))
   go_roundg kp
   case measure => omega
   case rel => exact ⟨i + 1, _, by rw [HW.out], rfl, ⟨by have := HT.out; have := C2.out; omega⟩, ⟨by omega⟩, HB⟩
  ·obtain rfl : i = xs.length := by have := HK.out; omega
   have HEE := Aside0.mk (show tq = t + 3 * (cntL xs : Int) from by rw [HT.out, List.take_length])
   have c5 : ((xs.length : Int) < (xs.length : Int)) = False := eq_false (by omega)
   clear hi2
   go_wp2
   go_ret
   exact ⟨by rw [HEE.out]; rfl, HB.out⟩
set_option maxHeartbeats 4000000 in
set_option maxRecDepth 100000 in
theorem mark0_calls (x : S30) (v : Value) (t : Int) (lo hi : Nat) (w : World) (hS : Shp w lo hi v x.f3) (hlo : lo ≤ w.heap.size) (ht : 0 ≤ t) (ht1 : t + 3 * (cntL x.f3 : Int) ≤ 100000000) :
  Calls Try.prog 12 #[.agg #[.int .i64 x.f0, .int .i64 x.f1, .string x.f2, v], .int .i64 t] w fun e w' => e = .returned (.int .i64 (t + 3 * (cntL x.f3 : Int))) ∧ Mk lo hi w w' := by
 obtain ⟨A, c, rfl, _⟩ := hS.inv
 have huP := Try.underlying30
 have huS := Try.underlying28
 have HS := Aside0.mk hS
 have HT := Aside0.mk ht
 have HT1 := Aside0.mk ht1
 have HB := Aside0.mk (Below.refl w.heap.size w)
 have HLO := Aside0.mk hlo
 clear hlo
 clear hS ht ht1
 go_enter Try.func12, Try.ntmps12
 go_wp2_with (first | ((with_reducible refine gate_dst (N := 2) rfl ?_); refine box_event ?hg (N := 2) ?hd (cs := #[.int .i64 x.f0, .int .i64 x.f1, .string x.f2, .slice A x.f3.length c]) (t := 30) ?hr ?_; (case hd => rfl); (case hg => rfl); (case hr => first | (go_simp; done) | (go_simp; rfl)); intro g2 hg w1 hbox hb; have n0_ := Aside0.mk (below_step HB.out hb); clear HB; have HB := n0_; clear n0_; have BK := Aside0.mk hbox; clear hg hbox hb; (try simp only [Act.put, sq1, sq2, sq3])) | ((with_reducible refine gate_dst (N := 6) rfl ?_); refine Go.Proofs.Ytomakpfmghekfaa.RowLaw.cell_event rfl 28 _ rfl g2 3 rfl 30 #[.int .i64 x.f0, .int .i64 x.f1, .string x.f2, .slice A x.f3.length c] _ (.slice A x.f3.length c) BK.out huS rfl rfl ?_; (try simp only [Act.put, sq1, sq2, sq3])) | (go_at_call 27; refine (marks_calls (cntL x.f3) x.f3 (Nat.le_refl _) _ t lo hi _ ((Mk.of_below HB.out HLO.out).shp _ _ HS.out) (Nat.le_trans HLO.out HB.out.size) HT.out HT1.out).mono ?_; rintro e wd ⟨rfl, hm⟩; have HM := Aside0.mk ((Mk.of_below HB.out HLO.out).trans hm); clear hm BK))
 go_ret
 exact ⟨rfl, HM.out⟩
set_option maxHeartbeats 4000000 in
set_option maxRecDepth 100000 in
theorem markX_calls (m : Int → ByteArray) (hm : ∀ t : Int, t ≤ 9223372036854775807 → ∀ w : World, Calls Try.prog 28 #[.int .i64 t] w fun e w' => e = .returned (.string (m t)) ∧ Below w.heap.size w w') (x : S30) (v : Value) (t : Int) (lo : Nat) (B : Nat → Prop) (w : World) (hS : T True w B v x.f3) (hL : ∀ k, B k → lo ≤ k ∧ k < w.heap.size) (hlo : lo ≤ w.heap.size) (ht : 0 ≤ t) (ht1 : t + 3 * (cntL x.f3 : Int) ≤ 100000000) :
  Calls Try.prog 12 #[.agg #[.int .i64 x.f0, .int .i64 x.f1, .string x.f2, v], .int .i64 t] w fun e w' => e = .returned (.int .i64 (t + 3 * (cntL x.f3 : Int))) ∧ T True w' B v (markL m t x.f3) ∧ Mx B lo w w' := by
 obtain ⟨A, c, rfl, _⟩ := hS.inv
 have huP := Try.underlying30
 have huS := Try.underlying28
 have HS := Aside0.mk hS
 have HT := Aside0.mk ht
 have HT1 := Aside0.mk ht1
 have HB := Aside0.mk (Below.refl w.heap.size w)
 have HLO := Aside0.mk hlo
 clear hlo
 have HL := Aside0.mk hL
 clear hL
 clear hS ht ht1
 go_enter Try.func12, Try.ntmps12
 go_wp2_with (first | ((with_reducible refine gate_dst (N := 2) rfl ?_); refine box_event ?hg (N := 2) ?hd (cs := #[.int .i64 x.f0, .int .i64 x.f1, .string x.f2, .slice A x.f3.length c]) (t := 30) ?hr ?_; (case hd => rfl); (case hg => rfl); (case hr => first | (go_simp; done) | (go_simp; rfl)); intro g2 hg w1 hbox hb; have n0_ := Aside0.mk (below_step HB.out hb); clear HB; have HB := n0_; clear n0_; have BK := Aside0.mk hbox; clear hg hbox hb; (try simp only [Act.put, sq1, sq2, sq3])) | ((with_reducible refine gate_dst (N := 6) rfl ?_); refine Go.Proofs.Ytomakpfmghekfaa.RowLaw.cell_event rfl 28 _ rfl g2 3 rfl 30 #[.int .i64 x.f0, .int .i64 x.f1, .string x.f2, .slice A x.f3.length c] _ (.slice A x.f3.length c) BK.out huS rfl rfl ?_; (try simp only [Act.put, sq1, sq2, sq3])) | (go_at_call 27; refine (marksT_calls m hm (cntL x.f3) x.f3 (Nat.le_refl _) _ t lo B _ (HS.out.grow HB.out) (fun k q => ⟨(HL.out k q).1, Nat.lt_of_lt_of_le (HL.out k q).2 HB.out.size⟩) (Nat.le_trans HLO.out HB.out.size) HT.out HT1.out).mono ?_; rintro e wd ⟨rfl, htt, hmx⟩; have HTT := Aside0.mk htt; have HM := Aside0.mk (show Mx B lo w wd from ⟨(HB.out.mono HLO.out).trans hmx.bel, fun k q l => (hmx.out k q (Nat.lt_of_lt_of_le l HB.out.size)).trans (HB.out.block k l)⟩); clear htt hmx BK))
 go_ret
 exact ⟨rfl, HTT.out, HM.out⟩
set_option maxHeartbeats 4000000 in
set_option maxRecDepth 100000 in
theorem heldX_calls (m : Int → ByteArray) (hm : ∀ t : Int, t ≤ 9223372036854775807 → ∀ w : World, Calls Try.prog 28 #[.int .i64 t] w fun e w' => e = .returned (.string (m t)) ∧ Below w.heap.size w w') (x : S30) (v : Value) (t : Int) (B : Nat → Prop) (w : World) (hS : T True w B v (markL m t x.f3)) (ht : 0 ≤ t) (ht1 : t + 3 * (cntL x.f3 : Int) ≤ 100000000) :
  Calls Try.prog 17 #[.agg #[.int .i64 x.f0, .int .i64 x.f1, .string x.f2, v], .int .i64 t] w fun e w' => e = .returned (.int .i64 (t + 3 * (cntL x.f3 : Int))) ∧ Below w.heap.size w w' := by
 obtain ⟨A, c, e, _⟩ := hS.inv
 rw [markL_len] at e
 subst e
 have huP := Try.underlying30
 have huS := Try.underlying28
 have HS := Aside0.mk hS
 have HT := Aside0.mk ht
 have HT1 := Aside0.mk ht1
 have HB := Aside0.mk (Below.refl w.heap.size w)
 clear hS ht ht1
 have c10 : (t + 3 * (cntL x.f3 : Int) < 0) = False := eq_false (by have := HT.out; omega)
 have c10b : decide (t + 3 * (cntL x.f3 : Int) < 0) = false := decide_eq_false (by have := HT.out; omega)
 go_enter Try.func17, Try.ntmps17
 go_wp2_with (first | ((with_reducible refine gate_dst (N := 2) rfl ?_); refine box_event ?hg (N := 2) ?hd (cs := #[.int .i64 x.f0, .int .i64 x.f1, .string x.f2, .slice A x.f3.length c]) (t := 30) ?hr ?_; (case hd => rfl); (case hg => rfl); (case hr => first | (go_simp; done) | (go_simp; rfl)); intro g2 hg w1 hbox hb; have n0_ := Aside0.mk (below_step HB.out hb); clear HB; have HB := n0_; clear n0_; have BK := Aside0.mk hbox; clear hg hbox hb; (try simp only [Act.put, sq1, sq2, sq3])) | ((with_reducible refine gate_dst (N := 6) rfl ?_); refine Go.Proofs.Ytomakpfmghekfaa.RowLaw.cell_event rfl 28 _ rfl g2 3 rfl 30 #[.int .i64 x.f0, .int .i64 x.f1, .string x.f2, .slice A x.f3.length c] _ (.slice A x.f3.length c) BK.out huS rfl rfl ?_; (try simp only [Act.put, sq1, sq2, sq3])) | (go_at_call 32; refine (heldS_calls m hm (cntL x.f3) x.f3 (Nat.le_refl _) _ t B _ (HS.out.grow HB.out) HT.out HT1.out).mono ?_; rintro e wd ⟨rfl, hb⟩; have n0_ := Aside0.mk (below_step HB.out hb); clear HB; have HB := n0_; clear n0_; clear hb BK))
 go_ret
 exact ⟨rfl, HB.out⟩
end Go.Proofs.Ytomakpfmghekfaa.PFnExactJoinPatterns
