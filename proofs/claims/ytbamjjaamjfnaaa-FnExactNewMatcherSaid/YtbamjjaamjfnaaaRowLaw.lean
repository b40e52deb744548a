/- Lemmas on boxes of structs whose cells are told as one array: a whole struct read out of a box, a whole struct laid into one. Conditions: none beyond each statement. -/
import Derived.Laws.Rows
import Derived.Laws.Tables
import Derived.Laws.CopyOwn
import Derived.Laws.CopyRow
import Derived.Deep.MidRow
import Derived.OrdersHeld
import Derived.Test.YtbamjjaamjfnaaaWMore
namespace Go.Proofs.Ytbamjjaamjfnaaa.RowLaw
open Go.RowKit Go.Proofs.YtbamjjaamjfnaaaW.PrintWords
theorem load_run {P : Program} {oi : Oper} {a : Act} {w : World} (ty : TypeId) (x : Operand) (ho : oi.op = .load ty x) (g : Nat) (hx : a.eval x = .pointer (some ⟨g, 0, none⟩)) (t : TypeId) (cs : Array Value) (d : TypeDesc) (hg : w.heap[g]? = some (.cells cs t (0, 0)))
    (hu : P.underlying ty = some d) (hd : (match d with | .struct _ | .array _ _ => true | _ => false) = true) (hi : (P.info? ty).map (·.size) = some cs.size) : (execOp a.eval oi).run P w = .ok (.value (.agg cs)) w := by
  unfold execOp
  simp only [ho, hx, Instr.loadAt, Instr.sureAddr, Sem.run_bind, Sem.run_pure, Result.andThen_ok, run_loadVar_row w g t ty cs (0, 0) d hg hu hd hi]
theorem sE {P : Program} {ops : Array Oper} {rest : List Oper} {o : Oper} {a : Act} {w : World} {Q : Exit → Act → World → Prop} (hgd : o.guard = none) (ty : TypeId) (x y : Operand) (ho : o.op = .store ty x y)
    (g : Nat) (cells : Array Value) (hx : a.eval x = .pointer (some ⟨g, 0, none⟩)) (hy : a.eval y = .agg cells)
    (t : TypeId) (old : Array Value) (hg : w.heap[g]? = some (.cells old t (0, 0))) (hi : (P.info? ty).map (·.size) = some cells.size)
    (hold : old.size = cells.size) (h1 : cells.all (·.oneCell') = true)
    (h : ∀ w2 : World, w2.heap[g]? = some (.cells cells t (0, 0)) → (∀ (B : Nat) (w0 : World), Below B w0 w → B ≤ g → Below B w0 w2) → wpList P ops Q rest (a.put o.dst undef) w2) : wpList P ops Q (o :: rest) a w :=
  wpList_store_row hgd ty x y ho g cells hx hy t old hg hi hold h1 (h _ (setRow_heap w g old cells t (0, 0) hg) (fun _ _ hb hl => below_setRow hb hl cells))
theorem cell_event {P : Program} {ops : Array Oper} {rest : List Oper} {o : Oper} {a : Act} {w : World} {Q : Exit → Act → World → Prop} (hgd : o.guard = none) (ty : TypeId) (x : Operand) (ho : o.op = .load ty x)
    (g off : Nat) (hx : a.eval x = .pointer (some ⟨g, off, none⟩)) (t : TypeId) (cs : Array Value) (d : TypeDesc) (v : Value) (hg : w.heap[g]? = some (.cells cs t (0, 0)))
    (hu : P.underlying ty = some d) (hd : (match d with | .struct _ | .array _ _ => true | _ => false) = false) (hp : cs[off]? = some v)
    (h : wpList P ops Q rest (a.put o.dst v) w) : wpList P ops Q (o :: rest) a w :=
  wpList_plain hgd fun _ hK => by
    have hagg : (isAgg ty).run P w = .ok false w := by
      unfold isAgg
      rw [Sem.run_bind, run_underlying hu w]
      cases d <;> simp_all
    have hc : w.cell? ⟨g, off, none⟩ = some v := (cell_of_row w g off cs t (0, 0) hg).trans hp
    have hl : (loadVar ty ⟨g, off, none⟩).run P w = .ok v w := by simp [loadVar, Sem.run_bind, hagg, hc]
    unfold Oper.wp execOp
    simp only [ho, hx, Instr.loadAt, Instr.sureAddr, Sem.run_bind, Sem.run_pure, Result.andThen_ok, hl]
    exact hK _ _ h
theorem put_event {P : Program} {ops : Array Oper} {rest : List Oper} {o : Oper} {a : Act} {w : World} {Q : Exit → Act → World → Prop} (hgd : o.guard = none) (ty : TypeId) (x y : Operand) (ho : o.op = .store ty x y)
    (g off : Nat) (val : Value) (hx : a.eval x = .pointer (some ⟨g, off, none⟩)) (hy : a.eval y = val) (vs : List Value) (hv : val.cells = vs.toArray)
    (t : TypeId) (cur new : Array Value) (hg : w.heap[g]? = some (.cells cur t (0, 0))) (hi : (P.info? ty).map (·.size) = some vs.length)
    (hl : off + vs.length ≤ cur.size) (h1 : vs.all (·.oneCell') = true) (hn : (cur.toList.take off ++ vs ++ cur.toList.drop (off + vs.length)).toArray = new)
    (h : ∀ w2 : World, w2.heap[g]? = some (.cells new t (0, 0)) → (∀ k, k ≠ g → w2.heap[k]? = w.heap[k]?) → (∀ (B : Nat) (w0 : World), Below B w0 w → B ≤ g → Below B w0 w2) → w2.heap.size = w.heap.size → wpList P ops Q rest (a.put o.dst undef) w2) : wpList P ops Q (o :: rest) a w :=
  wpList_plain hgd fun _ hK => by
    have hst := run_storeCells_at (P := P) g off t vs 0 cur w hg (by omega) (fun v hv => List.all_eq_true.1 h1 v hv)
    simp only [Nat.add_zero] at hst
    have hsv : (storeVar ty ⟨g, off, none⟩ val).run P w = .ok () (w.setRow g new) := by
      cases hq : P.info? ty with
      | none => simp [hq] at hi
      | some i =>
        have hs : vs.length = i.size := by simp [hq] at hi; omega
        rw [← hn]
        simp [storeVar, sizeOf, typeInfo, hq, hv, hs]
        simpa [hs] using hst
    unfold Oper.wp execOp
    simp only [ho, hx, hy, Instr.storeAt, Instr.sureAddr, Sem.run_bind, Sem.run_pure, Result.andThen_ok, hsv]
    exact hK _ _ (h _ (setRow_heap w g cur new t (0, 0) hg) (fun k hk => setRow_other w g k new hk) (fun _ _ hb hl => below_setRow hb hl new) (size_setRow w g new))
def CellsAt (w : World) (A : Addr) (c : List Value) : Prop := ∀ j u, c[j]? = some u → w.cell? (A.add j) = some u
theorem CellsAt.below {w w1 : World} {A : Addr} {c : List Value} (h : CellsAt w A c) (hb : Below w.heap.size w w1) : CellsAt w1 A c := fun j u hj => (hb.cell (World.block_lt_of_cell? w _ (h j u hj))).trans (h j u hj)
theorem add_two (a : Addr) (m n : Nat) : (a.add m).add n = a.add (m + n) := by
  unfold Addr.add
  by_cases hm : m = 0
  · subst hm
    simp
  · by_cases hn : n = 0
    · subst hn
      simp [hm]
    · simp [hm, hn, Nat.add_assoc]
theorem elem_of {α : Type} {d : Kd α} {w : World} {A : Option Addr} {n : Nat} {xs : List α} (h : d.C w A n xs) (z : α) (i : Int) (h0 : 0 ≤ i) (h1 : i < n) :
    ∃ ad c, A = some ad ∧ c.length = d.sz ∧ d.K w (xs.getD i.toNat z) c ∧ CellsAt w (ad.add (i.toNat * d.sz)) c := by
  obtain ⟨ad, c, e, hl, hK, hc⟩ := Kd.C_get h z i h0 h1
  exact ⟨ad, c, e, hl, hK, fun j u hj => by rw [add_two]; exact hc j u hj⟩
theorem run_at {P : Program} {w : World} (ty : TypeId) (A : Addr) (d : TypeDesc) (part : List Value) (hu : P.underlying ty = some d) (hd : (match d with | .struct _ | .array _ _ => true | _ => false) = true) (hi : (P.info? ty).map (·.size) = some part.length) (hp : CellsAt w A part) :
    (loadVar ty A).run P w = .ok (.agg part.toArray) w := by
  have hl := run_loadCells_list (P := P) w A part hp
  cases hq : P.info? ty with
  | none => simp [hq] at hi
  | some i =>
    have hs : i.size = part.length := by simpa [hq] using hi
    have hagg : (isAgg ty).run P w = .ok true w := by
      unfold isAgg
      rw [Sem.run_bind, run_underlying hu w]
      cases d <;> simp_all
    simp [loadVar, Sem.run_bind, hagg, sizeOf, typeInfo, hq, hs, hl]
theorem at_event {P : Program} {ops : Array Oper} {rest : List Oper} {o : Oper} {a : Act} {w : World} {Q : Exit → Act → World → Prop} (hgd : o.guard = none) (ty : TypeId) (x : Operand) (ho : o.op = .load ty x)
    (A : Addr) (hx : a.eval x = .pointer (some A)) (d : TypeDesc) (part : List Value) (hu : P.underlying ty = some d) (hd : (match d with | .struct _ | .array _ _ => true | _ => false) = true) (hi : (P.info? ty).map (·.size) = some part.length) (hp : CellsAt w A part)
    (h : wpList P ops Q rest (a.put o.dst (.agg part.toArray)) w) : wpList P ops Q (o :: rest) a w :=
  wpList_plain hgd fun _ hK => by
    unfold Oper.wp execOp
    simp only [ho, hx, Instr.loadAt, Instr.sureAddr, Sem.run_bind, Sem.run_pure, Result.andThen_ok, run_at ty A d part hu hd hi hp]
    exact hK _ _ h
theorem add_zero (g n : Nat) : (⟨g, 0, none⟩ : Addr).add n = ⟨g, n, none⟩ := by
  unfold Addr.add
  split <;> simp_all
theorem below_setCells {B g : Nat} {a : World} (hg : B ≤ g) : ∀ (ds : List Value) (off : Nat) (w : World) (_ : Below B a w), Below B a (w.setCells g off ds)
  | [], _, _, h => h
  | v :: r, off, _, h => below_setCells hg r (off + 1) _ (h.setCell hg v)
def IR {α : Type} (d : Kd α) (e : Nat) (w : World) (lo hi : Nat) (v : Value) (xs : List α) : Prop := d.R e w lo (fun k => lo ≤ k ∧ k < hi) v xs
theorem IR.below {α : Type} {d : Kd α} {e : Nat} {w w1 : World} {lo hi : Nat} {v : Value} {xs : List α} (h : IR d e w lo hi v xs) (hb : Below w.heap.size w w1) : IR d e w1 lo hi v xs := Kd.R_below h hb
theorem IR.put {α : Type} {d : Kd α} {e : Nat} {w w1 : World} {lo hi g : Nat} {v : Value} {xs : List α} (h : IR d e w lo hi v xs) (hk : ∀ k, k ≠ g → w1.heap[k]? = w.heap[k]?) (hg : g < lo) : IR d e w1 lo hi v xs :=
  Kd.R_move h (fun k hk' => hk k (by have := hk'.1; omega))
theorem IR.own {α : Type} {d : Kd α} {e : Nat} {w : World} {lo hi : Nat} {v : Value} {xs : List α} (h : IR d e w lo hi v xs) : ∀ k, v.ownBlock = some k → lo ≤ k ∧ k < hi := h.1
end Go.Proofs.Ytbamjjaamjfnaaa.RowLaw
