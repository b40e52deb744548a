/- Lemmas on boxes of structs whose cells are told as one array: a whole struct read out of a box, a whole struct laid into one. Conditions: none beyond each statement. -/
import Derived.Laws.Rows
import Derived.Laws.Tables
import Derived.Laws.CopyOwn
import Derived.Laws.CopyRow
import Derived.Deep.MidRow
import Derived.OrdersHeld
import Derived.Test.YtcjnehnobnajnaaDoorWMore
namespace Go.Proofs.YtcjnehnobnajnaaDoor.RowLaw
open Go.RowKit Go.Proofs.YtcjnehnobnajnaaDoorW.PrintWords
/-- A struct, read whole out of its box. -/
theorem load_run {P : Program} {oi : Oper} {a : Act} {w : World} (ty : TypeId) (x : Operand) (ho : oi.op = .load ty x) (g : Nat) (hx : a.eval x = .pointer (some ⟨g, 0, none⟩)) (t : TypeId) (cs : Array Value) (d : TypeDesc) (hg : w.heap[g]? = some (.cells cs t (0, 0)))
    (hu : P.underlying ty = some d) (hd : (match d with | .struct _ | .array _ _ => true | _ => false) = true) (hi : (P.info? ty).map (·.size) = some cs.size) : (execOp a.eval oi).run P w = .ok (.value (.agg cs)) w := by
  unfold execOp
  simp only [ho, hx, Instr.loadAt, Instr.sureAddr, Sem.run_bind, Sem.run_pure, Result.andThen_ok, run_loadVar_row w g t ty cs (0, 0) d hg hu hd hi]
/-- A struct, laid whole into its box. -/
theorem store_event {P : Program} {ops : Array Oper} {rest : List Oper} {o : Oper} {a : Act} {w : World} {Q : Exit → Act → World → Prop} (hgd : o.guard = none) (ty : TypeId) (x y : Operand) (ho : o.op = .store ty x y)
    (g : Nat) (cells : Array Value) (hx : a.eval x = .pointer (some ⟨g, 0, none⟩)) (hy : a.eval y = .agg cells)
    (t : TypeId) (old : Array Value) (hg : w.heap[g]? = some (.cells old t (0, 0))) (hi : (P.info? ty).map (·.size) = some cells.size)
    (hold : old.size = cells.size) (h1 : cells.all (·.oneCell') = true)
    (h : ∀ w2 : World, w2.heap[g]? = some (.cells cells t (0, 0)) → (∀ (B : Nat) (w0 : World), Below B w0 w → B ≤ g → Below B w0 w2) → wpList P ops Q rest (a.put o.dst undef) w2) : wpList P ops Q (o :: rest) a w :=
  wpList_store_row hgd ty x y ho g cells hx hy t old hg hi hold h1 (h _ (setRow_heap w g old cells t (0, 0) hg) (fun _ _ hb hl => below_setRow hb hl cells))
theorem all_one {α : Type} {d : Kd α} {w : World} {x : α} {cs : Array Value} (h : d.K w x cs.toList) : cs.all (·.oneCell') = true := by
  rw [Array.all_eq_true_iff_forall_mem]
  intro v hv
  exact d.K_one h v (by simpa using hv)
theorem size_of {α : Type} {d : Kd α} {w : World} {x : α} {cs : Array Value} (h : d.K w x cs.toList) : cs.size = d.sz := by
  have := d.K_len h
  simpa using this
/-- A part of a box, read whole. -/
theorem run_part {P : Program} {w : World} (ty : TypeId) (g o : Nat) (t : TypeId) (cs : Array Value) (d : TypeDesc) (part : List Value) (hg : w.heap[g]? = some (.cells cs t (0, 0)))
    (hu : P.underlying ty = some d) (hd : (match d with | .struct _ | .array _ _ => true | _ => false) = true) (hi : (P.info? ty).map (·.size) = some part.length) (hp : ∀ j v, part[j]? = some v → cs[o + j]? = some v) :
    (loadVar ty ⟨g, o, none⟩).run P w = .ok (.agg part.toArray) w := by
  have hl := run_loadCells_list (P := P) w ⟨g, o, none⟩ part (fun j v hv => by
    have hadd : (⟨g, o, none⟩ : Addr).add j = ⟨g, o + j, none⟩ := by unfold Addr.add; split <;> simp_all
    rw [hadd, cell_of_row w g (o + j) cs t (0, 0) hg]
    exact hp j v hv)
  cases hq : P.info? ty with
  | none => simp [hq] at hi
  | some i =>
    have hs : i.size = part.length := by simpa [hq] using hi
    have hagg : (isAgg ty).run P w = .ok true w := by
      unfold isAgg
      rw [Sem.run_bind, run_underlying hu w]
      cases d <;> simp_all
    simp [loadVar, Sem.run_bind, hagg, sizeOf, typeInfo, hq, hs, hl]
theorem part_of {cs : Array Value} {off : Nat} {part : List Value} (h : (cs.toList.drop off).take part.length = part) : ∀ j v, part[j]? = some v → cs[off + j]? = some v := by
  intro j v hj
  have h2 : ((cs.toList.drop off).take part.length)[j]? = some v := by rw [h]; exact hj
  rw [List.getElem?_take] at h2
  split at h2
  · rw [List.getElem?_drop] at h2
    simpa using h2
  · cases h2
theorem part_event {P : Program} {ops : Array Oper} {rest : List Oper} {o : Oper} {a : Act} {w : World} {Q : Exit → Act → World → Prop} (hgd : o.guard = none) (ty : TypeId) (x : Operand) (ho : o.op = .load ty x)
    (g off : Nat) (hx : a.eval x = .pointer (some ⟨g, off, none⟩)) (t : TypeId) (cs : Array Value) (d : TypeDesc) (part : List Value) (hg : w.heap[g]? = some (.cells cs t (0, 0)))
    (hu : P.underlying ty = some d) (hd : (match d with | .struct _ | .array _ _ => true | _ => false) = true) (hi : (P.info? ty).map (·.size) = some part.length) (hp : ∀ j v, part[j]? = some v → cs[off + j]? = some v)
    (h : wpList P ops Q rest (a.put o.dst (.agg part.toArray)) w) : wpList P ops Q (o :: rest) a w :=
  wpList_plain hgd fun _ hK => by
    unfold Oper.wp execOp
    simp only [ho, hx, Instr.loadAt, Instr.sureAddr, Sem.run_bind, Sem.run_pure, Result.andThen_ok, run_part ty g off t cs d part hg hu hd hi hp]
    exact hK _ _ h
/-- One cell of a box, read. -/
theorem cell_event {P : Program} {ops : Array Oper} {rest : List Oper} {o : Oper} {a : Act} {w : World} {Q : Exit → Act → World → Prop} (hgd : o.guard = none) (ty : TypeId) (x : Operand) (ho : o.op = .load ty x)
    (g off : Nat) (hx : a.eval x = .pointer (some ⟨g, off, none⟩)) (t : TypeId) (cs : Array Value) (d : TypeDesc) (v : Value) (hg : w.heap[g]? = some (.cells cs t (0, 0)))
    (hu : P.underlying ty = some d) (hd : (match d with | .struct _ | .array _ _ => true | _ => false) = false) (hp : cs[off]? = some v)
    (h : wpList P ops Q rest (a.put o.dst v) w) : wpList P ops Q (o :: rest) a w :=
  wpList_plain hgd fun _ hK => by
    have hagg : (isAgg ty).run P w = .ok false w := by
      unfold isAgg
      rw [Sem.run_bind, run_underlying hu w]
      cases d <;> simp_all
    have hc : w.cell? ⟨g, off, none⟩ = some v := (cell_of_row w g off cs t (0, 0) hg).trans hp
    have hl : (loadVar ty ⟨g, off, none⟩).run P w = .ok v w := by simp [loadVar, Sem.run_bind, hagg, hc]
    unfold Oper.wp execOp
    simp only [ho, hx, Instr.loadAt, Instr.sureAddr, Sem.run_bind, Sem.run_pure, Result.andThen_ok, hl]
    exact hK _ _ h
/-- A value of one or several cells, laid into a part of a box. -/
theorem put_event {P : Program} {ops : Array Oper} {rest : List Oper} {o : Oper} {a : Act} {w : World} {Q : Exit → Act → World → Prop} (hgd : o.guard = none) (ty : TypeId) (x y : Operand) (ho : o.op = .store ty x y)
    (g off : Nat) (val : Value) (hx : a.eval x = .pointer (some ⟨g, off, none⟩)) (hy : a.eval y = val) (vs : List Value) (hv : val.cells = vs.toArray)
    (t : TypeId) (cur new : Array Value) (hg : w.heap[g]? = some (.cells cur t (0, 0))) (hi : (P.info? ty).map (·.size) = some vs.length)
    (hl : off + vs.length ≤ cur.size) (h1 : vs.all (·.oneCell') = true) (hn : (cur.toList.take off ++ vs ++ cur.toList.drop (off + vs.length)).toArray = new)
    (h : ∀ w2 : World, w2.heap[g]? = some (.cells new t (0, 0)) → (∀ k, k ≠ g → w2.heap[k]? = w.heap[k]?) → (∀ (B : Nat) (w0 : World), Below B w0 w → B ≤ g → Below B w0 w2) → w2.heap.size = w.heap.size → wpList P ops Q rest (a.put o.dst undef) w2) : wpList P ops Q (o :: rest) a w :=
  wpList_plain hgd fun _ hK => by
    have hst := run_storeCells_at (P := P) g off t vs 0 cur w hg (by omega) (fun v hv => List.all_eq_true.1 h1 v hv)
    simp only [Nat.add_zero] at hst
    have hsv : (storeVar ty ⟨g, off, none⟩ val).run P w = .ok () (w.setRow g new) := by
      cases hq : P.info? ty with
      | none => simp [hq] at hi
      | some i =>
        have hs : vs.length = i.size := by simp [hq] at hi; omega
        rw [← hn]
        simp [storeVar, sizeOf, typeInfo, hq, hv, hs]
        simpa [hs] using hst
    unfold Oper.wp execOp
    simp only [ho, hx, hy, Instr.storeAt, Instr.sureAddr, Sem.run_bind, Sem.run_pure, Result.andThen_ok, hsv]
    exact hK _ _ (h _ (setRow_heap w g cur new t (0, 0) hg) (fun k hk => setRow_other w g k new hk) (fun _ _ hb hl => below_setRow hb hl new) (size_setRow w g new))
/-- The cells from an address on. -/
def CellsAt (w : World) (A : Addr) (c : List Value) : Prop := ∀ j u, c[j]? = some u → w.cell? (A.add j) = some u
theorem CellsAt.below {w w1 : World} {A : Addr} {c : List Value} (h : CellsAt w A c) (hb : Below w.heap.size w w1) : CellsAt w1 A c := fun j u hj => (hb.cell (World.block_lt_of_cell? w _ (h j u hj))).trans (h j u hj)
theorem add_two (a : Addr) (m n : Nat) : (a.add m).add n = a.add (m + n) := by
  unfold Addr.add
  by_cases hm : m = 0
  · subst hm
    simp
  · by_cases hn : n = 0
    · subst hn
      simp [hm]
    · simp [hm, hn, Nat.add_assoc]
/-- An element of a row that is read: its cells, and what they tell. -/
theorem elem_of {α : Type} {d : Kd α} {w : World} {A : Option Addr} {n : Nat} {xs : List α} (h : d.C w A n xs) (z : α) (i : Int) (h0 : 0 ≤ i) (h1 : i < n) :
    ∃ ad c, A = some ad ∧ c.length = d.sz ∧ d.K w (xs.getD i.toNat z) c ∧ CellsAt w (ad.add (i.toNat * d.sz)) c := by
  obtain ⟨ad, c, e, hl, hK, hc⟩ := Kd.C_get h z i h0 h1
  exact ⟨ad, c, e, hl, hK, fun j u hj => by rw [add_two]; exact hc j u hj⟩
theorem run_at {P : Program} {w : World} (ty : TypeId) (A : Addr) (d : TypeDesc) (part : List Value) (hu : P.underlying ty = some d) (hd : (match d with | .struct _ | .array _ _ => true | _ => false) = true) (hi : (P.info? ty).map (·.size) = some part.length) (hp : CellsAt w A part) :
    (loadVar ty A).run P w = .ok (.agg part.toArray) w := by
  have hl := run_loadCells_list (P := P) w A part hp
  cases hq : P.info? ty with
  | none => simp [hq] at hi
  | some i =>
    have hs : i.size = part.length := by simpa [hq] using hi
    have hagg : (isAgg ty).run P w = .ok true w := by
      unfold isAgg
      rw [Sem.run_bind, run_underlying hu w]
      cases d <;> simp_all
    simp [loadVar, Sem.run_bind, hagg, sizeOf, typeInfo, hq, hs, hl]
theorem at_run {P : Program} {oi : Oper} {a : Act} {w : World} (ty : TypeId) (x : Operand) (ho : oi.op = .load ty x) (A : Addr) (hx : a.eval x = .pointer (some A)) (d : TypeDesc) (part : List Value)
    (hu : P.underlying ty = some d) (hd : (match d with | .struct _ | .array _ _ => true | _ => false) = true) (hi : (P.info? ty).map (·.size) = some part.length) (hp : CellsAt w A part) : (execOp a.eval oi).run P w = .ok (.value (.agg part.toArray)) w := by
  unfold execOp
  simp only [ho, hx, Instr.loadAt, Instr.sureAddr, Sem.run_bind, Sem.run_pure, Result.andThen_ok, run_at ty A d part hu hd hi hp]
theorem at_event {P : Program} {ops : Array Oper} {rest : List Oper} {o : Oper} {a : Act} {w : World} {Q : Exit → Act → World → Prop} (hgd : o.guard = none) (ty : TypeId) (x : Operand) (ho : o.op = .load ty x)
    (A : Addr) (hx : a.eval x = .pointer (some A)) (d : TypeDesc) (part : List Value) (hu : P.underlying ty = some d) (hd : (match d with | .struct _ | .array _ _ => true | _ => false) = true) (hi : (P.info? ty).map (·.size) = some part.length) (hp : CellsAt w A part)
    (h : wpList P ops Q rest (a.put o.dst (.agg part.toArray)) w) : wpList P ops Q (o :: rest) a w :=
  wpList_plain hgd fun _ hK => by
    unfold Oper.wp execOp
    simp only [ho, hx, Instr.loadAt, Instr.sureAddr, Sem.run_bind, Sem.run_pure, Result.andThen_ok, run_at ty A d part hu hd hi hp]
    exact hK _ _ h
theorem one_list {α : Type} {d : Kd α} {w : World} {x : α} {c : List Value} (h : d.K w x c) : c.all (·.oneCell') = true := List.all_eq_true.2 (fun v hv => d.K_one h v hv)
/-- A whole box laid anew. -/
theorem whole_put {cur : Array Value} {vs : List Value} {n : Nat} (h : n = vs.length) (hc : cur.size = n) : (cur.toList.take 0 ++ vs ++ cur.toList.drop (0 + vs.length)).toArray = vs.toArray := by
  have e : cur.toList.drop (0 + vs.length) = [] := List.drop_eq_nil_of_le (by simp; omega)
  rw [e]
  simp
/-- A struct, laid whole into an element of a row. -/
theorem seg_event {P : Program} {ops : Array Oper} {rest : List Oper} {o : Oper} {a : Act} {w : World} {Q : Exit → Act → World → Prop} (hgd : o.guard = none) (ty : TypeId) (x y : Operand) (ho : o.op = .store ty x y)
    (A : Addr) (g off : Nat) (ds : List Value) (hx : a.eval x = .pointer (some A)) (hA : A = ⟨g, off, none⟩) (hy : a.eval y = .agg ds.toArray) (c : List Value) (hcl : c.length = ds.length)
    (hcc : ∀ j u, c[j]? = some u → w.cell? ⟨g, off + j, none⟩ = some u) (hfr : ∀ j, w.frozen? ⟨g, off + j, none⟩ = false) (hi : (P.info? ty).map (·.size) = some ds.length) (h1 : ds.all (·.oneCell') = true)
    (h : ∀ w2 : World, w2 = w.setCells g off ds → wpList P ops Q rest (a.put o.dst undef) w2) : wpList P ops Q (o :: rest) a w := by
  subst hA
  refine Go.wpList_store_mid hgd ty x y ho g off ds.toArray hx hy (fun j hj => ?_) hi (Go.all_oneCell_toArray (List.all_eq_true.1 h1)) (h _ (by simp))
  have hj' : j < c.length := by simpa [hcl] using hj
  exact ⟨by rw [hcc j _ (List.getElem?_eq_getElem hj')]; rfl, hfr j⟩
theorem seg_whole {c ds : List Value} (h : c.length = ds.length) : c.take 0 ++ ds ++ c.drop (0 + ds.length) = ds := by
  rw [List.drop_eq_nil_of_le (by omega)]
  simp
theorem add_zero (g n : Nat) : (⟨g, 0, none⟩ : Addr).add n = ⟨g, n, none⟩ := by
  unfold Addr.add
  split <;> simp_all
theorem below_setCells {B g : Nat} {a : World} (hg : B ≤ g) : ∀ (ds : List Value) (off : Nat) (w : World) (_ : Below B a w), Below B a (w.setCells g off ds)
  | [], _, _, h => h
  | v :: r, off, _, h => below_setCells hg r (off + 1) _ (h.setCell hg v)
/-- A row of the call's own whose blocks lie from lo to below hi. -/
def IR {α : Type} (d : Kd α) (e : Nat) (w : World) (lo hi : Nat) (v : Value) (xs : List α) : Prop := d.R e w lo (fun k => lo ≤ k ∧ k < hi) v xs
theorem IR.of {α : Type} {d : Kd α} {e : Nat} {w : World} {lo : Nat} {ok : Nat → Prop} {v : Value} {xs : List α} (h : d.R e w lo ok v xs) : IR d e w lo w.heap.size v xs := Kd.R_mono (Kd.R_bound h) (fun _ hk => ⟨hk.2.1, hk.2.2.1⟩)
theorem IR.below {α : Type} {d : Kd α} {e : Nat} {w w1 : World} {lo hi : Nat} {v : Value} {xs : List α} (h : IR d e w lo hi v xs) (hb : Below w.heap.size w w1) : IR d e w1 lo hi v xs := Kd.R_below h hb
theorem IR.put {α : Type} {d : Kd α} {e : Nat} {w w1 : World} {lo hi g : Nat} {v : Value} {xs : List α} (h : IR d e w lo hi v xs) (hk : ∀ k, k ≠ g → w1.heap[k]? = w.heap[k]?) (hg : g < lo) : IR d e w1 lo hi v xs :=
  Kd.R_move h (fun k hk' => hk k (by have := hk'.1; omega))
theorem IR.own {α : Type} {d : Kd α} {e : Nat} {w : World} {lo hi : Nat} {v : Value} {xs : List α} (h : IR d e w lo hi v xs) : ∀ k, v.ownBlock = some k → lo ≤ k ∧ k < hi := h.1
end Go.Proofs.YtcjnehnobnajnaaDoor.RowLaw
