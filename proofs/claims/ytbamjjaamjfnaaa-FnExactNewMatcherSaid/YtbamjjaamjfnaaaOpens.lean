/- Lemmas on arguments that are structs and slices, nested in themselves or not: what reads as data is told by a kind of the printed words, and what is told is good (numbers in range, sizes that fit an int). Conditions: none beyond each lemma's own. -/
import Derived.Test.YtbamjjaamjfnaaaWMore
import Derived.ProofKit
import Derived.Lib.SmallJoins
namespace Go.Proofs.Ytbamjjaamjfnaaa.Opens
open Go.Proofs.YtbamjjaamjfnaaaW.PrintWords
def Opens {α : Type} (P : Program) (t : TypeId) (d : Kd α) (G : α → Prop) (n : Nat) : Prop :=
  ∀ (m : Nat), m ≤ n → ∀ (H : Type) (enc : TypeId × Value → H) (w : World) (spare : Nat → Bool) (held : Bool) (cs : List Value) (x : DataW H × List MemPlace),
    DataW.trod enc P w 0 spare held m t cs = some x → ∃ v : α, d.K w v cs ∧ G v
theorem opens_int {P : Program} {t : TypeId} {k : IntKind} (ht : P.underlying t = some (.int k)) (n : Nat) : Opens P t (Kd.int k) (fun v => (Lit.int k v).wf = true) n := by
  intro m _ H enc w spare held cs x h
  obtain ⟨v, hv, _, hw⟩ := DataW.trod_int ht h
  exact ⟨v, hv, hw⟩
theorem opens_string {P : Program} {t : TypeId} (ht : P.underlying t = some .string) (n : Nat) : Opens P t Kd.string (fun s => s.size ≤ 9223372036854775807) n := by
  intro m _ H enc w spare held cs x h
  obtain ⟨s, hv, _, hl⟩ := DataW.trod_string ht h
  exact ⟨s, hv, by simpa [maxLen] using hl⟩
theorem list_of {α : Type} (Q : Nat → α → Prop) : ∀ n : Nat, (∀ i, i < n → ∃ v, Q i v) → ∃ xs : List α, xs.length = n ∧ ∀ j p, xs[j]? = some p → Q j p
  | 0, _ => ⟨[], rfl, fun j p h => by simp at h⟩
  | n + 1, h => by
    obtain ⟨xs, hl, hx⟩ := list_of Q n (fun i hi => h i (by omega))
    obtain ⟨v, hv⟩ := h n (by omega)
    refine ⟨xs ++ [v], by simp [hl], fun j p hj => ?_⟩
    rcases Nat.lt_or_ge j xs.length with hlt | hge
    · rw [List.getElem?_append_left hlt] at hj
      exact hx j p hj
    · rw [List.getElem?_append_right hge] at hj
      have hj0 : j - xs.length = 0 := by
        have := (List.getElem?_eq_some_iff.1 hj).1
        simp at this
        omega
      rw [hj0] at hj
      obtain rfl : v = p := by simpa using hj
      obtain rfl : j = n := by omega
      exact hv
theorem add_add (a : Addr) (m n : Nat) : (a.add m).add n = a.add (m + n) := by
  unfold Addr.add
  by_cases hm : m = 0
  · subst hm
    simp
  · by_cases hn : n = 0
    · subst hn
      simp [hm]
    · simp [hm, hn, Nat.add_assoc]
theorem opens_slice {α : Type} {P : Program} {t e : TypeId} {d : Kd α} {G : α → Prop} (ht : P.underlying t = some (.slice e)) (hsz : P.cellsOf e = d.sz) (n : Nat) (hd : Opens P e d G n) :
    Opens P t (Kd.slice e d) (fun xs => xs.length ≤ 9223372036854775807 ∧ ∀ y, y ∈ xs → G y) (n + 1) := by
  intro m hm H enc w spare held cs x h
  rcases DataW.trod_slice ht h with ⟨rfl, _⟩ | ⟨a, len, cap, elems, rest, m', rfl, rfl, _, _, hl, hc, hlen, hel, _⟩
  · exact ⟨[], ⟨none, 0, rfl, Nat.le_refl _, Kd.C_nil d w⟩, by simp, fun y hy => by simp at hy⟩
  · have hq : ∀ i, i < len → ∃ v : α, ∃ c, c.length = d.sz ∧ d.K w v c ∧ (∀ j u, c[j]? = some u → w.cell? (a.add (i * d.sz + j)) = some u) ∧ G v := by
      intro i hi
      have h1 := hel i hi
      rw [List.getElem?_eq_getElem (by omega)] at h1
      obtain ⟨c, hcs, htr⟩ := Option.bind_eq_some_iff.1 h1
      obtain ⟨_, hcl, hcc⟩ := World.cells?_some hcs
      obtain ⟨v, hk, hg⟩ := hd m' (by omega) H enc w spare held c _ htr
      refine ⟨v, c, by rw [hcl, hsz], hk, fun j u hj => ?_, hg⟩
      have hjl : j < P.cellsOf e := by
        have := (List.getElem?_eq_some_iff.1 hj).1
        omega
      have := hcc j hjl
      rw [hj, add_add, hsz] at this
      exact this
    obtain ⟨xs, hxl, hx⟩ := list_of (fun i v => ∃ c, c.length = d.sz ∧ d.K w v c ∧ (∀ j u, c[j]? = some u → w.cell? (a.add (i * d.sz + j)) = some u) ∧ G v) len hq
    have hmax : cap ≤ 9223372036854775807 := by simpa [maxLen] using hc
    refine ⟨xs, ⟨some a, cap, by rw [hxl], by omega, rfl, by omega, fun _ => ⟨a, rfl, fun j p hj => ?_⟩⟩, by omega, fun y hy => ?_⟩
    · obtain ⟨c, h1, h2, h3, _⟩ := hx j p hj
      exact ⟨c, h1, h2, h3⟩
    · obtain ⟨j, hj⟩ := List.getElem?_of_mem hy
      obtain ⟨c, _, _, _, hg⟩ := hx j y hj
      exact hg
theorem opens_le {α : Type} {P : Program} {t : TypeId} {d : Kd α} {G : α → Prop} {n n' : Nat} (h : Opens P t d G n) (hn : n' ≤ n) : Opens P t d G n' :=
  fun m hm => h m (by omega)
theorem field_of {H : Type} {enc : TypeId × Value → H} {P : Program} {w : World} {spare : Nat → Bool} {held : Bool} {n : Nat} {t : TypeId} {cs cf : List Value} {xs : List (DataW H × List MemPlace)} {i : Nat}
    (h : DataW.trod enc P w 0 spare held n t cf = xs[i]?) (hi : i < xs.length) (hc : cf = cs) : ∃ y, DataW.trod enc P w 0 spare held n t cs = some y := by
  rw [List.getElem?_eq_getElem hi] at h
  exact ⟨_, hc ▸ h⟩
theorem opens_arg {α : Type} {H : Type} {enc : TypeId × Value → H} {P : Program} {w : World} {spare : Nat → Bool} {held : Bool} {r : Reach} {b0 : Nat} {t : TypeId} {fs : Array Field} {v : Value} {dt : DataW H} {ps : List MemPlace} {d : Kd α} {G : α → Prop}
    (ht : P.underlying t = some (.struct fs)) (hv : Value.okWide P w r b0 t v) (h : DataW.Trod enc P w 0 spare held t v dt ps) (ho : ∀ n, Opens P t d G n) : ∃ (cs : Array Value) (x : α), v = .agg cs ∧ d.K w x cs.toList ∧ G x := by
  obtain ⟨cs, rfl, _⟩ := WideShapes.okWide_struct ht hv
  obtain ⟨n, hn⟩ := h
  obtain ⟨x, hk, hg⟩ := ho n n (Nat.le_refl _) H enc w spare held _ _ hn
  exact ⟨cs, x, rfl, by simpa [Value.cells] using hk, hg⟩
end Go.Proofs.Ytbamjjaamjfnaaa.Opens
