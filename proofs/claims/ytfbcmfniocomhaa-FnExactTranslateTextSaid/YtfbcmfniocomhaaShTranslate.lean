/- strings.LastIndexByte: the shelf's contract, laid at this program. Conditions: none beyond each statement. -/
import Derived.Test.YtfbcmfniocomhaaProg
import Derived.Test.YtfbcmfniocomhaaWWords
import Derived.Ground.NamesProg
import Derived.Shelf.Lay
import Derived.Shelf.Strings.LastIndex
import Derived.Lib.OwnBridge
import Derived.Lib.ConvBytes
namespace Go.Proofs
open Go.Shelf
shelf_lay Lays.n149 Nm 149 at Try as Try.lays149
end Go.Proofs
namespace Go.Proofs.Ytfbcmfniocomhaa
open Go.RowKit Go.Proofs.YtfbcmfniocomhaaW.PrintWords
/-- What a byte becomes. -/
def trI (a1 a2 : ByteArray) (c : Int) : Int := if 0 ≤ Lib.lastIndexByte a1 c then bt a2 (Lib.lastIndexByte a1 c) else c
/-- The first i bytes are done. -/
def trL (a1 a2 : ByteArray) (i : Nat) (l : List Int) : List Int := (l.take i).map (trI a1 a2) ++ l.drop i
theorem bytes_frozen (w : World) (e : TypeId) (s : ByteArray) (j : Nat) (hj : j < s.size) : (Lib.bytesWorld w e s).frozen? ⟨w.heap.size, j, none⟩ = false := by
  have hz : s.size ≤ (Lib.bytesCells w e s).size := by
    unfold Lib.bytesCells
    rw [Array.size_append, Array.size_map]
    exact Nat.le_add_right _ _
  have hn := Lib.bytesWorld_at_new w e s
  simp only [World.frozen?, hn]
  simp
  omega
theorem bytes_holds (w : World) (e : TypeId) (s : ByteArray) : Sort.Holds (Value.int .u8) (Lib.bytesWorld w e s) w.heap.size 0 (bytesOf s).toArray := by
  intro j hj
  have hj1 : j < (bytesOf s).length := by simpa using hj
  have hj2 : j < s.size := by rw [← bytesOf_length]; exact hj1
  have h3 : j < s.data.toList.length := by rw [data_length]; exact hj2
  rw [Nat.zero_add]
  refine ⟨?_, bytes_frozen w e s j hj2⟩
  rw [Lib.bytesWorld_cell w e s j hj2]
  simp [bytesOf, List.getD_eq_getElem?_getD, getElem!_pos, hj2]
theorem row_reads {w : World} {blk : Nat} {d d0 : List Int} (h : Sort.Holds (Value.int .u8) w blk 0 d0.toArray) (hl : d.length = d0.length) (hz : d0.length ≤ 9223372036854775807) (q : Nat) :
    ReadsInt (Sort.putRow (Value.int .u8) (Sort.ahead w q) blk 0 d.toArray) .u8 (some ⟨blk, 0, none⟩) d0.length d := by
  refine ⟨hl, hz, fun _ => ⟨_, rfl, fun j hj => ?_⟩⟩
  have hh := Sort.holds_putRow (Value.int .u8) (Sort.ahead w q) blk 0 d0.toArray d.toArray (Sort.holds_ahead _ w q blk 0 _ h) (by simpa using hl)
  have hj' : j < d.length := by omega
  have := (hh j (by simpa using hj')).1
  rw [Nat.zero_add] at this
  rw [add_plain, this]
  simp [List.getD_eq_getElem?_getD, getElem!_pos, hj']
theorem tr_lt (a1 : ByteArray) (c : Int) : Lib.lastIndexByte a1 c < (a1.size : Int) ∨ Lib.lastIndexByte a1 c = -1 := by
  rcases Lib.lastIdx_spec a1 c a1.size with ⟨h, _⟩ | ⟨i, h1, h2, _⟩
  · exact .inr h
  · left
    show Lib.lastIdx a1 c a1.size < _
    omega
theorem tr_length (a1 a2 : ByteArray) (i : Nat) (l : List Int) : (trL a1 a2 i l).length = l.length := by
  unfold trL
  rw [List.length_append, List.length_map, List.length_take, List.length_drop]
  omega
theorem tr_start {a1 a2 a0 : ByteArray} {w : World} (h : Sort.Holds (Value.int .u8) (Lib.bytesWorld w 5 a0) w.heap.size 0 (bytesOf a0).toArray) : Lib.bytesWorld w 5 a0 = Sort.putRow (Value.int .u8) (Sort.ahead (Lib.bytesWorld w 5 a0) 0) w.heap.size 0 (trL a1 a2 0 (bytesOf a0)).toArray := by
  have e : trL a1 a2 0 (bytesOf a0) = bytesOf a0 := by
    unfold trL
    simp
  rw [e]
  exact (Sort.putRow_self (Value.int .u8) _ w.heap.size 0 (bytesOf a0).toArray h).symm
theorem tr_at (a1 a2 : ByteArray) (i : Nat) (l : List Int) (hi : i < l.length) : (trL a1 a2 i l)[i]? = some (rd l (i : Int)) := by
  unfold trL
  rw [List.getElem?_append_right (by simp; omega), List.length_map, List.length_take, show i - min i l.length = 0 by omega, List.getElem?_drop, Nat.add_zero]
  unfold rd
  rw [Int.toNat_natCast, List.getD_eq_getElem?_getD, List.getElem?_eq_getElem hi]
  rfl
theorem tr_row {a1 a2 a0 : ByteArray} {w : World} (h : Sort.Holds (Value.int .u8) (Lib.bytesWorld w 5 a0) w.heap.size 0 (bytesOf a0).toArray) (i q : Nat) (hi : i < a0.size) :
    (Sort.putRow (Value.int .u8) (Sort.ahead (Lib.bytesWorld w 5 a0) q) w.heap.size 0 (trL a1 a2 i (bytesOf a0)).toArray).cell? ⟨w.heap.size, i, none⟩ = some (.int .u8 (rd (bytesOf a0) (i : Int))) ∧
    (Sort.putRow (Value.int .u8) (Sort.ahead (Lib.bytesWorld w 5 a0) q) w.heap.size 0 (trL a1 a2 i (bytesOf a0)).toArray).frozen? ⟨w.heap.size, i, none⟩ = false := by
  have hl := tr_length a1 a2 i (bytesOf a0)
  have hb : (bytesOf a0).length = a0.size := bytesOf_length a0
  have hh := Sort.holds_putRow (Value.int .u8) (Sort.ahead (Lib.bytesWorld w 5 a0) q) w.heap.size 0 (bytesOf a0).toArray (trL a1 a2 i (bytesOf a0)).toArray (Sort.holds_ahead _ _ q _ 0 _ h) (by simpa using hl)
  have h1 := hh i (by simp only [List.size_toArray]; omega)
  rw [Nat.zero_add] at h1
  have h2 := tr_at a1 a2 i (bytesOf a0) (by omega)
  have h3 : (trL a1 a2 i (bytesOf a0)).toArray[i]! = rd (bytesOf a0) (i : Int) := by
    have q1 : i < (trL a1 a2 i (bytesOf a0)).length := by omega
    rw [List.getElem?_eq_getElem q1] at h2
    rw [getElem!_pos _ _ (by simpa using q1)]
    simpa using Option.some.inj h2
  rw [h3] at h1
  exact h1
theorem tr_set (a1 a2 : ByteArray) (i : Nat) (l : List Int) (hi : i < l.length) : trL a1 a2 (i + 1) l = (trL a1 a2 i l).set i (trI a1 a2 (rd l (i : Int))) := by
  have hr : rd l (i : Int) = l[i] := by
    unfold rd
    rw [Int.toNat_natCast, List.getD_eq_getElem?_getD, List.getElem?_eq_getElem hi]
    rfl
  have hA : (List.map (trI a1 a2) (List.take i l)).length = i := by rw [List.length_map, List.length_take]; omega
  unfold trL
  rw [List.set_append, if_neg (show ¬ i < (List.map (trI a1 a2) (List.take i l)).length by omega), List.length_map, List.length_take, show i - min i l.length = 0 by omega, List.drop_eq_getElem_cons hi, List.take_add_one, List.getElem?_eq_getElem hi, hr, List.map_append, List.append_assoc]
  rfl
theorem tr_keep (a1 a2 : ByteArray) (i : Nat) (l : List Int) (hi : i < l.length) (h : trI a1 a2 (rd l (i : Int)) = rd l (i : Int)) : trL a1 a2 (i + 1) l = trL a1 a2 i l := by
  have h1 := tr_at a1 a2 i l hi
  have hl := tr_length a1 a2 i l
  rw [tr_set a1 a2 i l hi, h]
  rw [List.getElem?_eq_getElem (by omega)] at h1
  rw [← Option.some.inj h1]
  exact List.set_getElem_self (by omega)
theorem tr_store {a1 a2 : ByteArray} {w : World} {blk : Nat} (i : Nat) (l : List Int) (hi : i < l.length) {x : Int} (hx : trI a1 a2 (rd l (i : Int)) = x) : (Sort.putRow (Value.int .u8) w blk 0 (trL a1 a2 i l).toArray).setCell ⟨blk, i, none⟩ (.int .u8 x) = Sort.putRow (Value.int .u8) w blk 0 (trL a1 a2 (i + 1) l).toArray := by
  have h := Sort.putRow_set (Value.int .u8) w blk 0 (trL a1 a2 i l).toArray i x (by simp only [List.size_toArray]; rw [tr_length]; exact hi)
  rw [Nat.zero_add] at h
  rw [h, tr_set a1 a2 i l hi, hx]
  simp
theorem tr_below (w : World) (e : TypeId) (s : ByteArray) : Below w.heap.size w (Lib.bytesWorld w e s) := bytes_below (Below.refl _ _) (Nat.le_refl _) e s
theorem row_drewN (w : World) (q x blk : Nat) (d : Array Int) : (Sort.putRow (Value.int .u8) (Sort.ahead w q) blk 0 d).drewN x = Sort.putRow (Value.int .u8) (Sort.ahead w (q + x)) blk 0 d := by
  show Sort.ahead (Sort.putRow (Value.int .u8) (Sort.ahead w q) blk 0 d) x = _
  rw [← Sort.putRow_ahead, Sort.ahead_ahead]
theorem last_step (a1 : ByteArray) (c j : Int) (h0 : 0 ≤ j) (h1 : j < (a1.size : Int)) : Lib.lastIdx a1 c (j + 1).toNat = if bt a1 j = c then j else Lib.lastIdx a1 c j.toNat := by
  obtain ⟨k, rfl⟩ := Int.eq_ofNat_of_zero_le h0
  have e : ((k : Int) + 1).toNat = k + 1 := by omega
  have hk : k < a1.size := by omega
  have hb : bt a1 (k : Int) = ((a1.data[k]!).toNat : Int) := by
    unfold bt
    rw [dif_pos (show ((k : Int)).toNat < a1.size by omega), getElem!_pos a1.data k hk]
    rfl
  rw [e, hb, Int.toNat_natCast]
  rfl
end Go.Proofs.Ytfbcmfniocomhaa
