/- strings.Split: the shelf's contract, laid at this program. Conditions: none beyond each statement. -/
import Derived.Test.YtfilllhbhgkmaaaDoorShReplace
namespace Go.Proofs
open Go.Shelf
shelf_lay LaysM.n146 Nm 146 at Tryd as Tryd.lays146
end Go.Proofs
namespace Go.Proofs.YtfilllhbhgkmaaaDoor
open Go.RowKit Go.Shelf
theorem split_calls (s sep : ByteArray) (w : World) (hT : WT w) (hs : s.size < 4294967281) (h1 : 1 ≤ sep.size) :
    Calls Tryd.prog 41 #[.string s, .string sep] w fun e w' =>
      e = .returned (.slice (some ⟨w.heap.size, 0, none⟩) (Lib.countB s sep + 1) (Lib.countB s sep + 1)) ∧ w' = w.alloc (.cells ((Lib.splitB sep 0 (Lib.countB s sep) s).map Value.string).toArray 9) := by
  obtain ⟨m, hm⟩ := hT
  exact Any.strings_Split { Tryd.lays146 with } Tryd.lays146.i9 s sep m w hs hm h1
end Go.Proofs.YtfilllhbhgkmaaaDoor
