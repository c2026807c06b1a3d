/- A contract: a byte is written to a builder. No condition of ours. -/
import Derived.Test.YtgajlhejefjhhaaGreatDoorT1
import Derived.Test.YtgajlhejefjhhaaGreatDoorShelf
namespace Go.Proofs.YtgajlhejefjhhaaGreatDoor
open Go.RowKit

/-- (*strings.Builder).WriteString -/
theorem writeString (B b : Nat) (bs : List Value) (s : ByteArray) (w : World) (h : Lib.IsBuilderF 74 5 B b bs w) (hlen : bs.length + s.size ≤ 140737488355328) (hBw : B ≤ w.heap.size) :
    Calls Tryz.prog 47 #[.pointer (some ⟨b, 0, none⟩), .string s] w fun e w' => e = .returned (.tuple #[.int .i64 s.size, .nilIface]) ∧ (Lib.BuilderAtF 74 5 B b (.pointer (some ⟨b, 0, none⟩)) (bs ++ Lib.strCells s) w' ∧ Below B w w' ∧ Lib.OthersKept 5 (some b) w w') :=
  Any.Builder_WriteString_k { Tryz.lays156 with } Tryz.Builder_Extra_156 B b bs s w h hlen hBw
end Go.Proofs.YtgajlhejefjhhaaGreatDoor
