import Derived.Test.YtklcaphkfdlipaaGreatDoorPackVb
import Derived.Test.YtklcaphkfdlipaaGreatDoorShelf2
import Derived.Test.YtklcaphkfdlipaaGreatDoorPackVa
import Derived.Shelf.Sort.Plain
import Derived.Shelf.Slices.CompactS
import Derived.Shelf.Slices.In.SortNone
import Derived.Sort.OwnSorted
/- Texts in order, each once: the plain law; impl.sorted. -/
set_option linter.unusedSimpArgs false
set_option linter.unusedVariables false
namespace Go.Proofs.YtklcaphkfdlipaaGreatDoor
open Go.RowKit
def key (s : ByteArray) : List UInt8 := s.data.toList
end Go.Proofs.YtklcaphkfdlipaaGreatDoor
