/- Covers: valid ones; their literals. -/
import Derived.Test.YtbelopdphlllnaaStr
import Derived.Test.YtbelopdphlllnaaIdx
namespace Go.Proofs.Ytbelopdphlllnaa
open Go.RowKit

def CoverOk (n : Int) (l : List ByteArray) : Prop := (∀ c ∈ l, CubeChars c ∧ (c.size : Int) = n) ∧ (1 ≤ n ∧ n ≤ 8) ∧ l.length ≤ 60

end Go.Proofs.Ytbelopdphlllnaa
