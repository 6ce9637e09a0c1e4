/- The struct types of this program, as data: t..: as the program has them, l..: as the laws mirror them. -/
import Derived.Test.YtbelopdphlllnaaBase
namespace Go.Proofs.Ytbelopdphlllnaa
abbrev DSignal : Type := ByteArray × Int
abbrev tSignal : Ty := .pr .str .int
abbrev lSignal : Ty := .pr .str .int
abbrev DPin : Type := Int × Bool
abbrev tPin : Ty := .pr .int .bool
abbrev lPin : Ty := .pr .int .bool
abbrev DWire : Type := ByteArray × Int × (List DPin) × (List ByteArray)
abbrev tWire : Ty := .pr .str (.pr .int (.pr (.sl 244 tPin) (.sl 9 .str)))
abbrev lWire : Ty := .pr .str (.pr .int (.pr (.sl 246 lPin) (.sl 9 .str)))
abbrev DNetlist : Type := (List DSignal) × (List DWire)
abbrev tNetlist : Ty := .pr (.sl 129 tSignal) (.sl 97 tWire)
abbrev lNetlist : Ty := .pr (.sl 133 lSignal) (.sl 137 lWire)
abbrev DTransition : Type := (List Int) × (List Int)
abbrev tTransition : Ty := .pr (.sl 3 .int) (.sl 3 .int)
abbrev lTransition : Ty := .pr (.sl 3 .int) (.sl 3 .int)
abbrev DNet : Type := Int × (List DTransition)
abbrev tNet : Ty := .pr .int (.sl 146 tTransition)
abbrev lNet : Ty := .pr .int (.sl 201 lTransition)
abbrev DLabel : Type := Int × Bool
abbrev tLabel : Ty := .pr .int .bool
abbrev lLabel : Ty := .pr .int .bool
abbrev DSTG : Type := DNet × (List DSignal) × (List DLabel) × ByteArray
abbrev tSTG : Ty := .pr tNet (.pr (.sl 129 tSignal) (.pr (.sl 131 tLabel) .str))
abbrev lSTG : Ty := .pr lNet (.pr (.sl 133 lSignal) (.pr (.sl 149 lLabel) .str))
abbrev DOrdering : Type := Int × Int × Bool
abbrev tOrdering : Ty := .pr .int (.pr .int .bool)
abbrev lOrdering : Ty := .pr .int (.pr .int .bool)
abbrev DArc : Type := Int × Int × Bool × Int
abbrev tArc : Ty := .pr .int (.pr .int (.pr .bool .int))
abbrev lArc : Ty := .pr .int (.pr .int (.pr .bool .int))
abbrev DStateGraph : Type := (List DSignal) × (List ByteArray) × (List DArc)
abbrev tStateGraph : Ty := .pr (.sl 129 tSignal) (.pr (.sl 9 .str) (.sl 170 tArc))
abbrev lStateGraph : Ty := .pr (.sl 133 lSignal) (.pr (.sl 9 .str) (.sl 172 lArc))
abbrev DMove : Type := Int × Int × Int
abbrev tMove : Ty := .pr .int (.pr .int .int)
abbrev DReachabilityGraph : Type := (List ByteArray) × (List DMove)
abbrev tReachabilityGraph : Ty := .pr (.sl 9 .str) (.sl 229 tMove)
end Go.Proofs.Ytbelopdphlllnaa
