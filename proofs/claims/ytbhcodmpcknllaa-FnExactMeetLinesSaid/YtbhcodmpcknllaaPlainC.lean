/- Plain facts on integers; nothing of the program. -/
import Derived.Test.YtbhcodmpcknllaaPlain
namespace Go.Proofs.Ytbhcodmpcknllaa
open Go.RowKit
set_option linter.unusedVariables false


def mkB (num den : Int) : Bool := !(den == 0) && (inB num (-2000000000000000000) 2000000000000000000 && inB den (-2000000000000000000) 2000000000000000000)
def MkN (num den : Int) : Int := if mkB num den = true then okN (redN num den) (redD num den) else 0
def MkD (num den : Int) : Int := if mkB num den = true then okD (redN num den) (redD num den) else 0
def MkB (num den : Int) : Bool := mkB num den && ratB (redN num den) (redD num den)
def rr (n d m k : Int) : Bool := ratB n d && ratB m k
def AddN (n d m k : Int) : Int := if rr n d m k = true then okN (redN (n * k + m * d) (d * k)) (redD (n * k + m * d) (d * k)) else 0
def AddD (n d m k : Int) : Int := if rr n d m k = true then okD (redN (n * k + m * d) (d * k)) (redD (n * k + m * d) (d * k)) else 0
def AddB (n d m k : Int) : Bool := rr n d m k && ratB (redN (n * k + m * d) (d * k)) (redD (n * k + m * d) (d * k))

end Go.Proofs.Ytbhcodmpcknllaa
