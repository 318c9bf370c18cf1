/- Plain facts on integers; nothing of the program. -/
import Derived.Test.YtbhcodmpcknllaaPlainT
namespace Go.Proofs.Ytbhcodmpcknllaa
open Go.RowKit
set_option linter.unusedVariables false


def mlB (a b c d e f : Int) : Bool := lineB a b c && lineB d e f
def sameB (a b c d e f : Int) : Bool := (a == d) && ((b == e) && (c == f))
def mlOne (a b c d e f : Int) : Bool := mlB a b c d e f && (!sameB a b c d e f && !(a * e - d * b == 0))
def MlK (a b c d e f : Int) : Int := if mlB a b c d e f = true then (if sameB a b c d e f = true then 2 else if a * e - d * b = 0 then 0 else 1) else -1
def MlA (a b c d e f : Int) : Int := if mlOne a b c d e f = true then redN (c * e - f * b) (a * e - d * b) else 0
def MlB (a b c d e f : Int) : Int := if mlOne a b c d e f = true then redD (c * e - f * b) (a * e - d * b) else 0
def MlC (a b c d e f : Int) : Int := if mlOne a b c d e f = true then redN (a * f - d * c) (a * e - d * b) else 0
def MlD (a b c d e f : Int) : Int := if mlOne a b c d e f = true then redD (a * f - d * c) (a * e - d * b) else 0

end Go.Proofs.Ytbhcodmpcknllaa
