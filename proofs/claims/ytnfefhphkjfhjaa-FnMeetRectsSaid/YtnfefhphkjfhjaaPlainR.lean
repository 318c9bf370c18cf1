/- Plain facts on integers; nothing of the program. -/
import Derived.Test.YtnfefhphkjfhjaaPlain
namespace Go.Proofs.Ytnfefhphkjfhjaa
open Go.RowKit
set_option linter.unusedVariables false


def mxI (a b : Int) : Int := if a < b then b else a
def mnI (a b : Int) : Int := if b < a then b else a
def rectB (a b c d : Int) : Bool := v2B a b c d && (decide (a < c) && decide (b < d))
def mtB (a b c d p q r s : Int) : Bool := rectB a b c d && (rectB p q r s && rectB (mxI a p) (mxI b q) (mnI c r) (mnI d s))
def MtA (a b c d p q r s : Int) : Int := if mtB a b c d p q r s = true then mxI a p else 0
def MtB (a b c d p q r s : Int) : Int := if mtB a b c d p q r s = true then mxI b q else 0
def MtC (a b c d p q r s : Int) : Int := if mtB a b c d p q r s = true then mnI c r else 0
def MtD (a b c d p q r s : Int) : Int := if mtB a b c d p q r s = true then mnI d s else 0

end Go.Proofs.Ytnfefhphkjfhjaa
