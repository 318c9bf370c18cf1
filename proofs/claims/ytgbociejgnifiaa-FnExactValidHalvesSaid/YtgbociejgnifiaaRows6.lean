/- Contracts of functions that this seat's statements reach: each is shown to compute a plain Lean function, and to leave what was there as it was. No conditions but those in each theorem. -/
import Derived.Test.YtgbociejgnifiaaRows5
namespace Go.Proofs.Ytgbociejgnifiaa
open Go.RowKit
set_option linter.unusedVariables false

theorem spec_ValidHalves (b off n c : Nat) (zs : List (Int × Int × Int)) (w : World) (hn : n ≤ 1048576) (hz : zs.length = n) (hb : b < w.heap.size) (hr : rowOfHalfPlane w b off zs) :
    Calls Try.prog 32 #[.slice (some ⟨b, off, none⟩) n c] w fun e w' => e = .returned (.bool (zs.all (fun z : Int × Int × Int => hpB z.1 z.2.1 z.2.2) && decide (zs.length ≤ 8))) ∧ Below w.heap.size w w' := by
  have HI := Lib.hid (spec_validHalves b off n c zs w hn hz hb hr)
  clear hz hr
  go_enter Try.func32, Try.ntmps32
  go_wp2_with fail
  refine HI.out.mono ?_
  rintro e w' ⟨rfl, hb'⟩
  go_wp2
  go_ret
  exact ⟨rfl, hb'⟩

end Go.Proofs.Ytgbociejgnifiaa
