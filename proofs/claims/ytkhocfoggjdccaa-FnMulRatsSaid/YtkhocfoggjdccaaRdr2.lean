/- What the draws yield. -/
import Derived.Test.YtkhocfoggjdccaaRdr
namespace Go.Proofs.Ytkhocfoggjdccaa
open Go.RowKit
set_option linter.unusedVariables false

set_option maxHeartbeats 1000000 in
theorem rdr_one (B R : Nat) (a : Option Addr) (n c p : Nat) (L k : Nat) (lo hi : Int) (w : World) (h : Rdr w B R a n c p) (hp1 : p ≤ 100000) (hL : ListOf w L k lo hi) (hRL : R < L) (hk : 0 < k) (hk1 : k ≤ 1000) :
    Calls Try.prog 54 #[.pointer (some ⟨R, 0, none⟩), .slice (some ⟨L, 0, none⟩) k k] w (RInt B R a n c (p + 1) lo hi w) := by
  have hL0 := hL.1
  have HL := Lib.hid hL.2
  clear hL
  go_enter Try.func54, Try.ntmps54
  go_wp2_with fail
  refine (rdr_pick B R a n c p (k : Int) _ h hp1 (by omega) (by omega)).mono ?_
  rintro e w1 ⟨v, rfl, l1, u1, rd1, b1⟩
  obtain ⟨j, rfl⟩ := Int.eq_ofNat_of_zero_le l1
  obtain ⟨x, x1, x2, x3⟩ := HL.out j (by omega)
  have x4 := (b1.cell (p := ⟨L, j, none⟩) hL0 (by show L ≠ R; omega)).trans x3
  clear x3
  go_wp2
  go_ret
  exact ⟨x, p + 1, rfl, ⟨x1, x2⟩, Nat.le_refl _, rd1, b1⟩

end Go.Proofs.Ytkhocfoggjdccaa
