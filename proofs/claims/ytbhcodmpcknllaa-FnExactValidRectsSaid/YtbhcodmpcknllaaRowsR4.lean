/- Contracts of functions that this seat's statements reach: each is shown to compute a plain Lean function, and to leave what was there as it was. No conditions but those in each theorem. -/
import Derived.Test.YtbhcodmpcknllaaRowsR3
import Derived.Test.YtbhcodmpcknllaaPlainH
import Derived.Test.YtbhcodmpcknllaaR1
namespace Go.Proofs.Ytbhcodmpcknllaa
open Go.RowKit
set_option linter.unusedVariables false

theorem szRect_ok (a : Option Addr) (n c : Nat) (left : Int) (w : World) (h0 : left ≤ 1048576) (h1 : (n : Int) ≤ left) :
    Calls Try.prog 19 #[.slice a n c, .int .i64 left] w fun e w' => e = .returned (.int .i64 (left - n)) ∧ w = w' := by
  go_enter Try.func19, Try.ntmps19
  go_wp2
  all_goals go_ret
  all_goals exact ⟨rfl, rfl⟩

theorem szRect_no (a : Option Addr) (n c : Nat) (left : Int) (w : World) (h0 : left ≤ 1048576) (hp : 0 ≤ left) (h1 : left < (n : Int)) (h2 : n ≤ 9223372036854775807) :
    Calls Try.prog 19 #[.slice a n c, .int .i64 left] w fun e w' => e = .returned (.int .i64 (-1)) ∧ w = w' := by
  go_enter Try.func19, Try.ntmps19
  go_wp2
  all_goals go_ret
  all_goals exact ⟨rfl, rfl⟩

set_option maxHeartbeats 1000000 in
theorem spec_validRects (b off n c : Nat) (zs : List (Int × Int × Int × Int)) (w : World) (hn : n ≤ 1048576) (hz : zs.length = n) (hb0 : b < w.heap.size) (hr : rowOfRect w b off zs) :
    Calls Try.prog 61 #[.slice (some ⟨b, off, none⟩) n c] w fun e w' => e = .returned (.bool (zs.all (fun z : Int × Int × Int × Int => rectB z.1 z.2.1 z.2.2.1 z.2.2.2) && decide (zs.length ≤ 12))) ∧ Below w.heap.size w w' := by
  have HZ := Lib.hid hz
  have HR := Lib.hid hr
  have hb := Lib.hid hb0
  clear hz hr hb0
  obtain ⟨res, hres⟩ : ∃ r, r = (zs.all (fun z : Int × Int × Int × Int => rectB z.1 z.2.1 z.2.2.1 z.2.2.2) && decide (zs.length ≤ 12)) := ⟨_, rfl⟩
  rw [← hres]
  have HRes := Lib.hid hres
  clear hres
  go_enter Try.func61, Try.ntmps61
  go_wp2
  go_loopg [3] n (fun gg s3 wr => ∃ kk : Nat, kk ≤ n ∧ n - kk ≤ gg ∧ s3 = .int .i64 kk ∧ Aside (Below w.heap.size w wr) ∧ Aside (∀ j, j < kk → (fun z : Int × Int × Int × Int => rectB z.1 z.2.1 z.2.2.1 z.2.2.2) zs[j]! = true))
  case atStart => exact ⟨0, Nat.zero_le _, by omega, rfl, Below.refl _ w, fun j hj => absurd hj (Nat.not_lt_zero _)⟩
  case round =>
    obtain ⟨kk, hkk, hg, rfl, BW, A⟩ := hrel
    by_cases hlt : kk < n
    · have hltz : (kk : Int) < (n : Int) := by omega
      have l0 := (BW.out.cell (p := ⟨b, off + kk * 4, none⟩) hb.out).trans (HR.out kk (by rw [HZ.out]; exact hlt)).1
      have l1 := (BW.out.cell (p := ⟨b, off + kk * 4 + 1, none⟩) hb.out).trans (HR.out kk (by rw [HZ.out]; exact hlt)).2.1
      have l2 := (BW.out.cell (p := ⟨b, off + kk * 4 + 2, none⟩) hb.out).trans (HR.out kk (by rw [HZ.out]; exact hlt)).2.2.1
      have l3 := (BW.out.cell (p := ⟨b, off + kk * 4 + 3, none⟩) hb.out).trans (HR.out kk (by rw [HZ.out]; exact hlt)).2.2.2
      generalize hy : zs[kk]! = y at l0 l1 l2 l3
      have B : Aside (zs[kk]! = y) := hy
      clear hy
      cases hq : rectB y.1 y.2.1 y.2.2.1 y.2.2.2 with
      | true =>
        go_wp2_with (go_at_call 106; refine (spec_validRect _ _ _ _ _).mono ?_; rintro e w1 ⟨rfl, hb1⟩; have B1 := Lib.hid (bl_call hb1 BW.out); clear hb1)
        go_roundg (n - (kk + 1))
        case measure => omega
        case rel =>
          refine ⟨kk + 1, by omega, by omega, by go_num, B1.out, (show Aside _ from fun j hj => ?_)⟩
          by_cases e : j = kk
          · subst e
            rw [B.out]; exact hq
          · exact A.out j (by omega)
      | false =>
        go_wp2_with (go_at_call 106; refine (spec_validRect _ _ _ _ _).mono ?_; rintro e w1 ⟨rfl, hb1⟩; have B1 := Lib.hid (bl_call hb1 BW.out); clear hb1)
        go_ret
        refine ⟨ret_bool ?_, B1.out⟩
        rw [HRes.out, not_all_at (fun z : Int × Int × Int × Int => rectB z.1 z.2.1 z.2.2.1 z.2.2.2) zs kk (by rw [HZ.out]; exact hlt) (by rw [B.out]; exact hq)]
        rfl
    · have hltz : ¬ (kk : Int) < (n : Int) := by omega
      have : kk = n := by omega
      subst this
      have HA : Hid (zs.all (fun z : Int × Int × Int × Int => rectB z.1 z.2.1 z.2.2.1 z.2.2.2) = true) := Lib.hid (all_of_pre _ zs fun j hj => A.out j (by rw [← HZ.out]; exact hj))
      by_cases hm : kk ≤ 12
      · have hmz : (kk : Int) ≤ 12 := by omega
        go_wp2
        go_ret
        refine ⟨ret_bool ?_, BW.out⟩
        rw [HRes.out, HA.out, HZ.out, decide_eq_true hm]
        rfl
      · have hmz : ¬ (kk : Int) ≤ 12 := by omega
        go_wp2
        go_ret
        refine ⟨ret_bool ?_, BW.out⟩
        rw [HRes.out, HA.out, HZ.out, decide_eq_false hm]
        rfl

end Go.Proofs.Ytbhcodmpcknllaa
