/- Contracts of functions that this seat's statements reach: each is shown to compute a plain Lean function, and to leave what was there as it was. No conditions but those in each theorem. -/
import Derived.Test.YtbfeaiaoelkggaaRowsP2
import Derived.Test.YtbfeaiaoelkggaaPlainH
import Derived.Laws.MakeOwn
import Derived.OwnWalk
namespace Go.Proofs.Ytbfeaiaoelkggaa
open Go.RowKit
set_option linter.unusedVariables false

set_option maxHeartbeats 1000000 in
theorem spec_validPoints (b off n c : Nat) (zs : List (Int × Int)) (w : World) (hn : n ≤ 1048576) (hz : zs.length = n) (hb0 : b < w.heap.size) (hr : rowOfPoint w b off zs) :
    Calls Try.prog 37 #[.slice (some ⟨b, off, none⟩) n c] w fun e w' => e = .returned (.bool (zs.all (fun z : Int × Int => ptB z.1 z.2) && decide (zs.length ≤ 20))) ∧ Below w.heap.size w w' := by
  have HZ := Lib.hid hz
  have HR := Lib.hid hr
  have hb := Lib.hid hb0
  clear hz hr hb0
  obtain ⟨res, hres⟩ : ∃ r, r = (zs.all (fun z : Int × Int => ptB z.1 z.2) && decide (zs.length ≤ 20)) := ⟨_, rfl⟩
  rw [← hres]
  have HRes := Lib.hid hres
  clear hres
  go_enter Try.func37, Try.ntmps37
  go_wp2
  go_loopg [3] n (fun gg s3 wr => ∃ kk : Nat, kk ≤ n ∧ n - kk ≤ gg ∧ s3 = .int .i64 kk ∧ Aside (Below w.heap.size w wr) ∧ Aside (∀ j, j < kk → (fun z : Int × Int => ptB z.1 z.2) zs[j]! = true))
  case atStart => exact ⟨0, Nat.zero_le _, by omega, rfl, Below.refl _ w, fun j hj => absurd hj (Nat.not_lt_zero _)⟩
  case round =>
    obtain ⟨kk, hkk, hg, rfl, BW, A⟩ := hrel
    by_cases hlt : kk < n
    · have hltz : (kk : Int) < (n : Int) := by omega
      have l0 := (BW.out.cell (p := ⟨b, off + kk * 2, none⟩) hb.out).trans (HR.out kk (by rw [HZ.out]; exact hlt)).1
      have l1 := (BW.out.cell (p := ⟨b, off + kk * 2 + 1, none⟩) hb.out).trans (HR.out kk (by rw [HZ.out]; exact hlt)).2
      generalize hy : zs[kk]! = y at l0 l1
      have B : Aside (zs[kk]! = y) := hy
      clear hy
      cases hq : ptB y.1 y.2 with
      | true =>
        go_wp2_with (go_at_call 42; refine (spec_validPoint _ _ _).mono ?_; rintro e w1 ⟨rfl, hb1⟩; have B1 := Lib.hid (bl_call hb1 BW.out); clear hb1)
        go_roundg (n - (kk + 1))
        case measure => omega
        case rel =>
          refine ⟨kk + 1, by omega, by omega, by go_num, B1.out, (show Aside _ from fun j hj => ?_)⟩
          by_cases e : j = kk
          · subst e
            rw [B.out]; exact hq
          · exact A.out j (by omega)
      | false =>
        go_wp2_with (go_at_call 42; refine (spec_validPoint _ _ _).mono ?_; rintro e w1 ⟨rfl, hb1⟩; have B1 := Lib.hid (bl_call hb1 BW.out); clear hb1)
        go_ret
        refine ⟨ret_bool ?_, B1.out⟩
        rw [HRes.out, not_all_at (fun z : Int × Int => ptB z.1 z.2) zs kk (by rw [HZ.out]; exact hlt) (by rw [B.out]; exact hq)]
        rfl
    · have hltz : ¬ (kk : Int) < (n : Int) := by omega
      have : kk = n := by omega
      subst this
      have HA : Hid (zs.all (fun z : Int × Int => ptB z.1 z.2) = true) := Lib.hid (all_of_pre _ zs fun j hj => A.out j (by rw [← HZ.out]; exact hj))
      by_cases hm : kk ≤ 20
      · have hmz : (kk : Int) ≤ 20 := by omega
        go_wp2
        go_ret
        refine ⟨ret_bool ?_, BW.out⟩
        rw [HRes.out, HA.out, HZ.out, decide_eq_true hm]
        rfl
      · have hmz : ¬ (kk : Int) ≤ 20 := by omega
        go_wp2
        go_ret
        refine ⟨ret_bool ?_, BW.out⟩
        rw [HRes.out, HA.out, HZ.out, decide_eq_false hm]
        rfl

theorem impl_listOk (b off n c : Nat) (zs : List (Int × Int)) (w : World) (hn : n ≤ 1048576) (hz : zs.length = n) (hb : b < w.heap.size) (hr : rowOfPoint w b off zs) :
    Calls Try.prog 30 #[.slice (some ⟨b, off, none⟩) n c] w fun e w' => e = .returned (.bool (zs.all (fun z : Int × Int => ptB z.1 z.2) && decide (zs.length ≤ 20))) ∧ Below w.heap.size w w' := by
  have HI := Lib.hid (impl_allValid b off n c zs w hz (by omega) hb hr)
  have ha : (zs.all fun z : Int × Int => ptB z.1 z.2) = allB zs := rfl
  rw [ha]
  clear hr ha
  generalize allB zs = r at HI ⊢
  rw [hz]
  clear hz
  by_cases hm : n ≤ 20
  · have hmz : (n : Int) ≤ 20 := by omega
    have hd : (r && decide (n ≤ 20)) = r := by simp [hm]
    rw [hd]
    clear hd
    go_enter Try.func30, Try.ntmps30
    go_wp2_with (go_at_call 56; refine HI.out.mono ?_; rintro e w' ⟨rfl, hb'⟩)
    go_ret
    exact ⟨rfl, hb'⟩
  · have hmz : ¬ (n : Int) ≤ 20 := by omega
    have hd : (r && decide (n ≤ 20)) = false := by simp [hm]
    rw [hd]
    clear hd
    go_enter Try.func30, Try.ntmps30
    go_wp2
    go_ret
    exact ⟨rfl, Below.refl _ _⟩

end Go.Proofs.Ytbfeaiaoelkggaa
