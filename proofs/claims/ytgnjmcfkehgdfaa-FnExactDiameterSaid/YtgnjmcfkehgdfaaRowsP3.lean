/- Contracts of functions that this seat's statements reach: each is shown to compute a plain Lean function, and to leave what was there as it was. No conditions but those in each theorem. -/
import Derived.Test.YtgnjmcfkehgdfaaRowsP2
import Derived.Test.YtgnjmcfkehgdfaaPlainH
import Derived.Laws.MakeOwn
import Derived.OwnWalk
namespace Go.Proofs.Ytgnjmcfkehgdfaa
open Go.RowKit
set_option linter.unusedVariables false

theorem infoPoint : (Try.prog.info? 28).map (fun i => (i.zero, i.size, i.bytes)) = some (some (Value.agg #[.int .i64 0, .int .i64 0]), 2, 16) := by kernel_rfl
set_option maxHeartbeats 1000000 in
theorem laws_toPointS (a : Option Addr) (n c : Nat) (zs : List (Int × Int)) (w : World) (hn : n ≤ 1048576) (hs : SlOfPoint w a n zs) :
    Calls Try.prog 18 #[.slice a n c] w (NewPoint w n zs) := by
  obtain ⟨i0, hi, hz0, hz1, hz2⟩ := info_parts infoPoint
  have hmk : ∀ W : World, (Instr.makeSlice 35 (.int .i64 (n : Int)) (.int .i64 (n : Int))).run Try.prog W = .ok (.slice (some ⟨W.heap.size, 0, none⟩) n n) (W.alloc (.cells (madeCells (Value.agg #[.int .i64 0, .int .i64 0]).cells (n * 2)) 28)) := fun W => by
    have h := run_make (P := Try.prog) W 35 28 i0 _ Try.underlying35 hi hz0 .i64 .i64 (n : Int) (n : Int) (by omega) (by omega) (by rw [hz2]; omega) (by omega)
    simpa only [Int.toNat_natCast, hz1] using h
  clear hi hz0 hz1 hz2
  have hfree := free_alloc w (madeCells (Value.agg #[.int .i64 0, .int .i64 0]).cells (n * 2)) 28 (n * 2) (size_madeCells _ _)
  generalize hM : madeCells (Value.agg #[.int .i64 0, .int .i64 0]).cells (n * 2) = M at hmk hfree
  clear hM
  have HZ := Lib.hid hs.1
  have HS := Lib.hid hs.2
  have HF := Lib.hid hfree
  clear hs hfree
  go_enter Try.func18, Try.ntmps18
  go_wp2
  go_loopg [4] n (fun gg s4 wr => ∃ kk : Nat, kk ≤ n ∧ n - kk ≤ gg ∧ s4 = .int .i64 kk ∧ Aside (Below w.heap.size w wr) ∧ Aside (w.heap.size < wr.heap.size) ∧ Aside (FreeRow wr w.heap.size (n * 2)) ∧ Aside (PrePoint wr w.heap.size zs kk))
  case atStart => exact ⟨0, Nat.zero_le _, by omega, rfl, bl_alloc (Below.refl _ _) _, (show w.heap.size < _ by simp), HF.out, fun j hj => absurd hj (Nat.not_lt_zero _)⟩
  case round =>
    obtain ⟨kk, hkk, hg, rfl, BW, SZ, FR, PR⟩ := hrel
    by_cases hlt : kk < n
    · have hltz : (kk : Int) < (n : Int) := by omega
      obtain ⟨b, off, rfl, hb, hr⟩ := HS.out.resolve_left (by omega)
      have l0 := (BW.out.cell (p := ⟨b, off + kk * 2, none⟩) hb).trans (hr kk (by rw [HZ.out]; exact hlt)).1
      have l1 := (BW.out.cell (p := ⟨b, off + kk * 2 + 1, none⟩) hb).trans (hr kk (by rw [HZ.out]; exact hlt)).2
      have HR := Lib.hid hr
      clear hr
      generalize hy : zs[kk]! = y at l0 l1
      have B : Aside (zs[kk]! = y) := hy
      clear hy
      go_wp2_with (go_at_call 13; refine (laws_toPoint _ _ _).mono ?_; rintro e w1 ⟨rfl, hb1⟩; have F1 := free_below FR.out SZ.out hb1; obtain ⟨⟨v0, d0⟩, g0⟩ := F1 (kk * 2) (by omega); obtain ⟨⟨v1, d1⟩, g1⟩ := F1 (kk * 2 + 1) (by omega); have HF1 := Lib.hid F1; have P1 := Lib.hid (pre_belowPoint PR.out SZ.out hb1); have S1 := Lib.hid (Nat.lt_of_lt_of_le SZ.out hb1.size); have B1 := Lib.hid (bl_call hb1 BW.out); clear F1 hb1)
      have S := pre_putPoint hlt B.out HF1.out P1.out
      have HS2 := Lib.hid S
      clear S
      go_roundg (n - (kk + 1))
      case measure => omega
      case rel =>
        exact ⟨kk + 1, by omega, by omega, by go_num, bl_set (bl_set (B1.out) (Nat.le_refl _) _) (Nat.le_refl _) _, (show w.heap.size < _ by simpa using S1.out), HS2.out.1, HS2.out.2⟩
    · have hltz : ¬ (kk : Int) < (n : Int) := by omega
      have : kk = n := by omega
      subst this
      go_wp2
      go_ret
      exact ⟨w.heap.size, rfl, Nat.le_refl _, SZ.out, fun j hj => PR.out j (by rw [← HZ.out]; exact hj), BW.out⟩

theorem szPoint_ok (a : Option Addr) (n c : Nat) (left : Int) (w : World) (h0 : left ≤ 1048576) (h1 : (n : Int) ≤ left) :
    Calls Try.prog 16 #[.slice a n c, .int .i64 left] w fun e w' => e = .returned (.int .i64 (left - n)) ∧ w = w' := by
  go_enter Try.func16, Try.ntmps16
  go_wp2
  all_goals go_ret
  all_goals exact ⟨rfl, rfl⟩

theorem szPoint_no (a : Option Addr) (n c : Nat) (left : Int) (w : World) (h0 : left ≤ 1048576) (hp : 0 ≤ left) (h1 : left < (n : Int)) (h2 : n ≤ 9223372036854775807) :
    Calls Try.prog 16 #[.slice a n c, .int .i64 left] w fun e w' => e = .returned (.int .i64 (-1)) ∧ w = w' := by
  go_enter Try.func16, Try.ntmps16
  go_wp2
  all_goals go_ret
  all_goals exact ⟨rfl, rfl⟩

set_option maxHeartbeats 1000000 in
theorem spec_validPoints (b off n c : Nat) (zs : List (Int × Int)) (w : World) (hn : n ≤ 1048576) (hz : zs.length = n) (hb0 : b < w.heap.size) (hr : rowOfPoint w b off zs) :
    Calls Try.prog 45 #[.slice (some ⟨b, off, none⟩) n c] w fun e w' => e = .returned (.bool (zs.all (fun z : Int × Int => ptB z.1 z.2) && decide (zs.length ≤ 20))) ∧ Below w.heap.size w w' := by
  have HZ := Lib.hid hz
  have HR := Lib.hid hr
  have hb := Lib.hid hb0
  clear hz hr hb0
  obtain ⟨res, hres⟩ : ∃ r, r = (zs.all (fun z : Int × Int => ptB z.1 z.2) && decide (zs.length ≤ 20)) := ⟨_, rfl⟩
  rw [← hres]
  have HRes := Lib.hid hres
  clear hres
  go_enter Try.func45, Try.ntmps45
  go_wp2
  go_loopg [3] n (fun gg s3 wr => ∃ kk : Nat, kk ≤ n ∧ n - kk ≤ gg ∧ s3 = .int .i64 kk ∧ Aside (Below w.heap.size w wr) ∧ Aside (∀ j, j < kk → (fun z : Int × Int => ptB z.1 z.2) zs[j]! = true))
  case atStart => exact ⟨0, Nat.zero_le _, by omega, rfl, Below.refl _ w, fun j hj => absurd hj (Nat.not_lt_zero _)⟩
  case round =>
    obtain ⟨kk, hkk, hg, rfl, BW, A⟩ := hrel
    by_cases hlt : kk < n
    · have hltz : (kk : Int) < (n : Int) := by omega
      have l0 := (BW.out.cell (p := ⟨b, off + kk * 2, none⟩) hb.out).trans (HR.out kk (by rw [HZ.out]; exact hlt)).1
      have l1 := (BW.out.cell (p := ⟨b, off + kk * 2 + 1, none⟩) hb.out).trans (HR.out kk (by rw [HZ.out]; exact hlt)).2
      generalize hy : zs[kk]! = y at l0 l1
      have B : Aside (zs[kk]! = y) := hy
      clear hy
      cases hq : ptB y.1 y.2 with
      | true =>
        go_wp2_with (go_at_call 40; refine (spec_validPoint _ _ _).mono ?_; rintro e w1 ⟨rfl, hb1⟩; have B1 := Lib.hid (bl_call hb1 BW.out); clear hb1)
        go_roundg (n - (kk + 1))
        case measure => omega
        case rel =>
          refine ⟨kk + 1, by omega, by omega, by go_num, B1.out, (show Aside _ from fun j hj => ?_)⟩
          by_cases e : j = kk
          · subst e
            rw [B.out]; exact hq
          · exact A.out j (by omega)
      | false =>
        go_wp2_with (go_at_call 40; refine (spec_validPoint _ _ _).mono ?_; rintro e w1 ⟨rfl, hb1⟩; have B1 := Lib.hid (bl_call hb1 BW.out); clear hb1)
        go_ret
        refine ⟨ret_bool ?_, B1.out⟩
        rw [HRes.out, not_all_at (fun z : Int × Int => ptB z.1 z.2) zs kk (by rw [HZ.out]; exact hlt) (by rw [B.out]; exact hq)]
        rfl
    · have hltz : ¬ (kk : Int) < (n : Int) := by omega
      have : kk = n := by omega
      subst this
      have HA : Hid (zs.all (fun z : Int × Int => ptB z.1 z.2) = true) := Lib.hid (all_of_pre _ zs fun j hj => A.out j (by rw [← HZ.out]; exact hj))
      by_cases hm : kk ≤ 20
      · have hmz : (kk : Int) ≤ 20 := by omega
        go_wp2
        go_ret
        refine ⟨ret_bool ?_, BW.out⟩
        rw [HRes.out, HA.out, HZ.out, decide_eq_true hm]
        rfl
      · have hmz : ¬ (kk : Int) ≤ 20 := by omega
        go_wp2
        go_ret
        refine ⟨ret_bool ?_, BW.out⟩
        rw [HRes.out, HA.out, HZ.out, decide_eq_false hm]
        rfl

theorem impl_listOk (b off n c : Nat) (zs : List (Int × Int)) (w : World) (hn : n ≤ 1048576) (hz : zs.length = n) (hb : b < w.heap.size) (hr : rowOfPoint w b off zs) :
    Calls Try.prog 47 #[.slice (some ⟨b, off, none⟩) n c] w fun e w' => e = .returned (.bool (zs.all (fun z : Int × Int => ptB z.1 z.2) && decide (zs.length ≤ 20))) ∧ Below w.heap.size w w' := by
  have HI := Lib.hid (impl_allValid b off n c zs w hz (by omega) hb hr)
  have ha : (zs.all fun z : Int × Int => ptB z.1 z.2) = allB zs := rfl
  rw [ha]
  clear hr ha
  generalize allB zs = r at HI ⊢
  rw [hz]
  clear hz
  by_cases hm : n ≤ 20
  · have hmz : (n : Int) ≤ 20 := by omega
    have hd : (r && decide (n ≤ 20)) = r := by simp [hm]
    rw [hd]
    clear hd
    go_enter Try.func47, Try.ntmps47
    go_wp2_with (go_at_call 42; refine HI.out.mono ?_; rintro e w' ⟨rfl, hb'⟩)
    go_ret
    exact ⟨rfl, hb'⟩
  · have hmz : ¬ (n : Int) ≤ 20 := by omega
    have hd : (r && decide (n ≤ 20)) = false := by simp [hm]
    rw [hd]
    clear hd
    go_enter Try.func47, Try.ntmps47
    go_wp2
    go_ret
    exact ⟨rfl, Below.refl _ _⟩

end Go.Proofs.Ytgnjmcfkehgdfaa
