/- Contracts of functions that this seat's statements reach: each is shown to compute a plain Lean function, and to leave what was there as it was. No conditions but those in each theorem. -/
import Derived.Test.YtgnjmcfkehgdfaaRowsH2
import Derived.Laws.MakeOwn
import Derived.OwnWalk
namespace Go.Proofs.Ytgnjmcfkehgdfaa
open Go.RowKit
set_option linter.unusedVariables false

theorem laws_toHalfPlane (a : Int) (b : Int) (c : Int) (w : World) :
    Calls Try.prog 55 #[.agg #[.int .i64 a, .int .i64 b, .int .i64 c]] w fun e w' => e = .returned (.agg #[.int .i64 a, .int .i64 b, .int .i64 c]) ∧ Below w.heap.size w w' := by
  go_enter Try.func55, Try.ntmps55
  go_wp2
  refine bodyPost_ret (v := .agg #[.int .i64 a, .int .i64 b, .int .i64 c]) (by simp [results, Try.results55, go_sem]) rfl ⟨rfl, ?_⟩
  (repeat (first | with_reducible exact Below.refl _ _ | with_reducible refine bl_alloc ?_ _ | with_reducible refine bl_drew ?_ | with_reducible refine bl_set ?_ (by first | (simp; done) | (simp; omega)) _ | with_reducible refine bl_call (by assumption) ?_))

theorem infoHalfPlane : (Try.prog.info? 75).map (fun i => (i.zero, i.size, i.bytes)) = some (some (Value.agg #[.int .i64 0, .int .i64 0, .int .i64 0]), 3, 24) := by kernel_rfl
set_option maxHeartbeats 1000000 in
theorem laws_toHalfPlaneS (a : Option Addr) (n c : Nat) (zs : List (Int × Int × Int)) (w : World) (hn : n ≤ 1048576) (hs : SlOfHalfPlane w a n zs) :
    Calls Try.prog 27 #[.slice a n c] w (NewHalfPlane w n zs) := by
  obtain ⟨i0, hi, hz0, hz1, hz2⟩ := info_parts infoHalfPlane
  have hmk : ∀ W : World, (Instr.makeSlice 44 (.int .i64 (n : Int)) (.int .i64 (n : Int))).run Try.prog W = .ok (.slice (some ⟨W.heap.size, 0, none⟩) n n) (W.alloc (.cells (madeCells (Value.agg #[.int .i64 0, .int .i64 0, .int .i64 0]).cells (n * 3)) 75)) := fun W => by
    have h := run_make (P := Try.prog) W 44 75 i0 _ Try.underlying44 hi hz0 .i64 .i64 (n : Int) (n : Int) (by omega) (by omega) (by rw [hz2]; omega) (by omega)
    simpa only [Int.toNat_natCast, hz1] using h
  clear hi hz0 hz1 hz2
  have hfree := free_alloc w (madeCells (Value.agg #[.int .i64 0, .int .i64 0, .int .i64 0]).cells (n * 3)) 75 (n * 3) (size_madeCells _ _)
  generalize hM : madeCells (Value.agg #[.int .i64 0, .int .i64 0, .int .i64 0]).cells (n * 3) = M at hmk hfree
  clear hM
  have HZ := Lib.hid hs.1
  have HS := Lib.hid hs.2
  have HF := Lib.hid hfree
  clear hs hfree
  go_enter Try.func27, Try.ntmps27
  go_wp2
  go_loopg [4] n (fun gg s4 wr => ∃ kk : Nat, kk ≤ n ∧ n - kk ≤ gg ∧ s4 = .int .i64 kk ∧ Aside (Below w.heap.size w wr) ∧ Aside (w.heap.size < wr.heap.size) ∧ Aside (FreeRow wr w.heap.size (n * 3)) ∧ Aside (PreHalfPlane wr w.heap.size zs kk))
  case atStart => exact ⟨0, Nat.zero_le _, by omega, rfl, bl_alloc (Below.refl _ _) _, (show w.heap.size < _ by simp), HF.out, fun j hj => absurd hj (Nat.not_lt_zero _)⟩
  case round =>
    obtain ⟨kk, hkk, hg, rfl, BW, SZ, FR, PR⟩ := hrel
    by_cases hlt : kk < n
    · have hltz : (kk : Int) < (n : Int) := by omega
      obtain ⟨b, off, rfl, hb, hr⟩ := HS.out.resolve_left (by omega)
      have l0 := (BW.out.cell (p := ⟨b, off + kk * 3, none⟩) hb).trans (hr kk (by rw [HZ.out]; exact hlt)).1
      have l1 := (BW.out.cell (p := ⟨b, off + kk * 3 + 1, none⟩) hb).trans (hr kk (by rw [HZ.out]; exact hlt)).2.1
      have l2 := (BW.out.cell (p := ⟨b, off + kk * 3 + 2, none⟩) hb).trans (hr kk (by rw [HZ.out]; exact hlt)).2.2
      have HR := Lib.hid hr
      clear hr
      generalize hy : zs[kk]! = y at l0 l1 l2
      have B : Aside (zs[kk]! = y) := hy
      clear hy
      go_wp2_with (go_at_call 55; refine (laws_toHalfPlane _ _ _ _).mono ?_; rintro e w1 ⟨rfl, hb1⟩; have F1 := free_below FR.out SZ.out hb1; obtain ⟨⟨v0, d0⟩, g0⟩ := F1 (kk * 3) (by omega); obtain ⟨⟨v1, d1⟩, g1⟩ := F1 (kk * 3 + 1) (by omega); obtain ⟨⟨v2, d2⟩, g2⟩ := F1 (kk * 3 + 2) (by omega); have HF1 := Lib.hid F1; have P1 := Lib.hid (pre_belowHalfPlane PR.out SZ.out hb1); have S1 := Lib.hid (Nat.lt_of_lt_of_le SZ.out hb1.size); have B1 := Lib.hid (bl_call hb1 BW.out); clear F1 hb1)
      have S := pre_putHalfPlane hlt B.out HF1.out P1.out
      have HS2 := Lib.hid S
      clear S
      go_roundg (n - (kk + 1))
      case measure => omega
      case rel =>
        exact ⟨kk + 1, by omega, by omega, by go_num, bl_set (bl_set (bl_set (B1.out) (Nat.le_refl _) _) (Nat.le_refl _) _) (Nat.le_refl _) _, (show w.heap.size < _ by simpa using S1.out), HS2.out.1, HS2.out.2⟩
    · have hltz : ¬ (kk : Int) < (n : Int) := by omega
      have : kk = n := by omega
      subst this
      go_wp2
      go_ret
      exact ⟨w.heap.size, rfl, Nat.le_refl _, SZ.out, fun j hj => PR.out j (by rw [← HZ.out]; exact hj), BW.out⟩

end Go.Proofs.Ytgnjmcfkehgdfaa
