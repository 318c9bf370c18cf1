/- Contracts of functions that this seat's statements reach: each is shown to compute a plain Lean function, and to leave what was there as it was. No conditions but those in each theorem. -/
import Derived.Test.YtbfeaiaoelkggaaBase
namespace Go.Proofs.Ytbfeaiaoelkggaa
open Go.RowKit
set_option linter.unusedVariables false

def rowOfHalfPlane (w : World) (b off : Nat) (zs : List (Int × Int × Int)) : Prop := ∀ j, j < zs.length → w.cell? ⟨b, off + j * 3, none⟩ = some (.int .i64 zs[j]!.1) ∧ w.cell? ⟨b, off + j * 3 + 1, none⟩ = some (.int .i64 zs[j]!.2.1) ∧ w.cell? ⟨b, off + j * 3 + 2, none⟩ = some (.int .i64 zs[j]!.2.2)
def predOfHalfPlane (g : Nat) (lb : Array Value) (p : Int × Int × Int → Bool) (zs : List (Int × Int × Int)) (w : World) : Prop :=
  ∀ (W : World) (x : Int × Int × Int), x ∈ zs → Below w.heap.size w W → Calls Try.prog g (#[.agg #[.int .i64 x.1, .int .i64 x.2.1, .int .i64 x.2.2]] ++ lb) W fun e w' => e = .returned (.bool (p x)) ∧ Below w.heap.size w w'
set_option maxHeartbeats 1000000 in
theorem indexFunc_HalfPlane (p : Int × Int × Int → Bool) (g : Nat) (lb : Array Value) (eg : ∀ args w, (callFunc g args).run Try.prog w = .ok (.enter g args) w) (b off n c : Nat) (zs : List (Int × Int × Int)) (w : World)
    (hp : predOfHalfPlane g lb p zs w) (hz : zs.length = n) (hbig : n ≤ 9000000000000000000) (hb : b < w.heap.size) (hc : rowOfHalfPlane w b off zs) :
    Calls Try.prog 63 #[.slice (some ⟨b, off, none⟩) n c, .func (.func g) #[] lb] w fun e w' => e = .returned (.int .i64 (Lib.idxBy (fun _ y => p y) (zs.take n) default)) ∧ Below w.heap.size w w' := by
  have HZ := Lib.hid hz
  clear hz
  have hrow : ∀ (wr : World), Below w.heap.size w wr → ∀ kk, kk < zs.length → wr.cell? ⟨b, off + kk * 3, none⟩ = some (.int .i64 zs[kk]!.1) ∧ wr.cell? ⟨b, off + kk * 3 + 1, none⟩ = some (.int .i64 zs[kk]!.2.1) ∧ wr.cell? ⟨b, off + kk * 3 + 2, none⟩ = some (.int .i64 zs[kk]!.2.2) := fun wr hW kk hk => by
    have h := hc kk hk
    simp only [hW.cell (p := ⟨b, _, none⟩) hb]
    exact h
  have HP := Lib.hid hp
  have HR := Lib.hid hrow
  clear hp hc hrow
  go_enter Try.func63, Try.ntmps63
  go_wp2
  go_loopg [5, 8] n (fun gg _ s8 wr => ∃ kk : Nat, kk ≤ n ∧ n - kk ≤ gg ∧ s8 = .int .i64 kk ∧ Aside (Below w.heap.size w wr) ∧ Aside (∀ j, j < kk → p zs[j]! = false))
  case atStart => exact ⟨0, Nat.zero_le _, by omega, rfl, Below.refl _ w, fun j hj => absurd hj (Nat.not_lt_zero _)⟩
  case round =>
    obtain ⟨kk, hkk, hg, rfl, BW, A⟩ := hrel
    by_cases hlt : kk < n
    · have hltz : (kk : Int) < (n : Int) := by omega
      obtain ⟨l0, l1, l2⟩ := HR.out wr BW.out kk (by rw [HZ.out]; exact hlt)
      have hcall := HP.out wr zs[kk]! (by rw [getElem!_pos zs kk (by rw [HZ.out]; exact hlt)]; exact List.getElem_mem _) BW.out
      generalize hy : zs[kk]! = y at l0 l1 l2 hcall
      have B : Aside (zs[kk]! = y) := hy
      clear hy
      cases hq : p y with
      | true =>
        rw [hq] at hcall
        have HC := Lib.hid hcall
        clear hcall
        go_wp2_with (go_at_fn g; refine HC.out.mono ?_; rintro e w' ⟨rfl, hb'⟩)
        go_ret
        refine ⟨?_, hb'⟩
        rw [Lib.idxBy_hit (fun _ y => p y) zs n kk default hlt (by rw [HZ.out]; exact Nat.le_refl _) (by show p zs[kk]! = true; rw [B.out]; exact hq) A.out]
        rfl
      | false =>
        rw [hq] at hcall
        have HC := Lib.hid hcall
        clear hcall
        go_wp2_with (go_at_fn g; refine HC.out.mono ?_; rintro e w' ⟨rfl, hb'⟩)
        go_roundg (n - (kk + 1))
        case measure => omega
        case rel =>
          refine ⟨kk + 1, by omega, by omega, by go_num, hb', (show Aside _ from fun j hj => ?_)⟩
          by_cases e : j = kk
          · subst e
            rw [B.out]; exact hq
          · exact A.out j (by omega)
    · have hltz : ¬ (kk : Int) < (n : Int) := by omega
      have : kk = n := by omega
      subst this
      go_wp2
      go_ret
      refine ⟨?_, BW.out⟩
      rw [Lib.idxBy_miss (fun _ y => p y) zs kk default A.out]
      rfl
theorem containsFunc_HalfPlane (p : Int × Int × Int → Bool) (g : Nat) (lb : Array Value) (eg : ∀ args w, (callFunc g args).run Try.prog w = .ok (.enter g args) w) (b off n c : Nat) (zs : List (Int × Int × Int)) (w : World)
    (hp : predOfHalfPlane g lb p zs w) (hz : zs.length = n) (hbig : n ≤ 9000000000000000000) (hb : b < w.heap.size) (hc : rowOfHalfPlane w b off zs) :
    Calls Try.prog 45 #[.slice (some ⟨b, off, none⟩) n c, .func (.func g) #[] lb] w fun e w' => e = .returned (.bool (zs.any p)) ∧ Below w.heap.size w w' := by
  have ht : zs.any p = decide (0 ≤ Lib.idxBy (fun _ y => p y) (zs.take n) default) := by
    rw [Lib.idxBy_nonneg_iff (fun _ y => p y) (zs.take n) default, List.take_of_length_le (by omega)]
  rw [ht]
  have HI := Lib.hid (indexFunc_HalfPlane p g lb eg b off n c zs w hp hz hbig hb hc)
  clear hp hc hz ht
  generalize Lib.idxBy (fun _ y => p y) (zs.take n) default = r at HI ⊢
  go_enter Try.func45, Try.ntmps45
  go_wp2_with (go_at_call 63; refine HI.out.mono ?_; rintro e w' ⟨rfl, hb'⟩)
  go_ret
  exact ⟨rfl, hb'⟩

end Go.Proofs.Ytbfeaiaoelkggaa
