/- Contracts of functions that this seat's statements reach: each is shown to compute a plain Lean function, and to leave what was there as it was. No conditions but those in each theorem. -/
import Derived.Test.YtbfeaiaoelkggaaBase
namespace Go.Proofs.Ytbfeaiaoelkggaa
open Go.RowKit
set_option linter.unusedVariables false

def rowOfPoint (w : World) (b off : Nat) (zs : List (Int × Int)) : Prop := ∀ j, j < zs.length → w.cell? ⟨b, off + j * 2, none⟩ = some (.int .i64 zs[j]!.1) ∧ w.cell? ⟨b, off + j * 2 + 1, none⟩ = some (.int .i64 zs[j]!.2)
def predOfPoint (g : Nat) (lb : Array Value) (p : Int × Int → Bool) (zs : List (Int × Int)) (w : World) : Prop :=
  ∀ (W : World) (x : Int × Int), x ∈ zs → Below w.heap.size w W → Calls Try.prog g (#[.agg #[.int .i64 x.1, .int .i64 x.2]] ++ lb) W fun e w' => e = .returned (.bool (p x)) ∧ Below w.heap.size w w'
set_option maxHeartbeats 1000000 in
theorem indexFunc_Point (p : Int × Int → Bool) (g : Nat) (lb : Array Value) (eg : ∀ args w, (callFunc g args).run Try.prog w = .ok (.enter g args) w) (b off n c : Nat) (zs : List (Int × Int)) (w : World)
    (hp : predOfPoint g lb p zs w) (hz : zs.length = n) (hbig : n ≤ 9000000000000000000) (hb : b < w.heap.size) (hc : rowOfPoint w b off zs) :
    Calls Try.prog 59 #[.slice (some ⟨b, off, none⟩) n c, .func (.func g) #[] lb] w fun e w' => e = .returned (.int .i64 (Lib.idxBy (fun _ y => p y) (zs.take n) default)) ∧ Below w.heap.size w w' := by
  have HZ := Lib.hid hz
  clear hz
  have hrow : ∀ (wr : World), Below w.heap.size w wr → ∀ kk, kk < zs.length → wr.cell? ⟨b, off + kk * 2, none⟩ = some (.int .i64 zs[kk]!.1) ∧ wr.cell? ⟨b, off + kk * 2 + 1, none⟩ = some (.int .i64 zs[kk]!.2) := fun wr hW kk hk => by
    have h := hc kk hk
    simp only [hW.cell (p := ⟨b, _, none⟩) hb]
    exact h
  have HP := Lib.hid hp
  have HR := Lib.hid hrow
  clear hp hc hrow
  go_enter Try.func59, Try.ntmps59
  go_wp2
  go_loopg [5, 8] n (fun gg _ s8 wr => ∃ kk : Nat, kk ≤ n ∧ n - kk ≤ gg ∧ s8 = .int .i64 kk ∧ Aside (Below w.heap.size w wr) ∧ Aside (∀ j, j < kk → p zs[j]! = false))
  case atStart => exact ⟨0, Nat.zero_le _, by omega, rfl, Below.refl _ w, fun j hj => absurd hj (Nat.not_lt_zero _)⟩
  case round =>
    obtain ⟨kk, hkk, hg, rfl, BW, A⟩ := hrel
    by_cases hlt : kk < n
    · have hltz : (kk : Int) < (n : Int) := by omega
      obtain ⟨l0, l1⟩ := HR.out wr BW.out kk (by rw [HZ.out]; exact hlt)
      have hcall := HP.out wr zs[kk]! (by rw [getElem!_pos zs kk (by rw [HZ.out]; exact hlt)]; exact List.getElem_mem _) BW.out
      generalize hy : zs[kk]! = y at l0 l1 hcall
      have B : Aside (zs[kk]! = y) := hy
      clear hy
      cases hq : p y with
      | true =>
        rw [hq] at hcall
        have HC := Lib.hid hcall
        clear hcall
        go_wp2_with (go_at_fn g; refine HC.out.mono ?_; rintro e w' ⟨rfl, hb'⟩)
        go_ret
        refine ⟨?_, hb'⟩
        rw [Lib.idxBy_hit (fun _ y => p y) zs n kk default hlt (by rw [HZ.out]; exact Nat.le_refl _) (by show p zs[kk]! = true; rw [B.out]; exact hq) A.out]
        rfl
      | false =>
        rw [hq] at hcall
        have HC := Lib.hid hcall
        clear hcall
        go_wp2_with (go_at_fn g; refine HC.out.mono ?_; rintro e w' ⟨rfl, hb'⟩)
        go_roundg (n - (kk + 1))
        case measure => omega
        case rel =>
          refine ⟨kk + 1, by omega, by omega, by go_num, hb', (show Aside _ from fun j hj => ?_)⟩
          by_cases e : j = kk
          · subst e
            rw [B.out]; exact hq
          · exact A.out j (by omega)
    · have hltz : ¬ (kk : Int) < (n : Int) := by omega
      have : kk = n := by omega
      subst this
      go_wp2
      go_ret
      refine ⟨?_, BW.out⟩
      rw [Lib.idxBy_miss (fun _ y => p y) zs kk default A.out]
      rfl
theorem containsFunc_Point (p : Int × Int → Bool) (g : Nat) (lb : Array Value) (eg : ∀ args w, (callFunc g args).run Try.prog w = .ok (.enter g args) w) (b off n c : Nat) (zs : List (Int × Int)) (w : World)
    (hp : predOfPoint g lb p zs w) (hz : zs.length = n) (hbig : n ≤ 9000000000000000000) (hb : b < w.heap.size) (hc : rowOfPoint w b off zs) :
    Calls Try.prog 34 #[.slice (some ⟨b, off, none⟩) n c, .func (.func g) #[] lb] w fun e w' => e = .returned (.bool (zs.any p)) ∧ Below w.heap.size w w' := by
  have ht : zs.any p = decide (0 ≤ Lib.idxBy (fun _ y => p y) (zs.take n) default) := by
    rw [Lib.idxBy_nonneg_iff (fun _ y => p y) (zs.take n) default, List.take_of_length_le (by omega)]
  rw [ht]
  have HI := Lib.hid (indexFunc_Point p g lb eg b off n c zs w hp hz hbig hb hc)
  clear hp hc hz ht
  generalize Lib.idxBy (fun _ y => p y) (zs.take n) default = r at HI ⊢
  go_enter Try.func34, Try.ntmps34
  go_wp2_with (go_at_call 59; refine HI.out.mono ?_; rintro e w' ⟨rfl, hb'⟩)
  go_ret
  exact ⟨rfl, hb'⟩

theorem impl_allValid_1 (x : Int) (y : Int) (w : World) :
    Calls Try.prog 65 #[.agg #[.int .i64 x, .int .i64 y]] w fun e w' => e = .returned (.bool (!ptB x y)) ∧ Below w.heap.size w w' := by
  go_enter Try.func65, Try.ntmps65
  go_wp2_with (first | (go_at_call 40; refine (impl_Point_valid _ _ _).mono ?_; rintro e w' ⟨rfl, hb⟩; obtain ⟨hc, hf⟩ := bcell hb; have hz0 : w.heap.size < w'.heap.size := (by ((have := hb.size; try simp at this); omega))))
  all_goals go_ret
  all_goals exact ⟨rfl, (by (repeat (first | with_reducible exact Below.refl _ _ | with_reducible refine bl_alloc ?_ _ | with_reducible refine bl_drew ?_ | with_reducible refine bl_set ?_ (by first | (simp; done) | (simp; omega)) _ | with_reducible refine bl_call (by assumption) ?_)))⟩

def allB (zs : List (Int × Int)) : Bool := zs.all fun x => ptB x.1 x.2
theorem allB_any (zs : List (Int × Int)) : (!(zs.any fun x => !ptB x.1 x.2)) = allB zs := by unfold allB; rw [List.all_eq_not_any_not]
theorem impl_allValid (b off n c : Nat) (zs : List (Int × Int)) (w : World) (hz : zs.length = n) (hbig : n ≤ 9000000000000000000) (hb : b < w.heap.size) (hc : rowOfPoint w b off zs) :
    Calls Try.prog 56 #[.slice (some ⟨b, off, none⟩) n c] w fun e w' => e = .returned (.bool (allB zs)) ∧ Below w.heap.size w w' := by
  have hp : predOfPoint 65 #[] (fun x => !ptB x.1 x.2) zs w := fun W x _ hW => (impl_allValid_1 x.1 x.2 W).mono fun _ _ ⟨he, hw⟩ => ⟨he, bl_call hw hW⟩
  have eg : ∀ args w, (callFunc 65 args).run Try.prog w = .ok (.enter 65 args) w := enters_of Try.func65 (by kernel_rfl) rfl
  rw [← allB_any]
  have HI := Lib.hid (containsFunc_Point (fun x => !ptB x.1 x.2) 65 #[] eg b off n c zs w hp hz hbig hb hc)
  clear hp hc hz
  generalize (zs.any fun x => !ptB x.1 x.2) = r at HI ⊢
  go_enter Try.func56, Try.ntmps56
  go_wp2_with (go_at_call 34; refine HI.out.mono ?_; rintro e w' ⟨rfl, hb'⟩)
  go_ret
  exact ⟨rfl, hb'⟩

theorem impl_allValid2 (b c : Nat) (a1 a2 b1 b2 : Int) (w : World) (hb : b < w.heap.size) (hc : w.cell? ⟨b, 0, none⟩ = some (.int .i64 a1) ∧ w.cell? ⟨b, 1, none⟩ = some (.int .i64 a2) ∧ w.cell? ⟨b, 2, none⟩ = some (.int .i64 b1) ∧ w.cell? ⟨b, 3, none⟩ = some (.int .i64 b2)) :
    Calls Try.prog 56 #[.slice (some ⟨b, 0, none⟩) 2 c] w fun e w' => e = .returned (.bool (v2B a1 a2 b1 b2)) ∧ Below w.heap.size w w' := by
  have h : rowOfPoint w b 0 [(a1, a2), (b1, b2)] := by
    intro j hj
    match j, hj with
    | 0, _ => simpa using And.intro hc.1 hc.2.1
    | 1, _ => simpa using And.intro hc.2.2.1 hc.2.2.2
    | j + 2, hj => exact absurd hj (by simp)
  have e : allB [(a1, a2), (b1, b2)] = v2B a1 a2 b1 b2 := by simp [allB, v2B]
  rw [← e]
  exact impl_allValid b 0 2 c _ w rfl (by omega) hb h

theorem impl_allValid3 (b c : Nat) (a1 a2 b1 b2 c1 c2 : Int) (w : World) (hb : b < w.heap.size) (hc : w.cell? ⟨b, 0, none⟩ = some (.int .i64 a1) ∧ w.cell? ⟨b, 1, none⟩ = some (.int .i64 a2) ∧ w.cell? ⟨b, 2, none⟩ = some (.int .i64 b1) ∧ w.cell? ⟨b, 3, none⟩ = some (.int .i64 b2) ∧ w.cell? ⟨b, 4, none⟩ = some (.int .i64 c1) ∧ w.cell? ⟨b, 5, none⟩ = some (.int .i64 c2)) :
    Calls Try.prog 56 #[.slice (some ⟨b, 0, none⟩) 3 c] w fun e w' => e = .returned (.bool (v3B a1 a2 b1 b2 c1 c2)) ∧ Below w.heap.size w w' := by
  have h : rowOfPoint w b 0 [(a1, a2), (b1, b2), (c1, c2)] := by
    intro j hj
    match j, hj with
    | 0, _ => simpa using And.intro hc.1 hc.2.1
    | 1, _ => simpa using And.intro hc.2.2.1 hc.2.2.2.1
    | 2, _ => simpa using And.intro hc.2.2.2.2.1 hc.2.2.2.2.2
    | j + 3, hj => exact absurd hj (by simp)
  have e : allB [(a1, a2), (b1, b2), (c1, c2)] = v3B a1 a2 b1 b2 c1 c2 := by simp [allB, v3B]
  rw [← e]
  exact impl_allValid b 0 3 c _ w rfl (by omega) hb h

theorem impl_allValid4 (b c : Nat) (a1 a2 b1 b2 c1 c2 d1 d2 : Int) (w : World) (hb : b < w.heap.size) (hc : w.cell? ⟨b, 0, none⟩ = some (.int .i64 a1) ∧ w.cell? ⟨b, 1, none⟩ = some (.int .i64 a2) ∧ w.cell? ⟨b, 2, none⟩ = some (.int .i64 b1) ∧ w.cell? ⟨b, 3, none⟩ = some (.int .i64 b2) ∧ w.cell? ⟨b, 4, none⟩ = some (.int .i64 c1) ∧ w.cell? ⟨b, 5, none⟩ = some (.int .i64 c2) ∧ w.cell? ⟨b, 6, none⟩ = some (.int .i64 d1) ∧ w.cell? ⟨b, 7, none⟩ = some (.int .i64 d2)) :
    Calls Try.prog 56 #[.slice (some ⟨b, 0, none⟩) 4 c] w fun e w' => e = .returned (.bool (v4B a1 a2 b1 b2 c1 c2 d1 d2)) ∧ Below w.heap.size w w' := by
  have h : rowOfPoint w b 0 [(a1, a2), (b1, b2), (c1, c2), (d1, d2)] := by
    intro j hj
    match j, hj with
    | 0, _ => simpa using And.intro hc.1 hc.2.1
    | 1, _ => simpa using And.intro hc.2.2.1 hc.2.2.2.1
    | 2, _ => simpa using And.intro hc.2.2.2.2.1 hc.2.2.2.2.2.1
    | 3, _ => simpa using And.intro hc.2.2.2.2.2.2.1 hc.2.2.2.2.2.2.2
    | j + 4, hj => exact absurd hj (by simp)
  have e : allB [(a1, a2), (b1, b2), (c1, c2), (d1, d2)] = v4B a1 a2 b1 b2 c1 c2 d1 d2 := by simp [allB, v4B]
  rw [← e]
  exact impl_allValid b 0 4 c _ w rfl (by omega) hb h

end Go.Proofs.Ytbfeaiaoelkggaa
