/- Contracts of functions that this seat's statements reach: each is shown to compute a plain Lean function, and to leave what was there as it was. No conditions but those in each theorem. -/
import Derived.Test.YtckaikammpiliaaChecked
import Derived.Test.YtckaikammpiliaaPlain
import Derived.WalkKit
import Derived.ProofKit
import Derived.Below
import Derived.Lib.Hide
import Derived.BigGuardPart
import Derived.BigQuiet
import Derived.Deep.QuietTactic
import Derived.Lib.QuietBelow
import Derived.LoopTactic
import Derived.Outline
import Derived.Shelf.Abstract
import Derived.Lib.SlBy
import Derived.Deep.LoopGhost
namespace Go.Proofs.Ytckaikammpiliaa
open Go.RowKit
set_option linter.unusedVariables false


theorem bcell {W w1 : World} (hb : Below W.heap.size W w1) : (∀ b o, b < W.heap.size → w1.cell? ⟨b, o, none⟩ = W.cell? ⟨b, o, none⟩) ∧ (∀ b o, b < W.heap.size → w1.frozen? ⟨b, o, none⟩ = W.frozen? ⟨b, o, none⟩) :=
  ⟨fun b o h => hb.cell (p := ⟨b, o, none⟩) h, fun b o h => hb.frozen (p := ⟨b, o, none⟩) h⟩
theorem bl_alloc {w a : World} (h : Below w.heap.size w a) (o : Obj) : Below w.heap.size w (a.alloc o) := h.alloc h.size o
theorem bl_set {w a : World} (h : Below w.heap.size w a) {p : Addr} (hp : w.heap.size ≤ p.block) (u : Value) : Below w.heap.size w (a.setCell p u) := h.setCell hp u
theorem bl_drew {w a : World} (h : Below w.heap.size w a) : Below w.heap.size w a.drew := h.drew
theorem bl_drewN {w a : World} (h : Below w.heap.size w a) (n : Nat) : Below w.heap.size w (a.drewN n) := ⟨h.os, h.tape, h.output, h.size, h.block⟩
theorem bl_call {w a b : World} (hb : Below a.heap.size a b) (h : Below w.heap.size w a) : Below w.heap.size w b := h.trans (hb.mono h.size)
theorem ret_int {k : IntKind} {a b : Int} (h : a = b) : Ending.returned (.int k a) = .returned (.int k b) := by rw [h]
theorem ret_bool {a b : Bool} (h : a = b) : Ending.returned (.bool a) = .returned (.bool b) := by rw [h]


theorem qb_same {P : Program} {f : FuncId} {args : Array Value} {W : World} {v : Value} (h : Calls P f args W fun e w' => e = .returned v ∧ W = w') : Calls P f args W fun e w' => e = .returned v ∧ Below W.heap.size W w' :=
  h.mono fun _ _ ⟨he, hw⟩ => ⟨he, hw ▸ Below.refl _ _⟩
theorem qb_drew {P : Program} {f : FuncId} {args : Array Value} {W : World} {v : Value} (h : Calls P f args W fun e w' => e = .returned v ∧ ∃ n, w' = W.drewN n) : Calls P f args W fun e w' => e = .returned v ∧ Below W.heap.size W w' :=
  h.mono fun _ _ ⟨he, n, hw⟩ => ⟨he, by rw [hw]; exact bl_drewN (Below.refl _ _) n⟩

theorem impl_within (n : Int) (l : Int) (h : Int) (w : World) :
    Calls Try.prog 66 #[.int .i64 n, .int .i64 l, .int .i64 h] w fun e w' => e = .returned (.bool (inB n l h)) ∧ w = w' := by
  by_cases h1 : l ≤ n
  · by_cases h2 : n ≤ h
    · have hr : inB n l h = true := by simp [inB, h1, h2]
      rw [hr]
      clear hr
      go_enter Try.func66, Try.ntmps66
      go_wp2
      go_ret
      exact ⟨rfl, rfl⟩
    · have hr : inB n l h = false := by simp [inB, h2]
      rw [hr]
      clear hr
      go_enter Try.func66, Try.ntmps66
      go_wp2
      go_ret
      exact ⟨rfl, rfl⟩
  · have hr : inB n l h = false := by simp [inB, h1]
    rw [hr]
    clear hr
    go_enter Try.func66, Try.ntmps66
    go_wp2
    go_ret
    exact ⟨rfl, rfl⟩

theorem spec_inRange (n : Int) (l : Int) (h : Int) (w : World) :
    Calls Try.prog 65 #[.int .i64 n, .int .i64 l, .int .i64 h] w fun e w' => e = .returned (.bool (inB n l h)) ∧ w = w' := by
  by_cases h1 : l ≤ n
  · by_cases h2 : n ≤ h
    · have hr : inB n l h = true := by simp [inB, h1, h2]
      rw [hr]
      clear hr
      go_enter Try.func65, Try.ntmps65
      go_wp2
      go_ret
      exact ⟨rfl, rfl⟩
    · have hr : inB n l h = false := by simp [inB, h2]
      rw [hr]
      clear hr
      go_enter Try.func65, Try.ntmps65
      go_wp2
      go_ret
      exact ⟨rfl, rfl⟩
  · have hr : inB n l h = false := by simp [inB, h1]
    rw [hr]
    clear hr
    go_enter Try.func65, Try.ntmps65
    go_wp2
    go_ret
    exact ⟨rfl, rfl⟩

theorem spec_abs (n : Int) (w : World) (h1 : -9000000000000000000 ≤ n) (h2 : n ≤ 9000000000000000000) :
    Calls Try.prog 68 #[.int .i64 n] w fun e w' => e = .returned (.int .i64 (iabs n)) ∧ w = w' := by
  by_cases hn : n < 0
  · rw [iabs_of_neg hn]
    go_enter Try.func68, Try.ntmps68
    go_wp2
    go_ret
    exact ⟨rfl, rfl⟩
  · rw [iabs_of_nonneg hn]
    go_enter Try.func68, Try.ntmps68
    go_wp2
    go_ret
    exact ⟨rfl, rfl⟩

theorem impl_abs (n : Int) (w : World) (h1 : -9000000000000000000 ≤ n) (h2 : n ≤ 9000000000000000000) :
    Calls Try.prog 75 #[.int .i64 n] w fun e w' => e = .returned (.int .i64 (iabs n)) ∧ w = w' := by
  by_cases hn : n < 0
  · rw [iabs_of_neg hn]
    go_enter Try.func75, Try.ntmps75
    go_wp2
    go_ret
    exact ⟨ret_int (by omega), rfl⟩
  · rw [iabs_of_nonneg hn]
    go_enter Try.func75, Try.ntmps75
    go_wp2
    go_ret
    exact ⟨ret_int (by omega), rfl⟩

set_option maxHeartbeats 400000 in
theorem spec_gcd (a : Int) (b : Int) (w : World) (h0 : 0 ≤ a) (h1 : a ≤ 9000000000000000000) (h2 : 0 ≤ b) (h3 : b ≤ 9000000000000000000) :
    Calls Try.prog 67 #[.int .i64 a, .int .i64 b] w fun e w' => e = .returned (.int .i64 (gcdI a b)) ∧ w = w' := by
  obtain ⟨g, hg⟩ : ∃ g, g = gcdI a b := ⟨_, rfl⟩
  rw [← hg]
  have HG := Lib.hid hg
  clear hg
  go_enter Try.func67, Try.ntmps67
  go_wp2
  go_loop [0, 1] (fun va vb => ∃ x y : Int, va = .int .i64 x ∧ vb = .int .i64 y ∧ 0 ≤ x ∧ x ≤ 9000000000000000000 ∧ 0 ≤ y ∧ y ≤ 9000000000000000000 ∧ Hid (g = gcdI x y)) (fun _ vb => (intOf vb).toNat)
  case atStart => exact ⟨a, b, rfl, rfl, by omega, by omega, by omega, by omega, HG⟩
  case round =>
    obtain ⟨x, y, rfl, rfl, hx0, hx1, hy0, hy1, HE⟩ := hrel
    by_cases hy : 0 < y
    · have hm := emod_small x y hy
      obtain ⟨hm0, hm1⟩ := hm
      have hs := Lib.hid (gcdI_estep x y hx0)
      go_wp2
      go_round
      case rel => exact ⟨y, x % y, rfl, rfl, by omega, by omega, by omega, by omega, by rw [HE.out, hs.out]; rfl⟩
      case measure => simp [intOf]; omega
    · have hy' : y = 0 := by omega
      subst hy'
      go_wp2
      go_ret
      exact ⟨ret_int (by rw [HE.out, gcdI_zero, iabs_of_nonneg (by omega)]), rfl⟩

theorem impl_Point_valid (x : Int) (y : Int) (w : World) :
    Calls Try.prog 48 #[.agg #[.int .i64 x, .int .i64 y]] w fun e w' => e = .returned (.bool (ptB x y)) ∧ Below w.heap.size w w' := by
  go_enter Try.func48, Try.ntmps48
  go_wp2_with (first | (go_at_call 66; refine (impl_within _ _ _ _).mono ?_; rintro e w' ⟨rfl, rfl⟩))
  all_goals go_ret
  all_goals exact ⟨by simp [ptB, *], (by (repeat (first | with_reducible exact Below.refl _ _ | with_reducible refine bl_alloc ?_ _ | with_reducible refine bl_drew ?_ | with_reducible refine bl_set ?_ (by first | (simp; done) | (simp; omega)) _ | with_reducible refine bl_call (by assumption) ?_)))⟩

theorem spec_validPoint (x : Int) (y : Int) (w : World) :
    Calls Try.prog 47 #[.agg #[.int .i64 x, .int .i64 y]] w fun e w' => e = .returned (.bool (ptB x y)) ∧ Below w.heap.size w w' := by
  go_enter Try.func47, Try.ntmps47
  go_wp2_with (first | (go_at_call 65; refine (spec_inRange _ _ _ _).mono ?_; rintro e w' ⟨rfl, rfl⟩))
  all_goals go_ret
  all_goals exact ⟨by simp [ptB, *], (by (repeat (first | with_reducible exact Below.refl _ _ | with_reducible refine bl_alloc ?_ _ | with_reducible refine bl_drew ?_ | with_reducible refine bl_set ?_ (by first | (simp; done) | (simp; omega)) _ | with_reducible refine bl_call (by assumption) ?_)))⟩

theorem impl_ValidPoint (x : Int) (y : Int) (w : World) :
    Calls Try.prog 20 #[.agg #[.int .i64 x, .int .i64 y]] w fun e w' => e = .returned (.bool (ptB x y)) ∧ Below w.heap.size w w' := by
  go_enter Try.func20, Try.ntmps20
  go_wp2_with (first | (go_at_call 48; refine (impl_Point_valid _ _ _).mono ?_; rintro e w' ⟨rfl, hb⟩; obtain ⟨hc, hf⟩ := bcell hb; have hz0 : w.heap.size < w'.heap.size := (by ((have := hb.size; try simp at this); omega))))
  all_goals go_ret
  all_goals exact ⟨rfl, (by (repeat (first | with_reducible exact Below.refl _ _ | with_reducible refine bl_alloc ?_ _ | with_reducible refine bl_drew ?_ | with_reducible refine bl_set ?_ (by first | (simp; done) | (simp; omega)) _ | with_reducible refine bl_call (by assumption) ?_)))⟩

theorem spec_ValidPoint (x : Int) (y : Int) (w : World) :
    Calls Try.prog 18 #[.agg #[.int .i64 x, .int .i64 y]] w fun e w' => e = .returned (.bool (ptB x y)) ∧ Below w.heap.size w w' := by
  go_enter Try.func18, Try.ntmps18
  go_wp2_with (first | (go_at_call 47; refine (spec_validPoint _ _ _).mono ?_; rintro e w' ⟨rfl, hb⟩; obtain ⟨hc, hf⟩ := bcell hb; have hz0 : w.heap.size < w'.heap.size := (by ((have := hb.size; try simp at this); omega))))
  all_goals go_ret
  all_goals exact ⟨rfl, (by (repeat (first | with_reducible exact Below.refl _ _ | with_reducible refine bl_alloc ?_ _ | with_reducible refine bl_drew ?_ | with_reducible refine bl_set ?_ (by first | (simp; done) | (simp; omega)) _ | with_reducible refine bl_call (by assumption) ?_)))⟩

theorem laws_toPoint (x : Int) (y : Int) (w : World) :
    Calls Try.prog 19 #[.agg #[.int .i64 x, .int .i64 y]] w fun e w' => e = .returned (.agg #[.int .i64 x, .int .i64 y]) ∧ Below w.heap.size w w' := by
  go_enter Try.func19, Try.ntmps19
  go_wp2
  refine bodyPost_ret (v := .agg #[.int .i64 x, .int .i64 y]) (by simp [results, Try.results19, go_sem]) rfl ⟨rfl, ?_⟩
  (repeat (first | with_reducible exact Below.refl _ _ | with_reducible refine bl_alloc ?_ _ | with_reducible refine bl_drew ?_ | with_reducible refine bl_set ?_ (by first | (simp; done) | (simp; omega)) _ | with_reducible refine bl_call (by assumption) ?_))

theorem laws_toGraph (m : Int) (b : Int) (w : World) :
    Calls Try.prog 16 #[.agg #[.int .i64 m, .int .i64 b]] w fun e w' => e = .returned (.agg #[.int .i64 m, .int .i64 b]) ∧ Below w.heap.size w w' := by
  go_enter Try.func16, Try.ntmps16
  go_wp2
  refine bodyPost_ret (v := .agg #[.int .i64 m, .int .i64 b]) (by simp [results, Try.results16, go_sem]) rfl ⟨rfl, ?_⟩
  (repeat (first | with_reducible exact Below.refl _ _ | with_reducible refine bl_alloc ?_ _ | with_reducible refine bl_drew ?_ | with_reducible refine bl_set ?_ (by first | (simp; done) | (simp; omega)) _ | with_reducible refine bl_call (by assumption) ?_))

theorem laws_toRat (n : Int) (d : Int) (w : World) :
    Calls Try.prog 31 #[.agg #[.int .i64 n, .int .i64 d]] w fun e w' => e = .returned (.agg #[.int .i64 n, .int .i64 d]) ∧ Below w.heap.size w w' := by
  go_enter Try.func31, Try.ntmps31
  go_wp2
  refine bodyPost_ret (v := .agg #[.int .i64 n, .int .i64 d]) (by simp [results, Try.results31, go_sem]) rfl ⟨rfl, ?_⟩
  (repeat (first | with_reducible exact Below.refl _ _ | with_reducible refine bl_alloc ?_ _ | with_reducible refine bl_drew ?_ | with_reducible refine bl_set ?_ (by first | (simp; done) | (simp; omega)) _ | with_reducible refine bl_call (by assumption) ?_))

theorem laws_toMatrix (a : Int) (b : Int) (c : Int) (d : Int) (w : World) :
    Calls Try.prog 22 #[.agg #[.int .i64 a, .int .i64 b, .int .i64 c, .int .i64 d]] w fun e w' => e = .returned (.agg #[.int .i64 a, .int .i64 b, .int .i64 c, .int .i64 d]) ∧ Below w.heap.size w w' := by
  go_enter Try.func22, Try.ntmps22
  go_wp2
  refine bodyPost_ret (v := .agg #[.int .i64 a, .int .i64 b, .int .i64 c, .int .i64 d]) (by simp [results, Try.results22, go_sem]) rfl ⟨rfl, ?_⟩
  (repeat (first | with_reducible exact Below.refl _ _ | with_reducible refine bl_alloc ?_ _ | with_reducible refine bl_drew ?_ | with_reducible refine bl_set ?_ (by first | (simp; done) | (simp; omega)) _ | with_reducible refine bl_call (by assumption) ?_))

theorem laws_toLine (a : Int) (b : Int) (c : Int) (w : World) :
    Calls Try.prog 37 #[.agg #[.int .i64 a, .int .i64 b, .int .i64 c]] w fun e w' => e = .returned (.agg #[.int .i64 a, .int .i64 b, .int .i64 c]) ∧ Below w.heap.size w w' := by
  go_enter Try.func37, Try.ntmps37
  go_wp2
  refine bodyPost_ret (v := .agg #[.int .i64 a, .int .i64 b, .int .i64 c]) (by simp [results, Try.results37, go_sem]) rfl ⟨rfl, ?_⟩
  (repeat (first | with_reducible exact Below.refl _ _ | with_reducible refine bl_alloc ?_ _ | with_reducible refine bl_drew ?_ | with_reducible refine bl_set ?_ (by first | (simp; done) | (simp; omega)) _ | with_reducible refine bl_call (by assumption) ?_))

theorem laws_eqPoint (x : Int) (y : Int) (w : World) :
    Calls Try.prog 29 #[.agg #[.int .i64 x, .int .i64 y], .agg #[.int .i64 x, .int .i64 y]] w fun e w' => e = .returned (.bool true) ∧ Below w.heap.size w w' := by
  go_enter Try.func29, Try.ntmps29
  go_wp2
  all_goals go_ret
  all_goals exact ⟨rfl, (by (repeat (first | with_reducible exact Below.refl _ _ | with_reducible refine bl_alloc ?_ _ | with_reducible refine bl_drew ?_ | with_reducible refine bl_set ?_ (by first | (simp; done) | (simp; omega)) _ | with_reducible refine bl_call (by assumption) ?_)))⟩

theorem laws_eqGraph (m : Int) (b : Int) (w : World) :
    Calls Try.prog 26 #[.agg #[.int .i64 m, .int .i64 b], .agg #[.int .i64 m, .int .i64 b]] w fun e w' => e = .returned (.bool true) ∧ Below w.heap.size w w' := by
  go_enter Try.func26, Try.ntmps26
  go_wp2
  all_goals go_ret
  all_goals exact ⟨rfl, (by (repeat (first | with_reducible exact Below.refl _ _ | with_reducible refine bl_alloc ?_ _ | with_reducible refine bl_drew ?_ | with_reducible refine bl_set ?_ (by first | (simp; done) | (simp; omega)) _ | with_reducible refine bl_call (by assumption) ?_)))⟩

def rowOfPoint (w : World) (b off : Nat) (zs : List (Int × Int)) : Prop := ∀ j, j < zs.length → w.cell? ⟨b, off + j * 2, none⟩ = some (.int .i64 zs[j]!.1) ∧ w.cell? ⟨b, off + j * 2 + 1, none⟩ = some (.int .i64 zs[j]!.2)
def predOfPoint (g : Nat) (lb : Array Value) (p : Int × Int → Bool) (w : World) : Prop :=
  ∀ (W : World) (x : Int × Int), Below w.heap.size w W → Calls Try.prog g (#[.agg #[.int .i64 x.1, .int .i64 x.2]] ++ lb) W fun e w' => e = .returned (.bool (p x)) ∧ Below w.heap.size w w'
set_option maxHeartbeats 1000000 in
theorem indexFunc_Point (p : Int × Int → Bool) (g : Nat) (lb : Array Value) (eg : ∀ args w, (callFunc g args).run Try.prog w = .ok (.enter g args) w) (b off n c : Nat) (zs : List (Int × Int)) (w : World)
    (hp : predOfPoint g lb p w) (hz : zs.length = n) (hbig : n ≤ 9000000000000000000) (hb : b < w.heap.size) (hc : rowOfPoint w b off zs) :
    Calls Try.prog 76 #[.slice (some ⟨b, off, none⟩) n c, .func (.func g) #[] lb] w fun e w' => e = .returned (.int .i64 (Lib.idxBy (fun _ y => p y) (zs.take n) default)) ∧ Below w.heap.size w w' := by
  have HZ := Lib.hid hz
  clear hz
  have hrow : ∀ (wr : World), Below w.heap.size w wr → ∀ kk, kk < zs.length → wr.cell? ⟨b, off + kk * 2, none⟩ = some (.int .i64 zs[kk]!.1) ∧ wr.cell? ⟨b, off + kk * 2 + 1, none⟩ = some (.int .i64 zs[kk]!.2) := fun wr hW kk hk => by
    have h := hc kk hk
    simp only [hW.cell (p := ⟨b, _, none⟩) hb]
    exact h
  have HP := Lib.hid hp
  have HR := Lib.hid hrow
  clear hp hc hrow
  go_enter Try.func76, Try.ntmps76
  go_wp2
  go_loopg [5, 8] n (fun gg _ s8 wr => ∃ kk : Nat, kk ≤ n ∧ n - kk ≤ gg ∧ s8 = .int .i64 kk ∧ Aside (Below w.heap.size w wr) ∧ Aside (∀ j, j < kk → p zs[j]! = false))
  case atStart => exact ⟨0, Nat.zero_le _, by omega, rfl, Below.refl _ w, fun j hj => absurd hj (Nat.not_lt_zero _)⟩
  case round =>
    obtain ⟨kk, hkk, hg, rfl, BW, A⟩ := hrel
    by_cases hlt : kk < n
    · have hltz : (kk : Int) < (n : Int) := by omega
      obtain ⟨l0, l1⟩ := HR.out wr BW.out kk (by rw [HZ.out]; exact hlt)
      have hcall := HP.out wr zs[kk]! BW.out
      generalize hy : zs[kk]! = y at l0 l1 hcall
      have B : Aside (zs[kk]! = y) := hy
      clear hy
      cases hq : p y with
      | true =>
        rw [hq] at hcall
        have HC := Lib.hid hcall
        clear hcall
        go_wp2_with (go_at_fn g; refine HC.out.mono ?_; rintro e w' ⟨rfl, hb'⟩)
        go_ret
        refine ⟨?_, hb'⟩
        rw [Lib.idxBy_hit (fun _ y => p y) zs n kk default hlt (by rw [HZ.out]; exact Nat.le_refl _) (by show p zs[kk]! = true; rw [B.out]; exact hq) A.out]
        rfl
      | false =>
        rw [hq] at hcall
        have HC := Lib.hid hcall
        clear hcall
        go_wp2_with (go_at_fn g; refine HC.out.mono ?_; rintro e w' ⟨rfl, hb'⟩)
        go_roundg (n - (kk + 1))
        case measure => omega
        case rel =>
          refine ⟨kk + 1, by omega, by omega, by go_num, hb', (show Aside _ from fun j hj => ?_)⟩
          by_cases e : j = kk
          · subst e
            rw [B.out]; exact hq
          · exact A.out j (by omega)
    · have hltz : ¬ (kk : Int) < (n : Int) := by omega
      have : kk = n := by omega
      subst this
      go_wp2
      go_ret
      refine ⟨?_, BW.out⟩
      rw [Lib.idxBy_miss (fun _ y => p y) zs kk default A.out]
      rfl
theorem containsFunc_Point (p : Int × Int → Bool) (g : Nat) (lb : Array Value) (eg : ∀ args w, (callFunc g args).run Try.prog w = .ok (.enter g args) w) (b off n c : Nat) (zs : List (Int × Int)) (w : World)
    (hp : predOfPoint g lb p w) (hz : zs.length = n) (hbig : n ≤ 9000000000000000000) (hb : b < w.heap.size) (hc : rowOfPoint w b off zs) :
    Calls Try.prog 70 #[.slice (some ⟨b, off, none⟩) n c, .func (.func g) #[] lb] w fun e w' => e = .returned (.bool (zs.any p)) ∧ Below w.heap.size w w' := by
  have ht : zs.any p = decide (0 ≤ Lib.idxBy (fun _ y => p y) (zs.take n) default) := by
    rw [Lib.idxBy_nonneg_iff (fun _ y => p y) (zs.take n) default, List.take_of_length_le (by omega)]
  rw [ht]
  have HI := Lib.hid (indexFunc_Point p g lb eg b off n c zs w hp hz hbig hb hc)
  clear hp hc hz ht
  generalize Lib.idxBy (fun _ y => p y) (zs.take n) default = r at HI ⊢
  go_enter Try.func70, Try.ntmps70
  go_wp2_with (go_at_call 76; refine HI.out.mono ?_; rintro e w' ⟨rfl, hb'⟩)
  go_ret
  exact ⟨rfl, hb'⟩

theorem impl_allValid_1 (x : Int) (y : Int) (w : World) :
    Calls Try.prog 71 #[.agg #[.int .i64 x, .int .i64 y]] w fun e w' => e = .returned (.bool (!ptB x y)) ∧ Below w.heap.size w w' := by
  go_enter Try.func71, Try.ntmps71
  go_wp2_with (first | (go_at_call 48; refine (impl_Point_valid _ _ _).mono ?_; rintro e w' ⟨rfl, hb⟩; obtain ⟨hc, hf⟩ := bcell hb; have hz0 : w.heap.size < w'.heap.size := (by ((have := hb.size; try simp at this); omega))))
  all_goals go_ret
  all_goals exact ⟨rfl, (by (repeat (first | with_reducible exact Below.refl _ _ | with_reducible refine bl_alloc ?_ _ | with_reducible refine bl_drew ?_ | with_reducible refine bl_set ?_ (by first | (simp; done) | (simp; omega)) _ | with_reducible refine bl_call (by assumption) ?_)))⟩

def allB (zs : List (Int × Int)) : Bool := zs.all fun x => ptB x.1 x.2
theorem allB_any (zs : List (Int × Int)) : (!(zs.any fun x => !ptB x.1 x.2)) = allB zs := by unfold allB; rw [List.all_eq_not_any_not]
theorem impl_allValid (b off n c : Nat) (zs : List (Int × Int)) (w : World) (hz : zs.length = n) (hbig : n ≤ 9000000000000000000) (hb : b < w.heap.size) (hc : rowOfPoint w b off zs) :
    Calls Try.prog 59 #[.slice (some ⟨b, off, none⟩) n c] w fun e w' => e = .returned (.bool (allB zs)) ∧ Below w.heap.size w w' := by
  have hp : predOfPoint 71 #[] (fun x => !ptB x.1 x.2) w := fun W x hW => (impl_allValid_1 x.1 x.2 W).mono fun _ _ ⟨he, hw⟩ => ⟨he, bl_call hw hW⟩
  have eg : ∀ args w, (callFunc 71 args).run Try.prog w = .ok (.enter 71 args) w := enters_of Try.func71 (by kernel_rfl) rfl
  rw [← allB_any]
  have HI := Lib.hid (containsFunc_Point (fun x => !ptB x.1 x.2) 71 #[] eg b off n c zs w hp hz hbig hb hc)
  clear hp hc hz
  generalize (zs.any fun x => !ptB x.1 x.2) = r at HI ⊢
  go_enter Try.func59, Try.ntmps59
  go_wp2_with (go_at_call 70; refine HI.out.mono ?_; rintro e w' ⟨rfl, hb'⟩)
  go_ret
  exact ⟨rfl, hb'⟩

theorem impl_allValid2 (b c : Nat) (a1 a2 b1 b2 : Int) (w : World) (hb : b < w.heap.size) (hc : w.cell? ⟨b, 0, none⟩ = some (.int .i64 a1) ∧ w.cell? ⟨b, 1, none⟩ = some (.int .i64 a2) ∧ w.cell? ⟨b, 2, none⟩ = some (.int .i64 b1) ∧ w.cell? ⟨b, 3, none⟩ = some (.int .i64 b2)) :
    Calls Try.prog 59 #[.slice (some ⟨b, 0, none⟩) 2 c] w fun e w' => e = .returned (.bool (v2B a1 a2 b1 b2)) ∧ Below w.heap.size w w' := by
  have h : rowOfPoint w b 0 [(a1, a2), (b1, b2)] := by
    intro j hj
    match j, hj with
    | 0, _ => simpa using And.intro hc.1 hc.2.1
    | 1, _ => simpa using And.intro hc.2.2.1 hc.2.2.2
    | j + 2, hj => exact absurd hj (by simp)
  have e : allB [(a1, a2), (b1, b2)] = v2B a1 a2 b1 b2 := by simp [allB, v2B]
  rw [← e]
  exact impl_allValid b 0 2 c _ w rfl (by omega) hb h

theorem impl_allValid3 (b c : Nat) (a1 a2 b1 b2 c1 c2 : Int) (w : World) (hb : b < w.heap.size) (hc : w.cell? ⟨b, 0, none⟩ = some (.int .i64 a1) ∧ w.cell? ⟨b, 1, none⟩ = some (.int .i64 a2) ∧ w.cell? ⟨b, 2, none⟩ = some (.int .i64 b1) ∧ w.cell? ⟨b, 3, none⟩ = some (.int .i64 b2) ∧ w.cell? ⟨b, 4, none⟩ = some (.int .i64 c1) ∧ w.cell? ⟨b, 5, none⟩ = some (.int .i64 c2)) :
    Calls Try.prog 59 #[.slice (some ⟨b, 0, none⟩) 3 c] w fun e w' => e = .returned (.bool (v3B a1 a2 b1 b2 c1 c2)) ∧ Below w.heap.size w w' := by
  have h : rowOfPoint w b 0 [(a1, a2), (b1, b2), (c1, c2)] := by
    intro j hj
    match j, hj with
    | 0, _ => simpa using And.intro hc.1 hc.2.1
    | 1, _ => simpa using And.intro hc.2.2.1 hc.2.2.2.1
    | 2, _ => simpa using And.intro hc.2.2.2.2.1 hc.2.2.2.2.2
    | j + 3, hj => exact absurd hj (by simp)
  have e : allB [(a1, a2), (b1, b2), (c1, c2)] = v3B a1 a2 b1 b2 c1 c2 := by simp [allB, v3B]
  rw [← e]
  exact impl_allValid b 0 3 c _ w rfl (by omega) hb h

theorem impl_allValid4 (b c : Nat) (a1 a2 b1 b2 c1 c2 d1 d2 : Int) (w : World) (hb : b < w.heap.size) (hc : w.cell? ⟨b, 0, none⟩ = some (.int .i64 a1) ∧ w.cell? ⟨b, 1, none⟩ = some (.int .i64 a2) ∧ w.cell? ⟨b, 2, none⟩ = some (.int .i64 b1) ∧ w.cell? ⟨b, 3, none⟩ = some (.int .i64 b2) ∧ w.cell? ⟨b, 4, none⟩ = some (.int .i64 c1) ∧ w.cell? ⟨b, 5, none⟩ = some (.int .i64 c2) ∧ w.cell? ⟨b, 6, none⟩ = some (.int .i64 d1) ∧ w.cell? ⟨b, 7, none⟩ = some (.int .i64 d2)) :
    Calls Try.prog 59 #[.slice (some ⟨b, 0, none⟩) 4 c] w fun e w' => e = .returned (.bool (v4B a1 a2 b1 b2 c1 c2 d1 d2)) ∧ Below w.heap.size w w' := by
  have h : rowOfPoint w b 0 [(a1, a2), (b1, b2), (c1, c2), (d1, d2)] := by
    intro j hj
    match j, hj with
    | 0, _ => simpa using And.intro hc.1 hc.2.1
    | 1, _ => simpa using And.intro hc.2.2.1 hc.2.2.2.1
    | 2, _ => simpa using And.intro hc.2.2.2.2.1 hc.2.2.2.2.2.1
    | 3, _ => simpa using And.intro hc.2.2.2.2.2.2.1 hc.2.2.2.2.2.2.2
    | j + 4, hj => exact absurd hj (by simp)
  have e : allB [(a1, a2), (b1, b2), (c1, c2), (d1, d2)] = v4B a1 a2 b1 b2 c1 c2 d1 d2 := by simp [allB, v4B]
  rw [← e]
  exact impl_allValid b 0 4 c _ w rfl (by omega) hb h

end Go.Proofs.Ytckaikammpiliaa
