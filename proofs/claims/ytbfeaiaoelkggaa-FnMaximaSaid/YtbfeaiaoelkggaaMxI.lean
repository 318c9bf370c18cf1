/- Contracts of functions that this seat's statements reach: each is shown to compute a plain Lean function, and to leave what was there as it was. No conditions but those in each theorem. -/
import Derived.Test.YtbfeaiaoelkggaaOwn
namespace Go.Proofs.Ytbfeaiaoelkggaa
open Go.RowKit
set_option linter.unusedVariables false


theorem infI : (Try.prog.info? 3).map (fun i => (i.zero, i.size, i.bytes)) = some (some (.int .i64 0), 1, 8) := by kernel_rfl
def flatI (l : List Nat) : List Value := l.map fun (i : Nat) => .int .i64 (i : Int)
theorem flatI_len (l : List Nat) : (flatI l).length = l.length := by simp [flatI]
theorem flatI_snoc (l : List Nat) (k : Nat) : flatI (l ++ [k]) = flatI l ++ [.int .i64 (k : Int)] := by simp [flatI]
theorem flatI_at (l : List Nat) (j : Nat) (h : j < l.length) : (flatI l)[j]? = some (.int .i64 (l[j]! : Nat)) := by
  unfold flatI
  rw [List.getElem?_map, List.getElem?_eq_getElem h, getElem!_pos l j h]
  rfl
theorem one_cellI (x : Int) : ∀ u ∈ ([.int .i64 x] : List Value), u.oneCell' = true := by
  intro u hu
  simp at hu
  subst hu
  rfl
def rowI (w : World) (g : Nat) (l : List Nat) : Prop := ∀ j, j < l.length → w.cell? ⟨g, j, none⟩ = some (.int .i64 (l[j]! : Nat))
theorem rowI_below {w w' : World} {g : Nat} {l : List Nat} (h : rowI w g l) (hg : g < w.heap.size) (B : Below w.heap.size w w') : rowI w' g l := fun j hj => (B.cell (p := ⟨g, j, none⟩) hg).trans (h j hj)
theorem own_rowI {w : World} {base g n cap : Nat} {l : List Nat} (h : w.ownsRow base 3 1 (.slice (some ⟨g, 0, none⟩) n cap) n (flatI l)) : l.length = n ∧ base ≤ g ∧ g < w.heap.size ∧ rowI w g l ∧ n ≤ cap := by
  have hl := h.1
  rw [flatI_len] at hl
  obtain ⟨h1, h2⟩ := h.lt g rfl
  have hc : n ≤ cap := by
    rcases h.2 with ⟨h0, _⟩ | ⟨g', cap', cur, hv, _, hg, hn, _, hs, _⟩
    · cases h0
    · obtain ⟨rfl, rfl⟩ : g = g' ∧ cap = cap' := by simpa using hv
      exact hn
  refine ⟨by omega, h1, h2, fun j hj => ?_, hc⟩
  have c := h.cells (g := g) rfl j _ (flatI_at l j hj)
  simp only [Addr.add_lit] at c
  simpa using c

theorem laws_equalInts_nil (w : World) : Calls Try.prog 14 #[.slice none 0 0, .slice none 0 0] w fun e w' => e = .returned (.bool true) ∧ Below w.heap.size w w' := by
  go_enter Try.func14, Try.ntmps14
  go_wp2
  refine wp_loop_rounds 1 ?_
  rw [rounds_succ]
  go_wp2
  go_ret
  exact ⟨rfl, (by (repeat (first | with_reducible exact Below.refl _ _ | with_reducible refine bl_alloc ?_ _ | with_reducible refine bl_drew ?_ | with_reducible refine bl_set ?_ (by first | (simp; done) | (simp; omega)) _ | with_reducible refine bl_call (by assumption) ?_)))⟩

set_option maxHeartbeats 1000000 in
theorem laws_equalInts (b g c d : Nat) (l : List Nat) (w : World) (hn : l.length ≤ 1048576) (hb : b < w.heap.size) (hr : rowI w b l) (hg : g < w.heap.size) (hs : rowI w g l) :
    Calls Try.prog 14 #[.slice (some ⟨b, 0, none⟩) l.length c, .slice (some ⟨g, 0, none⟩) l.length d] w fun e w' => e = .returned (.bool true) ∧ Below w.heap.size w w' := by
  obtain ⟨n, hz⟩ : ∃ n, l.length = n := ⟨_, rfl⟩
  rw [hz] at hn ⊢
  have HZ := Lib.hid hz
  have HR := Lib.hid hr
  have HS := Lib.hid hs
  have hB := Lib.hid hb
  have hG := Lib.hid hg
  clear hz hr hs hb hg
  go_enter Try.func14, Try.ntmps14
  go_wp2
  go_loopg [5] n (fun gg s5 wr => ∃ kk : Nat, kk ≤ n ∧ n - kk ≤ gg ∧ s5 = .int .i64 kk ∧ Aside (Below w.heap.size w wr))
  case atStart => exact ⟨0, Nat.zero_le _, by omega, rfl, Below.refl _ w⟩
  case round =>
    obtain ⟨kk, hkk, hg, rfl, BW⟩ := hrel
    by_cases hlt : kk < n
    · have hltz : (kk : Int) < (n : Int) := by omega
      have hlz : kk < l.length := by rw [HZ.out]; exact hlt
      have l0 := (BW.out.cell (p := ⟨b, kk, none⟩) hB.out).trans (HR.out kk hlz)
      have l1 := (BW.out.cell (p := ⟨g, kk, none⟩) hG.out).trans (HS.out kk hlz)
      clear hlz
      generalize (l[kk]! : Nat) = v at l0 l1
      have k0 := cell_regrown l0
      have k1 := cell_regrown l1
      clear l0 l1
      have hvv : ((v : Int) != (v : Int)) = false := by simp
      go_wp2
      refine wp_region_quiet_below (by kernel_rfl) (by kernel_rfl) ?_
      repeat (go_big_quiet_step (fail))
      refine wpQuiet_nil ?_
      intro _ hw'
      obtain ⟨⟨dq, osq⟩, hw''⟩ := hw'
      subst hw''
      have B3 := Lib.hid (bl_call (below_regrown wr dq osq) BW.out)
      clear k0 k1
      go_wp2
      go_roundg (n - (kk + 1))
      case measure => omega
      case rel => exact ⟨kk + 1, by omega, by omega, by go_num, B3.out⟩

    · have hltz : ¬ (kk : Int) < (n : Int) := by omega
      go_wp2
      go_ret
      exact ⟨rfl, BW.out⟩

end Go.Proofs.Ytbfeaiaoelkggaa
