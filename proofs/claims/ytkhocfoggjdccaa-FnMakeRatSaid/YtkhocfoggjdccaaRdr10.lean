/- What the draws yield. -/
import Derived.Test.YtkhocfoggjdccaaRdr2
namespace Go.Proofs.Ytkhocfoggjdccaa
open Go.RowKit
set_option linter.unusedVariables false

def DI (w : World) (e : Ending) (w' : World) : Prop := ∃ x y : Int, e = .returned (.tuple #[.int .i64 x, .int .i64 y]) ∧ (-2000000000000000001 ≤ x ∧ x ≤ 2000000000000000001) ∧ (-40000000 ≤ y ∧ y ≤ 40000000) ∧ Below w.heap.size w w'

set_option maxHeartbeats 2000000 in
theorem rdr_DrawMakeRat (B : Nat) (a : Option Addr) (n c : Nat) (w : World) (hB0 : B ≤ w.heap.size) (hs : BytesOf B w a n) (hc : n ≤ c) (hc2 : c ≤ 9223372036854775807) :
    Calls Try.prog 18 #[.slice a n c] w (DI w) := by
  have HS := Lib.hid hs
  clear hs
  go_enter Try.func18, Try.ntmps18
  go_wp2_with fail
  refine (rdr_new B a n c _ (by first | omega | (simp; done) | (simp; omega)) (HS.out.below hB0 (by repeat (first | with_reducible exact Below.refl _ _ | with_reducible refine bl_alloc ?_ _))) hc hc2).mono ?_
  rintro e w1 ⟨R, ar, nr, cr, rfl, hR, rd1, b1⟩
  try simp at hR
  have s1 := b1.size
  try simp at s1
  have t1 := rd1.lt
  have hB : B ≤ R := by omega
  go_wp2_with fail
  refine (rdr_one B R ar nr cr (0) _ 8 (-2000000000000000001) (2000000000000000001) _ (by (repeat (first | with_reducible assumption | with_reducible refine Rdr.alloc ?_ _ | with_reducible refine Rdr.below ?_ (by with_reducible assumption) | with_reducible refine Rdr.drew ?_ | with_reducible refine Rdr.drewN ?_ _ | with_reducible refine Rdr.set ?_ (by dsimp only; omega) (by dsimp only; omega) _))) (by omega) (ListOf.mk' _ _ _ _ _ _ (by intro j hj; rcases j with _ | _ | _ | _ | _ | _ | _ | _ | j <;> first | exact ⟨_, by decide, by decide, rfl⟩ | omega)) (by omega) (by omega) (by omega)).mono ?_
  rintro e w2 ⟨v2, q2, rfl, ⟨l2, u2⟩, hq2, rd2, b2⟩
  have s2 := b2.size
  try simp at s2
  have t2 := rd2.lt
  go_wp2_with fail
  refine (rdr_one B R ar nr cr (q2) _ 8 (-40000000) (40000000) _ (by (repeat (first | with_reducible assumption | with_reducible refine Rdr.alloc ?_ _ | with_reducible refine Rdr.below ?_ (by with_reducible assumption) | with_reducible refine Rdr.drew ?_ | with_reducible refine Rdr.drewN ?_ _ | with_reducible refine Rdr.set ?_ (by dsimp only; omega) (by dsimp only; omega) _))) (by omega) (ListOf.mk' _ _ _ _ _ _ (by intro j hj; rcases j with _ | _ | _ | _ | _ | _ | _ | _ | j <;> first | exact ⟨_, by decide, by decide, rfl⟩ | omega)) (by omega) (by omega) (by omega)).mono ?_
  rintro e w3 ⟨v3, q3, rfl, ⟨l3, u3⟩, hq3, rd3, b3⟩
  have s3 := b3.size
  try simp at s3
  have t3 := rd3.lt
  go_wp2
  go_ret2
  exact ⟨v2, v3, rfl, ⟨by omega, by omega⟩, ⟨by omega, by omega⟩, But.out (R := R) (by (repeat (first | with_reducible assumption | with_reducible exact But.refl _ _ | with_reducible refine But.alloc ?_ _ | with_reducible refine But.drew ?_ | with_reducible refine But.drewN ?_ _ | with_reducible refine But.set ?_ (Or.inr (by dsimp only; omega)) _ | with_reducible refine But.trans ?_ (by with_reducible assumption) | with_reducible refine But.below ?_ (by with_reducible assumption)))) (Nat.le_refl _) (by omega)⟩

end Go.Proofs.Ytkhocfoggjdccaa
