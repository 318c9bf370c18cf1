/- The pseudo-random reader: what it holds, and what a draw leaves. -/
import Derived.Test.YtbfeaiaoelkggaaGn
namespace Go.Proofs.Ytbfeaiaoelkggaa
open Go.RowKit
set_option linter.unusedVariables false


theorem xor_i64 (a b : Int) (h1 : 0 ≤ a) (h2 : a < 4611686018427387904) (h3 : 0 ≤ b) (h4 : b < 4611686018427387904) : 0 ≤ bits .xor .i64 a b ∧ bits .xor .i64 a b < 4611686018427387904 := by
  obtain ⟨A, rfl⟩ := Int.eq_ofNat_of_zero_le h1
  obtain ⟨B, rfl⟩ := Int.eq_ofNat_of_zero_le h3
  have hA : A < 2 ^ 62 := by omega
  have hB : B < 2 ^ 62 := by omega
  have hx : A ^^^ B < 2 ^ 62 := Nat.xor_lt_two_pow hA hB
  have e1 : (BitVec.ofInt 64 (A : Int)).toNat = A := by
    rw [BitVec.ofInt_natCast, BitVec.toNat_ofNat]; exact Nat.mod_eq_of_lt (by omega)
  have e2 : (BitVec.ofInt 64 (B : Int)).toNat = B := by
    rw [BitVec.ofInt_natCast, BitVec.toNat_ofNat]; exact Nat.mod_eq_of_lt (by omega)
  have e : bits .xor .i64 (A : Int) (B : Int) = ((A ^^^ B : Nat) : Int) := by
    show IntKind.i64.wrap ((BitVec.ofInt 64 (A : Int) ^^^ BitVec.ofInt 64 (B : Int)).toNat : Int) = _
    rw [BitVec.toNat_xor, e1, e2, IntKind.wrap_i64]
    omega
  rw [e]
  omega
theorem mod_lt (x n : Int) (h : 0 < n) : 0 ≤ x % n ∧ x % n < n := ⟨Int.emod_nonneg _ (by omega), Int.emod_lt_of_pos _ h⟩
theorem div_bd0 (x n : Int) (h : 0 ≤ x) (hn : 0 < n) : 0 ≤ x / n ∧ x / n ≤ x := ⟨Int.ediv_nonneg h (by omega), Int.ediv_le_self _ h⟩


/-- The bytes of a slice, in memory below block B, can be read. -/
def BytesOf (B : Nat) (w : World) (a : Option Addr) (n : Nat) : Prop := n = 0 ∨ ∃ b off : Nat, a = some ⟨b, off, none⟩ ∧ b < B ∧ ∀ j, j < n → ∃ u : Int, 0 ≤ u ∧ u ≤ 255 ∧ w.cell? ⟨b, off + j, none⟩ = some (.int .u8 u)
theorem BytesOf.below {B : Nat} {w w' : World} {a : Option Addr} {n : Nat} (h : BytesOf B w a n) (hB : B ≤ w.heap.size) (b : Below w.heap.size w w') : BytesOf B w' a n := by
  rcases h with h | ⟨b0, off, rfl, hb, hc⟩
  · exact .inl h
  · exact .inr ⟨b0, off, rfl, hb, fun j hj => by obtain ⟨u, h1, h2, h3⟩ := hc j hj; exact ⟨u, h1, h2, (b.cell (p := ⟨b0, _, none⟩) (Nat.lt_of_lt_of_le hb hB)).trans h3⟩⟩
/-- Block R holds a reader: its bytes (in memory below block B), and its position p. -/
structure Rdr (w : World) (B R : Nat) (a : Option Addr) (n c p : Nat) : Prop where
  lt : R < w.heap.size
  c0 : w.cell? ⟨R, 0, none⟩ = some (.slice a n c)
  c1 : w.cell? ⟨R, 1, none⟩ = some (.int .i64 (p : Int))
  f1 : w.frozen? ⟨R, 1, none⟩ = false
  le : n ≤ 2000
  bR : B ≤ R
  row : n = 0 ∨ ∃ b off : Nat, a = some ⟨b, off, none⟩ ∧ b < B ∧ ∀ j, j < n → ∃ u : Int, 0 ≤ u ∧ u ≤ 255 ∧ w.cell? ⟨b, off + j, none⟩ = some (.int .u8 u)
theorem Rdr.below {w w' : World} {B R : Nat} {a : Option Addr} {n c p : Nat} (h : Rdr w B R a n c p) (b : Below w.heap.size w w') : Rdr w' B R a n c p := by
  refine ⟨Nat.lt_of_lt_of_le h.lt b.size, (b.cell (p := ⟨R, 0, none⟩) h.lt).trans h.c0, (b.cell (p := ⟨R, 1, none⟩) h.lt).trans h.c1, (b.frozen (p := ⟨R, 1, none⟩) h.lt).trans h.f1, h.le, h.bR, ?_⟩
  rcases h.row with h0 | ⟨b0, off, ha, hb, hc⟩
  · exact .inl h0
  · refine .inr ⟨b0, off, ha, hb, fun j hj => ?_⟩
    obtain ⟨u, h1, h2, h3⟩ := hc j hj
    exact ⟨u, h1, h2, (b.cell (p := ⟨b0, _, none⟩) (Nat.lt_of_lt_of_le hb (Nat.le_trans h.bR (Nat.le_of_lt h.lt)))).trans h3⟩
theorem Rdr.alloc {w : World} {B R : Nat} {a : Option Addr} {n c p : Nat} (h : Rdr w B R a n c p) (o : Obj) : Rdr (w.alloc o) B R a n c p := h.below ((Below.refl _ _).alloc (Nat.le_refl _) _)
theorem Rdr.drew {w : World} {B R : Nat} {a : Option Addr} {n c p : Nat} (h : Rdr w B R a n c p) : Rdr w.drew B R a n c p := h.below (bl_drew (Below.refl _ _))
theorem Rdr.drewN {w : World} {B R : Nat} {a : Option Addr} {n c p : Nat} (h : Rdr w B R a n c p) (k : Nat) : Rdr (w.drewN k) B R a n c p := h.below (bl_drewN (Below.refl _ _) k)
/-- A store into a block that is not the reader's, nor any below B. -/
theorem Rdr.set {w : World} {B R : Nat} {a : Option Addr} {n c p : Nat} (h : Rdr w B R a n c p) {q : Addr} (hq : B ≤ q.block) (hR : ¬ q.block = R) (u : Value) : Rdr (w.setCell q u) B R a n c p := by
  have key : ∀ (b o : Nat), ¬ b = q.block → (w.setCell q u).cell? ⟨b, o, none⟩ = w.cell? ⟨b, o, none⟩ := fun b o hb => World.cell?_of_block (w := w) (Below.heap_setCell _ _ _ _ (by show b ≠ q.block; exact hb))
  refine ⟨by simpa [World.setCell] using h.lt, (key _ _ (fun e => hR e.symm)).trans h.c0, (key _ _ (fun e => hR e.symm)).trans h.c1, by rw [World.frozen?_setCell]; exact h.f1, h.le, h.bR, ?_⟩
  rcases h.row with h0 | ⟨b0, off, ha, hb, hc⟩
  · exact .inl h0
  · refine .inr ⟨b0, off, ha, hb, fun j hj => ?_⟩
    obtain ⟨v, h1, h2, h3⟩ := hc j hj
    exact ⟨v, h1, h2, (key b0 _ (by omega)).trans h3⟩
/-- The reader's own step. -/
theorem Rdr.step {w : World} {B R : Nat} {a : Option Addr} {n c p : Nat} (h : Rdr w B R a n c p) (q : Nat) : Rdr (w.setCell ⟨R, 1, none⟩ (.int .i64 (q : Int))) B R a n c q := by
  have key : ∀ (b o : Nat), b ≠ R → (w.setCell ⟨R, 1, none⟩ (.int .i64 (q : Int))).cell? ⟨b, o, none⟩ = w.cell? ⟨b, o, none⟩ := fun b o hb => World.cell?_of_block (w := w) (Below.heap_setCell _ _ _ _ (by exact hb))
  refine ⟨by simpa [World.setCell] using h.lt, ?_, ?_, by rw [World.frozen?_setCell]; exact h.f1, h.le, h.bR, ?_⟩
  · rw [World.cell?_setCell_other (h := fun e => by injection e with _ e; omega)]; exact h.c0
  · exact World.cell?_setCell_same (h := h.c1) ..
  rcases h.row with h0 | ⟨b0, off, ha, hb, hc⟩
  · exact .inl h0
  · refine .inr ⟨b0, off, ha, hb, fun j hj => ?_⟩
    obtain ⟨v, h1, h2, h3⟩ := hc j hj
    exact ⟨v, h1, h2, (key b0 _ (Nat.ne_of_lt (Nat.lt_of_lt_of_le hb h.bR))).trans h3⟩
/-- What a draw of a number below m hands back. -/
def Picks (B R : Nat) (a : Option Addr) (n c p : Nat) (m : Int) (w : World) (e : Ending) (w' : World) : Prop := ∃ v : Int, e = .returned (.int .i64 v) ∧ 0 ≤ v ∧ v < m ∧ Rdr w' B R a n c (p + 1) ∧ But R w w'
theorem bcellR {R : Nat} {W w1 : World} (hb : But R W w1) : (∀ b o, b < W.heap.size → ¬ b = R → w1.cell? ⟨b, o, none⟩ = W.cell? ⟨b, o, none⟩) ∧ (∀ b o, b < W.heap.size → ¬ b = R → w1.frozen? ⟨b, o, none⟩ = W.frozen? ⟨b, o, none⟩) :=
  ⟨fun b o h k => hb.cell (p := ⟨b, o, none⟩) h k, fun b o h k => hb.frozen (p := ⟨b, o, none⟩) h k⟩
def RInt (B R : Nat) (a : Option Addr) (n c : Nat) (k : Nat) (lo hi : Int) (w : World) (e : Ending) (w' : World) : Prop := ∃ x : Int, ∃ q : Nat, e = .returned (.int .i64 x) ∧ (lo ≤ x ∧ x ≤ hi) ∧ q ≤ k ∧ Rdr w' B R a n c q ∧ But R w w'
def RAg2 (B R : Nat) (a : Option Addr) (n c : Nat) (k : Nat) (M : Int) (w : World) (e : Ending) (w' : World) : Prop := ∃ x y : Int, ∃ q : Nat, e = .returned (.agg #[.int .i64 x, .int .i64 y]) ∧ (-M ≤ x ∧ x ≤ M) ∧ (-M ≤ y ∧ y ≤ M) ∧ q ≤ k ∧ Rdr w' B R a n c q ∧ But R w w'
def RAg3 (B R : Nat) (a : Option Addr) (n c : Nat) (k : Nat) (M : Int) (w : World) (e : Ending) (w' : World) : Prop := ∃ x y z : Int, ∃ q : Nat, e = .returned (.agg #[.int .i64 x, .int .i64 y, .int .i64 z]) ∧ (-M ≤ x ∧ x ≤ M) ∧ (-M ≤ y ∧ y ≤ M) ∧ (-M ≤ z ∧ z ≤ M) ∧ q ≤ k ∧ Rdr w' B R a n c q ∧ But R w w'
def RAg4 (B R : Nat) (a : Option Addr) (n c : Nat) (k : Nat) (M : Int) (w : World) (e : Ending) (w' : World) : Prop := ∃ x y z u : Int, ∃ q : Nat, e = .returned (.agg #[.int .i64 x, .int .i64 y, .int .i64 z, .int .i64 u]) ∧ (-M ≤ x ∧ x ≤ M) ∧ (-M ≤ y ∧ y ≤ M) ∧ (-M ≤ z ∧ z ≤ M) ∧ (-M ≤ u ∧ u ≤ M) ∧ q ≤ k ∧ Rdr w' B R a n c q ∧ But R w w'
def NewR (B : Nat) (w : World) (e : Ending) (w' : World) : Prop := ∃ (R : Nat) (a : Option Addr) (n c : Nat), e = .returned (.pointer (some ⟨R, 0, none⟩)) ∧ w.heap.size ≤ R ∧ Rdr w' B R a n c 0 ∧ Below w.heap.size w w'
theorem NewR.intro (B : Nat) (w : World) (a : Option Addr) (n c : Nat) (hB : B ≤ w.heap.size) (h : BytesOf B w a n) (hn : n ≤ 2000) : NewR B w (.returned (.pointer (some ⟨w.heap.size, 0, none⟩))) (w.alloc (.cells #[.slice a n c, .int .i64 0] 71)) := by
  refine ⟨w.heap.size, a, n, c, rfl, Nat.le_refl _, ⟨by simp, by simp [go_sem], by simp [go_sem], by simp [go_sem], hn, hB, ?_⟩, (Below.refl _ _).alloc (Nat.le_refl _) _⟩
  rcases h with h | ⟨b, off, rfl, hb, hc⟩
  · exact .inl h
  · exact .inr ⟨b, off, rfl, hb, fun j hj => by obtain ⟨u, h1, h2, h3⟩ := hc j hj; exact ⟨u, h1, h2, (((Below.refl _ w).alloc (Nat.le_refl _) _).cell (p := ⟨b, _, none⟩) (Nat.lt_of_lt_of_le hb hB)).trans h3⟩⟩
theorem BytesOf.take {B : Nat} {w : World} {a : Option Addr} {n : Nat} (h : BytesOf B w a n) (hn : 2000 ≤ n) : BytesOf B w a 2000 := by
  rcases h with h | ⟨b, off, rfl, hb, hc⟩
  · omega
  · exact .inr ⟨b, off, rfl, hb, fun j hj => hc j (by omega)⟩
/-- A list of numbers that a draw chooses from. -/
def ListOf (w : World) (L k : Nat) (lo hi : Int) : Prop := L < w.heap.size ∧ ∀ j, j < k → ∃ u : Int, lo ≤ u ∧ u ≤ hi ∧ w.cell? ⟨L, j, none⟩ = some (.int .i64 u)
theorem ListOf.mk' (w : World) (C : Array Value) (T k : Nat) (lo hi : Int) (h : ∀ j, j < k → ∃ u : Int, lo ≤ u ∧ u ≤ hi ∧ C[j]? = some (.int .i64 u)) : ListOf (w.alloc (.cells C T)) w.heap.size k lo hi := by
  refine ⟨by simp, fun j hj => ?_⟩
  obtain ⟨u, h1, h2, h3⟩ := h j hj
  exact ⟨u, h1, h2, by simp [go_sem, h3]⟩

set_option maxRecDepth 100000 in
set_option maxHeartbeats 1000000 in
theorem rdr_pick (B R : Nat) (a : Option Addr) (n c p : Nat) (m : Int) (w : World) (h : Rdr w B R a n c p) (hp1 : p ≤ 100000) (hm0 : 0 < m) (hm1 : m ≤ 1000000) :
    Calls Try.prog 53 #[.pointer (some ⟨R, 0, none⟩), .int .i64 m] w (Picks B R a n c p m w) := by
  have HST : Hid (Rdr (w.setCell ⟨R, 1, none⟩ (.int .i64 ((p : Int) + 1))) B R a n c (p + 1)) := Lib.hid (h.step (p + 1))
  have c0 := h.c0
  have c1 := h.c1
  have f1 := h.f1
  have d0 : (w.setCell ⟨R, 1, none⟩ (.int .i64 ((p : Int) + 1))).cell? ⟨R, 0, none⟩ = some (.slice a n c) := (h.step (p + 1)).c0
  have d1 : (w.setCell ⟨R, 1, none⟩ (.int .i64 ((p : Int) + 1))).cell? ⟨R, 1, none⟩ = some (.int .i64 ((p : Int) + 1)) := (h.step (p + 1)).c1
  have HB : Hid (But R w (w.setCell ⟨R, 1, none⟩ (.int .i64 ((p : Int) + 1)))) := Lib.hid ((But.refl R w).set (Or.inl rfl) _)
  have hle := h.le
  clear h
  by_cases hn : n = 0
  · subst hn
    go_enter Try.func53, Try.ntmps53
    go_wp2
    go_ret
    exact ⟨0, rfl, by omega, by omega, HST.out, HB.out⟩
  · obtain ⟨b, off, rfl, hbB, hrow⟩ := HST.out.row.resolve_left hn
    by_cases hlt : p < n
    · obtain ⟨u, hu0, hu1, hu⟩ := hrow p hlt
      have hltz : (p : Int) < (n : Int) := by omega
      have hm := Lib.hid (mod_lt u m hm0)
      clear hrow
      go_enter Try.func53, Try.ntmps53
      go_wp2
      go_ret
      exact ⟨u % m, rfl, hm.out.1, hm.out.2, HST.out, HB.out⟩
    · have hq1 : p % n < n := Nat.mod_lt _ (by omega)
      have hq2 : (p * 7 + 3) % n < n := Nat.mod_lt _ (by omega)
      obtain ⟨u, hu0, hu1, hu⟩ := hrow (p % n) hq1
      obtain ⟨v, hv0, hv1, hv⟩ := hrow ((p * 7 + 3) % n) hq2
      have hltz : ¬ (p : Int) < (n : Int) := by omega
      clear hrow
      go_enter Try.func53, Try.ntmps53
      go_wp2
      have g1 := (mod_lt ((p : Int) * 7 + 3) (n : Int) (by omega)).1
      have g2 := (mod_lt ((p : Int) * 7 + 3) (n : Int) (by omega)).2
      have g3 := (mod_lt (p : Int) (n : Int) (by omega)).1
      have g4 := (mod_lt (p : Int) (n : Int) (by omega)).2
      have g5 := (div_bd0 (p : Int) (n : Int) (by omega) (by omega)).1
      have g6 := (div_bd0 (p : Int) (n : Int) (by omega) (by omega)).2
      go_quiet (fail)
      go_wp2
      go_ret
      have k1 := div_bd0 (u * 131 + v * 1117 + (p : Int) * 29 + (p : Int) / (n : Int) * 53) 64 (by omega) (by omega)
      exact ⟨_, rfl, Int.tmod_nonneg _ (xor_i64 _ _ (by omega) (by omega) k1.1 (by omega)).1, Int.tmod_lt_of_pos _ hm0, HST.out.drewN _, HB.out.drewN _⟩

set_option maxHeartbeats 1000000 in
theorem rdr_new (B : Nat) (a : Option Addr) (n c : Nat) (w : World) (hB : B ≤ w.heap.size) (h : BytesOf B w a n) (hc : n ≤ c) (hc2 : c ≤ 9223372036854775807) :
    Calls Try.prog 24 #[.slice a n c] w (NewR B w) := by
  have HI := Lib.hid (NewR.intro B w a n c hB h)
  have HJ := Lib.hid (fun hn : 2000 ≤ n => NewR.intro B w a 2000 c hB (h.take hn) (Nat.le_refl _))
  by_cases hn : n ≤ 2000
  · have hnz : ¬ (2000 : Int) < (n : Int) := by omega
    clear h
    go_enter Try.func24, Try.ntmps24
    go_wp2
    go_ret
    exact HI.out hn
  · have hnz : (2000 : Int) < (n : Int) := by omega
    obtain ⟨b, off, rfl, hb, hr⟩ := h.resolve_left (by omega)
    clear hr
    go_enter Try.func24, Try.ntmps24
    go_wp2
    go_ret
    exact HJ.out (by omega)

end Go.Proofs.Ytbfeaiaoelkggaa
