/- Plain facts on integers; nothing of the program. -/
import Derived.Test.YtbfeaiaoelkggaaPlain
namespace Go.Proofs.Ytbfeaiaoelkggaa
open Go.RowKit
set_option linter.unusedVariables false


def cwK (zs : List (Int × Int)) (x y m : Int) (k : Nat) : Int := (((zs.take k).countP fun z => decide (farV z.1 z.2 x y ≤ m) : Nat) : Int)
theorem cwK_zero (zs : List (Int × Int)) (x y m : Int) : cwK zs x y m 0 = 0 := by simp [cwK]
theorem cwK_succ (zs : List (Int × Int)) (x y m : Int) (k : Nat) (h : k < zs.length) : cwK zs x y m (k + 1) = cwK zs x y m k + if farV zs[k]!.1 zs[k]!.2 x y ≤ m then 1 else 0 := by
  unfold cwK
  rw [List.take_succ_eq_append_getElem h, List.countP_append, getElem!_pos zs k h]
  by_cases e : farV zs[k].1 zs[k].2 x y ≤ m <;> simp [e]
theorem cwK_bd (zs : List (Int × Int)) (x y m : Int) (k : Nat) : 0 ≤ cwK zs x y m k ∧ cwK zs x y m k ≤ k := by
  unfold cwK
  have := List.countP_le_length (l := zs.take k) (p := fun z => decide (farV z.1 z.2 x y ≤ m))
  simp only [List.length_take] at this
  omega
def listB (zs : List (Int × Int)) : Bool := zs.all (fun z : Int × Int => ptB z.1 z.2) && decide (zs.length ≤ 20)
theorem listB_at {zs : List (Int × Int)} (h : listB zs = true) {k : Nat} (hk : k < zs.length) : (-1000 ≤ zs[k]!.1 ∧ zs[k]!.1 ≤ 1000) ∧ (-1000 ≤ zs[k]!.2 ∧ zs[k]!.2 ≤ 1000) := by
  unfold listB at h
  simp only [Bool.and_eq_true, List.all_eq_true, decide_eq_true_eq] at h
  have := h.1 zs[k] (List.getElem_mem hk)
  rw [getElem!_pos zs k hk]
  simpa [ptB, inB] using this
theorem listB_len {zs : List (Int × Int)} (h : listB zs = true) : zs.length ≤ 20 := by
  unfold listB at h
  simp only [Bool.and_eq_true, decide_eq_true_eq] at h
  exact h.2


/-- The index that a loop over indices keeps: the later one where f says so. -/
def bestK (f : Nat → Nat → Bool) : Nat → Nat
  | 0 => 0
  | k + 1 => if f k (bestK f k) = true then k else bestK f k
theorem bestK_lt (f : Nat → Nat → Bool) (n : Nat) (hn : 0 < n) : ∀ k, k ≤ n → bestK f k < n
  | 0, _ => hn
  | k + 1, h => by
    unfold bestK
    have := bestK_lt f n hn k (by omega)
    split <;> omega
theorem bestK_yes {f : Nat → Nat → Bool} {k : Nat} (h : f k (bestK f k) = true) : bestK f (k + 1) = k := by
  show (if f k (bestK f k) = true then k else bestK f k) = k
  rw [if_pos h]
theorem bestK_no {f : Nat → Nat → Bool} {k : Nat} (h : f k (bestK f k) = false) : bestK f (k + 1) = bestK f k := by
  show (if f k (bestK f k) = true then k else bestK f k) = bestK f k
  rw [if_neg (by simp [h])]
def CwV (zs : List (Int × Int)) (x y m : Int) : Int := if (listB zs && ptB x y) = true then cwK zs x y m zs.length else -1
def farZ (zs : List (Int × Int)) (i k : Nat) : Int := farV zs[i]!.1 zs[i]!.2 zs[k]!.1 zs[k]!.2
def nearF (zs : List (Int × Int)) (x y : Int) (i k : Nat) : Bool := decide (farV zs[i]!.1 zs[i]!.2 x y < farV zs[k]!.1 zs[k]!.2 x y)
def extF (zs : List (Int × Int)) (x y : Int) (i k : Nat) : Bool := decide (zs[k]!.1 * x + zs[k]!.2 * y < zs[i]!.1 * x + zs[i]!.2 * y)
def NearV (zs : List (Int × Int)) (x y : Int) : Int := if (listB zs && (decide (0 < zs.length) && ptB x y)) = true then (bestK (nearF zs x y) zs.length : Nat) else -1
def ExtV (zs : List (Int × Int)) (x y : Int) : Int := if (listB zs && (decide (0 < zs.length) && ptB x y)) = true then (bestK (extF zs x y) zs.length : Nat) else -1
/-- Two nested loops: i from 0, k from i + 1. -/
def fIn {S : Type} (st : S → Nat → Nat → S) (i : Nat) (s : S) : Nat → S
  | 0 => s
  | m + 1 => st (fIn st i s m) i (i + 1 + m)
def fOut {S : Type} (st : S → Nat → Nat → S) (n : Nat) (s : S) : Nat → S
  | 0 => s
  | i + 1 => fIn st i (fOut st n s i) (n - (i + 1))
theorem fIn_rel {S T : Type} (R : S → T → Prop) (f : S → Nat → Nat → S) (g : T → Nat → Nat → T) (n : Nat) (h : ∀ s t i k, i < k → k < n → R s t → R (f s i k) (g t i k)) (i : Nat) (s : S) (t : T) (m0 : Nat) (h0 : R (fIn f i s m0) (fIn g i t m0)) :
    ∀ m, m0 ≤ m → i + 1 + m ≤ n → R (fIn f i s m) (fIn g i t m)
  | 0, hm, _ => by
    obtain rfl : m0 = 0 := by omega
    exact h0
  | m + 1, hm, hn => by
    by_cases e : m0 = m + 1
    · subst e; exact h0
    · exact h _ _ i (i + 1 + m) (by omega) (by omega) (fIn_rel R f g n h i s t m0 h0 m (by omega) (by omega))
theorem fOut_rel {S T : Type} (R : S → T → Prop) (f : S → Nat → Nat → S) (g : T → Nat → Nat → T) (n : Nat) (h : ∀ s t i k, i < k → k < n → R s t → R (f s i k) (g t i k)) (s : S) (t : T) (i0 : Nat) (h0 : R (fOut f n s i0) (fOut g n t i0)) :
    ∀ i, i0 ≤ i → i ≤ n → R (fOut f n s i) (fOut g n t i)
  | 0, hm, _ => by
    obtain rfl : i0 = 0 := by omega
    exact h0
  | i + 1, hm, hn => by
    by_cases e : i0 = i + 1
    · subst e; exact h0
    · have h1 := fOut_rel R f g n h s t i0 h0 i (by omega) (by omega)
      exact fIn_rel R f g n h i _ _ 0 h1 (n - (i + 1)) (by omega) (by omega)
theorem fIn_next {S : Type} (st : S → Nat → Nat → S) (i k : Nat) (s : S) (h : i < k) : fIn st i s (k + 1 - (i + 1)) = st (fIn st i s (k - (i + 1))) i k := by
  obtain ⟨m, rfl⟩ : ∃ m, k = i + 1 + m := ⟨k - (i + 1), by omega⟩
  rw [show i + 1 + m + 1 - (i + 1) = m + 1 by omega, show i + 1 + m - (i + 1) = m by omega]
  rfl
theorem fIn_start {S : Type} (st : S → Nat → Nat → S) (i : Nat) (s : S) : fIn st i s (i + 1 - (i + 1)) = s := by rw [Nat.sub_self]; rfl
def bpStep (bt : Int → Int → Bool) (zs : List (Int × Int)) (s : Nat × Nat × Int) (i k : Nat) : Nat × Nat × Int :=
  if s.2.2 < 0 ∨ bt (farZ zs i k) s.2.2 = true then (i, k, farZ zs i k) else s
def spStep (bt : Int → Int → Bool) (zs : List (Int × Int)) (s : Nat × Nat) (i k : Nat) : Nat × Nat :=
  if bt (farZ zs i k) (farZ zs s.1 s.2) = true then (i, k) else s
theorem spStep_yes {bt : Int → Int → Bool} {zs : List (Int × Int)} {c d i k : Nat} (h : bt (farZ zs i k) (farZ zs c d) = true) : spStep bt zs (c, d) i k = (i, k) := by unfold spStep; rw [if_pos h]
theorem spStep_no {bt : Int → Int → Bool} {zs : List (Int × Int)} {c d i k : Nat} (h : bt (farZ zs i k) (farZ zs c d) = false) : spStep bt zs (c, d) i k = (c, d) := by unfold spStep; rw [if_neg (by simp [h])]
theorem bpStep_yes {bt : Int → Int → Bool} {zs : List (Int × Int)} {c d i k : Nat} {u : Int} (h : u < 0 ∨ bt (farZ zs i k) u = true) : bpStep bt zs (c, d, u) i k = (i, k, farZ zs i k) := by unfold bpStep; rw [if_pos h]
theorem bpStep_no {bt : Int → Int → Bool} {zs : List (Int × Int)} {c d i k : Nat} {u : Int} (h1 : ¬ u < 0) (h : bt (farZ zs i k) u = false) : bpStep bt zs (c, d, u) i k = (c, d, u) := by unfold bpStep; rw [if_neg (by simp [h, h1])]
theorem farV_nn (a b c d : Int) : 0 ≤ farV a b c d := by
  unfold farV
  have h1 : ∀ x : Int, 0 ≤ x * x := fun x => by
    rcases Int.le_total 0 x with h | h
    · exact Int.mul_nonneg h h
    · have := Int.mul_nonneg (show 0 ≤ -x by omega) (show 0 ≤ -x by omega)
      rwa [Int.neg_mul_neg] at this
  have := h1 (c - a)
  have := h1 (d - b)
  omega
theorem farZ_nn (zs : List (Int × Int)) (i k : Nat) : 0 ≤ farZ zs i k := farV_nn _ _ _ _
theorem farZ_self (zs : List (Int × Int)) (i : Nat) : farZ zs i i = 0 := by unfold farZ farV; simp
def closB (n m : Int) : Bool := decide (n < m)
def diaB (n m : Int) : Bool := decide (m < n)
def cpS (zs : List (Int × Int)) (n : Nat) : Nat × Nat := fOut (spStep closB zs) n (0, 1) n
def diS (zs : List (Int × Int)) (n : Nat) : Nat × Nat := fOut (spStep diaB zs) n (0, 0) n
def cpOk (zs : List (Int × Int)) : Bool := listB zs && decide (2 ≤ zs.length)
def CpA (zs : List (Int × Int)) : Int := if cpOk zs = true then ((cpS zs zs.length).1 : Nat) else 0
def CpB (zs : List (Int × Int)) : Int := if cpOk zs = true then ((cpS zs zs.length).2 : Nat) else 0
def CpC (zs : List (Int × Int)) : Int := if cpOk zs = true then farZ zs (cpS zs zs.length).1 (cpS zs zs.length).2 else -1
def diOk (zs : List (Int × Int)) : Bool := listB zs && decide (1 ≤ zs.length)
def DiA (zs : List (Int × Int)) : Int := if diOk zs = true then ((diS zs zs.length).1 : Nat) else 0
def DiB (zs : List (Int × Int)) : Int := if diOk zs = true then ((diS zs zs.length).2 : Nat) else 0
def DiC (zs : List (Int × Int)) : Int := if diOk zs = true then farZ zs (diS zs zs.length).1 (diS zs zs.length).2 else -1
def bpS (bt : Int → Int → Bool) (zs : List (Int × Int)) (n : Nat) : Nat × Nat × Int := fOut (bpStep bt zs) n (0, 0, -1) n
theorem bp_small (bt : Int → Int → Bool) (zs : List (Int × Int)) (n : Nat) (h : n < 2) : bpS bt zs n = (0, 0, -1) := by
  unfold bpS
  rcases (show n = 0 ∨ n = 1 by omega) with rfl | rfl <;> rfl
theorem bp_clos (zs : List (Int × Int)) (n : Nat) (h : 2 ≤ n) : (bpS closB zs n).1 = (cpS zs n).1 ∧ (bpS closB zs n).2.1 = (cpS zs n).2 ∧ (bpS closB zs n).2.2 = farZ zs (cpS zs n).1 (cpS zs n).2 := by
  have step : ∀ (s : Nat × Nat × Int) (t : Nat × Nat) (i k : Nat), i < k → k < n → (s.1 = t.1 ∧ s.2.1 = t.2 ∧ s.2.2 = farZ zs t.1 t.2) → ((bpStep closB zs s i k).1 = (spStep closB zs t i k).1 ∧ (bpStep closB zs s i k).2.1 = (spStep closB zs t i k).2 ∧ (bpStep closB zs s i k).2.2 = farZ zs (spStep closB zs t i k).1 (spStep closB zs t i k).2) := by
    intro s t i k _ _ hs
    have h0 := farZ_nn zs t.1 t.2
    unfold bpStep spStep
    rw [hs.2.2]
    by_cases e : closB (farZ zs i k) (farZ zs t.1 t.2) = true
    · rw [if_pos (Or.inr e), if_pos e]; exact ⟨rfl, rfl, rfl⟩
    · rw [if_neg (by rintro (h1 | h1); omega; exact e h1), if_neg e]; exact hs
  refine fOut_rel (fun (s : Nat × Nat × Int) (t : Nat × Nat) => s.1 = t.1 ∧ s.2.1 = t.2 ∧ s.2.2 = farZ zs t.1 t.2) (bpStep closB zs) (spStep closB zs) n step (0, 0, -1) (0, 1) 1 ?_ n (by omega) (Nat.le_refl _)
  refine fIn_rel (fun (s : Nat × Nat × Int) (t : Nat × Nat) => s.1 = t.1 ∧ s.2.1 = t.2 ∧ s.2.2 = farZ zs t.1 t.2) (bpStep closB zs) (spStep closB zs) n step 0 (0, 0, -1) (0, 1) 1 ?_ (n - (0 + 1)) (by omega) (by omega)
  simp [fIn, bpStep, spStep, closB]
theorem bp_dia (zs : List (Int × Int)) (n : Nat) (hn : 1 ≤ n) : (((bpS diaB zs n).2.2 ≤ 0) ∧ diS zs n = (0, 0)) ∨ (0 < (bpS diaB zs n).2.2 ∧ (bpS diaB zs n).1 = (diS zs n).1 ∧ (bpS diaB zs n).2.1 = (diS zs n).2 ∧ (bpS diaB zs n).2.2 = farZ zs (diS zs n).1 (diS zs n).2) := by
  refine fOut_rel (fun (s : Nat × Nat × Int) (t : Nat × Nat) => (s.2.2 ≤ 0 ∧ t = (0, 0)) ∨ (0 < s.2.2 ∧ s.1 = t.1 ∧ s.2.1 = t.2 ∧ s.2.2 = farZ zs t.1 t.2)) (bpStep diaB zs) (spStep diaB zs) n ?_ (0, 0, -1) (0, 0) 0 ?_ n (by omega) (Nat.le_refl _)
  · intro s t i k _ _ hs
    have h0 := farZ_nn zs i k
    unfold bpStep spStep diaB
    simp only [decide_eq_true_eq]
    rcases hs with ⟨h1, rfl⟩ | ⟨h1, h2, h3, h4⟩
    · simp only [farZ_self]
      by_cases e : 0 < farZ zs i k
      · rw [if_pos (by omega), if_pos e]; exact .inr ⟨e, rfl, rfl, rfl⟩
      · rw [if_neg e]
        refine .inl ⟨?_, rfl⟩
        split
        · show farZ zs i k ≤ 0; omega
        · exact h1
    · rw [h4]
      rw [h4] at h1
      by_cases e : farZ zs t.1 t.2 < farZ zs i k
      · rw [if_pos (Or.inr e), if_pos e]; exact .inr ⟨by show 0 < farZ zs i k; omega, rfl, rfl, rfl⟩
      · rw [if_neg (by omega), if_neg e]; exact .inr ⟨by rw [h4]; exact h1, h2, h3, h4⟩
  · exact .inl ⟨by show (-1 : Int) ≤ 0; omega, rfl⟩
theorem fIn_lt (bt : Int → Int → Bool) (zs : List (Int × Int)) (n i : Nat) (s : Nat × Nat) (hs : s.1 < n ∧ s.2 < n) : ∀ m, i + 1 + m ≤ n → (fIn (spStep bt zs) i s m).1 < n ∧ (fIn (spStep bt zs) i s m).2 < n
  | 0, _ => hs
  | m + 1, h => by
    have := fIn_lt bt zs n i s hs m (by omega)
    show (spStep bt zs (fIn (spStep bt zs) i s m) i (i + 1 + m)).1 < n ∧ (spStep bt zs (fIn (spStep bt zs) i s m) i (i + 1 + m)).2 < n
    generalize fIn (spStep bt zs) i s m = t at this
    unfold spStep
    split
    · exact ⟨by show i < n; omega, by show i + 1 + m < n; omega⟩
    · exact this
theorem fOut_lt (bt : Int → Int → Bool) (zs : List (Int × Int)) (n : Nat) (s : Nat × Nat) (hs : s.1 < n ∧ s.2 < n) : ∀ i, i ≤ n → (fOut (spStep bt zs) n s i).1 < n ∧ (fOut (spStep bt zs) n s i).2 < n
  | 0, _ => hs
  | i + 1, h => fIn_lt bt zs n i _ (fOut_lt bt zs n s hs i (by omega)) (n - (i + 1)) (by omega)
theorem bpIn_lt (bt : Int → Int → Bool) (zs : List (Int × Int)) (n i : Nat) (s : Nat × Nat × Int) (hs : s.1 < n ∧ s.2.1 < n ∧ -1 ≤ s.2.2 ∧ s.2.2 ≤ 8000000) (hf : ∀ i k, i < n → k < n → farZ zs i k ≤ 8000000) : ∀ m, i + 1 + m ≤ n → (fIn (bpStep bt zs) i s m).1 < n ∧ (fIn (bpStep bt zs) i s m).2.1 < n ∧ -1 ≤ (fIn (bpStep bt zs) i s m).2.2 ∧ (fIn (bpStep bt zs) i s m).2.2 ≤ 8000000
  | 0, _ => hs
  | m + 1, h => by
    have h1 := bpIn_lt bt zs n i s hs hf m (by omega)
    have h2 := hf i (i + 1 + m) (by omega) (by omega)
    have h3 := farZ_nn zs i (i + 1 + m)
    show (bpStep bt zs (fIn (bpStep bt zs) i s m) i (i + 1 + m)).1 < n ∧ (bpStep bt zs (fIn (bpStep bt zs) i s m) i (i + 1 + m)).2.1 < n ∧ -1 ≤ (bpStep bt zs (fIn (bpStep bt zs) i s m) i (i + 1 + m)).2.2 ∧ (bpStep bt zs (fIn (bpStep bt zs) i s m) i (i + 1 + m)).2.2 ≤ 8000000
    generalize fIn (bpStep bt zs) i s m = t at h1
    unfold bpStep
    split
    · exact ⟨by show i < n; omega, by show i + 1 + m < n; omega, by show -1 ≤ farZ zs i (i + 1 + m); omega, h2⟩
    · exact h1
theorem bpOut_lt (bt : Int → Int → Bool) (zs : List (Int × Int)) (n : Nat) (hn : 0 < n) (hf : ∀ i k, i < n → k < n → farZ zs i k ≤ 8000000) : ∀ i, i ≤ n → (fOut (bpStep bt zs) n (0, 0, -1) i).1 < n ∧ (fOut (bpStep bt zs) n (0, 0, -1) i).2.1 < n ∧ -1 ≤ (fOut (bpStep bt zs) n (0, 0, -1) i).2.2 ∧ (fOut (bpStep bt zs) n (0, 0, -1) i).2.2 ≤ 8000000
  | 0, _ => ⟨hn, hn, by show (-1 : Int) ≤ -1; omega, by show (-1 : Int) ≤ 8000000; omega⟩
  | i + 1, h => bpIn_lt bt zs n i _ (bpOut_lt bt zs n hn hf i (by omega)) hf (n - (i + 1)) (by omega)
theorem far_top (a1 a2 b1 b2 : Int) (h1 : -1000 ≤ a1 ∧ a1 ≤ 1000) (h2 : -1000 ≤ a2 ∧ a2 ≤ 1000) (h3 : -1000 ≤ b1 ∧ b1 ≤ 1000) (h4 : -1000 ≤ b2 ∧ b2 ≤ 1000) : farV a1 a2 b1 b2 ≤ 8000000 := by
  have m1 := mul_bd (b1 - a1) (b1 - a1) 2000 2000 (by omega) (by omega) (by omega) (by omega)
  have m2 := mul_bd (b2 - a2) (b2 - a2) 2000 2000 (by omega) (by omega) (by omega) (by omega)
  unfold farV; omega
theorem farZ_top {zs : List (Int × Int)} (h : listB zs = true) (i k : Nat) (hi : i < zs.length) (hk : k < zs.length) : farZ zs i k ≤ 8000000 := by
  have h1 := listB_at h hi
  have h2 := listB_at h hk
  exact far_top _ _ _ _ h1.1 h1.2 h2.1 h2.2

end Go.Proofs.Ytbfeaiaoelkggaa
