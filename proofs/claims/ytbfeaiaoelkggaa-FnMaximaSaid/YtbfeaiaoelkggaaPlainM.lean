/- Plain facts on integers; nothing of the program. -/
import Derived.Test.YtbfeaiaoelkggaaPlainL
namespace Go.Proofs.Ytbfeaiaoelkggaa
open Go.RowKit
set_option linter.unusedVariables false


/-- q lies above p: another point with coordinates at least as large. -/
def doP (p q : Int × Int) : Bool := (!(q.1 == p.1 && q.2 == p.2)) && (decide (p.1 ≤ q.1) && decide (p.2 ≤ q.2))
def mxP (zs : List (Int × Int)) (p : Int × Int) : Bool := !(zs.any (doP p))
/-- The indices below k of the points that hold. -/
def pkK (P : Int × Int → Bool) (zs : List (Int × Int)) (k : Nat) : List Nat := (List.range k).filter fun i => P zs[i]!
theorem pkK_zero (P : Int × Int → Bool) (zs : List (Int × Int)) : pkK P zs 0 = [] := rfl
theorem pkK_yes {P : Int × Int → Bool} {zs : List (Int × Int)} {k : Nat} (h : P zs[k]! = true) : pkK P zs (k + 1) = pkK P zs k ++ [k] := by unfold pkK; rw [List.range_succ, List.filter_append, List.filter_cons_of_pos (p := fun i => P zs[i]!) h]; rfl
theorem pkK_no {P : Int × Int → Bool} {zs : List (Int × Int)} {k : Nat} (h : P zs[k]! = false) : pkK P zs (k + 1) = pkK P zs k := by unfold pkK; rw [List.range_succ, List.filter_append, List.filter_cons_of_neg (p := fun i => P zs[i]!) (by rw [h]; exact Bool.false_ne_true)]; exact List.append_nil _
theorem pkK_len (P : Int × Int → Bool) (zs : List (Int × Int)) (k : Nat) : (pkK P zs k).length ≤ k := by
  have := List.length_filter_le (fun i => P zs[i]!) (List.range k)
  rw [List.length_range] at this
  exact this
theorem pkK_at {P : Int × Int → Bool} {zs : List (Int × Int)} {k j : Nat} (h : j < (pkK P zs k).length) : (pkK P zs k)[j]! < k ∧ P zs[(pkK P zs k)[j]!]! = true := by
  have hm : (pkK P zs k)[j]! ∈ pkK P zs k := by rw [getElem!_pos _ j h]; exact List.getElem_mem _
  generalize (pkK P zs k)[j]! = m at hm ⊢
  unfold pkK at hm
  rw [List.mem_filter, List.mem_range] at hm
  exact hm
theorem pkK_mem {P : Int × Int → Bool} {zs : List (Int × Int)} {k i : Nat} (h : i < k) (hP : P zs[i]! = true) : i ∈ pkK P zs k := by unfold pkK; rw [List.mem_filter, List.mem_range]; exact ⟨h, hP⟩
theorem dom (zs : List (Int × Int)) (hs : ∀ z ∈ zs, z.1 + z.2 ≤ 2000) : ∀ (n : Nat) (p : Int × Int), p ∈ zs → 2000 - (p.1 + p.2) ≤ n → ∃ q ∈ zs, mxP zs q = true ∧ p.1 ≤ q.1 ∧ p.2 ≤ q.2 := by
  intro n
  induction n with
  | zero =>
    intro p hp hn
    refine ⟨p, hp, ?_, by omega, by omega⟩
    unfold mxP
    simp only [Bool.not_eq_true', List.any_eq_false]
    intro z hz hd
    have := hs z hz
    unfold doP at hd
    simp at hd
    omega
  | succ n ih =>
    intro p hp hn
    cases h : mxP zs p with
    | true => exact ⟨p, hp, h, by omega, by omega⟩
    | false =>
      unfold mxP at h
      simp only [Bool.not_eq_false', List.any_eq_true] at h
      obtain ⟨z, hz, hd⟩ := h
      unfold doP at hd
      simp at hd
      obtain ⟨q, hq, h1, h2, h3⟩ := ih z hz (by omega)
      exact ⟨q, hq, h1, by omega, by omega⟩
/-- p lies below some of the first k of the points chosen. -/
def atK (zs : List (Int × Int)) (L : List Nat) (p : Int × Int) (k : Nat) : Bool := (L.take k).any fun m => decide (p.1 ≤ zs[m]!.1) && decide (p.2 ≤ zs[m]!.2)
theorem atK_succ {zs : List (Int × Int)} {L : List Nat} {p : Int × Int} {k : Nat} (h : k < L.length) : atK zs L p (k + 1) = (atK zs L p k || (decide (p.1 ≤ zs[L[k]!]!.1) && decide (p.2 ≤ zs[L[k]!]!.2))) := by
  unfold atK
  rw [List.take_succ_eq_append_getElem h, List.any_append, getElem!_pos L k h]
  simp
theorem atK_all {zs : List (Int × Int)} (hv : listB zs = true) {i : Nat} (hi : i < zs.length) : atK zs (pkK (mxP zs) zs zs.length) zs[i]! (pkK (mxP zs) zs zs.length).length = true := by
  have hs : ∀ z ∈ zs, z.1 + z.2 ≤ 2000 := fun z hz => by
    obtain ⟨j, hj, rfl⟩ := List.getElem_of_mem hz
    have := listB_at hv hj
    rw [getElem!_pos zs j hj] at this
    omega
  obtain ⟨q, hq, h1, h2, h3⟩ := dom zs hs (2000 - (zs[i]!.1 + zs[i]!.2)).toNat zs[i]! (by rw [getElem!_pos zs i hi]; exact List.getElem_mem _) (by omega)
  obtain ⟨j, hj, rfl⟩ := List.getElem_of_mem hq
  unfold atK
  rw [List.take_length, List.any_eq_true]
  refine ⟨j, pkK_mem hj (by rw [getElem!_pos zs j hj]; exact h1), ?_⟩
  rw [getElem!_pos zs j hj]
  simp only [decide_eq_true h2, decide_eq_true h3, Bool.and_self]
theorem mx_not {zs : List (Int × Int)} {q : Int × Int} (h : mxP zs q = true) {i : Nat} (hi : i < zs.length) : doP q zs[i]! = false := by
  unfold mxP at h
  simp only [Bool.not_eq_true', List.any_eq_false] at h
  rw [getElem!_pos zs i hi]
  have := h zs[i] (List.getElem_mem _)
  simpa using this
/-- None of the first k points lies above p. -/
def noK (zs : List (Int × Int)) (p : Int × Int) (k : Nat) : Bool := !((zs.take k).any (doP p))
theorem noK_succ {zs : List (Int × Int)} {p : Int × Int} {k : Nat} (h : k < zs.length) : noK zs p (k + 1) = (noK zs p k && !doP p zs[k]!) := by
  unfold noK
  rw [List.take_succ_eq_append_getElem h, List.any_append, getElem!_pos zs k h]
  simp
theorem noK_all (zs : List (Int × Int)) (p : Int × Int) : noK zs p zs.length = mxP zs p := by unfold noK mxP; rw [List.take_length]
theorem doP_same {p q : Int × Int} (h1 : q.1 = p.1) (h2 : q.2 = p.2) : doP p q = false := by simp [doP, h1, h2]
theorem doP_yes {p q : Int × Int} (h : ¬ (q.1 = p.1 ∧ q.2 = p.2)) (h1 : p.1 ≤ q.1) (h2 : p.2 ≤ q.2) : doP p q = true := by
  unfold doP
  simp only [Bool.and_eq_true, Bool.not_eq_true', Bool.and_eq_false_iff, beq_eq_false_iff_ne, decide_eq_true_eq]
  refine ⟨?_, h1, h2⟩
  by_cases e : q.1 = p.1
  · exact .inr fun e2 => h ⟨e, e2⟩
  · exact .inl e
theorem doP_no1 {p q : Int × Int} (h1 : ¬ p.1 ≤ q.1) : doP p q = false := by simp [doP, h1]
theorem doP_no2 {p q : Int × Int} (h1 : ¬ p.2 ≤ q.2) : doP p q = false := by simp [doP, h1]

end Go.Proofs.Ytbfeaiaoelkggaa
