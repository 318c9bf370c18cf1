/- Contracts of functions that this seat's statements reach: each is shown to compute a plain Lean function, and to leave what was there as it was. No conditions but those in each theorem. -/
import Derived.Test.YtgnjmcfkehgdfaaLiP
import Derived.Test.YtgnjmcfkehgdfaaLiB
namespace Go.Proofs.Ytgnjmcfkehgdfaa
open Go.RowKit
set_option linter.unusedVariables false

set_option maxHeartbeats 2000000 in
theorem spec_ClosestPair (b off n c : Nat) (zs : List (Int × Int)) (w : World) (hn : n ≤ 1048576) (hz : zs.length = n) (hb : b < w.heap.size) (hr : rowOfPoint w b off zs) :
    Calls Try.prog 32 #[.slice (some ⟨b, off, none⟩) n c] w fun e w' => e = .returned (.tuple #[.int .i64 (CpA zs), .int .i64 (CpB zs), .int .i64 (CpC zs)]) ∧ Below w.heap.size w w' := by
  have HV := Lib.hid (fun W (B : Below w.heap.size w W) => spec_validPoints b off n c zs W hn hz (Nat.lt_of_lt_of_le hb B.size) (row_belowPoint hr hb B))
  have HZ := Lib.hid hz
  have HR := Lib.hid hr
  have hB := Lib.hid hb
  clear hz hr hb
  change Hid (∀ W, Below w.heap.size w W → Calls Try.prog 45 #[.slice (some ⟨b, off, none⟩) n c] W fun e w' => e = .returned (.bool (listB zs)) ∧ Below W.heap.size W w') at HV
  cases h0 : listB zs with
  | false =>
    have hv0 : CpA zs = 0 := by simp [CpA, cpOk, h0]
    have hv1 : CpB zs = 0 := by simp [CpB, cpOk, h0]
    have hv2 : CpC zs = -1 := by simp [CpC, cpOk, h0]
    rw [hv0, hv1, hv2]
    clear hv0 hv1 hv2
    rw [h0] at HV
    go_enter Try.func32, Try.ntmps32
    go_wp2_with (first | (go_at_call 45; refine (HV.out _ (by (repeat (first | with_reducible exact Below.refl _ _ | with_reducible refine bl_alloc ?_ _ | with_reducible refine bl_drew ?_ | with_reducible refine bl_set ?_ (by first | (simp; done) | (simp; omega)) _ | with_reducible refine bl_call (by assumption) ?_)))).mono ?_; rintro e w1 ⟨rfl, hb1⟩; obtain ⟨hc1, hf1⟩ := bcell hb1; have s1 := hb1.size; (try simp at s1); (try have z1 : w.heap.size < w1.heap.size := by omega)) | (go_at_call 40; refine (spec_validPoint _ _ _).mono ?_; rintro e w2 ⟨rfl, hb2⟩; obtain ⟨hc2, hf2⟩ := bcell hb2; have s2 := hb2.size; try simp at s2))
    refine bodyPost_ret (v := .tuple #[.int .i64 (0), .int .i64 (0), .int .i64 (-1)]) (by simp [results, Try.results32, go_sem, *]) rfl ⟨rfl, ?_⟩
    (repeat (first | with_reducible exact Below.refl _ _ | with_reducible refine bl_alloc ?_ _ | with_reducible refine bl_drew ?_ | with_reducible refine bl_set ?_ (by first | (simp; done) | (simp; omega)) _ | with_reducible refine bl_call (by assumption) ?_))

  | true =>
    rw [h0] at HV
    by_cases h1 : 2 ≤ zs.length
    · have hlo : 2 ≤ n := by have := HZ.out; omega
      have hloz : ¬ (n : Int) < 2 := by omega
      have hnz : ¬ (n : Int) = 0 := by omega
      have hnb : ((n : Int) == 0) = false := by simp; omega
      have hv0 : CpA zs = ((cpS zs zs.length).1 : Nat) := by simp [CpA, cpOk, h0, h1]
      have hv1 : CpB zs = ((cpS zs zs.length).2 : Nat) := by simp [CpB, cpOk, h0, h1]
      have hv2 : CpC zs = farZ zs (cpS zs zs.length).1 (cpS zs zs.length).2 := by simp [CpC, cpOk, h0, h1]
      rw [hv0, hv1, hv2]
      clear hv0 hv1 hv2
      have HA := Lib.hid h0
      clear h0 h1
      rw [HZ.out]
      have hlt2 := fOut_lt closB zs n (0, 1) (by constructor <;> (try show _ < n) <;> (try simp) <;> omega) n (Nat.le_refl _)
      change (cpS zs n).1 < n ∧ (cpS zs n).2 < n at hlt2
      have HE := Lib.hid (fun W (B : Below w.heap.size w W) => spec_nearest b off n c zs W hn HZ.out (Nat.lt_of_lt_of_le hB.out B.size) (row_belowPoint HR.out hB.out B) HA.out hlo)
      unfold farZ
      generalize cpS zs n = S at HE hlt2 ⊢
      obtain ⟨aa, bb⟩ := S
      obtain ⟨haa, hbb⟩ := hlt2
      dsimp only at HE haa hbb ⊢
      have haaz : (aa : Int) < (n : Int) := by omega
      have hbbz : (bb : Int) < (n : Int) := by omega
      have hl_aa : aa < zs.length := by rw [HZ.out]; omega
      have hp_aa := listB_at HA.out hl_aa
      have hr_aa := Lib.hid (HR.out aa hl_aa)
      clear hl_aa
      have hl_bb : bb < zs.length := by rw [HZ.out]; omega
      have hp_bb := listB_at HA.out hl_bb
      have hr_bb := Lib.hid (HR.out bb hl_bb)
      clear hl_bb
      generalize zs[aa]! = p at hp_aa hr_aa ⊢
      generalize zs[bb]! = q at hp_bb hr_bb ⊢
      go_enter Try.func32, Try.ntmps32
      go_wp2_with (first | (go_at_call 45; refine (HV.out _ (by (repeat (first | with_reducible exact Below.refl _ _ | with_reducible refine bl_alloc ?_ _ | with_reducible refine bl_drew ?_ | with_reducible refine bl_set ?_ (by first | (simp; done) | (simp; omega)) _ | with_reducible refine bl_call (by assumption) ?_)))).mono ?_; rintro e w1 ⟨rfl, hb1⟩; obtain ⟨hc1, hf1⟩ := bcell hb1; have s1 := hb1.size; (try simp at s1); (try have z1 : w.heap.size < w1.heap.size := by omega)) | (go_at_call 40; refine (spec_validPoint _ _ _).mono ?_; rintro e w2 ⟨rfl, hb2⟩; obtain ⟨hc2, hf2⟩ := bcell hb2; have s2 := hb2.size; try simp at s2) | (go_at_call 65; refine (HE.out _ (by (repeat (first | with_reducible exact Below.refl _ _ | with_reducible refine bl_alloc ?_ _ | with_reducible refine bl_drew ?_ | with_reducible refine bl_set ?_ (by first | (simp; done) | (simp; omega)) _ | with_reducible refine bl_call (by assumption) ?_)))).mono ?_; rintro e w3 ⟨rfl, hb3⟩; have BW : Below w.heap.size w w3 := (by first | exact bl_call hb3 (bl_call hb1 (Below.refl _ _)) | exact bl_call hb3 hb1); have l0 := (BW.cell (p := ⟨b, off + aa * 2, none⟩) hB.out).trans hr_aa.out.1; have l1 := (BW.cell (p := ⟨b, off + aa * 2 + 1, none⟩) hB.out).trans hr_aa.out.2; have l2 := (BW.cell (p := ⟨b, off + bb * 2, none⟩) hB.out).trans hr_bb.out.1; have l3 := (BW.cell (p := ⟨b, off + bb * 2 + 1, none⟩) hB.out).trans hr_bb.out.2))
      have k0 := cell_regrown l0
      have k1 := cell_regrown l1
      have k2 := cell_regrown l2
      have k3 := cell_regrown l3
      clear l0 l1 l2 l3
      refine wp_region_quiet_below (by kernel_rfl) (by kernel_rfl) ?_
      repeat (go_big_quiet_step ((first | (go_at_call 46; with_reducible exact Calls.regrown_of (spec_square p.1 p.2 q.1 q.2 _ hp_aa.1 hp_aa.2 hp_bb.1 hp_bb.2)))))
      refine wpQuiet_nil ?_
      intro _ hw'
      obtain ⟨⟨dq, osq⟩, hw''⟩ := hw'
      subst hw''
      have HB := below_regrown w3 dq osq
      clear k0 k1 k2 k3
      go_wp2
      refine bodyPost_ret (v := .tuple #[.int .i64 (aa : Int), .int .i64 (bb : Int), .int .i64 (farV p.1 p.2 q.1 q.2)]) (by simp [results, Try.results32, go_sem, *]) rfl ⟨rfl, bl_call HB BW⟩
    · have hv0 : CpA zs = 0 := by simp [CpA, cpOk, h0, h1]
      have hv1 : CpB zs = 0 := by simp [CpB, cpOk, h0, h1]
      have hv2 : CpC zs = -1 := by simp [CpC, cpOk, h0, h1]
      rw [hv0, hv1, hv2]
      clear hv0 hv1 hv2
      have hlo : n < 2 := by have := HZ.out; omega
      have hloz : (n : Int) < 2 := by omega
      have hlob : ((n : Int) == 0) = decide (n = 0) := by rw [Bool.eq_iff_iff]; simp
      clear h0 h1
      go_enter Try.func32, Try.ntmps32
      go_wp2_with (first | (go_at_call 45; refine (HV.out _ (by (repeat (first | with_reducible exact Below.refl _ _ | with_reducible refine bl_alloc ?_ _ | with_reducible refine bl_drew ?_ | with_reducible refine bl_set ?_ (by first | (simp; done) | (simp; omega)) _ | with_reducible refine bl_call (by assumption) ?_)))).mono ?_; rintro e w1 ⟨rfl, hb1⟩; obtain ⟨hc1, hf1⟩ := bcell hb1; have s1 := hb1.size; (try simp at s1); (try have z1 : w.heap.size < w1.heap.size := by omega)) | (go_at_call 40; refine (spec_validPoint _ _ _).mono ?_; rintro e w2 ⟨rfl, hb2⟩; obtain ⟨hc2, hf2⟩ := bcell hb2; have s2 := hb2.size; try simp at s2))
      refine bodyPost_ret (v := .tuple #[.int .i64 (0), .int .i64 (0), .int .i64 (-1)]) (by simp [results, Try.results32, go_sem, *]) rfl ⟨rfl, ?_⟩
      (repeat (first | with_reducible exact Below.refl _ _ | with_reducible refine bl_alloc ?_ _ | with_reducible refine bl_drew ?_ | with_reducible refine bl_set ?_ (by first | (simp; done) | (simp; omega)) _ | with_reducible refine bl_call (by assumption) ?_))

set_option maxHeartbeats 2000000 in
theorem spec_Diameter (b off n c : Nat) (zs : List (Int × Int)) (w : World) (hn : n ≤ 1048576) (hz : zs.length = n) (hb : b < w.heap.size) (hr : rowOfPoint w b off zs) :
    Calls Try.prog 34 #[.slice (some ⟨b, off, none⟩) n c] w fun e w' => e = .returned (.tuple #[.int .i64 (DiA zs), .int .i64 (DiB zs), .int .i64 (DiC zs)]) ∧ Below w.heap.size w w' := by
  have HV := Lib.hid (fun W (B : Below w.heap.size w W) => spec_validPoints b off n c zs W hn hz (Nat.lt_of_lt_of_le hb B.size) (row_belowPoint hr hb B))
  have HZ := Lib.hid hz
  have HR := Lib.hid hr
  have hB := Lib.hid hb
  clear hz hr hb
  change Hid (∀ W, Below w.heap.size w W → Calls Try.prog 45 #[.slice (some ⟨b, off, none⟩) n c] W fun e w' => e = .returned (.bool (listB zs)) ∧ Below W.heap.size W w') at HV
  cases h0 : listB zs with
  | false =>
    have hv0 : DiA zs = 0 := by simp [DiA, diOk, h0]
    have hv1 : DiB zs = 0 := by simp [DiB, diOk, h0]
    have hv2 : DiC zs = -1 := by simp [DiC, diOk, h0]
    rw [hv0, hv1, hv2]
    clear hv0 hv1 hv2
    rw [h0] at HV
    go_enter Try.func34, Try.ntmps34
    go_wp2_with (first | (go_at_call 45; refine (HV.out _ (by (repeat (first | with_reducible exact Below.refl _ _ | with_reducible refine bl_alloc ?_ _ | with_reducible refine bl_drew ?_ | with_reducible refine bl_set ?_ (by first | (simp; done) | (simp; omega)) _ | with_reducible refine bl_call (by assumption) ?_)))).mono ?_; rintro e w1 ⟨rfl, hb1⟩; obtain ⟨hc1, hf1⟩ := bcell hb1; have s1 := hb1.size; (try simp at s1); (try have z1 : w.heap.size < w1.heap.size := by omega)) | (go_at_call 40; refine (spec_validPoint _ _ _).mono ?_; rintro e w2 ⟨rfl, hb2⟩; obtain ⟨hc2, hf2⟩ := bcell hb2; have s2 := hb2.size; try simp at s2))
    refine bodyPost_ret (v := .tuple #[.int .i64 (0), .int .i64 (0), .int .i64 (-1)]) (by simp [results, Try.results34, go_sem, *]) rfl ⟨rfl, ?_⟩
    (repeat (first | with_reducible exact Below.refl _ _ | with_reducible refine bl_alloc ?_ _ | with_reducible refine bl_drew ?_ | with_reducible refine bl_set ?_ (by first | (simp; done) | (simp; omega)) _ | with_reducible refine bl_call (by assumption) ?_))

  | true =>
    rw [h0] at HV
    by_cases h1 : 1 ≤ zs.length
    · have hlo : 1 ≤ n := by have := HZ.out; omega
      have hloz : ¬ (n : Int) < 1 := by omega
      have hnz : ¬ (n : Int) = 0 := by omega
      have hnb : ((n : Int) == 0) = false := by simp; omega
      have hv0 : DiA zs = ((diS zs zs.length).1 : Nat) := by simp [DiA, diOk, h0, h1]
      have hv1 : DiB zs = ((diS zs zs.length).2 : Nat) := by simp [DiB, diOk, h0, h1]
      have hv2 : DiC zs = farZ zs (diS zs zs.length).1 (diS zs zs.length).2 := by simp [DiC, diOk, h0, h1]
      rw [hv0, hv1, hv2]
      clear hv0 hv1 hv2
      have HA := Lib.hid h0
      clear h0 h1
      rw [HZ.out]
      have hlt2 := fOut_lt diaB zs n (0, 0) (by constructor <;> (try show _ < n) <;> (try simp) <;> omega) n (Nat.le_refl _)
      change (diS zs n).1 < n ∧ (diS zs n).2 < n at hlt2
      have HE := Lib.hid (fun W (B : Below w.heap.size w W) => spec_farthest b off n c zs W hn HZ.out (Nat.lt_of_lt_of_le hB.out B.size) (row_belowPoint HR.out hB.out B) HA.out hlo)
      unfold farZ
      generalize diS zs n = S at HE hlt2 ⊢
      obtain ⟨aa, bb⟩ := S
      obtain ⟨haa, hbb⟩ := hlt2
      dsimp only at HE haa hbb ⊢
      have haaz : (aa : Int) < (n : Int) := by omega
      have hbbz : (bb : Int) < (n : Int) := by omega
      have hl_aa : aa < zs.length := by rw [HZ.out]; omega
      have hp_aa := listB_at HA.out hl_aa
      have hr_aa := Lib.hid (HR.out aa hl_aa)
      clear hl_aa
      have hl_bb : bb < zs.length := by rw [HZ.out]; omega
      have hp_bb := listB_at HA.out hl_bb
      have hr_bb := Lib.hid (HR.out bb hl_bb)
      clear hl_bb
      generalize zs[aa]! = p at hp_aa hr_aa ⊢
      generalize zs[bb]! = q at hp_bb hr_bb ⊢
      go_enter Try.func34, Try.ntmps34
      go_wp2_with (first | (go_at_call 45; refine (HV.out _ (by (repeat (first | with_reducible exact Below.refl _ _ | with_reducible refine bl_alloc ?_ _ | with_reducible refine bl_drew ?_ | with_reducible refine bl_set ?_ (by first | (simp; done) | (simp; omega)) _ | with_reducible refine bl_call (by assumption) ?_)))).mono ?_; rintro e w1 ⟨rfl, hb1⟩; obtain ⟨hc1, hf1⟩ := bcell hb1; have s1 := hb1.size; (try simp at s1); (try have z1 : w.heap.size < w1.heap.size := by omega)) | (go_at_call 40; refine (spec_validPoint _ _ _).mono ?_; rintro e w2 ⟨rfl, hb2⟩; obtain ⟨hc2, hf2⟩ := bcell hb2; have s2 := hb2.size; try simp at s2) | (go_at_call 68; refine (HE.out _ (by (repeat (first | with_reducible exact Below.refl _ _ | with_reducible refine bl_alloc ?_ _ | with_reducible refine bl_drew ?_ | with_reducible refine bl_set ?_ (by first | (simp; done) | (simp; omega)) _ | with_reducible refine bl_call (by assumption) ?_)))).mono ?_; rintro e w3 ⟨rfl, hb3⟩; have BW : Below w.heap.size w w3 := (by first | exact bl_call hb3 (bl_call hb1 (Below.refl _ _)) | exact bl_call hb3 hb1); have l0 := (BW.cell (p := ⟨b, off + aa * 2, none⟩) hB.out).trans hr_aa.out.1; have l1 := (BW.cell (p := ⟨b, off + aa * 2 + 1, none⟩) hB.out).trans hr_aa.out.2; have l2 := (BW.cell (p := ⟨b, off + bb * 2, none⟩) hB.out).trans hr_bb.out.1; have l3 := (BW.cell (p := ⟨b, off + bb * 2 + 1, none⟩) hB.out).trans hr_bb.out.2))
      have k0 := cell_regrown l0
      have k1 := cell_regrown l1
      have k2 := cell_regrown l2
      have k3 := cell_regrown l3
      clear l0 l1 l2 l3
      refine wp_region_quiet_below (by kernel_rfl) (by kernel_rfl) ?_
      repeat (go_big_quiet_step ((first | (go_at_call 46; with_reducible exact Calls.regrown_of (spec_square p.1 p.2 q.1 q.2 _ hp_aa.1 hp_aa.2 hp_bb.1 hp_bb.2)))))
      refine wpQuiet_nil ?_
      intro _ hw'
      obtain ⟨⟨dq, osq⟩, hw''⟩ := hw'
      subst hw''
      have HB := below_regrown w3 dq osq
      clear k0 k1 k2 k3
      go_wp2
      refine bodyPost_ret (v := .tuple #[.int .i64 (aa : Int), .int .i64 (bb : Int), .int .i64 (farV p.1 p.2 q.1 q.2)]) (by simp [results, Try.results34, go_sem, *]) rfl ⟨rfl, bl_call HB BW⟩
    · have hv0 : DiA zs = 0 := by simp [DiA, diOk, h0, h1]
      have hv1 : DiB zs = 0 := by simp [DiB, diOk, h0, h1]
      have hv2 : DiC zs = -1 := by simp [DiC, diOk, h0, h1]
      rw [hv0, hv1, hv2]
      clear hv0 hv1 hv2
      have hn0 : n = 0 := by have := HZ.out; omega
      subst hn0
      clear h0 h1
      go_enter Try.func34, Try.ntmps34
      go_wp2_with (first | (go_at_call 45; refine (HV.out _ (by (repeat (first | with_reducible exact Below.refl _ _ | with_reducible refine bl_alloc ?_ _ | with_reducible refine bl_drew ?_ | with_reducible refine bl_set ?_ (by first | (simp; done) | (simp; omega)) _ | with_reducible refine bl_call (by assumption) ?_)))).mono ?_; rintro e w1 ⟨rfl, hb1⟩; obtain ⟨hc1, hf1⟩ := bcell hb1; have s1 := hb1.size; (try simp at s1); (try have z1 : w.heap.size < w1.heap.size := by omega)) | (go_at_call 40; refine (spec_validPoint _ _ _).mono ?_; rintro e w2 ⟨rfl, hb2⟩; obtain ⟨hc2, hf2⟩ := bcell hb2; have s2 := hb2.size; try simp at s2))
      refine bodyPost_ret (v := .tuple #[.int .i64 (0), .int .i64 (0), .int .i64 (-1)]) (by simp [results, Try.results34, go_sem, *]) rfl ⟨rfl, ?_⟩
      (repeat (first | with_reducible exact Below.refl _ _ | with_reducible refine bl_alloc ?_ _ | with_reducible refine bl_drew ?_ | with_reducible refine bl_set ?_ (by first | (simp; done) | (simp; omega)) _ | with_reducible refine bl_call (by assumption) ?_))

theorem impl_ClosestPair_1 (x y : Int) (w : World) : Calls Try.prog 67 #[.int .i64 x, .int .i64 y] w fun e w' => e = .returned (.bool (closB x y)) ∧ w = w' := by
  unfold closB
  go_enter Try.func67, Try.ntmps67
  go_wp2
  all_goals go_ret
  all_goals exact ⟨ret_bool (by simp), rfl⟩

set_option maxHeartbeats 2000000 in
theorem impl_ClosestPair (b off n c : Nat) (zs : List (Int × Int)) (w : World) (hn : n ≤ 1048576) (hz : zs.length = n) (hb : b < w.heap.size) (hr : rowOfPoint w b off zs) :
    Calls Try.prog 33 #[.slice (some ⟨b, off, none⟩) n c] w fun e w' => e = .returned (.tuple #[.int .i64 (CpA zs), .int .i64 (CpB zs), .int .i64 (CpC zs)]) ∧ Below w.heap.size w w' := by
  have HV := Lib.hid (fun W (B : Below w.heap.size w W) => impl_listOk b off n c zs W hn hz (Nat.lt_of_lt_of_le hb B.size) (row_belowPoint hr hb B))
  have HZ := Lib.hid hz
  have HR := Lib.hid hr
  have hB := Lib.hid hb
  clear hz hr hb
  change Hid (∀ W, Below w.heap.size w W → Calls Try.prog 47 #[.slice (some ⟨b, off, none⟩) n c] W fun e w' => e = .returned (.bool (listB zs)) ∧ Below W.heap.size W w') at HV
  cases h0 : listB zs with
  | false =>
    have hv : cpOk zs = false := by simp [cpOk, h0]
    have hA : CpA zs = 0 := by simp [CpA, hv]
    have hB2 : CpB zs = 0 := by simp [CpB, hv]
    have hC : CpC zs = -1 := by simp [CpC, hv]
    rw [hA, hB2, hC]
    clear hA hB2 hC hv
    rw [h0] at HV
    clear h0
    go_enter Try.func33, Try.ntmps33
    go_wp2_with (first | (go_at_call 47; refine (HV.out _ (by (repeat (first | with_reducible exact Below.refl _ _ | with_reducible refine bl_alloc ?_ _ | with_reducible refine bl_drew ?_ | with_reducible refine bl_set ?_ (by first | (simp; done) | (simp; omega)) _ | with_reducible refine bl_call (by assumption) ?_)))).mono ?_; rintro e w1 ⟨rfl, hb1⟩; obtain ⟨hc1, hf1⟩ := bcell hb1; have s1 := hb1.size; (try simp at s1); (try have z1 : w.heap.size < w1.heap.size := by omega)) | (go_at_call 48; refine (impl_Point_valid _ _ _).mono ?_; rintro e w2 ⟨rfl, hb2⟩; obtain ⟨hc2, hf2⟩ := bcell hb2; have s2 := hb2.size; try simp at s2))
    refine bodyPost_ret (v := .tuple #[.int .i64 (0), .int .i64 (0), .int .i64 (-1)]) (by simp [results, Try.results33, go_sem, *]) rfl ⟨rfl, ?_⟩
    (repeat (first | with_reducible exact Below.refl _ _ | with_reducible refine bl_alloc ?_ _ | with_reducible refine bl_drew ?_ | with_reducible refine bl_set ?_ (by first | (simp; done) | (simp; omega)) _ | with_reducible refine bl_call (by assumption) ?_))

  | true =>
    rw [h0] at HV
    have HA := Lib.hid h0
    have eg : ∀ args w, (callFunc 67 args).run Try.prog w = .ok (.enter 67 args) w := enters_of Try.func67 (by kernel_rfl) rfl
    have HE := Lib.hid (fun W (B : Below w.heap.size w W) => impl_bestPair closB 67 eg (fun x y W => impl_ClosestPair_1 x y W) b off n c zs W hn HZ.out (Nat.lt_of_lt_of_le hB.out B.size) (row_belowPoint HR.out hB.out B) HA.out)
    clear eg
    by_cases h1 : 2 ≤ n
    · have hv : cpOk zs = true := by simp [cpOk, h0, HZ.out, h1]
      obtain ⟨e1, e2, e3⟩ := bp_clos zs n h1
      have hA : CpA zs = ((cpS zs n).1 : Nat) := by unfold CpA; rw [if_pos hv, HZ.out]
      have hB2 : CpB zs = ((cpS zs n).2 : Nat) := by unfold CpB; rw [if_pos hv, HZ.out]
      have hC : CpC zs = farZ zs (cpS zs n).1 (cpS zs n).2 := by unfold CpC; rw [if_pos hv, HZ.out]
      rw [e1, e2, e3] at HE
      rw [hA, hB2, hC]
      clear e1 e2 e3 hA hB2 hC hv h0
      generalize farZ zs (cpS zs n).1 (cpS zs n).2 = r3 at HE ⊢
      generalize cpS zs n = S at HE ⊢
      obtain ⟨aa, bb⟩ := S
      dsimp only at HE ⊢
      go_enter Try.func33, Try.ntmps33
      go_wp2_with (first | (go_at_call 47; refine (HV.out _ (by (repeat (first | with_reducible exact Below.refl _ _ | with_reducible refine bl_alloc ?_ _ | with_reducible refine bl_drew ?_ | with_reducible refine bl_set ?_ (by first | (simp; done) | (simp; omega)) _ | with_reducible refine bl_call (by assumption) ?_)))).mono ?_; rintro e w1 ⟨rfl, hb1⟩; obtain ⟨hc1, hf1⟩ := bcell hb1; have s1 := hb1.size; (try simp at s1); (try have z1 : w.heap.size < w1.heap.size := by omega)) | (go_at_call 48; refine (impl_Point_valid _ _ _).mono ?_; rintro e w2 ⟨rfl, hb2⟩; obtain ⟨hc2, hf2⟩ := bcell hb2; have s2 := hb2.size; try simp at s2) | (go_at_call 66; refine (HE.out _ (by (repeat (first | with_reducible exact Below.refl _ _ | with_reducible refine bl_alloc ?_ _ | with_reducible refine bl_drew ?_ | with_reducible refine bl_set ?_ (by first | (simp; done) | (simp; omega)) _ | with_reducible refine bl_call (by assumption) ?_)))).mono ?_; rintro e w3 ⟨rfl, hb3⟩))
      refine bodyPost_ret (v := .tuple #[.int .i64 ((aa : Int)), .int .i64 ((bb : Int)), .int .i64 (r3)]) (by simp [results, Try.results33, go_sem, *]) rfl ⟨rfl, ?_⟩
      (repeat (first | with_reducible exact Below.refl _ _ | with_reducible refine bl_alloc ?_ _ | with_reducible refine bl_drew ?_ | with_reducible refine bl_set ?_ (by first | (simp; done) | (simp; omega)) _ | with_reducible refine bl_call (by assumption) ?_))

    · have hv : cpOk zs = false := by simp [cpOk, HZ.out]; omega
      have e1 := bp_small closB zs n (by omega)
      have hA : CpA zs = 0 := by simp [CpA, hv]
      have hB2 : CpB zs = 0 := by simp [CpB, hv]
      have hC : CpC zs = -1 := by simp [CpC, hv]
      rw [e1] at HE
      rw [hA, hB2, hC]
      clear e1 hA hB2 hC hv h0
      dsimp only at HE ⊢
      go_enter Try.func33, Try.ntmps33
      go_wp2_with (first | (go_at_call 47; refine (HV.out _ (by (repeat (first | with_reducible exact Below.refl _ _ | with_reducible refine bl_alloc ?_ _ | with_reducible refine bl_drew ?_ | with_reducible refine bl_set ?_ (by first | (simp; done) | (simp; omega)) _ | with_reducible refine bl_call (by assumption) ?_)))).mono ?_; rintro e w1 ⟨rfl, hb1⟩; obtain ⟨hc1, hf1⟩ := bcell hb1; have s1 := hb1.size; (try simp at s1); (try have z1 : w.heap.size < w1.heap.size := by omega)) | (go_at_call 48; refine (impl_Point_valid _ _ _).mono ?_; rintro e w2 ⟨rfl, hb2⟩; obtain ⟨hc2, hf2⟩ := bcell hb2; have s2 := hb2.size; try simp at s2) | (go_at_call 66; refine (HE.out _ (by (repeat (first | with_reducible exact Below.refl _ _ | with_reducible refine bl_alloc ?_ _ | with_reducible refine bl_drew ?_ | with_reducible refine bl_set ?_ (by first | (simp; done) | (simp; omega)) _ | with_reducible refine bl_call (by assumption) ?_)))).mono ?_; rintro e w3 ⟨rfl, hb3⟩))
      refine bodyPost_ret (v := .tuple #[.int .i64 (0), .int .i64 (0), .int .i64 (-1)]) (by simp [results, Try.results33, go_sem, *]) rfl ⟨rfl, ?_⟩
      (repeat (first | with_reducible exact Below.refl _ _ | with_reducible refine bl_alloc ?_ _ | with_reducible refine bl_drew ?_ | with_reducible refine bl_set ?_ (by first | (simp; done) | (simp; omega)) _ | with_reducible refine bl_call (by assumption) ?_))

theorem impl_Diameter_1 (x y : Int) (w : World) : Calls Try.prog 69 #[.int .i64 x, .int .i64 y] w fun e w' => e = .returned (.bool (diaB x y)) ∧ w = w' := by
  unfold diaB
  go_enter Try.func69, Try.ntmps69
  go_wp2
  all_goals go_ret
  all_goals exact ⟨ret_bool (by simp), rfl⟩

set_option maxHeartbeats 2000000 in
theorem impl_Diameter (b off n c : Nat) (zs : List (Int × Int)) (w : World) (hn : n ≤ 1048576) (hz : zs.length = n) (hb : b < w.heap.size) (hr : rowOfPoint w b off zs) :
    Calls Try.prog 35 #[.slice (some ⟨b, off, none⟩) n c] w fun e w' => e = .returned (.tuple #[.int .i64 (DiA zs), .int .i64 (DiB zs), .int .i64 (DiC zs)]) ∧ Below w.heap.size w w' := by
  have HV := Lib.hid (fun W (B : Below w.heap.size w W) => impl_listOk b off n c zs W hn hz (Nat.lt_of_lt_of_le hb B.size) (row_belowPoint hr hb B))
  have HZ := Lib.hid hz
  have HR := Lib.hid hr
  have hB := Lib.hid hb
  clear hz hr hb
  change Hid (∀ W, Below w.heap.size w W → Calls Try.prog 47 #[.slice (some ⟨b, off, none⟩) n c] W fun e w' => e = .returned (.bool (listB zs)) ∧ Below W.heap.size W w') at HV
  cases h0 : listB zs with
  | false =>
    have hv : diOk zs = false := by simp [diOk, h0]
    have hA : DiA zs = 0 := by simp [DiA, hv]
    have hB2 : DiB zs = 0 := by simp [DiB, hv]
    have hC : DiC zs = -1 := by simp [DiC, hv]
    rw [hA, hB2, hC]
    clear hA hB2 hC hv
    rw [h0] at HV
    clear h0
    go_enter Try.func35, Try.ntmps35
    go_wp2_with (first | (go_at_call 47; refine (HV.out _ (by (repeat (first | with_reducible exact Below.refl _ _ | with_reducible refine bl_alloc ?_ _ | with_reducible refine bl_drew ?_ | with_reducible refine bl_set ?_ (by first | (simp; done) | (simp; omega)) _ | with_reducible refine bl_call (by assumption) ?_)))).mono ?_; rintro e w1 ⟨rfl, hb1⟩; obtain ⟨hc1, hf1⟩ := bcell hb1; have s1 := hb1.size; (try simp at s1); (try have z1 : w.heap.size < w1.heap.size := by omega)) | (go_at_call 48; refine (impl_Point_valid _ _ _).mono ?_; rintro e w2 ⟨rfl, hb2⟩; obtain ⟨hc2, hf2⟩ := bcell hb2; have s2 := hb2.size; try simp at s2))
    refine bodyPost_ret (v := .tuple #[.int .i64 (0), .int .i64 (0), .int .i64 (-1)]) (by simp [results, Try.results35, go_sem, *]) rfl ⟨rfl, ?_⟩
    (repeat (first | with_reducible exact Below.refl _ _ | with_reducible refine bl_alloc ?_ _ | with_reducible refine bl_drew ?_ | with_reducible refine bl_set ?_ (by first | (simp; done) | (simp; omega)) _ | with_reducible refine bl_call (by assumption) ?_))

  | true =>
    rw [h0] at HV
    have HA := Lib.hid h0
    have eg : ∀ args w, (callFunc 69 args).run Try.prog w = .ok (.enter 69 args) w := enters_of Try.func69 (by kernel_rfl) rfl
    have HE := Lib.hid (fun W (B : Below w.heap.size w W) => impl_bestPair diaB 69 eg (fun x y W => impl_Diameter_1 x y W) b off n c zs W hn HZ.out (Nat.lt_of_lt_of_le hB.out B.size) (row_belowPoint HR.out hB.out B) HA.out)
    clear eg
    by_cases h1 : n = 0
    · have hv : diOk zs = false := by simp [diOk, HZ.out]; omega
      have hA : DiA zs = 0 := by simp [DiA, hv]
      have hB2 : DiB zs = 0 := by simp [DiB, hv]
      have hC : DiC zs = -1 := by simp [DiC, hv]
      rw [hA, hB2, hC]
      clear hA hB2 hC hv h0
      subst h1
      go_enter Try.func35, Try.ntmps35
      go_wp2_with (first | (go_at_call 47; refine (HV.out _ (by (repeat (first | with_reducible exact Below.refl _ _ | with_reducible refine bl_alloc ?_ _ | with_reducible refine bl_drew ?_ | with_reducible refine bl_set ?_ (by first | (simp; done) | (simp; omega)) _ | with_reducible refine bl_call (by assumption) ?_)))).mono ?_; rintro e w1 ⟨rfl, hb1⟩; obtain ⟨hc1, hf1⟩ := bcell hb1; have s1 := hb1.size; (try simp at s1); (try have z1 : w.heap.size < w1.heap.size := by omega)) | (go_at_call 48; refine (impl_Point_valid _ _ _).mono ?_; rintro e w2 ⟨rfl, hb2⟩; obtain ⟨hc2, hf2⟩ := bcell hb2; have s2 := hb2.size; try simp at s2))
      refine bodyPost_ret (v := .tuple #[.int .i64 (0), .int .i64 (0), .int .i64 (-1)]) (by simp [results, Try.results35, go_sem, *]) rfl ⟨rfl, ?_⟩
      (repeat (first | with_reducible exact Below.refl _ _ | with_reducible refine bl_alloc ?_ _ | with_reducible refine bl_drew ?_ | with_reducible refine bl_set ?_ (by first | (simp; done) | (simp; omega)) _ | with_reducible refine bl_call (by assumption) ?_))

    · have hnz : ¬ (n : Int) = 0 := by omega
      have hnb : ((n : Int) == 0) = false := by simp; omega
      have hv : diOk zs = true := by simp [diOk, h0, HZ.out]; omega
      have hA : DiA zs = ((diS zs n).1 : Nat) := by unfold DiA; rw [if_pos hv, HZ.out]
      have hB2 : DiB zs = ((diS zs n).2 : Nat) := by unfold DiB; rw [if_pos hv, HZ.out]
      have hC : DiC zs = farZ zs (diS zs n).1 (diS zs n).2 := by unfold DiC; rw [if_pos hv, HZ.out]
      rw [hA, hB2, hC]
      clear hA hB2 hC hv
      rcases bp_dia zs n (by omega) with ⟨e1, e2⟩ | ⟨e1, e2, e3, e4⟩
      · rw [e2]
        have hz0 : farZ zs ((0, 0) : Nat × Nat).1 ((0, 0) : Nat × Nat).2 = 0 := farZ_self zs 0
        rw [hz0]
        dsimp only
        clear e2 hz0 h0
        generalize bpS diaB zs n = S at HE e1
        obtain ⟨aa, bb, v⟩ := S
        dsimp only at HE e1
        go_enter Try.func35, Try.ntmps35
        go_wp2_with (first | (go_at_call 47; refine (HV.out _ (by (repeat (first | with_reducible exact Below.refl _ _ | with_reducible refine bl_alloc ?_ _ | with_reducible refine bl_drew ?_ | with_reducible refine bl_set ?_ (by first | (simp; done) | (simp; omega)) _ | with_reducible refine bl_call (by assumption) ?_)))).mono ?_; rintro e w1 ⟨rfl, hb1⟩; obtain ⟨hc1, hf1⟩ := bcell hb1; have s1 := hb1.size; (try simp at s1); (try have z1 : w.heap.size < w1.heap.size := by omega)) | (go_at_call 48; refine (impl_Point_valid _ _ _).mono ?_; rintro e w2 ⟨rfl, hb2⟩; obtain ⟨hc2, hf2⟩ := bcell hb2; have s2 := hb2.size; try simp at s2) | (go_at_call 66; refine (HE.out _ (by (repeat (first | with_reducible exact Below.refl _ _ | with_reducible refine bl_alloc ?_ _ | with_reducible refine bl_drew ?_ | with_reducible refine bl_set ?_ (by first | (simp; done) | (simp; omega)) _ | with_reducible refine bl_call (by assumption) ?_)))).mono ?_; rintro e w3 ⟨rfl, hb3⟩))
        refine bodyPost_ret (v := .tuple #[.int .i64 (0), .int .i64 (0), .int .i64 (0)]) (by simp [results, Try.results35, go_sem, *]) rfl ⟨rfl, ?_⟩
        (repeat (first | with_reducible exact Below.refl _ _ | with_reducible refine bl_alloc ?_ _ | with_reducible refine bl_drew ?_ | with_reducible refine bl_set ?_ (by first | (simp; done) | (simp; omega)) _ | with_reducible refine bl_call (by assumption) ?_))

      · rw [e2, e3, e4] at HE
        rw [e4] at e1
        clear e2 e3 e4 h0
        generalize farZ zs (diS zs n).1 (diS zs n).2 = r3 at HE e1 ⊢
        generalize diS zs n = S at HE ⊢
        obtain ⟨aa, bb⟩ := S
        dsimp only at HE ⊢
        have e5 : ¬ r3 ≤ 0 := by omega
        go_enter Try.func35, Try.ntmps35
        go_wp2_with (first | (go_at_call 47; refine (HV.out _ (by (repeat (first | with_reducible exact Below.refl _ _ | with_reducible refine bl_alloc ?_ _ | with_reducible refine bl_drew ?_ | with_reducible refine bl_set ?_ (by first | (simp; done) | (simp; omega)) _ | with_reducible refine bl_call (by assumption) ?_)))).mono ?_; rintro e w1 ⟨rfl, hb1⟩; obtain ⟨hc1, hf1⟩ := bcell hb1; have s1 := hb1.size; (try simp at s1); (try have z1 : w.heap.size < w1.heap.size := by omega)) | (go_at_call 48; refine (impl_Point_valid _ _ _).mono ?_; rintro e w2 ⟨rfl, hb2⟩; obtain ⟨hc2, hf2⟩ := bcell hb2; have s2 := hb2.size; try simp at s2) | (go_at_call 66; refine (HE.out _ (by (repeat (first | with_reducible exact Below.refl _ _ | with_reducible refine bl_alloc ?_ _ | with_reducible refine bl_drew ?_ | with_reducible refine bl_set ?_ (by first | (simp; done) | (simp; omega)) _ | with_reducible refine bl_call (by assumption) ?_)))).mono ?_; rintro e w3 ⟨rfl, hb3⟩))
        refine bodyPost_ret (v := .tuple #[.int .i64 ((aa : Int)), .int .i64 ((bb : Int)), .int .i64 (r3)]) (by simp [results, Try.results35, go_sem, *]) rfl ⟨rfl, ?_⟩
        (repeat (first | with_reducible exact Below.refl _ _ | with_reducible refine bl_alloc ?_ _ | with_reducible refine bl_drew ?_ | with_reducible refine bl_set ?_ (by first | (simp; done) | (simp; omega)) _ | with_reducible refine bl_call (by assumption) ?_))

end Go.Proofs.Ytgnjmcfkehgdfaa
