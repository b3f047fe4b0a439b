/- Both forms and both names of codes are one; instructions without what does not count. No statement of the seat stands here. -/
import Derived.Test.YthhcbgdngmajlaaDoorAsm2b
set_option linter.unusedSimpArgs false
set_option linter.unusedSectionVars false
set_option maxRecDepth 100000
namespace Go.Proofs.YthhcbgdngmajlaaDoor
open Go Go.AM

theorem codes_all : ∀ n : Fin 256, rnamed (n.1 : Int) = ((name (n.1 : Int)).1, form (n.1 : Int)) ∧ (name (n.1 : Int)).2 = decide (0 ≤ form (n.1 : Int)) ∧ (name (n.1 : Int)).2 = !decide ((name (n.1 : Int)).1 = B []) ∧ -1 ≤ form (n.1 : Int) ∧ form (n.1 : Int) ≤ 6 ∧
    ∀ x ∈ (name (n.1 : Int)).1.data.toList, x ≠ 32 ∧ x ≠ 10 := by decide +kernel
theorem form_above {c : Int} (h : 256 ≤ c) : form c = -1 := by
  have : single c = (B [], -1) := by
    unfold single
    repeat rw [if_neg (by omega)]
  unfold form; rw [this]; simp [h]
theorem name_above {c : Int} (h : 256 ≤ c) : name c = (B [], false) := by
  have : single c = (B [], -1) := by
    unfold single
    repeat rw [if_neg (by omega)]
  unfold name; rw [this]; simp [h]
theorem codes_at {c : Int} (h0 : 0 ≤ c) (h1 : c < 256) : rnamed c = ((name c).1, form c) ∧ (name c).2 = decide (0 ≤ form c) ∧ (name c).2 = !decide ((name c).1 = B []) ∧ -1 ≤ form c ∧ form c ≤ 6 ∧ ∀ x ∈ (name c).1.data.toList, x ≠ 32 ∧ x ≠ 10 := by
  have := codes_all ⟨c.toNat, by omega⟩
  simp only [Int.toNat_of_nonneg h0] at this
  exact this
theorem form_range {c : Int} (h0 : 0 ≤ c) : -1 ≤ form c ∧ form c ≤ 6 := by
  by_cases h : 256 ≤ c
  · rw [form_above h]; decide
  · have := codes_at h0 (by omega); exact ⟨this.2.2.2.1, this.2.2.2.2.1⟩
theorem name_ok {c : Int} (h0 : 0 ≤ c) : (name c).2 = decide (0 ≤ form c) := by
  by_cases h : 256 ≤ c
  · rw [form_above h, name_above h]; rfl
  · exact (codes_at h0 (by omega)).2.1
theorem name_ok2 {c : Int} (h0 : 0 ≤ c) : (name c).2 = !decide ((name c).1 = B []) := by
  by_cases h : 256 ≤ c
  · rw [name_above h]; rfl
  · exact (codes_at h0 (by omega)).2.2.1

variable [Env]
set_option maxHeartbeats 4000000 in
theorem pc35 (c : Int) (h0 : 0 ≤ c) : PC Tryd.prog 35 [] [vu16 c] (fun r h => h = [] ∧ r = vi (form c)) := by
  refine PC.go 300 [] TTok rfl Tryd.func35 (by kernel_rfl) rfl Tryd.ntmps35 (rs := [.tmp 2]) rfl rfl rfl (by kernel_rfl) ?_
  intro Q hQ
  simp (maxSteps := 9000000) only [go_sem, scrubT, scrubH, Nat.reducePow, Nat.reduceLT, Int.reduceToNat, Int.reduceLE, Int.reduceLT, Int.reduceEq, Int.reduceAdd, Int.reduceSub, Int.reduceMul, Nat.reduceAdd, Nat.reduceMul, Nat.reduceSub, Nat.reduceLeDiff, Nat.reduceEqDiff, Int.reduceNe, ↓reduceIte, ↓way_true, ↓way_false, ↓way_not, ↓way_dec, lk29, ti29]
  refine ⟨fun h => ?_, fun h => ?_⟩
  · subst hQ
    simp only [retQ, ares, aress, ares1, lkp, Option.getD_some, Nat.reduceEqDiff, ↓reduceIte, true_and, lk29, ti29]
    rw [form_above (by omega)]
  · refine leaf.call1 300 [] TTok rfl (pc60 c h0 (by omega)) rfl rfl rfl rfl rfl rfl rfl (by kernel_rfl) ?_
    rintro r h' ⟨rfl, rfl⟩
    refine ⟨rfl, ?_⟩
    simp (maxSteps := 9000000) only [go_sem, scrubT, scrubH, Nat.reducePow, Nat.reduceLT, Int.reduceToNat, Int.reduceLE, Int.reduceLT, Int.reduceEq, Int.reduceAdd, Int.reduceSub, Int.reduceMul, Nat.reduceAdd, Nat.reduceMul, Nat.reduceSub, Nat.reduceLeDiff, Nat.reduceEqDiff, Int.reduceNe, ↓reduceIte, ↓way_true, ↓way_false, ↓way_not, ↓way_dec, lk29, ti29]
    subst hQ
    simp only [retQ, ares, aress, ares1, lkp, Option.getD_some, Nat.reduceEqDiff, ↓reduceIte, true_and, lk29, ti29]
    rw [(codes_at h0 (by omega)).1]

set_option maxHeartbeats 4000000 in
theorem pc45 (c : Int) (h0 : 0 ≤ c) : PC Tryd.prog 45 [] [vu16 c] (fun r h => h = [] ∧ r = .tup [vs (name c).1, vb (name c).2]) := by
  refine PC.go 300 [] TTok rfl Tryd.func45 (by kernel_rfl) rfl Tryd.ntmps45 (rs := [.tmp 2, .tmp 3]) rfl rfl rfl (by kernel_rfl) ?_
  intro Q hQ
  simp (maxSteps := 9000000) only [go_sem, scrubT, scrubH, Nat.reducePow, Nat.reduceLT, Int.reduceToNat, Int.reduceLE, Int.reduceLT, Int.reduceEq, Int.reduceAdd, Int.reduceSub, Int.reduceMul, Nat.reduceAdd, Nat.reduceMul, Nat.reduceSub, Nat.reduceLeDiff, Nat.reduceEqDiff, Int.reduceNe, ↓reduceIte, ↓way_true, ↓way_false, ↓way_not, ↓way_dec, lk9, ti9, lk29, ti29]
  refine ⟨fun h => ?_, fun h => ?_⟩
  · subst hQ
    simp only [retQ, ares, aress, ares1, lkp, Option.getD_some, Nat.reduceEqDiff, ↓reduceIte, true_and, lk9, ti9, lk29, ti29]
    rw [name_above (by omega)]
  · refine leaf.call1 300 [] TTok rfl (pc60 c h0 (by omega)) rfl rfl rfl rfl rfl rfl rfl (by kernel_rfl) ?_
    rintro r h' ⟨rfl, rfl⟩
    refine ⟨rfl, ?_⟩
    simp (maxSteps := 9000000) only [go_sem, scrubT, scrubH, Nat.reducePow, Nat.reduceLT, Int.reduceToNat, Int.reduceLE, Int.reduceLT, Int.reduceEq, Int.reduceAdd, Int.reduceSub, Int.reduceMul, Nat.reduceAdd, Nat.reduceMul, Nat.reduceSub, Nat.reduceLeDiff, Nat.reduceEqDiff, Int.reduceNe, ↓reduceIte, ↓way_true, ↓way_false, ↓way_not, ↓way_dec, lk9, ti9, lk29, ti29]
    subst hQ
    simp only [retQ, ares, aress, ares1, lkp, Option.getD_some, Nat.reduceEqDiff, ↓reduceIte, true_and, lk9, ti9, lk29, ti29]
    rw [(codes_at h0 (by omega)).1, name_ok2 h0]

end Go.Proofs.YthhcbgdngmajlaaDoor
