/- The law of lines, walked. No statement of the seat stands here. -/
import Derived.Test.YthhcbgdngmajlaaDoorAsm14
set_option linter.unusedSimpArgs false
set_option linter.unusedSectionVars false
set_option maxRecDepth 100000
namespace Go.Proofs.YthhcbgdngmajlaaDoor
open Go Go.AM

theorem wake1 : badAt 0 0 (linesOf (B [108, 100, 46, 105, 109, 109, 32, 49, 10, 114, 101, 116, 46, 97, 10])) = none := by decide +kernel
theorem wake2 : badAt 0 0 (linesOf (B [114, 101, 116, 46, 97, 10, 114, 101, 116, 46, 107, 10])) = some 6 := by decide +kernel
theorem wake3 : (linesOf (B [108, 100, 46, 105, 109, 109, 32, 49, 10, 114, 101, 116, 46, 97, 10])).length = 2 := by decide +kernel
theorem wake4 : lineOf ⟨21, 1, 0, 7⟩ = B [106, 101, 113, 46, 107, 32, 55, 32, 49, 32, 48] := by decide +kernel
theorem wake5 : right ⟨21, 1, 0, 7⟩ = true := by decide +kernel
theorem parse1 : ∃ rows, parseV (B [108, 100, 46, 105, 109, 109, 32, 49, 10, 114, 101, 116, 46, 97, 10]) = .tup [.d (.sl 4 rows), vi 0, vi 0] ∧ rows.length = 2 := by
  unfold parseV
  rw [if_neg (by decide), wake1]
  have h := wake3
  revert h
  cases linesOf (B [108, 100, 46, 105, 109, 109, 32, 49, 10, 114, 101, 116, 46, 97, 10]) with
  | nil => intro h; cases h
  | cons a r => intro h; exact ⟨_, rfl, by rw [List.length_map, List.length_map]; exact h⟩
theorem parse2 : parseV (B [114, 101, 116, 46, 97, 10, 114, 101, 116, 46, 107, 10]) = .tup [nilV, vi 6, vi 180] := by
  unfold parseV
  rw [if_neg (by decide), wake2]; rfl
variable [SE]

set_option maxHeartbeats 4000000 in
theorem pc7 : PC Tryd.prog 7 [] [] (fun r h => h = [] ∧ r = vb true) := by
  obtain ⟨rows, hp1, hr⟩ := parse1
  refine PC.go 300 [] TTok rfl Tryd.func7 (by kernel_rfl) rfl Tryd.ntmps7 (rs := [.tmp 0]) rfl rfl rfl (by kernel_rfl) ?_
  intro Q hQ
  simp (maxSteps := 9000000) only [go_sem, scrubT, scrubH, Nat.reducePow, Nat.reduceLT, Int.reduceToNat, Int.reduceLE, Int.reduceLT, Int.reduceEq, Int.reduceAdd, Int.reduceSub, Int.reduceMul, Nat.reduceAdd, Nat.reduceMul, Nat.reduceSub, Nat.reduceLeDiff, Nat.reduceEqDiff, Int.reduceNe, ↓reduceIte, ↓way_true, ↓way_false, ↓way_not, ↓way_dec, lk3, ti3, lk5, ti5, lk9, ti9, lk24, ti24, lk25, ti25, lk29, ti29, lk30, ti30, lk32, ti32]
  refine leaf.call1 300 [] TTok rfl (pc16 ⟨21, 1, 0, 7⟩ ⟨by decide, by decide, by decide, by decide, by decide, by decide, by decide, by decide⟩) rfl rfl rfl rfl rfl rfl rfl (by kernel_rfl) ?_
  rintro r h' ⟨rfl, rfl⟩
  refine ⟨rfl, ?_⟩
  simp (maxSteps := 9000000) only [wake5, wake4, ↓reduceIte, go_sem, scrubT, scrubH, Nat.reducePow, Nat.reduceLT, Int.reduceToNat, Int.reduceLE, Int.reduceLT, Int.reduceEq, Int.reduceAdd, Int.reduceSub, Int.reduceMul, Nat.reduceAdd, Nat.reduceMul, Nat.reduceSub, Nat.reduceLeDiff, Nat.reduceEqDiff, Int.reduceNe, ↓reduceIte, ↓way_true, ↓way_false, ↓way_not, ↓way_dec, lk3, ti3, lk5, ti5, lk9, ti9, lk24, ti24, lk25, ti25, lk29, ti29, lk30, ti30, lk32, ti32]
  refine leaf.call1 300 [] TTok rfl (pc8 (B [108, 100, 46, 105, 109, 109, 32, 49, 10, 114, 101, 116, 46, 97, 10]) (by decide)) rfl rfl rfl rfl rfl rfl rfl (by kernel_rfl) ?_
  rintro r h' ⟨rfl, rfl⟩
  refine ⟨rfl, ?_⟩
  simp (maxSteps := 9000000) only [hp1, go_sem, scrubT, scrubH, Nat.reducePow, Nat.reduceLT, Int.reduceToNat, Int.reduceLE, Int.reduceLT, Int.reduceEq, Int.reduceAdd, Int.reduceSub, Int.reduceMul, Nat.reduceAdd, Nat.reduceMul, Nat.reduceSub, Nat.reduceLeDiff, Nat.reduceEqDiff, Int.reduceNe, ↓reduceIte, ↓way_true, ↓way_false, ↓way_not, ↓way_dec, lk3, ti3, lk5, ti5, lk9, ti9, lk24, ti24, lk25, ti25, lk29, ti29, lk30, ti30, lk32, ti32]
  refine leaf.call1 300 [] TTok rfl (pc8 (B [114, 101, 116, 46, 97, 10, 114, 101, 116, 46, 107, 10]) (by decide)) rfl rfl rfl rfl rfl rfl rfl (by kernel_rfl) ?_
  rintro r h' ⟨rfl, rfl⟩
  refine ⟨rfl, ?_⟩
  simp (maxSteps := 9000000) only [parse2, nilV, hr, go_sem, scrubT, scrubH, Nat.reducePow, Nat.reduceLT, Int.reduceToNat, Int.reduceLE, Int.reduceLT, Int.reduceEq, Int.reduceAdd, Int.reduceSub, Int.reduceMul, Nat.reduceAdd, Nat.reduceMul, Nat.reduceSub, Nat.reduceLeDiff, Nat.reduceEqDiff, Int.reduceNe, ↓reduceIte, ↓way_true, ↓way_false, ↓way_not, ↓way_dec, lk3, ti3, lk5, ti5, lk9, ti9, lk24, ti24, lk25, ti25, lk29, ti29, lk30, ti30, lk32, ti32]
  subst hQ
  simp only [retQ, ares, aress, ares1, lkp, Option.getD_some, Nat.reduceEqDiff, ↓reduceIte, true_and, lk3, ti3, lk5, ti5, lk9, ti9, lk24, ti24, lk25, ti25, lk29, ti29, lk30, ti30, lk32, ti32]

end Go.Proofs.YthhcbgdngmajlaaDoor
