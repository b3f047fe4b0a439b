/- Instructions without what does not count; which have lines. No statement of the seat stands here. -/
import Derived.Test.YthhcbgdngmajlaaDoorAsm3b
set_option linter.unusedSimpArgs false
set_option linter.unusedSectionVars false
set_option maxRecDepth 100000
namespace Go.Proofs.YthhcbgdngmajlaaDoor
open Go Go.AM

theorem eq32 (a b c d a' b' c' d' : Int) : aeqF TT 20 32 [.val (.int .u16 a), .val (.int .u8 b), .val (.int .u8 c), .val (.int .u32 d)] [.val (.int .u16 a'), .val (.int .u8 b'), .val (.int .u8 c'), .val (.int .u32 d')] = some (decide ((⟨a, b, c, d⟩ : In) = ⟨a', b', c', d'⟩)) := by
  have e : decide ((⟨a, b, c, d⟩ : In) = ⟨a', b', c', d'⟩) = (decide (a = a') && (decide (b = b') && (decide (c = c') && (decide (d = d') && true)))) := by
    simp [Bool.decide_and]
  rw [e]
  rfl
variable [Env]
def pl17 : List (Nat × Bool × Plan) := [(1, true, .take 0 (.take 1 (.alt 2 (.take 3 (.take 4 (.take 5 (.take 7 (.alt 6 (.take 8 (.take 9 (.take 10 (.done)))) (.fin)))))) (.fin))))]
set_option maxHeartbeats 4000000 in
theorem pc17 (x : In) (h0 : 0 ≤ x.code) : PC Tryd.prog 17 [] [.dagg x.row] (fun r h => h = [] ∧ r = vb (decide (0 ≤ form x.code) && decide (bare x = x))) := by
  refine PC.pure ?_
  refine PC.go 300 pl17 TTok rfl Tryd.func17 (by kernel_rfl) rfl Tryd.ntmps17 (rs := [.tmp 2]) rfl rfl rfl (by kernel_rfl) ?_
  intro Q hQ
  simp (maxSteps := 9000000) only [go_sem, scrubT, scrubH, Nat.reducePow, Nat.reduceLT, Int.reduceToNat, Int.reduceLE, Int.reduceLT, Int.reduceEq, Int.reduceAdd, Int.reduceSub, Int.reduceMul, Nat.reduceAdd, Nat.reduceMul, Nat.reduceSub, Nat.reduceLeDiff, Nat.reduceEqDiff, Int.reduceNe, ↓reduceIte, ↓way_true, ↓way_false, ↓way_not, ↓way_dec, pl17, lk5, ti5, lk29, ti29, lk30, ti30, lk32, ti32, In.row]
  refine leafOp.call1 300 pl17 TTok rfl (pc35 x.code h0) rfl rfl rfl rfl rfl rfl rfl rfl (by kernel_rfl) ?_
  rintro r h' ⟨rfl, rfl⟩
  refine ⟨rfl, ?_⟩
  simp (maxSteps := 9000000) only [go_sem, scrubT, scrubH, Nat.reducePow, Nat.reduceLT, Int.reduceToNat, Int.reduceLE, Int.reduceLT, Int.reduceEq, Int.reduceAdd, Int.reduceSub, Int.reduceMul, Nat.reduceAdd, Nat.reduceMul, Nat.reduceSub, Nat.reduceLeDiff, Nat.reduceEqDiff, Int.reduceNe, ↓reduceIte, ↓way_true, ↓way_false, ↓way_not, ↓way_dec, pl17, lk5, ti5, lk29, ti29, lk30, ti30, lk32, ti32]
  refine ⟨fun h => ?_, fun h => ?_⟩
  · simp only [h, decide_true]
    refine leafOp.call1 300 pl17 TTok rfl (pc44 x h0) rfl rfl rfl rfl rfl rfl rfl rfl (by kernel_rfl) ?_
    rintro r h' ⟨rfl, rfl⟩
    refine ⟨rfl, ?_⟩
    simp (maxSteps := 9000000) only [go_sem, scrubT, scrubH, Nat.reducePow, Nat.reduceLT, Int.reduceToNat, Int.reduceLE, Int.reduceLT, Int.reduceEq, Int.reduceAdd, Int.reduceSub, Int.reduceMul, Nat.reduceAdd, Nat.reduceMul, Nat.reduceSub, Nat.reduceLeDiff, Nat.reduceEqDiff, Int.reduceNe, ↓reduceIte, ↓way_true, ↓way_false, ↓way_not, ↓way_dec, pl17, lk5, ti5, lk29, ti29, lk30, ti30, lk32, ti32, In.row, eq32]
    subst hQ
    simp only [retQ, ares, aress, ares1, lkp, Option.getD_some, Nat.reduceEqDiff, ↓reduceIte, true_and, lk5, ti5, lk29, ti29, lk30, ti30, lk32, ti32]
    simp [h, V.norm, V.refs]
    generalize bare x = y
    cases x; cases y; simp
  · simp (maxSteps := 9000000) only [decide_eq_false h, go_sem, scrubT, scrubH, Nat.reducePow, Nat.reduceLT, Int.reduceToNat, Int.reduceLE, Int.reduceLT, Int.reduceEq, Int.reduceAdd, Int.reduceSub, Int.reduceMul, Nat.reduceAdd, Nat.reduceMul, Nat.reduceSub, Nat.reduceLeDiff, Nat.reduceEqDiff, Int.reduceNe, ↓reduceIte, ↓way_true, ↓way_false, ↓way_not, ↓way_dec, pl17, lk5, ti5, lk29, ti29, lk30, ti30, lk32, ti32]
    subst hQ
    simp only [retQ, ares, aress, ares1, lkp, Option.getD_some, Nat.reduceEqDiff, ↓reduceIte, true_and, lk5, ti5, lk29, ti29, lk30, ti30, lk32, ti32]
    simp [h, V.norm, V.refs]

set_option maxHeartbeats 4000000 in
theorem pc30 (f : Int) : PC Tryd.prog 30 [] [vi f] (fun r h => h = [] ∧ r = .tup [vb (decide (f ≠ 0 ∧ f ≠ 6)), vb (decide (f = 5 ∨ f = 6))]) := by
  refine PC.go 300 [] TTok rfl Tryd.func30 (by kernel_rfl) rfl Tryd.ntmps30 (rs := [.tmp 2, .tmp 3]) rfl rfl rfl (by kernel_rfl) ?_
  intro Q hQ
  simp (maxSteps := 9000000) only [go_sem, scrubT, scrubH, Nat.reducePow, Nat.reduceLT, Int.reduceToNat, Int.reduceLE, Int.reduceLT, Int.reduceEq, Int.reduceAdd, Int.reduceSub, Int.reduceMul, Nat.reduceAdd, Nat.reduceMul, Nat.reduceSub, Nat.reduceLeDiff, Nat.reduceEqDiff, Int.reduceNe, ↓reduceIte, ↓way_true, ↓way_false, ↓way_not, ↓way_dec, lk3, ti3, lk5, ti5, lk29, ti29, lk30, ti30, lk32, ti32]
  subst hQ
  simp only [retQ, ares, aress, ares1, lkp, Option.getD_some, Nat.reduceEqDiff, ↓reduceIte, true_and, lk3, ti3, lk5, ti5, lk29, ti29, lk30, ti30, lk32, ti32]
  simp [Bool.decide_and, Bool.decide_or]
end Go.Proofs.YthhcbgdngmajlaaDoor
