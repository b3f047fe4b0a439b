/- Instructions without what does not count; which have lines. No statement of the seat stands here. -/
import Derived.Test.YthhcbgdngmajlaaDoorAsm3
set_option linter.unusedSimpArgs false
set_option linter.unusedSectionVars false
set_option maxRecDepth 100000
namespace Go.Proofs.YthhcbgdngmajlaaDoor
open Go Go.AM

variable [Env]
set_option maxHeartbeats 4000000 in
theorem pc44 (x : In) (h0 : 0 ≤ x.code) : PC Tryd.prog 44 [] [.dagg x.row] (fun r h => h = [] ∧ r = .dagg (bare x).row) := by
  refine PC.pure ?_
  refine PC.go 300 [] TTok rfl Tryd.func44 (by kernel_rfl) rfl Tryd.ntmps44 (rs := [.cell 2 32]) rfl rfl rfl (by kernel_rfl) ?_
  intro Q hQ
  simp (maxSteps := 9000000) only [go_sem, scrubT, scrubH, Nat.reducePow, Nat.reduceLT, Int.reduceToNat, Int.reduceLE, Int.reduceLT, Int.reduceEq, Int.reduceAdd, Int.reduceSub, Int.reduceMul, Nat.reduceAdd, Nat.reduceMul, Nat.reduceSub, Nat.reduceLeDiff, Nat.reduceEqDiff, Int.reduceNe, ↓reduceIte, ↓way_true, ↓way_false, ↓way_not, ↓way_dec, lk3, ti3, lk5, ti5, lk29, ti29, lk30, ti30, lk32, ti32, In.row]
  refine leaf.call1 300 [] TTok rfl (pc35 x.code h0) rfl rfl rfl rfl rfl rfl rfl (by kernel_rfl) ?_
  rintro r h' ⟨rfl, rfl⟩
  refine ⟨rfl, ?_⟩
  simp (maxSteps := 9000000) only [go_sem, scrubT, scrubH, Nat.reducePow, Nat.reduceLT, Int.reduceToNat, Int.reduceLE, Int.reduceLT, Int.reduceEq, Int.reduceAdd, Int.reduceSub, Int.reduceMul, Nat.reduceAdd, Nat.reduceMul, Nat.reduceSub, Nat.reduceLeDiff, Nat.reduceEqDiff, Int.reduceNe, ↓reduceIte, ↓way_true, ↓way_false, ↓way_not, ↓way_dec, lk3, ti3, lk5, ti5, lk29, ti29, lk30, ti30, lk32, ti32]
  have hr := form_range h0
  have fin : ∀ (a b c d : Int) (t : List (Nat × V)) (h : List (Nat × Ob)), lkp 2 t = some (.ptr 2 0) → lkp 2 h = some (.cells [.d (.val (.int .u16 a)), .d (.val (.int .u8 b)), .d (.val (.int .u8 c)), .d (.val (.int .u32 d))]) → ⟨a, b, c, d⟩ = bare x → Q .ret { n := 31, t := t, h := h } := by
    intro a b c d t h e1 e2 e3
    subst hQ
    simp only [retQ, ares, aress, ares1, lkp, Option.getD_some, Nat.reduceEqDiff, ↓reduceIte, true_and, lk3, ti3, lk5, ti5, lk29, ti29, lk30, ti30, lk32, ti32, e1, e2, aload, TypeDesc.isRow]
    rw [← e3]
    exact ⟨rfl, rfl⟩
  repeat' first
    | refine fin _ _ _ _ _ _ rfl rfl ?_
    | refine And.intro ?_ ?_
    | intro _
  all_goals
    clear fin
    unfold bare
    simp only
    split <;> split <;> first | rfl | (exfalso; omega)
end Go.Proofs.YthhcbgdngmajlaaDoor
