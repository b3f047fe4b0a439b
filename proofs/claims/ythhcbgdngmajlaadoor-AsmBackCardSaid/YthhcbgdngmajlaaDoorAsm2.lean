/- The codes of instructions as the reference has them; and that both are one. No statement of the seat stands here. -/
import Derived.Test.YthhcbgdngmajlaaDoorAsm1
set_option linter.unusedSimpArgs false
set_option linter.unusedSectionVars false
set_option maxRecDepth 100000
namespace Go.Proofs.YthhcbgdngmajlaaDoor
open Go Go.AM
variable [Env]

theorem hi_16 {c : Int} (h0 : 0 ≤ c) (h1 : c < 256) : hi c = 0 ∨ hi c = 1 ∨ hi c = 2 ∨ hi c = 3 ∨ hi c = 4 ∨ hi c = 5 ∨ hi c = 6 ∨ hi c = 7 ∨ hi c = 8 ∨ hi c = 9 ∨ hi c = 10 ∨ hi c = 11 ∨ hi c = 12 ∨ hi c = 13 ∨ hi c = 14 ∨ hi c = 15 := by
  rw [hi_eq]; omega

def rsided (c : Int) : ByteArray := reck.getD (hi c).toNat (B [])

set_option maxHeartbeats 8000000 in
theorem pc74 (c : Int) (h0 : 0 ≤ c) (h1 : c < 256) : PC Tryd.prog 74 [] [vu16 c] (fun r h => h = [] ∧ r = vs (rsided c)) := by
  refine PC.go 300 [] TTok rfl Tryd.func74 (by kernel_rfl) rfl Tryd.ntmps74 (rs := [.tmp 2]) rfl rfl rfl (by kernel_rfl) ?_
  intro Q hQ
  have hh := hi_16 h0 h1
  rcases hh with e | e | e | e | e | e | e | e | e | e | e | e | e | e | e | e
  all_goals
    have e3 := e
    simp only [hi, IntKind.bits] at e
    simp (maxSteps := 9000000) only [go_sem, scrubT, scrubH, Nat.reducePow, Nat.reduceLT, Int.reduceToNat, Int.reduceLE, Int.reduceLT, Int.reduceEq, Int.reduceAdd, Int.reduceSub, Int.reduceMul, Nat.reduceAdd, Nat.reduceMul, Nat.reduceSub, Nat.reduceLeDiff, Nat.reduceEqDiff, Int.reduceNe, ↓reduceIte, ↓way_true, ↓way_false, ↓way_not, ↓way_dec, lk9, ti9, lk125, ti125, e]
    subst hQ
    simp only [retQ, ares, aress, ares1, lkp, Option.getD_some, Nat.reduceEqDiff, ↓reduceIte, true_and, lk9, ti9, lk125, ti125]
    rw [rsided, e3]; rfl

/-- The reference's names and forms. -/
def rnamed (c : Int) : ByteArray × Int :=
  if 0 ≤ (single c).2 then single c else
  if c % 16 = 4 ∧ rsided c ≠ B [] then (rsided c ++ B [46, 107], 1) else
  if c % 16 = 12 ∧ rsided c ≠ B [] then (rsided c ++ B [46, 120], 0) else
  if c % 16 = 5 ∧ 1 ≤ hi c ∧ hi c ≤ 4 then (tsts.getD (hi c).toNat (B []) ++ B [46, 107], 5) else
  if c % 16 = 13 ∧ 1 ≤ hi c ∧ hi c ≤ 4 then (tsts.getD (hi c).toNat (B []) ++ B [46, 120], 6) else (B [], -1)

end Go.Proofs.YthhcbgdngmajlaaDoor
