/- Programs and texts lead back to one another: the law, walked. No statement of the seat stands here. -/
import Derived.Test.YthhcbgdngmajlaaDoorAsm17
import Derived.Test.YthhcbgdngmajlaaDoorAsm26
import Derived.Test.YthhcbgdngmajlaaDoorAsm4
set_option linter.unusedSimpArgs false
set_option linter.unusedSectionVars false
set_option maxRecDepth 100000
namespace Go.Proofs.YthhcbgdngmajlaaDoor
open Go Go.AM

theorem eq32s (a b c d a' b' c' d' : Int) : aeqS TT 32 (.dagg [.val (.int .u16 a), .val (.int .u8 b), .val (.int .u8 c), .val (.int .u32 d)]) (.dagg [.val (.int .u16 a'), .val (.int .u8 b'), .val (.int .u8 c'), .val (.int .u32 d')]) = some (decide ((⟨a, b, c, d⟩ : In) = ⟨a', b', c', d'⟩)) := eq32 a b c d a' b' c' d'
variable [SE]

def pl21 : List (Nat × Bool × Plan) := [(6, true, .take 0 (.take 1 (.take 2 (.take 3 (.take 4 (.take 5 (.take 6 (.take 7 (.take 8 (.done))))))))))]
set_option maxHeartbeats 8000000 in
theorem pc21 (a : List In) (hbig : a.length ≤ 140737488355328) : PC Tryd.prog 21 [] [rowsOf a, rowsOf a] (fun r h => h = [] ∧ r = vb true) := by
  refine PC.pure ?_
  refine PC.go 300 pl21 TTok rfl Tryd.func21 (by kernel_rfl) rfl Tryd.ntmps21 (rs := [.tmp 4]) rfl rfl rfl (by kernel_rfl) ?_
  intro Q hQ
  simp (maxSteps := 9000000) only [go_sem, scrubT, scrubH, Nat.reducePow, Nat.reduceLT, Int.reduceToNat, Int.reduceLE, Int.reduceLT, Int.reduceEq, Int.reduceAdd, Int.reduceSub, Int.reduceMul, Nat.reduceAdd, Nat.reduceMul, Nat.reduceSub, Nat.reduceLeDiff, Nat.reduceEqDiff, Int.reduceNe, ↓reduceIte, ↓way_true, ↓way_false, ↓way_not, ↓way_dec, pl21, lk3, ti3, lk5, ti5, lk24, ti24, lk29, ti29, lk30, ti30, lk32, ti32, rowsOf, List.length_map, eq_self]
  refine leaf.loop 300 pl21 TTok rfl (α := Nat) [0, 1, 12, 13] [] (fun n => { n := 26, t := [(0, rowsOf a), (1, rowsOf a), (12, vi a.length), (13, vi n)], h := [] }) (fun n => n ≤ a.length) (fun n => a.length - n) 0 rfl rfl (Nat.zero_le _) (by kernel_rfl) (by kernel_rfl) ?_
  rintro n h1 J hJ
  by_cases hlt : n < a.length
  · have hlt' : ((n : Int) < (a.length : Int)) = True := eq_true (by omega)
    have ra := row_at hlt
    simp (maxSteps := 9000000) only [go_sem, scrubT, scrubH, Nat.reducePow, Nat.reduceLT, Int.reduceToNat, Int.reduceLE, Int.reduceLT, Int.reduceEq, Int.reduceAdd, Int.reduceSub, Int.reduceMul, Nat.reduceAdd, Nat.reduceMul, Nat.reduceSub, Nat.reduceLeDiff, Nat.reduceEqDiff, Int.reduceNe, ↓reduceIte, ↓way_true, ↓way_false, ↓way_not, ↓way_dec, pl21, lk3, ti3, lk5, ti5, lk24, ti24, lk29, ti29, lk30, ti30, lk32, ti32, rowsOf, List.length_map, hlt', ra, Int.toNat_natCast, eq32, eq_self]
    repeat (first | refine ⟨by omega, fun _ => ?_⟩ | refine ⟨in_i64 (by omega) (by omega), fun _ => ?_⟩ | refine ⟨by unfold LMAX; omega, fun _ => ?_⟩)
    subst hJ
    exact ⟨rfl, n + 1, rfl, hlt, by omega⟩
  · have hlt' : ((n : Int) < (a.length : Int)) = False := eq_false (by omega)
    simp (maxSteps := 9000000) only [go_sem, scrubT, scrubH, Nat.reducePow, Nat.reduceLT, Int.reduceToNat, Int.reduceLE, Int.reduceLT, Int.reduceEq, Int.reduceAdd, Int.reduceSub, Int.reduceMul, Nat.reduceAdd, Nat.reduceMul, Nat.reduceSub, Nat.reduceLeDiff, Nat.reduceEqDiff, Int.reduceNe, ↓reduceIte, ↓way_true, ↓way_false, ↓way_not, ↓way_dec, pl21, lk3, ti3, lk5, ti5, lk24, ti24, lk29, ti29, lk30, ti30, lk32, ti32, rowsOf, List.length_map, hlt']
    subst hQ
    simp only [retQ, ares, aress, ares1, lkp, Option.getD_some, Nat.reduceEqDiff, ↓reduceIte, true_and, lk3, ti3, lk5, ti5, lk24, ti24, lk29, ti29, lk30, ti30, lk32, ti32]
    exact ⟨rfl, rfl⟩

set_option maxHeartbeats 8000000 in
theorem pc24 (x : In) (h0 : 0 ≤ x.code) : PC Tryd.prog 24 [] [.dagg x.row] (fun r h => h = [] ∧ r = vb (decide (form x.code < 0))) := by
  refine PC.pure ?_
  refine PC.go 300 [] TTok rfl Tryd.func24 (by kernel_rfl) rfl Tryd.ntmps24 (rs := [.tmp 2]) rfl rfl rfl (by kernel_rfl) ?_
  intro Q hQ
  simp (maxSteps := 9000000) only [go_sem, scrubT, scrubH, Nat.reducePow, Nat.reduceLT, Int.reduceToNat, Int.reduceLE, Int.reduceLT, Int.reduceEq, Int.reduceAdd, Int.reduceSub, Int.reduceMul, Nat.reduceAdd, Nat.reduceMul, Nat.reduceSub, Nat.reduceLeDiff, Nat.reduceEqDiff, Int.reduceNe, ↓reduceIte, ↓way_true, ↓way_false, ↓way_not, ↓way_dec, lk3, ti3, lk5, ti5, lk24, ti24, lk29, ti29, lk30, ti30, lk32, ti32, In.row]
  refine leaf.call1 300 [] TTok rfl (pc25 x.code h0) rfl rfl rfl rfl rfl rfl rfl (by kernel_rfl) ?_
  rintro r h' ⟨rfl, rfl⟩
  refine ⟨rfl, ?_⟩
  simp (maxSteps := 9000000) only [go_sem, scrubT, scrubH, Nat.reducePow, Nat.reduceLT, Int.reduceToNat, Int.reduceLE, Int.reduceLT, Int.reduceEq, Int.reduceAdd, Int.reduceSub, Int.reduceMul, Nat.reduceAdd, Nat.reduceMul, Nat.reduceSub, Nat.reduceLeDiff, Nat.reduceEqDiff, Int.reduceNe, ↓reduceIte, ↓way_true, ↓way_false, ↓way_not, ↓way_dec, lk3, ti3, lk5, ti5, lk24, ti24, lk29, ti29, lk30, ti30, lk32, ti32]
  subst hQ
  simp only [retQ, ares, aress, ares1, lkp, Option.getD_some, Nat.reduceEqDiff, ↓reduceIte, true_and, lk3, ti3, lk5, ti5, lk24, ti24, lk29, ti29, lk30, ti30, lk32, ti32]
  exact ⟨rfl, rfl⟩

def anyBad (l : List In) : Bool := l.any fun x => decide (form x.code < 0)
set_option maxHeartbeats 8000000 in
theorem pc50 (l : List In) (hl : ∀ x ∈ l, x.ok) (hb : l.length ≤ 140737488355328) : PC Tryd.prog 50 [] [rowsOf l, .fn 24 [] []] (fun r h => h = [] ∧ ∃ n : Int, r = vi n ∧ (0 ≤ n ↔ anyBad l = true)) := by
  refine PC.pure ?_
  refine PC.go 300 [] TTok rfl Tryd.func50 (by kernel_rfl) rfl Tryd.ntmps50 (rs := [.tmp 4]) rfl rfl rfl (by kernel_rfl) ?_
  intro Q hQ
  simp (maxSteps := 9000000) only [go_sem, scrubT, scrubH, Nat.reducePow, Nat.reduceLT, Int.reduceToNat, Int.reduceLE, Int.reduceLT, Int.reduceEq, Int.reduceAdd, Int.reduceSub, Int.reduceMul, Nat.reduceAdd, Nat.reduceMul, Nat.reduceSub, Nat.reduceLeDiff, Nat.reduceEqDiff, Int.reduceNe, ↓reduceIte, ↓way_true, ↓way_false, ↓way_not, ↓way_dec, lk3, ti3, lk5, ti5, lk24, ti24, lk29, ti29, lk30, ti30, lk32, ti32, rowsOf, List.length_map]
  refine leaf.loop 300 [] TTok rfl (α := Nat) [0, 1, 7, 8] [] (fun n => { n := 19, t := [(0, rowsOf l), (1, .fn 24 [] []), (7, vi l.length), (8, vi n)], h := [] }) (fun n => n ≤ l.length ∧ anyBad (l.take n) = false) (fun n => l.length - n) 0 rfl rfl ⟨Nat.zero_le _, rfl⟩ (by kernel_rfl) (by kernel_rfl) ?_
  rintro n ⟨h1, h2⟩ J hJ
  by_cases hlt : n < l.length
  · have hlt' : ((n : Int) < (l.length : Int)) = True := eq_true (by omega)
    have ra := row_at hlt
    have hx := hl _ (List.getElem_mem hlt)
    have htk := List.take_succ_eq_append_getElem hlt
    simp (maxSteps := 9000000) only [go_sem, scrubT, scrubH, Nat.reducePow, Nat.reduceLT, Int.reduceToNat, Int.reduceLE, Int.reduceLT, Int.reduceEq, Int.reduceAdd, Int.reduceSub, Int.reduceMul, Nat.reduceAdd, Nat.reduceMul, Nat.reduceSub, Nat.reduceLeDiff, Nat.reduceEqDiff, Int.reduceNe, ↓reduceIte, ↓way_true, ↓way_false, ↓way_not, ↓way_dec, lk3, ti3, lk5, ti5, lk24, ti24, lk29, ti29, lk30, ti30, lk32, ti32, rowsOf, List.length_map, hlt', ra, Int.toNat_natCast]
    repeat (first | refine ⟨by omega, fun _ => ?_⟩ | refine ⟨in_i64 (by omega) (by omega), fun _ => ?_⟩ | refine ⟨by unfold LMAX; omega, fun _ => ?_⟩)
    refine leaf.call1 300 [] TTok rfl (pc24 l[n] hx.c0) rfl rfl rfl rfl rfl rfl rfl (by kernel_rfl) ?_
    rintro r h' ⟨rfl, rfl⟩
    refine ⟨rfl, ?_⟩
    by_cases hf : form l[n].code < 0
    · have hf' : (form l[n].code < 0) = True := eq_true hf
      simp (maxSteps := 9000000) only [go_sem, scrubT, scrubH, Nat.reducePow, Nat.reduceLT, Int.reduceToNat, Int.reduceLE, Int.reduceLT, Int.reduceEq, Int.reduceAdd, Int.reduceSub, Int.reduceMul, Nat.reduceAdd, Nat.reduceMul, Nat.reduceSub, Nat.reduceLeDiff, Nat.reduceEqDiff, Int.reduceNe, ↓reduceIte, ↓way_true, ↓way_false, ↓way_not, ↓way_dec, lk3, ti3, lk5, ti5, lk24, ti24, lk29, ti29, lk30, ti30, lk32, ti32, hf']
      subst hQ
      simp only [retQ, ares, aress, ares1, lkp, Option.getD_some, Nat.reduceEqDiff, ↓reduceIte, true_and, lk3, ti3, lk5, ti5, lk24, ti24, lk29, ti29, lk30, ti30, lk32, ti32]
      refine ⟨rfl, (n : Int), rfl, ⟨fun _ => ?_, fun _ => by omega⟩⟩
      unfold anyBad
      rw [List.any_eq_true]
      exact ⟨l[n], List.getElem_mem hlt, decide_eq_true hf⟩
    · have hf' : (form l[n].code < 0) = False := eq_false hf
      simp (maxSteps := 9000000) only [go_sem, scrubT, scrubH, Nat.reducePow, Nat.reduceLT, Int.reduceToNat, Int.reduceLE, Int.reduceLT, Int.reduceEq, Int.reduceAdd, Int.reduceSub, Int.reduceMul, Nat.reduceAdd, Nat.reduceMul, Nat.reduceSub, Nat.reduceLeDiff, Nat.reduceEqDiff, Int.reduceNe, ↓reduceIte, ↓way_true, ↓way_false, ↓way_not, ↓way_dec, lk3, ti3, lk5, ti5, lk24, ti24, lk29, ti29, lk30, ti30, lk32, ti32, hf']
      repeat (first | refine ⟨by omega, fun _ => ?_⟩ | refine ⟨in_i64 (by omega) (by omega), fun _ => ?_⟩ | refine ⟨by unfold LMAX; omega, fun _ => ?_⟩)
      subst hJ
      refine ⟨rfl, n + 1, rfl, ⟨hlt, ?_⟩, by omega⟩
      unfold anyBad at h2 ⊢
      rw [htk, List.any_append, h2]
      simp [hf]
  · have hlt' : ((n : Int) < (l.length : Int)) = False := eq_false (by omega)
    rw [List.take_of_length_le (by omega)] at h2
    simp (maxSteps := 9000000) only [go_sem, scrubT, scrubH, Nat.reducePow, Nat.reduceLT, Int.reduceToNat, Int.reduceLE, Int.reduceLT, Int.reduceEq, Int.reduceAdd, Int.reduceSub, Int.reduceMul, Nat.reduceAdd, Nat.reduceMul, Nat.reduceSub, Nat.reduceLeDiff, Nat.reduceEqDiff, Int.reduceNe, ↓reduceIte, ↓way_true, ↓way_false, ↓way_not, ↓way_dec, lk3, ti3, lk5, ti5, lk24, ti24, lk29, ti29, lk30, ti30, lk32, ti32, rowsOf, List.length_map, hlt']
    subst hQ
    simp only [retQ, ares, aress, ares1, lkp, Option.getD_some, Nat.reduceEqDiff, ↓reduceIte, true_and, lk3, ti3, lk5, ti5, lk24, ti24, lk29, ti29, lk30, ti30, lk32, ti32]
    exact ⟨rfl, -1, rfl, ⟨fun h => by omega, fun h => by rw [h2] at h; cases h⟩⟩

set_option maxHeartbeats 8000000 in
theorem pc23 (l : List In) (hl : ∀ x ∈ l, x.ok) (hb : l.length ≤ 140737488355328) : PC Tryd.prog 23 [] [rowsOf l, .fn 24 [] []] (fun r h => h = [] ∧ r = vb (anyBad l)) := by
  refine PC.pure ?_
  refine PC.go 300 [] TTok rfl Tryd.func23 (by kernel_rfl) rfl Tryd.ntmps23 (rs := [.tmp 4]) rfl rfl rfl (by kernel_rfl) ?_
  intro Q hQ
  simp (maxSteps := 9000000) only [go_sem, scrubT, scrubH, Nat.reducePow, Nat.reduceLT, Int.reduceToNat, Int.reduceLE, Int.reduceLT, Int.reduceEq, Int.reduceAdd, Int.reduceSub, Int.reduceMul, Nat.reduceAdd, Nat.reduceMul, Nat.reduceSub, Nat.reduceLeDiff, Nat.reduceEqDiff, Int.reduceNe, ↓reduceIte, ↓way_true, ↓way_false, ↓way_not, ↓way_dec, lk3, ti3, lk5, ti5, lk24, ti24, lk29, ti29, lk30, ti30, lk32, ti32, lk45, ti45]
  refine leaf.call1 300 [] TTok rfl (pc50 l hl hb) rfl rfl rfl rfl rfl rfl rfl (by kernel_rfl) ?_
  rintro r h' ⟨rfl, n, rfl, hn⟩
  refine ⟨rfl, ?_⟩
  simp (maxSteps := 9000000) only [go_sem, scrubT, scrubH, Nat.reducePow, Nat.reduceLT, Int.reduceToNat, Int.reduceLE, Int.reduceLT, Int.reduceEq, Int.reduceAdd, Int.reduceSub, Int.reduceMul, Nat.reduceAdd, Nat.reduceMul, Nat.reduceSub, Nat.reduceLeDiff, Nat.reduceEqDiff, Int.reduceNe, ↓reduceIte, ↓way_true, ↓way_false, ↓way_not, ↓way_dec, lk3, ti3, lk5, ti5, lk24, ti24, lk29, ti29, lk30, ti30, lk32, ti32, lk45, ti45]
  subst hQ
  simp only [retQ, ares, aress, ares1, lkp, Option.getD_some, Nat.reduceEqDiff, ↓reduceIte, true_and, lk3, ti3, lk5, ti5, lk24, ti24, lk29, ti29, lk30, ti30, lk32, ti32, lk45, ti45]
  refine ⟨rfl, ?_⟩
  simp only [V.norm]
  congr 3
  cases ha : anyBad l
  · rw [ha] at hn; exact decide_eq_false (fun h => by have := hn.1 h; cases this)
  · exact decide_eq_true (hn.2 ha)
end Go.Proofs.YthhcbgdngmajlaaDoor
