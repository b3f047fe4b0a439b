/- Rows that are played in time, compared, and written down by the document. No statement of the seat stands here. -/
import Derived.Test.YthhcbgdngmajlaaDoorAsm7
set_option linter.unusedSimpArgs false
set_option linter.unusedSectionVars false
set_option maxRecDepth 100000
namespace Go.Proofs.YthhcbgdngmajlaaDoor
open Go Go.AM
variable [SE]

theorem rowsOf_len (l : List In) : (l.map In.row).length = l.length := List.length_map ..
theorem rows_take (l : List In) (n : Nat) : (l.map In.row).take n = (l.take n).map In.row := by rw [List.map_take]

theorem rows_few (l : List In) : (l.map In.row).take ((min (l.length : Int) 256).toNat - 0) = (l.take 256).map In.row := by
  rw [← List.map_take]
  congr 1
  by_cases h : l.length ≤ 256
  · rw [List.take_of_length_le h, List.take_of_length_le (by omega)]
  · congr 1; omega

set_option maxHeartbeats 8000000 in
theorem pc14o (l : List In) : PC Tryd.prog 14 [] [rowsOf l] (fun r h => r = .own 9 4 0 (l.take 256).length ∧ h = [(9, .arr 4 ((l.take 256).map In.row))]) := by
  refine PC.keepH [9] ?_
  refine PC.go 300 [] TTok rfl Tryd.func14 (by kernel_rfl) rfl Tryd.ntmps14 (rs := [.tmp 2]) rfl rfl rfl (by kernel_rfl) ?_
  intro Q hQ
  simp (maxSteps := 9000000) only [go_sem, scrubT, scrubH, Nat.reducePow, Nat.reduceLT, Int.reduceToNat, Int.reduceLE, Int.reduceLT, Int.reduceEq, Int.reduceAdd, Int.reduceSub, Int.reduceMul, Nat.reduceAdd, Nat.reduceMul, Nat.reduceSub, Nat.reduceLeDiff, Nat.reduceEqDiff, Int.reduceNe, ↓reduceIte, ↓way_true, ↓way_false, ↓way_not, ↓way_dec, lk3, ti3, lk5, ti5, lk24, ti24, lk29, ti29, lk30, ti30, lk32, ti32, rowsOf, List.length_map]
  rw [rows_few]
  have hlen : (l.take 256).length ≤ 256 := List.length_take_le _ _
  rw [List.length_map, Nat.zero_add]
  repeat (first | refine ⟨by omega, fun _ => ?_⟩ | refine ⟨in_i64 (by omega) (by omega), fun _ => ?_⟩ | refine ⟨by unfold LMAX; omega, fun _ => ?_⟩)
  subst hQ
  simp only [retQ, ares, aress, ares1, lkp, Option.getD_some, Nat.reduceEqDiff, ↓reduceIte, true_and, lk3, ti3, lk5, ti5, lk24, ti24, lk29, ti29, lk30, ti30, lk32, ti32]
  exact ⟨rfl, rfl⟩

theorem pc14 (l : List In) : PC Tryd.prog 14 [] [rowsOf l] (fun r h => h = [] ∧ r = rowsOf (l.take 256)) := by
  refine PC.pure ?_
  refine PC.frz (pc14o l) ?_
  rintro r h ⟨rfl, rfl⟩
  refine .inr ⟨9, _, _, rfl, rfl, fun _ => ⟨rfl, ?_⟩, ⟨.inl rfl, trivial⟩, ?_⟩
  · rw [List.length_map]; omega
  · have : (((l.take 256).map In.row).drop 0).take (l.take 256).length = (l.take 256).map In.row := by rw [List.drop_zero, List.take_of_length_le (by rw [List.length_map]; omega)]
    simp only [V.frz, Frz.arr, ↓reduceIte, this, V.norm, rowsOf]
    exact ⟨rfl, trivial⟩

def pl10 : List (Nat × Bool × Plan) := [(6, true, .take 0 (.take 1 (.take 2 (.take 3 (.take 4 (.take 5 (.take 6 (.take 7 (.take 8 (.done))))))))))]
set_option maxHeartbeats 8000000 in
theorem pc10 (a b : List In) (hbig : b.length ≤ 140737488355328) : PC Tryd.prog 10 [] [rowsOf a, rowsOf b] (fun r h => h = [] ∧ r = vb (decide (a = b))) := by
  refine PC.pure ?_
  refine PC.go 300 pl10 TTok rfl Tryd.func10 (by kernel_rfl) rfl Tryd.ntmps10 (rs := [.tmp 4]) rfl rfl rfl (by kernel_rfl) ?_
  intro Q hQ
  by_cases hl : a.length = b.length
  · have hl' : ((a.length : Int) = (b.length : Int)) = True := eq_true (by omega)
    simp (maxSteps := 9000000) only [go_sem, scrubT, scrubH, Nat.reducePow, Nat.reduceLT, Int.reduceToNat, Int.reduceLE, Int.reduceLT, Int.reduceEq, Int.reduceAdd, Int.reduceSub, Int.reduceMul, Nat.reduceAdd, Nat.reduceMul, Nat.reduceSub, Nat.reduceLeDiff, Nat.reduceEqDiff, Int.reduceNe, ↓reduceIte, ↓way_true, ↓way_false, ↓way_not, ↓way_dec, pl10, lk3, ti3, lk5, ti5, lk24, ti24, lk29, ti29, lk30, ti30, lk32, ti32, rowsOf, List.length_map, hl']
    refine leaf.loop 300 pl10 TTok rfl (α := Nat) [0, 1, 12, 13] [] (fun n => { n := 26, t := [(0, rowsOf a), (1, rowsOf b), (12, vi b.length), (13, vi n)], h := [] }) (fun n => n ≤ b.length ∧ a.take n = b.take n) (fun n => b.length - n) 0 ?_ ?_ ⟨Nat.zero_le _, rfl⟩ (by kernel_rfl) (by kernel_rfl) ?_
    · rfl
    · simp only [AS.keep, keepT, lkp, AM.keepH, Nat.reduceEqDiff, ↓reduceIte, hl]; rfl
    rintro n ⟨h1, h2⟩ J hJ
    by_cases hlt : n < b.length
    · have hlt' : ((n : Int) < (b.length : Int)) = True := eq_true (by omega)
      have hlt2 : ((n : Int) < (a.length : Int)) = True := eq_true (by omega)
      have hla : n < a.length := by omega
      have ra := row_at hla
      have rb := row_at hlt
      simp (maxSteps := 9000000) only [go_sem, scrubT, scrubH, Nat.reducePow, Nat.reduceLT, Int.reduceToNat, Int.reduceLE, Int.reduceLT, Int.reduceEq, Int.reduceAdd, Int.reduceSub, Int.reduceMul, Nat.reduceAdd, Nat.reduceMul, Nat.reduceSub, Nat.reduceLeDiff, Nat.reduceEqDiff, Int.reduceNe, ↓reduceIte, ↓way_true, ↓way_false, ↓way_not, ↓way_dec, pl10, lk3, ti3, lk5, ti5, lk24, ti24, lk29, ti29, lk30, ti30, lk32, ti32, rowsOf, List.length_map, hlt', hlt2, ra, rb, Int.toNat_natCast, eq32]
      refine ⟨by omega, fun _ => ?_⟩
      have ta := List.take_succ_eq_append_getElem hla
      have tb := List.take_succ_eq_append_getElem hlt
      by_cases he : a[n] = b[n]
      · have he' : ((⟨a[n].code, a[n].jt, a[n].jf, a[n].k⟩ : In) = ⟨b[n].code, b[n].jt, b[n].jf, b[n].k⟩) = True := eq_true he
        simp (maxSteps := 9000000) only [go_sem, scrubT, scrubH, Nat.reducePow, Nat.reduceLT, Int.reduceToNat, Int.reduceLE, Int.reduceLT, Int.reduceEq, Int.reduceAdd, Int.reduceSub, Int.reduceMul, Nat.reduceAdd, Nat.reduceMul, Nat.reduceSub, Nat.reduceLeDiff, Nat.reduceEqDiff, Int.reduceNe, ↓reduceIte, ↓way_true, ↓way_false, ↓way_not, ↓way_dec, pl10, lk3, ti3, lk5, ti5, lk24, ti24, lk29, ti29, lk30, ti30, lk32, ti32, he']
        refine ⟨by omega, fun _ => ⟨in_i64 (by have := hbig; omega) (by omega), fun _ => ?_⟩⟩
        subst hJ
        exact ⟨rfl, n + 1, rfl, ⟨hlt, by rw [ta, tb, h2, he]⟩, by omega⟩
      · have he' : ((⟨a[n].code, a[n].jt, a[n].jf, a[n].k⟩ : In) = ⟨b[n].code, b[n].jt, b[n].jf, b[n].k⟩) = False := eq_false he
        simp (maxSteps := 9000000) only [go_sem, scrubT, scrubH, Nat.reducePow, Nat.reduceLT, Int.reduceToNat, Int.reduceLE, Int.reduceLT, Int.reduceEq, Int.reduceAdd, Int.reduceSub, Int.reduceMul, Nat.reduceAdd, Nat.reduceMul, Nat.reduceSub, Nat.reduceLeDiff, Nat.reduceEqDiff, Int.reduceNe, ↓reduceIte, ↓way_true, ↓way_false, ↓way_not, ↓way_dec, pl10, lk3, ti3, lk5, ti5, lk24, ti24, lk29, ti29, lk30, ti30, lk32, ti32, he']
        refine ⟨by omega, fun _ => ?_⟩
        have hne : ¬ a = b := fun e => he (by subst e; rfl)
        subst hQ
        simp only [retQ, ares, aress, ares1, lkp, Option.getD_some, Nat.reduceEqDiff, ↓reduceIte, true_and, lk3, ti3, lk5, ti5, lk24, ti24, lk29, ti29, lk30, ti30, lk32, ti32]
        exact ⟨rfl, by simp [hne, V.norm]⟩
    · have hlt' : ((n : Int) < (b.length : Int)) = False := eq_false (by omega)
      obtain rfl : n = b.length := by omega
      rw [List.take_length, List.take_of_length_le (by omega)] at h2
      simp (maxSteps := 9000000) only [go_sem, scrubT, scrubH, Nat.reducePow, Nat.reduceLT, Int.reduceToNat, Int.reduceLE, Int.reduceLT, Int.reduceEq, Int.reduceAdd, Int.reduceSub, Int.reduceMul, Nat.reduceAdd, Nat.reduceMul, Nat.reduceSub, Nat.reduceLeDiff, Nat.reduceEqDiff, Int.reduceNe, ↓reduceIte, ↓way_true, ↓way_false, ↓way_not, ↓way_dec, pl10, lk3, ti3, lk5, ti5, lk24, ti24, lk29, ti29, lk30, ti30, lk32, ti32, hlt']
      subst hQ
      simp only [retQ, ares, aress, ares1, lkp, Option.getD_some, Nat.reduceEqDiff, ↓reduceIte, true_and, lk3, ti3, lk5, ti5, lk24, ti24, lk29, ti29, lk30, ti30, lk32, ti32]
      exact ⟨rfl, by simp [h2, V.norm]⟩
  · have hl' : ((a.length : Int) = (b.length : Int)) = False := eq_false (by omega)
    simp (maxSteps := 9000000) only [go_sem, scrubT, scrubH, Nat.reducePow, Nat.reduceLT, Int.reduceToNat, Int.reduceLE, Int.reduceLT, Int.reduceEq, Int.reduceAdd, Int.reduceSub, Int.reduceMul, Nat.reduceAdd, Nat.reduceMul, Nat.reduceSub, Nat.reduceLeDiff, Nat.reduceEqDiff, Int.reduceNe, ↓reduceIte, ↓way_true, ↓way_false, ↓way_not, ↓way_dec, pl10, lk3, ti3, lk5, ti5, lk24, ti24, lk29, ti29, lk30, ti30, lk32, ti32, rowsOf, List.length_map, hl']
    subst hQ
    simp only [retQ, ares, aress, ares1, lkp, Option.getD_some, Nat.reduceEqDiff, ↓reduceIte, true_and, lk3, ti3, lk5, ti5, lk24, ti24, lk29, ti29, lk30, ti30, lk32, ti32]
    have : ¬ a = b := fun e => hl (by rw [e])
    exact ⟨rfl, by simp [this, V.norm]⟩

set_option maxHeartbeats 8000000 in
theorem pc19 (l : List In) (hl : ∀ x ∈ l, x.ok) (hn : l.length ≤ 1000) : PC Tryd.prog 19 [] [rowsOf l] (fun r h => h = [] ∧ r = vs ⟨(textOf l).toArray⟩) := by
  refine PC.pure ?_
  refine PC.go 300 [] TTok rfl Tryd.func19 (by kernel_rfl) rfl Tryd.ntmps19 (rs := [.tmp 2]) rfl rfl rfl (by kernel_rfl) ?_
  intro Q hQ
  simp (maxSteps := 9000000) only [go_sem, scrubT, scrubH, Nat.reducePow, Nat.reduceLT, Int.reduceToNat, Int.reduceLE, Int.reduceLT, Int.reduceEq, Int.reduceAdd, Int.reduceSub, Int.reduceMul, Nat.reduceAdd, Nat.reduceMul, Nat.reduceSub, Nat.reduceLeDiff, Nat.reduceEqDiff, Int.reduceNe, ↓reduceIte, ↓way_true, ↓way_false, ↓way_not, ↓way_dec, lk3, ti3, lk5, ti5, lk24, ti24, lk29, ti29, lk30, ti30, lk32, ti32, rowsOf, List.length_map]
  refine leaf.loop 300 [] TTok rfl (α := Nat) [0, 3, 6, 7, 8] [] (fun n => { n := 19, t := [(0, rowsOf l), (3, vs ⟨(textOf (l.take n)).toArray⟩), (6, rowsOf l), (7, vi l.length), (8, vi n)], h := [] }) (fun n => n ≤ l.length) (fun n => l.length - n) 0 rfl rfl (Nat.zero_le _) rfl (by kernel_rfl) ?_
  intro n h1 J hJ
  by_cases hlt : n < l.length
  · have hlt' : ((n : Int) < (l.length : Int)) = True := eq_true (by omega)
    have hx0 := hl l[n] (List.getElem_mem hlt)
    have hrow := row_at hlt
    have hbig := textOf_small (l.take n) (fun x hx => hl x (List.mem_of_mem_take hx))
    have hlen : (l.take n).length = n := by rw [List.length_take]; omega
    have htk : textOf (l.take (n + 1)) = textOf (l.take n) ++ ((lineOf l[n]).data.toList ++ [10]) := by rw [List.take_succ_eq_append_getElem hlt, textOf_append]; simp [textOf]
    have hln := lineOf_small hx0
    simp (maxSteps := 9000000) only [go_sem, scrubT, scrubH, Nat.reducePow, Nat.reduceLT, Int.reduceToNat, Int.reduceLE, Int.reduceLT, Int.reduceEq, Int.reduceAdd, Int.reduceSub, Int.reduceMul, Nat.reduceAdd, Nat.reduceMul, Nat.reduceSub, Nat.reduceLeDiff, Nat.reduceEqDiff, Int.reduceNe, ↓reduceIte, ↓way_true, ↓way_false, ↓way_not, ↓way_dec, lk3, ti3, lk5, ti5, lk24, ti24, lk29, ti29, lk30, ti30, lk32, ti32, rowsOf, List.length_map, hlt', hrow, Int.toNat_natCast]
    repeat (first | refine ⟨by omega, fun _ => ?_⟩ | refine ⟨in_i64 (by omega) (by omega), fun _ => ?_⟩ | refine ⟨by unfold LMAX; omega, fun _ => ?_⟩)
    refine leaf.call1 300 [] TTok rfl (pc18 l[n] hx0) rfl rfl rfl rfl rfl rfl rfl (by kernel_rfl) ?_
    rintro r h' ⟨rfl, rfl⟩
    refine ⟨rfl, ?_⟩
    simp (maxSteps := 9000000) only [go_sem, scrubT, scrubH, Nat.reducePow, Nat.reduceLT, Int.reduceToNat, Int.reduceLE, Int.reduceLT, Int.reduceEq, Int.reduceAdd, Int.reduceSub, Int.reduceMul, Nat.reduceAdd, Nat.reduceMul, Nat.reduceSub, Nat.reduceLeDiff, Nat.reduceEqDiff, Int.reduceNe, ↓reduceIte, ↓way_true, ↓way_false, ↓way_not, ↓way_dec, lk3, ti3, lk5, ti5, lk24, ti24, lk29, ti29, lk30, ti30, lk32, ti32]
    repeat (first | refine ⟨by omega, fun _ => ?_⟩ | refine ⟨in_i64 (by omega) (by omega), fun _ => ?_⟩ | refine ⟨by unfold LMAX; omega, fun _ => ?_⟩)
    subst hJ
    refine ⟨rfl, n + 1, ?_, by omega, by omega⟩
    have e : ({ data := (textOf (l.take n)).toArray } : ByteArray) ++ (lineOf l[n] ++ { data := #[10] }) = ⟨(textOf (l.take (n + 1))).toArray⟩ := by
      rw [htk]; apply ByteArray.ext; simp
    rw [e]; rfl
  · have hlt' : ((n : Int) < (l.length : Int)) = False := eq_false (by omega)
    obtain rfl : n = l.length := by omega
    simp (maxSteps := 9000000) only [go_sem, scrubT, scrubH, Nat.reducePow, Nat.reduceLT, Int.reduceToNat, Int.reduceLE, Int.reduceLT, Int.reduceEq, Int.reduceAdd, Int.reduceSub, Int.reduceMul, Nat.reduceAdd, Nat.reduceMul, Nat.reduceSub, Nat.reduceLeDiff, Nat.reduceEqDiff, Int.reduceNe, ↓reduceIte, ↓way_true, ↓way_false, ↓way_not, ↓way_dec, lk3, ti3, lk5, ti5, lk24, ti24, lk29, ti29, lk30, ti30, lk32, ti32, hlt', List.take_length]
    subst hQ
    simp only [retQ, ares, aress, ares1, lkp, Option.getD_some, Nat.reduceEqDiff, ↓reduceIte, true_and, lk3, ti3, lk5, ti5, lk24, ti24, lk29, ti29, lk30, ti30, lk32, ti32]
    exact ⟨rfl, rfl⟩
end Go.Proofs.YthhcbgdngmajlaaDoor
