/- Which instructions have lines, and programs' texts: the law, walked. No statement of the seat stands here. -/
import Derived.Test.YthhcbgdngmajlaaDoorAsm17
set_option linter.unusedSimpArgs false
set_option linter.unusedSectionVars false
set_option maxRecDepth 100000
namespace Go.Proofs.YthhcbgdngmajlaaDoor
open Go Go.AM

/-- Rows of instructions, as data. -/
def rowss (l : List (List In)) : V := .d (.sl 1 (l.map fun r => [.sl 4 (r.map In.row)]))
theorem rowss_at {l : List (List In)} {n : Nat} (h : n < l.length) : (l.map fun r => [D.sl 4 (r.map In.row)]).getD n [] = [.sl 4 (l[n].map In.row)] := by simp [List.getD, h]
/-- What Print says of a row. -/
def prS (l : List In) : ByteArray := if l.all right then (if 255 < l.length ∨ 8192 < (textOf l).length then B [] else ⟨(textOf l).toArray⟩) else B []
def prE (l : List In) : Int := if l.all right then (if 255 < l.length ∨ 8192 < (textOf l).length then 3 else 0) else 2
variable [SE]
theorem pc15' (l : List In) (hl : ∀ x ∈ l, x.ok) (hn : l.length ≤ 1000) : PC Tryd.prog 15 [] [rowsOf l] (fun r h => h = [] ∧ r = .tup [vs (prS l), vi (prE l)]) := by
  refine PC.mono (pc15 l hl hn) ?_
  rintro r h ⟨rfl, rfl⟩
  refine ⟨rfl, ?_⟩
  unfold prS prE
  cases l.all right
  · rfl
  · simp only [↓reduceIte]
    split <;> rfl
theorem pc17' (x : In) (h0 : 0 ≤ x.code) : PC Tryd.prog 17 [] [.dagg x.row] (fun r h => h = [] ∧ r = vb (right x)) := pc17 x h0

set_option maxHeartbeats 16000000 in
theorem pc5 (rss : List (List In)) (hok : ∀ l ∈ rss, ∀ x ∈ l, x.ok) (hlen : rss.length ≤ 140737488355328) (pc7 : PC Tryd.prog 7 [] [] (fun r h => h = [] ∧ r = vb true)) : PC Tryd.prog 5 [] [rowss rss] (fun r h => h = [] ∧ r = vb true) := by
  refine PC.pure ?_
  refine PC.go 300 [] TTok rfl Tryd.func5 (by kernel_rfl) rfl Tryd.ntmps5 (rs := [.tmp 2]) rfl rfl rfl (by kernel_rfl) ?_
  intro Q hQ
  simp (maxSteps := 9000000) only [go_sem, scrubT, scrubH, Nat.reducePow, Nat.reduceLT, Int.reduceToNat, Int.reduceLE, Int.reduceLT, Int.reduceEq, Int.reduceAdd, Int.reduceSub, Int.reduceMul, Nat.reduceAdd, Nat.reduceMul, Nat.reduceSub, Nat.reduceLeDiff, Nat.reduceEqDiff, Int.reduceNe, ↓reduceIte, ↓way_true, ↓way_false, ↓way_not, ↓way_dec, lk3, ti3, lk5, ti5, lk9, ti9, lk24, ti24, lk25, ti25, lk29, ti29, lk30, ti30, lk32, ti32, lk40, ti40]
  refine leaf.call1 20 [] TTok rfl (pc7) rfl rfl rfl rfl rfl rfl rfl (by kernel_rfl) ?_
  rintro r h' ⟨rfl, rfl⟩
  refine ⟨rfl, ?_⟩
  simp (maxSteps := 9000000) only [go_sem, scrubT, scrubH, Nat.reducePow, Nat.reduceLT, Int.reduceToNat, Int.reduceLE, Int.reduceLT, Int.reduceEq, Int.reduceAdd, Int.reduceSub, Int.reduceMul, Nat.reduceAdd, Nat.reduceMul, Nat.reduceSub, Nat.reduceLeDiff, Nat.reduceEqDiff, Int.reduceNe, ↓reduceIte, ↓way_true, ↓way_false, ↓way_not, ↓way_dec, lk3, ti3, lk5, ti5, lk9, ti9, lk24, ti24, lk25, ti25, lk29, ti29, lk30, ti30, lk32, ti32, lk40, ti40, rowss, List.length_map]
  refine leaf.go 20 [] TTok rfl (by kernel_rfl) ?_
  simp (maxSteps := 9000000) only [go_sem, scrubT, scrubH, Nat.reducePow, Nat.reduceLT, Int.reduceToNat, Int.reduceLE, Int.reduceLT, Int.reduceEq, Int.reduceAdd, Int.reduceSub, Int.reduceMul, Nat.reduceAdd, Nat.reduceMul, Nat.reduceSub, Nat.reduceLeDiff, Nat.reduceEqDiff, Int.reduceNe, ↓reduceIte, ↓way_true, ↓way_false, ↓way_not, ↓way_dec, lk3, ti3, lk5, ti5, lk9, ti9, lk24, ti24, lk25, ti25, lk29, ti29, lk30, ti30, lk32, ti32, lk40, ti40, rowss, List.length_map]
  refine leaf.loop 300 [] TTok rfl (α := Nat) [0, 16, 17, 18] [] (fun n => { n := 102, t := [(0, rowss rss), (16, rowss rss), (17, vi rss.length), (18, vi n)], h := [] }) (fun n => n ≤ rss.length) (fun n => rss.length - n) 0 rfl rfl (Nat.zero_le _) (by kernel_rfl) (by kernel_rfl) ?_
  intro n h1 J hJ
  by_cases hlt : n < rss.length
  · have hlt' : ((n : Int) < (rss.length : Int)) = True := eq_true (by omega)
    have hrow := rowss_at hlt
    have hx0 := hok _ (List.getElem_mem hlt)
    by_cases h6 : n = 6
    · have h6' : ((n : Int) = 6) = True := eq_true (by omega)
      simp (maxSteps := 9000000) only [go_sem, scrubT, scrubH, Nat.reducePow, Nat.reduceLT, Int.reduceToNat, Int.reduceLE, Int.reduceLT, Int.reduceEq, Int.reduceAdd, Int.reduceSub, Int.reduceMul, Nat.reduceAdd, Nat.reduceMul, Nat.reduceSub, Nat.reduceLeDiff, Nat.reduceEqDiff, Int.reduceNe, ↓reduceIte, ↓way_true, ↓way_false, ↓way_not, ↓way_dec, lk3, ti3, lk5, ti5, lk9, ti9, lk24, ti24, lk25, ti25, lk29, ti29, lk30, ti30, lk32, ti32, lk40, ti40, rowss, List.length_map, hlt', hrow, Int.toNat_natCast, h6']
      repeat (first | refine ⟨by omega, fun _ => ?_⟩ | refine ⟨in_i64 (by omega) (by omega), fun _ => ?_⟩ | refine ⟨by unfold LMAX; omega, fun _ => ?_⟩)
      subst hQ
      simp only [retQ, ares, aress, ares1, lkp, Option.getD_some, Nat.reduceEqDiff, ↓reduceIte, true_and, lk3, ti3, lk5, ti5, lk9, ti9, lk24, ti24, lk25, ti25, lk29, ti29, lk30, ti30, lk32, ti32, lk40, ti40]
      exact ⟨rfl, rfl⟩
    · have h6' : ((n : Int) = 6) = False := eq_false (by omega)
      simp (maxSteps := 9000000) only [go_sem, scrubT, scrubH, Nat.reducePow, Nat.reduceLT, Int.reduceToNat, Int.reduceLE, Int.reduceLT, Int.reduceEq, Int.reduceAdd, Int.reduceSub, Int.reduceMul, Nat.reduceAdd, Nat.reduceMul, Nat.reduceSub, Nat.reduceLeDiff, Nat.reduceEqDiff, Int.reduceNe, ↓reduceIte, ↓way_true, ↓way_false, ↓way_not, ↓way_dec, lk3, ti3, lk5, ti5, lk9, ti9, lk24, ti24, lk25, ti25, lk29, ti29, lk30, ti30, lk32, ti32, lk40, ti40, rowss, List.length_map, hlt', hrow, Int.toNat_natCast, h6']
      repeat (first | refine ⟨by omega, fun _ => ?_⟩ | refine ⟨in_i64 (by omega) (by omega), fun _ => ?_⟩ | refine ⟨by unfold LMAX; omega, fun _ => ?_⟩)
      have hl256 : (rss[n].take 256).length ≤ 256 := List.length_take_le _ _
      have hx1 : ∀ x ∈ rss[n].take 256, x.ok := fun x hx => hx0 x (List.mem_of_mem_take hx)
      refine leaf.call1 300 [] TTok rfl (pc14 rss[n]) rfl rfl rfl rfl rfl rfl rfl (by kernel_rfl) ?_
      rintro r h' ⟨rfl, rfl⟩
      refine ⟨rfl, ?_⟩
      simp (maxSteps := 9000000) only [go_sem, scrubT, scrubH, Nat.reducePow, Nat.reduceLT, Int.reduceToNat, Int.reduceLE, Int.reduceLT, Int.reduceEq, Int.reduceAdd, Int.reduceSub, Int.reduceMul, Nat.reduceAdd, Nat.reduceMul, Nat.reduceSub, Nat.reduceLeDiff, Nat.reduceEqDiff, Int.reduceNe, ↓reduceIte, ↓way_true, ↓way_false, ↓way_not, ↓way_dec, lk3, ti3, lk5, ti5, lk9, ti9, lk24, ti24, lk25, ti25, lk29, ti29, lk30, ti30, lk32, ti32, lk40, ti40]
      refine leaf.call1 300 [] TTok rfl (pc14 rss[n]) rfl rfl rfl rfl rfl rfl rfl (by kernel_rfl) ?_
      rintro r h' ⟨rfl, rfl⟩
      refine ⟨rfl, ?_⟩
      simp (maxSteps := 9000000) only [go_sem, scrubT, scrubH, Nat.reducePow, Nat.reduceLT, Int.reduceToNat, Int.reduceLE, Int.reduceLT, Int.reduceEq, Int.reduceAdd, Int.reduceSub, Int.reduceMul, Nat.reduceAdd, Nat.reduceMul, Nat.reduceSub, Nat.reduceLeDiff, Nat.reduceEqDiff, Int.reduceNe, ↓reduceIte, ↓way_true, ↓way_false, ↓way_not, ↓way_dec, lk3, ti3, lk5, ti5, lk9, ti9, lk24, ti24, lk25, ti25, lk29, ti29, lk30, ti30, lk32, ti32, lk40, ti40]
      generalize rss[n].take 256 = l at *
      refine leaf.call1 300 [] TTok rfl (pc15' l hx1 (by omega)) rfl rfl rfl rfl rfl rfl rfl (by kernel_rfl) ?_
      rintro r h' ⟨rfl, rfl⟩
      refine ⟨rfl, ?_⟩
      simp (maxSteps := 9000000) only [go_sem, scrubT, scrubH, Nat.reducePow, Nat.reduceLT, Int.reduceToNat, Int.reduceLE, Int.reduceLT, Int.reduceEq, Int.reduceAdd, Int.reduceSub, Int.reduceMul, Nat.reduceAdd, Nat.reduceMul, Nat.reduceSub, Nat.reduceLeDiff, Nat.reduceEqDiff, Int.reduceNe, ↓reduceIte, ↓way_true, ↓way_false, ↓way_not, ↓way_dec, lk3, ti3, lk5, ti5, lk9, ti9, lk24, ti24, lk25, ti25, lk29, ti29, lk30, ti30, lk32, ti32, lk40, ti40]
      simp (maxSteps := 9000000) only [go_sem, scrubT, scrubH, Nat.reducePow, Nat.reduceLT, Int.reduceToNat, Int.reduceLE, Int.reduceLT, Int.reduceEq, Int.reduceAdd, Int.reduceSub, Int.reduceMul, Nat.reduceAdd, Nat.reduceMul, Nat.reduceSub, Nat.reduceLeDiff, Nat.reduceEqDiff, Int.reduceNe, ↓reduceIte, ↓way_true, ↓way_false, ↓way_not, ↓way_dec, lk3, ti3, lk5, ti5, lk9, ti9, lk24, ti24, lk25, ti25, lk29, ti29, lk30, ti30, lk32, ti32, lk40, ti40, rowsOf, List.length_map]
      refine leaf.loop 300 [] TTok rfl (α := Nat) [0, 5, 6, 7, 8, 9, 16, 17, 18, 34, 35, 36] [] (fun m => { n := 102, t := [(0, rowss rss), (5, rowsOf l), (6, rowsOf l), (7, vs (prS l)), (8, vi (prE l)), (9, vb ((l.take m).all right)), (16, rowss rss), (17, vi rss.length), (18, vi n), (34, rowsOf l), (35, vi l.length), (36, vi m)], h := [] }) (fun m => m ≤ l.length) (fun m => l.length - m) 0 rfl rfl (Nat.zero_le _) (by kernel_rfl) (by kernel_rfl) ?_
      intro m g1 J2 hJ2
      by_cases gl : m < l.length
      · have gl' : ((m : Int) < (l.length : Int)) = True := eq_true (by omega)
        have grow := row_at gl
        have gx := hx1 _ (List.getElem_mem gl)
        have gt := List.take_succ_eq_append_getElem gl
        simp (maxSteps := 9000000) only [go_sem, scrubT, scrubH, Nat.reducePow, Nat.reduceLT, Int.reduceToNat, Int.reduceLE, Int.reduceLT, Int.reduceEq, Int.reduceAdd, Int.reduceSub, Int.reduceMul, Nat.reduceAdd, Nat.reduceMul, Nat.reduceSub, Nat.reduceLeDiff, Nat.reduceEqDiff, Int.reduceNe, ↓reduceIte, ↓way_true, ↓way_false, ↓way_not, ↓way_dec, lk3, ti3, lk5, ti5, lk9, ti9, lk24, ti24, lk25, ti25, lk29, ti29, lk30, ti30, lk32, ti32, lk40, ti40, rowsOf, List.length_map, gl', grow, Int.toNat_natCast]
        repeat (first | refine ⟨by omega, fun _ => ?_⟩ | refine ⟨in_i64 (by omega) (by omega), fun _ => ?_⟩ | refine ⟨by unfold LMAX; omega, fun _ => ?_⟩)
        refine leaf.call1 300 [] TTok rfl (pc16 l[m] gx) rfl rfl rfl rfl rfl rfl rfl (by kernel_rfl) ?_
        rintro r h' ⟨rfl, rfl⟩
        refine ⟨rfl, ?_⟩
        by_cases gr : right l[m] = true
        · simp (maxSteps := 9000000) only [gr, go_sem, scrubT, scrubH, Nat.reducePow, Nat.reduceLT, Int.reduceToNat, Int.reduceLE, Int.reduceLT, Int.reduceEq, Int.reduceAdd, Int.reduceSub, Int.reduceMul, Nat.reduceAdd, Nat.reduceMul, Nat.reduceSub, Nat.reduceLeDiff, Nat.reduceEqDiff, Int.reduceNe, ↓reduceIte, ↓way_true, ↓way_false, ↓way_not, ↓way_dec, lk3, ti3, lk5, ti5, lk9, ti9, lk24, ti24, lk25, ti25, lk29, ti29, lk30, ti30, lk32, ti32, lk40, ti40]
          refine leaf.call1 300 [] TTok rfl (pc17' l[m] gx.c0) rfl rfl rfl rfl rfl rfl rfl (by kernel_rfl) ?_
          rintro r h' ⟨rfl, rfl⟩
          refine ⟨rfl, ?_⟩
          simp (maxSteps := 9000000) only [gr, go_sem, scrubT, scrubH, Nat.reducePow, Nat.reduceLT, Int.reduceToNat, Int.reduceLE, Int.reduceLT, Int.reduceEq, Int.reduceAdd, Int.reduceSub, Int.reduceMul, Nat.reduceAdd, Nat.reduceMul, Nat.reduceSub, Nat.reduceLeDiff, Nat.reduceEqDiff, Int.reduceNe, ↓reduceIte, ↓way_true, ↓way_false, ↓way_not, ↓way_dec, lk3, ti3, lk5, ti5, lk9, ti9, lk24, ti24, lk25, ti25, lk29, ti29, lk30, ti30, lk32, ti32, lk40, ti40]
          refine leaf.call1 300 [] TTok rfl (pc18 l[m] gx) rfl rfl rfl rfl rfl rfl rfl (by kernel_rfl) ?_
          rintro r h' ⟨rfl, rfl⟩
          refine ⟨rfl, ?_⟩
          simp (maxSteps := 9000000) only [go_sem, scrubT, scrubH, Nat.reducePow, Nat.reduceLT, Int.reduceToNat, Int.reduceLE, Int.reduceLT, Int.reduceEq, Int.reduceAdd, Int.reduceSub, Int.reduceMul, Nat.reduceAdd, Nat.reduceMul, Nat.reduceSub, Nat.reduceLeDiff, Nat.reduceEqDiff, Int.reduceNe, ↓reduceIte, ↓way_true, ↓way_false, ↓way_not, ↓way_dec, lk3, ti3, lk5, ti5, lk9, ti9, lk24, ti24, lk25, ti25, lk29, ti29, lk30, ti30, lk32, ti32, lk40, ti40, eq_self]
          repeat (first | refine ⟨by omega, fun _ => ?_⟩ | refine ⟨in_i64 (by omega) (by omega), fun _ => ?_⟩ | refine ⟨by unfold LMAX; omega, fun _ => ?_⟩)
          subst hJ2
          have ga : (l.take (m + 1)).all right = (l.take m).all right := by rw [gt, List.all_append]; simp [gr]
          refine ⟨rfl, m + 1, ?_, gl, by omega⟩
          rw [ga]; rfl
        · have gr : right l[m] = false := by simpa using gr
          simp (maxSteps := 9000000) only [gr, go_sem, scrubT, scrubH, Nat.reducePow, Nat.reduceLT, Int.reduceToNat, Int.reduceLE, Int.reduceLT, Int.reduceEq, Int.reduceAdd, Int.reduceSub, Int.reduceMul, Nat.reduceAdd, Nat.reduceMul, Nat.reduceSub, Nat.reduceLeDiff, Nat.reduceEqDiff, Int.reduceNe, ↓reduceIte, ↓way_true, ↓way_false, ↓way_not, ↓way_dec, lk3, ti3, lk5, ti5, lk9, ti9, lk24, ti24, lk25, ti25, lk29, ti29, lk30, ti30, lk32, ti32, lk40, ti40]
          refine leaf.call1 300 [] TTok rfl (pc17' l[m] gx.c0) rfl rfl rfl rfl rfl rfl rfl (by kernel_rfl) ?_
          rintro r h' ⟨rfl, rfl⟩
          refine ⟨rfl, ?_⟩
          simp (maxSteps := 9000000) only [gr, go_sem, scrubT, scrubH, Nat.reducePow, Nat.reduceLT, Int.reduceToNat, Int.reduceLE, Int.reduceLT, Int.reduceEq, Int.reduceAdd, Int.reduceSub, Int.reduceMul, Nat.reduceAdd, Nat.reduceMul, Nat.reduceSub, Nat.reduceLeDiff, Nat.reduceEqDiff, Int.reduceNe, ↓reduceIte, ↓way_true, ↓way_false, ↓way_not, ↓way_dec, lk3, ti3, lk5, ti5, lk9, ti9, lk24, ti24, lk25, ti25, lk29, ti29, lk30, ti30, lk32, ti32, lk40, ti40, eq_self]
          repeat (first | refine ⟨by omega, fun _ => ?_⟩ | refine ⟨in_i64 (by omega) (by omega), fun _ => ?_⟩ | refine ⟨by unfold LMAX; omega, fun _ => ?_⟩)
          subst hJ2
          have ga : (l.take (m + 1)).all right = false := by rw [gt, List.all_append]; simp [gr]
          refine ⟨rfl, m + 1, ?_, gl, by omega⟩
          rw [ga]; rfl
      · have gl' : ((m : Int) < (l.length : Int)) = False := eq_false (by omega)
        obtain rfl : m = l.length := by omega
        simp (maxSteps := 9000000) only [go_sem, scrubT, scrubH, Nat.reducePow, Nat.reduceLT, Int.reduceToNat, Int.reduceLE, Int.reduceLT, Int.reduceEq, Int.reduceAdd, Int.reduceSub, Int.reduceMul, Nat.reduceAdd, Nat.reduceMul, Nat.reduceSub, Nat.reduceLeDiff, Nat.reduceEqDiff, Int.reduceNe, ↓reduceIte, ↓way_true, ↓way_false, ↓way_not, ↓way_dec, lk3, ti3, lk5, ti5, lk9, ti9, lk24, ti24, lk25, ti25, lk29, ti29, lk30, ti30, lk32, ti32, lk40, ti40, gl', List.take_length]
        refine leaf.call1 300 [] TTok rfl (pc10 l l (by omega)) rfl rfl rfl rfl rfl rfl rfl (by kernel_rfl) ?_
        rintro r h' ⟨rfl, rfl⟩
        refine ⟨rfl, ?_⟩
        cases ga : l.all right with
        | false =>
          have e1 : prS l = B [] := by unfold prS; rw [ga]; rfl
          have e2 : prE l = 2 := by unfold prE; rw [ga]; rfl
          simp (maxSteps := 9000000) only [go_sem, scrubT, scrubH, Nat.reducePow, Nat.reduceLT, Int.reduceToNat, Int.reduceLE, Int.reduceLT, Int.reduceEq, Int.reduceAdd, Int.reduceSub, Int.reduceMul, Nat.reduceAdd, Nat.reduceMul, Nat.reduceSub, Nat.reduceLeDiff, Nat.reduceEqDiff, Int.reduceNe, ↓reduceIte, ↓way_true, ↓way_false, ↓way_not, ↓way_dec, lk3, ti3, lk5, ti5, lk9, ti9, lk24, ti24, lk25, ti25, lk29, ti29, lk30, ti30, lk32, ti32, lk40, ti40, eq_self, e1, e2]
          refine ⟨in_i64 (by omega) (by omega), fun _ => ?_⟩
          subst hJ
          exact ⟨rfl, n + 1, rfl, hlt, by omega⟩
        | true =>
          by_cases g255 : 255 < l.length
          · have g255' : ((255 : Int) < (l.length : Int)) = True := eq_true (by omega)
            have e1 : prS l = B [] := by unfold prS; rw [ga, if_pos rfl, if_pos (.inl g255)]
            have e2 : prE l = 3 := by unfold prE; rw [ga, if_pos rfl, if_pos (.inl g255)]
            simp (maxSteps := 9000000) only [go_sem, scrubT, scrubH, Nat.reducePow, Nat.reduceLT, Int.reduceToNat, Int.reduceLE, Int.reduceLT, Int.reduceEq, Int.reduceAdd, Int.reduceSub, Int.reduceMul, Nat.reduceAdd, Nat.reduceMul, Nat.reduceSub, Nat.reduceLeDiff, Nat.reduceEqDiff, Int.reduceNe, ↓reduceIte, ↓way_true, ↓way_false, ↓way_not, ↓way_dec, lk3, ti3, lk5, ti5, lk9, ti9, lk24, ti24, lk25, ti25, lk29, ti29, lk30, ti30, lk32, ti32, lk40, ti40, eq_self, e1, e2, rowsOf, List.length_map, g255']
            refine ⟨in_i64 (by omega) (by omega), fun _ => ?_⟩
            subst hJ
            exact ⟨rfl, n + 1, rfl, hlt, by omega⟩
          · have g255' : ((255 : Int) < (l.length : Int)) = False := eq_false (by omega)
            simp (maxSteps := 9000000) only [go_sem, scrubT, scrubH, Nat.reducePow, Nat.reduceLT, Int.reduceToNat, Int.reduceLE, Int.reduceLT, Int.reduceEq, Int.reduceAdd, Int.reduceSub, Int.reduceMul, Nat.reduceAdd, Nat.reduceMul, Nat.reduceSub, Nat.reduceLeDiff, Nat.reduceEqDiff, Int.reduceNe, ↓reduceIte, ↓way_true, ↓way_false, ↓way_not, ↓way_dec, lk3, ti3, lk5, ti5, lk9, ti9, lk24, ti24, lk25, ti25, lk29, ti29, lk30, ti30, lk32, ti32, lk40, ti40, eq_self, rowsOf, List.length_map, g255']
            refine leaf.call1 300 [] TTok rfl (pc19 l hx1 (by omega)) rfl rfl rfl rfl rfl rfl rfl (by kernel_rfl) ?_
            rintro r h' ⟨rfl, rfl⟩
            refine ⟨rfl, ?_⟩
            by_cases g8 : 8192 < (textOf l).length
            · have g8' : ((8192 : Int) < ((textOf l).length : Int)) = True := eq_true (by omega)
              have e1 : prS l = B [] := by unfold prS; rw [ga, if_pos rfl, if_pos (.inr g8)]
              have e2 : prE l = 3 := by unfold prE; rw [ga, if_pos rfl, if_pos (.inr g8)]
              simp (maxSteps := 9000000) only [go_sem, scrubT, scrubH, Nat.reducePow, Nat.reduceLT, Int.reduceToNat, Int.reduceLE, Int.reduceLT, Int.reduceEq, Int.reduceAdd, Int.reduceSub, Int.reduceMul, Nat.reduceAdd, Nat.reduceMul, Nat.reduceSub, Nat.reduceLeDiff, Nat.reduceEqDiff, Int.reduceNe, ↓reduceIte, ↓way_true, ↓way_false, ↓way_not, ↓way_dec, lk3, ti3, lk5, ti5, lk9, ti9, lk24, ti24, lk25, ti25, lk29, ti29, lk30, ti30, lk32, ti32, lk40, ti40, eq_self, e1, e2, List.size_toArray, g8']
              refine ⟨in_i64 (by omega) (by omega), fun _ => ?_⟩
              subst hJ
              exact ⟨rfl, n + 1, rfl, hlt, by omega⟩
            · have g8' : ((8192 : Int) < ((textOf l).length : Int)) = False := eq_false (by omega)
              have gn : ¬ (255 < l.length ∨ 8192 < (textOf l).length) := by omega
              have e1 : prS l = ⟨(textOf l).toArray⟩ := by unfold prS; rw [ga, if_pos rfl, if_neg gn]
              have e2 : prE l = 0 := by unfold prE; rw [ga, if_pos rfl, if_neg gn]
              simp (maxSteps := 9000000) only [go_sem, scrubT, scrubH, Nat.reducePow, Nat.reduceLT, Int.reduceToNat, Int.reduceLE, Int.reduceLT, Int.reduceEq, Int.reduceAdd, Int.reduceSub, Int.reduceMul, Nat.reduceAdd, Nat.reduceMul, Nat.reduceSub, Nat.reduceLeDiff, Nat.reduceEqDiff, Int.reduceNe, ↓reduceIte, ↓way_true, ↓way_false, ↓way_not, ↓way_dec, lk3, ti3, lk5, ti5, lk9, ti9, lk24, ti24, lk25, ti25, lk29, ti29, lk30, ti30, lk32, ti32, lk40, ti40, eq_self, e1, e2, List.size_toArray, g8']
              refine leaf.call1 300 [] TTok rfl (pc19 l hx1 (by omega)) rfl rfl rfl rfl rfl rfl rfl (by kernel_rfl) ?_
              rintro r h' ⟨rfl, rfl⟩
              refine ⟨rfl, ?_⟩
              simp (maxSteps := 9000000) only [go_sem, scrubT, scrubH, Nat.reducePow, Nat.reduceLT, Int.reduceToNat, Int.reduceLE, Int.reduceLT, Int.reduceEq, Int.reduceAdd, Int.reduceSub, Int.reduceMul, Nat.reduceAdd, Nat.reduceMul, Nat.reduceSub, Nat.reduceLeDiff, Nat.reduceEqDiff, Int.reduceNe, ↓reduceIte, ↓way_true, ↓way_false, ↓way_not, ↓way_dec, lk3, ti3, lk5, ti5, lk9, ti9, lk24, ti24, lk25, ti25, lk29, ti29, lk30, ti30, lk32, ti32, lk40, ti40, eq_self]
              refine ⟨in_i64 (by omega) (by omega), fun _ => ?_⟩
              subst hJ
              exact ⟨rfl, n + 1, rfl, hlt, by omega⟩
  · have hlt' : ((n : Int) < (rss.length : Int)) = False := eq_false (by omega)
    simp (maxSteps := 9000000) only [go_sem, scrubT, scrubH, Nat.reducePow, Nat.reduceLT, Int.reduceToNat, Int.reduceLE, Int.reduceLT, Int.reduceEq, Int.reduceAdd, Int.reduceSub, Int.reduceMul, Nat.reduceAdd, Nat.reduceMul, Nat.reduceSub, Nat.reduceLeDiff, Nat.reduceEqDiff, Int.reduceNe, ↓reduceIte, ↓way_true, ↓way_false, ↓way_not, ↓way_dec, lk3, ti3, lk5, ti5, lk9, ti9, lk24, ti24, lk25, ti25, lk29, ti29, lk30, ti30, lk32, ti32, lk40, ti40, rowss, List.length_map, hlt']
    subst hQ
    simp only [retQ, ares, aress, ares1, lkp, Option.getD_some, Nat.reduceEqDiff, ↓reduceIte, true_and, lk3, ti3, lk5, ti5, lk9, ti9, lk24, ti24, lk25, ti25, lk29, ti29, lk30, ti30, lk32, ti32, lk40, ti40]
    exact ⟨rfl, rfl⟩
end Go.Proofs.YthhcbgdngmajlaaDoor
