/- Which programs texts are, or at which line they are wrong: the law, walked. No statement of the seat stands here. -/
import Derived.Test.YthhcbgdngmajlaaDoorAsm17
import Derived.Test.YthhcbgdngmajlaaDoorAsm23
set_option linter.unusedSimpArgs false
set_option linter.unusedSectionVars false
set_option maxRecDepth 100000
namespace Go.Proofs.YthhcbgdngmajlaaDoor
open Go Go.AM
theorem texts_at {l : List ByteArray} {n : Nat} (h : n < l.length) : (l.map fun s => [D.val (.string s)]).getD n [] = [.val (.string l[n])] := by simp [List.getD, h]
-- NOPL 10
variable [SE]

theorem pc10n : PC Tryd.prog 10 [] [nilV, nilV] (fun r h => h = [] ∧ r = vb true) := by
  refine PC.pure ?_
  refine PC.go 300 pl10 TTok rfl Tryd.func10 (by kernel_rfl) rfl Tryd.ntmps10 (rs := [.tmp 4]) rfl rfl rfl (by kernel_rfl) ?_
  intro Q hQ
  simp (maxSteps := 9000000) only [nilV, go_sem, scrubT, scrubH, Nat.reducePow, Nat.reduceLT, Int.reduceToNat, Int.reduceLE, Int.reduceLT, Int.reduceEq, Int.reduceAdd, Int.reduceSub, Int.reduceMul, Nat.reduceAdd, Nat.reduceMul, Nat.reduceSub, Nat.reduceLeDiff, Nat.reduceEqDiff, Int.reduceNe, ↓reduceIte, ↓way_true, ↓way_false, ↓way_not, ↓way_dec, pl10, lk3, ti3, lk5, ti5, lk24, ti24, lk29, ti29, lk30, ti30, lk32, ti32]
  refine leaf.loop 300 pl10 TTok rfl (α := Nat) [0, 1, 12, 13] [] (fun n => { n := 26, t := [(0, nilV), (1, nilV), (12, vi 0), (13, vi n)], h := [] }) (fun n => n = 0) (fun n => n) 0 rfl rfl rfl (by kernel_rfl) (by kernel_rfl) ?_
  rintro n rfl J hJ
  simp (maxSteps := 9000000) only [nilV, go_sem, scrubT, scrubH, Nat.reducePow, Nat.reduceLT, Int.reduceToNat, Int.reduceLE, Int.reduceLT, Int.reduceEq, Int.reduceAdd, Int.reduceSub, Int.reduceMul, Nat.reduceAdd, Nat.reduceMul, Nat.reduceSub, Nat.reduceLeDiff, Nat.reduceEqDiff, Int.reduceNe, ↓reduceIte, ↓way_true, ↓way_false, ↓way_not, ↓way_dec, pl10, lk3, ti3, lk5, ti5, lk24, ti24, lk29, ti29, lk30, ti30, lk32, ti32]
  subst hQ
  simp only [retQ, ares, aress, ares1, lkp, Option.getD_some, Nat.reduceEqDiff, ↓reduceIte, true_and, lk3, ti3, lk5, ti5, lk24, ti24, lk29, ti29, lk30, ti30, lk32, ti32]
  exact ⟨rfl, rfl⟩
theorem badAt_none : ∀ (l : List ByteArray) (c a : Nat), c ≤ 255 → badAt c a l = none → c + l.length ≤ 255
  | [], c, a, hc, _ => by simpa using hc
  | s :: r, c, a, hc, h => by
    unfold badAt at h
    split at h
    · cases h
    · rename_i hn
      have := badAt_none r (c + 1) (a + s.size) (by omega) h
      simp only [List.length_cons]; omega
/-- Rows of Parse, compared. -/
theorem parse_out (s : ByteArray) : ∃ o p k, parseV s = .tup [o, vi p, vi k] ∧ (o = nilV ∨ ∃ l, o = rowsOf l ∧ l.length ≤ 140737488355328 ∧ l = (linesOf s).map insL) := by
  unfold parseV
  split
  · exact ⟨_, _, _, rfl, .inl rfl⟩
  · split
    · exact ⟨_, _, _, rfl, .inl rfl⟩
    · rename_i h1 h2
      refine ⟨_, _, _, rfl, ?_⟩
      cases hl : (linesOf s).map insL with
      | nil => exact .inl rfl
      | cons a r =>
        refine .inr ⟨a :: r, rfl, ?_, rfl⟩
        have h3 := badAt_none _ 0 0 (by omega) h2
        rw [← hl, List.length_map]; omega
theorem pc10s (o : V) (h : o = nilV ∨ ∃ l, o = rowsOf l ∧ l.length ≤ 140737488355328) : PC Tryd.prog 10 [] [o, o] (fun r h => h = [] ∧ r = vb true) := by
  rcases h with rfl | ⟨l, rfl, hl⟩
  · exact pc10n
  · refine PC.mono (pc10 l l hl) ?_
    rintro r h ⟨rfl, rfl⟩
    exact ⟨rfl, by simp⟩

set_option maxHeartbeats 16000000 in
theorem pc3 (ss : List ByteArray) (hlen : ss.length ≤ 140737488355328) (pc7 : PC Tryd.prog 7 [] [] (fun r h => h = [] ∧ r = vb true)) : PC Tryd.prog 3 [] [texts ss] (fun r h => h = [] ∧ r = vb true) := by
  refine PC.pure ?_
  refine PC.go 300 [] TTok rfl Tryd.func3 (by kernel_rfl) rfl Tryd.ntmps3 (rs := [.tmp 2]) rfl rfl rfl (by kernel_rfl) ?_
  intro Q hQ
  simp (maxSteps := 9000000) only [go_sem, scrubT, scrubH, Nat.reducePow, Nat.reduceLT, Int.reduceToNat, Int.reduceLE, Int.reduceLT, Int.reduceEq, Int.reduceAdd, Int.reduceSub, Int.reduceMul, Nat.reduceAdd, Nat.reduceMul, Nat.reduceSub, Nat.reduceLeDiff, Nat.reduceEqDiff, Int.reduceNe, ↓reduceIte, ↓way_true, ↓way_false, ↓way_not, ↓way_dec, lk3, ti3, lk4, ti4, lk5, ti5, lk9, ti9, lk22, ti22, lk24, ti24, lk25, ti25, lk29, ti29, lk30, ti30, lk32, ti32]
  refine leaf.call1 300 [] TTok rfl (pc7) rfl rfl rfl rfl rfl rfl rfl (by kernel_rfl) ?_
  rintro r h' ⟨rfl, rfl⟩
  refine ⟨rfl, ?_⟩
  simp (maxSteps := 9000000) only [go_sem, scrubT, scrubH, Nat.reducePow, Nat.reduceLT, Int.reduceToNat, Int.reduceLE, Int.reduceLT, Int.reduceEq, Int.reduceAdd, Int.reduceSub, Int.reduceMul, Nat.reduceAdd, Nat.reduceMul, Nat.reduceSub, Nat.reduceLeDiff, Nat.reduceEqDiff, Int.reduceNe, ↓reduceIte, ↓way_true, ↓way_false, ↓way_not, ↓way_dec, lk3, ti3, lk4, ti4, lk5, ti5, lk9, ti9, lk22, ti22, lk24, ti24, lk25, ti25, lk29, ti29, lk30, ti30, lk32, ti32]
  simp (maxSteps := 9000000) only [go_sem, scrubT, scrubH, Nat.reducePow, Nat.reduceLT, Int.reduceToNat, Int.reduceLE, Int.reduceLT, Int.reduceEq, Int.reduceAdd, Int.reduceSub, Int.reduceMul, Nat.reduceAdd, Nat.reduceMul, Nat.reduceSub, Nat.reduceLeDiff, Nat.reduceEqDiff, Int.reduceNe, ↓reduceIte, ↓way_true, ↓way_false, ↓way_not, ↓way_dec, lk3, ti3, lk4, ti4, lk5, ti5, lk9, ti9, lk22, ti22, lk24, ti24, lk25, ti25, lk29, ti29, lk30, ti30, lk32, ti32, texts, List.length_map]
  refine leaf.loop 300 [] TTok rfl (α := Nat) [0, 17, 18, 19] [] (fun n => { n := 90, t := [(0, texts ss), (17, texts ss), (18, vi ss.length), (19, vi n)], h := [] }) (fun n => n ≤ ss.length) (fun n => ss.length - n) 0 rfl rfl (Nat.zero_le _) (by kernel_rfl) (by kernel_rfl) ?_
  intro n h1 J hJ
  by_cases hlt : n < ss.length
  · have hlt' : ((n : Int) < (ss.length : Int)) = True := eq_true (by omega)
    have hrow := texts_at hlt
    by_cases h6 : n = 10
    · have h6' : ((n : Int) = 10) = True := eq_true (by omega)
      simp (maxSteps := 9000000) only [go_sem, scrubT, scrubH, Nat.reducePow, Nat.reduceLT, Int.reduceToNat, Int.reduceLE, Int.reduceLT, Int.reduceEq, Int.reduceAdd, Int.reduceSub, Int.reduceMul, Nat.reduceAdd, Nat.reduceMul, Nat.reduceSub, Nat.reduceLeDiff, Nat.reduceEqDiff, Int.reduceNe, ↓reduceIte, ↓way_true, ↓way_false, ↓way_not, ↓way_dec, lk3, ti3, lk4, ti4, lk5, ti5, lk9, ti9, lk22, ti22, lk24, ti24, lk25, ti25, lk29, ti29, lk30, ti30, lk32, ti32, texts, List.length_map, hlt', hrow, Int.toNat_natCast, h6']
      repeat (first | refine ⟨by omega, fun _ => ?_⟩ | refine ⟨in_i64 (by omega) (by omega), fun _ => ?_⟩ | refine ⟨by unfold LMAX; omega, fun _ => ?_⟩)
      subst hQ
      simp only [retQ, ares, aress, ares1, lkp, Option.getD_some, Nat.reduceEqDiff, ↓reduceIte, true_and, lk3, ti3, lk4, ti4, lk5, ti5, lk9, ti9, lk22, ti22, lk24, ti24, lk25, ti25, lk29, ti29, lk30, ti30, lk32, ti32]
      exact ⟨rfl, rfl⟩
    · have h6' : ((n : Int) = 10) = False := eq_false (by omega)
      simp (maxSteps := 9000000) only [go_sem, scrubT, scrubH, Nat.reducePow, Nat.reduceLT, Int.reduceToNat, Int.reduceLE, Int.reduceLT, Int.reduceEq, Int.reduceAdd, Int.reduceSub, Int.reduceMul, Nat.reduceAdd, Nat.reduceMul, Nat.reduceSub, Nat.reduceLeDiff, Nat.reduceEqDiff, Int.reduceNe, ↓reduceIte, ↓way_true, ↓way_false, ↓way_not, ↓way_dec, lk3, ti3, lk4, ti4, lk5, ti5, lk9, ti9, lk22, ti22, lk24, ti24, lk25, ti25, lk29, ti29, lk30, ti30, lk32, ti32, texts, List.length_map, hlt', hrow, Int.toNat_natCast, h6']
      repeat (first | refine ⟨by omega, fun _ => ?_⟩ | refine ⟨in_i64 (by omega) (by omega), fun _ => ?_⟩ | refine ⟨by unfold LMAX; omega, fun _ => ?_⟩)
      have hcut : (ss[n].extract 0 (min (ss[n].size : Int) 8193).toNat).size ≤ 8193 := by rw [ByteArray.size_extract]; omega
      generalize ss[n].extract 0 (min (ss[n].size : Int) 8193).toNat = s at *
      obtain ⟨o, p, k, hp, hoo⟩ := parse_out s
      rcases hoo with rfl | ⟨l0, rfl, hl0, _⟩
      · refine leaf.call1 300 [] TTok rfl (pc8 s (by omega)) rfl rfl rfl rfl rfl rfl rfl (by kernel_rfl) ?_
        rintro r h' ⟨rfl, rfl⟩
        refine ⟨rfl, ?_⟩
        rw [hp]
        simp (maxSteps := 9000000) only [nilV, go_sem, scrubT, scrubH, Nat.reducePow, Nat.reduceLT, Int.reduceToNat, Int.reduceLE, Int.reduceLT, Int.reduceEq, Int.reduceAdd, Int.reduceSub, Int.reduceMul, Nat.reduceAdd, Nat.reduceMul, Nat.reduceSub, Nat.reduceLeDiff, Nat.reduceEqDiff, Int.reduceNe, ↓reduceIte, ↓way_true, ↓way_false, ↓way_not, ↓way_dec, lk3, ti3, lk4, ti4, lk5, ti5, lk9, ti9, lk22, ti22, lk24, ti24, lk25, ti25, lk29, ti29, lk30, ti30, lk32, ti32]
        refine leaf.call1 300 [] TTok rfl (pc9 s (by omega)) rfl rfl rfl rfl rfl rfl rfl (by kernel_rfl) ?_
        rintro r h' ⟨rfl, rfl⟩
        refine ⟨rfl, ?_⟩
        rw [hp]
        simp (maxSteps := 9000000) only [nilV, go_sem, scrubT, scrubH, Nat.reducePow, Nat.reduceLT, Int.reduceToNat, Int.reduceLE, Int.reduceLT, Int.reduceEq, Int.reduceAdd, Int.reduceSub, Int.reduceMul, Nat.reduceAdd, Nat.reduceMul, Nat.reduceSub, Nat.reduceLeDiff, Nat.reduceEqDiff, Int.reduceNe, ↓reduceIte, ↓way_true, ↓way_false, ↓way_not, ↓way_dec, lk3, ti3, lk4, ti4, lk5, ti5, lk9, ti9, lk22, ti22, lk24, ti24, lk25, ti25, lk29, ti29, lk30, ti30, lk32, ti32, eq_self]
        refine leaf.call1 300 [] TTok rfl (pc10n) rfl rfl rfl rfl rfl rfl rfl (by kernel_rfl) ?_
        rintro r h' ⟨rfl, rfl⟩
        refine ⟨rfl, ?_⟩
        simp (maxSteps := 9000000) only [go_sem, scrubT, scrubH, Nat.reducePow, Nat.reduceLT, Int.reduceToNat, Int.reduceLE, Int.reduceLT, Int.reduceEq, Int.reduceAdd, Int.reduceSub, Int.reduceMul, Nat.reduceAdd, Nat.reduceMul, Nat.reduceSub, Nat.reduceLeDiff, Nat.reduceEqDiff, Int.reduceNe, ↓reduceIte, ↓way_true, ↓way_false, ↓way_not, ↓way_dec, lk3, ti3, lk4, ti4, lk5, ti5, lk9, ti9, lk22, ti22, lk24, ti24, lk25, ti25, lk29, ti29, lk30, ti30, lk32, ti32, eq_self]
        repeat (first | refine ⟨by omega, fun _ => ?_⟩ | refine ⟨in_i64 (by omega) (by omega), fun _ => ?_⟩ | refine ⟨by unfold LMAX; omega, fun _ => ?_⟩)
        have hcut2 : (s.extract 0 (min (s.size : Int) 40).toNat).size ≤ 40 := by rw [ByteArray.size_extract]; omega
        generalize s.extract 0 (min (s.size : Int) 40).toNat = u at *
        refine leaf.call1 300 [] TTok rfl (pc11 u (by omega)) rfl rfl rfl rfl rfl rfl rfl (by kernel_rfl) ?_
        rintro r h' ⟨rfl, rfl⟩
        refine ⟨rfl, ?_⟩
        cases ho : oneOf u with
        | none =>
          simp (maxSteps := 9000000) only [optI, In.row, go_sem, scrubT, scrubH, Nat.reducePow, Nat.reduceLT, Int.reduceToNat, Int.reduceLE, Int.reduceLT, Int.reduceEq, Int.reduceAdd, Int.reduceSub, Int.reduceMul, Nat.reduceAdd, Nat.reduceMul, Nat.reduceSub, Nat.reduceLeDiff, Nat.reduceEqDiff, Int.reduceNe, ↓reduceIte, ↓way_true, ↓way_false, ↓way_not, ↓way_dec, lk3, ti3, lk4, ti4, lk5, ti5, lk9, ti9, lk22, ti22, lk24, ti24, lk25, ti25, lk29, ti29, lk30, ti30, lk32, ti32]
          refine leaf.call1 300 [] TTok rfl (pc12 u (by omega)) rfl rfl rfl rfl rfl rfl rfl (by kernel_rfl) ?_
          rintro r h' ⟨rfl, rfl⟩
          refine ⟨rfl, ?_⟩
          rw [ho]
          simp (maxSteps := 9000000) only [optR, In.row, go_sem, scrubT, scrubH, Nat.reducePow, Nat.reduceLT, Int.reduceToNat, Int.reduceLE, Int.reduceLT, Int.reduceEq, Int.reduceAdd, Int.reduceSub, Int.reduceMul, Nat.reduceAdd, Nat.reduceMul, Nat.reduceSub, Nat.reduceLeDiff, Nat.reduceEqDiff, Int.reduceNe, ↓reduceIte, ↓way_true, ↓way_false, ↓way_not, ↓way_dec, lk3, ti3, lk4, ti4, lk5, ti5, lk9, ti9, lk22, ti22, lk24, ti24, lk25, ti25, lk29, ti29, lk30, ti30, lk32, ti32, eq32, eq_self]
          refine ⟨in_i64 (by omega) (by omega), fun _ => ?_⟩
          subst hJ
          exact ⟨rfl, n + 1, rfl, hlt, by omega⟩
        | some x =>
          simp (maxSteps := 9000000) only [optI, In.row, go_sem, scrubT, scrubH, Nat.reducePow, Nat.reduceLT, Int.reduceToNat, Int.reduceLE, Int.reduceLT, Int.reduceEq, Int.reduceAdd, Int.reduceSub, Int.reduceMul, Nat.reduceAdd, Nat.reduceMul, Nat.reduceSub, Nat.reduceLeDiff, Nat.reduceEqDiff, Int.reduceNe, ↓reduceIte, ↓way_true, ↓way_false, ↓way_not, ↓way_dec, lk3, ti3, lk4, ti4, lk5, ti5, lk9, ti9, lk22, ti22, lk24, ti24, lk25, ti25, lk29, ti29, lk30, ti30, lk32, ti32]
          refine leaf.call1 300 [] TTok rfl (pc12 u (by omega)) rfl rfl rfl rfl rfl rfl rfl (by kernel_rfl) ?_
          rintro r h' ⟨rfl, rfl⟩
          refine ⟨rfl, ?_⟩
          rw [ho]
          simp (maxSteps := 9000000) only [optR, In.row, go_sem, scrubT, scrubH, Nat.reducePow, Nat.reduceLT, Int.reduceToNat, Int.reduceLE, Int.reduceLT, Int.reduceEq, Int.reduceAdd, Int.reduceSub, Int.reduceMul, Nat.reduceAdd, Nat.reduceMul, Nat.reduceSub, Nat.reduceLeDiff, Nat.reduceEqDiff, Int.reduceNe, ↓reduceIte, ↓way_true, ↓way_false, ↓way_not, ↓way_dec, lk3, ti3, lk4, ti4, lk5, ti5, lk9, ti9, lk22, ti22, lk24, ti24, lk25, ti25, lk29, ti29, lk30, ti30, lk32, ti32, eq32, eq_self]
          refine ⟨in_i64 (by omega) (by omega), fun _ => ?_⟩
          subst hJ
          exact ⟨rfl, n + 1, rfl, hlt, by omega⟩
      · refine leaf.call1 300 [] TTok rfl (pc8 s (by omega)) rfl rfl rfl rfl rfl rfl rfl (by kernel_rfl) ?_
        rintro r h' ⟨rfl, rfl⟩
        refine ⟨rfl, ?_⟩
        rw [hp]
        simp (maxSteps := 9000000) only [rowsOf, go_sem, scrubT, scrubH, Nat.reducePow, Nat.reduceLT, Int.reduceToNat, Int.reduceLE, Int.reduceLT, Int.reduceEq, Int.reduceAdd, Int.reduceSub, Int.reduceMul, Nat.reduceAdd, Nat.reduceMul, Nat.reduceSub, Nat.reduceLeDiff, Nat.reduceEqDiff, Int.reduceNe, ↓reduceIte, ↓way_true, ↓way_false, ↓way_not, ↓way_dec, lk3, ti3, lk4, ti4, lk5, ti5, lk9, ti9, lk22, ti22, lk24, ti24, lk25, ti25, lk29, ti29, lk30, ti30, lk32, ti32]
        refine leaf.call1 300 [] TTok rfl (pc9 s (by omega)) rfl rfl rfl rfl rfl rfl rfl (by kernel_rfl) ?_
        rintro r h' ⟨rfl, rfl⟩
        refine ⟨rfl, ?_⟩
        rw [hp]
        simp (maxSteps := 9000000) only [rowsOf, go_sem, scrubT, scrubH, Nat.reducePow, Nat.reduceLT, Int.reduceToNat, Int.reduceLE, Int.reduceLT, Int.reduceEq, Int.reduceAdd, Int.reduceSub, Int.reduceMul, Nat.reduceAdd, Nat.reduceMul, Nat.reduceSub, Nat.reduceLeDiff, Nat.reduceEqDiff, Int.reduceNe, ↓reduceIte, ↓way_true, ↓way_false, ↓way_not, ↓way_dec, lk3, ti3, lk4, ti4, lk5, ti5, lk9, ti9, lk22, ti22, lk24, ti24, lk25, ti25, lk29, ti29, lk30, ti30, lk32, ti32, eq_self]
        refine leaf.call1 300 [] TTok rfl (pc10s (rowsOf l0) (.inr ⟨l0, rfl, hl0⟩)) rfl rfl rfl rfl rfl rfl rfl (by kernel_rfl) ?_
        rintro r h' ⟨rfl, rfl⟩
        refine ⟨rfl, ?_⟩
        simp (maxSteps := 9000000) only [go_sem, scrubT, scrubH, Nat.reducePow, Nat.reduceLT, Int.reduceToNat, Int.reduceLE, Int.reduceLT, Int.reduceEq, Int.reduceAdd, Int.reduceSub, Int.reduceMul, Nat.reduceAdd, Nat.reduceMul, Nat.reduceSub, Nat.reduceLeDiff, Nat.reduceEqDiff, Int.reduceNe, ↓reduceIte, ↓way_true, ↓way_false, ↓way_not, ↓way_dec, lk3, ti3, lk4, ti4, lk5, ti5, lk9, ti9, lk22, ti22, lk24, ti24, lk25, ti25, lk29, ti29, lk30, ti30, lk32, ti32, eq_self]
        repeat (first | refine ⟨by omega, fun _ => ?_⟩ | refine ⟨in_i64 (by omega) (by omega), fun _ => ?_⟩ | refine ⟨by unfold LMAX; omega, fun _ => ?_⟩)
        have hcut2 : (s.extract 0 (min (s.size : Int) 40).toNat).size ≤ 40 := by rw [ByteArray.size_extract]; omega
        generalize s.extract 0 (min (s.size : Int) 40).toNat = u at *
        refine leaf.call1 300 [] TTok rfl (pc11 u (by omega)) rfl rfl rfl rfl rfl rfl rfl (by kernel_rfl) ?_
        rintro r h' ⟨rfl, rfl⟩
        refine ⟨rfl, ?_⟩
        cases ho : oneOf u with
        | none =>
          simp (maxSteps := 9000000) only [optI, In.row, go_sem, scrubT, scrubH, Nat.reducePow, Nat.reduceLT, Int.reduceToNat, Int.reduceLE, Int.reduceLT, Int.reduceEq, Int.reduceAdd, Int.reduceSub, Int.reduceMul, Nat.reduceAdd, Nat.reduceMul, Nat.reduceSub, Nat.reduceLeDiff, Nat.reduceEqDiff, Int.reduceNe, ↓reduceIte, ↓way_true, ↓way_false, ↓way_not, ↓way_dec, lk3, ti3, lk4, ti4, lk5, ti5, lk9, ti9, lk22, ti22, lk24, ti24, lk25, ti25, lk29, ti29, lk30, ti30, lk32, ti32]
          refine leaf.call1 300 [] TTok rfl (pc12 u (by omega)) rfl rfl rfl rfl rfl rfl rfl (by kernel_rfl) ?_
          rintro r h' ⟨rfl, rfl⟩
          refine ⟨rfl, ?_⟩
          rw [ho]
          simp (maxSteps := 9000000) only [optR, In.row, go_sem, scrubT, scrubH, Nat.reducePow, Nat.reduceLT, Int.reduceToNat, Int.reduceLE, Int.reduceLT, Int.reduceEq, Int.reduceAdd, Int.reduceSub, Int.reduceMul, Nat.reduceAdd, Nat.reduceMul, Nat.reduceSub, Nat.reduceLeDiff, Nat.reduceEqDiff, Int.reduceNe, ↓reduceIte, ↓way_true, ↓way_false, ↓way_not, ↓way_dec, lk3, ti3, lk4, ti4, lk5, ti5, lk9, ti9, lk22, ti22, lk24, ti24, lk25, ti25, lk29, ti29, lk30, ti30, lk32, ti32, eq32, eq_self]
          refine ⟨in_i64 (by omega) (by omega), fun _ => ?_⟩
          subst hJ
          exact ⟨rfl, n + 1, rfl, hlt, by omega⟩
        | some x =>
          simp (maxSteps := 9000000) only [optI, In.row, go_sem, scrubT, scrubH, Nat.reducePow, Nat.reduceLT, Int.reduceToNat, Int.reduceLE, Int.reduceLT, Int.reduceEq, Int.reduceAdd, Int.reduceSub, Int.reduceMul, Nat.reduceAdd, Nat.reduceMul, Nat.reduceSub, Nat.reduceLeDiff, Nat.reduceEqDiff, Int.reduceNe, ↓reduceIte, ↓way_true, ↓way_false, ↓way_not, ↓way_dec, lk3, ti3, lk4, ti4, lk5, ti5, lk9, ti9, lk22, ti22, lk24, ti24, lk25, ti25, lk29, ti29, lk30, ti30, lk32, ti32]
          refine leaf.call1 300 [] TTok rfl (pc12 u (by omega)) rfl rfl rfl rfl rfl rfl rfl (by kernel_rfl) ?_
          rintro r h' ⟨rfl, rfl⟩
          refine ⟨rfl, ?_⟩
          rw [ho]
          simp (maxSteps := 9000000) only [optR, In.row, go_sem, scrubT, scrubH, Nat.reducePow, Nat.reduceLT, Int.reduceToNat, Int.reduceLE, Int.reduceLT, Int.reduceEq, Int.reduceAdd, Int.reduceSub, Int.reduceMul, Nat.reduceAdd, Nat.reduceMul, Nat.reduceSub, Nat.reduceLeDiff, Nat.reduceEqDiff, Int.reduceNe, ↓reduceIte, ↓way_true, ↓way_false, ↓way_not, ↓way_dec, lk3, ti3, lk4, ti4, lk5, ti5, lk9, ti9, lk22, ti22, lk24, ti24, lk25, ti25, lk29, ti29, lk30, ti30, lk32, ti32, eq32, eq_self]
          refine ⟨in_i64 (by omega) (by omega), fun _ => ?_⟩
          subst hJ
          exact ⟨rfl, n + 1, rfl, hlt, by omega⟩
  · have hlt' : ((n : Int) < (ss.length : Int)) = False := eq_false (by omega)
    simp (maxSteps := 9000000) only [go_sem, scrubT, scrubH, Nat.reducePow, Nat.reduceLT, Int.reduceToNat, Int.reduceLE, Int.reduceLT, Int.reduceEq, Int.reduceAdd, Int.reduceSub, Int.reduceMul, Nat.reduceAdd, Nat.reduceMul, Nat.reduceSub, Nat.reduceLeDiff, Nat.reduceEqDiff, Int.reduceNe, ↓reduceIte, ↓way_true, ↓way_false, ↓way_not, ↓way_dec, lk3, ti3, lk4, ti4, lk5, ti5, lk9, ti9, lk22, ti22, lk24, ti24, lk25, ti25, lk29, ti29, lk30, ti30, lk32, ti32, texts, List.length_map, hlt']
    subst hQ
    simp only [retQ, ares, aress, ares1, lkp, Option.getD_some, Nat.reduceEqDiff, ↓reduceIte, true_and, lk3, ti3, lk4, ti4, lk5, ti5, lk9, ti9, lk22, ti22, lk24, ti24, lk25, ti25, lk29, ti29, lk30, ti30, lk32, ti32]
    exact ⟨rfl, rfl⟩
end Go.Proofs.YthhcbgdngmajlaaDoor
