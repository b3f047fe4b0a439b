/- The law of lines, walked. No statement of the seat stands here. -/
import Derived.Test.YthhcbgdngmajlaaDoorAsm15
set_option linter.unusedSimpArgs false
set_option linter.unusedSectionVars false
set_option maxRecDepth 100000
namespace Go.Proofs.YthhcbgdngmajlaaDoor
open Go Go.AM

theorem cut_B (s : ByteArray) (n : Nat) : ∃ l : List UInt8, l.length ≤ n ∧ s.extract 0 (min (s.size : Int) n).toNat = B l := by
  refine ⟨s.data.toList.take (min (s.size : Int) n).toNat, by rw [List.length_take]; omega, ?_⟩
  have : s = B s.data.toList := by cases s; simp [B]
  conv => lhs; rw [this]
  rw [ext_B0, ← this]
variable [SE]

def pl4 : List (Nat × Bool × Plan) := [(3, true, .take 0 (.take 1 (.take 2 (.take 3 (.take 4 (.take 5 (.take 6 (.take 7 (.take 8 (.take 9 (.take 10 (.take 11 (.done)))))))))))))]
set_option maxHeartbeats 16000000 in
theorem pc4 (s1 s2 : ByteArray) : PC Tryd.prog 4 [] [vs s1, vs s2] (fun r h => h = [] ∧ r = vb true) := by
  refine PC.pure ?_
  refine PC.go 300 pl4 TTok rfl Tryd.func4 (by kernel_rfl) rfl Tryd.ntmps4 (rs := [.tmp 4]) rfl rfl rfl (by kernel_rfl) ?_
  intro Q hQ
  simp (maxSteps := 9000000) only [go_sem, scrubT, scrubH, Nat.reducePow, Nat.reduceLT, Int.reduceToNat, Int.reduceLE, Int.reduceLT, Int.reduceEq, Int.reduceAdd, Int.reduceSub, Int.reduceMul, Nat.reduceAdd, Nat.reduceMul, Nat.reduceSub, Nat.reduceLeDiff, Nat.reduceEqDiff, Int.reduceNe, ↓reduceIte, ↓way_true, ↓way_false, ↓way_not, ↓way_dec, pl4, lk3, ti3, lk5, ti5, lk9, ti9, lk25, ti25]
  refine leaf.call1 20 pl4 TTok rfl (pc7) rfl rfl rfl rfl rfl rfl rfl (by kernel_rfl) ?_
  rintro r h' ⟨rfl, rfl⟩
  refine ⟨rfl, ?_⟩
  simp (maxSteps := 9000000) only [go_sem, scrubT, scrubH, Nat.reducePow, Nat.reduceLT, Int.reduceToNat, Int.reduceLE, Int.reduceLT, Int.reduceEq, Int.reduceAdd, Int.reduceSub, Int.reduceMul, Nat.reduceAdd, Nat.reduceMul, Nat.reduceSub, Nat.reduceLeDiff, Nat.reduceEqDiff, Int.reduceNe, ↓reduceIte, ↓way_true, ↓way_false, ↓way_not, ↓way_dec, pl4, lk3, ti3, lk5, ti5, lk9, ti9, lk25, ti25]
  refine ⟨⟨by omega, by omega⟩, fun _ => ⟨⟨by omega, by omega⟩, fun _ => ?_⟩⟩
  refine leaf.keep [0, 1] [] rfl rfl ?_
  simp only [AS.keep, keepT, AM.keepH, lkp, Nat.reduceEqDiff, ↓reduceIte]
  obtain ⟨l, hl, e1⟩ := cut_B s1 4000
  obtain ⟨m, hm, e2⟩ := cut_B s2 1000
  have e1' : s1.extract 0 (min (s1.size : Int) 4000).toNat = B l := e1
  have e2' : s2.extract 0 (min (s2.size : Int) 1000).toNat = B m := e2
  rw [e1', e2']
  refine leaf.go 300 pl4 TTok rfl (by kernel_rfl) ?_
  simp (maxSteps := 9000000) only [go_sem, scrubT, scrubH, Nat.reducePow, Nat.reduceLT, Int.reduceToNat, Int.reduceLE, Int.reduceLT, Int.reduceEq, Int.reduceAdd, Int.reduceSub, Int.reduceMul, Nat.reduceAdd, Nat.reduceMul, Nat.reduceSub, Nat.reduceLeDiff, Nat.reduceEqDiff, Int.reduceNe, ↓reduceIte, ↓way_true, ↓way_false, ↓way_not, ↓way_dec, pl4, lk3, ti3, lk5, ti5, lk9, ti9, lk25, ti25]
  have hsz := size_B l
  refine leaf.call1 300 pl4 TTok rfl (pc8 (B l) (by omega)) rfl rfl rfl rfl rfl rfl rfl (by kernel_rfl) ?_
  rintro r h' ⟨rfl, rfl⟩
  refine ⟨rfl, ?_⟩
  have h8 : ¬ 8192 < (B l).size := by omega
  cases hb : badAt 0 0 (linesOf (B l)) with
  | none =>
    have hp : parseV (B l) = .tup [outV ((linesOf (B l)).map insL), vi 0, vi 0] := by unfold parseV; rw [if_neg h8, hb]
    rw [hp]
    generalize outV ((linesOf (B l)).map insL) = o
    simp (maxSteps := 9000000) only [go_sem, scrubT, scrubH, Nat.reducePow, Nat.reduceLT, Int.reduceToNat, Int.reduceLE, Int.reduceLT, Int.reduceEq, Int.reduceAdd, Int.reduceSub, Int.reduceMul, Nat.reduceAdd, Nat.reduceMul, Nat.reduceSub, Nat.reduceLeDiff, Nat.reduceEqDiff, Int.reduceNe, ↓reduceIte, ↓way_true, ↓way_false, ↓way_not, ↓way_dec, pl4, lk3, ti3, lk5, ti5, lk9, ti9, lk25, ti25]
    subst hQ
    simp only [retQ, ares, aress, ares1, lkp, Option.getD_some, Nat.reduceEqDiff, ↓reduceIte, true_and, lk3, ti3, lk5, ti5, lk9, ti9, lk25, ti25]
    exact ⟨rfl, rfl⟩
  | some a =>
    have hp : parseV (B l) = .tup [nilV, vi (a : Int), vi 180] := by unfold parseV; rw [if_neg h8, hb]
    obtain ⟨q, hq, hlt, hq1, hmore⟩ := bad_law l.length l (Nat.le_refl _) 0 0 a hb
    obtain rfl : a = q := by omega
    have f0 : ((a : Int) < 0) = False := eq_false (by omega)
    have f1 : ((l.length : Int) ≤ (a : Int)) = False := eq_false (by omega)
    have hl10 : 0 < a → l[a - 1]? = some 10 := fun h => hq1.resolve_left (by omega)
    have hby : 0 < a → ((byteAt (B l) ((a : Int) - 1).toNat : Nat) : Int) = 10 := fun h => by
      have h10 := hl10 h
      have e : ((a : Int) - 1).toNat = a - 1 := by omega
      have hd : (B l).data.toList = l := by simp [B]
      unfold byteAt
      rw [e, hd, List.getD_eq_getElem?_getD, h10]; rfl
    have ex : (B l).extract (a : Int).toNat (l.length : Int).toNat = B (l.drop a) := by
      rw [Int.toNat_natCast, Int.toNat_natCast, ← hsz, ext_B1]
    have hd2 : (B (l.drop a)).data.toList = l.drop a := by simp [B]
    rw [hp]
    by_cases ha : 0 < a
    · have f2 : (0 < (a : Int)) = True := eq_true (by omega)
      have f3 := hby ha
      simp (maxSteps := 9000000) only [nilV, go_sem, scrubT, scrubH, Nat.reducePow, Nat.reduceLT, Int.reduceToNat, Int.reduceLE, Int.reduceLT, Int.reduceEq, Int.reduceAdd, Int.reduceSub, Int.reduceMul, Nat.reduceAdd, Nat.reduceMul, Nat.reduceSub, Nat.reduceLeDiff, Nat.reduceEqDiff, Int.reduceNe, ↓reduceIte, ↓way_true, ↓way_false, ↓way_not, ↓way_dec, pl4, lk3, ti3, lk5, ti5, lk9, ti9, lk25, ti25, f0, f1, f2, f3]
      refine ⟨in_i64 (by omega) (by omega), fun _ => ⟨⟨by omega, by omega⟩, fun _ => ⟨⟨by omega, by omega, Int.le_refl _⟩, fun _ => ?_⟩⟩⟩
      rw [ex]
      refine leaf.keep [0, 1, 6, 7, 57] [] rfl rfl ?_
      simp only [AS.keep, keepT, AM.keepH, lkp, Nat.reduceEqDiff, ↓reduceIte]
      refine leaf.go 300 pl4 TTok rfl (by kernel_rfl) ?_
      simp (maxSteps := 9000000) only [go_sem, scrubT, scrubH, Nat.reducePow, Nat.reduceLT, Int.reduceToNat, Int.reduceLE, Int.reduceLT, Int.reduceEq, Int.reduceAdd, Int.reduceSub, Int.reduceMul, Nat.reduceAdd, Nat.reduceMul, Nat.reduceSub, Nat.reduceLeDiff, Nat.reduceEqDiff, Int.reduceNe, ↓reduceIte, ↓way_true, ↓way_false, ↓way_not, ↓way_dec, pl4, lk3, ti3, lk5, ti5, lk9, ti9, lk25, ti25]
      refine leaf.call1 300 pl4 TTok rfl (pc13 (B (l.drop a)) 10) rfl rfl rfl rfl rfl rfl rfl (by kernel_rfl) ?_
      rintro r h' ⟨rfl, rfl⟩
      refine ⟨rfl, ?_⟩
      rw [show Lib.indexByte (B (l.drop a)).data.toList (10 : Int).toNat.toUInt8 = Lib.indexByte (l.drop a) 10 from by rw [hd2]; rfl]
      have hg := idx_ge (l.drop a) 10
      by_cases hj : Lib.indexByte (l.drop a) 10 = -1
      · rw [hj]
        simp (maxSteps := 9000000) only [go_sem, scrubT, scrubH, Nat.reducePow, Nat.reduceLT, Int.reduceToNat, Int.reduceLE, Int.reduceLT, Int.reduceEq, Int.reduceAdd, Int.reduceSub, Int.reduceMul, Nat.reduceAdd, Nat.reduceMul, Nat.reduceSub, Nat.reduceLeDiff, Nat.reduceEqDiff, Int.reduceNe, ↓reduceIte, ↓way_true, ↓way_false, ↓way_not, ↓way_dec, pl4, lk3, ti3, lk5, ti5, lk9, ti9, lk25, ti25]
        subst hQ
        simp only [retQ, ares, aress, ares1, lkp, Option.getD_some, Nat.reduceEqDiff, ↓reduceIte, true_and, lk3, ti3, lk5, ti5, lk9, ti9, lk25, ti25]
        exact ⟨rfl, rfl⟩
      · obtain ⟨j, hj⟩ : ∃ j : Nat, Lib.indexByte (l.drop a) 10 = j := ⟨(Lib.indexByte (l.drop a) 10).toNat, by omega⟩
        have hjl := indexByte_lt (l.drop a) 10
        rw [List.length_drop] at hjl
        have fj : ((j : Int) < 0) = False := eq_false (by omega)
        have hp2 : parseV (B (l.take (a + j + 1) ++ m)) = .tup [nilV, vi (a : Int), vi 180] := by
          have hz := size_B (l.take (a + j + 1) ++ m)
          rw [List.length_append, List.length_take] at hz
          unfold parseV; rw [if_neg (by omega), hmore j hj m]
        have ex2 : (B l).extract 0 ((a : Int) + (j : Int) + 1).toNat ++ B m = B (l.take (a + j + 1) ++ m) := by
          rw [show ((a : Int) + (j : Int) + 1).toNat = a + j + 1 from by omega, ext_B0]
          apply ByteArray.ext; simp [B]
        rw [hj]
        simp (maxSteps := 9000000) only [go_sem, scrubT, scrubH, Nat.reducePow, Nat.reduceLT, Int.reduceToNat, Int.reduceLE, Int.reduceLT, Int.reduceEq, Int.reduceAdd, Int.reduceSub, Int.reduceMul, Nat.reduceAdd, Nat.reduceMul, Nat.reduceSub, Nat.reduceLeDiff, Nat.reduceEqDiff, Int.reduceNe, ↓reduceIte, ↓way_true, ↓way_false, ↓way_not, ↓way_dec, pl4, lk3, ti3, lk5, ti5, lk9, ti9, lk25, ti25, fj]
        have hsz3 : ((B l).extract 0 ((a : Int) + (j : Int) + 1).toNat).size = a + j + 1 := by
          rw [show ((a : Int) + (j : Int) + 1).toNat = a + j + 1 from by omega, ext_B0, size_B, List.length_take]; omega
        refine ⟨in_i64 (by omega) (by omega), fun _ => ⟨in_i64 (by omega) (by omega), fun _ => ⟨⟨by omega, by omega⟩, fun _ => ⟨by rw [hsz3]; unfold LMAX; omega, fun _ => ?_⟩⟩⟩⟩
        rw [ex2]
        refine leaf.call1 300 pl4 TTok rfl (pc8 (B (l.take (a + j + 1) ++ m)) (by rw [size_B, List.length_append, List.length_take]; omega)) rfl rfl rfl rfl rfl rfl rfl (by kernel_rfl) ?_
        rintro r h' ⟨rfl, rfl⟩
        refine ⟨rfl, ?_⟩
        rw [hp2]
        simp (maxSteps := 9000000) only [nilV, go_sem, scrubT, scrubH, Nat.reducePow, Nat.reduceLT, Int.reduceToNat, Int.reduceLE, Int.reduceLT, Int.reduceEq, Int.reduceAdd, Int.reduceSub, Int.reduceMul, Nat.reduceAdd, Nat.reduceMul, Nat.reduceSub, Nat.reduceLeDiff, Nat.reduceEqDiff, Int.reduceNe, ↓reduceIte, ↓way_true, ↓way_false, ↓way_not, ↓way_dec, pl4, lk3, ti3, lk5, ti5, lk9, ti9, lk25, ti25, eq_self, decide_true]
        subst hQ
        simp only [retQ, ares, aress, ares1, lkp, Option.getD_some, Nat.reduceEqDiff, ↓reduceIte, true_and, lk3, ti3, lk5, ti5, lk9, ti9, lk25, ti25]
        exact ⟨rfl, rfl⟩
    · have f2 : (0 < (a : Int)) = False := eq_false (by omega)
      simp (maxSteps := 9000000) only [nilV, go_sem, scrubT, scrubH, Nat.reducePow, Nat.reduceLT, Int.reduceToNat, Int.reduceLE, Int.reduceLT, Int.reduceEq, Int.reduceAdd, Int.reduceSub, Int.reduceMul, Nat.reduceAdd, Nat.reduceMul, Nat.reduceSub, Nat.reduceLeDiff, Nat.reduceEqDiff, Int.reduceNe, ↓reduceIte, ↓way_true, ↓way_false, ↓way_not, ↓way_dec, pl4, lk3, ti3, lk5, ti5, lk9, ti9, lk25, ti25, f0, f1, f2]
      refine ⟨⟨by omega, by omega, Int.le_refl _⟩, fun _ => ?_⟩
      rw [ex]
      refine leaf.keep [0, 1, 6, 7, 57] [] rfl rfl ?_
      simp only [AS.keep, keepT, AM.keepH, lkp, Nat.reduceEqDiff, ↓reduceIte]
      refine leaf.go 300 pl4 TTok rfl (by kernel_rfl) ?_
      simp (maxSteps := 9000000) only [go_sem, scrubT, scrubH, Nat.reducePow, Nat.reduceLT, Int.reduceToNat, Int.reduceLE, Int.reduceLT, Int.reduceEq, Int.reduceAdd, Int.reduceSub, Int.reduceMul, Nat.reduceAdd, Nat.reduceMul, Nat.reduceSub, Nat.reduceLeDiff, Nat.reduceEqDiff, Int.reduceNe, ↓reduceIte, ↓way_true, ↓way_false, ↓way_not, ↓way_dec, pl4, lk3, ti3, lk5, ti5, lk9, ti9, lk25, ti25]
      refine leaf.call1 300 pl4 TTok rfl (pc13 (B (l.drop a)) 10) rfl rfl rfl rfl rfl rfl rfl (by kernel_rfl) ?_
      rintro r h' ⟨rfl, rfl⟩
      refine ⟨rfl, ?_⟩
      rw [show Lib.indexByte (B (l.drop a)).data.toList (10 : Int).toNat.toUInt8 = Lib.indexByte (l.drop a) 10 from by rw [hd2]; rfl]
      have hg := idx_ge (l.drop a) 10
      by_cases hj : Lib.indexByte (l.drop a) 10 = -1
      · rw [hj]
        simp (maxSteps := 9000000) only [go_sem, scrubT, scrubH, Nat.reducePow, Nat.reduceLT, Int.reduceToNat, Int.reduceLE, Int.reduceLT, Int.reduceEq, Int.reduceAdd, Int.reduceSub, Int.reduceMul, Nat.reduceAdd, Nat.reduceMul, Nat.reduceSub, Nat.reduceLeDiff, Nat.reduceEqDiff, Int.reduceNe, ↓reduceIte, ↓way_true, ↓way_false, ↓way_not, ↓way_dec, pl4, lk3, ti3, lk5, ti5, lk9, ti9, lk25, ti25]
        subst hQ
        simp only [retQ, ares, aress, ares1, lkp, Option.getD_some, Nat.reduceEqDiff, ↓reduceIte, true_and, lk3, ti3, lk5, ti5, lk9, ti9, lk25, ti25]
        exact ⟨rfl, rfl⟩
      · obtain ⟨j, hj⟩ : ∃ j : Nat, Lib.indexByte (l.drop a) 10 = j := ⟨(Lib.indexByte (l.drop a) 10).toNat, by omega⟩
        have hjl := indexByte_lt (l.drop a) 10
        rw [List.length_drop] at hjl
        have fj : ((j : Int) < 0) = False := eq_false (by omega)
        have hp2 : parseV (B (l.take (a + j + 1) ++ m)) = .tup [nilV, vi (a : Int), vi 180] := by
          have hz := size_B (l.take (a + j + 1) ++ m)
          rw [List.length_append, List.length_take] at hz
          unfold parseV; rw [if_neg (by omega), hmore j hj m]
        have ex2 : (B l).extract 0 ((a : Int) + (j : Int) + 1).toNat ++ B m = B (l.take (a + j + 1) ++ m) := by
          rw [show ((a : Int) + (j : Int) + 1).toNat = a + j + 1 from by omega, ext_B0]
          apply ByteArray.ext; simp [B]
        rw [hj]
        simp (maxSteps := 9000000) only [go_sem, scrubT, scrubH, Nat.reducePow, Nat.reduceLT, Int.reduceToNat, Int.reduceLE, Int.reduceLT, Int.reduceEq, Int.reduceAdd, Int.reduceSub, Int.reduceMul, Nat.reduceAdd, Nat.reduceMul, Nat.reduceSub, Nat.reduceLeDiff, Nat.reduceEqDiff, Int.reduceNe, ↓reduceIte, ↓way_true, ↓way_false, ↓way_not, ↓way_dec, pl4, lk3, ti3, lk5, ti5, lk9, ti9, lk25, ti25, fj]
        have hsz3 : ((B l).extract 0 ((a : Int) + (j : Int) + 1).toNat).size = a + j + 1 := by
          rw [show ((a : Int) + (j : Int) + 1).toNat = a + j + 1 from by omega, ext_B0, size_B, List.length_take]; omega
        refine ⟨in_i64 (by omega) (by omega), fun _ => ⟨in_i64 (by omega) (by omega), fun _ => ⟨⟨by omega, by omega⟩, fun _ => ⟨by rw [hsz3]; unfold LMAX; omega, fun _ => ?_⟩⟩⟩⟩
        rw [ex2]
        refine leaf.call1 300 pl4 TTok rfl (pc8 (B (l.take (a + j + 1) ++ m)) (by rw [size_B, List.length_append, List.length_take]; omega)) rfl rfl rfl rfl rfl rfl rfl (by kernel_rfl) ?_
        rintro r h' ⟨rfl, rfl⟩
        refine ⟨rfl, ?_⟩
        rw [hp2]
        simp (maxSteps := 9000000) only [nilV, go_sem, scrubT, scrubH, Nat.reducePow, Nat.reduceLT, Int.reduceToNat, Int.reduceLE, Int.reduceLT, Int.reduceEq, Int.reduceAdd, Int.reduceSub, Int.reduceMul, Nat.reduceAdd, Nat.reduceMul, Nat.reduceSub, Nat.reduceLeDiff, Nat.reduceEqDiff, Int.reduceNe, ↓reduceIte, ↓way_true, ↓way_false, ↓way_not, ↓way_dec, pl4, lk3, ti3, lk5, ti5, lk9, ti9, lk25, ti25, eq_self, decide_true]
        subst hQ
        simp only [retQ, ares, aress, ares1, lkp, Option.getD_some, Nat.reduceEqDiff, ↓reduceIte, true_and, lk3, ti3, lk5, ti5, lk9, ti9, lk25, ti25]
        exact ⟨rfl, rfl⟩
end Go.Proofs.YthhcbgdngmajlaaDoor
