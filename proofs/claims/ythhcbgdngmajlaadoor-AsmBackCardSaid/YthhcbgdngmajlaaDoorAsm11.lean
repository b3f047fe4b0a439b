/- Lines one by one, as the library and the program tell them. No statement of the seat stands here. -/
import Derived.Test.YthhcbgdngmajlaaDoorAsm4
import Derived.Test.YthhcbgdngmajlaaDoorAmC
set_option linter.unusedSimpArgs false
set_option linter.unusedSectionVars false
set_option maxRecDepth 100000
namespace Go.Proofs.YthhcbgdngmajlaaDoor
open Go Go.AM

/-- The lines of a text, each with its line feed, if it has one. -/
def linesF : Nat → ByteArray → List ByteArray
  | 0, _ => []
  | n + 1, s => if s.size = 0 then [] else
    if 0 ≤ Lib.indexByte s.data.toList 10 then s.extract 0 ((Lib.indexByte s.data.toList 10).toNat + 1) :: linesF n (s.extract ((Lib.indexByte s.data.toList 10).toNat + 1) s.size) else [s]
def linesOf (s : ByteArray) : List ByteArray := linesF s.size s
theorem indexByte_lt : ∀ (l : List UInt8) (c : UInt8), Lib.indexByte l c < l.length
  | [], c => by simp [Lib.indexByte]
  | x :: r, c => by
    have := indexByte_lt r c
    unfold Lib.indexByte
    split
    · simp
    · simp; split <;> omega
theorem linesF_eq : ∀ (n m : Nat) (s : ByteArray), s.size ≤ n → s.size ≤ m → linesF n s = linesF m s
  | 0, 0, _, _, _ => rfl
  | 0, m + 1, s, h, _ => by simp [linesF, Nat.le_zero.1 h]
  | n + 1, 0, s, _, h => by simp [linesF, Nat.le_zero.1 h]
  | n + 1, m + 1, s, h1, h2 => by
    unfold linesF
    split
    · rfl
    · split
      · rename_i h0 h3
        have hlt := indexByte_lt s.data.toList 10
        have : s.data.toList.length = s.size := Array.length_toList
        congr 1
        exact linesF_eq n m _ (by rw [ByteArray.size_extract]; omega) (by rw [ByteArray.size_extract]; omega)
      · rfl
theorem linesOf_nil {s : ByteArray} (h : s.size = 0) : linesOf s = [] := by unfold linesOf; rw [h]; rfl
theorem linesOf_feed {s : ByteArray} (h : s.size ≠ 0) (hi : 0 ≤ Lib.indexByte s.data.toList 10) : linesOf s = s.extract 0 ((Lib.indexByte s.data.toList 10).toNat + 1) :: linesOf (s.extract ((Lib.indexByte s.data.toList 10).toNat + 1) s.size) := by
  have hlt := indexByte_lt s.data.toList 10
  have hl : s.data.toList.length = s.size := Array.length_toList
  unfold linesOf
  rw [linesF_eq s.size (s.size + 1) s (Nat.le_refl _) (by omega)]
  conv => lhs; unfold linesF
  rw [if_neg h, if_pos hi]
  congr 1
  exact linesF_eq _ _ _ (by rw [ByteArray.size_extract]; omega) (Nat.le_refl _)
theorem linesOf_last {s : ByteArray} (h : s.size ≠ 0) (hi : ¬ 0 ≤ Lib.indexByte s.data.toList 10) : linesOf s = [s] := by
  unfold linesOf
  rw [linesF_eq s.size (s.size + 1) s (Nat.le_refl _) (by omega)]
  unfold linesF
  rw [if_neg h, if_neg hi]
variable [SE]

def pl68 : List (Nat × Bool × Plan) := [(4, false, .take 1 (.take 2 (.take 5 (.take 6 (.alt 0 (.take 3 (.take 8 (.alt 4 (.take 7 (.alt 9 (.done) (.fin))) (.fin)))) (.alt 4 (.take 7 (.alt 0 (.take 3 (.take 8 (.alt 9 (.done) (.fin)))) (.fin))) (.fin)))))))]
set_option maxHeartbeats 8000000 in
theorem it68 (text : ByteArray) (ht : text.size ≤ 1000000) : Iter1 Tryd.prog 68 [vs text] ((linesOf text).map fun s => [vs s]) := by
  intro J Jx hY
  refine PC.keepH [ARG, ARG + 1] ?_
  refine PC.go 300 pl68 TTok rfl Tryd.func68 (by kernel_rfl) rfl Tryd.ntmps68 (rs := []) rfl rfl rfl (by kernel_rfl) ?_
  intro Q hQ
  simp (maxSteps := 9000000) only [go_sem, scrubT, scrubH, Nat.reducePow, Nat.reduceLT, Int.reduceToNat, Int.reduceLE, Int.reduceLT, Int.reduceEq, Int.reduceAdd, Int.reduceSub, Int.reduceMul, Nat.reduceAdd, Nat.reduceMul, Nat.reduceSub, Nat.reduceLeDiff, Nat.reduceEqDiff, Int.reduceNe, ↓reduceIte, ↓way_true, ↓way_false, ↓way_not, ↓way_dec, pl68, lk5, ti5, lk9, ti9]
  refine leaf.loop 300 pl68 TTok rfl (α := Nat × ByteArray) [0, 1] [ARG, ARG + 1] (fun x => { n := 25, t := [(0, .yld ARG), (1, .ptr (ARG + 1) 0)], h := [(ARG, .opq (J x.1)), (ARG + 1, .cells [vs x.2])] }) (fun x => (linesOf text).drop x.1 = linesOf x.2 ∧ x.1 ≤ (linesOf text).length ∧ x.2.size ≤ text.size) (fun x => x.2.size) (0, text) rfl rfl ⟨rfl, Nat.zero_le _, Nat.le_refl _⟩ (by kernel_rfl) (by kernel_rfl) ?_
  rintro ⟨n, s⟩ ⟨h1, h2, h3⟩ J' hJ
  simp only at h1 h2 h3
  by_cases h0 : s.size = 0
  · have h0' : ((0 : Int) < (s.size : Int)) = False := eq_false (by omega)
    simp (maxSteps := 9000000) only [go_sem, scrubT, scrubH, Nat.reducePow, Nat.reduceLT, Int.reduceToNat, Int.reduceLE, Int.reduceLT, Int.reduceEq, Int.reduceAdd, Int.reduceSub, Int.reduceMul, Nat.reduceAdd, Nat.reduceMul, Nat.reduceSub, Nat.reduceLeDiff, Nat.reduceEqDiff, Int.reduceNe, ↓reduceIte, ↓way_true, ↓way_false, ↓way_not, ↓way_dec, pl68, lk5, ti5, lk9, ti9, ARG, Nat.reduceAdd, h0']
    rw [linesOf_nil h0] at h1
    have hn : n = (linesOf text).length := by
      have := congrArg List.length h1
      simp at this; omega
    subst hQ
    simp only [retQ, ares, aress, ares1, lkp, Option.getD_some, Nat.reduceEqDiff, ↓reduceIte, true_and, lk5, ti5, lk9, ti9]
    exact ⟨rfl, .cells [vs s], .inl (by simp [AM.keepH, lkp, ARG, hn])⟩
  · have h0' : ((0 : Int) < (s.size : Int)) = True := eq_true (by omega)
    have hlt := indexByte_lt s.data.toList 10
    have hl : s.data.toList.length = s.size := Array.length_toList
    have hn : n < (linesOf text).length := by
      have := congrArg List.length h1
      by_cases hi : 0 ≤ Lib.indexByte s.data.toList 10
      · rw [linesOf_feed h0 hi] at this; simp at this; omega
      · rw [linesOf_last h0 hi] at this; simp at this; omega
    have hd : (linesOf text).drop n = (linesOf text)[n] :: (linesOf text).drop (n + 1) := List.drop_eq_getElem_cons hn
    have hy := hY n (by simpa using hn)
    have hg : ((linesOf text).map fun s => [vs s]).getD n [] = [vs (linesOf text)[n]] := by simp [hn]
    rw [hg] at hy
    simp (maxSteps := 9000000) only [go_sem, scrubT, scrubH, Nat.reducePow, Nat.reduceLT, Int.reduceToNat, Int.reduceLE, Int.reduceLT, Int.reduceEq, Int.reduceAdd, Int.reduceSub, Int.reduceMul, Nat.reduceAdd, Nat.reduceMul, Nat.reduceSub, Nat.reduceLeDiff, Nat.reduceEqDiff, Int.reduceNe, ↓reduceIte, ↓way_true, ↓way_false, ↓way_not, ↓way_dec, pl68, lk5, ti5, lk9, ti9, ARG, Nat.reduceAdd, h0']
    refine leaf.call1 300 pl68 TTok rfl ((show PC Tryd.prog 13 [] [vs s, .d (.val (.int .u8 10))] (fun r h => h = [] ∧ r = vi (Lib.indexByte s.data.toList 10)) from pc13 s 10)) rfl rfl rfl rfl rfl rfl rfl (by kernel_rfl) ?_
    rintro r h' ⟨rfl, rfl⟩
    refine ⟨rfl, ?_⟩
    by_cases hi : 0 ≤ Lib.indexByte s.data.toList 10
    · have hi' : (0 ≤ Lib.indexByte s.data.toList 10) = True := eq_true hi
      have e1 : (linesOf text)[n] = s.extract 0 ((Lib.indexByte s.data.toList 10).toNat + 1) ∧ (linesOf text).drop (n + 1) = linesOf (s.extract ((Lib.indexByte s.data.toList 10).toNat + 1) s.size) := by
        rw [hd, linesOf_feed h0 hi] at h1
        exact List.cons.inj h1
      have et : (Lib.indexByte s.data.toList 10 + 1).toNat = (Lib.indexByte s.data.toList 10).toNat + 1 := by omega
      simp (maxSteps := 9000000) only [go_sem, scrubT, scrubH, Nat.reducePow, Nat.reduceLT, Int.reduceToNat, Int.reduceLE, Int.reduceLT, Int.reduceEq, Int.reduceAdd, Int.reduceSub, Int.reduceMul, Nat.reduceAdd, Nat.reduceMul, Nat.reduceSub, Nat.reduceLeDiff, Nat.reduceEqDiff, Int.reduceNe, ↓reduceIte, ↓way_true, ↓way_false, ↓way_not, ↓way_dec, pl68, lk5, ti5, lk9, ti9, hi', et, Int.toNat_natCast]
      rw [e1.1] at hy
      have hse : (s.extract ((Lib.indexByte s.data.toList 10).toNat + 1) s.size).size < s.size := by rw [ByteArray.size_extract]; omega
      refine ⟨in_i64 (by omega) (by omega), fun _ => ⟨in_i64 (by omega) (by omega), fun _ => ⟨⟨⟨by omega, by omega⟩, fun _ => ⟨⟨by omega, by omega, by omega⟩, fun _ => ?_⟩⟩, ⟨by omega, by omega, by omega⟩, fun _ => ⟨⟨by omega, by omega⟩, fun _ => ?_⟩⟩⟩⟩
      all_goals
        refine leaf.yield 300 pl68 TTok rfl (hy) rfl rfl rfl rfl rfl rfl rfl (fun _ => rfl) (by kernel_rfl) ?_
        intro bo
        cases bo with
        | true =>
          simp (maxSteps := 9000000) only [go_sem, scrubT, scrubH, Nat.reducePow, Nat.reduceLT, Int.reduceToNat, Int.reduceLE, Int.reduceLT, Int.reduceEq, Int.reduceAdd, Int.reduceSub, Int.reduceMul, Nat.reduceAdd, Nat.reduceMul, Nat.reduceSub, Nat.reduceLeDiff, Nat.reduceEqDiff, Int.reduceNe, ↓reduceIte, ↓way_true, ↓way_false, ↓way_not, ↓way_dec, pl68, lk5, ti5, lk9, ti9, ARG, Nat.reduceAdd, ↓reduceIte]
          subst hJ
          refine ⟨rfl, (n + 1, s.extract ((Lib.indexByte s.data.toList 10).toNat + 1) s.size), rfl, ⟨e1.2, by omega, by simp only; omega⟩, hse⟩
        | false =>
          simp (maxSteps := 9000000) only [go_sem, scrubT, scrubH, Nat.reducePow, Nat.reduceLT, Int.reduceToNat, Int.reduceLE, Int.reduceLT, Int.reduceEq, Int.reduceAdd, Int.reduceSub, Int.reduceMul, Nat.reduceAdd, Nat.reduceMul, Nat.reduceSub, Nat.reduceLeDiff, Nat.reduceEqDiff, Int.reduceNe, ↓reduceIte, ↓way_true, ↓way_false, ↓way_not, ↓way_dec, pl68, lk5, ti5, lk9, ti9, ARG, Nat.reduceAdd, ↓reduceIte]
          subst hQ
          simp only [retQ, ares, aress, ares1, lkp, Option.getD_some, Nat.reduceEqDiff, ↓reduceIte, true_and, lk5, ti5, lk9, ti9]
          exact ⟨rfl, .cells [vs (s.extract ((Lib.indexByte s.data.toList 10).toNat + 1) s.size)], .inr (by simp [AM.keepH, lkp, ARG])⟩
    · have hi' : (0 ≤ Lib.indexByte s.data.toList 10) = False := eq_false hi
      have e1 : (linesOf text)[n] = s ∧ (linesOf text).drop (n + 1) = [] := by
        rw [hd, linesOf_last h0 hi] at h1
        exact List.cons.inj h1
      simp (maxSteps := 9000000) only [go_sem, scrubT, scrubH, Nat.reducePow, Nat.reduceLT, Int.reduceToNat, Int.reduceLE, Int.reduceLT, Int.reduceEq, Int.reduceAdd, Int.reduceSub, Int.reduceMul, Nat.reduceAdd, Nat.reduceMul, Nat.reduceSub, Nat.reduceLeDiff, Nat.reduceEqDiff, Int.reduceNe, ↓reduceIte, ↓way_true, ↓way_false, ↓way_not, ↓way_dec, pl68, lk5, ti5, lk9, ti9, hi']
      rw [e1.1] at hy
      refine leaf.yield 300 pl68 TTok rfl (hy) rfl rfl rfl rfl rfl rfl rfl (fun _ => rfl) (by kernel_rfl) ?_
      intro bo
      cases bo with
      | true =>
        simp (maxSteps := 9000000) only [go_sem, scrubT, scrubH, Nat.reducePow, Nat.reduceLT, Int.reduceToNat, Int.reduceLE, Int.reduceLT, Int.reduceEq, Int.reduceAdd, Int.reduceSub, Int.reduceMul, Nat.reduceAdd, Nat.reduceMul, Nat.reduceSub, Nat.reduceLeDiff, Nat.reduceEqDiff, Int.reduceNe, ↓reduceIte, ↓way_true, ↓way_false, ↓way_not, ↓way_dec, pl68, lk5, ti5, lk9, ti9, ARG, Nat.reduceAdd, ↓reduceIte]
        subst hJ
        refine ⟨rfl, (n + 1, B []), rfl, ⟨?_, by omega, Nat.zero_le _⟩, Nat.pos_of_ne_zero h0⟩
        rw [e1.2]; rfl
      | false =>
        simp (maxSteps := 9000000) only [go_sem, scrubT, scrubH, Nat.reducePow, Nat.reduceLT, Int.reduceToNat, Int.reduceLE, Int.reduceLT, Int.reduceEq, Int.reduceAdd, Int.reduceSub, Int.reduceMul, Nat.reduceAdd, Nat.reduceMul, Nat.reduceSub, Nat.reduceLeDiff, Nat.reduceEqDiff, Int.reduceNe, ↓reduceIte, ↓way_true, ↓way_false, ↓way_not, ↓way_dec, pl68, lk5, ti5, lk9, ti9, ARG, Nat.reduceAdd, ↓reduceIte]
        subst hQ
        simp only [retQ, ares, aress, ares1, lkp, Option.getD_some, Nat.reduceEqDiff, ↓reduceIte, true_and, lk5, ti5, lk9, ti9]
        exact ⟨rfl, .cells [vs (B [])], .inr (by simp [AM.keepH, lkp, ARG])⟩
end Go.Proofs.YthhcbgdngmajlaaDoor
