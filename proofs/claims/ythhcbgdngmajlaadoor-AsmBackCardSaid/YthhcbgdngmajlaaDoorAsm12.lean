/- Lines and where they begin. No statement of the seat stands here. -/
import Derived.Test.YthhcbgdngmajlaaDoorAsm11
set_option linter.unusedSimpArgs false
set_option linter.unusedSectionVars false
set_option maxRecDepth 100000
namespace Go.Proofs.YthhcbgdngmajlaaDoor
open Go Go.AM

def sizes : List ByteArray → Nat
  | [] => 0
  | s :: r => s.size + sizes r
/-- Lines and their places. -/
def posOf : Nat → List ByteArray → List (List V)
  | _, [] => []
  | a, s :: r => [vi (a : Int), vs s] :: posOf (a + s.size) r
theorem posOf_length : ∀ (l : List ByteArray) (a : Nat), (posOf a l).length = l.length
  | [], _ => rfl
  | s :: r, a => by simp [posOf, posOf_length r]
theorem posOf_get : ∀ (l : List ByteArray) (a n : Nat) (h : n < l.length), (posOf a l).getD n [] = [vi ((a + sizes (l.take n) : Nat) : Int), vs l[n]]
  | s :: r, a, 0, h => by simp [posOf, sizes]
  | s :: r, a, n + 1, h => by
    have := posOf_get r (a + s.size) n (by simpa using h)
    simp only [posOf, List.getD_cons_succ, this, List.take_succ_cons, sizes, List.getElem_cons_succ]
    rw [Nat.add_assoc]
theorem sizes_append : ∀ (l m : List ByteArray), sizes (l ++ m) = sizes l + sizes m
  | [], m => by simp [sizes]
  | s :: r, m => by simp [sizes, sizes_append r m]; omega
theorem sizes_take_succ {l : List ByteArray} {n : Nat} (h : n < l.length) : sizes (l.take (n + 1)) = sizes (l.take n) + l[n].size := by
  rw [List.take_succ_eq_append_getElem h, sizes_append]; simp [sizes]
theorem sizes_linesF : ∀ (n : Nat) (s : ByteArray), sizes (linesF n s) ≤ s.size
  | 0, s => by simp [linesF, sizes]
  | n + 1, s => by
    unfold linesF
    split
    · simp [sizes]
    · split
      · have := sizes_linesF n (s.extract ((Lib.indexByte s.data.toList 10).toNat + 1) s.size)
        have hlt := indexByte_lt s.data.toList 10
        have hl : s.data.toList.length = s.size := Array.length_toList
        rw [ByteArray.size_extract] at this
        simp only [sizes, ByteArray.size_extract]; omega
      · simp [sizes]
theorem sizes_take_le (l : List ByteArray) (n : Nat) : sizes (l.take n) ≤ sizes l := by
  have := sizes_append (l.take n) (l.drop n)
  rw [List.take_append_drop] at this; omega
variable [SE]

theorem pc54 (s : ByteArray) : PC Tryd.prog 54 [] [vs s] (fun r h => r = .fn 68 [] [.ptr 1 0] ∧ h = [(1, .cells [vs s])]) := by
  refine PC.go 300 [] TTok rfl Tryd.func54 (by kernel_rfl) rfl Tryd.ntmps54 (rs := [.tmp 2]) rfl rfl rfl (by kernel_rfl) ?_
  intro Q hQ
  simp (maxSteps := 9000000) only [go_sem, scrubT, scrubH, Nat.reducePow, Nat.reduceLT, Int.reduceToNat, Int.reduceLE, Int.reduceLT, Int.reduceEq, Int.reduceAdd, Int.reduceSub, Int.reduceMul, Nat.reduceAdd, Nat.reduceMul, Nat.reduceSub, Nat.reduceLeDiff, Nat.reduceEqDiff, Int.reduceNe, ↓reduceIte, ↓way_true, ↓way_false, ↓way_not, ↓way_dec, lk9, ti9]
  subst hQ
  simp only [retQ, ares, aress, ares1, lkp, Option.getD_some, Nat.reduceEqDiff, ↓reduceIte, true_and, lk9, ti9]

theorem pc26 (s : ByteArray) : PC Tryd.prog 26 [] [vs s] (fun r h => h = [] ∧ r = .fn 53 [] [.rp [.val (.string s)]]) := by
  refine PC.frz (Q := fun r h => r = .fn 53 [] [.ptr 1 0] ∧ h = [(1, .cells [vs s])]) ?_ ?_
  · refine PC.go 300 [] TTok rfl Tryd.func26 (by kernel_rfl) rfl Tryd.ntmps26 (rs := [.tmp 2]) rfl rfl rfl (by kernel_rfl) ?_
    intro Q hQ
    simp (maxSteps := 9000000) only [go_sem, scrubT, scrubH, Nat.reducePow, Nat.reduceLT, Int.reduceToNat, Int.reduceLE, Int.reduceLT, Int.reduceEq, Int.reduceAdd, Int.reduceSub, Int.reduceMul, Nat.reduceAdd, Nat.reduceMul, Nat.reduceSub, Nat.reduceLeDiff, Nat.reduceEqDiff, Int.reduceNe, ↓reduceIte, ↓way_true, ↓way_false, ↓way_not, ↓way_dec, lk9, ti9]
    subst hQ
    simp only [retQ, ares, aress, ares1, lkp, Option.getD_some, Nat.reduceEqDiff, ↓reduceIte, true_and, lk9, ti9]
  · rintro r h ⟨rfl, rfl⟩
    exact .inr ⟨1, _, _, rfl, rfl, ⟨trivial, trivial, trivial⟩, ⟨.inl rfl, trivial⟩, rfl, rfl⟩

set_option maxHeartbeats 8000000 in
theorem it53 (text : ByteArray) (ht : text.size ≤ 1000000) : Iter Tryd.prog 53 [] [.rp [.val (.string text)]] (posOf 0 (linesOf text)) := by
  intro J Jx hY
  refine PC.keepH [ARG] ?_
  refine PC.go 300 [] TTok rfl Tryd.func53 (by kernel_rfl) rfl Tryd.ntmps53 (rs := []) rfl rfl rfl (by kernel_rfl) ?_
  intro Q hQ
  simp (maxSteps := 9000000) only [go_sem, scrubT, scrubH, Nat.reducePow, Nat.reduceLT, Int.reduceToNat, Int.reduceLE, Int.reduceLT, Int.reduceEq, Int.reduceAdd, Int.reduceSub, Int.reduceMul, Nat.reduceAdd, Nat.reduceMul, Nat.reduceSub, Nat.reduceLeDiff, Nat.reduceEqDiff, Int.reduceNe, ↓reduceIte, ↓way_true, ↓way_false, ↓way_not, ↓way_dec, lk3, ti3, lk9, ti9, lk95, ti95, List.nil_append]
  refine leaf.callH 300 [] TTok rfl (pc54 text) [] rfl rfl rfl rfl rfl rfl trivial rfl (by kernel_rfl) ?_
  rintro r h ⟨rfl, rfl⟩
  refine ⟨[(1, 6)], rfl, rfl, ?_⟩
  simp (maxSteps := 9000000) only [go_sem, scrubT, scrubH, Nat.reducePow, Nat.reduceLT, Int.reduceToNat, Int.reduceLE, Int.reduceLT, Int.reduceEq, Int.reduceAdd, Int.reduceSub, Int.reduceMul, Nat.reduceAdd, Nat.reduceMul, Nat.reduceSub, Nat.reduceLeDiff, Nat.reduceEqDiff, Int.reduceNe, ↓reduceIte, ↓way_true, ↓way_false, ↓way_not, ↓way_dec, lk3, ti3, lk9, ti9, lk95, ti95]
  have hs := sizes_linesF text.size text
  have hal : ∀ n, ((sizes ((linesOf text).take n) : Nat) : Int) ≤ 1000000 := fun n => by
    have := sizes_take_le (linesOf text) n
    unfold linesOf at this ⊢; omega
  have hlen : ((linesOf text).map fun s => [vs s]).length = (linesOf text).length := by simp
  refine leaf.rangeFunc1 300 [] TTok rfl (it68 text ht) [2, 3] [2, 3, ARG] (fun _ => True) (fun n => [(100002, .cells [.yld 200000]), (100003, .cells [vi ((sizes ((linesOf text).take n) : Nat) : Int)]), (200000, .opq (J n))]) rfl rfl rfl rfl rfl rfl ?_ rfl ?_ rfl rfl rfl rfl (by kernel_rfl) trivial ?_ ?_
  · intro n hn; rw [hlen] at hn; simp [hn]
  · intro n hn; rw [hlen] at hn; simp [hn, refsL, V.refs]
  · intro n hn _ J' hJ
    rw [hlen] at hn
    have e : ((linesOf text).map fun s => [vs s]).getD n [] = [vs (linesOf text)[n]] := by simp [hn]
    have hy := hY n (by rw [posOf_length]; exact hn)
    rw [posOf_get _ _ _ hn, Nat.zero_add] at hy
    rw [e]
    simp (maxSteps := 9000000) only [go_sem, scrubT, scrubH, Nat.reducePow, Nat.reduceLT, Int.reduceToNat, Int.reduceLE, Int.reduceLT, Int.reduceEq, Int.reduceAdd, Int.reduceSub, Int.reduceMul, Nat.reduceAdd, Nat.reduceMul, Nat.reduceSub, Nat.reduceLeDiff, Nat.reduceEqDiff, Int.reduceNe, ↓reduceIte, ↓way_true, ↓way_false, ↓way_not, ↓way_dec, lk3, ti3, lk9, ti9, lk95, ti95, bindT, renT, up, ARG, Nat.reduceAdd, AS.keep, keepT, AM.keepH]
    subst hJ
    intro Q' hQ'
    simp (maxSteps := 9000000) only [go_sem, scrubT, scrubH, Nat.reducePow, Nat.reduceLT, Int.reduceToNat, Int.reduceLE, Int.reduceLT, Int.reduceEq, Int.reduceAdd, Int.reduceSub, Int.reduceMul, Nat.reduceAdd, Nat.reduceMul, Nat.reduceSub, Nat.reduceLeDiff, Nat.reduceEqDiff, Int.reduceNe, ↓reduceIte, ↓way_true, ↓way_false, ↓way_not, ↓way_dec, lk3, ti3, lk9, ti9, lk95, ti95, bindT, renT, up, ARG, Nat.reduceAdd]
    refine leaf.yield 300 [] TTok rfl (hy) rfl rfl rfl rfl rfl rfl rfl (fun _ => rfl) (by kernel_rfl) ?_
    intro bo
    cases bo with
    | false =>
      simp (maxSteps := 9000000) only [go_sem, scrubT, scrubH, Nat.reducePow, Nat.reduceLT, Int.reduceToNat, Int.reduceLE, Int.reduceLT, Int.reduceEq, Int.reduceAdd, Int.reduceSub, Int.reduceMul, Nat.reduceAdd, Nat.reduceMul, Nat.reduceSub, Nat.reduceLeDiff, Nat.reduceEqDiff, Int.reduceNe, ↓reduceIte, ↓way_true, ↓way_false, ↓way_not, ↓way_dec, lk3, ti3, lk9, ti9, lk95, ti95, up, ARG, Nat.reduceAdd, ↓reduceIte]
      subst hQ'
      refine roundI_ret [100002, 100003, 200000] rfl rfl rfl rfl ?_
      subst hQ
      exact ⟨rfl, .inr rfl⟩
    | true =>
      have e1 := sizes_take_succ hn
      have e2 := hal (n + 1)
      have e3 : ((sizes ((linesOf text).take n) : Nat) : Int) + (((linesOf text)[n].size : Nat) : Int) = ((sizes ((linesOf text).take (n + 1)) : Nat) : Int) := by omega
      simp (maxSteps := 9000000) only [go_sem, scrubT, scrubH, Nat.reducePow, Nat.reduceLT, Int.reduceToNat, Int.reduceLE, Int.reduceLT, Int.reduceEq, Int.reduceAdd, Int.reduceSub, Int.reduceMul, Nat.reduceAdd, Nat.reduceMul, Nat.reduceSub, Nat.reduceLeDiff, Nat.reduceEqDiff, Int.reduceNe, ↓reduceIte, ↓way_true, ↓way_false, ↓way_not, ↓way_dec, lk3, ti3, lk9, ti9, lk95, ti95, up, ARG, Nat.reduceAdd, ↓reduceIte, e3]
      refine ⟨in_i64 (by omega) (by omega), fun _ => ?_⟩
      subst hQ'
      exact roundI_normal [100002, 100003, 200000] trivial rfl rfl rfl
  · intro _
    simp (maxSteps := 9000000) only [go_sem, scrubT, scrubH, Nat.reducePow, Nat.reduceLT, Int.reduceToNat, Int.reduceLE, Int.reduceLT, Int.reduceEq, Int.reduceAdd, Int.reduceSub, Int.reduceMul, Nat.reduceAdd, Nat.reduceMul, Nat.reduceSub, Nat.reduceLeDiff, Nat.reduceEqDiff, Int.reduceNe, ↓reduceIte, ↓way_true, ↓way_false, ↓way_not, ↓way_dec, lk3, ti3, lk9, ti9, lk95, ti95]
    subst hQ
    refine ⟨rfl, .inl ?_⟩
    rw [posOf_length, hlen]
    rfl
end Go.Proofs.YthhcbgdngmajlaaDoor
