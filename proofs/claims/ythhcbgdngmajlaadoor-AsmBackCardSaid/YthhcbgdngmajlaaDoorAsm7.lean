/- Programs' texts. No statement of the seat stands here. -/
import Derived.Test.YthhcbgdngmajlaaDoorAsm6
import Derived.Test.YthhcbgdngmajlaaDoorAsmB
import Derived.Test.YthhcbgdngmajlaaDoorAmC
set_option linter.unusedSimpArgs false
set_option linter.unusedSectionVars false
set_option maxRecDepth 100000
namespace Go.Proofs.YthhcbgdngmajlaaDoor
open Go Go.AM
variable [SE]

/-- A row of instructions, as data. -/
def rowsOf (l : List In) : V := .d (.sl 4 (l.map In.row))
/-- Their text. -/
def textOf : List In → List UInt8
  | [] => []
  | x :: r => (lineOf x).data.toList ++ 10 :: textOf r

theorem textOf_append : ∀ (l m : List In), textOf (l ++ m) = textOf l ++ textOf m
  | [], m => rfl
  | x :: r, m => by simp [textOf, textOf_append r m]
theorem row_at {l : List In} {n : Nat} (h : n < l.length) : (l.map In.row).getD n [] = [.val (.int .u16 l[n].code), .val (.int .u8 l[n].jt), .val (.int .u8 l[n].jf), .val (.int .u32 l[n].k)] := by
  simp [List.getD, h, In.row]
theorem lineOf_small {x : In} (hx : x.ok) : (lineOf x).size ≤ 8589934592 := by
  have b1 := name_small hx.c0
  have b2 := dec_size x.k.toNat
  have b3 := dec_size x.jt.toNat
  have b4 := dec_size x.jf.toNat
  have b5 := hx.k1; have b6 := hx.t1; have b7 := hx.f1; have b9 := hx.k0
  have b8 : (B [32]).size = 1 := rfl
  unfold lineOf
  simp only
  split <;> split <;> (try simp only [ByteArray.size_append]) <;> omega
theorem textOf_small : ∀ (l : List In), (∀ x ∈ l, x.ok) → (textOf l).length ≤ l.length * 8589934593
  | [], _ => by simp [textOf]
  | x :: r, h => by
    have h1 := lineOf_small (h x (by simp))
    have h2 := textOf_small r (fun y hy => h y (by simp [hy]))
    have h3 : (lineOf x).data.toList.length = (lineOf x).size := Array.length_toList
    simp only [textOf, List.length_append, List.length_cons, h3]
    omega

set_option maxHeartbeats 8000000 in
theorem pc15 (l : List In) (hl : ∀ x ∈ l, x.ok) (hn : l.length ≤ 1000) : PC Tryd.prog 15 [] [rowsOf l] (fun r h => h = [] ∧ r = if l.all right then (if 255 < l.length ∨ 8192 < (textOf l).length then .tup [vs (B []), vi 3] else .tup [vs ⟨(textOf l).toArray⟩, vi 0]) else .tup [vs (B []), vi 2]) := by
  refine PC.pure ?_
  refine PC.go 7 [] TTok rfl Tryd.func15 (by kernel_rfl) rfl Tryd.ntmps15 (rs := [.tmp 2, .tmp 3]) rfl rfl rfl (by kernel_rfl) ?_
  intro Q hQ
  simp (maxSteps := 9000000) only [go_sem, scrubT, scrubH, Nat.reducePow, Nat.reduceLT, Int.reduceToNat, Int.reduceLE, Int.reduceLT, Int.reduceEq, Int.reduceAdd, Int.reduceSub, Int.reduceMul, Nat.reduceAdd, Nat.reduceMul, Nat.reduceSub, Nat.reduceLeDiff, Nat.reduceEqDiff, Int.reduceNe, ↓reduceIte, ↓way_true, ↓way_false, ↓way_not, ↓way_dec, lk5, ti5, lk9, ti9, lk24, ti24, lk25, ti25, lk29, ti29, lk30, ti30, lk32, ti32, lk73, ti73, lk74, ti74, lk76, ti76]
  refine leaf.allocOpq 300 [] TTok rfl (d := 4) (t := 76) (i := ti76) (Bld []) (fun S w b h => new_bld h) rfl rfl rfl rfl lk76 rfl (by kernel_rfl) ?_
  simp (maxSteps := 9000000) only [go_sem, scrubT, scrubH, Nat.reducePow, Nat.reduceLT, Int.reduceToNat, Int.reduceLE, Int.reduceLT, Int.reduceEq, Int.reduceAdd, Int.reduceSub, Int.reduceMul, Nat.reduceAdd, Nat.reduceMul, Nat.reduceSub, Nat.reduceLeDiff, Nat.reduceEqDiff, Int.reduceNe, ↓reduceIte, ↓way_true, ↓way_false, ↓way_not, ↓way_dec, lk5, ti5, lk9, ti9, lk24, ti24, lk25, ti25, lk29, ti29, lk30, ti30, lk32, ti32, lk73, ti73, lk74, ti74, lk76, ti76, rowsOf, List.length_map]
  refine leaf.loop 300 [] TTok rfl (α := Nat) [0, 4, 9, 10, 11] [4] (fun n => { n := 35, t := [(0, rowsOf l), (4, .ptr 4 0), (9, rowsOf l), (10, vi l.length), (11, vi n)], h := [(4, .opq (Bld (textOf (l.take n))))] }) (fun n => n ≤ l.length ∧ (l.take n).all right) (fun n => l.length - n) 0 rfl rfl ⟨Nat.zero_le _, rfl⟩ rfl (by kernel_rfl) ?_
  rintro n ⟨h1, h2⟩ J hJ
  by_cases hlt : n < l.length
  · have hlt' : ((n : Int) < (l.length : Int)) = True := eq_true (by omega)
    have hx0 := hl l[n] (List.getElem_mem hlt)
    have hrow := row_at hlt
    have hbig := textOf_small (l.take n) (fun x hx => hl x (List.mem_of_mem_take hx))
    have hlen : (l.take n).length = n := by rw [List.length_take]; omega
    have htk : textOf (l.take (n + 1)) = textOf (l.take n) ++ ((lineOf l[n]).data.toList ++ [10]) := by rw [List.take_succ_eq_append_getElem hlt, textOf_append]; simp [textOf]
    have hln := lineOf_small hx0
    simp (maxSteps := 9000000) only [go_sem, scrubT, scrubH, Nat.reducePow, Nat.reduceLT, Int.reduceToNat, Int.reduceLE, Int.reduceLT, Int.reduceEq, Int.reduceAdd, Int.reduceSub, Int.reduceMul, Nat.reduceAdd, Nat.reduceMul, Nat.reduceSub, Nat.reduceLeDiff, Nat.reduceEqDiff, Int.reduceNe, ↓reduceIte, ↓way_true, ↓way_false, ↓way_not, ↓way_dec, lk5, ti5, lk9, ti9, lk24, ti24, lk25, ti25, lk29, ti29, lk30, ti30, lk32, ti32, lk73, ti73, lk74, ti74, lk76, ti76, rowsOf, List.length_map, hlt', hrow, Int.toNat_natCast]
    repeat (first | refine ⟨by omega, fun _ => ?_⟩ | refine ⟨by omega, ?_⟩)
    refine leaf.call1 300 [] TTok rfl (pc16 l[n] hx0) rfl rfl rfl rfl rfl rfl rfl (by kernel_rfl) ?_
    rintro r h' ⟨rfl, rfl⟩
    refine ⟨rfl, ?_⟩
    by_cases hr : right l[n] = true
    · simp (maxSteps := 9000000) only [hr, ↓reduceIte, go_sem, scrubT, scrubH, Nat.reducePow, Nat.reduceLT, Int.reduceToNat, Int.reduceLE, Int.reduceLT, Int.reduceEq, Int.reduceAdd, Int.reduceSub, Int.reduceMul, Nat.reduceAdd, Nat.reduceMul, Nat.reduceSub, Nat.reduceLeDiff, Nat.reduceEqDiff, Int.reduceNe, ↓reduceIte, ↓way_true, ↓way_false, ↓way_not, ↓way_dec, lk5, ti5, lk9, ti9, lk24, ti24, lk25, ti25, lk29, ti29, lk30, ti30, lk32, ti32, lk73, ti73, lk74, ti74, lk76, ti76]
      have e1 : (lineOf l[n] ++ { data := #[10] }).size = (lineOf l[n]).size + 1 := by rw [ByteArray.size_append]; rfl
      refine ⟨by unfold LMAX; omega, fun _ => ?_⟩
      refine leaf.callH 300 [] TTok rfl (pc38 (textOf (l.take n)) (lineOf l[n] ++ { data := #[10] }) (by rw [e1]; omega) (by rw [e1]; omega)) [(ARG, 4)] rfl rfl rfl rfl rfl rfl ⟨rfl, trivial⟩ rfl (by kernel_rfl) ?_
      rintro r h' ⟨rfl, rfl⟩
      refine ⟨[(ARG, 4)], rfl, rfl, ?_⟩
      simp (maxSteps := 9000000) only [go_sem, scrubT, scrubH, Nat.reducePow, Nat.reduceLT, Int.reduceToNat, Int.reduceLE, Int.reduceLT, Int.reduceEq, Int.reduceAdd, Int.reduceSub, Int.reduceMul, Nat.reduceAdd, Nat.reduceMul, Nat.reduceSub, Nat.reduceLeDiff, Nat.reduceEqDiff, Int.reduceNe, ↓reduceIte, ↓way_true, ↓way_false, ↓way_not, ↓way_dec, lk5, ti5, lk9, ti9, lk24, ti24, lk25, ti25, lk29, ti29, lk30, ti30, lk32, ti32, lk73, ti73, lk74, ti74, lk76, ti76]
      refine ⟨in_i64 (by omega) (by omega), fun _ => ?_⟩
      subst hJ
      refine ⟨rfl, n + 1, ?_, ⟨by omega, ?_⟩, by omega⟩
      · rw [htk]; rfl
      · rw [List.take_succ_eq_append_getElem hlt, List.all_append, h2]; simp [hr]
    · simp (maxSteps := 9000000) only [hr, ↓reduceIte, go_sem, scrubT, scrubH, Nat.reducePow, Nat.reduceLT, Int.reduceToNat, Int.reduceLE, Int.reduceLT, Int.reduceEq, Int.reduceAdd, Int.reduceSub, Int.reduceMul, Nat.reduceAdd, Nat.reduceMul, Nat.reduceSub, Nat.reduceLeDiff, Nat.reduceEqDiff, Int.reduceNe, ↓reduceIte, ↓way_true, ↓way_false, ↓way_not, ↓way_dec, lk5, ti5, lk9, ti9, lk24, ti24, lk25, ti25, lk29, ti29, lk30, ti30, lk32, ti32, lk73, ti73, lk74, ti74, lk76, ti76]
      have ha : l.all right = false := by
        rw [Bool.eq_false_iff]
        intro h
        exact hr (List.all_eq_true.1 h _ (List.getElem_mem hlt))
      subst hQ
      simp only [retQ, ares, aress, ares1, lkp, Option.getD_some, Nat.reduceEqDiff, ↓reduceIte, true_and, lk5, ti5, lk9, ti9, lk24, ti24, lk25, ti25, lk29, ti29, lk30, ti30, lk32, ti32, lk73, ti73, lk74, ti74, lk76, ti76]
      simp [ha, V.norm, normL, V.refs, refsL]
  · have hlt' : ((n : Int) < (l.length : Int)) = False := eq_false (by omega)
    obtain rfl : n = l.length := by omega
    rw [List.take_length] at h2
    by_cases h255 : 255 < l.length
    · have h255' : ((255 : Int) < (l.length : Int)) = True := eq_true (by omega)
      simp (maxSteps := 9000000) only [go_sem, scrubT, scrubH, Nat.reducePow, Nat.reduceLT, Int.reduceToNat, Int.reduceLE, Int.reduceLT, Int.reduceEq, Int.reduceAdd, Int.reduceSub, Int.reduceMul, Nat.reduceAdd, Nat.reduceMul, Nat.reduceSub, Nat.reduceLeDiff, Nat.reduceEqDiff, Int.reduceNe, ↓reduceIte, ↓way_true, ↓way_false, ↓way_not, ↓way_dec, lk5, ti5, lk9, ti9, lk24, ti24, lk25, ti25, lk29, ti29, lk30, ti30, lk32, ti32, lk73, ti73, lk74, ti74, lk76, ti76, rowsOf, List.length_map, hlt', h255']
      subst hQ
      simp only [retQ, ares, aress, ares1, lkp, Option.getD_some, Nat.reduceEqDiff, ↓reduceIte, true_and, lk5, ti5, lk9, ti9, lk24, ti24, lk25, ti25, lk29, ti29, lk30, ti30, lk32, ti32, lk73, ti73, lk74, ti74, lk76, ti76]
      simp [h2, h255, V.norm, normL, V.refs, refsL]
    · have h255' : ((255 : Int) < (l.length : Int)) = False := eq_false (by omega)
      simp (maxSteps := 9000000) only [go_sem, scrubT, scrubH, Nat.reducePow, Nat.reduceLT, Int.reduceToNat, Int.reduceLE, Int.reduceLT, Int.reduceEq, Int.reduceAdd, Int.reduceSub, Int.reduceMul, Nat.reduceAdd, Nat.reduceMul, Nat.reduceSub, Nat.reduceLeDiff, Nat.reduceEqDiff, Int.reduceNe, ↓reduceIte, ↓way_true, ↓way_false, ↓way_not, ↓way_dec, lk5, ti5, lk9, ti9, lk24, ti24, lk25, ti25, lk29, ti29, lk30, ti30, lk32, ti32, lk73, ti73, lk74, ti74, lk76, ti76, rowsOf, List.length_map, hlt', h255']
      refine leaf.callH 300 [] TTok rfl (pc39 (textOf (l.take l.length))) [(ARG, 4)] rfl rfl rfl rfl rfl rfl ⟨rfl, trivial⟩ rfl (by kernel_rfl) ?_
      rintro r h' ⟨rfl, rfl⟩
      refine ⟨[(ARG, 4)], rfl, rfl, ?_⟩
      simp (maxSteps := 9000000) only [go_sem, scrubT, scrubH, Nat.reducePow, Nat.reduceLT, Int.reduceToNat, Int.reduceLE, Int.reduceLT, Int.reduceEq, Int.reduceAdd, Int.reduceSub, Int.reduceMul, Nat.reduceAdd, Nat.reduceMul, Nat.reduceSub, Nat.reduceLeDiff, Nat.reduceEqDiff, Int.reduceNe, ↓reduceIte, ↓way_true, ↓way_false, ↓way_not, ↓way_dec, lk5, ti5, lk9, ti9, lk24, ti24, lk25, ti25, lk29, ti29, lk30, ti30, lk32, ti32, lk73, ti73, lk74, ti74, lk76, ti76, List.take_length]
      refine ⟨fun h8 => ?_, fun h8 => ?_⟩
      · subst hQ
        simp only [retQ, ares, aress, ares1, lkp, Option.getD_some, Nat.reduceEqDiff, ↓reduceIte, true_and, lk5, ti5, lk9, ti9, lk24, ti24, lk25, ti25, lk29, ti29, lk30, ti30, lk32, ti32, lk73, ti73, lk74, ti74, lk76, ti76]
        have h8' : 8192 < (textOf l).length := by omega
        simp [h2, h8', V.norm, normL, V.refs, refsL]
      · refine leaf.callH 300 [] TTok rfl (pc40 (textOf l)) [(ARG, 4)] rfl rfl rfl rfl rfl rfl ⟨rfl, trivial⟩ rfl (by kernel_rfl) ?_
        rintro r h' ⟨rfl, rfl⟩
        refine ⟨[(ARG, 4)], rfl, rfl, ?_⟩
        simp (maxSteps := 9000000) only [go_sem, scrubT, scrubH, Nat.reducePow, Nat.reduceLT, Int.reduceToNat, Int.reduceLE, Int.reduceLT, Int.reduceEq, Int.reduceAdd, Int.reduceSub, Int.reduceMul, Nat.reduceAdd, Nat.reduceMul, Nat.reduceSub, Nat.reduceLeDiff, Nat.reduceEqDiff, Int.reduceNe, ↓reduceIte, ↓way_true, ↓way_false, ↓way_not, ↓way_dec, lk5, ti5, lk9, ti9, lk24, ti24, lk25, ti25, lk29, ti29, lk30, ti30, lk32, ti32, lk73, ti73, lk74, ti74, lk76, ti76]
        subst hQ
        simp only [retQ, ares, aress, ares1, lkp, Option.getD_some, Nat.reduceEqDiff, ↓reduceIte, true_and, lk5, ti5, lk9, ti9, lk24, ti24, lk25, ti25, lk29, ti29, lk30, ti30, lk32, ti32, lk73, ti73, lk74, ti74, lk76, ti76]
        have h8' : ¬ 8192 < (textOf l).length := by omega
        have h9' : ¬ (255 < l.length ∨ 8192 < (textOf l).length) := by omega
        simp [h2, h9', V.norm, normL, V.refs, refsL]
end Go.Proofs.YthhcbgdngmajlaaDoor
