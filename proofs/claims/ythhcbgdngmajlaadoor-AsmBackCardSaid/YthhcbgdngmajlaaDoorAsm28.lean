/- Programs and texts lead back to one another: the law, walked to its end. No statement of the seat stands here. -/
import Derived.Test.YthhcbgdngmajlaaDoorAsm27
import Derived.Test.YthhcbgdngmajlaaDoorAsm20
set_option linter.unusedSimpArgs false
set_option linter.unusedSectionVars false
set_option maxRecDepth 100000
namespace Go.Proofs.YthhcbgdngmajlaaDoor
open Go Go.AM

/-- A row of which the first have been stripped. -/
def mixed (l : List In) (n : Nat) : List In := (l.take n).map bare ++ l.drop n
theorem mixed_length (l : List In) (n : Nat) : (mixed l n).length = l.length := by
  unfold mixed; rw [List.length_append, List.length_map, List.length_take, List.length_drop]; omega
theorem mixed_at {l : List In} {n : Nat} (h : n < l.length) : ((mixed l n).map In.row).getD n [] = l[n].row := by
  have hl : ((l.take n).map bare).length = n := by rw [List.length_map, List.length_take]; omega
  rw [List.getD_eq_getElem?_getD, List.getElem?_map]
  unfold mixed
  rw [List.getElem?_append_right (by omega), hl, Nat.sub_self, List.drop_eq_getElem_cons h]
  rfl
theorem mixed_set {l : List In} {n : Nat} (h : n < l.length) : ((mixed l n).map In.row).set n (bare l[n]).row = (mixed l (n + 1)).map In.row := by
  have hl : ((l.take n).map bare).length = n := by rw [List.length_map, List.length_take]; omega
  rw [← List.map_set]
  congr 1
  unfold mixed
  rw [List.set_append_right _ _ (by omega), hl, Nat.sub_self, List.drop_eq_getElem_cons h, List.set_cons_zero, List.take_succ_eq_append_getElem h, List.map_append, List.append_assoc]
  rfl
theorem mixed_all (l : List In) : mixed l l.length = l.map bare := by unfold mixed; simp
variable [SE]

set_option maxHeartbeats 8000000 in
theorem pc15n : PC Tryd.prog 15 [] [nilV] (fun r h => h = [] ∧ r = .tup [vs (B []), vi 0]) := by
  refine PC.pure ?_
  refine PC.go 7 [] TTok rfl Tryd.func15 (by kernel_rfl) rfl Tryd.ntmps15 (rs := [.tmp 2, .tmp 3]) rfl rfl rfl (by kernel_rfl) ?_
  intro Q hQ
  simp (maxSteps := 9000000) only [go_sem, scrubT, scrubH, Nat.reducePow, Nat.reduceLT, Int.reduceToNat, Int.reduceLE, Int.reduceLT, Int.reduceEq, Int.reduceAdd, Int.reduceSub, Int.reduceMul, Nat.reduceAdd, Nat.reduceMul, Nat.reduceSub, Nat.reduceLeDiff, Nat.reduceEqDiff, Int.reduceNe, ↓reduceIte, ↓way_true, ↓way_false, ↓way_not, ↓way_dec, lk5, ti5, lk9, ti9, lk24, ti24, lk25, ti25, lk29, ti29, lk30, ti30, lk32, ti32, lk73, ti73, lk74, ti74, lk76, ti76]
  refine leaf.allocOpq 300 [] TTok rfl (d := 4) (t := 76) (i := ti76) (Bld []) (fun S w b h => new_bld h) rfl rfl rfl rfl lk76 rfl (by kernel_rfl) ?_
  simp (maxSteps := 9000000) only [nilV, go_sem, scrubT, scrubH, Nat.reducePow, Nat.reduceLT, Int.reduceToNat, Int.reduceLE, Int.reduceLT, Int.reduceEq, Int.reduceAdd, Int.reduceSub, Int.reduceMul, Nat.reduceAdd, Nat.reduceMul, Nat.reduceSub, Nat.reduceLeDiff, Nat.reduceEqDiff, Int.reduceNe, ↓reduceIte, ↓way_true, ↓way_false, ↓way_not, ↓way_dec, lk5, ti5, lk9, ti9, lk24, ti24, lk25, ti25, lk29, ti29, lk30, ti30, lk32, ti32, lk73, ti73, lk74, ti74, lk76, ti76]
  refine leaf.loop 300 [] TTok rfl (α := Nat) [0, 4, 9, 10, 11] [4] (fun n => { n := 35, t := [(0, nilV), (4, .ptr 4 0), (9, nilV), (10, vi 0), (11, vi n)], h := [(4, .opq (Bld []))] }) (fun n => n = 0) (fun n => n) 0 rfl rfl rfl rfl (by kernel_rfl) ?_
  rintro n rfl J hJ
  simp (maxSteps := 9000000) only [nilV, go_sem, scrubT, scrubH, Nat.reducePow, Nat.reduceLT, Int.reduceToNat, Int.reduceLE, Int.reduceLT, Int.reduceEq, Int.reduceAdd, Int.reduceSub, Int.reduceMul, Nat.reduceAdd, Nat.reduceMul, Nat.reduceSub, Nat.reduceLeDiff, Nat.reduceEqDiff, Int.reduceNe, ↓reduceIte, ↓way_true, ↓way_false, ↓way_not, ↓way_dec, lk5, ti5, lk9, ti9, lk24, ti24, lk25, ti25, lk29, ti29, lk30, ti30, lk32, ti32, lk73, ti73, lk74, ti74, lk76, ti76]
  refine leaf.callH 300 [] TTok rfl (pc39 []) [(ARG, 4)] rfl rfl rfl rfl rfl rfl ⟨rfl, trivial⟩ rfl (by kernel_rfl) ?_
  rintro r h' ⟨rfl, rfl⟩
  refine ⟨[(ARG, 4)], rfl, rfl, ?_⟩
  simp (maxSteps := 9000000) only [go_sem, scrubT, scrubH, Nat.reducePow, Nat.reduceLT, Int.reduceToNat, Int.reduceLE, Int.reduceLT, Int.reduceEq, Int.reduceAdd, Int.reduceSub, Int.reduceMul, Nat.reduceAdd, Nat.reduceMul, Nat.reduceSub, Nat.reduceLeDiff, Nat.reduceEqDiff, Int.reduceNe, ↓reduceIte, ↓way_true, ↓way_false, ↓way_not, ↓way_dec, lk5, ti5, lk9, ti9, lk24, ti24, lk25, ti25, lk29, ti29, lk30, ti30, lk32, ti32, lk73, ti73, lk74, ti74, lk76, ti76, List.length_nil]
  refine leaf.callH 300 [] TTok rfl (pc40 []) [(ARG, 4)] rfl rfl rfl rfl rfl rfl ⟨rfl, trivial⟩ rfl (by kernel_rfl) ?_
  rintro r h' ⟨rfl, rfl⟩
  refine ⟨[(ARG, 4)], rfl, rfl, ?_⟩
  simp (maxSteps := 9000000) only [go_sem, scrubT, scrubH, Nat.reducePow, Nat.reduceLT, Int.reduceToNat, Int.reduceLE, Int.reduceLT, Int.reduceEq, Int.reduceAdd, Int.reduceSub, Int.reduceMul, Nat.reduceAdd, Nat.reduceMul, Nat.reduceSub, Nat.reduceLeDiff, Nat.reduceEqDiff, Int.reduceNe, ↓reduceIte, ↓way_true, ↓way_false, ↓way_not, ↓way_dec, lk5, ti5, lk9, ti9, lk24, ti24, lk25, ti25, lk29, ti29, lk30, ti30, lk32, ti32, lk73, ti73, lk74, ti74, lk76, ti76]
  subst hQ
  simp only [retQ, ares, aress, ares1, lkp, Option.getD_some, Nat.reduceEqDiff, ↓reduceIte, true_and, lk5, ti5, lk9, ti9, lk24, ti24, lk25, ti25, lk29, ti29, lk30, ti30, lk32, ti32, lk73, ti73, lk74, ti74, lk76, ti76]
  exact ⟨rfl, rfl⟩

-- NOPL 21
set_option maxHeartbeats 8000000 in
theorem pc21n : PC Tryd.prog 21 [] [rowsOf [], nilV] (fun r h => h = [] ∧ r = vb true) := by
  refine PC.pure ?_
  refine PC.go 300 pl21 TTok rfl Tryd.func21 (by kernel_rfl) rfl Tryd.ntmps21 (rs := [.tmp 4]) rfl rfl rfl (by kernel_rfl) ?_
  intro Q hQ
  simp (maxSteps := 9000000) only [nilV, rowsOf, List.map_nil, go_sem, scrubT, scrubH, Nat.reducePow, Nat.reduceLT, Int.reduceToNat, Int.reduceLE, Int.reduceLT, Int.reduceEq, Int.reduceAdd, Int.reduceSub, Int.reduceMul, Nat.reduceAdd, Nat.reduceMul, Nat.reduceSub, Nat.reduceLeDiff, Nat.reduceEqDiff, Int.reduceNe, ↓reduceIte, ↓way_true, ↓way_false, ↓way_not, ↓way_dec, pl21, lk3, ti3, lk5, ti5, lk9, ti9, lk24, ti24, lk25, ti25, lk29, ti29, lk30, ti30, lk32, ti32, lk73, ti73, lk74, ti74, lk76, ti76]
  refine leaf.loop 300 pl21 TTok rfl (α := Nat) [0, 1, 12, 13] [] (fun n => { n := 26, t := [(0, rowsOf []), (1, nilV), (12, vi 0), (13, vi n)], h := [] }) (fun n => n = 0) (fun n => n) 0 rfl rfl rfl (by kernel_rfl) (by kernel_rfl) ?_
  rintro n rfl J hJ
  simp (maxSteps := 9000000) only [nilV, rowsOf, List.map_nil, go_sem, scrubT, scrubH, Nat.reducePow, Nat.reduceLT, Int.reduceToNat, Int.reduceLE, Int.reduceLT, Int.reduceEq, Int.reduceAdd, Int.reduceSub, Int.reduceMul, Nat.reduceAdd, Nat.reduceMul, Nat.reduceSub, Nat.reduceLeDiff, Nat.reduceEqDiff, Int.reduceNe, ↓reduceIte, ↓way_true, ↓way_false, ↓way_not, ↓way_dec, pl21, lk3, ti3, lk5, ti5, lk9, ti9, lk24, ti24, lk25, ti25, lk29, ti29, lk30, ti30, lk32, ti32, lk73, ti73, lk74, ti74, lk76, ti76]
  subst hQ
  simp only [retQ, ares, aress, ares1, lkp, Option.getD_some, Nat.reduceEqDiff, ↓reduceIte, true_and, lk3, ti3, lk5, ti5, lk9, ti9, lk24, ti24, lk25, ti25, lk29, ti29, lk30, ti30, lk32, ti32, lk73, ti73, lk74, ti74, lk76, ti76]
  exact ⟨rfl, rfl⟩

set_option maxHeartbeats 16000000 in
theorem pc6 (l : List In) (s2 : ByteArray) (hok : ∀ x ∈ l, x.ok) (pc7 : PC Tryd.prog 7 [] [] (fun r h => h = [] ∧ r = vb true)) : PC Tryd.prog 6 [] [rowsOf l, vs s2] (fun r h => h = [] ∧ r = vb true) := by
  refine PC.pure ?_
  refine PC.go 300 [] TTok rfl Tryd.func6 (by kernel_rfl) rfl Tryd.ntmps6 (rs := [.tmp 4]) rfl rfl rfl (by kernel_rfl) ?_
  intro Q hQ
  simp (maxSteps := 9000000) only [go_sem, scrubT, scrubH, Nat.reducePow, Nat.reduceLT, Int.reduceToNat, Int.reduceLE, Int.reduceLT, Int.reduceEq, Int.reduceAdd, Int.reduceSub, Int.reduceMul, Nat.reduceAdd, Nat.reduceMul, Nat.reduceSub, Nat.reduceLeDiff, Nat.reduceEqDiff, Int.reduceNe, ↓reduceIte, ↓way_true, ↓way_false, ↓way_not, ↓way_dec, lk3, ti3, lk5, ti5, lk9, ti9, lk24, ti24, lk25, ti25, lk29, ti29, lk30, ti30, lk32, ti32, lk45, ti45, lk73, ti73, lk74, ti74, lk76, ti76]
  refine leaf.call1 300 [] TTok rfl (pc7) rfl rfl rfl rfl rfl rfl rfl (by kernel_rfl) ?_
  rintro r h' ⟨rfl, rfl⟩
  refine ⟨rfl, ?_⟩
  simp (maxSteps := 9000000) only [go_sem, scrubT, scrubH, Nat.reducePow, Nat.reduceLT, Int.reduceToNat, Int.reduceLE, Int.reduceLT, Int.reduceEq, Int.reduceAdd, Int.reduceSub, Int.reduceMul, Nat.reduceAdd, Nat.reduceMul, Nat.reduceSub, Nat.reduceLeDiff, Nat.reduceEqDiff, Int.reduceNe, ↓reduceIte, ↓way_true, ↓way_false, ↓way_not, ↓way_dec, lk3, ti3, lk5, ti5, lk9, ti9, lk24, ti24, lk25, ti25, lk29, ti29, lk30, ti30, lk32, ti32, lk45, ti45, lk73, ti73, lk74, ti74, lk76, ti76]
  refine leaf.callH 300 [] TTok rfl (pc14o l) [] rfl rfl rfl rfl rfl rfl trivial rfl (by kernel_rfl) ?_
  rintro r h ⟨rfl, rfl⟩
  refine ⟨[(9, 18)], rfl, rfl, ?_⟩
  have hl256 : (l.take 256).length ≤ 256 := List.length_take_le _ _
  have hx1 : ∀ x ∈ l.take 256, x.ok := fun x hx => hok x (List.mem_of_mem_take hx)
  simp (maxSteps := 9000000) only [go_sem, scrubT, scrubH, Nat.reducePow, Nat.reduceLT, Int.reduceToNat, Int.reduceLE, Int.reduceLT, Int.reduceEq, Int.reduceAdd, Int.reduceSub, Int.reduceMul, Nat.reduceAdd, Nat.reduceMul, Nat.reduceSub, Nat.reduceLeDiff, Nat.reduceEqDiff, Int.reduceNe, ↓reduceIte, ↓way_true, ↓way_false, ↓way_not, ↓way_dec, lk3, ti3, lk5, ti5, lk9, ti9, lk24, ti24, lk25, ti25, lk29, ti29, lk30, ti30, lk32, ti32, lk45, ti45, lk73, ti73, lk74, ti74, lk76, ti76]
  generalize l.take 256 = u at *
  refine leaf.loop 300 [] TTok rfl (α := Nat) [0, 1, 20, 21] [18] (fun n => { n := 114, t := [(0, .own 18 4 0 u.length), (1, vs s2), (20, vi u.length), (21, vi n)], h := [(18, .arr 4 ((mixed u n).map In.row))] }) (fun n => n ≤ u.length) (fun n => u.length - n) 0 rfl rfl (Nat.zero_le _) (by kernel_rfl) (by kernel_rfl) ?_
  intro n h1 J hJ
  by_cases hlt : n < u.length
  · have hlt' : ((n : Int) < (u.length : Int)) = True := eq_true (by omega)
    have hrow := mixed_at hlt
    have hset := mixed_set hlt
    have hml := mixed_length u n
    simp only [In.row] at hrow hset
    have hx := hx1 _ (List.getElem_mem hlt)
    simp (maxSteps := 9000000) only [go_sem, scrubT, scrubH, Nat.reducePow, Nat.reduceLT, Int.reduceToNat, Int.reduceLE, Int.reduceLT, Int.reduceEq, Int.reduceAdd, Int.reduceSub, Int.reduceMul, Nat.reduceAdd, Nat.reduceMul, Nat.reduceSub, Nat.reduceLeDiff, Nat.reduceEqDiff, Int.reduceNe, ↓reduceIte, ↓way_true, ↓way_false, ↓way_not, ↓way_dec, lk3, ti3, lk5, ti5, lk9, ti9, lk24, ti24, lk25, ti25, lk29, ti29, lk30, ti30, lk32, ti32, lk45, ti45, lk73, ti73, lk74, ti74, lk76, ti76, hlt', hrow, Int.toNat_natCast, List.length_map, hml, Nat.zero_add]
    repeat (first | refine ⟨by omega, fun _ => ?_⟩ | refine ⟨in_i64 (by omega) (by omega), fun _ => ?_⟩ | refine ⟨by unfold LMAX; omega, fun _ => ?_⟩)
    refine leaf.call1 300 [] TTok rfl (pc20 u[n] hx.c0) rfl rfl rfl rfl rfl rfl rfl (by kernel_rfl) ?_
    rintro r h' ⟨rfl, rfl⟩
    refine ⟨rfl, ?_⟩
    simp (maxSteps := 9000000) only [go_sem, scrubT, scrubH, Nat.reducePow, Nat.reduceLT, Int.reduceToNat, Int.reduceLE, Int.reduceLT, Int.reduceEq, Int.reduceAdd, Int.reduceSub, Int.reduceMul, Nat.reduceAdd, Nat.reduceMul, Nat.reduceSub, Nat.reduceLeDiff, Nat.reduceEqDiff, Int.reduceNe, ↓reduceIte, ↓way_true, ↓way_false, ↓way_not, ↓way_dec, lk3, ti3, lk5, ti5, lk9, ti9, lk24, ti24, lk25, ti25, lk29, ti29, lk30, ti30, lk32, ti32, lk45, ti45, lk73, ti73, lk74, ti74, lk76, ti76, In.row, Int.toNat_natCast, List.length_map, hml, Nat.zero_add, hrow, hset]
    repeat (first | refine ⟨by omega, fun _ => ?_⟩ | refine ⟨in_i64 (by omega) (by omega), fun _ => ?_⟩ | refine ⟨by unfold LMAX; omega, fun _ => ?_⟩)
    subst hJ
    exact ⟨rfl, n + 1, rfl, hlt, by omega⟩
  · have hlt' : ((n : Int) < (u.length : Int)) = False := eq_false (by omega)
    obtain rfl : n = u.length := by omega
    simp (maxSteps := 9000000) only [go_sem, scrubT, scrubH, Nat.reducePow, Nat.reduceLT, Int.reduceToNat, Int.reduceLE, Int.reduceLT, Int.reduceEq, Int.reduceAdd, Int.reduceSub, Int.reduceMul, Nat.reduceAdd, Nat.reduceMul, Nat.reduceSub, Nat.reduceLeDiff, Nat.reduceEqDiff, Int.reduceNe, ↓reduceIte, ↓way_true, ↓way_false, ↓way_not, ↓way_dec, lk3, ti3, lk5, ti5, lk9, ti9, lk24, ti24, lk25, ti25, lk29, ti29, lk30, ti30, lk32, ti32, lk45, ti45, lk73, ti73, lk74, ti74, lk76, ti76, hlt', mixed_all]
    refine leaf.keep [0, 1, 34] [18] rfl rfl ?_
    have hbl : (u.map bare).length = u.length := List.length_map ..
    simp only [AS.keep, keepT, AM.keepH, lkp, Nat.reduceEqDiff, ↓reduceIte, Option.getD_some]
    refine leaf.frz 18 (.arr 4 ((u.map bare).map In.row)) rfl rfl rfl ?_ ?_ ?_
    · exact ⟨fun _ => ⟨rfl, by rw [List.length_map, hbl]; omega⟩, trivial, fun _ => ⟨rfl, by rw [List.length_map, hbl]; omega⟩, trivial⟩
    · exact ⟨.inl rfl, trivial⟩
    have htk : (((u.map bare).map In.row).drop 0).take u.length = (u.map bare).map In.row := by rw [List.drop_zero, List.take_of_length_le (by rw [List.length_map, hbl]; omega)]
    simp only [AS.frz, frzT, V.frz, Frz.arr, frzH, ↓reduceIte, htk]
    have hlb : ∀ x ∈ u.map bare, x.ok := fun x hx => by
      obtain ⟨y, hy, rfl⟩ := List.mem_map.1 hx
      exact bare_ok (hx1 y hy)
    have hany : (u.map bare).all right = false → anyBad (u.map bare) = true := fun h => by
      rw [List.all_eq_false] at h
      obtain ⟨x, hx, hr⟩ := h
      obtain ⟨y, hy, rfl⟩ := List.mem_map.1 hx
      unfold anyBad
      rw [List.any_eq_true]
      refine ⟨bare y, hx, decide_eq_true ?_⟩
      rw [bare_code]
      exact bare_right (by simpa using hr)
    rw [← hbl] at hl256
    clear hx1 hJ htk h1 hlt hlt'
    generalize u.map bare = lb at *
    clear hbl
    refine leaf.call1 300 [] TTok rfl (pc15' lb hlb (by omega)) rfl rfl rfl rfl rfl rfl rfl (by kernel_rfl) ?_
    rintro r h' ⟨rfl, rfl⟩
    refine ⟨rfl, ?_⟩
    by_cases hr : lb.all right = true
    · by_cases hg : lb.length ≤ 255 ∧ (textOf lb).length ≤ 8192
      · have hn : ¬ (255 < lb.length ∨ 8192 < (textOf lb).length) := by omega
        have e1 : prS lb = ⟨(textOf lb).toArray⟩ := by unfold prS; rw [hr, if_pos rfl, if_neg hn]
        have e2 : prE lb = 0 := by unfold prE; rw [hr, if_pos rfl, if_neg hn]
        have hpt := parse_text hlb hr hg.1 hg.2
        have hct := count_text lb hlb
        have hsz : (⟨(textOf lb).toArray⟩ : ByteArray).size ≤ 8192 := by rw [show (({ data := (textOf lb).toArray } : ByteArray)).size = (textOf lb).length from by simp [ByteArray.size]]; exact hg.2
        simp (maxSteps := 9000000) only [go_sem, scrubT, scrubH, Nat.reducePow, Nat.reduceLT, Int.reduceToNat, Int.reduceLE, Int.reduceLT, Int.reduceEq, Int.reduceAdd, Int.reduceSub, Int.reduceMul, Nat.reduceAdd, Nat.reduceMul, Nat.reduceSub, Nat.reduceLeDiff, Nat.reduceEqDiff, Int.reduceNe, ↓reduceIte, ↓way_true, ↓way_false, ↓way_not, ↓way_dec, lk3, ti3, lk5, ti5, lk9, ti9, lk24, ti24, lk25, ti25, lk29, ti29, lk30, ti30, lk32, ti32, lk45, ti45, lk73, ti73, lk74, ti74, lk76, ti76, e1, e2]
        refine leaf.call1 300 [] TTok rfl (pc8 ⟨(textOf lb).toArray⟩ (by omega)) rfl rfl rfl rfl rfl rfl rfl (by kernel_rfl) ?_
        rintro r h' ⟨rfl, rfl⟩
        refine ⟨rfl, ?_⟩
        rw [hpt]
        cases lb with
        | nil =>
          simp (maxSteps := 9000000) only [outV, nilV, go_sem, scrubT, scrubH, Nat.reducePow, Nat.reduceLT, Int.reduceToNat, Int.reduceLE, Int.reduceLT, Int.reduceEq, Int.reduceAdd, Int.reduceSub, Int.reduceMul, Nat.reduceAdd, Nat.reduceMul, Nat.reduceSub, Nat.reduceLeDiff, Nat.reduceEqDiff, Int.reduceNe, ↓reduceIte, ↓way_true, ↓way_false, ↓way_not, ↓way_dec, lk3, ti3, lk5, ti5, lk9, ti9, lk24, ti24, lk25, ti25, lk29, ti29, lk30, ti30, lk32, ti32, lk45, ti45, lk73, ti73, lk74, ti74, lk76, ti76, rowsOf, List.map_nil]
          refine leaf.call1 300 [] TTok rfl (pc21n) rfl rfl rfl rfl rfl rfl rfl (by kernel_rfl) ?_
          rintro r h' ⟨rfl, rfl⟩
          refine ⟨rfl, ?_⟩
          simp (maxSteps := 9000000) only [go_sem, scrubT, scrubH, Nat.reducePow, Nat.reduceLT, Int.reduceToNat, Int.reduceLE, Int.reduceLT, Int.reduceEq, Int.reduceAdd, Int.reduceSub, Int.reduceMul, Nat.reduceAdd, Nat.reduceMul, Nat.reduceSub, Nat.reduceLeDiff, Nat.reduceEqDiff, Int.reduceNe, ↓reduceIte, ↓way_true, ↓way_false, ↓way_not, ↓way_dec, lk3, ti3, lk5, ti5, lk9, ti9, lk24, ti24, lk25, ti25, lk29, ti29, lk30, ti30, lk32, ti32, lk45, ti45, lk73, ti73, lk74, ti74, lk76, ti76]
          refine leaf.call1 300 [] TTok rfl (pc22 ⟨(textOf []).toArray⟩ 10) rfl rfl rfl rfl rfl rfl rfl (by kernel_rfl) ?_
          rintro r h' ⟨rfl, rfl⟩
          refine ⟨rfl, ?_⟩
          rw [show (({ data := (textOf []).toArray } : ByteArray)).data.toList = textOf [] from by simp, hct]
          simp (maxSteps := 9000000) only [go_sem, scrubT, scrubH, Nat.reducePow, Nat.reduceLT, Int.reduceToNat, Int.reduceLE, Int.reduceLT, Int.reduceEq, Int.reduceAdd, Int.reduceSub, Int.reduceMul, Nat.reduceAdd, Nat.reduceMul, Nat.reduceSub, Nat.reduceLeDiff, Nat.reduceEqDiff, Int.reduceNe, ↓reduceIte, ↓way_true, ↓way_false, ↓way_not, ↓way_dec, lk3, ti3, lk5, ti5, lk9, ti9, lk24, ti24, lk25, ti25, lk29, ti29, lk30, ti30, lk32, ti32, lk45, ti45, lk73, ti73, lk74, ti74, lk76, ti76, List.length_nil, List.map_nil]
          repeat (first | refine ⟨by omega, fun _ => ?_⟩ | refine ⟨in_i64 (by omega) (by omega), fun _ => ?_⟩ | refine ⟨by unfold LMAX; omega, fun _ => ?_⟩)
          refine leaf.keep [1, 78] [] rfl rfl ?_
          simp only [AS.keep, keepT, AM.keepH, lkp, Nat.reduceEqDiff, ↓reduceIte, Option.getD_some]
          have hcut : (s2.extract 0 (min (s2.size : Int) 8192).toNat).size ≤ 8192 := by rw [ByteArray.size_extract]; omega
          generalize s2.extract 0 (min (s2.size : Int) 8192).toNat = t at *
          refine leaf.call1 300 [] TTok rfl (pc8 t (by omega)) rfl rfl rfl rfl rfl rfl rfl (by kernel_rfl) ?_
          rintro r h' ⟨rfl, rfl⟩
          refine ⟨rfl, ?_⟩
          have h8 : ¬ 8192 < t.size := by omega
          cases hb : badAt 0 0 (linesOf t) with
          | some a =>
            have hp : parseV t = .tup [nilV, vi (a : Int), vi 180] := by unfold parseV; rw [if_neg h8, hb]
            obtain ⟨q, hq, hlt2, _⟩ := bad_law t.data.toList.length t.data.toList (Nat.le_refl _) 0 0 a (by rw [show B t.data.toList = t from ba_eq]; exact hb)
            have hsz2 : t.data.toList.length = t.size := Array.length_toList
            have ha1 : ((a : Int) < (t.size : Int)) = True := eq_true (by omega)
            have ha0 : (0 ≤ (a : Int)) = True := eq_true (by omega)
            rw [hp]
            simp (maxSteps := 9000000) only [nilV, go_sem, scrubT, scrubH, Nat.reducePow, Nat.reduceLT, Int.reduceToNat, Int.reduceLE, Int.reduceLT, Int.reduceEq, Int.reduceAdd, Int.reduceSub, Int.reduceMul, Nat.reduceAdd, Nat.reduceMul, Nat.reduceSub, Nat.reduceLeDiff, Nat.reduceEqDiff, Int.reduceNe, ↓reduceIte, ↓way_true, ↓way_false, ↓way_not, ↓way_dec, lk3, ti3, lk5, ti5, lk9, ti9, lk24, ti24, lk25, ti25, lk29, ti29, lk30, ti30, lk32, ti32, lk45, ti45, lk73, ti73, lk74, ti74, lk76, ti76, ha0, ha1]
            subst hQ
            simp only [retQ, ares, aress, ares1, lkp, Option.getD_some, Nat.reduceEqDiff, ↓reduceIte, true_and, lk3, ti3, lk5, ti5, lk9, ti9, lk24, ti24, lk25, ti25, lk29, ti29, lk30, ti30, lk32, ti32, lk45, ti45, lk73, ti73, lk74, ti74, lk76, ti76]
            exact ⟨rfl, rfl⟩
          | none =>
            have hp : parseV t = .tup [outV ((linesOf t).map insL), vi 0, vi 0] := by unfold parseV; rw [if_neg h8, hb]
            obtain ⟨g1, g2, g3⟩ := read_text hb
            rw [hp]
            generalize (linesOf t).map insL = m at *
            cases m with
            | nil =>
              obtain rfl : t = B [] := by rw [← ba_eq (s := t), ← g1]; rfl
              simp (maxSteps := 9000000) only [outV, nilV, go_sem, scrubT, scrubH, Nat.reducePow, Nat.reduceLT, Int.reduceToNat, Int.reduceLE, Int.reduceLT, Int.reduceEq, Int.reduceAdd, Int.reduceSub, Int.reduceMul, Nat.reduceAdd, Nat.reduceMul, Nat.reduceSub, Nat.reduceLeDiff, Nat.reduceEqDiff, Int.reduceNe, ↓reduceIte, ↓way_true, ↓way_false, ↓way_not, ↓way_dec, lk3, ti3, lk5, ti5, lk9, ti9, lk24, ti24, lk25, ti25, lk29, ti29, lk30, ti30, lk32, ti32, lk45, ti45, lk73, ti73, lk74, ti74, lk76, ti76]
              refine leaf.call1 300 [] TTok rfl (pc15n) rfl rfl rfl rfl rfl rfl rfl (by kernel_rfl) ?_
              rintro r h' ⟨rfl, rfl⟩
              refine ⟨rfl, ?_⟩
              simp (maxSteps := 9000000) only [go_sem, scrubT, scrubH, Nat.reducePow, Nat.reduceLT, Int.reduceToNat, Int.reduceLE, Int.reduceLT, Int.reduceEq, Int.reduceAdd, Int.reduceSub, Int.reduceMul, Nat.reduceAdd, Nat.reduceMul, Nat.reduceSub, Nat.reduceLeDiff, Nat.reduceEqDiff, Int.reduceNe, ↓reduceIte, ↓way_true, ↓way_false, ↓way_not, ↓way_dec, lk3, ti3, lk5, ti5, lk9, ti9, lk24, ti24, lk25, ti25, lk29, ti29, lk30, ti30, lk32, ti32, lk45, ti45, lk73, ti73, lk74, ti74, lk76, ti76, eq_self]
              subst hQ
              simp only [retQ, ares, aress, ares1, lkp, Option.getD_some, Nat.reduceEqDiff, ↓reduceIte, true_and, lk3, ti3, lk5, ti5, lk9, ti9, lk24, ti24, lk25, ti25, lk29, ti29, lk30, ti30, lk32, ti32, lk45, ti45, lk73, ti73, lk74, ti74, lk76, ti76]
              exact ⟨rfl, rfl⟩
            | cons y m =>
              have hsz2 : t.data.toList.length = t.size := Array.length_toList
              have hall : (y :: m).all right = true := List.all_eq_true.2 fun x hx => (g2 x hx).2
              have hn2 : ¬ (255 < (y :: m).length ∨ 8192 < (textOf (y :: m)).length) := by rw [g1]; omega
              have e3 : prS (y :: m) = t := by unfold prS; rw [hall, if_pos rfl, if_neg hn2, g1, ba_eq]
              have e4 : prE (y :: m) = 0 := by unfold prE; rw [hall, if_pos rfl, if_neg hn2]
              simp (maxSteps := 9000000) only [outV, rowsOf, go_sem, scrubT, scrubH, Nat.reducePow, Nat.reduceLT, Int.reduceToNat, Int.reduceLE, Int.reduceLT, Int.reduceEq, Int.reduceAdd, Int.reduceSub, Int.reduceMul, Nat.reduceAdd, Nat.reduceMul, Nat.reduceSub, Nat.reduceLeDiff, Nat.reduceEqDiff, Int.reduceNe, ↓reduceIte, ↓way_true, ↓way_false, ↓way_not, ↓way_dec, lk3, ti3, lk5, ti5, lk9, ti9, lk24, ti24, lk25, ti25, lk29, ti29, lk30, ti30, lk32, ti32, lk45, ti45, lk73, ti73, lk74, ti74, lk76, ti76]
              refine leaf.call1 300 [] TTok rfl (pc15' (y :: m) (fun x hx => (g2 x hx).1) (by omega)) rfl rfl rfl rfl rfl rfl rfl (by kernel_rfl) ?_
              rintro r h' ⟨rfl, rfl⟩
              refine ⟨rfl, ?_⟩
              rw [e3, e4]
              simp (maxSteps := 9000000) only [go_sem, scrubT, scrubH, Nat.reducePow, Nat.reduceLT, Int.reduceToNat, Int.reduceLE, Int.reduceLT, Int.reduceEq, Int.reduceAdd, Int.reduceSub, Int.reduceMul, Nat.reduceAdd, Nat.reduceMul, Nat.reduceSub, Nat.reduceLeDiff, Nat.reduceEqDiff, Int.reduceNe, ↓reduceIte, ↓way_true, ↓way_false, ↓way_not, ↓way_dec, lk3, ti3, lk5, ti5, lk9, ti9, lk24, ti24, lk25, ti25, lk29, ti29, lk30, ti30, lk32, ti32, lk45, ti45, lk73, ti73, lk74, ti74, lk76, ti76, eq_self]
              subst hQ
              simp only [retQ, ares, aress, ares1, lkp, Option.getD_some, Nat.reduceEqDiff, ↓reduceIte, true_and, lk3, ti3, lk5, ti5, lk9, ti9, lk24, ti24, lk25, ti25, lk29, ti29, lk30, ti30, lk32, ti32, lk45, ti45, lk73, ti73, lk74, ti74, lk76, ti76]
              exact ⟨rfl, rfl⟩
        | cons x0 lr =>
          simp (maxSteps := 9000000) only [outV, go_sem, scrubT, scrubH, Nat.reducePow, Nat.reduceLT, Int.reduceToNat, Int.reduceLE, Int.reduceLT, Int.reduceEq, Int.reduceAdd, Int.reduceSub, Int.reduceMul, Nat.reduceAdd, Nat.reduceMul, Nat.reduceSub, Nat.reduceLeDiff, Nat.reduceEqDiff, Int.reduceNe, ↓reduceIte, ↓way_true, ↓way_false, ↓way_not, ↓way_dec, lk3, ti3, lk5, ti5, lk9, ti9, lk24, ti24, lk25, ti25, lk29, ti29, lk30, ti30, lk32, ti32, lk45, ti45, lk73, ti73, lk74, ti74, lk76, ti76, rowsOf]
          refine leaf.call1 300 [] TTok rfl (pc21 (x0 :: lr) (by omega)) rfl rfl rfl rfl rfl rfl rfl (by kernel_rfl) ?_
          rintro r h' ⟨rfl, rfl⟩
          refine ⟨rfl, ?_⟩
          simp (maxSteps := 9000000) only [go_sem, scrubT, scrubH, Nat.reducePow, Nat.reduceLT, Int.reduceToNat, Int.reduceLE, Int.reduceLT, Int.reduceEq, Int.reduceAdd, Int.reduceSub, Int.reduceMul, Nat.reduceAdd, Nat.reduceMul, Nat.reduceSub, Nat.reduceLeDiff, Nat.reduceEqDiff, Int.reduceNe, ↓reduceIte, ↓way_true, ↓way_false, ↓way_not, ↓way_dec, lk3, ti3, lk5, ti5, lk9, ti9, lk24, ti24, lk25, ti25, lk29, ti29, lk30, ti30, lk32, ti32, lk45, ti45, lk73, ti73, lk74, ti74, lk76, ti76]
          refine leaf.call1 300 [] TTok rfl (pc22 ⟨(textOf (x0 :: lr)).toArray⟩ 10) rfl rfl rfl rfl rfl rfl rfl (by kernel_rfl) ?_
          rintro r h' ⟨rfl, rfl⟩
          refine ⟨rfl, ?_⟩
          rw [show (({ data := (textOf (x0 :: lr)).toArray } : ByteArray)).data.toList = textOf (x0 :: lr) from by simp, hct]
          simp (maxSteps := 9000000) only [go_sem, scrubT, scrubH, Nat.reducePow, Nat.reduceLT, Int.reduceToNat, Int.reduceLE, Int.reduceLT, Int.reduceEq, Int.reduceAdd, Int.reduceSub, Int.reduceMul, Nat.reduceAdd, Nat.reduceMul, Nat.reduceSub, Nat.reduceLeDiff, Nat.reduceEqDiff, Int.reduceNe, ↓reduceIte, ↓way_true, ↓way_false, ↓way_not, ↓way_dec, lk3, ti3, lk5, ti5, lk9, ti9, lk24, ti24, lk25, ti25, lk29, ti29, lk30, ti30, lk32, ti32, lk45, ti45, lk73, ti73, lk74, ti74, lk76, ti76, List.length_map, eq_self]
          repeat (first | refine ⟨by omega, fun _ => ?_⟩ | refine ⟨in_i64 (by omega) (by omega), fun _ => ?_⟩ | refine ⟨by unfold LMAX; omega, fun _ => ?_⟩)
          refine leaf.keep [1, 78] [] rfl rfl ?_
          simp only [AS.keep, keepT, AM.keepH, lkp, Nat.reduceEqDiff, ↓reduceIte, Option.getD_some]
          have hcut : (s2.extract 0 (min (s2.size : Int) 8192).toNat).size ≤ 8192 := by rw [ByteArray.size_extract]; omega
          generalize s2.extract 0 (min (s2.size : Int) 8192).toNat = t at *
          refine leaf.call1 300 [] TTok rfl (pc8 t (by omega)) rfl rfl rfl rfl rfl rfl rfl (by kernel_rfl) ?_
          rintro r h' ⟨rfl, rfl⟩
          refine ⟨rfl, ?_⟩
          have h8 : ¬ 8192 < t.size := by omega
          cases hb : badAt 0 0 (linesOf t) with
          | some a =>
            have hp : parseV t = .tup [nilV, vi (a : Int), vi 180] := by unfold parseV; rw [if_neg h8, hb]
            obtain ⟨q, hq, hlt2, _⟩ := bad_law t.data.toList.length t.data.toList (Nat.le_refl _) 0 0 a (by rw [show B t.data.toList = t from ba_eq]; exact hb)
            have hsz2 : t.data.toList.length = t.size := Array.length_toList
            have ha1 : ((a : Int) < (t.size : Int)) = True := eq_true (by omega)
            have ha0 : (0 ≤ (a : Int)) = True := eq_true (by omega)
            rw [hp]
            simp (maxSteps := 9000000) only [nilV, go_sem, scrubT, scrubH, Nat.reducePow, Nat.reduceLT, Int.reduceToNat, Int.reduceLE, Int.reduceLT, Int.reduceEq, Int.reduceAdd, Int.reduceSub, Int.reduceMul, Nat.reduceAdd, Nat.reduceMul, Nat.reduceSub, Nat.reduceLeDiff, Nat.reduceEqDiff, Int.reduceNe, ↓reduceIte, ↓way_true, ↓way_false, ↓way_not, ↓way_dec, lk3, ti3, lk5, ti5, lk9, ti9, lk24, ti24, lk25, ti25, lk29, ti29, lk30, ti30, lk32, ti32, lk45, ti45, lk73, ti73, lk74, ti74, lk76, ti76, ha0, ha1]
            subst hQ
            simp only [retQ, ares, aress, ares1, lkp, Option.getD_some, Nat.reduceEqDiff, ↓reduceIte, true_and, lk3, ti3, lk5, ti5, lk9, ti9, lk24, ti24, lk25, ti25, lk29, ti29, lk30, ti30, lk32, ti32, lk45, ti45, lk73, ti73, lk74, ti74, lk76, ti76]
            exact ⟨rfl, rfl⟩
          | none =>
            have hp : parseV t = .tup [outV ((linesOf t).map insL), vi 0, vi 0] := by unfold parseV; rw [if_neg h8, hb]
            obtain ⟨g1, g2, g3⟩ := read_text hb
            rw [hp]
            generalize (linesOf t).map insL = m at *
            cases m with
            | nil =>
              obtain rfl : t = B [] := by rw [← ba_eq (s := t), ← g1]; rfl
              simp (maxSteps := 9000000) only [outV, nilV, go_sem, scrubT, scrubH, Nat.reducePow, Nat.reduceLT, Int.reduceToNat, Int.reduceLE, Int.reduceLT, Int.reduceEq, Int.reduceAdd, Int.reduceSub, Int.reduceMul, Nat.reduceAdd, Nat.reduceMul, Nat.reduceSub, Nat.reduceLeDiff, Nat.reduceEqDiff, Int.reduceNe, ↓reduceIte, ↓way_true, ↓way_false, ↓way_not, ↓way_dec, lk3, ti3, lk5, ti5, lk9, ti9, lk24, ti24, lk25, ti25, lk29, ti29, lk30, ti30, lk32, ti32, lk45, ti45, lk73, ti73, lk74, ti74, lk76, ti76]
              refine leaf.call1 300 [] TTok rfl (pc15n) rfl rfl rfl rfl rfl rfl rfl (by kernel_rfl) ?_
              rintro r h' ⟨rfl, rfl⟩
              refine ⟨rfl, ?_⟩
              simp (maxSteps := 9000000) only [go_sem, scrubT, scrubH, Nat.reducePow, Nat.reduceLT, Int.reduceToNat, Int.reduceLE, Int.reduceLT, Int.reduceEq, Int.reduceAdd, Int.reduceSub, Int.reduceMul, Nat.reduceAdd, Nat.reduceMul, Nat.reduceSub, Nat.reduceLeDiff, Nat.reduceEqDiff, Int.reduceNe, ↓reduceIte, ↓way_true, ↓way_false, ↓way_not, ↓way_dec, lk3, ti3, lk5, ti5, lk9, ti9, lk24, ti24, lk25, ti25, lk29, ti29, lk30, ti30, lk32, ti32, lk45, ti45, lk73, ti73, lk74, ti74, lk76, ti76, eq_self]
              subst hQ
              simp only [retQ, ares, aress, ares1, lkp, Option.getD_some, Nat.reduceEqDiff, ↓reduceIte, true_and, lk3, ti3, lk5, ti5, lk9, ti9, lk24, ti24, lk25, ti25, lk29, ti29, lk30, ti30, lk32, ti32, lk45, ti45, lk73, ti73, lk74, ti74, lk76, ti76]
              exact ⟨rfl, rfl⟩
            | cons y m =>
              have hsz2 : t.data.toList.length = t.size := Array.length_toList
              have hall : (y :: m).all right = true := List.all_eq_true.2 fun x hx => (g2 x hx).2
              have hn2 : ¬ (255 < (y :: m).length ∨ 8192 < (textOf (y :: m)).length) := by rw [g1]; omega
              have e3 : prS (y :: m) = t := by unfold prS; rw [hall, if_pos rfl, if_neg hn2, g1, ba_eq]
              have e4 : prE (y :: m) = 0 := by unfold prE; rw [hall, if_pos rfl, if_neg hn2]
              simp (maxSteps := 9000000) only [outV, rowsOf, go_sem, scrubT, scrubH, Nat.reducePow, Nat.reduceLT, Int.reduceToNat, Int.reduceLE, Int.reduceLT, Int.reduceEq, Int.reduceAdd, Int.reduceSub, Int.reduceMul, Nat.reduceAdd, Nat.reduceMul, Nat.reduceSub, Nat.reduceLeDiff, Nat.reduceEqDiff, Int.reduceNe, ↓reduceIte, ↓way_true, ↓way_false, ↓way_not, ↓way_dec, lk3, ti3, lk5, ti5, lk9, ti9, lk24, ti24, lk25, ti25, lk29, ti29, lk30, ti30, lk32, ti32, lk45, ti45, lk73, ti73, lk74, ti74, lk76, ti76]
              refine leaf.call1 300 [] TTok rfl (pc15' (y :: m) (fun x hx => (g2 x hx).1) (by omega)) rfl rfl rfl rfl rfl rfl rfl (by kernel_rfl) ?_
              rintro r h' ⟨rfl, rfl⟩
              refine ⟨rfl, ?_⟩
              rw [e3, e4]
              simp (maxSteps := 9000000) only [go_sem, scrubT, scrubH, Nat.reducePow, Nat.reduceLT, Int.reduceToNat, Int.reduceLE, Int.reduceLT, Int.reduceEq, Int.reduceAdd, Int.reduceSub, Int.reduceMul, Nat.reduceAdd, Nat.reduceMul, Nat.reduceSub, Nat.reduceLeDiff, Nat.reduceEqDiff, Int.reduceNe, ↓reduceIte, ↓way_true, ↓way_false, ↓way_not, ↓way_dec, lk3, ti3, lk5, ti5, lk9, ti9, lk24, ti24, lk25, ti25, lk29, ti29, lk30, ti30, lk32, ti32, lk45, ti45, lk73, ti73, lk74, ti74, lk76, ti76, eq_self]
              subst hQ
              simp only [retQ, ares, aress, ares1, lkp, Option.getD_some, Nat.reduceEqDiff, ↓reduceIte, true_and, lk3, ti3, lk5, ti5, lk9, ti9, lk24, ti24, lk25, ti25, lk29, ti29, lk30, ti30, lk32, ti32, lk45, ti45, lk73, ti73, lk74, ti74, lk76, ti76]
              exact ⟨rfl, rfl⟩
      · have hn : 255 < lb.length ∨ 8192 < (textOf lb).length := by omega
        have e1 : prS lb = B [] := by unfold prS; rw [hr, if_pos rfl, if_pos hn]
        have e2 : prE lb = 3 := by unfold prE; rw [hr, if_pos rfl, if_pos hn]
        simp (maxSteps := 9000000) only [go_sem, scrubT, scrubH, Nat.reducePow, Nat.reduceLT, Int.reduceToNat, Int.reduceLE, Int.reduceLT, Int.reduceEq, Int.reduceAdd, Int.reduceSub, Int.reduceMul, Nat.reduceAdd, Nat.reduceMul, Nat.reduceSub, Nat.reduceLeDiff, Nat.reduceEqDiff, Int.reduceNe, ↓reduceIte, ↓way_true, ↓way_false, ↓way_not, ↓way_dec, lk3, ti3, lk5, ti5, lk9, ti9, lk24, ti24, lk25, ti25, lk29, ti29, lk30, ti30, lk32, ti32, lk45, ti45, lk73, ti73, lk74, ti74, lk76, ti76, e1, e2]
        refine leaf.call1 300 [] TTok rfl (pc23 lb hlb (by omega)) rfl rfl rfl rfl rfl rfl rfl (by kernel_rfl) ?_
        rintro r h' ⟨rfl, rfl⟩
        refine ⟨rfl, ?_⟩
        cases hab : anyBad lb
        · simp (maxSteps := 9000000) only [go_sem, scrubT, scrubH, Nat.reducePow, Nat.reduceLT, Int.reduceToNat, Int.reduceLE, Int.reduceLT, Int.reduceEq, Int.reduceAdd, Int.reduceSub, Int.reduceMul, Nat.reduceAdd, Nat.reduceMul, Nat.reduceSub, Nat.reduceLeDiff, Nat.reduceEqDiff, Int.reduceNe, ↓reduceIte, ↓way_true, ↓way_false, ↓way_not, ↓way_dec, lk3, ti3, lk5, ti5, lk9, ti9, lk24, ti24, lk25, ti25, lk29, ti29, lk30, ti30, lk32, ti32, lk45, ti45, lk73, ti73, lk74, ti74, lk76, ti76, hab]
          repeat (first | refine ⟨by omega, fun _ => ?_⟩ | refine ⟨in_i64 (by omega) (by omega), fun _ => ?_⟩ | refine ⟨by unfold LMAX; omega, fun _ => ?_⟩)
          refine leaf.keep [1, 78] [] rfl rfl ?_
          simp only [AS.keep, keepT, AM.keepH, lkp, Nat.reduceEqDiff, ↓reduceIte, Option.getD_some]
          have hcut : (s2.extract 0 (min (s2.size : Int) 8192).toNat).size ≤ 8192 := by rw [ByteArray.size_extract]; omega
          generalize s2.extract 0 (min (s2.size : Int) 8192).toNat = t at *
          refine leaf.call1 300 [] TTok rfl (pc8 t (by omega)) rfl rfl rfl rfl rfl rfl rfl (by kernel_rfl) ?_
          rintro r h' ⟨rfl, rfl⟩
          refine ⟨rfl, ?_⟩
          have h8 : ¬ 8192 < t.size := by omega
          cases hb : badAt 0 0 (linesOf t) with
          | some a =>
            have hp : parseV t = .tup [nilV, vi (a : Int), vi 180] := by unfold parseV; rw [if_neg h8, hb]
            obtain ⟨q, hq, hlt2, _⟩ := bad_law t.data.toList.length t.data.toList (Nat.le_refl _) 0 0 a (by rw [show B t.data.toList = t from ba_eq]; exact hb)
            have hsz2 : t.data.toList.length = t.size := Array.length_toList
            have ha1 : ((a : Int) < (t.size : Int)) = True := eq_true (by omega)
            have ha0 : (0 ≤ (a : Int)) = True := eq_true (by omega)
            rw [hp]
            simp (maxSteps := 9000000) only [nilV, go_sem, scrubT, scrubH, Nat.reducePow, Nat.reduceLT, Int.reduceToNat, Int.reduceLE, Int.reduceLT, Int.reduceEq, Int.reduceAdd, Int.reduceSub, Int.reduceMul, Nat.reduceAdd, Nat.reduceMul, Nat.reduceSub, Nat.reduceLeDiff, Nat.reduceEqDiff, Int.reduceNe, ↓reduceIte, ↓way_true, ↓way_false, ↓way_not, ↓way_dec, lk3, ti3, lk5, ti5, lk9, ti9, lk24, ti24, lk25, ti25, lk29, ti29, lk30, ti30, lk32, ti32, lk45, ti45, lk73, ti73, lk74, ti74, lk76, ti76, ha0, ha1]
            subst hQ
            simp only [retQ, ares, aress, ares1, lkp, Option.getD_some, Nat.reduceEqDiff, ↓reduceIte, true_and, lk3, ti3, lk5, ti5, lk9, ti9, lk24, ti24, lk25, ti25, lk29, ti29, lk30, ti30, lk32, ti32, lk45, ti45, lk73, ti73, lk74, ti74, lk76, ti76]
            exact ⟨rfl, rfl⟩
          | none =>
            have hp : parseV t = .tup [outV ((linesOf t).map insL), vi 0, vi 0] := by unfold parseV; rw [if_neg h8, hb]
            obtain ⟨g1, g2, g3⟩ := read_text hb
            rw [hp]
            generalize (linesOf t).map insL = m at *
            cases m with
            | nil =>
              obtain rfl : t = B [] := by rw [← ba_eq (s := t), ← g1]; rfl
              simp (maxSteps := 9000000) only [outV, nilV, go_sem, scrubT, scrubH, Nat.reducePow, Nat.reduceLT, Int.reduceToNat, Int.reduceLE, Int.reduceLT, Int.reduceEq, Int.reduceAdd, Int.reduceSub, Int.reduceMul, Nat.reduceAdd, Nat.reduceMul, Nat.reduceSub, Nat.reduceLeDiff, Nat.reduceEqDiff, Int.reduceNe, ↓reduceIte, ↓way_true, ↓way_false, ↓way_not, ↓way_dec, lk3, ti3, lk5, ti5, lk9, ti9, lk24, ti24, lk25, ti25, lk29, ti29, lk30, ti30, lk32, ti32, lk45, ti45, lk73, ti73, lk74, ti74, lk76, ti76]
              refine leaf.call1 300 [] TTok rfl (pc15n) rfl rfl rfl rfl rfl rfl rfl (by kernel_rfl) ?_
              rintro r h' ⟨rfl, rfl⟩
              refine ⟨rfl, ?_⟩
              simp (maxSteps := 9000000) only [go_sem, scrubT, scrubH, Nat.reducePow, Nat.reduceLT, Int.reduceToNat, Int.reduceLE, Int.reduceLT, Int.reduceEq, Int.reduceAdd, Int.reduceSub, Int.reduceMul, Nat.reduceAdd, Nat.reduceMul, Nat.reduceSub, Nat.reduceLeDiff, Nat.reduceEqDiff, Int.reduceNe, ↓reduceIte, ↓way_true, ↓way_false, ↓way_not, ↓way_dec, lk3, ti3, lk5, ti5, lk9, ti9, lk24, ti24, lk25, ti25, lk29, ti29, lk30, ti30, lk32, ti32, lk45, ti45, lk73, ti73, lk74, ti74, lk76, ti76, eq_self]
              subst hQ
              simp only [retQ, ares, aress, ares1, lkp, Option.getD_some, Nat.reduceEqDiff, ↓reduceIte, true_and, lk3, ti3, lk5, ti5, lk9, ti9, lk24, ti24, lk25, ti25, lk29, ti29, lk30, ti30, lk32, ti32, lk45, ti45, lk73, ti73, lk74, ti74, lk76, ti76]
              exact ⟨rfl, rfl⟩
            | cons y m =>
              have hsz2 : t.data.toList.length = t.size := Array.length_toList
              have hall : (y :: m).all right = true := List.all_eq_true.2 fun x hx => (g2 x hx).2
              have hn2 : ¬ (255 < (y :: m).length ∨ 8192 < (textOf (y :: m)).length) := by rw [g1]; omega
              have e3 : prS (y :: m) = t := by unfold prS; rw [hall, if_pos rfl, if_neg hn2, g1, ba_eq]
              have e4 : prE (y :: m) = 0 := by unfold prE; rw [hall, if_pos rfl, if_neg hn2]
              simp (maxSteps := 9000000) only [outV, rowsOf, go_sem, scrubT, scrubH, Nat.reducePow, Nat.reduceLT, Int.reduceToNat, Int.reduceLE, Int.reduceLT, Int.reduceEq, Int.reduceAdd, Int.reduceSub, Int.reduceMul, Nat.reduceAdd, Nat.reduceMul, Nat.reduceSub, Nat.reduceLeDiff, Nat.reduceEqDiff, Int.reduceNe, ↓reduceIte, ↓way_true, ↓way_false, ↓way_not, ↓way_dec, lk3, ti3, lk5, ti5, lk9, ti9, lk24, ti24, lk25, ti25, lk29, ti29, lk30, ti30, lk32, ti32, lk45, ti45, lk73, ti73, lk74, ti74, lk76, ti76]
              refine leaf.call1 300 [] TTok rfl (pc15' (y :: m) (fun x hx => (g2 x hx).1) (by omega)) rfl rfl rfl rfl rfl rfl rfl (by kernel_rfl) ?_
              rintro r h' ⟨rfl, rfl⟩
              refine ⟨rfl, ?_⟩
              rw [e3, e4]
              simp (maxSteps := 9000000) only [go_sem, scrubT, scrubH, Nat.reducePow, Nat.reduceLT, Int.reduceToNat, Int.reduceLE, Int.reduceLT, Int.reduceEq, Int.reduceAdd, Int.reduceSub, Int.reduceMul, Nat.reduceAdd, Nat.reduceMul, Nat.reduceSub, Nat.reduceLeDiff, Nat.reduceEqDiff, Int.reduceNe, ↓reduceIte, ↓way_true, ↓way_false, ↓way_not, ↓way_dec, lk3, ti3, lk5, ti5, lk9, ti9, lk24, ti24, lk25, ti25, lk29, ti29, lk30, ti30, lk32, ti32, lk45, ti45, lk73, ti73, lk74, ti74, lk76, ti76, eq_self]
              subst hQ
              simp only [retQ, ares, aress, ares1, lkp, Option.getD_some, Nat.reduceEqDiff, ↓reduceIte, true_and, lk3, ti3, lk5, ti5, lk9, ti9, lk24, ti24, lk25, ti25, lk29, ti29, lk30, ti30, lk32, ti32, lk45, ti45, lk73, ti73, lk74, ti74, lk76, ti76]
              exact ⟨rfl, rfl⟩
        · simp (maxSteps := 9000000) only [go_sem, scrubT, scrubH, Nat.reducePow, Nat.reduceLT, Int.reduceToNat, Int.reduceLE, Int.reduceLT, Int.reduceEq, Int.reduceAdd, Int.reduceSub, Int.reduceMul, Nat.reduceAdd, Nat.reduceMul, Nat.reduceSub, Nat.reduceLeDiff, Nat.reduceEqDiff, Int.reduceNe, ↓reduceIte, ↓way_true, ↓way_false, ↓way_not, ↓way_dec, lk3, ti3, lk5, ti5, lk9, ti9, lk24, ti24, lk25, ti25, lk29, ti29, lk30, ti30, lk32, ti32, lk45, ti45, lk73, ti73, lk74, ti74, lk76, ti76, hab]
          repeat (first | refine ⟨by omega, fun _ => ?_⟩ | refine ⟨in_i64 (by omega) (by omega), fun _ => ?_⟩ | refine ⟨by unfold LMAX; omega, fun _ => ?_⟩)
          refine leaf.keep [1, 78] [] rfl rfl ?_
          simp only [AS.keep, keepT, AM.keepH, lkp, Nat.reduceEqDiff, ↓reduceIte, Option.getD_some]
          have hcut : (s2.extract 0 (min (s2.size : Int) 8192).toNat).size ≤ 8192 := by rw [ByteArray.size_extract]; omega
          generalize s2.extract 0 (min (s2.size : Int) 8192).toNat = t at *
          refine leaf.call1 300 [] TTok rfl (pc8 t (by omega)) rfl rfl rfl rfl rfl rfl rfl (by kernel_rfl) ?_
          rintro r h' ⟨rfl, rfl⟩
          refine ⟨rfl, ?_⟩
          have h8 : ¬ 8192 < t.size := by omega
          cases hb : badAt 0 0 (linesOf t) with
          | some a =>
            have hp : parseV t = .tup [nilV, vi (a : Int), vi 180] := by unfold parseV; rw [if_neg h8, hb]
            obtain ⟨q, hq, hlt2, _⟩ := bad_law t.data.toList.length t.data.toList (Nat.le_refl _) 0 0 a (by rw [show B t.data.toList = t from ba_eq]; exact hb)
            have hsz2 : t.data.toList.length = t.size := Array.length_toList
            have ha1 : ((a : Int) < (t.size : Int)) = True := eq_true (by omega)
            have ha0 : (0 ≤ (a : Int)) = True := eq_true (by omega)
            rw [hp]
            simp (maxSteps := 9000000) only [nilV, go_sem, scrubT, scrubH, Nat.reducePow, Nat.reduceLT, Int.reduceToNat, Int.reduceLE, Int.reduceLT, Int.reduceEq, Int.reduceAdd, Int.reduceSub, Int.reduceMul, Nat.reduceAdd, Nat.reduceMul, Nat.reduceSub, Nat.reduceLeDiff, Nat.reduceEqDiff, Int.reduceNe, ↓reduceIte, ↓way_true, ↓way_false, ↓way_not, ↓way_dec, lk3, ti3, lk5, ti5, lk9, ti9, lk24, ti24, lk25, ti25, lk29, ti29, lk30, ti30, lk32, ti32, lk45, ti45, lk73, ti73, lk74, ti74, lk76, ti76, ha0, ha1]
            subst hQ
            simp only [retQ, ares, aress, ares1, lkp, Option.getD_some, Nat.reduceEqDiff, ↓reduceIte, true_and, lk3, ti3, lk5, ti5, lk9, ti9, lk24, ti24, lk25, ti25, lk29, ti29, lk30, ti30, lk32, ti32, lk45, ti45, lk73, ti73, lk74, ti74, lk76, ti76]
            exact ⟨rfl, rfl⟩
          | none =>
            have hp : parseV t = .tup [outV ((linesOf t).map insL), vi 0, vi 0] := by unfold parseV; rw [if_neg h8, hb]
            obtain ⟨g1, g2, g3⟩ := read_text hb
            rw [hp]
            generalize (linesOf t).map insL = m at *
            cases m with
            | nil =>
              obtain rfl : t = B [] := by rw [← ba_eq (s := t), ← g1]; rfl
              simp (maxSteps := 9000000) only [outV, nilV, go_sem, scrubT, scrubH, Nat.reducePow, Nat.reduceLT, Int.reduceToNat, Int.reduceLE, Int.reduceLT, Int.reduceEq, Int.reduceAdd, Int.reduceSub, Int.reduceMul, Nat.reduceAdd, Nat.reduceMul, Nat.reduceSub, Nat.reduceLeDiff, Nat.reduceEqDiff, Int.reduceNe, ↓reduceIte, ↓way_true, ↓way_false, ↓way_not, ↓way_dec, lk3, ti3, lk5, ti5, lk9, ti9, lk24, ti24, lk25, ti25, lk29, ti29, lk30, ti30, lk32, ti32, lk45, ti45, lk73, ti73, lk74, ti74, lk76, ti76]
              refine leaf.call1 300 [] TTok rfl (pc15n) rfl rfl rfl rfl rfl rfl rfl (by kernel_rfl) ?_
              rintro r h' ⟨rfl, rfl⟩
              refine ⟨rfl, ?_⟩
              simp (maxSteps := 9000000) only [go_sem, scrubT, scrubH, Nat.reducePow, Nat.reduceLT, Int.reduceToNat, Int.reduceLE, Int.reduceLT, Int.reduceEq, Int.reduceAdd, Int.reduceSub, Int.reduceMul, Nat.reduceAdd, Nat.reduceMul, Nat.reduceSub, Nat.reduceLeDiff, Nat.reduceEqDiff, Int.reduceNe, ↓reduceIte, ↓way_true, ↓way_false, ↓way_not, ↓way_dec, lk3, ti3, lk5, ti5, lk9, ti9, lk24, ti24, lk25, ti25, lk29, ti29, lk30, ti30, lk32, ti32, lk45, ti45, lk73, ti73, lk74, ti74, lk76, ti76, eq_self]
              subst hQ
              simp only [retQ, ares, aress, ares1, lkp, Option.getD_some, Nat.reduceEqDiff, ↓reduceIte, true_and, lk3, ti3, lk5, ti5, lk9, ti9, lk24, ti24, lk25, ti25, lk29, ti29, lk30, ti30, lk32, ti32, lk45, ti45, lk73, ti73, lk74, ti74, lk76, ti76]
              exact ⟨rfl, rfl⟩
            | cons y m =>
              have hsz2 : t.data.toList.length = t.size := Array.length_toList
              have hall : (y :: m).all right = true := List.all_eq_true.2 fun x hx => (g2 x hx).2
              have hn2 : ¬ (255 < (y :: m).length ∨ 8192 < (textOf (y :: m)).length) := by rw [g1]; omega
              have e3 : prS (y :: m) = t := by unfold prS; rw [hall, if_pos rfl, if_neg hn2, g1, ba_eq]
              have e4 : prE (y :: m) = 0 := by unfold prE; rw [hall, if_pos rfl, if_neg hn2]
              simp (maxSteps := 9000000) only [outV, rowsOf, go_sem, scrubT, scrubH, Nat.reducePow, Nat.reduceLT, Int.reduceToNat, Int.reduceLE, Int.reduceLT, Int.reduceEq, Int.reduceAdd, Int.reduceSub, Int.reduceMul, Nat.reduceAdd, Nat.reduceMul, Nat.reduceSub, Nat.reduceLeDiff, Nat.reduceEqDiff, Int.reduceNe, ↓reduceIte, ↓way_true, ↓way_false, ↓way_not, ↓way_dec, lk3, ti3, lk5, ti5, lk9, ti9, lk24, ti24, lk25, ti25, lk29, ti29, lk30, ti30, lk32, ti32, lk45, ti45, lk73, ti73, lk74, ti74, lk76, ti76]
              refine leaf.call1 300 [] TTok rfl (pc15' (y :: m) (fun x hx => (g2 x hx).1) (by omega)) rfl rfl rfl rfl rfl rfl rfl (by kernel_rfl) ?_
              rintro r h' ⟨rfl, rfl⟩
              refine ⟨rfl, ?_⟩
              rw [e3, e4]
              simp (maxSteps := 9000000) only [go_sem, scrubT, scrubH, Nat.reducePow, Nat.reduceLT, Int.reduceToNat, Int.reduceLE, Int.reduceLT, Int.reduceEq, Int.reduceAdd, Int.reduceSub, Int.reduceMul, Nat.reduceAdd, Nat.reduceMul, Nat.reduceSub, Nat.reduceLeDiff, Nat.reduceEqDiff, Int.reduceNe, ↓reduceIte, ↓way_true, ↓way_false, ↓way_not, ↓way_dec, lk3, ti3, lk5, ti5, lk9, ti9, lk24, ti24, lk25, ti25, lk29, ti29, lk30, ti30, lk32, ti32, lk45, ti45, lk73, ti73, lk74, ti74, lk76, ti76, eq_self]
              subst hQ
              simp only [retQ, ares, aress, ares1, lkp, Option.getD_some, Nat.reduceEqDiff, ↓reduceIte, true_and, lk3, ti3, lk5, ti5, lk9, ti9, lk24, ti24, lk25, ti25, lk29, ti29, lk30, ti30, lk32, ti32, lk45, ti45, lk73, ti73, lk74, ti74, lk76, ti76]
              exact ⟨rfl, rfl⟩
    · have hr' : lb.all right = false := by simpa using hr
      have hab := hany hr'
      have e1 : prS lb = B [] := by unfold prS; rw [hr']; rfl
      have e2 : prE lb = 2 := by unfold prE; rw [hr']; rfl
      simp (maxSteps := 9000000) only [go_sem, scrubT, scrubH, Nat.reducePow, Nat.reduceLT, Int.reduceToNat, Int.reduceLE, Int.reduceLT, Int.reduceEq, Int.reduceAdd, Int.reduceSub, Int.reduceMul, Nat.reduceAdd, Nat.reduceMul, Nat.reduceSub, Nat.reduceLeDiff, Nat.reduceEqDiff, Int.reduceNe, ↓reduceIte, ↓way_true, ↓way_false, ↓way_not, ↓way_dec, lk3, ti3, lk5, ti5, lk9, ti9, lk24, ti24, lk25, ti25, lk29, ti29, lk30, ti30, lk32, ti32, lk45, ti45, lk73, ti73, lk74, ti74, lk76, ti76, e1, e2]
      refine leaf.call1 300 [] TTok rfl (pc23 lb hlb (by omega)) rfl rfl rfl rfl rfl rfl rfl (by kernel_rfl) ?_
      rintro r h' ⟨rfl, rfl⟩
      refine ⟨rfl, ?_⟩
      simp (maxSteps := 9000000) only [go_sem, scrubT, scrubH, Nat.reducePow, Nat.reduceLT, Int.reduceToNat, Int.reduceLE, Int.reduceLT, Int.reduceEq, Int.reduceAdd, Int.reduceSub, Int.reduceMul, Nat.reduceAdd, Nat.reduceMul, Nat.reduceSub, Nat.reduceLeDiff, Nat.reduceEqDiff, Int.reduceNe, ↓reduceIte, ↓way_true, ↓way_false, ↓way_not, ↓way_dec, lk3, ti3, lk5, ti5, lk9, ti9, lk24, ti24, lk25, ti25, lk29, ti29, lk30, ti30, lk32, ti32, lk45, ti45, lk73, ti73, lk74, ti74, lk76, ti76, hab]
      repeat (first | refine ⟨by omega, fun _ => ?_⟩ | refine ⟨in_i64 (by omega) (by omega), fun _ => ?_⟩ | refine ⟨by unfold LMAX; omega, fun _ => ?_⟩)
      refine leaf.keep [1, 78] [] rfl rfl ?_
      simp only [AS.keep, keepT, AM.keepH, lkp, Nat.reduceEqDiff, ↓reduceIte, Option.getD_some]
      have hcut : (s2.extract 0 (min (s2.size : Int) 8192).toNat).size ≤ 8192 := by rw [ByteArray.size_extract]; omega
      generalize s2.extract 0 (min (s2.size : Int) 8192).toNat = t at *
      refine leaf.call1 300 [] TTok rfl (pc8 t (by omega)) rfl rfl rfl rfl rfl rfl rfl (by kernel_rfl) ?_
      rintro r h' ⟨rfl, rfl⟩
      refine ⟨rfl, ?_⟩
      have h8 : ¬ 8192 < t.size := by omega
      cases hb : badAt 0 0 (linesOf t) with
      | some a =>
        have hp : parseV t = .tup [nilV, vi (a : Int), vi 180] := by unfold parseV; rw [if_neg h8, hb]
        obtain ⟨q, hq, hlt2, _⟩ := bad_law t.data.toList.length t.data.toList (Nat.le_refl _) 0 0 a (by rw [show B t.data.toList = t from ba_eq]; exact hb)
        have hsz2 : t.data.toList.length = t.size := Array.length_toList
        have ha1 : ((a : Int) < (t.size : Int)) = True := eq_true (by omega)
        have ha0 : (0 ≤ (a : Int)) = True := eq_true (by omega)
        rw [hp]
        simp (maxSteps := 9000000) only [nilV, go_sem, scrubT, scrubH, Nat.reducePow, Nat.reduceLT, Int.reduceToNat, Int.reduceLE, Int.reduceLT, Int.reduceEq, Int.reduceAdd, Int.reduceSub, Int.reduceMul, Nat.reduceAdd, Nat.reduceMul, Nat.reduceSub, Nat.reduceLeDiff, Nat.reduceEqDiff, Int.reduceNe, ↓reduceIte, ↓way_true, ↓way_false, ↓way_not, ↓way_dec, lk3, ti3, lk5, ti5, lk9, ti9, lk24, ti24, lk25, ti25, lk29, ti29, lk30, ti30, lk32, ti32, lk45, ti45, lk73, ti73, lk74, ti74, lk76, ti76, ha0, ha1]
        subst hQ
        simp only [retQ, ares, aress, ares1, lkp, Option.getD_some, Nat.reduceEqDiff, ↓reduceIte, true_and, lk3, ti3, lk5, ti5, lk9, ti9, lk24, ti24, lk25, ti25, lk29, ti29, lk30, ti30, lk32, ti32, lk45, ti45, lk73, ti73, lk74, ti74, lk76, ti76]
        exact ⟨rfl, rfl⟩
      | none =>
        have hp : parseV t = .tup [outV ((linesOf t).map insL), vi 0, vi 0] := by unfold parseV; rw [if_neg h8, hb]
        obtain ⟨g1, g2, g3⟩ := read_text hb
        rw [hp]
        generalize (linesOf t).map insL = m at *
        cases m with
        | nil =>
          obtain rfl : t = B [] := by rw [← ba_eq (s := t), ← g1]; rfl
          simp (maxSteps := 9000000) only [outV, nilV, go_sem, scrubT, scrubH, Nat.reducePow, Nat.reduceLT, Int.reduceToNat, Int.reduceLE, Int.reduceLT, Int.reduceEq, Int.reduceAdd, Int.reduceSub, Int.reduceMul, Nat.reduceAdd, Nat.reduceMul, Nat.reduceSub, Nat.reduceLeDiff, Nat.reduceEqDiff, Int.reduceNe, ↓reduceIte, ↓way_true, ↓way_false, ↓way_not, ↓way_dec, lk3, ti3, lk5, ti5, lk9, ti9, lk24, ti24, lk25, ti25, lk29, ti29, lk30, ti30, lk32, ti32, lk45, ti45, lk73, ti73, lk74, ti74, lk76, ti76]
          refine leaf.call1 300 [] TTok rfl (pc15n) rfl rfl rfl rfl rfl rfl rfl (by kernel_rfl) ?_
          rintro r h' ⟨rfl, rfl⟩
          refine ⟨rfl, ?_⟩
          simp (maxSteps := 9000000) only [go_sem, scrubT, scrubH, Nat.reducePow, Nat.reduceLT, Int.reduceToNat, Int.reduceLE, Int.reduceLT, Int.reduceEq, Int.reduceAdd, Int.reduceSub, Int.reduceMul, Nat.reduceAdd, Nat.reduceMul, Nat.reduceSub, Nat.reduceLeDiff, Nat.reduceEqDiff, Int.reduceNe, ↓reduceIte, ↓way_true, ↓way_false, ↓way_not, ↓way_dec, lk3, ti3, lk5, ti5, lk9, ti9, lk24, ti24, lk25, ti25, lk29, ti29, lk30, ti30, lk32, ti32, lk45, ti45, lk73, ti73, lk74, ti74, lk76, ti76, eq_self]
          subst hQ
          simp only [retQ, ares, aress, ares1, lkp, Option.getD_some, Nat.reduceEqDiff, ↓reduceIte, true_and, lk3, ti3, lk5, ti5, lk9, ti9, lk24, ti24, lk25, ti25, lk29, ti29, lk30, ti30, lk32, ti32, lk45, ti45, lk73, ti73, lk74, ti74, lk76, ti76]
          exact ⟨rfl, rfl⟩
        | cons y m =>
          have hsz2 : t.data.toList.length = t.size := Array.length_toList
          have hall : (y :: m).all right = true := List.all_eq_true.2 fun x hx => (g2 x hx).2
          have hn2 : ¬ (255 < (y :: m).length ∨ 8192 < (textOf (y :: m)).length) := by rw [g1]; omega
          have e3 : prS (y :: m) = t := by unfold prS; rw [hall, if_pos rfl, if_neg hn2, g1, ba_eq]
          have e4 : prE (y :: m) = 0 := by unfold prE; rw [hall, if_pos rfl, if_neg hn2]
          simp (maxSteps := 9000000) only [outV, rowsOf, go_sem, scrubT, scrubH, Nat.reducePow, Nat.reduceLT, Int.reduceToNat, Int.reduceLE, Int.reduceLT, Int.reduceEq, Int.reduceAdd, Int.reduceSub, Int.reduceMul, Nat.reduceAdd, Nat.reduceMul, Nat.reduceSub, Nat.reduceLeDiff, Nat.reduceEqDiff, Int.reduceNe, ↓reduceIte, ↓way_true, ↓way_false, ↓way_not, ↓way_dec, lk3, ti3, lk5, ti5, lk9, ti9, lk24, ti24, lk25, ti25, lk29, ti29, lk30, ti30, lk32, ti32, lk45, ti45, lk73, ti73, lk74, ti74, lk76, ti76]
          refine leaf.call1 300 [] TTok rfl (pc15' (y :: m) (fun x hx => (g2 x hx).1) (by omega)) rfl rfl rfl rfl rfl rfl rfl (by kernel_rfl) ?_
          rintro r h' ⟨rfl, rfl⟩
          refine ⟨rfl, ?_⟩
          rw [e3, e4]
          simp (maxSteps := 9000000) only [go_sem, scrubT, scrubH, Nat.reducePow, Nat.reduceLT, Int.reduceToNat, Int.reduceLE, Int.reduceLT, Int.reduceEq, Int.reduceAdd, Int.reduceSub, Int.reduceMul, Nat.reduceAdd, Nat.reduceMul, Nat.reduceSub, Nat.reduceLeDiff, Nat.reduceEqDiff, Int.reduceNe, ↓reduceIte, ↓way_true, ↓way_false, ↓way_not, ↓way_dec, lk3, ti3, lk5, ti5, lk9, ti9, lk24, ti24, lk25, ti25, lk29, ti29, lk30, ti30, lk32, ti32, lk45, ti45, lk73, ti73, lk74, ti74, lk76, ti76, eq_self]
          subst hQ
          simp only [retQ, ares, aress, ares1, lkp, Option.getD_some, Nat.reduceEqDiff, ↓reduceIte, true_and, lk3, ti3, lk5, ti5, lk9, ti9, lk24, ti24, lk25, ti25, lk29, ti29, lk30, ti30, lk32, ti32, lk45, ti45, lk73, ti73, lk74, ti74, lk76, ti76]
          exact ⟨rfl, rfl⟩
end Go.Proofs.YthhcbgdngmajlaaDoor
