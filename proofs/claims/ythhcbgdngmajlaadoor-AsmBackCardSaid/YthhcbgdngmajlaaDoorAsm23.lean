/- Programs, as the document reads them. No statement of the seat stands here. -/
import Derived.Test.YthhcbgdngmajlaaDoorAsm14
import Derived.Test.YthhcbgdngmajlaaDoorAsm22
set_option linter.unusedSimpArgs false
set_option linter.unusedSectionVars false
set_option maxRecDepth 100000
namespace Go.Proofs.YthhcbgdngmajlaaDoor
open Go Go.AM

theorem idx_at {l : List UInt8} {b : UInt8} {m : Nat} (h1 : ∀ j, j < m → l[j]? ≠ some b) (h2 : l[m]? = some b) : Lib.indexByte l b = m := by
  have hg := idx_ge l b
  by_cases h : Lib.indexByte l b = -1
  · exact absurd h2 (Lib.indexByte_none h m)
  · obtain ⟨j, hj⟩ : ∃ j : Nat, Lib.indexByte l b = j := ⟨(Lib.indexByte l b).toNat, by omega⟩
    obtain ⟨e1, e2⟩ := Lib.indexByte_some hj
    rw [hj]
    have a : ¬ j < m := fun h => h1 j h e1
    have c : ¬ m < j := fun h => e2 m h h2
    omega
theorem idx_no {l : List UInt8} {b : UInt8} (h1 : ∀ j, j < l.length → l[j]? ≠ some b) : Lib.indexByte l b = -1 := by
  have hg := idx_ge l b
  refine Decidable.byContradiction fun h => ?_
  obtain ⟨j, hj⟩ : ∃ j : Nat, Lib.indexByte l b = j := ⟨(Lib.indexByte l b).toNat, by omega⟩
  obtain ⟨e1, _⟩ := Lib.indexByte_some hj
  exact h1 j (List.getElem?_eq_some_iff.1 e1).1 e1
theorem lineI_line {r : List UInt8} {i : Nat} (hi : Lib.indexByte r 10 = i) : lineI (B (r.take (i + 1))) = oneOf (B (r.take i)) := by
  obtain ⟨e1, _⟩ := Lib.indexByte_some hi
  have hlt := (List.getElem?_eq_some_iff.1 e1).1
  have hv := (List.getElem?_eq_some_iff.1 e1).2
  have hd : (B (r.take (i + 1))).data.toList = r.take i ++ [10] := by
    show (r.take (i + 1)).toArray.toList = _
    rw [List.take_succ_eq_append_getElem hlt, hv]
  have hs : Lib.hasSuffix (r.take i ++ [10]) [10] = true := by unfold Lib.hasSuffix; simp [List.isSuffixOf_iff_suffix]
  unfold lineI bodyL
  rw [hd, if_pos hs]
  unfold Lib.trimSuffix
  rw [if_pos hs]
  simp
def rows9 (s : ByteArray) (c : Nat) : List (List D) := ((linesOf s).take c).map fun x => (insL x).row
def I9 (s : ByteArray) (x : Nat × Nat) : AS := match x with
  | (0, a) => { n := 58, t := [(0, vs s), (5, nilV), (6, vi a)], h := [] }
  | (c + 1, a) => { n := 58, t := [(0, vs s), (5, .own 54 4 0 (c + 1)), (6, vi a)], h := [(54, .arr 4 (rows9 s (c + 1)))] }
structure Inv9 (s : ByteArray) (c a : Nat) : Prop where
  a1 : a ≤ s.size
  c1 : c ≤ 255
  c2 : c ≤ (linesOf s).length
  eq : (linesOf s).drop c = linesOf (B (s.data.toList.drop a))
  bad : badAt 0 0 (linesOf s) = badAt c a (linesOf (B (s.data.toList.drop a)))
theorem next9 {s : ByteArray} {c a e : Nat} {x : In} (hI : Inv9 s c a) (hc : c < 255) (hae : a ≤ e) (hel : e < s.size) (hidx : Lib.indexByte (s.data.toList.drop a) 10 = ((e - a : Nat) : Int)) (hx : oneOf (B ((s.data.toList.drop a).take (e - a))) = some x) :
    rows9 s (c + 1) = rows9 s c ++ [x.row] ∧ Inv9 s (c + 1) (e + 1) := by
  obtain ⟨a1, c1, c2, heq, hbad⟩ := hI
  have hsl : s.data.toList.length = s.size := Array.length_toList
  have hlf := lines_feed hidx
  have hline := lineI_line hidx
  have hsz : (B ((s.data.toList.drop a).take (e - a + 1))).size = e - a + 1 := by rw [size_B, List.length_take, List.length_drop]; omega
  rw [List.drop_drop, show a + (e - a + 1) = e + 1 by omega] at hlf
  rw [hlf] at heq hbad
  have hlt : c < (linesOf s).length := by
    have := congrArg List.length heq
    rw [List.length_drop, List.length_cons] at this; omega
  rw [List.drop_eq_getElem_cons hlt] at heq
  obtain ⟨q1, q2⟩ := List.cons.inj heq
  have hins : insL (linesOf s)[c] = x := by unfold insL; rw [q1, hline, hx]; rfl
  refine ⟨?_, by omega, by omega, hlt, q2, ?_⟩
  · unfold rows9
    rw [List.take_succ_eq_append_getElem hlt, List.map_append, List.map_cons, List.map_nil, hins]
  · rw [hbad, badAt, if_neg (by rw [hline, hx]; simp; omega), hsz, show a + (e - a + 1) = e + 1 by omega]
theorem byte_ten {s : ByteArray} {i : Nat} (h : i < s.data.toList.length) : (((byteAt s i : Nat) : Int) = 10) ↔ s.data.toList[i]? = some 10 := by
  rw [byte_is h, List.getElem?_eq_getElem h, Option.some.injEq]
  constructor
  · intro e
    apply UInt8.toNat_inj.1
    have h10 : (10 : UInt8).toNat = 10 := rfl
    omega
  · intro e; rw [e]; rfl
variable [SE]

set_option maxHeartbeats 16000000 in
theorem pc9 (s : ByteArray) (hs : s.size ≤ 1000000) : PC Tryd.prog 9 [] [vs s] (fun r h => h = [] ∧ r = parseV s) := by
  have hsl : s.data.toList.length = s.size := Array.length_toList
  refine PC.pure ?_
  refine PC.frz (Q := fun r h => (r.norm.refs = [] ∧ r.norm = parseV s) ∨ ∃ n rows, parseV s = .tup [.d (.sl 4 rows), vi 0, vi 0] ∧ rows.length = n ∧ r = .tup [.own 54 4 0 n, vi 0, vi 0] ∧ h = [(54, .arr 4 rows)]) ?_ ?_
  · refine PC.go 300 [] TTok rfl Tryd.func9 (by kernel_rfl) rfl Tryd.ntmps9 (rs := [.tmp 2, .tmp 3, .tmp 4]) rfl rfl rfl (by kernel_rfl) ?_
    intro Q hQ
    by_cases h8 : 8192 < s.size
    · have h8i : ((8192 : Int) < (s.size : Int)) = True := eq_true (by omega)
      simp (maxSteps := 9000000) only [go_sem, scrubT, scrubH, Nat.reducePow, Nat.reduceLT, Int.reduceToNat, Int.reduceLE, Int.reduceLT, Int.reduceEq, Int.reduceAdd, Int.reduceSub, Int.reduceMul, Nat.reduceAdd, Nat.reduceMul, Nat.reduceSub, Nat.reduceLeDiff, Nat.reduceEqDiff, Int.reduceNe, ↓reduceIte, ↓way_true, ↓way_false, ↓way_not, ↓way_dec, lk1, ti1, lk3, ti3, lk5, ti5, lk9, ti9, lk24, ti24, lk29, ti29, lk30, ti30, lk32, ti32, h8i]
      subst hQ
      simp only [retQ, ares, aress, ares1, lkp, Option.getD_some, Nat.reduceEqDiff, ↓reduceIte, true_and, lk1, ti1, lk3, ti3, lk5, ti5, lk9, ti9, lk24, ti24, lk29, ti29, lk30, ti30, lk32, ti32]
      refine .inl ⟨rfl, ?_⟩
      unfold parseV
      rw [if_pos h8]; rfl
    · have h8i : ((8192 : Int) < (s.size : Int)) = False := eq_false (by omega)
      have hB : s = B s.data.toList := by cases s; simp [B]
      have bad_ : ∀ (a : Nat) (t : List (Nat × V)) (h : List (Nat × Ob)), lkp 2 t = some nilV → lkp 3 t = some (vi a) → lkp 4 t = some (vi 180) → badAt 0 0 (linesOf s) = some a → Q .ret { n := 58, t := t, h := h } := by
        intro a t h e1 e2 e3 e4
        subst hQ
        simp only [retQ, ares, aress, ares1, lkp, Option.getD_some, Nat.reduceEqDiff, ↓reduceIte, true_and, lk1, ti1, lk3, ti3, lk5, ti5, lk9, ti9, lk24, ti24, lk29, ti29, lk30, ti30, lk32, ti32, e1, e2, e3]
        refine .inl ⟨rfl, ?_⟩
        unfold parseV
        rw [if_neg h8, e4]; rfl
      simp (maxSteps := 9000000) only [go_sem, scrubT, scrubH, Nat.reducePow, Nat.reduceLT, Int.reduceToNat, Int.reduceLE, Int.reduceLT, Int.reduceEq, Int.reduceAdd, Int.reduceSub, Int.reduceMul, Nat.reduceAdd, Nat.reduceMul, Nat.reduceSub, Nat.reduceLeDiff, Nat.reduceEqDiff, Int.reduceNe, ↓reduceIte, ↓way_true, ↓way_false, ↓way_not, ↓way_dec, lk1, ti1, lk3, ti3, lk5, ti5, lk9, ti9, lk24, ti24, lk29, ti29, lk30, ti30, lk32, ti32, h8i]
      refine leaf.loopV 300 [] TTok rfl (α := Nat × Nat) [0, 5, 6] [] (I9 s) (fun x => Inv9 s x.1 x.2) (fun x => s.size - x.2) (0, 0) rfl rfl ⟨Nat.zero_le _, by omega, Nat.zero_le _, by rw [List.drop_zero, List.drop_zero, ← hB], by rw [List.drop_zero, ← hB]⟩ rfl (by kernel_rfl) ?_
      rintro ⟨c, a⟩ ⟨a1, c1, c2, heq, hbad⟩ J hJ
      simp only at a1 c1 c2 heq hbad
      by_cases hlt : a < s.size
      · have hlt' : ((a : Int) < (s.size : Int)) = True := eq_true (by omega)
        have hI0 : Inv9 s c a := ⟨a1, c1, c2, heq, hbad⟩
        cases c with
        | zero =>
          simp (maxSteps := 9000000) only [I9, nilV, go_sem, scrubT, scrubH, Nat.reducePow, Nat.reduceLT, Int.reduceToNat, Int.reduceLE, Int.reduceLT, Int.reduceEq, Int.reduceAdd, Int.reduceSub, Int.reduceMul, Nat.reduceAdd, Nat.reduceMul, Nat.reduceSub, Nat.reduceLeDiff, Nat.reduceEqDiff, Int.reduceNe, ↓reduceIte, ↓way_true, ↓way_false, ↓way_not, ↓way_dec, lk1, ti1, lk3, ti3, lk5, ti5, lk9, ti9, lk24, ti24, lk29, ti29, lk30, ti30, lk32, ti32, hlt']
          refine leaf.loop 300 [] TTok rfl (α := Nat) [0, 5, 6, 7] [] (fun e => { n := 58, t := [(0, vs s), (5, nilV), (6, vi a), (7, vi e)], h := [] }) (fun e => a ≤ e ∧ e ≤ s.size ∧ ∀ j, a ≤ j → j < e → s.data.toList[j]? ≠ some 10) (fun e => s.size - e) a rfl rfl ⟨Nat.le_refl _, by omega, fun j h1 h2 => by omega⟩ rfl (by kernel_rfl) ?_
          rintro e ⟨e1, e2, e3⟩ J2 hJ2

          by_cases he : e < s.size
          · have he' : ((e : Int) < (s.size : Int)) = True := eq_true (by omega)
            have hen : ((e : Int) = (s.size : Int)) = False := eq_false (by omega)
            have hel : e < s.data.toList.length := by omega
            by_cases hb : s.data.toList[e]? = some 10
            · have hby : (((byteAt s e : Nat) : Int) = 10) = True := eq_true ((byte_ten hel).2 hb)
              have hidx : Lib.indexByte (s.data.toList.drop a) 10 = ((e - a : Nat) : Int) := idx_at (fun j hj => by
                rw [List.getElem?_drop]; exact e3 (a + j) (by omega) (by omega)) (by rw [List.getElem?_drop, show a + (e - a) = e by omega]; exact hb)
              have hlf := lines_feed hidx
              have hline := lineI_line hidx
              have hsz : (B ((s.data.toList.drop a).take (e - a + 1))).size = e - a + 1 := by rw [size_B, List.length_take, List.length_drop]; omega
              rw [hlf, badAt] at hbad
              have hex : s.extract a e = B ((s.data.toList.drop a).take (e - a)) := by
                have e0 : s = ⟨s.data.toList.toArray⟩ := by cases s; simp
                conv => lhs; rw [e0]
                apply ByteArray.ext
                rw [ByteArray.data_extract]
                apply Array.ext'
                simp [List.extract_eq_take_drop]
              simp (maxSteps := 9000000) only [nilV, go_sem, scrubT, scrubH, Nat.reducePow, Nat.reduceLT, Int.reduceToNat, Int.reduceLE, Int.reduceLT, Int.reduceEq, Int.reduceAdd, Int.reduceSub, Int.reduceMul, Nat.reduceAdd, Nat.reduceMul, Nat.reduceSub, Nat.reduceLeDiff, Nat.reduceEqDiff, Int.reduceNe, ↓reduceIte, ↓way_true, ↓way_false, ↓way_not, ↓way_dec, lk1, ti1, lk3, ti3, lk5, ti5, lk9, ti9, lk24, ti24, lk29, ti29, lk30, ti30, lk32, ti32, he', hen, hby, Int.toNat_natCast]
              repeat (first | refine ⟨by omega, fun _ => ?_⟩ | refine ⟨in_i64 (by omega) (by omega), fun _ => ?_⟩ | refine ⟨by unfold LMAX; omega, fun _ => ?_⟩)
              rw [hex]
              refine leaf.call1 300 [] TTok rfl (pc12 (B ((s.data.toList.drop a).take (e - a))) (by rw [size_B, List.length_take, List.length_drop]; omega)) rfl rfl rfl rfl rfl rfl rfl (by kernel_rfl) ?_
              rintro r h' ⟨rfl, rfl⟩
              refine ⟨rfl, ?_⟩
              cases ho : oneOf (B ((s.data.toList.drop a).take (e - a))) with
              | none =>
                simp (maxSteps := 9000000) only [optR, In.row, go_sem, scrubT, scrubH, Nat.reducePow, Nat.reduceLT, Int.reduceToNat, Int.reduceLE, Int.reduceLT, Int.reduceEq, Int.reduceAdd, Int.reduceSub, Int.reduceMul, Nat.reduceAdd, Nat.reduceMul, Nat.reduceSub, Nat.reduceLeDiff, Nat.reduceEqDiff, Int.reduceNe, ↓reduceIte, ↓way_true, ↓way_false, ↓way_not, ↓way_dec, lk1, ti1, lk3, ti3, lk5, ti5, lk9, ti9, lk24, ti24, lk29, ti29, lk30, ti30, lk32, ti32]
                refine bad_ a _ _ rfl rfl rfl ?_
                rw [hbad, if_pos (.inl (by rw [hline, ho]; rfl))]
              | some x =>
                simp (maxSteps := 9000000) only [optR, In.row, nilV, go_sem, scrubT, scrubH, Nat.reducePow, Nat.reduceLT, Int.reduceToNat, Int.reduceLE, Int.reduceLT, Int.reduceEq, Int.reduceAdd, Int.reduceSub, Int.reduceMul, Nat.reduceAdd, Nat.reduceMul, Nat.reduceSub, Nat.reduceLeDiff, Nat.reduceEqDiff, Int.reduceNe, ↓reduceIte, ↓way_true, ↓way_false, ↓way_not, ↓way_dec, lk1, ti1, lk3, ti3, lk5, ti5, lk9, ti9, lk24, ti24, lk29, ti29, lk30, ti30, lk32, ti32]
                repeat (first | refine ⟨by omega, fun _ => ?_⟩ | refine ⟨in_i64 (by omega) (by omega), fun _ => ?_⟩ | refine ⟨by unfold LMAX; omega, fun _ => ?_⟩)
                subst hJ
                obtain ⟨g1, g2⟩ := next9 hI0 (by omega) e1 he hidx ho
                refine ⟨[54], rfl, (1, e + 1), ?_, g2, by simp only; omega⟩
                show _ = I9 s (0 + 1, e + 1)
                simp only [I9, g1]
                rfl
            · have hby : (((byteAt s e : Nat) : Int) = 10) = False := eq_false (fun h => hb ((byte_ten hel).1 h))
              simp (maxSteps := 9000000) only [nilV, go_sem, scrubT, scrubH, Nat.reducePow, Nat.reduceLT, Int.reduceToNat, Int.reduceLE, Int.reduceLT, Int.reduceEq, Int.reduceAdd, Int.reduceSub, Int.reduceMul, Nat.reduceAdd, Nat.reduceMul, Nat.reduceSub, Nat.reduceLeDiff, Nat.reduceEqDiff, Int.reduceNe, ↓reduceIte, ↓way_true, ↓way_false, ↓way_not, ↓way_dec, lk1, ti1, lk3, ti3, lk5, ti5, lk9, ti9, lk24, ti24, lk29, ti29, lk30, ti30, lk32, ti32, he', hen, hby, Int.toNat_natCast]
              repeat (first | refine ⟨by omega, fun _ => ?_⟩ | refine ⟨in_i64 (by omega) (by omega), fun _ => ?_⟩ | refine ⟨by unfold LMAX; omega, fun _ => ?_⟩)
              subst hJ2
              refine ⟨rfl, e + 1, rfl, ⟨by omega, by omega, fun j h1 h2 => ?_⟩, by omega⟩
              by_cases hje : j = e
              · subst hje; exact hb
              · exact e3 j h1 (by omega)
          · have he' : ((e : Int) < (s.size : Int)) = False := eq_false (by omega)
            obtain rfl : e = s.size := by omega
            simp (maxSteps := 9000000) only [nilV, go_sem, scrubT, scrubH, Nat.reducePow, Nat.reduceLT, Int.reduceToNat, Int.reduceLE, Int.reduceLT, Int.reduceEq, Int.reduceAdd, Int.reduceSub, Int.reduceMul, Nat.reduceAdd, Nat.reduceMul, Nat.reduceSub, Nat.reduceLeDiff, Nat.reduceEqDiff, Int.reduceNe, ↓reduceIte, ↓way_true, ↓way_false, ↓way_not, ↓way_dec, lk1, ti1, lk3, ti3, lk5, ti5, lk9, ti9, lk24, ti24, lk29, ti29, lk30, ti30, lk32, ti32, he', Int.toNat_natCast]
            refine bad_ a _ _ rfl rfl rfl ?_
            have hidx : Lib.indexByte (s.data.toList.drop a) 10 = -1 := idx_no (fun j hj => by
              rw [List.length_drop] at hj
              rw [List.getElem?_drop]; exact e3 (a + j) (by omega) (by omega))
            rw [hbad, linesOf_last (by rw [size_B, List.length_drop]; omega) (by show ¬ 0 ≤ Lib.indexByte (B (s.data.toList.drop a)).data.toList 10; rw [show (B (s.data.toList.drop a)).data.toList = s.data.toList.drop a from by simp [B], hidx]; omega), badAt, if_pos (.inl (by rw [lineI_feed hidx]; rfl))]
        | succ c =>
          simp (maxSteps := 9000000) only [I9, nilV, go_sem, scrubT, scrubH, Nat.reducePow, Nat.reduceLT, Int.reduceToNat, Int.reduceLE, Int.reduceLT, Int.reduceEq, Int.reduceAdd, Int.reduceSub, Int.reduceMul, Nat.reduceAdd, Nat.reduceMul, Nat.reduceSub, Nat.reduceLeDiff, Nat.reduceEqDiff, Int.reduceNe, ↓reduceIte, ↓way_true, ↓way_false, ↓way_not, ↓way_dec, lk1, ti1, lk3, ti3, lk5, ti5, lk9, ti9, lk24, ti24, lk29, ti29, lk30, ti30, lk32, ti32, hlt']
          refine leaf.loop 300 [] TTok rfl (α := Nat) [0, 5, 6, 7] [54] (fun e => { n := 58, t := [(0, vs s), (5, .own 54 4 0 (c + 1)), (6, vi a), (7, vi e)], h := [(54, .arr 4 (rows9 s (c + 1)))] }) (fun e => a ≤ e ∧ e ≤ s.size ∧ ∀ j, a ≤ j → j < e → s.data.toList[j]? ≠ some 10) (fun e => s.size - e) a rfl rfl ⟨Nat.le_refl _, by omega, fun j h1 h2 => by omega⟩ rfl (by kernel_rfl) ?_
          rintro e ⟨e1, e2, e3⟩ J2 hJ2

          by_cases he : e < s.size
          · have he' : ((e : Int) < (s.size : Int)) = True := eq_true (by omega)
            have hen : ((e : Int) = (s.size : Int)) = False := eq_false (by omega)
            have hel : e < s.data.toList.length := by omega
            by_cases hb : s.data.toList[e]? = some 10
            · have hby : (((byteAt s e : Nat) : Int) = 10) = True := eq_true ((byte_ten hel).2 hb)
              have hidx : Lib.indexByte (s.data.toList.drop a) 10 = ((e - a : Nat) : Int) := idx_at (fun j hj => by
                rw [List.getElem?_drop]; exact e3 (a + j) (by omega) (by omega)) (by rw [List.getElem?_drop, show a + (e - a) = e by omega]; exact hb)
              have hlf := lines_feed hidx
              have hline := lineI_line hidx
              have hsz : (B ((s.data.toList.drop a).take (e - a + 1))).size = e - a + 1 := by rw [size_B, List.length_take, List.length_drop]; omega
              rw [hlf, badAt] at hbad
              have hex : s.extract a e = B ((s.data.toList.drop a).take (e - a)) := by
                have e0 : s = ⟨s.data.toList.toArray⟩ := by cases s; simp
                conv => lhs; rw [e0]
                apply ByteArray.ext
                rw [ByteArray.data_extract]
                apply Array.ext'
                simp [List.extract_eq_take_drop]
              by_cases h255 : c + 1 = 255
              · have h255i : (((c + 1 : Nat) : Int) = 255) = True := eq_true (by omega)
                simp (maxSteps := 9000000) only [nilV, go_sem, scrubT, scrubH, Nat.reducePow, Nat.reduceLT, Int.reduceToNat, Int.reduceLE, Int.reduceLT, Int.reduceEq, Int.reduceAdd, Int.reduceSub, Int.reduceMul, Nat.reduceAdd, Nat.reduceMul, Nat.reduceSub, Nat.reduceLeDiff, Nat.reduceEqDiff, Int.reduceNe, ↓reduceIte, ↓way_true, ↓way_false, ↓way_not, ↓way_dec, lk1, ti1, lk3, ti3, lk5, ti5, lk9, ti9, lk24, ti24, lk29, ti29, lk30, ti30, lk32, ti32, he', hen, hby, h255i, Int.toNat_natCast]
                repeat (first | refine ⟨by omega, fun _ => ?_⟩ | refine ⟨in_i64 (by omega) (by omega), fun _ => ?_⟩ | refine ⟨by unfold LMAX; omega, fun _ => ?_⟩)
                refine bad_ a _ _ rfl rfl rfl ?_
                rw [hbad, if_pos (.inr h255)]
              have h255i : (((c + 1 : Nat) : Int) = 255) = False := eq_false (by omega)
              have hrl : (rows9 s (c + 1)).length = c + 1 := by unfold rows9; rw [List.length_map, List.length_take]; omega
              simp (maxSteps := 9000000) only [nilV, go_sem, scrubT, scrubH, Nat.reducePow, Nat.reduceLT, Int.reduceToNat, Int.reduceLE, Int.reduceLT, Int.reduceEq, Int.reduceAdd, Int.reduceSub, Int.reduceMul, Nat.reduceAdd, Nat.reduceMul, Nat.reduceSub, Nat.reduceLeDiff, Nat.reduceEqDiff, Int.reduceNe, ↓reduceIte, ↓way_true, ↓way_false, ↓way_not, ↓way_dec, lk1, ti1, lk3, ti3, lk5, ti5, lk9, ti9, lk24, ti24, lk29, ti29, lk30, ti30, lk32, ti32, he', hen, hby, h255i, Int.toNat_natCast]
              repeat (first | refine ⟨by omega, fun _ => ?_⟩ | refine ⟨in_i64 (by omega) (by omega), fun _ => ?_⟩ | refine ⟨by unfold LMAX; omega, fun _ => ?_⟩)
              rw [hex]
              refine leaf.call1 300 [] TTok rfl (pc12 (B ((s.data.toList.drop a).take (e - a))) (by rw [size_B, List.length_take, List.length_drop]; omega)) rfl rfl rfl rfl rfl rfl rfl (by kernel_rfl) ?_
              rintro r h' ⟨rfl, rfl⟩
              refine ⟨rfl, ?_⟩
              cases ho : oneOf (B ((s.data.toList.drop a).take (e - a))) with
              | none =>
                simp (maxSteps := 9000000) only [optR, In.row, go_sem, scrubT, scrubH, Nat.reducePow, Nat.reduceLT, Int.reduceToNat, Int.reduceLE, Int.reduceLT, Int.reduceEq, Int.reduceAdd, Int.reduceSub, Int.reduceMul, Nat.reduceAdd, Nat.reduceMul, Nat.reduceSub, Nat.reduceLeDiff, Nat.reduceEqDiff, Int.reduceNe, ↓reduceIte, ↓way_true, ↓way_false, ↓way_not, ↓way_dec, lk1, ti1, lk3, ti3, lk5, ti5, lk9, ti9, lk24, ti24, lk29, ti29, lk30, ti30, lk32, ti32]
                refine bad_ a _ _ rfl rfl rfl ?_
                rw [hbad, if_pos (.inl (by rw [hline, ho]; rfl))]
              | some x =>
                simp (maxSteps := 9000000) only [optR, In.row, nilV, go_sem, scrubT, scrubH, Nat.reducePow, Nat.reduceLT, Int.reduceToNat, Int.reduceLE, Int.reduceLT, Int.reduceEq, Int.reduceAdd, Int.reduceSub, Int.reduceMul, Nat.reduceAdd, Nat.reduceMul, Nat.reduceSub, Nat.reduceLeDiff, Nat.reduceEqDiff, Int.reduceNe, ↓reduceIte, ↓way_true, ↓way_false, ↓way_not, ↓way_dec, lk1, ti1, lk3, ti3, lk5, ti5, lk9, ti9, lk24, ti24, lk29, ti29, lk30, ti30, lk32, ti32, hrl]
                repeat (first | refine ⟨by omega, fun _ => ?_⟩ | refine ⟨in_i64 (by omega) (by omega), fun _ => ?_⟩ | refine ⟨by unfold LMAX; omega, fun _ => ?_⟩)
                subst hJ
                obtain ⟨g1, g2⟩ := next9 hI0 (by omega) e1 he hidx ho
                refine ⟨[54], rfl, (c + 1 + 1, e + 1), ?_, g2, by simp only; omega⟩
                show _ = I9 s (c + 1 + 1, e + 1)
                simp only [I9, g1]
                rfl
            · have hby : (((byteAt s e : Nat) : Int) = 10) = False := eq_false (fun h => hb ((byte_ten hel).1 h))
              simp (maxSteps := 9000000) only [nilV, go_sem, scrubT, scrubH, Nat.reducePow, Nat.reduceLT, Int.reduceToNat, Int.reduceLE, Int.reduceLT, Int.reduceEq, Int.reduceAdd, Int.reduceSub, Int.reduceMul, Nat.reduceAdd, Nat.reduceMul, Nat.reduceSub, Nat.reduceLeDiff, Nat.reduceEqDiff, Int.reduceNe, ↓reduceIte, ↓way_true, ↓way_false, ↓way_not, ↓way_dec, lk1, ti1, lk3, ti3, lk5, ti5, lk9, ti9, lk24, ti24, lk29, ti29, lk30, ti30, lk32, ti32, he', hen, hby, Int.toNat_natCast]
              repeat (first | refine ⟨by omega, fun _ => ?_⟩ | refine ⟨in_i64 (by omega) (by omega), fun _ => ?_⟩ | refine ⟨by unfold LMAX; omega, fun _ => ?_⟩)
              subst hJ2
              refine ⟨rfl, e + 1, rfl, ⟨by omega, by omega, fun j h1 h2 => ?_⟩, by omega⟩
              by_cases hje : j = e
              · subst hje; exact hb
              · exact e3 j h1 (by omega)
          · have he' : ((e : Int) < (s.size : Int)) = False := eq_false (by omega)
            obtain rfl : e = s.size := by omega
            simp (maxSteps := 9000000) only [nilV, go_sem, scrubT, scrubH, Nat.reducePow, Nat.reduceLT, Int.reduceToNat, Int.reduceLE, Int.reduceLT, Int.reduceEq, Int.reduceAdd, Int.reduceSub, Int.reduceMul, Nat.reduceAdd, Nat.reduceMul, Nat.reduceSub, Nat.reduceLeDiff, Nat.reduceEqDiff, Int.reduceNe, ↓reduceIte, ↓way_true, ↓way_false, ↓way_not, ↓way_dec, lk1, ti1, lk3, ti3, lk5, ti5, lk9, ti9, lk24, ti24, lk29, ti29, lk30, ti30, lk32, ti32, he', Int.toNat_natCast]
            refine bad_ a _ _ rfl rfl rfl ?_
            have hidx : Lib.indexByte (s.data.toList.drop a) 10 = -1 := idx_no (fun j hj => by
              rw [List.length_drop] at hj
              rw [List.getElem?_drop]; exact e3 (a + j) (by omega) (by omega))
            rw [hbad, linesOf_last (by rw [size_B, List.length_drop]; omega) (by show ¬ 0 ≤ Lib.indexByte (B (s.data.toList.drop a)).data.toList 10; rw [show (B (s.data.toList.drop a)).data.toList = s.data.toList.drop a from by simp [B], hidx]; omega), badAt, if_pos (.inl (by rw [lineI_feed hidx]; rfl))]
      · have hlt' : ((a : Int) < (s.size : Int)) = False := eq_false (by omega)
        have hnil : linesOf (B (s.data.toList.drop a)) = [] := linesOf_nil (by rw [size_B, List.length_drop]; omega)
        rw [hnil, badAt] at hbad
        rw [hnil] at heq
        have hcl : c = (linesOf s).length := by
          have := congrArg List.length heq
          rw [List.length_drop, List.length_nil] at this; omega
        cases c with
        | zero =>
          simp (maxSteps := 9000000) only [I9, nilV, go_sem, scrubT, scrubH, Nat.reducePow, Nat.reduceLT, Int.reduceToNat, Int.reduceLE, Int.reduceLT, Int.reduceEq, Int.reduceAdd, Int.reduceSub, Int.reduceMul, Nat.reduceAdd, Nat.reduceMul, Nat.reduceSub, Nat.reduceLeDiff, Nat.reduceEqDiff, Int.reduceNe, ↓reduceIte, ↓way_true, ↓way_false, ↓way_not, ↓way_dec, lk1, ti1, lk3, ti3, lk5, ti5, lk9, ti9, lk24, ti24, lk29, ti29, lk30, ti30, lk32, ti32, hlt']
          subst hQ
          simp only [retQ, ares, aress, ares1, lkp, Option.getD_some, Nat.reduceEqDiff, ↓reduceIte, true_and, lk1, ti1, lk3, ti3, lk5, ti5, lk9, ti9, lk24, ti24, lk29, ti29, lk30, ti30, lk32, ti32]
          refine .inl ⟨rfl, ?_⟩
          unfold parseV
          rw [if_neg h8, hbad, List.length_eq_zero_iff.1 hcl.symm]; rfl
        | succ c =>
          simp (maxSteps := 9000000) only [I9, nilV, go_sem, scrubT, scrubH, Nat.reducePow, Nat.reduceLT, Int.reduceToNat, Int.reduceLE, Int.reduceLT, Int.reduceEq, Int.reduceAdd, Int.reduceSub, Int.reduceMul, Nat.reduceAdd, Nat.reduceMul, Nat.reduceSub, Nat.reduceLeDiff, Nat.reduceEqDiff, Int.reduceNe, ↓reduceIte, ↓way_true, ↓way_false, ↓way_not, ↓way_dec, lk1, ti1, lk3, ti3, lk5, ti5, lk9, ti9, lk24, ti24, lk29, ti29, lk30, ti30, lk32, ti32, hlt']
          subst hQ
          simp only [retQ, ares, aress, ares1, lkp, Option.getD_some, Nat.reduceEqDiff, ↓reduceIte, true_and, lk1, ti1, lk3, ti3, lk5, ti5, lk9, ti9, lk24, ti24, lk29, ti29, lk30, ti30, lk32, ti32]
          refine .inr ⟨c + 1, rows9 s (c + 1), ?_, by unfold rows9; rw [List.length_map, List.length_take]; omega, rfl, rfl⟩
          unfold parseV rows9
          rw [if_neg h8, hbad, hcl, List.take_length]
          cases hl : linesOf s with
          | nil => rw [hl] at hcl; cases hcl
          | cons p q =>
            show V.tup [rowsOf ((p :: q).map insL), vi 0, vi 0] = _
            unfold rowsOf
            rw [List.map_map]; rfl
  · rintro r h (⟨h1, h2⟩ | ⟨n, rows, h1, rfl, rfl, rfl⟩)
    · exact .inl ⟨h1, h2⟩
    · refine .inr ⟨54, _, _, rfl, rfl, ?_, ?_, ?_⟩
      · exact ⟨fun _ => ⟨rfl, by omega⟩, trivial, trivial, trivial⟩
      · exact ⟨.inl rfl, trivial⟩
      · have : (rows.drop 0).take rows.length = rows := by simp
        simp only [V.frz, frzL, Frz.arr, ↓reduceIte, this, V.norm, normL]
        exact ⟨rfl, h1.symm⟩
end Go.Proofs.YthhcbgdngmajlaaDoor
