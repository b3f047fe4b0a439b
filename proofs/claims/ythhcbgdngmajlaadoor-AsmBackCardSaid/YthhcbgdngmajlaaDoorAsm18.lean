/- A line's parts, as the document takes them. No statement of the seat stands here. -/
import Derived.Test.YthhcbgdngmajlaaDoorAsm4
import Derived.Test.YthhcbgdngmajlaaDoorAsmP
import Derived.Test.YthhcbgdngmajlaaDoorAmD
set_option linter.unusedSimpArgs false
set_option linter.unusedSectionVars false
set_option maxRecDepth 100000
namespace Go.Proofs.YthhcbgdngmajlaaDoor
open Go Go.AM

def textsOf (l : List (List UInt8)) : List (List D) := l.map fun p => [.val (.string ⟨p.toArray⟩)]
theorem textsOf_snoc (l : List (List UInt8)) (p : List UInt8) : textsOf (l ++ [p]) = textsOf l ++ [[.val (.string ⟨p.toArray⟩)]] := by simp [textsOf]
theorem textsOf_length (l : List (List UInt8)) : (textsOf l).length = l.length := by simp [textsOf]
theorem splitL_length (b : UInt8) : ∀ l : List UInt8, (splitL b l).length ≤ l.length + 1
  | [] => by simp [splitL]
  | c :: r => by
    have := splitL_length b r
    unfold splitL
    split
    · simp; omega
    · split
      · rename_i h; rw [h] at this; simp at this ⊢; omega
      · simp
def I33 (s : ByteArray) (x : List (List UInt8) × Nat × Nat) : AS := match x with
  | ([], a, i) => { n := 31, t := [(0, vs s), (3, .d (.val (.slice none 0 0))), (4, vi a), (7, vi s.size), (8, vi i)], h := [] }
  | (p :: q, a, i) => { n := 31, t := [(0, vs s), (3, .own 21 1 0 (q.length + 1)), (4, vi a), (7, vi s.size), (8, vi i)], h := [(21, .arr 1 (textsOf (p :: q)))] }
theorem byte_at {s : ByteArray} {i : Nat} (h : i < s.size) : ((byteAt s i : Nat) : Int) = 32 ↔ s.data.toList[i]'(by simpa using h) = 32 := by
  have hl : i < s.data.toList.length := by simpa using h
  unfold byteAt
  rw [List.getD_eq_getElem?_getD, List.getElem?_eq_getElem hl]
  simp only [Option.getD_some]
  constructor
  · intro e
    apply UInt8.toNat_inj.1
    have h32 : (32 : UInt8).toNat = 32 := rfl
    omega
  · intro e; rw [e]; rfl
variable [SE]

set_option maxHeartbeats 8000000 in
theorem pc33 (s : ByteArray) (hs : s.size ≤ 1000000) : PC Tryd.prog 33 [] [vs s] (fun r h => h = [] ∧ r = .d (.sl 1 (textsOf (splitL 32 s.data.toList)))) := by
  refine PC.pure ?_
  refine PC.frz (Q := fun r h => ∃ rows, rows = textsOf (splitL 32 s.data.toList) ∧ r = .own 30 1 0 rows.length ∧ h = [(30, .arr 1 rows)]) ?_ ?_
  · refine PC.go 300 [] TTok rfl Tryd.func33 (by kernel_rfl) rfl Tryd.ntmps33 (rs := [.tmp 2]) rfl rfl rfl (by kernel_rfl) ?_
    intro Q hQ
    simp (maxSteps := 9000000) only [go_sem, scrubT, scrubH, Nat.reducePow, Nat.reduceLT, Int.reduceToNat, Int.reduceLE, Int.reduceLT, Int.reduceEq, Int.reduceAdd, Int.reduceSub, Int.reduceMul, Nat.reduceAdd, Nat.reduceMul, Nat.reduceSub, Nat.reduceLeDiff, Nat.reduceEqDiff, Int.reduceNe, ↓reduceIte, ↓way_true, ↓way_false, ↓way_not, ↓way_dec, lk1, ti1, lk5, ti5, lk9, ti9, lk22, ti22]
    have hl : s.data.toList.length = s.size := Array.length_toList
    refine leaf.loopV 300 [] TTok rfl (α := List (List UInt8) × Nat × Nat) [0, 3, 4, 7, 8] [] (I33 s) (fun x => x.2.1 ≤ x.2.2 ∧ x.2.2 ≤ s.size ∧ splitL 32 (s.data.toList.take x.2.2) = x.1 ++ [(s.data.toList.take x.2.2).drop x.2.1]) (fun x => s.size - x.2.2) ([], 0, 0) rfl rfl ⟨Nat.le_refl _, Nat.zero_le _, by simp [splitL]⟩ rfl (by kernel_rfl) ?_
    rintro ⟨out, a, i⟩ ⟨h1, h2, h3⟩ J hJ
    simp only at h1 h2 h3
    have hlen : out.length + 1 ≤ i + 1 := by
      have := splitL_length 32 (s.data.toList.take i)
      rw [h3, List.length_append, List.length_singleton, List.length_take] at this; omega
    have hx : ∀ k, s.extract a k = ⟨((s.data.toList.take k).drop a).toArray⟩ := fun k => by
      have e : s = ⟨s.data.toList.toArray⟩ := by cases s; simp
      conv => lhs; rw [e]
      apply ByteArray.ext
      rw [ByteArray.data_extract]
      apply Array.ext'
      simp [List.drop_take, List.extract_eq_take_drop]
    by_cases hlt : i < s.size
    · have hlt' : ((i : Int) < (s.size : Int)) = True := eq_true (by omega)
      have hil : i < s.data.toList.length := by omega
      have hb := byte_at hlt
      have hsn := splitL_snoc 32 _ _ _ (s.data.toList[i]) h3
      rw [← List.take_succ_eq_append_getElem hil] at hsn
      have hz : (s.data.toList.take (i + 1)).drop (i + 1) = [] := List.drop_eq_nil_of_le (List.length_take_le _ _)
      have hd : ¬ s.data.toList[i] = 32 → (s.data.toList.take (i + 1)).drop a = (s.data.toList.take i).drop a ++ [s.data.toList[i]] := fun _ => by
        rw [List.take_succ_eq_append_getElem hil, List.drop_append_of_le_length (by rw [List.length_take]; omega)]
      cases out with
      | nil =>
        simp (maxSteps := 9000000) only [I33, go_sem, scrubT, scrubH, Nat.reducePow, Nat.reduceLT, Int.reduceToNat, Int.reduceLE, Int.reduceLT, Int.reduceEq, Int.reduceAdd, Int.reduceSub, Int.reduceMul, Nat.reduceAdd, Nat.reduceMul, Nat.reduceSub, Nat.reduceLeDiff, Nat.reduceEqDiff, Int.reduceNe, ↓reduceIte, ↓way_true, ↓way_false, ↓way_not, ↓way_dec, lk1, ti1, lk5, ti5, lk9, ti9, lk22, ti22, hlt', Int.toNat_natCast]
        repeat (first | refine ⟨by omega, fun _ => ?_⟩ | refine ⟨in_i64 (by omega) (by omega), fun _ => ?_⟩ | refine ⟨by unfold LMAX; omega, fun _ => ?_⟩)
        refine ⟨fun hc => ?_, fun hc => ?_⟩
        · repeat (first | refine ⟨by omega, fun _ => ?_⟩ | refine ⟨in_i64 (by omega) (by omega), fun _ => ?_⟩ | refine ⟨by unfold LMAX; omega, fun _ => ?_⟩)
          rw [if_pos (hb.1 hc)] at hsn
          subst hJ
          refine ⟨[21], rfl, ([(s.data.toList.take i).drop a], i + 1, i + 1), by rw [hx]; rfl, ⟨Nat.le_refl _, hlt, ?_⟩, by simp only; omega⟩
          simp only [hsn, hz]; rfl
        · repeat (first | refine ⟨by omega, fun _ => ?_⟩ | refine ⟨in_i64 (by omega) (by omega), fun _ => ?_⟩ | refine ⟨by unfold LMAX; omega, fun _ => ?_⟩)
          have hc' : ¬ s.data.toList[i] = 32 := fun e => hc (hb.2 e)
          rw [if_neg hc', ← hd hc'] at hsn
          subst hJ
          exact ⟨[], rfl, ([], a, i + 1), rfl, ⟨by simp only; omega, hlt, hsn⟩, by simp only; omega⟩
      | cons p q =>
        have hl2 : (textsOf (p :: q)).length = q.length + 1 := by simp [textsOf]
        have hl3 : (p :: q).length = q.length + 1 := rfl
        simp (maxSteps := 9000000) only [I33, go_sem, scrubT, scrubH, Nat.reducePow, Nat.reduceLT, Int.reduceToNat, Int.reduceLE, Int.reduceLT, Int.reduceEq, Int.reduceAdd, Int.reduceSub, Int.reduceMul, Nat.reduceAdd, Nat.reduceMul, Nat.reduceSub, Nat.reduceLeDiff, Nat.reduceEqDiff, Int.reduceNe, ↓reduceIte, ↓way_true, ↓way_false, ↓way_not, ↓way_dec, lk1, ti1, lk5, ti5, lk9, ti9, lk22, ti22, hlt', Int.toNat_natCast]
        repeat (first | refine ⟨by omega, fun _ => ?_⟩ | refine ⟨in_i64 (by omega) (by omega), fun _ => ?_⟩ | refine ⟨by unfold LMAX; omega, fun _ => ?_⟩)
        refine ⟨fun hc => ?_, fun hc => ?_⟩
        · rw [hl2, hx, ← textsOf_snoc]
          repeat (first | refine ⟨by omega, fun _ => ?_⟩ | refine ⟨in_i64 (by omega) (by omega), fun _ => ?_⟩ | refine ⟨by unfold LMAX; omega, fun _ => ?_⟩)
          rw [if_pos (hb.1 hc)] at hsn
          subst hJ
          refine ⟨[21], rfl, (p :: (q ++ [(s.data.toList.take i).drop a]), i + 1, i + 1), ?_, ⟨Nat.le_refl _, hlt, ?_⟩, by simp only; omega⟩
          · simp only [I33, List.length_append, List.length_singleton]; rfl
          · simp only [hsn, hz]; simp
        · repeat (first | refine ⟨by omega, fun _ => ?_⟩ | refine ⟨in_i64 (by omega) (by omega), fun _ => ?_⟩ | refine ⟨by unfold LMAX; omega, fun _ => ?_⟩)
          have hc' : ¬ s.data.toList[i] = 32 := fun e => hc (hb.2 e)
          rw [if_neg hc', ← hd hc'] at hsn
          subst hJ
          exact ⟨[21], rfl, (p :: q, a, i + 1), rfl, ⟨by simp only; omega, hlt, hsn⟩, by simp only; omega⟩
    · have hlt' : ((i : Int) < (s.size : Int)) = False := eq_false (by omega)
      obtain rfl : i = s.size := by omega
      rw [show s.data.toList.take s.size = s.data.toList from List.take_of_length_le (by omega)] at h3
      have hxs : s.extract a s.size = ⟨(s.data.toList.drop a).toArray⟩ := by
        rw [hx, List.take_of_length_le (by omega)]
      cases out with
      | nil =>
        simp (maxSteps := 9000000) only [I33, go_sem, scrubT, scrubH, Nat.reducePow, Nat.reduceLT, Int.reduceToNat, Int.reduceLE, Int.reduceLT, Int.reduceEq, Int.reduceAdd, Int.reduceSub, Int.reduceMul, Nat.reduceAdd, Nat.reduceMul, Nat.reduceSub, Nat.reduceLeDiff, Nat.reduceEqDiff, Int.reduceNe, ↓reduceIte, ↓way_true, ↓way_false, ↓way_not, ↓way_dec, lk1, ti1, lk5, ti5, lk9, ti9, lk22, ti22, hlt', Int.toNat_natCast]
        rw [hxs]
        repeat (first | refine ⟨by omega, fun _ => ?_⟩ | refine ⟨in_i64 (by omega) (by omega), fun _ => ?_⟩ | refine ⟨by unfold LMAX; omega, fun _ => ?_⟩)
        subst hQ
        simp only [retQ, ares, aress, ares1, lkp, Option.getD_some, Nat.reduceEqDiff, ↓reduceIte, true_and, lk1, ti1, lk5, ti5, lk9, ti9, lk22, ti22]
        exact ⟨_, rfl, by rw [h3]; rfl, by rw [h3]; rfl⟩
      | cons p q =>
        have hl2 : (textsOf (p :: q)).length = q.length + 1 := by simp [textsOf]
        have hl3 : (p :: q).length = q.length + 1 := rfl
        simp (maxSteps := 9000000) only [I33, go_sem, scrubT, scrubH, Nat.reducePow, Nat.reduceLT, Int.reduceToNat, Int.reduceLE, Int.reduceLT, Int.reduceEq, Int.reduceAdd, Int.reduceSub, Int.reduceMul, Nat.reduceAdd, Nat.reduceMul, Nat.reduceSub, Nat.reduceLeDiff, Nat.reduceEqDiff, Int.reduceNe, ↓reduceIte, ↓way_true, ↓way_false, ↓way_not, ↓way_dec, lk1, ti1, lk5, ti5, lk9, ti9, lk22, ti22, hlt', Int.toNat_natCast]
        rw [hl2, hxs, ← textsOf_snoc]
        repeat (first | refine ⟨by omega, fun _ => ?_⟩ | refine ⟨in_i64 (by omega) (by omega), fun _ => ?_⟩ | refine ⟨by unfold LMAX; omega, fun _ => ?_⟩)
        subst hQ
        simp only [retQ, ares, aress, ares1, lkp, Option.getD_some, Nat.reduceEqDiff, ↓reduceIte, true_and, lk1, ti1, lk5, ti5, lk9, ti9, lk22, ti22]
        refine ⟨_, rfl, by rw [h3, textsOf_length]; simp, by rw [h3]⟩
  · rintro r h ⟨rows, h1, rfl, rfl⟩
    refine .inr ⟨30, _, _, rfl, rfl, fun _ => ⟨rfl, by omega⟩, ?_, ?_⟩
    · exact ⟨.inl rfl, trivial⟩
    · have : (rows.drop 0).take rows.length = rows := by simp
      simp only [V.frz, Frz.arr, ↓reduceIte, this, V.norm]
      rw [h1]
      exact ⟨rfl, rfl⟩
end Go.Proofs.YthhcbgdngmajlaaDoor
