/- A number of a line, as the document takes it. No statement of the seat stands here. -/
import Derived.Test.YthhcbgdngmajlaaDoorAsm18
import Derived.Test.YthhcbgdngmajlaaDoorAsm5
set_option linter.unusedSimpArgs false
set_option linter.unusedSectionVars false
set_option maxRecDepth 100000
namespace Go.Proofs.YthhcbgdngmajlaaDoor
open Go Go.AM

open Classical in
/-- What the document says of a number's digits. -/
def numR (most : Nat) (l : List UInt8) (d : Int) (ok : Bool) : Prop :=
  if good l ∧ l.length ≤ 10 ∧ val 0 l ≤ most then ok = true ∧ d = val 0 l else ok = false
theorem val_lt : ∀ (l : List UInt8) (a : Nat), l.all isDig = true → val a l + 1 ≤ (a + 1) * 10 ^ l.length
  | [], a, _ => by rw [val_nil]; exact Nat.le_of_eq (Nat.mul_one _).symm
  | c :: r, a, h => by
    simp only [List.all_cons, Bool.and_eq_true] at h
    have hc : 48 ≤ c.toNat ∧ c.toNat ≤ 57 := of_decide_eq_true h.1
    have := val_lt r (a * 10 + (c.toNat - 48)) h.2
    rw [val_cons, List.length_cons, Nat.pow_succ, Nat.mul_comm (10 ^ r.length) 10, ← Nat.mul_assoc]
    exact Nat.le_trans this (Nat.mul_le_mul_right _ (by omega))
theorem byte_is {s : ByteArray} {i : Nat} (h : i < s.data.toList.length) : byteAt s i = (s.data.toList[i]).toNat := by
  unfold byteAt
  rw [List.getD_eq_getElem?_getD, List.getElem?_eq_getElem h]
  rfl
variable [SE]

set_option maxHeartbeats 8000000 in
theorem pc36 (s : ByteArray) (most : Nat) (hm : most < 4294967296) : PC Tryd.prog 36 [] [vs s, vu64 most] (fun r h => h = [] ∧ ∃ d ok, r = .tup [vu32 d, vb ok] ∧ numR most s.data.toList d ok) := by
  refine PC.pure ?_
  refine PC.go 300 [] TTok rfl Tryd.func36 (by kernel_rfl) rfl Tryd.ntmps36 (rs := [.tmp 4, .tmp 5]) rfl rfl rfl (by kernel_rfl) ?_
  intro Q hQ
  have hl : s.data.toList.length = s.size := Array.length_toList
  have no : ∀ (t : List (Nat × V)) (h : List (Nat × Ob)), lkp 4 t = some (vu32 0) → lkp 5 t = some (vb false) → ¬ (good s.data.toList ∧ s.data.toList.length ≤ 10) → Q .ret { n := 55, t := t, h := h } := by
    intro t h e1 e2 e3
    subst hQ
    simp only [retQ, ares, aress, ares1, lkp, Option.getD_some, Nat.reduceEqDiff, ↓reduceIte, true_and, lk5, ti5, lk9, ti9, lk30, ti30, lk72, ti72, e1, e2]
    exact ⟨rfl, 0, false, rfl, by unfold numR; rw [if_neg fun e => e3 ⟨e.1, e.2.1⟩]⟩
  by_cases h1 : s.size < 1
  · have h1' : ((s.size : Int) < 1) = True := eq_true (by omega)
    simp (maxSteps := 9000000) only [go_sem, scrubT, scrubH, Nat.reducePow, Nat.reduceLT, Int.reduceToNat, Int.reduceLE, Int.reduceLT, Int.reduceEq, Int.reduceAdd, Int.reduceSub, Int.reduceMul, Nat.reduceAdd, Nat.reduceMul, Nat.reduceSub, Nat.reduceLeDiff, Nat.reduceEqDiff, Int.reduceNe, ↓reduceIte, ↓way_true, ↓way_false, ↓way_not, ↓way_dec, lk5, ti5, lk9, ti9, lk30, ti30, lk72, ti72, h1']
    refine no _ _ rfl rfl fun e => ?_
    have := List.length_pos_iff.2 e.1.1
    omega
  · have h1' : ((s.size : Int) < 1) = False := eq_false (by omega)
    by_cases h2 : 10 < s.size
    · have h2' : ((10 : Int) < (s.size : Int)) = True := eq_true (by omega)
      simp (maxSteps := 9000000) only [go_sem, scrubT, scrubH, Nat.reducePow, Nat.reduceLT, Int.reduceToNat, Int.reduceLE, Int.reduceLT, Int.reduceEq, Int.reduceAdd, Int.reduceSub, Int.reduceMul, Nat.reduceAdd, Nat.reduceMul, Nat.reduceSub, Nat.reduceLeDiff, Nat.reduceEqDiff, Int.reduceNe, ↓reduceIte, ↓way_true, ↓way_false, ↓way_not, ↓way_dec, lk5, ti5, lk9, ti9, lk30, ti30, lk72, ti72, h1', h2']
      refine no _ _ rfl rfl fun e => by omega
    · have h2' : ((10 : Int) < (s.size : Int)) = False := eq_false (by omega)
      by_cases h3 : (1 : Int) < (s.size : Int) ∧ ((byteAt s 0 : Nat) : Int) = 48
      · have h3' : (decide ((1 : Int) < (s.size : Int)) && decide (((byteAt s 0 : Nat) : Int) = 48)) = true := by simp [h3.1, h3.2]
        simp (maxSteps := 9000000) only [go_sem, scrubT, scrubH, Nat.reducePow, Nat.reduceLT, Int.reduceToNat, Int.reduceLE, Int.reduceLT, Int.reduceEq, Int.reduceAdd, Int.reduceSub, Int.reduceMul, Nat.reduceAdd, Nat.reduceMul, Nat.reduceSub, Nat.reduceLeDiff, Nat.reduceEqDiff, Int.reduceNe, ↓reduceIte, ↓way_true, ↓way_false, ↓way_not, ↓way_dec, lk5, ti5, lk9, ti9, lk30, ti30, lk72, ti72, h1', h2', h3']
        refine ⟨fun _ => by omega, fun _ => no _ _ rfl rfl fun e => ?_⟩
        have h0 : s.data.toList[0]? = some 48 := by
          rw [List.getElem?_eq_getElem (by omega)]
          have hb := byte_is (s := s) (i := 0) (by omega)
          congr 1
          apply UInt8.toNat_inj.1
          rw [← hb]
          have h48 : (48 : UInt8).toNat = 48 := rfl
          omega
        exact e.1.2.2 (by omega) h0
      · have h3' : (decide ((1 : Int) < (s.size : Int)) && decide (((byteAt s 0 : Nat) : Int) = 48)) = false := by
          rw [Bool.and_eq_false_iff, decide_eq_false_iff_not, decide_eq_false_iff_not]
          exact Decidable.not_and_iff_or_not.1 h3
        have h0 : 1 < s.data.toList.length → s.data.toList[0]? ≠ some 48 := fun h e => by
          refine h3 ⟨by omega, ?_⟩
          rw [byte_is (by omega)]
          rw [List.getElem?_eq_getElem (by omega)] at e
          rw [Option.some.inj e]; rfl
        simp (maxSteps := 9000000) only [go_sem, scrubT, scrubH, Nat.reducePow, Nat.reduceLT, Int.reduceToNat, Int.reduceLE, Int.reduceLT, Int.reduceEq, Int.reduceAdd, Int.reduceSub, Int.reduceMul, Nat.reduceAdd, Nat.reduceMul, Nat.reduceSub, Nat.reduceLeDiff, Nat.reduceEqDiff, Int.reduceNe, ↓reduceIte, ↓way_true, ↓way_false, ↓way_not, ↓way_dec, lk5, ti5, lk9, ti9, lk30, ti30, lk72, ti72, h1', h2', h3']
        refine ⟨fun _ => by omega, fun _ => ?_⟩
        refine leaf.loop 300 [] TTok rfl (α := Nat) [0, 1, 6, 27, 28] [] (fun i => { n := 55, t := [(0, vs s), (1, vu64 most), (6, vu64 (val 0 (s.data.toList.take i))), (27, vi s.size), (28, vi i)], h := [] }) (fun i => i ≤ s.size ∧ (s.data.toList.take i).all isDig = true) (fun i => s.size - i) 0 rfl rfl ⟨Nat.zero_le _, rfl⟩ rfl (by kernel_rfl) ?_
        rintro i ⟨hi, hd⟩ J hJ
        by_cases hlt : i < s.size
        · have hlt' : ((i : Int) < (s.size : Int)) = True := eq_true (by omega)
          have hil : i < s.data.toList.length := by omega
          have hb : byteAt s i = (s.data.toList[i]).toNat := byte_is hil
          have hbl := (s.data.toList[i]).toNat_lt
          have htk := List.take_succ_eq_append_getElem hil
          have hv := val_lt (s.data.toList.take i) 0 hd
          have hp : 10 ^ (s.data.toList.take i).length ≤ 10 ^ 9 := Nat.pow_le_pow_right (by omega) (by rw [List.length_take]; omega)
          by_cases hcd : 48 ≤ (s.data.toList[i]).toNat ∧ (s.data.toList[i]).toNat ≤ 57
          · have hf : (decide (((s.data.toList[i]).toNat : Int) < 48) || decide (57 < ((s.data.toList[i]).toNat : Int))) = false := by
              rw [Bool.or_eq_false_iff, decide_eq_false_iff_not, decide_eq_false_iff_not]; omega
            have hvs : val 0 (s.data.toList.take (i + 1)) = val 0 (s.data.toList.take i) * 10 + ((s.data.toList[i]).toNat - 48) := by rw [htk, val_append, val_cons, val_nil]
            have hw : IntKind.u64.wrap (IntKind.u64.wrap (10 * ((val 0 (s.data.toList.take i) : Nat) : Int)) + IntKind.u64.wrap (IntKind.u8.wrap (((s.data.toList[i]).toNat : Int) - 48))) = ((val 0 (s.data.toList.take (i + 1)) : Nat) : Int) := by
              rw [wu8 (by omega) (by omega), wu64 (n := ((s.data.toList[i]).toNat : Int) - 48) (by omega) (by omega), wu64 (n := 10 * _) (by omega) (by omega), wu64 (by omega) (by omega), hvs]; omega
            simp (maxSteps := 9000000) only [go_sem, scrubT, scrubH, Nat.reducePow, Nat.reduceLT, Int.reduceToNat, Int.reduceLE, Int.reduceLT, Int.reduceEq, Int.reduceAdd, Int.reduceSub, Int.reduceMul, Nat.reduceAdd, Nat.reduceMul, Nat.reduceSub, Nat.reduceLeDiff, Nat.reduceEqDiff, Int.reduceNe, ↓reduceIte, ↓way_true, ↓way_false, ↓way_not, ↓way_dec, lk5, ti5, lk9, ti9, lk30, ti30, lk72, ti72, hlt', Int.toNat_natCast, hb, hf, hw]
            refine ⟨by omega, fun _ => ⟨fun _ => by omega, fun _ => ⟨by omega, fun _ => ⟨in_i64 (by omega) (by omega), fun _ => ?_⟩⟩⟩⟩
            subst hJ
            refine ⟨rfl, i + 1, rfl, ⟨hlt, ?_⟩, by omega⟩
            rw [htk, List.all_append, hd]
            simp only [List.all_cons, List.all_nil, Bool.and_true, Bool.true_and, isDig]
            exact decide_eq_true hcd
          · have hf : (decide (((s.data.toList[i]).toNat : Int) < 48) || decide (57 < ((s.data.toList[i]).toNat : Int))) = true := by
              rw [Bool.or_eq_true, decide_eq_true_eq, decide_eq_true_eq]; omega
            simp (maxSteps := 9000000) only [go_sem, scrubT, scrubH, Nat.reducePow, Nat.reduceLT, Int.reduceToNat, Int.reduceLE, Int.reduceLT, Int.reduceEq, Int.reduceAdd, Int.reduceSub, Int.reduceMul, Nat.reduceAdd, Nat.reduceMul, Nat.reduceSub, Nat.reduceLeDiff, Nat.reduceEqDiff, Int.reduceNe, ↓reduceIte, ↓way_true, ↓way_false, ↓way_not, ↓way_dec, lk5, ti5, lk9, ti9, lk30, ti30, lk72, ti72, hlt', Int.toNat_natCast, hb, hf]
            refine ⟨by omega, fun _ => ⟨fun _ => by omega, fun _ => no _ _ rfl rfl fun e => hcd ?_⟩⟩
            have := List.all_eq_true.1 e.1.2.1 _ (List.getElem_mem hil)
            exact of_decide_eq_true this
        · have hlt' : ((i : Int) < (s.size : Int)) = False := eq_false (by omega)
          obtain rfl : i = s.size := by omega
          rw [show s.data.toList.take s.size = s.data.toList from List.take_of_length_le (by omega)] at hd
          have hg : good s.data.toList ∧ s.data.toList.length ≤ 10 := ⟨⟨fun e => by rw [e] at hl; simp at hl; omega, hd, h0⟩, by omega⟩
          simp (maxSteps := 9000000) only [go_sem, scrubT, scrubH, Nat.reducePow, Nat.reduceLT, Int.reduceToNat, Int.reduceLE, Int.reduceLT, Int.reduceEq, Int.reduceAdd, Int.reduceSub, Int.reduceMul, Nat.reduceAdd, Nat.reduceMul, Nat.reduceSub, Nat.reduceLeDiff, Nat.reduceEqDiff, Int.reduceNe, ↓reduceIte, ↓way_true, ↓way_false, ↓way_not, ↓way_dec, lk5, ti5, lk9, ti9, lk30, ti30, lk72, ti72, hlt', show s.data.toList.take s.size = s.data.toList from List.take_of_length_le (by omega)]
          subst hQ
          simp only [retQ, ares, aress, ares1, lkp, Option.getD_some, Nat.reduceEqDiff, ↓reduceIte, true_and, lk5, ti5, lk9, ti9, lk30, ti30, lk72, ti72]
          refine ⟨rfl, _, _, rfl, ?_⟩
          unfold numR
          by_cases hmo : val 0 s.data.toList ≤ most
          · rw [if_pos ⟨hg.1, hg.2, hmo⟩, wu32 (by omega) (by omega)]
            exact ⟨decide_eq_true (by omega), rfl⟩
          · rw [if_neg fun e => hmo e.2.2]
            exact decide_eq_false (by omega)
end Go.Proofs.YthhcbgdngmajlaaDoor
