/- The codes that a filter may have, and the code of a name, as the document has them. No statement of the seat stands here. -/
import Derived.Test.YthhcbgdngmajlaaDoorAsm8
import Derived.Test.YthhcbgdngmajlaaDoorAmD
set_option linter.unusedSimpArgs false
set_option linter.unusedSectionVars false
set_option maxRecDepth 100000
namespace Go.Proofs.YthhcbgdngmajlaaDoor
open Go Go.AM

def codeRow (c : Nat) : List D := [.val (.int .u16 (c : Int)), .val (.string (name (c : Int)).1), .val (.int .i64 (form (c : Int)))]
def I59 : Nat → AS
  | 0 => { n := 24, t := [(1, .d (.val (.slice none 0 0))), (5, vu16 0)], h := [] }
  | n + 1 => { n := 24, t := [(1, .own 21 3 0 (vcodes (n + 1)).length), (5, vu16 ((n + 1 : Nat) : Int))], h := [(21, .arr 3 ((vcodes (n + 1)).map codeRow))] }
theorem vcodes_len : ∀ n, (vcodes n).length ≤ n
  | 0 => by simp [vcodes]
  | n + 1 => by
    rw [vcodes_succ]
    have := vcodes_len n
    split
    · simp; omega
    · omega
theorem vcodes_lt {n c : Nat} (h : c ∈ vcodes n) : c < n := by
  unfold vcodes at h
  exact List.mem_range.1 (List.mem_filter.1 h).1
variable [Env]

set_option maxHeartbeats 8000000 in
theorem pc59 : PC Tryd.prog 59 [] [] (fun r h => h = [] ∧ r = .d (.sl 3 ((vcodes 256).map codeRow))) := by
  refine PC.pure ?_
  refine PC.frz (Q := fun r h => r = .own 21 3 0 (vcodes 256).length ∧ h = [(21, .arr 3 ((vcodes 256).map codeRow))]) ?_ ?_
  · refine PC.go 300 [] TTok rfl Tryd.func59 (by kernel_rfl) rfl Tryd.ntmps59 (rs := [.tmp 0]) rfl rfl rfl (by kernel_rfl) ?_
    intro Q hQ
    simp (maxSteps := 9000000) only [go_sem, scrubT, scrubH, Nat.reducePow, Nat.reduceLT, Int.reduceToNat, Int.reduceLE, Int.reduceLT, Int.reduceEq, Int.reduceAdd, Int.reduceSub, Int.reduceMul, Nat.reduceAdd, Nat.reduceMul, Nat.reduceSub, Nat.reduceLeDiff, Nat.reduceEqDiff, Int.reduceNe, ↓reduceIte, ↓way_true, ↓way_false, ↓way_not, ↓way_dec, lk1, ti1, lk3, ti3, lk9, ti9, lk29, ti29, lk105, ti105, lk108, ti108]
    refine leaf.loopV 300 [] TTok rfl (α := Nat) [1, 5] [] I59 (fun n => n ≤ 256) (fun n => 256 - n) 0 rfl rfl (Nat.zero_le _) rfl (by kernel_rfl) ?_
    intro n hn J hJ
    cases n with
    | zero =>
      simp (maxSteps := 9000000) only [I59, go_sem, scrubT, scrubH, Nat.reducePow, Nat.reduceLT, Int.reduceToNat, Int.reduceLE, Int.reduceLT, Int.reduceEq, Int.reduceAdd, Int.reduceSub, Int.reduceMul, Nat.reduceAdd, Nat.reduceMul, Nat.reduceSub, Nat.reduceLeDiff, Nat.reduceEqDiff, Int.reduceNe, ↓reduceIte, ↓way_true, ↓way_false, ↓way_not, ↓way_dec, lk1, ti1, lk3, ti3, lk9, ti9, lk29, ti29, lk105, ti105, lk108, ti108]
      refine leaf.call1 300 [] TTok rfl (pc60 0 (by omega) (by omega)) rfl rfl rfl rfl rfl rfl rfl (by kernel_rfl) ?_
      rintro r h' ⟨rfl, rfl⟩
      refine ⟨rfl, ?_⟩
      have e0 : rnamed 0 = (B [108, 100, 46, 105, 109, 109], 1) := by decide +kernel
      rw [e0]
      have hne : ((B [108, 100, 46, 105, 109, 109] : ByteArray) = { data := #[] }) = False := eq_false (by decide)
      simp (maxSteps := 9000000) only [go_sem, scrubT, scrubH, Nat.reducePow, Nat.reduceLT, Int.reduceToNat, Int.reduceLE, Int.reduceLT, Int.reduceEq, Int.reduceAdd, Int.reduceSub, Int.reduceMul, Nat.reduceAdd, Nat.reduceMul, Nat.reduceSub, Nat.reduceLeDiff, Nat.reduceEqDiff, Int.reduceNe, ↓reduceIte, ↓way_true, ↓way_false, ↓way_not, ↓way_dec, lk1, ti1, lk3, ti3, lk9, ti9, lk29, ti29, lk105, ti105, lk108, ti108, hne]
      repeat (first | refine ⟨by omega, fun _ => ?_⟩ | refine ⟨in_i64 (by omega) (by omega), fun _ => ?_⟩ | refine ⟨by unfold LMAX; omega, fun _ => ?_⟩)
      subst hJ
      have e1 : (vcodes 1).map codeRow = [[.val (.int .u16 0), .val (.string (B [108, 100, 46, 105, 109, 109])), .val (.int .i64 1)]] := by rfl
      refine ⟨[21], rfl, 1, ?_, by omega, by omega⟩
      show _ = I59 (0 + 1)
      simp only [I59, e1]
      rfl
    | succ n =>
      by_cases hlt : n + 1 < 256
      · have hlt' : (((n + 1 : Nat) : Int) < 256) = True := eq_true (by omega)
        obtain ⟨c1, c2, c3, c4, c5, c6⟩ := codes_at (c := ((n + 1 : Nat) : Int)) (by omega) (by omega)
        have hw : IntKind.u16.wrap (((n + 1 : Nat) : Int) + 1) = ((n + 2 : Nat) : Int) := by rw [wu16 (by omega) (by omega)]; omega
        have hvl := vcodes_len (n + 1)
        have hsucc := vcodes_succ (n + 1)
        simp (maxSteps := 9000000) only [I59, go_sem, scrubT, scrubH, Nat.reducePow, Nat.reduceLT, Int.reduceToNat, Int.reduceLE, Int.reduceLT, Int.reduceEq, Int.reduceAdd, Int.reduceSub, Int.reduceMul, Nat.reduceAdd, Nat.reduceMul, Nat.reduceSub, Nat.reduceLeDiff, Nat.reduceEqDiff, Int.reduceNe, ↓reduceIte, ↓way_true, ↓way_false, ↓way_not, ↓way_dec, lk1, ti1, lk3, ti3, lk9, ti9, lk29, ti29, lk105, ti105, lk108, ti108, hlt', List.length_map]
        refine leaf.call1 300 [] TTok rfl (pc60 ((n + 1 : Nat) : Int) (by omega) (by omega)) rfl rfl rfl rfl rfl rfl rfl (by kernel_rfl) ?_
        rintro r h' ⟨rfl, rfl⟩
        refine ⟨rfl, ?_⟩
        rw [c1]
        by_cases he : (name ((n + 1 : Nat) : Int)).1 = B []
        · have he' : ((name ((n + 1 : Nat) : Int)).1 = ({ data := #[] } : ByteArray)) = True := eq_true he
          have h2 : (name ((n + 1 : Nat) : Int)).2 = false := by rw [c3, he]; rfl
          simp (maxSteps := 9000000) only [go_sem, scrubT, scrubH, Nat.reducePow, Nat.reduceLT, Int.reduceToNat, Int.reduceLE, Int.reduceLT, Int.reduceEq, Int.reduceAdd, Int.reduceSub, Int.reduceMul, Nat.reduceAdd, Nat.reduceMul, Nat.reduceSub, Nat.reduceLeDiff, Nat.reduceEqDiff, Int.reduceNe, ↓reduceIte, ↓way_true, ↓way_false, ↓way_not, ↓way_dec, lk1, ti1, lk3, ti3, lk9, ti9, lk29, ti29, lk105, ti105, lk108, ti108, he', hw]
          subst hJ
          rw [if_neg (by rw [h2]; decide)] at hsucc
          refine ⟨[21], rfl, n + 2, ?_, by omega, by omega⟩
          show _ = I59 (n + 1 + 1)
          simp only [I59, hsucc]
          rfl
        · have he' : ((name ((n + 1 : Nat) : Int)).1 = ({ data := #[] } : ByteArray)) = False := eq_false he
          have h2 : (name ((n + 1 : Nat) : Int)).2 = true := by rw [c3, decide_eq_false he]; rfl
          simp (maxSteps := 9000000) only [go_sem, scrubT, scrubH, Nat.reducePow, Nat.reduceLT, Int.reduceToNat, Int.reduceLE, Int.reduceLT, Int.reduceEq, Int.reduceAdd, Int.reduceSub, Int.reduceMul, Nat.reduceAdd, Nat.reduceMul, Nat.reduceSub, Nat.reduceLeDiff, Nat.reduceEqDiff, Int.reduceNe, ↓reduceIte, ↓way_true, ↓way_false, ↓way_not, ↓way_dec, lk1, ti1, lk3, ti3, lk9, ti9, lk29, ti29, lk105, ti105, lk108, ti108, he', hw, List.length_map]
          repeat (first | refine ⟨by omega, fun _ => ?_⟩ | refine ⟨in_i64 (by omega) (by omega), fun _ => ?_⟩ | refine ⟨by unfold LMAX; omega, fun _ => ?_⟩)
          subst hJ
          rw [if_pos h2] at hsucc
          refine ⟨[21], rfl, n + 2, ?_, by omega, by omega⟩
          show _ = I59 (n + 1 + 1)
          simp only [I59, hsucc, List.length_append, List.length_singleton, List.map_append, List.map_cons, List.map_nil]
          rfl
      · have hlt' : (((n + 1 : Nat) : Int) < 256) = False := eq_false (by omega)
        obtain rfl : n = 255 := by omega
        simp (maxSteps := 9000000) only [I59, go_sem, scrubT, scrubH, Nat.reducePow, Nat.reduceLT, Int.reduceToNat, Int.reduceLE, Int.reduceLT, Int.reduceEq, Int.reduceAdd, Int.reduceSub, Int.reduceMul, Nat.reduceAdd, Nat.reduceMul, Nat.reduceSub, Nat.reduceLeDiff, Nat.reduceEqDiff, Int.reduceNe, ↓reduceIte, ↓way_true, ↓way_false, ↓way_not, ↓way_dec, lk1, ti1, lk3, ti3, lk9, ti9, lk29, ti29, lk105, ti105, lk108, ti108, hlt']
        subst hQ
        simp only [retQ, ares, aress, ares1, lkp, Option.getD_some, Nat.reduceEqDiff, ↓reduceIte, true_and, lk1, ti1, lk3, ti3, lk9, ti9, lk29, ti29, lk105, ti105, lk108, ti108]
  · rintro r h ⟨rfl, rfl⟩
    refine .inr ⟨21, _, _, rfl, rfl, fun _ => ⟨rfl, by rw [List.length_map]; omega⟩, ⟨.inl rfl, trivial⟩, ?_⟩
    have : (((vcodes 256).map codeRow).drop 0).take (vcodes 256).length = (vcodes 256).map codeRow := by rw [List.drop_zero, List.take_of_length_le (by rw [List.length_map]; omega)]
    simp only [V.frz, Frz.arr, ↓reduceIte, this, V.norm]
    exact ⟨rfl, trivial⟩

theorem codeRow_at {n : Nat} (h : n < (vcodes 256).length) : ((vcodes 256).map codeRow).getD n [] = [.val (.int .u16 ((vcodes 256)[n] : Int)), .val (.string (name ((vcodes 256)[n] : Int)).1), .val (.int .i64 (form ((vcodes 256)[n] : Int)))] := by
  simp [List.getD, h, codeRow]

set_option maxHeartbeats 8000000 in
theorem pc34 (s : ByteArray) : PC Tryd.prog 34 [] [vs s] (fun r h => h = [] ∧ r = optC (codeOf s)) := by
  refine PC.pure ?_
  refine PC.go 300 [] TTok rfl Tryd.func34 (by kernel_rfl) rfl Tryd.ntmps34 (rs := [.tmp 2, .tmp 3]) rfl rfl rfl (by kernel_rfl) ?_
  intro Q hQ
  simp (maxSteps := 9000000) only [go_sem, scrubT, scrubH, Nat.reducePow, Nat.reduceLT, Int.reduceToNat, Int.reduceLE, Int.reduceLT, Int.reduceEq, Int.reduceAdd, Int.reduceSub, Int.reduceMul, Nat.reduceAdd, Nat.reduceMul, Nat.reduceSub, Nat.reduceLeDiff, Nat.reduceEqDiff, Int.reduceNe, ↓reduceIte, ↓way_true, ↓way_false, ↓way_not, ↓way_dec, lk1, ti1, lk3, ti3, lk9, ti9, lk29, ti29, lk105, ti105, lk108, ti108]
  refine leaf.call1 300 [] TTok rfl (pc59) rfl rfl rfl rfl rfl rfl rfl (by kernel_rfl) ?_
  rintro r h' ⟨rfl, rfl⟩
  refine ⟨rfl, ?_⟩
  simp (maxSteps := 9000000) only [go_sem, scrubT, scrubH, Nat.reducePow, Nat.reduceLT, Int.reduceToNat, Int.reduceLE, Int.reduceLT, Int.reduceEq, Int.reduceAdd, Int.reduceSub, Int.reduceMul, Nat.reduceAdd, Nat.reduceMul, Nat.reduceSub, Nat.reduceLeDiff, Nat.reduceEqDiff, Int.reduceNe, ↓reduceIte, ↓way_true, ↓way_false, ↓way_not, ↓way_dec, lk1, ti1, lk3, ti3, lk9, ti9, lk29, ti29, lk105, ti105, lk108, ti108, List.length_map]
  have hvl := vcodes_len 256
  refine leaf.loop 300 [] TTok rfl (α := Nat) [0, 6, 7, 8] [] (fun n => { n := 19, t := [(0, vs s), (6, .d (.sl 3 ((vcodes 256).map codeRow))), (7, vi (vcodes 256).length), (8, vi n)], h := [] }) (fun n => n ≤ (vcodes 256).length ∧ ∀ c ∈ (vcodes 256).take n, (name (c : Int)).1 ≠ s) (fun n => (vcodes 256).length - n) 0 rfl rfl ⟨Nat.zero_le _, by simp⟩ rfl (by kernel_rfl) ?_
  rintro n ⟨h1, h2⟩ J hJ
  by_cases hlt : n < (vcodes 256).length
  · have hlt' : ((n : Int) < ((vcodes 256).length : Int)) = True := eq_true (by omega)
    have hrow := codeRow_at hlt
    have htk := List.take_succ_eq_append_getElem hlt
    simp (maxSteps := 9000000) only [go_sem, scrubT, scrubH, Nat.reducePow, Nat.reduceLT, Int.reduceToNat, Int.reduceLE, Int.reduceLT, Int.reduceEq, Int.reduceAdd, Int.reduceSub, Int.reduceMul, Nat.reduceAdd, Nat.reduceMul, Nat.reduceSub, Nat.reduceLeDiff, Nat.reduceEqDiff, Int.reduceNe, ↓reduceIte, ↓way_true, ↓way_false, ↓way_not, ↓way_dec, lk1, ti1, lk3, ti3, lk9, ti9, lk29, ti29, lk105, ti105, lk108, ti108, List.length_map, hlt', hrow, Int.toNat_natCast]
    repeat (first | refine ⟨by omega, fun _ => ?_⟩ | refine ⟨in_i64 (by omega) (by omega), fun _ => ?_⟩ | refine ⟨by unfold LMAX; omega, fun _ => ?_⟩)
    by_cases he : (name ((vcodes 256)[n] : Int)).1 = s
    · have he' : ((name ((vcodes 256)[n] : Int)).1 = s) = True := eq_true he
      simp (maxSteps := 9000000) only [go_sem, scrubT, scrubH, Nat.reducePow, Nat.reduceLT, Int.reduceToNat, Int.reduceLE, Int.reduceLT, Int.reduceEq, Int.reduceAdd, Int.reduceSub, Int.reduceMul, Nat.reduceAdd, Nat.reduceMul, Nat.reduceSub, Nat.reduceLeDiff, Nat.reduceEqDiff, Int.reduceNe, ↓reduceIte, ↓way_true, ↓way_false, ↓way_not, ↓way_dec, lk1, ti1, lk3, ti3, lk9, ti9, lk29, ti29, lk105, ti105, lk108, ti108, he']
      have hf : codeOf s = some (vcodes 256)[n] := by
        have e : (vcodes 256).find? (fun (c : Nat) => decide ((name (c : Int)).1 = s)) = ((vcodes 256).take n ++ (vcodes 256).drop n).find? (fun (c : Nat) => decide ((name (c : Int)).1 = s)) := by rw [List.take_append_drop]
        unfold codeOf
        rw [e, List.find?_append, List.find?_eq_none.2 (fun c hc => by simpa using h2 c hc), List.drop_eq_getElem_cons hlt, List.find?_cons_of_pos (by exact decide_eq_true he)]
        rfl
      subst hQ
      simp only [retQ, ares, aress, ares1, lkp, Option.getD_some, Nat.reduceEqDiff, ↓reduceIte, true_and, lk1, ti1, lk3, ti3, lk9, ti9, lk29, ti29, lk105, ti105, lk108, ti108]
      rw [hf]
      exact ⟨rfl, rfl⟩
    · have he' : ((name ((vcodes 256)[n] : Int)).1 = s) = False := eq_false he
      simp (maxSteps := 9000000) only [go_sem, scrubT, scrubH, Nat.reducePow, Nat.reduceLT, Int.reduceToNat, Int.reduceLE, Int.reduceLT, Int.reduceEq, Int.reduceAdd, Int.reduceSub, Int.reduceMul, Nat.reduceAdd, Nat.reduceMul, Nat.reduceSub, Nat.reduceLeDiff, Nat.reduceEqDiff, Int.reduceNe, ↓reduceIte, ↓way_true, ↓way_false, ↓way_not, ↓way_dec, lk1, ti1, lk3, ti3, lk9, ti9, lk29, ti29, lk105, ti105, lk108, ti108, he']
      repeat (first | refine ⟨by omega, fun _ => ?_⟩ | refine ⟨in_i64 (by omega) (by omega), fun _ => ?_⟩ | refine ⟨by unfold LMAX; omega, fun _ => ?_⟩)
      subst hJ
      refine ⟨rfl, n + 1, rfl, ⟨hlt, fun c hc => ?_⟩, by omega⟩
      rw [htk] at hc
      rcases List.mem_append.1 hc with h | h
      · exact h2 c h
      · rw [List.mem_singleton.1 h]; exact he
  · have hlt' : ((n : Int) < ((vcodes 256).length : Int)) = False := eq_false (by omega)
    obtain rfl : n = (vcodes 256).length := by omega
    rw [List.take_length] at h2
    have hf : codeOf s = none := by
      unfold codeOf
      rw [List.find?_eq_none]
      intro c hc; simpa using h2 c hc
    simp (maxSteps := 9000000) only [go_sem, scrubT, scrubH, Nat.reducePow, Nat.reduceLT, Int.reduceToNat, Int.reduceLE, Int.reduceLT, Int.reduceEq, Int.reduceAdd, Int.reduceSub, Int.reduceMul, Nat.reduceAdd, Nat.reduceMul, Nat.reduceSub, Nat.reduceLeDiff, Nat.reduceEqDiff, Int.reduceNe, ↓reduceIte, ↓way_true, ↓way_false, ↓way_not, ↓way_dec, lk1, ti1, lk3, ti3, lk9, ti9, lk29, ti29, lk105, ti105, lk108, ti108, hlt']
    subst hQ
    simp only [retQ, ares, aress, ares1, lkp, Option.getD_some, Nat.reduceEqDiff, ↓reduceIte, true_and, lk1, ti1, lk3, ti3, lk9, ti9, lk29, ti29, lk105, ti105, lk108, ti108]
    rw [hf]
    exact ⟨rfl, rfl⟩
end Go.Proofs.YthhcbgdngmajlaaDoor
