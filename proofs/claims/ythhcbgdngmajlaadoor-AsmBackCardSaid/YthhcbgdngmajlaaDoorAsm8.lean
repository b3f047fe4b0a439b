/- Codes one by one, and the code of a name. No statement of the seat stands here. -/
import Derived.Test.YthhcbgdngmajlaaDoorAsm3c
import Derived.Test.YthhcbgdngmajlaaDoorAmC
set_option linter.unusedSimpArgs false
set_option linter.unusedSectionVars false
set_option maxRecDepth 100000
namespace Go.Proofs.YthhcbgdngmajlaaDoor
open Go Go.AM

/-- The codes below a number that have names. -/
def vcodes (n : Nat) : List Nat := (List.range n).filter fun c => (name (c : Int)).2
theorem vcodes_succ (n : Nat) : vcodes (n + 1) = if (name (n : Int)).2 then vcodes n ++ [n] else vcodes n := by
  unfold vcodes
  rw [List.range_succ, List.filter_append]
  cases h : (name (n : Int)).2 <;> simp [h]
theorem vcodes_prefix (n : Nat) : ∀ m, ∃ r, vcodes (n + m) = vcodes n ++ r
  | 0 => ⟨[], by simp⟩
  | m + 1 => by
    obtain ⟨r, hr⟩ := vcodes_prefix n m
    rw [← Nat.add_assoc, vcodes_succ, hr]
    split
    · exact ⟨r ++ [n + m], by simp⟩
    · exact ⟨r, rfl⟩
theorem vcodes_get {c : Nat} (hc : c < 256) (h : (name (c : Int)).2 = true) : (vcodes c).length < (vcodes 256).length ∧ (vcodes 256)[(vcodes c).length]? = some c := by
  obtain ⟨r, hr⟩ := vcodes_prefix (c + 1) (256 - (c + 1))
  rw [show c + 1 + (256 - (c + 1)) = 256 by omega, vcodes_succ c, if_pos h] at hr
  rw [hr]
  constructor
  · simp
  · simp
/-- What Codes yields. -/
def codeYs : List (List V) := (vcodes 256).map fun (c : Nat) => [vu16 (c : Int), vs (name (c : Int)).1]
variable [Env]

set_option maxHeartbeats 8000000 in
theorem it71 : Iter Tryd.prog 71 [] [] codeYs := by
  intro J Jx hY
  refine PC.go 300 [] TTok rfl Tryd.func71 (by kernel_rfl) rfl Tryd.ntmps71 (rs := []) rfl rfl rfl (by kernel_rfl) ?_
  intro Q hQ
  simp (maxSteps := 9000000) only [go_sem, scrubT, scrubH, Nat.reducePow, Nat.reduceLT, Int.reduceToNat, Int.reduceLE, Int.reduceLT, Int.reduceEq, Int.reduceAdd, Int.reduceSub, Int.reduceMul, Nat.reduceAdd, Nat.reduceMul, Nat.reduceSub, Nat.reduceLeDiff, Nat.reduceEqDiff, Int.reduceNe, ↓reduceIte, ↓way_true, ↓way_false, ↓way_not, ↓way_dec, lk9, ti9, lk29, ti29, List.append_nil]
  refine leaf.loop 300 [] TTok rfl (α := Nat) [0, 5] [ARG] (fun c => { n := 22, t := [(0, .yld ARG), (5, vu16 (c : Int))], h := [(ARG, .opq (J (vcodes c).length))] }) (fun c => c ≤ 256) (fun c => 256 - c) 0 rfl rfl (by omega) (by kernel_rfl) (by kernel_rfl) ?_
  rintro c hc J' hJ
  by_cases hlt : c < 256
  · have hlt' : ((c : Int) < 256) = True := eq_true (by omega)
    have hw : IntKind.u16.wrap ((c : Int) + 1) = ((c + 1 : Nat) : Int) := by rw [wu16 (by omega) (by omega)]; omega
    have hsc := vcodes_succ c
    cases hn : (name (c : Int)).2 with
    | true =>
      obtain ⟨g1, g2⟩ := vcodes_get hlt hn
      have hlen : codeYs.length = (vcodes 256).length := by simp [codeYs]
      have hy := hY (vcodes c).length (by omega)
      have e : codeYs.getD (vcodes c).length [] = [vu16 (c : Int), vs (name (c : Int)).1] := by simp [codeYs, g2]
      rw [e] at hy
      rw [hn, if_pos rfl] at hsc
      simp (maxSteps := 9000000) only [go_sem, scrubT, scrubH, Nat.reducePow, Nat.reduceLT, Int.reduceToNat, Int.reduceLE, Int.reduceLT, Int.reduceEq, Int.reduceAdd, Int.reduceSub, Int.reduceMul, Nat.reduceAdd, Nat.reduceMul, Nat.reduceSub, Nat.reduceLeDiff, Nat.reduceEqDiff, Int.reduceNe, ↓reduceIte, ↓way_true, ↓way_false, ↓way_not, ↓way_dec, lk9, ti9, lk29, ti29, hlt']
      refine leaf.call1 300 [] TTok rfl (pc41 (c : Int) (by omega)) rfl rfl rfl rfl rfl rfl rfl (by kernel_rfl) ?_
      rintro r h' ⟨rfl, rfl⟩
      refine ⟨rfl, ?_⟩
      simp (maxSteps := 9000000) only [hn, go_sem, scrubT, scrubH, Nat.reducePow, Nat.reduceLT, Int.reduceToNat, Int.reduceLE, Int.reduceLT, Int.reduceEq, Int.reduceAdd, Int.reduceSub, Int.reduceMul, Nat.reduceAdd, Nat.reduceMul, Nat.reduceSub, Nat.reduceLeDiff, Nat.reduceEqDiff, Int.reduceNe, ↓reduceIte, ↓way_true, ↓way_false, ↓way_not, ↓way_dec, lk9, ti9, lk29, ti29]
      refine leaf.yield 300 [] TTok rfl (hy) rfl rfl rfl rfl rfl rfl rfl (fun _ => rfl) (by kernel_rfl) ?_
      intro bo
      cases bo with
      | true =>
        simp (maxSteps := 9000000) only [go_sem, scrubT, scrubH, Nat.reducePow, Nat.reduceLT, Int.reduceToNat, Int.reduceLE, Int.reduceLT, Int.reduceEq, Int.reduceAdd, Int.reduceSub, Int.reduceMul, Nat.reduceAdd, Nat.reduceMul, Nat.reduceSub, Nat.reduceLeDiff, Nat.reduceEqDiff, Int.reduceNe, ↓reduceIte, ↓way_true, ↓way_false, ↓way_not, ↓way_dec, lk9, ti9, lk29, ti29, hw, ↓reduceIte]
        subst hJ
        refine ⟨rfl, c + 1, ?_, by omega, by omega⟩
        rw [hsc]; simp [AS.keep, keepT, keepH, lkp]
      | false =>
        simp (maxSteps := 9000000) only [go_sem, scrubT, scrubH, Nat.reducePow, Nat.reduceLT, Int.reduceToNat, Int.reduceLE, Int.reduceLT, Int.reduceEq, Int.reduceAdd, Int.reduceSub, Int.reduceMul, Nat.reduceAdd, Nat.reduceMul, Nat.reduceSub, Nat.reduceLeDiff, Nat.reduceEqDiff, Int.reduceNe, ↓reduceIte, ↓way_true, ↓way_false, ↓way_not, ↓way_dec, lk9, ti9, lk29, ti29, ↓reduceIte]
        subst hQ
        simp only [retQ, ares, aress, ares1, lkp, Option.getD_some, Nat.reduceEqDiff, ↓reduceIte, true_and, lk9, ti9, lk29, ti29]
        simp
    | false =>
      rw [hn, if_neg (by decide)] at hsc
      simp (maxSteps := 9000000) only [go_sem, scrubT, scrubH, Nat.reducePow, Nat.reduceLT, Int.reduceToNat, Int.reduceLE, Int.reduceLT, Int.reduceEq, Int.reduceAdd, Int.reduceSub, Int.reduceMul, Nat.reduceAdd, Nat.reduceMul, Nat.reduceSub, Nat.reduceLeDiff, Nat.reduceEqDiff, Int.reduceNe, ↓reduceIte, ↓way_true, ↓way_false, ↓way_not, ↓way_dec, lk9, ti9, lk29, ti29, hlt']
      refine leaf.call1 300 [] TTok rfl (pc41 (c : Int) (by omega)) rfl rfl rfl rfl rfl rfl rfl (by kernel_rfl) ?_
      rintro r h' ⟨rfl, rfl⟩
      refine ⟨rfl, ?_⟩
      simp (maxSteps := 9000000) only [hn, go_sem, scrubT, scrubH, Nat.reducePow, Nat.reduceLT, Int.reduceToNat, Int.reduceLE, Int.reduceLT, Int.reduceEq, Int.reduceAdd, Int.reduceSub, Int.reduceMul, Nat.reduceAdd, Nat.reduceMul, Nat.reduceSub, Nat.reduceLeDiff, Nat.reduceEqDiff, Int.reduceNe, ↓reduceIte, ↓way_true, ↓way_false, ↓way_not, ↓way_dec, lk9, ti9, lk29, ti29, hw]
      subst hJ
      refine ⟨rfl, c + 1, ?_, by omega, by omega⟩
      rw [hsc]; rfl
  · have hlt' : ((c : Int) < 256) = False := eq_false (by omega)
    obtain rfl : c = 256 := by omega
    simp (maxSteps := 9000000) only [go_sem, scrubT, scrubH, Nat.reducePow, Nat.reduceLT, Int.reduceToNat, Int.reduceLE, Int.reduceLT, Int.reduceEq, Int.reduceAdd, Int.reduceSub, Int.reduceMul, Nat.reduceAdd, Nat.reduceMul, Nat.reduceSub, Nat.reduceLeDiff, Nat.reduceEqDiff, Int.reduceNe, ↓reduceIte, ↓way_true, ↓way_false, ↓way_not, ↓way_dec, lk9, ti9, lk29, ti29, hlt']
    subst hQ
    simp only [retQ, ares, aress, ares1, lkp, Option.getD_some, Nat.reduceEqDiff, ↓reduceIte, true_and, lk9, ti9, lk29, ti29]
    exact .inl (by simp [codeYs])

theorem pc57 : PC Tryd.prog 57 [] [] (fun r h => h = [] ∧ r = .fn 71 [] []) := by
  refine PC.go 300 [] TTok rfl Tryd.func57 (by kernel_rfl) rfl Tryd.ntmps57 (rs := [.tmp 0]) rfl rfl rfl (by kernel_rfl) ?_
  intro Q hQ
  simp (maxSteps := 9000000) only [go_sem, scrubT, scrubH, Nat.reducePow, Nat.reduceLT, Int.reduceToNat, Int.reduceLE, Int.reduceLT, Int.reduceEq, Int.reduceAdd, Int.reduceSub, Int.reduceMul, Nat.reduceAdd, Nat.reduceMul, Nat.reduceSub, Nat.reduceLeDiff, Nat.reduceEqDiff, Int.reduceNe, ↓reduceIte, ↓way_true, ↓way_false, ↓way_not, ↓way_dec, lk9, ti9, lk29, ti29]
  subst hQ
  simp only [retQ, ares, aress, ares1, lkp, Option.getD_some, Nat.reduceEqDiff, ↓reduceIte, true_and, lk9, ti9, lk29, ti29]

/-- A name's code. -/
def codeOf (s : ByteArray) : Option Nat := (vcodes 256).find? fun c => decide ((name (c : Int)).1 = s)
def optC : Option Nat → V
  | some c => .tup [vu16 (c : Int), vb true]
  | none => .tup [vu16 0, vb false]

set_option maxHeartbeats 8000000 in
theorem pc29 (s : ByteArray) : PC Tryd.prog 29 [] [vs s] (fun r h => h = [] ∧ r = optC (codeOf s)) := by
  refine PC.pure ?_
  refine PC.go 300 [] TTok rfl Tryd.func29 (by kernel_rfl) rfl Tryd.ntmps29 (rs := [.cell 2 29, .cell 3 4]) rfl rfl rfl (by kernel_rfl) ?_
  intro Q hQ
  simp (maxSteps := 9000000) only [go_sem, scrubT, scrubH, Nat.reducePow, Nat.reduceLT, Int.reduceToNat, Int.reduceLE, Int.reduceLT, Int.reduceEq, Int.reduceAdd, Int.reduceSub, Int.reduceMul, Nat.reduceAdd, Nat.reduceMul, Nat.reduceSub, Nat.reduceLeDiff, Nat.reduceEqDiff, Int.reduceNe, ↓reduceIte, ↓way_true, ↓way_false, ↓way_not, ↓way_dec, lk4, ti4, lk9, ti9, lk29, ti29]
  refine leaf.call1 300 [] TTok rfl (pc57) rfl rfl rfl rfl rfl rfl rfl (by kernel_rfl) ?_
  rintro r h' ⟨rfl, rfl⟩
  refine ⟨rfl, ?_⟩
  simp (maxSteps := 9000000) only [go_sem, scrubT, scrubH, Nat.reducePow, Nat.reduceLT, Int.reduceToNat, Int.reduceLE, Int.reduceLT, Int.reduceEq, Int.reduceAdd, Int.reduceSub, Int.reduceMul, Nat.reduceAdd, Nat.reduceMul, Nat.reduceSub, Nat.reduceLeDiff, Nat.reduceEqDiff, Int.reduceNe, ↓reduceIte, ↓way_true, ↓way_false, ↓way_not, ↓way_dec, lk4, ti4, lk9, ti9, lk29, ti29]
  have fin : ∀ (a : Int) (b : Bool) (t : List (Nat × V)) (h : List (Nat × Ob)), lkp 2 t = some (.ptr 2 0) → lkp 3 t = some (.ptr 3 0) → lkp 2 h = some (.cells [vu16 a]) → lkp 3 h = some (.cells [vb b]) → V.tup [vu16 a, vb b] = optC (codeOf s) → Q .ret { n := 13, t := t, h := h } := by
    intro a b t h e1 e2 e3 e4 e5
    subst hQ
    simp only [retQ, ares, aress, ares1, lkp, Option.getD_some, Nat.reduceEqDiff, ↓reduceIte, true_and, lk4, ti4, lk9, ti9, lk29, ti29, e1, e2, e3, e4, aload, TypeDesc.isRow]
    rw [← e5]
    exact ⟨rfl, rfl⟩
  have gy : ∀ n, n < codeYs.length → ∃ c, (vcodes 256)[n]? = some c ∧ codeYs.getD n [] = [vu16 (c : Int), vs (name (c : Int)).1] := by
    intro n hn
    have hn' : n < (vcodes 256).length := by simpa [codeYs] using hn
    refine ⟨(vcodes 256)[n], List.getElem?_eq_getElem hn', ?_⟩
    simp [codeYs, hn']
  refine leaf.rangeFunc 300 [] TTok rfl it71 (fun n => ∀ c ∈ (vcodes 256).take n, (name (c : Int)).1 ≠ s) (fun _ => [(100003, .cells [vb false]), (100002, .cells [vu16 0]), (100001, .cells [vs s])]) rfl rfl rfl ?_ rfl ?_ rfl rfl rfl rfl (by kernel_rfl) (by simp) ?_ ?_
  · intro n hn; obtain ⟨c, _, e⟩ := gy n hn; rw [e]; rfl
  · intro n hn; obtain ⟨c, _, e⟩ := gy n hn; rw [e]; rfl
  · intro n hn hI J hJ
    obtain ⟨c, hc, e⟩ := gy n hn
    have hlt := (List.getElem?_eq_some_iff.1 hc).1
    have hcv := (List.getElem?_eq_some_iff.1 hc).2
    rw [e]
    simp (maxSteps := 9000000) only [go_sem, scrubT, scrubH, Nat.reducePow, Nat.reduceLT, Int.reduceToNat, Int.reduceLE, Int.reduceLT, Int.reduceEq, Int.reduceAdd, Int.reduceSub, Int.reduceMul, Nat.reduceAdd, Nat.reduceMul, Nat.reduceSub, Nat.reduceLeDiff, Nat.reduceEqDiff, Int.reduceNe, ↓reduceIte, ↓way_true, ↓way_false, ↓way_not, ↓way_dec, lk4, ti4, lk9, ti9, lk29, ti29, bindT, renT, up, ARG, Nat.reduceAdd]
    subst hJ
    intro Q' hQ'
    simp (maxSteps := 9000000) only [go_sem, scrubT, scrubH, Nat.reducePow, Nat.reduceLT, Int.reduceToNat, Int.reduceLE, Int.reduceLT, Int.reduceEq, Int.reduceAdd, Int.reduceSub, Int.reduceMul, Nat.reduceAdd, Nat.reduceMul, Nat.reduceSub, Nat.reduceLeDiff, Nat.reduceEqDiff, Int.reduceNe, ↓reduceIte, ↓way_true, ↓way_false, ↓way_not, ↓way_dec, lk4, ti4, lk9, ti9, lk29, ti29, bindT, renT, up, ARG, Nat.reduceAdd]
    refine ⟨fun h1 => ?_, fun h1 => ?_⟩
    · subst hQ'
      refine roundI_ret [100003, 100002, 100001] rfl rfl rfl rfl ?_
      have hf : codeOf s = some c := by
        unfold codeOf
        rw [List.find?_eq_some_iff_append]
        refine ⟨by simpa using h1, (vcodes 256).take n, (vcodes 256).drop (n + 1), ?_, fun a ha => by simpa using hI a ha⟩
        rw [← hcv, ← List.drop_eq_getElem_cons hlt, List.take_append_drop]
      exact fin (c : Int) true _ _ rfl rfl rfl rfl (by rw [hf]; rfl)
    · subst hQ'
      refine roundI_normal [100003, 100002, 100001] ?_ rfl rfl rfl
      intro c' hc'
      rw [List.take_succ_eq_append_getElem hlt, List.mem_append] at hc'
      rcases hc' with h | h
      · exact hI c' h
      · simp at h; subst h; rw [hcv]; exact h1
  · intro hI
    have hlen : codeYs.length = (vcodes 256).length := by simp [codeYs]
    rw [hlen, List.take_length] at hI
    have hf : codeOf s = none := by
      unfold codeOf
      rw [List.find?_eq_none]
      intro c hc; simpa using hI c hc
    simp (maxSteps := 9000000) only [go_sem, scrubT, scrubH, Nat.reducePow, Nat.reduceLT, Int.reduceToNat, Int.reduceLE, Int.reduceLT, Int.reduceEq, Int.reduceAdd, Int.reduceSub, Int.reduceMul, Nat.reduceAdd, Nat.reduceMul, Nat.reduceSub, Nat.reduceLeDiff, Nat.reduceEqDiff, Int.reduceNe, ↓reduceIte, ↓way_true, ↓way_false, ↓way_not, ↓way_dec, lk4, ti4, lk9, ti9, lk29, ti29, renH, Ob.ren, renL, V.ren, down, ARG, Nat.reduceSub]
    exact fin 0 false _ _ rfl rfl rfl rfl (by rw [hf]; rfl)
end Go.Proofs.YthhcbgdngmajlaaDoor
