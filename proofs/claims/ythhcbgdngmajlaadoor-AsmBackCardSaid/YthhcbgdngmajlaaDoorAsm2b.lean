/- The codes of instructions: the reference's walk through the names. No statement of the seat stands here. -/
import Derived.Test.YthhcbgdngmajlaaDoorAsm2
set_option linter.unusedSimpArgs false
set_option linter.unusedSectionVars false
set_option maxRecDepth 100000
namespace Go.Proofs.YthhcbgdngmajlaaDoor
open Go Go.AM
variable [Env]

set_option maxHeartbeats 8000000 in
theorem pc60 (c : Int) (h0 : 0 ≤ c) (h1 : c < 256) : PC Tryd.prog 60 [] [vu16 c] (fun r h => h = [] ∧ r = .tup [vs (rnamed c).1, vi (rnamed c).2]) := by
  refine PC.pure ?_
  refine PC.go 400 [] TTok rfl Tryd.func60 (by kernel_rfl) rfl Tryd.ntmps60 (rs := [.tmp 2, .tmp 3]) rfl rfl rfl (by kernel_rfl) ?_
  intro Q hQ
  have fin : ∀ (s : ByteArray) (f : Int) (t : List (Nat × V)) (h : List (Nat × Ob)), lkp 2 t = some (vs s) → lkp 3 t = some (vi f) → rnamed c = (s, f) → Q .ret { n := 98, t := t, h := h } := by
    intro s f t h e1 e2 e3
    subst hQ
    simp only [retQ, ares, aress, ares1, lkp, Option.getD_some, Nat.reduceEqDiff, ↓reduceIte, true_and, lk9, ti9, lk29, ti29, lk115, ti115, e1, e2]
    rw [e3]
    exact ⟨rfl, rfl⟩
  simp (maxSteps := 4000000) only [go_sem, scrubT, scrubH, Nat.reducePow, Nat.reduceLT, Int.reduceToNat, Int.reduceLE, Int.reduceLT, Int.reduceEq, Int.reduceAdd, Int.reduceSub, Int.reduceMul, Nat.reduceAdd, Nat.reduceMul, Nat.reduceSub, Nat.reduceLeDiff, Nat.reduceEqDiff, Int.reduceNe, ↓reduceIte, ↓way_true, ↓way_false, ↓way_not, ↓way_dec, lk9, ti9, lk29, ti29, lk115, ti115]
  refine ⟨fun h => fin _ _ _ _ rfl rfl (by subst h; rfl), fun n1 => ?_⟩
  refine ⟨fun h => fin _ _ _ _ rfl rfl (by subst h; rfl), fun n2 => ?_⟩
  refine ⟨fun h => fin _ _ _ _ rfl rfl (by subst h; rfl), fun n3 => ?_⟩
  refine ⟨fun h => fin _ _ _ _ rfl rfl (by subst h; rfl), fun n4 => ?_⟩
  refine ⟨fun h => fin _ _ _ _ rfl rfl (by subst h; rfl), fun n5 => ?_⟩
  refine ⟨fun h => fin _ _ _ _ rfl rfl (by subst h; rfl), fun n6 => ?_⟩
  refine ⟨fun h => fin _ _ _ _ rfl rfl (by subst h; rfl), fun n7 => ?_⟩
  refine ⟨fun h => fin _ _ _ _ rfl rfl (by subst h; rfl), fun n8 => ?_⟩
  refine ⟨fun h => fin _ _ _ _ rfl rfl (by subst h; rfl), fun n9 => ?_⟩
  refine ⟨fun h => fin _ _ _ _ rfl rfl (by subst h; rfl), fun n10 => ?_⟩
  refine ⟨fun h => fin _ _ _ _ rfl rfl (by subst h; rfl), fun n11 => ?_⟩
  refine ⟨fun h => fin _ _ _ _ rfl rfl (by subst h; rfl), fun n12 => ?_⟩
  refine ⟨fun h => fin _ _ _ _ rfl rfl (by subst h; rfl), fun n13 => ?_⟩
  refine ⟨fun h => fin _ _ _ _ rfl rfl (by subst h; rfl), fun n14 => ?_⟩
  refine ⟨fun h => fin _ _ _ _ rfl rfl (by subst h; rfl), fun n15 => ?_⟩
  have hs : (single c).2 = -1 := by unfold single; simp only [if_neg n1, if_neg n2, if_neg n3, if_neg n4, if_neg n5, if_neg n6, if_neg n7, if_neg n8, if_neg n9, if_neg n10, if_neg n11, if_neg n12, if_neg n13, if_neg n14, if_neg n15]
  refine leaf.call1 300 [] TTok rfl (pc74 c h0 h1) rfl rfl rfl rfl rfl rfl rfl (by kernel_rfl) ?_
  rintro r h' ⟨rfl, rfl⟩
  refine ⟨rfl, ?_⟩
  have hsz : (rsided c).size ≤ 4 := by
    rcases hi_16 h0 h1 with e | e | e | e | e | e | e | e | e | e | e | e | e | e | e | e <;> (rw [rsided, e]; decide)
  have hm : c.tmod 16 = c % 16 := Int.tmod_eq_emod_of_nonneg h0
  rcases hi_16 h0 h1 with e | e | e | e | e | e | e | e | e | e | e | e | e | e | e | e
  all_goals
    have e3 := e
    simp only [hi, IntKind.bits] at e
    simp (maxSteps := 4000000) only [go_sem, scrubT, scrubH, Nat.reducePow, Nat.reduceLT, Int.reduceToNat, Int.reduceLE, Int.reduceLT, Int.reduceEq, Int.reduceAdd, Int.reduceSub, Int.reduceMul, Nat.reduceAdd, Nat.reduceMul, Nat.reduceSub, Nat.reduceLeDiff, Nat.reduceEqDiff, Int.reduceNe, ↓reduceIte, ↓way_true, ↓way_false, ↓way_not, ↓way_dec, lk9, ti9, lk29, ti29, lk115, ti115, e]
    clear e
    repeat' first
      | refine fin _ _ _ _ rfl rfl ?_
      | refine And.intro ?_ ?_
      | intro _
    all_goals clear fin hQ
    all_goals first
      | (have e1 : ({ data := #[46, 107] } : ByteArray).size = 2 := rfl
         have e2 : ({ data := #[46, 120] } : ByteArray).size = 2 := rfl
         unfold LMAX
         first
           | omega
           | (have e4 : ({ data := #[106, 101, 113] } : ByteArray).size = 3 := rfl
              have e5 : ({ data := #[106, 103, 116] } : ByteArray).size = 3 := rfl
              have e6 : ({ data := #[106, 103, 101] } : ByteArray).size = 3 := rfl
              have e7 : ({ data := #[106, 115, 101, 116] } : ByteArray).size = 4 := rfl
              omega))
      | (have hB : (B [] : ByteArray) = { data := #[] } := rfl
         simp only [hm, Bool.and_eq_true, Bool.and_eq_false_iff, decide_eq_true_eq, decide_eq_false_iff_not, Bool.not_eq_true', Bool.not_eq_false', not_and, Decidable.not_not] at *
         unfold rnamed
         simp only [hs, e3, hB]
         repeat' split
         all_goals first | rfl | (exfalso; omega) | (simp_all; done) | (exfalso; simp_all; omega))
end Go.Proofs.YthhcbgdngmajlaaDoor
