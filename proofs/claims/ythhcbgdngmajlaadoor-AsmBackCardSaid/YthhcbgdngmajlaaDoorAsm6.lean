/- The line of an instruction, as the program writes it. No statement of the seat stands here. -/
import Derived.Test.YthhcbgdngmajlaaDoorAsm5
set_option linter.unusedSimpArgs false
set_option linter.unusedSectionVars false
set_option maxRecDepth 100000
namespace Go.Proofs.YthhcbgdngmajlaaDoor
open Go Go.AM
variable [SE]

/-- Has an instruction a line? -/
def right (x : In) : Bool := decide (0 ≤ form x.code) && decide (bare x = x)

theorem pc30' (f : Int) : PC Tryd.prog 30 [] [vi f] (fun r h => h = [] ∧ r = .tup [vb (shK f), vb (shJ f)]) := by
  refine PC.mono (pc30 f) ?_
  rintro r h ⟨rfl, rfl⟩
  refine ⟨rfl, ?_⟩
  simp [shK, shJ, Bool.decide_and, Bool.decide_or]

def pl16 : List (Nat × Bool × Plan) := [(2, true, .take 0 (.take 1 (.take 2 (.take 3 (.take 5 (.alt 4 (.take 6 (.take 7 (.done))) (.fin))))))), (8, true, .take 0 (.take 1 (.take 2 (.take 3 (.take 7 (.take 8 (.take 9 (.alt 4 (.take 5 (.take 6 (.alt 10 (.take 11 (.take 12 (.take 13 (.done)))) (.fin)))) (.fin)))))))))]
set_option maxHeartbeats 8000000 in
theorem pc16 (x : In) (hx : x.ok) : PC Tryd.prog 16 [] [.dagg x.row] (fun r h => h = [] ∧ r = if right x then .tup [vs (lineOf x), vi 0] else .tup [vs (B []), vi 2]) := by
  refine PC.pure ?_
  refine PC.go 300 pl16 TTok rfl Tryd.func16 (by kernel_rfl) rfl Tryd.ntmps16 (rs := [.tmp 2, .tmp 3]) rfl rfl rfl (by kernel_rfl) ?_
  intro Q hQ
  simp (maxSteps := 9000000) only [go_sem, scrubT, scrubH, Nat.reducePow, Nat.reduceLT, Int.reduceToNat, Int.reduceLE, Int.reduceLT, Int.reduceEq, Int.reduceAdd, Int.reduceSub, Int.reduceMul, Nat.reduceAdd, Nat.reduceMul, Nat.reduceSub, Nat.reduceLeDiff, Nat.reduceEqDiff, Int.reduceNe, ↓reduceIte, ↓way_true, ↓way_false, ↓way_not, ↓way_dec, pl16, lk3, ti3, lk5, ti5, lk29, ti29, lk30, ti30, lk32, ti32, lk72, ti72, In.row]
  refine leaf.call1 300 pl16 TTok rfl (pc41 x.code hx.c0) rfl rfl rfl rfl rfl rfl rfl (by kernel_rfl) ?_
  rintro r h' ⟨rfl, rfl⟩
  refine ⟨rfl, ?_⟩
  simp (maxSteps := 9000000) only [go_sem, scrubT, scrubH, Nat.reducePow, Nat.reduceLT, Int.reduceToNat, Int.reduceLE, Int.reduceLT, Int.reduceEq, Int.reduceAdd, Int.reduceSub, Int.reduceMul, Nat.reduceAdd, Nat.reduceMul, Nat.reduceSub, Nat.reduceLeDiff, Nat.reduceEqDiff, Int.reduceNe, ↓reduceIte, ↓way_true, ↓way_false, ↓way_not, ↓way_dec, pl16, lk3, ti3, lk5, ti5, lk29, ti29, lk30, ti30, lk32, ti32, lk72, ti72]
  have hn := name_ok hx.c0
  have bad : ∀ (t : List (Nat × V)) (h : List (Nat × Ob)), lkp 2 t = some (vs (B [])) → lkp 3 t = some (vi 2) → right x = false → Q .ret { n := 52, t := t, h := h } := by
    intro t h e1 e2 e3
    subst hQ
    simp only [retQ, ares, aress, ares1, lkp, Option.getD_some, Nat.reduceEqDiff, ↓reduceIte, true_and, lk3, ti3, lk5, ti5, lk29, ti29, lk30, ti30, lk32, ti32, lk72, ti72, e1, e2, e3]
    exact ⟨rfl, rfl⟩
  have b1 := name_small hx.c0
  have b2 := dec_size x.k.toNat
  have b3 := dec_size x.jt.toNat
  have b4 := dec_size x.jf.toNat
  have b5 := hx.k1; have b6 := hx.t1; have b7 := hx.f1
  have b8 : (B [32]).size = 1 := rfl
  have w1 : IntKind.u64.wrap x.k = x.k := wu64 hx.k0 (by omega)
  have w2 : IntKind.i64.wrap x.jt = x.jt := wi64 (by have := hx.t0; omega) (by omega)
  have w3 : IntKind.i64.wrap x.jf = x.jf := wi64 (by have := hx.f0; omega) (by omega)
  refine ⟨fun h1 => ?_, fun h1 => ?_⟩
  · simp only [h1]
    refine leafOp.call1 300 pl16 TTok rfl (pc20 x hx.c0) rfl rfl rfl rfl rfl rfl rfl rfl (by kernel_rfl) ?_
    rintro r h' ⟨rfl, rfl⟩
    refine ⟨rfl, ?_⟩
    simp (maxSteps := 9000000) only [go_sem, scrubT, scrubH, Nat.reducePow, Nat.reduceLT, Int.reduceToNat, Int.reduceLE, Int.reduceLT, Int.reduceEq, Int.reduceAdd, Int.reduceSub, Int.reduceMul, Nat.reduceAdd, Nat.reduceMul, Nat.reduceSub, Nat.reduceLeDiff, Nat.reduceEqDiff, Int.reduceNe, ↓reduceIte, ↓way_true, ↓way_false, ↓way_not, ↓way_dec, pl16, lk3, ti3, lk5, ti5, lk29, ti29, lk30, ti30, lk32, ti32, lk72, ti72, In.row, eq32]
    refine ⟨fun h2 => ?_, fun h2 => ?_⟩
    · have hr : right x = true := by
        unfold right
        rw [← hn, h1]
        simp [show bare x = x from h2]
      have fin : ∀ (s : ByteArray) (t : List (Nat × V)) (h : List (Nat × Ob)), lkp 2 t = some (vs s) → lkp 3 t = some (vi 0) → s = lineOf x → Q .ret { n := 52, t := t, h := h } := by
        intro s t h e1 e2 e3
        subst hQ
        simp only [retQ, ares, aress, ares1, lkp, Option.getD_some, Nat.reduceEqDiff, ↓reduceIte, true_and, lk3, ti3, lk5, ti5, lk29, ti29, lk30, ti30, lk32, ti32, lk72, ti72, e1, e2, hr]
        rw [e3]
        exact ⟨rfl, rfl⟩
      refine leaf.call1 300 pl16 TTok rfl (pc25 x.code hx.c0) rfl rfl rfl rfl rfl rfl rfl (by kernel_rfl) ?_
      rintro r h' ⟨rfl, rfl⟩
      refine ⟨rfl, ?_⟩
      simp (maxSteps := 9000000) only [go_sem, scrubT, scrubH, Nat.reducePow, Nat.reduceLT, Int.reduceToNat, Int.reduceLE, Int.reduceLT, Int.reduceEq, Int.reduceAdd, Int.reduceSub, Int.reduceMul, Nat.reduceAdd, Nat.reduceMul, Nat.reduceSub, Nat.reduceLeDiff, Nat.reduceEqDiff, Int.reduceNe, ↓reduceIte, ↓way_true, ↓way_false, ↓way_not, ↓way_dec, pl16, lk3, ti3, lk5, ti5, lk29, ti29, lk30, ti30, lk32, ti32, lk72, ti72]
      refine leaf.call1 300 pl16 TTok rfl (pc30' (form x.code)) rfl rfl rfl rfl rfl rfl rfl (by kernel_rfl) ?_
      rintro r h' ⟨rfl, rfl⟩
      refine ⟨rfl, ?_⟩
      simp (maxSteps := 9000000) only [go_sem, scrubT, scrubH, Nat.reducePow, Nat.reduceLT, Int.reduceToNat, Int.reduceLE, Int.reduceLT, Int.reduceEq, Int.reduceAdd, Int.reduceSub, Int.reduceMul, Nat.reduceAdd, Nat.reduceMul, Nat.reduceSub, Nat.reduceLeDiff, Nat.reduceEqDiff, Int.reduceNe, ↓reduceIte, ↓way_true, ↓way_false, ↓way_not, ↓way_dec, pl16, lk3, ti3, lk5, ti5, lk29, ti29, lk30, ti30, lk32, ti32, lk72, ti72]
      refine ⟨fun h3 => ?_, fun h3 => ?_⟩
      · simp only [w1]
        refine leaf.call1 300 pl16 TTok rfl (pc42' x.k hx.k0 hx.k1) rfl rfl rfl rfl rfl rfl rfl (by kernel_rfl) ?_
        rintro r h' ⟨rfl, rfl⟩
        refine ⟨rfl, ?_⟩
        simp (maxSteps := 9000000) only [go_sem, scrubT, scrubH, Nat.reducePow, Nat.reduceLT, Int.reduceToNat, Int.reduceLE, Int.reduceLT, Int.reduceEq, Int.reduceAdd, Int.reduceSub, Int.reduceMul, Nat.reduceAdd, Nat.reduceMul, Nat.reduceSub, Nat.reduceLeDiff, Nat.reduceEqDiff, Int.reduceNe, ↓reduceIte, ↓way_true, ↓way_false, ↓way_not, ↓way_dec, pl16, lk3, ti3, lk5, ti5, lk29, ti29, lk30, ti30, lk32, ti32, lk72, ti72]
        refine ⟨by unfold LMAX; omega, fun _ => ⟨by unfold LMAX; omega, fun _ => ?_⟩⟩
        simp only [w2, w3]
        refine ⟨fun h4 => ?_, fun h4 => ?_⟩
        · refine leafOp.call1 300 pl16 TTok rfl (pc43' x.jt hx.t0 (by omega)) rfl rfl rfl rfl rfl rfl rfl rfl (by kernel_rfl) ?_
          rintro r h' ⟨rfl, rfl⟩
          refine ⟨rfl, ?_⟩
          simp (maxSteps := 9000000) only [go_sem, scrubT, scrubH, Nat.reducePow, Nat.reduceLT, Int.reduceToNat, Int.reduceLE, Int.reduceLT, Int.reduceEq, Int.reduceAdd, Int.reduceSub, Int.reduceMul, Nat.reduceAdd, Nat.reduceMul, Nat.reduceSub, Nat.reduceLeDiff, Nat.reduceEqDiff, Int.reduceNe, ↓reduceIte, ↓way_true, ↓way_false, ↓way_not, ↓way_dec, pl16, lk3, ti3, lk5, ti5, lk29, ti29, lk30, ti30, lk32, ti32, lk72, ti72]
          refine ⟨by unfold LMAX; omega, fun _ => ⟨by unfold LMAX; omega, fun _ => ?_⟩⟩
          refine leafOp.call1 300 pl16 TTok rfl (pc43' x.jf hx.f0 (by omega)) rfl rfl rfl rfl rfl rfl rfl rfl (by kernel_rfl) ?_
          rintro r h' ⟨rfl, rfl⟩
          refine ⟨rfl, ?_⟩
          simp (maxSteps := 9000000) only [go_sem, scrubT, scrubH, Nat.reducePow, Nat.reduceLT, Int.reduceToNat, Int.reduceLE, Int.reduceLT, Int.reduceEq, Int.reduceAdd, Int.reduceSub, Int.reduceMul, Nat.reduceAdd, Nat.reduceMul, Nat.reduceSub, Nat.reduceLeDiff, Nat.reduceEqDiff, Int.reduceNe, ↓reduceIte, ↓way_true, ↓way_false, ↓way_not, ↓way_dec, pl16, lk3, ti3, lk5, ti5, lk29, ti29, lk30, ti30, lk32, ti32, lk72, ti72]
          refine ⟨by unfold LMAX; omega, fun _ => ⟨by unfold LMAX; omega, fun _ => ?_⟩⟩
          refine fin _ _ _ rfl rfl ?_
          simp only [lineOf, h3, h4]; rfl
        · refine fin _ _ _ rfl rfl ?_
          simp only [lineOf, h3, h4]; rfl
      · simp only [w2, w3]
        refine ⟨fun h4 => ?_, fun h4 => ?_⟩
        · refine leafOp.call1 300 pl16 TTok rfl (pc43' x.jt hx.t0 (by omega)) rfl rfl rfl rfl rfl rfl rfl rfl (by kernel_rfl) ?_
          rintro r h' ⟨rfl, rfl⟩
          refine ⟨rfl, ?_⟩
          simp (maxSteps := 9000000) only [go_sem, scrubT, scrubH, Nat.reducePow, Nat.reduceLT, Int.reduceToNat, Int.reduceLE, Int.reduceLT, Int.reduceEq, Int.reduceAdd, Int.reduceSub, Int.reduceMul, Nat.reduceAdd, Nat.reduceMul, Nat.reduceSub, Nat.reduceLeDiff, Nat.reduceEqDiff, Int.reduceNe, ↓reduceIte, ↓way_true, ↓way_false, ↓way_not, ↓way_dec, pl16, lk3, ti3, lk5, ti5, lk29, ti29, lk30, ti30, lk32, ti32, lk72, ti72]
          refine ⟨by unfold LMAX; omega, fun _ => ⟨by unfold LMAX; omega, fun _ => ?_⟩⟩
          refine leafOp.call1 300 pl16 TTok rfl (pc43' x.jf hx.f0 (by omega)) rfl rfl rfl rfl rfl rfl rfl rfl (by kernel_rfl) ?_
          rintro r h' ⟨rfl, rfl⟩
          refine ⟨rfl, ?_⟩
          simp (maxSteps := 9000000) only [go_sem, scrubT, scrubH, Nat.reducePow, Nat.reduceLT, Int.reduceToNat, Int.reduceLE, Int.reduceLT, Int.reduceEq, Int.reduceAdd, Int.reduceSub, Int.reduceMul, Nat.reduceAdd, Nat.reduceMul, Nat.reduceSub, Nat.reduceLeDiff, Nat.reduceEqDiff, Int.reduceNe, ↓reduceIte, ↓way_true, ↓way_false, ↓way_not, ↓way_dec, pl16, lk3, ti3, lk5, ti5, lk29, ti29, lk30, ti30, lk32, ti32, lk72, ti72]
          refine ⟨by unfold LMAX; omega, fun _ => ⟨by unfold LMAX; omega, fun _ => ?_⟩⟩
          refine fin _ _ _ rfl rfl ?_
          simp only [lineOf, h3, h4]; rfl
        · refine fin _ _ _ rfl rfl ?_
          simp only [lineOf, h3, h4]; rfl
    · refine bad _ _ rfl rfl ?_
      unfold right
      have : ¬ bare x = x := fun e => h2 (by rw [e])
      simp [this]
  · simp (maxSteps := 9000000) only [h1, go_sem, scrubT, scrubH, Nat.reducePow, Nat.reduceLT, Int.reduceToNat, Int.reduceLE, Int.reduceLT, Int.reduceEq, Int.reduceAdd, Int.reduceSub, Int.reduceMul, Nat.reduceAdd, Nat.reduceMul, Nat.reduceSub, Nat.reduceLeDiff, Nat.reduceEqDiff, Int.reduceNe, ↓reduceIte, ↓way_true, ↓way_false, ↓way_not, ↓way_dec, pl16, lk3, ti3, lk5, ti5, lk29, ti29, lk30, ti30, lk32, ti32, lk72, ti72]
    refine bad _ _ rfl rfl ?_
    unfold right
    rw [← hn, h1]; rfl
end Go.Proofs.YthhcbgdngmajlaaDoor
