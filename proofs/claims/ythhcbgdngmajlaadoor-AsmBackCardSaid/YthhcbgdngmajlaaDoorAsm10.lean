/- The instruction of a line, as the program reads it. No statement of the seat stands here. -/
import Derived.Test.YthhcbgdngmajlaaDoorAsm9
set_option linter.unusedSimpArgs false
set_option linter.unusedSectionVars false
set_option maxRecDepth 100000
namespace Go.Proofs.YthhcbgdngmajlaaDoor
open Go Go.AM

/-- A line's parts: split at blanks. -/
def parts (s : ByteArray) : List ByteArray := Lib.splitB ⟨#[32]⟩ 0 (Lib.countB s ⟨#[32]⟩) s
theorem splitB_size (sep : ByteArray) : ∀ (n : Nat) (s : ByteArray), ∀ x ∈ Lib.splitB sep 0 n s, x.size ≤ s.size
  | 0, s, x, h => by simp [Lib.splitB] at h; subst h; exact Nat.le_refl _
  | n + 1, s, x, h => by
    unfold Lib.splitB at h
    split at h
    · simp at h; subst h; exact Nat.le_refl _
    · rcases List.mem_cons.1 h with h | h
      · subst h; rw [ByteArray.size_extract]; omega
      · have := splitB_size sep n _ x h
        rw [ByteArray.size_extract] at this; omega
theorem parts_ne (s : ByteArray) : parts s ≠ [] := by
  intro h
  have := Lib.splitB_all ⟨#[32]⟩ (by decide) 0 _ s rfl
  unfold parts at h
  rw [h] at this; simp at this

def fieldM (most : Nat) (l : List ByteArray) (ok : Bool) (d : Int) : Prop :=
  match l with | [] => ok = false | s :: _ => (match numOf most s with | some u => ok = true ∧ d = u | none => ok = false)
theorem fq_true {most : Nat} {l : List ByteArray} {d : Int} (h : fieldM most l true d) : ∃ s r u, l = s :: r ∧ numOf most s = some u ∧ d = (u : Nat) := by
  unfold fieldM at h
  split at h
  · cases h
  · rename_i s r
    split at h
    · rename_i u hu; exact ⟨s, r, u, rfl, hu, h.2⟩
    · cases h
theorem fq_false {most : Nat} {l : List ByteArray} {d : Int} (h : fieldM most l false d) : l = [] ∨ ∃ s r, l = s :: r ∧ numOf most s = none := by
  unfold fieldM at h
  split at h
  · exact .inl rfl
  · rename_i s r
    split at h
    · cases h.1
    · rename_i hu; exact .inr ⟨s, r, rfl, hu⟩
/-- The number of a part, where a form shows it. -/
def takeK (f : Int) (l : List ByteArray) : Option (Nat × List ByteArray) :=
  if shK f then (match l with | [] => none | s :: r => (numOf 4294967295 s).map fun u => (u, r)) else some (0, l)
def takeJ (f : Int) (l : List ByteArray) : Option (Nat × Nat × List ByteArray) :=
  if shJ f then (match l with
    | s :: s' :: r => (match numOf 255 s, numOf 255 s' with | some a, some b => some (a, b, r) | _, _ => none)
    | _ => none) else some (0, 0, l)
/-- The instruction of a line. -/
def oneOf (s : ByteArray) : Option In :=
  match parts s with
  | [] => none
  | p :: l => match codeOf p with
    | none => none
    | some c => match takeK (form c) l with
      | none => none
      | some (k, l) => match takeJ (form c) l with
        | none => none
        | some (a, b, l) => if l = [] then some ⟨c, a, b, k⟩ else none
def optI : Option In → V
  | some x => .tup [.dagg x.row, vi 0]
  | none => .tup [.dagg (⟨0, 0, 0, 0⟩ : In).row, vi 180]
variable [SE]

def pl11 : List (Nat × Bool × Plan) := [(4, false, .take 0 (.alt 1 (.take 2 (.take 3 (.alt 4 (.alt 5 (.done) (.fin)) (.fin)))) (.fin)))]
set_option maxHeartbeats 16000000 in
theorem pc11 (s : ByteArray) (hs : s.size < 4294967281) : PC Tryd.prog 11 [] [vs s] (fun r h => h = [] ∧ r = optI (oneOf s)) := by
  have hsz := splitB_size ⟨#[32]⟩ (Lib.countB s ⟨#[32]⟩) s
  have hne := parts_ne s
  refine PC.pure ?_
  refine PC.go 300 pl11 TTok rfl Tryd.func11 (by kernel_rfl) rfl Tryd.ntmps11 (rs := [.cell 2 32, .tmp 3]) rfl rfl rfl (by kernel_rfl) ?_
  intro Q hQ
  simp (maxSteps := 9000000) only [go_sem, scrubT, scrubH, Nat.reducePow, Nat.reduceLT, Int.reduceToNat, Int.reduceLE, Int.reduceLT, Int.reduceEq, Int.reduceAdd, Int.reduceSub, Int.reduceMul, Nat.reduceAdd, Nat.reduceMul, Nat.reduceSub, Nat.reduceLeDiff, Nat.reduceEqDiff, Int.reduceNe, ↓reduceIte, ↓way_true, ↓way_false, ↓way_not, ↓way_dec, pl11, lk3, ti3, lk5, ti5, lk9, ti9, lk22, ti22, lk29, ti29, lk30, ti30, lk32, ti32, lk65, ti65, lk66, ti66, lk68, ti68]
  refine leaf.call1 300 pl11 TTok rfl (pc28 s ⟨#[32]⟩ hs (by decide)) rfl rfl rfl rfl rfl rfl rfl (by kernel_rfl) ?_
  rintro r h' ⟨rfl, rfl⟩
  refine ⟨rfl, ?_⟩
  have ho : oneOf s = match parts s with
    | [] => none
    | p :: l => match codeOf p with
      | none => none
      | some c => match takeK (form c) l with
        | none => none
        | some (k, l) => match takeJ (form c) l with
          | none => none
          | some (a, b, l) => if l = [] then some ⟨c, a, b, k⟩ else none := rfl
  change ∀ x ∈ parts s, _ at hsz
  change AM.go _ _ _ _ _ _ _
  rw [show Lib.splitB ⟨#[32]⟩ 0 (Lib.countB s ⟨#[32]⟩) s = parts s from rfl]
  generalize parts s = ps at *
  match ps, hne with
  | p :: l, _ =>
  dsimp only at ho
  simp (maxSteps := 9000000) only [go_sem, scrubT, scrubH, Nat.reducePow, Nat.reduceLT, Int.reduceToNat, Int.reduceLE, Int.reduceLT, Int.reduceEq, Int.reduceAdd, Int.reduceSub, Int.reduceMul, Nat.reduceAdd, Nat.reduceMul, Nat.reduceSub, Nat.reduceLeDiff, Nat.reduceEqDiff, Int.reduceNe, ↓reduceIte, ↓way_true, ↓way_false, ↓way_not, ↓way_dec, pl11, lk3, ti3, lk5, ti5, lk9, ti9, lk22, ti22, lk29, ti29, lk30, ti30, lk32, ti32, lk65, ti65, lk66, ti66, lk68, ti68, texts, List.map_cons]
  refine ⟨by omega, fun _ => ?_⟩
  refine leaf.call1 300 pl11 TTok rfl (pc29 p) rfl rfl rfl rfl rfl rfl rfl (by kernel_rfl) ?_
  rintro r h' ⟨rfl, rfl⟩
  refine ⟨rfl, ?_⟩
  have none_ : ∀ (t : List (Nat × V)) (h : List (Nat × Ob)), lkp 2 t = some (.ptr 2 0) → lkp 3 t = some (vi 180) → lkp 2 h = some (.cells [vu16 0, vu8 0, vu8 0, vu32 0]) → oneOf s = none → Q .ret { n := 54, t := t, h := h } := by
    intro t h e1 e2 e3 e4
    subst hQ
    simp only [retQ, ares, aress, ares1, lkp, Option.getD_some, Nat.reduceEqDiff, ↓reduceIte, true_and, lk3, ti3, lk5, ti5, lk9, ti9, lk22, ti22, lk29, ti29, lk30, ti30, lk32, ti32, lk65, ti65, lk66, ti66, lk68, ti68, e1, e2, e3, e4, aload, TypeDesc.isRow]
    exact ⟨rfl, rfl⟩
  have some_ : ∀ (x : In) (t : List (Nat × V)) (h : List (Nat × Ob)), lkp 2 t = some (.ptr 2 0) → lkp 3 t = some (vi 0) → lkp 2 h = some (.cells [vu16 x.code, vu8 x.jt, vu8 x.jf, vu32 x.k]) → oneOf s = some x → Q .ret { n := 54, t := t, h := h } := by
    intro x t h e1 e2 e3 e4
    subst hQ
    simp only [retQ, ares, aress, ares1, lkp, Option.getD_some, Nat.reduceEqDiff, ↓reduceIte, true_and, lk3, ti3, lk5, ti5, lk9, ti9, lk22, ti22, lk29, ti29, lk30, ti30, lk32, ti32, lk65, ti65, lk66, ti66, lk68, ti68, e1, e2, e3, e4, aload, TypeDesc.isRow]
    exact ⟨rfl, rfl⟩
  have hl0 : ∀ x ∈ l, x.size ≤ 281474976710656 := fun x hx => by have := hsz x (by simp [hx]); omega
  have htk : List.take (((l.map fun s => [D.val (Value.string s)]).length + 1) - 1) (l.map fun s => [D.val (Value.string s)]) = l.map fun s => [D.val (Value.string s)] := by simp [List.take_of_length_le]
  cases hc : codeOf p with
  | none =>
    simp (maxSteps := 9000000) only [optC, go_sem, scrubT, scrubH, Nat.reducePow, Nat.reduceLT, Int.reduceToNat, Int.reduceLE, Int.reduceLT, Int.reduceEq, Int.reduceAdd, Int.reduceSub, Int.reduceMul, Nat.reduceAdd, Nat.reduceMul, Nat.reduceSub, Nat.reduceLeDiff, Nat.reduceEqDiff, Int.reduceNe, ↓reduceIte, ↓way_true, ↓way_false, ↓way_not, ↓way_dec, pl11, lk3, ti3, lk5, ti5, lk9, ti9, lk22, ti22, lk29, ti29, lk30, ti30, lk32, ti32, lk65, ti65, lk66, ti66, lk68, ti68, Int.toNat_natCast, htk]
    refine ⟨⟨by omega, by omega⟩, fun _ => ?_⟩
    refine leaf.call1 300 pl11 TTok rfl (pc25 0 (by omega)) rfl rfl rfl rfl rfl rfl rfl (by kernel_rfl) ?_
    rintro r h' ⟨rfl, rfl⟩
    refine ⟨rfl, ?_⟩
    simp (maxSteps := 9000000) only [go_sem, scrubT, scrubH, Nat.reducePow, Nat.reduceLT, Int.reduceToNat, Int.reduceLE, Int.reduceLT, Int.reduceEq, Int.reduceAdd, Int.reduceSub, Int.reduceMul, Nat.reduceAdd, Nat.reduceMul, Nat.reduceSub, Nat.reduceLeDiff, Nat.reduceEqDiff, Int.reduceNe, ↓reduceIte, ↓way_true, ↓way_false, ↓way_not, ↓way_dec, pl11, lk3, ti3, lk5, ti5, lk9, ti9, lk22, ti22, lk29, ti29, lk30, ti30, lk32, ti32, lk65, ti65, lk66, ti66, lk68, ti68]
    refine leaf.call1 300 pl11 TTok rfl (pc30' (form 0)) rfl rfl rfl rfl rfl rfl rfl (by kernel_rfl) ?_
    rintro r h' ⟨rfl, rfl⟩
    refine ⟨rfl, ?_⟩
    simp (maxSteps := 9000000) only [go_sem, scrubT, scrubH, Nat.reducePow, Nat.reduceLT, Int.reduceToNat, Int.reduceLE, Int.reduceLT, Int.reduceEq, Int.reduceAdd, Int.reduceSub, Int.reduceMul, Nat.reduceAdd, Nat.reduceMul, Nat.reduceSub, Nat.reduceLeDiff, Nat.reduceEqDiff, Int.reduceNe, ↓reduceIte, ↓way_true, ↓way_false, ↓way_not, ↓way_dec, pl11, lk3, ti3, lk5, ti5, lk9, ti9, lk22, ti22, lk29, ti29, lk30, ti30, lk32, ti32, lk65, ti65, lk66, ti66, lk68, ti68]
    refine none_ _ _ rfl rfl rfl ?_
    rw [ho, hc]
  | some c =>
    simp (maxSteps := 9000000) only [optC, go_sem, scrubT, scrubH, Nat.reducePow, Nat.reduceLT, Int.reduceToNat, Int.reduceLE, Int.reduceLT, Int.reduceEq, Int.reduceAdd, Int.reduceSub, Int.reduceMul, Nat.reduceAdd, Nat.reduceMul, Nat.reduceSub, Nat.reduceLeDiff, Nat.reduceEqDiff, Int.reduceNe, ↓reduceIte, ↓way_true, ↓way_false, ↓way_not, ↓way_dec, pl11, lk3, ti3, lk5, ti5, lk9, ti9, lk22, ti22, lk29, ti29, lk30, ti30, lk32, ti32, lk65, ti65, lk66, ti66, lk68, ti68, Int.toNat_natCast, htk]
    refine ⟨⟨by omega, by omega⟩, fun _ => ?_⟩
    refine leaf.call1 300 pl11 TTok rfl (pc25 (c : Int) (by omega)) rfl rfl rfl rfl rfl rfl rfl (by kernel_rfl) ?_
    rintro r h' ⟨rfl, rfl⟩
    refine ⟨rfl, ?_⟩
    simp (maxSteps := 9000000) only [go_sem, scrubT, scrubH, Nat.reducePow, Nat.reduceLT, Int.reduceToNat, Int.reduceLE, Int.reduceLT, Int.reduceEq, Int.reduceAdd, Int.reduceSub, Int.reduceMul, Nat.reduceAdd, Nat.reduceMul, Nat.reduceSub, Nat.reduceLeDiff, Nat.reduceEqDiff, Int.reduceNe, ↓reduceIte, ↓way_true, ↓way_false, ↓way_not, ↓way_dec, pl11, lk3, ti3, lk5, ti5, lk9, ti9, lk22, ti22, lk29, ti29, lk30, ti30, lk32, ti32, lk65, ti65, lk66, ti66, lk68, ti68]
    refine leaf.call1 300 pl11 TTok rfl (pc30' (form (c : Int))) rfl rfl rfl rfl rfl rfl rfl (by kernel_rfl) ?_
    rintro r h' ⟨rfl, rfl⟩
    refine ⟨rfl, ?_⟩
    generalize hl00 : l = l0 at *
    cases hk : shK (form (c : Int)) with
    | false =>
      simp (maxSteps := 9000000) only [hk, go_sem, scrubT, scrubH, Nat.reducePow, Nat.reduceLT, Int.reduceToNat, Int.reduceLE, Int.reduceLT, Int.reduceEq, Int.reduceAdd, Int.reduceSub, Int.reduceMul, Nat.reduceAdd, Nat.reduceMul, Nat.reduceSub, Nat.reduceLeDiff, Nat.reduceEqDiff, Int.reduceNe, ↓reduceIte, ↓way_true, ↓way_false, ↓way_not, ↓way_dec, pl11, lk3, ti3, lk5, ti5, lk9, ti9, lk22, ti22, lk29, ti29, lk30, ti30, lk32, ti32, lk65, ti65, lk66, ti66, lk68, ti68]
      have rest : takeK (form c) l0 = some (0, l0) := by unfold takeK; rw [hk]; rfl
      rw [hc] at ho; simp only [rest] at ho
      cases hj : shJ (form c) with
      | true =>
        simp (maxSteps := 9000000) only [hj, go_sem, scrubT, scrubH, Nat.reducePow, Nat.reduceLT, Int.reduceToNat, Int.reduceLE, Int.reduceLT, Int.reduceEq, Int.reduceAdd, Int.reduceSub, Int.reduceMul, Nat.reduceAdd, Nat.reduceMul, Nat.reduceSub, Nat.reduceLeDiff, Nat.reduceEqDiff, Int.reduceNe, ↓reduceIte, ↓way_true, ↓way_false, ↓way_not, ↓way_dec, pl11, lk3, ti3, lk5, ti5, lk9, ti9, lk22, ti22, lk29, ti29, lk30, ti30, lk32, ti32, lk65, ti65, lk66, ti66, lk68, ti68]
        refine leaf.callH 300 pl11 TTok rfl (pc32 l0 hl0 c 0 0 0) [(ARG, 4), (ARG + 1, 5)] rfl rfl rfl rfl rfl rfl ⟨rfl, rfl, trivial⟩ rfl (by kernel_rfl) ?_
        rintro r h1 ⟨ok, d1, rfl, rfl, hm1⟩
        refine ⟨[(ARG, 4), (ARG + 1, 5)], rfl, rfl, ?_⟩
        cases ok with
        | false =>
          simp (maxSteps := 9000000) only [go_sem, scrubT, scrubH, Nat.reducePow, Nat.reduceLT, Int.reduceToNat, Int.reduceLE, Int.reduceLT, Int.reduceEq, Int.reduceAdd, Int.reduceSub, Int.reduceMul, Nat.reduceAdd, Nat.reduceMul, Nat.reduceSub, Nat.reduceLeDiff, Nat.reduceEqDiff, Int.reduceNe, ↓reduceIte, ↓way_true, ↓way_false, ↓way_not, ↓way_dec, pl11, lk3, ti3, lk5, ti5, lk9, ti9, lk22, ti22, lk29, ti29, lk30, ti30, lk32, ti32, lk65, ti65, lk66, ti66, lk68, ti68, texts, ARG, Nat.reduceAdd]
          refine none_ _ _ rfl rfl rfl ?_
          rw [ho]; simp only [rest, takeJ, hj, ↓reduceIte]
          rcases fq_false hm1 with e | ⟨q, r, e, e2⟩
          · rw [e]
          · rw [e]; cases r <;> simp [e2]
        | true =>
          obtain ⟨q1, r1, u1, e1, e2, rfl⟩ := fq_true hm1
          simp (maxSteps := 9000000) only [go_sem, scrubT, scrubH, Nat.reducePow, Nat.reduceLT, Int.reduceToNat, Int.reduceLE, Int.reduceLT, Int.reduceEq, Int.reduceAdd, Int.reduceSub, Int.reduceMul, Nat.reduceAdd, Nat.reduceMul, Nat.reduceSub, Nat.reduceLeDiff, Nat.reduceEqDiff, Int.reduceNe, ↓reduceIte, ↓way_true, ↓way_false, ↓way_not, ↓way_dec, pl11, lk3, ti3, lk5, ti5, lk9, ti9, lk22, ti22, lk29, ti29, lk30, ti30, lk32, ti32, lk65, ti65, lk66, ti66, lk68, ti68, texts, ARG, Nat.reduceAdd]
          refine leaf.callH 300 pl11 TTok rfl (pc32b l0.tail (fun x hx => hl0 x (List.mem_of_mem_tail hx)) c u1 0 0) [(ARG, 4), (ARG + 1, 5)] rfl rfl rfl rfl rfl rfl ⟨rfl, rfl, trivial⟩ rfl (by kernel_rfl) ?_
          rintro r h1 ⟨ok, d2, rfl, rfl, hm2⟩
          refine ⟨[(ARG, 4), (ARG + 1, 5)], rfl, rfl, ?_⟩
          rw [e1] at hm2
          cases ok with
          | false =>
            simp (maxSteps := 9000000) only [go_sem, scrubT, scrubH, Nat.reducePow, Nat.reduceLT, Int.reduceToNat, Int.reduceLE, Int.reduceLT, Int.reduceEq, Int.reduceAdd, Int.reduceSub, Int.reduceMul, Nat.reduceAdd, Nat.reduceMul, Nat.reduceSub, Nat.reduceLeDiff, Nat.reduceEqDiff, Int.reduceNe, ↓reduceIte, ↓way_true, ↓way_false, ↓way_not, ↓way_dec, pl11, lk3, ti3, lk5, ti5, lk9, ti9, lk22, ti22, lk29, ti29, lk30, ti30, lk32, ti32, lk65, ti65, lk66, ti66, lk68, ti68, texts, ARG, Nat.reduceAdd]
            refine none_ _ _ rfl rfl rfl ?_
            rw [ho]; simp only [rest, takeJ, hj, ↓reduceIte, e1]
            rcases fq_false hm2 with e | ⟨q, r, e, e3⟩
            · rw [show r1 = [] from e]
            · rw [show r1 = q :: r from e]; simp [e2, e3]
          | true =>
            obtain ⟨q2, r2, u2, e3, e4, rfl⟩ := fq_true hm2
            have e3' : r1 = q2 :: r2 := e3
            simp (maxSteps := 9000000) only [go_sem, scrubT, scrubH, Nat.reducePow, Nat.reduceLT, Int.reduceToNat, Int.reduceLE, Int.reduceLT, Int.reduceEq, Int.reduceAdd, Int.reduceSub, Int.reduceMul, Nat.reduceAdd, Nat.reduceMul, Nat.reduceSub, Nat.reduceLeDiff, Nat.reduceEqDiff, Int.reduceNe, ↓reduceIte, ↓way_true, ↓way_false, ↓way_not, ↓way_dec, pl11, lk3, ti3, lk5, ti5, lk9, ti9, lk22, ti22, lk29, ti29, lk30, ti30, lk32, ti32, lk65, ti65, lk66, ti66, lk68, ti68, texts, ARG, Nat.reduceAdd, e1, e3', List.tail_cons]
            cases r2 with
            | nil =>
              simp (maxSteps := 9000000) only [go_sem, scrubT, scrubH, Nat.reducePow, Nat.reduceLT, Int.reduceToNat, Int.reduceLE, Int.reduceLT, Int.reduceEq, Int.reduceAdd, Int.reduceSub, Int.reduceMul, Nat.reduceAdd, Nat.reduceMul, Nat.reduceSub, Nat.reduceLeDiff, Nat.reduceEqDiff, Int.reduceNe, ↓reduceIte, ↓way_true, ↓way_false, ↓way_not, ↓way_dec, pl11, lk3, ti3, lk5, ti5, lk9, ti9, lk22, ti22, lk29, ti29, lk30, ti30, lk32, ti32, lk65, ti65, lk66, ti66, lk68, ti68, List.map_nil]
              refine some_ ⟨c, u1, u2, 0⟩ _ _ rfl rfl rfl ?_
              rw [ho]; simp [rest, takeJ, hj, e1, e3', e2, e4]
            | cons x y =>
              have hp0 : ((0 : Int) < (((y.map fun s => [D.val (Value.string s)]).length + 1 : Nat) : Int)) = True := eq_true (by omega)
              simp (maxSteps := 9000000) only [go_sem, scrubT, scrubH, Nat.reducePow, Nat.reduceLT, Int.reduceToNat, Int.reduceLE, Int.reduceLT, Int.reduceEq, Int.reduceAdd, Int.reduceSub, Int.reduceMul, Nat.reduceAdd, Nat.reduceMul, Nat.reduceSub, Nat.reduceLeDiff, Nat.reduceEqDiff, Int.reduceNe, ↓reduceIte, ↓way_true, ↓way_false, ↓way_not, ↓way_dec, pl11, lk3, ti3, lk5, ti5, lk9, ti9, lk22, ti22, lk29, ti29, lk30, ti30, lk32, ti32, lk65, ti65, lk66, ti66, lk68, ti68, List.map_cons, hp0]
              refine none_ _ _ rfl rfl rfl ?_
              rw [ho]; simp [rest, takeJ, hj, e1, e3', e2, e4]
      | false =>
        simp (maxSteps := 9000000) only [hj, go_sem, scrubT, scrubH, Nat.reducePow, Nat.reduceLT, Int.reduceToNat, Int.reduceLE, Int.reduceLT, Int.reduceEq, Int.reduceAdd, Int.reduceSub, Int.reduceMul, Nat.reduceAdd, Nat.reduceMul, Nat.reduceSub, Nat.reduceLeDiff, Nat.reduceEqDiff, Int.reduceNe, ↓reduceIte, ↓way_true, ↓way_false, ↓way_not, ↓way_dec, pl11, lk3, ti3, lk5, ti5, lk9, ti9, lk22, ti22, lk29, ti29, lk30, ti30, lk32, ti32, lk65, ti65, lk66, ti66, lk68, ti68, texts, ARG, Nat.reduceAdd]
        generalize l0 = lz at *
        cases lz with
        | nil =>
          simp (maxSteps := 9000000) only [go_sem, scrubT, scrubH, Nat.reducePow, Nat.reduceLT, Int.reduceToNat, Int.reduceLE, Int.reduceLT, Int.reduceEq, Int.reduceAdd, Int.reduceSub, Int.reduceMul, Nat.reduceAdd, Nat.reduceMul, Nat.reduceSub, Nat.reduceLeDiff, Nat.reduceEqDiff, Int.reduceNe, ↓reduceIte, ↓way_true, ↓way_false, ↓way_not, ↓way_dec, pl11, lk3, ti3, lk5, ti5, lk9, ti9, lk22, ti22, lk29, ti29, lk30, ti30, lk32, ti32, lk65, ti65, lk66, ti66, lk68, ti68, List.map_nil]
          refine some_ ⟨c, 0, 0, 0⟩ _ _ rfl rfl rfl ?_
          rw [ho]; simp [rest, takeJ, hj]
        | cons x y =>
          have hp0 : ((0 : Int) < (((y.map fun s => [D.val (Value.string s)]).length + 1 : Nat) : Int)) = True := eq_true (by omega)
          simp (maxSteps := 9000000) only [go_sem, scrubT, scrubH, Nat.reducePow, Nat.reduceLT, Int.reduceToNat, Int.reduceLE, Int.reduceLT, Int.reduceEq, Int.reduceAdd, Int.reduceSub, Int.reduceMul, Nat.reduceAdd, Nat.reduceMul, Nat.reduceSub, Nat.reduceLeDiff, Nat.reduceEqDiff, Int.reduceNe, ↓reduceIte, ↓way_true, ↓way_false, ↓way_not, ↓way_dec, pl11, lk3, ti3, lk5, ti5, lk9, ti9, lk22, ti22, lk29, ti29, lk30, ti30, lk32, ti32, lk65, ti65, lk66, ti66, lk68, ti68, List.map_cons, hp0]
          refine none_ _ _ rfl rfl rfl ?_
          rw [ho]; simp [rest, takeJ, hj]
    | true =>
      simp (maxSteps := 9000000) only [hk, go_sem, scrubT, scrubH, Nat.reducePow, Nat.reduceLT, Int.reduceToNat, Int.reduceLE, Int.reduceLT, Int.reduceEq, Int.reduceAdd, Int.reduceSub, Int.reduceMul, Nat.reduceAdd, Nat.reduceMul, Nat.reduceSub, Nat.reduceLeDiff, Nat.reduceEqDiff, Int.reduceNe, ↓reduceIte, ↓way_true, ↓way_false, ↓way_not, ↓way_dec, pl11, lk3, ti3, lk5, ti5, lk9, ti9, lk22, ti22, lk29, ti29, lk30, ti30, lk32, ti32, lk65, ti65, lk66, ti66, lk68, ti68]
      refine leaf.callH 300 pl11 TTok rfl (pc31 l0 hl0 c 0 0 0) [(ARG, 4), (ARG + 1, 5)] rfl rfl rfl rfl rfl rfl ⟨rfl, rfl, trivial⟩ rfl (by kernel_rfl) ?_
      rintro r h1 ⟨ok, d0, rfl, rfl, hm0⟩
      refine ⟨[(ARG, 4), (ARG + 1, 5)], rfl, rfl, ?_⟩
      cases ok with
      | false =>
        simp (maxSteps := 9000000) only [go_sem, scrubT, scrubH, Nat.reducePow, Nat.reduceLT, Int.reduceToNat, Int.reduceLE, Int.reduceLT, Int.reduceEq, Int.reduceAdd, Int.reduceSub, Int.reduceMul, Nat.reduceAdd, Nat.reduceMul, Nat.reduceSub, Nat.reduceLeDiff, Nat.reduceEqDiff, Int.reduceNe, ↓reduceIte, ↓way_true, ↓way_false, ↓way_not, ↓way_dec, pl11, lk3, ti3, lk5, ti5, lk9, ti9, lk22, ti22, lk29, ti29, lk30, ti30, lk32, ti32, lk65, ti65, lk66, ti66, lk68, ti68, texts, ARG, Nat.reduceAdd]
        refine none_ _ _ rfl rfl rfl ?_
        rw [ho, hc]; simp only [takeK, hk, ↓reduceIte]
        rcases fq_false hm0 with e | ⟨q, r, e, e2⟩
        · rw [e]
        · rw [e]; simp [e2]
      | true =>
        obtain ⟨q0, r0, u0, e00, e01, rfl⟩ := fq_true hm0
        have htl : l0.tail = r0 := by rw [e00]; rfl
        have hlr : ∀ x ∈ r0, x.size ≤ 281474976710656 := fun x hx => hl0 x (by rw [e00]; simp [hx])
        simp (maxSteps := 9000000) only [go_sem, scrubT, scrubH, Nat.reducePow, Nat.reduceLT, Int.reduceToNat, Int.reduceLE, Int.reduceLT, Int.reduceEq, Int.reduceAdd, Int.reduceSub, Int.reduceMul, Nat.reduceAdd, Nat.reduceMul, Nat.reduceSub, Nat.reduceLeDiff, Nat.reduceEqDiff, Int.reduceNe, ↓reduceIte, ↓way_true, ↓way_false, ↓way_not, ↓way_dec, pl11, lk3, ti3, lk5, ti5, lk9, ti9, lk22, ti22, lk29, ti29, lk30, ti30, lk32, ti32, lk65, ti65, lk66, ti66, lk68, ti68, texts, ARG, Nat.reduceAdd, htl]
        have rest : takeK (form c) l0 = some (u0, r0) := by unfold takeK; rw [hk, e00]; simp [e01]
        rw [hc] at ho; simp only [rest] at ho
        cases hj : shJ (form c) with
        | true =>
          simp (maxSteps := 9000000) only [hj, go_sem, scrubT, scrubH, Nat.reducePow, Nat.reduceLT, Int.reduceToNat, Int.reduceLE, Int.reduceLT, Int.reduceEq, Int.reduceAdd, Int.reduceSub, Int.reduceMul, Nat.reduceAdd, Nat.reduceMul, Nat.reduceSub, Nat.reduceLeDiff, Nat.reduceEqDiff, Int.reduceNe, ↓reduceIte, ↓way_true, ↓way_false, ↓way_not, ↓way_dec, pl11, lk3, ti3, lk5, ti5, lk9, ti9, lk22, ti22, lk29, ti29, lk30, ti30, lk32, ti32, lk65, ti65, lk66, ti66, lk68, ti68]
          refine leaf.callH 300 pl11 TTok rfl (pc32 r0 hlr c 0 0 u0) [(ARG, 4), (ARG + 1, 5)] rfl rfl rfl rfl rfl rfl ⟨rfl, rfl, trivial⟩ rfl (by kernel_rfl) ?_
          rintro r h1 ⟨ok, d1, rfl, rfl, hm1⟩
          refine ⟨[(ARG, 4), (ARG + 1, 5)], rfl, rfl, ?_⟩
          cases ok with
          | false =>
            simp (maxSteps := 9000000) only [go_sem, scrubT, scrubH, Nat.reducePow, Nat.reduceLT, Int.reduceToNat, Int.reduceLE, Int.reduceLT, Int.reduceEq, Int.reduceAdd, Int.reduceSub, Int.reduceMul, Nat.reduceAdd, Nat.reduceMul, Nat.reduceSub, Nat.reduceLeDiff, Nat.reduceEqDiff, Int.reduceNe, ↓reduceIte, ↓way_true, ↓way_false, ↓way_not, ↓way_dec, pl11, lk3, ti3, lk5, ti5, lk9, ti9, lk22, ti22, lk29, ti29, lk30, ti30, lk32, ti32, lk65, ti65, lk66, ti66, lk68, ti68, texts, ARG, Nat.reduceAdd]
            refine none_ _ _ rfl rfl rfl ?_
            rw [ho]; simp only [rest, takeJ, hj, ↓reduceIte]
            rcases fq_false hm1 with e | ⟨q, r, e, e2⟩
            · rw [e]
            · rw [e]; cases r <;> simp [e2]
          | true =>
            obtain ⟨q1, r1, u1, e1, e2, rfl⟩ := fq_true hm1
            simp (maxSteps := 9000000) only [go_sem, scrubT, scrubH, Nat.reducePow, Nat.reduceLT, Int.reduceToNat, Int.reduceLE, Int.reduceLT, Int.reduceEq, Int.reduceAdd, Int.reduceSub, Int.reduceMul, Nat.reduceAdd, Nat.reduceMul, Nat.reduceSub, Nat.reduceLeDiff, Nat.reduceEqDiff, Int.reduceNe, ↓reduceIte, ↓way_true, ↓way_false, ↓way_not, ↓way_dec, pl11, lk3, ti3, lk5, ti5, lk9, ti9, lk22, ti22, lk29, ti29, lk30, ti30, lk32, ti32, lk65, ti65, lk66, ti66, lk68, ti68, texts, ARG, Nat.reduceAdd]
            refine leaf.callH 300 pl11 TTok rfl (pc32b r0.tail (fun x hx => hlr x (List.mem_of_mem_tail hx)) c u1 0 u0) [(ARG, 4), (ARG + 1, 5)] rfl rfl rfl rfl rfl rfl ⟨rfl, rfl, trivial⟩ rfl (by kernel_rfl) ?_
            rintro r h1 ⟨ok, d2, rfl, rfl, hm2⟩
            refine ⟨[(ARG, 4), (ARG + 1, 5)], rfl, rfl, ?_⟩
            rw [e1] at hm2
            cases ok with
            | false =>
              simp (maxSteps := 9000000) only [go_sem, scrubT, scrubH, Nat.reducePow, Nat.reduceLT, Int.reduceToNat, Int.reduceLE, Int.reduceLT, Int.reduceEq, Int.reduceAdd, Int.reduceSub, Int.reduceMul, Nat.reduceAdd, Nat.reduceMul, Nat.reduceSub, Nat.reduceLeDiff, Nat.reduceEqDiff, Int.reduceNe, ↓reduceIte, ↓way_true, ↓way_false, ↓way_not, ↓way_dec, pl11, lk3, ti3, lk5, ti5, lk9, ti9, lk22, ti22, lk29, ti29, lk30, ti30, lk32, ti32, lk65, ti65, lk66, ti66, lk68, ti68, texts, ARG, Nat.reduceAdd]
              refine none_ _ _ rfl rfl rfl ?_
              rw [ho]; simp only [rest, takeJ, hj, ↓reduceIte, e1]
              rcases fq_false hm2 with e | ⟨q, r, e, e3⟩
              · rw [show r1 = [] from e]
              · rw [show r1 = q :: r from e]; simp [e2, e3]
            | true =>
              obtain ⟨q2, r2, u2, e3, e4, rfl⟩ := fq_true hm2
              have e3' : r1 = q2 :: r2 := e3
              simp (maxSteps := 9000000) only [go_sem, scrubT, scrubH, Nat.reducePow, Nat.reduceLT, Int.reduceToNat, Int.reduceLE, Int.reduceLT, Int.reduceEq, Int.reduceAdd, Int.reduceSub, Int.reduceMul, Nat.reduceAdd, Nat.reduceMul, Nat.reduceSub, Nat.reduceLeDiff, Nat.reduceEqDiff, Int.reduceNe, ↓reduceIte, ↓way_true, ↓way_false, ↓way_not, ↓way_dec, pl11, lk3, ti3, lk5, ti5, lk9, ti9, lk22, ti22, lk29, ti29, lk30, ti30, lk32, ti32, lk65, ti65, lk66, ti66, lk68, ti68, texts, ARG, Nat.reduceAdd, e1, e3', List.tail_cons]
              cases r2 with
              | nil =>
                simp (maxSteps := 9000000) only [go_sem, scrubT, scrubH, Nat.reducePow, Nat.reduceLT, Int.reduceToNat, Int.reduceLE, Int.reduceLT, Int.reduceEq, Int.reduceAdd, Int.reduceSub, Int.reduceMul, Nat.reduceAdd, Nat.reduceMul, Nat.reduceSub, Nat.reduceLeDiff, Nat.reduceEqDiff, Int.reduceNe, ↓reduceIte, ↓way_true, ↓way_false, ↓way_not, ↓way_dec, pl11, lk3, ti3, lk5, ti5, lk9, ti9, lk22, ti22, lk29, ti29, lk30, ti30, lk32, ti32, lk65, ti65, lk66, ti66, lk68, ti68, List.map_nil]
                refine some_ ⟨c, u1, u2, u0⟩ _ _ rfl rfl rfl ?_
                rw [ho]; simp [rest, takeJ, hj, e1, e3', e2, e4]
              | cons x y =>
                have hp0 : ((0 : Int) < (((y.map fun s => [D.val (Value.string s)]).length + 1 : Nat) : Int)) = True := eq_true (by omega)
                simp (maxSteps := 9000000) only [go_sem, scrubT, scrubH, Nat.reducePow, Nat.reduceLT, Int.reduceToNat, Int.reduceLE, Int.reduceLT, Int.reduceEq, Int.reduceAdd, Int.reduceSub, Int.reduceMul, Nat.reduceAdd, Nat.reduceMul, Nat.reduceSub, Nat.reduceLeDiff, Nat.reduceEqDiff, Int.reduceNe, ↓reduceIte, ↓way_true, ↓way_false, ↓way_not, ↓way_dec, pl11, lk3, ti3, lk5, ti5, lk9, ti9, lk22, ti22, lk29, ti29, lk30, ti30, lk32, ti32, lk65, ti65, lk66, ti66, lk68, ti68, List.map_cons, hp0]
                refine none_ _ _ rfl rfl rfl ?_
                rw [ho]; simp [rest, takeJ, hj, e1, e3', e2, e4]
        | false =>
          simp (maxSteps := 9000000) only [hj, go_sem, scrubT, scrubH, Nat.reducePow, Nat.reduceLT, Int.reduceToNat, Int.reduceLE, Int.reduceLT, Int.reduceEq, Int.reduceAdd, Int.reduceSub, Int.reduceMul, Nat.reduceAdd, Nat.reduceMul, Nat.reduceSub, Nat.reduceLeDiff, Nat.reduceEqDiff, Int.reduceNe, ↓reduceIte, ↓way_true, ↓way_false, ↓way_not, ↓way_dec, pl11, lk3, ti3, lk5, ti5, lk9, ti9, lk22, ti22, lk29, ti29, lk30, ti30, lk32, ti32, lk65, ti65, lk66, ti66, lk68, ti68, texts, ARG, Nat.reduceAdd]
          generalize r0 = lz at *
          cases lz with
          | nil =>
            simp (maxSteps := 9000000) only [go_sem, scrubT, scrubH, Nat.reducePow, Nat.reduceLT, Int.reduceToNat, Int.reduceLE, Int.reduceLT, Int.reduceEq, Int.reduceAdd, Int.reduceSub, Int.reduceMul, Nat.reduceAdd, Nat.reduceMul, Nat.reduceSub, Nat.reduceLeDiff, Nat.reduceEqDiff, Int.reduceNe, ↓reduceIte, ↓way_true, ↓way_false, ↓way_not, ↓way_dec, pl11, lk3, ti3, lk5, ti5, lk9, ti9, lk22, ti22, lk29, ti29, lk30, ti30, lk32, ti32, lk65, ti65, lk66, ti66, lk68, ti68, List.map_nil]
            refine some_ ⟨c, 0, 0, u0⟩ _ _ rfl rfl rfl ?_
            rw [ho]; simp [rest, takeJ, hj]
          | cons x y =>
            have hp0 : ((0 : Int) < (((y.map fun s => [D.val (Value.string s)]).length + 1 : Nat) : Int)) = True := eq_true (by omega)
            simp (maxSteps := 9000000) only [go_sem, scrubT, scrubH, Nat.reducePow, Nat.reduceLT, Int.reduceToNat, Int.reduceLE, Int.reduceLT, Int.reduceEq, Int.reduceAdd, Int.reduceSub, Int.reduceMul, Nat.reduceAdd, Nat.reduceMul, Nat.reduceSub, Nat.reduceLeDiff, Nat.reduceEqDiff, Int.reduceNe, ↓reduceIte, ↓way_true, ↓way_false, ↓way_not, ↓way_dec, pl11, lk3, ti3, lk5, ti5, lk9, ti9, lk22, ti22, lk29, ti29, lk30, ti30, lk32, ti32, lk65, ti65, lk66, ti66, lk68, ti68, List.map_cons, hp0]
            refine none_ _ _ rfl rfl rfl ?_
            rw [ho]; simp [rest, takeJ, hj]
end Go.Proofs.YthhcbgdngmajlaaDoor
