/- A number of a line, and an instruction of it, as the program reads them. No statement of the seat stands here. -/
import Derived.Test.YthhcbgdngmajlaaDoorAsm7
import Derived.Test.YthhcbgdngmajlaaDoorAsm8
set_option linter.unusedSimpArgs false
set_option linter.unusedSectionVars false
set_option maxRecDepth 100000
namespace Go.Proofs.YthhcbgdngmajlaaDoor
open Go Go.AM
variable [SE]
abbrev vu8 (n : Int) : V := .d (.val (.int .u8 n))

/-- The number that a text is, if it is one, and at most so great. -/
def numOf (most : Nat) (s : ByteArray) : Option Nat :=
  match Lib.parseUintB 32 s.data.toList with
  | .ok u => if u ≤ most ∧ dec u = s then some u else none
  | _ => none

theorem parseM_le : ∀ (l : List UInt8) (M acc u : Nat), acc ≤ M → Lib.parseUintM M acc l = .ok u → u ≤ M
  | [], M, acc, u, h, e => by simp [Lib.parseUintM] at e; omega
  | c :: r, M, acc, u, h, e => by
    unfold Lib.parseUintM at e
    split at e
    · split at e
      · cases e
      · split at e
        · cases e
        · exact parseM_le r M _ u (by omega) e
    · cases e
theorem parse_le {l : List UInt8} {u : Nat} (h : Lib.parseUintB 32 l = .ok u) : u ≤ 4294967295 := by
  unfold Lib.parseUintB at h
  split at h
  · cases h
  · exact parseM_le l _ 0 u (by omega) h

/-- What reading a number does: where it is put, and what is left of the line. -/
def fieldQ (most : Nat) (l : List ByteArray) (mk : Int → List V) (r : V) (h : List (Nat × Ob)) : Prop :=
  ∃ ok d', r = vb ok ∧ h = [(ARG, .cells [texts l.tail]), (ARG + 1, .cells (mk d'))] ∧ (match l with | [] => ok = false | s :: _ => (match numOf most s with | some u => ok = true ∧ d' = u | none => ok = false))

set_option maxHeartbeats 8000000 in
theorem pc31 (l : List ByteArray) (hl : ∀ s ∈ l, s.size ≤ 281474976710656) (a b c d : Int) : PC Tryd.prog 31 [(ARG, .cells [texts l]), (ARG + 1, .cells [vu16 a, vu8 b, vu8 c, vu32 d])] [.ptr ARG 0, .ptr (ARG + 1) 3]
    (fieldQ 4294967295 l fun d' => [vu16 a, vu8 b, vu8 c, vu32 d']) := by
  refine PC.keepH [ARG, ARG + 1] ?_
  cases l with
  | nil =>
    refine PC.go 300 [] TTok rfl Tryd.func31 (by kernel_rfl) rfl Tryd.ntmps31 (rs := [.tmp 4]) rfl rfl rfl (by kernel_rfl) ?_
    intro Q hQ
    simp (maxSteps := 9000000) only [go_sem, scrubT, scrubH, Nat.reducePow, Nat.reduceLT, Int.reduceToNat, Int.reduceLE, Int.reduceLT, Int.reduceEq, Int.reduceAdd, Int.reduceSub, Int.reduceMul, Nat.reduceAdd, Nat.reduceMul, Nat.reduceSub, Nat.reduceLeDiff, Nat.reduceEqDiff, Int.reduceNe, ↓reduceIte, ↓way_true, ↓way_false, ↓way_not, ↓way_dec, lk3, ti3, lk9, ti9, lk22, ti22, lk30, ti30, lk72, ti72, lk78, ti78, texts, List.map_nil, ARG, Nat.reduceAdd]
    subst hQ
    simp only [retQ, ares, aress, ares1, lkp, Option.getD_some, Nat.reduceEqDiff, ↓reduceIte, true_and, lk3, ti3, lk9, ti9, lk22, ti22, lk30, ti30, lk72, ti72, lk78, ti78]
    exact ⟨rfl, false, d, rfl, rfl, rfl⟩
  | cons s l =>
    refine PC.go 300 [] TTok rfl Tryd.func31 (by kernel_rfl) rfl Tryd.ntmps31 (rs := [.tmp 4]) rfl rfl rfl (by kernel_rfl) ?_
    intro Q hQ
    have n0 : ((((l.map fun s => [D.val (Value.string s)]).length + 1 : Nat) : Int) = 0) = False := eq_false (by omega)
    have fin : ∀ (ok : Bool) (d' : Int) (t : List (Nat × V)) (h : List (Nat × Ob)), lkp 4 t = some (vb ok) → lkp 100000 h = some (.cells [.d (.sl 1 (List.take (((List.map (fun s => [D.val (Value.string s)]) l).length + 1) - 1) (List.map (fun s => [D.val (Value.string s)]) l)))]) → lkp 100001 h = some (.cells ((fun d' => [vu16 a, vu8 b, vu8 c, vu32 d']) d')) → (match numOf 4294967295 s with | some u => ok = true ∧ d' = u | none => ok = false) → Q .ret { n := 49, t := t, h := h } := by
      intro ok d' t h e1 e2 e3 e4
      subst hQ
      simp only [retQ, ares, aress, ares1, lkp, Option.getD_some, Nat.reduceEqDiff, ↓reduceIte, true_and, lk3, ti3, lk9, ti9, lk22, ti22, lk30, ti30, lk72, ti72, lk78, ti78, e1, AM.keepH, ARG, Nat.reduceAdd, e2, e3, refsH, Ob.refs, refsL, V.refs, List.append_nil, subL, domL, inL, Bool.and_eq_true]
      refine ⟨by simp [← look_isSome, e2, e3], ok, d', rfl, ?_, e4⟩
      simp [texts, List.take_of_length_le, ARG]
    simp (maxSteps := 9000000) only [go_sem, scrubT, scrubH, Nat.reducePow, Nat.reduceLT, Int.reduceToNat, Int.reduceLE, Int.reduceLT, Int.reduceEq, Int.reduceAdd, Int.reduceSub, Int.reduceMul, Nat.reduceAdd, Nat.reduceMul, Nat.reduceSub, Nat.reduceLeDiff, Nat.reduceEqDiff, Int.reduceNe, ↓reduceIte, ↓way_true, ↓way_false, ↓way_not, ↓way_dec, lk3, ti3, lk9, ti9, lk22, ti22, lk30, ti30, lk72, ti72, lk78, ti78, texts, List.map_cons, ARG, Nat.reduceAdd, n0]
    refine ⟨by omega, fun _ => ⟨⟨by omega, by omega⟩, fun _ => ?_⟩⟩
    refine leaf.call1 300 [] TTok rfl (pc58 s (hl s (by simp))) rfl rfl rfl rfl rfl rfl rfl (by kernel_rfl) ?_
    rintro r h' ⟨rfl, hr⟩
    refine ⟨rfl, ?_⟩
    unfold PU at hr
    cases hp : Lib.parseUintB 32 s.data.toList with
    | ok u =>
      have hu := parse_le hp
      simp only [hp] at hr
      subst hr
      have hw : IntKind.u32.wrap (u : Int) = (u : Int) := wu32 (by omega) (by omega)
      have hw2 : IntKind.u64.wrap (u : Int) = (u : Int) := wu64 (by omega) (by omega)
      simp (maxSteps := 9000000) only [go_sem, scrubT, scrubH, Nat.reducePow, Nat.reduceLT, Int.reduceToNat, Int.reduceLE, Int.reduceLT, Int.reduceEq, Int.reduceAdd, Int.reduceSub, Int.reduceMul, Nat.reduceAdd, Nat.reduceMul, Nat.reduceSub, Nat.reduceLeDiff, Nat.reduceEqDiff, Int.reduceNe, ↓reduceIte, ↓way_true, ↓way_false, ↓way_not, ↓way_dec, lk3, ti3, lk9, ti9, lk22, ti22, lk30, ti30, lk72, ti72, lk78, ti78, hw, hw2]
      refine leaf.call1 300 [] TTok rfl (pc42 u (by omega)) rfl rfl rfl rfl rfl rfl rfl (by kernel_rfl) ?_
      rintro r h' ⟨rfl, rfl⟩
      refine ⟨rfl, ?_⟩
      simp (maxSteps := 9000000) only [go_sem, scrubT, scrubH, Nat.reducePow, Nat.reduceLT, Int.reduceToNat, Int.reduceLE, Int.reduceLT, Int.reduceEq, Int.reduceAdd, Int.reduceSub, Int.reduceMul, Nat.reduceAdd, Nat.reduceMul, Nat.reduceSub, Nat.reduceLeDiff, Nat.reduceEqDiff, Int.reduceNe, ↓reduceIte, ↓way_true, ↓way_false, ↓way_not, ↓way_dec, lk3, ti3, lk9, ti9, lk22, ti22, lk30, ti30, lk72, ti72, lk78, ti78]
      exact fin (decide (dec u = s)) u _ _ rfl rfl rfl (by
        unfold numOf; rw [hp]; simp only
        by_cases h : dec u = s
        · rw [if_pos ⟨by omega, h⟩]; simp [h]
        · rw [if_neg (fun x => h x.2)]; simp [h])
    | range =>
      simp only [hp] at hr
      obtain ⟨t, p, rfl⟩ := hr
      simp (maxSteps := 9000000) only [go_sem, scrubT, scrubH, Nat.reducePow, Nat.reduceLT, Int.reduceToNat, Int.reduceLE, Int.reduceLT, Int.reduceEq, Int.reduceAdd, Int.reduceSub, Int.reduceMul, Nat.reduceAdd, Nat.reduceMul, Nat.reduceSub, Nat.reduceLeDiff, Nat.reduceEqDiff, Int.reduceNe, ↓reduceIte, ↓way_true, ↓way_false, ↓way_not, ↓way_dec, lk3, ti3, lk9, ti9, lk22, ti22, lk30, ti30, lk72, ti72, lk78, ti78]
      exact fin false _ _ _ rfl rfl rfl (by unfold numOf; rw [hp])
    | _ =>
      simp only [hp] at hr
      obtain ⟨t, p, rfl⟩ := hr
      simp (maxSteps := 9000000) only [go_sem, scrubT, scrubH, Nat.reducePow, Nat.reduceLT, Int.reduceToNat, Int.reduceLE, Int.reduceLT, Int.reduceEq, Int.reduceAdd, Int.reduceSub, Int.reduceMul, Nat.reduceAdd, Nat.reduceMul, Nat.reduceSub, Nat.reduceLeDiff, Nat.reduceEqDiff, Int.reduceNe, ↓reduceIte, ↓way_true, ↓way_false, ↓way_not, ↓way_dec, lk3, ti3, lk9, ti9, lk22, ti22, lk30, ti30, lk72, ti72, lk78, ti78]
      exact fin false _ _ _ rfl rfl rfl (by unfold numOf; rw [hp])

set_option maxHeartbeats 8000000 in
theorem pc32 (l : List ByteArray) (hl : ∀ s ∈ l, s.size ≤ 281474976710656) (a b c d : Int) : PC Tryd.prog 32 [(ARG, .cells [texts l]), (ARG + 1, .cells [vu16 a, vu8 b, vu8 c, vu32 d])] [.ptr ARG 0, .ptr (ARG + 1) 1]
    (fieldQ 255 l fun d' => [vu16 a, vu8 d', vu8 c, vu32 d]) := by
  refine PC.keepH [ARG, ARG + 1] ?_
  cases l with
  | nil =>
    refine PC.go 300 [] TTok rfl Tryd.func32 (by kernel_rfl) rfl Tryd.ntmps32 (rs := [.tmp 4]) rfl rfl rfl (by kernel_rfl) ?_
    intro Q hQ
    simp (maxSteps := 9000000) only [go_sem, scrubT, scrubH, Nat.reducePow, Nat.reduceLT, Int.reduceToNat, Int.reduceLE, Int.reduceLT, Int.reduceEq, Int.reduceAdd, Int.reduceSub, Int.reduceMul, Nat.reduceAdd, Nat.reduceMul, Nat.reduceSub, Nat.reduceLeDiff, Nat.reduceEqDiff, Int.reduceNe, ↓reduceIte, ↓way_true, ↓way_false, ↓way_not, ↓way_dec, lk3, ti3, lk5, ti5, lk9, ti9, lk22, ti22, lk30, ti30, lk72, ti72, lk78, ti78, texts, List.map_nil, ARG, Nat.reduceAdd]
    subst hQ
    simp only [retQ, ares, aress, ares1, lkp, Option.getD_some, Nat.reduceEqDiff, ↓reduceIte, true_and, lk3, ti3, lk5, ti5, lk9, ti9, lk22, ti22, lk30, ti30, lk72, ti72, lk78, ti78]
    exact ⟨rfl, false, b, rfl, rfl, rfl⟩
  | cons s l =>
    refine PC.go 300 [] TTok rfl Tryd.func32 (by kernel_rfl) rfl Tryd.ntmps32 (rs := [.tmp 4]) rfl rfl rfl (by kernel_rfl) ?_
    intro Q hQ
    have n0 : ((((l.map fun s => [D.val (Value.string s)]).length + 1 : Nat) : Int) = 0) = False := eq_false (by omega)
    have fin : ∀ (ok : Bool) (d' : Int) (t : List (Nat × V)) (h : List (Nat × Ob)), lkp 4 t = some (vb ok) → lkp 100000 h = some (.cells [.d (.sl 1 (List.take (((List.map (fun s => [D.val (Value.string s)]) l).length + 1) - 1) (List.map (fun s => [D.val (Value.string s)]) l)))]) → lkp 100001 h = some (.cells ((fun d' => [vu16 a, vu8 d', vu8 c, vu32 d]) d')) → (match numOf 255 s with | some u => ok = true ∧ d' = u | none => ok = false) → Q .ret { n := 49, t := t, h := h } := by
      intro ok d' t h e1 e2 e3 e4
      subst hQ
      simp only [retQ, ares, aress, ares1, lkp, Option.getD_some, Nat.reduceEqDiff, ↓reduceIte, true_and, lk3, ti3, lk5, ti5, lk9, ti9, lk22, ti22, lk30, ti30, lk72, ti72, lk78, ti78, e1, AM.keepH, ARG, Nat.reduceAdd, e2, e3, refsH, Ob.refs, refsL, V.refs, List.append_nil, subL, domL, inL, Bool.and_eq_true]
      refine ⟨by simp [← look_isSome, e2, e3], ok, d', rfl, ?_, e4⟩
      simp [texts, List.take_of_length_le, ARG]
    simp (maxSteps := 9000000) only [go_sem, scrubT, scrubH, Nat.reducePow, Nat.reduceLT, Int.reduceToNat, Int.reduceLE, Int.reduceLT, Int.reduceEq, Int.reduceAdd, Int.reduceSub, Int.reduceMul, Nat.reduceAdd, Nat.reduceMul, Nat.reduceSub, Nat.reduceLeDiff, Nat.reduceEqDiff, Int.reduceNe, ↓reduceIte, ↓way_true, ↓way_false, ↓way_not, ↓way_dec, lk3, ti3, lk5, ti5, lk9, ti9, lk22, ti22, lk30, ti30, lk72, ti72, lk78, ti78, texts, List.map_cons, ARG, Nat.reduceAdd, n0]
    refine ⟨by omega, fun _ => ⟨⟨by omega, by omega⟩, fun _ => ?_⟩⟩
    refine leaf.call1 300 [] TTok rfl (pc58 s (hl s (by simp))) rfl rfl rfl rfl rfl rfl rfl (by kernel_rfl) ?_
    rintro r h' ⟨rfl, hr⟩
    refine ⟨rfl, ?_⟩
    unfold PU at hr
    cases hp : Lib.parseUintB 32 s.data.toList with
    | ok u =>
      have hu := parse_le hp
      simp only [hp] at hr
      subst hr
      by_cases hle : u ≤ 255
      · have hw : IntKind.u8.wrap (u : Int) = (u : Int) := wu8 (by omega) (by omega)
        have hw2 : IntKind.u64.wrap (u : Int) = (u : Int) := wu64 (by omega) (by omega)
        simp (maxSteps := 9000000) only [go_sem, scrubT, scrubH, Nat.reducePow, Nat.reduceLT, Int.reduceToNat, Int.reduceLE, Int.reduceLT, Int.reduceEq, Int.reduceAdd, Int.reduceSub, Int.reduceMul, Nat.reduceAdd, Nat.reduceMul, Nat.reduceSub, Nat.reduceLeDiff, Nat.reduceEqDiff, Int.reduceNe, ↓reduceIte, ↓way_true, ↓way_false, ↓way_not, ↓way_dec, lk3, ti3, lk5, ti5, lk9, ti9, lk22, ti22, lk30, ti30, lk72, ti72, lk78, ti78, hw, hw2]
        refine leaf.call1 300 [] TTok rfl (pc42 u (by omega)) rfl rfl rfl rfl rfl rfl rfl (by kernel_rfl) ?_
        rintro r h' ⟨rfl, rfl⟩
        refine ⟨rfl, ?_⟩
        simp (maxSteps := 9000000) only [go_sem, scrubT, scrubH, Nat.reducePow, Nat.reduceLT, Int.reduceToNat, Int.reduceLE, Int.reduceLT, Int.reduceEq, Int.reduceAdd, Int.reduceSub, Int.reduceMul, Nat.reduceAdd, Nat.reduceMul, Nat.reduceSub, Nat.reduceLeDiff, Nat.reduceEqDiff, Int.reduceNe, ↓reduceIte, ↓way_true, ↓way_false, ↓way_not, ↓way_dec, lk3, ti3, lk5, ti5, lk9, ti9, lk22, ti22, lk30, ti30, lk72, ti72, lk78, ti78]
        exact fin (decide (dec u = s)) u _ _ rfl rfl rfl (by
          unfold numOf; rw [hp]; simp only
          by_cases h : dec u = s
          · rw [if_pos ⟨by omega, h⟩]; simp [h]
          · rw [if_neg (fun x => h x.2)]; simp [h])
      · have hw : (IntKind.u64.wrap (IntKind.u8.wrap (u : Int)) = (u : Int)) = False := eq_false (by rw [IntKind.wrap_u64, IntKind.wrap_u8]; omega)
        simp (maxSteps := 9000000) only [go_sem, scrubT, scrubH, Nat.reducePow, Nat.reduceLT, Int.reduceToNat, Int.reduceLE, Int.reduceLT, Int.reduceEq, Int.reduceAdd, Int.reduceSub, Int.reduceMul, Nat.reduceAdd, Nat.reduceMul, Nat.reduceSub, Nat.reduceLeDiff, Nat.reduceEqDiff, Int.reduceNe, ↓reduceIte, ↓way_true, ↓way_false, ↓way_not, ↓way_dec, lk3, ti3, lk5, ti5, lk9, ti9, lk22, ti22, lk30, ti30, lk72, ti72, lk78, ti78, hw]
        exact fin false _ _ _ rfl rfl rfl (by unfold numOf; rw [hp]; simp only; rw [if_neg (by omega)]; trivial)
    | range =>
      simp only [hp] at hr
      obtain ⟨t, p, rfl⟩ := hr
      simp (maxSteps := 9000000) only [go_sem, scrubT, scrubH, Nat.reducePow, Nat.reduceLT, Int.reduceToNat, Int.reduceLE, Int.reduceLT, Int.reduceEq, Int.reduceAdd, Int.reduceSub, Int.reduceMul, Nat.reduceAdd, Nat.reduceMul, Nat.reduceSub, Nat.reduceLeDiff, Nat.reduceEqDiff, Int.reduceNe, ↓reduceIte, ↓way_true, ↓way_false, ↓way_not, ↓way_dec, lk3, ti3, lk5, ti5, lk9, ti9, lk22, ti22, lk30, ti30, lk72, ti72, lk78, ti78]
      exact fin false _ _ _ rfl rfl rfl (by unfold numOf; rw [hp])
    | _ =>
      simp only [hp] at hr
      obtain ⟨t, p, rfl⟩ := hr
      simp (maxSteps := 9000000) only [go_sem, scrubT, scrubH, Nat.reducePow, Nat.reduceLT, Int.reduceToNat, Int.reduceLE, Int.reduceLT, Int.reduceEq, Int.reduceAdd, Int.reduceSub, Int.reduceMul, Nat.reduceAdd, Nat.reduceMul, Nat.reduceSub, Nat.reduceLeDiff, Nat.reduceEqDiff, Int.reduceNe, ↓reduceIte, ↓way_true, ↓way_false, ↓way_not, ↓way_dec, lk3, ti3, lk5, ti5, lk9, ti9, lk22, ti22, lk30, ti30, lk72, ti72, lk78, ti78]
      exact fin false _ _ _ rfl rfl rfl (by unfold numOf; rw [hp])

set_option maxHeartbeats 8000000 in
theorem pc32b (l : List ByteArray) (hl : ∀ s ∈ l, s.size ≤ 281474976710656) (a b c d : Int) : PC Tryd.prog 32 [(ARG, .cells [texts l]), (ARG + 1, .cells [vu16 a, vu8 b, vu8 c, vu32 d])] [.ptr ARG 0, .ptr (ARG + 1) 2]
    (fieldQ 255 l fun d' => [vu16 a, vu8 b, vu8 d', vu32 d]) := by
  refine PC.keepH [ARG, ARG + 1] ?_
  cases l with
  | nil =>
    refine PC.go 300 [] TTok rfl Tryd.func32 (by kernel_rfl) rfl Tryd.ntmps32 (rs := [.tmp 4]) rfl rfl rfl (by kernel_rfl) ?_
    intro Q hQ
    simp (maxSteps := 9000000) only [go_sem, scrubT, scrubH, Nat.reducePow, Nat.reduceLT, Int.reduceToNat, Int.reduceLE, Int.reduceLT, Int.reduceEq, Int.reduceAdd, Int.reduceSub, Int.reduceMul, Nat.reduceAdd, Nat.reduceMul, Nat.reduceSub, Nat.reduceLeDiff, Nat.reduceEqDiff, Int.reduceNe, ↓reduceIte, ↓way_true, ↓way_false, ↓way_not, ↓way_dec, lk3, ti3, lk5, ti5, lk9, ti9, lk22, ti22, lk30, ti30, lk72, ti72, lk78, ti78, texts, List.map_nil, ARG, Nat.reduceAdd]
    subst hQ
    simp only [retQ, ares, aress, ares1, lkp, Option.getD_some, Nat.reduceEqDiff, ↓reduceIte, true_and, lk3, ti3, lk5, ti5, lk9, ti9, lk22, ti22, lk30, ti30, lk72, ti72, lk78, ti78]
    exact ⟨rfl, false, c, rfl, rfl, rfl⟩
  | cons s l =>
    refine PC.go 300 [] TTok rfl Tryd.func32 (by kernel_rfl) rfl Tryd.ntmps32 (rs := [.tmp 4]) rfl rfl rfl (by kernel_rfl) ?_
    intro Q hQ
    have n0 : ((((l.map fun s => [D.val (Value.string s)]).length + 1 : Nat) : Int) = 0) = False := eq_false (by omega)
    have fin : ∀ (ok : Bool) (d' : Int) (t : List (Nat × V)) (h : List (Nat × Ob)), lkp 4 t = some (vb ok) → lkp 100000 h = some (.cells [.d (.sl 1 (List.take (((List.map (fun s => [D.val (Value.string s)]) l).length + 1) - 1) (List.map (fun s => [D.val (Value.string s)]) l)))]) → lkp 100001 h = some (.cells ((fun d' => [vu16 a, vu8 b, vu8 d', vu32 d]) d')) → (match numOf 255 s with | some u => ok = true ∧ d' = u | none => ok = false) → Q .ret { n := 49, t := t, h := h } := by
      intro ok d' t h e1 e2 e3 e4
      subst hQ
      simp only [retQ, ares, aress, ares1, lkp, Option.getD_some, Nat.reduceEqDiff, ↓reduceIte, true_and, lk3, ti3, lk5, ti5, lk9, ti9, lk22, ti22, lk30, ti30, lk72, ti72, lk78, ti78, e1, AM.keepH, ARG, Nat.reduceAdd, e2, e3, refsH, Ob.refs, refsL, V.refs, List.append_nil, subL, domL, inL, Bool.and_eq_true]
      refine ⟨by simp [← look_isSome, e2, e3], ok, d', rfl, ?_, e4⟩
      simp [texts, List.take_of_length_le, ARG]
    simp (maxSteps := 9000000) only [go_sem, scrubT, scrubH, Nat.reducePow, Nat.reduceLT, Int.reduceToNat, Int.reduceLE, Int.reduceLT, Int.reduceEq, Int.reduceAdd, Int.reduceSub, Int.reduceMul, Nat.reduceAdd, Nat.reduceMul, Nat.reduceSub, Nat.reduceLeDiff, Nat.reduceEqDiff, Int.reduceNe, ↓reduceIte, ↓way_true, ↓way_false, ↓way_not, ↓way_dec, lk3, ti3, lk5, ti5, lk9, ti9, lk22, ti22, lk30, ti30, lk72, ti72, lk78, ti78, texts, List.map_cons, ARG, Nat.reduceAdd, n0]
    refine ⟨by omega, fun _ => ⟨⟨by omega, by omega⟩, fun _ => ?_⟩⟩
    refine leaf.call1 300 [] TTok rfl (pc58 s (hl s (by simp))) rfl rfl rfl rfl rfl rfl rfl (by kernel_rfl) ?_
    rintro r h' ⟨rfl, hr⟩
    refine ⟨rfl, ?_⟩
    unfold PU at hr
    cases hp : Lib.parseUintB 32 s.data.toList with
    | ok u =>
      have hu := parse_le hp
      simp only [hp] at hr
      subst hr
      by_cases hle : u ≤ 255
      · have hw : IntKind.u8.wrap (u : Int) = (u : Int) := wu8 (by omega) (by omega)
        have hw2 : IntKind.u64.wrap (u : Int) = (u : Int) := wu64 (by omega) (by omega)
        simp (maxSteps := 9000000) only [go_sem, scrubT, scrubH, Nat.reducePow, Nat.reduceLT, Int.reduceToNat, Int.reduceLE, Int.reduceLT, Int.reduceEq, Int.reduceAdd, Int.reduceSub, Int.reduceMul, Nat.reduceAdd, Nat.reduceMul, Nat.reduceSub, Nat.reduceLeDiff, Nat.reduceEqDiff, Int.reduceNe, ↓reduceIte, ↓way_true, ↓way_false, ↓way_not, ↓way_dec, lk3, ti3, lk5, ti5, lk9, ti9, lk22, ti22, lk30, ti30, lk72, ti72, lk78, ti78, hw, hw2]
        refine leaf.call1 300 [] TTok rfl (pc42 u (by omega)) rfl rfl rfl rfl rfl rfl rfl (by kernel_rfl) ?_
        rintro r h' ⟨rfl, rfl⟩
        refine ⟨rfl, ?_⟩
        simp (maxSteps := 9000000) only [go_sem, scrubT, scrubH, Nat.reducePow, Nat.reduceLT, Int.reduceToNat, Int.reduceLE, Int.reduceLT, Int.reduceEq, Int.reduceAdd, Int.reduceSub, Int.reduceMul, Nat.reduceAdd, Nat.reduceMul, Nat.reduceSub, Nat.reduceLeDiff, Nat.reduceEqDiff, Int.reduceNe, ↓reduceIte, ↓way_true, ↓way_false, ↓way_not, ↓way_dec, lk3, ti3, lk5, ti5, lk9, ti9, lk22, ti22, lk30, ti30, lk72, ti72, lk78, ti78]
        exact fin (decide (dec u = s)) u _ _ rfl rfl rfl (by
          unfold numOf; rw [hp]; simp only
          by_cases h : dec u = s
          · rw [if_pos ⟨by omega, h⟩]; simp [h]
          · rw [if_neg (fun x => h x.2)]; simp [h])
      · have hw : (IntKind.u64.wrap (IntKind.u8.wrap (u : Int)) = (u : Int)) = False := eq_false (by rw [IntKind.wrap_u64, IntKind.wrap_u8]; omega)
        simp (maxSteps := 9000000) only [go_sem, scrubT, scrubH, Nat.reducePow, Nat.reduceLT, Int.reduceToNat, Int.reduceLE, Int.reduceLT, Int.reduceEq, Int.reduceAdd, Int.reduceSub, Int.reduceMul, Nat.reduceAdd, Nat.reduceMul, Nat.reduceSub, Nat.reduceLeDiff, Nat.reduceEqDiff, Int.reduceNe, ↓reduceIte, ↓way_true, ↓way_false, ↓way_not, ↓way_dec, lk3, ti3, lk5, ti5, lk9, ti9, lk22, ti22, lk30, ti30, lk72, ti72, lk78, ti78, hw]
        exact fin false _ _ _ rfl rfl rfl (by unfold numOf; rw [hp]; simp only; rw [if_neg (by omega)]; trivial)
    | range =>
      simp only [hp] at hr
      obtain ⟨t, p, rfl⟩ := hr
      simp (maxSteps := 9000000) only [go_sem, scrubT, scrubH, Nat.reducePow, Nat.reduceLT, Int.reduceToNat, Int.reduceLE, Int.reduceLT, Int.reduceEq, Int.reduceAdd, Int.reduceSub, Int.reduceMul, Nat.reduceAdd, Nat.reduceMul, Nat.reduceSub, Nat.reduceLeDiff, Nat.reduceEqDiff, Int.reduceNe, ↓reduceIte, ↓way_true, ↓way_false, ↓way_not, ↓way_dec, lk3, ti3, lk5, ti5, lk9, ti9, lk22, ti22, lk30, ti30, lk72, ti72, lk78, ti78]
      exact fin false _ _ _ rfl rfl rfl (by unfold numOf; rw [hp])
    | _ =>
      simp only [hp] at hr
      obtain ⟨t, p, rfl⟩ := hr
      simp (maxSteps := 9000000) only [go_sem, scrubT, scrubH, Nat.reducePow, Nat.reduceLT, Int.reduceToNat, Int.reduceLE, Int.reduceLT, Int.reduceEq, Int.reduceAdd, Int.reduceSub, Int.reduceMul, Nat.reduceAdd, Nat.reduceMul, Nat.reduceSub, Nat.reduceLeDiff, Nat.reduceEqDiff, Int.reduceNe, ↓reduceIte, ↓way_true, ↓way_false, ↓way_not, ↓way_dec, lk3, ti3, lk5, ti5, lk9, ti9, lk22, ti22, lk30, ti30, lk72, ti72, lk78, ti78]
      exact fin false _ _ _ rfl rfl rfl (by unfold numOf; rw [hp])

end Go.Proofs.YthhcbgdngmajlaaDoor
