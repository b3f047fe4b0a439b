/- The codes of instructions: names and forms, as the program finds them. No statement of the seat stands here. -/
import Derived.Test.YthhcbgdngmajlaaDoorAmT
import Derived.Test.YthhcbgdngmajlaaDoorAmC
set_option linter.unusedSimpArgs false
set_option linter.unusedSectionVars false
set_option maxRecDepth 100000
namespace Go.Proofs.YthhcbgdngmajlaaDoor
open Go Go.AM
variable [Env]

abbrev B (l : List UInt8) : ByteArray := ⟨l.toArray⟩
abbrev vi (n : Int) : V := .d (.val (.int .i64 n))
abbrev vs (s : ByteArray) : V := .d (.val (.string s))
abbrev vb (b : Bool) : V := .d (.val (.bool b))
abbrev vu16 (n : Int) : V := .d (.val (.int .u16 n))

/-- Names and forms of codes without sides. -/
def single (c : Int) : ByteArray × Int :=
  if c = 0 then (B [108, 100, 46, 105, 109, 109], 1) else
  if c = 1 then (B [108, 100, 120, 46, 105, 109, 109], 1) else
  if c = 2 then (B [115, 116], 3) else
  if c = 3 then (B [115, 116, 120], 3) else
  if c = 5 then (B [106, 97], 4) else
  if c = 6 then (B [114, 101, 116, 46, 107], 1) else
  if c = 7 then (B [116, 97, 120], 0) else
  if c = 22 then (B [114, 101, 116, 46, 97], 0) else
  if c = 32 then (B [108, 100, 46, 97, 98, 115], 2) else
  if c = 96 then (B [108, 100, 46, 109, 101, 109], 3) else
  if c = 97 then (B [108, 100, 120, 46, 109, 101, 109], 3) else
  if c = 128 then (B [108, 100, 46, 108, 101, 110], 0) else
  if c = 129 then (B [108, 100, 120, 46, 108, 101, 110], 0) else
  if c = 132 then (B [110, 101, 103], 0) else
  if c = 135 then (B [116, 120, 97], 0) else (B [], -1)

set_option maxHeartbeats 4000000 in
theorem pc51 (c : Int) : PC Tryd.prog 51 [] [vu16 c] (fun r h => h = [] ∧ r = .tup [vs (single c).1, vi (single c).2]) := by
  refine PC.go 300 [] TTok rfl Tryd.func51 (by kernel_rfl) rfl Tryd.ntmps51 (rs := [.tmp 2, .tmp 3]) rfl rfl rfl (by kernel_rfl) ?_
  intro Q hQ
  simp (maxSteps := 9000000) only [go_sem, scrubT, scrubH, Nat.reducePow, Nat.reduceLT, Int.reduceToNat, Int.reduceLE, Int.reduceLT, Int.reduceEq, Int.reduceAdd, Int.reduceSub, Int.reduceMul, Nat.reduceAdd, Nat.reduceMul, Nat.reduceSub, Nat.reduceLeDiff, Nat.reduceEqDiff, Int.reduceNe, ↓reduceIte, ↓way_true, ↓way_false, ↓way_not, ↓way_dec, lk29, ti29]
  subst hQ
  simp only [retQ, ares, aress, ares1, lkp, Option.getD_some, Nat.reduceEqDiff, ↓reduceIte, true_and, lk29, ti29]
  repeat' first
    | refine ⟨fun h => ?_, fun h => ?_⟩
    | (simp [single, *]; done)

/-- Rows of names by the high half of a code. -/
def reck : List ByteArray := [B [97, 100, 100], B [115, 117, 98], B [109, 117, 108], B [100, 105, 118], B [111, 114], B [97, 110, 100], B [108, 115, 104], B [114, 115, 104], B [], B [], B [120, 111, 114], B [], B [], B [], B [], B []]
def tsts : List ByteArray := [B [], B [106, 101, 113], B [106, 103, 116], B [106, 103, 101], B [106, 115, 101, 116], B [], B [], B [], B [], B [], B [], B [], B [], B [], B [], B []]
abbrev rowV (l : List ByteArray) : V := .rp (l.map fun s => .val (.string s))

set_option maxHeartbeats 4000000 in
theorem pc66 : PC Tryd.prog 66 [] [] (fun r h => h = [] ∧ r = rowV reck) := by
  refine PC.frz (Q := fun r h => r = .ptr 2 0 ∧ h = [(2, .cells (reck.map fun s => vs s))]) ?_ ?_
  · refine PC.go 300 [] TTok rfl Tryd.func66 (by kernel_rfl) rfl Tryd.ntmps66 (rs := [.tmp 0]) rfl rfl rfl (by kernel_rfl) ?_
    intro Q hQ
    simp (maxSteps := 9000000) only [go_sem, scrubT, scrubH, Nat.reducePow, Nat.reduceLT, Int.reduceToNat, Int.reduceLE, Int.reduceLT, Int.reduceEq, Int.reduceAdd, Int.reduceSub, Int.reduceMul, Nat.reduceAdd, Nat.reduceMul, Nat.reduceSub, Nat.reduceLeDiff, Nat.reduceEqDiff, Int.reduceNe, ↓reduceIte, ↓way_true, ↓way_false, ↓way_not, ↓way_dec, lk9, ti9, lk125, ti125]
    subst hQ
    simp only [retQ, ares, aress, ares1, lkp, Option.getD_some, Nat.reduceEqDiff, ↓reduceIte, true_and, lk9, ti9, lk125, ti125]
    rfl
  · rintro r h ⟨rfl, rfl⟩
    exact .inr ⟨2, _, _, rfl, rfl, trivial, ⟨.inl rfl, trivial⟩, rfl, rfl⟩
set_option maxHeartbeats 4000000 in
theorem pc67 : PC Tryd.prog 67 [] [] (fun r h => h = [] ∧ r = rowV tsts) := by
  refine PC.frz (Q := fun r h => r = .ptr 2 0 ∧ h = [(2, .cells (tsts.map fun s => vs s))]) ?_ ?_
  · refine PC.go 300 [] TTok rfl Tryd.func67 (by kernel_rfl) rfl Tryd.ntmps67 (rs := [.tmp 0]) rfl rfl rfl (by kernel_rfl) ?_
    intro Q hQ
    simp (maxSteps := 9000000) only [go_sem, scrubT, scrubH, Nat.reducePow, Nat.reduceLT, Int.reduceToNat, Int.reduceLE, Int.reduceLT, Int.reduceEq, Int.reduceAdd, Int.reduceSub, Int.reduceMul, Nat.reduceAdd, Nat.reduceMul, Nat.reduceSub, Nat.reduceLeDiff, Nat.reduceEqDiff, Int.reduceNe, ↓reduceIte, ↓way_true, ↓way_false, ↓way_not, ↓way_dec, lk9, ti9, lk125, ti125]
    subst hQ
    simp only [retQ, ares, aress, ares1, lkp, Option.getD_some, Nat.reduceEqDiff, ↓reduceIte, true_and, lk9, ti9, lk125, ti125]
    rfl
  · rintro r h ⟨rfl, rfl⟩
    exact .inr ⟨2, _, _, rfl, rfl, trivial, ⟨.inl rfl, trivial⟩, rfl, rfl⟩

def lo (c : Int) : Int := IntKind.u16.wrap ((BitVec.ofInt IntKind.u16.bits c &&& BitVec.ofInt IntKind.u16.bits 15).toNat)
def sided (c : Int) : Option (List ByteArray) × ByteArray × Int :=
  if lo c = 4 then (some reck, B [46, 107], 1) else
  if lo c = 12 then (some reck, B [46, 120], 0) else
  if lo c = 5 then (some tsts, B [46, 107], 5) else
  if lo c = 13 then (some tsts, B [46, 120], 6) else (none, B [], -1)
def optRow : Option (List ByteArray) → V
  | some l => rowV l
  | none => .d (.val (.pointer none))

set_option maxHeartbeats 4000000 in
theorem pc52 (c : Int) : PC Tryd.prog 52 [] [vu16 c] (fun r h => h = [] ∧ r = .tup [optRow (sided c).1, vs (sided c).2.1, vi (sided c).2.2]) := by
  refine PC.go 300 [] TTok rfl Tryd.func52 (by kernel_rfl) rfl Tryd.ntmps52 (rs := [.tmp 2, .tmp 3, .tmp 4]) rfl rfl rfl (by kernel_rfl) ?_
  intro Q hQ
  simp (maxSteps := 9000000) only [go_sem, scrubT, scrubH, Nat.reducePow, Nat.reduceLT, Int.reduceToNat, Int.reduceLE, Int.reduceLT, Int.reduceEq, Int.reduceAdd, Int.reduceSub, Int.reduceMul, Nat.reduceAdd, Nat.reduceMul, Nat.reduceSub, Nat.reduceLeDiff, Nat.reduceEqDiff, Int.reduceNe, ↓reduceIte, ↓way_true, ↓way_false, ↓way_not, ↓way_dec, lk29, ti29]
  refine ⟨fun h1 => ?_, fun h1 => ⟨fun h2 => ?_, fun h2 => ⟨fun h3 => ?_, fun h3 => ⟨fun h4 => ?_, fun h4 => ?_⟩⟩⟩⟩
  · refine leaf.call1 300 [] TTok rfl (pc66) rfl rfl rfl rfl rfl rfl rfl (by kernel_rfl) ?_
    rintro r h' ⟨rfl, rfl⟩
    refine ⟨rfl, ?_⟩
    simp (maxSteps := 9000000) only [go_sem, scrubT, scrubH, Nat.reducePow, Nat.reduceLT, Int.reduceToNat, Int.reduceLE, Int.reduceLT, Int.reduceEq, Int.reduceAdd, Int.reduceSub, Int.reduceMul, Nat.reduceAdd, Nat.reduceMul, Nat.reduceSub, Nat.reduceLeDiff, Nat.reduceEqDiff, Int.reduceNe, ↓reduceIte, ↓way_true, ↓way_false, ↓way_not, ↓way_dec, lk29, ti29]
    subst hQ
    simp only [retQ, ares, aress, ares1, lkp, Option.getD_some, Nat.reduceEqDiff, ↓reduceIte, true_and, lk29, ti29]
    rw [show sided c = _ from if_pos h1]; rfl
  · refine leaf.call1 300 [] TTok rfl (pc66) rfl rfl rfl rfl rfl rfl rfl (by kernel_rfl) ?_
    rintro r h' ⟨rfl, rfl⟩
    refine ⟨rfl, ?_⟩
    simp (maxSteps := 9000000) only [go_sem, scrubT, scrubH, Nat.reducePow, Nat.reduceLT, Int.reduceToNat, Int.reduceLE, Int.reduceLT, Int.reduceEq, Int.reduceAdd, Int.reduceSub, Int.reduceMul, Nat.reduceAdd, Nat.reduceMul, Nat.reduceSub, Nat.reduceLeDiff, Nat.reduceEqDiff, Int.reduceNe, ↓reduceIte, ↓way_true, ↓way_false, ↓way_not, ↓way_dec, lk29, ti29]
    subst hQ
    simp only [retQ, ares, aress, ares1, lkp, Option.getD_some, Nat.reduceEqDiff, ↓reduceIte, true_and, lk29, ti29]
    rw [show sided c = _ from (if_neg h1).trans (if_pos h2)]; rfl
  · refine leaf.call1 300 [] TTok rfl (pc67) rfl rfl rfl rfl rfl rfl rfl (by kernel_rfl) ?_
    rintro r h' ⟨rfl, rfl⟩
    refine ⟨rfl, ?_⟩
    simp (maxSteps := 9000000) only [go_sem, scrubT, scrubH, Nat.reducePow, Nat.reduceLT, Int.reduceToNat, Int.reduceLE, Int.reduceLT, Int.reduceEq, Int.reduceAdd, Int.reduceSub, Int.reduceMul, Nat.reduceAdd, Nat.reduceMul, Nat.reduceSub, Nat.reduceLeDiff, Nat.reduceEqDiff, Int.reduceNe, ↓reduceIte, ↓way_true, ↓way_false, ↓way_not, ↓way_dec, lk29, ti29]
    subst hQ
    simp only [retQ, ares, aress, ares1, lkp, Option.getD_some, Nat.reduceEqDiff, ↓reduceIte, true_and, lk29, ti29]
    rw [show sided c = _ from (if_neg h1).trans ((if_neg h2).trans (if_pos h3))]; rfl
  · refine leaf.call1 300 [] TTok rfl (pc67) rfl rfl rfl rfl rfl rfl rfl (by kernel_rfl) ?_
    rintro r h' ⟨rfl, rfl⟩
    refine ⟨rfl, ?_⟩
    simp (maxSteps := 9000000) only [go_sem, scrubT, scrubH, Nat.reducePow, Nat.reduceLT, Int.reduceToNat, Int.reduceLE, Int.reduceLT, Int.reduceEq, Int.reduceAdd, Int.reduceSub, Int.reduceMul, Nat.reduceAdd, Nat.reduceMul, Nat.reduceSub, Nat.reduceLeDiff, Nat.reduceEqDiff, Int.reduceNe, ↓reduceIte, ↓way_true, ↓way_false, ↓way_not, ↓way_dec, lk29, ti29]
    subst hQ
    simp only [retQ, ares, aress, ares1, lkp, Option.getD_some, Nat.reduceEqDiff, ↓reduceIte, true_and, lk29, ti29]
    rw [show sided c = _ from (if_neg h1).trans ((if_neg h2).trans ((if_neg h3).trans (if_pos h4)))]; rfl
  · subst hQ
    simp only [retQ, ares, aress, ares1, lkp, Option.getD_some, Nat.reduceEqDiff, ↓reduceIte, true_and, lk29, ti29]
    rw [show sided c = _ from (if_neg h1).trans ((if_neg h2).trans ((if_neg h3).trans (if_neg h4)))]; rfl

theorem sided_len {c : Int} {l : List ByteArray} {s : ByteArray} {f : Int} (h : sided c = (some l, s, f)) : l.length = 16 := by
  unfold sided at h
  split at h
  · cases h; rfl
  · split at h
    · cases h; rfl
    · split at h
      · cases h; rfl
      · split at h
        · cases h; rfl
        · cases h

/-- A code's high half. -/
def hi (c : Int) : Int := c.fdiv (2 ^ min 4 IntKind.u16.bits)
theorem hi_eq (c : Int) : hi c = c / 16 := by
  have : min 4 IntKind.u16.bits = 4 := rfl
  simp only [hi, this]
  rw [Int.fdiv_eq_ediv_of_nonneg _ (by decide)]
  rfl
theorem drop_get {l : List ByteArray} {n : Nat} {s : ByteArray} (h : l[n]? = some s) : (List.drop (n * 1) (l.map fun s => D.val (.string s)))[0]? = some (.val (.string s)) := by
  rw [Nat.mul_one, List.getElem?_drop, List.getElem?_map]
  simp [h]

/-- A code's form. -/
def form (c : Int) : Int :=
  if 0 ≤ (single c).2 ∨ 256 ≤ c then (single c).2 else
  match sided c with
  | (some l, _, f) => if l.getD (hi c).toNat (B []) = B [] then -1 else f
  | (none, _, _) => -1

theorem hi_bounds {c : Int} (h0 : 0 ≤ c) (h1 : ¬ 256 ≤ c) : 0 ≤ hi c ∧ hi c < 16 := by rw [hi_eq]; omega

set_option maxHeartbeats 4000000 in
theorem pc25 (c : Int) (h0 : 0 ≤ c) : PC Tryd.prog 25 [] [vu16 c] (fun r h => h = [] ∧ r = vi (form c)) := by
  refine PC.go 300 [] TTok rfl Tryd.func25 (by kernel_rfl) rfl Tryd.ntmps25 (rs := [.tmp 2]) rfl rfl rfl (by kernel_rfl) ?_
  intro Q hQ
  simp (maxSteps := 9000000) only [go_sem, scrubT, scrubH, Nat.reducePow, Nat.reduceLT, Int.reduceToNat, Int.reduceLE, Int.reduceLT, Int.reduceEq, Int.reduceAdd, Int.reduceSub, Int.reduceMul, Nat.reduceAdd, Nat.reduceMul, Nat.reduceSub, Nat.reduceLeDiff, Nat.reduceEqDiff, Int.reduceNe, ↓reduceIte, ↓way_true, ↓way_false, ↓way_not, ↓way_dec, lk9, ti9, lk29, ti29, lk91, ti91, lk125, ti125]
  refine leaf.call1 300 [] TTok rfl (pc51 c) rfl rfl rfl rfl rfl rfl rfl (by kernel_rfl) ?_
  rintro r h' ⟨rfl, rfl⟩
  refine ⟨rfl, ?_⟩
  simp (maxSteps := 9000000) only [go_sem, scrubT, scrubH, Nat.reducePow, Nat.reduceLT, Int.reduceToNat, Int.reduceLE, Int.reduceLT, Int.reduceEq, Int.reduceAdd, Int.reduceSub, Int.reduceMul, Nat.reduceAdd, Nat.reduceMul, Nat.reduceSub, Nat.reduceLeDiff, Nat.reduceEqDiff, Int.reduceNe, ↓reduceIte, ↓way_true, ↓way_false, ↓way_not, ↓way_dec, lk9, ti9, lk29, ti29, lk91, ti91, lk125, ti125]
  refine ⟨fun h => ?_, fun h => ?_⟩
  · subst hQ
    simp only [retQ, ares, aress, ares1, lkp, Option.getD_some, Nat.reduceEqDiff, ↓reduceIte, true_and, lk9, ti9, lk29, ti29, lk91, ti91, lk125, ti125]
    rw [show form c = _ from if_pos (by simpa using h)]
  have h : ¬ (0 ≤ (single c).2 ∨ 256 ≤ c) := by simpa using h
  have hb := hi_bounds h0 (fun e => h (.inr e))
  refine leaf.call1 300 [] TTok rfl (pc52 c) rfl rfl rfl rfl rfl rfl rfl (by kernel_rfl) ?_
  rintro r h' ⟨rfl, rfl⟩
  refine ⟨rfl, ?_⟩
  have hf : form c = _ := if_neg h
  rcases hs : sided c with ⟨row, side, f⟩
  rw [hs] at hf
  cases row with
  | none =>
    simp (maxSteps := 9000000) only [optRow, go_sem, scrubT, scrubH, Nat.reducePow, Nat.reduceLT, Int.reduceToNat, Int.reduceLE, Int.reduceLT, Int.reduceEq, Int.reduceAdd, Int.reduceSub, Int.reduceMul, Nat.reduceAdd, Nat.reduceMul, Nat.reduceSub, Nat.reduceLeDiff, Nat.reduceEqDiff, Int.reduceNe, ↓reduceIte, ↓way_true, ↓way_false, ↓way_not, ↓way_dec, lk9, ti9, lk29, ti29, lk91, ti91, lk125, ti125]
    subst hQ
    simp only [retQ, ares, aress, ares1, lkp, Option.getD_some, Nat.reduceEqDiff, ↓reduceIte, true_and, lk9, ti9, lk29, ti29, lk91, ti91, lk125, ti125]
    rw [hf]
  | some l =>
    have hl := sided_len hs
    obtain ⟨s, hs2⟩ : ∃ s, l[(hi c).toNat]? = some s := ⟨_, List.getElem?_eq_getElem (by omega)⟩
    have hg := drop_get hs2
    simp only [hi, IntKind.bits] at hg hb
    simp (maxSteps := 9000000) only [optRow, go_sem, scrubT, scrubH, Nat.reducePow, Nat.reduceLT, Int.reduceToNat, Int.reduceLE, Int.reduceLT, Int.reduceEq, Int.reduceAdd, Int.reduceSub, Int.reduceMul, Nat.reduceAdd, Nat.reduceMul, Nat.reduceSub, Nat.reduceLeDiff, Nat.reduceEqDiff, Int.reduceNe, ↓reduceIte, ↓way_true, ↓way_false, ↓way_not, ↓way_dec, lk9, ti9, lk29, ti29, lk91, ti91, lk125, ti125, hg]
    refine ⟨hb, fun _ => ⟨fun h9 => ?_, fun h9 => ?_⟩⟩
    · subst hQ
      simp only [retQ, ares, aress, ares1, lkp, Option.getD_some, Nat.reduceEqDiff, ↓reduceIte, true_and, lk9, ti9, lk29, ti29, lk91, ti91, lk125, ti125]
      rw [hf]
      simp only [List.getD_eq_getElem?_getD, hs2, Option.getD_some]
      rw [if_pos (by simpa using h9)]
    · subst hQ
      simp only [retQ, ares, aress, ares1, lkp, Option.getD_some, Nat.reduceEqDiff, ↓reduceIte, true_and, lk9, ti9, lk29, ti29, lk91, ti91, lk125, ti125]
      rw [hf]
      simp only [List.getD_eq_getElem?_getD, hs2, Option.getD_some]
      rw [if_neg (by simpa using h9)]

/-- A code's name. -/
def name (c : Int) : ByteArray × Bool :=
  if 0 ≤ (single c).2 ∨ 256 ≤ c then ((single c).1, decide (0 ≤ (single c).2)) else
  match sided c with
  | (some l, s, _) => if l.getD (hi c).toNat (B []) = B [] then (B [], false) else (l.getD (hi c).toNat (B []) ++ s, true)
  | (none, _, _) => (B [], false)

theorem side_small {c : Int} {l : List ByteArray} {s : ByteArray} {f : Int} (h : sided c = (some l, s, f)) : s.size = 2 ∧ ∀ x ∈ l, x.size ≤ 4 := by
  unfold sided at h
  split at h
  · cases h; exact ⟨rfl, by decide⟩
  · split at h
    · cases h; exact ⟨rfl, by decide⟩
    · split at h
      · cases h; exact ⟨rfl, by decide⟩
      · split at h
        · cases h; exact ⟨rfl, by decide⟩
        · cases h

set_option maxHeartbeats 4000000 in
theorem pc41 (c : Int) (h0 : 0 ≤ c) : PC Tryd.prog 41 [] [vu16 c] (fun r h => h = [] ∧ r = .tup [vs (name c).1, vb (name c).2]) := by
  refine PC.go 300 [] TTok rfl Tryd.func41 (by kernel_rfl) rfl Tryd.ntmps41 (rs := [.tmp 2, .tmp 3]) rfl rfl rfl (by kernel_rfl) ?_
  intro Q hQ
  simp (maxSteps := 9000000) only [go_sem, scrubT, scrubH, Nat.reducePow, Nat.reduceLT, Int.reduceToNat, Int.reduceLE, Int.reduceLT, Int.reduceEq, Int.reduceAdd, Int.reduceSub, Int.reduceMul, Nat.reduceAdd, Nat.reduceMul, Nat.reduceSub, Nat.reduceLeDiff, Nat.reduceEqDiff, Int.reduceNe, ↓reduceIte, ↓way_true, ↓way_false, ↓way_not, ↓way_dec, lk9, ti9, lk29, ti29, lk91, ti91, lk125, ti125]
  refine leaf.call1 300 [] TTok rfl (pc51 c) rfl rfl rfl rfl rfl rfl rfl (by kernel_rfl) ?_
  rintro r h' ⟨rfl, rfl⟩
  refine ⟨rfl, ?_⟩
  simp (maxSteps := 9000000) only [go_sem, scrubT, scrubH, Nat.reducePow, Nat.reduceLT, Int.reduceToNat, Int.reduceLE, Int.reduceLT, Int.reduceEq, Int.reduceAdd, Int.reduceSub, Int.reduceMul, Nat.reduceAdd, Nat.reduceMul, Nat.reduceSub, Nat.reduceLeDiff, Nat.reduceEqDiff, Int.reduceNe, ↓reduceIte, ↓way_true, ↓way_false, ↓way_not, ↓way_dec, lk9, ti9, lk29, ti29, lk91, ti91, lk125, ti125]
  refine ⟨fun h => ?_, fun h => ?_⟩
  · subst hQ
    simp only [retQ, ares, aress, ares1, lkp, Option.getD_some, Nat.reduceEqDiff, ↓reduceIte, true_and, lk9, ti9, lk29, ti29, lk91, ti91, lk125, ti125]
    rw [show name c = _ from if_pos (by simpa using h)]
  have h : ¬ (0 ≤ (single c).2 ∨ 256 ≤ c) := by simpa using h
  have hb := hi_bounds h0 (fun e => h (.inr e))
  refine leaf.call1 300 [] TTok rfl (pc52 c) rfl rfl rfl rfl rfl rfl rfl (by kernel_rfl) ?_
  rintro r h' ⟨rfl, rfl⟩
  refine ⟨rfl, ?_⟩
  have hf : name c = _ := if_neg h
  rcases hs : sided c with ⟨row, side, f⟩
  rw [hs] at hf
  cases row with
  | none =>
    simp (maxSteps := 9000000) only [optRow, go_sem, scrubT, scrubH, Nat.reducePow, Nat.reduceLT, Int.reduceToNat, Int.reduceLE, Int.reduceLT, Int.reduceEq, Int.reduceAdd, Int.reduceSub, Int.reduceMul, Nat.reduceAdd, Nat.reduceMul, Nat.reduceSub, Nat.reduceLeDiff, Nat.reduceEqDiff, Int.reduceNe, ↓reduceIte, ↓way_true, ↓way_false, ↓way_not, ↓way_dec, lk9, ti9, lk29, ti29, lk91, ti91, lk125, ti125]
    subst hQ
    simp only [retQ, ares, aress, ares1, lkp, Option.getD_some, Nat.reduceEqDiff, ↓reduceIte, true_and, lk9, ti9, lk29, ti29, lk91, ti91, lk125, ti125]
    rw [hf]
  | some l =>
    have hl := sided_len hs
    obtain ⟨s, hs2⟩ : ∃ s, l[(hi c).toNat]? = some s := ⟨_, List.getElem?_eq_getElem (by omega)⟩
    have hsm := side_small hs
    have hs4 := hsm.2 s (List.mem_of_getElem? hs2)
    have hg := drop_get hs2
    simp only [hi, IntKind.bits] at hg hb
    simp (maxSteps := 9000000) only [optRow, go_sem, scrubT, scrubH, Nat.reducePow, Nat.reduceLT, Int.reduceToNat, Int.reduceLE, Int.reduceLT, Int.reduceEq, Int.reduceAdd, Int.reduceSub, Int.reduceMul, Nat.reduceAdd, Nat.reduceMul, Nat.reduceSub, Nat.reduceLeDiff, Nat.reduceEqDiff, Int.reduceNe, ↓reduceIte, ↓way_true, ↓way_false, ↓way_not, ↓way_dec, lk9, ti9, lk29, ti29, lk91, ti91, lk125, ti125, hg]
    refine ⟨hb, fun _ => ⟨fun h9 => ?_, fun h9 => ⟨hb, fun _ => ⟨by unfold LMAX; omega, fun _ => ?_⟩⟩⟩⟩
    · subst hQ
      simp only [retQ, ares, aress, ares1, lkp, Option.getD_some, Nat.reduceEqDiff, ↓reduceIte, true_and, lk9, ti9, lk29, ti29, lk91, ti91, lk125, ti125]
      rw [hf]
      simp only [List.getD_eq_getElem?_getD, hs2, Option.getD_some]
      rw [if_pos (by simpa using h9)]
    · subst hQ
      simp only [retQ, ares, aress, ares1, lkp, Option.getD_some, Nat.reduceEqDiff, ↓reduceIte, true_and, lk9, ti9, lk29, ti29, lk91, ti91, lk125, ti125]
      rw [hf]
      simp only [List.getD_eq_getElem?_getD, hs2, Option.getD_some]
      rw [if_neg (by simpa using h9)]

/-- An instruction. -/
structure In where
  code : Int
  jt : Int
  jf : Int
  k : Int
deriving DecidableEq
def In.row (x : In) : List D := [.val (.int .u16 x.code), .val (.int .u8 x.jt), .val (.int .u8 x.jf), .val (.int .u32 x.k)]
/-- Numbers in their bounds. -/
structure In.ok (x : In) : Prop where
  c0 : 0 ≤ x.code
  c1 : x.code < 65536
  t0 : 0 ≤ x.jt
  t1 : x.jt < 256
  f0 : 0 ≤ x.jf
  f1 : x.jf < 256
  k0 : 0 ≤ x.k
  k1 : x.k < 4294967296
/-- Without what does not count. -/
def bare (x : In) : In :=
  let f := form x.code
  let y : In := if 0 ≤ f ∧ f ≠ 5 ∧ f ≠ 6 then { x with jt := 0, jf := 0 } else x
  if f = 0 ∨ f = 6 then { y with k := 0 } else y

set_option maxHeartbeats 4000000 in
theorem pc20 (x : In) (h0 : 0 ≤ x.code) : PC Tryd.prog 20 [] [.dagg x.row] (fun r h => h = [] ∧ r = .dagg (bare x).row) := by
  refine PC.pure ?_
  refine PC.go 300 [] TTok rfl Tryd.func20 (by kernel_rfl) rfl Tryd.ntmps20 (rs := [.cell 2 32]) rfl rfl rfl (by kernel_rfl) ?_
  intro Q hQ
  simp (maxSteps := 9000000) only [go_sem, scrubT, scrubH, Nat.reducePow, Nat.reduceLT, Int.reduceToNat, Int.reduceLE, Int.reduceLT, Int.reduceEq, Int.reduceAdd, Int.reduceSub, Int.reduceMul, Nat.reduceAdd, Nat.reduceMul, Nat.reduceSub, Nat.reduceLeDiff, Nat.reduceEqDiff, Int.reduceNe, ↓reduceIte, ↓way_true, ↓way_false, ↓way_not, ↓way_dec, lk3, ti3, lk5, ti5, lk29, ti29, lk30, ti30, lk32, ti32, In.row]
  refine leaf.call1 300 [] TTok rfl (pc25 x.code h0) rfl rfl rfl rfl rfl rfl rfl (by kernel_rfl) ?_
  rintro r h' ⟨rfl, rfl⟩
  refine ⟨rfl, ?_⟩
  simp (maxSteps := 9000000) only [go_sem, scrubT, scrubH, Nat.reducePow, Nat.reduceLT, Int.reduceToNat, Int.reduceLE, Int.reduceLT, Int.reduceEq, Int.reduceAdd, Int.reduceSub, Int.reduceMul, Nat.reduceAdd, Nat.reduceMul, Nat.reduceSub, Nat.reduceLeDiff, Nat.reduceEqDiff, Int.reduceNe, ↓reduceIte, ↓way_true, ↓way_false, ↓way_not, ↓way_dec, lk3, ti3, lk5, ti5, lk29, ti29, lk30, ti30, lk32, ti32]
  have fin : ∀ (a b c d : Int) (t : List (Nat × V)) (h : List (Nat × Ob)), lkp 2 t = some (.ptr 2 0) → lkp 2 h = some (.cells [.d (.val (.int .u16 a)), .d (.val (.int .u8 b)), .d (.val (.int .u8 c)), .d (.val (.int .u32 d))]) → ⟨a, b, c, d⟩ = bare x → Q .ret { n := 27, t := t, h := h } := by
    intro a b c d t h e1 e2 e3
    subst hQ
    simp only [retQ, ares, aress, ares1, lkp, Option.getD_some, Nat.reduceEqDiff, ↓reduceIte, true_and, lk3, ti3, lk5, ti5, lk29, ti29, lk30, ti30, lk32, ti32, e1, e2, aload, TypeDesc.isRow]
    rw [← e3]
    exact ⟨rfl, rfl⟩
  refine ⟨fun h1 => ⟨fun h2 => ?_, fun h2 => ?_⟩, fun h1 => ⟨fun h2 => ?_, fun h2 => ?_⟩⟩ <;> refine fin _ _ _ _ _ _ rfl rfl ?_ <;> simp at h1 h2 <;> unfold bare <;> simp only <;> split <;> split <;> first | rfl | (exfalso; omega)
end Go.Proofs.YthhcbgdngmajlaaDoor
