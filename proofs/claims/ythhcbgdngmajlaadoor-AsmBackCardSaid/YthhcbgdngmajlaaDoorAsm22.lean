/- The instruction of a line, as the document takes it. No statement of the seat stands here. -/
import Derived.Test.YthhcbgdngmajlaaDoorAsm10
import Derived.Test.YthhcbgdngmajlaaDoorAsm19
import Derived.Test.YthhcbgdngmajlaaDoorAsm21
set_option linter.unusedSimpArgs false
set_option linter.unusedSectionVars false
set_option maxRecDepth 100000
namespace Go.Proofs.YthhcbgdngmajlaaDoor
open Go Go.AM

theorem parts_L (s : ByteArray) : parts s = (splitL 32 s.data.toList).map fun l => ⟨l.toArray⟩ := splitB_L 32 s
theorem parts_texts (s : ByteArray) : textsOf (splitL 32 s.data.toList) = (parts s).map fun p => [.val (.string p)] := by
  rw [parts_L, List.map_map]; rfl
/-- Both take the same numbers. -/
theorem num_same {most : Nat} (hm : most < 4294967296) {s : ByteArray} {d : Int} {ok : Bool} (h : numR most s.data.toList d ok) : (match numOf most s with | some u => ok = true ∧ d = u | none => ok = false) := by
  unfold numR at h
  have hp : ∀ u, Lib.parseUintB 32 s.data.toList = .ok u ↔ s.data.toList ≠ [] ∧ s.data.toList.all isDig = true ∧ val 0 s.data.toList = u ∧ u ≤ 4294967295 := fun u => by
    unfold Lib.parseUintB
    by_cases hn : s.data.toList = []
    · rw [if_pos hn]; simp [hn]
    · rw [if_neg hn, parse_val _ (by decide) _ 0 (by decide)]
      simp [hn]
  have hd : ∀ u, dec u = s ↔ good s.data.toList ∧ val 0 s.data.toList = u := fun u => by
    rw [← dec_iff]
    unfold dec
    constructor
    · intro e; rw [← e]
    · intro e; rw [e]
  cases hu : numOf most s with
  | some u =>
    unfold numOf at hu
    split at hu
    · rename_i u' hq
      split at hu
      · rename_i h2
        cases hu
        obtain ⟨g1, g2⟩ := (hd u).1 h2.2
        rw [if_pos ⟨g1, good_len g1 (by omega), by omega⟩] at h
        exact ⟨h.1, by rw [h.2, g2]⟩
      · cases hu
    · cases hu
  | none =>
    by_cases hg : good s.data.toList ∧ s.data.toList.length ≤ 10 ∧ val 0 s.data.toList ≤ most
    · have h1 := (hp (val 0 s.data.toList)).2 ⟨hg.1.1, hg.1.2.1, rfl, by omega⟩
      have h2 := (hd (val 0 s.data.toList)).2 ⟨hg.1, rfl⟩
      unfold numOf at hu
      rw [h1] at hu
      simp only [if_pos (show val 0 s.data.toList ≤ most ∧ dec (val 0 s.data.toList) = s from ⟨hg.2.2, h2⟩)] at hu
      cases hu
    · rw [if_neg hg] at h; exact h
theorem numOf_le {most : Nat} {s : ByteArray} {u : Nat} (h : numOf most s = some u) : u ≤ most := by
  unfold numOf at h
  split at h
  · split at h
    · rename_i h2; cases h; exact h2.1
    · cases h
  · cases h
theorem takeJ_len {f : Int} (h5 : shJ f = true) : ∀ {m : List ByteArray}, m.length ≠ 2 → ∀ {a b : Nat}, takeJ f m ≠ some (a, b, []) := by
  intro m hm a b h
  unfold takeJ at h
  rw [if_pos h5] at h
  match m, h with
  | [x, y], _ => exact hm rfl
  | x :: y :: z :: r, h =>
    simp only at h
    split at h
    · cases h
    · cases h
variable [SE]

/-- What the document says of a line. -/
def optR : Option In → V
  | some x => .tup [.dagg x.row, vb true]
  | none => .tup [.dagg (⟨0, 0, 0, 0⟩ : In).row, vb false]
theorem pc33' (s : ByteArray) (hs : s.size ≤ 1000000) : PC Tryd.prog 33 [] [vs s] (fun r h => h = [] ∧ r = .d (.sl 1 ((parts s).map fun p => [.val (.string p)]))) := by
  rw [← parts_texts]; exact pc33 s hs

theorem pc36' (s : ByteArray) (most : Nat) (hm : most < 4294967296) : PC Tryd.prog 36 [] [vs s, vu64 most] (fun r h => h = [] ∧ ∃ d ok, r = .tup [vu32 d, vb ok] ∧ (match numOf most s with | some u => ok = true ∧ d = u | none => ok = false)) := by
  refine PC.mono (pc36 s most hm) ?_
  rintro r h ⟨rfl, d, ok, rfl, hn⟩
  exact ⟨rfl, d, ok, rfl, num_same hm hn⟩

def pl12 : List (Nat × Bool × Plan) := [(14, false, .take 0 (.take 1 (.take 2 (.take 3 (.alt 4 (.take 5 (.done)) (.fin))))))]
set_option maxHeartbeats 16000000 in
theorem pc12 (s : ByteArray) (hs : s.size ≤ 1000000) : PC Tryd.prog 12 [] [vs s] (fun r h => h = [] ∧ r = optR (oneOf s)) := by
  have hne := parts_ne s
  refine PC.pure ?_
  refine PC.go 300 pl12 TTok rfl Tryd.func12 (by kernel_rfl) rfl Tryd.ntmps12 (rs := [.cell 2 32, .tmp 3]) rfl rfl rfl (by kernel_rfl) ?_
  intro Q hQ
  simp (maxSteps := 9000000) only [go_sem, scrubT, scrubH, Nat.reducePow, Nat.reduceLT, Int.reduceToNat, Int.reduceLE, Int.reduceLT, Int.reduceEq, Int.reduceAdd, Int.reduceSub, Int.reduceMul, Nat.reduceAdd, Nat.reduceMul, Nat.reduceSub, Nat.reduceLeDiff, Nat.reduceEqDiff, Int.reduceNe, ↓reduceIte, ↓way_true, ↓way_false, ↓way_not, ↓way_dec, pl12, lk3, ti3, lk5, ti5, lk9, ti9, lk22, ti22, lk29, ti29, lk30, ti30, lk32, ti32, lk72, ti72]
  refine leaf.call1 300 pl12 TTok rfl (pc33' s hs) rfl rfl rfl rfl rfl rfl rfl (by kernel_rfl) ?_
  rintro r h' ⟨rfl, rfl⟩
  refine ⟨rfl, ?_⟩
  have ho : oneOf s = match parts s with
    | [] => none
    | p :: l => match codeOf p with
      | none => none
      | some c => match takeK (form c) l with
        | none => none
        | some (k, l) => match takeJ (form c) l with
          | none => none
          | some (a, b, l) => if l = [] then some ⟨c, a, b, k⟩ else none := rfl
  generalize parts s = ps at *
  match ps, hne with
  | p :: l, _ =>
  dsimp only at ho
  simp (maxSteps := 9000000) only [go_sem, scrubT, scrubH, Nat.reducePow, Nat.reduceLT, Int.reduceToNat, Int.reduceLE, Int.reduceLT, Int.reduceEq, Int.reduceAdd, Int.reduceSub, Int.reduceMul, Nat.reduceAdd, Nat.reduceMul, Nat.reduceSub, Nat.reduceLeDiff, Nat.reduceEqDiff, Int.reduceNe, ↓reduceIte, ↓way_true, ↓way_false, ↓way_not, ↓way_dec, pl12, lk3, ti3, lk5, ti5, lk9, ti9, lk22, ti22, lk29, ti29, lk30, ti30, lk32, ti32, lk72, ti72, List.map_cons]
  refine ⟨by omega, fun _ => ?_⟩
  refine leaf.call1 300 pl12 TTok rfl (pc34 p) rfl rfl rfl rfl rfl rfl rfl (by kernel_rfl) ?_
  rintro r h' ⟨rfl, rfl⟩
  refine ⟨rfl, ?_⟩
  have none_ : ∀ (t : List (Nat × V)) (h : List (Nat × Ob)), lkp 2 t = some (.ptr 2 0) → lkp 3 t = some (vb false) → lkp 2 h = some (.cells [vu16 0, vu8 0, vu8 0, vu32 0]) → oneOf s = none → Q .ret { n := 99, t := t, h := h } := by
    intro t h e1 e2 e3 e4
    subst hQ
    simp only [retQ, ares, aress, ares1, lkp, Option.getD_some, Nat.reduceEqDiff, ↓reduceIte, true_and, lk3, ti3, lk5, ti5, lk9, ti9, lk22, ti22, lk29, ti29, lk30, ti30, lk32, ti32, lk72, ti72, e1, e2, e3, e4, aload, TypeDesc.isRow]
    exact ⟨rfl, rfl⟩
  have some_ : ∀ (x : In) (t : List (Nat × V)) (h : List (Nat × Ob)), lkp 2 t = some (.ptr 2 0) → lkp 3 t = some (vb true) → lkp 2 h = some (.cells [vu16 x.code, vu8 x.jt, vu8 x.jf, vu32 x.k]) → oneOf s = some x → Q .ret { n := 99, t := t, h := h } := by
    intro x t h e1 e2 e3 e4
    subst hQ
    simp only [retQ, ares, aress, ares1, lkp, Option.getD_some, Nat.reduceEqDiff, ↓reduceIte, true_and, lk3, ti3, lk5, ti5, lk9, ti9, lk22, ti22, lk29, ti29, lk30, ti30, lk32, ti32, lk72, ti72, e1, e2, e3, e4, aload, TypeDesc.isRow]
    exact ⟨rfl, rfl⟩
  have htk : ∀ m : List ByteArray, List.take (m.length + 1 - 1) (m.map fun s => [D.val (Value.string s)]) = m.map fun s => [D.val (Value.string s)] := fun m => by simp [List.take_of_length_le]
  cases hc : codeOf p with
  | none =>
    simp (maxSteps := 9000000) only [optC, go_sem, scrubT, scrubH, Nat.reducePow, Nat.reduceLT, Int.reduceToNat, Int.reduceLE, Int.reduceLT, Int.reduceEq, Int.reduceAdd, Int.reduceSub, Int.reduceMul, Nat.reduceAdd, Nat.reduceMul, Nat.reduceSub, Nat.reduceLeDiff, Nat.reduceEqDiff, Int.reduceNe, ↓reduceIte, ↓way_true, ↓way_false, ↓way_not, ↓way_dec, pl12, lk3, ti3, lk5, ti5, lk9, ti9, lk22, ti22, lk29, ti29, lk30, ti30, lk32, ti32, lk72, ti72, Int.toNat_natCast, List.length_map, htk]
    refine none_ _ _ rfl rfl rfl ?_
    rw [ho, hc]
  | some c =>
    rw [hc] at ho
    dsimp only at ho
    simp (maxSteps := 9000000) only [optC, go_sem, scrubT, scrubH, Nat.reducePow, Nat.reduceLT, Int.reduceToNat, Int.reduceLE, Int.reduceLT, Int.reduceEq, Int.reduceAdd, Int.reduceSub, Int.reduceMul, Nat.reduceAdd, Nat.reduceMul, Nat.reduceSub, Nat.reduceLeDiff, Nat.reduceEqDiff, Int.reduceNe, ↓reduceIte, ↓way_true, ↓way_false, ↓way_not, ↓way_dec, pl12, lk3, ti3, lk5, ti5, lk9, ti9, lk22, ti22, lk29, ti29, lk30, ti30, lk32, ti32, lk72, ti72, Int.toNat_natCast, List.length_map, htk]
    refine leaf.call1 300 pl12 TTok rfl (pc35 (c : Int) (by omega)) rfl rfl rfl rfl rfl rfl rfl (by kernel_rfl) ?_
    rintro r h' ⟨rfl, rfl⟩
    refine ⟨rfl, ?_⟩
    generalize form (c : Int) = f at *
    by_cases f0 : f = 0
    · have f6 : ¬ f = 6 := by omega
      have f5 : ¬ f = 5 := by omega
      have h0 : (f = 0) = True := eq_true (by omega)
      have h6 : (f = 6) = False := eq_false (by omega)
      have h5 : (f = 5) = False := eq_false (by omega)
      have tK : ∀ m, takeK f m = some (0, m) := fun m => by unfold takeK shK; simp [f0]
      have tJ : ∀ m, takeJ f m = some (0, 0, m) := fun m => by unfold takeJ shJ; simp [f5, f6]
      simp only [tK, tJ] at ho
      simp (maxSteps := 9000000) only [go_sem, scrubT, scrubH, Nat.reducePow, Nat.reduceLT, Int.reduceToNat, Int.reduceLE, Int.reduceLT, Int.reduceEq, Int.reduceAdd, Int.reduceSub, Int.reduceMul, Nat.reduceAdd, Nat.reduceMul, Nat.reduceSub, Nat.reduceLeDiff, Nat.reduceEqDiff, Int.reduceNe, ↓reduceIte, ↓way_true, ↓way_false, ↓way_not, ↓way_dec, pl12, lk3, ti3, lk5, ti5, lk9, ti9, lk22, ti22, lk29, ti29, lk30, ti30, lk32, ti32, lk72, ti72, h0, h5, h6, htk, Int.toNat_natCast, List.length_map]
      refine ⟨⟨by omega, by omega⟩, fun _ => ⟨fun hp => ?_, fun hp => ?_⟩⟩
      · have hne : ¬ l = [] := fun e => by subst e; simp at hp
        refine none_ _ _ rfl rfl rfl ?_
        rw [ho, if_neg hne]
      · have he : l = [] := List.length_eq_zero_iff.1 (by omega)
        refine some_ ⟨c, 0, 0, 0⟩ _ _ rfl rfl rfl ?_
        rw [ho, if_pos he]; rfl
    · by_cases f6 : f = 6
      · have f0' : ¬ f = 0 := f0
        have f5 : ¬ f = 5 := by omega
        have h0 : (f = 0) = False := eq_false (by omega)
        have h6 : (f = 6) = True := eq_true (by omega)
        have h5 : (f = 5) = False := eq_false (by omega)
        have tK : ∀ m, takeK f m = some (0, m) := fun m => by unfold takeK shK; simp [f6]
        have tJ : ∀ m, takeJ f m = (match m with | s :: s' :: r => (match numOf 255 s, numOf 255 s' with | some a, some b => some (a, b, r) | _, _ => none) | _ => none) := fun m => by unfold takeJ; rw [if_pos (by unfold shJ; simp [f6])]; rfl
        simp only [tK, tJ] at ho
        simp (maxSteps := 9000000) only [go_sem, scrubT, scrubH, Nat.reducePow, Nat.reduceLT, Int.reduceToNat, Int.reduceLE, Int.reduceLT, Int.reduceEq, Int.reduceAdd, Int.reduceSub, Int.reduceMul, Nat.reduceAdd, Nat.reduceMul, Nat.reduceSub, Nat.reduceLeDiff, Nat.reduceEqDiff, Int.reduceNe, ↓reduceIte, ↓way_true, ↓way_false, ↓way_not, ↓way_dec, pl12, lk3, ti3, lk5, ti5, lk9, ti9, lk22, ti22, lk29, ti29, lk30, ti30, lk32, ti32, lk72, ti72, h0, h5, h6, htk, Int.toNat_natCast, List.length_map]
        refine ⟨⟨by omega, by omega⟩, fun _ => ⟨fun hp => ?_, fun hp => ?_⟩⟩
        · obtain ⟨a, b, rfl⟩ : ∃ a b, l = [a, b] := by
            match l, hp with
            | [a, b], _ => exact ⟨a, b, rfl⟩
          simp (maxSteps := 9000000) only [go_sem, scrubT, scrubH, Nat.reducePow, Nat.reduceLT, Int.reduceToNat, Int.reduceLE, Int.reduceLT, Int.reduceEq, Int.reduceAdd, Int.reduceSub, Int.reduceMul, Nat.reduceAdd, Nat.reduceMul, Nat.reduceSub, Nat.reduceLeDiff, Nat.reduceEqDiff, Int.reduceNe, ↓reduceIte, ↓way_true, ↓way_false, ↓way_not, ↓way_dec, pl12, lk3, ti3, lk5, ti5, lk9, ti9, lk22, ti22, lk29, ti29, lk30, ti30, lk32, ti32, lk72, ti72, List.map_cons, List.map_nil, h0, h5, h6]
          refine leaf.call1 300 pl12 TTok rfl (pc36' a 255 (by omega)) rfl rfl rfl rfl rfl rfl rfl (by kernel_rfl) ?_
          rintro r h' ⟨rfl, d1, ok1, rfl, hn1⟩
          refine ⟨rfl, ?_⟩
          simp (maxSteps := 9000000) only [go_sem, scrubT, scrubH, Nat.reducePow, Nat.reduceLT, Int.reduceToNat, Int.reduceLE, Int.reduceLT, Int.reduceEq, Int.reduceAdd, Int.reduceSub, Int.reduceMul, Nat.reduceAdd, Nat.reduceMul, Nat.reduceSub, Nat.reduceLeDiff, Nat.reduceEqDiff, Int.reduceNe, ↓reduceIte, ↓way_true, ↓way_false, ↓way_not, ↓way_dec, pl12, lk3, ti3, lk5, ti5, lk9, ti9, lk22, ti22, lk29, ti29, lk30, ti30, lk32, ti32, lk72, ti72, List.map_cons, List.map_nil, h0, h5, h6]
          refine leaf.call1 300 pl12 TTok rfl (pc36' b 255 (by omega)) rfl rfl rfl rfl rfl rfl rfl (by kernel_rfl) ?_
          rintro r h' ⟨rfl, d2, ok2, rfl, hn2⟩
          refine ⟨rfl, ?_⟩
          cases ok1 with
          | false =>
            have ha : numOf 255 a = none := by
              cases ha : numOf 255 a with
              | none => rfl
              | some u => rw [ha] at hn1; cases hn1.1
            simp (maxSteps := 9000000) only [go_sem, scrubT, scrubH, Nat.reducePow, Nat.reduceLT, Int.reduceToNat, Int.reduceLE, Int.reduceLT, Int.reduceEq, Int.reduceAdd, Int.reduceSub, Int.reduceMul, Nat.reduceAdd, Nat.reduceMul, Nat.reduceSub, Nat.reduceLeDiff, Nat.reduceEqDiff, Int.reduceNe, ↓reduceIte, ↓way_true, ↓way_false, ↓way_not, ↓way_dec, pl12, lk3, ti3, lk5, ti5, lk9, ti9, lk22, ti22, lk29, ti29, lk30, ti30, lk32, ti32, lk72, ti72, h0, h5, h6]
            refine none_ _ _ rfl rfl rfl ?_
            rw [ho]; simp only [tJ, ha]
          | true =>
            obtain ⟨u1, ha, rfl⟩ : ∃ u, numOf 255 a = some u ∧ d1 = (u : Int) := by
              cases ha : numOf 255 a with
              | none => rw [ha] at hn1; cases hn1
              | some u => rw [ha] at hn1; exact ⟨u, rfl, hn1.2⟩
            have hu1 := numOf_le ha
            have hw1 : IntKind.u8.wrap (u1 : Int) = (u1 : Int) := wu8 (by omega) (by omega)
            cases ok2 with
            | false =>
              have hb : numOf 255 b = none := by
                cases hb : numOf 255 b with
                | none => rfl
                | some u => rw [hb] at hn2; cases hn2.1
              simp (maxSteps := 9000000) only [go_sem, scrubT, scrubH, Nat.reducePow, Nat.reduceLT, Int.reduceToNat, Int.reduceLE, Int.reduceLT, Int.reduceEq, Int.reduceAdd, Int.reduceSub, Int.reduceMul, Nat.reduceAdd, Nat.reduceMul, Nat.reduceSub, Nat.reduceLeDiff, Nat.reduceEqDiff, Int.reduceNe, ↓reduceIte, ↓way_true, ↓way_false, ↓way_not, ↓way_dec, pl12, lk3, ti3, lk5, ti5, lk9, ti9, lk22, ti22, lk29, ti29, lk30, ti30, lk32, ti32, lk72, ti72, h0, h5, h6]
              refine none_ _ _ rfl rfl rfl ?_
              rw [ho]; simp only [tJ, ha, hb]
            | true =>
              obtain ⟨u2, hb, rfl⟩ : ∃ u, numOf 255 b = some u ∧ d2 = (u : Int) := by
                cases hb : numOf 255 b with
                | none => rw [hb] at hn2; cases hn2
                | some u => rw [hb] at hn2; exact ⟨u, rfl, hn2.2⟩
              have hu2 := numOf_le hb
              have hw2 : IntKind.u8.wrap (u2 : Int) = (u2 : Int) := wu8 (by omega) (by omega)
              simp (maxSteps := 9000000) only [go_sem, scrubT, scrubH, Nat.reducePow, Nat.reduceLT, Int.reduceToNat, Int.reduceLE, Int.reduceLT, Int.reduceEq, Int.reduceAdd, Int.reduceSub, Int.reduceMul, Nat.reduceAdd, Nat.reduceMul, Nat.reduceSub, Nat.reduceLeDiff, Nat.reduceEqDiff, Int.reduceNe, ↓reduceIte, ↓way_true, ↓way_false, ↓way_not, ↓way_dec, pl12, lk3, ti3, lk5, ti5, lk9, ti9, lk22, ti22, lk29, ti29, lk30, ti30, lk32, ti32, lk72, ti72, h0, h5, h6, hw1, hw2]
              refine some_ ⟨c, u1, u2, 0⟩ _ _ rfl rfl rfl ?_
              rw [ho]; simp only [tJ, ha, hb]; rfl
        · refine none_ _ _ rfl rfl rfl ?_
          rw [ho]
          split
          · rfl
          · rename_i x a b m hm
            split
            · rename_i hm2
              subst hm2
              exact absurd hm (by rw [← tJ]; exact takeJ_len (f := f) (by unfold shJ; simp [f6]) (by omega))
            · rfl
      · have yK : ∀ m, takeK f m = (match m with | [] => none | s :: r => (numOf 4294967295 s).map fun u => (u, r)) := fun m => by unfold takeK; rw [if_pos (by unfold shK; simp [f0, f6])]; rfl
        have h0 : (f = 0) = False := eq_false (by omega)
        have h6 : (f = 6) = False := eq_false (by omega)
        simp (maxSteps := 9000000) only [go_sem, scrubT, scrubH, Nat.reducePow, Nat.reduceLT, Int.reduceToNat, Int.reduceLE, Int.reduceLT, Int.reduceEq, Int.reduceAdd, Int.reduceSub, Int.reduceMul, Nat.reduceAdd, Nat.reduceMul, Nat.reduceSub, Nat.reduceLeDiff, Nat.reduceEqDiff, Int.reduceNe, ↓reduceIte, ↓way_true, ↓way_false, ↓way_not, ↓way_dec, pl12, lk3, ti3, lk5, ti5, lk9, ti9, lk22, ti22, lk29, ti29, lk30, ti30, lk32, ti32, lk72, ti72, h0, h6, htk, Int.toNat_natCast, List.length_map]
        refine ⟨⟨by omega, by omega⟩, fun _ => ⟨fun hp => ?_, fun hp => ?_⟩⟩
        · have he : l = [] := List.length_eq_zero_iff.1 (by omega)
          refine none_ _ _ rfl rfl rfl ?_
          rw [ho, yK, he]
        · obtain ⟨q, l1, rfl⟩ : ∃ q l1, l = q :: l1 := by
            match l, hp with
            | q :: l1, _ => exact ⟨q, l1, rfl⟩
          simp (maxSteps := 9000000) only [go_sem, scrubT, scrubH, Nat.reducePow, Nat.reduceLT, Int.reduceToNat, Int.reduceLE, Int.reduceLT, Int.reduceEq, Int.reduceAdd, Int.reduceSub, Int.reduceMul, Nat.reduceAdd, Nat.reduceMul, Nat.reduceSub, Nat.reduceLeDiff, Nat.reduceEqDiff, Int.reduceNe, ↓reduceIte, ↓way_true, ↓way_false, ↓way_not, ↓way_dec, pl12, lk3, ti3, lk5, ti5, lk9, ti9, lk22, ti22, lk29, ti29, lk30, ti30, lk32, ti32, lk72, ti72, List.map_cons, h0, h6]
          repeat (first | refine ⟨by omega, fun _ => ?_⟩ | refine ⟨in_i64 (by omega) (by omega), fun _ => ?_⟩ | refine ⟨by unfold LMAX; omega, fun _ => ?_⟩)
          refine leaf.call1 300 pl12 TTok rfl (pc36' q 4294967295 (by omega)) rfl rfl rfl rfl rfl rfl rfl (by kernel_rfl) ?_
          rintro r h' ⟨rfl, d0, ok0, rfl, hn0⟩
          refine ⟨rfl, ?_⟩
          cases ok0 with
          | false =>
            have hq : numOf 4294967295 q = none := by
              cases hq : numOf 4294967295 q with
              | none => rfl
              | some u => rw [hq] at hn0; cases hn0.1
            simp (maxSteps := 9000000) only [go_sem, scrubT, scrubH, Nat.reducePow, Nat.reduceLT, Int.reduceToNat, Int.reduceLE, Int.reduceLT, Int.reduceEq, Int.reduceAdd, Int.reduceSub, Int.reduceMul, Nat.reduceAdd, Nat.reduceMul, Nat.reduceSub, Nat.reduceLeDiff, Nat.reduceEqDiff, Int.reduceNe, ↓reduceIte, ↓way_true, ↓way_false, ↓way_not, ↓way_dec, pl12, lk3, ti3, lk5, ti5, lk9, ti9, lk22, ti22, lk29, ti29, lk30, ti30, lk32, ti32, lk72, ti72, h0, h6]
            refine none_ _ _ rfl rfl rfl ?_
            rw [ho, yK]; simp only [hq, Option.map_none]
          | true =>
            obtain ⟨u0, hq, rfl⟩ : ∃ u, numOf 4294967295 q = some u ∧ d0 = (u : Int) := by
              cases hq : numOf 4294967295 q with
              | none => rw [hq] at hn0; cases hn0
              | some u => rw [hq] at hn0; exact ⟨u, rfl, hn0.2⟩
            have hk : takeK f (q :: l1) = some (u0, l1) := by rw [yK]; simp only [hq, Option.map_some]
            rw [hk] at ho
            dsimp only at ho
            by_cases f5 : f = 5
            · have h5 : (f = 5) = True := eq_true f5
              have tJ : ∀ m, takeJ f m = (match m with | s :: s' :: r => (match numOf 255 s, numOf 255 s' with | some a, some b => some (a, b, r) | _, _ => none) | _ => none) := fun m => by unfold takeJ; rw [if_pos (by unfold shJ; simp [f5])]; rfl
              simp (maxSteps := 9000000) only [go_sem, scrubT, scrubH, Nat.reducePow, Nat.reduceLT, Int.reduceToNat, Int.reduceLE, Int.reduceLT, Int.reduceEq, Int.reduceAdd, Int.reduceSub, Int.reduceMul, Nat.reduceAdd, Nat.reduceMul, Nat.reduceSub, Nat.reduceLeDiff, Nat.reduceEqDiff, Int.reduceNe, ↓reduceIte, ↓way_true, ↓way_false, ↓way_not, ↓way_dec, pl12, lk3, ti3, lk5, ti5, lk9, ti9, lk22, ti22, lk29, ti29, lk30, ti30, lk32, ti32, lk72, ti72, List.map_cons, h0, h6, h5, htk, Int.toNat_natCast, List.length_map]
              refine ⟨⟨by omega, by omega⟩, fun _ => ⟨fun hp2 => ?_, fun hp2 => ?_⟩⟩
              · obtain ⟨a, b, rfl⟩ : ∃ a b, l1 = [a, b] := by
                  match l1, hp2 with
                  | [a, b], _ => exact ⟨a, b, rfl⟩
                simp (maxSteps := 9000000) only [go_sem, scrubT, scrubH, Nat.reducePow, Nat.reduceLT, Int.reduceToNat, Int.reduceLE, Int.reduceLT, Int.reduceEq, Int.reduceAdd, Int.reduceSub, Int.reduceMul, Nat.reduceAdd, Nat.reduceMul, Nat.reduceSub, Nat.reduceLeDiff, Nat.reduceEqDiff, Int.reduceNe, ↓reduceIte, ↓way_true, ↓way_false, ↓way_not, ↓way_dec, pl12, lk3, ti3, lk5, ti5, lk9, ti9, lk22, ti22, lk29, ti29, lk30, ti30, lk32, ti32, lk72, ti72, List.map_cons, List.map_nil, h0, h5, h6]
                refine leaf.call1 300 pl12 TTok rfl (pc36' a 255 (by omega)) rfl rfl rfl rfl rfl rfl rfl (by kernel_rfl) ?_
                rintro r h' ⟨rfl, d1, ok1, rfl, hn1⟩
                refine ⟨rfl, ?_⟩
                simp (maxSteps := 9000000) only [go_sem, scrubT, scrubH, Nat.reducePow, Nat.reduceLT, Int.reduceToNat, Int.reduceLE, Int.reduceLT, Int.reduceEq, Int.reduceAdd, Int.reduceSub, Int.reduceMul, Nat.reduceAdd, Nat.reduceMul, Nat.reduceSub, Nat.reduceLeDiff, Nat.reduceEqDiff, Int.reduceNe, ↓reduceIte, ↓way_true, ↓way_false, ↓way_not, ↓way_dec, pl12, lk3, ti3, lk5, ti5, lk9, ti9, lk22, ti22, lk29, ti29, lk30, ti30, lk32, ti32, lk72, ti72, List.map_cons, List.map_nil, h0, h5, h6]
                refine leaf.call1 300 pl12 TTok rfl (pc36' b 255 (by omega)) rfl rfl rfl rfl rfl rfl rfl (by kernel_rfl) ?_
                rintro r h' ⟨rfl, d2, ok2, rfl, hn2⟩
                refine ⟨rfl, ?_⟩
                cases ok1 with
                | false =>
                  have ha : numOf 255 a = none := by
                    cases ha : numOf 255 a with
                    | none => rfl
                    | some u => rw [ha] at hn1; cases hn1.1
                  simp (maxSteps := 9000000) only [go_sem, scrubT, scrubH, Nat.reducePow, Nat.reduceLT, Int.reduceToNat, Int.reduceLE, Int.reduceLT, Int.reduceEq, Int.reduceAdd, Int.reduceSub, Int.reduceMul, Nat.reduceAdd, Nat.reduceMul, Nat.reduceSub, Nat.reduceLeDiff, Nat.reduceEqDiff, Int.reduceNe, ↓reduceIte, ↓way_true, ↓way_false, ↓way_not, ↓way_dec, pl12, lk3, ti3, lk5, ti5, lk9, ti9, lk22, ti22, lk29, ti29, lk30, ti30, lk32, ti32, lk72, ti72, h0, h5, h6]
                  refine none_ _ _ rfl rfl rfl ?_
                  rw [ho]; simp only [tJ, ha]
                | true =>
                  obtain ⟨u1, ha, rfl⟩ : ∃ u, numOf 255 a = some u ∧ d1 = (u : Int) := by
                    cases ha : numOf 255 a with
                    | none => rw [ha] at hn1; cases hn1
                    | some u => rw [ha] at hn1; exact ⟨u, rfl, hn1.2⟩
                  have hu1 := numOf_le ha
                  have hw1 : IntKind.u8.wrap (u1 : Int) = (u1 : Int) := wu8 (by omega) (by omega)
                  cases ok2 with
                  | false =>
                    have hb : numOf 255 b = none := by
                      cases hb : numOf 255 b with
                      | none => rfl
                      | some u => rw [hb] at hn2; cases hn2.1
                    simp (maxSteps := 9000000) only [go_sem, scrubT, scrubH, Nat.reducePow, Nat.reduceLT, Int.reduceToNat, Int.reduceLE, Int.reduceLT, Int.reduceEq, Int.reduceAdd, Int.reduceSub, Int.reduceMul, Nat.reduceAdd, Nat.reduceMul, Nat.reduceSub, Nat.reduceLeDiff, Nat.reduceEqDiff, Int.reduceNe, ↓reduceIte, ↓way_true, ↓way_false, ↓way_not, ↓way_dec, pl12, lk3, ti3, lk5, ti5, lk9, ti9, lk22, ti22, lk29, ti29, lk30, ti30, lk32, ti32, lk72, ti72, h0, h5, h6]
                    refine none_ _ _ rfl rfl rfl ?_
                    rw [ho]; simp only [tJ, ha, hb]
                  | true =>
                    obtain ⟨u2, hb, rfl⟩ : ∃ u, numOf 255 b = some u ∧ d2 = (u : Int) := by
                      cases hb : numOf 255 b with
                      | none => rw [hb] at hn2; cases hn2
                      | some u => rw [hb] at hn2; exact ⟨u, rfl, hn2.2⟩
                    have hu2 := numOf_le hb
                    have hw2 : IntKind.u8.wrap (u2 : Int) = (u2 : Int) := wu8 (by omega) (by omega)
                    simp (maxSteps := 9000000) only [go_sem, scrubT, scrubH, Nat.reducePow, Nat.reduceLT, Int.reduceToNat, Int.reduceLE, Int.reduceLT, Int.reduceEq, Int.reduceAdd, Int.reduceSub, Int.reduceMul, Nat.reduceAdd, Nat.reduceMul, Nat.reduceSub, Nat.reduceLeDiff, Nat.reduceEqDiff, Int.reduceNe, ↓reduceIte, ↓way_true, ↓way_false, ↓way_not, ↓way_dec, pl12, lk3, ti3, lk5, ti5, lk9, ti9, lk22, ti22, lk29, ti29, lk30, ti30, lk32, ti32, lk72, ti72, h0, h5, h6, hw1, hw2]
                    refine some_ ⟨c, u1, u2, u0⟩ _ _ rfl rfl rfl ?_
                    rw [ho]; simp only [tJ, ha, hb]; rfl
              · refine none_ _ _ rfl rfl rfl ?_
                rw [ho]
                split
                · rfl
                · rename_i x a b m hm
                  split
                  · rename_i hm2
                    subst hm2
                    exact absurd hm (takeJ_len (f := f) (by unfold shJ; simp [f5]) (by omega))
                  · rfl
            · have h5 : (f = 5) = False := eq_false f5
              have tJ : ∀ m, takeJ f m = some (0, 0, m) := fun m => by unfold takeJ shJ; simp [f5, f6]
              simp (maxSteps := 9000000) only [go_sem, scrubT, scrubH, Nat.reducePow, Nat.reduceLT, Int.reduceToNat, Int.reduceLE, Int.reduceLT, Int.reduceEq, Int.reduceAdd, Int.reduceSub, Int.reduceMul, Nat.reduceAdd, Nat.reduceMul, Nat.reduceSub, Nat.reduceLeDiff, Nat.reduceEqDiff, Int.reduceNe, ↓reduceIte, ↓way_true, ↓way_false, ↓way_not, ↓way_dec, pl12, lk3, ti3, lk5, ti5, lk9, ti9, lk22, ti22, lk29, ti29, lk30, ti30, lk32, ti32, lk72, ti72, List.map_cons, h0, h6, h5, htk, Int.toNat_natCast, List.length_map]
              rw [tJ] at ho
              dsimp only at ho
              refine ⟨⟨by omega, by omega⟩, fun _ => ⟨fun hp2 => ?_, fun hp2 => ?_⟩⟩
              · have hne : ¬ l1 = [] := fun e => by subst e; simp at hp2
                refine none_ _ _ rfl rfl rfl ?_
                rw [ho, if_neg hne]
              · have he : l1 = [] := List.length_eq_zero_iff.1 (by omega)
                refine some_ ⟨c, 0, 0, u0⟩ _ _ rfl rfl rfl ?_
                rw [ho, if_pos he]; rfl
end Go.Proofs.YthhcbgdngmajlaaDoor
