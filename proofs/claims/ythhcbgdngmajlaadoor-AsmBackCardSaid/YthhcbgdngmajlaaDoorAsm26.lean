/- Programs and texts lead back to one another, in plain words. No statement of the seat stands here. -/
import Derived.Test.YthhcbgdngmajlaaDoorAsm25
set_option linter.unusedSimpArgs false
set_option linter.unusedSectionVars false
set_option maxRecDepth 100000
namespace Go.Proofs.YthhcbgdngmajlaaDoor
open Go Go.AM

theorem joinL_clean : ∀ ps : List (List UInt8), (∀ p ∈ ps, ∀ b ∈ p, b ≠ 10) → ∀ b ∈ joinL 32 ps, b ≠ 10
  | [], _, b, hb => by cases hb
  | [p], h, b, hb => h p (by simp) b hb
  | p :: q :: r, h, b, hb => by
    rcases List.mem_append.1 (show b ∈ p ++ 32 :: joinL 32 (q :: r) from hb) with e | e
    · exact h p (by simp) b e
    · rcases List.mem_cons.1 e with e | e
      · subst e; decide
      · exact joinL_clean (q :: r) (fun p hp => h p (by simp at hp ⊢; exact .inr hp)) b e
theorem line_clean {x : In} (h0 : 0 ≤ x.code) : ∀ b ∈ (lineOf x).data.toList, b ≠ 10 := by
  rw [lineOf_join]
  exact joinL_clean _ fun p hp b hb => (fields_clean h0 p hp b hb).2
def lineF (x : In) : ByteArray := ⟨((lineOf x).data.toList ++ [10]).toArray⟩
theorem idx_text {x : In} (h0 : 0 ≤ x.code) (r : List UInt8) : Lib.indexByte ((lineOf x).data.toList ++ 10 :: r) 10 = (lineOf x).data.toList.length :=
  idx_at (fun j hj e => by
    rw [List.getElem?_append_left hj] at e
    exact line_clean h0 10 (List.mem_of_getElem? e) rfl) (by simp)
/-- A program's text has the lines of its instructions. -/
theorem lines_text : ∀ (l : List In), (∀ x ∈ l, x.ok) → linesOf (B (textOf l)) = l.map lineF
  | [], _ => linesOf_nil (by rfl)
  | x :: r, h => by
    have hi := idx_text (h x (by simp)).c0 (textOf r)
    have hl := lines_feed (l := textOf (x :: r)) hi
    rw [hl, List.map_cons]
    congr 1
    · unfold textOf lineF
      rw [List.take_append, List.take_of_length_le (by omega)]
      simp
    · unfold textOf
      rw [List.drop_append, List.drop_of_length_le (by omega)]
      simp only [List.nil_append, Nat.add_sub_cancel_left, List.drop_succ_cons, List.drop_zero]
      exact lines_text r fun y hy => h y (by simp [hy])
theorem lineI_F {x : In} (hx : x.ok) (hr : right x = true) : lineI (lineF x) = some x := by
  have hd : (lineF x).data.toList = (lineOf x).data.toList ++ [10] := by unfold lineF; simp
  have hs : Lib.hasSuffix ((lineOf x).data.toList ++ [10]) [10] = true := by unfold Lib.hasSuffix; simp [List.isSuffixOf_iff_suffix]
  unfold lineI bodyL
  rw [hd, if_pos hs]
  unfold Lib.trimSuffix
  rw [if_pos hs]
  have e : ∀ p : List UInt8, (p ++ [10]).take ((p ++ [(10 : UInt8)]).length - [(10 : UInt8)].length) = p := fun p => by simp
  have e2 : oneOf ⟨(((lineOf x).data.toList ++ [10]).take (((lineOf x).data.toList ++ [(10 : UInt8)]).length - [(10 : UInt8)].length)).toArray⟩ = some x := by
    rw [e, ba_eq]; exact one_back hx hr
  exact e2
theorem badAt_good : ∀ (l : List In) (c a : Nat), (∀ x ∈ l, x.ok ∧ right x = true) → c + l.length ≤ 255 → badAt c a (l.map lineF) = none
  | [], _, _, _, _ => rfl
  | x :: r, c, a, h, hc => by
    obtain ⟨h1, h2⟩ := h x (by simp)
    rw [List.map_cons, badAt, lineI_F h1 h2, if_neg (by simp at hc ⊢; omega)]
    exact badAt_good r _ _ (fun y hy => h y (by simp [hy])) (by simp at hc; omega)
/-- PRINTED, THEN READ. -/
theorem parse_text {l : List In} (h : ∀ x ∈ l, x.ok) (hr : l.all right = true) (hl : l.length ≤ 255) (ht : (textOf l).length ≤ 8192) : parseV ⟨(textOf l).toArray⟩ = .tup [outV l, vi 0, vi 0] := by
  have hr' : ∀ x ∈ l, x.ok ∧ right x = true := fun x hx => ⟨h x hx, List.all_eq_true.1 hr x hx⟩
  have hL : linesOf ⟨(textOf l).toArray⟩ = l.map lineF := lines_text l h
  unfold parseV
  rw [if_neg (by rw [show (({ data := (textOf l).toArray } : ByteArray)).size = (textOf l).length from by simp [ByteArray.size]]; omega), hL, badAt_good l 0 0 hr' (by omega)]
  have : (l.map lineF).map insL = l := by
    rw [List.map_map]
    conv => rhs; rw [← List.map_id l]
    refine List.map_congr_left fun x hx => ?_
    show insL (lineF x) = x
    unfold insL
    rw [lineI_F (hr' x hx).1 (hr' x hx).2]; rfl
  rw [this]
theorem count_text : ∀ (l : List In), (∀ x ∈ l, x.ok) → Lib.countByte (textOf l) 10 = l.length
  | [], _ => rfl
  | x :: r, h => by
    have ih := count_text r fun y hy => h y (by simp [hy])
    unfold Lib.countByte at ih ⊢
    rw [textOf, List.count_append, List.count_cons_self, ih, List.count_eq_zero.2 (fun hm => line_clean (h x (by simp)).c0 10 hm rfl), List.length_cons]; omega
theorem lines_flat : ∀ (n : Nat) (l : List UInt8), l.length ≤ n → ((linesOf (B l)).flatMap fun s => s.data.toList) = l
  | 0, l, h => by
    obtain rfl : l = [] := List.length_eq_zero_iff.1 (by omega)
    rw [linesOf_nil rfl]; rfl
  | n + 1, l, h => by
    by_cases h0 : l.length = 0
    · obtain rfl : l = [] := List.length_eq_zero_iff.1 h0
      rw [linesOf_nil rfl]; rfl
    · have hg := idx_ge l 10
      have hd : (B l).data.toList = l := by simp [B]
      by_cases hi : Lib.indexByte l 10 = -1
      · rw [linesOf_last (by rw [size_B]; exact h0) (by rw [hd, hi]; omega)]
        simp [B]
      · obtain ⟨i, hi⟩ : ∃ i : Nat, Lib.indexByte l 10 = i := ⟨(Lib.indexByte l 10).toNat, by omega⟩
        rw [lines_feed hi, List.flatMap_cons, lines_flat n (l.drop (i + 1)) (by rw [List.length_drop]; omega)]
        show (B (l.take (i + 1))).data.toList ++ _ = _
        rw [show (B (l.take (i + 1))).data.toList = l.take (i + 1) from by simp [B], List.take_append_drop]
theorem line_back {s : ByteArray} {x : In} (h : lineI s = some x) : x.ok ∧ right x = true ∧ s.data.toList = (lineOf x).data.toList ++ [10] := by
  unfold lineI at h
  split at h
  · rename_i hs
    obtain ⟨h1, h2, h3⟩ := one_fwd h
    refine ⟨h1, h2, ?_⟩
    rw [h3]
    unfold bodyL Lib.trimSuffix
    rw [if_pos hs]
    obtain ⟨t, ht⟩ := List.isSuffixOf_iff_suffix.1 (show [10].isSuffixOf s.data.toList = true from hs)
    rw [← ht]; simp
  · cases h
theorem badAt_all : ∀ (l : List ByteArray) (c a : Nat), badAt c a l = none → ∀ s ∈ l, (lineI s).isSome = true
  | [], _, _, _, s, hs => by cases hs
  | t :: r, c, a, h, s, hs => by
    unfold badAt at h
    split at h
    · cases h
    · rename_i hn
      rcases List.mem_cons.1 hs with e | e
      · subst e
        cases hq : lineI s with
        | none => rw [hq] at hn; simp at hn
        | some x => rfl
      · exact badAt_all r _ _ h s e
theorem text_of_lines : ∀ l : List ByteArray, (∀ s ∈ l, (lineI s).isSome = true) → textOf (l.map insL) = l.flatMap (fun s => s.data.toList) ∧ ∀ x ∈ l.map insL, x.ok ∧ right x = true
  | [], _ => ⟨rfl, fun x hx => by cases hx⟩
  | s :: r, h => by
    obtain ⟨i1, i2⟩ := text_of_lines r fun y hy => h y (by simp [hy])
    have hs := h s (by simp)
    cases hq : lineI s with
    | none => rw [hq] at hs; cases hs
    | some x =>
      obtain ⟨h1, h2, h3⟩ := line_back hq
      have hi : insL s = x := by unfold insL; rw [hq]; rfl
      refine ⟨?_, fun y hy => ?_⟩
      · rw [List.map_cons, hi, textOf, i1, List.flatMap_cons, h3]; simp
      · rw [List.map_cons, hi] at hy
        rcases List.mem_cons.1 hy with e | e
        · subst e; exact ⟨h1, h2⟩
        · exact i2 y e
/-- READ, THEN PRINTED. -/
theorem read_text {s : ByteArray} (h : badAt 0 0 (linesOf s) = none) : textOf ((linesOf s).map insL) = s.data.toList ∧ (∀ x ∈ (linesOf s).map insL, x.ok ∧ right x = true) ∧ ((linesOf s).map insL).length ≤ 255 := by
  obtain ⟨h1, h2⟩ := text_of_lines _ (badAt_all _ _ _ h)
  refine ⟨?_, h2, ?_⟩
  · rw [h1]
    have := lines_flat _ s.data.toList (Nat.le_refl _)
    rwa [show B s.data.toList = s from ba_eq] at this
  · rw [List.length_map]
    have : ∀ (l : List ByteArray) (c a : Nat), c ≤ 255 → badAt c a l = none → c + l.length ≤ 255 := by
      intro l
      induction l with
      | nil => intro c a hc _; simpa using hc
      | cons s r ih =>
        intro c a hc h
        unfold badAt at h
        split at h
        · cases h
        · have := ih (c + 1) (a + s.size) (by omega) h
          simp only [List.length_cons]; omega
    have := this _ 0 0 (by omega) h
    omega
theorem bare_code (x : In) : (bare x).code = x.code := by
  unfold bare
  simp only
  split <;> split <;> rfl
theorem bare_ok {x : In} (h : x.ok) : (bare x).ok := by
  obtain ⟨a, b, c, d, e, f, g, i⟩ := h
  unfold bare
  simp only
  split <;> split <;> constructor <;> (first | assumption | (simp only; omega) | omega)
theorem bare_right {x : In} (h : right (bare x) = false) : form x.code < 0 := by
  refine Decidable.byContradiction fun hn => ?_
  rw [Bool.eq_false_iff] at h
  refine h (right_iff.2 ?_)
  rw [bare_code]
  unfold bare shJ shK
  generalize form x.code = f at *
  refine ⟨by omega, fun h => ?_, fun h => ?_⟩
  · simp at h
    simp only [if_pos (show 0 ≤ f ∧ f ≠ 5 ∧ f ≠ 6 from ⟨by omega, h.1, h.2⟩)]
    split <;> exact ⟨rfl, rfl⟩
  · have h' : f = 0 ∨ f = 6 := by simp at h; omega
    simp only [if_pos h']
end Go.Proofs.YthhcbgdngmajlaaDoor
