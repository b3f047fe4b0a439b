/- What reading stopped at, in plain words. No statement of the seat stands here. -/
import Derived.Test.YthhcbgdngmajlaaDoorAsm13
import Derived.Lib.IndexLaws
set_option linter.unusedSimpArgs false
set_option linter.unusedSectionVars false
set_option maxRecDepth 100000
namespace Go.Proofs.YthhcbgdngmajlaaDoor
open Go Go.AM

theorem idx_ge (l : List UInt8) (c : UInt8) : -1 ≤ Lib.indexByte l c := Lib.indexByte_ge l c
theorem idx_app : ∀ {l : List UInt8} {c : UInt8} {i k : Nat} (m : List UInt8), Lib.indexByte l c = i → i < k → Lib.indexByte (l.take k ++ m) c = i
  | [], c, i, k, m, h, _ => by simp [Lib.indexByte] at h
  | b :: l, c, i, 0, m, h, hk => by omega
  | b :: l, c, i, k + 1, m, h, hk => by
    rw [List.take_succ_cons, List.cons_append]
    unfold Lib.indexByte at h ⊢
    by_cases hb : (b == c) = true
    · rw [if_pos hb] at h ⊢; exact h
    · rw [if_neg hb] at h ⊢
      have hg := idx_ge l c
      split at h
      · omega
      · rename_i h1
        have h2 : Lib.indexByte l c = ((i - 1 : Nat) : Int) := by
          have : Lib.indexByte l c ≠ -1 := by simpa using h1
          omega
        have := idx_app (k := k) m h2 (by have : Lib.indexByte l c ≠ -1 := by simpa using h1
                                          omega)
        rw [this, if_neg (by simp)]
        have : Lib.indexByte l c ≠ -1 := by simpa using h1
        omega
theorem size_B (l : List UInt8) : (B l).size = l.length := by simp [B, ByteArray.size]
theorem ext_B0 (l : List UInt8) (k : Nat) : (B l).extract 0 k = B (l.take k) := by
  apply ByteArray.ext; simp [B, ByteArray.data_extract]
theorem ext_B1 (l : List UInt8) (k : Nat) : (B l).extract k (B l).size = B (l.drop k) := by
  apply ByteArray.ext; simp [B, ByteArray.data_extract, ByteArray.size, List.take_of_length_le]
theorem lines_feed {l : List UInt8} {i : Nat} (hi : Lib.indexByte l 10 = i) : linesOf (B l) = B (l.take (i + 1)) :: linesOf (B (l.drop (i + 1))) := by
  have hl : (B l).data.toList = l := by simp [B]
  have hne : (B l).size ≠ 0 := by
    rw [size_B]; intro h
    have : l = [] := List.length_eq_zero_iff.1 h
    subst this; simp [Lib.indexByte] at hi
  rw [linesOf_feed hne (by rw [hl, hi]; omega), hl, hi, Int.toNat_natCast, ext_B0, ext_B1]
theorem lineI_feed {l : List UInt8} (h : Lib.indexByte l 10 = -1) : lineI (B l) = none := by
  unfold lineI
  rw [if_neg]
  intro hs
  have hl : (B l).data.toList = l := by simp [B]
  rw [hl] at hs
  obtain ⟨t, ht⟩ := List.isSuffixOf_iff_suffix.1 (show [10].isSuffixOf l = true from hs)
  refine Lib.indexByte_none h t.length ?_
  rw [← ht]; simp

/-- WHERE READING STOPS: at a line's beginning, and for that line's sake: what follows the line does not count. -/
theorem bad_law : ∀ (N : Nat) (l : List UInt8), l.length ≤ N → ∀ c a p, badAt c a (linesOf (B l)) = some p → ∃ q, p = a + q ∧ q < l.length ∧ (q = 0 ∨ l[q - 1]? = some 10) ∧
    ∀ j : Nat, Lib.indexByte (l.drop q) 10 = j → ∀ more, badAt c a (linesOf (B (l.take (q + j + 1) ++ more))) = some p
  | 0, l, hN, c, a, p, h => by
    have : l = [] := List.length_eq_zero_iff.1 (by omega)
    subst this
    rw [linesOf_nil rfl] at h; cases h
  | N + 1, l, hN, c, a, p, h => by
    by_cases h0 : l.length = 0
    · have : l = [] := List.length_eq_zero_iff.1 h0
      subst this
      rw [linesOf_nil rfl] at h; cases h
    · have hg := idx_ge l 10
      by_cases hi : Lib.indexByte l 10 = -1
      · have hl : (B l).data.toList = l := by simp [B]
        rw [linesOf_last (by rw [size_B]; exact h0) (by rw [hl, hi]; omega), badAt, if_pos (.inl (by rw [lineI_feed hi]; rfl))] at h
        cases h
        refine ⟨0, rfl, by omega, .inl rfl, fun j hj => ?_⟩
        rw [List.drop_zero, hi] at hj; omega
      · obtain ⟨i, hi⟩ : ∃ i : Nat, Lib.indexByte l 10 = i := ⟨(Lib.indexByte l 10).toNat, by omega⟩
        have hlt : i < l.length := by have := indexByte_lt l 10; omega
        have hsz : (B (l.take (i + 1))).size = i + 1 := by rw [size_B, List.length_take]; omega
        rw [lines_feed hi, badAt] at h
        by_cases hb : (lineI (B (l.take (i + 1)))).isNone = true ∨ c = 255
        · rw [if_pos hb] at h; cases h
          refine ⟨0, rfl, by omega, .inl rfl, fun j hj more => ?_⟩
          rw [List.drop_zero, hi] at hj
          have : j = i := by omega
          subst this
          rw [Nat.zero_add, lines_feed (idx_app (k := j + 1) more hi (by omega)), badAt, if_pos]
          rw [List.take_append_of_le_length (by rw [List.length_take]; omega), List.take_take, Nat.min_self]
          exact hb
        · rw [if_neg hb, hsz] at h
          obtain ⟨q, hp, hq, hq1, hm⟩ := bad_law N (l.drop (i + 1)) (by rw [List.length_drop]; omega) _ _ _ h
          rw [List.length_drop] at hq
          refine ⟨i + 1 + q, by omega, by omega, .inr ?_, fun j hj more => ?_⟩
          · rcases hq1 with e | e
            · subst e; exact (Lib.indexByte_some hi).1
            · rw [List.getElem?_drop] at e
              by_cases hq0 : q = 0
              · subst hq0; exact (Lib.indexByte_some hi).1
              · rw [← e]; congr 1; omega
          · rw [← List.drop_drop] at hj
            have := hm j hj more
            have e1 : (l.take (i + 1 + q + j + 1) ++ more).take (i + 1) = l.take (i + 1) := by
              rw [List.take_append_of_le_length (by rw [List.length_take]; omega), List.take_take, Nat.min_eq_left (by omega)]
            have e2 : (l.take (i + 1 + q + j + 1) ++ more).drop (i + 1) = (l.drop (i + 1)).take (q + j + 1) ++ more := by
              rw [List.drop_append_of_le_length (by rw [List.length_take]; omega), List.drop_take]
              congr 2; omega
            rw [lines_feed (idx_app more hi (by omega)), badAt, e1, if_neg hb, e2, hsz]
            exact this
end Go.Proofs.YthhcbgdngmajlaaDoor
