/- Instructions and lines lead back to one another, in plain words. No statement of the seat stands here. -/
import Derived.Test.YthhcbgdngmajlaaDoorAsm23
set_option linter.unusedSimpArgs false
set_option linter.unusedSectionVars false
set_option maxRecDepth 100000
namespace Go.Proofs.YthhcbgdngmajlaaDoor
open Go Go.AM

def joinL (b : UInt8) : List (List UInt8) → List UInt8
  | [] => []
  | [p] => p
  | p :: q :: r => p ++ b :: joinL b (q :: r)
theorem splitL_part (b : UInt8) : ∀ p : List UInt8, (∀ x ∈ p, x ≠ b) → splitL b p = [p]
  | [], _ => rfl
  | c :: r, h => by
    unfold splitL
    rw [if_neg (h c (by simp)), splitL_part b r fun x hx => h x (by simp [hx])]
theorem splitL_first (b : UInt8) : ∀ (p l : List UInt8), (∀ x ∈ p, x ≠ b) → splitL b (p ++ b :: l) = p :: splitL b l
  | [], l, _ => by simp [splitL]
  | c :: r, l, h => by
    rw [List.cons_append]
    conv => lhs; unfold splitL
    rw [if_neg (h c (by simp)), splitL_first b r l fun x hx => h x (by simp [hx])]
theorem split_join (b : UInt8) : ∀ ps : List (List UInt8), ps ≠ [] → (∀ p ∈ ps, ∀ x ∈ p, x ≠ b) → splitL b (joinL b ps) = ps
  | [], h, _ => absurd rfl h
  | [p], _, h => splitL_part b p (h p (by simp))
  | p :: q :: r, _, h => by
    show splitL b (p ++ b :: joinL b (q :: r)) = _
    rw [splitL_first b p _ (h p (by simp)), split_join b (q :: r) (by simp) fun p hp => h p (by simp at hp ⊢; exact .inr hp)]
theorem join_split (b : UInt8) : ∀ l : List UInt8, joinL b (splitL b l) = l
  | [] => rfl
  | c :: r => by
    have ih := join_split b r
    have hne := splitL_ne b r
    unfold splitL
    split
    · rename_i hc
      subst hc
      cases hs : splitL c r with
      | nil => exact absurd hs hne
      | cons p q => show [] ++ c :: joinL c (p :: q) = _; rw [← hs, ih]; rfl
    · cases hs : splitL b r with
      | nil => exact absurd hs hne
      | cons p q =>
        rw [hs] at ih
        cases q with
        | nil => show c :: p = _; rw [show p = r from ih]
        | cons q1 q2 => show (c :: p) ++ b :: joinL b (q1 :: q2) = _; rw [List.cons_append]; rw [show p ++ b :: joinL b (q1 :: q2) = r from ih]

/-- A line's fields. -/
def fieldsL (x : In) : List (List UInt8) := (name x.code).1.data.toList :: ((if shK (form x.code) then [Lib.decDigits x.k.toNat] else []) ++ (if shJ (form x.code) then [Lib.decDigits x.jt.toNat, Lib.decDigits x.jf.toNat] else []))
theorem lineOf_join (x : In) : (lineOf x).data.toList = joinL 32 (fieldsL x) := by
  unfold lineOf fieldsL
  cases shK (form x.code) <;> cases shJ (form x.code) <;> simp [joinL, dec, B]
theorem digs (n : Nat) : ∀ c ∈ Lib.decDigits n, c ≠ 32 ∧ c ≠ 10 := fun c hc => by
  have h := List.all_eq_true.1 (val_dec n).2.1 c hc
  have h1 : 48 ≤ c.toNat ∧ c.toNat ≤ 57 := of_decide_eq_true h
  constructor
  · intro e; subst e; have : (32 : UInt8).toNat = 32 := rfl; omega
  · intro e; subst e; have : (10 : UInt8).toNat = 10 := rfl; omega
theorem name_clean {c : Int} (h0 : 0 ≤ c) : ∀ b ∈ (name c).1.data.toList, b ≠ 32 ∧ b ≠ 10 := by
  by_cases h : 256 ≤ c
  · rw [name_above h]; intro b hb; simp at hb
  · exact (codes_at h0 (by omega)).2.2.2.2.2
theorem fields_clean {x : In} (h0 : 0 ≤ x.code) : ∀ p ∈ fieldsL x, ∀ b ∈ p, b ≠ 32 ∧ b ≠ 10 := by
  intro p hp
  unfold fieldsL at hp
  rcases List.mem_cons.1 hp with e | e
  · subst e; exact name_clean h0
  · rcases List.mem_append.1 e with e | e
    · split at e
      · rw [List.mem_singleton.1 e]; exact digs _
      · cases e
    · split at e
      · simp at e
        rcases e with e | e <;> (subst e; exact digs _)
      · cases e
theorem numOf_dec {most u : Nat} (hm : most < 4294967296) (hu : u ≤ most) : numOf most ⟨(Lib.decDigits u).toArray⟩ = some u := by
  obtain ⟨h1, h2, h3, h4⟩ := val_dec u
  have hp : Lib.parseUintB 32 (Lib.decDigits u) = .ok u := by
    unfold Lib.parseUintB
    rw [if_neg h4, parse_val _ (by decide) _ 0 (by decide)]
    exact ⟨h2, h1, by omega⟩
  unfold numOf
  rw [show (({ data := (Lib.decDigits u).toArray } : ByteArray).data.toList) = Lib.decDigits u from by simp, hp]
  exact if_pos ⟨hu, rfl⟩
theorem numOf_back {most u : Nat} {s : ByteArray} (h : numOf most s = some u) : s = ⟨(Lib.decDigits u).toArray⟩ ∧ u ≤ most := by
  unfold numOf at h
  split at h
  · split at h
    · rename_i h2; cases h; exact ⟨h2.2.symm, h2.1⟩
    · cases h
  · cases h
theorem codes_back : ∀ n : Fin 256, (name (n.1 : Int)).2 = true → codeOf (name (n.1 : Int)).1 = some n.1 := by decide +kernel
theorem codeOf_back {p : ByteArray} {c : Nat} (h : codeOf p = some c) : (name (c : Int)).1 = p ∧ c < 256 ∧ (name (c : Int)).2 = true := by
  unfold codeOf at h
  have h1 := List.find?_some h
  have h2 := List.mem_of_find?_eq_some h
  refine ⟨of_decide_eq_true h1, vcodes_lt h2, ?_⟩
  unfold vcodes at h2
  exact (List.mem_filter.1 h2).2
theorem right_iff {x : In} : right x = true ↔ 0 ≤ form x.code ∧ (shJ (form x.code) = false → x.jt = 0 ∧ x.jf = 0) ∧ (shK (form x.code) = false → x.k = 0) := by
  unfold right bare shJ shK
  generalize form x.code = f
  obtain ⟨c, t, u, k⟩ := x
  simp only [Bool.and_eq_true, decide_eq_true_eq, Bool.or_eq_false_iff, decide_eq_false_iff_not, Bool.and_eq_false_iff, Bool.not_eq_false', decide_eq_true_eq]
  by_cases a : 0 ≤ f ∧ f ≠ 5 ∧ f ≠ 6
  · by_cases b : f = 0 ∨ f = 6
    · simp only [if_pos a, if_pos b, In.mk.injEq, true_and]
      have a' : ¬f = 5 ∧ ¬f = 6 := a.2
      exact ⟨fun h => ⟨a.1, fun _ => ⟨h.2.1.symm, h.2.2.1.symm⟩, fun _ => h.2.2.2.symm⟩, fun h => ⟨a.1, (h.2.1 a').1.symm, (h.2.1 a').2.symm, (h.2.2 b).symm⟩⟩
    · simp only [if_pos a, if_neg b, In.mk.injEq, true_and, and_true]
      have a' : ¬f = 5 ∧ ¬f = 6 := a.2
      exact ⟨fun h => ⟨a.1, fun _ => ⟨h.2.1.symm, h.2.2.symm⟩, fun h => absurd h b⟩, fun h => ⟨a.1, (h.2.1 a').1.symm, (h.2.1 a').2.symm⟩⟩
  · by_cases b : f = 0 ∨ f = 6
    · simp only [if_neg a, if_pos b, In.mk.injEq, true_and]
      exact ⟨fun h => ⟨h.1, fun h' => absurd ⟨h.1, h'.1, h'.2⟩ a, fun _ => h.2.symm⟩, fun h => ⟨h.1, (h.2.2 b).symm⟩⟩
    · simp only [if_neg a, if_neg b, and_true]
      exact ⟨fun h => ⟨h, fun h' => absurd ⟨h, h'.1, h'.2⟩ a, fun h => absurd h b⟩, fun h => h.1⟩
theorem parts_join {ps : List (List UInt8)} (hne : ps ≠ []) (h : ∀ p ∈ ps, ∀ x ∈ p, x ≠ 32) {s : ByteArray} (hs : s.data.toList = joinL 32 ps) : parts s = ps.map fun l => ⟨l.toArray⟩ := by
  rw [parts_L, hs, split_join 32 ps hne h]
theorem ba_eq {s : ByteArray} : (⟨s.data.toList.toArray⟩ : ByteArray) = s := by cases s; simp

/-- AN INSTRUCTION's LINE IS READ AS IT. -/
theorem one_back {x : In} (hx : x.ok) (hr : right x = true) : oneOf (lineOf x) = some x := by
  obtain ⟨hf, hj, hk⟩ := right_iff.1 hr
  have hcl := fields_clean hx.c0
  have hp := parts_join (ps := fieldsL x) (by unfold fieldsL; simp) (fun p hp b hb => (hcl p hp b hb).1) (lineOf_join x)
  have hn : (name x.code).2 = true := by rw [name_ok hx.c0]; exact decide_eq_true hf
  have hlt : x.code < 256 := Int.lt_of_not_ge fun h => by rw [form_above (by omega)] at hf; omega
  have hc : codeOf (name x.code).1 = some x.code.toNat := by
    have := codes_back ⟨x.code.toNat, by have := hx.c0; omega⟩
    simp only [Int.toNat_of_nonneg hx.c0] at this
    exact this hn
  have e0 : ((x.code.toNat : Nat) : Int) = x.code := Int.toNat_of_nonneg hx.c0
  have ek : ((x.k.toNat : Nat) : Int) = x.k := Int.toNat_of_nonneg hx.k0
  have et : ((x.jt.toNat : Nat) : Int) = x.jt := Int.toNat_of_nonneg hx.t0
  have eu : ((x.jf.toNat : Nat) : Int) = x.jf := Int.toNat_of_nonneg hx.f0
  have nk := numOf_dec (most := 4294967295) (by omega) (show x.k.toNat ≤ 4294967295 by have := hx.k1; omega)
  have nt := numOf_dec (most := 255) (by omega) (show x.jt.toNat ≤ 255 by have := hx.t1; omega)
  have nu := numOf_dec (most := 255) (by omega) (show x.jf.toNat ≤ 255 by have := hx.f1; omega)
  unfold oneOf
  rw [hp]
  unfold fieldsL
  simp only [List.map_cons, ba_eq, hc, e0]
  cases hK : shK (form x.code) <;> cases hJ : shJ (form x.code)
  all_goals
    simp only [takeK, takeJ, hK, hJ, Bool.false_eq_true, ↓reduceIte, List.nil_append, List.append_nil, List.map_cons, List.map_nil, List.cons_append, nk, nt, nu, Option.map_some]
  · refine congrArg some ?_
    cases x
    simp only [In.mk.injEq]
    exact ⟨trivial, (hj hJ).1.symm, (hj hJ).2.symm, (hk hK).symm⟩
  · refine congrArg some ?_
    cases x
    simp only [In.mk.injEq]
    exact ⟨trivial, et, eu, (hk hK).symm⟩
  · refine congrArg some ?_
    cases x
    simp only [In.mk.injEq]
    exact ⟨trivial, (hj hJ).1.symm, (hj hJ).2.symm, ek⟩
  · refine congrArg some ?_
    cases x
    simp only [In.mk.injEq]
    exact ⟨trivial, et, eu, ek⟩
theorem ok_mk {c t u k : Nat} (h1 : c < 256) (h2 : t ≤ 255) (h3 : u ≤ 255) (h4 : k ≤ 4294967295) : In.ok ⟨c, t, u, k⟩ :=
  ⟨by simp only; omega, by simp only; omega, by simp only; omega, by simp only; omega, by simp only; omega, by simp only; omega, by simp only; omega, by simp only; omega⟩
/-- A LINE THAT IS READ AS AN INSTRUCTION IS ITS LINE. -/
theorem one_fwd {s : ByteArray} {x : In} (h : oneOf s = some x) : x.ok ∧ right x = true ∧ lineOf x = s := by
  have hjs := join_split 32 s.data.toList
  unfold oneOf at h
  rw [parts_L] at h
  generalize splitL 32 s.data.toList = ps at *
  have fin : ∀ {y : In}, y.ok → right y = true → joinL 32 (fieldsL y) = s.data.toList → y.ok ∧ right y = true ∧ lineOf y = s := fun h1 h2 h3 => ⟨h1, h2, by
    apply ByteArray.ext
    apply Array.ext'
    rw [lineOf_join, h3]⟩
  cases ps with
  | nil => cases h
  | cons p l =>
    simp only [List.map_cons] at h
    cases hc : codeOf ⟨p.toArray⟩ with
    | none => rw [hc] at h; cases h
    | some c =>
      rw [hc] at h
      obtain ⟨n1, n2, n3⟩ := codeOf_back hc
      have hf : 0 ≤ form (c : Int) := by rw [name_ok (by omega)] at n3; exact of_decide_eq_true n3
      have hp : (name (c : Int)).1.data.toList = p := by rw [n1]
      simp only at h
      cases hK : shK (form (c : Int)) <;> cases hJ : shJ (form (c : Int))
      · simp only [takeK, takeJ, hK, hJ, Bool.false_eq_true, ↓reduceIte] at h
        split at h
        · rename_i he
          cases h
          have he' : l = [] := List.map_eq_nil_iff.1 he
          refine fin (ok_mk n2 (by omega) (by omega) (by omega)) (right_iff.2 ⟨hf, fun _ => ⟨rfl, rfl⟩, fun _ => rfl⟩) ?_
          rw [← hjs, he']
          unfold fieldsL
          simp only [hK, hJ, hp, Bool.false_eq_true, ↓reduceIte, List.append_nil]
        · cases h
      · simp only [takeK, takeJ, hK, hJ, Bool.false_eq_true, ↓reduceIte] at h
        match l, h with
        | [], h => cases h
        | [_], h => cases h
        | a :: b :: r, h =>
          simp only [List.map_cons] at h
          cases ha : numOf 255 ⟨a.toArray⟩ with
          | none => rw [ha] at h; cases h
          | some t =>
            cases hb : numOf 255 ⟨b.toArray⟩ with
            | none => rw [ha, hb] at h; cases h
            | some u =>
              rw [ha, hb] at h
              simp only at h
              split at h
              · rename_i he
                cases h
                have he' : r = [] := List.map_eq_nil_iff.1 he
                obtain ⟨a1, a2⟩ := numOf_back ha
                obtain ⟨b1, b2⟩ := numOf_back hb
                have a3 : Lib.decDigits t = a := by have := congrArg (fun x : ByteArray => x.data.toList) a1; simpa using this.symm
                have b3 : Lib.decDigits u = b := by have := congrArg (fun x : ByteArray => x.data.toList) b1; simpa using this.symm
                refine fin (ok_mk n2 a2 b2 (by omega)) (right_iff.2 ⟨hf, fun h' => (by rw [hJ] at h'; cases h'), fun _ => rfl⟩) ?_
                rw [← hjs, he']
                unfold fieldsL
                simp only [hK, hJ, hp, Bool.false_eq_true, ↓reduceIte, List.nil_append, Int.toNat_natCast, a3, b3]
              · cases h
      · simp only [takeK, takeJ, hK, hJ, Bool.false_eq_true, ↓reduceIte] at h
        match l, h with
        | [], h => cases h
        | q :: r, h =>
          simp only [List.map_cons] at h
          cases hq : numOf 4294967295 ⟨q.toArray⟩ with
          | none => rw [hq] at h; cases h
          | some k =>
            rw [hq] at h
            simp only [Option.map_some] at h
            split at h
            · rename_i he
              cases h
              have he' : r = [] := List.map_eq_nil_iff.1 he
              obtain ⟨a1, a2⟩ := numOf_back hq
              have a3 : Lib.decDigits k = q := by have := congrArg (fun x : ByteArray => x.data.toList) a1; simpa using this.symm
              refine fin (ok_mk n2 (by omega) (by omega) a2) (right_iff.2 ⟨hf, fun _ => ⟨rfl, rfl⟩, fun h' => (by rw [hK] at h'; cases h')⟩) ?_
              rw [← hjs, he']
              unfold fieldsL
              simp only [hK, hJ, hp, Bool.false_eq_true, ↓reduceIte, List.append_nil, Int.toNat_natCast, a3]
            · cases h
      · simp only [takeK, takeJ, hK, hJ, ↓reduceIte] at h
        match l, h with
        | [], h => cases h
        | q :: l2, h =>
          simp only [List.map_cons] at h
          cases hq : numOf 4294967295 ⟨q.toArray⟩ with
          | none => rw [hq] at h; cases h
          | some k =>
            rw [hq] at h
            simp only [Option.map_some] at h
            match l2, h with
            | [], h => cases h
            | [_], h => cases h
            | a :: b :: r, h =>
              simp only [List.map_cons] at h
              cases ha : numOf 255 ⟨a.toArray⟩ with
              | none => rw [ha] at h; cases h
              | some t =>
                cases hb : numOf 255 ⟨b.toArray⟩ with
                | none => rw [ha, hb] at h; cases h
                | some u =>
                  rw [ha, hb] at h
                  simp only at h
                  split at h
                  · rename_i he
                    cases h
                    have he' : r = [] := List.map_eq_nil_iff.1 he
                    obtain ⟨q1, q2⟩ := numOf_back hq
                    obtain ⟨a1, a2⟩ := numOf_back ha
                    obtain ⟨b1, b2⟩ := numOf_back hb
                    have q3 : Lib.decDigits k = q := by have := congrArg (fun x : ByteArray => x.data.toList) q1; simpa using this.symm
                    have a3 : Lib.decDigits t = a := by have := congrArg (fun x : ByteArray => x.data.toList) a1; simpa using this.symm
                    have b3 : Lib.decDigits u = b := by have := congrArg (fun x : ByteArray => x.data.toList) b1; simpa using this.symm
                    refine fin (ok_mk n2 a2 b2 q2) (right_iff.2 ⟨hf, fun h' => (by rw [hJ] at h'; cases h'), fun h' => (by rw [hK] at h'; cases h')⟩) ?_
                    rw [← hjs, he']
                    unfold fieldsL
                    simp only [hK, hJ, hp, ↓reduceIte, List.cons_append, List.nil_append, Int.toNat_natCast, q3, a3, b3]
                  · cases h
end Go.Proofs.YthhcbgdngmajlaaDoor
