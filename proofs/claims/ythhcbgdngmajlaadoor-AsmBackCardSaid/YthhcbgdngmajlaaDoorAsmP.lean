/- Numbers of digits, and rows split at a byte, in plain words. No statement of the seat stands here. -/
import Derived.Lib.ParseIntBCases
import Derived.Lib.ItoaNum
import Derived.Lib.SplitLaws
namespace Go.Proofs.YthhcbgdngmajlaaDoor
open Go

def isDig (c : UInt8) : Bool := decide (48 ≤ c.toNat ∧ c.toNat ≤ 57)
/-- The number that digits spell, behind others. -/
def step10 (a : Nat) (c : UInt8) : Nat := a * 10 + (c.toNat - 48)
def val (a : Nat) (l : List UInt8) : Nat := l.foldl step10 a
/-- Digits of a number, as they are written down. -/
def good (l : List UInt8) : Prop := l ≠ [] ∧ l.all isDig = true ∧ (1 < l.length → l[0]? ≠ some 48)

theorem val_nil (a : Nat) : val a [] = a := rfl
theorem val_cons (a : Nat) (c : UInt8) (r : List UInt8) : val a (c :: r) = val (a * 10 + (c.toNat - 48)) r := by unfold val; rw [List.foldl_cons]; rfl
theorem val_append (l m : List UInt8) (a : Nat) : val a (l ++ m) = val (val a l) m := by unfold val; rw [List.foldl_append]
theorem val_ge : ∀ (l : List UInt8) (a : Nat), a ≤ val a l
  | [], _ => Nat.le_refl _
  | c :: l, a => by
    have := val_ge l (a * 10 + (c.toNat - 48))
    rw [val_cons]
    omega
theorem val_pow : ∀ (l : List UInt8) (a : Nat), a * 10 ^ l.length ≤ val a l
  | [], a => Nat.le_of_eq (Nat.mul_one a)
  | c :: l, a => by
    have := val_pow l (a * 10 + (c.toNat - 48))
    have h2 : (a * 10) * 10 ^ l.length ≤ (a * 10 + (c.toNat - 48)) * 10 ^ l.length := Nat.mul_le_mul_right _ (Nat.le_add_right _ _)
    rw [val_cons, List.length_cons, Nat.pow_succ, Nat.mul_comm (10 ^ l.length) 10, ← Nat.mul_assoc]
    exact Nat.le_trans h2 this
theorem parse_val (M : Nat) (hM : M < 1844674407370955162) : ∀ (l : List UInt8) (a : Nat), a ≤ M → ∀ u, Lib.parseUintM M a l = .ok u ↔ l.all isDig = true ∧ val a l = u ∧ u ≤ M
  | [], a, ha, u => by
    have e1 : Lib.parseUintM M a [] = .ok a := rfl
    have e2 : val a [] = a := rfl
    rw [e1, e2]
    constructor
    · intro h; cases h; exact ⟨rfl, rfl, ha⟩
    · rintro ⟨_, rfl, _⟩; rfl
  | c :: r, a, ha, u => by
    unfold Lib.parseUintM
    by_cases hc : 48 ≤ c.toNat ∧ c.toNat ≤ 57
    · have hd : isDig c = true := decide_eq_true hc
      rw [if_pos hc, if_neg (by omega)]
      by_cases h : M < a * 10 + (c.toNat - 48)
      · rw [if_pos h]
        constructor
        · intro h; cases h
        · rintro ⟨_, h2, h3⟩
          have := val_ge r (a * 10 + (c.toNat - 48))
          rw [val_cons] at h2; omega
      · rw [if_neg h, parse_val M hM r _ (by omega) u]
        simp [hd, val_cons]
    · have hd : isDig c = false := decide_eq_false hc
      rw [if_neg hc]
      simp [hd]
theorem head_pos {l : List UInt8} (h : l.all isDig = true) (hne : l ≠ []) (h0 : l[0]? ≠ some 48) : 10 ^ (l.length - 1) ≤ val 0 l := by
  match l, hne with
  | c :: r, _ =>
    have hc : isDig c = true := by simp at h; exact h.1
    have hc' : 48 ≤ c.toNat ∧ c.toNat ≤ 57 := of_decide_eq_true hc
    have hn : c.toNat ≠ 48 := fun e => h0 (by
      have : c = 48 := by apply UInt8.toNat_inj.1; exact e
      rw [this]; rfl)
    have := val_pow r (0 * 10 + (c.toNat - 48))
    rw [val_cons, List.length_cons, Nat.add_sub_cancel]
    refine Nat.le_trans ?_ this
    exact Nat.le_mul_of_pos_left _ (by omega)
theorem val_dec : ∀ u, val 0 (Lib.decDigits u) = u ∧ (Lib.decDigits u).all isDig = true ∧ (0 < u → (Lib.decDigits u)[0]? ≠ some 48) ∧ Lib.decDigits u ≠ [] := by
  intro u
  induction u using Nat.strongRecOn with
  | _ u ih =>
    have dig : ∀ d, d < 10 → (UInt8.ofNat (48 + d)).toNat = 48 + d := fun d hd => by
      rw [UInt8.toNat_ofNat']; omega
    by_cases h : u < 10
    · rw [Lib.decDigits_one h]
      refine ⟨?_, ?_, ?_, by simp⟩
      · rw [val_cons, val_nil, dig u h]; omega
      · simp [isDig, dig u h]; omega
      · intro h0 e
        have e2 : UInt8.ofNat (48 + u) = 48 := by simpa using e
        have := congrArg UInt8.toNat e2
        rw [dig u h] at this
        have h48 : (48 : UInt8).toNat = 48 := rfl
        omega
    · obtain ⟨i1, i2, i3, i4⟩ := ih (u / 10) (by omega)
      have hx : Lib.decDigits u = Lib.decDigits (u / 10) ++ [UInt8.ofNat (48 + u % 10)] := by
        conv => lhs; rw [Lib.decDigits]
        rw [dif_neg h]
      rw [hx]
      refine ⟨?_, ?_, ?_, by simp⟩
      · rw [val_append, i1]; rw [val_cons, val_nil, dig (u % 10) (by omega)]; omega
      · rw [List.all_append, i2]; simp [isDig, dig (u % 10) (by omega)]; omega
      · intro _
        have hl : 0 < (Lib.decDigits (u / 10)).length := List.length_pos_iff.2 i4
        rw [List.getElem?_append_left hl]
        exact i3 (by omega)
theorem dec_val : ∀ (n : Nat) (l : List UInt8), l.length = n → good l → Lib.decDigits (val 0 l) = l
  | 0, l, hn, h => absurd (List.length_eq_zero_iff.1 hn) h.1
  | n + 1, l, hn, h => by
    obtain ⟨m, c, rfl⟩ : ∃ m c, l = m ++ [c] := ⟨l.dropLast, l.getLast h.1, (List.dropLast_concat_getLast h.1).symm⟩
    obtain ⟨h1, h2, h3⟩ := h
    rw [List.all_append, Bool.and_eq_true] at h2
    have hc : 48 ≤ c.toNat ∧ c.toNat ≤ 57 := of_decide_eq_true (by simpa [isDig] using h2.2)
    have hv : val 0 (m ++ [c]) = val 0 m * 10 + (c.toNat - 48) := by rw [val_append]; rfl
    have ec : UInt8.ofNat (48 + (c.toNat - 48)) = c := by
      rw [show 48 + (c.toNat - 48) = c.toNat by omega]; simp
    rw [List.length_append, List.length_singleton] at hn
    by_cases hm : m = []
    · subst hm
      rw [hv]
      rw [List.nil_append, val_nil]
      rw [Nat.zero_mul, Nat.zero_add, Lib.decDigits_one (by omega), ec]
    · have hml : 0 < m.length := List.length_pos_iff.2 hm
      have hh : m[0]? ≠ some 48 := by
        have := h3 (by rw [List.length_append, List.length_singleton]; omega)
        rwa [List.getElem?_append_left hml] at this
      have hp : 1 ≤ val 0 m := Nat.le_trans (Nat.pow_pos (by omega)) (head_pos h2.1 hm hh)
      have hi := dec_val n m (by omega) ⟨hm, h2.1, fun _ => hh⟩
      rw [hv]
      conv => lhs; rw [Lib.decDigits]
      rw [dif_neg (by omega), show (val 0 m * 10 + (c.toNat - 48)) / 10 = val 0 m by omega, hi, show (val 0 m * 10 + (c.toNat - 48)) % 10 = c.toNat - 48 by omega, ec]
theorem dec_iff (l : List UInt8) (u : Nat) : Lib.decDigits u = l ↔ good l ∧ val 0 l = u := by
  constructor
  · intro h
    obtain ⟨h1, h2, h3, h4⟩ := val_dec u
    subst h
    refine ⟨⟨h4, h2, fun hl => ?_⟩, h1⟩
    refine h3 (Nat.pos_of_ne_zero fun h0 => ?_)
    subst h0
    rw [Lib.decDigits_one (by omega)] at hl; simp at hl
  · rintro ⟨h1, rfl⟩
    exact dec_val l.length l rfl h1
theorem good_len {l : List UInt8} (h : good l) (hv : val 0 l ≤ 4294967295) : l.length ≤ 10 := by
  obtain ⟨h1, h2, h3⟩ := h
  by_cases hl : 1 < l.length
  · have := head_pos h2 h1 (h3 hl)
    refine Decidable.byContradiction fun hn => ?_
    have : 10 ^ 10 ≤ 10 ^ (l.length - 1) := Nat.pow_le_pow_right (by omega) (by omega)
    omega
  · omega

/-! ### Split at a byte -/
def splitL (b : UInt8) : List UInt8 → List (List UInt8)
  | [] => [[]]
  | c :: r => if c = b then [] :: splitL b r else match splitL b r with
    | p :: q => (c :: p) :: q
    | [] => [[c]]
theorem splitL_ne (b : UInt8) : ∀ l, splitL b l ≠ []
  | [] => by simp [splitL]
  | c :: r => by unfold splitL; split; · simp
                 · split <;> simp
/-- One byte more. -/
theorem splitL_snoc (b : UInt8) : ∀ (l : List UInt8) (out : List (List UInt8)) (p : List UInt8) (c : UInt8), splitL b l = out ++ [p] → splitL b (l ++ [c]) = if c = b then out ++ [p, []] else out ++ [p ++ [c]]
  | [], out, p, c, h => by
    have : out = [] ∧ p = [] := by
      cases out with
      | nil => simp [splitL] at h; exact ⟨rfl, h⟩
      | cons x y => simp [splitL] at h
    obtain ⟨rfl, rfl⟩ := this
    by_cases hc : c = b <;> simp [splitL, hc]
  | d :: l, out, p, c, h => by
    rw [List.cons_append]
    unfold splitL at h ⊢
    by_cases hd : d = b
    · rw [if_pos hd] at h ⊢
      cases out with
      | nil =>
        have := splitL_ne b l
        simp at h
        exact absurd h.2 this
      | cons x out =>
        simp at h
        have := splitL_snoc b l out p c h.2
        rw [this, ← h.1]
        split <;> simp
    · rw [if_neg hd] at h ⊢
      split at h
      · rename_i p0 q0 hs
        cases out with
        | nil =>
          simp at h
          obtain ⟨h1, rfl⟩ := h
          have := splitL_snoc b l [] p0 c (by rw [hs]; rfl)
          rw [this]
          by_cases hc : c = b
          · simp [hc, ← h1]
          · simp [hc, ← h1]
        | cons x out =>
          simp at h
          have := splitL_snoc b l (p0 :: out) p c (by rw [hs, h.2]; rfl)
          rw [this]
          by_cases hc : c = b
          · simp [hc, ← h.1]
          · simp [hc, ← h.1]
      · rename_i hs; exact absurd hs (splitL_ne b l)
theorem splitL_index (b : UInt8) : ∀ l : List UInt8, (Lib.index l [b] = -1 → splitL b l = [l]) ∧ ∀ i : Nat, Lib.index l [b] = i → splitL b l = l.take i :: splitL b (l.drop (i + 1))
  | [] => ⟨fun _ => rfl, fun i h => by simp [Lib.index] at h⟩
  | c :: r => by
    obtain ⟨h1, h2⟩ := splitL_index b r
    have hp : ([b].isPrefixOf (c :: r)) = (b == c) := by simp [List.isPrefixOf]
    by_cases hc : c = b
    · subst hc
      have hi : Lib.index (c :: r) [c] = 0 := by unfold Lib.index; rw [hp]; simp
      refine ⟨fun h => (by rw [hi] at h; cases h), fun i h => ?_⟩
      rw [hi] at h
      obtain rfl : i = 0 := by omega
      simp [splitL]
    · have hi : Lib.index (c :: r) [b] = if Lib.index r [b] == -1 then -1 else Lib.index r [b] + 1 := by
        conv => lhs; unfold Lib.index
        rw [hp, if_neg (by simpa using fun e => hc e.symm)]
      have hg := Lib.index_ge r [b]
      have hs : splitL b (c :: r) = match splitL b r with | p :: q => (c :: p) :: q | [] => [[c]] := by
        conv => lhs; unfold splitL
        rw [if_neg hc]
      by_cases h0 : Lib.index r [b] = -1
      · rw [h0] at hi
        refine ⟨fun _ => (by rw [hs, h1 h0]), fun i h => (by rw [hi] at h; simp at h)⟩
      · obtain ⟨j, hj⟩ : ∃ j : Nat, Lib.index r [b] = j := ⟨(Lib.index r [b]).toNat, by omega⟩
        rw [hj, if_neg (by simp)] at hi
        refine ⟨fun h => by omega, fun i h => ?_⟩
        obtain rfl : i = j + 1 := by omega
        rw [hs, h2 j hj]
        simp
theorem splitK_L (b : UInt8) : ∀ (n : Nat) (l : List UInt8), l.length ≤ n → Lib.splitK [b] 0 (Lib.count l [b]) l = splitL b l
  | 0, l, h => by
    obtain rfl : l = [] := List.length_eq_zero_iff.1 (by omega)
    rw [Lib.count_miss (by simp [Lib.index])]; rfl
  | n + 1, l, h => by
    obtain ⟨h1, h2⟩ := splitL_index b l
    have hg := Lib.index_ge l [b]
    by_cases h0 : Lib.index l [b] = -1
    · rw [Lib.count_miss h0, h1 h0]; rfl
    · obtain ⟨i, hi⟩ : ∃ j : Nat, Lib.index l [b] = j := ⟨(Lib.index l [b]).toNat, by omega⟩
      have hl : i + 1 ≤ l.length := by have := Lib.index_room l [b] (by omega); simp at this; omega
      rw [Lib.count_hit (by simp) hi, Nat.add_comm 1, Lib.splitK, if_neg (by simp; omega), hi, h2 i hi]
      simp only [Int.toNat_natCast, Nat.add_zero, List.length_singleton]
      rw [splitK_L b n _ (by rw [List.length_drop]; omega)]
theorem splitB_L (b : UInt8) (s : ByteArray) : Lib.splitB ⟨#[b]⟩ 0 (Lib.countB s ⟨#[b]⟩) s = (splitL b s.data.toList).map fun l => ⟨l.toArray⟩ := by
  have h := Lib.splitB_data ⟨#[b]⟩ 0 (Lib.countB s ⟨#[b]⟩) s
  have h2 : Lib.splitK ([b] : List UInt8) 0 (Lib.countB s ⟨#[b]⟩) s.data.toList = splitL b s.data.toList := splitK_L b _ _ (Nat.le_refl _)
  rw [show (({ data := #[b] } : ByteArray).data.toList) = [b] from rfl, h2] at h
  rw [← h, List.map_map]
  conv => lhs; rw [← List.map_id (Lib.splitB _ _ _ _)]
  rfl
end Go.Proofs.YthhcbgdngmajlaaDoor
