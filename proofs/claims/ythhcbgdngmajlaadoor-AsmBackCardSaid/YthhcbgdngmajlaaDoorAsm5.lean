/- Numbers and lines, written down. No statement of the seat stands here. -/
import Derived.Test.YthhcbgdngmajlaaDoorAsm3c
import Derived.Test.YthhcbgdngmajlaaDoorAsm4
set_option linter.unusedSimpArgs false
set_option linter.unusedSectionVars false
set_option maxRecDepth 100000
namespace Go.Proofs.YthhcbgdngmajlaaDoor
open Go Go.AM

/-- A number's digits. -/
def dec (n : Nat) : ByteArray := ⟨(Lib.decDigits n).toArray⟩
abbrev vu32 (n : Int) : V := .d (.val (.int .u32 n))
theorem nDigits_le (u : Nat) : Lib.nDigits u ≤ u + 1 := by
  induction u using Nat.strongRecOn with
  | _ u ih =>
    by_cases h : u < 10
    · rw [Lib.nDigits_small h]; omega
    · rw [Lib.nDigits_big h]; have := ih (u / 10) (by omega); omega
theorem dec_size (n : Nat) : (dec n).size ≤ n + 1 := by
  have : (dec n).size = (Lib.decDigits n).length := by simp [dec, ByteArray.size]
  rw [this, Lib.decDigits_length]; exact nDigits_le n
theorem enc_digit (d : Nat) (h : d < 10) : Utf8.encode (48 + d) = ⟨#[UInt8.ofNat (48 + d)]⟩ := by
  have : d = 0 ∨ d = 1 ∨ d = 2 ∨ d = 3 ∨ d = 4 ∨ d = 5 ∨ d = 6 ∨ d = 7 ∨ d = 8 ∨ d = 9 := by omega
  rcases this with h | h | h | h | h | h | h | h | h | h <;> subst h <;> rfl
theorem dec_small (x : Nat) (h : x < 10) : dec x = ⟨#[UInt8.ofNat (48 + x % 10)]⟩ := by
  unfold dec; rw [Lib.decDigits_one h, Nat.mod_eq_of_lt h]
theorem dec_big (x : Nat) (h : ¬ x < 10) : dec x = dec (x / 10) ++ ⟨#[UInt8.ofNat (48 + x % 10)]⟩ := by
  unfold dec
  conv => lhs; rw [Lib.decDigits]
  rw [dif_neg h]
  apply ByteArray.ext
  simp

variable [SE]

set_option maxHeartbeats 4000000 in
theorem pc46 (n : Nat) (hn : n < 4294967296) : PC Tryd.prog 46 [] [vu32 n] (fun r h => h = [] ∧ r = vs (dec n)) := by
  refine PC.go 300 [] TTok rfl Tryd.func46 (by kernel_rfl) rfl Tryd.ntmps46 (rs := [.tmp 2]) rfl rfl rfl (by kernel_rfl) ?_
  intro Q hQ
  simp (maxSteps := 9000000) only [go_sem, scrubT, scrubH, Nat.reducePow, Nat.reduceLT, Int.reduceToNat, Int.reduceLE, Int.reduceLT, Int.reduceEq, Int.reduceAdd, Int.reduceSub, Int.reduceMul, Nat.reduceAdd, Nat.reduceMul, Nat.reduceSub, Nat.reduceLeDiff, Nat.reduceEqDiff, Int.reduceNe, ↓reduceIte, ↓way_true, ↓way_false, ↓way_not, ↓way_dec, lk9, ti9, lk21, ti21, lk30, ti30]
  refine leaf.loop 300 [] TTok rfl (α := Nat × ByteArray) [0, 3] [] (fun x => { n := 16, t := [(0, vu32 x.1), (3, vs x.2)], h := [] }) (fun x => dec n = dec x.1 ++ x.2 ∧ x.1 < 4294967296) (fun x => x.1) (n, B []) rfl rfl ⟨by simp [B, ByteArray.ext_iff], hn⟩ rfl (by kernel_rfl) ?_
  rintro ⟨x, s⟩ ⟨h1, h2⟩ J hJ
  have hsz : s.size ≤ n + 1 := by
    have := dec_size n
    rw [h1, ByteArray.size_append] at this; simp only at this; omega
  have e1 : IntKind.i32.wrap (IntKind.u32.wrap (48 + (x : Int).tmod 10)) = 48 + ((x % 10 : Nat) : Int) := by
    rw [Int.tmod_eq_emod_of_nonneg (by omega), wu32 (by omega) (by omega), wi32 (by omega) (by omega)]
    omega
  have e2 : IntKind.u32.wrap ((x : Int).tdiv 10) = ((x / 10 : Nat) : Int) := by
    rw [Int.tdiv_eq_ediv_of_nonneg (by omega), wu32 (by omega) (by omega)]
    omega
  simp only at h1 h2
  simp (maxSteps := 9000000) only [go_sem, scrubT, scrubH, Nat.reducePow, Nat.reduceLT, Int.reduceToNat, Int.reduceLE, Int.reduceLT, Int.reduceEq, Int.reduceAdd, Int.reduceSub, Int.reduceMul, Nat.reduceAdd, Nat.reduceMul, Nat.reduceSub, Nat.reduceLeDiff, Nat.reduceEqDiff, Int.reduceNe, ↓reduceIte, ↓way_true, ↓way_false, ↓way_not, ↓way_dec, lk9, ti9, lk21, ti21, lk30, ti30, e1, e2, enc_digit (x % 10) (by omega)]
  refine ⟨?_, fun _ => ⟨fun h3 => ?_, fun h3 => ?_⟩⟩
  · show 1 + s.size ≤ LMAX
    unfold LMAX; omega
  · subst hQ
    simp only [retQ, ares, aress, ares1, lkp, Option.getD_some, Nat.reduceEqDiff, ↓reduceIte, true_and, lk9, ti9, lk21, ti21, lk30, ti30]
    rw [h1, dec_small x (by omega)]
  · subst hJ
    refine ⟨rfl, (x / 10, _), rfl, ⟨?_, ?_⟩, ?_⟩
    · rw [h1, dec_big x (by omega), ByteArray.append_assoc]
    · show x / 10 < _; omega
    · show x / 10 < x; omega

theorem pc46' (k : Int) (h0 : 0 ≤ k) (h1 : k < 4294967296) : PC Tryd.prog 46 [] [vu32 k] (fun r h => h = [] ∧ r = vs (dec k.toNat)) := by
  have := pc46 k.toNat (by omega)
  rwa [Int.toNat_of_nonneg h0] at this

/-- Which numbers a form shows. -/
def shK (f : Int) : Bool := !decide (f = 0) && !decide (f = 6)
def shJ (f : Int) : Bool := decide (f = 5) || decide (f = 6)
/-- An instruction's line. -/
def lineOf (x : In) : ByteArray :=
  let s := (name x.code).1
  let s := if shK (form x.code) then s ++ (B [32] ++ dec x.k.toNat) else s
  if shJ (form x.code) then s ++ (B [32] ++ dec x.jt.toNat ++ B [32] ++ dec x.jf.toNat) else s
theorem name_small {c : Int} (h0 : 0 ≤ c) : (name c).1.size ≤ 8 := by
  have : ∀ n : Fin 256, (name (n.1 : Int)).1.size ≤ 8 := by decide +kernel
  by_cases h : 256 ≤ c
  · rw [name_above h]; decide
  · have := this ⟨c.toNat, by omega⟩
    simp only [Int.toNat_of_nonneg h0] at this
    exact this

def pl18 : List (Nat × Bool × Plan) := [(6, true, .take 0 (.take 1 (.take 2 (.take 3 (.take 7 (.take 8 (.take 9 (.alt 4 (.take 5 (.take 6 (.alt 10 (.take 11 (.take 12 (.take 13 (.done)))) (.fin)))) (.fin)))))))))]
set_option maxHeartbeats 4000000 in
theorem pc18 (x : In) (hx : x.ok) : PC Tryd.prog 18 [] [.dagg x.row] (fun r h => h = [] ∧ r = vs (lineOf x)) := by
  refine PC.pure ?_
  refine PC.go 300 pl18 TTok rfl Tryd.func18 (by kernel_rfl) rfl Tryd.ntmps18 (rs := [.tmp 2]) rfl rfl rfl (by kernel_rfl) ?_
  intro Q hQ
  simp (maxSteps := 9000000) only [go_sem, scrubT, scrubH, Nat.reducePow, Nat.reduceLT, Int.reduceToNat, Int.reduceLE, Int.reduceLT, Int.reduceEq, Int.reduceAdd, Int.reduceSub, Int.reduceMul, Nat.reduceAdd, Nat.reduceMul, Nat.reduceSub, Nat.reduceLeDiff, Nat.reduceEqDiff, Int.reduceNe, ↓reduceIte, ↓way_true, ↓way_false, ↓way_not, ↓way_dec, pl18, lk3, ti3, lk5, ti5, lk9, ti9, lk21, ti21, lk29, ti29, lk30, ti30, lk32, ti32, In.row]
  refine leaf.call1 300 pl18 TTok rfl (pc45 x.code hx.c0) rfl rfl rfl rfl rfl rfl rfl (by kernel_rfl) ?_
  rintro r h' ⟨rfl, rfl⟩
  refine ⟨rfl, ?_⟩
  simp (maxSteps := 9000000) only [go_sem, scrubT, scrubH, Nat.reducePow, Nat.reduceLT, Int.reduceToNat, Int.reduceLE, Int.reduceLT, Int.reduceEq, Int.reduceAdd, Int.reduceSub, Int.reduceMul, Nat.reduceAdd, Nat.reduceMul, Nat.reduceSub, Nat.reduceLeDiff, Nat.reduceEqDiff, Int.reduceNe, ↓reduceIte, ↓way_true, ↓way_false, ↓way_not, ↓way_dec, pl18, lk3, ti3, lk5, ti5, lk9, ti9, lk21, ti21, lk29, ti29, lk30, ti30, lk32, ti32]
  refine leaf.call1 300 pl18 TTok rfl (pc35 x.code hx.c0) rfl rfl rfl rfl rfl rfl rfl (by kernel_rfl) ?_
  rintro r h' ⟨rfl, rfl⟩
  refine ⟨rfl, ?_⟩
  simp (maxSteps := 9000000) only [go_sem, scrubT, scrubH, Nat.reducePow, Nat.reduceLT, Int.reduceToNat, Int.reduceLE, Int.reduceLT, Int.reduceEq, Int.reduceAdd, Int.reduceSub, Int.reduceMul, Nat.reduceAdd, Nat.reduceMul, Nat.reduceSub, Nat.reduceLeDiff, Nat.reduceEqDiff, Int.reduceNe, ↓reduceIte, ↓way_true, ↓way_false, ↓way_not, ↓way_dec, pl18, lk3, ti3, lk5, ti5, lk9, ti9, lk21, ti21, lk29, ti29, lk30, ti30, lk32, ti32]
  have b1 := name_small hx.c0
  have b2 := dec_size x.k.toNat
  have b3 := dec_size x.jt.toNat
  have b4 := dec_size x.jf.toNat
  have b5 := hx.k1; have b6 := hx.t1; have b7 := hx.f1
  have b8 : (B [32]).size = 1 := rfl
  have e1 : IntKind.u32.wrap x.jt = x.jt := wu32 hx.t0 (by have := hx.t1; omega)
  have e2 : IntKind.u32.wrap x.jf = x.jf := wu32 hx.f0 (by have := hx.f1; omega)
  refine ⟨fun h1 => ?_, fun h1 => ?_⟩
  · refine leaf.call1 300 pl18 TTok rfl (pc46' x.k hx.k0 hx.k1) rfl rfl rfl rfl rfl rfl rfl (by kernel_rfl) ?_
    rintro r h' ⟨rfl, rfl⟩
    refine ⟨rfl, ?_⟩
    simp (maxSteps := 9000000) only [go_sem, scrubT, scrubH, Nat.reducePow, Nat.reduceLT, Int.reduceToNat, Int.reduceLE, Int.reduceLT, Int.reduceEq, Int.reduceAdd, Int.reduceSub, Int.reduceMul, Nat.reduceAdd, Nat.reduceMul, Nat.reduceSub, Nat.reduceLeDiff, Nat.reduceEqDiff, Int.reduceNe, ↓reduceIte, ↓way_true, ↓way_false, ↓way_not, ↓way_dec, pl18, lk3, ti3, lk5, ti5, lk9, ti9, lk21, ti21, lk29, ti29, lk30, ti30, lk32, ti32]
    refine ⟨by unfold LMAX; omega, fun _ => ⟨by unfold LMAX; omega, fun _ => ?_⟩⟩
    simp only [e1, e2]
    refine ⟨fun h2 => ?_, fun h2 => ?_⟩
    · refine leafOp.call1 300 pl18 TTok rfl (pc46' x.jt hx.t0 (by omega)) rfl rfl rfl rfl rfl rfl rfl rfl (by kernel_rfl) ?_
      rintro r h' ⟨rfl, rfl⟩
      refine ⟨rfl, ?_⟩
      simp (maxSteps := 9000000) only [go_sem, scrubT, scrubH, Nat.reducePow, Nat.reduceLT, Int.reduceToNat, Int.reduceLE, Int.reduceLT, Int.reduceEq, Int.reduceAdd, Int.reduceSub, Int.reduceMul, Nat.reduceAdd, Nat.reduceMul, Nat.reduceSub, Nat.reduceLeDiff, Nat.reduceEqDiff, Int.reduceNe, ↓reduceIte, ↓way_true, ↓way_false, ↓way_not, ↓way_dec, pl18, lk3, ti3, lk5, ti5, lk9, ti9, lk21, ti21, lk29, ti29, lk30, ti30, lk32, ti32]
      refine ⟨by unfold LMAX; omega, fun _ => ⟨by unfold LMAX; omega, fun _ => ?_⟩⟩
      refine leafOp.call1 300 pl18 TTok rfl (pc46' x.jf hx.f0 (by omega)) rfl rfl rfl rfl rfl rfl rfl rfl (by kernel_rfl) ?_
      rintro r h' ⟨rfl, rfl⟩
      refine ⟨rfl, ?_⟩
      simp (maxSteps := 9000000) only [go_sem, scrubT, scrubH, Nat.reducePow, Nat.reduceLT, Int.reduceToNat, Int.reduceLE, Int.reduceLT, Int.reduceEq, Int.reduceAdd, Int.reduceSub, Int.reduceMul, Nat.reduceAdd, Nat.reduceMul, Nat.reduceSub, Nat.reduceLeDiff, Nat.reduceEqDiff, Int.reduceNe, ↓reduceIte, ↓way_true, ↓way_false, ↓way_not, ↓way_dec, pl18, lk3, ti3, lk5, ti5, lk9, ti9, lk21, ti21, lk29, ti29, lk30, ti30, lk32, ti32]
      refine ⟨by unfold LMAX; omega, fun _ => ⟨by unfold LMAX; omega, fun _ => ?_⟩⟩
      subst hQ
      simp only [retQ, ares, aress, ares1, lkp, Option.getD_some, Nat.reduceEqDiff, ↓reduceIte, true_and, lk3, ti3, lk5, ti5, lk9, ti9, lk21, ti21, lk29, ti29, lk30, ti30, lk32, ti32]
      exact ⟨rfl, by rw [show lineOf x = _ from rfl]; simp only [lineOf, shK, shJ, h1, h2]; rfl⟩
    · subst hQ
      simp only [retQ, ares, aress, ares1, lkp, Option.getD_some, Nat.reduceEqDiff, ↓reduceIte, true_and, lk3, ti3, lk5, ti5, lk9, ti9, lk21, ti21, lk29, ti29, lk30, ti30, lk32, ti32]
      exact ⟨rfl, by rw [show lineOf x = _ from rfl]; simp only [lineOf, shK, shJ, h1, h2]; rfl⟩
  · simp only [e1, e2]
    refine ⟨fun h2 => ?_, fun h2 => ?_⟩
    · refine leafOp.call1 300 pl18 TTok rfl (pc46' x.jt hx.t0 (by omega)) rfl rfl rfl rfl rfl rfl rfl rfl (by kernel_rfl) ?_
      rintro r h' ⟨rfl, rfl⟩
      refine ⟨rfl, ?_⟩
      simp (maxSteps := 9000000) only [go_sem, scrubT, scrubH, Nat.reducePow, Nat.reduceLT, Int.reduceToNat, Int.reduceLE, Int.reduceLT, Int.reduceEq, Int.reduceAdd, Int.reduceSub, Int.reduceMul, Nat.reduceAdd, Nat.reduceMul, Nat.reduceSub, Nat.reduceLeDiff, Nat.reduceEqDiff, Int.reduceNe, ↓reduceIte, ↓way_true, ↓way_false, ↓way_not, ↓way_dec, pl18, lk3, ti3, lk5, ti5, lk9, ti9, lk21, ti21, lk29, ti29, lk30, ti30, lk32, ti32]
      refine ⟨by unfold LMAX; omega, fun _ => ⟨by unfold LMAX; omega, fun _ => ?_⟩⟩
      refine leafOp.call1 300 pl18 TTok rfl (pc46' x.jf hx.f0 (by omega)) rfl rfl rfl rfl rfl rfl rfl rfl (by kernel_rfl) ?_
      rintro r h' ⟨rfl, rfl⟩
      refine ⟨rfl, ?_⟩
      simp (maxSteps := 9000000) only [go_sem, scrubT, scrubH, Nat.reducePow, Nat.reduceLT, Int.reduceToNat, Int.reduceLE, Int.reduceLT, Int.reduceEq, Int.reduceAdd, Int.reduceSub, Int.reduceMul, Nat.reduceAdd, Nat.reduceMul, Nat.reduceSub, Nat.reduceLeDiff, Nat.reduceEqDiff, Int.reduceNe, ↓reduceIte, ↓way_true, ↓way_false, ↓way_not, ↓way_dec, pl18, lk3, ti3, lk5, ti5, lk9, ti9, lk21, ti21, lk29, ti29, lk30, ti30, lk32, ti32]
      refine ⟨by unfold LMAX; omega, fun _ => ⟨by unfold LMAX; omega, fun _ => ?_⟩⟩
      subst hQ
      simp only [retQ, ares, aress, ares1, lkp, Option.getD_some, Nat.reduceEqDiff, ↓reduceIte, true_and, lk3, ti3, lk5, ti5, lk9, ti9, lk21, ti21, lk29, ti29, lk30, ti30, lk32, ti32]
      exact ⟨rfl, by rw [show lineOf x = _ from rfl]; simp only [lineOf, shK, shJ, h1, h2]; rfl⟩
    · subst hQ
      simp only [retQ, ares, aress, ares1, lkp, Option.getD_some, Nat.reduceEqDiff, ↓reduceIte, true_and, lk3, ti3, lk5, ti5, lk9, ti9, lk21, ti21, lk29, ti29, lk30, ti30, lk32, ti32]
      exact ⟨rfl, by rw [show lineOf x = _ from rfl]; simp only [lineOf, shK, shJ, h1, h2]; rfl⟩

theorem pc42' (k : Int) (h0 : 0 ≤ k) (h1 : k < 4294967296) : PC Tryd.prog 42 [] [vu64 k, vi 10] (fun r h => h = [] ∧ r = vs (dec k.toNat)) := by
  have := pc42 k.toNat (by omega)
  rwa [Int.toNat_of_nonneg h0] at this
theorem pc43' (k : Int) (h0 : 0 ≤ k) (h1 : k < 256) : PC Tryd.prog 43 [] [vi k] (fun r h => h = [] ∧ r = vs (dec k.toNat)) := by
  have := pc43 k (by omega) (by omega)
  have e : Lib.itoa k = Lib.decDigits k.toNat := by unfold Lib.itoa; rw [if_neg (by omega)]
  rwa [e] at this
end Go.Proofs.YthhcbgdngmajlaaDoor
