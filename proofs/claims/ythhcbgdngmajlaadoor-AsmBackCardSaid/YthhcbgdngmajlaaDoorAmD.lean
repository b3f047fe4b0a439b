/- The abstract machine: rounds that may make objects. No statement of the seat stands here. -/
import Derived.Test.YthhcbgdngmajlaaDoorAmC
namespace Go.AM
open Go
set_option linter.unusedSectionVars false
variable [Env]
section
variable {P : Program} {T : List (Nat × TI)} {pl : List (Nat × Bool × Plan)} {Q : Exit → AS → Prop} {k : List It} {st : AS}

/-- A loop whose rounds may make objects: which are kept is told at each round's end. -/
theorem leaf.loopV (fuel : Nat) (pl : List (Nat × Bool × Plan)) (hT : TOK P T) (hm : P.follows .mixedOrders = true) {α : Type} (ts hs : List Nat) (I : α → AS) (inv : α → Prop) (μ : α → Nat) (x0 : α) {c : Code} (hc : st.closed ts hs = true) (h0 : st.keep ts hs = I x0) (hi : inv x0) (hf : fitsC pl c = true) (hk : fitsK pl k = true)
    (round : ∀ x, inv x → ∀ J : AS → Prop, (J = fun s => ∃ hs', s.closed ts hs' = true ∧ ∃ y, s.keep ts hs' = I y ∧ inv y ∧ μ y < μ x) → AM.go P T pl Q fuel (.code c :: .lp J :: k) (I x)) : leaf P T Q (.code (.loop c) :: k) st := by
  refine leaf.keep ts hs rfl hc ?_
  rw [h0]
  refine AWP.loop (α := { x // inv x }) (fun x => I x.1) (fun x => μ x.1) ⟨x0, hi⟩ rfl fun x => ?_
  have := go_sound hT hm fuel (.code c :: .lp (fun s => ∃ hs', s.closed ts hs' = true ∧ ∃ y, s.keep ts hs' = I y ∧ inv y ∧ μ y < μ x.1) :: k) _ (by simp only [fitsK, Bool.and_eq_true]; exact ⟨hf, hk⟩) (round x.1 x.2 _ rfl)
  refine AWP.post_keep (AWP.mono this fun e s hq => ?_)
  cases e with
  | normal =>
    obtain ⟨hs', h1, y, h2, h3, h4⟩ := hq
    exact .inr ⟨ts, hs', h1, ⟨y, h3⟩, h2, h4⟩
  | exit id => exact .inl hq
  | goto l => exact .inl hq
  | ret => exact .inl hq
  | panic ch => exact .inl hq
  | outgrown => exact .inl hq
end
end Go.AM
