/- Instructions that come in. No statement of the seat stands here. -/
import Derived.Test.YthhcbgdngmajlaaDoorAsm1
import Derived.Test.YthhcbgdngmajlaaDoorAmC
set_option maxRecDepth 100000
namespace Go.Proofs.YthhcbgdngmajlaaDoor
open Go Go.AM

def shIn : Sh := .agg [.int .u16, .int .u8, .int .u8, .int .u32]
theorem shInOK : ShOK Tryd.prog shIn 32 := ⟨_, Tryd.underlying32, by kernel_rfl, rfl, by kernel_rfl, Tryd.underlying29, rfl, by kernel_rfl, Tryd.underlying5, rfl, by kernel_rfl, Tryd.underlying5, rfl, by kernel_rfl, Tryd.underlying30, trivial⟩
theorem shIns : ShOK Tryd.prog (.sl shIn) 24 := ⟨_, Tryd.underlying24, by kernel_rfl, by decide, of_decide_eq_true (by kernel_rfl), shInOK⟩
theorem shInss : ShOK Tryd.prog (.sl (.sl shIn)) 40 := ⟨_, Tryd.underlying40, by kernel_rfl, by decide, of_decide_eq_true (by kernel_rfl), shIns⟩
theorem in_of {r : List D} (h : ShTy shIn r) : ∃ x : In, x.ok ∧ r = x.row := by
  obtain ⟨_, _, rfl, ⟨c, rfl, hc⟩, _, _, rfl, ⟨t, rfl, ht⟩, _, _, rfl, ⟨f, rfl, hf⟩, _, _, rfl, ⟨k, rfl, hk⟩, rfl⟩ := h
  have b16 : 0 ≤ c ∧ c < 65536 := by simp [Lit.wf, IntKind.has, IntKind.min, IntKind.max, IntKind.signed, IntKind.bits] at hc; omega
  have b8 : 0 ≤ t ∧ t < 256 := by simp [Lit.wf, IntKind.has, IntKind.min, IntKind.max, IntKind.signed, IntKind.bits] at ht; omega
  have b8' : 0 ≤ f ∧ f < 256 := by simp [Lit.wf, IntKind.has, IntKind.min, IntKind.max, IntKind.signed, IntKind.bits] at hf; omega
  have b32 : 0 ≤ k ∧ k < 4294967296 := by simp [Lit.wf, IntKind.has, IntKind.min, IntKind.max, IntKind.signed, IntKind.bits] at hk; omega
  exact ⟨⟨c, t, f, k⟩, ⟨b16.1, b16.2, b8.1, b8.2, b8'.1, b8'.2, b32.1, b32.2⟩, rfl⟩
theorem rows_of : ∀ (rows : List (List D)), (∀ r ∈ rows, ShTy shIn r) → ∃ l : List In, rows = l.map In.row ∧ ∀ x ∈ l, x.ok
  | [], _ => ⟨[], rfl, fun x h => by cases h⟩
  | r :: rs, h => by
    obtain ⟨x, hx, rfl⟩ := in_of (h r (by simp))
    obtain ⟨l, rfl, hl⟩ := rows_of rs fun r hr => h r (by simp [hr])
    refine ⟨x :: l, rfl, fun y hy => ?_⟩
    rcases List.mem_cons.1 hy with e | e
    · subst e; exact hx
    · exact hl y e
theorem rowss_of : ∀ (rows : List (List D)), (∀ r ∈ rows, ShTy (.sl shIn) r) → ∃ l : List (List In), rows = l.map (fun r => [D.sl 4 (r.map In.row)]) ∧ ∀ r ∈ l, ∀ x ∈ r, x.ok
  | [], _ => ⟨[], rfl, fun x h => by cases h⟩
  | r :: rs, h => by
    obtain ⟨rows, rfl, _, hr⟩ := h r (by simp)
    obtain ⟨x, rfl, hx⟩ := rows_of rows hr
    obtain ⟨l, rfl, hl⟩ := rowss_of rs fun r hr => h r (by simp [hr])
    refine ⟨x :: l, rfl, fun y hy => ?_⟩
    rcases List.mem_cons.1 hy with e | e
    · subst e; exact hx
    · exact hl y e
end Go.Proofs.YthhcbgdngmajlaaDoor
