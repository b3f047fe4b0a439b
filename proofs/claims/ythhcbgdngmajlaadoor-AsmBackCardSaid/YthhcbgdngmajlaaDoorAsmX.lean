/- Programs and their texts lead back to one another: the law's row and its tied card. No condition. -/
import Derived.Test.YthhcbgdngmajlaaDoorAsmR
import Derived.Test.YthhcbgdngmajlaaDoorAsmI
import Derived.Test.YthhcbgdngmajlaaDoorAsm15
import Derived.Test.YthhcbgdngmajlaaDoorAsm28
set_option maxRecDepth 100000
set_option linter.unusedSimpArgs false
namespace Go.Proofs.YthhcbgdngmajlaaDoor
open Go Go.AM Go.ChangeShapes Go.WideShapes Go.ChangeAt Go.RowKit

theorem calls6 {H : Type} {enc : TypeId × Value → H} {W : World} {base : Nat} {args : Array Value} {ds : List (DataW H)} {p : List MemPlace} (hL : laidMetH Tryd.prog laids W) (hsh : W.ShapedOpen Tryd.prog)
    (hval : ∀ (j : Nat) t v, Tryd.f6.params[j]? = some t → args[j]? = some v → Value.okWide Tryd.prog W .any base t v)
    (hA : DataW.TrodAll enc Tryd.prog W 0 (fun _ => true) true Tryd.f6.params.toList args.toList ds p) (hw : ∀ x ∈ DataW.weightsEach Tryd.prog Tryd.f6.params.toList ds, x ≤ reachBytes) :
    Calls Tryd.prog 6 args W fun e w' => e = .returned (.bool true) ∧ Quiet W w' := by
  obtain ⟨se, hE⟩ := world_env hL hsh
  have hs : ShOKl Tryd.prog [.sl shIn, .str] Tryd.f6.params.toList := by
    rw [Tryd.params6]
    exact ⟨shIns, Tryd.underlying9, trivial⟩
  obtain ⟨xs, x1, x2⟩ := VEncs_of_trodAll (k := K0 W) rfl hs (fun j t v ht hv => hval j t v (by rw [← Array.getElem?_toList]; exact ht) (by rw [← Array.getElem?_toList]; exact hv)) hA hw
  match xs, x1 with
  | [a, b], ⟨⟨_, e1, rows, h1, hl, h2⟩, ⟨_, e2, s2, h3, _⟩, _⟩ =>
    cases h1; cases h3; subst e1; subst e2
    obtain ⟨l, rfl, hok⟩ := rows_of rows h2
    exact PC.calls (pc6 l s2 hok pc7) hE x2

theorem lifted6 (os : Os) (started : os.Started) (H : Type) (enc : TypeId × Value → H) (F : Stop.Interp) :
    ReturnsInHanded {} Tryd.checked os 6 .any ((OpenSpec.ofChange Rows.asmBackSpec).preRow enc Tryd.prog Tryd.f6 Rows.asmBackRow.domain false Rows.asmBackRow.laid) (((OpenSpec.ofChange Rows.asmBackSpec).at F).post enc Tryd.prog Tryd.f6 false true false false) := by
  have hx : ∃ places, DataW.whole enc Tryd.prog ((laidW os).forCall (fun _ _ => 0) ⟨#[], #[.slice none 0 0, .string ⟨#[]⟩], []⟩).memory Tryd.f6.params.toList Rows.asmBackSpec.vars false #[.slice none 0 0, .string ⟨#[]⟩].toList 8 = some ([.nil, .lit (.string [])], [], places) := ⟨[], by kernel_rfl⟩
  obtain ⟨places, hx⟩ := hx
  refine returnsInHanded_of_row (C := Tryd.checked) (s := OpenSpec.ofChange Rows.asmBackSpec) ownKnobs started (by kernel_rfl) Tryd.func6
    (witness_row_atRef (enc := enc) (C := Tryd.checked) false (laidW os) #[.slice none 0 0, .string ⟨#[]⟩] (World.laidAll_os _ _ _) (by kernel_rfl) (by kernel_rfl) (by kernel_rfl)
      (OpenSpec.preRow_of_cond 8 hx (by kernel_rfl) (fun k hk => by cases hk) (by kernel_rfl) (laidW_met os _))) ?_
  intro W base args ds gs before hval hW _ _ hwt hL hsh _
  have hW' := hW
  obtain ⟨p, q, hA, hV, _, _, _⟩ := hW'
  obtain ⟨rfl, rfl⟩ : gs = [] ∧ q = [] := by
    cases gs with
    | nil => exact ⟨rfl, hV⟩
    | cons g r => exact absurd hV (by intro h; cases h)
  refine law_post (s := Rows.asmBackSpec) laidOut rfl (by kernel_rfl) Tryd.underlying4 (by kernel_rfl) (fun ds hds => ?_) hW (calls6 hL hsh hval hA fun x hx => ?_)
  · rw [Tryd.params6] at hds
    match ds, hds with
    | [a0, a1], _ => rfl
  · have hv : (OpenSpec.ofChange Rows.asmBackSpec).bare.plain.varTypes Tryd.checked.prog = [] := rfl
    rw [hv, List.append_nil, List.append_nil] at hwt
    have := List.all_eq_true.1 hwt x hx
    simpa using this

theorem said6 : Rows.AsmBackSaid :=
  OpenClaim.holds_of_cond 6 Tryd.f6 rfl rfl rfl rfl rfl rfl rfl ⟨rfl, rfl, rfl, rfl, rfl⟩ rfl rfl rfl rfl rfl (by kernel_rfl) Tryd.func6 (by kernel_rfl)
    (of_decide_eq_true (by kernel_rfl)) (by unfold Func.isWrapper; first | (rw [if_pos (by decide +kernel)]; kernel_rfl) | (rw [if_neg (by decide +kernel)]; exact ⟨rfl, rfl⟩))
    (fun os started H enc _ F => by rw [OpenClaim.pre_eq_preRow]; exact lifted6 os started H enc F)

theorem plain6 (f : FuncId) (fn : Func) (hf : Tryd.pinned.checked.prog.funcNamed "wicketgate/wicketgatelaw08.AsmBack" = some f) (hfn : Tryd.pinned.checked.prog.funcs[f]? = some fn) :
    true = Tryd.pinned.checked.prog.looks [] ∧ ∀ (j : Nat) t, fn.params[j]? = some t → Tryd.pinned.checked.prog.wantsStandIn t = false := by
  obtain rfl : f = 6 := Option.some.inj ((show Tryd.prog.funcNamed "wicketgate/wicketgatelaw08.AsmBack" = some 6 by kernel_rfl).symm.trans hf) |>.symm
  obtain rfl : fn = Tryd.f6 := (Option.some.inj (Tryd.func6.symm.trans hfn)).symm
  refine ⟨by kernel_rfl, fun j t ht => ?_⟩
  rw [Tryd.params6] at ht
  have hm : t ∈ [24, 9] := by simpa using Array.mem_of_getElem? ht
  have hall : ([24, 9].all fun u => !Tryd.prog.wantsStandIn u) = true := by kernel_rfl
  exact (show Tryd.prog.wantsStandIn t = false by simpa using List.all_eq_true.1 hall t hm)

/-- THE CARD. -/
theorem asmBackCard : Rows.AsmBackCardSaid :=
  Claim7.holds_tied_plain_at .later [] _ _ _ _ said6 (fun _ h => by cases h) (by kernel_rfl) (fun _ h => by cases h) asmBack_row_tie rfl ⟨rfl, rfl⟩ (by kernel_rfl) rfl plain6 (by kernel_rfl)
#print axioms asmBackCard
end Go.Proofs.YthhcbgdngmajlaaDoor
