/- A world in which the listed variables lie, as the machine takes it; the witness of every row. No statement of the seat stands here. -/
import Derived.Test.YthhcbgdngmajlaaDoorAsm4
import Derived.Test.YthhcbgdngmajlaaDoorAmC
import Derived.Test.YthhcbgdngmajlaaDoorCards
import Derived.Test.YthhcbgdngmajlaaDoorTie
import Derived.Lib.LaidTab
import Derived.Stop.LaidErr
import Derived.Shelf.Vars
set_option maxRecDepth 100000
namespace Go.Proofs.YthhcbgdngmajlaaDoor
open Go Go.AM Go.ChangeShapes Go.WideShapes Go.ChangeAt Go.RowKit

/-- What every row of the seat lists. -/
def laids : List (String × DataW Unit) := [("math/bits.deBruijn32tab", Rows.laid_math_bits_deBruijn32tab), ("math/bits.deBruijn64tab", Rows.laid_math_bits_deBruijn64tab), ("internal/strconv.uint64pow10", Rows.laid_internal_strconv_uint64pow10), ("unicode/utf8.acceptRanges", Rows.laid_unicode_utf8_acceptRanges), ("strconv.ErrRange", Rows.laid_strconv_ErrRange), ("strconv.ErrSyntax", Rows.laid_strconv_ErrSyntax), ("unicode/utf8.first", Rows.laid_unicode_utf8_first)]

theorem ownKnobs : ownKnob Tryd.prog.godebug = none := by kernel_rfl

theorem laid_at {P : Program} {w : World} : ∀ {l : List (String × DataW Unit)} {ps : List MemPlace} {n : String} {d : DataW Unit}, DataW.LaidVars P w l ps → (n, d) ∈ l →
    ∃ g t cs fuel p, P.globalNamed n = some g ∧ (P.globals[g]?).map (·.type) = some t ∧ w.var? P n = some cs ∧ DataW.trod (fun _ => ()) P w 0 (fun _ => true) false fuel t cs.toList = some (d, p)
  | (n', d') :: r, ps, n, d, h, hm => by
    obtain ⟨g, t, cs, fuel, p, q, h1, h2, h3, h4, h5, _⟩ := h
    rcases List.mem_cons.1 hm with e | e
    · cases e; exact ⟨g, t, cs, fuel, p, h1, h2, h3, h4⟩
    · exact laid_at h5 e

theorem heap_of_var {P : Program} {w : World} {n : String} {g : Nat} {cs : Array Value} (hg : P.globalNamed n = some g) (h : w.var? P n = some cs) : ∃ t fz, w.heap[g]? = some (.cells cs t fz) := by
  simp only [World.var?, hg, Option.bind_some] at h
  split at h
  · rename_i c t fz hc; cases h; exact ⟨t, fz, hc⟩
  · cases h

theorem iface_of_trod {H : Type} {enc : TypeId × Value → H} {P : Program} {w : World} {base : Nat} {sp : Nat → Bool} {fuel : Nat} {t : TypeId} {cs : List Value} {n : String} {d : DataW H} {p : List MemPlace} {ms : Array (String × TypeId)} (ht : P.underlying t = some (.interface ms))
    (h : DataW.trod enc P w base sp false fuel t cs = some (.iface n d, p)) : ∃ u v, cs = [.iface u v] := by
  cases fuel with
  | zero => simp [DataW.trod] at h
  | succ k =>
    unfold DataW.trod at h
    rw [ht] at h
    split at h <;> rename_i heq <;> first | (cases heq; done) | skip
    all_goals first | (cases h; done) | exact ⟨_, _, rfl⟩

abbrev mkSE (m : Int) (ts : TypeId) (ps : Value) (tr : TypeId) (pr : Value) : SE where
  E := fun g => match g with
    | 0 => some ([Value.int .i64 m].map D.val)
    | 1 => some ((Lib.pow10Tab.map fun z => Value.int .u64 z).map D.val)
    | 2 => some ([Value.iface ts ps].map D.val)
    | 3 => some ([Value.iface tr pr].map D.val)
    | _ => none
  m := m
  ts := ts
  ps := ps
  tr := tr
  pr := pr
  e0 := rfl
  e1 := rfl
  e2 := rfl
  e3 := rfl

theorem vals_enc (S : Nat → Prop) (w : World) : ∀ (l : List Value), (∀ c ∈ l, c.oneCell' = true) → DEncs S w (l.map .val) l
  | [], _ => trivial
  | v :: vs, h => ⟨⟨rfl, h v (by simp)⟩, vals_enc S w vs fun c hc => h c (by simp [hc])⟩

theorem envOf_block {w : World} {g : Nat} {vals : List Value} {t : TypeId} {fz : Nat × Nat} (h : w.heap[g]? = some (.cells vals.toArray t fz)) (h1 : ∀ v ∈ vals, v.oneCell' = true) :
    allS w g ∧ CellsAt (allS w) w (vals.map .val) g 0 ∧ ∃ cs ty fz, w.heap[g]? = some (Obj.cells cs ty fz) ∧ cs.size = (vals.map D.val).length :=
  ⟨(Array.getElem?_eq_some_iff.1 h).1, CellsAt.of_encs (vals_enc _ _ _ h1) (rangeAt_of_block h fun j v hj => by rw [Nat.zero_add, List.getElem?_toArray]; exact hj), _, _, _, h, by simp⟩

/-- THE WORLD OF A ROW: its variables hold what the machine asks. -/
theorem world_env {W : World} (hL : laidMetH Tryd.prog laids W) (hsh : W.ShapedOpen Tryd.prog) : ∃ se : SE, @EnvOK se.toEnv (allS W) W := by
  rw [MakeChecks.laidMetH_plain _ _ _ (by kernel_rfl)] at hL
  obtain ⟨qs, hl, _, _⟩ := hL
  obtain ⟨m, hm⟩ := cell_of_shapedOpen_int (P := Tryd.prog) (g := 0) (t := 3) (zero := #[.int .i64 0]) hsh (of_decide_eq_true (by kernel_rfl)) (by kernel_rfl) rfl (by kernel_rfl) (by kernel_rfl) Tryd.underlying3
  obtain ⟨g1, t1, c1, f1, p1, a1, b1, d1, e1⟩ := laid_at hl (show ("internal/strconv.uint64pow10", Rows.laid_internal_strconv_uint64pow10) ∈ laids from by simp [laids])
  obtain ⟨g2, t2, c2, f2, p2, a2, b2, d2, e2⟩ := laid_at hl (show ("strconv.ErrSyntax", Rows.laid_strconv_ErrSyntax) ∈ laids from by simp [laids])
  obtain ⟨g3, t3, c3, f3, p3, a3, b3, d3, e3⟩ := laid_at hl (show ("strconv.ErrRange", Rows.laid_strconv_ErrRange) ∈ laids from by simp [laids])
  obtain rfl := Option.some.inj ((show Tryd.prog.globalNamed "internal/strconv.uint64pow10" = some 1 by kernel_rfl).symm.trans a1)
  obtain rfl := Option.some.inj ((show Tryd.prog.globalNamed "strconv.ErrSyntax" = some 2 by kernel_rfl).symm.trans a2)
  obtain rfl := Option.some.inj ((show Tryd.prog.globalNamed "strconv.ErrRange" = some 3 by kernel_rfl).symm.trans a3)
  obtain rfl := Option.some.inj ((show (Tryd.prog.globals[1]?).map (·.type) = some 134 by kernel_rfl).symm.trans b1)
  obtain rfl := Option.some.inj ((show (Tryd.prog.globals[2]?).map (·.type) = some 78 by kernel_rfl).symm.trans b2)
  obtain rfl := Option.some.inj ((show (Tryd.prog.globals[3]?).map (·.type) = some 78 by kernel_rfl).symm.trans b3)
  have k1 := Lib.cells_of_tab (zs := Lib.pow10Tab) Tryd.underlying134 Tryd.underlying72 (by kernel_rfl) (by kernel_rfl) e1
  obtain ⟨u2, v2, k2⟩ := iface_of_trod Tryd.underlying78 e2
  obtain ⟨u3, v3, k3⟩ := iface_of_trod Tryd.underlying78 e3
  obtain ⟨ty1, fz1, h1⟩ := heap_of_var (by kernel_rfl) d1
  obtain ⟨ty2, fz2, h2⟩ := heap_of_var (by kernel_rfl) d2
  obtain ⟨ty3, fz3, h3⟩ := heap_of_var (by kernel_rfl) d3
  obtain ⟨cs0, h0, hs0, _⟩ := hsh.1 0 #[.int .i64 0] 3 (of_decide_eq_true (by kernel_rfl)) (by kernel_rfl)
  have k0 : cs0 = [Value.int .i64 m].toArray := by
    have hc : cs0[0]? = some (.int .i64 m) := by rw [← hm]; simp [World.cell?, h0]
    apply Array.ext'
    have hl : cs0.toList.length = 1 := by rw [Array.length_toList, hs0]; rfl
    match hq : cs0.toList, hl with
    | [x], _ =>
      rw [← Array.getElem?_toList, hq] at hc
      simp at hc; rw [hc]
  have q1 : c1 = (Lib.pow10Tab.map fun z => Value.int .u64 z).toArray := by rw [← k1]
  have q2 : c2 = [Value.iface u2 v2].toArray := by rw [← k2]
  have q3 : c3 = [Value.iface u3 v3].toArray := by rw [← k3]
  subst k0; subst q1; subst q2; subst q3
  refine ⟨mkSE m u2 v2 u3 v3, fun g ds hg => ?_⟩
  match g, hg with
  | 0, hg => cases hg; exact envOf_block h0 (by simp [Value.oneCell'])
  | 1, hg => cases hg; exact envOf_block h1 (by intro v hv; obtain ⟨z, _, rfl⟩ := List.mem_map.1 hv; rfl)
  | 2, hg => cases hg; exact envOf_block h2 (by simp [Value.oneCell'])
  | 3, hg => cases hg; exact envOf_block h3 (by simp [Value.oneCell'])
  | n + 4, hg => cases hg

/-- THE WITNESS's WORLD. -/
noncomputable def laidW (os : Os) : World := World.laidAll Tryd.prog os laids
theorem laidW_met (os : Os) (args : Array Value) : laidMetH Tryd.prog laids ((laidW os).forCall (fun _ _ => 0) ⟨#[], args, []⟩).memory := by
  rw [MakeChecks.laidMetH_plain _ _ _ (by kernel_rfl)]
  exact laidMet_laidAll _ (by kernel_rfl) (by kernel_rfl)

theorem laidOut : laidOutB Tryd.prog = true := by kernel_rfl
end Go.Proofs.YthhcbgdngmajlaaDoor
