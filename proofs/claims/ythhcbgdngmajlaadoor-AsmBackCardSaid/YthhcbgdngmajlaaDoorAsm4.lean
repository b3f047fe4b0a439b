/- The library's functions, as the machine takes them. No statement of the seat stands here. -/
import Derived.Test.YthhcbgdngmajlaaDoorAsmF
import Derived.Test.YthhcbgdngmajlaaDoorAsm1
import Derived.Test.YthhcbgdngmajlaaDoorAmC
set_option linter.unusedSimpArgs false
set_option linter.unusedSectionVars false
set_option maxRecDepth 100000
namespace Go.Proofs.YthhcbgdngmajlaaDoor
open Go Go.AM Go.RowKit

/-- What the program's own variables hold: the library's tables and errors. -/
class SE extends Env where
  m : Int
  ts : TypeId
  ps : Value
  tr : TypeId
  pr : Value
  e0 : E 0 = some ([Value.int .i64 m].map D.val)
  e1 : E 1 = some ((Lib.pow10Tab.map fun z => Value.int .u64 z).map D.val)
  e2 : E 2 = some ([Value.iface ts ps].map D.val)
  e3 : E 3 = some ([Value.iface tr pr].map D.val)
variable [SE]

abbrev vu64 (n : Int) : V := .d (.val (.int .u64 n))

theorem tab_at {S : Nat → Prop} {w : World} (h : EnvOK S w) : Lib.TabIs Tryd.prog w "internal/strconv.uint64pow10" .u64 Lib.pow10Tab := env_var SE.e1 h (by kernel_rfl)

theorem pc42 (u : Nat) (hu : u < 18446744073709551616) : PC Tryd.prog 42 [] [vu64 u, vi 10] (fun r h => h = [] ∧ r = vs ⟨(Lib.decDigits u).toArray⟩) := by
  refine PC.of_plain (enters_of Tryd.func42 (by kernel_rfl) rfl) fun k w vals H Vv => ?_
  obtain ⟨l⟩ := vals
  match l, Vv with
  | [a, b], ⟨⟨e1, _⟩, ⟨e2, _⟩, _⟩ =>
    subst e1; subst e2
    refine (fmtUintP u hu w (tab_at H.env)).mono ?_
    rintro e w' ⟨rfl, hb⟩
    exact ⟨_, _, rfl, hb, rfl, rfl, rfl⟩

theorem pc43 (n : Int) (h0 : -9223372036854775808 ≤ n) (h1 : n ≤ 9223372036854775807) : PC Tryd.prog 43 [] [vi n] (fun r h => h = [] ∧ r = vs ⟨(Lib.itoa n).toArray⟩) := by
  refine PC.of_plain (enters_of Tryd.func43 (by kernel_rfl) rfl) fun k w vals H Vv => ?_
  obtain ⟨l⟩ := vals
  match l, Vv with
  | [a], ⟨⟨e1, _⟩, _⟩ =>
    subst e1
    refine (Tryd.strconv_Itoa n h0 h1 w (tab_at H.env)).mono ?_
    rintro e w' ⟨rfl, k, os, rfl⟩
    exact ⟨_, _, rfl, Lib.below_grow _ w (Nat.le_refl _) k os, rfl, rfl, rfl⟩

/-- ParseUint's answers. -/
def PU (s : ByteArray) (r : V) : Prop :=
  match Lib.parseUintB 32 s.data.toList with
  | .ok u => r = .tup [vu64 u, .d (.val .nilIface)]
  | .range => ∃ t p, r = .tup [vu64 4294967295, .d (.val (.iface t p))]
  | _ => ∃ t p, r = .tup [vu64 0, .d (.val (.iface t p))]

theorem pc58 (s : ByteArray) (hs : s.size ≤ 281474976710656) : PC Tryd.prog 58 [] [vs s, vi 10, vi 32] (fun r h => h = [] ∧ PU s r) := by
  refine PC.of_plain (enters_of Tryd.func58 (by kernel_rfl) rfl) fun k w vals H Vv => ?_
  obtain ⟨l⟩ := vals
  match l, Vv with
  | [a, b, c], ⟨⟨e1, _⟩, ⟨e2, _⟩, ⟨e3, _⟩, _⟩ =>
    subst e1; subst e2; subst e3
    cases hp : Lib.parseUintB 32 s.data.toList with
    | ok u =>
      refine (Tryd.strconv_ParseUint_10_at32_ok s (by omega) u hp w).mono ?_
      rintro e w' ⟨rfl, hw⟩
      refine ⟨_, .tup [vu64 u, .d (.val .nilIface)], rfl, ?_, by unfold PU; rw [hp], ⟨_, rfl, ⟨rfl, rfl⟩, ⟨rfl, rfl⟩, trivial⟩⟩
      rcases hw with rfl | rfl
      · exact Below.refl _ _
      · exact ⟨rfl, rfl, rfl, by rw [Lib.bytesWorld_size]; omega, fun j hj => Lib.bytesWorld_at_old w 5 s j hj⟩
    | range =>
      refine (Tryd.strconv_ParseUint_10_at32_range s hs hp (.iface SE.tr SE.pr) w (env_cell SE.e3 H.env 0 _ rfl) (.inr ⟨_, _, rfl⟩)).mono ?_
      rintro e w' ⟨N, rfl, h1, h2, h3⟩
      exact ⟨_, .tup [vu64 4294967295, .d (.val (.iface _ _))], rfl, h3, by unfold PU; rw [hp]; exact ⟨_, _, rfl⟩, ⟨_, rfl, ⟨rfl, rfl⟩, ⟨rfl, rfl⟩, trivial⟩⟩
    | _ =>
      refine (Tryd.strconv_ParseUint_10_at32_syntax s hs (fun u hu => by rw [hp] at hu; cases hu) (fun hu => by rw [hp] at hu; cases hu) (.iface SE.ts SE.ps) w (env_cell SE.e2 H.env 0 _ rfl) (.inr ⟨_, _, rfl⟩)).mono ?_
      rintro e w' ⟨N, rfl, h1, h2, h3⟩
      exact ⟨_, .tup [vu64 0, .d (.val (.iface _ _))], rfl, h3, by unfold PU; rw [hp]; exact ⟨_, _, rfl⟩, ⟨_, rfl, ⟨rfl, rfl⟩, ⟨rfl, rfl⟩, trivial⟩⟩

theorem pc27 (s p : ByteArray) (hs : s.size ≤ 9223372036854775807) : PC Tryd.prog 27 [] [vs s, vs p] (fun r h => h = [] ∧ r = .tup [vs ⟨(Lib.trimSuffix s.data.toList p.data.toList).toArray⟩, vb (Lib.hasSuffix s.data.toList p.data.toList)]) := by
  refine PC.of_plain (enters_of Tryd.func27 (by kernel_rfl) rfl) fun k w vals H Vv => ?_
  obtain ⟨l⟩ := vals
  match l, Vv with
  | [a, b], ⟨⟨e1, _⟩, ⟨e2, _⟩, _⟩ =>
    subst e1; subst e2
    refine (Tryd.strings_CutSuffix s p w hs).mono ?_
    rintro e w' ⟨rfl, rfl⟩
    exact ⟨_, _, rfl, Below.refl _ _, rfl, ⟨_, rfl, ⟨rfl, rfl⟩, ⟨rfl, rfl⟩, trivial⟩⟩

theorem pc13 (s : ByteArray) (c : Int) : PC Tryd.prog 13 [] [vs s, .d (.val (.int .u8 c))] (fun r h => h = [] ∧ r = vi (Lib.indexByte s.data.toList c.toNat.toUInt8)) := by
  refine PC.of_plain (enters_of Tryd.func13 (by kernel_rfl) rfl) fun k w vals H Vv => ?_
  obtain ⟨l⟩ := vals
  match l, Vv with
  | [a, b], ⟨⟨e1, _⟩, ⟨e2, _⟩, _⟩ =>
    subst e1; subst e2
    refine (Tryd.strings_IndexByte s c w).mono ?_
    rintro e w' ⟨rfl, rfl⟩
    exact ⟨_, _, rfl, Below.refl _ _, rfl, ⟨rfl, rfl⟩⟩

/-- A row of texts, as data. -/
def texts (l : List ByteArray) : V := .d (.sl 1 (l.map fun s => [.val (.string s)]))
theorem cellsAt_texts {S : Nat → Prop} {w : World} {b : Nat} {ty : TypeId} {fz : Nat × Nat} : ∀ (l pre : List ByteArray), w.heap[b]? = some (.cells ((pre ++ l).map Value.string).toArray ty fz) → RowsAt S w (l.map fun s => [.val (.string s)]) b pre.length
  | [], _, _ => trivial
  | s :: r, pre, h => by
    refine ⟨⟨⟨.string s, by simp [World.cell?, h], rfl, rfl⟩, trivial⟩, ?_⟩
    have := cellsAt_texts (S := S) r (pre ++ [s]) (by simpa using h)
    simpa using this

theorem pc28 (s sep : ByteArray) (hs : s.size < 4294967281) (h1 : 1 ≤ sep.size) : PC Tryd.prog 28 [] [vs s, vs sep] (fun r h => h = [] ∧ r = texts (Lib.splitB sep 0 (Lib.countB s sep) s)) := by
  refine PC.of_below (enters_of Tryd.func28 (by kernel_rfl) rfl) fun k w vals H Vv => ?_
  obtain ⟨l⟩ := vals
  match l, Vv with
  | [a, b], ⟨⟨e1, _⟩, ⟨e2, _⟩, _⟩ =>
    subst e1; subst e2
    refine (Tryd.strings_Split s sep SE.m w hs (env_cell SE.e0 H.env 0 _ rfl) h1).mono ?_
    rintro e w' ⟨rfl, rfl⟩
    have hlen := Lib.splitB_all sep h1 0 _ s rfl
    have hle := Lib.countB_le sep h1 s.size s (Nat.le_refl _)
    refine ⟨_, _, rfl, (Below.refl _ _).alloc (Nat.le_refl _) _, rfl, fun b => b = w.heap.size, fun b hb => by subst hb; exact ⟨Nat.le_refl _, by simp⟩, ?_⟩
    refine ⟨_, _, by rw [List.length_map, hlen], by rw [List.length_map, hlen]; exact Nat.le_refl _, by omega, by rw [List.length_map, hlen]; unfold LMAX; omega, by intro r hr; obtain ⟨x, _, rfl⟩ := List.mem_map.1 hr; rfl, .inr ⟨_, _, rfl, .inr rfl, ?_⟩⟩
    have := cellsAt_texts (S := fun b => k.S b ∨ b = w.heap.size) (w := w.alloc (.cells ((Lib.splitB sep 0 (Lib.countB s sep) s).map Value.string).toArray 9)) (b := w.heap.size) (ty := 9) (fz := (0, 0)) (Lib.splitB sep 0 (Lib.countB s sep) s) [] (heap_new w _)
    exact this

theorem pc22 (s : ByteArray) (c : UInt8) : PC Tryd.prog 22 [] [vs s, vs ⟨#[c]⟩] (fun r h => h = [] ∧ r = vi (Lib.countByte s.data.toList c)) := by
  refine PC.of_plain (enters_of Tryd.func22 (by kernel_rfl) rfl) fun k w vals H Vv => ?_
  obtain ⟨l⟩ := vals
  match l, Vv with
  | [a, b], ⟨⟨e1, _⟩, ⟨e2, _⟩, _⟩ =>
    subst e1; subst e2
    refine (Tryd.strings_Count_one s c w).mono ?_
    rintro e w' ⟨rfl, rfl⟩
    exact ⟨_, _, rfl, Below.refl _ _, rfl, ⟨rfl, rfl⟩⟩
end Go.Proofs.YthhcbgdngmajlaaDoor
