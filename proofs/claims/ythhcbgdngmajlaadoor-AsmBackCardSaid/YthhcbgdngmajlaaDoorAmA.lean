/- The abstract machine: data, states, code, operations. No statement of the seat stands here. -/
import Derived.CallsIn
import Derived.RangeFuncIn
import Derived.RangeFuncLeaves
import Derived.WalkKit
import Derived.Deep.MidRow
import Derived.KernelRfl
section
/-! ## 0 -/
namespace Go.AM
open Go

/-- Pure data, one cell each: a value without memory of its own, or a slice that is only read. -/
inductive D where
  | val (v : Value)
  | sl (sz : Nat) (rows : List (List D))
  | fn (f : FuncId) (first caps : List D)
  | rp (ds : List D)

instance : Inhabited D := ⟨.val (.bool false)⟩

/-- Abstract values. -/
inductive V where
  | junk
  | d (x : D)
  | ptr (id off : Nat)
  | own (id sz lo n : Nat)
  | ep (id sz i off : Nat)
  | rp (ds : List D)
  | rr (sz : Nat) (rows : List (List D)) (i off : Nat)
  | fn (f : FuncId) (first caps : List V)
  | agg (l : List V)
  | dagg (l : List D)
  | tup (l : List V)
  | yld (id : Nat)
  | mp (id : Nat)
  | opt (g : Bool) (v : V)

instance : Inhabited V := ⟨.junk⟩

def lkp {α : Type} (k : Nat) : List (Nat × α) → Option α
  | [] => none
  | (j, x) :: r => if j = k then some x else lkp k r

/-- World w' is w with more blocks; rows of cells stay rows of as many cells. -/
structure Grows (w w' : World) : Prop where
  size : w.heap.size ≤ w'.heap.size
  shape : ∀ (b : Nat) (cs : Array Value) (ty : TypeId) (fz : Nat × Nat), w.heap[b]? = some (Obj.cells cs ty fz) → ∃ cs' fz', w'.heap[b]? = some (Obj.cells cs' ty fz') ∧ cs'.size = cs.size
  os : w'.os = w.os
  output : w'.output = w.output

theorem Grows.of {w w' : World} (h : w.heap.size ≤ w'.heap.size ∧ ∀ (b : Nat) (cs : Array Value) (ty : TypeId) (fz : Nat × Nat), w.heap[b]? = some (Obj.cells cs ty fz) → ∃ cs', w'.heap[b]? = some (Obj.cells cs' ty fz) ∧ cs'.size = cs.size) (ho : w'.os = w.os := by rfl) (hu : w'.output = w.output := by rfl) : Grows w w' :=
  ⟨h.1, fun b cs ty fz e => by obtain ⟨cs', h1, h2⟩ := h.2 b cs ty fz e; exact ⟨cs', fz, h1, h2⟩, ho, hu⟩
theorem Grows.refl (w : World) : Grows w w := ⟨Nat.le_refl _, fun _ cs _ fz h => ⟨cs, fz, h, rfl⟩, rfl, rfl⟩
theorem Grows.trans {w w' w'' : World} (h : Grows w w') (h' : Grows w' w'') : Grows w w'' :=
  ⟨Nat.le_trans h.size h'.size, fun b cs ty fz e => by
    obtain ⟨cs', fz', e', hs⟩ := h.shape b cs ty fz e
    obtain ⟨cs'', fz'', e'', hs'⟩ := h'.shape b cs' ty fz' e'
    exact ⟨cs'', fz'', e'', hs'.trans hs⟩, h'.os.trans h.os, h'.output.trans h.output⟩

/-- Bounds of lengths: far below what an int holds. -/
def LMAX : Nat := 2 ^ 47

mutual
def DEnc (S : Nat → Prop) (w : World) : D → Value → Prop
  | .val v, x => x = v ∧ v.oneCell' = true
  | .sl sz rows, x => ∃ a cap, x = .slice a rows.length cap ∧ rows.length ≤ cap ∧ cap < 2 ^ 63 ∧ rows.length ≤ LMAX ∧ (∀ r ∈ rows, r.length = sz) ∧
      (rows = [] ∨ ∃ b o, a = some ⟨b, o, none⟩ ∧ S b ∧ RowsAt S w rows b o)
  | .fn f first caps, x => ∃ fs cs, x = .func (.func f) fs cs ∧ DEncs S w first fs.toList ∧ DEncs S w caps cs.toList
  | .rp ds, x => ∃ b o, x = .pointer (some ⟨b, o, none⟩) ∧ S b ∧ CellsAt S w ds b o
def DEncs (S : Nat → Prop) (w : World) : List D → List Value → Prop
  | [], [] => True
  | x :: xs, v :: vs => DEnc S w x v ∧ DEncs S w xs vs
  | _, _ => False
def CellsAt (S : Nat → Prop) (w : World) : List D → Nat → Nat → Prop
  | [], _, _ => True
  | x :: xs, b, o => (∃ v, w.cell? ⟨b, o, none⟩ = some v ∧ DEnc S w x v) ∧ CellsAt S w xs b (o + 1)
def RowsAt (S : Nat → Prop) (w : World) : List (List D) → Nat → Nat → Prop
  | [], _, _ => True
  | r :: rs, b, o => CellsAt S w r b o ∧ RowsAt S w rs b (o + r.length)
end

/-- What is known of a machine's memory: the blocks that are only read; each object's first block ('some none': none yet); the blocks of each object. -/
structure K where
  S : Nat → Prop
  β : Nat → Option (Option Nat)
  X : Nat → Nat → Prop

mutual
def VEnc (k : K) (w : World) : V → Value → Prop
  | .junk, _ => True
  | .d x, v => DEnc k.S w x v
  | .ptr id off, v => ∃ b, k.β id = some (some b) ∧ v = .pointer (some ⟨b, off, none⟩)
  | .own id sz lo n, v =>
      (k.β id = some none ∧ n = 0 ∧ lo = 0 ∧ v = .slice none 0 0) ∨
      ∃ b o cap cs ty fz, k.β id = some (some b) ∧ v = .slice (some ⟨b, o, none⟩) n cap ∧ n ≤ cap ∧ cap < 2 ^ 63 ∧ n ≤ LMAX ∧ w.heap[b]? = some (Obj.cells cs ty fz) ∧ (0 < cap → o = lo * sz) ∧ (lo + cap) * sz ≤ cs.size
  | .ep id sz i off, v => ∃ b, k.β id = some (some b) ∧ v = .pointer (some ⟨b, i * sz + off, none⟩)
  | .rp ds, v => ∃ b o, v = .pointer (some ⟨b, o, none⟩) ∧ k.S b ∧ CellsAt k.S w ds b o
  | .rr sz rows i off, v => ∃ b o, v = .pointer (some ⟨b, o + i * sz + off, none⟩) ∧ k.S b ∧ RowsAt k.S w rows b o ∧ (∀ r ∈ rows, r.length = sz) ∧ i < rows.length
  | .fn f first caps, v => ∃ fs cs, v = .func (.func f) fs cs ∧ VEncs k w first fs.toList ∧ VEncs k w caps cs.toList
  | .agg l, v => ∃ cs, v = .agg cs ∧ VEncs k w l cs.toList ∧ ∀ c ∈ cs, c.oneCell' = true
  | .dagg l, v => ∃ cs, v = .agg cs ∧ DEncs k.S w l cs.toList
  | .tup l, v => ∃ cs, v = .tuple cs ∧ VEncs k w l cs.toList
  | .yld id, v => ∃ b, k.β id = some (some b) ∧ v = .func (.yield b) #[] #[]
  | .mp id, v => ∃ b, k.β id = some (some b) ∧ v = .map (some b)
  | .opt g x, v => (g = true → VEnc k w x v) ∧ (g = false → v = .tuple #[])
def VEncs (k : K) (w : World) : List V → List Value → Prop
  | [], [] => True
  | x :: xs, v :: vs => VEnc k w x v ∧ VEncs k w xs vs
  | _, _ => False
end

/-- Memory of others that goes along: what they hold, on their blocks X (l: their first one), stays while these stay. -/
structure Opq where
  sat : (Nat → Prop) → (Nat → Prop) → Option Nat → World → Prop
  stable : ∀ {S S' X l w w'}, sat S X l w → Grows w w' → (∀ b : Nat, S b ∨ X b → w'.heap[b]? = w.heap[b]?) → (∀ b, S b → S' b) → sat S' X l w'

inductive Ob where
  | cells (vs : List V)
  | arr (sz : Nat) (rows : List (List D))
  | opq (A : Opq)

def obSat (k : K) (w : World) (id : Nat) : Ob → Prop
  | .cells vs => ∃ b cs ty, k.β id = some (some b) ∧ w.heap[b]? = some (Obj.cells cs ty (0, 0)) ∧ VEncs k w vs cs.toList ∧ (∀ c ∈ cs, c.oneCell' = true) ∧ ∀ b', k.X id b' → b' = b
  | .arr sz rows => ((k.β id = some none ∧ rows = [] ∧ ∀ b', ¬ k.X id b') ∨
      ∃ b cs ty, k.β id = some (some b) ∧ w.heap[b]? = some (Obj.cells cs ty (0, 0)) ∧ (∀ c ∈ cs, c.oneCell' = true) ∧ RowsAt k.S w rows b 0 ∧ ∀ b', k.X id b' → b' = b) ∧
      (∀ r ∈ rows, r.length = sz) ∧ rows.length ≤ LMAX
  | .opq A => ∃ l, k.β id = some l ∧ A.sat k.S (k.X id) l w

/-- A state: temporaries (the newest first), objects (the newest first). -/
structure AS where
  n : Nat
  t : List (Nat × V)
  h : List (Nat × Ob)

/-- What the program's own variables hold, whoever looks: those that are never written. -/
class Env where
  E : Nat → Option (List D)

def EnvOK [Env] (S : Nat → Prop) (w : World) : Prop := ∀ g ds, Env.E g = some ds → S g ∧ CellsAt S w ds g 0 ∧ ∃ cs ty fz, w.heap[g]? = some (Obj.cells cs ty fz) ∧ cs.size = ds.length

structure SimH [Env] (k : K) (w : World) (h : List (Nat × Ob)) : Prop where
  inj : ∀ i j b, k.X i b → k.X j b → i = j
  lt : ∀ i b, k.X i b → b < w.heap.size
  dis : ∀ i b, k.X i b → ¬ k.S b
  slt : ∀ b, k.S b → b < w.heap.size
  prim : ∀ i b, k.β i = some (some b) → k.X i b
  dom : ∀ i, (k.β i).isSome = (lkp i h).isSome
  domX : ∀ i b, k.X i b → (k.β i).isSome
  sat : ∀ i o, lkp i h = some o → obSat k w i o
  env : EnvOK k.S w

/-- The first number of what a caller hands over. -/
def ARG : Nat := 100000

/-- From (k, w) to (k', w'): nothing but the objects' own blocks has changed. -/
structure Ext (k : K) (w : World) (k' : K) (w' : World) : Prop where
  grows : Grows w w'
  frame : ∀ b : Nat, b < w.heap.size → (∀ i, ¬ k.X i b) → w'.heap[b]? = w.heap[b]?
  sub : ∀ b, k.S b → k'.S b
  newS : ∀ b, k'.S b → k.S b ∨ (∃ i, k.X i b) ∨ w.heap.size ≤ b
  newX : ∀ i b, k'.X i b → (∃ j, k.X j b) ∨ w.heap.size ≤ b
  old : ∀ i l, ARG ≤ i → k'.β i = some l → k.β i = some l

theorem Ext.refl (k : K) (w : World) : Ext k w k w := ⟨.refl w, fun _ _ _ => rfl, fun _ h => h, fun _ h => .inl h, fun i _ h => .inl ⟨i, h⟩, fun _ _ _ h => h⟩
theorem Ext.trans {k k' k'' : K} {w w' w'' : World} (h : Ext k w k' w') (h' : Ext k' w' k'' w'') : Ext k w k'' w'' where
  grows := h.grows.trans h'.grows
  frame b hb hx := by
    rw [h'.frame b (Nat.lt_of_lt_of_le hb h.grows.size) (fun i hi => ?_), h.frame b hb hx]
    rcases h.newX i b hi with ⟨j, hj⟩ | hj
    · exact hx j hj
    · omega
  sub b hb := h'.sub b (h.sub b hb)
  newS b hb := by
    rcases h'.newS b hb with h1 | ⟨i, h1⟩ | h1
    · exact h.newS b h1
    · rcases h.newX i b h1 with h2 | h2
      · exact .inr (.inl h2)
      · exact .inr (.inr h2)
    · exact .inr (.inr (Nat.le_trans h.grows.size h1))
  newX i b hb := by
    rcases h'.newX i b hb with ⟨j, h1⟩ | h1
    · exact h.newX j b h1
    · exact .inr (Nat.le_trans h.grows.size h1)
  old i l hi hl := h.old i l hi (h'.old i l hi hl)

/-! ### Data is kept -/

theorem cell_of_heap {w w' : World} {b o : Nat} (h : w'.heap[b]? = w.heap[b]?) : w'.cell? ⟨b, o, none⟩ = w.cell? ⟨b, o, none⟩ := by
  simp only [World.cell?, h]

section
variable {S S' : Nat → Prop} {w w' : World}
mutual
theorem DEnc.mono (hk : ∀ b : Nat, S b → w'.heap[b]? = w.heap[b]?) (hs : ∀ b, S b → S' b) : ∀ (x : D) (v : Value), DEnc S w x v → DEnc S' w' x v
  | .val _, _, h => h
  | .sl sz rows, v, h => by
    obtain ⟨a, cap, e, h1, h2, h3, h4, h5⟩ := h
    refine ⟨a, cap, e, h1, h2, h3, h4, ?_⟩
    rcases h5 with h5 | ⟨b, o, ea, hb, hr⟩
    · exact .inl h5
    · exact .inr ⟨b, o, ea, hs b hb, RowsAt.mono hk hs rows b o hb hr⟩
  | .fn _ first caps, _, h => by obtain ⟨fs, cs, e, h1, h2⟩ := h; exact ⟨fs, cs, e, DEncs.mono hk hs first _ h1, DEncs.mono hk hs caps _ h2⟩
  | .rp ds, _, h => by obtain ⟨b, o, e, hb, hc⟩ := h; exact ⟨b, o, e, hs b hb, CellsAt.mono hk hs ds b o hb hc⟩
theorem DEncs.mono (hk : ∀ b : Nat, S b → w'.heap[b]? = w.heap[b]?) (hs : ∀ b, S b → S' b) : ∀ (l : List D) (vs : List Value), DEncs S w l vs → DEncs S' w' l vs
  | [], [], _ => trivial
  | x :: xs, v :: vs, h => ⟨DEnc.mono hk hs x v h.1, DEncs.mono hk hs xs vs h.2⟩
  | [], _ :: _, h => h.elim
  | _ :: _, [], h => h.elim
theorem CellsAt.mono (hk : ∀ b : Nat, S b → w'.heap[b]? = w.heap[b]?) (hs : ∀ b, S b → S' b) : ∀ (l : List D) (b o : Nat), S b → CellsAt S w l b o → CellsAt S' w' l b o
  | [], _, _, _, _ => trivial
  | x :: xs, b, o, hb, h => by
    obtain ⟨⟨v, hv, hx⟩, hr⟩ := h
    exact ⟨⟨v, by rw [cell_of_heap (hk b hb)]; exact hv, DEnc.mono hk hs x v hx⟩, CellsAt.mono hk hs xs b (o + 1) hb hr⟩
theorem RowsAt.mono (hk : ∀ b : Nat, S b → w'.heap[b]? = w.heap[b]?) (hs : ∀ b, S b → S' b) : ∀ (l : List (List D)) (b o : Nat), S b → RowsAt S w l b o → RowsAt S' w' l b o
  | [], _, _, _, _ => trivial
  | r :: rs, b, o, hb, h => ⟨CellsAt.mono hk hs r b o hb h.1, RowsAt.mono hk hs rs b (o + r.length) hb h.2⟩
end
/-- The same at a block that is not only read, while its cells stay. -/
theorem CellsAt.mono' (hk : ∀ b : Nat, S b → w'.heap[b]? = w.heap[b]?) (hs : ∀ b, S b → S' b) : ∀ (l : List D) (b o : Nat), w'.heap[b]? = w.heap[b]? → CellsAt S w l b o → CellsAt S' w' l b o
  | [], _, _, _, _ => trivial
  | x :: xs, b, o, hb, h => by
    obtain ⟨⟨v, hv, hx⟩, hr⟩ := h
    exact ⟨⟨v, by rw [cell_of_heap hb]; exact hv, DEnc.mono hk hs x v hx⟩, CellsAt.mono' hk hs xs b (o + 1) hb hr⟩
theorem RowsAt.mono' (hk : ∀ b : Nat, S b → w'.heap[b]? = w.heap[b]?) (hs : ∀ b, S b → S' b) : ∀ (l : List (List D)) (b o : Nat), w'.heap[b]? = w.heap[b]? → RowsAt S w l b o → RowsAt S' w' l b o
  | [], _, _, _, _ => trivial
  | r :: rs, b, o, hb, h => ⟨CellsAt.mono' hk hs r b o hb h.1, RowsAt.mono' hk hs rs b (o + r.length) hb h.2⟩
end

theorem DEnc.one1 {S : Nat → Prop} {w : World} {x : D} {v : Value} (h : DEnc S w x v) : v.oneCell' = true := by
  cases x with
  | val u => obtain ⟨rfl, h⟩ := h; exact h
  | sl sz rows => obtain ⟨a, cap, rfl, _⟩ := h; rfl
  | fn f first caps => obtain ⟨fs, cs, rfl, _⟩ := h; rfl
  | rp ds => obtain ⟨b, o, rfl, _⟩ := h; rfl

theorem DEncs.length {S : Nat → Prop} {w : World} : ∀ {l : List D} {vs : List Value}, DEncs S w l vs → vs.length = l.length
  | [], [], _ => rfl
  | _ :: _, _ :: _, h => by simp [DEncs.length h.2]
  | [], _ :: _, h => h.elim
  | _ :: _, [], h => h.elim

theorem DEncs.get {S : Nat → Prop} {w : World} : ∀ {l : List D} {vs : List Value} (_ : DEncs S w l vs) {i : Nat} {x : D} (_ : l[i]? = some x), ∃ v, vs[i]? = some v ∧ DEnc S w x v
  | _ :: _, v :: _, h, 0, x, e => by simp at e; subst e; exact ⟨v, rfl, h.1⟩
  | _ :: _, _ :: _, h, i + 1, x, e => by simp at e ⊢; exact DEncs.get h.2 e
  | [], [], _, _, _, e => by simp at e
  | [], _ :: _, h, _, _, _ => h.elim
  | _ :: _, [], h, _, _, _ => h.elim

theorem VEncs.length {k : K} {w : World} : ∀ {l : List V} {vs : List Value}, VEncs k w l vs → vs.length = l.length
  | [], [], _ => rfl
  | _ :: _, _ :: _, h => by simp [VEncs.length h.2]
  | [], _ :: _, h => h.elim
  | _ :: _, [], h => h.elim

theorem VEncs.get {k : K} {w : World} : ∀ {l : List V} {vs : List Value} (_ : VEncs k w l vs) {i : Nat} {x : V} (_ : l[i]? = some x), ∃ v, vs[i]? = some v ∧ VEnc k w x v
  | _ :: _, v :: _, h, 0, x, e => by simp at e; subst e; exact ⟨v, rfl, h.1⟩
  | _ :: _, _ :: _, h, i + 1, x, e => by simp at e ⊢; exact VEncs.get h.2 e
  | [], [], _, _, _, e => by simp at e
  | [], _ :: _, h, _, _, _ => h.elim
  | _ :: _, [], h, _, _, _ => h.elim

theorem VEncs.append {k : K} {w : World} : ∀ {l m : List V} {vs us : List Value}, VEncs k w l vs → VEncs k w m us → VEncs k w (l ++ m) (vs ++ us)
  | [], _, [], _, _, h => h
  | _ :: _, _, _ :: _, _, h, h' => ⟨h.1, VEncs.append h.2 h'⟩
  | [], _, _ :: _, _, h, _ => h.elim
  | _ :: _, _, [], _, h, _ => h.elim

/-- Abstract values are kept: the knowledge k' agrees with k on the objects that k knows, and what is only read stays. -/
structure Keeps (k : K) (w : World) (k' : K) (w' : World) : Prop where
  grows : Grows w w'
  same : ∀ b : Nat, k.S b → w'.heap[b]? = w.heap[b]?
  sub : ∀ b, k.S b → k'.S b
  beta : ∀ i l, k.β i = some l → k'.β i = some l

mutual
theorem VEnc.mono {k k' : K} {w w' : World} (m : Keeps k w k' w') : ∀ (x : V) (v : Value), VEnc k w x v → VEnc k' w' x v
  | .junk, _, _ => trivial
  | .d x, v, h => DEnc.mono m.same m.sub x v h
  | .ptr _ _, _, h => by obtain ⟨b, hb, e⟩ := h; exact ⟨b, m.beta _ _ hb, e⟩
  | .own _ _ _ _, _, h => by
    rcases h with ⟨h1, h2⟩ | ⟨b, o, cap, cs, ty, fz, h1, h2, h3, h4, h4', h5, h6, h7⟩
    · exact .inl ⟨m.beta _ _ h1, h2⟩
    · obtain ⟨cs', fz', e, hs⟩ := m.grows.shape b cs ty fz h5
      exact .inr ⟨b, o, cap, cs', ty, fz', m.beta _ _ h1, h2, h3, h4, h4', e, h6, by omega⟩
  | .ep _ _ _ _, _, h => by obtain ⟨b, hb, e⟩ := h; exact ⟨b, m.beta _ _ hb, e⟩
  | .rp ds, _, h => by obtain ⟨b, o, e, hb, hc⟩ := h; exact ⟨b, o, e, m.sub b hb, CellsAt.mono m.same m.sub ds b o hb hc⟩
  | .rr _ rows _ _, _, h => by obtain ⟨b, o, e, hb, hc, h1⟩ := h; exact ⟨b, o, e, m.sub b hb, RowsAt.mono m.same m.sub rows b o hb hc, h1⟩
  | .fn _ first caps, _, h => by obtain ⟨fs, cs, e, h1, h2⟩ := h; exact ⟨fs, cs, e, VEncs.mono m first _ h1, VEncs.mono m caps _ h2⟩
  | .agg l, _, h => by obtain ⟨cs, e, h1, h2⟩ := h; exact ⟨cs, e, VEncs.mono m l _ h1, h2⟩
  | .dagg l, _, h => by obtain ⟨cs, e, h1⟩ := h; exact ⟨cs, e, DEncs.mono m.same m.sub l _ h1⟩
  | .tup l, _, h => by obtain ⟨cs, e, h1⟩ := h; exact ⟨cs, e, VEncs.mono m l _ h1⟩
  | .yld _, _, h => by obtain ⟨b, hb, e⟩ := h; exact ⟨b, m.beta _ _ hb, e⟩
  | .mp _, _, h => by obtain ⟨b, hb, e⟩ := h; exact ⟨b, m.beta _ _ hb, e⟩
  | .opt _ x, v, h => ⟨fun e => VEnc.mono m x v (h.1 e), h.2⟩
theorem VEncs.mono {k k' : K} {w w' : World} (m : Keeps k w k' w') : ∀ (l : List V) (vs : List Value), VEncs k w l vs → VEncs k' w' l vs
  | [], [], _ => trivial
  | x :: xs, v :: vs, h => ⟨VEnc.mono m x v h.1, VEncs.mono m xs vs h.2⟩
  | [], _ :: _, h => h.elim
  | _ :: _, [], h => h.elim
end

theorem EnvOK.mono [Env] {S S' : Nat → Prop} {w w' : World} (h : EnvOK S w) (hk : ∀ b : Nat, S b → w'.heap[b]? = w.heap[b]?) (hs : ∀ b, S b → S' b) : EnvOK S' w' :=
  fun g ds hg => ⟨hs g (h g ds hg).1, CellsAt.mono hk hs ds g 0 (h g ds hg).1 (h g ds hg).2.1, by rw [hk g (h g ds hg).1]; exact (h g ds hg).2.2⟩
end Go.AM
end
section
/-! ## 1 -/
namespace Go.AM
open Go

def fence (ro : Option Nat) : Fence := { Fence.wide with round := ro }

structure SimT (k : K) (w : World) (st : AS) (a : Act) : Prop where
  size : a.tmps.size = st.n
  arg : st.n ≤ ARG
  tm : ∀ i x, lkp i st.t = some x → ∃ v, a.tmps[i]? = some v ∧ VEnc k w x v

/-- The marks of the ranges over functions that this activation has begun. -/
structure Mk (ro : Option Nat) (k : K) (w : World) (a : Act) (ms : List Nat) : Prop where
  eq : a.defers = ms.map (fun D => { target := .collected D, args := #[] })
  nodup : ms.Nodup
  heap : ∀ D ∈ ms, w.heap[D]? = some (.deferred (some []))
  noS : ∀ D ∈ ms, ¬ k.S D
  noX : ∀ D ∈ ms, ∀ i, ¬ k.X i D
  rd : ∀ l, ro = some l → (∃ r, w.heap[l]? = some (.loop r)) ∧ ¬ k.S l ∧ ∀ i, ¬ k.X i l

set_option linter.unusedSectionVars false
variable [Env]
structure Sim (ro : Option Nat) (k : K) (w : World) (st : AS) (a : Act) (ms : List Nat) : Prop where
  H : SimH k w st.h
  T : SimT k w st a
  M : Mk ro k w a ms

/-- Where an activation may come to. -/
structure Step1 (k : K) (w : World) (ms : List Nat) (k' : K) (w' : World) (ms' : List Nat) : Prop where
  ext : Ext k w k' w'
  marks : ∀ D ∈ ms', D ∈ ms ∨ w.heap.size ≤ D

theorem Step1.refl (k : K) (w : World) (ms : List Nat) : Step1 k w ms k w ms := ⟨.refl k w, fun _ h => .inl h⟩
theorem Step1.trans {k k' k'' : K} {w w' w'' : World} {ms ms' ms'' : List Nat} (h : Step1 k w ms k' w' ms') (h' : Step1 k' w' ms' k'' w'' ms'') : Step1 k w ms k'' w'' ms'' :=
  ⟨h.ext.trans h'.ext, fun D hD => by
    rcases h'.marks D hD with h1 | h1
    · exact h.marks D h1
    · exact .inr (Nat.le_trans h.ext.grows.size h1)⟩

def Post (Q : Exit → AS → Prop) (ro : Option Nat) (k : K) (w : World) (ms : List Nat) : Exit → Act → World → Prop :=
  fun e a' w' => ∃ k' st' ms', Sim ro k' w' st' a' ms' ∧ Step1 k w ms k' w' ms' ∧ Q e st'

theorem Post.step {Q : Exit → AS → Prop} {ro : Option Nat} {k k' : K} {w w' : World} {ms ms' : List Nat} {e : Exit} {a : Act} {w'' : World} (s : Step1 k w ms k' w' ms') (h : Post Q ro k' w' ms' e a w'') : Post Q ro k w ms e a w'' := by
  obtain ⟨k2, st2, ms2, h1, h2, h3⟩ := h
  exact ⟨k2, st2, ms2, h1, s.trans h2, h3⟩

/-- CODE, from a state: wherever it goes on, a state for which Q holds is met. -/
def AWP (P : Program) (c : Code) (st : AS) (Q : Exit → AS → Prop) : Prop :=
  ∀ ro k w a ms, Sim ro k w st a ms → c.wpIn (fence ro) 0 P (Post Q ro k w ms) a w

/-- A list of operations of a region. -/
def AL (P : Program) (ops : Array Oper) (l : List Oper) (st : AS) (Q : Exit → AS → Prop) : Prop :=
  ∀ ro k w a ms, Sim ro k w st a ms → wpListIn (fence ro) 0 P ops (Post Q ro k w ms) l a w

/-- A FUNCTION's CONTRACT: called on values that read as args, over memory that reads as h: it returns; what is returned and the memory then are as Q says. -/
def Enters (P : Program) (f : FuncId) : Prop := ∀ args w, (callFunc f args).run P w = .ok (.enter f args) w

def PC (P : Program) (f : FuncId) (h : List (Nat × Ob)) (args : List V) (Q : V → List (Nat × Ob) → Prop) : Prop :=
  Enters P f ∧ ∀ k w vals, SimH k w h → VEncs k w args vals.toList →
    CallsIn Fence.wide 0 P f vals w fun e w' => ∃ v r h' k', e = .returned v ∧ VEnc k' w' r v ∧ SimH k' w' h' ∧ Ext k w k' w' ∧ Q r h'

theorem PC.mono {P : Program} {f : FuncId} {h : List (Nat × Ob)} {args : List V} {Q Q' : V → List (Nat × Ob) → Prop} (hc : PC P f h args Q) (hq : ∀ r h', Q r h' → Q' r h') : PC P f h args Q' :=
  ⟨hc.1, fun k w vals h1 h2 => (hc.2 k w vals h1 h2).mono fun _ _ ⟨v, r, h', k', e, a, b, c, d⟩ => ⟨v, r, h', k', e, a, b, c, hq _ _ d⟩⟩

section rules
variable {P : Program} {st : AS} {Q Q' : Exit → AS → Prop}

theorem AWP.mono {c : Code} (h : AWP P c st Q) (hq : ∀ e s, Q e s → Q' e s) : AWP P c st Q' :=
  fun ro k w a ms hs => wpIn_mono (h ro k w a ms hs) fun _ _ _ ⟨k', st', ms', h1, h2, h3⟩ => ⟨k', st', ms', h1, h2, hq _ _ h3⟩

theorem wpListIn_mono' {F : Fence} {ops : Array Oper} : ∀ {l : List Oper} {a : Act} {w' : World} {R R' : Exit → Act → World → Prop}, wpListIn F 0 P ops R l a w' → (∀ e a w, R e a w → R' e a w) → wpListIn F 0 P ops R' l a w' := by
  intro l
  induction l with
  | nil => intro a w' R R' h hR; exact hR _ _ _ h
  | cons o l ih =>
    intro a w' R R' h hR
    unfold wpListIn at h ⊢
    split at h
    · rename_i hw
      rw [if_pos hw]
      refine ⟨h.1, ?_⟩
      have h2 := h.2
      generalize (o.semAt F.round a.eval).run P w' = r at h2 ⊢
      cases r with
      | halt hh w2 =>
        cases hh <;> first | exact h2.elim | (simp only [Oper.uponIn] at h2 ⊢; exact hR _ _ _ h2)
      | ok x w2 =>
        cases x <;> first | exact h2.elim | (simp only [Oper.uponIn] at h2 ⊢; exact ih h2 hR) | skip
        case enter f args =>
          refine ⟨h2.1, h2.2.mono ?_⟩
          intro e w3 h3
          cases e with
          | returned v => exact ih h3 hR
          | panicked ch => exact hR _ _ _ h3
          | outgrown => obtain ⟨a0, w0, h4⟩ := h3; exact ⟨a0, w0, hR _ _ _ h4⟩
        case row r args => exact ⟨h2.1, h2.2.mono fun v w3 h3 => ih h3 hR⟩
        case round l f t as bo =>
          refine ⟨h2.1, h2.2.mono ?_⟩
          intro e w3 h3
          cases e with
          | returned v => exact ih h3 hR
          | panicked ch => exact hR _ _ _ h3
          | outgrown => obtain ⟨a0, w0, h4⟩ := h3; exact ⟨a0, w0, hR _ _ _ h4⟩
    · rename_i hw
      rw [if_neg hw]
      exact ⟨h.1, ih h.2 hR⟩

theorem AL.mono {ops : Array Oper} {l : List Oper} (h : AL P ops l st Q) (hq : ∀ e s, Q e s → Q' e s) : AL P ops l st Q' :=
  fun ro k w a ms hs => wpListIn_mono' (h ro k w a ms hs) fun _ _ _ ⟨k', st', ms', h1, h2, h3⟩ => ⟨k', st', ms', h1, h2, hq _ _ h3⟩

def thenQ (N : AS → Prop) (Q : Exit → AS → Prop) : Exit → AS → Prop
  | .normal, s => N s
  | e, s => Q e s

theorem AWP.skip (h : Q .normal st) : AWP P .skip st Q := fun _ k w a ms hs => wpIn_skip ⟨k, st, ms, hs, .refl k w ms, h⟩
theorem AWP.label {l : Nat} (h : Q .normal st) : AWP P (.label l) st Q := fun _ k w a ms hs => wpIn_label ⟨k, st, ms, hs, .refl k w ms, h⟩
theorem AWP.ret (h : Q .ret st) : AWP P .ret st Q := fun _ k w a ms hs => wpIn_ret ⟨k, st, ms, hs, .refl k w ms, h⟩
theorem AWP.exit {id : Nat} (h : Q (.exit id) st) : AWP P (.exit id) st Q := fun _ k w a ms hs => wpIn_exit ⟨k, st, ms, hs, .refl k w ms, h⟩

theorem AWP.seq {x y : Code} (h : AWP P x st (thenQ (fun s => AWP P y s Q) Q)) : AWP P (.seq x y) st Q := by
  intro ro k w a ms hs
  refine wpIn_seq (wpIn_mono (h ro k w a ms hs) ?_)
  rintro e a' w' ⟨k', st', ms', h1, h2, h3⟩
  cases e with
  | normal => exact wpIn_mono (h3 ro k' w' a' ms' h1) fun _ _ _ hp => Post.step h2 hp
  | exit id => exact ⟨k', st', ms', h1, h2, h3⟩
  | goto l => exact ⟨k', st', ms', h1, h2, h3⟩
  | ret => exact ⟨k', st', ms', h1, h2, h3⟩
  | panic ch => exact ⟨k', st', ms', h1, h2, h3⟩
  | outgrown => exact ⟨k', st', ms', h1, h2, h3⟩

def blockQ (id : Nat) (Q : Exit → AS → Prop) : Exit → AS → Prop
  | .exit id', s => if id' = id then Q .normal s else Q (.exit id') s
  | e, s => Q e s

theorem AWP.block {id : Nat} {c : Code} (h : AWP P c st (blockQ id Q)) : AWP P (.block id c) st Q := by
  intro ro k w a ms hs
  refine wpIn_block (wpIn_mono (h ro k w a ms hs) ?_)
  rintro e a' w' ⟨k', st', ms', h1, h2, h3⟩
  cases e with
  | exit id' =>
    simp only [blockQ] at h3
    simp only [Exit.inBlock]
    split at h3
    · rename_i he; rw [if_pos he]; exact ⟨k', st', ms', h1, h2, h3⟩
    · rename_i he; rw [if_neg he]; exact ⟨k', st', ms', h1, h2, h3⟩
  | normal => exact ⟨k', st', ms', h1, h2, h3⟩
  | goto l => exact ⟨k', st', ms', h1, h2, h3⟩
  | ret => exact ⟨k', st', ms', h1, h2, h3⟩
  | panic ch => exact ⟨k', st', ms', h1, h2, h3⟩
  | outgrown => exact ⟨k', st', ms', h1, h2, h3⟩

/-- What an operand reads as. -/
def AS.ev (st : AS) : Operand → V
  | .tmp t => (lkp t st.t).getD .junk
  | .const (.agg cs) => if cs.all (·.oneCell') then .dagg (cs.toList.map .val) else .junk
  | .const (.tuple cs) => if cs.size = 0 then .tup [] else .junk
  | .const v => .d (.val v)
  | .global g => .d (.val (.pointer (some ⟨g, 0, none⟩)))
  | .func f => .fn f [] []

theorem DEncs_vals (S : Nat → Prop) (w : World) : ∀ (l : List Value), (∀ c ∈ l, c.oneCell' = true) → DEncs S w (l.map .val) l
  | [], _ => trivial
  | v :: vs, h => ⟨⟨rfl, h v (by simp)⟩, DEncs_vals S w vs fun c hc => h c (by simp [hc])⟩

theorem AS.ev_enc {k : K} {w : World} {a : Act} (h : SimT k w st a) (o : Operand) : VEnc k w (st.ev o) (a.eval o) := by
  cases o with
  | tmp t =>
    simp only [AS.ev, Act.eval]
    cases hl : lkp t st.t with
    | none => exact trivial
    | some x =>
      obtain ⟨v, hv, he⟩ := h.tm t x hl
      simp only [Option.getD_some, Array.getD_eq_getD_getElem?, hv]
      exact he
  | const v =>
    cases v with
    | agg cs =>
      simp only [AS.ev, Act.eval]
      split
      · rename_i hc
        refine ⟨cs, rfl, DEncs_vals _ _ _ fun c hcm => ?_⟩
        rw [Array.all_eq_true] at hc
        obtain ⟨i, hi, rfl⟩ := Array.mem_iff_getElem.1 (Array.mem_toList_iff.1 hcm)
        exact hc i hi
      · exact trivial
    | tuple cs =>
      simp only [AS.ev, Act.eval]
      split
      · rename_i hc
        obtain rfl : cs = #[] := Array.size_eq_zero_iff.1 hc
        exact ⟨#[], rfl, trivial⟩
      · exact trivial
    | _ => exact ⟨rfl, rfl⟩
  | global g => exact ⟨rfl, rfl⟩
  | func f => exact ⟨#[], #[], rfl, trivial, trivial⟩

theorem AWP.cond {c : Operand} {x y : Code} {b : Bool} (hc : st.ev c = .d (.val (.bool b))) (h1 : b = true → AWP P x st Q) (h2 : b = false → AWP P y st Q) : AWP P (.cond c x y) st Q := by
  intro ro k w a ms hs
  have he := AS.ev_enc hs.T c
  rw [hc] at he
  refine wpIn_cond_split he.1 (fun hb => h1 hb ro k w a ms hs) (fun hb => h2 hb ro k w a ms hs)

theorem AWP.region {id : Nat} {ops : Array Oper} (h : AL P ops ops.toList st Q) : AWP P (.region id ops false) st Q :=
  fun ro k w a ms hs => wpIn_region_list (h ro k w a ms hs)

theorem AL.nil {ops : Array Oper} (h : Q .normal st) : AL P ops [] st Q := fun _ k w a ms hs => ⟨k, st, ms, hs, .refl k w ms, h⟩

theorem least {p : Nat → Prop} (h : ∃ m, p m) : ∃ m, p m ∧ ∀ j, p j → m ≤ j := by
  obtain ⟨m, hm⟩ := h
  induction m using Nat.strongRecOn with
  | _ m ih =>
    by_cases hc : ∃ j, j < m ∧ p j
    · obtain ⟨j, hj, hp⟩ := hc; exact ih j hj hp
    · exact ⟨m, hm, fun j hj => Nat.le_of_not_lt fun hlt => hc ⟨j, hlt, hj⟩⟩

theorem AWP.loop {α : Type} {c : Code} (I : α → AS) (μ : α → Nat) (x : α) (h0 : st = I x)
    (round : ∀ x, AWP P c (I x) (thenQ (fun s => ∃ y, s = I y ∧ μ y < μ x) Q)) : AWP P (.loop c) st Q := by
  classical
  subst h0
  intro ro k w a ms hs
  let R : Act → World → Nat → Prop := fun a' w' m => ∃ y k' ms', Sim ro k' w' (I y) a' ms' ∧ Step1 k w ms k' w' ms' ∧ μ y = m
  have hR : ∃ m, R a w m := ⟨μ x, x, k, ms, hs, .refl k w ms, rfl⟩
  refine wpIn_loop (fun a' w' => ∃ m, R a' w' m) (fun a' w' => if h : ∃ m, R a' w' m then Classical.choose (least h) else 0) hR ?_
  intro a1 w1 h1
  obtain ⟨y, k1, ms1, s1, t1, hm⟩ := (Classical.choose_spec (least h1)).1
  refine wpIn_mono (round y ro k1 w1 a1 ms1 s1) ?_
  rintro e a2 w2 ⟨k2, st2, ms2, s2, t2, q2⟩
  cases e with
  | normal =>
    obtain ⟨z, rfl, hz⟩ := q2
    have h2 : ∃ m, R a2 w2 m := ⟨μ z, z, k2, ms2, s2, t1.trans t2, rfl⟩
    refine ⟨h2, ?_⟩
    rw [dif_pos h1, dif_pos h2, ← hm]
    exact Nat.lt_of_le_of_lt ((Classical.choose_spec (least h2)).2 _ ⟨z, k2, ms2, s2, t1.trans t2, rfl⟩) hz
  | exit id => exact ⟨k2, st2, ms2, s2, t1.trans t2, q2⟩
  | goto l => exact ⟨k2, st2, ms2, s2, t1.trans t2, q2⟩
  | ret => exact ⟨k2, st2, ms2, s2, t1.trans t2, q2⟩
  | panic ch => exact ⟨k2, st2, ms2, s2, t1.trans t2, q2⟩
  | outgrown => exact ⟨k2, st2, ms2, s2, t1.trans t2, q2⟩
end rules

end Go.AM
end
section
/-! ## 2 -/
namespace Go.AM
open Go

mutual
def V.refs : V → List Nat
  | .junk => []
  | .d _ => []
  | .ptr id _ => [id]
  | .own id _ _ _ => [id]
  | .ep id _ _ _ => [id]
  | .rp _ => []
  | .rr _ _ _ _ => []
  | .fn _ first caps => refsL first ++ refsL caps
  | .agg l => refsL l
  | .dagg _ => []
  | .tup l => refsL l
  | .yld id => [id]
  | .mp id => [id]
  | .opt _ x => x.refs
def refsL : List V → List Nat
  | [] => []
  | x :: xs => x.refs ++ refsL xs
end

def Ob.refs : Ob → List Nat
  | .cells vs => refsL vs
  | .arr _ _ => []
  | .opq _ => []

def refsT : List (Nat × V) → List Nat
  | [] => []
  | (_, x) :: r => x.refs ++ refsT r
def refsH : List (Nat × Ob) → List Nat
  | [] => []
  | (_, x) :: r => x.refs ++ refsH r
def inL : List Nat → Nat → Bool
  | [], _ => false
  | x :: xs, y => Nat.beq x y || inL xs y
def subL : List Nat → List Nat → Bool
  | [], _ => true
  | x :: xs, l => inL l x && subL xs l
def domL {α : Type} : List (Nat × α) → List Nat
  | [] => []
  | (i, _) :: r => i :: domL r

theorem inL_iff : ∀ {l : List Nat} {y : Nat}, inL l y = true ↔ y ∈ l
  | [], y => by simp [inL]
  | x :: xs, y => by
    simp only [inL, Bool.or_eq_true, inL_iff (l := xs), List.mem_cons, Nat.beq_eq]
    exact ⟨fun h => h.imp Eq.symm id, fun h => h.imp Eq.symm id⟩
theorem subL_iff : ∀ {l m : List Nat}, subL l m = true ↔ ∀ x ∈ l, x ∈ m
  | [], m => by simp [subL]
  | x :: xs, m => by simp [subL, subL_iff (l := xs), inL_iff]
theorem look_isSome {α : Type} : ∀ {l : List (Nat × α)} {i : Nat}, (lkp i l).isSome = inL (domL l) i
  | [], i => rfl
  | (j, x) :: r, i => by
    simp only [lkp, domL, inL]
    by_cases h : j = i
    · rw [if_pos h]; simp [h]
    · rw [if_neg h, look_isSome]
      have : Nat.beq j i = false := by
        cases hb : Nat.beq j i with
        | false => rfl
        | true => exact absurd (Nat.eq_of_beq_eq_true hb) h
      simp [this]
theorem look_mem {α : Type} : ∀ {l : List (Nat × α)} {i : Nat} {x : α}, lkp i l = some x → (i, x) ∈ l
  | [], _, _, h => by simp [lkp] at h
  | (j, y) :: r, i, x, h => by
    simp only [lkp] at h
    split at h
    · rename_i e; cases h; subst e; exact List.mem_cons_self ..
    · exact List.mem_cons_of_mem _ (look_mem h)
theorem refsT_mem : ∀ {l : List (Nat × V)} {i : Nat} {x : V}, (i, x) ∈ l → ∀ y ∈ x.refs, y ∈ refsT l
  | (j, z) :: r, i, x, h, y, hy => by
    simp only [refsT, List.mem_append]
    rcases List.mem_cons.1 h with e | e
    · cases e; exact .inl hy
    · exact .inr (refsT_mem e y hy)
theorem refsH_mem : ∀ {l : List (Nat × Ob)} {i : Nat} {x : Ob}, (i, x) ∈ l → ∀ y ∈ x.refs, y ∈ refsH l
  | (j, z) :: r, i, x, h, y, hy => by
    simp only [refsH, List.mem_append]
    rcases List.mem_cons.1 h with e | e
    · cases e; exact .inl hy
    · exact .inr (refsH_mem e y hy)

/-- Values are the same under another knowledge of objects, if it agrees on those that are named. -/
structure Agree (k : K) (k' : K) (ids : List Nat) : Prop where
  S : k'.S = k.S
  beta : ∀ i ∈ ids, k'.β i = k.β i

mutual
theorem VEnc.agree {k k' : K} {w : World} : ∀ (x : V) (v : Value), Agree k k' x.refs → VEnc k w x v → VEnc k' w x v
  | .junk, _, _, _ => trivial
  | .d x, v, m, h => by simp only [VEnc, m.S]; exact h
  | .ptr id _, _, m, h => by simp only [VEnc, m.beta id (by simp [V.refs])]; exact h
  | .own id _ _ _, _, m, h => by simp only [VEnc, m.beta id (by simp [V.refs])]; exact h
  | .ep id _ _ _, _, m, h => by simp only [VEnc, m.beta id (by simp [V.refs])]; exact h
  | .rp ds, _, m, h => by simp only [VEnc, m.S]; exact h
  | .rr _ _ _ _, _, m, h => by simp only [VEnc, m.S]; exact h
  | .fn _ first caps, _, m, h => by
    obtain ⟨fs, cs, e, h1, h2⟩ := h
    exact ⟨fs, cs, e, VEncs.agree first _ ⟨m.S, fun i hi => m.beta i (by simp [V.refs, hi])⟩ h1, VEncs.agree caps _ ⟨m.S, fun i hi => m.beta i (by simp [V.refs, hi])⟩ h2⟩
  | .agg l, _, m, h => by obtain ⟨cs, e, h1, h2⟩ := h; exact ⟨cs, e, VEncs.agree l _ m h1, h2⟩
  | .dagg l, _, m, h => by simp only [VEnc, m.S]; exact h
  | .tup l, _, m, h => by obtain ⟨cs, e, h1⟩ := h; exact ⟨cs, e, VEncs.agree l _ m h1⟩
  | .yld id, _, m, h => by simp only [VEnc, m.beta id (by simp [V.refs])]; exact h
  | .mp id, _, m, h => by simp only [VEnc, m.beta id (by simp [V.refs])]; exact h
  | .opt _ x, v, m, h => ⟨fun e => VEnc.agree x v m (h.1 e), h.2⟩
theorem VEncs.agree {k k' : K} {w : World} : ∀ (l : List V) (vs : List Value), Agree k k' (refsL l) → VEncs k w l vs → VEncs k' w l vs
  | [], [], _, _ => trivial
  | x :: xs, v :: vs, m, h => ⟨VEnc.agree x v ⟨m.S, fun i hi => m.beta i (by simp [refsL, hi])⟩ h.1, VEncs.agree xs vs ⟨m.S, fun i hi => m.beta i (by simp [refsL, hi])⟩ h.2⟩
  | [], _ :: _, _, h => h.elim
  | _ :: _, [], _, h => h.elim
end

/-- The knowledge of some objects alone. -/
def K.only (k : K) (l : List Nat) : K :=
  { S := k.S, β := fun i => if inL l i then k.β i else none, X := fun i b => inL l i = true ∧ k.X i b }

theorem obSat_only {k : K} {w : World} {l : List Nat} {i : Nat} {o : Ob} (hi : inL l i = true) (hr : ∀ y ∈ o.refs, inL l y = true) (h : obSat k w i o) : obSat (k.only l) w i o := by
  have hb : (k.only l).β i = k.β i := by simp [K.only, hi]
  have hX : ∀ b, (k.only l).X i b ↔ k.X i b := fun b => by simp [K.only, hi]
  cases o with
  | cells vs =>
    obtain ⟨b, cs, ty, h1, h2, h3, h4, h5⟩ := h
    exact ⟨b, cs, ty, hb.trans h1, h2, VEncs.agree (k := k) (k' := k.only l) vs _ ⟨rfl, fun j hj => by simp [K.only, hr j hj]⟩ h3, h4, fun b' hb' => h5 b' ((hX b').1 hb')⟩
  | arr sz rows =>
    obtain ⟨h1, h2⟩ := h
    refine ⟨?_, h2⟩
    rcases h1 with ⟨a1, a2, a3⟩ | ⟨b, cs, ty, a1, a2, a3, a4, a5⟩
    · exact .inl ⟨hb.trans a1, a2, fun b' hb' => a3 b' ((hX b').1 hb')⟩
    · exact .inr ⟨b, cs, ty, hb.trans a1, a2, a3, a4, fun b' hb' => a5 b' ((hX b').1 hb')⟩
  | opq A =>
    obtain ⟨l', h1, h2⟩ := h
    exact ⟨l', hb.trans h1, by have : (k.only l).X i = k.X i := by { funext b; exact propext (hX b) }
                               rw [this]; exact h2⟩

set_option linter.unusedSectionVars false
variable [Env]
theorem SimH.only {k : K} {w : World} {h h' : List (Nat × Ob)} {l : List Nat} (s : SimH k w h) (hl : ∀ i, inL l i = true → lkp i h' = lkp i h) (hd : ∀ i, (lkp i h').isSome = true → inL l i = true)
    (hdl : ∀ i, inL l i = true → (lkp i h').isSome = true) (hr : ∀ i o, lkp i h' = some o → ∀ y ∈ o.refs, inL l y = true) : SimH (k.only l) w h' where
  inj i j b h1 h2 := s.inj i j b h1.2 h2.2
  lt i b h1 := s.lt i b h1.2
  dis i b h1 := s.dis i b h1.2
  slt := s.slt
  env := s.env
  prim i b h1 := by
    simp only [K.only] at h1 ⊢
    split at h1
    · rename_i hi; exact ⟨hi, s.prim i b h1⟩
    · cases h1
  dom i := by
    simp only [K.only]
    split
    · rename_i hi; rw [s.dom, hl i hi]
    · rename_i hi
      cases hs : (lkp i h').isSome with
      | false => rfl
      | true => exact absurd (hd i hs) hi
  domX i b h1 := by simp only [K.only, h1.1, if_true]; exact s.domX i b h1.2
  sat i o h1 := by
    have hi : inL l i = true := hd i (by rw [h1]; rfl)
    exact obSat_only hi (hr i o h1) (s.sat i o ((hl i hi).symm.trans h1))

theorem Ext.only {k : K} {w : World} (l : List Nat) : Ext k w (k.only l) w :=
  ⟨.refl w, fun _ _ _ => rfl, fun _ h => h, fun _ h => .inl h, fun i _ h => .inl ⟨i, h.2⟩, fun i l _ h => by
    simp only [K.only] at h; split at h
    · exact h
    · cases h⟩

def keepT (ts : List Nat) (t : List (Nat × V)) : List (Nat × V) :=
  match ts with
  | [] => []
  | i :: r => (i, (lkp i t).getD .junk) :: keepT r t
def keepH (hs : List Nat) (h : List (Nat × Ob)) : List (Nat × Ob) :=
  match hs with
  | [] => []
  | i :: r => match lkp i h with | some o => (i, o) :: keepH r h | none => keepH r h

/-- A state of which some temporaries and objects are kept. -/
def AS.keep (st : AS) (ts hs : List Nat) : AS := { n := st.n, t := keepT ts st.t, h := keepH hs st.h }
def ltL : List Nat → Nat → Bool
  | [], _ => true
  | x :: xs, n => Nat.blt x n && ltL xs n
/-- The same, all that is named being there. -/
def AS.closed (st : AS) (ts hs : List Nat) : Bool := ltL ts st.n && subL (refsT (keepT ts st.t)) hs && subL (refsH (keepH hs st.h)) hs && subL hs (domL st.h)

theorem look_keepT {ts : List Nat} {t : List (Nat × V)} {i : Nat} {x : V} (h : lkp i (keepT ts t) = some x) : i ∈ ts ∧ x = (lkp i t).getD .junk := by
  induction ts with
  | nil => simp [keepT, lkp] at h
  | cons j r ih =>
    simp only [keepT, lkp] at h
    split at h
    · rename_i e; subst e; cases h; exact ⟨List.mem_cons_self .., rfl⟩
    · exact ⟨List.mem_cons_of_mem _ (ih h).1, (ih h).2⟩
theorem look_keepH {hs : List Nat} {h : List (Nat × Ob)} {i : Nat} : lkp i (keepH hs h) = if inL hs i then lkp i h else none := by
  induction hs with
  | nil => rfl
  | cons j r ih =>
    simp only [keepH, inL]
    by_cases e : j = i
    · subst e
      have : Nat.beq j j = true := by simp
      simp only [this, Bool.true_or, if_true]
      cases hl : lkp j h with
      | some o => simp [lkp]
      | none => simp only; rw [ih]; split <;> simp [hl]
    · have hb : Nat.beq j i = false := by
        cases hb : Nat.beq j i with
        | false => rfl
        | true => exact absurd (Nat.eq_of_beq_eq_true hb) e
      simp only [hb, Bool.false_or]
      cases hl : lkp j h with
      | some o => simp only [lkp, if_neg e]; exact ih
      | none => exact ih
theorem ltL_iff : ∀ {l : List Nat} {n : Nat}, ltL l n = true → ∀ x ∈ l, x < n
  | x :: xs, n, h, y, hy => by
    simp only [ltL, Bool.and_eq_true] at h
    rcases List.mem_cons.1 hy with e | e
    · subst e; exact Nat.le_of_ble_eq_true h.1
    · exact ltL_iff h.2 y e

section
variable {P : Program} {st : AS} {Q Q' : Exit → AS → Prop}

theorem Sim.keep {k : K} {w : World} {a : Act} {ms : List Nat} {ro : Option Nat} (ts hs : List Nat) (hc : st.closed ts hs = true) (s : Sim ro k w st a ms) :
    Sim ro (k.only hs) w (st.keep ts hs) a ms ∧ Step1 k w ms (k.only hs) w ms := by
  simp only [AS.closed, Bool.and_eq_true] at hc
  obtain ⟨⟨⟨c0, c1⟩, c2⟩, c3⟩ := hc
  rw [subL_iff] at c1 c2 c3
  refine ⟨⟨?_, ⟨s.T.size, s.T.arg, ?_⟩, ⟨s.M.eq, s.M.nodup, s.M.heap, s.M.noS, fun D hD i h => s.M.noX D hD i h.2, fun l hl => ⟨(s.M.rd l hl).1, (s.M.rd l hl).2.1, fun i h => (s.M.rd l hl).2.2 i h.2⟩⟩⟩, ⟨Ext.only hs, fun _ h => .inl h⟩⟩
  · refine s.H.only (fun i hi => ?_) (fun i hi => ?_) (fun i hi => ?_) (fun i o ho y hy => ?_)
    · simp only [AS.keep]; rw [look_keepH, if_pos hi]
    · simp only [AS.keep] at hi; rw [look_keepH] at hi; split at hi
      · assumption
      · cases hi
    · simp only [AS.keep]; rw [look_keepH, if_pos hi, look_isSome]; exact inL_iff.2 (c3 i (inL_iff.1 hi))
    · exact inL_iff.2 (c2 y (refsH_mem (look_mem ho) y hy))
  · intro i x hx
    obtain ⟨hi, e⟩ := look_keepT hx
    cases hl : lkp i st.t with
    | some x' =>
      rw [hl] at e; simp only [Option.getD_some] at e; subst e
      obtain ⟨v, hv, he⟩ := s.T.tm i x hl
      exact ⟨v, hv, VEnc.agree (k := k) (k' := k.only hs) x v ⟨rfl, fun j hj => by simp [K.only, inL_iff.2 (c1 j (refsT_mem (look_mem hx) j hj))]⟩ he⟩
    | none =>
      rw [hl] at e; simp only [Option.getD_none] at e; subst e
      have := ltL_iff c0 i hi
      rw [← s.T.size] at this
      exact ⟨a.tmps[i], by simp [this], trivial⟩

theorem AWP.keep {c : Code} (ts hs : List Nat) (hc : st.closed ts hs = true) (h : AWP P c (st.keep ts hs) Q) : AWP P c st Q := by
  intro ro k w a ms s
  obtain ⟨s', t⟩ := s.keep ts hs hc
  exact wpIn_mono (h ro _ w a ms s') fun _ _ _ hp => Post.step t hp

/-- The same behind a piece of code. -/
theorem AWP.post_keep {c : Code} (h : AWP P c st fun e s => Q e s ∨ ∃ ts hs, s.closed ts hs = true ∧ Q e (s.keep ts hs)) : AWP P c st Q := by
  intro ro k w a ms s
  refine wpIn_mono (h ro k w a ms s) ?_
  rintro e a' w' ⟨k', st', ms', h1, h2, h3 | ⟨ts, hs, hc, h3⟩⟩
  · exact ⟨k', st', ms', h1, h2, h3⟩
  · obtain ⟨s', t⟩ := h1.keep ts hs hc
    exact ⟨_, _, ms', s', h2.trans t, h3⟩

theorem AL.keep {ops : Array Oper} {l : List Oper} (ts hs : List Nat) (hc : st.closed ts hs = true) (h : AL P ops l (st.keep ts hs) Q) : AL P ops l st Q := by
  intro ro k w a ms s
  obtain ⟨s', t⟩ := s.keep ts hs hc
  exact wpListIn_mono' (h ro _ w a ms s') fun _ _ _ hp => Post.step t hp
end
end Go.AM
end
section
/-! ## 3 -/
namespace Go.AM
open Go

structure TI where
  desc : TypeDesc
  size : Nat
  bytes : Nat
  zero : Value
  eq : Bool

/-- The types that a program's functions name. -/
def TOK (P : Program) (T : List (Nat × TI)) : Prop :=
  ∀ t i, lkp t T = some i → P.underlying t = some i.desc ∧ (P.info? t).map (fun x => (x.size, x.bytes, x.zero)) = some (i.size, i.bytes, some i.zero) ∧
    (i.zero.cells.all (·.oneCell') && i.zero.cells.size == i.size && (match i.desc with | .struct fs => fs.all (fun f => (P.info? f.type).isSome) | _ => true) && (!i.eq || (!P.stoodInHeld t && !P.eqGuardType P.depth t))) = true

def TIOK (P : Program) (t : Nat) (i : TI) : Prop :=
  P.underlying t = some i.desc ∧ (P.info? t).map (fun x => (x.size, x.bytes, x.zero)) = some (i.size, i.bytes, some i.zero) ∧
    (i.zero.cells.all (·.oneCell') && i.zero.cells.size == i.size && (match i.desc with | .struct fs => fs.all (fun f => (P.info? f.type).isSome) | _ => true) && (!i.eq || (!P.stoodInHeld t && !P.eqGuardType P.depth t))) = true

def TOKL (P : Program) : List (Nat × TI) → Prop
  | [] => True
  | (t, i) :: r => TIOK P t i ∧ TOKL P r

theorem TOK.of_list {P : Program} : ∀ {T : List (Nat × TI)}, TOKL P T → TOK P T
  | [], _, t, i, h => by simp [lkp] at h
  | (u, j) :: r, hl, t, i, h => by
    simp only [lkp] at h
    split at h
    · rename_i e; subst e; cases h; exact hl.1
    · exact TOK.of_list hl.2 t i h

theorem TOK.size {P : Program} {T : List (Nat × TI)} (h : TOK P T) {t : Nat} {i : TI} (e : lkp t T = some i) : (P.info? t).map (·.size) = some i.size := by
  have := (h t i e).2.1
  cases hq : P.info? t with
  | none => simp [hq] at this
  | some x => simp [hq] at this ⊢; exact this.1

theorem TOK.info {P : Program} {T : List (Nat × TI)} (h : TOK P T) {t : Nat} {i : TI} (e : lkp t T = some i) : ∃ x, P.info? t = some x ∧ x.size = i.size ∧ x.bytes = i.bytes ∧ x.zero = some i.zero := by
  have := (h t i e).2.1
  cases hq : P.info? t with
  | none => simp [hq] at this
  | some x => simp [hq] at this; exact ⟨x, rfl, this⟩

theorem TOK.ones {P : Program} {T : List (Nat × TI)} (h : TOK P T) {t : Nat} {i : TI} (e : lkp t T = some i) : (∀ c ∈ i.zero.cells, c.oneCell' = true) ∧ i.zero.cells.size = i.size := by
  have := (h t i e).2.2
  simp only [Bool.and_eq_true, beq_iff_eq] at this
  exact ⟨Array.all_eq_true_iff_forall_mem.1 this.1.1.1, this.1.1.2⟩

theorem TOK.fields {P : Program} {T : List (Nat × TI)} (h : TOK P T) {t : Nat} {i : TI} (e : lkp t T = some i) {fs : Array Field} (hd : i.desc = .struct fs) : ∀ f ∈ fs, ∃ x, P.info? f.type = some x := by
  have := (h t i e).2.2
  rw [hd] at this
  simp only [Bool.and_eq_true] at this
  intro f hf
  have := Array.all_eq_true_iff_forall_mem.1 this.1.2 f hf
  exact Option.isSome_iff_exists.1 this

theorem TOK.eqs {P : Program} {T : List (Nat × TI)} (h : TOK P T) {t : Nat} {i : TI} (e : lkp t T = some i) (he : i.eq = true) : P.stoodInHeld t = false ∧ P.eqGuardType P.depth t = false := by
  have := (h t i e).2.2
  simp only [Bool.and_eq_true, he, Bool.not_true, Bool.false_or, Bool.not_eq_true'] at this
  exact this.2

theorem run_sizeOf {P : Program} {T : List (Nat × TI)} (h : TOK P T) {t : Nat} {i : TI} (e : lkp t T = some i) (w : World) : (sizeOf t).run P w = .ok i.size w := by
  obtain ⟨x, hx, h1, _⟩ := h.info e
  simp [sizeOf, typeInfo, Sem.run_bind, hx, h1]
theorem run_typeInfo {P : Program} {t : Nat} {x : TypeInfo} (hx : P.info? t = some x) (w : World) : (typeInfo t).run P w = .ok x w := by
  simp [typeInfo, Sem.run_bind, hx]
theorem run_zeroValue {P : Program} {T : List (Nat × TI)} (h : TOK P T) {t : Nat} {i : TI} (e : lkp t T = some i) (w : World) : (zeroValue t).run P w = .ok i.zero w := by
  obtain ⟨x, hx, _, _, h1⟩ := h.info e
  simp [zeroValue, typeInfo, Sem.run_bind, hx, h1]
theorem run_under {P : Program} {T : List (Nat × TI)} (h : TOK P T) {t : Nat} {i : TI} (e : lkp t T = some i) (w : World) : (underlying t).run P w = .ok i.desc w :=
  run_underlying (h t i e).1 w

/-! ### Ranges of cells -/
section
variable {S : Nat → Prop} {w : World}

theorem CellsAt.get : ∀ {l : List D} {b o : Nat} (_ : CellsAt S w l b o) {i : Nat} {x : D} (_ : l[i]? = some x), ∃ v, w.cell? ⟨b, o + i, none⟩ = some v ∧ DEnc S w x v
  | x :: xs, b, o, h, 0, y, e => by simp at e; subst e; exact h.1
  | x :: xs, b, o, h, i + 1, y, e => by
    simp at e
    have := CellsAt.get h.2 e
    rwa [show o + (i + 1) = o + 1 + i from by omega]
  | [], _, _, _, _, _, e => by simp at e

theorem CellsAt.range : ∀ {l : List D} {b o : Nat}, CellsAt S w l b o → ∃ cs, cs.length = l.length ∧ w.rangeAt b o cs ∧ DEncs S w l cs
  | [], b, o, _ => ⟨[], rfl, fun j v h => by simp at h, trivial⟩
  | x :: xs, b, o, h => by
    obtain ⟨⟨v, hv, hx⟩, hr⟩ := h
    obtain ⟨cs, h1, h2, h3⟩ := CellsAt.range hr
    refine ⟨v :: cs, by simp [h1], fun j u hu => ?_, hx, h3⟩
    cases j with
    | zero => simp at hu; subst hu; exact hv
    | succ j => rw [show o + (j + 1) = o + 1 + j from by omega]; exact h2 j u (by simpa using hu)

theorem CellsAt.drop : ∀ {l : List D} {b o : Nat} (n : Nat), CellsAt S w l b o → CellsAt S w (l.drop n) b (o + n)
  | l, b, o, 0, h => h
  | [], b, o, n + 1, _ => by simp only [List.drop_nil]; exact trivial
  | x :: xs, b, o, n + 1, h => by
    have := CellsAt.drop n h.2
    rw [show o + (n + 1) = o + 1 + n from by omega]; exact this
theorem CellsAt.take : ∀ {l : List D} {b o : Nat} (n : Nat), CellsAt S w l b o → CellsAt S w (l.take n) b o
  | l, b, o, 0, h => by simp only [List.take_zero]; exact trivial
  | [], b, o, n + 1, _ => by simp only [List.take_nil]; exact trivial
  | x :: xs, b, o, n + 1, h => ⟨h.1, CellsAt.take n h.2⟩
theorem DEncs.drop : ∀ {l : List D} {cs : List Value} (n : Nat), DEncs S w l cs → DEncs S w (l.drop n) (cs.drop n)
  | l, cs, 0, h => h
  | [], [], n + 1, _ => by simp only [List.drop_nil]; exact trivial
  | x :: xs, v :: vs, n + 1, h => DEncs.drop n h.2
theorem DEncs.take : ∀ {l : List D} {cs : List Value} (n : Nat), DEncs S w l cs → DEncs S w (l.take n) (cs.take n)
  | l, cs, 0, h => by simp only [List.take_zero]; exact trivial
  | [], [], n + 1, _ => by simp only [List.take_nil]; exact trivial
  | x :: xs, v :: vs, n + 1, h => ⟨h.1, DEncs.take n h.2⟩
theorem VEncs.drop {k : K} : ∀ {l : List V} {cs : List Value} (n : Nat), VEncs k w l cs → VEncs k w (l.drop n) (cs.drop n)
  | l, cs, 0, h => h
  | [], [], n + 1, _ => by simp only [List.drop_nil]; exact trivial
  | x :: xs, v :: vs, n + 1, h => VEncs.drop n h.2
theorem VEncs.take {k : K} : ∀ {l : List V} {cs : List Value} (n : Nat), VEncs k w l cs → VEncs k w (l.take n) (cs.take n)
  | l, cs, 0, h => by simp only [List.take_zero]; exact trivial
  | [], [], n + 1, _ => by simp only [List.take_nil]; exact trivial
  | x :: xs, v :: vs, n + 1, h => ⟨h.1, VEncs.take n h.2⟩
theorem DEncs.ones : ∀ {l : List D} {cs : List Value}, DEncs S w l cs → ∀ c ∈ cs, c.oneCell' = true
  | [], [], _, c, hc => by simp at hc
  | x :: xs, v :: vs, h, c, hc => by
    rcases List.mem_cons.1 hc with e | e
    · subst e; exact DEnc.one1 h.1
    · exact DEncs.ones h.2 c e

theorem RowsAt.row : ∀ {rows : List (List D)} {b o sz : Nat} (_ : RowsAt S w rows b o) (_ : ∀ r ∈ rows, r.length = sz) {i : Nat} (_ : i < rows.length), CellsAt S w (rows.getD i []) b (o + i * sz)
  | r :: rs, b, o, sz, h, _, 0, _ => by simpa using h.1
  | r :: rs, b, o, sz, h, hu, i + 1, hi => by
    have h1 : r.length = sz := hu r (by simp)
    have := RowsAt.row h.2 (fun r hr => hu r (by simp [hr])) (i := i) (by simpa using hi)
    rw [h1] at this
    rw [show o + (i + 1) * sz = o + sz + i * sz from by rw [Nat.add_mul]; omega]
    simpa using this
  | [], _, _, _, _, _, _, hi => by simp at hi
theorem RowsAt.dropR : ∀ {rows : List (List D)} {b o sz : Nat} (_ : RowsAt S w rows b o) (_ : ∀ r ∈ rows, r.length = sz) (n : Nat), RowsAt S w (rows.drop n) b (o + n * sz)
  | rows, b, o, sz, h, _, 0 => by simpa using h
  | r :: rs, b, o, sz, h, hu, n + 1 => by
    have h1 : r.length = sz := hu r (by simp)
    have := RowsAt.dropR h.2 (fun r hr => hu r (by simp [hr])) n
    rw [h1] at this
    rw [show o + (n + 1) * sz = o + sz + n * sz from by rw [Nat.add_mul]; omega]
    exact this
  | [], _, _, _, _, _, _ + 1 => by simp only [List.drop_nil]; exact trivial
theorem RowsAt.takeR : ∀ {rows : List (List D)} {b o : Nat} (_ : RowsAt S w rows b o) (n : Nat), RowsAt S w (rows.take n) b o
  | rows, b, o, h, 0 => by simp only [List.take_zero]; exact trivial
  | r :: rs, b, o, h, n + 1 => ⟨h.1, RowsAt.takeR h.2 n⟩
  | [], _, _, _, _ + 1 => by simp only [List.take_nil]; exact trivial
theorem rows_getD_length {rows : List (List D)} {sz i : Nat} (hu : ∀ r ∈ rows, r.length = sz) (hi : i < rows.length) : (rows.getD i []).length = sz := by
  rw [List.getD_eq_getElem?_getD, List.getElem?_eq_getElem hi]
  exact hu _ (List.getElem_mem hi)
end

/-! ### What is yielded without an effect -/
inductive Res where
  | ok (v : V)
  | okc (c : Prop) (v : V)
  | no

def Res.holds (r : Res) (F : V → Prop) : Prop :=
  match r with
  | .ok v => F v
  | .okc c v => c → F v
  | .no => True

def aload (T : List (Nat × TI)) (h : List (Nat × Ob)) (t : Nat) (p : V) : Res :=
  match lkp t T with
  | none => .no
  | some i =>
    if i.desc.isRow then
      match p with
      | .ptr id off => match lkp id h with
        | some (.cells vs) => if off + i.size ≤ vs.length then .ok (.agg ((vs.drop off).take i.size)) else .no
        | _ => .no
      | .rp ds => if i.size ≤ ds.length then .ok (.dagg (ds.take i.size)) else .no
      | .rr sz rows r off => if off + i.size ≤ sz then .ok (.dagg (((rows.getD r []).drop off).take i.size)) else .no
      | .ep id sz r off => match lkp id h with
        | some (.arr sz' rows) => if sz = sz' ∧ off + i.size ≤ sz then .okc (r < rows.length) (.dagg (((rows.getD r []).drop off).take i.size)) else .no
        | _ => .no
      | _ => .no
    else
      match p with
      | .ptr id off => match lkp id h with
        | some (.cells vs) => match vs[off]? with
          | some x => .ok x
          | none => .no
        | _ => .no
      | .rp ds => match ds[0]? with
        | some x => .ok (.d x)
        | none => .no
      | .rr sz rows r off => if off < sz then .ok (.d ((rows.getD r []).getD off default)) else .no
      | .ep id sz r off => match lkp id h with
        | some (.arr sz' rows) => if sz = sz' ∧ off < sz then .okc (r < rows.length) (.d ((rows.getD r []).getD off default)) else .no
        | _ => .no
      | _ => .no

theorem cell_of_cells {w : World} {b : Nat} {cs : Array Value} {ty : TypeId} {fz : Nat × Nat} (h : w.heap[b]? = some (Obj.cells cs ty fz)) (o : Nat) : w.cell? ⟨b, o, none⟩ = cs[o]? := by
  simp [World.cell?, h]

theorem run_load_one {P : Program} {w : World} {t : Nat} {i : TI} {T : List (Nat × TI)} (hT : TOK P T) (hl : lkp t T = some i) (hr : i.desc.isRow = false) {b o : Nat} {v : Value} (hc : w.cell? ⟨b, o, none⟩ = some v) :
    (Instr.loadAt t (.pointer (some ⟨b, o, none⟩))).run P w = .ok v w := by
  have hagg : (isAgg t).run P w = .ok false w := by
    unfold isAgg
    rw [Sem.run_bind, run_under hT hl w]
    cases hd : i.desc <;> simp_all
  simp [Instr.loadAt, Instr.sureAddr, loadVar, Sem.run_bind, hagg, hc]

set_option linter.unusedSectionVars false
variable [Env]
/-- Blocks that stand in w stand in w'. -/
def Still (w w' : World) : Prop := ∀ b : Nat, b < w.heap.size → w'.heap[b]? = w.heap[b]?

theorem Still.refl (w : World) : Still w w := fun _ _ => rfl
theorem cell_still {w w' : World} (h : Still w w') {b o : Nat} {v : Value} (hc : w.cell? ⟨b, o, none⟩ = some v) : w'.cell? ⟨b, o, none⟩ = some v := by
  have hb : b < w.heap.size := by
    simp only [World.cell?] at hc
    cases hq : w.heap[b]? with
    | none => rw [hq] at hc; cases hc
    | some x => exact (Array.getElem?_eq_some_iff.1 hq).1
  rw [cell_of_heap (h b hb)]; exact hc
theorem range_still {w w' : World} (h : Still w w') {b o : Nat} {cs : List Value} (hc : w.rangeAt b o cs) : w'.rangeAt b o cs := fun j v hv => cell_still h (hc j v hv)

theorem aload_sound {P : Program} {T : List (Nat × TI)} (hT : TOK P T) {k : K} {w : World} {h : List (Nat × Ob)} (hH : SimH k w h) (t : Nat) (p : V) (x : Value) (hx : VEnc k w p x) :
    (aload T h t p).holds fun v => ∃ y, (∀ w', Still w w' → (Instr.loadAt t x).run P w' = .ok y w') ∧ VEnc k w v y := by
  unfold aload
  cases hl : lkp t T with
  | none => exact trivial
  | some i =>
    simp only
    have hu := (hT t i hl).1
    have hsz := hT.size hl
    split
    · rename_i hr
      cases p with
      | ptr id off =>
        simp only
        obtain ⟨b, hb, rfl⟩ := hx
        cases ho : lkp id h with
        | none => exact trivial
        | some ob =>
          cases ob with
          | cells vs =>
            simp only
            obtain ⟨b', cs, ty, h1, h2, h3, h4, _⟩ := hH.sat id _ ho
            rw [hb] at h1; cases h1
            split
            · rename_i hle
              have hlen := VEncs.length h3
              refine ⟨.agg ((cs.toList.drop off).take i.size).toArray, ?_, ?_⟩
              · intro w' hw'
                refine run_loadAt_mid w' b off t _ i.desc (range_still hw' fun j v hv => ?_) hu hr (by rw [hsz]; simp at hlen ⊢; omega)
                rw [cell_of_cells h2]
                rw [List.getElem?_take] at hv
                split at hv
                · rw [List.getElem?_drop] at hv; simpa using hv
                · cases hv
              · exact ⟨_, rfl, by simpa using (h3.drop off).take i.size, fun c hc => h4 c (by
                  have := List.mem_of_mem_take (by simpa using hc : c ∈ List.take i.size (List.drop off cs.toList))
                  simpa using List.mem_of_mem_drop this)⟩
            · exact trivial
          | arr _ _ => exact trivial
          | opq _ => exact trivial
      | rp ds =>
        simp only
        obtain ⟨b, o, rfl, hb, hc⟩ := hx
        split
        · rename_i hle
          obtain ⟨cs, h1, h2, h3⟩ := (hc.take i.size).range
          refine ⟨.agg cs.toArray, fun w' hw' => run_loadAt_mid w' b o t cs i.desc (range_still hw' h2) hu hr (by rw [hsz, h1]; simp; omega), ⟨_, rfl, by simpa using h3⟩⟩
        · exact trivial
      | rr sz rows r off =>
        simp only
        obtain ⟨b, o, rfl, hb, hc, hun, hi⟩ := hx
        split
        · rename_i hle
          have hlen := rows_getD_length hun hi
          obtain ⟨cs, h1, h2, h3⟩ := (((hc.row hun hi).drop off).take i.size).range
          refine ⟨.agg cs.toArray, fun w' hw' => run_loadAt_mid w' b _ t cs i.desc (range_still hw' h2) hu hr (by rw [hsz, h1, List.length_take, List.length_drop, hlen]; congr 1; omega), ⟨_, rfl, by simpa using h3⟩⟩
        · exact trivial
      | ep id sz r off =>
        simp only
        obtain ⟨b, hb, rfl⟩ := hx
        cases ho : lkp id h with
        | none => exact trivial
        | some ob =>
          cases ob with
          | cells vs => exact trivial
          | opq _ => exact trivial
          | arr sz' rows =>
            simp only
            split
            · rename_i hle
              obtain ⟨rfl, hle⟩ := hle
              intro hi
              obtain ⟨h1, hun, _⟩ := hH.sat id _ ho
              rcases h1 with ⟨h1, _⟩ | ⟨b', cs, ty, h1, h2, h3, hc, _⟩
              · rw [hb] at h1; cases h1
              · rw [hb] at h1; cases h1
                have hlen := rows_getD_length hun hi
                obtain ⟨cs, h1, h2, h3⟩ := (((hc.row hun hi).drop off).take i.size).range
                rw [Nat.zero_add] at h2
                refine ⟨.agg cs.toArray, fun w' hw' => run_loadAt_mid w' b _ t cs i.desc (range_still hw' h2) hu hr (by rw [hsz, h1, List.length_take, List.length_drop, hlen]; congr 1; omega), ⟨_, rfl, by simpa using h3⟩⟩
            · exact trivial
      | _ => exact trivial
    · rename_i hr
      have hr : i.desc.isRow = false := by simpa using hr
      cases p with
      | ptr id off =>
        simp only
        obtain ⟨b, hb, rfl⟩ := hx
        cases ho : lkp id h with
        | none => exact trivial
        | some ob =>
          cases ob with
          | cells vs =>
            simp only
            obtain ⟨b', cs, ty, h1, h2, h3, h4, _⟩ := hH.sat id _ ho
            rw [hb] at h1; cases h1
            cases hv : vs[off]? with
            | none => exact trivial
            | some y =>
              obtain ⟨u, hu1, hu2⟩ := h3.get hv
              exact ⟨u, fun w' hw' => run_load_one hT hl hr (cell_still hw' (by rw [cell_of_cells h2]; simpa using hu1)), hu2⟩
          | arr _ _ => exact trivial
          | opq _ => exact trivial
      | rp ds =>
        simp only
        obtain ⟨b, o, rfl, hb, hc⟩ := hx
        cases hv : ds[0]? with
        | none => exact trivial
        | some y =>
          obtain ⟨u, hu1, hu2⟩ := hc.get hv
          exact ⟨u, fun w' hw' => run_load_one hT hl hr (cell_still hw' hu1), hu2⟩
      | rr sz rows r off =>
        simp only
        obtain ⟨b, o, rfl, hb, hc, hun, hi⟩ := hx
        split
        · rename_i hle
          have hlen := rows_getD_length hun hi
          obtain ⟨u, hu1, hu2⟩ := (hc.row hun hi).get (i := off) (x := (rows.getD r []).getD off default) (by rw [List.getD_eq_getElem?_getD (l := rows.getD r [])]; rw [List.getElem?_eq_getElem (by omega)]; rfl)
          exact ⟨u, fun w' hw' => run_load_one hT hl hr (cell_still hw' hu1), hu2⟩
        · exact trivial
      | ep id sz r off =>
        simp only
        obtain ⟨b, hb, rfl⟩ := hx
        cases ho : lkp id h with
        | none => exact trivial
        | some ob =>
          cases ob with
          | cells vs => exact trivial
          | opq _ => exact trivial
          | arr sz' rows =>
            simp only
            split
            · rename_i hle
              obtain ⟨rfl, hle⟩ := hle
              intro hi
              obtain ⟨h1, hun, _⟩ := hH.sat id _ ho
              rcases h1 with ⟨h1, _⟩ | ⟨b', cs, ty, h1, h2, h3, hc, _⟩
              · rw [hb] at h1; cases h1
              · rw [hb] at h1; cases h1
                have hlen := rows_getD_length hun hi
                obtain ⟨u, hu1, hu2⟩ := (hc.row hun hi).get (i := off) (x := (rows.getD r []).getD off default) (by rw [List.getD_eq_getElem?_getD (l := rows.getD r [])]; rw [List.getElem?_eq_getElem (by omega)]; rfl)
                rw [Nat.zero_add] at hu1
                exact ⟨u, fun w' hw' => run_load_one hT hl hr (cell_still hw' hu1), hu2⟩
            · exact trivial
      | _ => exact trivial
end Go.AM
end
section
/-! ## 4 -/
namespace Go.AM
open Go

/-- A list's rows, where a value is one: nil has none. -/
def asSl : V → Option (Option Nat × List (List D))
  | .d (.sl sz rows) => some (some sz, rows)
  | .d (.val (.slice none 0 0)) => some (none, [])
  | _ => none

def byteAt (s : ByteArray) (i : Nat) : Nat := (s.data.toList.getD i 0).toNat

def inR (k : IntKind) (n : Int) : Prop :=
  match k with
  | .i64 => -9223372036854775808 ≤ n ∧ n ≤ 9223372036854775807
  | _ => True

theorem wrap_i64 {n : Int} (h : inR .i64 n) : IntKind.i64.wrap n = n := IntWalk.i64_in n h

def aint (k : IntKind) (n : Int) : Res :=
  match k with
  | .i64 => .okc (inR .i64 n) (.d (.val (.int .i64 n)))
  | k => .ok (.d (.val (.int k (k.wrap n))))

def abool (b : Bool) : Res := .ok (.d (.val (.bool b)))

def aintOp (op : BinOp) (k : IntKind) (a b : Int) : Res :=
  match op with
  | .add => aint k (a + b)
  | .sub => aint k (a - b)
  | .mul => aint k (a * b)
  | .quo => .okc (b ≠ 0) (.d (.val (.int k (k.wrap (a.tdiv b)))))
  | .rem => .okc (b ≠ 0) (.d (.val (.int k (a.tmod b))))
  | .and => .ok (.d (.val (.int k (k.wrap (BitVec.ofInt k.bits a &&& BitVec.ofInt k.bits b).toNat))))
  | .or => .ok (.d (.val (.int k (k.wrap (BitVec.ofInt k.bits a ||| BitVec.ofInt k.bits b).toNat))))
  | .xor => .ok (.d (.val (.int k (k.wrap (BitVec.ofInt k.bits a ^^^ BitVec.ofInt k.bits b).toNat))))
  | .andNot => .ok (.d (.val (.int k (k.wrap (BitVec.ofInt k.bits a &&& ~~~ BitVec.ofInt k.bits b).toNat))))
  | .eql => abool (decide (a = b))
  | .neq => abool (!decide (a = b))
  | .lss => abool (decide (a < b))
  | .leq => abool (decide (a ≤ b))
  | .gtr => abool (decide (b < a))
  | .geq => abool (decide (b ≤ a))
  | _ => .no

def astrOp (op : BinOp) (a b : ByteArray) : Res :=
  match op with
  | .add => .okc (a.size + b.size ≤ LMAX) (.d (.val (.string (a ++ b))))
  | .eql => abool (decide (a = b))
  | .neq => abool (!decide (a = b))
  | .lss => abool (Op.bytesLess a.toList b.toList)
  | .geq => abool (!Op.bytesLess a.toList b.toList)
  | _ => .no

/-- Are two cells the same? -/
def aeqD : D → D → Option Bool
  | .val (.int k a), .val (.int k' b) => if k = k' then some (decide (a = b)) else none
  | .val (.bool a), .val (.bool b) => some (a == b)
  | .val (.string a), .val (.string b) => some (decide (a = b))
  | _, _ => none

/-- Are two values the same, that are neither numbers nor texts? -/
def aeq (T : List (Nat × TI)) (t : Nat) (x y : V) : Option Bool :=
  match lkp t T with
  | some i => match i.desc, x, y with
    | .bool, .d (.val (.bool a)), .d (.val (.bool b)) => some (a == b)
    | .pointer _, .ptr _ _, .d (.val (.pointer none)) => some false
    | .pointer _, .rp _, .d (.val (.pointer none)) => some false
    | .pointer _, .rr _ _ _ _, .d (.val (.pointer none)) => some false
    | .pointer _, .ep _ _ _ _, .d (.val (.pointer none)) => some false
    | .pointer _, .d (.val (.pointer none)), .d (.val (.pointer none)) => some true
    | _, _, _ => none
  | none => none

def abin (T : List (Nat × TI)) (op : BinOp) (t : Nat) (x y : V) : Res :=
  match op, x, y with
  | .shl, .d (.val (.int k a)), .d (.val (.int _ b)) => .okc (0 ≤ b) (.d (.val (.int k (k.wrap (a * 2 ^ (min b.toNat k.bits))))))
  | .shr, .d (.val (.int k a)), .d (.val (.int _ b)) => .okc (0 ≤ b) (.d (.val (.int k (a.fdiv (2 ^ (min b.toNat k.bits))))))
  | op, .d (.val (.int k a)), .d (.val (.int k' b)) => if k = k' then aintOp op k a b else .no
  | op, .d (.val (.string a)), .d (.val (.string b)) => astrOp op a b
  | .eql, x, y => match aeq T t x y with
    | some b => abool b
    | none => .no
  | .neq, x, y => match aeq T t x y with
    | some b => abool (!b)
    | none => .no
  | _, _, _ => .no

def afieldAddr (T : List (Nat × TI)) (s : Nat) (x : V) (f : Nat) : Res :=
  match lkp s T with
  | some i => match i.desc with
    | .struct fields => match fields[f]? with
      | some fl => match lkp fl.type T with
        | some j => if j.size = 0 then .no else match x with
          | .ptr id off => .ok (.ptr id (off + fl.offset))
          | .rp ds => .ok (.rp (ds.drop fl.offset))
          | .rr sz rows r off => .ok (.rr sz rows r (off + fl.offset))
          | .ep id sz r off => .ok (.ep id sz r (off + fl.offset))
          | _ => .no
        | none => .no
      | none => .no
    | _ => .no
  | none => .no

/-- A part of a struct's or an array's cells. -/
def apart (T : List (Nat × TI)) (t : Nat) (x : V) (off : Nat) : Res :=
  match lkp t T with
  | none => .no
  | some j =>
    if j.desc.isRow then
      match x with
      | .agg l => .ok (.agg ((l.drop off).take j.size))
      | .dagg l => .ok (.dagg ((l.drop off).take j.size))
      | _ => .no
    else
      match x with
      | .agg l => match l[off]? with | some v => .ok v | none => .no
      | .dagg l => .okc (off < l.length) (.d (l.getD off default))
      | _ => .no

def afield (T : List (Nat × TI)) (s : Nat) (x : V) (f : Nat) : Res :=
  match lkp s T with
  | some i => match i.desc with
    | .struct fields => match fields[f]? with
      | some fl => apart T fl.type x fl.offset
      | none => .no
    | _ => .no
  | none => .no

def aindexAddr (T : List (Nat × TI)) (t : Nat) (x ix : V) : Res :=
  match ix with
  | .d (.val (.int _ n)) =>
    match lkp t T with
    | some i => match i.desc with
      | .slice e => match lkp e T with
        | some j => match x with
          | .d (.sl sz rows) => if sz = j.size then .okc (0 ≤ n ∧ n < rows.length) (.rr sz rows n.toNat 0) else .no
          | .own id sz lo m => if sz = j.size then .okc (0 ≤ n ∧ n < m) (.ep id sz (lo + n.toNat) 0) else .no
          | _ => .no
        | none => .no
      | .array len e => match lkp e T with
        | some j => match x with
          | .ptr id off => .okc (0 ≤ n ∧ n < len) (.ptr id (off + n.toNat * j.size))
          | .rp ds => .okc (0 ≤ n ∧ n < len) (.rp (ds.drop (n.toNat * j.size)))
          | .rr sz rows r off => .okc (0 ≤ n ∧ n < len) (.rr sz rows r (off + n.toNat * j.size))
          | .ep id sz r off => .okc (0 ≤ n ∧ n < len) (.ep id sz r (off + n.toNat * j.size))
          | _ => .no
        | none => .no
      | _ => .no
    | none => .no
  | _ => .no

def aindex (T : List (Nat × TI)) (t : Nat) (x ix : V) : Res :=
  match ix with
  | .d (.val (.int _ n)) =>
    match lkp t T with
    | some i => match i.desc with
      | .string => match x with
        | .d (.val (.string s)) => .okc (0 ≤ n ∧ n < s.size) (.d (.val (.int .u8 (byteAt s n.toNat))))
        | _ => .no
      | _ => .no
    | none => .no
  | _ => .no

def aunary (op : UnOp) (x : V) : Res :=
  match op, x with
  | .not, .d (.val (.bool b)) => abool (!b)
  | .neg, .d (.val (.int k n)) => aint k (0 - n)
  | _, _ => .no

def aconvert (T : List (Nat × TI)) (src dst : Nat) (x : V) : Res :=
  match lkp src T, lkp dst T with
  | some _, some j => match j.desc, x with
    | .int k, .d (.val (.int _ n)) => .ok (.d (.val (.int k (k.wrap n))))
    | .string, .d (.val (.string s)) => .ok (.d (.val (.string s)))
    | .string, .d (.val (.int _ n)) => .ok (.d (.val (.string (Utf8.encode n))))
    | _, _ => .no
  | _, _ => .no

/-- A bound of a slice expression. -/
def abnd (x : Option V) (d : Int) : Option Int :=
  match x with
  | none => some d
  | some (.d (.val (.int _ n))) => some n
  | _ => none

def aslice (T : List (Nat × TI)) (t : Nat) (x : V) (lo hi : Option V) : Res :=
  match lkp t T with
  | some i => match i.desc with
    | .string => match x with
      | .d (.val (.string s)) => match abnd lo 0, abnd hi s.size with
        | some l, some h => .okc (0 ≤ l ∧ l ≤ h ∧ h ≤ s.size) (.d (.val (.string (s.extract l.toNat h.toNat))))
        | _, _ => .no
      | _ => .no
    | .slice e => match lkp e T with
      | some j => match x with
        | .d (.sl sz rows) => if sz = j.size then match abnd lo 0, abnd hi rows.length with
          | some l, some h => .okc (0 ≤ l ∧ l ≤ h ∧ h ≤ rows.length) (.d (.sl sz ((rows.drop l.toNat).take (h.toNat - l.toNat))))
          | _, _ => .no
          else .no
        | .own id sz a m => if sz = j.size then match abnd lo 0, abnd hi m with
          | some l, some h => .okc (0 ≤ l ∧ l ≤ h ∧ h ≤ m) (.own id sz (a + l.toNat) (h.toNat - l.toNat))
          | _, _ => .no
          else .no
        | _ => .no
      | none => .no
    | _ => .no
  | none => .no

def alen (T : List (Nat × TI)) (t : Nat) (x : V) : Res :=
  match lkp t T with
  | some i => match i.desc with
    | .string => match x with
      | .d (.val (.string s)) => .ok (.d (.val (.int .i64 s.size)))
      | _ => .no
    | .slice _ => match x with
      | .d (.sl _ rows) => .ok (.d (.val (.int .i64 rows.length)))
      | .d (.val (.slice none 0 0)) => .ok (.d (.val (.int .i64 0)))
      | .own _ _ _ n => .ok (.d (.val (.int .i64 n)))
      | _ => .no
    | .array n _ => .ok (.d (.val (.int .i64 n)))
    | _ => .no
  | none => .no

/-- Values that may be there alone if x is so. -/
def asB : V → Option (Bool × Bool)
  | .d (.val (.bool b)) => some (true, b)
  | .opt g (.d (.val (.bool b))) => some (g, b)
  | _ => none
def bcond (x a b : Bool) : Bool := cond x a b
theorem bcond_and (x a : Bool) : bcond x a false = (x && a) := by cases x <;> rfl
theorem bcond_or (x b : Bool) : bcond x true b = (x || b) := by cases x <;> rfl
theorem bcond_true (a b : Bool) : bcond true a b = a := rfl
theorem bcond_false (a b : Bool) : bcond false a b = b := rfl
def apickS (x : Bool) (a b : V) : Res :=
  match asB a, asB b with
  | some (g, a), some (g', b) => .okc ((x = true → g = true) ∧ (x = false → g' = true)) (.d (.val (.bool (bcond x a b))))
  | _, _ => .no

def apick (c a b : V) : Res :=
  match c with
  | .d (.val (.bool x)) => apickS x a b
  | _ => .no

def aextract (x : V) (i : Nat) : Res :=
  match x with
  | .tup l => match l[i]? with
    | some v => .ok v
    | none => .no
  | _ => .no

def anil (x : V) : Res :=
  match x with
  | .ptr id off => .ok (.ptr id off)
  | .rp ds => .ok (.rp ds)
  | .rr sz rows i off => .ok (.rr sz rows i off)
  | .ep id sz i off => .ok (.ep id sz i off)
  | .fn f a b => .ok (.fn f a b)
  | .yld id => .ok (.yld id)
  | _ => .no

def aminmax (isMax : Bool) : List V → Res
  | [.d (.val (.int k a)), .d (.val (.int k' b))] => if k = k' then .ok (.d (.val (.int k (if isMax then max a b else min a b)))) else .no
  | _ => .no

/-- What an operation yields that changes nothing. -/
def aval (T : List (Nat × TI)) (st : AS) (o : Op) : Res :=
  match o with
  | .move x => .ok (st.ev x)
  | .assign x => .ok (st.ev x)
  | .pick c a b => apick (st.ev c) (st.ev a) (st.ev b)
  | .load t p => aload T st.h t (st.ev p)
  | .nilCheck x => anil (st.ev x)
  | .binOp op t x y _ => abin T op t (st.ev x) (st.ev y)
  | .unOp op _ x => aunary op (st.ev x)
  | .convert s d x => aconvert T s d (st.ev x)
  | .makeFunc (.func f) first caps => .ok (.fn f (first.toList.map st.ev) (caps.toList.map st.ev))
  | .slice t x lo hi none => aslice T t (st.ev x) (lo.map st.ev) (hi.map st.ev)
  | .fieldAddr s x f => afieldAddr T s (st.ev x) f
  | .field s x f => afield T s (st.ev x) f
  | .indexAddr t x i => aindexAddr T t (st.ev x) (st.ev i)
  | .index t x i => aindex T t (st.ev x) (st.ev i)
  | .extract x i => aextract (st.ev x) i
  | .call { callee := .builtin .len, args, argTypes } => match args[0]?, argTypes[0]? with
    | some x, some t => alen T t (st.ev x)
    | _, _ => .no
  | _ => .no
end Go.AM
end
section
/-! ## 5 -/
namespace Go.AM
open Go

section
variable {P : Program} {T : List (Nat × TI)} {k : K} {w : World}

theorem venc_val {v x : Value} (h : VEnc k w (.d (.val v)) x) : x = v := h.1

theorem enc_int (ik : IntKind) (n : Int) : VEnc k w (.d (.val (.int ik n))) (.int ik n) := ⟨rfl, rfl⟩
theorem enc_bool (b : Bool) : VEnc k w (.d (.val (.bool b))) (.bool b) := ⟨rfl, rfl⟩
theorem enc_str (s : ByteArray) : VEnc k w (.d (.val (.string s))) (.string s) := ⟨rfl, rfl⟩

theorem aint_sound (ik : IntKind) (n : Int) {s : Sem Value} (hs : ∀ w', s.run P w' = .ok (.int ik (ik.wrap n)) w') : (aint ik n).holds fun v => ∃ y, (∀ w', s.run P w' = .ok y w') ∧ VEnc k w v y := by
  cases ik <;> first | exact ⟨_, hs, enc_int _ _⟩ | exact fun h => ⟨_, by rw [wrap_i64 h] at hs; exact hs, enc_int _ _⟩

theorem intBits_run (op : BinOp) (ik : IntKind) (a b : Int) (r : BitVec ik.bits)
    (h : op = .and ∧ r = BitVec.ofInt ik.bits a &&& BitVec.ofInt ik.bits b ∨ op = .or ∧ r = BitVec.ofInt ik.bits a ||| BitVec.ofInt ik.bits b ∨ op = .xor ∧ r = BitVec.ofInt ik.bits a ^^^ BitVec.ofInt ik.bits b ∨ op = .andNot ∧ r = BitVec.ofInt ik.bits a &&& ~~~ BitVec.ofInt ik.bits b) (t : TypeId) :
    (binOp op t (.int ik a) (.int ik b)).run P w = .ok (.int ik (ik.wrap r.toNat)) w := by
  rcases h with ⟨rfl, rfl⟩ | ⟨rfl, rfl⟩ | ⟨rfl, rfl⟩ | ⟨rfl, rfl⟩ <;> simp [binOp, Op.intBits]

theorem aintOp_sound (op : BinOp) (t : TypeId) (ik : IntKind) (a b : Int) (h1 : op ≠ .shl) (h2 : op ≠ .shr) :
    (aintOp op ik a b).holds fun v => ∃ y, (∀ w', (binOp op t (.int ik a) (.int ik b)).run P w' = .ok y w') ∧ VEnc k w v y := by
  cases op with
  | add => exact aint_sound ik _ (fun _ => by simp [binOp, Op.intArith])
  | sub => exact aint_sound ik _ (fun _ => by simp [binOp, Op.intArith])
  | mul => exact aint_sound ik _ (fun _ => by simp [binOp, Op.intArith])
  | quo => exact fun h => ⟨_, fun _ => by simp [binOp, Op.intDiv, h], enc_int _ _⟩
  | rem => exact fun h => ⟨_, fun _ => by simp [binOp, Op.intDiv, h], enc_int _ _⟩
  | and => exact ⟨_, fun _ => intBits_run .and ik a b _ (.inl ⟨rfl, rfl⟩) t, enc_int _ _⟩
  | or => exact ⟨_, fun _ => intBits_run .or ik a b _ (.inr (.inl ⟨rfl, rfl⟩)) t, enc_int _ _⟩
  | xor => exact ⟨_, fun _ => intBits_run .xor ik a b _ (.inr (.inr (.inl ⟨rfl, rfl⟩))) t, enc_int _ _⟩
  | andNot => exact ⟨_, fun _ => intBits_run .andNot ik a b _ (.inr (.inr (.inr ⟨rfl, rfl⟩))) t, enc_int _ _⟩
  | eql => exact ⟨.bool (decide (a = b)), fun _ => by simp [binOp, Op.intCmp]; rfl, enc_bool _⟩
  | neq => exact ⟨.bool (!decide (a = b)), fun _ => by simp [binOp, Op.intCmp]; rfl, enc_bool _⟩
  | lss => exact ⟨.bool (decide (a < b)), fun _ => by simp [binOp, Op.intCmp], enc_bool _⟩
  | leq => exact ⟨.bool (decide (a ≤ b)), fun _ => by simp [binOp, Op.intCmp], enc_bool _⟩
  | gtr => exact ⟨.bool (decide (b < a)), fun _ => by simp [binOp, Op.intCmp], enc_bool _⟩
  | geq => exact ⟨.bool (decide (b ≤ a)), fun _ => by simp [binOp, Op.intCmp], enc_bool _⟩
  | shl => exact absurd rfl h1
  | shr => exact absurd rfl h2

theorem toList_eq_iff (a b : ByteArray) : (a.toList == b.toList) = decide (a = b) := by
  rw [Bool.eq_iff_iff]
  simp only [beq_iff_eq, decide_eq_true_eq]
  refine ⟨fun h => ?_, fun h => by rw [h]⟩
  have h' : a.data.toList = b.data.toList := by simpa [ByteArray.toList_eq] using h
  cases a; cases b; simp_all

theorem astrOp_sound (op : BinOp) (t : TypeId) (a b : ByteArray) :
    (astrOp op a b).holds fun v => ∃ y, (∀ w', (binOp op t (.string a) (.string b)).run P w' = .ok y w') ∧ VEnc k w v y := by
  cases op with
  | add =>
    intro h
    refine ⟨.string (a ++ b), fun w' => ?_, enc_str _⟩
    simp only [binOp, Op.stringOp]
    rw [if_neg]
    · rfl
    · unfold LMAX at h; simp only [IntKind.max, IntKind.bits, IntKind.signed]; omega
  | eql => exact ⟨.bool (decide (a = b)), fun _ => by simp only [binOp, Op.stringOp, toList_eq_iff]; rfl, enc_bool _⟩
  | neq => exact ⟨.bool (!decide (a = b)), fun _ => by simp only [binOp, Op.stringOp, toList_eq_iff]; rfl, enc_bool _⟩
  | lss => exact ⟨.bool (Op.bytesLess a.toList b.toList), fun _ => rfl, enc_bool _⟩
  | geq => exact ⟨.bool (!Op.bytesLess a.toList b.toList), fun _ => rfl, enc_bool _⟩
  | _ => exact trivial

theorem aeq_sound (hT : TOK P T) (t : TypeId) (x y : V) (vx vy : Value) (hx : VEnc k w x vx) (hy : VEnc k w y vy) (b : Bool) (h : aeq T t x y = some b) :
    (∀ w', (Op.equal t vx vy).run P w' = .ok b w') ∧ (∀ (cs : Array Value), vx ≠ .agg cs) ∧ vx ≠ .nilIface ∧ (∀ a : ByteArray, vx ≠ .string a) ∧ (∀ ik n, vx ≠ .int ik n) ∧ (∀ fk n, vx ≠ .float fk n) ∧ (∀ fk n m, vx ≠ .complex fk n m) := by
  unfold aeq at h
  split at h
  · rename_i i hi
    have hu := (hT t i hi).1
    split at h
    · rename_i hd
      cases venc_val hx; cases venc_val hy; cases h
      rw [hd] at hu
      exact ⟨fun w' => run_equal_bool w' t _ _ hu, by simp⟩
    · rename_i e hd; rw [hd] at hu
      obtain ⟨b, _, rfl⟩ := hx; cases venc_val hy; cases h
      exact ⟨fun w' => run_equal_pointer_nil w' t _ (by rw [Program.pointee, hu]), by simp⟩
    · rename_i e hd; rw [hd] at hu
      obtain ⟨b, o, rfl, _⟩ := hx; cases venc_val hy; cases h
      exact ⟨fun w' => run_equal_pointer_nil w' t _ (by rw [Program.pointee, hu]), by simp⟩
    · rename_i e hd; rw [hd] at hu
      obtain ⟨b, o, rfl, _⟩ := hx; cases venc_val hy; cases h
      exact ⟨fun w' => run_equal_pointer_nil w' t _ (by rw [Program.pointee, hu]), by simp⟩
    · rename_i e hd; rw [hd] at hu
      obtain ⟨b, _, rfl⟩ := hx; cases venc_val hy; cases h
      exact ⟨fun w' => run_equal_pointer_nil w' t _ (by rw [Program.pointee, hu]), by simp⟩
    · rename_i e hd; rw [hd] at hu
      cases venc_val hx; cases venc_val hy; cases h
      exact ⟨fun w' => run_equal_pointer_nil w' t _ (by rw [Program.pointee, hu]), by simp⟩
    · cases h
  · cases h

theorem run_eql {t : TypeId} {vx vy : Value} {b : Bool} (h : (Op.equal t vx vy).run P w = .ok b w) (h1 : ∀ a : ByteArray, vx ≠ .string a) (h2 : ∀ ik n, vx ≠ .int ik n) (h3 : ∀ fk n, vx ≠ .float fk n) (h4 : ∀ fk n m, vx ≠ .complex fk n m) :
    (binOp .eql t vx vy).run P w = .ok (.bool b) w ∧ (binOp .neq t vx vy).run P w = .ok (.bool (!b)) w := by
  constructor
  all_goals
    unfold binOp
    split <;> simp_all [Sem.run_bind]

theorem abin_sound (hT : TOK P T) (op : BinOp) (t : TypeId) (x y : V) (vx vy : Value) (hx : VEnc k w x vx) (hy : VEnc k w y vy) :
    (abin T op t x y).holds fun v => ∃ u, (∀ w', (binOp op t vx vy).run P w' = .ok u w') ∧ VEnc k w v u := by
  unfold abin
  split
  · cases venc_val hx; cases venc_val hy
    rename_i ik a k' b
    intro h
    refine ⟨_, fun w' => ?_, enc_int _ _⟩
    simp only [binOp, Op.shift]
    rw [if_neg (by omega)]; rfl
  · cases venc_val hx; cases venc_val hy
    intro h
    refine ⟨_, fun w' => ?_, enc_int _ _⟩
    simp only [binOp, Op.shift]
    rw [if_neg (by omega)]; rfl
  · cases venc_val hx; cases venc_val hy
    split
    · rename_i e; subst e
      exact aintOp_sound _ t _ _ _ (fun h => by subst h; simp_all) (fun h => by subst h; simp_all)
    · exact trivial
  · cases venc_val hx; cases venc_val hy
    exact astrOp_sound _ t _ _
  · split
    · rename_i b hb
      obtain ⟨h1, _, _, h4, h5, h6, h7⟩ := aeq_sound hT t x y vx vy hx hy b hb
      exact ⟨_, fun w' => (run_eql (h1 w') h4 h5 h6 h7).1, enc_bool _⟩
    · exact trivial
  · split
    · rename_i b hb
      obtain ⟨h1, _, _, h4, h5, h6, h7⟩ := aeq_sound hT t x y vx vy hx hy b hb
      exact ⟨_, fun w' => (run_eql (h1 w') h4 h5 h6 h7).2, enc_bool _⟩
    · exact trivial
  · exact trivial

theorem run_bind_ok {α β : Type} {s : Sem α} {f : α → Sem β} {a : α} {w w' : World} (h : s.run P w = .ok a w') : (s >>= f).run P w = (f a).run P w' := by
  rw [Sem.run_bind, h]; rfl

theorem afieldAddr_sound (hT : TOK P T) (s : Nat) (x : V) (f : Nat) (vx : Value) (hx : VEnc k w x vx) :
    (afieldAddr T s x f).holds fun v => ∃ u, (∀ w', (Instr.fieldAt s vx f).run P w' = .ok u w') ∧ VEnc k w v u := by
  unfold afieldAddr
  split
  · rename_i i hi
    split
    · rename_i fields hd
      split
      · rename_i fl hf
        split
        · rename_i j hj
          split
          · exact trivial
          · rename_i hz
            have key : ∀ b o w', (Instr.fieldAt s (.pointer (some ⟨b, o, none⟩)) f).run P w' = .ok (.pointer (some ⟨b, o + fl.offset, none⟩)) w' := by
              intro b o w'
              simp only [Instr.fieldAt]
              rw [run_bind_ok (run_under hT hi w'), hd]
              simp only [hf]
              simp only [Instr.sureAddr, Sem.run_bind, Sem.run_pure, Result.andThen_ok, fieldPlace, run_sizeOf hT hj w', if_neg hz, Addr.add_mid]
            split
            · obtain ⟨b, hb, rfl⟩ := hx; exact ⟨_, key _ _, b, hb, rfl⟩
            · obtain ⟨b, o, rfl, hb, hc⟩ := hx; exact ⟨_, key _ _, b, _, rfl, hb, hc.drop _⟩
            · obtain ⟨b, o, rfl, hb, hc⟩ := hx; exact ⟨_, key _ _, b, o, by rw [Nat.add_assoc], hb, hc⟩
            · obtain ⟨b, hb, rfl⟩ := hx; exact ⟨_, key _ _, b, hb, by rw [Nat.add_assoc]⟩
            · exact trivial
        · exact trivial
      · exact trivial
    · exact trivial
  · exact trivial

theorem run_part_row {t off : Nat} {j : TI} (hT : TOK P T) (hj : lkp t T = some j) (hr : j.desc.isRow = true) (cs : Array Value) :
    (part t cs off).run P w = .ok (.agg (cs.extract off (off + j.size))) w := by
  have hagg : (isAgg t).run P w = .ok true w := by
    unfold isAgg
    rw [Sem.run_bind, run_under hT hj w]
    cases hd : j.desc <;> simp_all
  simp [part, Sem.run_bind, hagg, run_sizeOf hT hj w]
theorem run_part_one {t off : Nat} {j : TI} (hT : TOK P T) (hj : lkp t T = some j) (hr : j.desc.isRow = false) {cs : Array Value} {v : Value} (hv : cs[off]? = some v) :
    (part t cs off).run P w = .ok v w := by
  have hagg : (isAgg t).run P w = .ok false w := by
    unfold isAgg
    rw [Sem.run_bind, run_under hT hj w]
    cases hd : j.desc <;> simp_all
  simp [part, Sem.run_bind, hagg, hv]

theorem apart_sound (hT : TOK P T) (t : Nat) (x : V) (off : Nat) (vx : Value) (hx : VEnc k w x vx) :
    (apart T t x off).holds fun v => ∃ cs u, vx = .agg cs ∧ (∀ w', (part t cs off).run P w' = .ok u w') ∧ VEnc k w v u := by
  unfold apart
  split
  · exact trivial
  · rename_i j hj
    split
    · rename_i hr
      split
      · rename_i l
        obtain ⟨cs, rfl, h1, h2⟩ := hx
        refine ⟨cs, _, rfl, fun _ => run_part_row hT hj hr cs, ⟨_, rfl, ?_, fun c hc => ?_⟩⟩
        · have := (h1.drop off).take j.size
          simpa [List.extract_eq_take_drop] using this
        · rw [Array.mem_iff_getElem] at hc
          obtain ⟨i, hi, rfl⟩ := hc
          simp only [Array.getElem_extract]
          exact h2 _ (by simp)
      · rename_i l
        obtain ⟨cs, rfl, h1⟩ := hx
        refine ⟨cs, _, rfl, fun _ => run_part_row hT hj hr cs, ⟨_, rfl, ?_⟩⟩
        have := (h1.drop off).take j.size
        simpa [List.extract_eq_take_drop] using this
      · exact trivial
    · rename_i hr
      have hr : j.desc.isRow = false := by simpa using hr
      split
      · rename_i l
        obtain ⟨cs, rfl, h1, h2⟩ := hx
        split
        · rename_i v hv
          obtain ⟨u, hu, he⟩ := h1.get hv
          exact ⟨cs, u, rfl, fun _ => run_part_one hT hj hr (by simpa using hu), he⟩
        · exact trivial
      · rename_i l
        obtain ⟨cs, rfl, h1⟩ := hx
        intro hlt
        obtain ⟨u, hu, he⟩ := h1.get (i := off) (x := l.getD off default) (by rw [List.getD_eq_getElem?_getD, List.getElem?_eq_getElem hlt]; rfl)
        exact ⟨cs, u, rfl, fun _ => run_part_one hT hj hr (by simpa using hu), he⟩
      · exact trivial

theorem Res.holds.mono {r : Res} {F G : V → Prop} (h : r.holds F) (hf : ∀ v, F v → G v) : r.holds G := by
  cases r with
  | ok v => exact hf v h
  | okc c v => exact fun hc => hf v (h hc)
  | no => exact trivial

theorem afield_sound (hT : TOK P T) (s : Nat) (x : V) (f : Nat) (vx : Value) (hx : VEnc k w x vx) :
    (afield T s x f).holds fun v => ∃ u, (∀ w', (Instr.field s vx f).run P w' = .ok u w') ∧ VEnc k w v u := by
  unfold afield
  split
  · rename_i i hi
    split
    · rename_i fields hd
      split
      · rename_i fl hf
        refine (apart_sound hT fl.type x fl.offset vx hx).mono ?_
        rintro v ⟨cs, u, rfl, hu, he⟩
        refine ⟨u, fun w' => ?_, he⟩
        simp only [Instr.field]
        rw [run_bind_ok (run_under hT hi w'), hd]
        simp only [hf]
        rw [run_bind_ok (a := cs) (w' := w') (by simp [asAgg])]
        exact hu w'
      · exact trivial
    · exact trivial
  · exact trivial
end
end Go.AM
end
section
/-! ## 6 -/
namespace Go.AM
open Go

section
variable {P : Program} {T : List (Nat × TI)} {k : K} {w : World}

theorem aindexAddr_sound (hT : TOK P T) (t : Nat) (x ix : V) (vx vi : Value) (hx : VEnc k w x vx) (hi : VEnc k w ix vi) :
    (aindexAddr T t x ix).holds fun v => ∃ u, (∀ w', (Instr.indexAt t vx vi).run P w' = .ok u w') ∧ VEnc k w v u := by
  unfold aindexAddr
  split
  · rename_i ik n
    cases venc_val hi
    split
    · rename_i i hl
      split
      · rename_i e hd
        have hu := fun w' => run_under hT hl w'
        rw [hd] at hu
        split
        · rename_i j hj
          have key : ∀ (a : Addr) (len cap : Nat), 0 ≤ n → n < len → ∀ w', (Instr.indexAt t (.slice (some a) len cap) (.int ik n)).run P w' = .ok (.pointer (some (a.add (n.toNat * j.size)))) w' := by
            intro a len cap h0 h1 w'
            simp only [Instr.indexAt, asIntOf, pure_bind]
            rw [run_bind_ok (hu w')]
            simp only [pure_bind]
            rw [run_bind_ok (hu w')]
            simp only [Bool.and_false, Bool.false_eq_true, if_false]
            rw [if_pos ⟨h0, h1⟩]
            simp [Sem.run_bind, run_sizeOf hT hj w']
          split
          · rename_i sz rows
            split
            · rename_i hsz
              rintro ⟨h0, h1⟩
              obtain ⟨a, cap, rfl, h2, h3, h4, h5, h6⟩ := hx
              rcases h6 with h6 | ⟨b, o, rfl, hb, hr⟩
              · subst h6; simp at h1; omega
              · refine ⟨_, key _ _ _ h0 h1, b, o, ?_, hb, hr, h5, by omega⟩
                rw [Addr.add_mid, hsz]; rfl
            · exact trivial
          · rename_i id sz lo m
            split
            · rename_i hsz
              rintro ⟨h0, h1⟩
              rcases hx with ⟨_, rfl, _⟩ | ⟨b, o, cap, cs, ty, fz, hb, rfl, h2, h3, h4, h5, h6, h7⟩
              · simp at h1; omega
              · refine ⟨_, key _ _ _ h0 h1, b, hb, ?_⟩
                have : o = lo * sz := h6 (by omega)
                rw [Addr.add_mid, this, hsz, Nat.add_mul, Nat.add_zero]
            · exact trivial
          · exact trivial
        · exact trivial
      · rename_i len e hd
        have hu := fun w' => run_under hT hl w'
        rw [hd] at hu
        split
        · rename_i j hj
          have key : ∀ (b o : Nat), 0 ≤ n → n < len → ∀ w', (Instr.indexAt t (.pointer (some ⟨b, o, none⟩)) (.int ik n)).run P w' = .ok (.pointer (some ⟨b, o + n.toNat * j.size, none⟩)) w' := by
            intro b o h0 h1 w'
            simp only [Instr.indexAt, asIntOf, pure_bind]
            rw [run_bind_ok (hu w')]
            simp only [Instr.sureAddr, pure_bind]
            rw [run_bind_ok (hu w')]
            simp only
            rw [if_pos ⟨h0, h1⟩]
            simp [Sem.run_bind, run_sizeOf hT hj w', Addr.add_mid]
          split
          · rintro ⟨h0, h1⟩; obtain ⟨b, hb, rfl⟩ := hx; exact ⟨_, key _ _ h0 h1, b, hb, rfl⟩
          · rintro ⟨h0, h1⟩; obtain ⟨b, o, rfl, hb, hc⟩ := hx; exact ⟨_, key _ _ h0 h1, b, _, rfl, hb, hc.drop _⟩
          · rintro ⟨h0, h1⟩; obtain ⟨b, o, rfl, hb, hc⟩ := hx; exact ⟨_, key _ _ h0 h1, b, o, by rw [Nat.add_assoc], hb, hc⟩
          · rintro ⟨h0, h1⟩; obtain ⟨b, hb, rfl⟩ := hx; exact ⟨_, key _ _ h0 h1, b, hb, by rw [Nat.add_assoc]⟩
          · exact trivial
        · exact trivial
      · exact trivial
    · exact trivial
  · exact trivial

theorem byteAt_get {s : ByteArray} {i : Nat} (h : i < s.size) : s[i]? = some (s.data.toList.getD i 0) := by
  have h' : i < s.data.toList.length := by simpa using h
  rw [List.getD_eq_getElem?_getD, List.getElem?_eq_getElem h']
  simp only [Option.getD_some]
  rw [getElem?_pos s i h]
  rfl

theorem aindex_sound (hT : TOK P T) (t : Nat) (x ix : V) (vx vi : Value) (hx : VEnc k w x vx) (hi : VEnc k w ix vi) :
    (aindex T t x ix).holds fun v => ∃ u, (∀ w', (Instr.index t vx vi).run P w' = .ok u w') ∧ VEnc k w v u := by
  unfold aindex
  split
  · rename_i ik n
    cases venc_val hi
    split
    · rename_i i hl
      split
      · rename_i hd
        have hu := fun w' => run_under hT hl w'
        rw [hd] at hu
        split
        · rename_i s
          cases venc_val hx
          rintro ⟨h0, h1⟩
          refine ⟨_, fun w' => ?_, enc_int _ _⟩
          simp only [Instr.index, asIntOf, pure_bind]
          rw [run_bind_ok (hu w')]
          simp only [if_pos h0]
          rw [byteAt_get (by omega)]
          rfl
        · exact trivial
      · exact trivial
    · exact trivial
  · exact trivial

theorem aunary_sound (op : UnOp) (x : V) (vx : Value) (hx : VEnc k w x vx) :
    (aunary op x).holds fun v => ∃ u, (∀ w', (Op.unary op vx).run P w' = .ok u w') ∧ VEnc k w v u := by
  unfold aunary
  split
  · cases venc_val hx; exact ⟨_, fun _ => rfl, enc_bool _⟩
  · cases venc_val hx; exact aint_sound _ _ (fun _ => by simp [Op.unary, Op.intArith])
  · exact trivial

theorem aconvert_sound (hT : TOK P T) (s d : Nat) (x : V) (vx : Value) (hx : VEnc k w x vx) :
    (aconvert T s d x).holds fun v => ∃ u, (∀ w', (convert s d vx).run P w' = .ok u w') ∧ VEnc k w v u := by
  unfold aconvert
  split
  · rename_i i j hi hj
    have hu := fun w' => run_under hT hi w'
    have hv := fun w' => run_under hT hj w'
    split
    · rename_i ik _ ik' n hd
      cases venc_val hx
      refine ⟨_, fun w' => ?_, enc_int _ _⟩
      unfold convert
      rw [run_bind_ok (hu w'), run_bind_ok (hv w'), hd]
      simp [Conv.intToInt]
    · rename_i _ s hd
      cases venc_val hx
      refine ⟨_, fun w' => ?_, enc_str _⟩
      unfold convert
      rw [run_bind_ok (hu w'), run_bind_ok (hv w'), hd]
      cases i.desc <;> rfl
    · rename_i _ ik n hd
      cases venc_val hx
      refine ⟨_, fun w' => ?_, enc_str _⟩
      unfold convert
      rw [run_bind_ok (hu w'), run_bind_ok (hv w'), hd]
      cases i.desc <;> rfl
    · exact trivial
  · exact trivial

theorem aextract_sound (x : V) (i : Nat) (vx : Value) (hx : VEnc k w x vx) : (aextract x i).holds fun v => ∃ u, (∀ w', (Instr.extract vx i).run P w' = .ok u w') ∧ VEnc k w v u := by
  unfold aextract
  split
  · obtain ⟨cs, rfl, h⟩ := hx
    split
    · rename_i v hv
      obtain ⟨u, hu, he⟩ := h.get hv
      refine ⟨u, fun w' => ?_, he⟩
      have : cs[i]? = some u := by simpa using hu
      simp [Instr.extract, this]
    · exact trivial
  · exact trivial

theorem alen_sound (hT : TOK P T) (t : Nat) (x : V) (vx : Value) (hx : VEnc k w x vx) (ty : TypeId) (ats : Array TypeId) (args : Array Value) (h1 : ats[0]? = some t) (h2 : args[0]? = some vx) :
    (alen T t x).holds fun v => ∃ u, (∀ w', (Builtin.len_ ats ty args).run P w' = .ok u w') ∧ VEnc k w v u := by
  unfold alen
  split
  · rename_i i hi
    have hu := fun w' => run_under hT hi w'
    have key : ∀ {u : Value}, ((do match i.desc, vx with
      | .string, .string s => pure (goInt s.size)
      | .array n _, _ => pure (goInt n)
      | .slice _, .slice _ n _ => pure (goInt n)
      | _, _ => stuck "") : Sem Value).run P w = .ok u w → ∀ w', (Builtin.len_ ats ty args).run P w' = .ok u w' := by
      intro u h w'
      simp only [Builtin.len_, h1, h2]
      rw [run_bind_ok (hu w')]
      revert h
      cases i.desc <;> cases vx <;> simp
    split
    · rename_i hd
      split
      · cases venc_val hx; exact ⟨_, key (by rw [hd]; rfl), enc_int _ _⟩
      · exact trivial
    · rename_i e hd
      split
      · obtain ⟨a, cap, rfl, _⟩ := hx; exact ⟨_, key (by rw [hd]; rfl), enc_int _ _⟩
      · cases venc_val hx; exact ⟨_, key (by rw [hd]; rfl), enc_int _ _⟩
      · rcases hx with ⟨_, rfl, _, rfl⟩ | ⟨b, o, cap, cs, ty, fz, hb, rfl, _⟩
        · exact ⟨_, key (by rw [hd]; rfl), enc_int _ _⟩
        · exact ⟨_, key (by rw [hd]; rfl), enc_int _ _⟩
      · exact trivial
    · rename_i n e hd
      refine ⟨_, key (u := goInt n) (by rw [hd]; cases vx <;> rfl), enc_int _ _⟩
    · exact trivial
  · exact trivial
end
end Go.AM
end
section
/-! ## 7 -/
namespace Go.AM
open Go

section
variable {P : Program} {T : List (Nat × TI)} {k : K} {w : World}

def OEnc (k : K) (w : World) : Option V → Option Value → Prop
  | none, none => True
  | some x, some v => VEnc k w x v
  | _, _ => False

theorem bnd_fact {lo : Option V} {vl : Option Value} (hl : OEnc k w lo vl) {d l : Int} (el : abnd lo d = some l) : (vl = none ∧ l = d) ∨ ∃ ik, vl = some (.int ik l) := by
  cases lo with
  | none =>
    cases vl with
    | some _ => exact hl.elim
    | none => simp only [abnd, Option.some.injEq] at el; exact .inl ⟨rfl, el.symm⟩
  | some x =>
    cases vl with
    | none => exact hl.elim
    | some v =>
      cases x <;> try (simp [abnd] at el; done)
      rename_i dx
      cases dx <;> try (simp [abnd] at el; done)
      rename_i u
      cases u <;> try (simp [abnd] at el; done)
      rename_i ik n
      simp only [abnd, Option.some.injEq] at el; subst el
      cases venc_val (k := k) (w := w) hl
      exact .inr ⟨ik, rfl⟩

theorem run_bnd {ik : IntKind} {n : Int} {y : Nat} {c : BoundsCode} (h0 : 0 ≤ n) (h1 : n ≤ y) : (Instr.sliceBound (.int ik n) y c).run P w = .ok n.toNat w := by
  simp only [Instr.sliceBound, asIntOf, pure_bind]
  rw [if_pos ⟨h0, h1⟩]; rfl

theorem run_bnds {isSlice : Bool} {len cap : Nat} {lo hi : Option V} {vl vh : Option Value} (hl : OEnc k w lo vl) (hh : OEnc k w hi vh) {l h : Int} (el : abnd lo 0 = some l) (eh : abnd hi len = some h)
    (h0 : 0 ≤ l) (h1 : l ≤ h) (h2 : h ≤ cap) (w' : World) : (Instr.sliceBounds isSlice len cap vl vh none).run P w' = .ok (l.toNat, h.toNat, cap) w' := by
  rcases bnd_fact hl el with ⟨rfl, rfl⟩ | ⟨ik, rfl⟩ <;> rcases bnd_fact hh eh with ⟨rfl, rfl⟩ | ⟨ik', rfl⟩ <;> simp only [Instr.sliceBounds, pure_bind]
  · rfl
  · rw [run_bind_ok (run_bnd (by omega) (by omega))]; rfl
  · rw [run_bind_ok (run_bnd (by omega) (by omega))]; rfl
  · rw [run_bind_ok (run_bnd (by omega) (by omega)), run_bind_ok (run_bnd (by omega) (by omega))]; rfl

theorem aslice_sound (hT : TOK P T) (t : Nat) (x : V) (vx : Value) (hx : VEnc k w x vx) {lo hi : Option V} {vl vh : Option Value} (hl : OEnc k w lo vl) (hh : OEnc k w hi vh) :
    (aslice T t x lo hi).holds fun v => ∃ u, (∀ w', (Instr.sliceAt t vx vl vh none).run P w' = .ok u w') ∧ VEnc k w v u := by
  unfold aslice
  split
  · rename_i i hi'
    have hu := fun w' => run_under hT hi' w'
    split
    · rename_i hd
      rw [hd] at hu
      split
      · rename_i s
        cases venc_val hx
        split
        · rename_i l h el eh
          rintro ⟨h0, h1, h2⟩
          refine ⟨_, fun w' => ?_, enc_str _⟩
          simp only [Instr.sliceAt]
          rw [run_bind_ok (hu w')]
          simp only [Instr.slice]
          rw [run_bind_ok (hu w')]
          simp only [Option.isSome_none, Bool.false_eq_true, if_false]
          first
            | (rw [run_bind_ok (run_bnds hl hh el eh h0 h1 h2 w')]; rfl)
            | (simp only [pure_bind]; rw [run_bind_ok (run_bnds hl hh el eh h0 h1 h2 w')]; rfl)
        · exact trivial
      · exact trivial
    · rename_i e hd
      rw [hd] at hu
      split
      · rename_i j hj
        have key : ∀ (a : Option Addr) (len cap : Nat) (l h : Int), abnd lo 0 = some l → abnd hi len = some h → 0 ≤ l → l ≤ h → h ≤ cap → ∀ w',
            (Instr.sliceAt t (.slice a len cap) vl vh none).run P w' = .ok (.slice (if cap = l.toNat then a else a.map (·.add (l.toNat * j.size))) (h.toNat - l.toNat) (cap - l.toNat)) w' := by
          intro a len cap l h el eh h0 h1 h2 w'
          simp only [Instr.sliceAt]
          rw [run_bind_ok (hu w')]
          simp only [Instr.slice]
          rw [run_bind_ok (hu w')]
          simp only
          rw [run_bind_ok (run_bnds hl hh el eh h0 h1 h2 w')]
          simp only
          rw [run_bind_ok (run_sizeOf hT hj w')]
          rfl
        split
        · rename_i sz rows
          split
          · rename_i hsz
            split
            · rename_i l h el eh
              rintro ⟨h0, h1, h2⟩
              obtain ⟨a, cap, rfl, h3, h4, h4', h5, h6⟩ := hx
              have hlen : ((rows.drop l.toNat).take (h.toNat - l.toNat)).length = h.toNat - l.toNat := by
                simp only [List.length_take, List.length_drop]; omega
              refine ⟨_, key a _ cap l h el eh h0 h1 (by omega), _, cap - l.toNat, by rw [hlen], by omega, by omega, by omega, fun r hr => h5 r (List.mem_of_mem_drop (List.mem_of_mem_take hr)), ?_⟩
              by_cases hz : h.toNat - l.toNat = 0
              · left; rw [hz]; simp
              · right
                rcases h6 with h6 | ⟨b, o, rfl, hb, hr⟩
                · subst h6; simp at h2; omega
                · refine ⟨b, o + l.toNat * sz, ?_, hb, ?_⟩
                  · rw [if_neg (by omega)]; simp only [Option.map_some, Addr.add_mid, hsz]
                  · exact (hr.dropR h5 l.toNat).takeR _
            · exact trivial
          · exact trivial
        · rename_i id sz lo' m
          split
          · rename_i hsz
            split
            · rename_i l h el eh
              rintro ⟨h0, h1, h2⟩
              rcases hx with ⟨hb, rfl, rfl, rfl⟩ | ⟨b, o, cap, cs, ty, fz, hb, rfl, h3, h4, h4', h5, h6, h7⟩
              · have : l = 0 := by omega
                subst this
                have : h = 0 := by omega
                subst this
                exact ⟨_, key none 0 0 0 0 el eh (by omega) (by omega) (by omega), .inl ⟨hb, rfl, rfl, by simp⟩⟩
              · refine ⟨_, key _ _ cap l h el eh h0 h1 (by omega), .inr ⟨b, if cap = l.toNat then o else o + l.toNat * sz, cap - l.toNat, cs, ty, fz, hb, ?_, by omega, by omega, by omega, h5, fun hc => ?_, ?_⟩⟩
                · split
                  · rfl
                  · simp only [Option.map_some, Addr.add_mid, hsz]
                · rw [if_neg (by omega), h6 (by omega), Nat.add_mul]
                · have : lo' + l.toNat + (cap - l.toNat) = lo' + cap := by omega
                  rw [this]; exact h7
            · exact trivial
          · exact trivial
        · exact trivial
      · exact trivial
    · exact trivial
  · exact trivial

theorem anil_sound (x : V) (vx : Value) (hx : VEnc k w x vx) (r : Value → Sem Next) (o : Oper) (ρ : Operand → Value) (y : Operand) (ho : o.op = .nilCheck y) (hy : ρ y = vx) :
    (anil x).holds fun v => ∃ u, (∀ w', (execOp ρ o).run P w' = .ok (.value u) w') ∧ VEnc k w v u := by
  unfold anil
  split
  · have hx' := hx; obtain ⟨b, hb, rfl⟩ := hx'; exact ⟨_, fun _ => by simp [execOp, ho, hy], hx⟩
  · have hx' := hx; obtain ⟨b, o, rfl, hb⟩ := hx'; exact ⟨_, fun _ => by simp [execOp, ho, hy], hx⟩
  · have hx' := hx; obtain ⟨b, o, rfl, hb⟩ := hx'; exact ⟨_, fun _ => by simp [execOp, ho, hy], hx⟩
  · have hx' := hx; obtain ⟨b, hb, rfl⟩ := hx'; exact ⟨_, fun _ => by simp [execOp, ho, hy], hx⟩
  · have hx' := hx; obtain ⟨fs, cs, rfl, hb⟩ := hx'; exact ⟨_, fun _ => by simp [execOp, ho, hy], hx⟩
  · have hx' := hx; obtain ⟨b, hb, rfl⟩ := hx'; exact ⟨_, fun _ => by simp [execOp, ho, hy], hx⟩
  · exact trivial
end
end Go.AM
end
section
/-! ## 8 -/
namespace Go.AM
open Go

def AS.put (st : AS) (d : Nat) (v : V) : AS := { st with t := (d, v) :: st.t }

section
variable {P : Program} {T : List (Nat × TI)} {k k' : K} {w w' : World} {st : AS} {a : Act} {ms : List Nat} {ro : Option Nat} {h : List (Nat × Ob)}

theorem SimT.put {d : Nat} {v : V} {x : Value} (h : SimT k w st a) (hd : d < st.n) (hv : VEnc k w v x) : SimT k w (st.put d v) (a.put (some d) x) where
  size := by simp only [Act.put, Array.size_setIfInBounds, AS.put]; exact h.size
  arg := h.arg
  tm i y hi := by
    simp only [AS.put, lkp] at hi
    simp only [Act.put]
    have hsz := h.size
    split at hi
    · rename_i e; subst e; cases hi
      exact ⟨x, by rw [Array.getElem?_setIfInBounds_self_of_lt (by omega)], hv⟩
    · rename_i e
      obtain ⟨u, hu, he⟩ := h.tm i y hi
      exact ⟨u, by rw [Array.getElem?_setIfInBounds_ne e]; exact hu, he⟩

theorem SimT.mono (m : Keeps k w k' w') (h : SimT k w st a) : SimT k' w' st a :=
  ⟨h.size, h.arg, fun i x hi => by obtain ⟨v, hv, he⟩ := h.tm i x hi; exact ⟨v, hv, VEnc.mono m x v he⟩⟩

theorem Mk.lt (h : Mk ro k w a ms) {D : Nat} (hD : D ∈ ms) : D < w.heap.size := (Array.getElem?_eq_some_iff.1 (h.heap D hD)).1

theorem Mk.ext (h : Mk ro k w a ms) (e : Ext k w k' w') : Mk ro k' w' a ms where
  eq := h.eq
  nodup := h.nodup
  heap D hD := (e.frame D (h.lt hD) (h.noX D hD)).trans (h.heap D hD)
  noS D hD hs := by
    rcases e.newS D hs with h1 | ⟨i, h1⟩ | h1
    · exact h.noS D hD h1
    · exact h.noX D hD i h1
    · have := h.lt hD; omega
  noX D hD i hx := by
    rcases e.newX i D hx with ⟨j, h1⟩ | h1
    · exact h.noX D hD j h1
    · have := h.lt hD; omega
  rd l hl := by
    obtain ⟨⟨r, h1⟩, h2, h3⟩ := h.rd l hl
    have hlt : l < w.heap.size := (Array.getElem?_eq_some_iff.1 h1).1
    refine ⟨⟨r, (e.frame l hlt h3).trans h1⟩, fun hs => ?_, fun i hx => ?_⟩
    · rcases e.newS l hs with q | ⟨i, q⟩ | q
      · exact h2 q
      · exact h3 i q
      · omega
    · rcases e.newX i l hx with ⟨j, q⟩ | q
      · exact h3 j q
      · omega

theorem Mk.put (h : Mk ro k w a ms) (d : Option Nat) (v : Value) : Mk ro k w (a.put d v) ms := by
  cases d <;> exact ⟨h.eq, h.nodup, h.heap, h.noS, h.noX, h.rd⟩

set_option linter.unusedSectionVars false
variable [Env]
theorem Sim.of_ext {h' : List (Nat × Ob)} (s : Sim ro k w st a ms) (hH : SimH k' w' h') (m : Keeps k w k' w') (e : Ext k w k' w') : Sim ro k' w' { st with h := h' } a ms :=
  ⟨hH, ⟨(s.T.mono m).size, s.T.arg, (s.T.mono m).tm⟩, s.M.ext e⟩

theorem Keeps.of_ext (e : Ext k w k' w') (d : ∀ i b, k.X i b → ¬ k.S b) (l : ∀ b, k.S b → b < w.heap.size) (hb : ∀ i l, k.β i = some l → k'.β i = some l) : Keeps k w k' w' :=
  ⟨e.grows, fun b hs => e.frame b (l b hs) fun i hi => d i b hi hs, e.sub, hb⟩

theorem obSat_mono {i : Nat} {o : Ob} (m : Keeps k w k' w') (hX : ∀ b, k'.X i b ↔ k.X i b) (hw : ∀ b, k.X i b → w'.heap[b]? = w.heap[b]?) (hp : ∀ b, k.β i = some (some b) → k.X i b) (h : obSat k w i o) : obSat k' w' i o := by
  cases o with
  | cells vs =>
    obtain ⟨b, cs, ty, h1, h2, h3, h4, h5⟩ := h
    exact ⟨b, cs, ty, m.beta _ _ h1, (hw b (hp b h1)).trans h2, VEncs.mono m vs _ h3, h4, fun b' hb' => h5 b' ((hX b').1 hb')⟩
  | arr sz rows =>
    obtain ⟨h1, h2⟩ := h
    refine ⟨?_, h2⟩
    rcases h1 with ⟨a1, a2, a3⟩ | ⟨b, cs, ty, a1, a2, a3, a4, a5⟩
    · exact .inl ⟨m.beta _ _ a1, a2, fun b' hb' => a3 b' ((hX b').1 hb')⟩
    · exact .inr ⟨b, cs, ty, m.beta _ _ a1, (hw b (hp b a1)).trans a2, a3, RowsAt.mono' m.same m.sub rows b 0 (hw b (hp b a1)) a4, fun b' hb' => a5 b' ((hX b').1 hb')⟩
  | opq A =>
    obtain ⟨l, h1, h2⟩ := h
    refine ⟨l, m.beta _ _ h1, ?_⟩
    have : k'.X i = k.X i := by funext b; exact propext (hX b)
    rw [this]
    exact A.stable h2 m.grows (fun b hb => hb.elim (m.same b) (hw b)) m.sub

/-- A new object d in the new block b. -/
def K.new (k : K) (d b : Nat) : K :=
  { S := k.S, β := fun i => if i = d then some (some b) else k.β i, X := fun i b' => if i = d then b' = b else k.X i b' }

theorem heap_alloc (w : World) (o : Obj) (b : Nat) (h : b < w.heap.size) : (w.alloc o).heap[b]? = w.heap[b]? := RowKit.Below.heap_alloc w o b h
theorem heap_new (w : World) (o : Obj) : (w.alloc o).heap[w.heap.size]? = some o := Go.heap_alloc_new w o
theorem size_alloc (w : World) (o : Obj) : (w.alloc o).heap.size = w.heap.size + 1 := by rw [World.size_alloc]

theorem Grows.alloc (w : World) (o : Obj) : Grows w (w.alloc o) :=
  .of ⟨by rw [size_alloc]; omega, fun b cs ty fz h => ⟨cs, by rw [heap_alloc w o b (Array.getElem?_eq_some_iff.1 h).1]; exact h, rfl⟩⟩

theorem Ext.new (s : SimH k w h) {d : Nat} (hd : (k.β d) = none) (hA : d < ARG) (o : Obj) : Ext k w (k.new d w.heap.size) (w.alloc o) where
  grows := .alloc w o
  frame b hb _ := heap_alloc w o b hb
  sub _ h := h
  newS _ h := .inl h
  newX i b h := by
    simp only [K.new] at h
    split at h
    · exact .inr (by omega)
    · exact .inl ⟨i, h⟩
  old i l hi h := by
    simp only [K.new] at h
    split at h
    · omega
    · exact h

theorem keeps_new (s : SimH k w h) {d : Nat} (hd : lkp d h = none) (o : Obj) : Keeps k w (k.new d w.heap.size) (w.alloc o) := by
  have hb : k.β d = none := by
    have := s.dom d
    rw [hd] at this
    cases hq : k.β d with
    | none => rfl
    | some l => rw [hq] at this; cases this
  refine ⟨Grows.alloc w o, fun b hs => heap_alloc w o b (s.slt b hs), fun _ h => h, fun i l hi => ?_⟩
  simp only [K.new]
  split
  · rename_i e; subst e; rw [hb] at hi; cases hi
  · exact hi

theorem SimH.new (s : SimH k w h) {d : Nat} (hd : lkp d h = none) {o : Obj} {ob : Ob} (hs : obSat (k.new d w.heap.size) (w.alloc o) d ob) : SimH (k.new d w.heap.size) (w.alloc o) ((d, ob) :: h) := by
  have m := keeps_new s hd o
  have hX : ∀ b, ¬ k.X d b := fun b hb => by
    have := s.domX d b hb
    rw [s.dom d, hd] at this; cases this
  refine ⟨?_, ?_, ?_, ?_, ?_, ?_, ?_, ?_, s.env.mono m.same m.sub⟩
  · intro i j b h1 h2
    simp only [K.new] at h1 h2
    split at h1 <;> split at h2
    · simp_all
    · have := s.lt j b h2; omega
    · have := s.lt i b h1; omega
    · exact s.inj i j b h1 h2
  · intro i b h1
    rw [size_alloc]
    simp only [K.new] at h1
    split at h1
    · omega
    · have := s.lt i b h1; omega
  · intro i b h1 h2
    simp only [K.new] at h1 h2
    split at h1
    · have := s.slt b h2; omega
    · exact s.dis i b h1 h2
  · intro b h1; rw [size_alloc]; have := s.slt b h1; omega
  · intro i b h1
    simp only [K.new] at h1 ⊢
    split at h1
    · rename_i e; rw [if_pos e]; cases h1; rfl
    · rename_i e; rw [if_neg e]; exact s.prim i b h1
  · intro i
    simp only [K.new, lkp]
    by_cases e : i = d
    · subst e; simp
    · rw [if_neg e, if_neg (fun h => e h.symm)]; exact s.dom i
  · intro i b h1
    simp only [K.new] at h1 ⊢
    split at h1
    · rename_i e; rw [if_pos e]; rfl
    · rename_i e; rw [if_neg e]; exact s.domX i b h1
  · intro i o' h1
    simp only [lkp] at h1
    split at h1
    · rename_i e; subst e; cases h1; exact hs
    · rename_i e
      refine obSat_mono m (fun b => ?_) (fun b hb => heap_alloc w o b (s.lt i b hb)) (s.prim i) (s.sat i o' h1)
      simp only [K.new]; rw [if_neg (fun h => e h.symm)]

theorem os_setCells' (w : World) (g o : Nat) (vs : List Value) : (w.setCells g o vs).os = w.os := (World.keptBut_setCells g (may := fun _ => True) vs o w (fun _ _ => trivial)).1
theorem output_setCells' (w : World) (g o : Nat) (vs : List Value) : (w.setCells g o vs).output = w.output := (World.keptBut_setCells g (may := fun _ => True) vs o w (fun _ _ => trivial)).2.1
/-- An object's one block is written. -/
theorem SimH.write (s : SimH k w h) {d b : Nat} {cs cs' : Array Value} {ty : TypeId} {fz : Nat × Nat} (hb : k.β d = some (some b)) (ho : w.heap[b]? = some (Obj.cells cs ty fz)) (hn : w'.heap[b]? = some (Obj.cells cs' ty fz)) (hsz : cs'.size = cs.size)
    (hsame : w'.heap.size = w.heap.size) (hoth : ∀ b', b' < w.heap.size → b' ≠ b → w'.heap[b']? = w.heap[b']?) {ob : Ob} (hs : obSat k w' d ob) (hos : w'.os = w.os := by first | rfl | exact os_setCells' _ _ _ _) (hou : w'.output = w.output := by first | rfl | exact output_setCells' _ _ _ _) : Ext k w k w' ∧ Keeps k w k w' ∧ SimH k w' ((d, ob) :: h) := by
  have hg : Grows w w' := .of ⟨by omega, fun b' cs0 ty0 fz0 h0 => by
    by_cases e : b' = b
    · subst e; rw [ho] at h0; cases h0; exact ⟨cs', hn, hsz⟩
    · exact ⟨cs0, by rw [hoth b' (Array.getElem?_eq_some_iff.1 h0).1 e]; exact h0, rfl⟩⟩ hos hou
  have e : Ext k w k w' := ⟨hg, fun b' hb' hx => hoth b' hb' fun e => hx d (by subst e; exact s.prim d _ hb), fun _ h => h, fun _ h => .inl h, fun i _ h => .inl ⟨i, h⟩, fun _ _ _ h => h⟩
  have m : Keeps k w k w' := Keeps.of_ext e s.dis s.slt fun _ _ h => h
  refine ⟨e, m, ⟨s.inj, fun i b' h1 => by rw [hsame]; exact s.lt i b' h1, s.dis, fun b' h1 => by rw [hsame]; exact s.slt b' h1, s.prim, fun i => ?_, s.domX, fun i o' h1 => ?_, s.env.mono m.same m.sub⟩⟩
  · simp only [lkp]
    split
    · rename_i e'; subst e'; rw [hb]; rfl
    · exact s.dom i
  · simp only [lkp] at h1
    split at h1
    · rename_i e'; subst e'; cases h1; exact hs
    · rename_i e'
      refine obSat_mono m (fun _ => Iff.rfl) (fun b' hx => hoth b' (s.lt i b' hx) fun e2 => e' ?_) (s.prim i) (s.sat i o' h1)
      subst e2; exact s.inj d i _ (s.prim d _ hb) hx
end
end Go.AM
end
section
/-! ## 9 -/
namespace Go.AM
open Go

def vcells : V → Option (List V)
  | .agg l => some l
  | .dagg l => some (l.map .d)
  | .junk => none
  | .tup _ => none
  | .opt _ _ => none
  | v => some [v]

def spl (vs : List V) (off : Nat) : List V → List V
  | [] => vs
  | x :: r => spl (vs.set off x) (off + 1) r

mutual
def toD : V → Option D
  | .d x => some x
  | .rp ds => some (.rp ds)
  | .fn f first caps => match toDs first, toDs caps with
    | some a, some b => some (.fn f a b)
    | _, _ => none
  | _ => none
def toDs : List V → Option (List D)
  | [] => some []
  | x :: xs => match toD x, toDs xs with
    | some a, some b => some (a :: b)
    | _, _ => none
end

def splD (ds : List D) (off : Nat) : List D → List D
  | [] => ds
  | x :: r => splD (ds.set off x) (off + 1) r

section
variable {P : Program} {T : List (Nat × TI)} {k k' : K} {w w' : World} {st : AS} {a : Act} {ms : List Nat} {ro : Option Nat} {h : List (Nat × Ob)}

theorem VEncs_d : ∀ {l : List D} {vs : List Value}, DEncs k.S w l vs → VEncs k w (l.map .d) vs
  | [], [], _ => trivial
  | _ :: _, _ :: _, h => ⟨h.1, VEncs_d h.2⟩
  | [], _ :: _, h => h.elim
  | _ :: _, [], h => h.elim

theorem vcells_sound {v : V} {x : Value} (h : VEnc k w v x) {l : List V} (hl : vcells v = some l) : VEncs k w l x.cells.toList ∧ ∀ c ∈ x.cells, c.oneCell' = true := by
  cases v with
  | junk => cases hl
  | tup _ => cases hl
  | opt _ _ => cases hl
  | agg l' => cases hl; obtain ⟨cs, rfl, h1, h2⟩ := h; exact ⟨h1, h2⟩
  | dagg l' => cases hl; obtain ⟨cs, rfl, h1⟩ := h; exact ⟨VEncs_d h1, fun c hc => DEncs.ones h1 c (by simpa [Value.cells] using hc)⟩
  | d x' =>
    cases hl
    have h1 := DEnc.one1 h
    have : x.cells = #[x] := by cases x <;> first | rfl | cases h1
    rw [this]; exact ⟨⟨h, trivial⟩, by simpa using h1⟩
  | ptr _ _ => cases hl; have h' := h; obtain ⟨b, hb, rfl⟩ := h'; exact ⟨⟨h, trivial⟩, by simp [Value.cells, Value.oneCell']⟩
  | own _ _ _ _ =>
    cases hl; have h' := h
    rcases h' with ⟨_, _, _, rfl⟩ | ⟨b, o, cap, cs, ty, fz, hb, rfl, _⟩
    · exact ⟨⟨h, trivial⟩, by simp [Value.cells, Value.oneCell']⟩
    · exact ⟨⟨h, trivial⟩, by simp [Value.cells, Value.oneCell']⟩
  | ep _ _ _ _ => cases hl; have h' := h; obtain ⟨b, hb, rfl⟩ := h'; exact ⟨⟨h, trivial⟩, by simp [Value.cells, Value.oneCell']⟩
  | rp _ => cases hl; have h' := h; obtain ⟨b, o, rfl, _⟩ := h'; exact ⟨⟨h, trivial⟩, by simp [Value.cells, Value.oneCell']⟩
  | rr _ _ _ _ => cases hl; have h' := h; obtain ⟨b, o, rfl, _⟩ := h'; exact ⟨⟨h, trivial⟩, by simp [Value.cells, Value.oneCell']⟩
  | fn _ _ _ => cases hl; have h' := h; obtain ⟨b, o, rfl, _⟩ := h'; exact ⟨⟨h, trivial⟩, by simp [Value.cells, Value.oneCell']⟩
  | yld _ => cases hl; have h' := h; obtain ⟨b, hb, rfl⟩ := h'; exact ⟨⟨h, trivial⟩, by simp [Value.cells, Value.oneCell']⟩
  | mp _ => cases hl; have h' := h; obtain ⟨b, hb, rfl⟩ := h'; exact ⟨⟨h, trivial⟩, by simp [Value.cells, Value.oneCell']⟩

mutual
theorem toD_sound : ∀ (v : V) (x : Value) (_ : VEnc k w v x) (dd : D) (_ : toD v = some dd), DEnc k.S w dd x
  | .d x, _, h, dd, e => by cases e; exact h
  | .rp ds, _, h, dd, e => by cases e; exact h
  | .fn f first caps, x, h, dd, e => by
    simp only [toD] at e
    split at e
    · rename_i a b ha hb
      cases e
      obtain ⟨fs, cs, rfl, h1, h2⟩ := h
      exact ⟨fs, cs, rfl, toDs_sound first _ h1 a ha, toDs_sound caps _ h2 b hb⟩
    · cases e
  | .junk, _, _, _, e | .ptr _ _, _, _, _, e | .own _ _ _ _, _, _, _, e | .ep _ _ _ _, _, _, _, e | .rr _ _ _ _, _, _, _, e | .agg _, _, _, _, e | .dagg _, _, _, _, e | .tup _, _, _, _, e | .opt _ _, _, _, _, e | .yld _, _, _, _, e | .mp _, _, _, _, e => by simp [toD] at e
theorem toDs_sound : ∀ (l : List V) (vs : List Value) (_ : VEncs k w l vs) (ds : List D) (_ : toDs l = some ds), DEncs k.S w ds vs
  | [], [], _, ds, e => by simp only [toDs, Option.some.injEq] at e; subst e; trivial
  | x :: xs, v :: vs, h, ds, e => by
    simp only [toDs] at e
    split at e
    · rename_i a b ha hb
      cases e
      exact ⟨toD_sound x v h.1 a ha, toDs_sound xs vs h.2 b hb⟩
    · cases e
  | [], _ :: _, h, _, _ => h.elim
  | _ :: _, [], h, _, _ => h.elim
end

set_option linter.unusedSectionVars false
variable [Env]
/-- A new variable that holds a value's cells. -/
theorem sim_box (s : Sim ro k w st a ms) {d : Nat} (hd : lkp d st.h = none) (hn : d < st.n) {v : V} {x : Value} (hv : VEnc k w v x) {l : List V} (hl : vcells v = some l) (ty : TypeId) :
    Sim ro (k.new d w.heap.size) (w.alloc (.cells x.cells ty)) { n := st.n, t := (d, .ptr d 0) :: st.t, h := (d, .cells l) :: st.h } (a.put (some d) (.pointer (some ⟨w.heap.size, 0, none⟩))) ms ∧ Ext k w (k.new d w.heap.size) (w.alloc (.cells x.cells ty)) := by
  obtain ⟨h1, h2⟩ := vcells_sound hv hl
  have hb : k.β d = none := by
    have := s.H.dom d
    rw [hd] at this
    cases hq : k.β d with
    | none => rfl
    | some l => rw [hq] at this; cases this
  have e := Ext.new s.H hb (Nat.lt_of_lt_of_le hn s.T.arg) (.cells x.cells ty)
  have m := keeps_new s.H hd (.cells x.cells ty)
  have hH := s.H.new hd (o := .cells x.cells ty) (ob := .cells l) ⟨w.heap.size, x.cells, ty, by simp [K.new], heap_new w _, VEncs.mono m l _ h1, h2, fun b' hb' => by simpa [K.new] using hb'⟩
  have s1 := s.of_ext hH m e
  exact ⟨⟨s1.H, SimT.put (st := { st with h := (d, .cells l) :: st.h }) s1.T hn ⟨w.heap.size, by simp [K.new], rfl⟩, s1.M.put _ _⟩, e⟩

def cspl (cs : Array Value) (o : Nat) : List Value → Array Value
  | [] => cs
  | x :: r => cspl (cs.setIfInBounds o x) (o + 1) r

theorem cspl_size : ∀ (l : List Value) (cs : Array Value) (o : Nat), (cspl cs o l).size = cs.size
  | [], _, _ => rfl
  | x :: r, cs, o => by simp only [cspl]; rw [cspl_size r]; simp
theorem cspl_ones : ∀ (l : List Value) (cs : Array Value) (o : Nat), (∀ c ∈ cs, c.oneCell' = true) → (∀ c ∈ l, c.oneCell' = true) → ∀ c ∈ cspl cs o l, c.oneCell' = true
  | [], _, _, h, _ => h
  | x :: r, cs, o, h, h' => cspl_ones r _ _ (fun c hc => by
      rcases Array.mem_or_eq_of_mem_setIfInBounds hc with h1 | h1
      · exact h c h1
      · subst h1; exact h' _ (by simp)) fun c hc => h' c (by simp [hc])
theorem heap_setCells (b : Nat) (ty : TypeId) (fz : Nat × Nat) : ∀ (l : List Value) (o : Nat) (w : World) (cs : Array Value), w.heap[b]? = some (Obj.cells cs ty fz) →
    (w.setCells b o l).heap[b]? = some (Obj.cells (cspl cs o l) ty fz) ∧ (w.setCells b o l).heap.size = w.heap.size ∧ ∀ b', b' ≠ b → (w.setCells b o l).heap[b']? = w.heap[b']?
  | [], o, w, cs, h => ⟨h, rfl, fun _ _ => rfl⟩
  | x :: r, o, w, cs, h => by
    have h1 : (w.setCell ⟨b, o, none⟩ x).heap[b]? = some (Obj.cells (cs.setIfInBounds o x) ty fz) := by
      simp only [World.setCell, Array.getElem?_modify, h]; simp
    obtain ⟨a1, a2, a3⟩ := heap_setCells b ty fz r (o + 1) (w.setCell ⟨b, o, none⟩ x) _ h1
    refine ⟨a1, a2.trans (by simp [World.setCell]), fun b' hb' => (a3 b' hb').trans ?_⟩
    simp only [World.setCell, Array.getElem?_modify]
    rw [if_neg (fun e => hb' e.symm)]

theorem VEncs.set : ∀ {l : List V} {vs : List Value} (_ : VEncs k w l vs) (i : Nat) {x : V} {v : Value} (_ : VEnc k w x v), VEncs k w (l.set i x) (vs.set i v)
  | [], [], _, _, _, _, _ => trivial
  | _ :: _, _ :: _, h, 0, _, _, hx => ⟨hx, h.2⟩
  | _ :: _, _ :: _, h, i + 1, _, _, hx => ⟨h.1, VEncs.set h.2 i hx⟩
  | [], _ :: _, h, _, _, _, _ => h.elim
  | _ :: _, [], h, _, _, _, _ => h.elim
theorem VEncs.spl : ∀ {m : List V} {us : List Value} {l : List V} {cs : Array Value} (o : Nat), VEncs k w l cs.toList → VEncs k w m us → VEncs k w (spl l o m) (cspl cs o us).toList
  | [], [], _, _, _, h, _ => h
  | _ :: _, _ :: _, l, cs, o, h, h' => VEncs.spl (cs := cs.setIfInBounds o _) (o + 1) (by rw [Array.toList_setIfInBounds]; exact h.set o h'.1) h'.2
  | [], _ :: _, _, _, _, _, h => h.elim
  | _ :: _, [], _, _, _, _, h => h.elim
theorem DEncs.set {S : Nat → Prop} : ∀ {l : List D} {vs : List Value} (_ : DEncs S w l vs) (i : Nat) {x : D} {v : Value} (_ : DEnc S w x v), DEncs S w (l.set i x) (vs.set i v)
  | [], [], _, _, _, _, _ => trivial
  | _ :: _, _ :: _, h, 0, _, _, hx => ⟨hx, h.2⟩
  | _ :: _, _ :: _, h, i + 1, _, _, hx => ⟨h.1, DEncs.set h.2 i hx⟩
  | [], _ :: _, h, _, _, _, _ => h.elim
  | _ :: _, [], h, _, _, _, _ => h.elim

theorem run_storeVar {t : Nat} {i : TI} (hT : TOK P T) (hl : lkp t T = some i) {b o : Nat} {v : Value} {cs : Array Value} {ty : TypeId} (hb : w.heap[b]? = some (Obj.cells cs ty (0, 0)))
    (hsz : v.cells.size = i.size) (hle : o + i.size ≤ cs.size) (h1 : ∀ c ∈ v.cells, c.oneCell' = true) : (Instr.storeAt t (.pointer (some ⟨b, o, none⟩)) v).run P w = .ok () (w.setCells b o v.cells.toList) := by
  have := run_storeCells_cells (P := P) b o v.cells.toList 0 w (fun j hj => by
      rw [cell_of_cells hb]; simp at hj ⊢; omega) (fun j hj => by simp [World.frozen?, hb]) (fun c hc => h1 c (by simpa using hc))
  simp only [Nat.add_zero] at this
  simp only [Instr.storeAt, Instr.sureAddr, pure_bind, storeVar]
  rw [run_bind_ok (run_sizeOf hT hl w)]
  simp only [hsz, ne_eq, not_true_eq_false, if_false]
  exact this

/-- A store into a variable. -/
theorem sim_store (hT : TOK P T) (s : Sim ro k w st a ms) {t : Nat} {i : TI} (hl : lkp t T = some i) {id off : Nat} {vs : List V} (ho : lkp id st.h = some (.cells vs)) {v : V} {x : Value} (hv : VEnc k w v x) {l : List V} (hc : vcells v = some l)
    (hsz : l.length = i.size) (hle : off + l.length ≤ vs.length) {px : Value} (hp : VEnc k w (.ptr id off) px) :
    ∃ w', (Instr.storeAt t px x).run P w = .ok () w' ∧ Sim ro k w' { st with h := (id, .cells (spl vs off l)) :: st.h } a ms ∧ Ext k w k w' := by
  obtain ⟨b, hb, rfl⟩ := hp
  obtain ⟨b', cs, ty, h1, h2, h3, h4, h5⟩ := s.H.sat id _ ho
  rw [hb] at h1; cases h1
  obtain ⟨c1, c2⟩ := vcells_sound hv hc
  have hlen := VEncs.length c1
  have hlen' := VEncs.length h3
  simp only [Array.length_toList] at hlen hlen'
  obtain ⟨a1, a2, a3⟩ := heap_setCells b ty (0, 0) x.cells.toList off w cs h2
  have hk : Keeps k w k (w.setCells b off x.cells.toList) := by
    refine ⟨.of ⟨by omega, fun b' cs0 ty0 fz0 h0 => ?_⟩ (os_setCells' _ _ _ _) (output_setCells' _ _ _ _), fun b' hs => a3 b' fun e => s.H.dis id b' (by subst e; exact s.H.prim id _ hb) hs, fun _ h => h, fun _ _ h => h⟩
    by_cases e : b' = b
    · subst e; rw [h2] at h0; cases h0; exact ⟨_, a1, cspl_size _ _ _⟩
    · exact ⟨cs0, by rw [a3 b' e]; exact h0, rfl⟩
  obtain ⟨e, m, hH⟩ := s.H.write (w' := w.setCells b off x.cells.toList) hb h2 a1 (cspl_size _ _ _) a2 (fun b' _ hne => a3 b' hne) (ob := .cells (spl vs off l))
    ⟨b, _, ty, hb, a1, VEncs.mono hk _ _ (h3.spl off c1), cspl_ones _ _ _ h4 (fun c hc => c2 c (by simpa using hc)), h5⟩
  exact ⟨_, run_storeVar hT hl h2 (by omega) (by omega) c2, s.of_ext hH m e, e⟩
end
end Go.AM
end
section
/-! ## 10 -/
namespace Go.AM
open Go

mutual
/-- A value in which an object is no more named. -/
def V.scrub (id : Nat) : V → V
  | .junk => .junk
  | .d x => .d x
  | .ptr i o => if i = id then .junk else .ptr i o
  | .own i sz lo n => if i = id then .junk else .own i sz lo n
  | .ep i sz r o => if i = id then .junk else .ep i sz r o
  | .rp ds => .rp ds
  | .rr sz rows i o => .rr sz rows i o
  | .fn f a b => .fn f (scrubL id a) (scrubL id b)
  | .agg l => .agg (scrubL id l)
  | .dagg l => .dagg l
  | .tup l => .tup (scrubL id l)
  | .yld i => if i = id then .junk else .yld i
  | .mp i => if i = id then .junk else .mp i
  | .opt g x => .opt g (x.scrub id)
def scrubL (id : Nat) : List V → List V
  | [] => []
  | x :: xs => x.scrub id :: scrubL id xs
end

def Ob.scrub (id : Nat) : Ob → Ob
  | .cells vs => .cells (scrubL id vs)
  | .arr sz rows => .arr sz rows
  | .opq A => .opq A

def scrubT (id : Nat) : List (Nat × V) → List (Nat × V)
  | [] => []
  | (i, x) :: r => (i, x.scrub id) :: scrubT id r
def scrubH (id : Nat) : List (Nat × Ob) → List (Nat × Ob)
  | [] => []
  | (i, x) :: r => if i = id then scrubH id r else (i, x.scrub id) :: scrubH id r

/-- The state without an object. -/
def AS.drop (st : AS) (id : Nat) : AS := { n := st.n, t := scrubT id st.t, h := scrubH id st.h }

def K.drop (k : K) (id : Nat) : K :=
  { S := k.S, β := fun i => if i = id then none else k.β i, X := fun i b => i ≠ id ∧ k.X i b }

theorem look_scrubT (id : Nat) : ∀ (t : List (Nat × V)) (i : Nat), lkp i (scrubT id t) = (lkp i t).map (V.scrub id)
  | [], _ => rfl
  | (j, x) :: r, i => by
    simp only [scrubT, lkp]
    split
    · rfl
    · exact look_scrubT id r i
theorem look_scrubH (id : Nat) : ∀ (h : List (Nat × Ob)) (i : Nat), lkp i (scrubH id h) = if i = id then none else (lkp i h).map (Ob.scrub id)
  | [], i => by simp [scrubH, lkp]
  | (j, x) :: r, i => by
    simp only [scrubH]
    by_cases e : j = id
    · rw [if_pos e, look_scrubH id r i]
      by_cases e' : i = id
      · rw [if_pos e', if_pos e']
      · rw [if_neg e', if_neg e']
        simp only [lkp]; rw [if_neg (fun h => e' (h.symm.trans e))]
    · rw [if_neg e]
      simp only [lkp]
      by_cases e2 : j = i
      · rw [if_pos e2, if_pos e2, if_neg (fun h => e (e2.trans h))]; rfl
      · rw [if_neg e2, if_neg e2]; exact look_scrubH id r i

section
variable {P : Program} {T : List (Nat × TI)} {k k' : K} {w w' : World} {st : AS} {a : Act} {ms : List Nat} {ro : Option Nat} {h : List (Nat × Ob)}

mutual
theorem VEnc.scrub (id : Nat) : ∀ (x : V) (v : Value), VEnc k w x v → VEnc (k.drop id) w (x.scrub id) v
  | .junk, _, _ => trivial
  | .d x, v, h => h
  | .ptr i _, _, h => by
    simp only [V.scrub]; split
    · trivial
    · rename_i e; simp only [VEnc, K.drop, if_neg e]; exact h
  | .own i _ _ _, _, h => by
    simp only [V.scrub]; split
    · trivial
    · rename_i e; simp only [VEnc, K.drop, if_neg e]; exact h
  | .ep i _ _ _, _, h => by
    simp only [V.scrub]; split
    · trivial
    · rename_i e; simp only [VEnc, K.drop, if_neg e]; exact h
  | .rp ds, _, h => h
  | .rr _ _ _ _, _, h => h
  | .fn _ first caps, _, h => by obtain ⟨fs, cs, e, h1, h2⟩ := h; exact ⟨fs, cs, e, VEncs.scrub id first _ h1, VEncs.scrub id caps _ h2⟩
  | .agg l, _, h => by obtain ⟨cs, e, h1, h2⟩ := h; exact ⟨cs, e, VEncs.scrub id l _ h1, h2⟩
  | .dagg l, _, h => h
  | .tup l, _, h => by obtain ⟨cs, e, h1⟩ := h; exact ⟨cs, e, VEncs.scrub id l _ h1⟩
  | .yld i, _, h => by
    simp only [V.scrub]; split
    · trivial
    · rename_i e; simp only [VEnc, K.drop, if_neg e]; exact h
  | .mp i, _, h => by
    simp only [V.scrub]; split
    · trivial
    · rename_i e; simp only [VEnc, K.drop, if_neg e]; exact h
  | .opt _ x, v, h => ⟨fun e => VEnc.scrub id x v (h.1 e), h.2⟩
theorem VEncs.scrub (id : Nat) : ∀ (l : List V) (vs : List Value), VEncs k w l vs → VEncs (k.drop id) w (scrubL id l) vs
  | [], [], _ => trivial
  | x :: xs, v :: vs, h => ⟨VEnc.scrub id x v h.1, VEncs.scrub id xs vs h.2⟩
  | [], _ :: _, h => h.elim
  | _ :: _, [], h => h.elim
end

theorem obSat_scrub {id i : Nat} (e : i ≠ id) {o : Ob} (h : obSat k w i o) : obSat (k.drop id) w i (o.scrub id) := by
  have hb : (k.drop id).β i = k.β i := by simp [K.drop, e]
  have hX : ∀ b, (k.drop id).X i b ↔ k.X i b := fun b => by simp [K.drop, e]
  cases o with
  | cells vs =>
    obtain ⟨b, cs, ty, h1, h2, h3, h4, h5⟩ := h
    exact ⟨b, cs, ty, hb.trans h1, h2, VEncs.scrub id vs _ h3, h4, fun b' hb' => h5 b' ((hX b').1 hb')⟩
  | arr sz rows =>
    obtain ⟨h1, h2⟩ := h
    refine ⟨?_, h2⟩
    rcases h1 with ⟨a1, a2, a3⟩ | ⟨b, cs, ty, a1, a2, a3, a4, a5⟩
    · exact .inl ⟨hb.trans a1, a2, fun b' hb' => a3 b' ((hX b').1 hb')⟩
    · exact .inr ⟨b, cs, ty, hb.trans a1, a2, a3, a4, fun b' hb' => a5 b' ((hX b').1 hb')⟩
  | opq A =>
    obtain ⟨l', h1, h2⟩ := h
    exact ⟨l', hb.trans h1, by have : (k.drop id).X i = k.X i := by { funext b; exact propext (hX b) }
                               rw [this]; exact h2⟩

set_option linter.unusedSectionVars false
variable [Env]
theorem SimH.drop (s : SimH k w h) (id : Nat) : SimH (k.drop id) w (scrubH id h) where
  inj i j b h1 h2 := s.inj i j b h1.2 h2.2
  lt i b h1 := s.lt i b h1.2
  dis i b h1 := s.dis i b h1.2
  slt := s.slt
  env := s.env
  prim i b h1 := by
    simp only [K.drop] at h1 ⊢
    split at h1
    · cases h1
    · rename_i e; exact ⟨e, s.prim i b h1⟩
  dom i := by
    simp only [K.drop]; rw [look_scrubH]
    split
    · rfl
    · rw [s.dom i]; cases lkp i h <;> rfl
  domX i b h1 := by simp only [K.drop, if_neg h1.1]; exact s.domX i b h1.2
  sat i o h1 := by
    rw [look_scrubH] at h1
    split at h1
    · cases h1
    · rename_i e
      cases hl : lkp i h with
      | none => rw [hl] at h1; cases h1
      | some o' => rw [hl] at h1; cases h1; exact obSat_scrub e (s.sat i o' hl)

theorem SimT.drop (s : SimT k w st a) (id : Nat) : SimT (k.drop id) w (st.drop id) a :=
  ⟨s.size, s.arg, fun i x hx => by
    simp only [AS.drop] at hx
    rw [look_scrubT] at hx
    cases hl : lkp i st.t with
    | none => rw [hl] at hx; cases hx
    | some x' =>
      rw [hl] at hx; cases hx
      obtain ⟨v, hv, he⟩ := s.tm i x' hl
      exact ⟨v, hv, VEnc.scrub id x' v he⟩⟩

theorem Ext.drop (k : K) (w : World) (id : Nat) : Ext k w (k.drop id) w :=
  ⟨.refl w, fun _ _ _ => rfl, fun _ h => h, fun _ h => .inl h, fun i _ h => .inl ⟨i, h.2⟩, fun i l _ h => by
    simp only [K.drop] at h; split at h
    · cases h
    · exact h⟩

theorem Sim.drop (s : Sim ro k w st a ms) (id : Nat) : Sim ro (k.drop id) w (st.drop id) a ms :=
  ⟨s.H.drop id, s.T.drop id, s.M.ext (Ext.drop k w id)⟩

/-- A new object d in a block b that nobody has. -/
theorem SimH.add (s : SimH k w h) {d b : Nat} (hd : lkp d h = none) (hbX : ∀ i, ¬ k.X i b) (hbS : ¬ k.S b) (hlt : b < w'.heap.size) (hg : Grows w w') (hf : ∀ b', b' < w.heap.size → b' ≠ b → w'.heap[b']? = w.heap[b']?)
    {ob : Ob} (hs : Keeps k w (k.new d b) w' → obSat (k.new d b) w' d ob) : Keeps k w (k.new d b) w' ∧ SimH (k.new d b) w' ((d, ob) :: h) := by
  have hb : k.β d = none := by
    have := s.dom d
    rw [hd] at this
    cases hq : k.β d with
    | none => rfl
    | some l => rw [hq] at this; cases this
  have hX : ∀ b, ¬ k.X d b := fun b hb => by
    have := s.domX d b hb
    rw [s.dom d, hd] at this; cases this
  have m : Keeps k w (k.new d b) w' := by
    refine ⟨hg, fun b' hs' => hf b' (s.slt b' hs') (fun e => hbS (e ▸ hs')), fun _ h => h, fun i l hi => ?_⟩
    simp only [K.new]
    split
    · rename_i e; subst e; rw [hb] at hi; cases hi
    · exact hi
  refine ⟨m, ?_, ?_, ?_, ?_, ?_, ?_, ?_, ?_, s.env.mono m.same m.sub⟩
  · intro i j b h1 h2
    simp only [K.new] at h1 h2
    split at h1 <;> split at h2
    · simp_all
    · subst h1; exact absurd h2 (hbX _)
    · subst h2; exact absurd h1 (hbX _)
    · exact s.inj i j b h1 h2
  · intro i b h1
    simp only [K.new] at h1
    split at h1
    · omega
    · have := s.lt i b h1; have := hg.size; omega
  · intro i b h1 h2
    simp only [K.new] at h1 h2
    split at h1
    · subst h1; exact hbS h2
    · exact s.dis i b h1 h2
  · intro b h1; have := s.slt b h1; have := hg.size; omega
  · intro i b h1
    simp only [K.new] at h1 ⊢
    split at h1
    · rename_i e; rw [if_pos e]; cases h1; rfl
    · rename_i e; rw [if_neg e]; exact s.prim i b h1
  · intro i
    simp only [K.new, lkp]
    by_cases e : i = d
    · subst e; simp
    · rw [if_neg e, if_neg (fun h => e h.symm)]; exact s.dom i
  · intro i b h1
    simp only [K.new] at h1 ⊢
    split at h1
    · rename_i e; rw [if_pos e]; rfl
    · rename_i e; rw [if_neg e]; exact s.domX i b h1
  · intro i o' h1
    simp only [lkp] at h1
    split at h1
    · rename_i e; subst e; cases h1; exact hs m
    · rename_i e
      refine obSat_mono m (fun b => ?_) (fun b' hb' => hf b' (s.lt i b' hb') fun e2 => hbX i (e2 ▸ hb')) (s.prim i) (s.sat i o' h1)
      simp only [K.new]; rw [if_neg (fun h => e h.symm)]

/-- More blocks that are only read. -/
def K.addS (k : K) (R : Nat → Prop) : K := { S := fun b => k.S b ∨ R b, β := k.β, X := k.X }

theorem SimH.addS (s : SimH k w h) {R : Nat → Prop} (hR : ∀ b, R b → b < w'.heap.size ∧ ∀ i, ¬ k.X i b) (hg : Grows w w') (hf : ∀ b', b' < w.heap.size → w'.heap[b']? = w.heap[b']?) : Keeps k w (k.addS R) w' ∧ SimH (k.addS R) w' h := by
  have m : Keeps k w (k.addS R) w' := ⟨hg, fun b hs => hf b (s.slt b hs), fun _ h => .inl h, fun _ _ h => h⟩
  refine ⟨m, s.inj, fun i b hb => by have := s.lt i b hb; have := hg.size; omega, fun i b hb hs => hs.elim (s.dis i b hb) fun hr => (hR b hr).2 i hb, fun b hs => hs.elim (fun h => by have := s.slt b h; have := hg.size; omega) fun hr => (hR b hr).1, s.prim, s.dom, s.domX, fun i o ho => ?_, s.env.mono m.same m.sub⟩
  exact obSat_mono m (fun _ => Iff.rfl) (fun b hb => hf b (s.lt i b hb)) (s.prim i) (s.sat i o ho)

theorem Ext.addS {R : Nat → Prop} (hR : ∀ b, R b → w.heap.size ≤ b ∨ ∃ i, k.X i b) (hg : Grows w w') (hf : ∀ b', b' < w.heap.size → w'.heap[b']? = w.heap[b']?) : Ext k w (k.addS R) w' :=
  ⟨hg, fun b hb _ => hf b hb, fun _ h => .inl h, fun b h => h.elim .inl fun hr => (hR b hr).elim (fun h => .inr (.inr h)) fun h => .inr (.inl h), fun i _ h => .inl ⟨i, h⟩, fun _ _ _ h => h⟩
end
end Go.AM
end
section
/-! ## 11 -/
namespace Go.AM
open Go

section
variable {P : Program} {T : List (Nat × TI)} {k k' : K} {w w' : World} {st : AS} {a : Act} {ms : List Nat} {ro : Option Nat} {h : List (Nat × Ob)} {S : Nat → Prop}

theorem CellsAt.append : ∀ {l m : List D} {b o : Nat}, CellsAt S w (l ++ m) b o ↔ CellsAt S w l b o ∧ CellsAt S w m b (o + l.length)
  | [], m, b, o => by simp [CellsAt]
  | x :: xs, m, b, o => by
    simp only [List.cons_append, CellsAt, List.length_cons]
    rw [CellsAt.append (l := xs), show o + 1 + xs.length = o + (xs.length + 1) from by omega, and_assoc]
theorem RowsAt.flat : ∀ {rows : List (List D)} {b o : Nat}, RowsAt S w rows b o ↔ CellsAt S w rows.flatten b o
  | [], b, o => by simp [RowsAt, CellsAt]
  | r :: rs, b, o => by
    simp only [RowsAt, List.flatten_cons]
    rw [CellsAt.append, RowsAt.flat (rows := rs)]
theorem CellsAt.of_encs : ∀ {l : List D} {vs : List Value} {b o : Nat}, DEncs S w l vs → w.rangeAt b o vs → CellsAt S w l b o
  | [], [], _, _, _, _ => trivial
  | x :: xs, v :: vs, b, o, h, hr => ⟨⟨v, by simpa using hr 0 v rfl, h.1⟩, CellsAt.of_encs h.2 fun j u hu => by
      have := hr (j + 1) u (by simpa using hu)
      rwa [show o + 1 + j = o + (j + 1) from by omega]⟩
  | [], _ :: _, _, _, h, _ => h.elim
  | _ :: _, [], _, _, h, _ => h.elim
theorem DEncs.append : ∀ {l m : List D} {vs us : List Value}, DEncs S w l vs → DEncs S w m us → DEncs S w (l ++ m) (vs ++ us)
  | [], _, [], _, _, h => h
  | _ :: _, _, _ :: _, _, h, h' => ⟨h.1, DEncs.append h.2 h'⟩
  | [], _, _ :: _, _, h, _ => h.elim
  | _ :: _, _, [], _, h, _ => h.elim
theorem flatten_length {rows : List (List D)} {sz : Nat} (hu : ∀ r ∈ rows, r.length = sz) : rows.flatten.length = rows.length * sz := by
  induction rows with
  | nil => simp
  | cons r rs ih =>
    simp only [List.flatten_cons, List.length_append, List.length_cons]
    rw [ih (fun r hr => hu r (by simp [hr])), hu r (by simp), Nat.add_mul]; omega
theorem rangeAt_of_block {b o : Nat} {cs : Array Value} {ty : TypeId} {fz : Nat × Nat} (hb : w.heap[b]? = some (Obj.cells cs ty fz)) {vs : List Value} (h : ∀ j v, vs[j]? = some v → cs[o + j]? = some v) : w.rangeAt b o vs :=
  fun j v hv => by rw [cell_of_cells hb]; exact h j v hv

theorem cspl_toList : ∀ (l pre mid post : List Value) (cs : Array Value), cs.toList = pre ++ mid ++ post → mid.length = l.length → (cspl cs pre.length l).toList = pre ++ l ++ post
  | [], pre, mid, post, cs, h, hl => by
    have : mid = [] := List.eq_nil_of_length_eq_zero (by simpa using hl)
    subst this; simpa [cspl] using h
  | x :: r, pre, mid, post, cs, h, hl => by
    cases mid with
    | nil => simp at hl
    | cons y ys =>
      have := cspl_toList r (pre ++ [x]) ys post (cs.setIfInBounds pre.length x) (by
        rw [Array.toList_setIfInBounds, h]
        simp [List.set_append]) (by simpa using hl)
      simp only [List.length_append, List.length_cons, List.length_nil] at this
      simp only [cspl]
      rw [this]; simp

theorem foldl_cspl : ∀ (l : List Value) (n off : Nat) (cs : Array Value), (l.zipIdx n).foldl (fun cs (p : Value × Nat) => cs.setIfInBounds (off + p.2) p.1) cs = cspl cs (off + n) l
  | [], _, _, _ => rfl
  | x :: r, n, off, cs => by
    simp only [List.zipIdx_cons, List.foldl_cons, cspl]
    rw [foldl_cspl r (n + 1) off]; rfl

theorem fill_rows (size : Nat) : ∀ (parts : List (Nat × Value)) (m : Nat) (pre post : List Value) (cs : Array Value), cs.toList = pre ++ post → pre.length = m * size → post.length = parts.length * size →
    (∀ j p, parts[j]? = some p → p.1 = m + j ∧ p.2.cells.size = size) → ∃ cs', Instr.fill (fun i => some (i * size, size)) cs parts = some cs' ∧ cs'.toList = pre ++ (parts.map fun p => p.2.cells.toList).flatten
  | [], m, pre, post, cs, h, h1, h2, h3 => by
    have : post = [] := List.eq_nil_of_length_eq_zero (by simpa using h2)
    subst this
    exact ⟨cs, rfl, by simpa using h⟩
  | p :: ps, m, pre, post, cs, h, h1, h2, h3 => by
    obtain ⟨e1, e2⟩ := h3 0 p rfl
    simp only [Nat.add_zero] at e1
    simp only [List.length_cons, Nat.add_mul, Nat.one_mul] at h2
    have hs : cs.size = pre.length + post.length := by rw [← Array.length_toList, h, List.length_append]
    have hc := cspl_toList p.2.cells.toList pre (post.take size) (post.drop size) cs (by rw [h, List.append_assoc, List.take_append_drop]) (by simp [e2]; omega)
    obtain ⟨cs', r1, r2⟩ := fill_rows size ps (m + 1) (pre ++ p.2.cells.toList) (post.drop size) (cspl cs pre.length p.2.cells.toList) hc (by simp [h1, e2, Nat.add_mul]) (by simp; omega)
      (fun j q hq => by have := h3 (j + 1) q (by simpa using hq); omega)
    refine ⟨cs', ?_, by rw [r2]; simp⟩
    obtain ⟨i, v⟩ := p
    simp only at e1 e2 r1 ⊢
    subst e1
    simp only [Instr.fill]
    rw [if_neg (by simp [e2]; rw [hs, h1]; omega)]
    rw [← r1]
    congr 1
    have := foldl_cspl v.cells.toList 0 (i * size) cs
    simp only [Nat.add_zero] at this
    rw [h1, ← this, ← Array.foldl_toList, Array.toList_zipIdx]
end
end Go.AM
end
section
/-! ## 12 -/
namespace Go.AM
open Go

def dcells : V → Option (List D)
  | .agg l => toDs l
  | .dagg l => some l
  | .junk => none
  | .tup _ => none
  | .opt _ _ => none
  | v => match toD v with | some x => some [x] | none => none

/-- The rows of a literal whose parts come one behind the other. -/
def collect (sz : Nat) : Nat → List (Nat × V) → Option (List (List D))
  | _, [] => some []
  | m, (i, v) :: r => if i = m then match dcells v with
      | some ds => if ds.length = sz then match collect sz (m + 1) r with
        | some rows => some (ds :: rows)
        | none => none
        else none
      | none => none
    else none

def PEncs (k : K) (w : World) : List (Nat × V) → List (Nat × Value) → Prop
  | [], [] => True
  | p :: ps, q :: qs => (p.1 = q.1 ∧ VEnc k w p.2 q.2) ∧ PEncs k w ps qs
  | _, _ => False

section
variable {P : Program} {T : List (Nat × TI)} {k k' : K} {w w' : World} {st : AS} {a : Act} {ms : List Nat} {ro : Option Nat} {h : List (Nat × Ob)} {S : Nat → Prop}

theorem dcells_sound {v : V} {x : Value} (h : VEnc k w v x) {l : List D} (hl : dcells v = some l) : DEncs k.S w l x.cells.toList ∧ ∀ c ∈ x.cells, c.oneCell' = true := by
  have one : ∀ {v : V} {y : D} , toD v = some y → VEnc k w v x → DEncs k.S w [y] x.cells.toList ∧ ∀ c ∈ x.cells, c.oneCell' = true := by
    intro v y hy hv
    have h1 := toD_sound v x hv y hy
    have h2 := DEnc.one1 h1
    have : x.cells = #[x] := by cases x <;> first | rfl | cases h2
    rw [this]; exact ⟨⟨h1, trivial⟩, by simpa using h2⟩
  cases v with
  | junk => cases hl
  | tup _ => cases hl
  | opt _ _ => cases hl
  | agg l' => obtain ⟨cs, rfl, h1, h2⟩ := h; exact ⟨toDs_sound l' _ h1 l hl, h2⟩
  | dagg l' => cases hl; obtain ⟨cs, rfl, h1⟩ := h; exact ⟨h1, fun c hc => DEncs.ones h1 c (by simpa [Value.cells] using hc)⟩
  | _ =>
    simp only [dcells] at hl
    split at hl
    · rename_i y hy; cases hl; exact one hy h
    · cases hl

theorem collect_sound (sz : Nat) : ∀ (parts : List (Nat × V)) (vs : List (Nat × Value)) (m : Nat) (rows : List (List D)), collect sz m parts = some rows →
    PEncs k w parts vs →
    rows.length = parts.length ∧ vs.length = parts.length ∧ (∀ r ∈ rows, r.length = sz) ∧ (∀ j q, vs[j]? = some q → q.1 = m + j ∧ q.2.cells.size = sz ∧ ∀ c ∈ q.2.cells, c.oneCell' = true) ∧ DEncs k.S w rows.flatten (vs.map fun p => p.2.cells.toList).flatten
  | [], vs, m, rows, hc, hf => by
    cases vs with
    | cons _ _ => exact hf.elim
    | nil =>
    simp only [collect, Option.some.injEq] at hc; subst hc
    exact ⟨rfl, rfl, by simp, by simp, trivial⟩
  | (i, v) :: r, vs, m, rows, hc, hf => by
    cases vs with
    | nil => exact hf.elim
    | cons q qs =>
      obtain ⟨h1, h2⟩ := hf
      simp only [collect] at hc
      split at hc
      · rename_i hi
        split at hc
        · rename_i ds hds
          split at hc
          · rename_i hlen
            split at hc
            · rename_i rs hrs
              cases hc
              obtain ⟨a1, a2, a3, a4, a5⟩ := collect_sound sz r qs (m + 1) rs hrs h2
              obtain ⟨e1, e2⟩ := dcells_sound h1.2 hds
              have e3 := DEncs.length e1
              refine ⟨by simp [a1], by simp [a2], ?_, ?_, ?_⟩
              · intro x hx; rcases List.mem_cons.1 hx with e | e
                · subst e; exact hlen
                · exact a3 x e
              · intro j p hp
                cases j with
                | zero => simp at hp; subst hp; exact ⟨h1.1.symm.trans hi, by simp at e3; omega, e2⟩
                | succ j => have := a4 j p (by simpa using hp); exact ⟨by omega, this.2⟩
              · simp only [List.flatten_cons, List.map_cons]; exact e1.append a5
            · cases hc
          · cases hc
        · cases hc
      · cases hc

/-- A literal of a list: new memory. -/
theorem run_buildSlice (hT : TOK P T) {t : Nat} {i : TI} {e : TypeId} {j : TI} (hi : lkp t T = some i) (hd : i.desc = .slice e) (hj : lkp e T = some j) {len : Nat} {vs : Array (Nat × Value)}
    {parts : List (Nat × V)} {rows : List (List D)} (hc : collect j.size 0 parts = some rows) (hf : PEncs k w parts vs.toList) (hlen : parts.length = len)
    (hz : j.zero.cells.size = j.size) (hb : len * j.size ≤ 2 ^ 24) :
    ∃ cs : Array Value, (Instr.buildSlice t len vs).run P w = .ok (.slice (some ⟨w.heap.size, 0, none⟩) len len) (w.alloc (.cells cs e)) ∧ rows.length = len ∧ (∀ r ∈ rows, r.length = j.size) ∧ DEncs k.S w rows.flatten cs.toList ∧ cs.size = len * j.size := by
  obtain ⟨a1, a2, a3, a4, a5⟩ := collect_sound j.size parts vs.toList 0 rows hc hf
  have hu := run_under hT hi w
  rw [hd] at hu
  generalize hzz : (if len * j.size = 0 then #[] else j.zero.cells : Array Value) = z
  obtain ⟨cs, r1, r2⟩ := fill_rows j.size vs.toList 0 [] ((Array.range (len * j.size)).map (z[· % z.size]!)).toList ((Array.range (len * j.size)).map (z[· % z.size]!)) (by simp) (by simp) (by simp only [Array.length_toList, Array.size_map, Array.size_range] at a2 ⊢; rw [a2, hlen])
    (fun j' q hq => ⟨(a4 j' q hq).1, (a4 j' q hq).2.1⟩)
  simp only [List.nil_append] at r2
  refine ⟨cs, ?_, a1.trans hlen, a3, by rw [r2]; exact a5, ?_⟩
  · simp only [Instr.buildSlice]
    rw [run_bind_ok hu]
    simp only
    rw [run_bind_ok (run_sizeOf hT hj w)]
    rw [if_neg (by omega)]
    have hzr : ((if len * j.size = 0 then pure #[] else do pure (← zeroValue e).cells : Sem (Array Value))).run P w = .ok z w := by
      rw [← hzz]
      split
      · rfl
      · rw [run_bind_ok (run_zeroValue hT hj w)]; rfl
    have : ∀ f : Array Value → Sem Value, (do let zero ← (if len * j.size = 0 then pure #[] else do pure (← zeroValue e).cells : Sem (Array Value)); f zero).run P w = (f z).run P w := fun f => run_bind_ok hzr
    first
      | (rw [this]; rw [r1]; simp [newRow, Sem.run_bind])
      | (split
         · rename_i h0
           rw [if_pos h0] at hzz; subst hzz
           simp only [pure_bind]; rw [r1]; simp [newRow, Sem.run_bind]
         · rename_i h0
           rw [if_neg h0] at hzz; subst hzz
           rw [run_bind_ok (run_zeroValue hT hj w)]
           simp only [pure_bind]; rw [r1]; simp [newRow, Sem.run_bind])
  · rw [← Array.length_toList, r2]
    have := DEncs.length a5
    rw [this, flatten_length a3, a1, hlen]
end
end Go.AM
end
section
/-! ## 13 -/
namespace Go.AM
open Go

/-- What is appended. -/
def xrows (h : List (Nat × Ob)) (size : Nat) : V → Option (List (List D))
  | .d (.sl sz rows) => if sz = size then some rows else none
  | .d (.val (.slice none 0 0)) => some []
  | .own id sz lo n => match lkp id h with
    | some (.arr sz' rows) => if sz = size ∧ sz' = size then some ((rows.drop lo).take n) else none
    | _ => none
  | .d (.val (.string s)) => if size = 1 then some (s.data.toList.map fun b => [.val (.int .u8 b.toNat)]) else none
  | _ => none

def xcond (h : List (Nat × Ob)) : V → Prop
  | .own id _ lo n => match lkp id h with
    | some (.arr _ rows) => lo + n ≤ rows.length
    | _ => True
  | _ => True

section
variable {P : Program} {T : List (Nat × TI)} {k k' : K} {w w' : World} {st : AS} {a : Act} {ms : List Nat} {ro : Option Nat} {h : List (Nat × Ob)} {S : Nat → Prop}

/-- What append knows of its second operand. -/
structure Src (P : Program) (k : K) (w : World) (size : Nat) (x : Value) (rows : List (List D)) (news : List Value) : Prop where
  len : Builtin.lenOf x = pure rows.length
  get : ∀ w1 : World, w1.heap = w.heap → (Builtin.firstCells size rows.length x).run P w1 = .ok news.toArray w1
  enc : DEncs k.S w rows.flatten news
  uni : ∀ r ∈ rows, r.length = size

theorem Src.length {size : Nat} {x : Value} {rows : List (List D)} {news : List Value} (s : Src P k w size x rows news) : news.length = rows.length * size := by
  rw [DEncs.length s.enc, flatten_length s.uni]

theorem src_at {size : Nat} {rows : List (List D)} {b o : Nat} {n cap : Nat} (hn : n = rows.length) (hu : ∀ r ∈ rows, r.length = size) (hr : RowsAt k.S w rows b o) :
    ∃ news, Src P k w size (.slice (some ⟨b, o, none⟩) n cap) rows news := by
  obtain ⟨cs, h1, h2, h3⟩ := (RowsAt.flat.1 hr).range
  subst hn
  refine ⟨cs, rfl, fun w1 hw => ?_, h3, hu⟩
  exact run_firstCells_some w1 size rows.length ⟨b, o, none⟩ rows.length cap cs (by rw [h1, flatten_length hu]) (fun j v hv => by
    rw [Addr.add_mid]; have := h2 j v hv; simp only [World.cell?, hw] at this ⊢; exact this)

set_option linter.unusedSectionVars false
variable [Env]
theorem src_of (hH : SimH k w h) {size : Nat} {v : V} {x : Value} (hv : VEnc k w v x) {rows : List (List D)} (hx : xrows h size v = some rows) (hc : xcond h v) : ∃ news, Src P k w size x rows news := by
  unfold xrows at hx
  split at hx
  · rename_i sz rows'
    split at hx
    · rename_i e; cases hx; subst e
      obtain ⟨ad, cap, rfl, h1, h2, h3, h4, h5⟩ := hv
      rcases h5 with h5 | ⟨b, o, rfl, hb, hr⟩
      · subst h5
        refine ⟨[], rfl, fun w1 _ => ?_, trivial, by simp⟩
        cases ad with
        | none => rfl
        | some b => simp [Builtin.firstCells, loadCells, loadCellsFrom]
      · exact src_at rfl h4 hr
    · cases hx
  · cases hx
    cases venc_val hv
    exact ⟨[], rfl, fun w1 _ => rfl, trivial, by simp⟩
  · rename_i id sz lo n
    split at hx
    · rename_i sz' rows' ho
      split at hx
      · rename_i e
        obtain ⟨e1, e2⟩ := e
        cases hx
        simp only [xcond, ho] at hc
        obtain ⟨o1, o2, o3⟩ := hH.sat id _ ho
        rcases hv with ⟨hb, rfl, rfl, rfl⟩ | ⟨b, o, cap, cs, ty, fz, hb, rfl, h2, h3, h4, h5, h6, h7⟩
        · exact ⟨[], rfl, fun w1 _ => rfl, trivial, by simp⟩
        · rcases o1 with ⟨o1, _⟩ | ⟨b', cs', ty', p1, p2, p3, p4, p5⟩
          · rw [hb] at o1; cases o1
          · rw [hb] at p1; cases p1
            rw [e2] at o2
            have hl : n = ((rows'.drop lo).take n).length := by simp only [List.length_take, List.length_drop]; omega
            by_cases hn : n = 0
            · subst hn
              refine ⟨[], by simp [Builtin.lenOf], fun w1 _ => ?_, by simp only [List.take_zero]; trivial, by simp⟩
              simp [Builtin.firstCells, loadCells, loadCellsFrom]
            · have ho2 : o = lo * sz := h6 (by omega)
              have := (p4.dropR o2 lo).takeR n
              rw [Nat.zero_add, ← e1, ← ho2] at this
              exact src_at hl (fun r hr => o2 r (List.mem_of_mem_drop (List.mem_of_mem_take hr))) this
      · cases hx
    · cases hx
  · rename_i s
    split at hx
    · rename_i e; cases hx
      cases venc_val hv
      refine ⟨s.data.toList.map fun b => Value.int .u8 b.toNat, ?_, fun w1 _ => ?_, ?_, ?_⟩
      · simp [Builtin.lenOf]
      · simp only [Builtin.firstCells, List.length_map, Array.length_toList, ByteArray.size_data]
        rw [ByteArray.extract_zero_size]
        simp only [Sem.run_pure, Result.ok.injEq, and_true]
        apply Array.ext'; simp
      · have key : ∀ l : List UInt8, DEncs k.S w (l.map fun b => [D.val (.int .u8 b.toNat)]).flatten (l.map fun b => Value.int .u8 b.toNat) := by
          intro l
          induction l with
          | nil => trivial
          | cons b r ih => exact ⟨⟨rfl, rfl⟩, ih⟩
        exact key _
      · intro r hr; simp at hr; obtain ⟨b, _, rfl⟩ := hr; simp [e]
    · cases hx
  · cases hx

theorem run_append_room1 {t t2 e ty : TypeId} {i : TypeInfo} {d2 : TypeDesc} (hu : P.underlying t = some (.slice e)) (hi : P.info? e = some i) (hu2 : P.underlying t2 = some d2) (hd2 : ∀ kk, d2 ≠ .int kk)
    {base : Option Addr} {n cap : Nat} {x : Value} {rows : List (List D)} {news : List Value} (hs : Src P k w i.size x rows news) (hroom : n + rows.length ≤ cap)
    {w' : World} (hst : ∀ ad, base = some ad → (storeCells (ad.add (n * i.size)) news).run P w = .ok () w') (hno : base = none → w' = w) :
    (Builtin.append_ #[t, t2] ty #[.slice base n cap, x]).run P w = .ok (.slice base (n + rows.length) cap) w' := by
  have hz : ((fun d : TypeDesc => d matches .int _) d2) = false := by cases d2 <;> first | rfl | exact absurd rfl (hd2 _)
  have hf := hs.get w rfl
  cases base with
  | none =>
    have := hno rfl; subst this
    simp [Builtin.append_, run_underlying hu, run_underlying hu2, sizeOf, typeInfo, hi, hs.len, hroom, hf, hz]
  | some ad =>
    have h1 := hst ad rfl
    simp [Builtin.append_, run_underlying hu, run_underlying hu2, sizeOf, typeInfo, hi, hs.len, hroom, hf, hz, h1]

theorem run_append_grow1 (hT : TOK P T) {t t2 e ty : TypeId} {j : TI} {d2 : TypeDesc} (hu : P.underlying t = some (.slice e)) (hj : lkp e T = some j) (hu2 : P.underlying t2 = some d2) (hd2 : ∀ kk, d2 ≠ .int kk)
    {base : Option Addr} {n cap : Nat} {x : Value} {rows : List (List D)} {news olds : List Value} (hs : Src P k w j.size x rows news) (hg : cap < n + rows.length)
    (ho : ∀ w1 : World, w1.heap = w.heap → (Builtin.firstCells j.size n (.slice base n cap)).run P w1 = .ok olds.toArray w1) (hfit : (n + rows.length) * j.bytes ≤ 140737488355328) (hbig : n + rows.length ≤ LMAX) :
    ∃ c, n + rows.length ≤ c ∧ c < 2 ^ 63 ∧ (Builtin.append_ #[t, t2] ty #[.slice base n cap, x]).run P w =
      .ok (.slice (some ⟨w.heap.size, 0, none⟩) (n + rows.length) c) (w.drew.alloc (.cells (olds.toArray ++ news.toArray ++ Builtin.zeroCells j.zero.cells (c - (n + rows.length))) e)) := by
  obtain ⟨i, hi, hsz, hby, hz⟩ := hT.info hj
  unfold LMAX at hbig
  have hzz : ((fun d : TypeDesc => d matches .int _) d2) = false := by cases d2 <;> first | rfl | exact absurd rfl (hd2 _)
  have hn : ¬ (n + rows.length ≤ cap) := by omega
  have h63' : ¬ (9223372036854775807 < ((n : Int) + (rows.length : Int))) := by omega
  have h48' : ¬ (281474976710656 < Builtin.nextslicecap (n + rows.length) cap * i.bytes) := by
    have := growslice_fits (bytes := i.bytes) hg (by rw [hby]; exact hfit); omega
  have hf := hs.get w.drew rfl
  have hfo := ho w.drew rfl
  rw [← hsz] at hf hfo
  refine ⟨grownCap w (n + rows.length) cap e, grownCap_ge _ _ _ _, ?_, ?_⟩
  · have hlt := Nat.mod_lt (w.tape w.drawn (.appendCap (n + rows.length) cap e)) (show 0 < 2 ^ 63 - (n + rows.length) by omega)
    simp only [grownCap, Question.cut]; omega
  · simp [Builtin.append_, run_underlying hu, run_underlying hu2, sizeOf, typeInfo, zeroValue, hi, hz, hs.len, hn, h63', h48', Question.forced, hf, hfo, newRow, grownCap, hzz]
    congr 2
    apply Array.ext'
    simp [List.append_assoc]

/-- An object that has no memory yet. -/
def K.virt (k : K) (d : Nat) : K := { S := k.S, β := fun i => if i = d then some none else k.β i, X := k.X }

theorem SimH.virt (s : SimH k w h) {d : Nat} (hd : lkp d h = none) (sz : Nat) : Keeps k w (k.virt d) w ∧ SimH (k.virt d) w ((d, .arr sz []) :: h) := by
  have hb : k.β d = none := by
    have := s.dom d
    rw [hd] at this
    cases hq : k.β d with
    | none => rfl
    | some l => rw [hq] at this; cases this
  have m : Keeps k w (k.virt d) w := ⟨.refl w, fun _ _ => rfl, fun _ h => h, fun i l hi => by
    simp only [K.virt]; split
    · rename_i e; subst e; rw [hb] at hi; cases hi
    · exact hi⟩
  have hX : ∀ b, ¬ k.X d b := fun b hb => by
    have := s.domX d b hb
    rw [s.dom d, hd] at this; cases this
  refine ⟨m, s.inj, s.lt, s.dis, s.slt, fun i b h1 => ?_, fun i => ?_, fun i b h1 => ?_, fun i o ho => ?_, s.env⟩
  · simp only [K.virt] at h1; split at h1
    · cases h1
    · exact s.prim i b h1
  · simp only [K.virt, lkp]
    by_cases e : i = d
    · subst e; simp
    · rw [if_neg e, if_neg (fun h => e h.symm)]; exact s.dom i
  · simp only [K.virt]; split
    · rfl
    · exact s.domX i b h1
  · simp only [lkp] at ho
    split at ho
    · rename_i e; subst e; cases ho
      exact ⟨.inl ⟨by simp [K.virt], rfl, hX⟩, by simp, by simp⟩
    · exact obSat_mono m (fun _ => Iff.rfl) (fun _ _ => rfl) (s.prim i) (s.sat i o ho)

theorem Ext.virt (k : K) (w : World) (d : Nat) (hA : d < ARG) : Ext k w (k.virt d) w := ⟨.refl w, fun _ _ _ => rfl, fun _ h => h, fun _ h => .inl h, fun i _ h => .inl ⟨i, h⟩, fun i l hi h => by
    simp only [K.virt] at h; split at h
    · omega
    · exact h⟩

theorem Grows.drew (w : World) : Grows w w.drew := .of ⟨Nat.le_refl _, fun _ cs _ _ h => ⟨cs, h, rfl⟩⟩

/-- What append comes to, where the old list is known. -/
theorem sim_append1 (hT : TOK P T) (s : Sim ro k w st a ms) {t t2 e ty : TypeId} {j : TI} {d2 : TypeDesc} (hu : P.underlying t = some (.slice e)) (hj : lkp e T = some j) (hu2 : P.underlying t2 = some d2) (hd2 : ∀ kk, d2 ≠ .int kk)
    {d : Nat} (hd : lkp d st.h = none) (hn : d < st.n) {x : Value} {rows0 rows : List (List D)} {news : List Value} (hs : Src P k w j.size x rows news) (h1 : ∀ c ∈ news, c.oneCell' = true)
    (hfit : (rows0.length + rows.length) * j.bytes ≤ 140737488355328) (hbig : rows0.length + rows.length ≤ LMAX) {base : Option Addr} {cap : Nat} (hu0 : ∀ r ∈ rows0, r.length = j.size)
    (hbase : (base = none ∧ cap = 0 ∧ rows0 = []) ∨ ∃ b o cs ty', base = some ⟨b, o, none⟩ ∧ w.heap[b]? = some (Obj.cells cs ty' (0, 0)) ∧ (0 < cap → o = 0) ∧ rows0.length ≤ cap ∧ cap < 2 ^ 63 ∧ cap * j.size ≤ cs.size ∧ (∀ c ∈ cs, c.oneCell' = true) ∧ RowsAt k.S w rows0 b 0 ∧ (∀ i, ¬ k.X i b) ∧ ¬ k.S b) :
    ∃ v w' k', (Builtin.append_ #[t, t2] ty #[.slice base rows0.length cap, x]).run P w = .ok v w' ∧
      Sim ro k' w' { n := st.n, t := (d, .own d j.size 0 (rows0.length + rows.length)) :: st.t, h := (d, .arr j.size (rows0 ++ rows)) :: st.h } (a.put (some d) v) ms ∧ Grows w w' ∧ (∀ b, k'.S b ↔ k.S b) ∧ (∀ i b, k'.X i b → k.X i b ∨ w.heap.size ≤ b ∨ ∃ o, base = some ⟨b, o, none⟩) ∧ (∀ b, b < w.heap.size → (∀ o, base ≠ some ⟨b, o, none⟩) → w'.heap[b]? = w.heap[b]?) ∧ (∀ i l, k.β i = some l → k'.β i = some l) ∧ (∀ i l, ARG ≤ i → k'.β i = some l → k.β i = some l) := by
  obtain ⟨ji, hi, hsz, hby, hz⟩ := hT.info hj
  obtain ⟨z1, z2⟩ := hT.ones hj
  have huni : ∀ r ∈ rows0 ++ rows, r.length = j.size := fun r hr => (List.mem_append.1 hr).elim (hu0 r) (hs.uni r)
  have hlen := hs.length
  have grow : ∀ (olds : List Value), cap < rows0.length + rows.length → DEncs k.S w rows0.flatten olds → (∀ c ∈ olds, c.oneCell' = true) →
      (∀ w1 : World, w1.heap = w.heap → (Builtin.firstCells j.size rows0.length (.slice base rows0.length cap)).run P w1 = .ok olds.toArray w1) →
      ∃ v w' k', (Builtin.append_ #[t, t2] ty #[.slice base rows0.length cap, x]).run P w = .ok v w' ∧
      Sim ro k' w' { n := st.n, t := (d, .own d j.size 0 (rows0.length + rows.length)) :: st.t, h := (d, .arr j.size (rows0 ++ rows)) :: st.h } (a.put (some d) v) ms ∧ Grows w w' ∧ (∀ b, k'.S b ↔ k.S b) ∧ (∀ i b, k'.X i b → k.X i b ∨ w.heap.size ≤ b ∨ ∃ o, base = some ⟨b, o, none⟩) ∧ (∀ b, b < w.heap.size → (∀ o, base ≠ some ⟨b, o, none⟩) → w'.heap[b]? = w.heap[b]?) ∧ (∀ i l, k.β i = some l → k'.β i = some l) ∧ (∀ i l, ARG ≤ i → k'.β i = some l → k.β i = some l) := by
    intro olds hg holds ho1 hof
    obtain ⟨c, c1, c2, hrun⟩ := run_append_grow1 (ty := ty) hT hu hj hu2 hd2 hs hg hof hfit hbig
    generalize hcs : (olds.toArray ++ news.toArray ++ Builtin.zeroCells j.zero.cells (c - (rows0.length + rows.length)) : Array Value) = cs at hrun
    have hol := DEncs.length holds
    rw [flatten_length hu0] at hol
    have hcsz : cs.size = c * j.size := by
      rw [← hcs]; simp only [Array.size_append, List.size_toArray, size_zeroCells, hol, hlen, z2]
      rw [← Nat.add_mul, ← Nat.add_mul]; congr 1; omega
    have hones : ∀ c ∈ cs, c.oneCell' = true := by
      intro c' hc'
      rw [← hcs] at hc'
      simp only [Array.mem_append, List.mem_toArray] at hc'
      rcases hc' with (h | h) | h
      · exact ho1 c' h
      · exact h1 c' h
      · simp only [Builtin.zeroCells, Array.mem_map, Array.mem_range] at h
        obtain ⟨q, hq, rfl⟩ := h
        have hq2 : 0 < j.zero.cells.size := by
          rcases Nat.eq_zero_or_pos j.zero.cells.size with h0 | h0
          · rw [h0] at hq; simp at hq
          · exact h0
        have hm := Nat.mod_lt q hq2
        rw [getElem!_pos j.zero.cells _ hm]
        exact z1 _ (Array.getElem_mem hm)
    have hgr : Grows w (w.drew.alloc (.cells cs e)) := (Grows.drew w).trans (Grows.alloc _ _)
    have hhs : w.drew.heap.size = w.heap.size := rfl
    obtain ⟨m, hH⟩ := s.H.add (w' := w.drew.alloc (.cells cs e)) (d := d) (b := w.heap.size) hd (fun i hx => by have := s.H.lt i _ hx; omega) (fun hs' => by have := s.H.slt _ hs'; omega) (by rw [size_alloc]; omega) hgr
      (fun b' hb' _ => heap_alloc w.drew _ b' hb') (ob := .arr j.size (rows0 ++ rows)) (fun m => by
        refine ⟨.inr ⟨w.heap.size, cs, e, by simp [K.new], heap_new w.drew _, hones, ?_, fun b' hb' => by simpa [K.new] using hb'⟩, huni, by rw [List.length_append]; exact hbig⟩
        rw [RowsAt.flat, List.flatten_append]
        refine CellsAt.of_encs (vs := olds ++ news) ((DEncs.mono m.same m.sub _ _ holds).append (DEncs.mono m.same m.sub _ _ hs.enc)) (rangeAt_of_block (heap_new w.drew _) fun q u hq => ?_)
        rw [Nat.zero_add, ← Array.getElem?_toList, ← hcs]
        simp only [Array.toList_append, List.toList_toArray]
        rw [List.getElem?_append_left (List.getElem?_eq_some_iff.1 hq).1]
        exact hq)
    have e1 : Ext k w (k.new d w.heap.size) (w.drew.alloc (.cells cs e)) :=
      ⟨hgr, fun b hb _ => heap_alloc w.drew _ b hb, fun _ h => h, fun _ h => .inl h, fun i b h => by
        simp only [K.new] at h; split at h
        · exact .inr (by omega)
        · exact .inl ⟨i, h⟩, fun i l hi h => by
        have := s.T.arg
        simp only [K.new] at h; split at h
        · omega
        · exact h⟩
    have s1 := s.of_ext hH m e1
    refine ⟨_, _, _, hrun, ⟨s1.H, SimT.put (st := { st with h := (d, .arr j.size (rows0 ++ rows)) :: st.h }) s1.T hn ?_, s1.M.put _ _⟩, hgr, fun _ => Iff.rfl, ?_, fun b hb _ => heap_alloc w.drew _ b hb, m.beta, e1.old⟩
    · exact .inr ⟨w.heap.size, 0, c, cs, e, (0, 0), by simp [K.new], rfl, c1, c2, hbig, heap_new w.drew _, fun _ => by omega, by rw [Nat.zero_add, hcsz]; exact Nat.le_refl _⟩
    · intro i b h
      simp only [K.new] at h; split at h
      · exact .inr (.inl (by omega))
      · exact .inl h
  rcases hbase with ⟨rfl, rfl, rfl⟩ | ⟨b, o, cs, ty', rfl, b1, b2, b3, b4, b5, b6, b7, b8, b9⟩
  · by_cases hr : rows = []
    · subst hr
      obtain ⟨m, hH⟩ := s.H.virt hd j.size
      have hrun := run_append_room1 (ty := ty) (base := none) (n := 0) (cap := 0) (w' := w) hu hi hu2 hd2 (by rw [hsz]; exact hs) (by simp) (fun _ h => by cases h) (fun _ => rfl)
      have s1 := s.of_ext hH m (Ext.virt k w d (Nat.lt_of_lt_of_le hn s.T.arg))
      refine ⟨_, w, k.virt d, hrun, ⟨s1.H, SimT.put (st := { st with h := (d, .arr j.size []) :: st.h }) s1.T hn (.inl ⟨by simp [K.virt], rfl, rfl, rfl⟩), s1.M.put _ _⟩, .refl w, fun _ => Iff.rfl, fun i b h => .inl h, fun _ _ _ => rfl, m.beta, (Ext.virt k w d (Nat.lt_of_lt_of_le hn s.T.arg)).old⟩
    · exact grow [] (by have := List.length_pos_iff.2 hr; simpa using this) trivial (by simp) (fun w1 _ => by simp [Builtin.firstCells])
  · obtain ⟨olds, r1, r2, r3⟩ := (RowsAt.flat.1 b7).range
    rw [flatten_length hu0] at r1
    have hole : ∀ (j' : Nat) (u : Value), olds[j']? = some u → cs[j']? = some u := fun j' u hj' => by
      have := r2 j' u hj'
      rw [cell_of_cells b1, Nat.zero_add] at this; exact this
    have hoones : ∀ c ∈ olds, c.oneCell' = true := DEncs.ones r3
    by_cases hg : rows0.length + rows.length ≤ cap
    · -- there is room
      have hnl : news.length = rows.length * j.size := hlen
      have hoff : o + rows0.length * j.size + news.length ≤ cs.size ∨ news = [] := by
        by_cases hz : cap = 0
        · right; apply List.eq_nil_of_length_eq_zero; rw [hnl, show rows.length = 0 from by omega, Nat.zero_mul]
        · left; rw [b2 (by omega), hnl, Nat.zero_add, ← Nat.add_mul]; exact Nat.le_trans (Nat.mul_le_mul_right _ hg) b5
      have hst : (storeCells ((⟨b, o, none⟩ : Addr).add (rows0.length * ji.size)) news).run P w = .ok () (w.setCells b (o + rows0.length * j.size) news) := by
        rw [Addr.add_mid, hsz]
        rcases hoff with hoff | rfl
        · exact run_storeCells_cells (P := P) b _ news 0 w (fun q hq => by
            rw [cell_of_cells b1]; simp; omega) (fun q hq => by simp [World.frozen?, b1]) h1
        · rfl
      have hrun := run_append_room1 (ty := ty) (base := some ⟨b, o, none⟩) (n := rows0.length) (cap := cap) hu hi hu2 hd2 (by rw [hsz]; exact hs) hg (fun ad h => by cases h; exact hst) (fun h => by cases h)
      obtain ⟨a1, a2, a3⟩ := heap_setCells b ty' (0, 0) news (o + rows0.length * j.size) w cs b1
      generalize hcs' : cspl cs (o + rows0.length * j.size) news = cs' at a1
      have hsz' : cs'.size = cs.size := by rw [← hcs']; exact cspl_size _ _ _
      have hgr : Grows w (w.setCells b (o + rows0.length * j.size) news) := .of ⟨by omega, fun b' cs0 ty0 fz0 h0 => by
        by_cases e : b' = b
        · subst e; rw [b1] at h0; cases h0; exact ⟨cs', a1, hsz'⟩
        · exact ⟨cs0, by rw [a3 b' e]; exact h0, rfl⟩⟩ (os_setCells' _ _ _ _) (output_setCells' _ _ _ _)
      have hcl : ∀ (q : Nat) (u : Value), (olds ++ news)[q]? = some u → cs'[q]? = some u := by
        intro q u hq
        rcases hoff with hoff | hnil
        · by_cases hz : cap = 0
          · have hn0 : news = [] := List.eq_nil_of_length_eq_zero (by rw [hnl, show rows.length = 0 from by omega, Nat.zero_mul])
            subst hn0
            rw [← hcs']; simp only [cspl]
            rw [List.append_nil] at hq
            exact hole q u hq
          · have ho0 := b2 (by omega)
            subst ho0
            have hoz : olds.length + news.length ≤ cs.toList.length := by have h9 := Array.length_toList (xs := cs); omega
            have htk : cs.toList.take (rows0.length * j.size) = olds := by
              apply List.ext_getElem?
              intro q'
              rw [List.getElem?_take]
              split
              · rename_i hlt
                have hlt' : q' < olds.length := by omega
                have := hole q' olds[q'] (List.getElem?_eq_getElem hlt')
                rw [Array.getElem?_toList, this, List.getElem?_eq_getElem hlt']
              · rw [List.getElem?_eq_none]; omega
            have hc := cspl_toList news olds ((cs.toList.drop olds.length).take news.length) ((cs.toList.drop olds.length).drop news.length) cs (by rw [List.append_assoc, List.take_append_drop, show olds ++ cs.toList.drop olds.length = cs.toList.take (rows0.length * j.size) ++ cs.toList.drop olds.length from by rw [htk], ← r1, List.take_append_drop])
              (by rw [List.length_take, List.length_drop]; omega)
            rw [r1] at hc
            rw [Nat.zero_add] at hcs'
            rw [← Array.getElem?_toList, ← hcs', hc]
            rw [List.getElem?_append_left (List.getElem?_eq_some_iff.1 hq).1]; exact hq
        · subst hnil
          rw [← hcs']; simp only [cspl]
          rw [List.append_nil] at hq
          exact hole q u hq
      obtain ⟨m, hH⟩ := s.H.add (w' := w.setCells b (o + rows0.length * j.size) news) (d := d) (b := b) hd b8 b9 (by have := (Array.getElem?_eq_some_iff.1 b1).1; omega) hgr (fun b' _ hne => a3 b' hne) (ob := .arr j.size (rows0 ++ rows)) (fun m => by
        refine ⟨.inr ⟨b, cs', ty', by simp [K.new], a1, ?_, ?_, fun b' hb' => by simpa [K.new] using hb'⟩, huni, by rw [List.length_append]; exact hbig⟩
        · rw [← hcs']; exact cspl_ones _ _ _ b6 h1
        · rw [RowsAt.flat, List.flatten_append]
          exact CellsAt.of_encs (vs := olds ++ news) ((DEncs.mono m.same m.sub _ _ r3).append (DEncs.mono m.same m.sub _ _ hs.enc)) (rangeAt_of_block a1 fun q u hq => by rw [Nat.zero_add]; exact hcl q u hq))
      have mk : Mk ro k w a ms := s.M
      have s1 : Sim ro (k.new d b) (w.setCells b (o + rows0.length * j.size) news) { st with h := (d, .arr j.size (rows0 ++ rows)) :: st.h } a ms := by
        refine ⟨hH, ⟨(s.T.mono m).size, s.T.arg, (s.T.mono m).tm⟩, mk.eq, mk.nodup, fun D hD => ?_, mk.noS, fun D hD i hx => ?_, fun l hl => ?_⟩
        · have : D ≠ b := fun e => by subst e; have := mk.heap D hD; rw [b1] at this; cases this
          rw [a3 D this]; exact mk.heap D hD
        · simp only [K.new] at hx; split at hx
          · subst hx; have := mk.heap D hD; rw [b1] at this; cases this
          · exact mk.noX D hD i hx
        · obtain ⟨⟨r, q1⟩, q2, q3⟩ := mk.rd l hl
          have hne : l ≠ b := fun e => by subst e; rw [b1] at q1; cases q1
          refine ⟨⟨r, by rw [a3 l hne]; exact q1⟩, q2, fun i hx => ?_⟩
          simp only [K.new] at hx; split at hx
          · exact hne hx
          · exact q3 i hx
      refine ⟨_, _, _, hrun, ⟨s1.H, SimT.put (st := { st with h := (d, .arr j.size (rows0 ++ rows)) :: st.h }) s1.T hn ?_, s1.M.put _ _⟩, hgr, fun _ => Iff.rfl, ?_, fun b' _ hne => a3 b' fun e => hne o (by rw [e]), m.beta, fun i l hi h => by
        have := s.T.arg
        simp only [K.new] at h; split at h
        · omega
        · exact h⟩
      · exact .inr ⟨b, o, cap, cs', ty', (0, 0), by simp [K.new], rfl, hg, b4, hbig, a1, fun h => by rw [b2 h, Nat.zero_mul], by rw [Nat.zero_add, hsz']; exact b5⟩
      · intro i b' h
        simp only [K.new] at h; split at h
        · exact .inr (.inr ⟨o, by rw [h]⟩)
        · exact .inl h
    · refine grow olds (by omega) r3 hoones fun w1 hw => ?_
      have := run_firstCells_some (P := P) w1 j.size rows0.length ⟨b, o, none⟩ rows0.length cap olds r1 (fun q u hq => by
        rw [Addr.add_mid]
        have hlt := (List.getElem?_eq_some_iff.1 hq).1
        have hc : 0 < cap := by
          rcases Nat.eq_zero_or_pos rows0.length with h0 | h0
          · rw [h0] at r1; omega
          · omega
        rw [b2 hc]
        have := r2 q u hq
        simp only [World.cell?, hw] at this ⊢; exact this)
      exact this
end
end Go.AM
end
section
/-! ## 13b -/
namespace Go.AM
open Go

/-- Parts laid into a row of cells. -/
def afill (place : Nat → Option (Nat × Nat)) (cells : List V) : List (Nat × V) → Option (List V)
  | [] => some cells
  | (i, v) :: r => match place i, vcells v with
    | some (off, size), some l => if l.length = size ∧ off + l.length ≤ cells.length then afill place (spl cells off l) r else none
    | _, _ => none

def aplace (T : List (Nat × TI)) (fs : Array Field) (i : Nat) : Option (Nat × Nat) :=
  match fs[i]? with
  | some f => match lkp f.type T with
    | some j => some (f.offset, j.size)
    | none => none
  | none => none

def abuild (T : List (Nat × TI)) (t : Nat) (parts : List (Nat × V)) : Res :=
  match lkp t T with
  | none => .no
  | some i => match i.desc with
    | .struct fs => match afill (aplace T fs) (i.zero.cells.toList.map fun v => .d (.val v)) parts with
      | some l => .ok (.agg l)
      | none => .no
    | .array _ e => match lkp e T with
      | some j => match afill (fun n => some (n * j.size, j.size)) (i.zero.cells.toList.map fun v => .d (.val v)) parts with
        | some l => .ok (.agg l)
        | none => .no
      | none => .no
    | _ => .no

/-- Are two rows of cells the same? Field by field. -/
def aeqFs (g : Nat → List D → List D → Option Bool) (T : List (Nat × TI)) (l m : List D) : List Field → Option Bool
  | [] => some true
  | f :: fs => if f.name = "_" then none else match lkp f.type T with
    | none => none
    | some j => match g f.type ((l.drop f.offset).take j.size) ((m.drop f.offset).take j.size), aeqFs g T l m fs with
      | some a, some b => some (a && b)
      | _, _ => none

def aeqF (T : List (Nat × TI)) : Nat → Nat → List D → List D → Option Bool
  | 0, _, _, _ => none
  | n + 1, t, l, m => match lkp t T with
    | none => none
    | some i => match i.desc with
      | .struct fs => if i.eq then aeqFs (aeqF T n) T l m fs.toList else none
      | .int _ => match l, m with
        | [.val (.int k a)], [.val (.int k' b)] => if k = k' then some (decide (a = b)) else none
        | _, _ => none
      | .bool => match l, m with
        | [.val (.bool a)], [.val (.bool b)] => some (a == b)
        | _, _ => none
      | .string => match l, m with
        | [.val (.string a)], [.val (.string b)] => some (decide (a = b))
        | _, _ => none
      | _ => none

def isAggV : V → Bool
  | .agg _ => true
  | .dagg _ => true
  | _ => false

def aeqS (T : List (Nat × TI)) (t : Nat) (x y : V) : Option Bool :=
  if isAggV x && isAggV y then match lkp t T with
    | some i => if i.eq && i.desc.isRow then match dcells x, dcells y with
      | some l, some m => aeqF T 20 t l m
      | _, _ => none
      else none
    | none => none
  else none

def Res.also (r : Res) (c : Prop) : Res :=
  match r with
  | .ok v => .okc c v
  | .okc c' v => .okc (c ∧ c') v
  | .no => .no

/-- A place of an array, or of a text. -/
def aindex2 (T : List (Nat × TI)) (t : Nat) (x ix : V) : Res :=
  match ix with
  | .d (.val (.int _ n)) => match lkp t T with
    | some i => match i.desc with
      | .array len e => match lkp e T with
        | some j => (apart T e x (n.toNat * j.size)).also (0 ≤ n ∧ n < len)
        | none => .no
      | _ => aindex T t x ix
    | none => .no
  | _ => .no

/-- Is an interface's value nil? -/
def anilI (T : List (Nat × TI)) (t : Nat) (x : V) (y : Operand) : Option Bool :=
  match y with
  | .const .nilIface => match lkp t T with
    | some i => match i.desc with
      | .interface _ => match x with
        | .d (.val .nilIface) => some true
        | .d (.val (.iface _ _)) => some false
        | _ => none
      | _ => none
    | none => none
  | _ => none

/-- What an operation yields that changes nothing. -/
def aval2 (T : List (Nat × TI)) (st : AS) (o : Op) : Res :=
  match o with
  | .build t parts => abuild T t (parts.toList.map fun p => (p.1, st.ev p.2))
  | .call { callee := .builtin .min, args, argTypes := _ } => aminmax false (args.toList.map st.ev)
  | .call { callee := .builtin .max, args, argTypes := _ } => aminmax true (args.toList.map st.ev)
  | .index t x ix => aindex2 T t (st.ev x) (st.ev ix)
  | .binOp .eql t x y _ => match aeqS T t (st.ev x) (st.ev y) with
    | some b => abool b
    | none => match anilI T t (st.ev x) y with
      | some b => abool b
      | none => aval T st o
  | .binOp .neq t x y _ => match aeqS T t (st.ev x) (st.ev y) with
    | some b => abool (!b)
    | none => match anilI T t (st.ev x) y with
      | some b => abool (!b)
      | none => aval T st o
  | o => aval T st o

set_option linter.unusedSectionVars false
variable [Env]
section
variable {P : Program} {T : List (Nat × TI)} {k : K} {w : World} {S : Nat → Prop}

theorem mapM_run {α β : Type} (f : α → Sem β) (w : World) : ∀ (l : List α) (l' : List β), l.length = l'.length → (∀ (i : Nat) (x : α) (y : β), l[i]? = some x → l'[i]? = some y → (f x).run P w = .ok y w) → (l.mapM f).run P w = .ok l' w
  | [], [], _, _ => rfl
  | x :: xs, y :: ys, hl, h => by
    rw [List.mapM_cons, run_bind_ok (h 0 x y rfl rfl), run_bind_ok (mapM_run f w xs ys (by simpa using hl) fun i x y h1 h2 => h (i + 1) x y (by simpa using h1) (by simpa using h2))]
    rfl
  | [], _ :: _, hl, _ => by simp at hl
  | _ :: _, [], hl, _ => by simp at hl

theorem afill_sound {place : Nat → Option (Nat × Nat)} {pl : Nat → Option (Nat × Nat)} (hp : ∀ i x, pl i = some x → place i = some x) : ∀ (parts : List (Nat × V)) (vs : List (Nat × Value)) (cells : List V) (cs : Array Value) (l : List V), afill pl cells parts = some l →
    PEncs k w parts vs → VEncs k w cells cs.toList → (∀ c ∈ cs, c.oneCell' = true) → ∃ cs', Instr.fill place cs vs = some cs' ∧ VEncs k w l cs'.toList ∧ ∀ c ∈ cs', c.oneCell' = true
  | [], [], cells, cs, l, e, _, h1, h2 => by cases e; exact ⟨cs, rfl, h1, h2⟩
  | (i, v) :: r, (i', x) :: rs, cells, cs, l, e, hv, h1, h2 => by
    simp only [afill] at e
    split at e
    · rename_i off size m hpl hm
      split at e
      · rename_i hle
        obtain ⟨⟨e1, e2⟩, e3⟩ := hv
        simp only at e1 e2
        subst e1
        obtain ⟨c1, c2⟩ := vcells_sound e2 hm
        have hlen := VEncs.length c1
        have hlen2 := VEncs.length h1
        simp only [Array.length_toList] at hlen hlen2
        simp only [Instr.fill, hp _ _ hpl]
        rw [if_neg (by simp only [Bool.or_eq_true, bne_iff_ne, ne_eq, decide_eq_true_eq, not_or]; omega)]
        have hf := foldl_cspl x.cells.toList 0 off cs
        rw [show (x.cells.zipIdx.foldl (fun cs (p : Value × Nat) => cs.setIfInBounds (off + p.2) p.1) cs) = cspl cs off x.cells.toList from by
          rw [← Array.foldl_toList, Array.toList_zipIdx]; simpa using hf]
        exact afill_sound hp r rs _ _ l e e3 (h1.spl off c1) (cspl_ones _ _ _ h2 fun c hc => c2 c (by simpa using hc))
      · cases e
    · cases e
  | [], _ :: _, _, _, _, _, h, _, _ => h.elim
  | _ :: _, [], _, _, _, _, h, _, _ => h.elim

theorem VEncs_vals (vs : List Value) (h : ∀ c ∈ vs, c.oneCell' = true) : VEncs k w (vs.map fun v => .d (.val v)) vs := by
  induction vs with
  | nil => trivial
  | cons v vs ih => exact ⟨⟨rfl, h v (by simp)⟩, ih fun c hc => h c (by simp [hc])⟩

theorem abuild_sound (hT : TOK P T) (t : Nat) (parts : List (Nat × V)) (vs : Array (Nat × Value)) (hv : PEncs k w parts vs.toList) :
    (abuild T t parts).holds fun v => ∃ u, (∀ w', (Instr.build t vs).run P w' = .ok u w') ∧ VEnc k w v u := by
  unfold abuild
  split
  · exact trivial
  · rename_i i hi
    obtain ⟨z1, z2⟩ := hT.ones hi
    have hz : VEncs k w (i.zero.cells.toList.map fun v => V.d (.val v)) i.zero.cells.toList := VEncs_vals _ fun c hc => z1 c (by simpa using hc)
    split
    · rename_i fs hd
      split
      · rename_i l hl
        have hinfo := hT.fields hi hd
        classical
        let sz : Field → Nat := fun f => if h : ∃ x, P.info? f.type = some x then (Classical.choose h).size else 0
        have hsz : ∀ f ∈ fs.toList, ∀ w', (sizeOf f.type).run P w' = .ok (sz f) w' := fun f hf w' => by
          obtain ⟨x, hx⟩ := hinfo f (by simpa using hf)
          have hh : ∃ x, P.info? f.type = some x := ⟨x, hx⟩
          have := Classical.choose_spec hh
          have e : sz f = (Classical.choose hh).size := dif_pos hh
          rw [e]
          generalize Classical.choose hh = y at this
          simp [sizeOf, typeInfo, Sem.run_bind, this]
        obtain ⟨cs', f1, f2, f3⟩ := afill_sound (k := k) (w := w) (place := fun n => (fs.toList.map fun f => (f.offset, sz f)).toArray[n]?) (pl := aplace T fs) (fun n x hx => by
          unfold aplace at hx
          split at hx
          · rename_i f hf
            split at hx
            · rename_i j hj
              cases hx
              have hs := hsz f (by simpa using Array.mem_of_getElem? hf) w
              rw [run_sizeOf hT hj w] at hs
              have e1 : j.size = sz f := by injection hs
              simp [← Array.getElem?_toList] at hf ⊢
              simp [hf, e1]
            · cases hx
          · cases hx) parts vs.toList _ i.zero.cells l hl hv hz z1
        refine ⟨.agg cs', fun w' => ?_, cs', rfl, f2, f3⟩
        simp only [Instr.build]
        rw [run_bind_ok (run_zeroValue hT hi w'), run_bind_ok (run_under hT hi w'), hd]
        simp only
        have hm : (fs.mapM fun f => (do pure (f.offset, ← sizeOf f.type) : Sem (Nat × Nat))).run P w' = .ok (fs.toList.map fun f => (f.offset, sz f)).toArray w' := by
          rw [Array.mapM_eq_mapM_toList]
          have := mapM_run (P := P) (fun f : Field => (do pure (f.offset, ← sizeOf f.type) : Sem (Nat × Nat))) w' fs.toList (fs.toList.map fun f => (f.offset, sz f)) (by simp) (fun n f y h1 h2 => by
            simp only [List.getElem?_map, h1, Option.map_some, Option.some.injEq] at h2
            subst h2
            rw [run_bind_ok (hsz f (List.mem_of_getElem? h1) w')]; rfl)
          rw [map_eq_pure_bind, run_bind_ok this]; rfl
        rw [run_bind_ok hm]
        simp only [f1]
        rfl
      · exact trivial
    · rename_i n e hd
      split
      · rename_i j hj
        split
        · rename_i l hl
          obtain ⟨cs', f1, f2, f3⟩ := afill_sound (k := k) (w := w) (place := fun n => some (n * j.size, j.size)) (pl := fun n => some (n * j.size, j.size)) (fun _ _ h => h) parts vs.toList _ i.zero.cells l hl hv hz z1
          refine ⟨.agg cs', fun w' => ?_, cs', rfl, f2, f3⟩
          simp only [Instr.build]
          rw [run_bind_ok (run_zeroValue hT hi w'), run_bind_ok (run_under hT hi w'), hd]
          simp only
          rw [run_bind_ok (run_sizeOf hT hj w')]
          simp only [f1]
          rfl
        · exact trivial
      · exact trivial
    · exact trivial

theorem apart_row (hT : TOK P T) {t : Nat} {j : TI} (hj : lkp t T = some j) (hr : j.desc.isRow = true) {l : List D} {cs : Array Value} (h : DEncs S w l cs.toList) (off : Nat) (w' : World) :
    (part t cs off).run P w' = .ok (.agg (cs.extract off (off + j.size))) w' ∧ DEncs S w ((l.drop off).take j.size) (cs.extract off (off + j.size)).toList :=
  ⟨run_part_row hT hj hr cs, by
    have := (h.drop off).take j.size
    simpa [List.extract_eq_take_drop] using this⟩

theorem apart_one (hT : TOK P T) {t : Nat} {j : TI} (hj : lkp t T = some j) (hr : j.desc.isRow = false) {l : List D} {cs : Array Value} (h : DEncs S w l cs.toList) {off : Nat} {x : D} (hx : (l.drop off).take j.size = [x]) :
    ∃ v, (∀ w', (part t cs off).run P w' = .ok v w') ∧ DEnc S w x v := by
  have h1 : l[off]? = some x := by
    have : ((l.drop off).take j.size)[0]? = some x := by rw [hx]; rfl
    rw [List.getElem?_take] at this
    split at this
    · rw [List.getElem?_drop] at this; simpa using this
    · cases this
  obtain ⟨v, hv, he⟩ := h.get h1
  exact ⟨v, fun _ => run_part_one hT hj hr (by simpa using hv), he⟩

/-- Two values of a type are compared, the answer being b. -/
def EqOK (P : Program) (S : Nat → Prop) (w : World) (T : List (Nat × TI)) (d t : Nat) (l m : List D) (b : Bool) : Prop :=
  ∀ i, lkp t T = some i → (i.desc.isRow = true → ∀ cs ds : Array Value, DEncs S w l cs.toList → DEncs S w m ds.toList → ∀ w', (Op.equalIn d t (.agg cs) (.agg ds)).run P w' = .ok b w') ∧
    (i.desc.isRow = false → ∃ x y, l = [x] ∧ m = [y] ∧ ∀ vx vy, DEnc S w x vx → DEnc S w y vy → ∀ w', (Op.equalIn d t vx vy).run P w' = .ok b w')

theorem aeqFs_sound (hT : TOK P T) {g : Nat → List D → List D → Option Bool} {d : Nat} (hg : ∀ t l m b, g t l m = some b → EqOK P S w T d t l m b) {l m : List D} {cs ds : Array Value} (h1 : DEncs S w l cs.toList) (h2 : DEncs S w m ds.toList) :
    ∀ (fs : List Field) (b : Bool), aeqFs g T l m fs = some b → ∀ w', (Op.eqFields d cs ds fs).run P w' = .ok b w'
  | [], b, e, w' => by cases e; rfl
  | f :: fs, b, e, w' => by
    simp only [aeqFs] at e
    split at e
    · cases e
    · rename_i hn
      split at e
      · cases e
      · rename_i j hj
        split at e
        · rename_i a c ha hc
          cases e
          have ih := aeqFs_sound hT hg h1 h2 fs c hc w'
          obtain ⟨q1, q2⟩ := hg _ _ _ _ ha j hj
          have main : ∃ va vb, (part f.type cs f.offset).run P w' = .ok va w' ∧ (part f.type ds f.offset).run P w' = .ok vb w' ∧ (Op.equalIn d f.type va vb).run P w' = .ok a w' := by
            cases hr : j.desc.isRow with
            | true =>
              obtain ⟨p1, p2⟩ := apart_row hT hj hr h1 f.offset w'
              obtain ⟨p3, p4⟩ := apart_row hT hj hr h2 f.offset w'
              exact ⟨_, _, p1, p3, q1 hr _ _ p2 p4 w'⟩
            | false =>
              obtain ⟨x, y, e1, e2, q⟩ := q2 hr
              obtain ⟨va, p1, p2⟩ := apart_one hT hj hr h1 e1
              obtain ⟨vb, p3, p4⟩ := apart_one hT hj hr h2 e2
              exact ⟨va, vb, p1 w', p3 w', q va vb p2 p4 w'⟩
          obtain ⟨va, vb, p1, p2, p3⟩ := main
          simp only [Op.eqFields, if_pos hn]
          rw [run_bind_ok p1, run_bind_ok p2, run_bind_ok p3]
          cases a
          · rfl
          · simpa using ih
        · cases e

theorem aeqF_sound (hT : TOK P T) : ∀ (n d t : Nat) (l m : List D) (b : Bool), aeqF T n t l m = some b → n ≤ d → EqOK P S w T d t l m b
  | 0, _, _, _, _, _, e, _ => by cases e
  | n + 1, 0, _, _, _, _, _, hd => absurd hd (by omega)
  | n + 1, d + 1, t, l, m, b, e, hd => by
    intro i hi
    simp only [aeqF, hi] at e
    have hu := (hT t i hi).1
    split at e
    · rename_i fs hdesc
      split at e
      · rename_i heq
        rw [hdesc] at hu
        refine ⟨fun _ cs ds h1 h2 w' => ?_, fun h => by rw [hdesc] at h; cases h⟩
        have hf : P.fieldsOf t = fs := by simp [Program.fieldsOf, hu]
        rw [run_equalIn_struct w' d t cs ds (by rw [hf]; exact hu) (hT.eqs hi heq).1, hf]
        exact aeqFs_sound hT (fun t l m b e => aeqF_sound hT n d t l m b e (by omega)) h1 h2 _ b e w'
      · cases e
    · rename_i ik hdesc
      rw [hdesc] at hu
      refine ⟨fun h => (by rw [hdesc] at h; cases h), fun _ => ?_⟩
      split at e
      · split at e
        · rename_i k1 a k2 b' hk
          cases e
          refine ⟨_, _, rfl, rfl, fun vx vy h1 h2 w' => ?_⟩
          cases h1.1; cases h2.1; subst hk
          exact run_equalIn_int w' d t _ _ _ _ hu
        · cases e
      · cases e
    · rename_i hdesc
      rw [hdesc] at hu
      refine ⟨fun h => (by rw [hdesc] at h; cases h), fun _ => ?_⟩
      split at e
      · cases e
        refine ⟨_, _, rfl, rfl, fun vx vy h1 h2 w' => ?_⟩
        cases h1.1; cases h2.1
        exact run_equalIn_bool' w' d t _ _ hu
      · cases e
    · rename_i hdesc
      rw [hdesc] at hu
      refine ⟨fun h => (by rw [hdesc] at h; cases h), fun _ => ?_⟩
      split at e
      · cases e
        refine ⟨_, _, rfl, rfl, fun vx vy h1 h2 w' => ?_⟩
        cases h1.1; cases h2.1
        rw [run_equalIn_string w' d t _ _ hu, toList_eq_iff]
      · cases e
    · cases e

theorem venc_agg {v : V} {x : Value} (h : VEnc k w v x) {l : List D} (hl : dcells v = some l) {i : TI} {t : Nat} (_ : lkp t T = some i) (hx : (∃ l, v = .agg l) ∨ ∃ l, v = .dagg l) : ∃ cs, x = .agg cs ∧ DEncs k.S w l cs.toList := by
  obtain ⟨h1, _⟩ := dcells_sound h hl
  rcases hx with ⟨l', rfl⟩ | ⟨l', rfl⟩
  · obtain ⟨cs, rfl, _⟩ := h; exact ⟨cs, rfl, h1⟩
  · obtain ⟨cs, rfl, _⟩ := h; exact ⟨cs, rfl, h1⟩

theorem aindex2_sound (hT : TOK P T) (t : Nat) (x ix : V) (vx vi : Value) (hx : VEnc k w x vx) (hi : VEnc k w ix vi) :
    (aindex2 T t x ix).holds fun v => ∃ u, (∀ w', (Instr.index t vx vi).run P w' = .ok u w') ∧ VEnc k w v u := by
  unfold aindex2
  split
  · rename_i ik n
    split
    · rename_i i hl
      split
      · rename_i len e hd
        split
        · rename_i j hj
          cases venc_val hi
          have key : ∀ {v : V}, (∃ cs u, vx = .agg cs ∧ (∀ w', (part e cs (n.toNat * j.size)).run P w' = .ok u w') ∧ VEnc k w v u) → 0 ≤ n ∧ n < len → ∃ u, (∀ w', (Instr.index t vx (.int ik n)).run P w' = .ok u w') ∧ VEnc k w v u := by
            rintro v ⟨cs, u, rfl, hu, he⟩ hb
            refine ⟨u, fun w' => ?_, he⟩
            have hun := run_under hT hl w'
            rw [hd] at hun
            simp only [Instr.index, asIntOf, pure_bind]
            rw [run_bind_ok hun]
            simp only [if_pos hb]
            rw [run_bind_ok (run_sizeOf hT hj w')]
            exact hu w'
          have ha := apart_sound hT e x (n.toNat * j.size) vx hx
          cases hr : apart T e x (n.toNat * j.size) with
          | ok v => rw [hr] at ha; exact fun hc => key ha hc
          | okc c v => rw [hr] at ha; exact fun hc => key (ha hc.2) hc.1
          | no => exact trivial
        · exact trivial
      · exact aindex_sound hT t x _ vx vi hx hi
    · exact trivial
  · exact trivial
end
end Go.AM
end
