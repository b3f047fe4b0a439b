/- The abstract machine: runs, leaves, contracts, rows. No statement of the seat stands here. -/
import Derived.Test.YthhcbgdngmajlaaDoorAmB
import Derived.Below
import Derived.Lib.LaidTab
import Derived.Deep.DeepHandedRow
import Derived.Deep.DeepWitnessRowRef
import Derived.LaidMore
import Derived.Lay
import Derived.ChangeSame
import Derived.ProofKit
import Derived.OpenShut
import Derived.WideKeyArgs
section
/-! ## 25 -/
namespace Go.AM
open Go
set_option linter.unusedSectionVars false

/-- How a drawn region is gone through: take i first; or whichever of these comes. -/
inductive Plan where
  | done
  | take (i : Nat) (p : Plan)
  | alt (i : Nat) (p r : Plan)
  | fin

def Plan.alts : Plan → List Nat
  | .alt i _ r => i :: r.alts
  | _ => []

def loadQ (q : Bool) (ops : Array Oper) (i : Nat) : Bool :=
  match ops[i]? with
  | some o => !isLoad o.op || q
  | none => false

def okP (q : Bool) (ops : Array Oper) : Bool → Plan → Nat → Array Bool → Bool
  | false, .done, _, l => (Region.ready .any ops l).isEmpty
  | false, .take i p, n + 1, l => (Region.ready .any ops l).contains i && Region.free .any ops l i && loadQ q ops i && okP q ops false p n (l.setIfInBounds i true)
  | false, .alt i p r, n + 1, l => !(Region.ready .any ops l).isEmpty && (Region.ready .any ops l).all (fun j => inL (i :: r.alts) j) && okP q ops false p n (l.setIfInBounds i true) && okP q ops true r n l
  | true, .alt i p r, n, l => okP q ops false p n (l.setIfInBounds i true) && okP q ops true r n l
  | true, .fin, _, _ => true
  | _, _, _, _ => false

variable [Env]

def AAny (P : Program) (q : Bool) (ops : Array Oper) (fuel : Nat) (listed : Array Bool) (st : AS) (Q : AS → Prop) : Prop :=
  ∀ ro k w a ms, Sim ro k w st a ms → ∀ k0 w0 ms0, Step1 k0 w0 ms0 k w ms →
    AnyQ q (fence ro) P ops (fun a' w' => ∃ k' st' ms', Sim ro k' w' st' a' ms' ∧ Step1 k0 w0 ms0 k' w' ms' ∧ Q st') fuel listed a w

/-- An operation of a drawn region comes up. -/
def AOp (P : Program) (q : Bool) (ops : Array Oper) (i : Nat) (st : AS) (N : AS → Prop) : Prop :=
  ∀ ro k w a ms, Sim ro k w st a ms → wpOpIn (fence ro) 0 P ops never i (fun a' w' => Stay q w w' ∧ ∃ k' st', Sim ro k' w' st' a' ms ∧ Ext k w k' w' ∧ N st') a w

/-- A taken operation's yield. -/
def vstep (T : List (Nat × TI)) (st : AS) (o : Oper) : Stp :=
  match o.dst with
  | some d => if d < st.n then (aval2 T st o.op).put st d else .stop
  | none => .stop

def takePl (T : List (Nat × TI)) (ops : Array Oper) (i : Nat) (st : AS) (N : AS → Prop) : Prop :=
  optOn ops[i]? (fun o => optOn o.guard
    (fun _ => optOn (awant ops st o)
      (fun x => (gstep T st o x).on N (way x False ((gskip st o).on N False)))
      False)
    ((vstep T st o).on N False))
    False

def stepC (P : Program) (T : List (Nat × TI)) (q : Bool) (ops : Array Oper) (i : Nat) (o : Oper) (st : AS) (N : AS → Prop) : Prop :=
  match q with
  | true => (vstep T st o).on N (AOp P true ops i st N)
  | false => (astep T st o).on N (AOp P false ops i st N)

def stepPl (P : Program) (T : List (Nat × TI)) (q : Bool) (ops : Array Oper) (i : Nat) (st : AS) (N : AS → Prop) : Prop :=
  optOn ops[i]? (fun o => optOn o.guard
    (fun _ => optOn (awant ops st o)
      (fun x => (gstep T st o x).on N
        (way x (oblT x st.t o.op.operands.toList ∧ (Stp.go (st.lift o.op.operands.toList)).on (fun st1 => stepC P T q ops i o st1 N) False) ((gskip st o).on N False)))
      False)
    (stepC P T q ops i o st N))
    False

def runPl (P : Program) (T : List (Nat × TI)) (q : Bool) (ops : Array Oper) (Q : AS → Prop) : Plan → AS → Prop
  | .done, st => Q st
  | .take i p, st => takePl T ops i st (runPl P T q ops Q p)
  | .alt i p r, st => stepPl P T q ops i st (runPl P T q ops Q p) ∧ runPl P T q ops Q r st
  | .fin, _ => True

section
variable {P : Program} {T : List (Nat × TI)} {ops : Array Oper} {ro : Option Nat} {q : Bool} {st : AS} {Q N : AS → Prop}

theorem AAny.done {fuel : Nat} {l : Array Bool} (hr : Region.ready .any ops l = []) (h : Q st) : AAny P q ops fuel l st Q := by
  intro ro k w a ms s k0 w0 ms0 t
  have : ∃ k' st' ms', Sim ro k' w st' a ms' ∧ Step1 k0 w0 ms0 k' w ms' ∧ Q st' := ⟨k, st, ms, s, t, h⟩
  cases fuel with
  | zero => exact ⟨hr, this⟩
  | succ n => exact ⟨fun _ => this, fun i hi => by rw [hr] at hi; cases hi⟩

theorem AAny.all {fuel : Nat} {l : Array Bool} (hne : Region.ready .any ops l ≠ []) (h : ∀ i ∈ Region.ready .any ops l, AOp P q ops i st (fun st' => AAny P q ops fuel (l.setIfInBounds i true) st' Q)) : AAny P q ops (fuel + 1) l st Q := by
  intro ro k w a ms s k0 w0 ms0 t
  refine ⟨fun e => absurd e hne, fun i hi => ?_⟩
  refine wpOpIn_weak (fun a' w' ⟨hs, k', st', s', e', hn⟩ => ⟨hs, hn ro k' w' a' ms s' k0 w0 ms0 (t.trans ⟨e', fun _ h => .inl h⟩)⟩) (h i hi ro k w a ms s)

theorem AAny.takeY {fuel i : Nat} {o : Oper} {l : Array Bool} (hp : plain ops = true) (hi : ops[i]? = some o) (hr : (Region.ready .any ops l).contains i = true) (hf : Region.free .any ops l i = true) {st' : AS}
    (hy : ∀ ro k w a ms, Sim ro k w st a ms → ∃ u, YieldsQ q P ops w o u a ∧ Sim ro k w st' (a.put o.dst u) ms) (h : AAny P q ops fuel (l.setIfInBounds i true) st' Q) : AAny P q ops (fuel + 1) l st Q := by
  intro ro k w a ms s k0 w0 ms0 t
  obtain ⟨u, h1, h2⟩ := hy ro k w a ms s
  exact AnyQ.first hp hi fuel l a w (Region.free_spec hi hf) (by simpa using hr) h1 (h ro k w _ ms h2 k0 w0 ms0 t)

theorem takePl_sound (hT : TOK P T) {fuel i : Nat} {l : Array Bool} (hp : plain ops = true) (hr : (Region.ready .any ops l).contains i = true) (hf : Region.free .any ops l i = true) (hl : loadQ q ops i = true) (h : takePl T ops i st N)
    (hN : ∀ st', N st' → AAny P q ops fuel (l.setIfInBounds i true) st' Q) : AAny P q ops (fuel + 1) l st Q := by
  unfold takePl optOn at h
  split at h
  · rename_i o hi
    have hload : isLoad o.op = true → q = true := fun e => by simp only [loadQ, hi, e, Bool.not_true, Bool.false_or] at hl; exact hl
    try dsimp only at h
    split at h
    rotate_left
    · rename_i hg
      have hw : awant ops st o = some true := by unfold awant; rw [hg]
      unfold vstep at h
      split at h
      · rename_i d hd
        split at h
        · rename_i hn
          have key : ∀ (v : V), (∀ ro k w a ms, Sim ro k w st a ms → ∃ u, (∀ w', (isLoad o.op = true → Still w w') → (execOp a.eval o).run P w' = .ok (.value u) w') ∧ VEnc k w v u) → N (st.put d v) → AAny P q ops (fuel + 1) l st Q := fun v hv hn' => by
            refine AAny.takeY hp hi hr hf (st' := st.put d v) (fun ro k w a ms s => ?_) (hN _ hn')
            obtain ⟨u, hu, he⟩ := hv ro k w a ms s
            refine ⟨u, .inl ⟨awant_sound s.T hw, fun w' hs => hu w' fun e => (hs (hload e)).1⟩, ?_⟩
            rw [hd]
            exact ⟨s.H, s.T.put hn he, s.M.put _ _⟩
          cases hv : aval2 T st o.op with
          | ok v => rw [hv] at h; exact key v (fun ro k w a ms s => by have := aval2_sound hT o s; rw [hv] at this; exact this) h
          | okc c v => rw [hv] at h; exact key v (fun ro k w a ms s => by have := aval2_sound hT o s; rw [hv] at this; exact this h.1) (h.2 h.1)
          | no => rw [hv] at h; exact h.elim
        · exact h.elim
      · exact h.elim
    · try dsimp only at h
      split at h
      · rename_i x hw
        have stop : way x False ((gskip st o).on N False) → AAny P q ops (fuel + 1) l st Q := fun h => by
          cases x with
          | true => exact (h.1 rfl).elim
          | false =>
            have h := h.2 rfl
            unfold gskip at h
            split at h
            · rename_i d hd
              split at h
              · rename_i hn
                refine AAny.takeY hp hi hr hf (st' := st.put d skipV) (fun ro k w a ms s => ⟨undef, .inr ⟨awant_sound s.T hw, rfl⟩, ?_⟩) (hN _ h)
                rw [hd]
                exact ⟨s.H, s.T.put hn skipV_enc, s.M.put _ _⟩
              · exact h.elim
            · rename_i hd
              refine AAny.takeY hp hi hr hf (st' := st) (fun ro k w a ms s => ⟨undef, .inr ⟨awant_sound s.T hw, rfl⟩, ?_⟩) (hN _ h)
              rw [hd]; exact s
        unfold gstep at h
        split at h
        · rename_i d hd
          split at h
          · rename_i hn
            have key : ∀ (v : V), (x = true → ∀ ro k w a ms, Sim ro k w st a ms → ∃ u, (∀ w', (isLoad o.op = true → Still w w') → (execOp a.eval o).run P w' = .ok (.value u) w') ∧ VEnc k w v u) → N (st.put d (.opt x v)) → AAny P q ops (fuel + 1) l st Q := fun v hv hn' => by
              refine AAny.takeY hp hi hr hf (st' := st.put d (.opt x v)) (fun ro k w a ms s => ?_) (hN _ hn')
              cases x with
              | true =>
                obtain ⟨u, hu, he⟩ := hv rfl ro k w a ms s
                refine ⟨u, .inl ⟨awant_sound s.T hw, fun w' hs => hu w' fun e => (hs (hload e)).1⟩, ?_⟩
                rw [hd]
                exact ⟨s.H, s.T.put hn ⟨fun _ => he, fun h => (by cases h)⟩, s.M.put _ _⟩
              | false =>
                refine ⟨undef, .inr ⟨awant_sound s.T hw, rfl⟩, ?_⟩
                rw [hd]
                exact ⟨s.H, s.T.put hn ⟨fun h => (by cases h), fun _ => rfl⟩, s.M.put _ _⟩
            split at h
            · rename_i v hv
              exact key v (fun hx ro k w a ms s => by have := aval2_sound hT o (s.view hx h.1); unfold gval at hv; rw [hv] at this; exact this) (h.2 h.1)
            · rename_i c v hv
              exact key v (fun hx ro k w a ms s => by have := aval2_sound hT o (s.view hx h.1.1); unfold gval at hv; rw [hv] at this; exact this (h.1.2 hx)) (h.2 h.1)
            · exact stop h
          · exact stop h
        · exact stop h
      · exact h.elim
  · exact h.elim

theorem AOp.mono {i : Nat} {N' : AS → Prop} (h : AOp P q ops i st N) (hn : ∀ s, N s → N' s) : AOp P q ops i st N' :=
  fun ro k w a ms s => wpOpIn_weak (fun _ _ ⟨h1, k', st', h2, h3, h4⟩ => ⟨h1, k', st', h2, h3, hn _ h4⟩) (h ro k w a ms s)

theorem AOp.skip {i : Nat} {o : Oper} (hi : ops[i]? = some o) (hw : awant ops st o = some false) {st' : AS} (hs : (∃ d, o.dst = some d ∧ d < st.n ∧ st' = st.put d skipV) ∨ (o.dst = none ∧ st' = st)) (h : N st') : AOp P q ops i st N := by
  intro ro k w a ms s
  unfold wpOpIn
  simp only [hi, awant_sound s.T hw, Bool.false_eq_true, if_false]
  refine ⟨fun _ _ => trivial, Stay.refl q w, k, st', ?_, .refl k w, h⟩
  rcases hs with ⟨d, hd, hn, rfl⟩ | ⟨hd, rfl⟩
  · rw [hd]; exact ⟨s.H, s.T.put hn skipV_enc, s.M.put _ _⟩
  · rw [hd]; exact s

theorem AOp.pure {i : Nat} {o : Oper} {st0 : AS} (hlift : ∀ ro k w a ms, Sim ro k w st0 a ms → Sim ro k w st a ms) (hp : plain ops = true) (hi : ops[i]? = some o) (hw : awant ops st0 o = some true) {d : Nat} (hd : o.dst = some d) (hn : d < st.n) {v : V}
    (hv : ∀ ro k w a ms, Sim ro k w st a ms → ∃ u, (∀ w', (isLoad o.op = true → Still w w') → (execOp a.eval o).run P w' = .ok (.value u) w') ∧ VEnc k w v u) (h : N (st.put d v)) : AOp P q ops i st0 N := by
  intro ro k w a ms s0
  have s := hlift ro k w a ms s0
  obtain ⟨u, hu, he⟩ := hv ro k w a ms s
  unfold wpOpIn
  simp only [hi, awant_sound s0.T hw, if_true, Oper.wpIn, semAt_plain (plain_spec hp hi).2, hu w (fun _ => Still.refl w), Oper.uponIn]
  refine ⟨fun _ _ => trivial, Stay.refl q w, k, _, ?_, .refl k w, h⟩
  rw [hd]
  exact ⟨s.H, s.T.put hn he, s.M.put _ _⟩

theorem AOp.opt {i : Nat} {o : Oper} (hp : plain ops = true) (hi : ops[i]? = some o) {x : Bool} (hw : awant ops st o = some x) {d : Nat} (hd : o.dst = some d) (hn : d < st.n) {v : V}
    (hv : x = true → ∀ ro k w a ms, Sim ro k w st a ms → ∃ u, (∀ w', (isLoad o.op = true → Still w w') → (execOp a.eval o).run P w' = .ok (.value u) w') ∧ VEnc k w v u) (h : N (st.put d (.opt x v))) : AOp P q ops i st N := by
  intro ro k w a ms s
  unfold wpOpIn
  cases x with
  | true =>
    obtain ⟨u, hu, he⟩ := hv rfl ro k w a ms s
    simp only [hi, awant_sound s.T hw, if_true, Oper.wpIn, semAt_plain (plain_spec hp hi).2, hu w (fun _ => Still.refl w), Oper.uponIn]
    refine ⟨fun _ _ => trivial, Stay.refl q w, k, _, ?_, .refl k w, h⟩
    rw [hd]
    exact ⟨s.H, s.T.put hn ⟨fun _ => he, fun h => (by cases h)⟩, s.M.put _ _⟩
  | false =>
    simp only [hi, awant_sound s.T hw, Bool.false_eq_true, if_false]
    refine ⟨fun _ _ => trivial, Stay.refl q w, k, _, ?_, .refl k w, h⟩
    rw [hd]
    exact ⟨s.H, s.T.put hn ⟨fun h => (by cases h), fun _ => rfl⟩, s.M.put _ _⟩

theorem AOp.ok {i : Nat} {o : Oper} {st0 : AS} (hlift : ∀ ro k w a ms, Sim ro k w st0 a ms → Sim ro k w st a ms) (hp : plain ops = true) (hi : ops[i]? = some o) (hw : awant ops st0 o = some true) {st' : AS} (ho : OpOK P o st st') (h : N st') : AOp P false ops i st0 N := by
  intro ro k w a ms s0
  have s := hlift ro k w a ms s0
  obtain ⟨r, w', k', h1, h2, h3⟩ := ho ro k w a ms s
  unfold wpOpIn
  simp only [hi, awant_sound s0.T hw, if_true, Oper.wpIn, semAt_plain (plain_spec hp hi).2, h1]
  refine ⟨fun _ _ => trivial, ?_⟩
  rcases h2 with ⟨v, rfl, h2⟩ | ⟨rfl, h2⟩
  · exact ⟨fun e => (by cases e), k', st', h2, h3, h⟩
  · exact ⟨fun e => (by cases e), k', st', h2, h3, h⟩

theorem stepC_sound (hT : TOK P T) {i : Nat} {o : Oper} {st0 : AS} (hlift : ∀ ro k w a ms, Sim ro k w st0 a ms → Sim ro k w st a ms) (hp : plain ops = true) (hi : ops[i]? = some o) (hw : awant ops st0 o = some true) (h : stepC P T q ops i o st N) : AOp P q ops i st0 N := by
  unfold stepC at h
  split at h
  · unfold vstep at h
    split at h
    · rename_i d hd
      split at h
      · rename_i hn
        cases hv : aval2 T st o.op with
        | ok v => rw [hv] at h; exact AOp.pure hlift hp hi hw hd hn (fun ro k w a ms s => by have := aval2_sound hT o s; rw [hv] at this; exact this) h
        | okc c v => rw [hv] at h; exact AOp.pure hlift hp hi hw hd hn (fun ro k w a ms s => by have := aval2_sound hT o s; rw [hv] at this; exact this h.1) (h.2 h.1)
        | no => rw [hv] at h; exact fun ro k w a ms s => h ro k w a ms (hlift ro k w a ms s)
      · exact fun ro k w a ms s => h ro k w a ms (hlift ro k w a ms s)
    · exact fun ro k w a ms s => h ro k w a ms (hlift ro k w a ms s)
  · have ho := astep_OK (st := st) hT o
    unfold Stp.on at h
    split at h
    · rename_i st' hs
      rw [hs] at ho
      exact AOp.ok hlift hp hi hw ho h
    · rename_i c st' hs
      rw [hs] at ho
      exact AOp.ok hlift hp hi hw (ho h.1) (h.2 h.1)
    · exact fun ro k w a ms s => h ro k w a ms (hlift ro k w a ms s)

theorem stepPl_sound (hT : TOK P T) {i : Nat} (hp : plain ops = true) (h : stepPl P T q ops i st N) : AOp P q ops i st N := by
  unfold stepPl optOn at h
  split at h
  · rename_i o hi
    try dsimp only at h
    split at h
    rotate_left
    · rename_i hg
      exact stepC_sound hT (fun _ _ _ _ _ s => s) hp hi (by unfold awant; rw [hg]) h
    · try dsimp only at h
      split at h
      · rename_i x hw
        have stop : (way x (oblT x st.t o.op.operands.toList ∧ (Stp.go (st.lift o.op.operands.toList)).on (fun st1 => stepC P T q ops i o st1 N) False) ((gskip st o).on N False)) → AOp P q ops i st N := fun h => by
          cases x with
          | true => exact stepC_sound hT (fun _ _ _ _ _ s => s.lift rfl (h.1 rfl).1) hp hi hw (h.1 rfl).2
          | false =>
            have h := h.2 rfl
            unfold gskip at h
            split at h
            · rename_i d hd
              split at h
              · rename_i hn; exact AOp.skip hi hw (.inl ⟨d, hd, hn, rfl⟩) h
              · exact h.elim
            · rename_i hd; exact AOp.skip hi hw (.inr ⟨hd, rfl⟩) h
        unfold gstep at h
        split at h
        · rename_i d hd
          split at h
          · rename_i hn
            split at h
            · rename_i v hv
              exact AOp.opt hp hi hw hd hn (fun hx ro k w a ms s => by have := aval2_sound hT o (s.view hx h.1); unfold gval at hv; rw [hv] at this; exact this) (h.2 h.1)
            · rename_i c v hv
              exact AOp.opt hp hi hw hd hn (fun hx ro k w a ms s => by have := aval2_sound hT o (s.view hx h.1.1); unfold gval at hv; rw [hv] at this; exact this (h.1.2 hx)) (h.2 h.1)
            · exact stop h
          · exact stop h
        · exact stop h
      · exact h.elim
  · exact h.elim

theorem runPl_sound (hT : TOK P T) (hp : plain ops = true) : ∀ (p : Plan) (n : Nat) (l : Array Bool) (st : AS),
    (okP q ops false p n l = true → runPl P T q ops Q p st → AAny P q ops n l st Q) ∧
    (okP q ops true p n l = true → runPl P T q ops Q p st → ∀ j ∈ p.alts, AOp P q ops j st (fun st' => AAny P q ops n (l.setIfInBounds j true) st' Q))
  | .done, n, l, st => by
    refine ⟨fun h hr => ?_, fun h => by simp [okP] at h⟩
    have h : Region.ready .any ops l = [] := by cases n <;> simpa [okP] using h
    exact AAny.done h hr
  | .fin, n, l, st => ⟨fun h => by cases n <;> simp [okP] at h, fun _ _ j hj => by simp [Plan.alts] at hj⟩
  | .take i p, n, l, st => by
    refine ⟨fun h hr => ?_, fun h => by simp [okP] at h⟩
    cases n with
    | zero => simp [okP] at h
    | succ n =>
      simp only [okP, Bool.and_eq_true] at h
      obtain ⟨⟨⟨h1, h2⟩, h3⟩, h4⟩ := h
      exact takePl_sound hT hp h1 h2 h3 hr fun st' hst => (runPl_sound hT hp p n _ st').1 h4 hst
  | .alt i p r, n, l, st => by
    have one : ∀ {n : Nat}, okP q ops false p n (l.setIfInBounds i true) = true → okP q ops true r n l = true → runPl P T q ops Q (.alt i p r) st → ∀ j ∈ (Plan.alt i p r).alts, AOp P q ops j st (fun st' => AAny P q ops n (l.setIfInBounds j true) st' Q) := by
      intro n h1 h2 hr j hj
      simp only [runPl] at hr
      rcases List.mem_cons.1 hj with e | e
      · subst e
        exact (stepPl_sound hT hp hr.1).mono fun st' hst => (runPl_sound hT hp p n _ st').1 h1 hst
      · exact (runPl_sound hT hp r n l st).2 h2 hr.2 j e
    refine ⟨fun h hr => ?_, fun h hr => ?_⟩
    · cases n with
      | zero => simp [okP] at h
      | succ n =>
        simp only [okP, Bool.and_eq_true] at h
        obtain ⟨⟨⟨h1, h2⟩, h3⟩, h4⟩ := h
        refine AAny.all (by intro e; rw [e] at h1; cases h1) fun j hj => one h3 h4 hr j ?_
        have := List.all_eq_true.1 h2 j hj
        exact inL_iff.1 this
    · simp only [okP, Bool.and_eq_true] at h
      exact one h.1 h.2 hr

theorem Sim.heap {k : K} {w w' : World} {a : Act} {ms : List Nat} (s : Sim ro k w st a ms) (hw : w'.heap = w.heap) (hos : w'.os = w.os := by rfl) (hou : w'.output = w.output := by rfl) : Sim ro k w' st a ms ∧ Ext k w k w' := by
  have hg : Grows w w' := .of ⟨by rw [hw]; exact Nat.le_refl _, fun b cs ty fz h => ⟨cs, by rw [hw]; exact h, rfl⟩⟩ hos hou
  have H := s.H.stay hg (fun _ _ => by rw [hw]) (fun _ _ _ => by rw [hw])
  have e : Ext k w k w' := ⟨hg, fun _ _ _ => by rw [hw], fun _ h => h, fun _ h => .inl h, fun i _ h => .inl ⟨i, h⟩, fun _ _ _ h => h⟩
  exact ⟨s.of_ext H ⟨hg, fun _ _ => by rw [hw], fun _ h => h, fun _ _ h => h⟩ e, e⟩

/-- A DRAWN REGION, by a plan. -/
theorem AWP.drawn (hT : TOK P T) (hm : P.follows .mixedOrders = true) {id : Nat} {pl : Plan} (hp : plain ops = true) (ho : okP q ops false pl ops.size (Array.replicate ops.size false) = true) {Q : Exit → AS → Prop} (h : runPl P T q ops (Q .normal) pl st) : AWP P (.region id ops true) st Q := by
  intro ro k w a ms s
  obtain ⟨s1, e1⟩ := s.heap (w' := { w with drawn := w.drawn + 1 }) rfl
  refine wpIn_region_any hm (AnyQ.sound (fun a' w' hR => ?_) _ _ _ _ ((runPl_sound hT hp pl _ _ st).1 ho h ro k _ a ms s1 k w ms ⟨e1, fun _ h => .inl h⟩))
  obtain ⟨k', st', ms', h1, h2, h3⟩ := hR
  exact ⟨k', st', ms', h1, h2, h3⟩
end

/-- Code run as far as it goes by itself, drawn regions by plans. -/
def run (P : Program) (T : List (Nat × TI)) (pl : List (Nat × Bool × Plan)) : Code → AS → (Exit → AS → Prop) → Prop
  | .skip, st, Q => Q .normal st
  | .label _, st, Q => Q .normal st
  | .ret, st, Q => Q .ret st
  | .exit id, st, Q => Q (.exit id) st
  | .seq a b, st, Q => run P T pl a st (thenQ (fun s => run P T pl b s Q) Q)
  | .block id c, st, Q => run P T pl c st (blockQ id Q)
  | .region _ ops false, st, Q => runA T ops ops.toList st (rest P ops Q)
  | .cond c a b, st, Q => condOn (st.ev c) (fun x => way x (run P T pl a st Q) (run P T pl b st Q)) (AWP P (.cond c a b) st Q)
  | .region id ops true, st, Q => optOn (lkp id pl) (fun x => runPl P T x.1 ops (Q .normal) x.2 st) (AWP P (.region id ops true) st Q)
  | .loop c, st, Q => AWP P (.loop c) st Q
  | .rangeFunc f ps a b, st, Q => AWP P (.rangeFunc f ps a b) st Q
  | .scope c, st, Q => AWP P (.scope c) st Q
  | .goto l, st, Q => AWP P (.goto l) st Q
  | .refuse s, st, Q => AWP P (.refuse s) st Q

/-- Do the plans fit the code? -/
def fits (pl : List (Nat × Bool × Plan)) : Code → Bool
  | .seq a b => fits pl a && fits pl b
  | .block _ c => fits pl c
  | .cond _ a b => fits pl a && fits pl b
  | .region id ops true => match lkp id pl with
    | some (q, p) => plain ops && okP q ops false p ops.size (Array.replicate ops.size false)
    | none => true
  | _ => true

section
variable {P : Program} {T : List (Nat × TI)} {pl : List (Nat × Bool × Plan)}

theorem run_sound (hT : TOK P T) (hm : P.follows .mixedOrders = true) : ∀ {c : Code} {st : AS} {Q : Exit → AS → Prop}, fits pl c = true → run P T pl c st Q → AWP P c st Q
  | .skip, _, _, _, h => AWP.skip h
  | .label _, _, _, _, h => AWP.label h
  | .ret, _, _, _, h => AWP.ret h
  | .exit _, _, _, _, h => AWP.exit h
  | .seq a b, st, Q, hf, h => by
    simp only [fits, Bool.and_eq_true] at hf
    exact AWP.seq ((run_sound hT hm (c := a) hf.1 h).mono fun e s hq => by
      cases e with
      | normal => exact run_sound hT hm (c := b) hf.2 hq
      | _ => exact hq)
  | .block _ c, _, _, hf, h => AWP.block (run_sound hT hm (c := c) hf h)
  | .region _ ops false, _, _, _, h => AWP.region (AL.go hT h)
  | .cond c a b, st, Q, hf, h => by
    simp only [fits, Bool.and_eq_true] at hf
    unfold run condOn at h
    split at h
    · rename_i x hx
      exact AWP.cond hx (fun e => run_sound hT hm (c := a) hf.1 (h.1 e)) (fun e => run_sound hT hm (c := b) hf.2 (h.2 e))
    · exact h
  | .region id ops true, st, Q, hf, h => by
    unfold run optOn at h
    unfold fits at hf
    split at h
    · rename_i x hl
      obtain ⟨q, p⟩ := x
      rw [hl] at hf
      simp only [Bool.and_eq_true] at hf
      exact AWP.drawn hT hm hf.1 hf.2 h
    · exact h
  | .loop _, _, _, _, h => h
  | .rangeFunc _ _ _ _, _, _, _, h => h
  | .scope _, _, _, _, h => h
  | .goto _, _, _, _, h => h
  | .refuse _, _, _, _, h => h

/-- A CONTRACT OUT OF A BODY's RUN. -/
theorem PC.walk (pl : List (Nat × Bool × Plan)) (hT : TOK P T) (hm : P.follows .mixedOrders = true) {f : FuncId} {fn : Func} {c : Code} {n : Nat} {rs : List ResultVar} (hf : P.funcs[f]? = some fn) (hname : (fn.name == "runtime.NumGoroutine") = false) (hb : fn.body = some c) (hnt : fn.ntmps = n) (hrs : fn.results.toList = rs) {h : List (Nat × Ob)} {args : List V} {Q : V → List (Nat × Ob) → Prop}
    (hn : Nat.ble args.length n = true) (hA : Nat.ble n ARG = true) (hfit : fits pl c = true) (hw : AM.run P T pl c { n := n, t := argT 0 args, h := h } (retQ T rs Q)) : PC P f h args Q := by
  subst hnt; subst hrs
  exact PC.of_awp hT hf hb (Go.Proofs.enters_of hf hname hb) (Nat.le_of_ble_eq_true hn) (Nat.le_of_ble_eq_true hA) (run_sound hT hm hfit hw)
end
end Go.AM
end
section
/-! ## 26 -/
namespace Go.AM
open Go
set_option linter.unusedSectionVars false

section
variable {F : Fence} {n : Nat} {P : Program} {Q : Exit → Act → World → Prop} {a : Act} {w : World} {b : Frame} {k : List Item} {cs : List Frame}

theorem stepR_scope {c : Code} : step P (lone (b.atR a (.code (.scope c) :: k)) cs w) = .next (lone (b.atR a (.code c :: .inScope c :: k)) cs w) :=
  step_lone_go (by simp [stepG, stepG.exec, Frame.atR])
theorem stepR_inScope {c : Code} : step P (lone (b.atR a (.inScope c :: k)) cs w) = .next (lone (b.atR a k) cs w) :=
  step_lone_go (by simp [stepG, stepG.exec, Frame.atR])

def noGoto (Q : Exit → Act → World → Prop) : Exit → Act → World → Prop
  | .goto _, _, _ => False
  | e, a, w => Q e a w

theorem wpIn_scope {c : Code} (h : c.wpIn F n P (noGoto Q) a w) : (Code.scope c).wpIn F n P Q a w := by
  intro b k cs hro hb hr
  have h0 : (lone (b.atR a (.code (.scope c) :: k)) cs w).fenced P F := fenced_calm hb hr rfl
  obtain ⟨e, a₁, w₁, hq, harr⟩ := h b (.inScope c :: k) cs hro hb hr
  cases e with
  | normal => exact ⟨.normal, a₁, w₁, hq, .head h0 stepR_scope (StepsIn.trans harr (.one (fenced_calm hb hr rfl) stepR_inScope))⟩
  | exit id =>
    have hx : exitTo id (.inScope c :: k) = exitTo id k := by simp [exitTo]
    exact ⟨_, a₁, w₁, hq, fun k' hk => .head h0 stepR_scope (harr.1 k' (by rw [hx]; exact hk)),
      fun hr' hk => let ⟨k₁, h1, h2⟩ := harr.2 hr' (by rw [hx]; exact hk); ⟨k₁, h1, .head h0 stepR_scope h2⟩⟩
  | goto l => exact hq.elim
  | ret => exact ⟨_, a₁, w₁, hq, .of_steps (.one h0 stepR_scope) harr⟩
  | panic ch => exact ⟨_, a₁, w₁, hq, .of_steps (.one h0 stepR_scope) harr⟩
  | outgrown => exact ⟨_, a₁, w₁, hq, .of_steps (.one h0 stepR_scope) harr⟩
end

variable [Env]
section
variable {P : Program} {T : List (Nat × TI)} {ops : Array Oper} {ro : Option Nat} {q : Bool} {st : AS} {Q : Exit → AS → Prop} {N : AS → Prop}

def scopeQ (Q : Exit → AS → Prop) : Exit → AS → Prop
  | .goto _, _ => False
  | e, s => Q e s

theorem AWP.scope {c : Code} (h : AWP P c st (scopeQ Q)) : AWP P (.scope c) st Q := fun ro k w a ms s =>
  wpIn_scope (wpIn_mono (h ro k w a ms s) fun e a' w' ⟨k', st', ms', h1, h2, h3⟩ => by
    cases e with
    | goto l => exact h3.elim
    | normal => exact ⟨k', st', ms', h1, h2, h3⟩
    | exit id => exact ⟨k', st', ms', h1, h2, h3⟩
    | ret => exact ⟨k', st', ms', h1, h2, h3⟩
    | panic ch => exact ⟨k', st', ms', h1, h2, h3⟩
    | outgrown => exact ⟨k', st', ms', h1, h2, h3⟩)

/-- A CALL, in a drawn region, of a function that is handed data alone, and hands back data. -/
theorem AOp.call0 {i : Nat} {o : Oper} {c : Operand} {args : Array Operand} {ats : Array TypeId} (hi : ops[i]? = some o) (ho : o.op = .call { callee := .value c, args, argTypes := ats }) (hw : awant ops st o = some true) {d : Nat} (hd : o.dst = some d) (hn : d < st.n)
    {fid : FuncId} {first caps : List V} (hc : st.ev c = .fn fid first caps)
    {Q0 : V → List (Nat × Ob) → Prop} (hp : PC P fid [] (first ++ args.toList.map st.ev ++ caps) Q0) (hr : refsL (first ++ args.toList.map st.ev ++ caps) = [])
    (hq : ∀ r h', Q0 r h' → h' = [] ∧ N (st.put d r)) : AOp P q ops i st N := by
  intro ro k w a ms s
  unfold wpOpIn
  simp only [hi, awant_sound s.T hw, if_true, Oper.wpIn]
  obtain ⟨vals, h1, h2⟩ := run_call s.T ho hc hp.1
  refine ⟨fun _ _ => trivial, ?_⟩
  rw [semAt_plain (fun c hc => by rw [ho] at hc; cases hc), h2]
  have H0 := s.H.bare
  have V0 : VEncs k.bare w (first ++ args.toList.map st.ev ++ caps) vals.toList := VEncs.agree (k := k) (k' := k.bare) _ _ ⟨rfl, fun i hi => by rw [hr] at hi; cases hi⟩ h1
  refine ⟨fun h => (by simp [fence, Fence.wide] at h), ?_⟩
  have hcall := hp.2 k.bare w vals H0 V0
  refine CallsIn.mono (F := fence ro) (show CallsIn (fence ro) (0 - 1) P fid vals w _ from hcall) ?_
  rintro e w' ⟨v, r, h', k', rfl, e2, H', ex, hQ⟩
  obtain ⟨rfl, hrest⟩ := hq r h' hQ
  have hRnew : ∀ b, k'.S b → k.S b ∨ w.heap.size ≤ b := fun b hb => by
    rcases ex.newS b hb with h | ⟨i, h⟩ | h
    · exact .inl h
    · exact h.elim
    · exact .inr h
  have hfr : ∀ b, b < w.heap.size → w'.heap[b]? = w.heap[b]? := fun b hb => ex.frame b hb fun _ h => h
  obtain ⟨m, hH⟩ := s.H.addS (w' := w') (R := k'.S) (fun b hb => ⟨H'.slt b hb, fun i hx => by
    rcases hRnew b hb with h | h
    · exact s.H.dis i b hx h
    · have := s.H.lt i b hx; omega⟩) ex.grows hfr
  have ex2 : Ext k w (k.addS k'.S) w' := ⟨ex.grows, fun b hb _ => hfr b hb, fun _ h => .inl h, fun b h => h.elim .inl fun h => by
      rcases hRnew b h with h | h
      · exact .inl h
      · exact .inr (.inr h), fun i _ h => .inl ⟨i, h⟩, fun _ _ _ h => h⟩
  have s1 := s.of_ext hH m ex2
  have er : VEnc (k.addS k'.S) w' r v := by
    have hd' : ∀ i, k'.β i = none := fun i => by
      have := H'.dom i
      simp only [lkp, Option.isSome_none] at this
      cases hq : k'.β i with
      | none => rfl
      | some l => rw [hq] at this; cases this
    have mm : Keeps k' w' (k.addS k'.S) w' := ⟨.refl w', fun _ _ => rfl, fun b h => .inr h, fun i l h => by rw [hd' i] at h; cases h⟩
    exact VEnc.mono mm r v e2
  rw [hd]
  exact ⟨fun _ => ⟨hfr, ex.grows.size⟩, k.addS k'.S, st.put d r, ⟨s1.H, SimT.put (st := st) ⟨s1.T.size, s1.T.arg, s1.T.tm⟩ hn er, s1.M.put _ _⟩, ex2, hrest⟩

/-- A contract's data answer: what a pure function hands back. -/
def retD (F : V → Prop) : V → List (Nat × Ob) → Prop := fun r h => h = [] ∧ F r
end
end Go.AM
end
section
/-! ## 27 -/
namespace Go.AM
open Go
set_option linter.unusedSectionVars false
variable [Env]

/-- What is to be done. -/
inductive It where
  | code (c : Code)
  | ops (ops : Array Oper) (l : List Oper)
  | plan (q : Bool) (ops : Array Oper) (p : Plan)
  | blk (id : Nat)
  | sco
  | lp (J : AS → Prop)

/-- What it means to come to these items by way of e. -/
def outT (P : Program) (T : List (Nat × TI)) (Q : Exit → AS → Prop) : List It → Exit → AS → Prop
  | [], e, s => Q e s
  | .code c :: k, e, s => match e with
    | .normal => AWP P c s (outT P T Q k)
    | e => outT P T Q k e s
  | .ops ops l :: k, e, s => match e with
    | .normal => AL P ops l s (outT P T Q k)
    | e => outT P T Q k e s
  | .plan q ops p :: k, e, s => match e with
    | .normal => runPl P T q ops (outT P T Q k .normal) p s
    | e => outT P T Q k e s
  | .blk id :: k, e, s => match e with
    | .exit id' => if id' = id then outT P T Q k .normal s else outT P T Q k (.exit id') s
    | e => outT P T Q k e s
  | .sco :: k, e, s => match e with
    | .goto _ => False
    | e => outT P T Q k e s
  | .lp J :: k, e, s => match e with
    | .normal => J s
    | e => outT P T Q k e s

/-- Left to the reader. -/
def leaf (P : Program) (T : List (Nat × TI)) (Q : Exit → AS → Prop) (k : List It) (st : AS) : Prop := outT P T Q k .normal st
def leafOp (P : Program) (T : List (Nat × TI)) (Q : Exit → AS → Prop) (q : Bool) (ops : Array Oper) (i : Nat) (p : Plan) (k : List It) (st : AS) : Prop := AOp P q ops i st (leaf P T Q (.plan q ops p :: k))

def popX (id : Nat) : List It → Option (List It)
  | [] => none
  | .blk j :: k => if id = j then some k else popX id k
  | .code _ :: k => popX id k
  | .ops _ _ :: k => popX id k
  | .plan _ _ _ :: k => popX id k
  | .sco :: k => popX id k
  | .lp _ :: k => popX id k

def goO (P : Program) (T : List (Nat × TI)) (pl : List (Nat × Bool × Plan)) (Q : Exit → AS → Prop) : Nat → List It → AS → Prop
  | 0, k, st => leaf P T Q k st
  | _ + 1, [], st => Q .normal st
  | n + 1, .blk _ :: k, st => goO P T pl Q n k st
  | n + 1, .sco :: k, st => goO P T pl Q n k st
  | _ + 1, .lp J :: _, st => J st
  | n + 1, .ops _ [] :: k, st => goO P T pl Q n k st
  | n + 1, .ops ops (o :: r) :: k, st =>
    optOn o.guard
      (fun _ => optOn (awant ops st o)
        (fun x => (gstep T st o x).on (fun st' => goO P T pl Q n (.ops ops r :: k) st')
          (way x (oblT x st.t o.op.operands.toList ∧ (Stp.go (st.lift o.op.operands.toList)).on (fun st1 => (astep T st1 o).on (fun st' => goO P T pl Q n (.ops ops r :: k) st') (leaf P T Q (.ops ops (o :: r) :: k) st1)) False)
            ((gskip st o).on (fun st' => goO P T pl Q n (.ops ops r :: k) st') False)))
        (leaf P T Q (.ops ops (o :: r) :: k) st))
      ((astep T st o).on (fun st' => goO P T pl Q n (.ops ops r :: k) st') (leaf P T Q (.ops ops (o :: r) :: k) st))
  | n + 1, .plan _ _ .done :: k, st => goO P T pl Q n k st
  | _ + 1, .plan _ _ .fin :: _, _ => True
  | n + 1, .plan q ops (.take i p) :: k, st =>
    optOn ops[i]? (fun o => optOn o.guard
      (fun _ => optOn (awant ops st o)
        (fun x => (gstep T st o x).on (fun st' => goO P T pl Q n (.plan q ops p :: k) st') (way x False ((gskip st o).on (fun st' => goO P T pl Q n (.plan q ops p :: k) st') False)))
        False)
      ((vstep T st o).on (fun st' => goO P T pl Q n (.plan q ops p :: k) st') False))
      False
  | n + 1, .plan q ops (.alt i p r) :: k, st =>
    (optOn ops[i]? (fun o => optOn o.guard
      (fun _ => optOn (awant ops st o)
        (fun x => (gstep T st o x).on (fun st' => goO P T pl Q n (.plan q ops p :: k) st')
          (way x (oblT x st.t o.op.operands.toList ∧ (Stp.go (st.lift o.op.operands.toList)).on (fun st1 => ((if q then vstep T st1 o else astep T st1 o)).on (fun st' => goO P T pl Q n (.plan q ops p :: k) st') (leafOp P T Q q ops i p k st1)) False)
            ((gskip st o).on (fun st' => goO P T pl Q n (.plan q ops p :: k) st') False)))
        False)
      ((if q then vstep T st o else astep T st o).on (fun st' => goO P T pl Q n (.plan q ops p :: k) st') (leafOp P T Q q ops i p k st)))
      False) ∧ goO P T pl Q n (.plan q ops r :: k) st
  | n + 1, .code .skip :: k, st => goO P T pl Q n k st
  | n + 1, .code (.label _) :: k, st => goO P T pl Q n k st
  | _ + 1, .code .ret :: _, st => Q .ret st
  | n + 1, .code (.exit id) :: k, st => optOn (popX id k) (fun k' => goO P T pl Q n k' st) (leaf P T Q (.code (.exit id) :: k) st)
  | n + 1, .code (.seq a b) :: k, st => goO P T pl Q n (.code a :: .code b :: k) st
  | n + 1, .code (.block id c) :: k, st => goO P T pl Q n (.code c :: .blk id :: k) st
  | n + 1, .code (.scope c) :: k, st => goO P T pl Q n (.code c :: .sco :: k) st
  | n + 1, .code (.region _ ops false) :: k, st => goO P T pl Q n (.ops ops ops.toList :: k) st
  | n + 1, .code (.region id ops true) :: k, st => optOn (lkp id pl) (fun x => goO P T pl Q n (.plan x.1 ops x.2 :: k) st) (leaf P T Q (.code (.region id ops true) :: k) st)
  | n + 1, .code (.cond c a b) :: k, st => condOn (st.ev c) (fun x => way x (goO P T pl Q n (.code a :: k) st) (goO P T pl Q n (.code b :: k) st)) (leaf P T Q (.code (.cond c a b) :: k) st)
  | _ + 1, .code (.loop c) :: k, st => leaf P T Q (.code (.loop c) :: k) st
  | _ + 1, .code (.rangeFunc f ps a b) :: k, st => leaf P T Q (.code (.rangeFunc f ps a b) :: k) st
  | _ + 1, .code (.goto l) :: k, st => leaf P T Q (.code (.goto l) :: k) st
  | _ + 1, .code (.refuse w) :: k, st => leaf P T Q (.code (.refuse w) :: k) st

/-! The same, with what is still to be done held as data. -/

def onK (G : List It → AS → Prop) (k : List It) (E : Prop) : Stp → Prop
  | .go st => G k st
  | .gc c st => c ∧ (c → G k st)
  | .stop => E
def condK (G : List It → AS → Prop) (ka kb : List It) (st : AS) (E : Prop) : V → Prop
  | .d (.val (.bool x)) => way x (G ka st) (G kb st)
  | _ => E
def popK (G : List It → AS → Prop) (st : AS) (E : Prop) : Option (List It) → Prop
  | some k => G k st
  | none => E
def plK (G : List It → AS → Prop) (ops : Array Oper) (k : List It) (st : AS) (E : Prop) : Option (Bool × Plan) → Prop
  | some x => G (.plan x.1 ops x.2 :: k) st
  | none => E
def gops2 (T : List (Nat × TI)) (G L : List It → AS → Prop) (ops : Array Oper) (o : Oper) (r : List Oper) (k : List It) (st : AS) (x : Bool) : Stp → Prop
  | .go st' => G (.ops ops r :: k) st'
  | .gc c st' => c ∧ (c → G (.ops ops r :: k) st')
  | .stop => way x (oblT x st.t o.op.operands.toList ∧ onK G (.ops ops r :: k) (L (.ops ops (o :: r) :: k) (st.lift o.op.operands.toList)) (astep T (st.lift o.op.operands.toList) o)) (onK G (.ops ops r :: k) False (gskip st o))
def gops1 (T : List (Nat × TI)) (G L : List It → AS → Prop) (ops : Array Oper) (o : Oper) (r : List Oper) (k : List It) (st : AS) : Option Bool → Prop
  | some x => gops2 T G L ops o r k st x (gstep T st o x)
  | none => L (.ops ops (o :: r) :: k) st
def opsK (T : List (Nat × TI)) (G L : List It → AS → Prop) (ops : Array Oper) (r : List Oper) (k : List It) (st : AS) : Oper → Prop
  | ⟨d, op, ty, pos, af, none⟩ => onK G (.ops ops r :: k) (L (.ops ops (⟨d, op, ty, pos, af, none⟩ :: r) :: k) st) (astep T st ⟨d, op, ty, pos, af, none⟩)
  | ⟨d, op, ty, pos, af, some g⟩ => gops1 T G L ops ⟨d, op, ty, pos, af, some g⟩ r k st (awant ops st ⟨d, op, ty, pos, af, some g⟩)
def take2 (G : List It → AS → Prop) (q : Bool) (ops : Array Oper) (p : Plan) (o : Oper) (k : List It) (st : AS) (x : Bool) : Stp → Prop
  | .go st' => G (.plan q ops p :: k) st'
  | .gc c st' => c ∧ (c → G (.plan q ops p :: k) st')
  | .stop => way x False (onK G (.plan q ops p :: k) False (gskip st o))
def take1 (T : List (Nat × TI)) (G : List It → AS → Prop) (q : Bool) (ops : Array Oper) (p : Plan) (o : Oper) (k : List It) (st : AS) : Option Bool → Prop
  | some x => take2 G q ops p o k st x (gstep T st o x)
  | none => False
def takeK' (T : List (Nat × TI)) (G : List It → AS → Prop) (q : Bool) (ops : Array Oper) (p : Plan) (k : List It) (st : AS) : Option Oper → Prop
  | some ⟨d, op, ty, pos, af, none⟩ => onK G (.plan q ops p :: k) False (vstep T st ⟨d, op, ty, pos, af, none⟩)
  | some ⟨d, op, ty, pos, af, some g⟩ => take1 T G q ops p ⟨d, op, ty, pos, af, some g⟩ k st (awant ops st ⟨d, op, ty, pos, af, some g⟩)
  | none => False
def alt2 (T : List (Nat × TI)) (G : List It → AS → Prop) (L : AS → Prop) (q : Bool) (ops : Array Oper) (p : Plan) (o : Oper) (k : List It) (st : AS) (x : Bool) : Stp → Prop
  | .go st' => G (.plan q ops p :: k) st'
  | .gc c st' => c ∧ (c → G (.plan q ops p :: k) st')
  | .stop => way x (oblT x st.t o.op.operands.toList ∧ onK G (.plan q ops p :: k) (L (st.lift o.op.operands.toList)) (if q then vstep T (st.lift o.op.operands.toList) o else astep T (st.lift o.op.operands.toList) o)) (onK G (.plan q ops p :: k) False (gskip st o))
def alt1 (T : List (Nat × TI)) (G : List It → AS → Prop) (L : AS → Prop) (q : Bool) (ops : Array Oper) (p : Plan) (o : Oper) (k : List It) (st : AS) : Option Bool → Prop
  | some x => alt2 T G L q ops p o k st x (gstep T st o x)
  | none => False
def altK (T : List (Nat × TI)) (G : List It → AS → Prop) (L : AS → Prop) (q : Bool) (ops : Array Oper) (p : Plan) (k : List It) (st : AS) : Option Oper → Prop
  | some ⟨d, op, ty, pos, af, none⟩ => onK G (.plan q ops p :: k) (L st) (if q then vstep T st ⟨d, op, ty, pos, af, none⟩ else astep T st ⟨d, op, ty, pos, af, none⟩)
  | some ⟨d, op, ty, pos, af, some g⟩ => alt1 T G L q ops p ⟨d, op, ty, pos, af, some g⟩ k st (awant ops st ⟨d, op, ty, pos, af, some g⟩)
  | none => False
def stepK (P : Program) (T : List (Nat × TI)) (pl : List (Nat × Bool × Plan)) (Q : Exit → AS → Prop) (G : List It → AS → Prop) : List It → AS → Prop
  | [], st => Q .normal st
  | .blk _ :: k, st => G k st
  | .sco :: k, st => G k st
  | .lp J :: _, st => J st
  | .ops _ [] :: k, st => G k st
  | .ops ops (o :: r) :: k, st => opsK T G (leaf P T Q) ops r k st o
  | .plan _ _ .done :: k, st => G k st
  | .plan _ _ .fin :: _, _ => True
  | .plan q ops (.take i p) :: k, st => takeK' T G q ops p k st ops[i]?
  | .plan q ops (.alt i p r) :: k, st => altK T G (leafOp P T Q q ops i p k) q ops p k st ops[i]? ∧ G (.plan q ops r :: k) st
  | .code .skip :: k, st => G k st
  | .code (.label _) :: k, st => G k st
  | .code .ret :: _, st => Q .ret st
  | .code (.exit id) :: k, st => popK G st (leaf P T Q (.code (.exit id) :: k) st) (popX id k)
  | .code (.seq a b) :: k, st => G (.code a :: .code b :: k) st
  | .code (.block id c) :: k, st => G (.code c :: .blk id :: k) st
  | .code (.scope c) :: k, st => G (.code c :: .sco :: k) st
  | .code (.region _ ops false) :: k, st => G (.ops ops ops.toList :: k) st
  | .code (.region id ops true) :: k, st => plK G ops k st (leaf P T Q (.code (.region id ops true) :: k) st) (lkp id pl)
  | .code (.cond c a b) :: k, st => condK G (.code a :: k) (.code b :: k) st (leaf P T Q (.code (.cond c a b) :: k) st) (st.ev c)
  | .code (.loop c) :: k, st => leaf P T Q (.code (.loop c) :: k) st
  | .code (.rangeFunc f ps a b) :: k, st => leaf P T Q (.code (.rangeFunc f ps a b) :: k) st
  | .code (.goto l) :: k, st => leaf P T Q (.code (.goto l) :: k) st
  | .code (.refuse w) :: k, st => leaf P T Q (.code (.refuse w) :: k) st
def go (P : Program) (T : List (Nat × TI)) (pl : List (Nat × Bool × Plan)) (Q : Exit → AS → Prop) : Nat → List It → AS → Prop
  | 0 => leaf P T Q
  | n + 1 => stepK P T pl Q (go P T pl Q n)
theorem go_zero (P : Program) (T : List (Nat × TI)) (pl : List (Nat × Bool × Plan)) (Q : Exit → AS → Prop) (k : List It) (st : AS) : go P T pl Q 0 k st = leaf P T Q k st := rfl
theorem go_succ (P : Program) (T : List (Nat × TI)) (pl : List (Nat × Bool × Plan)) (Q : Exit → AS → Prop) (n : Nat) (k : List It) (st : AS) : go P T pl Q (n + 1) k st = stepK P T pl Q (go P T pl Q n) k st := rfl

theorem onK_eq (G : List It → AS → Prop) (k : List It) (E : Prop) (x : Stp) : onK G k E x = x.on (fun st' => G k st') E := by cases x <;> rfl

theorem stepK_eq (P : Program) (T : List (Nat × TI)) (pl : List (Nat × Bool × Plan)) (Q : Exit → AS → Prop) (n : Nat) : ∀ (k : List It) (st : AS), stepK P T pl Q (goO P T pl Q n) k st = goO P T pl Q (n + 1) k st
  | [], st => rfl
  | .blk _ :: k, st => rfl
  | .sco :: k, st => rfl
  | .lp J :: _, st => rfl
  | .ops _ [] :: k, st => rfl
  | .ops ops (⟨d, op, ty, pos, af, none⟩ :: r) :: k, st => by
    show onK _ _ _ _ = _
    rw [onK_eq]; rfl
  | .ops ops (⟨d, op, ty, pos, af, some g⟩ :: r) :: k, st => by
    show gops1 _ _ _ _ _ _ _ _ (awant ops st _) = optOn (awant ops st ⟨d, op, ty, pos, af, some g⟩) _ _
    cases awant ops st ⟨d, op, ty, pos, af, some g⟩ with
    | none => rfl
    | some x =>
      show gops2 _ _ _ _ _ _ _ _ _ (gstep T st _ x) = (gstep T st _ x).on _ _
      cases gstep T st ⟨d, op, ty, pos, af, some g⟩ x with
      | go st' => rfl
      | gc c st' => rfl
      | stop => show way x (_ ∧ onK _ _ _ _) (onK _ _ _ _) = _; rw [onK_eq, onK_eq]; rfl
  | .plan _ _ .done :: k, st => rfl
  | .plan _ _ .fin :: _, _ => rfl
  | .plan q ops (.take i p) :: k, st => by
    show takeK' _ _ _ _ _ _ _ ops[i]? = optOn ops[i]? _ _
    cases ops[i]? with
    | none => rfl
    | some o => match o with
      | ⟨d, op, ty, pos, af, none⟩ => show onK _ _ _ _ = _; rw [onK_eq]; rfl
      | ⟨d, op, ty, pos, af, some g⟩ =>
        show take1 _ _ _ _ _ _ _ _ (awant ops st _) = optOn (awant ops st ⟨d, op, ty, pos, af, some g⟩) _ _
        cases awant ops st ⟨d, op, ty, pos, af, some g⟩ with
        | none => rfl
        | some x =>
          show take2 _ _ _ _ _ _ _ _ (gstep T st _ x) = (gstep T st _ x).on _ _
          cases gstep T st ⟨d, op, ty, pos, af, some g⟩ x with
          | go st' => rfl
          | gc c st' => rfl
          | stop => show way x False (onK _ _ _ _) = _; rw [onK_eq]; rfl
  | .plan q ops (.alt i p r) :: k, st => by
    show (altK _ _ _ _ _ _ _ _ ops[i]? ∧ _) = (optOn ops[i]? _ _ ∧ _)
    congr 1
    cases ops[i]? with
    | none => rfl
    | some o => match o with
      | ⟨d, op, ty, pos, af, none⟩ => show onK _ _ _ _ = _; rw [onK_eq]; rfl
      | ⟨d, op, ty, pos, af, some g⟩ =>
        show alt1 _ _ _ _ _ _ _ _ _ (awant ops st _) = optOn (awant ops st ⟨d, op, ty, pos, af, some g⟩) _ _
        cases awant ops st ⟨d, op, ty, pos, af, some g⟩ with
        | none => rfl
        | some x =>
          show alt2 _ _ _ _ _ _ _ _ _ _ (gstep T st _ x) = (gstep T st _ x).on _ _
          cases gstep T st ⟨d, op, ty, pos, af, some g⟩ x with
          | go st' => rfl
          | gc c st' => rfl
          | stop => show way x (_ ∧ onK _ _ _ _) (onK _ _ _ _) = _; rw [onK_eq, onK_eq]; rfl
  | .code .skip :: k, st => rfl
  | .code (.label _) :: k, st => rfl
  | .code .ret :: _, st => rfl
  | .code (.exit id) :: k, st => by
    show popK _ _ _ (popX id k) = optOn (popX id k) _ _
    cases popX id k <;> rfl
  | .code (.seq a b) :: k, st => rfl
  | .code (.block id c) :: k, st => rfl
  | .code (.scope c) :: k, st => rfl
  | .code (.region _ ops false) :: k, st => rfl
  | .code (.region id ops true) :: k, st => by
    show plK _ _ _ _ _ (lkp id pl) = optOn (lkp id pl) _ _
    cases lkp id pl <;> rfl
  | .code (.cond c a b) :: k, st => by
    show condK _ _ _ _ _ (st.ev c) = condOn (st.ev c) _ _
    unfold condOn
    split
    · rename_i x hx; rw [hx]; rfl
    · rename_i hx
      generalize st.ev c = v at *
      unfold condK
      split
      · rename_i x; exact absurd rfl (hx x)
      · rfl
  | .code (.loop c) :: k, st => rfl
  | .code (.rangeFunc f ps a b) :: k, st => rfl
  | .code (.goto l) :: k, st => rfl
  | .code (.refuse w) :: k, st => rfl
theorem go_eq (P : Program) (T : List (Nat × TI)) (pl : List (Nat × Bool × Plan)) (Q : Exit → AS → Prop) : ∀ n, go P T pl Q n = goO P T pl Q n
  | 0 => by funext k st; cases k <;> rfl
  | n + 1 => by
    funext k st
    rw [go_succ, go_eq P T pl Q n, stepK_eq]

/-- Do the plans fit what is to be done? -/
def fitsC (pl : List (Nat × Bool × Plan)) : Code → Bool
  | .seq a b => fitsC pl a && fitsC pl b
  | .block _ c => fitsC pl c
  | .scope c => fitsC pl c
  | .cond _ a b => fitsC pl a && fitsC pl b
  | .region id ops true => match lkp id pl with
    | some (q, p) => plain ops && okP q ops false p ops.size (Array.replicate ops.size false)
    | none => true
  | _ => true
def fitsK (pl : List (Nat × Bool × Plan)) : List It → Bool
  | [] => true
  | .code c :: k => fitsC pl c && fitsK pl k
  | .plan _ ops _ :: k => plain ops && fitsK pl k
  | _ :: k => fitsK pl k

section
variable {P : Program} {T : List (Nat × TI)} {pl : List (Nat × Bool × Plan)} {Q : Exit → AS → Prop}

theorem outT_ret : ∀ (k : List It) (s : AS), outT P T Q k .ret s = Q .ret s
  | [], s => rfl
  | .code _ :: k, s => outT_ret k s
  | .ops _ _ :: k, s => outT_ret k s
  | .plan _ _ _ :: k, s => outT_ret k s
  | .blk _ :: k, s => outT_ret k s
  | .sco :: k, s => outT_ret k s
  | .lp _ :: k, s => outT_ret k s

theorem outT_exit {id : Nat} {s : AS} : ∀ (k : List It) {k' : List It}, popX id k = some k' → outT P T Q k' .normal s → outT P T Q k (.exit id) s
  | [], _, h, _ => by cases h
  | .code _ :: k, _, h, hq => outT_exit k h hq
  | .ops _ _ :: k, _, h, hq => outT_exit k h hq
  | .plan _ _ _ :: k, _, h, hq => outT_exit k h hq
  | .sco :: k, _, h, hq => outT_exit k h hq
  | .lp _ :: k, _, h, hq => outT_exit k h hq
  | .blk j :: k, _, h, hq => by
    simp only [popX] at h
    simp only [outT]
    split at h
    · rename_i e; cases h; rw [if_pos e]; exact hq
    · rename_i e; rw [if_neg e]; exact outT_exit k h hq

theorem fitsK_pop {id : Nat} : ∀ {k k' : List It}, popX id k = some k' → fitsK pl k = true → fitsK pl k' = true
  | [], _, h, _ => by cases h
  | .code _ :: k, _, h, hf => by simp only [fitsK, Bool.and_eq_true] at hf; exact fitsK_pop (k := k) h hf.2
  | .ops _ _ :: k, _, h, hf => fitsK_pop (k := k) h hf
  | .plan _ _ _ :: k, _, h, hf => by simp only [fitsK, Bool.and_eq_true] at hf; exact fitsK_pop (k := k) h hf.2
  | .sco :: k, _, h, hf => fitsK_pop (k := k) h hf
  | .lp _ :: k, _, h, hf => fitsK_pop (k := k) h hf
  | .blk j :: k, _, h, hf => by
    simp only [popX] at h
    split at h
    · cases h; exact hf
    · exact fitsK_pop (k := k) h hf

theorem Stp.on_mono {s : Stp} {G G' : AS → Prop} {E E' : Prop} (h : s.on G E) (hg : ∀ st, G st → G' st) (he : E → E') : s.on G' E' := by
  cases s with
  | go st => exact hg _ h
  | gc c st => exact ⟨h.1, fun hc => hg _ (h.2 hc)⟩
  | stop => exact he h

theorem step1_sound (hT : TOK P T) {ops : Array Oper} {o : Oper} {r : List Oper} {st : AS} {N : Exit → AS → Prop} {K E : AS → Prop} (hK : ∀ st', K st' → AL P ops r st' N) (hE : ∀ st1, E st1 → AL P ops (o :: r) st1 N)
    (h : optOn o.guard
      (fun _ => optOn (awant ops st o)
        (fun x => (gstep T st o x).on K
          (way x (oblT x st.t o.op.operands.toList ∧ (Stp.go (st.lift o.op.operands.toList)).on (fun st1 => (astep T st1 o).on K (E st1)) False)
            ((gskip st o).on K False)))
        (E st))
      ((astep T st o).on K (E st))) : AL P ops (o :: r) st N := by
  have hok := astep_OK (st := st) hT o
  have go : awant ops st o = some true → (astep T st o).on K (E st) → AL P ops (o :: r) st N := fun hw h => by
    unfold Stp.on at h
    split at h
    · rename_i st' hs
      rw [hs] at hok
      exact AL.op (fun c hc => by rw [astep_not_defer hc] at hs; cases hs) hw hok (hK _ h)
    · rename_i c st' hs
      rw [hs] at hok
      exact AL.op (fun c hc => by rw [astep_not_defer hc] at hs; cases hs) hw (hok h.1) (hK _ (h.2 h.1))
    · exact hE _ h
  have hokL := astep_OK (st := st.lift o.op.operands.toList) hT o
  have goL : awant ops st o = some true → oblT true st.t o.op.operands.toList → (astep T (st.lift o.op.operands.toList) o).on K (E (st.lift o.op.operands.toList)) → AL P ops (o :: r) st N := fun hw ho h => by
    unfold Stp.on at h
    split at h
    · rename_i st' hs
      rw [hs] at hokL
      exact AL.opL (fun c hc => by rw [astep_not_defer hc] at hs; cases hs) hw rfl ho hokL (hK _ h)
    · rename_i c st' hs
      rw [hs] at hokL
      exact AL.opL (fun c hc => by rw [astep_not_defer hc] at hs; cases hs) hw rfl ho (hokL h.1) (hK _ (h.2 h.1))
    · exact AL.liftS (o := o) rfl ho (hE _ h)
  have goS : awant ops st o = some false → (gskip st o).on K False → AL P ops (o :: r) st N := fun hw h => by
    unfold gskip at h
    split at h
    · rename_i d hd
      split at h
      · rename_i hn; exact AL.skip hw hd hn (hK _ h)
      · exact h.elim
    · rename_i hd; exact AL.skip0 hw hd (hK _ h)
  unfold optOn at h
  split at h
  rotate_left
  · rename_i hg
    exact go (by unfold awant; rw [hg]) h
  · try dsimp only at h
    split at h
    · rename_i x hw
      try dsimp only at h
      have stop : (way x (oblT x st.t o.op.operands.toList ∧ (Stp.go (st.lift o.op.operands.toList)).on (fun st1 => (astep T st1 o).on K (E st1)) False)
          ((gskip st o).on K False)) → AL P ops (o :: r) st N := fun h => by
        cases x with
        | true => exact goL hw (h.1 rfl).1 (h.1 rfl).2
        | false => exact goS hw (h.2 rfl)
      unfold gstep at h
      split at h
      · rename_i d hd
        split at h
        · rename_i hn
          split at h
          · rename_i v hv
            refine AL.guarded (fun c hc => by rw [gval_not_defer hc] at hv; cases hv) hw hd hn (fun hx ro k w a ms s => ?_) (hK _ (h.2 h.1))
            have := aval2_sound hT o (s.view hx h.1)
            unfold gval at hv
            rw [hv] at this
            obtain ⟨u, hu, he⟩ := this
            exact ⟨u, hu w fun _ => Still.refl w, he⟩
          · rename_i c v hv
            refine AL.guarded (fun c hc => by rw [gval_not_defer hc] at hv; cases hv) hw hd hn (fun hx ro k w a ms s => ?_) (hK _ (h.2 h.1))
            have := aval2_sound hT o (s.view hx h.1.1)
            unfold gval at hv
            rw [hv] at this
            obtain ⟨u, hu, he⟩ := this (h.1.2 hx)
            exact ⟨u, hu w fun _ => Still.refl w, he⟩
          · exact stop h
        · exact stop h
      · exact stop h
    · exact hE _ h

/-- One of several: its step. -/
theorem stepPl_of {q : Bool} {ops : Array Oper} {i : Nat} {st : AS} {K E N : AS → Prop} (hK : ∀ st', K st' → N st') (hE : ∀ st1, E st1 → AOp P q ops i st1 N)
    (h : optOn ops[i]? (fun o => optOn o.guard
      (fun _ => optOn (awant ops st o)
        (fun x => (gstep T st o x).on K
          (way x (oblT x st.t o.op.operands.toList ∧ (Stp.go (st.lift o.op.operands.toList)).on (fun st1 => ((if q then vstep T st1 o else astep T st1 o)).on K (E st1)) False)
            ((gskip st o).on K False)))
        False)
      ((if q then vstep T st o else astep T st o).on K (E st)))
      False) : stepPl P T q ops i st N := by
  have c : ∀ {o : Oper} {st : AS}, (if q then vstep T st o else astep T st o).on K (E st) → stepC P T q ops i o st N := fun h => by
    unfold stepC
    cases q with
    | true => exact Stp.on_mono (s := vstep T _ _) h hK (hE _)
    | false => exact Stp.on_mono (s := astep T _ _) h hK (hE _)
  unfold stepPl
  cases hi : ops[i]? with
  | none => rw [hi] at h; exact h
  | some o =>
    rw [hi] at h
    simp only [optOn_some] at h ⊢
    cases hg : o.guard with
    | none => rw [hg] at h; exact c h
    | some g =>
      rw [hg] at h
      simp only [optOn_some] at h ⊢
      cases hw : awant ops st o with
      | none => rw [hw] at h; exact h
      | some x =>
        rw [hw] at h
        simp only [optOn_some] at h ⊢
        refine Stp.on_mono h hK fun h => ⟨fun e => ⟨(h.1 e).1, ?_⟩, fun e => Stp.on_mono (h.2 e) hK id⟩
        exact c (h.1 e).2

theorem takePl_of {ops : Array Oper} {i : Nat} {st : AS} {K N : AS → Prop} (hK : ∀ st', K st' → N st')
    (h : optOn ops[i]? (fun o => optOn o.guard
      (fun _ => optOn (awant ops st o)
        (fun x => (gstep T st o x).on K (way x False ((gskip st o).on K False)))
        False)
      ((vstep T st o).on K False))
      False) : takePl T ops i st N := by
  unfold takePl
  cases hi : ops[i]? with
  | none => rw [hi] at h; exact h
  | some o =>
    rw [hi] at h
    simp only [optOn_some] at h ⊢
    cases hg : o.guard with
    | none => rw [hg] at h; exact Stp.on_mono (s := vstep T st o) h hK id
    | some g =>
      rw [hg] at h
      simp only [optOn_some] at h ⊢
      cases hw : awant ops st o with
      | none => rw [hw] at h; exact h
      | some x =>
        rw [hw] at h
        simp only [optOn_some] at h ⊢
        exact Stp.on_mono h hK fun h => ⟨fun e => h.1 e, fun e => Stp.on_mono (h.2 e) hK id⟩

theorem goO_sound (hT : TOK P T) (hm : P.follows .mixedOrders = true) : ∀ (n : Nat) (k : List It) (st : AS), fitsK pl k = true → goO P T pl Q n k st → outT P T Q k .normal st
  | 0, k, st, _, h => h
  | n + 1, [], st, _, h => h
  | n + 1, .blk _ :: k, st, hf, h => goO_sound hT hm n k st hf h
  | n + 1, .sco :: k, st, hf, h => goO_sound hT hm n k st hf h
  | n + 1, .lp J :: k, st, hf, h => h
  | n + 1, .ops _ [] :: k, st, hf, h => AL.nil (goO_sound hT hm n k st hf h)
  | n + 1, .ops ops (o :: r) :: k, st, hf, h => step1_sound hT (K := fun st' => goO P T pl Q n (.ops ops r :: k) st') (E := fun st1 => leaf P T Q (.ops ops (o :: r) :: k) st1) (fun st' h => goO_sound hT hm n (.ops ops r :: k) st' hf h) (fun st1 h => h) h
  | n + 1, .plan _ _ .done :: k, st, hf, h => by
    simp only [fitsK, Bool.and_eq_true] at hf
    exact goO_sound hT hm n k st hf.2 h
  | n + 1, .plan _ _ .fin :: k, st, hf, h => trivial
  | n + 1, .plan q ops (.take i p) :: k, st, hf, h => takePl_of (fun st' h => goO_sound hT hm n (.plan q ops p :: k) st' hf h) h
  | n + 1, .plan q ops (.alt i p r) :: k, st, hf, h => ⟨stepPl_of (E := fun st1 => leafOp P T Q q ops i p k st1) (fun st' h => goO_sound hT hm n (.plan q ops p :: k) st' hf h) (fun st1 h => h) h.1, goO_sound hT hm n (.plan q ops r :: k) st hf h.2⟩
  | n + 1, .code .skip :: k, st, hf, h => AWP.skip (goO_sound hT hm n k st (by simp only [fitsK, Bool.and_eq_true] at hf; exact hf.2) h)
  | n + 1, .code (.label _) :: k, st, hf, h => AWP.label (goO_sound hT hm n k st (by simp only [fitsK, Bool.and_eq_true] at hf; exact hf.2) h)
  | n + 1, .code .ret :: k, st, hf, h => AWP.ret (by rw [outT_ret]; exact h)
  | n + 1, .code (.exit id) :: k, st, hf, h => by
    simp only [goO] at h
    cases hp : popX id k with
    | none => rw [hp] at h; exact h
    | some k' =>
      rw [hp] at h
      simp only [fitsK, Bool.and_eq_true] at hf
      exact AWP.exit (outT_exit k hp (goO_sound hT hm n k' st (fitsK_pop hp hf.2) h))
  | n + 1, .code (.seq a b) :: k, st, hf, h => by
    simp only [fitsK, fitsC, Bool.and_eq_true] at hf
    have := goO_sound hT hm n (.code a :: .code b :: k) st (by simp only [fitsK, Bool.and_eq_true]; exact ⟨hf.1.1, hf.1.2, hf.2⟩) h
    refine AWP.seq (AWP.mono this fun e s hq => ?_)
    cases e <;> exact hq
  | n + 1, .code (.block id c) :: k, st, hf, h => by
    simp only [fitsK, fitsC, Bool.and_eq_true] at hf
    have := goO_sound hT hm n (.code c :: .blk id :: k) st (by simp only [fitsK, Bool.and_eq_true]; exact ⟨hf.1, hf.2⟩) h
    refine AWP.block (AWP.mono this fun e s hq => ?_)
    cases e <;> exact hq
  | n + 1, .code (.scope c) :: k, st, hf, h => by
    simp only [fitsK, fitsC, Bool.and_eq_true] at hf
    have := goO_sound hT hm n (.code c :: .sco :: k) st (by simp only [fitsK, Bool.and_eq_true]; exact ⟨hf.1, hf.2⟩) h
    refine AWP.scope (AWP.mono this fun e s hq => ?_)
    cases e <;> exact hq
  | n + 1, .code (.region _ ops false) :: k, st, hf, h => by
    simp only [fitsK, Bool.and_eq_true] at hf
    exact AWP.region (goO_sound hT hm n (.ops ops ops.toList :: k) st hf.2 h)
  | n + 1, .code (.region id ops true) :: k, st, hf, h => by
    simp only [fitsK, fitsC, Bool.and_eq_true] at hf
    simp only [goO] at h
    cases hl : lkp id pl with
    | none => rw [hl] at h; exact h
    | some x =>
      obtain ⟨q, p⟩ := x
      rw [hl] at h hf
      simp only [Bool.and_eq_true] at hf
      exact AWP.drawn hT hm hf.1.1 hf.1.2 (goO_sound hT hm n (.plan q ops p :: k) st (by simp only [fitsK, Bool.and_eq_true]; exact ⟨hf.1.1, hf.2⟩) h)
  | n + 1, .code (.cond c a b) :: k, st, hf, h => by
    simp only [fitsK, fitsC, Bool.and_eq_true] at hf
    simp only [goO] at h
    unfold condOn at h
    split at h
    · rename_i x hx
      exact AWP.cond hx (fun e => goO_sound hT hm n (.code a :: k) st (by simp only [fitsK, Bool.and_eq_true]; exact ⟨hf.1.1, hf.2⟩) (h.1 e)) (fun e => goO_sound hT hm n (.code b :: k) st (by simp only [fitsK, Bool.and_eq_true]; exact ⟨hf.1.2, hf.2⟩) (h.2 e))
    · exact h
  | n + 1, .code (.loop c) :: k, st, hf, h => h
  | n + 1, .code (.rangeFunc f ps a b) :: k, st, hf, h => h
  | n + 1, .code (.goto l) :: k, st, hf, h => h
  | n + 1, .code (.refuse w) :: k, st, hf, h => h

theorem go_sound (hT : TOK P T) (hm : P.follows .mixedOrders = true) (n : Nat) (k : List It) (st : AS) (hf : fitsK pl k = true) (h : go P T pl Q n k st) : outT P T Q k .normal st :=
  goO_sound hT hm n k st hf (by rw [← go_eq]; exact h)

/-- A CONTRACT OUT OF A BODY's RUN. -/
theorem PC.go (fuel : Nat) (pl : List (Nat × Bool × Plan)) (hT : TOK P T) (hm : P.follows .mixedOrders = true) {f : FuncId} {fn : Func} {c : Code} {n : Nat} {rs : List ResultVar} (hf : P.funcs[f]? = some fn) (hname : (fn.name == "runtime.NumGoroutine") = false) (hb : fn.body = some c) (hnt : fn.ntmps = n) (hrs : fn.results.toList = rs) {h : List (Nat × Ob)} {args : List V} {R : V → List (Nat × Ob) → Prop}
    (hn : Nat.ble args.length n = true) (hA : Nat.ble n ARG = true) (hfit : fitsC pl c = true) (hw : ∀ Q : Exit → AS → Prop, Q = retQ T rs R → AM.go P T pl Q fuel [.code c] { n := n, t := argT 0 args, h := h }) : PC P f h args R := by
  subst hnt; subst hrs
  refine PC.of_awp hT hf hb (Go.Proofs.enters_of hf hname hb) (Nat.le_of_ble_eq_true hn) (Nat.le_of_ble_eq_true hA) ?_
  have := go_sound hT hm fuel [.code c] _ (by simp only [fitsK, Bool.and_eq_true]; exact ⟨hfit, trivial⟩) (hw _ rfl)
  refine AWP.mono this fun e s hq => ?_
  cases e <;> exact hq
end
end Go.AM
end
section
/-! ## 28 -/
namespace Go.AM
open Go
set_option linter.unusedSectionVars false

/-! ### What is only read from here on -/

/-- What becomes of slices of an object and of pointers into it, when it is only read from here on. -/
structure Frz where
  own : Nat → Nat → Nat → V
  ok : Nat → Nat → Nat → Prop
  ptr : Nat → V

def Frz.arr (sz : Nat) (rows : List (List D)) : Frz := { own := fun _ lo n => .d (.sl sz ((rows.drop lo).take n)), ok := fun s lo n => s = sz ∧ lo + n ≤ rows.length, ptr := fun _ => .junk }
def Frz.cells (ds : List D) : Frz := { own := fun _ _ _ => .junk, ok := fun _ _ _ => True, ptr := fun o => .rp (ds.drop o) }

mutual
def V.frz (id : Nat) (z : Frz) : V → V
  | .own i s lo n => if i = id then z.own s lo n else .own i s lo n
  | .opt g x => .opt g (x.frz id z)
  | .fn f a b => .fn f (frzL id z a) (frzL id z b)
  | .agg l => .agg (frzL id z l)
  | .tup l => .tup (frzL id z l)
  | .ptr i o => if i = id then z.ptr o else .ptr i o
  | .ep i s r o => if i = id then .junk else .ep i s r o
  | .yld i => if i = id then .junk else .yld i
  | .mp i => if i = id then .junk else .mp i
  | .junk => .junk
  | .d x => .d x
  | .rp ds => .rp ds
  | .rr s rows i o => .rr s rows i o
  | .dagg l => .dagg l
def frzL (id : Nat) (z : Frz) : List V → List V
  | [] => []
  | x :: xs => x.frz id z :: frzL id z xs
end
mutual
/-- May it be? -/
def V.frzC (id : Nat) (z : Frz) : V → Prop
  | .own i s lo n => i = id → z.ok s lo n
  | .opt _ x => x.frzC id z
  | .fn _ a b => frzCL id z a ∧ frzCL id z b
  | .agg l => frzCL id z l
  | .tup l => frzCL id z l
  | _ => True
def frzCL (id : Nat) (z : Frz) : List V → Prop
  | [] => True
  | x :: xs => x.frzC id z ∧ frzCL id z xs
end
def Ob.frz (id : Nat) (z : Frz) : Ob → Ob
  | .cells vs => .cells (frzL id z vs)
  | .arr s r => .arr s r
  | .opq A => .opq A
def Ob.frzC (id : Nat) (z : Frz) : Ob → Prop
  | .cells vs => frzCL id z vs
  | _ => True
def frzT (id : Nat) (z : Frz) : List (Nat × V) → List (Nat × V)
  | [] => []
  | (i, x) :: r => (i, x.frz id z) :: frzT id z r
def frzH (id : Nat) (z : Frz) : List (Nat × Ob) → List (Nat × Ob)
  | [] => []
  | (i, x) :: r => if i = id then frzH id z r else (i, x.frz id z) :: frzH id z r
def frzCT (id : Nat) (z : Frz) : List (Nat × V) → Prop
  | [] => True
  | (_, x) :: r => x.frzC id z ∧ frzCT id z r
def frzCH (id : Nat) (z : Frz) : List (Nat × Ob) → Prop
  | [] => True
  | (i, x) :: r => (i = id ∨ x.frzC id z) ∧ frzCH id z r
/-- A state in which an object is only read from here on. -/
def AS.frz (st : AS) (id : Nat) (z : Frz) : AS := { n := st.n, t := frzT id z st.t, h := frzH id z st.h }
def K.frz (k : K) (id : Nat) : K := { S := fun b => k.S b ∨ k.X id b, β := fun i => if i = id then none else k.β i, X := fun i b => i ≠ id ∧ k.X i b }
/-- The object, as it is read. -/
def frzOf : Ob → Option Frz
  | .arr sz rows => some (.arr sz rows)
  | .cells vs => match toDs vs with
    | some ds => some (.cells ds)
    | none => none
  | .opq _ => none

variable [Env]
section
variable {P : Program} {T : List (Nat × TI)} {k : K} {w : World} {h : List (Nat × Ob)} {st : AS} {ro : Option Nat} {a : Act} {ms : List Nat} {id : Nat} {z : Frz}

def FrzOK (k : K) (w : World) (id : Nat) (z : Frz) : Prop :=
  (∀ s lo n v, z.ok s lo n → VEnc k w (.own id s lo n) v → VEnc (k.frz id) w (z.own s lo n) v) ∧ ∀ o v, VEnc k w (.ptr id o) v → VEnc (k.frz id) w (z.ptr o) v

theorem frz_arr {sz : Nat} {rows : List (List D)} (f1 : ∀ r ∈ rows, r.length = sz) (f3 : (k.β id = some none ∧ rows = []) ∨ ∃ b, k.β id = some (some b) ∧ k.X id b ∧ RowsAt (k.frz id).S w rows b 0) : FrzOK k w id (.arr sz rows) := by
  refine ⟨fun s lo n v hok h => ?_, fun _ _ _ => trivial⟩
  obtain ⟨rfl, hle⟩ := hok
  have hlen : ((rows.drop lo).take n).length = n := by simp only [List.length_take, List.length_drop]; omega
  have hu : ∀ r ∈ (rows.drop lo).take n, r.length = s := fun r hr => f1 r (List.mem_of_mem_drop (List.mem_of_mem_take hr))
  rcases h with ⟨h1, rfl, rfl, rfl⟩ | ⟨b, o, cap, cs, ty, fz, h1, rfl, h3, h4, h5, h6, h7, h8⟩
  · exact ⟨none, 0, by simp, by simp, by omega, by simp, hu, .inl (by simp)⟩
  · refine ⟨_, cap, by rw [hlen], by rw [hlen]; exact h3, h4, by rw [hlen]; exact h5, hu, ?_⟩
    by_cases hn : n = 0
    · left; rw [hn]; simp
    · right
      rcases f3 with ⟨f3, _⟩ | ⟨b', g1, g2, g3⟩
      · rw [h1] at f3; cases f3
      · rw [h1] at g1; cases g1
        refine ⟨b, o, rfl, .inr g2, ?_⟩
        rw [h7 (by omega)]
        have := (g3.dropR f1 lo).takeR n
        rwa [Nat.zero_add] at this

theorem frz_cells {ds : List D} (hb : ∀ b, k.β id = some (some b) → k.X id b ∧ CellsAt (k.frz id).S w ds b 0) : FrzOK k w id (.cells ds) := by
  refine ⟨fun _ _ _ _ _ _ => trivial, fun o v h => ?_⟩
  obtain ⟨b, e, rfl⟩ := h
  have := (hb b e).2.drop o
  rw [Nat.zero_add] at this
  exact ⟨b, o, rfl, .inr (hb b e).1, this⟩

mutual
theorem VEnc.frz (hf : FrzOK k w id z) : ∀ (x : V) (v : Value), x.frzC id z → VEnc k w x v → VEnc (k.frz id) w (x.frz id z) v
  | .junk, _, _, _ => trivial
  | .d x, v, _, h => DEnc.mono (fun _ _ => rfl) (fun _ h => .inl h) x v h
  | .ptr i o, v, _, h => by
    simp only [V.frz]; split
    · rename_i e; subst e; exact hf.2 o v h
    · rename_i e; simp only [VEnc, K.frz, if_neg e]; exact h
  | .own i s lo n, v, hc, h => by
    simp only [V.frz]; split
    · rename_i e; subst e; exact hf.1 s lo n v (hc rfl) h
    · rename_i e; simp only [VEnc, K.frz, if_neg e]; exact h
  | .ep i _ _ _, _, _, h => by
    simp only [V.frz]; split
    · trivial
    · rename_i e; simp only [VEnc, K.frz, if_neg e]; exact h
  | .rp ds, _, _, h => by obtain ⟨b, o, e, hb, hc⟩ := h; exact ⟨b, o, e, .inl hb, CellsAt.mono (fun _ _ => rfl) (fun _ h => .inl h) ds b o hb hc⟩
  | .rr _ rows _ _, _, _, h => by obtain ⟨b, o, e, hb, hc, h1⟩ := h; exact ⟨b, o, e, .inl hb, RowsAt.mono (fun _ _ => rfl) (fun _ h => .inl h) rows b o hb hc, h1⟩
  | .fn _ first caps, _, hc, h => by obtain ⟨fs, cs, e, h1, h2⟩ := h; exact ⟨fs, cs, e, VEncs.frz hf first _ hc.1 h1, VEncs.frz hf caps _ hc.2 h2⟩
  | .agg l, _, hc, h => by obtain ⟨cs, e, h1, h2⟩ := h; exact ⟨cs, e, VEncs.frz hf l _ hc h1, h2⟩
  | .dagg l, _, _, h => by obtain ⟨cs, e, h1⟩ := h; exact ⟨cs, e, DEncs.mono (fun _ _ => rfl) (fun _ h => .inl h) l _ h1⟩
  | .tup l, _, hc, h => by obtain ⟨cs, e, h1⟩ := h; exact ⟨cs, e, VEncs.frz hf l _ hc h1⟩
  | .yld i, _, _, h => by
    simp only [V.frz]; split
    · trivial
    · rename_i e; simp only [VEnc, K.frz, if_neg e]; exact h
  | .mp i, _, _, h => by
    simp only [V.frz]; split
    · trivial
    · rename_i e; simp only [VEnc, K.frz, if_neg e]; exact h
  | .opt _ x, v, hc, h => ⟨fun e => VEnc.frz hf x v hc (h.1 e), h.2⟩
theorem VEncs.frz (hf : FrzOK k w id z) : ∀ (l : List V) (vs : List Value), frzCL id z l → VEncs k w l vs → VEncs (k.frz id) w (frzL id z l) vs
  | [], [], _, _ => trivial
  | x :: xs, v :: vs, hc, h => ⟨VEnc.frz hf x v hc.1 h.1, VEncs.frz hf xs vs hc.2 h.2⟩
  | [], _ :: _, _, h => h.elim
  | _ :: _, [], _, h => h.elim
end

theorem look_frzT : ∀ (t : List (Nat × V)) (i : Nat), lkp i (frzT id z t) = (lkp i t).map (V.frz id z)
  | [], _ => rfl
  | (j, x) :: r, i => by
    simp only [frzT, lkp]
    split
    · rfl
    · exact look_frzT r i
theorem look_frzH : ∀ (h : List (Nat × Ob)) (i : Nat), lkp i (frzH id z h) = if i = id then none else (lkp i h).map (Ob.frz id z)
  | [], i => by simp [frzH, lkp]
  | (j, x) :: r, i => by
    simp only [frzH]
    by_cases e : j = id
    · rw [if_pos e, look_frzH r i]
      by_cases e' : i = id
      · rw [if_pos e', if_pos e']
      · rw [if_neg e', if_neg e']
        simp only [lkp]; rw [if_neg (fun h => e' (h.symm.trans e))]
    · rw [if_neg e]
      simp only [lkp]
      by_cases e2 : j = i
      · rw [if_pos e2, if_pos e2, if_neg (fun h => e (e2.trans h))]; rfl
      · rw [if_neg e2, if_neg e2]; exact look_frzH r i
theorem frzCT_get : ∀ {t : List (Nat × V)} {i : Nat} {x : V}, frzCT id z t → lkp i t = some x → x.frzC id z
  | (j, y) :: r, i, x, hc, h => by
    simp only [lkp] at h
    split at h
    · cases h; exact hc.1
    · exact frzCT_get hc.2 h
theorem frzCH_get : ∀ {t : List (Nat × Ob)} {i : Nat} {x : Ob}, frzCH id z t → lkp i t = some x → i ≠ id → x.frzC id z
  | (j, y) :: r, i, x, hc, h, hi => by
    simp only [lkp] at h
    split at h
    · rename_i e; cases h; exact hc.1.resolve_left (fun e2 => hi (e.symm.trans e2))
    · exact frzCH_get hc.2 h hi

theorem SimH.frzOK (s : SimH k w h) {o : Ob} (hl : lkp id h = some o) (hz : frzOf o = some z) : FrzOK k w id z := by
  cases o with
  | arr sz rows =>
    cases hz
    obtain ⟨h1, h2, h3⟩ := s.sat id _ hl
    refine frz_arr h2 ?_
    rcases h1 with ⟨a1, a2, _⟩ | ⟨b, cs, ty, a1, a2, a3, a4, a5⟩
    · exact .inl ⟨a1, a2⟩
    · exact .inr ⟨b, a1, s.prim id b a1, RowsAt.mono' (fun _ _ => rfl) (fun _ h => .inl h) rows b 0 rfl a4⟩
  | cells vs =>
    simp only [frzOf] at hz
    split at hz
    · rename_i ds hds
      cases hz
      obtain ⟨b, cs, ty, h1, h2, h3, h4, h5⟩ := s.sat id _ hl
      refine frz_cells fun b' hb' => ?_
      rw [h1] at hb'; cases hb'
      refine ⟨s.prim id b h1, ?_⟩
      have := toDs_sound vs _ h3 ds hds
      exact CellsAt.mono' (fun _ _ => rfl) (fun _ h => .inl h) ds b 0 rfl (CellsAt.of_encs this (rangeAt_of_block h2 fun q u hq => by rw [Nat.zero_add, ← Array.getElem?_toList]; exact hq))
    · cases hz
  | opq A => cases hz

theorem SimH.frz (s : SimH k w h) {o : Ob} (hl : lkp id h = some o) (hz : frzOf o = some z) (hc : frzCH id z h) : SimH (k.frz id) w (frzH id z h) where
  inj i j b h1 h2 := s.inj i j b h1.2 h2.2
  lt i b h1 := s.lt i b h1.2
  dis i b h1 h2 := h2.elim (s.dis i b h1.2) fun h3 => h1.1 (s.inj i id b h1.2 h3)
  slt b hb := hb.elim (s.slt b) (s.lt id b)
  env := s.env.mono (fun _ _ => rfl) (fun _ h => .inl h)
  prim i b h1 := by
    simp only [K.frz] at h1 ⊢
    split at h1
    · cases h1
    · rename_i e; exact ⟨e, s.prim i b h1⟩
  dom i := by
    simp only [K.frz]; rw [look_frzH]
    split
    · rfl
    · rw [s.dom i]; cases lkp i h <;> rfl
  domX i b h1 := by simp only [K.frz, if_neg h1.1]; exact s.domX i b h1.2
  sat i o h1 := by
    rw [look_frzH] at h1
    split at h1
    · cases h1
    · rename_i e
      cases hl2 : lkp i h with
      | none => rw [hl2] at h1; cases h1
      | some o' =>
        rw [hl2] at h1; cases h1
        have hb : (k.frz id).β i = k.β i := by simp [K.frz, e]
        have hX : ∀ b, (k.frz id).X i b ↔ k.X i b := fun b => by simp [K.frz, e]
        have hs := s.sat i o' hl2
        have hcc := frzCH_get hc hl2 e
        cases o' with
        | cells vs =>
          obtain ⟨b, cs, ty, h1, h2, h3, h4, h5⟩ := hs
          exact ⟨b, cs, ty, hb.trans h1, h2, VEncs.frz (s.frzOK hl hz) vs _ hcc h3, h4, fun b' hb' => h5 b' ((hX b').1 hb')⟩
        | arr s' r' =>
          obtain ⟨h1, h2⟩ := hs
          refine ⟨?_, h2⟩
          rcases h1 with ⟨a1, a2, a3⟩ | ⟨b, cs, ty, a1, a2, a3, a4, a5⟩
          · exact .inl ⟨hb.trans a1, a2, fun b' hb' => a3 b' ((hX b').1 hb')⟩
          · exact .inr ⟨b, cs, ty, hb.trans a1, a2, a3, RowsAt.mono' (fun _ _ => rfl) (fun _ h => .inl h) r' b 0 rfl a4, fun b' hb' => a5 b' ((hX b').1 hb')⟩
        | opq A =>
          obtain ⟨l', h1, h2⟩ := hs
          refine ⟨l', hb.trans h1, ?_⟩
          have : (k.frz id).X i = k.X i := by funext b; exact propext (hX b)
          rw [this]
          exact A.stable h2 (.refl w) (fun _ _ => rfl) (fun _ h => .inl h)

theorem Ext.frz (k : K) (w : World) (id : Nat) : Ext k w (k.frz id) w :=
  ⟨.refl w, fun _ _ _ => rfl, fun _ h => .inl h, fun b h => h.elim .inl fun h => .inr (.inl ⟨id, h⟩), fun i _ h => .inl ⟨i, h.2⟩, fun i l _ h => by
    simp only [K.frz] at h; split at h
    · cases h
    · exact h⟩

theorem Sim.frz (s : Sim ro k w st a ms) {o : Ob} (hl : lkp id st.h = some o) (hz : frzOf o = some z) (hc : frzCT id z st.t) (hh : frzCH id z st.h) : Sim ro (k.frz id) w (st.frz id z) a ms := by
  refine ⟨s.H.frz hl hz hh, ⟨s.T.size, s.T.arg, fun i x hx => ?_⟩, ⟨s.M.eq, s.M.nodup, s.M.heap, fun D hD hs => hs.elim (s.M.noS D hD) (s.M.noX D hD id), fun D hD i hx => s.M.noX D hD i hx.2, fun l hl => ⟨(s.M.rd l hl).1, fun hs => hs.elim (s.M.rd l hl).2.1 ((s.M.rd l hl).2.2 id), fun i hx => (s.M.rd l hl).2.2 i hx.2⟩⟩⟩
  simp only [AS.frz] at hx
  rw [look_frzT] at hx
  cases hl2 : lkp i st.t with
  | none => rw [hl2] at hx; cases hx
  | some x' =>
    rw [hl2] at hx; cases hx
    obtain ⟨v, hv, he⟩ := s.T.tm i x' hl2
    exact ⟨v, hv, VEnc.frz (s.H.frzOK hl hz) x' v (frzCT_get hc hl2) he⟩

/-- A contract's own row is handed back to be only read. -/
theorem PC.frz {f : FuncId} {args : List V} {Q Q' : V → List (Nat × Ob) → Prop} (hp : PC P f h args Q)
    (hq : ∀ r h', Q r h' → Q' r h' ∨ ∃ id o z, lkp id h' = some o ∧ frzOf o = some z ∧ r.frzC id z ∧ frzCH id z h' ∧ Q' (r.frz id z) (frzH id z h')) : PC P f h args Q' :=
  ⟨hp.1, fun k w vals H V => (hp.2 k w vals H V).mono fun e w' ⟨v, r, h', k', e1, e2, H', ex, q⟩ => by
    rcases hq r h' q with q | ⟨id, o, z, g1, g0, g2, g3, g4⟩
    · exact ⟨v, r, h', k', e1, e2, H', ex, q⟩
    · exact ⟨v, _, _, k'.frz id, e1, VEnc.frz (H'.frzOK g1 g0) r v g2 e2, H'.frz g1 g0 g3, ex.trans (Ext.frz k' w' id), g4⟩⟩
end

/-! ### At a leaf -/
section
variable {P : Program} {T : List (Nat × TI)} {Q : Exit → AS → Prop} {k : List It} {st : AS}

theorem AWP.of_all {c : Code} {N : Exit → AS → Prop} (h : ∀ ro k w a ms, Sim ro k w st a ms → ∃ k' st', Sim ro k' w st' a ms ∧ Ext k w k' w ∧ AWP P c st' N) : AWP P c st N := fun ro k w a ms s => by
  obtain ⟨k', st', s', e, h'⟩ := h ro k w a ms s
  exact wpIn_mono (h' ro k' w a ms s') fun _ _ _ hp => Post.step ⟨e, fun _ h => .inl h⟩ hp
theorem AL.of_all {ops : Array Oper} {l : List Oper} {N : Exit → AS → Prop} (h : ∀ ro k w a ms, Sim ro k w st a ms → ∃ k' st', Sim ro k' w st' a ms ∧ Ext k w k' w ∧ AL P ops l st' N) : AL P ops l st N := fun ro k w a ms s => by
  obtain ⟨k', st', s', e, h'⟩ := h ro k w a ms s
  exact wpListIn_mono' (h' ro k' w a ms s') fun _ _ _ hp => Post.step ⟨e, fun _ h => .inl h⟩ hp

/-- A state may be looked at otherwise, ahead of an operation or a piece of code. -/
def It.runs : It → Bool
  | .code _ => true
  | .ops _ _ => true
  | _ => false

theorem leaf.of_all {i : It} {k0 : List It} (hi : i.runs = true) (h : ∀ ro k w a ms, Sim ro k w st a ms → ∃ k' st', Sim ro k' w st' a ms ∧ Ext k w k' w ∧ leaf P T Q (i :: k0) st') : leaf P T Q (i :: k0) st := by
  cases i with
  | code c => exact AWP.of_all (P := P) h
  | ops ops l => exact AL.of_all (P := P) h
  | _ => cases hi

theorem leaf.frz {i : It} {k : List It} (id : Nat) (z : Frz) {o : Ob} (hi : i.runs = true) (hl : lkp id st.h = some o) (hz : frzOf o = some z) (hc : frzCT id z st.t) (hh : frzCH id z st.h) (h : leaf P T Q (i :: k) (st.frz id z)) : leaf P T Q (i :: k) st :=
  leaf.of_all hi fun _ k w _ _ s => ⟨k.frz id, _, s.frz hl hz hc hh, Ext.frz k w id, h⟩

theorem leaf.keep {i : It} {k : List It} (ts hs : List Nat) (hi : i.runs = true) (hc : st.closed ts hs = true) (h : leaf P T Q (i :: k) (st.keep ts hs)) : leaf P T Q (i :: k) st :=
  leaf.of_all hi fun _ k w _ _ s => ⟨k.only hs, _, (s.keep ts hs hc).1, (s.keep ts hs hc).2.ext, h⟩

theorem leaf.go (fuel : Nat) (pl : List (Nat × Bool × Plan)) (hT : TOK P T) (hm : P.follows .mixedOrders = true) (hf : fitsK pl k = true) (h : AM.go P T pl Q fuel k st) : leaf P T Q k st := go_sound hT hm fuel k st hf h

/-- A CALL OF A FUNCTION THAT IS HANDED DATA ALONE, and hands back data. -/
theorem leaf.call0 (fuel : Nat) (pl : List (Nat × Bool × Plan)) (hT : TOK P T) (hm : P.follows .mixedOrders = true) {fid : FuncId} {vals : List V} {Q0 : V → List (Nat × Ob) → Prop} (hp : PC P fid [] vals Q0)
    {ops : Array Oper} {o : Oper} {rest : List Oper} {c : Operand} {args : Array Operand} {ats : Array TypeId} (ho : o.op = .call { callee := .value c, args, argTypes := ats }) (hw : awant ops st o = some true) {d : Nat} (hd : o.dst = some d) (hn : Nat.blt d st.n = true)
    {first caps : List V} (hc : st.ev c = .fn fid first caps) (hv : first ++ args.toList.map st.ev ++ caps = vals) (hr : refsL vals = []) (hf : fitsK pl k = true)
    (hq : ∀ r h', Q0 r h' → h' = [] ∧ AM.go P T pl Q fuel (.ops ops rest :: k) (st.put d r)) : leaf P T Q (.ops ops (o :: rest) :: k) st := by
  subst hv
  exact AL.call0 ho hw hd (Nat.le_of_ble_eq_true hn) hc hp hr fun r h' hq' => ⟨(hq r h' hq').1, go_sound hT hm fuel (.ops ops rest :: k) _ hf (hq r h' hq').2⟩

/-- The same in a drawn region. -/
theorem leafOp.call0 (fuel : Nat) (pl : List (Nat × Bool × Plan)) (hT : TOK P T) (hm : P.follows .mixedOrders = true) {fid : FuncId} {vals : List V} {Q0 : V → List (Nat × Ob) → Prop} (hp : PC P fid [] vals Q0)
    {q : Bool} {ops : Array Oper} {i : Nat} {p : Plan} {o : Oper} {c : Operand} {args : Array Operand} {ats : Array TypeId} (hi : ops[i]? = some o) (ho : o.op = .call { callee := .value c, args, argTypes := ats }) (hw : awant ops st o = some true) {d : Nat} (hd : o.dst = some d) (hn : Nat.blt d st.n = true)
    {first caps : List V} (hc : st.ev c = .fn fid first caps) (hv : first ++ args.toList.map st.ev ++ caps = vals) (hr : refsL vals = []) (hf : fitsK pl (.plan q ops p :: k) = true)
    (hq : ∀ r h', Q0 r h' → h' = [] ∧ AM.go P T pl Q fuel (.plan q ops p :: k) (st.put d r)) : leafOp P T Q q ops i p k st := by
  subst hv
  exact AOp.call0 hi ho hw hd (Nat.le_of_ble_eq_true hn) hc hp hr fun r h' hq' => ⟨(hq r h' hq').1, go_sound hT hm fuel (.plan q ops p :: k) _ hf (hq r h' hq').2⟩

/-- A LOOP. -/
theorem leaf.loop (fuel : Nat) (pl : List (Nat × Bool × Plan)) (hT : TOK P T) (hm : P.follows .mixedOrders = true) {α : Type} (ts hs : List Nat) (I : α → AS) (inv : α → Prop) (μ : α → Nat) (x0 : α) {c : Code} (hc : st.closed ts hs = true) (h0 : st.keep ts hs = I x0) (hi : inv x0) (hf : fitsC pl c = true) (hk : fitsK pl k = true)
    (round : ∀ x, inv x → ∀ J : AS → Prop, (J = fun s => s.closed ts hs = true ∧ ∃ y, s.keep ts hs = I y ∧ inv y ∧ μ y < μ x) → AM.go P T pl Q fuel (.code c :: .lp J :: k) (I x)) : leaf P T Q (.code (.loop c) :: k) st := by
  refine leaf.keep ts hs rfl hc ?_
  rw [h0]
  refine AWP.loop (α := { x // inv x }) (fun x => I x.1) (fun x => μ x.1) ⟨x0, hi⟩ rfl fun x => ?_
  have := go_sound hT hm fuel (.code c :: .lp (fun s => s.closed ts hs = true ∧ ∃ y, s.keep ts hs = I y ∧ inv y ∧ μ y < μ x.1) :: k) _ (by simp only [fitsK, Bool.and_eq_true]; exact ⟨hf, hk⟩) (round x.1 x.2 _ rfl)
  refine AWP.post_keep (AWP.mono this fun e s hq => ?_)
  cases e with
  | normal =>
    obtain ⟨h1, y, h2, h3, h4⟩ := hq
    exact .inr ⟨ts, hs, h1, ⟨y, h3⟩, h2, h4⟩
  | exit id => exact .inl hq
  | goto l => exact .inl hq
  | ret => exact .inl hq
  | panic ch => exact .inl hq
  | outgrown => exact .inl hq
end
end Go.AM
end
section
/-! ## 29 -/
namespace Go.AM
open Go
set_option linter.unusedSectionVars false

mutual
/-- Structs and arrays of data are data. -/
def V.norm : V → V
  | .agg l => match toDs l with
    | some ds => .dagg ds
    | none => .agg l
  | .tup l => .tup (normL l)
  | x => x
def normL : List V → List V
  | [] => []
  | x :: xs => x.norm :: normL xs
end

mutual
theorem VEnc.norm {k : K} {w : World} : ∀ (x : V) (v : Value), VEnc k w x v → VEnc k w x.norm v
  | .agg l, v, h => by
    simp only [V.norm]
    split
    · rename_i ds hd
      obtain ⟨cs, e, h1, _⟩ := h
      exact ⟨cs, e, toDs_sound l _ h1 ds hd⟩
    · exact h
  | .tup l, v, h => by obtain ⟨cs, e, h1⟩ := h; exact ⟨cs, e, VEncs.norm l _ h1⟩
  | .junk, _, h | .d _, _, h | .ptr _ _, _, h | .own _ _ _ _, _, h | .ep _ _ _ _, _, h | .rp _, _, h | .rr _ _ _ _, _, h | .fn _ _ _, _, h | .dagg _, _, h | .yld _, _, h | .mp _, _, h | .opt _ _, _, h => h
theorem VEncs.norm {k : K} {w : World} : ∀ (l : List V) (vs : List Value), VEncs k w l vs → VEncs k w (normL l) vs
  | [], [], _ => trivial
  | x :: xs, v :: vs, h => ⟨VEnc.norm x v h.1, VEncs.norm xs vs h.2⟩
  | [], _ :: _, h => h.elim
  | _ :: _, [], h => h.elim
end

variable [Env]
/-- A function that hands back data: its own memory is let go. -/
theorem PC.pure {P : Program} {f : FuncId} {h : List (Nat × Ob)} {args : List V} {R : V → Prop} (hp : PC P f h args fun r _ => r.norm.refs = [] ∧ R r.norm) : PC P f h args fun r h' => h' = [] ∧ R r := by
  refine ⟨hp.1, fun k w vals H Vv => (hp.2 k w vals H Vv).mono fun e w' ⟨v, r, h', k', e1, e2, H', ex, q1, q2⟩ => ?_⟩
  refine ⟨v, r.norm, [], k'.bare, e1, ?_, H'.bare, ?_, rfl, q2⟩
  · exact VEnc.agree (k := k') (k' := k'.bare) _ _ ⟨rfl, fun i hi => by rw [q1] at hi; cases hi⟩ (VEnc.norm r v e2)
  · exact ⟨ex.grows, ex.frame, ex.sub, ex.newS, fun i b hx => hx.elim, fun i l _ hl => by simp [K.bare] at hl⟩
end Go.AM
end
section
/-! ## 30 -/
namespace Go.AM
open Go
set_option linter.unusedSectionVars false
variable [Env]
section
variable {P : Program} {T : List (Nat × TI)} {Q : Exit → AS → Prop} {k : List It} {st : AS}

/-- Structs and arrays of data may be handed over as data. -/
theorem PC.unnorm {f : FuncId} {h : List (Nat × Ob)} {args vals : List V} {Q : V → List (Nat × Ob) → Prop} (hp : PC P f h vals Q) (hv : normL args = vals) : PC P f h args Q := by
  subst hv
  exact ⟨hp.1, fun k w vs H Vv => hp.2 k w vs H (VEncs.norm args _ Vv)⟩

/-- A CALL OF A FUNCTION THAT IS HANDED DATA ALONE, and hands back data. -/
theorem leaf.call1 (fuel : Nat) (pl : List (Nat × Bool × Plan)) (hT : TOK P T) (hm : P.follows .mixedOrders = true) {fid : FuncId} {vals : List V} {Q0 : V → List (Nat × Ob) → Prop} (hp : PC P fid [] vals Q0)
    {ops : Array Oper} {o : Oper} {rest : List Oper} {c : Operand} {args : Array Operand} {ats : Array TypeId} (ho : o.op = .call { callee := .value c, args, argTypes := ats }) (hw : awant ops st o = some true) {d : Nat} (hd : o.dst = some d) (hn : Nat.blt d st.n = true)
    {first caps : List V} (hc : st.ev c = .fn fid first caps) (hv : normL (first ++ args.toList.map st.ev ++ caps) = vals) (hr : refsL (first ++ args.toList.map st.ev ++ caps) = []) (hf : fitsK pl k = true)
    (hq : ∀ r h', Q0 r h' → h' = [] ∧ AM.go P T pl Q fuel (.ops ops rest :: k) (st.put d r)) : leaf P T Q (.ops ops (o :: rest) :: k) st :=
  leaf.call0 fuel pl hT hm (hp.unnorm hv) ho hw hd hn hc rfl hr hf hq

/-- The same in a drawn region. -/
theorem leafOp.call1 (fuel : Nat) (pl : List (Nat × Bool × Plan)) (hT : TOK P T) (hm : P.follows .mixedOrders = true) {fid : FuncId} {vals : List V} {Q0 : V → List (Nat × Ob) → Prop} (hp : PC P fid [] vals Q0)
    {q : Bool} {ops : Array Oper} {i : Nat} {p : Plan} {o : Oper} {c : Operand} {args : Array Operand} {ats : Array TypeId} (hi : ops[i]? = some o) (ho : o.op = .call { callee := .value c, args, argTypes := ats }) (hw : awant ops st o = some true) {d : Nat} (hd : o.dst = some d) (hn : Nat.blt d st.n = true)
    {first caps : List V} (hc : st.ev c = .fn fid first caps) (hv : normL (first ++ args.toList.map st.ev ++ caps) = vals) (hr : refsL (first ++ args.toList.map st.ev ++ caps) = []) (hf : fitsK pl (.plan q ops p :: k) = true)
    (hq : ∀ r h', Q0 r h' → h' = [] ∧ AM.go P T pl Q fuel (.plan q ops p :: k) (st.put d r)) : leafOp P T Q q ops i p k st :=
  leafOp.call0 fuel pl hT hm (hp.unnorm hv) hi ho hw hd hn hc rfl hr hf hq

/-- A CALL OF A FUNCTION THAT IS HANDED OBJECTS. m: which of the caller's objects are handed over, under which numbers; hs: these, as the callee sees them. -/
theorem leaf.callH (fuel : Nat) (pl : List (Nat × Bool × Plan)) (hT : TOK P T) (hm : P.follows .mixedOrders = true) {fid : FuncId} {args' : List V} {hs : List (Nat × Ob)} {Q0 : V → List (Nat × Ob) → Prop} (hp : PC P fid hs args' Q0) (m : List (Nat × Nat))
    {ops : Array Oper} {o : Oper} {rest : List Oper} {c : Operand} {args : Array Operand} {ats : Array TypeId} (ho : o.op = .call { callee := .value c, args, argTypes := ats }) (hw : awant ops st o = some true) (hd : okD st o.dst = true)
    {first caps : List V} (hc : st.ev c = .fn fid first caps) (hargs : first ++ args.toList.map st.ev ++ caps = renL (by_ m) args')
    (hsub : subB m hs = true) (hobs : subObs m st.h hs) (hrefs : subL (refsL args') (domL m) = true) (hf : fitsK pl k = true)
    (hq : ∀ r h1, Q0 r h1 → ∃ m1, backB m m1 h1 st = true ∧ subL r.refs (domL m1) = true ∧ AM.go P T pl Q fuel (.ops ops rest :: k) ({ st with h := backH m m1 h1 st.h }.putO o.dst (r.ren (by_ m1)))) : leaf P T Q (.ops ops (o :: rest) :: k) st :=
  AL.callH m hs args' ho hw hd hc hp hargs hsub hobs hrefs fun r h1 hq' => by
    obtain ⟨m1, h2, h3, h4⟩ := hq r h1 hq'
    exact ⟨m1, h2, h3, go_sound hT hm fuel (.ops ops rest :: k) _ hf h4⟩

/-- A CALL OF yield. -/
theorem leaf.yield (fuel : Nat) (pl : List (Nat × Bool × Plan)) (hT : TOK P T) (hm : P.follows .mixedOrders = true) {A B C : Opq} {ys : List V} (hy : YC P A ys B C)
    {ops : Array Oper} {o : Oper} {rest : List Oper} {c : Operand} {args : Array Operand} {ats : Array TypeId} (ho : o.op = .call { callee := .value c, args, argTypes := ats }) (hw : awant ops st o = some true) (hd : okD st o.dst = true)
    {id : Nat} (hc : st.ev c = .yld id) (hob : lkp id st.h = some (.opq A)) (hys : args.toList.map st.ev = ys) (hrefs : refsL ys = [])
    (hb : ∀ D : Opq, backB [(ARG, id)] [(ARG, id)] [(ARG, .opq D)] st = true) (hf : fitsK pl k = true)
    (hq : ∀ bo : Bool, AM.go P T pl Q fuel (.ops ops rest :: k) ({ st with h := backH [(ARG, id)] [(ARG, id)] [(ARG, .opq (if bo then B else C))] st.h }.putO o.dst (.d (.val (.bool bo))))) : leaf P T Q (.ops ops (o :: rest) :: k) st := by
  subst hys
  exact AL.yield ho hw hd hc hob hy hrefs hb fun bo => go_sound hT hm fuel (.ops ops rest :: k) _ hf (hq bo)

theorem roundI_ret {s : AS} {q : Prop} {H : List (Nat × Ob)} (hs : List Nat) (h1 : s.closed [] hs = true) (h2 : subL (refsT (renT up st.t)) hs = true) (h3 : geL (domL (s.keep [] hs).h) = true) (h4 : geL (refsH (s.keep [] hs).h) = true)
    (h5 : Q .ret { st with h := renH down (s.keep [] hs).h }) : roundI P st q H (outT P T Q k) .ret s :=
  ⟨hs, .ret, h1, h2, h3, h4, rfl, AWP.ret (by rw [outT_ret]; exact h5)⟩

theorem roundI_exit (fuel : Nat) (pl : List (Nat × Bool × Plan)) (hT : TOK P T) (hm : P.follows .mixedOrders = true) {s : AS} {q : Prop} {H : List (Nat × Ob)} {id : Nat} {k' : List It} (hs : List Nat) (h1 : s.closed [] hs = true) (h2 : subL (refsT (renT up st.t)) hs = true) (h3 : geL (domL (s.keep [] hs).h) = true) (h4 : geL (refsH (s.keep [] hs).h) = true)
    (hp : popX id k = some k') (hf : fitsK pl k' = true) (h5 : AM.go P T pl Q fuel k' { st with h := renH down (s.keep [] hs).h }) : roundI P st q H (outT P T Q k) (.exit id) s :=
  ⟨hs, .exit id, h1, h2, h3, h4, rfl, AWP.exit (outT_exit k hp (go_sound hT hm fuel k' _ hf h5))⟩

theorem roundI_normal {s : AS} {q : Prop} {H : List (Nat × Ob)} (hs : List Nat) (hq : q) (h1 : s.closed [] hs = true) (h2 : subL (refsT (renT up st.t)) hs = true) (h3 : (s.keep [] hs).h = H) : roundI P st q H Q .normal s :=
  ⟨hq, hs, h1, h2, h3⟩

/-- A RANGE OVER A FUNCTION. H n, I n: the objects when n rounds are over, and what holds besides. -/
theorem leaf.rangeFunc (fuel : Nat) (pl : List (Nat × Bool × Plan)) (hT : TOK P T) (hm : P.follows .mixedOrders = true) {f : FuncId} {first caps : List V} {ys : List (List V)} (hit : Iter P f first caps ys) (I : Nat → Prop) (H : Nat → List (Nat × Ob))
    {g : Operand} {ps : Array Tmp} {assign body : Code} (hg : st.ev g = .fn f first caps) (hr : refsL (first ++ caps) = [])
    (h0 : H 0 = renH up st.h) (hsz : ∀ n, n < ys.length → ps.toList.length = (ys.getD n []).length) (hps : ltL ps.toList st.n = true) (hys : ∀ n, n < ys.length → refsL (ys.getD n []) = [])
    (hge : geL (domL (H ys.length)) = true) (hgr : geL (refsH (H ys.length)) = true) (hfa : fitsC pl assign = true) (hfb : fitsC pl body = true) (hk : fitsK pl k = true) (hI0 : I 0)
    (hbody : ∀ n, n < ys.length → I n → ∀ J : AS → Prop, (J = fun s => ∀ Q', Q' = roundI P st (I (n + 1)) (H (n + 1)) (outT P T Q k) → AM.go P T pl Q' fuel [.code body] s) →
      AM.go P T pl (fun _ _ => False) fuel [.code assign, .lp J] { n := st.n, t := bindT ps.toList (ys.getD n []) (renT up st.t), h := H n })
    (hdone : I ys.length → AM.go P T pl Q fuel k { st with h := renH down (H ys.length) }) : leaf P T Q (.code (.rangeFunc g ps assign body) :: k) st := by
  refine AWP.rangeFuncI (P := P) hg hr hit I hI0 H h0 hsz hps hys _ (fun B => ⟨_, B⟩) hge hgr (fun n hn hI => ?_) (fun hI => go_sound hT hm fuel k _ hk (hdone hI))
  have := go_sound hT hm fuel [.code assign, .lp _] _ (by simp only [fitsK, Bool.and_eq_true]; exact ⟨hfa, trivial⟩) (hbody n hn hI _ rfl)
  refine AWP.mono this fun e s hq => ?_
  cases e with
  | normal =>
    have := go_sound hT hm fuel [.code body] s (by simp only [fitsK, Bool.and_eq_true]; exact ⟨hfb, trivial⟩) (hq _ rfl)
    refine AWP.mono this fun e s hq => ?_
    cases e <;> exact hq
  | exit id => exact hq.elim
  | goto l => exact hq.elim
  | ret => exact hq.elim
  | panic ch => exact hq.elim
  | outgrown => exact hq.elim
/-- The same; behind the loop the objects bear other numbers. -/
theorem leaf.rangeFuncR (fuel : Nat) (pl : List (Nat × Bool × Plan)) (hT : TOK P T) (hm : P.follows .mixedOrders = true) {f : FuncId} {first caps : List V} {ys : List (List V)} (hit : Iter P f first caps ys) (I : Nat → Prop) (H : Nat → List (Nat × Ob))
    {g : Operand} {ps : Array Tmp} {assign body : Code} (hg : st.ev g = .fn f first caps) (hr : refsL (first ++ caps) = [])
    (h0 : H 0 = renH up st.h) (hsz : ∀ n, n < ys.length → ps.toList.length = (ys.getD n []).length) (hps : ltL ps.toList st.n = true) (hys : ∀ n, n < ys.length → refsL (ys.getD n []) = [])
    (m : List (Nat × Nat)) (Hz : List (Nat × Ob)) (hsub : subB m Hz = true) (hobs : subObs m (H ys.length) Hz) (hid : idOnB m (refsT (renT up st.t)) = true) (hbig : bigB m = true)
    (hge : geL (domL Hz) = true) (hgr : geL (refsH Hz) = true) (hfa : fitsC pl assign = true) (hfb : fitsC pl body = true) (hk : fitsK pl k = true) (hI0 : I 0)
    (hbody : ∀ n, n < ys.length → I n → ∀ J : AS → Prop, (J = fun s => ∀ Q', Q' = roundI P st (I (n + 1)) (H (n + 1)) (outT P T Q k) → AM.go P T pl Q' fuel [.code body] s) →
      AM.go P T pl (fun _ _ => False) fuel [.code assign, .lp J] { n := st.n, t := bindT ps.toList (ys.getD n []) (renT up st.t), h := H n })
    (hdone : I ys.length → AM.go P T pl Q fuel k { st with h := renH down Hz }) : leaf P T Q (.code (.rangeFunc g ps assign body) :: k) st := by
  refine AWP.rangeFuncI (P := P) hg hr hit I hI0 H h0 hsz hps hys Hz (fun B => ⟨_, B.ren hsub hobs hid hbig⟩) hge hgr (fun n hn hI => ?_) (fun hI => go_sound hT hm fuel k _ hk (hdone hI))
  have := go_sound hT hm fuel [.code assign, .lp _] _ (by simp only [fitsK, Bool.and_eq_true]; exact ⟨hfa, trivial⟩) (hbody n hn hI _ rfl)
  refine AWP.mono this fun e s hq => ?_
  cases e with
  | normal =>
    have := go_sound hT hm fuel [.code body] s (by simp only [fitsK, Bool.and_eq_true]; exact ⟨hfb, trivial⟩) (hq _ rfl)
    refine AWP.mono this fun e s hq => ?_
    cases e <;> exact hq
  | exit id => exact hq.elim
  | goto l => exact hq.elim
  | ret => exact hq.elim
  | panic ch => exact hq.elim
  | outgrown => exact hq.elim

/-- An object is forgotten. -/
theorem leaf.drop {i : It} {k : List It} (id : Nat) (hi : i.runs = true) (h : leaf P T Q (i :: k) (st.drop id)) : leaf P T Q (i :: k) st :=
  leaf.of_all hi fun _ k' w _ _ s => ⟨_, _, s.drop id, Ext.drop k' w id, h⟩
/-- A RANGE OVER A FUNCTION THAT HAS CAPTURED A VARIABLE OF ITS OWN, which is given away with it; ts, hs: what the caller keeps. -/
theorem leaf.rangeFunc1 (fuel : Nat) (pl : List (Nat × Bool × Plan)) (hT : TOK P T) (hm : P.follows .mixedOrders = true) {f : FuncId} {id : Nat} {vs0 : List V} {ys : List (List V)} (hit : Iter1 P f vs0 ys) (ts hs : List Nat) (I : Nat → Prop) (H : Nat → List (Nat × Ob))
    {g : Operand} {ps : Array Tmp} {assign body : Code} (hg : st.ev g = .fn f [] [.ptr id 0]) (hc : st.closed ts hs = true) (hid : lkp id st.h = some (.cells vs0)) (hidn : inL hs id = false) (hvr : refsL vs0 = [])
    (h0 : H 0 = renH up (st.keep ts hs).h) (hsz : ∀ n, n < ys.length → ps.toList.length = (ys.getD n []).length) (hps : ltL ps.toList st.n = true) (hys : ∀ n, n < ys.length → refsL (ys.getD n []) = [])
    (hge : geL (domL (H ys.length)) = true) (hgr : geL (refsH (H ys.length)) = true) (hfa : fitsC pl assign = true) (hfb : fitsC pl body = true) (hk : fitsK pl k = true) (hI0 : I 0)
    (hbody : ∀ n, n < ys.length → I n → ∀ J : AS → Prop, (J = fun s => ∀ Q', Q' = roundI P (st.keep ts hs) (I (n + 1)) (H (n + 1)) (outT P T Q k) → AM.go P T pl Q' fuel [.code body] s) →
      AM.go P T pl (fun _ _ => False) fuel [.code assign, .lp J] { n := st.n, t := bindT ps.toList (ys.getD n []) (renT up (st.keep ts hs).t), h := H n })
    (hdone : I ys.length → AM.go P T pl Q fuel k { st.keep ts hs with h := renH down (H ys.length) }) : leaf P T Q (.code (.rangeFunc g ps assign body) :: k) st := by
  refine AWP.rangeFunc1 (P := P) ts hs hc hg hid hidn hvr hit I hI0 H h0 hsz hps hys hge hgr (fun n hn hI => ?_) (fun hI => go_sound hT hm fuel k _ hk (hdone hI))
  have := go_sound hT hm fuel [.code assign, .lp _] _ (by simp only [fitsK, Bool.and_eq_true]; exact ⟨hfa, trivial⟩) (hbody n hn hI _ rfl)
  refine AWP.mono this fun e s hq => ?_
  cases e with
  | normal =>
    have := go_sound hT hm fuel [.code body] s (by simp only [fitsK, Bool.and_eq_true]; exact ⟨hfb, trivial⟩) (hq _ rfl)
    refine AWP.mono this fun e s hq => ?_
    cases e <;> exact hq
  | exit id => exact hq.elim
  | goto l => exact hq.elim
  | ret => exact hq.elim
  | panic ch => exact hq.elim
  | outgrown => exact hq.elim
end
end Go.AM
end
section
/-! ## 31 -/
namespace Go.AM
open Go
attribute [go_sem] go_zero go_succ stepK opsK gops1 gops2 onK condK popK plK takeK' take1 take2 altK alt1 alt2 anilI Array.toList_append List.toList_toArray argT popX awant astep aval2 aval AS.ev lkp AS.put Res.put gstep gskip vstep gval smallT oblT dem AS.view AS.small AS.lift V.strip skipV Op.operands Call.operands Int.cast_ofNat_Int Option.getD_some Option.getD_none Option.map_some Option.map_none abin aintOp aint abool apick apickS asB bcond_and bcond_or bcond_true bcond_false aextract alen aslice abnd aminmax aindex aindex2 Res.also aindexAddr afieldAddr afield apart aload aconvert aunary anil astrOp aeq aeqS isAggV dcells toDs toD Bool.false_eq_true Bool.true_eq_false beq_true beq_false Bool.not_true Bool.not_false ne_eq not_false_eq_true not_true_eq_false decide_true decide_false Bool.or_true Bool.or_false Bool.true_or Bool.false_or Bool.and_true Bool.and_false Bool.true_and Bool.false_and and_true true_and List.getElem?_toArray List.getElem?_cons_zero List.getElem?_cons_succ List.size_toArray List.length_cons List.length_nil Option.bind_some imp_self Bool.not_eq_true' Bool.not_eq_false' vcells anew astore spl splD abuildSlice aappend xrows xcond collect abuild afill aplace TypeDesc.isRow noInt List.map_cons List.map_nil List.drop_succ_cons List.drop_zero List.drop_nil List.take_succ_cons List.take_zero List.take_nil List.set_cons_zero List.set_cons_succ Value.cells AS.drop scrubL V.scrub Ob.scrub dropH List.append_eq List.nil_append List.cons_append implies_true forall_const true_implies false_implies
end Go.AM
end
section
/-! ## 32 -/
namespace Go.AM
open Go Go.Proofs Go.RowKit
set_option linter.unusedSectionVars false
variable [Env]

theorem CellsAt.vals {S : Nat → Prop} {w : World} : ∀ {vals : List Value} {b o : Nat}, CellsAt S w (vals.map .val) b o → ∀ (i : Nat) (v : Value), vals[i]? = some v → w.cell? ⟨b, o + i, none⟩ = some v
  | [], _, _, _, i, v, h => by simp at h
  | x :: xs, b, o, hc, 0, v, h => by
    simp at h; subst h
    obtain ⟨⟨u, hu, e, _⟩, _⟩ := hc
    rw [Nat.add_zero, hu, e]
  | x :: xs, b, o, hc, i + 1, v, h => by
    have := CellsAt.vals (vals := xs) hc.2 i v (by simpa using h)
    rw [show o + 1 + i = o + (i + 1) by omega] at this
    exact this

/-- A variable of the program's that is never written: its block. -/
theorem env_block {S : Nat → Prop} {w : World} {g : Nat} {vals : List Value} (hE : Env.E g = some (vals.map .val)) (h : EnvOK S w) : ∃ ty fz, w.heap[g]? = some (Obj.cells vals.toArray ty fz) := by
  obtain ⟨_, hc, cs, ty, fz, hb, hs⟩ := h g _ hE
  refine ⟨ty, fz, ?_⟩
  rw [hb]
  have : cs = vals.toArray := by
    apply Array.ext'
    apply List.ext_getElem?
    intro i
    by_cases hi : i < vals.length
    · have h1 := hc.vals i vals[i] (List.getElem?_eq_getElem hi)
      have h2 : w.cell? ⟨g, 0 + i, none⟩ = cs.toList[i]? := by simp [World.cell?, hb]
      rw [h2] at h1
      rw [h1]; simp [hi]
    · rw [List.getElem?_eq_none (by simp at hs ⊢; omega), List.getElem?_eq_none (by simp; omega)]
  rw [this]
theorem env_cell {S : Nat → Prop} {w : World} {g : Nat} {vals : List Value} (hE : Env.E g = some (vals.map .val)) (h : EnvOK S w) (i : Nat) (v : Value) (hv : vals[i]? = some v) : w.cell? ⟨g, i, none⟩ = some v := by
  have := (h g _ hE).2.1.vals i v hv
  rwa [Nat.zero_add] at this
theorem env_var {P : Program} {S : Nat → Prop} {w : World} {g : Nat} {vals : List Value} {name : String} (hE : Env.E g = some (vals.map .val)) (h : EnvOK S w) (hn : P.globalNamed name = some g) : w.var? P name = some vals.toArray := by
  obtain ⟨ty, fz, hb⟩ := env_block hE h
  simp [World.var?, hn, hb]

/-- A contract of a function that makes memory of its own alone, and leaves what was as it was. -/
theorem PC.of_below {P : Program} {f : FuncId} {args : List V} {Q : V → Prop} (he : Enters P f)
    (h : ∀ k w vals, SimH k w [] → VEncs k w args vals.toList → Calls P f vals w fun e w' => ∃ v r, e = .returned v ∧ Below w.heap.size w w' ∧ Q r ∧ ∃ N : Nat → Prop, (∀ b, N b → w.heap.size ≤ b ∧ b < w'.heap.size) ∧ VEnc { k with S := fun b => k.S b ∨ N b } w' r v) :
    PC P f [] args fun r h' => h' = [] ∧ Q r := by
  refine ⟨he, fun k w vals H Vv => (callsIn_wide.2 (h k w vals H Vv)).mono ?_⟩
  rintro e w' ⟨v, r, rfl, hb, hq, N, hN, hv⟩
  have hn : ∀ i b, ¬ k.X i b := fun i b hx => by
    have h1 := H.domX i b hx
    rw [H.dom i] at h1
    cases h1
  have hs : ∀ b, k.S b → w'.heap[b]? = w.heap[b]? := fun b hb' => hb.block b (H.slt b hb')
  refine ⟨v, r, [], { k with S := fun b => k.S b ∨ N b }, rfl, hv, ⟨fun i j b h1 _ => (hn i b h1).elim, fun i b h1 => (hn i b h1).elim, fun i b h1 => (hn i b h1).elim, fun b hb' => ?_, H.prim, H.dom, fun i b h1 => (hn i b h1).elim, fun i o h1 => (by cases h1), H.env.mono hs fun _ h => .inl h⟩,
    ⟨.of ⟨hb.size, fun b cs ty fz hc => ⟨cs, by rw [hb.block b (Array.getElem?_eq_some_iff.1 hc).1]; exact hc, rfl⟩⟩ hb.os hb.output, fun b hlt _ => hb.block b hlt, fun _ h => .inl h, fun b h => h.elim .inl fun h => .inr (.inr (hN b h).1), fun i b h1 => (hn i b h1).elim, fun _ _ _ h => h⟩, rfl, hq⟩
  rcases hb' with h1 | h1
  · exact Nat.lt_of_lt_of_le (H.slt b h1) hb.size
  · exact (hN b h1).2

/-- The same where what is handed back is a plain value. -/
theorem PC.of_plain {P : Program} {f : FuncId} {args : List V} {Q : V → Prop} (he : Enters P f)
    (h : ∀ k w vals, SimH k w [] → VEncs k w args vals.toList → Calls P f vals w fun e w' => ∃ v r, e = .returned v ∧ Below w.heap.size w w' ∧ Q r ∧ VEnc k w' r v) :
    PC P f [] args fun r h' => h' = [] ∧ Q r := by
  refine PC.of_below he fun k w vals H Vv => (h k w vals H Vv).mono ?_
  rintro e w' ⟨v, r, e1, hb, hq, hv⟩
  have hs : ∀ b, k.S b → w'.heap[b]? = w'.heap[b]? := fun b _ => rfl
  exact ⟨v, r, e1, hb, hq, fun _ => False, fun _ h => h.elim, VEnc.mono (k := k) (k' := { k with S := fun b => k.S b ∨ False }) ⟨.refl w', hs, fun _ h => .inl h, fun _ _ h => h⟩ r v hv⟩
/-! ### Numbers within their bounds -/
theorem wu8 {n : Int} (h0 : 0 ≤ n) (h1 : n < 256) : IntKind.u8.wrap n = n := by rw [IntKind.wrap_u8]; omega
theorem wu16 {n : Int} (h0 : 0 ≤ n) (h1 : n < 65536) : IntKind.u16.wrap n = n := by rw [IntKind.wrap_u16]; omega
theorem wu32 {n : Int} (h0 : 0 ≤ n) (h1 : n < 4294967296) : IntKind.u32.wrap n = n := by rw [IntKind.wrap_u32]; omega
theorem wu64 {n : Int} (h0 : 0 ≤ n) (h1 : n < 18446744073709551616) : IntKind.u64.wrap n = n := by rw [IntKind.wrap_u64]; omega
theorem wi32 {n : Int} (h0 : -2147483648 ≤ n) (h1 : n < 2147483648) : IntKind.i32.wrap n = n := by rw [IntKind.wrap_i32]; omega
theorem wi64 {n : Int} (h0 : -9223372036854775808 ≤ n) (h1 : n < 9223372036854775808) : IntKind.i64.wrap n = n := by rw [IntKind.wrap_i64]; omega
end Go.AM
end
section
/-! ## 33 -/
namespace Go.AM
open Go
set_option linter.unusedSectionVars false
variable [Env]
section
variable {P : Program} {T : List (Nat × TI)} {Q : Exit → AS → Prop} {k : List It} {st : AS}

theorem leaf.allocOpq (fuel : Nat) (pl : List (Nat × Bool × Plan)) (hT : TOK P T) (hm : P.follows .mixedOrders = true) {ops : Array Oper} {o : Oper} {rest : List Oper} {d t : Nat} {i : TI} (A : Opq)
    (hsat : ∀ (S : Nat → Prop) (w : World) (b : Nat), w.heap[b]? = some (.cells i.zero.cells t (0, 0)) → A.sat S (fun x => x = b) (some b) w)
    (ho : o.op = .alloc t) (hd : o.dst = some d) (hw : awant ops st o = some true) (hn : Nat.blt d st.n = true) (hi : lkp t T = some i) (hf0 : lkp d st.h = none) (hf : fitsK pl k = true)
    (hq : AM.go P T pl Q fuel (.ops ops rest :: k) { n := st.n, t := (d, .ptr d 0) :: st.t, h := (d, .opq A) :: st.h }) : leaf P T Q (.ops ops (o :: rest) :: k) st := by
  refine AL.op (P := P) (o := o) (fun c hc => by rw [ho] at hc; cases hc) hw (st' := { n := st.n, t := (d, .ptr d 0) :: st.t, h := (d, .opq A) :: st.h }) ?_ (go_sound hT hm fuel (.ops ops rest :: k) _ hf hq)
  intro ro k w a ms s
  have hn' : d < st.n := Nat.le_of_ble_eq_true hn
  have hb : k.β d = none := by
    have := s.H.dom d
    rw [hf0] at this
    cases hq : k.β d with
    | none => rfl
    | some l => rw [hq] at this; cases this
  have e := Ext.new s.H hb (Nat.lt_of_lt_of_le hn' s.T.arg) (.cells i.zero.cells t)
  have m := keeps_new s.H hf0 (.cells i.zero.cells t)
  have hX : (k.new d w.heap.size).X d = fun x => x = w.heap.size := by funext x; simp [K.new]
  have hH := s.H.new hf0 (o := .cells i.zero.cells t) (ob := .opq A) ⟨some w.heap.size, by simp [K.new], by rw [hX]; exact hsat _ _ _ (heap_new w _)⟩
  have s1 := s.of_ext hH m e
  refine ⟨.value (.pointer (some ⟨w.heap.size, 0, none⟩)), w.alloc (.cells i.zero.cells t), _, ?_, .inl ⟨_, rfl, ?_⟩, e⟩
  · refine exec_v (s := Instr.alloc t true (.tuple #[])) (by unfold execOp; rw [ho]) (u := .pointer (some ⟨w.heap.size, 0, none⟩)) ?_
    unfold Instr.alloc
    rw [run_bind_ok (run_zeroValue hT hi w)]
    simp only
    rw [run_bind_ok (run_newVar t i.zero w)]
    rfl
  · rw [hd]
    exact ⟨s1.H, SimT.put (st := { st with h := (d, .opq A) :: st.h }) s1.T hn' ⟨w.heap.size, by simp [K.new], rfl⟩, s1.M.put _ _⟩
end

/-- Of what a contract hands back: some objects alone, each once. -/
theorem PC.keepH {P : Program} {f : FuncId} {h : List (Nat × Ob)} {args : List V} {Q : V → List (Nat × Ob) → Prop} (ids : List Nat)
    (hp : PC P f h args fun r h' => (subL r.refs ids && subL (refsH (AM.keepH ids h')) ids && subL ids (domL h')) = true ∧ Q r (AM.keepH ids h')) : PC P f h args Q := by
  refine ⟨hp.1, fun k w vals H Vv => (hp.2 k w vals H Vv).mono fun e w' ⟨v, r, h', k', e1, e2, H', ex, hc, hq⟩ => ?_⟩
  simp only [Bool.and_eq_true] at hc
  obtain ⟨⟨c1, c2⟩, c3⟩ := hc
  rw [subL_iff] at c1 c2 c3
  refine ⟨v, r, _, k'.only ids, e1, VEnc.agree (k := k') (k' := k'.only ids) r v ⟨rfl, fun j hj => by simp [K.only, inL_iff.2 (c1 j hj)]⟩ e2, H'.only (fun i hi => ?_) (fun i hi => ?_) (fun i hi => ?_) (fun i o ho y hy => ?_), ex.trans (Ext.only ids), hq⟩
  · rw [look_keepH, if_pos hi]
  · rw [look_keepH] at hi; split at hi
    · assumption
    · cases hi
  · rw [look_keepH, if_pos hi, look_isSome]; exact inL_iff.2 (c3 i (inL_iff.1 hi))
  · exact inL_iff.2 (c2 y (refsH_mem (look_mem ho) y hy))

theorem inL_nil' (y : Nat) : inL [] y = false := rfl
theorem inL_cons' (x : Nat) (xs : List Nat) (y : Nat) : inL (x :: xs) y = (decide (x = y) || inL xs y) := by
  simp only [inL]
  congr 1
  by_cases h : x = y
  · subst h; simp
  · rw [decide_eq_false h]
    cases hb : Nat.beq x y with
    | false => rfl
    | true => exact absurd (Nat.eq_of_beq_eq_true hb) h
theorem in_i64 {n : Int} (h0 : -9223372036854775808 ≤ n) (h1 : n < 9223372036854775808) : inR .i64 n := ⟨h0, Int.lt_add_one_iff.1 h1⟩
attribute [go_sem] List.getD_cons_zero List.getD_cons_succ AS.putO backH renH Ob.ren V.ren renL by_ dropH rngL inL_nil' inL_cons'
end Go.AM
end
section
/-! ## 34 -/
namespace Go.AM
open Go
set_option linter.unusedSectionVars false

/-- Shapes of plain data. -/
inductive Sh where
  | int (k : IntKind)
  | bool
  | str
  | sl (e : Sh)
  | agg (l : List Sh)

mutual
def Sh.cells : Sh → Nat
  | .agg l => shCells l
  | _ => 1
def shCells : List Sh → Nat
  | [] => 0
  | s :: l => s.cells + shCells l
end

mutual
/-- The type is of that shape. -/
def ShOK (P : Program) : Sh → TypeId → Prop
  | .int k, t => P.underlying t = some (.int k)
  | .bool, t => P.underlying t = some .bool
  | .str, t => P.underlying t = some .string
  | .sl e, t => ∃ u, P.underlying t = some (.slice u) ∧ P.cellsOf u = e.cells ∧ 1 ≤ e.cells ∧ 1 ≤ P.bytesOf u ∧ ShOK P e u
  | .agg l, t => ∃ fs, P.underlying t = some (.struct fs) ∧ P.cellsOf t = shCells l ∧ ShOKs P l fs.toList 0
def ShOKs (P : Program) : List Sh → List Field → Nat → Prop
  | [], [], _ => True
  | s :: l, f :: fs, o => f.offset = o ∧ P.cellsOf f.type = s.cells ∧ ShOK P s f.type ∧ ShOKs P l fs (o + s.cells)
  | _, _, _ => False
end

mutual
/-- Data of that shape. -/
def ShTy : Sh → List D → Prop
  | .int k, ds => ∃ n, ds = [.val (.int k n)] ∧ (Lit.int k n).wf = true
  | .bool, ds => ∃ b, ds = [.val (.bool b)]
  | .str, ds => ∃ s, ds = [.val (.string s)] ∧ s.size ≤ reachBytes
  | .sl e, ds => ∃ rows, ds = [.sl e.cells rows] ∧ rows.length ≤ reachBytes ∧ ∀ r ∈ rows, ShTy e r
  | .agg l, ds => ShTys l ds
def ShTys : List Sh → List D → Prop
  | [], ds => ds = []
  | s :: l, ds => ∃ a b, ds = a ++ b ∧ ShTy s a ∧ ShTys l b
end

mutual
theorem ShTy.length : ∀ (s : Sh) (ds : List D), ShTy s ds → ds.length = s.cells
  | .int k, _, ⟨n, h, _⟩ => by subst h; rfl
  | .bool, _, ⟨n, h⟩ => by subst h; rfl
  | .str, _, ⟨n, h, _⟩ => by subst h; rfl
  | .sl e, _, ⟨n, h, _⟩ => by subst h; rfl
  | .agg l, ds, h => ShTys.length l ds h
theorem ShTys.length : ∀ (l : List Sh) (ds : List D), ShTys l ds → ds.length = shCells l
  | [], ds, h => by rw [show ds = [] from h]; rfl
  | s :: l, ds, h => by
    obtain ⟨a, b, rfl, h1, h2⟩ := h
    rw [List.length_append, ShTy.length s a h1, ShTys.length l b h2]; rfl
end

/-- All memory that there is. -/
def allS (w : World) : Nat → Prop := fun b => b < w.heap.size

section
variable {H : Type} {enc : TypeId × Value → H} {P : Program} {w : World}

theorem weightsAll_mem {u : TypeId} : ∀ {l : List (DataW H)} {d : DataW H}, d ∈ l → ∀ x ∈ d.weights P u, x ∈ DataW.weightsAll P u l
  | e :: l, d, h, x, hx => by
    unfold DataW.weightsAll
    rcases List.mem_cons.1 h with h | h
    · subst h; exact List.mem_append_left _ hx
    · exact List.mem_append_right _ (weightsAll_mem h x hx)

theorem block_of_cell {a : Addr} {v : Value} (h : w.cell? a = some v) : a.block < w.heap.size ∧ a.spot = none := by
  unfold World.cell? at h
  split at h
  · rename_i c hc
    split at h
    · cases h
    · rename_i hs
      refine ⟨(Array.getElem?_eq_some_iff.1 hc).1, ?_⟩
      cases hq : a.spot with
      | none => rfl
      | some x => rw [hq] at hs; exact absurd rfl hs
  · cases h

theorem add_eq (b o i : Nat) : (⟨b, o, none⟩ : Addr).add i = ⟨b, o + i, none⟩ := by
  unfold Addr.add
  split
  · rename_i h; subst h; rfl
  · rfl

theorem cellsAt_of_cells? {base n : Nat} {b o : Nat} {cs : List Value} {ds : List D} (h : w.cells? base ⟨b, o, none⟩ n = some cs) (hd : DEncs (allS w) w ds cs) : CellsAt (allS w) w ds b o := by
  refine CellsAt.of_encs hd fun j v hj => ?_
  unfold World.cells? at h
  split at h
  · obtain ⟨h1, h2⟩ := (⟨Lib.mapM_length h, fun i a ha => Lib.mapM_at h i a ha⟩ : cs.length = (List.range n).length ∧ ∀ i a, (List.range n)[i]? = some a → ∃ x, cs[i]? = some x ∧ w.cell? ((⟨b, o, none⟩ : Addr).add a) = some x)
    have hjn : j < n := by
      have := (List.getElem?_eq_some_iff.1 hj).1
      rw [h1, List.length_range] at this; exact this
    obtain ⟨x, e1, e2⟩ := h2 j j (by simp [hjn])
    rw [hj] at e1; cases e1
    rw [add_eq] at e2
    exact e2
  · cases h

mutual
theorem trod_sh : ∀ (s : Sh) (fuel : Nat) (t : TypeId) (cs : List Value) (d : DataW H) (p : List MemPlace) (base : Nat) (sp : Nat → Bool) (held : Bool), ShOK P s t → DataW.trod enc P w base sp held fuel t cs = some (d, p) → (∀ x ∈ d.weights P t, x ≤ reachBytes) → ∃ ds, ShTy s ds ∧ DEncs (allS w) w ds cs
  | .int k, fuel, t, cs, d, p, base, sp, held, ht, h, hw => by
    obtain ⟨z, rfl, e2, hz⟩ := DataW.trod_int ht h
    exact ⟨[.val (.int k z)], ⟨z, rfl, hz⟩, ⟨rfl, rfl⟩, trivial⟩
  | .bool, fuel, t, cs, d, p, base, sp, held, ht, h, hw => by
    cases fuel with
    | zero => simp [DataW.trod] at h
    | succ n =>
      unfold DataW.trod at h
      rw [show P.underlying t = some .bool from ht] at h
      split at h <;> rename_i heq <;> try (cases heq; done)
      · exact ⟨[.val (.bool _)], ⟨_, rfl⟩, ⟨rfl, rfl⟩, trivial⟩
      · cases h
  | .str, fuel, t, cs, d, p, base, sp, held, ht, h, hw => by
    obtain ⟨z, rfl, e2, hz⟩ := DataW.trod_string ht h
    cases e2
    refine ⟨[.val (.string z)], ⟨z, rfl, ?_⟩, ⟨rfl, rfl⟩, trivial⟩
    have := hw z.data.toList.length (by unfold DataW.weights; exact List.mem_singleton.2 rfl)
    simpa using this
  | .sl e, fuel, t, cs, d, p, base, sp, held, ht, h, hw => by
    obtain ⟨u, hu, hc, h1c, hb, he⟩ := ht
    rcases DataW.trod_slice hu h with ⟨rfl, h2⟩ | ⟨⟨b, o, q⟩, len, cap, elems, rest, n, rfl, rfl, h2, h3, h4, h5, h6, h7, _, _⟩
    · exact ⟨[.sl e.cells []], ⟨[], rfl, Nat.zero_le _, fun r hr => by cases hr⟩, ⟨none, 0, rfl, Nat.le_refl _, by simp, by simp, fun r hr => (by cases hr), .inl rfl⟩, trivial⟩
    · cases h2
      have hbytes : len * P.bytesOf u ≤ reachBytes := by
        have := hw (((elems.map (·.1)).length + (rest.map (·.1)).length) * P.bytesOf u) (by unfold DataW.weights; rw [hu]; exact List.mem_cons_self ..)
        rw [List.length_map, h6] at this
        refine Nat.le_trans ?_ this
        exact Nat.mul_le_mul_right _ (Nat.le_add_right _ _)
      have hlb : len ≤ reachBytes := Nat.le_trans (Nat.le_mul_of_pos_right len hb) hbytes
      have hwt : ∀ (i : Nat) (y : DataW H × List MemPlace), elems[i]? = some y → ∀ x ∈ y.1.weights P u, x ≤ reachBytes := fun i y hy x hx => by
        refine hw x ?_
        unfold DataW.weights; rw [hu]
        refine List.mem_cons_of_mem _ (List.mem_append_left _ ?_)
        exact weightsAll_mem (List.mem_map.2 ⟨y, List.mem_of_getElem? hy, rfl⟩) x hx
      have hel : ∀ i, i < len → ∃ cs' y, elems[i]? = some y ∧ w.cells? base ((⟨b, o, q⟩ : Addr).add (i * e.cells)) e.cells = some cs' ∧ DataW.trod enc P w base sp held n u cs' = some y := fun i hi => by
        have hy := h7 i hi
        rw [List.getElem?_eq_getElem (by omega), hc] at hy
        obtain ⟨cs', c1, c2⟩ := Option.bind_eq_some_iff.1 hy
        exact ⟨cs', elems[i], List.getElem?_eq_getElem (by omega), c1, c2⟩
      have hbq : 0 < len → b < w.heap.size ∧ q = none := fun hi => by
        obtain ⟨cs', y, _, c1, _⟩ := hel 0 hi
        rw [Nat.zero_mul] at c1
        unfold World.cells? at c1
        split at c1
        · obtain ⟨x, _, hx⟩ := Lib.mapM_at c1 0 0 (List.getElem?_range (by omega))
          exact block_of_cell hx
        · cases c1
      have hrow : ∀ i, i < len → ∃ r, ShTy e r ∧ b < w.heap.size ∧ q = none ∧ CellsAt (allS w) w r b (o + i * e.cells) := fun i hi => by
        obtain ⟨hbl, rfl⟩ := hbq (by omega)
        obtain ⟨cs', y, c0, c1, c2⟩ := hel i hi
        obtain ⟨r, r1, r2⟩ := trod_sh e n u cs' y.1 y.2 base sp held he c2 (hwt i _ c0)
        rw [add_eq] at c1
        exact ⟨r, r1, hbl, rfl, cellsAt_of_cells? c1 r2⟩
      have hrows : ∀ m i, i + m ≤ len → ∃ rows : List (List D), rows.length = m ∧ (∀ r ∈ rows, ShTy e r) ∧ RowsAt (allS w) w rows b (o + i * e.cells) := by
        intro m
        induction m with
        | zero => intro i _; exact ⟨[], rfl, fun r hr => (by cases hr), trivial⟩
        | succ m ih =>
          intro i hm
          obtain ⟨rows, r1, r2, r3⟩ := ih (i + 1) (by omega)
          obtain ⟨r, g1, _, _, g2⟩ := hrow i (by omega)
          refine ⟨r :: rows, by rw [List.length_cons, r1], fun x hx => ?_, g2, ?_⟩
          · rcases List.mem_cons.1 hx with hx | hx
            · subst hx; exact g1
            · exact r2 x hx
          · rw [ShTy.length e r g1, show o + i * e.cells + e.cells = o + (i + 1) * e.cells by rw [Nat.add_mul]; omega]
            exact r3
      obtain ⟨rows, r1, r2, r3⟩ := hrows len 0 (by omega)
      rw [Nat.zero_mul, Nat.add_zero] at r3
      refine ⟨[.sl e.cells rows], ⟨rows, rfl, by omega, r2⟩, ⟨some ⟨b, o, q⟩, cap, by rw [r1], by omega, by unfold maxLen at h5; omega, by unfold LMAX; unfold reachBytes at hlb; omega, fun r hr => ShTy.length e r (r2 r hr), ?_⟩, trivial⟩
      by_cases h0 : len = 0
      · left; exact List.length_eq_zero_iff.1 (by omega)
      · right
        obtain ⟨r, _, g1, rfl, _⟩ := hrow 0 (by omega)
        exact ⟨b, o, rfl, g1, r3⟩
  | .agg l, fuel, t, cs, d, p, base, sp, held, ht, h, hw => by
    obtain ⟨fs, hu, hc, hf⟩ := ht
    obtain ⟨xs, n, _, e, hl, hlen, hx⟩ := DataW.trod_struct hu h
    cases e
    have := trod_shs l fs.toList xs n cs 0 base sp held hf (by rw [Array.length_toList]; exact hlen) (fun i f hi => hx i f (by rw [← Array.getElem?_toList]; exact hi)) (by rw [hl, hc, Nat.zero_add]) (fun x hx => hw x (by unfold DataW.weights; rw [hu]; exact hx))
    rw [List.drop_zero] at this
    exact this
theorem trod_shs : ∀ (l : List Sh) (fs : List Field) (xs : List (DataW H × List MemPlace)) (n : Nat) (cs : List Value) (o : Nat) (base : Nat) (sp : Nat → Bool) (held : Bool), ShOKs P l fs o → xs.length = fs.length →
    (∀ (i : Nat) (f : Field), fs[i]? = some f → DataW.trod enc P w base sp held n f.type ((cs.drop f.offset).take (P.cellsOf f.type)) = xs[i]?) → cs.length = o + shCells l →
    (∀ x ∈ DataW.weightsEach P (fs.map (·.type)) (xs.map (·.1)), x ≤ reachBytes) → ∃ ds, ShTys l ds ∧ DEncs (allS w) w ds (cs.drop o)
  | [], fs, xs, n, cs, o, base, sp, held, hf, hlen, hx, hl, hw => by
    have : cs.drop o = [] := List.drop_eq_nil_of_le (by rw [hl]; simp [shCells])
    rw [this]
    exact ⟨[], rfl, trivial⟩
  | s :: l, [], xs, n, cs, o, base, sp, held, hf, hlen, hx, hl, hw => hf.elim
  | s :: l, f :: fs, [], n, cs, o, base, sp, held, hf, hlen, hx, hl, hw => by cases hlen
  | s :: l, f :: fs, x :: xs, n, cs, o, base, sp, held, hf, hlen, hx, hl, hw => by
    obtain ⟨f1, f2, f3, f4⟩ := hf
    have h0 := hx 0 f rfl
    rw [f1, f2] at h0
    simp only [List.map_cons, DataW.weightsEach, List.mem_append] at hw
    obtain ⟨a, a1, a2⟩ := trod_sh s n f.type _ x.1 x.2 base sp held f3 h0 (fun y hy => hw y (.inl hy))
    obtain ⟨b, b1, b2⟩ := trod_shs l fs xs n cs (o + s.cells) base sp held f4 (by simpa using hlen) (fun i g hi => by simpa using hx (i + 1) g (by simpa using hi)) (by rw [hl]; simp only [shCells]; omega) (fun y hy => hw y (.inr hy))
    refine ⟨a ++ b, ⟨a, b, rfl, a1, b1⟩, ?_⟩
    have e : cs.drop o = (cs.drop o).take s.cells ++ cs.drop (o + s.cells) := by
      rw [← List.drop_drop, List.take_append_drop]
    rw [e]
    exact DEncs.append a2 b2
end

/-- What a value of that shape reads as. -/
def ShV : Sh → V → Prop
  | .agg l, x => ∃ ds, x = .dagg ds ∧ ShTys l ds
  | s, x => ∃ d, x = .d d ∧ ShTy s [d]

theorem not_agg {s : Sh} {t : TypeId} {v : Value} {r : Reach} {b0 : Nat} (hs : ShOK P s t) (hn : ∀ l, s ≠ .agg l) (hv : Value.okWide P w r b0 t v) : v.cells = #[v] := by
  cases v with
  | agg cs =>
    exfalso
    cases s with
    | agg l => exact hn l rfl
    | sl e => obtain ⟨u, hu, _⟩ := hs; simp [Value.okWide, Cell.okWide, Cell.ok, hu] at hv
    | int k => have hu : P.underlying t = _ := hs; simp [Value.okWide, Cell.okWide, Cell.ok, hu] at hv
    | bool => have hu : P.underlying t = _ := hs; simp [Value.okWide, Cell.okWide, Cell.ok, hu] at hv
    | str => have hu : P.underlying t = _ := hs; simp [Value.okWide, Cell.okWide, Cell.ok, hu] at hv
  | _ => rfl

theorem VEnc_of_trod {k : K} (hk : k.S = allS w) {s : Sh} {t : TypeId} {v : Value} {d : DataW H} {p : List MemPlace} {base : Nat} {sp : Nat → Bool} {held : Bool} {r : Reach} {b0 : Nat} (hs : ShOK P s t) (hv : Value.okWide P w r b0 t v)
    (h : DataW.Trod enc P w base sp held t v d p) (hw : ∀ x ∈ d.weights P t, x ≤ reachBytes) : ∃ x, ShV s x ∧ VEnc k w x v := by
  obtain ⟨fuel, h⟩ := h
  obtain ⟨ds, h1, h2⟩ := trod_sh s fuel t _ d p base sp held hs h hw
  have one : (∀ l, s ≠ .agg l) → ∃ x, ShTy s [x] ∧ VEnc k w (.d x) v := fun hn => by
    rw [not_agg hs hn hv] at h2
    match ds, h2 with
    | [x], h2 => exact ⟨x, h1, by rw [← hk] at h2; exact h2.1⟩
    | _ :: _ :: _, h2 => exact h2.2.elim
  cases s with
  | agg l =>
    obtain ⟨fs, hu, _⟩ := hs
    unfold Value.okWide at hv
    rw [hu] at hv
    obtain ⟨cs, rfl, _⟩ := hv
    exact ⟨.dagg ds, ⟨ds, rfl, h1⟩, cs, rfl, by rw [hk]; exact h2⟩
  | _ =>
    obtain ⟨x, x1, x2⟩ := one fun l h => by cases h
    exact ⟨.d x, ⟨x, rfl, x1⟩, x2⟩
end
end Go.AM
end
section
/-! ## 35 -/
namespace Go.AM
open Go Go.ChangeShapes
set_option linter.unusedSectionVars false

section
variable {H : Type} {enc : TypeId × Value → H} {P : Program}

def ShOKl (P : Program) : List Sh → List TypeId → Prop
  | [], [] => True
  | s :: l, t :: ts => ShOK P s t ∧ ShOKl P l ts
  | _, _ => False
def ShVs : List Sh → List V → Prop
  | [], [] => True
  | s :: l, x :: xs => ShV s x ∧ ShVs l xs
  | _, _ => False

theorem VEncs_of_trodAll {k : K} {w : World} (hk : k.S = allS w) {base : Nat} {sp : Nat → Bool} {held : Bool} {r : Reach} {b0 : Nat} : ∀ {l : List Sh} {ts : List TypeId} {vs : List Value} {ds : List (DataW H)} {p : List MemPlace}, ShOKl P l ts →
    (∀ (j : Nat) t v, ts[j]? = some t → vs[j]? = some v → Value.okWide P w r b0 t v) → DataW.TrodAll enc P w base sp held ts vs ds p → (∀ x ∈ DataW.weightsEach P ts ds, x ≤ reachBytes) → ∃ xs, ShVs l xs ∧ VEncs k w xs vs
  | [], [], [], [], _, _, _, _, _ => ⟨[], trivial, trivial⟩
  | [], [], _ :: _, _, _, _, _, h, _ => by simp [DataW.TrodAll] at h
  | [], [], [], _ :: _, _, _, _, h, _ => by simp [DataW.TrodAll] at h
  | [], _ :: _, _, _, _, h, _, _, _ => h.elim
  | _ :: _, [], _, _, _, h, _, _, _ => h.elim
  | _ :: _, _ :: _, [], _, _, _, _, h, _ => by simp [DataW.TrodAll] at h
  | _ :: _, _ :: _, _ :: _, [], _, _, _, h, _ => by simp [DataW.TrodAll] at h
  | s :: l, t :: ts, v :: vs, d :: ds, p, hs, hv, h, hw => by
    obtain ⟨p1, p2, h1, h2, _⟩ := h
    simp only [DataW.weightsEach, List.mem_append] at hw
    obtain ⟨x, x1, x2⟩ := VEnc_of_trod hk hs.1 (hv 0 t v rfl rfl) h1 (fun y hy => hw y (.inl hy))
    obtain ⟨xs, y1, y2⟩ := VEncs_of_trodAll hk hs.2 (fun j t v ht hv' => hv (j + 1) t v (by simpa using ht) (by simpa using hv')) h2 (fun y hy => hw y (.inr hy))
    exact ⟨x :: xs, ⟨x1, y1⟩, x2, y2⟩

/-- Behind a call that leaves what was as it was. -/
structure Quiet (w w' : World) : Prop where
  os : w'.os = w.os
  output : w'.output = w.output
  size : w.heap.size ≤ w'.heap.size
  block : ∀ b, b < w.heap.size → w'.heap[b]? = w.heap[b]?

theorem Quiet.kept {w w' : World} (h : Quiet w w') (may : MemPlace → Prop) : w.keptBut w' may := by
  refine ⟨h.os, h.output, fun i hi => ?_⟩
  rw [h.block i hi]
  split <;> simp_all
theorem Quiet.same {w w' : World} (h : Quiet w w') {p : MemPlace} (hp : p.block < w.heap.size) : w.sameAt w' p := by
  cases p with
  | cell b o => exact World.cell?_of_block (w := w) (h.block b hp)
  | map b => exact h.block b hp

theorem trodAll_stays {W W' : World} (hq : Quiet W W') (hl : laidOutB P = true) {sp' : Nat → Bool} : ∀ {ts : List TypeId} {vs : List Value} {ds : List (DataW H)} {p : List MemPlace}, (ts.all fun t => P.readableRec t && decide (t < P.types.size)) = true →
    DataW.TrodAll enc P W 0 (fun _ => true) true ts vs ds p → (∀ x ∈ p, x.block < W.heap.size) → (∀ x ∈ p, sp' x.block = true) → DataW.TrodAll enc P W' 0 sp' true ts vs ds p
  | [], [], [], _, _, h, _, _ => h
  | [], _ :: _, _, _, _, h, _, _ => by simp [DataW.TrodAll] at h
  | [], [], _ :: _, _, _, h, _, _ => by simp [DataW.TrodAll] at h
  | _ :: _, [], _, _, _, h, _, _ => by simp [DataW.TrodAll] at h
  | _ :: _, _ :: _, [], _, _, h, _, _ => by simp [DataW.TrodAll] at h
  | t :: ts, v :: vs, d :: ds, p, hr, h, hlt, hsp => by
    obtain ⟨p1, p2, h1, h2, rfl⟩ := h
    simp only [List.all_cons, Bool.and_eq_true, decide_eq_true_eq] at hr
    refine ⟨p1, p2, WideElems.Trod_stays hl hr.1.1 hr.1.2 h1 (fun x hx => hq.same (hlt x (List.mem_append_left _ hx))) (fun x hx => hsp x (List.mem_append_left _ hx)), ?_, rfl⟩
    exact trodAll_stays hq hl (by simpa using hr.2) h2 (fun x hx => hlt x (List.mem_append_right _ hx)) (fun x hx => hsp x (List.mem_append_right _ hx))

theorem trodAll_length {w : World} {base : Nat} {sp : Nat → Bool} {held : Bool} : ∀ {ts : List TypeId} {vs : List Value} {ds : List (DataW H)} {p : List MemPlace}, DataW.TrodAll enc P w base sp held ts vs ds p → ds.length = ts.length
  | [], [], [], _, _ => rfl
  | [], _ :: _, _, _, h => by simp [DataW.TrodAll] at h
  | [], [], _ :: _, _, h => by simp [DataW.TrodAll] at h
  | _ :: _, [], _, _, h => by simp [DataW.TrodAll] at h
  | _ :: _, _ :: _, [], _, h => by simp [DataW.TrodAll] at h
  | t :: ts, v :: vs, d :: ds, p, h => by
    obtain ⟨p1, p2, _, h2, _⟩ := h
    simp [trodAll_length h2]

/-- What is known when a law's call begins: all memory is only read. -/
def K0 (w : World) : K := { S := allS w, β := fun _ => none, X := fun _ _ => False }
theorem SimH0 [Env] {w : World} (h : EnvOK (allS w) w) : SimH (K0 w) w [] where
  inj _ _ _ h := h.elim
  lt _ _ h := h.elim
  dis _ _ h := h.elim
  slt _ h := h
  prim _ _ h := by cases h
  dom _ := rfl
  domX _ _ h := h.elim
  sat _ _ h := by cases h
  env := h

theorem PC.calls [Env] {f : FuncId} {args : List V} {vals : Array Value} {w : World} (hp : PC P f [] args fun r h => h = [] ∧ r = .d (.val (.bool true))) (hE : EnvOK (allS w) w) (hv : VEncs (K0 w) w args vals.toList) :
    Calls P f vals w fun e w' => e = .returned (.bool true) ∧ Quiet w w' := by
  refine Go.CallsIn.mono (F := Fence.wide) (hp.2 (K0 w) w vals (SimH0 hE) hv) ?_ |> callsIn_wide.1
  rintro e w' ⟨v, r, h', k', rfl, h1, h2, ex, rfl, rfl⟩
  obtain ⟨rfl, _⟩ := h1
  exact ⟨rfl, ex.grows.os, ex.grows.output, ex.grows.size, fun b hb => ex.frame b hb fun _ h => h⟩

/-- A LAW's ROW: what its post asks, behind a call that says true and leaves what was as it was. -/
theorem law_post {f : FuncId} {fn : Func} {s : ChangeSpec} {W : World} {args : Array Value} {ds gs : List (DataW H)} {before : List MemPlace} {tb : TypeId} {apart fresh handsOn : Bool}
    (hlo : laidOutB P = true) (hvars : s.vars = []) (hrt : fn.resultTypes = #[tb]) (htb : P.underlying tb = some .bool) (hpt : (fn.params.toList.all fun t => P.readableRec t && decide (t < P.types.size)) = true)
    (hfn : ∀ ds : List (DataW H), ds.length = fn.params.toList.length → s.fn H ds = { results := [.lit (.bool true)], args := ds })
    (hW : DataW.Whole enc P fn.params.toList s.vars apart W args.toList ds gs before) (hc : Calls P f args W fun e w' => e = .returned (.bool true) ∧ Quiet W w') :
    Calls P f args W fun e W' => ∃ v, e = .returned v ∧ s.post enc P fn apart fresh handsOn false W args v W' := by
  refine hc.mono fun e W' ⟨he, hq⟩ => ?_
  subst he
  have hW' := hW
  obtain ⟨p, q, hA, hV, rfl, _, _⟩ := hW
  rw [hvars] at hV
  obtain ⟨rfl, rfl⟩ : gs = [] ∧ q = [] := by
    cases gs with
    | nil => exact ⟨rfl, hV⟩
    | cons g r => exact absurd hV (by intro h; cases h)
  have hlt := fun x hx => hW'.lt x hx
  have hd := hfn ds (trodAll_length hA)
  refine ⟨_, rfl, ds, [], p ++ [], [], p, [], hW', ?_, ?_, ?_, hq.kept _, fun h => by cases h⟩
  · rw [List.append_nil, hd, hrt]
    exact trodAll_mk1 (RowKit.shut_bool htb true)
  · rw [List.append_nil, hd]
    refine trodAll_stays hq hlo hpt hA (fun x hx => hlt x (List.mem_append_left _ hx)) fun x hx => ?_
    simpa using hlt x (List.mem_append_left _ hx)
  · rw [List.append_nil, hd, hvars]; rfl
end
end Go.AM
end
