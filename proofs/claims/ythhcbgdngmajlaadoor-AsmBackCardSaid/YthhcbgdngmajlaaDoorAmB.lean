/- The abstract machine: regions, calls, iterators, rounds. No statement of the seat stands here. -/
import Derived.Test.YthhcbgdngmajlaaDoorAmA
import Derived.WideLaws
import Derived.RangeFuncRecord
import Derived.Shelf.Abstract
import Derived.RangeFuncNested
import Derived.OrdersIn
section
/-! ## 14 -/
namespace Go.AM
open Go

inductive Stp where
  | go (st : AS)
  | gc (c : Prop) (st : AS)
  | stop

def Res.put (r : Res) (st : AS) (d : Nat) : Stp :=
  match r with
  | .ok v => .go (st.put d v)
  | .okc c v => .gc c (st.put d v)
  | .no => .stop

/-- A new variable. -/
def anew (st : AS) (d : Nat) (l : List V) : Stp :=
  match lkp d st.h with
  | none => .go { n := st.n, t := (d, .ptr d 0) :: st.t, h := (d, .cells l) :: st.h }
  | some _ => .stop

def astore (T : List (Nat × TI)) (st : AS) (t : Nat) (p v : V) : Stp :=
  match lkp t T with
  | none => .stop
  | some i => match p with
    | .ptr id off => match lkp id st.h with
      | some (.cells vs) => match vcells v with
        | some l => if l.length = i.size ∧ off + l.length ≤ vs.length then .go { st with h := (id, .cells (spl vs off l)) :: st.h } else .stop
        | none => .stop
      | _ => .stop
    | .ep id sz r off => match lkp id st.h with
      | some (.arr sz' rows) => match dcells v with
        | some l => if l.length = i.size ∧ sz = sz' ∧ off + l.length ≤ sz then .gc (r < rows.length) { st with h := (id, .arr sz (rows.set r (splD (rows.getD r []) off l))) :: st.h } else .stop
        | none => .stop
      | _ => .stop
    | _ => .stop

def abuildSlice (T : List (Nat × TI)) (st : AS) (d t len : Nat) (parts : List (Nat × V)) : Stp :=
  match lkp t T with
  | some i => match i.desc with
    | .slice e => match lkp e T with
      | some j => match collect j.size 0 parts with
        | some rows => if parts.length = len ∧ len * j.size ≤ 2 ^ 24 ∧ len ≤ 2 ^ 24 then
            if len = 0 then match lkp d st.h with
              | none => .go { n := st.n, t := (d, .own d j.size 0 0) :: st.t, h := (d, .arr j.size []) :: st.h }
              | some _ => .stop
            else .go (st.put d (.d (.sl j.size rows)))
          else .stop
        | none => .stop
      | none => .stop
    | _ => .stop
  | none => .stop

def noInt : TypeDesc → Bool
  | .int _ => false
  | _ => true

def aappend (T : List (Nat × TI)) (st : AS) (d t t2 : Nat) (s x : V) : Stp :=
  match lkp t T, lkp t2 T with
  | some i, some i2 => match i.desc with
    | .slice e => match lkp e T with
      | some j => if noInt i2.desc then match xrows st.h j.size x with
        | some rows => match s with
          | .d (.val (.slice none 0 0)) => match lkp d st.h with
            | none => .gc (xcond st.h x ∧ rows.length * j.bytes ≤ 140737488355328 ∧ rows.length ≤ LMAX) { n := st.n, t := (d, .own d j.size 0 rows.length) :: st.t, h := (d, .arr j.size rows) :: st.h }
            | some _ => .stop
          | .own id sz 0 m => match lkp id st.h with
            | some (.arr sz' rows0) => if sz = j.size ∧ sz' = j.size then match lkp d (st.drop id).h with
              | none => .gc (m = rows0.length ∧ xcond st.h x ∧ (rows0.length + rows.length) * j.bytes ≤ 140737488355328 ∧ rows0.length + rows.length ≤ LMAX)
                  { n := st.n, t := (d, .own d j.size 0 (rows0.length + rows.length)) :: (st.drop id).t, h := (d, .arr j.size (rows0 ++ rows)) :: (st.drop id).h }
              | some _ => .stop
              else .stop
            | _ => .stop
          | _ => .stop
        | none => .stop
        else .stop
      | none => .stop
    | _ => .stop
  | _, _ => .stop

def astep (T : List (Nat × TI)) (st : AS) (o : Oper) : Stp :=
  match o.dst with
  | some d => if d < st.n then
      match o.op with
      | .alloc t => match lkp t T with
        | some i => anew st d (i.zero.cells.toList.map fun v => .d (.val v))
        | none => .stop
      | .box _ x => match vcells (st.ev x) with
        | some l => anew st d l
        | none => .stop
      | .buildSlice t len parts => abuildSlice T st d t len (parts.toList.map fun p => (p.1, st.ev p.2))
      | .call { callee := .builtin .append, args, argTypes } => match args[0]?, args[1]?, argTypes[0]?, argTypes[1]?, args.size, argTypes.size with
        | some s, some x, some t, some t2, 2, 2 => aappend T st d t t2 (st.ev s) (st.ev x)
        | _, _, _, _, _, _ => .stop
      | op => (aval2 T st op).put st d
    else .stop
  | none => match o.op with
    | .store t p x => astore T st t (st.ev p) (st.ev x)
    | _ => .stop

set_option linter.unusedSectionVars false
variable [Env]
/-- What an operation does. -/
def OpOK (P : Program) (o : Oper) (st st' : AS) : Prop :=
  ∀ ro k w a ms, Sim ro k w st a ms → ∃ r w' k', (execOp a.eval o).run P w = .ok r w' ∧ ((∃ v, r = .value v ∧ Sim ro k' w' st' (a.put o.dst v) ms) ∨ (r = .skip ∧ Sim ro k' w' st' (a.put o.dst undef) ms)) ∧ Ext k w k' w'

def Stp.OK (P : Program) (o : Oper) (st : AS) : Stp → Prop
  | .go st' => OpOK P o st st'
  | .gc c st' => c → OpOK P o st st'
  | .stop => True

section
variable {P : Program} {T : List (Nat × TI)} {st : AS}

theorem OpOK.pure {o : Oper} {d : Nat} (hd : o.dst = some d) (hn : d < st.n) {v : V} (h : ∀ ro k w a ms, Sim ro k w st a ms → ∃ u, (execOp a.eval o).run P w = .ok (.value u) w ∧ VEnc k w v u) : OpOK P o st (st.put d v) := by
  intro ro k w a ms s
  obtain ⟨u, hu, he⟩ := h ro k w a ms s
  refine ⟨_, w, k, hu, .inl ⟨u, rfl, ?_⟩, Ext.refl k w⟩
  rw [hd]
  exact ⟨s.H, s.T.put hn he, s.M.put _ _⟩

theorem Res.put_OK {o : Oper} {d : Nat} (hd : o.dst = some d) (hn : d < st.n) {r : Res} (h : ∀ ro k w a ms, Sim ro k w st a ms → r.holds fun v => ∃ u, (execOp a.eval o).run P w = .ok (.value u) w ∧ VEnc k w v u) : (r.put st d).OK P o st := by
  cases r with
  | ok v => exact OpOK.pure hd hn h
  | okc c v => exact fun hc => OpOK.pure hd hn fun ro k w a ms s => h ro k w a ms s hc
  | no => exact trivial

theorem exec_v {ρ : Operand → Value} {o : Oper} {s : Sem Value} {w w' : World} {u : Value} (he : execOp ρ o = (do pure (.value (← s)))) (h : s.run P w = .ok u w') : (execOp ρ o).run P w = .ok (.value u) w' := by
  rw [he, run_bind_ok h]; rfl

def isLoad : Op → Bool
  | .load _ _ => true
  | _ => false

theorem aminmax_sound {k : K} {w : World} (mx : Bool) (ats : Array TypeId) (ty : TypeId) (l : List V) (vs : Array Value) (hv : VEncs k w l vs.toList) {dst : Option Nat} {pos : String} {after : Array Edge} {guard : Option (Nat × Bool)} {args : Array Operand} (ρ : Operand → Value) (hvs : vs = args.map ρ) :
    (aminmax mx l).holds fun v => ∃ u, (∀ w', (isLoad (.call { callee := .builtin (if mx then .max else .min), args, argTypes := ats }) = true → Still w w') → (execOp ρ { dst, op := .call { callee := .builtin (if mx then .max else .min), args, argTypes := ats }, type := ty, pos, after, guard }).run P w' = .ok (.value u) w') ∧ VEnc k w v u := by
  unfold aminmax
  split
  · rename_i k1 a k2 b
    split
    · rename_i hk
      subst hk
      obtain ⟨us⟩ := vs
      match us, hv with
      | [x, y], ⟨h1, h2, _⟩ =>
        cases venc_val h1; cases venc_val h2
        refine ⟨_, fun w' _ => ?_, enc_int _ _⟩
        cases mx
        · simp only [execOp, resolve, pure_bind, invoke, builtin, ← hvs, Bool.false_eq_true, if_false]
          simp only [Builtin.min_, List.foldlM_cons, List.foldlM_nil, Builtin.min2, pure_bind]
          rw [show min a b = if b < a then b else a from by simp only [Int.min_def]; split <;> split <;> omega]
          rfl
        · simp only [execOp, resolve, pure_bind, invoke, builtin, ← hvs, if_true]
          simp only [Builtin.max_, List.foldlM_cons, List.foldlM_nil, Builtin.max2, pure_bind]
          rw [show max a b = if b > a then b else a from by simp only [Int.max_def]; split <;> split <;> omega]
          rfl
    · exact trivial
  · exact trivial

theorem OEnc_map {k : K} {w : World} {a : Act} (h : SimT k w st a) (x : Option Operand) : OEnc k w (x.map st.ev) (x.map a.eval) := by
  cases x with
  | none => exact trivial
  | some o => exact AS.ev_enc h o

theorem VEncs_map {k : K} {w : World} {a : Act} (h : SimT k w st a) : ∀ l : List Operand, VEncs k w (l.map st.ev) (l.map a.eval)
  | [] => trivial
  | o :: r => ⟨AS.ev_enc h o, VEncs_map h r⟩

theorem PEncs_map {k : K} {w : World} {a : Act} (h : SimT k w st a) : ∀ l : List (Nat × Operand), PEncs k w (l.map fun p => (p.1, st.ev p.2)) (l.map fun p => (p.1, a.eval p.2))
  | [] => trivial
  | o :: r => ⟨⟨rfl, AS.ev_enc h o.2⟩, PEncs_map h r⟩

theorem eqGuard_int (op : BinOp) (t : TypeId) (x y : Operand) (vx vy : Value) (h : (∀ cs, vx ≠ .agg cs) ∧ vx ≠ .nilIface) (w : World) : (eqGuard op t x y vx vy).run P w = .ok () w := by
  cases op <;> first
    | rfl
    | (cases vx <;> first
        | rfl
        | exact absurd rfl h.2
        | exact absurd rfl (h.1 _))

theorem abin_left {k : K} {w : World} {op : BinOp} {t : Nat} {x y : V} {vx vy : Value} (hT : TOK P T) (hx : VEnc k w x vx) (hy : VEnc k w y vy) (h : abin T op t x y ≠ .no) : (∀ cs, vx ≠ .agg cs) ∧ vx ≠ .nilIface := by
  unfold abin at h
  split at h
  · cases venc_val hx; exact ⟨by simp, by simp⟩
  · cases venc_val hx; exact ⟨by simp, by simp⟩
  · cases venc_val hx; exact ⟨by simp, by simp⟩
  · cases venc_val hx; exact ⟨by simp, by simp⟩
  · split at h
    · rename_i b hb; have := aeq_sound hT t x y vx vy hx hy b hb; exact ⟨this.2.1, this.2.2.1⟩
    · exact absurd rfl h
  · split at h
    · rename_i b hb; have := aeq_sound hT t x y vx vy hx hy b hb; exact ⟨this.2.1, this.2.2.1⟩
    · exact absurd rfl h
  · exact absurd rfl h

theorem aval_sound (hT : TOK P T) (o : Oper) {ro : Option Nat} {k : K} {w : World} {a : Act} {ms : List Nat} (s : Sim ro k w st a ms) :
    (aval T st o.op).holds fun v => ∃ u, (∀ w', (isLoad o.op = true → Still w w') → (execOp a.eval o).run P w' = .ok (.value u) w') ∧ VEnc k w v u := by
  have ev := AS.ev_enc s.T
  obtain ⟨dst, op, ty, pos, after, guard⟩ := o
  simp only
  unfold aval
  split
  · exact ⟨_, fun _ _ => rfl, ev _⟩
  · exact ⟨_, fun _ _ => rfl, ev _⟩
  · -- pick
    rename_i c x y
    unfold apick
    split
    · rename_i b hc
      have h := ev c; rw [hc] at h
      have h1 : a.eval c = .bool b := venc_val h
      unfold apickS
      split
      · rename_i g xa g' xb e1 e2
        rintro ⟨c1, c2⟩
        have one : ∀ {z : V} {u : Value} {g b0 : Bool}, VEnc k w z u → asB z = some (g, b0) → g = true → u = .bool b0 := by
          intro z u g b0 hz he hg
          unfold asB at he
          split at he
          · cases he; exact venc_val hz
          · cases he; exact venc_val (hz.1 hg)
          · cases he
        cases b
        · have := one (ev y) e2 (c2 rfl)
          exact ⟨.bool xb, fun _ _ => by simp [execOp, h1, asBool, this], enc_bool _⟩
        · have := one (ev x) e1 (c1 rfl)
          exact ⟨.bool xa, fun _ _ => by simp [execOp, h1, asBool, this], enc_bool _⟩
      · exact trivial
    · exact trivial
  · exact (aload_sound hT s.H _ _ _ (ev _)).mono fun v ⟨u, hu, he⟩ => ⟨u, fun w' hw => exec_v rfl (hu w' (hw rfl)), he⟩
  · exact (anil_sound _ _ (ev _) (fun _ => pure .skip) _ _ _ rfl rfl).mono fun v ⟨u, hu, he⟩ => ⟨u, fun w' _ => hu w', he⟩
  · rename_i op t x y yt
    have h1 := abin_sound hT op t _ _ _ _ (ev x) (ev y)
    by_cases hno : abin T op t (st.ev x) (st.ev y) = .no
    · rw [hno]; exact trivial
    · refine h1.mono fun v ⟨u, hu, he⟩ => ⟨u, fun w' _ => exec_v (s := do eqGuard op t x y (a.eval x) (a.eval y); binOp op t (a.eval x) (a.eval y)) rfl ?_, he⟩
      rw [run_bind_ok (eqGuard_int op t x y _ _ (abin_left hT (ev x) (ev y) hno) w')]
      exact hu w'
  · exact (aunary_sound _ _ _ (ev _)).mono fun v ⟨u, hu, he⟩ => ⟨u, fun w' _ => exec_v rfl (hu w'), he⟩
  · exact (aconvert_sound hT _ _ _ _ (ev _)).mono fun v ⟨u, hu, he⟩ => ⟨u, fun w' _ => exec_v rfl (hu w'), he⟩
  · rename_i f first caps
    refine ⟨.func (.func f) (first.map a.eval) (caps.map a.eval), fun _ _ => rfl, _, _, rfl, ?_, ?_⟩
    · rw [Array.toList_map]; exact VEncs_map s.T _
    · rw [Array.toList_map]; exact VEncs_map s.T _
  · exact (aslice_sound hT _ _ _ (ev _) (OEnc_map s.T _) (OEnc_map s.T _)).mono fun v ⟨u, hu, he⟩ => ⟨u, fun w' _ => exec_v rfl (hu w'), he⟩
  · exact (afieldAddr_sound hT _ _ _ _ (ev _)).mono fun v ⟨u, hu, he⟩ => ⟨u, fun w' _ => exec_v rfl (hu w'), he⟩
  · exact (afield_sound hT _ _ _ _ (ev _)).mono fun v ⟨u, hu, he⟩ => ⟨u, fun w' _ => exec_v rfl (hu w'), he⟩
  · exact (aindexAddr_sound hT _ _ _ _ _ (ev _) (ev _)).mono fun v ⟨u, hu, he⟩ => ⟨u, fun w' _ => exec_v rfl (hu w'), he⟩
  · exact (aindex_sound hT _ _ _ _ _ (ev _) (ev _)).mono fun v ⟨u, hu, he⟩ => ⟨u, fun w' _ => exec_v rfl (hu w'), he⟩
  · exact (aextract_sound _ _ _ (ev _)).mono fun v ⟨u, hu, he⟩ => ⟨u, fun w' _ => exec_v rfl (hu w'), he⟩
  · rename_i args argTypes
    split
    · rename_i x t hx ht
      refine (alen_sound hT t _ _ (ev x) ty argTypes (args.map a.eval) ht (by simp [hx])).mono fun v ⟨u, hu, he⟩ => ⟨u, fun w' _ => ?_, he⟩
      simp only [execOp, resolve, pure_bind, invoke, builtin]
      rw [run_bind_ok (hu w')]; rfl
    · exact trivial
  · exact trivial

theorem aeqS_sound (hT : TOK P T) {t : Nat} {x y : V} {vx vy : Value} {b : Bool} {k : K} {w : World} (hx : VEnc k w x vx) (hy : VEnc k w y vy) (h : aeqS T t x y = some b) :
    ∃ cs ds, vx = .agg cs ∧ vy = .agg ds ∧ P.eqGuardType P.depth t = false ∧ ∀ w', (Op.equalIn 10000 t (.agg cs) (.agg ds)).run P w' = .ok b w' := by
  have hag : ∀ v : V, isAggV v = true → (∃ l, v = .agg l) ∨ ∃ l, v = .dagg l := fun v hv => by
    cases v <;> simp [isAggV] at hv
    · exact .inl ⟨_, rfl⟩
    · exact .inr ⟨_, rfl⟩
  unfold aeqS at h
  split at h
  · rename_i hc0
    simp only [Bool.and_eq_true] at hc0
    obtain ⟨c3, c4⟩ := hc0
    split at h
    · rename_i i hi
      split at h
      · rename_i hc
        simp only [Bool.and_eq_true] at hc
        obtain ⟨c1, c2⟩ := hc
        split at h
        · rename_i l m hl hm
          obtain ⟨cs, rfl, e1⟩ := venc_agg hx hl hi (hag _ c3)
          obtain ⟨ds, rfl, e2⟩ := venc_agg hy hm hi (hag _ c4)
          exact ⟨cs, ds, rfl, rfl, (hT.eqs hi c1).2, ((aeqF_sound hT 20 10000 t l m b h (by omega)) i hi).1 c2 cs ds e1 e2⟩
        · cases h
      · cases h
    · cases h
  · cases h

theorem anilI_sound (hT : TOK P T) {t : Nat} {x : V} {y : Operand} {vx : Value} {b : Bool} {k : K} {w : World} (hx : VEnc k w x vx) (h : anilI T t x y = some b) :
    y = .const .nilIface ∧ (vx = .nilIface ∨ ∃ u z, vx = .iface u z) ∧ ∀ w', (Op.equal t vx .nilIface).run P w' = .ok b w' := by
  unfold anilI at h
  split at h
  · split at h
    · rename_i i hi
      split at h
      · rename_i ms hd
        have hu : P.underlying t = some (.interface ms) := by rw [(hT t i hi).1, hd]
        have hu : P.underlying t = some (.interface (P.methodsAt t)) := by rw [hu]; simp [Program.methodsAt, hu]
        split at h
        · cases h; cases venc_val hx
          exact ⟨rfl, .inl rfl, fun w' => run_equal_nil_nil w' t hu⟩
        · cases h; cases venc_val hx
          exact ⟨rfl, .inr ⟨_, _, rfl⟩, fun w' => run_equal_held_nil w' t _ _ hu⟩
        · cases h
      · cases h
    · cases h
  · cases h

theorem aval2_sound (hT : TOK P T) (o : Oper) {ro : Option Nat} {k : K} {w : World} {a : Act} {ms : List Nat} (s : Sim ro k w st a ms) :
    (aval2 T st o.op).holds fun v => ∃ u, (∀ w', (isLoad o.op = true → Still w w') → (execOp a.eval o).run P w' = .ok (.value u) w') ∧ VEnc k w v u := by
  have ev := AS.ev_enc s.T
  have base := aval_sound hT o s
  obtain ⟨dst, op, ty, pos, after, guard⟩ := o
  simp only at base ⊢
  unfold aval2
  split
  · rename_i t parts
    refine (abuild_sound hT t _ (parts.map fun p => (p.1, a.eval p.2)) (by rw [Array.toList_map]; exact PEncs_map s.T _)).mono fun v ⟨u, hu, he⟩ => ⟨u, fun w' _ => exec_v rfl (hu w'), he⟩
  · rename_i args ats
    exact aminmax_sound false ats ty _ (args.map a.eval) (by rw [Array.toList_map]; exact VEncs_map s.T _) (dst := dst) (pos := pos) (after := after) (guard := guard) a.eval rfl
  · rename_i args ats
    exact aminmax_sound true ats ty _ (args.map a.eval) (by rw [Array.toList_map]; exact VEncs_map s.T _) (dst := dst) (pos := pos) (after := after) (guard := guard) a.eval rfl
  · exact (aindex2_sound hT _ _ _ _ _ (ev _) (ev _)).mono fun v ⟨u, hu, he⟩ => ⟨u, fun w' _ => exec_v rfl (hu w'), he⟩
  · rename_i t x y yt
    split
    · rename_i b hb
      obtain ⟨cs, ds, e1, e2, e3, e4⟩ := aeqS_sound hT (ev x) (ev y) hb
      refine ⟨.bool b, fun w' _ => exec_v (s := do eqGuard .eql t x y (a.eval x) (a.eval y); binOp .eql t (a.eval x) (a.eval y)) rfl ?_, enc_bool b⟩
      rw [e1, e2, run_bind_ok (run_eqGuard_agg w' .eql t x y cs ds e3), run_eql_struct, e4 w']; rfl
    · split
      · rename_i b hb
        obtain ⟨rfl, e2, e3⟩ := anilI_sound hT (ev x) hb
        refine ⟨.bool b, fun w' _ => exec_v (s := do eqGuard .eql t x (.const .nilIface) (a.eval x) .nilIface; binOp .eql t (a.eval x) .nilIface) rfl ?_, enc_bool b⟩
        have hg : (eqGuard .eql t x (.const .nilIface) (a.eval x) .nilIface).run P w' = .ok () w' := by
          rcases e2 with e2 | ⟨u, z, e2⟩ <;> rw [e2] <;> simp [eqGuard]
        have hb : (binOp .eql t (a.eval x) .nilIface) = (do pure (.bool (← Op.equal t (a.eval x) .nilIface))) := by
          rcases e2 with e2 | ⟨u, z, e2⟩ <;> rw [e2] <;> rfl
        rw [run_bind_ok hg, hb, run_bind_ok (e3 w')]; rfl
      · exact base
  · rename_i t x y yt
    split
    · rename_i b hb
      obtain ⟨cs, ds, e1, e2, e3, e4⟩ := aeqS_sound hT (ev x) (ev y) hb
      refine ⟨.bool (!b), fun w' _ => exec_v (s := do eqGuard .neq t x y (a.eval x) (a.eval y); binOp .neq t (a.eval x) (a.eval y)) rfl ?_, enc_bool _⟩
      rw [e1, e2, run_bind_ok (run_eqGuard_agg w' .neq t x y cs ds e3), run_neq_struct, e4 w']; rfl
    · split
      · rename_i b hb
        obtain ⟨rfl, e2, e3⟩ := anilI_sound hT (ev x) hb
        refine ⟨.bool (!b), fun w' _ => exec_v (s := do eqGuard .neq t x (.const .nilIface) (a.eval x) .nilIface; binOp .neq t (a.eval x) .nilIface) rfl ?_, enc_bool _⟩
        have hg : (eqGuard .neq t x (.const .nilIface) (a.eval x) .nilIface).run P w' = .ok () w' := by
          rcases e2 with e2 | ⟨u, z, e2⟩ <;> rw [e2] <;> simp [eqGuard]
        have hb : (binOp .neq t (a.eval x) .nilIface) = (do pure (.bool (!(← Op.equal t (a.eval x) .nilIface)))) := by
          rcases e2 with e2 | ⟨u, z, e2⟩ <;> rw [e2] <;> rfl
        rw [run_bind_ok hg, hb, run_bind_ok (e3 w')]; rfl
      · exact base
  · exact base

theorem aval_OK (hT : TOK P T) {o : Oper} {d : Nat} (hd : o.dst = some d) (hn : d < st.n) : ((aval2 T st o.op).put st d).OK P o st :=
  Res.put_OK hd hn fun _ _ w _ _ s => (aval2_sound hT o s).mono fun _ ⟨u, hu, he⟩ => ⟨u, hu w fun _ => Still.refl w, he⟩
end
end Go.AM
end
section
/-! ## 15 -/
namespace Go.AM
open Go
set_option linter.unusedSectionVars false
variable [Env]

section
variable {P : Program} {T : List (Nat × TI)} {st : AS}

theorem run_newVar (t : TypeId) (v : Value) (w : World) : (newVar t v).run P w = .ok ⟨w.heap.size, 0, none⟩ (w.alloc (.cells v.cells t)) := by
  simp [newVar, newRow, Sem.run_bind]

theorem anew_OK {o : Oper} {d : Nat} (hd : o.dst = some d) (hn : d < st.n) {l : List V} {tt : TypeId}
    (h : ∀ ro k w a ms, Sim ro k w st a ms → ∃ v x, VEnc k w v x ∧ vcells v = some l ∧ (execOp a.eval o).run P w = .ok (.value (.pointer (some ⟨w.heap.size, 0, none⟩))) (w.alloc (.cells x.cells tt))) : (anew st d l).OK P o st := by
  unfold anew
  split
  · rename_i hl
    intro ro k w a ms s
    obtain ⟨v, x, hv, hc, hr⟩ := h ro k w a ms s
    obtain ⟨h1, h2⟩ := sim_box s hl hn hv hc tt
    refine ⟨_, _, _, hr, .inl ⟨_, rfl, ?_⟩, h2⟩
    rw [hd]; exact h1
  · exact trivial

theorem alloc_OK (hT : TOK P T) {o : Oper} {d : Nat} (hd : o.dst = some d) (hn : d < st.n) {t : Nat} (ho : o.op = .alloc t) {i : TI} (hi : lkp t T = some i) : (anew st d (i.zero.cells.toList.map fun v => .d (.val v))).OK P o st := by
  refine anew_OK hd hn (tt := t) fun ro k w a ms s => ?_
  obtain ⟨z1, z2⟩ := hT.ones hi
  have hv : VEnc k w (.agg (i.zero.cells.toList.map fun v => .d (.val v))) (.agg i.zero.cells) := ⟨_, rfl, VEncs_vals (k := k) (w := w) _ fun c hc => z1 c (by simpa using hc), z1⟩
  refine ⟨_, _, hv, rfl, ?_⟩
  refine exec_v (s := Instr.alloc t true (.tuple #[])) (by unfold execOp; rw [ho]) ?_
  unfold Instr.alloc
  rw [run_bind_ok (run_zeroValue hT hi w)]
  simp only
  rw [run_bind_ok (run_newVar t i.zero w)]
  rfl

theorem box_OK {o : Oper} {d : Nat} (hd : o.dst = some d) (hn : d < st.n) {t : Nat} {x : Operand} (ho : o.op = .box t x) {l : List V} (hl : vcells (st.ev x) = some l) : (anew st d l).OK P o st := by
  refine anew_OK hd hn (tt := t) fun ro k w a ms s => ?_
  refine ⟨_, _, AS.ev_enc s.T x, hl, ?_⟩
  refine exec_v (s := Instr.box t (a.eval x)) (by unfold execOp; rw [ho]) ?_
  unfold Instr.box
  rw [run_bind_ok (run_newVar t _ w)]
  rfl

theorem exec_u {ρ : Operand → Value} {o : Oper} {s : Sem Unit} {w w' : World} (he : execOp ρ o = (do s; pure .skip)) (h : s.run P w = .ok () w') : (execOp ρ o).run P w = .ok .skip w' := by
  rw [he, run_bind_ok h]; rfl

theorem splD_length : ∀ (l : List D) (ds : List D) (o : Nat), (splD ds o l).length = ds.length
  | [], _, _ => rfl
  | x :: r, ds, o => by simp only [splD]; rw [splD_length r]; simp
theorem DEncs.spl {S : Nat → Prop} {w : World} : ∀ {m : List D} {us : List Value} {l : List D} {cs : Array Value} (o : Nat), DEncs S w l cs.toList → DEncs S w m us → DEncs S w (splD l o m) (cspl cs o us).toList
  | [], [], _, _, _, h, _ => h
  | _ :: _, _ :: _, l, cs, o, h, h' => DEncs.spl (cs := cs.setIfInBounds o _) (o + 1) (by rw [Array.toList_setIfInBounds]; exact h.set o h'.1) h'.2
  | [], _ :: _, _, _, _, _, h => h.elim
  | _ :: _, [], _, _, _, _, h => h.elim

theorem flatten_set {sz : Nat} : ∀ {rows : List (List D)} (_ : ∀ r ∈ rows, r.length = sz) {r : Nat} (_ : r < rows.length) (off : Nat) (l : List D) (_ : off + l.length ≤ sz),
    (rows.set r (splD (rows.getD r []) off l)).flatten = splD rows.flatten (r * sz + off) l
  | [], _, _, hr, _, _, _ => by simp at hr
  | x :: xs, hu, 0, _, off, l, hl => by
    have hx : x.length = sz := hu x (by simp)
    have key : ∀ (l : List D) (y : List D) (off : Nat) (z : List D), off + l.length ≤ y.length → splD y off l ++ z = splD (y ++ z) off l := by
      intro l
      induction l with
      | nil => intros; rfl
      | cons a l ih =>
        intro y off z h
        simp only [splD, List.length_cons] at h ⊢
        rw [ih _ _ _ (by simp; omega)]
        congr 1
        rw [List.set_append_left _ _ (by omega)]
    simp only [List.set_cons_zero, List.flatten_cons, List.getD_cons_zero, Nat.zero_mul, Nat.zero_add]
    exact key l x off xs.flatten (by omega)
  | x :: xs, hu, r + 1, hr, off, l, hl => by
    have hx : x.length = sz := hu x (by simp)
    have ih := flatten_set (rows := xs) (fun r hr => hu r (by simp [hr])) (r := r) (by simpa using hr) off l hl
    simp only [List.set_cons_succ, List.flatten_cons, List.getD_cons_succ]
    rw [ih]
    have key : ∀ (l : List D) (o : Nat) (z : List D), x ++ splD z o l = splD (x ++ z) (x.length + o) l := by
      intro l
      induction l with
      | nil => intros; rfl
      | cons a l ih =>
        intro o z
        simp only [splD]
        rw [ih, show x.length + (o + 1) = x.length + o + 1 from by omega]
        congr 1
        rw [List.set_append_right _ _ (by omega)]
        congr 2; omega
    rw [key, hx]
    congr 1
    rw [Nat.add_mul]; omega

theorem astore_OK (hT : TOK P T) {o : Oper} (hd : o.dst = none) {t : Nat} {p x : Operand} (ho : o.op = .store t p x) : (astore T st t (st.ev p) (st.ev x)).OK P o st := by
  unfold astore
  split
  · exact trivial
  · rename_i i hi
    split
    · rename_i id off hp
      split
      · rename_i vs hob
        split
        · rename_i l hl
          split
          · rename_i hc
            intro ro k w a ms s
            have hpv := AS.ev_enc s.T p
            rw [hp] at hpv
            obtain ⟨w', h1, h2, h3⟩ := sim_store hT s hi hob (AS.ev_enc s.T x) hl hc.1 hc.2 hpv
            refine ⟨_, w', k, exec_u (s := Instr.storeAt t (a.eval p) (a.eval x)) (by unfold execOp; rw [ho]) h1, .inr ⟨rfl, ?_⟩, h3⟩
            rw [hd]; exact h2
          · exact trivial
        · exact trivial
      · exact trivial
    · rename_i id sz r off hp
      split
      · rename_i sz' rows hob
        split
        · rename_i l hl
          split
          · rename_i hc
            obtain ⟨c1, rfl, c3⟩ := hc
            intro hr ro k w a ms s
            have hpv := AS.ev_enc s.T p
            rw [hp] at hpv
            obtain ⟨b, hb, hpe⟩ := hpv
            obtain ⟨d1, d2⟩ := dcells_sound (AS.ev_enc s.T x) hl
            obtain ⟨o1, o2, o3⟩ := s.H.sat id _ hob
            rcases o1 with ⟨o1, _⟩ | ⟨b', cs, ty, p1, p2, p3, p4, p5⟩
            · rw [hb] at o1; cases o1
            · rw [hb] at p1; cases p1
              obtain ⟨cs0, r1, r2, r3⟩ := (RowsAt.flat.1 p4).range
              rw [flatten_length o2] at r1
              have hxl : (a.eval x).cells.size = l.length := by have := DEncs.length d1; simpa using this
              have hle : r * sz + off + l.length ≤ rows.length * sz := by
                have : (r + 1) * sz ≤ rows.length * sz := Nat.mul_le_mul_right _ hr
                rw [Nat.add_mul] at this; omega
              have hcs : rows.length * sz ≤ cs.size := by
                rcases Nat.eq_zero_or_pos (rows.length * sz) with h0 | h0
                · omega
                · have hlt : rows.length * sz - 1 < cs0.length := by omega
                  have := r2 _ cs0[rows.length * sz - 1] (List.getElem?_eq_getElem hlt)
                  rw [cell_of_cells p2] at this
                  have := (Array.getElem?_eq_some_iff.1 this).1; omega
              have hst := run_storeVar (P := P) hT hi (b := b) (o := r * sz + off) (v := a.eval x) p2 (by omega) (by omega) d2
              obtain ⟨a1, a2, a3⟩ := heap_setCells b ty (0, 0) (a.eval x).cells.toList (r * sz + off) w cs p2
              have htk : cs.toList = cs0 ++ cs.toList.drop cs0.length := by
                have : cs.toList.take cs0.length = cs0 := by
                  apply List.ext_getElem?
                  intro q
                  rw [List.getElem?_take]
                  split
                  · rename_i hlt
                    have := r2 q cs0[q] (List.getElem?_eq_getElem hlt)
                    rw [cell_of_cells p2, Nat.zero_add] at this
                    rw [Array.getElem?_toList, this, List.getElem?_eq_getElem hlt]
                  · rw [List.getElem?_eq_none]; omega
                have hcl : cs0.length ≤ cs.toList.length := by have h9 := Array.length_toList (xs := cs); omega
                rw [← this, List.length_take, Nat.min_eq_left hcl, List.take_append_drop]
              have hk : Keeps k w k (w.setCells b (r * sz + off) (a.eval x).cells.toList) := by
                refine ⟨.of ⟨by omega, fun b' cs1 ty0 fz0 h0 => ?_⟩ (os_setCells' _ _ _ _) (output_setCells' _ _ _ _), fun b' hs => a3 b' fun e => s.H.dis id b' (by subst e; exact s.H.prim id _ hb) hs, fun _ h => h, fun _ _ h => h⟩
                by_cases e : b' = b
                · subst e; rw [p2] at h0; cases h0; exact ⟨_, a1, cspl_size _ _ _⟩
                · exact ⟨cs1, by rw [a3 b' e]; exact h0, rfl⟩
              have hnew : obSat k (w.setCells b (r * sz + off) (a.eval x).cells.toList) id (.arr sz (rows.set r (splD (rows.getD r []) off l))) := by
                refine ⟨.inr ⟨b, _, ty, hb, a1, cspl_ones _ _ _ p3 (fun c hc => d2 c (by simpa using hc)), ?_, p5⟩, ?_, by rw [List.length_set]; exact o3⟩
                · rw [RowsAt.flat, flatten_set o2 hr off l (by omega)]
                  have h4 := DEncs.spl (cs := cs0.toArray) (r * sz + off) (by simpa using DEncs.mono hk.same hk.sub _ _ r3) (DEncs.mono hk.same hk.sub _ _ d1)
                  refine CellsAt.of_encs h4 (rangeAt_of_block a1 fun q u hq => ?_)
                  rw [Nat.zero_add]
                  have key : ∀ (us : List Value) (c1 c2 : Array Value) (o : Nat), (∀ (q : Nat) (u : Value), c1.toList[q]? = some u → c2[q]? = some u) → ∀ (q : Nat) (u : Value), (cspl c1 o us).toList[q]? = some u → (cspl c2 o us)[q]? = some u := by
                    intro us
                    induction us with
                    | nil => intro c1 c2 o h q u hq; exact h q u hq
                    | cons y ys ih =>
                      intro c1 c2 o h q u hq
                      refine ih _ _ _ (fun q u hq => ?_) q u hq
                      rw [Array.getElem?_toList] at hq
                      by_cases e : q = o
                      · subst e
                        have hlt : q < c1.size := by have := (Array.getElem?_eq_some_iff.1 hq).1; simpa using this
                        have hlt2 : q < c2.size := by
                          have := h q c1[q] (by rw [Array.getElem?_toList]; exact Array.getElem?_eq_getElem hlt)
                          exact (Array.getElem?_eq_some_iff.1 this).1
                        rw [Array.getElem?_setIfInBounds_self_of_lt hlt] at hq
                        rw [Array.getElem?_setIfInBounds_self_of_lt hlt2]; exact hq
                      · rw [Array.getElem?_setIfInBounds_ne (fun h => e h.symm)] at hq ⊢
                        exact h q u (by rw [Array.getElem?_toList]; exact hq)
                  refine key _ _ _ _ (fun q u hq => ?_) q u hq
                  have hq' : cs0[q]? = some u := by simpa using hq
                  have := r2 q u hq'
                  rw [cell_of_cells p2, Nat.zero_add] at this; exact this
                · intro x hx
                  rcases List.mem_or_eq_of_mem_set hx with h | h
                  · exact o2 x h
                  · subst h; rw [splD_length]; exact rows_getD_length o2 hr
              obtain ⟨e, m, hH⟩ := s.H.write (w' := w.setCells b (r * sz + off) (a.eval x).cells.toList) hb p2 a1 (cspl_size _ _ _) a2 (fun b' _ hne => a3 b' hne) hnew
              refine ⟨_, _, k, exec_u (s := Instr.storeAt t (a.eval p) (a.eval x)) (by unfold execOp; rw [ho]) (by rw [hpe]; exact hst), .inr ⟨rfl, ?_⟩, e⟩
              rw [hd]; exact s.of_ext hH m e
          · exact trivial
        · exact trivial
      · exact trivial
    · exact trivial
end
end Go.AM
end
section
/-! ## 16 -/
namespace Go.AM
open Go
set_option linter.unusedSectionVars false
variable [Env]

section
variable {P : Program} {T : List (Nat × TI)} {st : AS} {Q : Exit → AS → Prop}

theorem abuildSlice_OK (hT : TOK P T) {o : Oper} {d : Nat} (hd : o.dst = some d) (hn : d < st.n) {t len : Nat} {parts : Array (Nat × Operand)} (ho : o.op = .buildSlice t len parts) :
    (abuildSlice T st d t len (parts.toList.map fun p => (p.1, st.ev p.2))).OK P o st := by
  unfold abuildSlice
  split
  · rename_i i hi
    split
    · rename_i e hde
      split
      · rename_i j hj
        split
        · rename_i rows hc
          split
          · rename_i hl
            have run : ∀ ro k w a ms, Sim ro k w st a ms → ∃ cs : Array Value, (execOp a.eval o).run P w = .ok (.value (.slice (some ⟨w.heap.size, 0, none⟩) len len)) (w.alloc (.cells cs e)) ∧ rows.length = len ∧ (∀ r ∈ rows, r.length = j.size) ∧ DEncs k.S w rows.flatten cs.toList ∧ cs.size = len * j.size := by
              intro ro k w a ms s
              obtain ⟨cs, h1, h2⟩ := run_buildSlice (k := k) (w := w) hT hi hde hj (vs := parts.map fun p => (p.1, a.eval p.2)) hc (by rw [Array.toList_map]; exact PEncs_map s.T _) hl.1 (hT.ones hj).2 hl.2.1
              exact ⟨cs, exec_v (by unfold execOp; rw [ho]) h1, h2⟩
            split
            · rename_i h0
              subst h0
              split
              · rename_i hld
                intro ro k w a ms s
                obtain ⟨cs, h1, h2, h3, h4, h5⟩ := run ro k w a ms s
                have hrow : rows = [] := List.eq_nil_of_length_eq_zero h2
                subst hrow
                have hcs : cs = #[] := Array.eq_empty_of_size_eq_zero (by rw [h5, Nat.zero_mul])
                subst hcs
                have hb : k.β d = none := by
                  have := s.H.dom d
                  rw [hld] at this
                  cases hq : k.β d with
                  | none => rfl
                  | some l => rw [hq] at this; cases this
                have ex := Ext.new s.H hb (Nat.lt_of_lt_of_le hn s.T.arg) (.cells #[] e)
                have m := keeps_new s.H hld (.cells #[] e)
                have hH := s.H.new hld (o := .cells #[] e) (ob := .arr j.size []) ⟨.inr ⟨w.heap.size, #[], e, by simp [K.new], heap_new w _, by simp, trivial, fun b' hb' => by simpa [K.new] using hb'⟩, by simp, by simp⟩
                have s1 := s.of_ext hH m ex
                refine ⟨_, _, _, h1, .inl ⟨_, rfl, ?_⟩, ex⟩
                rw [hd]
                exact ⟨s1.H, SimT.put (st := { st with h := (d, .arr j.size []) :: st.h }) s1.T hn (.inr ⟨w.heap.size, 0, 0, #[], e, (0, 0), by simp [K.new], rfl, Nat.le_refl _, by omega, by unfold LMAX; omega, heap_new w _, fun h => by omega, by simp⟩), s1.M.put _ _⟩
              · exact trivial
            · rename_i h0
              intro ro k w a ms s
              obtain ⟨cs, h1, h2, h3, h4, h5⟩ := run ro k w a ms s
              obtain ⟨m, hH⟩ := s.H.addS (w' := w.alloc (.cells cs e)) (R := fun b => b = w.heap.size) (fun b hb => by
                subst hb; exact ⟨by rw [size_alloc]; omega, fun i hx => by have := s.H.lt i _ hx; omega⟩) (Grows.alloc w _) (fun b hb => heap_alloc w _ b hb)
              have ex := Ext.addS (k := k) (w := w) (w' := w.alloc (.cells cs e)) (R := fun b => b = w.heap.size) (fun b hb => .inl (by omega)) (Grows.alloc w _) (fun b hb => heap_alloc w _ b hb)
              have s1 := s.of_ext hH m ex
              refine ⟨_, _, _, h1, .inl ⟨_, rfl, ?_⟩, ex⟩
              rw [hd]
              refine ⟨s1.H, SimT.put (st := st) ⟨s1.T.size, s1.T.arg, s1.T.tm⟩ hn ⟨_, len, by rw [h2], by omega, ?_, ?_, h3, .inr ⟨w.heap.size, 0, rfl, .inr rfl, ?_⟩⟩, s1.M.put _ _⟩
              · have := hl.2.2; omega
              · have := hl.2.2; unfold LMAX; omega
              · rw [RowsAt.flat]
                exact CellsAt.of_encs (DEncs.mono m.same m.sub _ _ h4) (rangeAt_of_block (heap_new w _) fun q u hq => by rw [Nat.zero_add, ← Array.getElem?_toList]; exact hq)
          · exact trivial
        · exact trivial
      · exact trivial
    · exact trivial
  · exact trivial

theorem xcond_mono {h : List (Nat × Ob)} {v : V} (hc : xcond h v) : xcond h v := hc

theorem drop_S (k : K) (id : Nat) : (k.drop id).S = k.S := rfl

theorem aappend_OK (hT : TOK P T) {o : Oper} {d : Nat} (hd : o.dst = some d) (hn : d < st.n) {args : Array Operand} {ats : Array TypeId} {t t2 : Nat} {s x : Operand}
    (ho : o.op = .call { callee := .builtin .append, args, argTypes := ats }) (h1 : args[0]? = some s) (h2 : args[1]? = some x) (h3 : ats[0]? = some t) (h4 : ats[1]? = some t2) (h5 : args.size = 2) (h6 : ats.size = 2) :
    (aappend T st d t t2 (st.ev s) (st.ev x)).OK P o st := by
  have hargs : args = #[s, x] := by
    apply Array.ext'
    have hl : args.toList.length = 2 := by simpa using h5
    match hq : args.toList, hl with
    | [p, q], _ =>
      rw [← Array.getElem?_toList, hq] at h1 h2
      simp at h1 h2; subst h1; subst h2; rfl
  have hats : ats = #[t, t2] := by
    apply Array.ext'
    have hl : ats.toList.length = 2 := by simpa using h6
    match hq : ats.toList, hl with
    | [p, q], _ =>
      rw [← Array.getElem?_toList, hq] at h3 h4
      simp at h3 h4; subst h3; subst h4; rfl
  subst hargs; subst hats
  have hex : ∀ (a : Act) (w w' : World) (v : Value), (Builtin.append_ #[t, t2] o.type #[a.eval s, a.eval x]).run P w = .ok v w' → (execOp a.eval o).run P w = .ok (.value v) w' := by
    intro a w w' v h
    unfold execOp
    rw [ho]
    simp only [resolve, pure_bind, invoke, builtin]
    rw [run_bind_ok (w' := w') (a := v) (by simpa using h)]
    rfl
  unfold aappend
  split
  · rename_i i i2 hi hi2
    split
    · rename_i e hde
      split
      · rename_i j hj
        split
        · rename_i hni
          have hu := (hT t i hi).1
          rw [hde] at hu
          have hu2 := (hT t2 i2 hi2).1
          have hd2 : ∀ kk, i2.desc ≠ .int kk := fun kk h => by rw [h] at hni; cases hni
          split
          · rename_i rows hx
            split
            · rename_i hs
              split
              · rename_i hld
                rintro ⟨c1, c2, c3⟩ ro k w a ms sm
                obtain ⟨news, src⟩ := src_of sm.H (AS.ev_enc sm.T x) hx c1
                have hsv : a.eval s = .slice none 0 0 := by have := AS.ev_enc sm.T s; rw [hs] at this; exact venc_val this
                obtain ⟨v, w', k', r1, r2, r3, r4, r5, r6, r7, r8⟩ := sim_append1 (ty := o.type) (rows0 := []) (base := none) (cap := 0) hT sm hu hj hu2 hd2 hld hn src (DEncs.ones src.enc) (by simpa using c2) (by simpa using c3) (by simp) (.inl ⟨rfl, rfl, rfl⟩)
                refine ⟨_, w', k', hex a w w' v (by rw [hsv]; exact r1), .inl ⟨v, rfl, ?_⟩, ⟨r3, fun b hb hX => r6 b hb (fun _ h => by cases h), fun b h => (r4 b).2 h, fun b h => .inl ((r4 b).1 h), fun i b h => ?_, fun i b hA h => ?_⟩⟩
                · rw [hd]; simpa using r2
                · rcases r5 i b h with h | h | ⟨_, h⟩
                  · exact .inl ⟨i, h⟩
                  · exact .inr h
                  · cases h
                · exact r8 i b hA h
              · exact trivial
            · rename_i id sz m hs
              split
              · rename_i sz' rows0 hob
                split
                · rename_i hsz
                  obtain ⟨e1, e2⟩ := hsz
                  split
                  · rename_i hld
                    rintro ⟨c0, c1, c2, c3⟩ ro k w a ms sm
                    obtain ⟨news, src⟩ := src_of sm.H (AS.ev_enc sm.T x) hx c1
                    have hsv := AS.ev_enc sm.T s
                    rw [hs] at hsv
                    have sm1 := sm.drop id
                    have src1 : Src P (k.drop id) w j.size (a.eval x) rows news := ⟨src.len, src.get, src.enc, src.uni⟩
                    obtain ⟨o1, o2, o3⟩ := sm.H.sat id _ hob
                    rw [e2] at o2
                    have hbase : ∃ base cap, a.eval s = .slice base rows0.length cap ∧ ((base = none ∧ cap = 0 ∧ rows0 = []) ∨ ∃ b o cs ty', base = some ⟨b, o, none⟩ ∧ w.heap[b]? = some (Obj.cells cs ty' (0, 0)) ∧ (0 < cap → o = 0) ∧ rows0.length ≤ cap ∧ cap < 2 ^ 63 ∧ cap * j.size ≤ cs.size ∧ (∀ c ∈ cs, c.oneCell' = true) ∧ RowsAt (k.drop id).S w rows0 b 0 ∧ (∀ i, ¬ (k.drop id).X i b) ∧ ¬ (k.drop id).S b) ∧
                        ∀ b o, base = some ⟨b, o, none⟩ → k.X id b := by
                      rcases hsv with ⟨q1, q2, q3, q4⟩ | ⟨b, o, cap, cs, ty, fz, q1, q2, q3, q4, q5, q6, q7, q8⟩
                      · rcases o1 with ⟨p1, p2, p3⟩ | ⟨b', cs', ty', p1, _⟩
                        · subst p2; exact ⟨none, 0, q4, .inl ⟨rfl, rfl, rfl⟩, fun _ _ h => by cases h⟩
                        · rw [q1] at p1; cases p1
                      · rcases o1 with ⟨p1, _⟩ | ⟨b', cs', ty', p1, p2, p3, p4, p5⟩
                        · rw [q1] at p1; cases p1
                        · rw [q1] at p1; cases p1
                          rw [p2] at q6; cases q6
                          have hX := sm.H.prim id b q1
                          refine ⟨_, cap, by rw [q2, c0], .inr ⟨b, o, _, _, rfl, p2, fun h => by rw [q7 h, Nat.zero_mul], by omega, q4, by rw [← e1]; rw [Nat.zero_add] at q8; exact q8, p3, p4, fun i hx => hx.1 (sm.H.inj i id b hx.2 hX), sm.H.dis id b hX⟩, fun b2 o2 h => by cases h; exact hX⟩
                    obtain ⟨base, cap, b1, b2, b3⟩ := hbase
                    obtain ⟨v, w', k', r1, r2, r3, r4, r5, r6, r7, r8⟩ := sim_append1 (ty := o.type) (rows0 := rows0) (base := base) (cap := cap) hT sm1 hu hj hu2 hd2 hld hn src1 (DEncs.ones src.enc) c2 c3 o2 b2
                    refine ⟨_, w', k', hex a w w' v (by rw [b1]; exact r1), .inl ⟨v, rfl, ?_⟩, ⟨r3, fun b hb hX => r6 b hb (fun o h => hX id (b3 b o h)), fun b h => (r4 b).2 h, fun b h => .inl ((r4 b).1 h), fun i b h => ?_, fun i b hA h => ?_⟩⟩
                    · rw [hd]; exact r2
                    · rcases r5 i b h with h | h | ⟨o, h⟩
                      · exact .inl ⟨i, h.2⟩
                      · exact .inr h
                      · exact .inl ⟨id, b3 b o h⟩
                    · exact (Ext.drop k w id).old i b hA (r8 i b hA h)
                  · exact trivial
                · exact trivial
              · exact trivial
            · exact trivial
          · exact trivial
        · exact trivial
      · exact trivial
    · exact trivial
  · exact trivial

theorem astep_OK (hT : TOK P T) (o : Oper) : (astep T st o).OK P o st := by
  unfold astep
  split
  · rename_i d hd
    split
    · rename_i hn
      split
      · rename_i t ho
        split
        · rename_i i hi; exact alloc_OK hT hd hn ho hi
        · exact trivial
      · rename_i t x ho
        split
        · rename_i l hl; exact box_OK hd hn ho hl
        · exact trivial
      · rename_i t len parts ho
        exact abuildSlice_OK hT hd hn ho
      · rename_i args ats ho
        split
        · rename_i s x t t2 h1 h2 h3 h4 h5 h6
          exact aappend_OK hT hd hn ho h1 h2 h3 h4 h5 h6
        · exact trivial
      · exact aval_OK hT hd hn
    · exact trivial
  · rename_i hd
    split
    · rename_i t p x ho
      exact astore_OK hT hd ho
    · exact trivial

/-! ### A region's list of operations -/

/-- Two ways. -/
def way (b : Bool) (A B : Prop) : Prop := (b = true → A) ∧ (b = false → B)

@[congr] theorem way_congr {b b' : Bool} {A B : Prop} (h : b = b') : way b A B = way b' A B := by rw [h]

def optOn {α : Type} (o : Option α) (G : α → Prop) (E : Prop) : Prop :=
  match o with
  | some x => G x
  | none => E
@[congr] theorem optOn_congr {α : Type} {o o' : Option α} {G : α → Prop} {E : Prop} (h : o = o') : optOn o G E = optOn o' G E := by rw [h]
theorem optOn_some {α : Type} (x : α) (G : α → Prop) (E : Prop) : optOn (some x) G E = G x := rfl
theorem optOn_none {α : Type} (G : α → Prop) (E : Prop) : optOn none G E = E := rfl

def Stp.on (s : Stp) (G : AS → Prop) (E : Prop) : Prop :=
  match s with
  | .go st => G st
  | .gc c st => c ∧ (c → G st)
  | .stop => E
@[congr] theorem Stp.on_congr {s s' : Stp} {G : AS → Prop} {E : Prop} (h : s = s') : s.on G E = s'.on G E := by rw [h]
theorem Stp.on_go (st : AS) (G : AS → Prop) (E : Prop) : (Stp.go st).on G E = G st := rfl
theorem Stp.on_gc (c : Prop) (st : AS) (G : AS → Prop) (E : Prop) : (Stp.gc c st).on G E = (c ∧ (c → G st)) := rfl
theorem Stp.on_stop (G : AS → Prop) (E : Prop) : Stp.stop.on G E = E := rfl

def Res.on (r : Res) (G : V → Prop) (C : Prop → V → Prop) (E : Prop) : Prop :=
  match r with
  | .ok v => G v
  | .okc c v => C c v
  | .no => E
@[congr] theorem Res.on_congr {r r' : Res} {G : V → Prop} {C : Prop → V → Prop} {E : Prop} (h : r = r') : r.on G C E = r'.on G C E := by rw [h]
theorem Res.on_ok (v : V) (G : V → Prop) (C : Prop → V → Prop) (E : Prop) : (Res.ok v).on G C E = G v := rfl
theorem Res.on_okc (c : Prop) (v : V) (G : V → Prop) (C : Prop → V → Prop) (E : Prop) : (Res.okc c v).on G C E = C c v := rfl
theorem Res.on_no (G : V → Prop) (C : Prop → V → Prop) (E : Prop) : Res.no.on G C E = E := rfl

def condOn (v : V) (G : Bool → Prop) (E : Prop) : Prop :=
  match v with
  | .d (.val (.bool x)) => G x
  | _ => E
@[congr] theorem condOn_congr {v v' : V} {G : Bool → Prop} {E : Prop} (h : v = v') : condOn v G E = condOn v' G E := by rw [h]
theorem condOn_bool (x : Bool) (G : Bool → Prop) (E : Prop) : condOn (.d (.val (.bool x))) G E = G x := rfl

/-- Is an operation wanted? -/
def awant (ops : Array Oper) (st : AS) (o : Oper) : Option Bool :=
  match o.guard with
  | none => some true
  | some (j, b) => match (ops[j]?).bind (·.dst) with
    | some d => match lkp d st.t with
      | some (.d (.val (.bool x))) => some (x == b)
      | some (.opt g (.d (.val (.bool x)))) => some (g && (x == b))
      | _ => none
    | none => none

theorem awant_sound {k : K} {w : World} {a : Act} (h : SimT k w st a) {ops : Array Oper} {o : Oper} {b : Bool} (hw : awant ops st o = some b) : Region.wanted o (yielded ops a.tmps) = b := by
  unfold awant at hw
  unfold Region.wanted
  split at hw
  · rename_i hg; rw [hg]; cases hw; rfl
  · rename_i j want hg
    rw [hg]
    simp only
    split at hw
    · rename_i d hd
      split at hw
      · rename_i x hx
        cases hw
        obtain ⟨v, hv, he⟩ := h.tm d _ hx
        cases venc_val he
        simp only [yielded, hd, Option.bind_some, hv]
        cases x <;> cases want <;> rfl
      · rename_i g x hx
        cases hw
        obtain ⟨v, hv, he⟩ := h.tm d _ hx
        cases g
        · have := he.2 rfl
          subst this
          simp only [yielded, hd, Option.bind_some, hv]
          rfl
        · cases venc_val (he.1 rfl)
          simp only [yielded, hd, Option.bind_some, hv]
          cases x <;> cases want <;> rfl
      · cases hw
    · cases hw

theorem AL.op {ops : Array Oper} {o : Oper} {rest : List Oper} (hdef : ∀ c, o.op ≠ .defer c) (hw : awant ops st o = some true) {st' : AS} (h : OpOK P o st st') (hr : AL P ops rest st' Q) : AL P ops (o :: rest) st Q := by
  intro ro k w a ms s
  unfold wpListIn
  rw [if_pos (awant_sound s.T hw)]
  obtain ⟨r, w', k', h1, h2, h3⟩ := h ro k w a ms s
  have hsem : o.semAt (fence ro).round a.eval = execOp a.eval o := by
    cases ro with
    | none => exact Oper.semAt_none a.eval o
    | some l => exact Oper.semAt_some l a.eval o hdef
  refine ⟨fun _ _ => trivial, ?_⟩
  rw [hsem, h1]
  have step : Step1 k w ms k' w' ms := ⟨h3, fun _ h => .inl h⟩
  rcases h2 with ⟨v, rfl, h2⟩ | ⟨rfl, h2⟩
  · exact wpListIn_mono' (hr ro k' w' _ ms h2) fun _ _ _ hp => Post.step step hp
  · exact wpListIn_mono' (hr ro k' w' _ ms h2) fun _ _ _ hp => Post.step step hp

/-- What a temporary holds whose operation was not wanted. -/
def skipV : V := .opt false (.d (.val (.bool false)))
theorem skipV_enc {k : K} {w : World} : VEnc k w skipV undef := ⟨fun h => (by cases h), fun _ => rfl⟩

theorem AL.skip {ops : Array Oper} {o : Oper} {rest : List Oper} (hw : awant ops st o = some false) {d : Nat} (hd : o.dst = some d) (hn : d < st.n) (hr : AL P ops rest (st.put d skipV) Q) : AL P ops (o :: rest) st Q := by
  intro ro k w a ms s
  unfold wpListIn
  rw [if_neg (by rw [awant_sound s.T hw]; simp)]
  refine ⟨fun _ _ => trivial, ?_⟩
  rw [hd]
  exact hr ro k w _ ms ⟨s.H, s.T.put hn skipV_enc, s.M.put _ _⟩

theorem AL.skip0 {ops : Array Oper} {o : Oper} {rest : List Oper} (hw : awant ops st o = some false) (hd : o.dst = none) (hr : AL P ops rest st Q) : AL P ops (o :: rest) st Q := by
  intro ro k w a ms s
  unfold wpListIn
  rw [if_neg (by rw [awant_sound s.T hw]; simp)]
  refine ⟨fun _ _ => trivial, ?_⟩
  rw [hd]
  exact hr ro k w _ ms s

/-! ### Operations behind a guard -/

def V.strip : V → V
  | .opt _ v => v
  | v => v
def smallT (t : List (Nat × V)) : List Operand → List (Nat × V)
  | [] => []
  | .tmp i :: r => match lkp i t with
    | some v => (i, v.strip) :: smallT t r
    | none => smallT t r
  | _ :: r => smallT t r
def oblT (x : Bool) (t : List (Nat × V)) : List Operand → Prop
  | [] => True
  | .tmp i :: r => (match lkp i t with | some (.opt g _) => (x = true → g = true) | _ => True) ∧ oblT x t r
  | _ :: r => oblT x t r
/-- A state's part that an operation looks at, where the guards hold. -/
def AS.small (st : AS) (l : List Operand) : AS := { n := st.n, t := smallT st.t l, h := st.h }
/-- The operands that have to be there where an operation behind a guard is run. -/
def dem : Op → List Operand
  | .pick c _ _ => [c]
  | op => op.operands.toList

theorem strip_enc {k : K} {w : World} {v : V} {u : Value} (h : VEnc k w v u) (hg : ∀ g v', v = .opt g v' → g = true) : VEnc k w v.strip u := by
  cases v with
  | opt g v' => exact h.1 (hg g v' rfl)
  | _ => exact h

theorem smallT_tm {k : K} {w : World} {a : Act} {t : List (Nat × V)} (ht : ∀ i x, lkp i t = some x → ∃ v, a.tmps[i]? = some v ∧ VEnc k w x v) {x : Bool} (hx : x = true) : ∀ (l : List Operand), oblT x t l → ∀ i y, lkp i (smallT t l) = some y → ∃ v, a.tmps[i]? = some v ∧ VEnc k w y v
  | [], _, i, y, h => by simp [smallT, lkp] at h
  | o :: r, ho, i, y, h => by
    cases o with
    | tmp j =>
      simp only [smallT] at h
      simp only [oblT] at ho
      cases hj : lkp j t with
      | none => rw [hj] at h; exact smallT_tm ht hx r ho.2 i y h
      | some v =>
        rw [hj] at h ho
        simp only [lkp] at h
        split at h
        · rename_i e
          subst e
          cases h
          obtain ⟨u, hu, he⟩ := ht j v hj
          refine ⟨u, hu, strip_enc he fun g v' e => ?_⟩
          subst e
          exact ho.1 hx
        · exact smallT_tm ht hx r ho.2 i y h
    | _ => simp only [smallT] at h; simp only [oblT] at ho; exact smallT_tm ht hx r ho i y h

theorem Sim.small {ro : Option Nat} {k : K} {w : World} {a : Act} {ms : List Nat} (s : Sim ro k w st a ms) {x : Bool} (hx : x = true) {l : List Operand} (ho : oblT x st.t l) : Sim ro k w (st.small l) a ms :=
  ⟨s.H, ⟨s.T.size, s.T.arg, smallT_tm s.T.tm hx l ho⟩, s.M⟩

/-- A state in which an operation's operands are as they are where the guards hold. -/
def AS.lift (st : AS) (l : List Operand) : AS := { n := st.n, t := smallT st.t l ++ st.t, h := st.h }

theorem lkp_append {α : Type} (i : Nat) : ∀ (l m : List (Nat × α)), lkp i (l ++ m) = match lkp i l with | some x => some x | none => lkp i m
  | [], m => rfl
  | (j, x) :: r, m => by
    simp only [List.cons_append, lkp]
    split
    · rfl
    · exact lkp_append i r m

theorem Sim.lift {ro : Option Nat} {k : K} {w : World} {a : Act} {ms : List Nat} (s : Sim ro k w st a ms) {x : Bool} (hx : x = true) {l : List Operand} (ho : oblT x st.t l) : Sim ro k w (st.lift l) a ms :=
  ⟨s.H, ⟨s.T.size, s.T.arg, fun i y h => by
    simp only [AS.lift, lkp_append] at h
    cases hl : lkp i (smallT st.t l) with
    | none => rw [hl] at h; exact s.T.tm i y h
    | some z => rw [hl] at h; cases h; exact smallT_tm s.T.tm hx l ho i _ hl⟩, s.M⟩

theorem AL.liftS {ops : Array Oper} {o : Oper} {rest : List Oper} {x : Bool} (hx : x = true) {l : List Operand} (ho : oblT x st.t l) (h : AL P ops rest (st.lift l) Q) : AL P ops rest st Q :=
  fun ro k w a ms s => h ro k w a ms (s.lift hx ho)

theorem AL.opL {ops : Array Oper} {o : Oper} {rest : List Oper} (hdef : ∀ c, o.op ≠ .defer c) (hw : awant ops st o = some true) {x : Bool} (hx : x = true) {l : List Operand} (ho : oblT x st.t l) {st' : AS} (h : OpOK P o (st.lift l) st') (hr : AL P ops rest st' Q) : AL P ops (o :: rest) st Q := by
  intro ro k w a ms s
  unfold wpListIn
  rw [if_pos (awant_sound s.T hw)]
  obtain ⟨r, w', k', h1, h2, h3⟩ := h ro k w a ms (s.lift hx ho)
  have hsem : o.semAt (fence ro).round a.eval = execOp a.eval o := by
    cases ro with
    | none => exact Oper.semAt_none a.eval o
    | some l => exact Oper.semAt_some l a.eval o hdef
  refine ⟨fun _ _ => trivial, ?_⟩
  rw [hsem, h1]
  have step : Step1 k w ms k' w' ms := ⟨h3, fun _ h => .inl h⟩
  rcases h2 with ⟨v, rfl, h2⟩ | ⟨rfl, h2⟩
  · exact wpListIn_mono' (hr ro k' w' _ ms h2) fun _ _ _ hp => Post.step step hp
  · exact wpListIn_mono' (hr ro k' w' _ ms h2) fun _ _ _ hp => Post.step step hp

/-- The state as such an operation sees it. -/
def AS.view (st : AS) : Op → AS
  | .pick c _ _ => st.lift [c]
  | op => st.small op.operands.toList
def gval (T : List (Nat × TI)) (st : AS) (o : Oper) : Res := aval2 T (st.view o.op) o.op
theorem Sim.view {ro : Option Nat} {k : K} {w : World} {a : Act} {ms : List Nat} (s : Sim ro k w st a ms) {x : Bool} (hx : x = true) {op : Op} (ho : oblT x st.t (dem op)) : Sim ro k w (st.view op) a ms := by
  cases op with
  | pick c y z => exact s.lift hx ho
  | _ => exact s.small hx ho

/-- AN OPERATION BEHIND A GUARD yields, where the guard holds. -/
theorem AL.guarded {ops : Array Oper} {o : Oper} {rest : List Oper} (hdef : ∀ c, o.op ≠ .defer c) {x : Bool} (hw : awant ops st o = some x) {d : Nat} (hd : o.dst = some d) (hn : d < st.n) {v : V}
    (hv : x = true → ∀ ro k w a ms, Sim ro k w st a ms → ∃ u, (execOp a.eval o).run P w = .ok (.value u) w ∧ VEnc k w v u) (hr : AL P ops rest (st.put d (.opt x v)) Q) : AL P ops (o :: rest) st Q := by
  intro ro k w a ms s
  unfold wpListIn
  cases x with
  | true =>
    rw [if_pos (awant_sound s.T hw)]
    obtain ⟨u, h1, h2⟩ := hv rfl ro k w a ms s
    have hsem : o.semAt (fence ro).round a.eval = execOp a.eval o := by
      cases ro with
      | none => exact Oper.semAt_none a.eval o
      | some l => exact Oper.semAt_some l a.eval o hdef
    refine ⟨fun _ _ => trivial, ?_⟩
    rw [hsem, h1]
    simp only [Oper.uponIn_value, hd]
    exact hr ro k w _ ms ⟨s.H, s.T.put hn ⟨fun _ => h2, fun h => (by cases h)⟩, s.M.put _ _⟩
  | false =>
    rw [if_neg (by rw [awant_sound s.T hw]; simp)]
    refine ⟨fun _ _ => trivial, ?_⟩
    rw [hd]
    exact hr ro k w _ ms ⟨s.H, s.T.put hn ⟨fun h => (by cases h), fun _ => rfl⟩, s.M.put _ _⟩

/-- An operation behind the guard x, that only yields. -/
def gstep (T : List (Nat × TI)) (st : AS) (o : Oper) (x : Bool) : Stp :=
  match o.dst with
  | some d => if d < st.n then match gval T st o with
      | .ok v => .gc (oblT x st.t (dem o.op)) (st.put d (.opt x v))
      | .okc c v => .gc (oblT x st.t (dem o.op) ∧ (x = true → c)) (st.put d (.opt x v))
      | .no => .stop
    else .stop
  | none => .stop
/-- It is not wanted. -/
def gskip (st : AS) (o : Oper) : Stp :=
  match o.dst with
  | some d => if d < st.n then .go (st.put d skipV) else .stop
  | none => .go st

/-- Operations, as far as they go by themselves. -/
def runA (T : List (Nat × TI)) (ops : Array Oper) : List Oper → AS → (List Oper → AS → Prop) → Prop
  | [], st, F => F [] st
  | o :: r, st, F =>
    optOn o.guard
      (fun _ => optOn (awant ops st o)
        (fun x => (gstep T st o x).on (fun st' => runA T ops r st' F)
          (way x (oblT x st.t o.op.operands.toList ∧ (Stp.go (st.lift o.op.operands.toList)).on (fun st1 => (astep T st1 o).on (fun st' => runA T ops r st' F) (F (o :: r) st1)) False)
            ((gskip st o).on (fun st' => runA T ops r st' F) False)))
        (F (o :: r) st))
      ((astep T st o).on (fun st' => runA T ops r st' F) (F (o :: r) st))

theorem astep_not_defer {o : Oper} {c : Call} (h : o.op = .defer c) : astep T st o = .stop := by
  unfold astep
  rw [h]
  split
  · split
    · simp only [aval2, aval]; rfl
    · rfl
  · rfl
theorem gval_not_defer {o : Oper} {c : Call} (h : o.op = .defer c) : gval T st o = .no := by
  unfold gval
  rw [h]
  simp only [aval2, aval]

theorem runA_sound (hT : TOK P T) {ops : Array Oper} : ∀ {l : List Oper} {st : AS}, runA T ops l st (fun r st' => AL P ops r st' Q) → AL P ops l st Q
  | [], st, h => h
  | o :: r, st, h => by
    have hok := astep_OK (st := st) hT o
    have go : awant ops st o = some true → (astep T st o).on (fun st' => runA T ops r st' (fun r st' => AL P ops r st' Q)) (AL P ops (o :: r) st Q) → AL P ops (o :: r) st Q := fun hw h => by
      unfold Stp.on at h
      split at h
      · rename_i st' hs
        rw [hs] at hok
        exact AL.op (fun c hc => by rw [astep_not_defer hc] at hs; cases hs) hw hok (runA_sound hT h)
      · rename_i c st' hs
        rw [hs] at hok
        exact AL.op (fun c hc => by rw [astep_not_defer hc] at hs; cases hs) hw (hok h.1) (runA_sound hT (h.2 h.1))
      · exact h
    have hokL := astep_OK (st := st.lift o.op.operands.toList) hT o
    have goL : awant ops st o = some true → oblT true st.t o.op.operands.toList → (astep T (st.lift o.op.operands.toList) o).on (fun st' => runA T ops r st' (fun r st' => AL P ops r st' Q)) (AL P ops (o :: r) (st.lift o.op.operands.toList) Q) → AL P ops (o :: r) st Q := fun hw ho h => by
      unfold Stp.on at h
      split at h
      · rename_i st' hs
        rw [hs] at hokL
        exact AL.opL (fun c hc => by rw [astep_not_defer hc] at hs; cases hs) hw rfl ho hokL (runA_sound hT h)
      · rename_i c st' hs
        rw [hs] at hokL
        exact AL.opL (fun c hc => by rw [astep_not_defer hc] at hs; cases hs) hw rfl ho (hokL h.1) (runA_sound hT (h.2 h.1))
      · exact AL.liftS (o := o) rfl ho h
    have goS : awant ops st o = some false → (gskip st o).on (fun st' => runA T ops r st' (fun r st' => AL P ops r st' Q)) False → AL P ops (o :: r) st Q := fun hw h => by
      unfold gskip at h
      split at h
      · rename_i d hd
        split at h
        · rename_i hn; exact AL.skip hw hd hn (runA_sound hT h)
        · exact h.elim
      · rename_i hd; exact AL.skip0 hw hd (runA_sound hT h)
    unfold runA optOn at h
    split at h
    rotate_left
    · rename_i hg
      exact go (by unfold awant; rw [hg]) h
    · try dsimp only at h
      split at h
      · rename_i x hw
        try dsimp only at h
        have stop : (way x (oblT x st.t o.op.operands.toList ∧ (Stp.go (st.lift o.op.operands.toList)).on (fun st1 => (astep T st1 o).on (fun st' => runA T ops r st' (fun r st' => AL P ops r st' Q)) (AL P ops (o :: r) st1 Q)) False)
            ((gskip st o).on (fun st' => runA T ops r st' (fun r st' => AL P ops r st' Q)) False)) → AL P ops (o :: r) st Q := fun h => by
          cases x with
          | true => exact goL hw (h.1 rfl).1 (h.1 rfl).2
          | false => exact goS hw (h.2 rfl)
        unfold gstep at h
        split at h
        · rename_i d hd
          split at h
          · rename_i hn
            split at h
            · rename_i v hv
              refine AL.guarded (fun c hc => by rw [gval_not_defer hc] at hv; cases hv) hw hd hn (fun hx ro k w a ms s => ?_) (runA_sound hT (h.2 h.1))
              have := aval2_sound hT o (s.view hx h.1)
              unfold gval at hv
              rw [hv] at this
              obtain ⟨u, hu, he⟩ := this
              exact ⟨u, hu w fun _ => Still.refl w, he⟩
            · rename_i c v hv
              refine AL.guarded (fun c hc => by rw [gval_not_defer hc] at hv; cases hv) hw hd hn (fun hx ro k w a ms s => ?_) (runA_sound hT (h.2 h.1))
              have := aval2_sound hT o (s.view hx h.1.1)
              unfold gval at hv
              rw [hv] at this
              obtain ⟨u, hu, he⟩ := this (h.1.2 hx)
              exact ⟨u, hu w fun _ => Still.refl w, he⟩
            · exact stop h
          · exact stop h
        · exact stop h
      · exact h

theorem AWP.run (hT : TOK P T) {id : Nat} {ops : Array Oper} (h : runA T ops ops.toList st fun r st' => AL P ops r st' Q) : AWP P (.region id ops false) st Q := AWP.region (runA_sound hT h)
end
end Go.AM
end
section
/-! ## 17 -/
namespace Go.AM
open Go

def argT : Nat → List V → List (Nat × V)
  | _, [] => []
  | i, x :: xs => (i, x) :: argT (i + 1) xs

def ares1 (T : List (Nat × TI)) (st : AS) : ResultVar → Option V
  | .tmp t => some ((lkp t st.t).getD .junk)
  | .cell a t => match aload T st.h t ((lkp a st.t).getD .junk) with
    | .ok v => some v
    | _ => none

def aress (T : List (Nat × TI)) (st : AS) : List ResultVar → Option (List V)
  | [] => some []
  | r :: rs => match ares1 T st r, aress T st rs with
    | some v, some vs => some (v :: vs)
    | _, _ => none

def ares (T : List (Nat × TI)) (st : AS) (l : List ResultVar) : Option V :=
  match aress T st l with
  | some [v] => some v
  | some vs => some (.tup vs)
  | none => none

/-- What has to be so where a body ends. -/
def retQ (T : List (Nat × TI)) (l : List ResultVar) (Q : V → List (Nat × Ob) → Prop) : Exit → AS → Prop
  | .normal, st | .ret, st => match ares T st l with
    | some v => Q v st.h
    | none => False
  | _, _ => False

section
variable {P : Program} {T : List (Nat × TI)} {st : AS} {k : K} {w : World}

theorem look_argT : ∀ (args : List V) (vals : List Value) (j i : Nat) (x : V), VEncs k w args vals → lkp i (argT j args) = some x → j ≤ i ∧ ∃ v, vals[i - j]? = some v ∧ VEnc k w x v
  | [], _, _, _, _, _, h => by simp [argT, lkp] at h
  | y :: ys, [], _, _, _, h, _ => h.elim
  | y :: ys, v :: vs, j, i, x, h, e => by
    simp only [argT, lkp] at e
    split at e
    · rename_i e'; subst e'; cases e; exact ⟨Nat.le_refl _, v, by simp, h.1⟩
    · obtain ⟨h1, u, h2, h3⟩ := look_argT ys vs (j + 1) i x h.2 e
      refine ⟨by omega, u, ?_, h3⟩
      rw [show i - j = (i - (j + 1)) + 1 from by omega]; simpa using h2

def rsem (tmps : Array Value) : ResultVar → Sem Value
  | .tmp t => pure (tmps.getD t undef)
  | .cell ad t => do loadVar t (← asAddr (tmps.getD ad undef))

theorem results_eq (fn : Func) (tmps : Array Value) : results fn tmps = (do let vs ← fn.results.mapM (rsem tmps); pure (if h : vs.size = 1 then vs[0] else .tuple vs)) := by
  unfold results
  congr 1

set_option linter.unusedSectionVars false
variable [Env]
theorem aress_sound (hT : TOK P T) (hH : SimH k w st.h) {a : Act} (hS : SimT k w st a) : ∀ (l : List ResultVar) (vs : List V), aress T st l = some vs →
    ∃ us, VEncs k w vs us ∧ us.length = l.length ∧ ∀ (i : Nat) (x : ResultVar) (y : Value), l[i]? = some x → us[i]? = some y → (rsem a.tmps x).run P w = .ok y w
  | [], vs, h => by simp only [aress, Option.some.injEq] at h; subst h; exact ⟨[], trivial, rfl, by simp⟩
  | r :: rs, vs, h => by
    simp only [aress] at h
    split at h
    · rename_i v vs' h1 h2
      cases h
      obtain ⟨us, u1, u2, u3⟩ := aress_sound hT hH hS rs vs' h2
      have : ∃ u, VEnc k w v u ∧ (rsem a.tmps r).run P w = .ok u w := by
        cases r with
        | tmp t =>
          simp only [ares1, Option.some.injEq] at h1; subst h1
          exact ⟨_, AS.ev_enc hS (.tmp t), rfl⟩
        | cell ad t =>
          simp only [ares1] at h1
          split at h1
          · rename_i v' hv
            cases h1
            have hs := aload_sound hT hH t _ _ (AS.ev_enc hS (.tmp ad))
            simp only [AS.ev] at hs
            rw [hv] at hs
            obtain ⟨y, hy0, he⟩ := hs
            have hy := hy0 w (Still.refl w)
            clear hy0
            refine ⟨y, he, ?_⟩
            simp only [Act.eval] at hy
            simp only [rsem]
            revert hy
            generalize a.tmps.getD ad undef = p
            intro hy
            cases p with
            | pointer q =>
              cases q with
              | none => simp [Instr.loadAt, Instr.sureAddr, stuck, Sem.run, Sem.run_bind] at hy
              | some q => simpa [Instr.loadAt, Instr.sureAddr, asAddr, Sem.run_bind] using hy
            | _ => simp [Instr.loadAt, Instr.sureAddr, stuck, Sem.run, Sem.run_bind] at hy
          · cases h1
      obtain ⟨u, e1, e2⟩ := this
      refine ⟨u :: us, ⟨e1, u1⟩, by simp [u2], fun i x y hx hy => ?_⟩
      cases i with
      | zero => simp at hx hy; subst hx; subst hy; exact e2
      | succ i => exact u3 i x y (by simpa using hx) (by simpa using hy)
    · cases h

theorem ares_sound (hT : TOK P T) (hH : SimH k w st.h) {a : Act} (hS : SimT k w st a) {fn : Func} {v : V} (h : ares T st fn.results.toList = some v) : ∃ u, (results fn a.tmps).run P w = .ok u w ∧ VEnc k w v u := by
  have hm : ∀ us : List Value, us.length = fn.results.toList.length → (∀ (i : Nat) (x : ResultVar) (y : Value), fn.results.toList[i]? = some x → us[i]? = some y → (rsem a.tmps x).run P w = .ok y w) →
      (results fn a.tmps).run P w = .ok (if h : us.toArray.size = 1 then us.toArray[0] else .tuple us.toArray) w := by
    intro us h1 h2
    rw [results_eq, Array.mapM_eq_mapM_toList]
    have := mapM_run (P := P) (rsem a.tmps) w fn.results.toList us h1.symm h2
    have h3 : (List.toArray <$> fn.results.toList.mapM (rsem a.tmps)).run P w = .ok us.toArray w := by
      rw [map_eq_pure_bind, run_bind_ok this]; rfl
    refine (run_bind_ok (a := us.toArray) (w' := w) ?_).trans rfl
    exact h3
  unfold ares at h
  split at h
  · rename_i v' hv
    cases h
    obtain ⟨us, u1, u2, u3⟩ := aress_sound hT hH hS _ _ hv
    match us, u1 with
    | [u], u1 => exact ⟨u, hm [u] u2 u3, u1.1⟩
  · rename_i vs hne hv
    cases h
    obtain ⟨us, u1, u2, u3⟩ := aress_sound hT hH hS _ _ hv
    refine ⟨.tuple us.toArray, ?_, us.toArray, rfl, by simpa using u1⟩
    rw [hm us u2 u3, dif_neg]
    intro h1
    have h1 : us.length = 1 := by simpa using h1
    have h9 := VEncs.length u1
    rw [h1] at h9
    match vs, h9 with
    | [v], _ => exact hne v rfl
  · cases h

/-- The marks on the way out. -/
theorem leavesM {F : Fence} {fn : Func} {tmps : Array Value} {R : Ending → World → Prop} : ∀ (ms : List Nat) (w : World), ms.Nodup → (∀ D ∈ ms, w.heap[D]? = some (.deferred (some []))) →
    (∀ w'' : World, w''.heap.size = w.heap.size → (∀ b, b ∉ ms → w''.heap[b]? = w.heap[b]?) → (w''.os = w.os ∧ w''.output = w.output) → ∃ v, (results fn tmps).run P w'' = .ok v w'' ∧ R (.returned v) w'') →
    LeavesInM F 0 P fn tmps R (ms.map fun D => { target := .collected D, args := #[] }) .returning w
  | [], w, _, _, h => by
    obtain ⟨v, h1, h2⟩ := h w rfl (fun _ _ => rfl) ⟨rfl, rfl⟩
    exact ⟨v, h1, h2⟩
  | D :: ms, w, hn, hd, h => by
    have hD := hd D (by simp)
    refine ⟨by simp, .inl ⟨D, w.putObj D (.deferred none), rfl, run_takeDeferred hD, ?_⟩⟩
    have hn' := List.nodup_cons.1 hn
    refine leavesM ms _ hn'.2 (fun D' hD' => ?_) fun w'' h1 h2 h3 => ?_
    · rw [World.putObj_heap_other (fun e => hn'.1 (by rw [← e]; exact hD'))]; exact hd D' (by simp [hD'])
    · refine h w'' (h1.trans World.putObj_size) (fun b hb => ?_) h3
      simp only [List.mem_cons, not_or] at hb
      rw [h2 b hb.2, World.putObj_heap_other hb.1]

/-- **A CONTRACT OUT OF A BODY.** -/
theorem PC.of_awp (hT : TOK P T) {f : FuncId} {fn : Func} {c : Code} (hf : P.funcs[f]? = some fn) (hb : fn.body = some c) (hent : Enters P f) {h : List (Nat × Ob)} {args : List V} {Q : V → List (Nat × Ob) → Prop}
    (hn : args.length ≤ fn.ntmps) (hA : fn.ntmps ≤ ARG) (hw : AWP P c { n := fn.ntmps, t := argT 0 args, h := h } (retQ T fn.results.toList Q)) : PC P f h args Q := by
  refine ⟨hent, ?_⟩
  intro k w vals hH hV
  have hlen := VEncs.length hV
  simp only [Array.length_toList] at hlen
  have hS : SimT k w { n := fn.ntmps, t := argT 0 args, h := h } { tmps := vals ++ Array.replicate (fn.ntmps - vals.size) undef, defers := [] } := by
    refine ⟨by simp; omega, hA, fun i x hx => ?_⟩
    obtain ⟨_, v, hv, he⟩ := look_argT args vals.toList 0 i x hV hx
    refine ⟨v, ?_, he⟩
    have hv' : vals[i]? = some v := by simpa using hv
    rw [Array.getElem?_append_left (Array.getElem?_eq_some_iff.1 hv').1]; exact hv'
  refine callsIn_of_wp_marks hf hb trivial ?_
  refine wpIn_mono (hw none k w _ [] ⟨hH, hS, rfl, by simp, by simp, by simp, by simp, by simp⟩) ?_
  rintro e a' w' ⟨k', st', ms', s', t', q⟩
  have main : ∀ v, ares T st' fn.results.toList = some v → Q v st'.h → LeavesInM Fence.wide 0 P fn a'.tmps (fun e w' => ∃ v r h' k', e = .returned v ∧ VEnc k' w' r v ∧ SimH k' w' h' ∧ Ext k w k' w' ∧ Q r h') a'.defers .returning w' := by
    intro v hv hQ
    rw [s'.M.eq]
    refine leavesM ms' w' s'.M.nodup s'.M.heap fun w'' h1 h2 h3 => ?_
    have hsame : ∀ b, (k'.S b ∨ ∃ i, k'.X i b) → w''.heap[b]? = w'.heap[b]? := fun b hb => h2 b fun hm => by
      rcases hb with hb | ⟨i, hb⟩
      · exact s'.M.noS b hm hb
      · exact s'.M.noX b hm i hb
    have hg : Grows w' w'' := .of ⟨by omega, fun b cs ty fz hbk => ⟨cs, by rw [h2 b fun hm => by rw [s'.M.heap b hm] at hbk; cases hbk]; exact hbk, rfl⟩⟩ h3.1 h3.2
    have m : Keeps k' w' k' w'' := ⟨hg, fun b hb => hsame b (.inl hb), fun _ h => h, fun _ _ h => h⟩
    have hH' : SimH k' w'' st'.h := ⟨s'.H.inj, fun i b hx => by rw [h1]; exact s'.H.lt i b hx, s'.H.dis, fun b hb => by rw [h1]; exact s'.H.slt b hb, s'.H.prim, s'.H.dom, s'.H.domX,
      fun i o ho => obSat_mono m (fun _ => Iff.rfl) (fun b hb => hsame b (.inr ⟨i, hb⟩)) (s'.H.prim i) (s'.H.sat i o ho), s'.H.env.mono m.same m.sub⟩
    obtain ⟨u, hu, he⟩ := ares_sound hT hH' (s'.T.mono m) hv
    refine ⟨u, hu, u, v, st'.h, k', rfl, he, hH', ?_, hQ⟩
    refine ⟨t'.ext.grows.trans hg, fun b hb hx => ?_, t'.ext.sub, t'.ext.newS, t'.ext.newX, t'.ext.old⟩
    rw [h2 b fun hm => ?_, t'.ext.frame b hb hx]
    rcases t'.marks b hm with h | h
    · cases h
    · omega
  cases e with
  | normal =>
    simp only [retQ] at q
    split at q
    · rename_i v hv; exact main v hv q
    · exact q.elim
  | ret =>
    simp only [retQ] at q
    split at q
    · rename_i v hv; exact main v hv q
    · exact q.elim
  | exit id => exact q.elim
  | goto l => exact q.elim
  | panic ch => exact q.elim
  | outgrown => exact q.elim
end
end Go.AM
end
section
/-! ## 18 -/
namespace Go.AM
open Go
set_option linter.unusedSectionVars false
variable [Env]

section
variable {P : Program} {T : List (Nat × TI)} {st : AS} {Q : Exit → AS → Prop}

theorem ofValue_fn {f : FuncId} {fs cs args : Array Value} : Deferred.ofValue (.func (.func f) fs cs) args = pure { target := .fn (.func f) cs, args := fs ++ args } := rfl

theorem run_call {k : K} {w : World} {a : Act} (hS : SimT k w st a) {o : Oper} {c : Operand} {args : Array Operand} {ats : Array TypeId} (ho : o.op = .call { callee := .value c, args, argTypes := ats }) {fid : FuncId} {first caps : List V} (hc : st.ev c = .fn fid first caps)
    (hent : Enters P fid) :
    ∃ vals : Array Value, VEncs k w (first ++ args.toList.map st.ev ++ caps) vals.toList ∧ (execOp a.eval o).run P w = .ok (.enter fid vals) w := by
  have h := AS.ev_enc hS c
  rw [hc] at h
  obtain ⟨fs, cs, e, h1, h2⟩ := h
  refine ⟨fs ++ args.map a.eval ++ cs, ?_, ?_⟩
  · rw [Array.toList_append, Array.toList_append, Array.toList_map]
    exact (h1.append (VEncs_map hS _)).append h2
  · unfold execOp
    rw [ho]
    simp only [resolve, e, ofValue_fn, pure_bind, invoke]
    exact hent _ w

def K.bare (k : K) : K := { S := k.S, β := fun _ => none, X := fun _ _ => False }

theorem SimH.bare {k : K} {w : World} {h : List (Nat × Ob)} (s : SimH k w h) : SimH k.bare w [] where
  inj _ _ _ h _ := h.elim
  lt _ _ h := h.elim
  dis _ _ h := h.elim
  slt := s.slt
  env := s.env
  prim _ _ h := by simp [K.bare] at h
  dom _ := rfl
  domX _ _ h := h.elim
  sat _ _ h := by simp [lkp] at h

/-- A CALL OF A FUNCTION THAT IS HANDED DATA ALONE, and hands back data. -/
theorem AL.call0 {ops : Array Oper} {o : Oper} {rest : List Oper} {c : Operand} {args : Array Operand} {ats : Array TypeId} (ho : o.op = .call { callee := .value c, args, argTypes := ats }) (hw : awant ops st o = some true) {d : Nat} (hd : o.dst = some d) (hn : d < st.n)
    {fid : FuncId} {first caps : List V} (hc : st.ev c = .fn fid first caps)
    {Q0 : V → List (Nat × Ob) → Prop} (hp : PC P fid [] (first ++ args.toList.map st.ev ++ caps) Q0) (hr : refsL (first ++ args.toList.map st.ev ++ caps) = [])
    (hq : ∀ r h', Q0 r h' → h' = [] ∧ AL P ops rest (st.put d r) Q) : AL P ops (o :: rest) st Q := by
  intro ro k w a ms s
  unfold wpListIn
  rw [if_pos (awant_sound s.T hw)]
  obtain ⟨vals, h1, h2⟩ := run_call s.T ho hc hp.1
  have hsem : o.semAt (fence ro).round a.eval = execOp a.eval o := by
    cases ro with
    | none => exact Oper.semAt_none a.eval o
    | some l => exact Oper.semAt_some l a.eval o (fun c hc => by rw [ho] at hc; cases hc)
  refine ⟨fun _ _ => trivial, ?_⟩
  rw [hsem, h2]
  have H0 := s.H.bare
  have V0 : VEncs k.bare w (first ++ args.toList.map st.ev ++ caps) vals.toList := VEncs.agree (k := k) (k' := k.bare) _ _ ⟨rfl, fun i hi => by rw [hr] at hi; cases hi⟩ h1
  refine ⟨fun h => (by simp [fence, Fence.wide] at h), ?_⟩
  have hcall := hp.2 k.bare w vals H0 V0
  refine CallsIn.mono (F := fence ro) (show CallsIn (fence ro) (0 - 1) P fid vals w _ from hcall) ?_
  rintro e w' ⟨v, r, h', k', rfl, e2, H', ex, hQ⟩
  obtain ⟨rfl, hrest⟩ := hq r h' hQ
  -- the caller's knowledge, with what has become read-only
  let R : Nat → Prop := fun b => k'.S b
  have hRnew : ∀ b, k'.S b → k.S b ∨ w.heap.size ≤ b := fun b hb => by
    rcases ex.newS b hb with h | ⟨i, h⟩ | h
    · exact .inl h
    · exact h.elim
    · exact .inr h
  have hfr : ∀ b, b < w.heap.size → w'.heap[b]? = w.heap[b]? := fun b hb => ex.frame b hb fun _ h => h
  obtain ⟨m, hH⟩ := s.H.addS (w' := w') (R := k'.S) (fun b hb => ⟨H'.slt b hb, fun i hx => by
    rcases hRnew b hb with h | h
    · exact s.H.dis i b hx h
    · have := s.H.lt i b hx; omega⟩) ex.grows hfr
  have ex2 : Ext k w (k.addS k'.S) w' := ⟨ex.grows, fun b hb _ => hfr b hb, fun _ h => .inl h, fun b h => h.elim .inl fun h => by
      rcases hRnew b h with h | h
      · exact .inl h
      · exact .inr (.inr h), fun i _ h => .inl ⟨i, h⟩, fun _ _ _ h => h⟩
  have s1 := s.of_ext hH m ex2
  have er : VEnc (k.addS k'.S) w' r v := by
    have hd' : ∀ i, k'.β i = none := fun i => by
      have := H'.dom i
      simp only [lkp, Option.isSome_none] at this
      cases hq : k'.β i with
      | none => rfl
      | some l => rw [hq] at this; cases this
    have mm : Keeps k' w' (k.addS k'.S) w' := ⟨.refl w', fun _ _ => rfl, fun b h => .inr h, fun i l h => by rw [hd' i] at h; cases h⟩
    exact VEnc.mono mm r v e2
  rw [hd]
  exact wpListIn_mono' (hrest ro _ w' _ ms ⟨s1.H, SimT.put (st := st) ⟨s1.T.size, s1.T.arg, s1.T.tm⟩ hn er, s1.M.put _ _⟩) fun _ _ _ hp => Post.step ⟨ex2, fun _ h => .inl h⟩ hp
end
end Go.AM
end
section
/-! ## 19 -/
namespace Go.AM
open Go

theorem way_true (A B : Prop) : way true A B = A := by simp [way]
theorem way_false (A B : Prop) : way false A B = B := by simp [way]
theorem way_dec (p : Prop) [Decidable p] (A B : Prop) : way (decide p) A B = ((p → A) ∧ (¬ p → B)) := by simp [way]
theorem way_not (b : Bool) (A B : Prop) : way (!b) A B = way b B A := by cases b <;> simp [way]

set_option linter.unusedSectionVars false
variable [Env]
/-- What is left of a region. -/
def rest (P : Program) (ops : Array Oper) (Q : Exit → AS → Prop) : List Oper → AS → Prop
  | [], st => Q .normal st
  | o :: r, st => AL P ops (o :: r) st Q

def ax (P : Program) (T : List (Nat × TI)) : Code → AS → (Exit → AS → Prop) → Prop
  | .skip, st, Q => Q .normal st
  | .label _, st, Q => Q .normal st
  | .ret, st, Q => Q .ret st
  | .exit id, st, Q => Q (.exit id) st
  | .seq a b, st, Q => ax P T a st (thenQ (fun s => ax P T b s Q) Q)
  | .block id c, st, Q => ax P T c st (blockQ id Q)
  | .region _ ops false, st, Q => runA T ops ops.toList st (rest P ops Q)
  | .cond c a b, st, Q => condOn (st.ev c) (fun x => way x (ax P T a st Q) (ax P T b st Q)) (AWP P (.cond c a b) st Q)
  | .region id ops true, st, Q => AWP P (.region id ops true) st Q
  | .loop c, st, Q => AWP P (.loop c) st Q
  | .rangeFunc f ps a b, st, Q => AWP P (.rangeFunc f ps a b) st Q
  | .scope c, st, Q => AWP P (.scope c) st Q
  | .goto l, st, Q => AWP P (.goto l) st Q
  | .refuse s, st, Q => AWP P (.refuse s) st Q

section
variable {P : Program} {T : List (Nat × TI)}

theorem runA_mono {ops : Array Oper} {F G : List Oper → AS → Prop} (h : ∀ r s, F r s → G r s) : ∀ {l : List Oper} {st : AS}, runA T ops l st F → runA T ops l st G
  | [], st, hr => h _ _ hr
  | o :: r, st, hr => by
    have go : (astep T st o).on (fun st' => runA T ops r st' F) (F (o :: r) st) → (astep T st o).on (fun st' => runA T ops r st' G) (G (o :: r) st) := fun hr => by
      unfold Stp.on at hr ⊢
      split at hr
      · exact runA_mono h hr
      · exact ⟨hr.1, fun hc => runA_mono h (hr.2 hc)⟩
      · exact h _ _ hr
    have goW : ∀ {x : Bool}, way x (oblT x st.t o.op.operands.toList ∧ (Stp.go (st.lift o.op.operands.toList)).on (fun st1 => (astep T st1 o).on (fun st' => runA T ops r st' F) (F (o :: r) st1)) False)
            ((gskip st o).on (fun st' => runA T ops r st' F) False) → way x (oblT x st.t o.op.operands.toList ∧ (Stp.go (st.lift o.op.operands.toList)).on (fun st1 => (astep T st1 o).on (fun st' => runA T ops r st' G) (G (o :: r) st1)) False)
            ((gskip st o).on (fun st' => runA T ops r st' G) False) := fun hr => by
      refine ⟨fun e => ⟨(hr.1 e).1, ?_⟩, fun e => ?_⟩
      · have hr := (hr.1 e).2
        simp only [Stp.on_go] at hr ⊢
        unfold Stp.on at hr ⊢
        split at hr
        · exact runA_mono h hr
        · exact ⟨hr.1, fun hc => runA_mono h (hr.2 hc)⟩
        · exact h _ _ hr
      · have hr := hr.2 e
        unfold Stp.on at hr ⊢
        split at hr
        · exact runA_mono h hr
        · exact ⟨hr.1, fun hc => runA_mono h (hr.2 hc)⟩
        · exact hr
    unfold runA optOn at hr ⊢
    split at hr
    rotate_left
    · exact go hr
    · try dsimp only at hr ⊢
      split at hr
      · rename_i x _
        unfold Stp.on at hr ⊢
        split at hr
        · exact runA_mono h hr
        · exact ⟨hr.1, fun hc => runA_mono h (hr.2 hc)⟩
        · exact goW hr
      · exact h _ _ hr

theorem AL.go (hT : TOK P T) {ops : Array Oper} {l : List Oper} {st : AS} {Q : Exit → AS → Prop} (h : runA T ops l st (rest P ops Q)) : AL P ops l st Q :=
  runA_sound hT (runA_mono (fun r s hr => by cases r with | nil => exact AL.nil hr | cons o r => exact hr) h)

theorem ax_sound (hT : TOK P T) : ∀ {c : Code} {st : AS} {Q : Exit → AS → Prop}, ax P T c st Q → AWP P c st Q
  | .skip, _, _, h => AWP.skip h
  | .label _, _, _, h => AWP.label h
  | .ret, _, _, h => AWP.ret h
  | .exit _, _, _, h => AWP.exit h
  | .seq a b, st, Q, h => AWP.seq ((ax_sound hT (c := a) h).mono fun e s hq => by
      cases e with
      | normal => exact ax_sound hT (c := b) hq
      | _ => exact hq)
  | .block _ c, _, _, h => AWP.block (ax_sound hT (c := c) h)
  | .region _ ops false, _, _, h => AWP.region (AL.go hT h)
  | .cond c a b, st, Q, h => by
    unfold ax condOn at h
    split at h
    · rename_i x hx
      exact AWP.cond hx (fun e => ax_sound hT (c := a) (h.1 e)) (fun e => ax_sound hT (c := b) (h.2 e))
    · exact h
  | .region _ _ true, _, _, h => h
  | .loop _, _, _, h => h
  | .rangeFunc _ _ _ _, _, _, h => h
  | .scope _, _, _, h => h
  | .goto _, _, _, h => h
  | .refuse _, _, _, h => h

/-- A CONTRACT OUT OF A BODY's RUN. -/
theorem PC.run (hT : TOK P T) {f : FuncId} {fn : Func} {c : Code} {n : Nat} {rs : List ResultVar} (hf : P.funcs[f]? = some fn) (hname : (fn.name == "runtime.NumGoroutine") = false) (hb : fn.body = some c) (hnt : fn.ntmps = n) (hrs : fn.results.toList = rs) {h : List (Nat × Ob)} {args : List V} {Q : V → List (Nat × Ob) → Prop}
    (hn : Nat.ble args.length n = true) (hA : Nat.ble n ARG = true) (hw : ax P T c { n := n, t := argT 0 args, h := h } (retQ T rs Q)) : PC P f h args Q := by
  subst hnt; subst hrs
  exact PC.of_awp hT hf hb (Go.Proofs.enters_of hf hname hb) (Nat.le_of_ble_eq_true hn) (Nat.le_of_ble_eq_true hA) (ax_sound hT hw)
end
end Go.AM
end
section
/-! ## 20 -/
namespace Go.AM
open Go

mutual
def V.ren (f : Nat → Nat) : V → V
  | .junk => .junk
  | .d x => .d x
  | .ptr i o => .ptr (f i) o
  | .own i sz lo n => .own (f i) sz lo n
  | .ep i sz r o => .ep (f i) sz r o
  | .rp ds => .rp ds
  | .rr sz rows i o => .rr sz rows i o
  | .fn g a b => .fn g (renL f a) (renL f b)
  | .agg l => .agg (renL f l)
  | .dagg l => .dagg l
  | .tup l => .tup (renL f l)
  | .yld i => .yld (f i)
  | .mp i => .mp (f i)
  | .opt g x => .opt g (x.ren f)
def renL (f : Nat → Nat) : List V → List V
  | [] => []
  | x :: xs => x.ren f :: renL f xs
end
def Ob.ren (f : Nat → Nat) : Ob → Ob
  | .cells vs => .cells (renL f vs)
  | .arr sz rows => .arr sz rows
  | .opq A => .opq A
/-- Numbers by a list; others stay. -/
def by_ (m : List (Nat × Nat)) (i : Nat) : Nat := (lkp i m).getD i
def renH (f : Nat → Nat) : List (Nat × Ob) → List (Nat × Ob)
  | [] => []
  | (i, o) :: r => (f i, o.ren f) :: renH f r

section
variable {P : Program} {T : List (Nat × TI)} {k k' : K} {w w' : World} {st : AS} {a : Act} {ms : List Nat} {h : List (Nat × Ob)} {S : Nat → Prop} {ro : Option Nat} {Q : Exit → AS → Prop}

mutual
theorem VEnc.ren (f : Nat → Nat) (hS : ∀ b, k.S b → k'.S b) : ∀ (x : V) (v : Value), (∀ j ∈ x.refs, k'.β (f j) = k.β j) → VEnc k w x v → VEnc k' w (x.ren f) v
  | .junk, _, _, _ => trivial
  | .d x, v, _, h => DEnc.mono (fun _ _ => rfl) hS x v h
  | .ptr i _, _, m, h => by simp only [V.ren, VEnc, m i (by simp [V.refs])]; exact h
  | .own i _ _ _, _, m, h => by simp only [V.ren, VEnc, m i (by simp [V.refs])]; exact h
  | .ep i _ _ _, _, m, h => by simp only [V.ren, VEnc, m i (by simp [V.refs])]; exact h
  | .rp ds, _, _, h => by obtain ⟨b, o, e, hb, hc⟩ := h; exact ⟨b, o, e, hS b hb, CellsAt.mono (fun _ _ => rfl) hS ds b o hb hc⟩
  | .rr _ rows _ _, _, _, h => by obtain ⟨b, o, e, hb, hc, h1⟩ := h; exact ⟨b, o, e, hS b hb, RowsAt.mono (fun _ _ => rfl) hS rows b o hb hc, h1⟩
  | .fn _ first caps, _, m, h => by
    obtain ⟨fs, cs, e, h1, h2⟩ := h
    exact ⟨fs, cs, e, VEncs.ren f hS first _ (fun j hj => m j (by simp [V.refs, hj])) h1, VEncs.ren f hS caps _ (fun j hj => m j (by simp [V.refs, hj])) h2⟩
  | .agg l, _, m, h => by obtain ⟨cs, e, h1, h2⟩ := h; exact ⟨cs, e, VEncs.ren f hS l _ m h1, h2⟩
  | .dagg l, _, _, h => by obtain ⟨cs, e, h1⟩ := h; exact ⟨cs, e, DEncs.mono (fun _ _ => rfl) hS l _ h1⟩
  | .tup l, _, m, h => by obtain ⟨cs, e, h1⟩ := h; exact ⟨cs, e, VEncs.ren f hS l _ m h1⟩
  | .yld i, _, m, h => by simp only [V.ren, VEnc, m i (by simp [V.refs])]; exact h
  | .mp i, _, m, h => by simp only [V.ren, VEnc, m i (by simp [V.refs])]; exact h
  | .opt _ x, v, m, h => ⟨fun e => VEnc.ren f hS x v m (h.1 e), h.2⟩
theorem VEncs.ren (f : Nat → Nat) (hS : ∀ b, k.S b → k'.S b) : ∀ (l : List V) (vs : List Value), (∀ j ∈ refsL l, k'.β (f j) = k.β j) → VEncs k w l vs → VEncs k' w (renL f l) vs
  | [], [], _, _ => trivial
  | x :: xs, v :: vs, m, h => ⟨VEnc.ren f hS x v (fun j hj => m j (by simp [refsL, hj])) h.1, VEncs.ren f hS xs vs (fun j hj => m j (by simp [refsL, hj])) h.2⟩
  | [], _ :: _, _, h => h.elim
  | _ :: _, [], _, h => h.elim
end
mutual
theorem VEnc.unren (f : Nat → Nat) (hS : k'.S = k.S) : ∀ (x : V) (v : Value), (∀ j ∈ x.refs, k'.β j = k.β (f j)) → VEnc k w (x.ren f) v → VEnc k' w x v
  | .junk, _, _, _ => trivial
  | .d x, v, _, h => by simp only [VEnc, hS]; exact h
  | .ptr i _, _, m, h => by simp only [VEnc, m i (by simp [V.refs])]; exact h
  | .own i _ _ _, _, m, h => by simp only [VEnc, m i (by simp [V.refs])]; exact h
  | .ep i _ _ _, _, m, h => by simp only [VEnc, m i (by simp [V.refs])]; exact h
  | .rp ds, _, _, h => by simp only [VEnc, hS]; exact h
  | .rr _ rows _ _, _, _, h => by simp only [VEnc, hS]; exact h
  | .fn _ first caps, _, m, h => by
    obtain ⟨fs, cs, e, h1, h2⟩ := h
    exact ⟨fs, cs, e, VEncs.unren f hS first _ (fun j hj => m j (by simp [V.refs, hj])) h1, VEncs.unren f hS caps _ (fun j hj => m j (by simp [V.refs, hj])) h2⟩
  | .agg l, _, m, h => by obtain ⟨cs, e, h1, h2⟩ := h; exact ⟨cs, e, VEncs.unren f hS l _ m h1, h2⟩
  | .dagg l, _, _, h => by simp only [VEnc, hS]; exact h
  | .tup l, _, m, h => by obtain ⟨cs, e, h1⟩ := h; exact ⟨cs, e, VEncs.unren f hS l _ m h1⟩
  | .yld i, _, m, h => by simp only [VEnc, m i (by simp [V.refs])]; exact h
  | .mp i, _, m, h => by simp only [VEnc, m i (by simp [V.refs])]; exact h
  | .opt _ x, v, m, h => ⟨fun e => VEnc.unren f hS x v m (h.1 e), h.2⟩
theorem VEncs.unren (f : Nat → Nat) (hS : k'.S = k.S) : ∀ (l : List V) (vs : List Value), (∀ j ∈ refsL l, k'.β j = k.β (f j)) → VEncs k w (renL f l) vs → VEncs k' w l vs
  | [], [], _, _ => trivial
  | x :: xs, v :: vs, m, h => ⟨VEnc.unren f hS x v (fun j hj => m j (by simp [refsL, hj])) h.1, VEncs.unren f hS xs vs (fun j hj => m j (by simp [refsL, hj])) h.2⟩
  | [], _ :: _, _, h => h.elim
  | _ :: _, [], _, h => h.elim
end

theorem obSat_ren {i j : Nat} (f : Nat → Nat) (hS : ∀ b, k.S b → k'.S b) {o : Ob} (hr : ∀ y ∈ o.refs, k'.β (f y) = k.β y) (hb : k'.β i = k.β j) (hX : ∀ b, k'.X i b ↔ k.X j b) (h : obSat k w j o) : obSat k' w i (o.ren f) := by
  cases o with
  | cells vs =>
    obtain ⟨b, cs, ty, h1, h2, h3, h4, h5⟩ := h
    exact ⟨b, cs, ty, hb.trans h1, h2, VEncs.ren f hS vs _ hr h3, h4, fun b' hb' => h5 b' ((hX b').1 hb')⟩
  | arr sz rows =>
    obtain ⟨h1, h2⟩ := h
    refine ⟨?_, h2⟩
    rcases h1 with ⟨a1, a2, a3⟩ | ⟨b, cs, ty, a1, a2, a3, a4, a5⟩
    · exact .inl ⟨hb.trans a1, a2, fun b' hb' => a3 b' ((hX b').1 hb')⟩
    · exact .inr ⟨b, cs, ty, hb.trans a1, a2, a3, RowsAt.mono' (fun _ _ => rfl) hS rows b 0 rfl a4, fun b' hb' => a5 b' ((hX b').1 hb')⟩
  | opq A =>
    obtain ⟨l', h1, h2⟩ := h
    refine ⟨l', hb.trans h1, ?_⟩
    have : k'.X i = k.X j := by funext b; exact propext (hX b)
    rw [this]
    exact A.stable h2 (.refl w) (fun _ _ => rfl) hS

theorem obSat_unren {i j : Nat} (f : Nat → Nat) (hS : k'.S = k.S) {o : Ob} (hr : ∀ y ∈ o.refs, k'.β y = k.β (f y)) (hb : k'.β j = k.β i) (hX : ∀ b, k'.X j b ↔ k.X i b) (h : obSat k w i (o.ren f)) : obSat k' w j o := by
  cases o with
  | cells vs =>
    obtain ⟨b, cs, ty, h1, h2, h3, h4, h5⟩ := h
    exact ⟨b, cs, ty, hb.trans h1, h2, VEncs.unren f hS vs _ hr h3, h4, fun b' hb' => h5 b' ((hX b').1 hb')⟩
  | arr sz rows =>
    obtain ⟨h1, h2⟩ := h
    refine ⟨?_, h2⟩
    rcases h1 with ⟨a1, a2, a3⟩ | ⟨b, cs, ty, a1, a2, a3, a4, a5⟩
    · exact .inl ⟨hb.trans a1, a2, fun b' hb' => a3 b' ((hX b').1 hb')⟩
    · exact .inr ⟨b, cs, ty, hb.trans a1, a2, a3, by rw [hS]; exact a4, fun b' hb' => a5 b' ((hX b').1 hb')⟩
  | opq A =>
    obtain ⟨l', h1, h2⟩ := h
    refine ⟨l', hb.trans h1, ?_⟩
    have : k'.X j = k.X i := by funext b; exact propext (hX b)
    rw [this, hS]
    exact h2

/-- The objects that a list names, under its numbers. -/
def K.sub (k : K) (m : List (Nat × Nat)) : K :=
  { S := k.S, β := fun j => (lkp j m).bind k.β, X := fun j b => ∃ i, lkp j m = some i ∧ k.X i b }

def Inj (m : List (Nat × Nat)) : Prop := ∀ j j' i, lkp j m = some i → lkp j' m = some i → j = j'

/-- hs: those objects, as the callee sees them. -/
structure SubOf (m : List (Nat × Nat)) (hs h : List (Nat × Ob)) : Prop where
  inj : Inj m
  dom : ∀ j, (lkp j hs).isSome = (lkp j m).isSome
  ob : ∀ j i o, lkp j m = some i → lkp j hs = some o → lkp i h = some (o.ren (by_ m))
  refs : ∀ j o, lkp j hs = some o → ∀ y ∈ o.refs, (lkp y m).isSome = true

set_option linter.unusedSectionVars false
variable [Env]
theorem SimH.sub (s : SimH k w h) {m : List (Nat × Nat)} {hs : List (Nat × Ob)} (e : SubOf m hs h) : SimH (k.sub m) w hs where
  inj i j b h1 h2 := by
    obtain ⟨i', e1, x1⟩ := h1
    obtain ⟨j', e2, x2⟩ := h2
    have := s.inj i' j' b x1 x2
    subst this
    exact e.inj i j i' e1 e2
  lt i b h1 := by obtain ⟨i', _, x1⟩ := h1; exact s.lt i' b x1
  dis i b h1 := by obtain ⟨i', _, x1⟩ := h1; exact s.dis i' b x1
  slt := s.slt
  env := s.env
  prim i b h1 := by
    simp only [K.sub] at h1
    cases hl : lkp i m with
    | none => rw [hl] at h1; cases h1
    | some i' => rw [hl] at h1; exact ⟨i', hl, s.prim i' b h1⟩
  dom j := by
    rw [e.dom j]
    simp only [K.sub]
    cases hl : lkp j m with
    | none => rfl
    | some i =>
      simp only [Option.bind_some, Option.isSome_some]
      rw [s.dom i]
      have hj := e.dom j
      rw [hl] at hj
      obtain ⟨o, ho⟩ := Option.isSome_iff_exists.1 hj
      rw [e.ob j i o hl ho]; rfl
  domX j b h1 := by
    obtain ⟨i, e1, x1⟩ := h1
    simp only [K.sub, e1, Option.bind_some]
    exact s.domX i b x1
  sat j o ho := by
    have hj := e.dom j
    rw [ho] at hj
    obtain ⟨i, hi⟩ := Option.isSome_iff_exists.1 hj.symm
    refine obSat_unren (i := i) (j := j) (k := k) (k' := k.sub m) (by_ m) rfl (fun y hy => ?_) ?_ (fun b => ?_) (s.sat i _ (e.ob j i o hi ho))
    · obtain ⟨z, hz⟩ := Option.isSome_iff_exists.1 (e.refs j o ho y hy)
      simp [K.sub, by_, hz]
    · simp [K.sub, hi]
    · simp only [K.sub, hi]
      exact ⟨fun ⟨i', e1, x⟩ => by cases e1; exact x, fun x => ⟨i, rfl, x⟩⟩

/-- What the caller knows behind a call: h1 (the callee's objects behind it) under m1's numbers, what was not handed on as it was. -/
structure Back (m m1 : List (Nat × Nat)) (h1 h h2 : List (Nat × Ob)) : Prop where
  inj : Inj m1
  dom : ∀ j, (lkp j h1).isSome = (lkp j m1).isSome
  old : ∀ j i, lkp j m1 = some i → (lkp i h).isSome = true → ARG ≤ j ∧ lkp j m = some i
  new : ∀ j i, lkp j m1 = some i → i < ARG ∨ lkp j m = some i ∧ ARG ≤ j
  ob : ∀ j i o, lkp j m1 = some i → lkp j h1 = some o → lkp i h2 = some (o.ren (by_ m1))
  refs : ∀ j o, lkp j h1 = some o → ∀ y ∈ o.refs, (lkp y m1).isSome = true
  gone : ∀ i, (∃ j, lkp j m = some i) → (∀ j, lkp j m1 ≠ some i) → lkp i h2 = none
  rest : ∀ i, (∀ j, lkp j m ≠ some i) → (∀ j, lkp j m1 ≠ some i) → lkp i h2 = lkp i h
  clean : ∀ i o, (∀ j, lkp j m ≠ some i) → (∀ j, lkp j m1 ≠ some i) → lkp i h = some o → ∀ y ∈ o.refs, (∃ j, lkp j m = some y) → ∃ j, lkp j m1 = some y

open Classical in
noncomputable def K.back (k : K) (m m1 : List (Nat × Nat)) (k1 : K) : K :=
  { S := k1.S
    β := fun i => if hx : ∃ j, lkp j m1 = some i then k1.β (Classical.choose hx) else if ∃ j, lkp j m = some i then none else k.β i
    X := fun i b => if hx : ∃ j, lkp j m1 = some i then k1.X (Classical.choose hx) b else if ∃ j, lkp j m = some i then False else k.X i b }

open Classical in
theorem K.back_β {m m1 : List (Nat × Nat)} (hi : Inj m1) {k1 : K} {j i : Nat} (h : lkp j m1 = some i) : (k.back m m1 k1).β i = k1.β j := by
  have hx : ∃ j, lkp j m1 = some i := ⟨j, h⟩
  simp only [K.back, dif_pos hx]
  rw [hi _ _ _ (Classical.choose_spec hx) h]
open Classical in
theorem K.back_X {m m1 : List (Nat × Nat)} (hi : Inj m1) {k1 : K} {j i : Nat} (h : lkp j m1 = some i) (b : Nat) : (k.back m m1 k1).X i b = k1.X j b := by
  have hx : ∃ j, lkp j m1 = some i := ⟨j, h⟩
  simp only [K.back, dif_pos hx]
  rw [hi _ _ _ (Classical.choose_spec hx) h]
theorem K.back_rest {m m1 : List (Nat × Nat)} {k1 : K} {i : Nat} (h1 : ∀ j, lkp j m1 ≠ some i) (h2 : ∀ j, lkp j m ≠ some i) : (k.back m m1 k1).β i = k.β i ∧ ∀ b, (k.back m m1 k1).X i b = k.X i b := by
  have hx : ¬ ∃ j, lkp j m1 = some i := fun ⟨j, h⟩ => h1 j h
  have hy : ¬ ∃ j, lkp j m = some i := fun ⟨j, h⟩ => h2 j h
  exact ⟨by simp only [K.back, dif_neg hx, if_neg hy], fun b => by simp only [K.back, dif_neg hx, if_neg hy]⟩
theorem K.back_gone {m m1 : List (Nat × Nat)} {k1 : K} {i : Nat} (h1 : ∀ j, lkp j m1 ≠ some i) (h2 : ∃ j, lkp j m = some i) : (k.back m m1 k1).β i = none ∧ ∀ b, ¬ (k.back m m1 k1).X i b := by
  have hx : ¬ ∃ j, lkp j m1 = some i := fun ⟨j, h⟩ => h1 j h
  exact ⟨by simp only [K.back, dif_neg hx, if_pos h2], fun b => by simp only [K.back, dif_neg hx, if_pos h2]; exact id⟩

/-- Which of the three an object is. -/
theorem three (m m1 : List (Nat × Nat)) (i : Nat) : (∃ j, lkp j m1 = some i) ∨ ((∀ j, lkp j m1 ≠ some i) ∧ ∃ j, lkp j m = some i) ∨ ((∀ j, lkp j m1 ≠ some i) ∧ ∀ j, lkp j m ≠ some i) := by
  classical
  by_cases h : ∃ j, lkp j m1 = some i
  · exact .inl h
  · right
    have h1 : ∀ j, lkp j m1 ≠ some i := fun j hj => h ⟨j, hj⟩
    by_cases h' : ∃ j, lkp j m = some i
    · exact .inl ⟨h1, h'⟩
    · exact .inr ⟨h1, fun j hj => h' ⟨j, hj⟩⟩

theorem back_ext (s : SimH k w h) {m m1 : List (Nat × Nat)} {k1 : K} {h1 h2 : List (Nat × Ob)} (b : Back m m1 h1 h h2) (ex : Ext (k.sub m) w k1 w') : Ext k w (k.back m m1 k1) w' where
  grows := ex.grows
  frame b' hb hx := ex.frame b' hb fun j ⟨i, _, x⟩ => hx i x
  sub b' hs := ex.sub b' hs
  newS b' hs := by
    rcases ex.newS b' hs with q | ⟨j, i, _, q⟩ | q
    · exact .inl q
    · exact .inr (.inl ⟨i, q⟩)
    · exact .inr (.inr q)
  newX i b' hx := by
    rcases three m m1 i with ⟨j, hj⟩ | ⟨n1, n2⟩ | ⟨n1, n2⟩
    · rw [K.back_X b.inj hj] at hx
      rcases ex.newX j b' hx with ⟨j', i', _, q⟩ | q
      · exact .inl ⟨i', q⟩
      · exact .inr q
    · exact ((K.back_gone (k := k) (k1 := k1) n1 n2).2 b' hx).elim
    · rw [(K.back_rest (k := k) (k1 := k1) n1 n2).2] at hx; exact .inl ⟨i, hx⟩
  old i l hi hl := by
    rcases three m m1 i with ⟨j, hj⟩ | ⟨n1, n2⟩ | ⟨n1, n2⟩
    · rw [K.back_β b.inj hj] at hl
      rcases b.new j i hj with q | ⟨q1, q2⟩
      · omega
      · have := ex.old j l q2 hl
        simpa [K.sub, q1] using this
    · rw [(K.back_gone (k := k) (k1 := k1) n1 n2).1] at hl; cases hl
    · rw [(K.back_rest (k := k) (k1 := k1) n1 n2).1] at hl; exact hl

theorem back_same (s : SimH k w h) {m : List (Nat × Nat)} {k1 : K} (ex : Ext (k.sub m) w k1 w') : (∀ b, k.S b → w'.heap[b]? = w.heap[b]?) ∧ ∀ i b, (∀ j, lkp j m ≠ some i) → k.X i b → w'.heap[b]? = w.heap[b]? := by
  refine ⟨fun b hs => ex.frame b (s.slt b hs) fun j ⟨i, _, x⟩ => s.dis i b x hs, fun i b hm hx => ex.frame b (s.lt i b hx) fun j ⟨i', e, x⟩ => ?_⟩
  have := s.inj i i' b hx x
  subst this; exact hm j e

/-- The caller's other values stay, where they name no object that is gone. -/
theorem back_keeps (s : SimH k w h) {m m1 : List (Nat × Nat)} {k1 : K} {h1 h2 : List (Nat × Ob)} (H1 : SimH k1 w' h1) (b : Back m m1 h1 h h2) (ex : Ext (k.sub m) w k1 w') {i : Nat} (hi : (∃ j, lkp j m = some i) → ∃ j, lkp j m1 = some i) {l : Option Nat} (hl : k.β i = some l) : (k.back m m1 k1).β i = some l := by
  have hd : (lkp i h).isSome = true := by rw [← s.dom i, hl]; rfl
  rcases three m m1 i with ⟨j, hj⟩ | ⟨n1, n2⟩ | ⟨n1, n2⟩
  · rw [K.back_β b.inj hj]
    obtain ⟨q1, q2⟩ := b.old j i hj hd
    have hj1 : (k1.β j).isSome = true := by rw [H1.dom j, b.dom j, hj]; rfl
    obtain ⟨l', hl'⟩ := Option.isSome_iff_exists.1 hj1
    have := ex.old j l' q1 hl'
    simp only [K.sub, q2, Option.bind_some] at this
    rw [hl] at this
    rw [hl', this]
  · obtain ⟨j, hj⟩ := hi n2; exact (n1 j hj).elim
  · rw [(K.back_rest (k := k) (k1 := k1) n1 n2).1]; exact hl

/-- Values that name living objects alone are kept. -/
theorem VEnc.keepsOn {ids : List Nat} (hg : Grows w w') (hs : ∀ b, k.S b → w'.heap[b]? = w.heap[b]?) (hS : ∀ b, k.S b → k'.S b) (hb : ∀ i ∈ ids, ∀ l, k.β i = some l → k'.β i = some l) (x : V) (v : Value) (hr : ∀ i ∈ x.refs, i ∈ ids) (h : VEnc k w x v) : VEnc k' w' x v := by
  classical
  let k0 : K := { S := k.S, β := fun i => if i ∈ ids then k.β i else none, X := k.X }
  have h0 : VEnc k0 w x v := VEnc.agree (k := k) (k' := k0) x v ⟨rfl, fun i hi => by simp [k0, hr i hi]⟩ h
  refine VEnc.mono (k := k0) ⟨hg, hs, hS, fun i l hi => ?_⟩ x v h0
  simp only [k0] at hi
  split at hi
  · rename_i hm; exact hb i hm l hi
  · cases hi
theorem VEncs.keepsOn {ids : List Nat} (hg : Grows w w') (hs : ∀ b, k.S b → w'.heap[b]? = w.heap[b]?) (hS : ∀ b, k.S b → k'.S b) (hb : ∀ i ∈ ids, ∀ l, k.β i = some l → k'.β i = some l) (x : List V) (v : List Value) (hr : ∀ i ∈ refsL x, i ∈ ids) (h : VEncs k w x v) : VEncs k' w' x v := by
  classical
  let k0 : K := { S := k.S, β := fun i => if i ∈ ids then k.β i else none, X := k.X }
  have h0 : VEncs k0 w x v := VEncs.agree (k := k) (k' := k0) x v ⟨rfl, fun i hi => by simp [k0, hr i hi]⟩ h
  refine VEncs.mono (k := k0) ⟨hg, hs, hS, fun i l hi => ?_⟩ x v h0
  simp only [k0] at hi
  split at hi
  · rename_i hm; exact hb i hm l hi
  · cases hi
end
end Go.AM
end
section
/-! ## 21 -/
namespace Go.AM
open Go
set_option linter.unusedSectionVars false
variable [Env]

def rngL : List (Nat × Nat) → List Nat
  | [] => []
  | (_, i) :: r => i :: rngL r
def nodupB : List Nat → Bool
  | [] => true
  | x :: xs => !inL xs x && nodupB xs
/-- The objects but those of a list. -/
def dropH (ids : List Nat) : List (Nat × Ob) → List (Nat × Ob)
  | [] => []
  | (i, o) :: r => if inL ids i = true then dropH ids r else (i, o) :: dropH ids r
def cleanL (m m1 : List (Nat × Nat)) : List Nat → Bool
  | [] => true
  | y :: ys => (!inL (rngL m) y || inL (rngL m1) y) && cleanL m m1 ys
def oldB (m : List (Nat × Nat)) (h : List (Nat × Ob)) : List (Nat × Nat) → Bool
  | [] => true
  | (j, i) :: r => ((Nat.ble ARG j && (match lkp j m with | some i' => Nat.beq i' i | none => false)) || (Nat.blt i ARG && !inL (domL h) i)) && oldB m h r
/-- What is asked of the caller's state behind a call. -/
def backB (m m1 : List (Nat × Nat)) (h1 : List (Nat × Ob)) (st : AS) : Bool :=
  nodupB (rngL m1) && nodupB (domL m1) && subL (domL h1) (domL m1) && subL (domL m1) (domL h1) && oldB m st.h m1 && subL (refsH h1) (domL m1) &&
    cleanL m m1 (refsH (dropH (rngL m ++ rngL m1) st.h)) && cleanL m m1 (refsT st.t)
def subObs (m : List (Nat × Nat)) (h : List (Nat × Ob)) : List (Nat × Ob) → Prop
  | [] => True
  | (j, o) :: r => lkp (by_ m j) h = some (o.ren (by_ m)) ∧ subObs m h r
def subB (m : List (Nat × Nat)) (hs : List (Nat × Ob)) : Bool :=
  nodupB (rngL m) && subL (domL hs) (domL m) && subL (domL m) (domL hs) && nodupB (domL m) && nodupB (domL hs) && subL (refsH hs) (domL m)

section
variable {P : Program} {T : List (Nat × TI)} {k k' : K} {w w' : World} {st : AS} {a : Act} {ms : List Nat} {h : List (Nat × Ob)} {S : Nat → Prop} {ro : Option Nat} {Q : Exit → AS → Prop}

theorem lkp_rng : ∀ {m : List (Nat × Nat)} {j i : Nat}, lkp j m = some i → i ∈ rngL m
  | (j', i') :: r, j, i, h => by
    simp only [lkp] at h
    split at h
    · cases h; simp [rngL]
    · simp [rngL, lkp_rng h]
theorem rng_lkp : ∀ {m : List (Nat × Nat)} (_ : nodupB (domL m) = true) {i : Nat}, i ∈ rngL m → ∃ j, lkp j m = some i
  | (j', i') :: r, hn, i, h => by
    simp only [domL, nodupB, Bool.and_eq_true, Bool.not_eq_true'] at hn
    rcases List.mem_cons.1 h with e | e
    · exact ⟨j', by simp [lkp, e]⟩
    · obtain ⟨j, hj⟩ := rng_lkp hn.2 e
      refine ⟨j, ?_⟩
      simp only [lkp]
      rw [if_neg]
      · exact hj
      · intro e'; subst e'
        have : inL (domL r) j' = true := by rw [← look_isSome, hj]; rfl
        rw [this] at hn; cases hn.1
theorem inj_of : ∀ {m : List (Nat × Nat)}, nodupB (rngL m) = true → Inj m
  | [], _ => fun j j' i h => by simp [lkp] at h
  | (j0, i0) :: r, hn => fun j j' i h h' => by
    simp only [rngL, nodupB, Bool.and_eq_true, Bool.not_eq_true'] at hn
    simp only [lkp] at h h'
    split at h <;> split at h'
    · simp_all
    · rename_i e1 e2
      cases h
      have := inL_iff.2 (lkp_rng h')
      rw [this] at hn; cases hn.1
    · rename_i e1 e2
      cases h'
      have := inL_iff.2 (lkp_rng h)
      rw [this] at hn; cases hn.1
    · exact inj_of hn.2 j j' i h h'
theorem lkp_dropH {ids : List Nat} : ∀ {h : List (Nat × Ob)} {i : Nat}, lkp i (dropH ids h) = if inL ids i = true then none else lkp i h
  | [], i => by simp [dropH, lkp]
  | (j, o) :: r, i => by
    simp only [dropH]
    by_cases hj : inL ids j = true
    · rw [if_pos hj, lkp_dropH]
      by_cases hi : inL ids i = true
      · rw [if_pos hi, if_pos hi]
      · rw [if_neg hi, if_neg hi]; simp only [lkp]; rw [if_neg (fun e => hi (by rw [← e]; exact hj))]
    · rw [if_neg hj]
      simp only [lkp]
      by_cases e : j = i
      · rw [if_pos e, if_pos e, if_neg (by rw [← e]; exact hj)]
      · rw [if_neg e, if_neg e]; exact lkp_dropH
theorem lkp_renH {m : List (Nat × Nat)} (hi : Inj m) : ∀ {h : List (Nat × Ob)} (_ : ∀ j ∈ domL h, (lkp j m).isSome = true) {j i : Nat} (_ : lkp j m = some i), lkp i (renH (by_ m) h) = (lkp j h).map (Ob.ren (by_ m))
  | [], _, _, _, _ => rfl
  | (j0, o) :: r, hd, j, i, hj => by
    simp only [renH, lkp]
    obtain ⟨i0, hi0⟩ := Option.isSome_iff_exists.1 (hd j0 (by simp [domL]))
    have hb : by_ m j0 = i0 := by simp [by_, hi0]
    by_cases e : j0 = j
    · subst e
      rw [hi0] at hj; cases hj
      rw [if_pos hb, if_pos rfl]; rfl
    · rw [if_neg e, if_neg (fun e2 => e (by rw [hb] at e2; subst e2; exact hi _ _ _ hi0 hj))]
      exact lkp_renH hi (fun j hj => hd j (by simp [domL, hj])) hj
theorem lkp_renH_none {m : List (Nat × Nat)} : ∀ {h : List (Nat × Ob)} (_ : ∀ j ∈ domL h, (lkp j m).isSome = true) {i : Nat} (_ : ∀ j, lkp j m ≠ some i), lkp i (renH (by_ m) h) = none
  | [], _, _, _ => rfl
  | (j0, o) :: r, hd, i, hj => by
    simp only [renH, lkp]
    obtain ⟨i0, hi0⟩ := Option.isSome_iff_exists.1 (hd j0 (by simp [domL]))
    have hb : by_ m j0 = i0 := by simp [by_, hi0]
    rw [if_neg (fun e => hj j0 (by rw [hi0, ← hb, e]))]
    exact lkp_renH_none (fun j hj => hd j (by simp [domL, hj])) hj
theorem cleanL_iff {m m1 : List (Nat × Nat)} : ∀ {l : List Nat}, cleanL m m1 l = true → ∀ y ∈ l, inL (rngL m) y = true → inL (rngL m1) y = true
  | x :: xs, h, y, hy, hr => by
    simp only [cleanL, Bool.and_eq_true, Bool.or_eq_true, Bool.not_eq_true'] at h
    rcases List.mem_cons.1 hy with e | e
    · subst e; rcases h.1 with q | q
      · rw [q] at hr; cases hr
      · exact q
    · exact cleanL_iff h.2 y e hr
theorem oldB_iff {m : List (Nat × Nat)} {h : List (Nat × Ob)} : ∀ {l : List (Nat × Nat)}, oldB m h l = true → ∀ j i, lkp j l = some i → (ARG ≤ j ∧ lkp j m = some i) ∨ (i < ARG ∧ (lkp i h).isSome = false)
  | (j0, i0) :: r, hb, j, i, hl => by
    simp only [oldB, Bool.and_eq_true, Bool.or_eq_true, Bool.not_eq_true'] at hb
    simp only [lkp] at hl
    split at hl
    · rename_i e; subst e; cases hl
      rcases hb.1 with ⟨q1, q2⟩ | ⟨q1, q2⟩
      · left
        refine ⟨Nat.le_of_ble_eq_true q1, ?_⟩
        split at q2
        · rename_i i' hi'; rw [hi', Nat.eq_of_beq_eq_true q2]
        · cases q2
      · right; exact ⟨Nat.le_of_ble_eq_true q1, by rw [look_isSome]; exact q2⟩
    · exact oldB_iff hb.2 j i hl

/-- The caller's objects behind a call. -/
def backH (m m1 : List (Nat × Nat)) (h1 h : List (Nat × Ob)) : List (Nat × Ob) := renH (by_ m1) h1 ++ dropH (rngL m ++ rngL m1) h

theorem dom_eq {α β : Type} {l : List (Nat × α)} {m : List (Nat × β)} (h1 : subL (domL l) (domL m) = true) (h2 : subL (domL m) (domL l) = true) (j : Nat) : (lkp j l).isSome = (lkp j m).isSome := by
  rw [look_isSome, look_isSome, Bool.eq_iff_iff, inL_iff, inL_iff]
  exact ⟨subL_iff.1 h1 j, subL_iff.1 h2 j⟩

theorem inL_append {l m : List Nat} {y : Nat} : inL (l ++ m) y = (inL l y || inL m y) := by
  rw [Bool.eq_iff_iff]; simp [inL_iff]

theorem back_of {m m1 : List (Nat × Nat)} {h1 : List (Nat × Ob)} (hm : nodupB (domL m) = true) (hb : backB m m1 h1 st = true) : Back m m1 h1 st.h (backH m m1 h1 st.h) ∧ ∀ i x, lkp i st.t = some x → ∀ y ∈ x.refs, (∃ j, lkp j m = some y) → ∃ j, lkp j m1 = some y := by
  simp only [backB, Bool.and_eq_true] at hb
  obtain ⟨⟨⟨⟨⟨⟨⟨b1, b2⟩, b3⟩, b4⟩, b5⟩, b6⟩, b7⟩, b8⟩ := hb
  have hi := inj_of b1
  have hdom := dom_eq b3 b4
  have hd : ∀ j ∈ domL h1, (lkp j m1).isSome = true := fun j hj => by rw [← hdom j, look_isSome]; exact inL_iff.2 hj
  have hr0 : ∀ y, (∃ j, lkp j m = some y) → inL (rngL m) y = true := fun y ⟨j, hj⟩ => inL_iff.2 (lkp_rng hj)
  have hr1 : ∀ y, inL (rngL m1) y = true → ∃ j, lkp j m1 = some y := fun y hy => rng_lkp b2 (inL_iff.1 hy)
  have hn : ∀ (m : List (Nat × Nat)), nodupB (domL m) = true → ∀ i, (∀ j, lkp j m ≠ some i) → inL (rngL m) i = false := fun m hm i h => by
    cases hq : inL (rngL m) i with
    | false => rfl
    | true => obtain ⟨j, hj⟩ := rng_lkp hm (inL_iff.1 hq); exact (h j hj).elim
  refine ⟨⟨hi, hdom, fun j i hj hs => ?_, fun j i hj => ?_, fun j i o hj ho => ?_, fun j o ho y hy => ?_, fun i hx hn1 => ?_, fun i n1 n2 => ?_, fun i o n1 n2 ho y hy hx => ?_⟩, fun i x hx y hy hm => ?_⟩
  · rcases oldB_iff b5 j i hj with q | q
    · exact q
    · rw [q.2] at hs; cases hs
  · rcases oldB_iff b5 j i hj with q | q
    · exact .inr ⟨q.2, q.1⟩
    · exact .inl q.1
  · simp only [backH]
    rw [lkp_append, lkp_renH hi hd hj, ho]; rfl
  · rw [look_isSome]; exact inL_iff.2 (subL_iff.1 b6 y (refsH_mem (look_mem ho) y hy))
  · simp only [backH]
    rw [lkp_append, lkp_renH_none hd hn1]
    simp only
    rw [lkp_dropH, if_pos]
    rw [inL_append, hr0 i hx]; rfl
  · simp only [backH]
    rw [lkp_append, lkp_renH_none hd n2]
    simp only
    rw [lkp_dropH, if_neg]
    rw [inL_append, hn m hm i n1, hn m1 b2 i n2]; simp
  · refine hr1 y (cleanL_iff b7 y (refsH_mem (i := i) (x := o) (look_mem ?_) y hy) (hr0 y hx))
    rw [lkp_dropH, if_neg]
    · exact ho
    · rw [inL_append, hn m hm i n1, hn m1 b2 i n2]; simp
  · exact hr1 y (cleanL_iff b8 y (refsT_mem (look_mem hx) y hy) (hr0 y hm))

theorem subOf_of {m : List (Nat × Nat)} {hs : List (Nat × Ob)} (hb : subB m hs = true) (ho : subObs m h hs) : SubOf m hs h := by
  simp only [subB, Bool.and_eq_true] at hb
  obtain ⟨⟨⟨⟨⟨b1, b2⟩, b3⟩, b4⟩, b5⟩, b6⟩ := hb
  refine ⟨inj_of b1, dom_eq b2 b3, fun j i o hj hjo => ?_, fun j o hjo y hy => ?_⟩
  · have key : ∀ (l : List (Nat × Ob)), subObs m h l → ∀ p ∈ l, lkp (by_ m p.1) h = some (p.2.ren (by_ m)) := by
      intro l
      induction l with
      | nil => intro _ p hp; simp at hp
      | cons q r ih =>
        obtain ⟨j, o⟩ := q
        intro hl p hp
        rcases List.mem_cons.1 hp with e | e
        · subst e; exact hl.1
        · exact ih hl.2 p e
    have := key hs ho (j, o) (look_mem hjo)
    simpa [by_, hj] using this
  · rw [look_isSome]; exact inL_iff.2 (subL_iff.1 b6 y (refsH_mem (look_mem hjo) y hy))

theorem obSat_keepsOn {i : Nat} {o : Ob} {ids : List Nat} (hg : Grows w w') (hs : ∀ b, k.S b → w'.heap[b]? = w.heap[b]?) (hS : ∀ b, k.S b → k'.S b) (hb : ∀ i ∈ ids, ∀ l, k.β i = some l → k'.β i = some l) (hi : i ∈ ids) (hr : ∀ y ∈ o.refs, y ∈ ids)
    (hX : ∀ b, k'.X i b ↔ k.X i b) (hw : ∀ b, k.X i b → w'.heap[b]? = w.heap[b]?) (hp : ∀ b, k.β i = some (some b) → k.X i b) (h : obSat k w i o) : obSat k' w' i o := by
  classical
  let k0 : K := { S := k.S, β := fun i => if i ∈ ids then k.β i else none, X := k.X }
  have h0 : obSat k0 w i (o.ren id) := obSat_ren (k := k) (k' := k0) (i := i) (j := i) id (fun _ h => h) (fun y hy => by simp [k0, hr y hy]) (by simp [k0, hi]) (fun _ => Iff.rfl) h
  have hid : o.ren id = o := by
    have key : (∀ x : V, x.ren id = x) ∧ ∀ l : List V, renL id l = l := by
      constructor
      · intro x
        exact V.rec (motive_1 := fun x => x.ren id = x) (motive_2 := fun l => renL id l = l) rfl (fun _ => rfl) (fun _ _ => rfl) (fun _ _ _ _ => rfl) (fun _ _ _ _ => rfl) (fun _ => rfl) (fun _ _ _ _ => rfl)
          (fun f a b ha hb => by simp only [V.ren, ha, hb]) (fun l hl => by simp only [V.ren, hl]) (fun _ => rfl) (fun l hl => by simp only [V.ren, hl]) (fun _ => rfl) (fun _ => rfl) (fun g v hv => by simp only [V.ren, hv]) rfl (fun x xs hx hxs => by simp only [renL, hx, hxs]) x
      · intro l
        exact V.rec_1 (motive_1 := fun x => x.ren id = x) (motive_2 := fun l => renL id l = l) rfl (fun _ => rfl) (fun _ _ => rfl) (fun _ _ _ _ => rfl) (fun _ _ _ _ => rfl) (fun _ => rfl) (fun _ _ _ _ => rfl)
          (fun f a b ha hb => by simp only [V.ren, ha, hb]) (fun l hl => by simp only [V.ren, hl]) (fun _ => rfl) (fun l hl => by simp only [V.ren, hl]) (fun _ => rfl) (fun _ => rfl) (fun g v hv => by simp only [V.ren, hv]) rfl (fun x xs hx hxs => by simp only [renL, hx, hxs]) l
    cases o with
    | cells vs => simp only [Ob.ren, key.2]
    | arr _ _ => rfl
    | opq _ => rfl
  rw [hid] at h0
  refine obSat_mono (k := k0) (k' := k') ⟨hg, hs, hS, fun i' l hi' => ?_⟩ hX hw (fun b hb' => hp b ?_) h0
  · simp only [k0] at hi'
    split at hi'
    · rename_i hm; exact hb i' hm l hi'
    · cases hi'
  · simpa [k0, hi] using hb'

theorem SimH.back (s : SimH k w h) {m m1 : List (Nat × Nat)} {k1 : K} {h1 h2 : List (Nat × Ob)} (H1 : SimH k1 w' h1) (b : Back m m1 h1 h h2) (ex : Ext (k.sub m) w k1 w') : SimH (k.back m m1 k1) w' h2 := by
  classical
  have hsm := back_same s ex
  have cross : ∀ j i b', (∀ j, lkp j m ≠ some i) → k1.X j b' → ¬ k.X i b' := fun j i b' n2 h1 h2 => by
    rcases ex.newX j b' h1 with ⟨j', i', e, q⟩ | q
    · exact n2 j' (by rw [e, s.inj i' i b' q h2])
    · have := s.lt i b' h2; omega
  refine ⟨?_, ?_, ?_, ?_, ?_, ?_, ?_, ?_, s.env.mono hsm.1 ex.sub⟩
  · intro i j b' hx hy
    rcases three m m1 i with ⟨i1, hi⟩ | ⟨n1, n2⟩ | ⟨n1, n2⟩
    · rw [K.back_X b.inj hi] at hx
      rcases three m m1 j with ⟨j1, hj⟩ | ⟨n1, n2⟩ | ⟨n1, n2⟩
      · rw [K.back_X b.inj hj] at hy
        have := H1.inj i1 j1 b' hx hy
        subst this; rw [hi] at hj; cases hj; rfl
      · exact ((K.back_gone (k := k) (k1 := k1) n1 n2).2 b' hy).elim
      · rw [(K.back_rest (k := k) (k1 := k1) n1 n2).2] at hy
        exact (cross i1 j b' n2 hx hy).elim
    · exact ((K.back_gone (k := k) (k1 := k1) n1 n2).2 b' hx).elim
    · rw [(K.back_rest (k := k) (k1 := k1) n1 n2).2] at hx
      rcases three m m1 j with ⟨j1, hj⟩ | ⟨q1, q2⟩ | ⟨q1, q2⟩
      · rw [K.back_X b.inj hj] at hy
        exact (cross j1 i b' n2 hy hx).elim
      · exact ((K.back_gone (k := k) (k1 := k1) q1 q2).2 b' hy).elim
      · rw [(K.back_rest (k := k) (k1 := k1) q1 q2).2] at hy
        exact s.inj i j b' hx hy
  · intro i b' hx
    rcases three m m1 i with ⟨i1, hi⟩ | ⟨n1, n2⟩ | ⟨n1, n2⟩
    · rw [K.back_X b.inj hi] at hx; exact H1.lt i1 b' hx
    · exact ((K.back_gone (k := k) (k1 := k1) n1 n2).2 b' hx).elim
    · rw [(K.back_rest (k := k) (k1 := k1) n1 n2).2] at hx; have := s.lt i b' hx; have := ex.grows.size; omega
  · intro i b' hx hs
    rcases three m m1 i with ⟨i1, hi⟩ | ⟨n1, n2⟩ | ⟨n1, n2⟩
    · rw [K.back_X b.inj hi] at hx; exact H1.dis i1 b' hx hs
    · exact ((K.back_gone (k := k) (k1 := k1) n1 n2).2 b' hx).elim
    · rw [(K.back_rest (k := k) (k1 := k1) n1 n2).2] at hx
      rcases ex.newS b' hs with q | ⟨j, i', e, q⟩ | q
      · exact s.dis i b' hx q
      · exact n2 j (by rw [e, s.inj i' i b' q hx])
      · have := s.lt i b' hx; omega
  · exact H1.slt
  · intro i b' hx
    rcases three m m1 i with ⟨i1, hi⟩ | ⟨n1, n2⟩ | ⟨n1, n2⟩
    · rw [K.back_β b.inj hi] at hx; rw [K.back_X b.inj hi]; exact H1.prim i1 b' hx
    · rw [(K.back_gone (k := k) (k1 := k1) n1 n2).1] at hx; cases hx
    · rw [(K.back_rest (k := k) (k1 := k1) n1 n2).1] at hx; rw [(K.back_rest (k := k) (k1 := k1) n1 n2).2]; exact s.prim i b' hx
  · intro i
    rcases three m m1 i with ⟨i1, hi⟩ | ⟨n1, n2⟩ | ⟨n1, n2⟩
    · rw [K.back_β b.inj hi, H1.dom i1]
      have hd := b.dom i1
      rw [hi] at hd
      obtain ⟨o, ho⟩ := Option.isSome_iff_exists.1 hd
      rw [b.ob i1 i o hi ho, ho]; rfl
    · rw [(K.back_gone (k := k) (k1 := k1) n1 n2).1, b.gone i n2 n1]; rfl
    · rw [(K.back_rest (k := k) (k1 := k1) n1 n2).1, b.rest i n2 n1]; exact s.dom i
  · intro i b' hx
    rcases three m m1 i with ⟨i1, hi⟩ | ⟨n1, n2⟩ | ⟨n1, n2⟩
    · rw [K.back_X b.inj hi] at hx; rw [K.back_β b.inj hi]; exact H1.domX i1 b' hx
    · exact ((K.back_gone (k := k) (k1 := k1) n1 n2).2 b' hx).elim
    · rw [(K.back_rest (k := k) (k1 := k1) n1 n2).2] at hx; rw [(K.back_rest (k := k) (k1 := k1) n1 n2).1]; exact s.domX i b' hx
  · intro i o ho
    rcases three m m1 i with ⟨i1, hi⟩ | ⟨n1, n2⟩ | ⟨n1, n2⟩
    · have hd := b.dom i1
      rw [hi] at hd
      obtain ⟨o1, ho1⟩ := Option.isSome_iff_exists.1 hd
      rw [b.ob i1 i o1 hi ho1] at ho; cases ho
      refine obSat_ren (k := k1) (k' := k.back m m1 k1) (by_ m1) (fun _ h => h) (fun y hy => ?_) (K.back_β b.inj hi) (fun b' => by rw [K.back_X b.inj hi]) (H1.sat i1 o1 ho1)
      obtain ⟨z, hz⟩ := Option.isSome_iff_exists.1 (b.refs i1 o1 ho1 y hy)
      have : by_ m1 y = z := by simp [by_, hz]
      rw [this]; exact K.back_β b.inj hz
    · rw [b.gone i n2 n1] at ho; cases ho
    · rw [b.rest i n2 n1] at ho
      refine obSat_keepsOn (ids := i :: o.refs) ex.grows hsm.1 ex.sub (fun y hy l hl => ?_) (by simp) (fun y hy => by simp [hy]) (fun b' => by rw [(K.back_rest (k := k) (k1 := k1) n1 n2).2]) (fun b' hx => hsm.2 i b' n2 hx) (s.prim i) (s.sat i o ho)
      refine back_keeps s H1 b ex (fun hx => ?_) hl
      rcases List.mem_cons.1 hy with e | e
      · subst e; obtain ⟨j, hj⟩ := hx; exact (n2 j hj).elim
      · exact b.clean i o n2 n1 ho y e hx
end
end Go.AM
end
section
/-! ## 22 -/
namespace Go.AM
open Go
set_option linter.unusedSectionVars false
variable [Env]

def AS.putO (st : AS) (d : Option Nat) (v : V) : AS :=
  match d with
  | some d => st.put d v
  | none => st
def okD (st : AS) (d : Option Nat) : Bool :=
  match d with
  | some d => Nat.blt d st.n
  | none => true

/-- What yield does with others' memory A, handed these values: true and B, or false and C. -/
def YC (P : Program) (A : Opq) (args : List V) (B C : Opq) : Prop :=
  ∀ k w vals b, SimH k w [(ARG, .opq A)] → k.β ARG = some (some b) → VEncs k w args vals.toList →
    ∃ fn tmps assign body, (Instr.yield b vals).run P w = .ok (.round b fn tmps assign body) w ∧
      RoundIn Fence.wide 0 P b fn tmps assign body w fun e w' => ∃ (bo : Bool) (k' : K), e = .returned (.bool bo) ∧ SimH k' w' [(ARG, .opq (if bo then B else C))] ∧ Ext k w k' w'

section
variable {P : Program} {T : List (Nat × TI)} {k k' : K} {w w' : World} {st : AS} {a : Act} {ms : List Nat} {h : List (Nat × Ob)} {S : Nat → Prop} {ro : Option Nat} {Q : Exit → AS → Prop}

theorem SimT.putO {d : Option Nat} {v : V} {x : Value} (h : SimT k w st a) (hd : okD st d = true) (hv : VEnc k w v x) : SimT k w (st.putO d v) (a.put d x) := by
  cases d with
  | none => exact h
  | some d => exact h.put (Nat.le_of_ble_eq_true hd) hv

/-- The caller's state behind a call. -/
theorem Sim.back (s : Sim ro k w st a ms) {m m1 : List (Nat × Nat)} {k1 : K} {h1 : List (Nat × Ob)} (hm : nodupB (domL m) = true) (hb : backB m m1 h1 st = true) (H1 : SimH k1 w' h1) (ex : Ext (k.sub m) w k1 w') {r : V} {v : Value} (hr : subL r.refs (domL m1) = true) (hv : VEnc k1 w' r v) {d : Option Nat} (hd : okD st d = true) :
    Sim ro (k.back m m1 k1) w' ({ st with h := backH m m1 h1 st.h }.putO d (r.ren (by_ m1))) (a.put d v) ms ∧ Ext k w (k.back m m1 k1) w' := by
  obtain ⟨b, bt⟩ := back_of hm hb
  have e2 := back_ext s.H b ex
  have H2 := s.H.back H1 b ex
  have hsm := back_same s.H ex
  have T2 : SimT (k.back m m1 k1) w' { st with h := backH m m1 h1 st.h } a := by
    refine ⟨s.T.size, s.T.arg, fun i x hx => ?_⟩
    obtain ⟨u, hu, he⟩ := s.T.tm i x hx
    exact ⟨u, hu, VEnc.keepsOn (k := k) (k' := k.back m m1 k1) (w := w) (w' := w') (ids := x.refs) ex.grows hsm.1 ex.sub (fun y hy l hl => back_keeps s.H H1 b ex (bt i x hx y hy) hl) x u (fun _ h => h) he⟩
  have hrv : VEnc (k.back m m1 k1) w' (r.ren (by_ m1)) v := VEnc.ren (k := k1) (k' := k.back m m1 k1) (by_ m1) (fun _ h => h) r v (fun j hj => by
    have : (lkp j m1).isSome = true := by rw [look_isSome]; exact inL_iff.2 (subL_iff.1 hr j hj)
    obtain ⟨z, hz⟩ := Option.isSome_iff_exists.1 this
    have e : by_ m1 j = z := by simp [by_, hz]
    rw [e]; exact K.back_β b.inj hz) hv
  refine ⟨⟨?_, T2.putO hd hrv, (s.M.ext e2).put d v⟩, e2⟩
  cases d <;> exact H2

/-- A CALL OF A FUNCTION THAT IS HANDED OBJECTS. -/
theorem AL.callH (m : List (Nat × Nat)) (hs : List (Nat × Ob)) (args' : List V) {ops : Array Oper} {o : Oper} {rest : List Oper} {c : Operand} {args : Array Operand} {ats : Array TypeId} (ho : o.op = .call { callee := .value c, args, argTypes := ats }) (hw : awant ops st o = some true) (hd : okD st o.dst = true)
    {fid : FuncId} {first caps : List V} (hc : st.ev c = .fn fid first caps) {Q0 : V → List (Nat × Ob) → Prop} (hp : PC P fid hs args' Q0) (hargs : first ++ args.toList.map st.ev ++ caps = renL (by_ m) args')
    (hsub : subB m hs = true) (hobs : subObs m st.h hs) (hrefs : subL (refsL args') (domL m) = true)
    (hq : ∀ r h1, Q0 r h1 → ∃ m1, backB m m1 h1 st = true ∧ subL r.refs (domL m1) = true ∧ AL P ops rest ({ st with h := backH m m1 h1 st.h }.putO o.dst (r.ren (by_ m1))) Q) : AL P ops (o :: rest) st Q := by
  intro ro k w a ms s
  unfold wpListIn
  rw [if_pos (awant_sound s.T hw)]
  obtain ⟨vals, h1, h2⟩ := run_call s.T ho hc hp.1
  have hsem : o.semAt (fence ro).round a.eval = execOp a.eval o := by
    cases ro with
    | none => exact Oper.semAt_none a.eval o
    | some l => exact Oper.semAt_some l a.eval o (fun c hc => by rw [ho] at hc; cases hc)
  refine ⟨fun _ _ => trivial, ?_⟩
  rw [hsem, h2]
  have hm : nodupB (domL m) = true := by simp only [subB, Bool.and_eq_true] at hsub; exact hsub.1.1.2
  have H0 := s.H.sub (subOf_of hsub hobs)
  have V0 : VEncs (k.sub m) w args' vals.toList := by
    rw [hargs] at h1
    refine VEncs.unren (k := k) (k' := k.sub m) (by_ m) rfl args' _ (fun j hj => ?_) h1
    have : (lkp j m).isSome = true := by rw [look_isSome]; exact inL_iff.2 (subL_iff.1 hrefs j hj)
    obtain ⟨z, hz⟩ := Option.isSome_iff_exists.1 this
    simp [K.sub, by_, hz]
  refine ⟨fun h => (by simp [fence, Fence.wide] at h), ?_⟩
  refine CallsIn.mono (F := fence ro) (show CallsIn (fence ro) (0 - 1) P fid vals w _ from hp.2 _ w vals H0 V0) ?_
  rintro e w' ⟨v, r, h1', k', rfl, e2, H', ex, hQ⟩
  obtain ⟨m1, hb, hr, hrest⟩ := hq r h1' hQ
  obtain ⟨s2, ex2⟩ := s.back hm hb H' ex hr e2 hd
  exact wpListIn_mono' (hrest ro _ w' _ ms s2) fun _ _ _ hp => Post.step ⟨ex2, fun _ h => .inl h⟩ hp

theorem ofValue_yld {b : Nat} {args : Array Value} : Deferred.ofValue (.func (.yield b) #[] #[]) args = pure { target := .fn (.yield b) #[], args := args } := by
  simp [Deferred.ofValue]

/-- A CALL OF yield. -/
theorem AL.yield {A B C : Opq} {ops : Array Oper} {o : Oper} {rest : List Oper} {c : Operand} {args : Array Operand} {ats : Array TypeId} (ho : o.op = .call { callee := .value c, args, argTypes := ats }) (hw : awant ops st o = some true) (hd : okD st o.dst = true)
    {id : Nat} (hc : st.ev c = .yld id) (hob : lkp id st.h = some (.opq A)) (hy : YC P A (args.toList.map st.ev) B C) (hrefs : refsL (args.toList.map st.ev) = [])
    (hb : ∀ D : Opq, backB [(ARG, id)] [(ARG, id)] [(ARG, .opq D)] st = true)
    (hq : ∀ bo : Bool, AL P ops rest ({ st with h := backH [(ARG, id)] [(ARG, id)] [(ARG, .opq (if bo then B else C))] st.h }.putO o.dst (.d (.val (.bool bo)))) Q) : AL P ops (o :: rest) st Q := by
  intro ro k w a ms s
  unfold wpListIn
  rw [if_pos (awant_sound s.T hw)]
  have hsem : o.semAt (fence ro).round a.eval = execOp a.eval o := by
    cases ro with
    | none => exact Oper.semAt_none a.eval o
    | some l => exact Oper.semAt_some l a.eval o (fun c hc => by rw [ho] at hc; cases hc)
  refine ⟨fun _ _ => trivial, ?_⟩
  have he := AS.ev_enc s.T c
  rw [hc] at he
  obtain ⟨b, hbb, hev⟩ := he
  have hsub : SubOf [(ARG, id)] [(ARG, .opq A)] st.h := subOf_of (h := st.h) (m := [(ARG, id)]) (hs := [(ARG, .opq A)]) (by simp [subB, nodupB, rngL, subL, domL, inL, refsH, Ob.refs]) ⟨by simp [by_, lkp, Ob.ren, hob], trivial⟩
  have H0 := s.H.sub hsub
  have hb0 : (k.sub [(ARG, id)]).β ARG = some (some b) := by simp [K.sub, lkp, hbb]
  have V0 : VEncs (k.sub [(ARG, id)]) w (args.toList.map st.ev) (args.map a.eval).toList := by
    rw [Array.toList_map]
    exact VEncs.agree (k := k) (k' := k.sub [(ARG, id)]) _ _ ⟨rfl, fun i hi => by rw [hrefs] at hi; cases hi⟩ (VEncs_map s.T _)
  obtain ⟨fn, tmps, assign, body, hy1, hy2⟩ := hy _ w _ b H0 hb0 V0
  have hex : (execOp a.eval o).run P w = .ok (.round b fn tmps assign body) w := by
    unfold execOp
    rw [ho]
    simp only [resolve, hev, ofValue_yld, pure_bind, invoke]
    exact hy1
  rw [hsem, hex]
  refine ⟨fun h => (by simp [fence, Fence.wide] at h), ?_⟩
  refine RoundIn.mono (F := fence ro) (show RoundIn (fence ro) (0 - 1) P b fn tmps assign body w _ from hy2) ?_
  rintro e w' ⟨bo, k', rfl, H', ex⟩
  obtain ⟨s2, ex2⟩ := s.back (m := [(ARG, id)]) (m1 := [(ARG, id)]) (r := .d (.val (.bool bo))) (by simp [nodupB, domL, inL]) (hb _) H' ex (by simp [V.refs, subL]) (enc_bool bo) hd
  exact wpListIn_mono' (hq bo ro _ w' _ ms s2) fun _ _ _ hp => Post.step ⟨ex2, fun _ h => .inl h⟩ hp
end
end Go.AM
end
section
/-! ## 23 -/
namespace Go.AM
open Go
set_option linter.unusedSectionVars false
variable [Env]

/-- An iterator: handed yield, it yields ys, one behind the other, until yield says no more. -/
def Iter (P : Program) (f : FuncId) (first caps : List V) (ys : List (List V)) : Prop :=
  ∀ (J : Nat → Opq) (Jx : Opq), (∀ n, n < ys.length → YC P (J n) (ys.getD n []) (J (n + 1)) Jx) →
    PC P f [(ARG, .opq (J 0))] (first ++ [.yld ARG] ++ caps) fun _ h => h = [(ARG, .opq (J ys.length))] ∨ h = [(ARG, .opq Jx)]

def up (i : Nat) : Nat := i + ARG
def down (i : Nat) : Nat := i - ARG
def renT (f : Nat → Nat) : List (Nat × V) → List (Nat × V)
  | [] => []
  | (i, x) :: r => (i, x.ren f) :: renT f r
/-- Temporaries to which a round's values are given. -/
def bindT : List Nat → List V → List (Nat × V) → List (Nat × V)
  | p :: ps, x :: xs, t => bindT ps xs ((p, x) :: t)
  | _, _, t => t
def geL : List Nat → Bool
  | [] => true
  | x :: xs => Nat.ble ARG x && geL xs

theorem lkp_renT (f : Nat → Nat) : ∀ (t : List (Nat × V)) (i : Nat), lkp i (renT f t) = (lkp i t).map (V.ren f)
  | [], _ => rfl
  | (j, x) :: r, i => by
    simp only [renT, lkp]
    split
    · rfl
    · exact lkp_renT f r i
theorem geL_iff : ∀ {l : List Nat}, geL l = true → ∀ x ∈ l, ARG ≤ x
  | x :: xs, h, y, hy => by
    simp only [geL, Bool.and_eq_true] at h
    rcases List.mem_cons.1 hy with e | e
    · subst e; exact Nat.le_of_ble_eq_true h.1
    · exact geL_iff h.2 y e
theorem lkp_renH_inj {f : Nat → Nat} : ∀ {h : List (Nat × Ob)} {i : Nat} (_ : ∀ j ∈ domL h, f j = f i → j = i), lkp (f i) (renH f h) = (lkp i h).map (Ob.ren f)
  | [], _, _ => rfl
  | (j, o) :: r, i, hf => by
    simp only [renH, lkp]
    by_cases e : j = i
    · subst e; rw [if_pos rfl, if_pos rfl]; rfl
    · rw [if_neg e, if_neg (fun e2 => e (hf j (by simp [domL]) e2))]
      exact lkp_renH_inj fun j hj => hf j (by simp [domL, hj])
theorem lkp_renH_out {f : Nat → Nat} : ∀ {h : List (Nat × Ob)} {i : Nat} (_ : ∀ j ∈ domL h, f j ≠ i), lkp i (renH f h) = none
  | [], _, _ => rfl
  | (j, o) :: r, i, hf => by
    simp only [renH, lkp]
    rw [if_neg (hf j (by simp [domL]))]
    exact lkp_renH_out fun j hj => hf j (by simp [domL, hj])

section
variable {P : Program} {k k' : K} {w w' : World} {st : AS} {a : Act} {ms : List Nat} {h : List (Nat × Ob)} {ro : Option Nat} {Q : Exit → AS → Prop}

/-- Objects under numbers that are all shifted. -/
def K.up (k : K) : K := { S := k.S, β := fun i => if ARG ≤ i then k.β (i - ARG) else none, X := fun i b => ARG ≤ i ∧ k.X (i - ARG) b }
def K.dn (k : K) : K := { S := k.S, β := fun i => k.β (i + ARG), X := fun i b => k.X (i + ARG) b }

theorem SimH.up (s : SimH k w h) : SimH k.up w (renH up h) where
  inj i j b h1 h2 := by have := s.inj _ _ b h1.2 h2.2; have := h1.1; have := h2.1; omega
  lt i b h1 := s.lt _ b h1.2
  dis i b h1 := s.dis _ b h1.2
  slt := s.slt
  env := s.env
  prim i b h1 := by
    simp only [K.up] at h1 ⊢
    split at h1
    · rename_i e; exact ⟨e, s.prim _ b h1⟩
    · cases h1
  dom i := by
    simp only [K.up]
    split
    · rename_i e
      rw [s.dom]
      have := lkp_renH_inj (f := AM.up) (h := h) (i := i - ARG) (fun j _ hj => by simp only [AM.up] at hj; omega)
      rw [show AM.up (i - ARG) = i from by simp only [AM.up]; omega] at this
      rw [this]; cases lkp (i - ARG) h <;> rfl
    · rename_i e
      rw [lkp_renH_out (fun j _ => by simp only [AM.up]; omega)]; rfl
  domX i b h1 := by simp only [K.up, if_pos h1.1]; exact s.domX _ b h1.2
  sat i o h1 := by
    by_cases e : ARG ≤ i
    · have := lkp_renH_inj (f := AM.up) (h := h) (i := i - ARG) (fun j _ hj => by simp only [AM.up] at hj; omega)
      rw [show AM.up (i - ARG) = i from by simp only [AM.up]; omega] at this
      rw [this] at h1
      cases hl : lkp (i - ARG) h with
      | none => rw [hl] at h1; cases h1
      | some o' =>
        rw [hl] at h1; cases h1
        exact obSat_ren (k := k) (k' := k.up) AM.up (fun _ h => h) (fun y _ => by simp [K.up, AM.up]) (by simp [K.up, e]) (fun b => by simp [K.up, e]) (s.sat _ o' hl)
    · rw [lkp_renH_out (fun j _ => by simp only [AM.up]; omega)] at h1; cases h1

theorem SimH.dn (s : SimH k w h) (hg : geL (domL h) = true) (hr : geL (refsH h) = true) : SimH k.dn w (renH down h) := by
  have hlk : ∀ i, lkp i (renH down h) = (lkp (i + ARG) h).map (Ob.ren down) := fun i => by
    have := lkp_renH_inj (f := down) (h := h) (i := i + ARG) (fun j hj e => by have := geL_iff hg j hj; simp only [down] at e; omega)
    rwa [show down (i + ARG) = i from by simp [down]] at this
  refine ⟨fun i j b h1 h2 => ?_, fun i b h1 => s.lt _ b h1, fun i b h1 => s.dis _ b h1, s.slt, fun i b h1 => s.prim _ b h1, fun i => ?_, fun i b h1 => s.domX _ b h1, fun i o h1 => ?_, s.env⟩
  · have := s.inj _ _ b h1 h2; omega
  · simp only [K.dn]; rw [s.dom, hlk]; cases lkp (i + ARG) h <;> rfl
  · rw [hlk] at h1
    cases hl : lkp (i + ARG) h with
    | none => rw [hl] at h1; cases h1
    | some o' =>
      rw [hl] at h1; cases h1
      refine obSat_ren (k := k) (k' := k.dn) down (fun _ h => h) (fun y hy => ?_) rfl (fun b => Iff.rfl) (s.sat _ o' hl)
      have := geL_iff hr y (refsH_mem (look_mem hl) y hy)
      simp only [K.dn, down]; rw [Nat.sub_add_cancel this]

theorem V.ren_up_dn {k : K} {x : V} {v : Value} (h : VEnc k w (x.ren up) v) : VEnc k.dn w x v :=
  VEnc.unren (k := k) (k' := k.dn) up rfl x v (fun _ _ => rfl) h

/-- The loop's record. -/
structure Rec where
  fn : FuncId
  tmps : Array Value
  params : Array Tmp
  assign : Code
  body : Code
  defers : Nat
  β0 : Nat → Option (Option Nat)
def Rec.loop (r : Rec) (s : LoopState) (p : Option Code) : Loop := { state := s, pending := p, fn := r.fn, tmps := r.tmps, params := r.params, assign := r.assign, body := r.body, defers := r.defers }

/-- What the caller's memory is between two rounds: the record in state s; the objects H (their numbers shifted); what the temporaries were. -/
structure Btw (r : Rec) (st : AS) (s : LoopState) (p : Option Code) (H : List (Nat × Ob)) (S X : Nat → Prop) (b : Nat) (kc : K) (w : World) : Prop where
  rcd : w.heap[b]? = some (.loop (r.loop s p))
  own : X b
  H : SimH kc w H
  S : ∀ x, kc.S x → S x
  X : ∀ x, (x = b ∨ ∃ i, kc.X i x) → X x
  nb : ∀ i, ¬ kc.X i b
  nS : ¬ kc.S b
  t : ∀ i x, lkp i st.t = some x → ∃ v, r.tmps[i]? = some v ∧ VEnc kc w (x.ren up) v
  old : ∀ i l, ARG + ARG ≤ i → kc.β i = some l → r.β0 i = some l

theorem SimH.stay (s : SimH k w h) (hg : Grows w w') (hs : ∀ b, k.S b → w'.heap[b]? = w.heap[b]?) (hx : ∀ i b, k.X i b → w'.heap[b]? = w.heap[b]?) : SimH k w' h :=
  ⟨s.inj, fun i b hb => Nat.lt_of_lt_of_le (s.lt i b hb) hg.size, s.dis, fun b hb => Nat.lt_of_lt_of_le (s.slt b hb) hg.size, s.prim, s.dom, s.domX,
    fun i o ho => obSat_mono ⟨hg, hs, fun _ h => h, fun _ _ h => h⟩ (fun _ => Iff.rfl) (hx i) (s.prim i) (s.sat i o ho), s.env.mono hs fun _ h => h⟩

/-- More may be only read. -/
def K.wide (k : K) (S : Nat → Prop) : K := { S := S, β := k.β, X := k.X }
theorem SimH.wide (s : SimH k w h) {S : Nat → Prop} (hS : ∀ b, k.S b → S b) (hd : ∀ i b, k.X i b → ¬ S b) (hl : ∀ b, S b → b < w.heap.size) : SimH (k.wide S) w h :=
  ⟨s.inj, s.lt, hd, hl, s.prim, s.dom, s.domX, fun i o ho => obSat_mono (k := k) (k' := k.wide S) ⟨.refl w, fun _ _ => rfl, hS, fun _ _ h => h⟩ (fun _ => Iff.rfl) (fun _ _ => rfl) (s.prim i) (s.sat i o ho), s.env.mono (fun _ _ => rfl) hS⟩

theorem Btw.stable {r : Rec} {s : LoopState} {p : Option Code} {H : List (Nat × Ob)} {S S' X : Nat → Prop} {b : Nat} {kc : K} (h : Btw r st s p H S X b kc w) (hg : Grows w w') (hs : ∀ x, S x ∨ X x → w'.heap[x]? = w.heap[x]?) (hS : ∀ x, S x → S' x) : Btw r st s p H S' X b kc w' := by
  have h1 : ∀ x, kc.S x → w'.heap[x]? = w.heap[x]? := fun x hx => hs x (.inl (h.S x hx))
  exact ⟨(hs b (.inr h.own)).trans h.rcd, h.own, h.H.stay hg h1 fun i x hx => hs x (.inr (h.X x (.inr ⟨i, hx⟩))), fun x hx => hS x (h.S x hx), h.X, h.nb, h.nS,
    fun i x hx => by obtain ⟨v, hv, he⟩ := h.t i x hx; exact ⟨v, hv, VEnc.mono ⟨hg, h1, fun _ h => h, fun _ _ h => h⟩ _ v he⟩, h.old⟩

def idOnB (m : List (Nat × Nat)) : List Nat → Bool
  | [] => true
  | y :: ys => (match lkp y m with | some z => Nat.beq z y | none => false) && idOnB m ys
def bigB : List (Nat × Nat) → Bool
  | [] => true
  | (j, i) :: r => (Nat.blt j (ARG + ARG) || Nat.beq j i) && bigB r
theorem idOnB_iff {m : List (Nat × Nat)} : ∀ {l : List Nat}, idOnB m l = true → ∀ y ∈ l, lkp y m = some y
  | z :: zs, h, y, hy => by
    simp only [idOnB, Bool.and_eq_true] at h
    rcases List.mem_cons.1 hy with e | e
    · subst e
      cases hl : lkp y m with
      | none => simp [hl] at h
      | some u => simp only [hl, Nat.beq_eq] at h; rw [h.1]
    · exact idOnB_iff h.2 y e
theorem bigB_iff : ∀ {m : List (Nat × Nat)}, bigB m = true → ∀ j i, ARG + ARG ≤ j → lkp j m = some i → i = j
  | (j', i') :: r, h, j, i, hj, hl => by
    simp only [bigB, Bool.and_eq_true, Bool.or_eq_true, Nat.blt_eq, Nat.beq_eq] at h
    simp only [lkp] at hl
    split at hl
    · rename_i e; cases hl
      rcases h.1 with q | q
      · omega
      · omega
    · exact bigB_iff h.2 j i hj hl
/-- The objects under other numbers. -/
theorem Btw.ren {r : Rec} {s : LoopState} {p : Option Code} {H : List (Nat × Ob)} {S X : Nat → Prop} {b : Nat} {kc : K} (B : Btw r st s p H S X b kc w) {m : List (Nat × Nat)} {Hz : List (Nat × Ob)} (hsub : subB m Hz = true) (hobs : subObs m H Hz) (hid : idOnB m (refsT (renT up st.t)) = true) (hbig : bigB m = true) : Btw r st s p Hz S X b (kc.sub m) w := by
  refine ⟨B.rcd, B.own, B.H.sub (subOf_of hsub hobs), B.S, fun x hx => B.X x (hx.imp id fun ⟨i, j, _, h⟩ => ⟨j, h⟩), fun i ⟨j, _, h⟩ => B.nb j h, B.nS, fun i x hx => ?_, fun i l hi hl => ?_⟩
  · obtain ⟨v, hv, he⟩ := B.t i x hx
    refine ⟨v, hv, VEnc.agree (k := kc) (k' := kc.sub m) _ _ ⟨rfl, fun y hy => ?_⟩ he⟩
    have := idOnB_iff hid y (refsT_mem (i := i) (x := x.ren up) (look_mem (by rw [lkp_renT, hx]; rfl)) y hy)
    simp [K.sub, this]
  · simp only [K.sub] at hl
    cases e : lkp i m with
    | none => rw [e] at hl; cases hl
    | some j => rw [e] at hl; have := bigB_iff hbig i j hi e; subst this; exact B.old _ l hi hl

def btwQ (r : Rec) (st : AS) (H : List (Nat × Ob)) : Opq where
  sat S X l w := ∃ b kc, l = some b ∧ Btw r st .ready none H S X b kc w
  stable := fun ⟨b, kc, e, h⟩ hg hs hS => ⟨b, kc, e, h.stable hg hs hS⟩

/-- A jump out of a round. -/
def jumpOf : Exit → Option Code
  | .ret => some .ret
  | .exit id => some (.exit id)
  | .goto l => some (.goto l)
  | _ => none

def outQ (P : Program) (r : Rec) (st : AS) (Q : Exit → AS → Prop) : Opq where
  sat S X l w := ∃ b kc c H, l = some b ∧ Btw r st .done (some c) H S X b kc w ∧ geL (domL H) = true ∧ geL (refsH H) = true ∧ AWP P c { st with h := renH down H } Q
  stable := fun ⟨b, kc, c, H, e, h, h'⟩ hg hs hS => ⟨b, kc, c, H, e, h.stable hg hs hS, h'⟩

/-- What a round's body has to come to. -/
def roundQ (P : Program) (st : AS) (H : List (Nat × Ob)) (Q : Exit → AS → Prop) : Exit → AS → Prop
  | .normal, s => ∃ hs, s.closed [] hs = true ∧ subL (refsT (renT up st.t)) hs = true ∧ (s.keep [] hs).h = H
  | e, s => ∃ hs c, s.closed [] hs = true ∧ subL (refsT (renT up st.t)) hs = true ∧ geL (domL (s.keep [] hs).h) = true ∧ geL (refsH (s.keep [] hs).h) = true ∧ jumpOf e = some c ∧ AWP P c { st with h := renH down (s.keep [] hs).h } Q

theorem foldl_params : ∀ (ps : List Nat) (xs : List V) (vs : List Value) (tm : Array Value) (t : List (Nat × V)), VEncs k w xs vs → (∀ p ∈ ps, p < tm.size) → (∀ i x, lkp i t = some x → ∃ v, tm[i]? = some v ∧ VEnc k w x v) →
    ((ps.zip vs).foldl (fun t (p : Nat × Value) => t.setIfInBounds p.1 p.2) tm).size = tm.size ∧ ∀ i x, lkp i (bindT ps xs t) = some x → ∃ v, ((ps.zip vs).foldl (fun t (p : Nat × Value) => t.setIfInBounds p.1 p.2) tm)[i]? = some v ∧ VEnc k w x v
  | [], xs, vs, tm, t, _, _, h => ⟨by simp, by simpa [bindT] using h⟩
  | p :: ps, [], [], tm, t, _, _, h => ⟨by simp, by simpa [bindT] using h⟩
  | p :: ps, x :: xs, v :: vs, tm, t, hv, hp, h => by
    simp only [List.zip_cons_cons, List.foldl_cons, bindT]
    obtain ⟨h1, h2⟩ := foldl_params ps xs vs (tm.setIfInBounds p v) ((p, x) :: t) hv.2 (fun q hq => by simp; exact hp q (by simp [hq])) (fun i y hy => by
      simp only [lkp] at hy
      split at hy
      · rename_i e; subst e; cases hy
        exact ⟨v, by rw [Array.getElem?_setIfInBounds_self_of_lt (hp p (by simp))], hv.1⟩
      · rename_i e
        obtain ⟨u, hu, he⟩ := h i y hy
        exact ⟨u, by rw [Array.getElem?_setIfInBounds_ne e]; exact hu, he⟩)
    exact ⟨h1.trans (by simp), h2⟩
  | _ :: _, [], _ :: _, _, _, h, _, _ => h.elim
  | _ :: _, _ :: _, [], _, _, h, _, _ => h.elim

theorem grows_putObj {b : Nat} {l l' : Loop} (h : w.heap[b]? = some (.loop l)) : Grows w (w.putObj b (.loop l')) :=
  .of ⟨by rw [World.putObj_size]; exact Nat.le_refl _, fun b' cs ty fz hb => ⟨cs, by rw [World.putObj_heap_other (fun e => by subst e; rw [h] at hb; cases hb)]; exact hb, rfl⟩⟩

/-- ONE ROUND. -/
theorem round_YC {T : List (Nat × TI)} {r : Rec} {H H' : List (Nat × Ob)} {ys : List V} (hsz : r.params.toList.length = ys.length) (hps : ∀ p ∈ r.params.toList, p < st.n) (hn : r.tmps.size = st.n) (hA : st.n ≤ ARG) (hys : refsL ys = [])
    (hbody : AWP P r.assign { n := st.n, t := bindT r.params.toList ys (renT up st.t), h := H } (thenQ (fun s => AWP P r.body s (roundQ P st H' Q)) fun _ _ => False)) :
    YC P (btwQ r st H) ys (btwQ r st H') (outQ P r st Q) := by
  intro k w vals b hH hb hV
  obtain ⟨l, hl, b2, kc, rfl, B⟩ := hH.sat ARG (.opq (btwQ r st H)) (by simp [lkp])
  rw [hb] at hl; cases hl
  have hlen := VEncs.length hV
  simp only [Array.length_toList] at hlen
  refine ⟨r.fn, _, r.assign, r.body, run_yield B.rcd (by simp only [Rec.loop]; rw [hlen, ← hsz]; simp), ?_⟩
  -- what is known in the round
  have hXk : ∀ x, (x = b ∨ ∃ i, kc.X i x) → k.X ARG x := B.X
  let kb : K := kc.wide k.S
  have Hb : SimH kb w H := B.H.wide B.S (fun i x hx => hH.dis ARG x (hXk x (.inr ⟨i, hx⟩))) hH.slt
  have hbS : ¬ k.S b := hH.dis ARG b (hXk b (.inl rfl))
  have Vb : VEncs kb w ys vals.toList := VEncs.mono (k := k.bare) (k' := kb) ⟨.refl w, fun _ _ => rfl, fun _ h => h, fun _ _ h => by simp [K.bare] at h⟩ _ _ (VEncs.agree (k := k) (k' := k.bare) _ _ ⟨rfl, fun i hi => by rw [hys] at hi; cases hi⟩ hV)
  have Tb : ∀ i x, lkp i (renT up st.t) = some x → ∃ v, r.tmps[i]? = some v ∧ VEnc kb w x v := fun i x hx => by
    rw [lkp_renT] at hx
    cases hl : lkp i st.t with
    | none => rw [hl] at hx; cases hx
    | some y =>
      rw [hl] at hx; cases hx
      obtain ⟨v, hv, he⟩ := B.t i y hl
      exact ⟨v, hv, VEnc.mono (k := kc) (k' := kb) ⟨.refl w, fun _ _ => rfl, B.S, fun _ _ h => h⟩ _ v he⟩
  obtain ⟨f1, f2⟩ := foldl_params r.params.toList ys vals.toList r.tmps (renT up st.t) Vb (fun p hp => by rw [hn]; exact hps p hp) Tb
  have hfold : ∀ tm : Array Value, ((r.params.zip vals).foldl (fun tmps (x : Nat × Value) => tmps.setIfInBounds x.1 x.2) tm) = (r.params.toList.zip vals.toList).foldl (fun t (p : Nat × Value) => t.setIfInBounds p.1 p.2) tm := fun tm => by
    rw [← Array.foldl_toList, Array.toList_zip]
  have hb2 := hfold r.tmps
  have S0 : Sim (some b) kb w { n := st.n, t := bindT r.params.toList ys (renT up st.t), h := H } { tmps := (r.params.zip vals).foldl (fun tmps (x : Nat × Value) => tmps.setIfInBounds x.1 x.2) r.tmps, defers := [] } [] := by
    refine ⟨Hb, ⟨by simp only [hb2, f1, hn], hA, fun i x hx => by simp only [hb2]; exact f2 i x hx⟩, rfl, by simp, by simp, by simp, by simp, fun l hl => ?_⟩
    cases hl
    exact ⟨⟨_, B.rcd⟩, hbS, fun i hx => B.nb i hx⟩
  refine roundIn_of_wpIn trivial (wpIn_mono (hbody (some b) kb w _ [] S0) ?_)
  rintro e a1 w1 ⟨k1, s1, ms1, S1, E1, q1⟩
  cases e with
  | normal =>
    simp only [thenQ] at q1
    obtain ⟨⟨r1, hr1⟩, hS1, hX1⟩ := S1.M.rd b rfl
    have hrec1 : w1.heap[b]? = some (.loop (r.loop .ready none)) := (E1.ext.frame b (Array.getElem?_eq_some_iff.1 B.rcd).1 B.nb).trans B.rcd
    refine ⟨_, run_beginRound hrec1 rfl, ?_⟩
    have hne : ∀ x, (k1.S x ∨ ∃ i, k1.X i x) → x ≠ b := fun x hx e => by
      subst e; rcases hx with hx | ⟨i, hx⟩
      · exact hS1 hx
      · exact hX1 i hx
    have hg2 := grows_putObj (l' := { r.loop .ready none with state := .busy }) hrec1
    have hsame : ∀ x, (k1.S x ∨ ∃ i, k1.X i x) → (w1.putObj b (.loop { r.loop .ready none with state := .busy })).heap[x]? = w1.heap[x]? := fun x hx => World.putObj_heap_other (hne x hx)
    have S2 : Sim (some b) k1 (w1.putObj b (.loop { r.loop .ready none with state := .busy })) s1 a1 ms1 := by
      refine ⟨S1.H.stay hg2 (fun x hx => hsame x (.inl hx)) (fun i x hx => hsame x (.inr ⟨i, hx⟩)), S1.T.mono ⟨hg2, fun x hx => hsame x (.inl hx), fun _ h => h, fun _ _ h => h⟩, S1.M.eq, S1.M.nodup, fun D hD => ?_, S1.M.noS, S1.M.noX, fun l hl => ?_⟩
      · rw [World.putObj_heap_other (fun e => by subst e; have := S1.M.heap D hD; rw [hrec1] at this; cases this)]; exact S1.M.heap D hD
      · cases hl; exact ⟨⟨_, World.putObj_heap_same (Array.getElem?_eq_some_iff.1 hrec1).1⟩, hS1, hX1⟩
    refine wpIn_mono (q1 (some b) k1 _ a1 ms1 S2) ?_
    rintro e a2 w2 ⟨k2, s2, ms2, S3, E2, q2⟩
    have hbusy : w2.heap[b]? = some (.loop { r.loop .ready none with state := .busy }) :=
      (E2.ext.frame b (by rw [World.putObj_size]; exact (Array.getElem?_eq_some_iff.1 hrec1).1) hX1).trans (World.putObj_heap_same (Array.getElem?_eq_some_iff.1 hrec1).1)
    -- the caller's view of the whole
    have fin : ∀ (jump : Option Code) (D : Opq) (hs : List Nat), s2.closed [] hs = true → subL (refsT (renT up st.t)) hs = true →
        (∀ kf w4, Btw r st (if jump.isNone then .ready else .done) jump (s2.keep [] hs).h kf.S (fun x => x = b ∨ ∃ i, kf.X i x) b kf w4 → D.sat kf.S (fun x => x = b ∨ ∃ i, kf.X i x) (some b) w4) →
        ∃ v w', (Instr.endRound b jump).run P w2 = .ok v w' ∧ ∃ (bo : Bool) (k' : K), Ending.returned v = .returned (.bool bo) ∧ bo = jump.isNone ∧ SimH k' w' [(ARG, .opq D)] ∧ Ext k w k' w' := by
      intro jump D hs hc hsub hD
      obtain ⟨S4, E4⟩ := S3.keep [] hs hc
      refine ⟨_, _, run_endRound jump hbusy, jump.isNone, ?_⟩
      generalize hw4 : w2.putObj b (.loop { ({ r.loop .ready none with state := .busy } : Loop) with state := if jump.isNone then .ready else .done, pending := jump }) = w4
      have hX2 : ∀ i, ¬ k2.X i b := fun i hx => (S3.M.rd b rfl).2.2 i hx
      have hS2' : ¬ k2.S b := (S3.M.rd b rfl).2.1
      have hg4 : Grows w2 w4 := by rw [← hw4]; exact grows_putObj hbusy
      have hsame4 : ∀ x, x ≠ b → w4.heap[x]? = w2.heap[x]? := fun x hx => by rw [← hw4]; exact World.putObj_heap_other hx
      let kf : K := k2.only hs
      have Hf : SimH kf w4 (s2.keep [] hs).h := S4.H.stay hg4 (fun x hx => hsame4 x fun e => hS2' (by rw [← e]; exact hx)) (fun i x hx => hsame4 x fun e => hX2 i (by rw [← e]; exact hx.2))
      let kx : K := { S := kf.S, β := fun i => if i = ARG then some (some b) else none, X := fun i x => i = ARG ∧ (x = b ∨ ∃ j, kf.X j x) }
      have hw1 : (w1.putObj b (.loop { r.loop .ready none with state := .busy })).heap.size = w1.heap.size := World.putObj_size
      have hg1 := E1.ext.grows.size
      have hg3 : w1.heap.size ≤ w2.heap.size := by have := E2.ext.grows.size; rwa [World.putObj_size] at this
      have cX : ∀ i x, k2.X i x → k.X ARG x ∨ w.heap.size ≤ x := fun i x hx => by
        rcases E2.ext.newX i x hx with ⟨j, q⟩ | q
        · rcases E1.ext.newX j x q with ⟨j', q'⟩ | q'
          · exact .inl (hXk x (.inr ⟨j', q'⟩))
          · exact .inr q'
        · exact .inr (by rw [World.putObj_size] at q; omega)
      have hbw : b < w4.heap.size := by have := (Array.getElem?_eq_some_iff.1 hbusy).1; have := hg4.size; omega
      have hkX : kx.X ARG = fun x => x = b ∨ ∃ j, kf.X j x := by
        funext x; exact propext ⟨fun h => h.2, fun h => ⟨rfl, h⟩⟩
      have Bf : Btw r st (if jump.isNone then .ready else .done) jump (s2.keep [] hs).h kf.S (fun x => x = b ∨ ∃ i, kf.X i x) b kf w4 := by
        refine ⟨by rw [← hw4]; exact World.putObj_heap_same (Array.getElem?_eq_some_iff.1 hbusy).1, .inl rfl, Hf, fun _ h => h, fun _ h => h, fun i hx => hX2 i hx.2, hS2', fun i x hx => ?_, fun i l hi hl => B.old i l hi (E1.ext.old i l (by omega) (E2.ext.old i l (by omega) (E4.ext.old i l (by omega) hl)))⟩
        obtain ⟨v, hv, he⟩ := B.t i x hx
        refine ⟨v, hv, ?_⟩
        have hmem : ∀ y ∈ (x.ren up).refs, inL hs y = true := fun y hy => by
          refine inL_iff.2 (subL_iff.1 hsub y (refsT_mem (i := i) (x := x.ren up) (look_mem ?_) y hy))
          rw [lkp_renT, hx]; rfl
        have hge : ∀ y ∈ (x.ren up).refs, ARG ≤ y := by
          have key : (∀ x : V, ∀ y ∈ (x.ren up).refs, ARG ≤ y) ∧ ∀ l : List V, ∀ y ∈ refsL (renL up l), ARG ≤ y := by
            have u : ∀ i, ARG ≤ up i := fun i => by simp only [up]; omega
            constructor
            · intro x
              exact V.rec (motive_1 := fun x => ∀ y ∈ (x.ren up).refs, ARG ≤ y) (motive_2 := fun l => ∀ y ∈ refsL (renL up l), ARG ≤ y) (by simp [V.ren, V.refs]) (by simp [V.ren, V.refs]) (by simp [V.ren, V.refs, u]) (by simp [V.ren, V.refs, u]) (by simp [V.ren, V.refs, u]) (by simp [V.ren, V.refs]) (by simp [V.ren, V.refs])
                (fun f a b ha hb y hy => by simp only [V.ren, V.refs, List.mem_append] at hy; exact hy.elim (ha y) (hb y)) (fun l hl => by simpa [V.ren, V.refs] using hl) (by simp [V.ren, V.refs]) (fun l hl => by simpa [V.ren, V.refs] using hl) (by simp [V.ren, V.refs, u]) (by simp [V.ren, V.refs, u]) (fun g v hv => by simpa [V.ren, V.refs] using hv) (by simp [renL, refsL]) (fun x xs hx hxs y hy => by simp only [renL, refsL, List.mem_append] at hy; exact hy.elim (hx y) (hxs y)) x
            · intro l
              exact V.rec_1 (motive_1 := fun x => ∀ y ∈ (x.ren up).refs, ARG ≤ y) (motive_2 := fun l => ∀ y ∈ refsL (renL up l), ARG ≤ y) (by simp [V.ren, V.refs]) (by simp [V.ren, V.refs]) (by simp [V.ren, V.refs, u]) (by simp [V.ren, V.refs, u]) (by simp [V.ren, V.refs, u]) (by simp [V.ren, V.refs]) (by simp [V.ren, V.refs])
                (fun f a b ha hb y hy => by simp only [V.ren, V.refs, List.mem_append] at hy; exact hy.elim (ha y) (hb y)) (fun l hl => by simpa [V.ren, V.refs] using hl) (by simp [V.ren, V.refs]) (fun l hl => by simpa [V.ren, V.refs] using hl) (by simp [V.ren, V.refs, u]) (by simp [V.ren, V.refs, u]) (fun g v hv => by simpa [V.ren, V.refs] using hv) (by simp [renL, refsL]) (fun x xs hx hxs y hy => by simp only [renL, refsL, List.mem_append] at hy; exact hy.elim (hx y) (hxs y)) l
          exact key.1 x
        have hcs : ∀ x, kc.S x → x < w.heap.size ∧ x ≠ b := fun x hx => ⟨B.H.slt x hx, fun e => B.nS (by rw [← e]; exact hx)⟩
        have hckX : ∀ x, kc.S x → ∀ i, ¬ kb.X i x := fun x hx i h => B.H.dis i x h hx
        refine VEnc.keepsOn (k := kc) (k' := kf) (w := w) (w' := w4) (ids := (x.ren up).refs) (((E1.ext.grows.trans hg2).trans E2.ext.grows).trans hg4) (fun x hx => ?_) (fun x hx => E2.ext.sub x (E1.ext.sub x (B.S x hx))) (fun y hy l hl => ?_) _ v (fun _ h => h) he
        · obtain ⟨q1, q2⟩ := hcs x hx
          rw [hsame4 x q2, E2.ext.frame x (by rw [World.putObj_size]; omega) (fun i hx1 => ?_), World.putObj_heap_other q2, E1.ext.frame x q1 (hckX x hx)]
          rcases E1.ext.newX i x hx1 with ⟨j, q⟩ | q
          · exact hckX x hx j q
          · omega
        · have hd : (kf.β y).isSome = true := by
            rw [S4.H.dom y]
            simp only [AS.keep]; rw [look_keepH, if_pos (hmem y hy), look_isSome]
            refine inL_iff.2 (subL_iff.1 ?_ y (inL_iff.1 (hmem y hy)))
            simp only [AS.closed, Bool.and_eq_true] at hc; exact hc.2
          obtain ⟨l', hl'⟩ := Option.isSome_iff_exists.1 hd
          have := E1.ext.old y l' (hge y hy) (E2.ext.old y l' (hge y hy) (E4.ext.old y l' (hge y hy) hl'))
          have e2 : kb.β y = kc.β y := rfl
          rw [e2, hl] at this
          rw [hl', this]
      refine ⟨kx, rfl, rfl, ⟨?_, ?_, ?_, Hf.slt, ?_, ?_, ?_, ?_, Hf.env⟩, ?_⟩
      · intro i j x h1 h2; rw [h1.1, h2.1]
      · intro i x h1
        rcases h1.2 with e | ⟨j, q⟩
        · rw [e]; exact hbw
        · exact Hf.lt j x q
      · intro i x h1 h2
        rcases h1.2 with e | ⟨j, q⟩
        · rw [e] at h2; exact hS2' h2
        · exact Hf.dis j x q h2
      · intro i x h1
        simp only [kx] at h1 ⊢
        split at h1
        · rename_i e; cases h1; exact ⟨e, .inl rfl⟩
        · cases h1
      · intro i
        simp only [kx, lkp]
        by_cases e : i = ARG
        · rw [if_pos e, if_pos e.symm]; rfl
        · rw [if_neg e, if_neg (fun h => e h.symm)]; rfl
      · intro i x h1; simp [kx, h1.1]
      · intro i o ho
        simp only [lkp] at ho
        split at ho
        · rename_i e; subst e; cases ho
          refine ⟨some b, by simp [kx], ?_⟩
          rw [hkX]; exact hD kf w4 Bf
        · cases ho
      · refine ⟨((E1.ext.grows.trans hg2).trans E2.ext.grows).trans hg4, fun x hx hn => ?_, fun x hx => E2.ext.sub x (E1.ext.sub x hx), fun x hx => ?_, fun i x hx => ?_, fun i l hi hl => ?_⟩
        · have hxb : x ≠ b := fun e => hn ARG (by rw [e]; exact hXk b (.inl rfl))
          have hxk : ∀ i, ¬ kb.X i x := fun i h => hn ARG (hXk x (.inr ⟨i, h⟩))
          rw [hsame4 x hxb, E2.ext.frame x (by rw [World.putObj_size]; omega) (fun i hx1 => ?_), World.putObj_heap_other hxb, E1.ext.frame x hx hxk]
          rcases E1.ext.newX i x hx1 with ⟨j, q⟩ | q
          · exact hxk j q
          · omega
        · rcases E2.ext.newS x hx with q | ⟨i, q⟩ | q
          · rcases E1.ext.newS x q with q | ⟨i, q⟩ | q
            · exact .inl q
            · exact .inr (.inl ⟨ARG, hXk x (.inr ⟨i, q⟩)⟩)
            · exact .inr (.inr q)
          · rcases E1.ext.newX i x q with ⟨j, q⟩ | q
            · exact .inr (.inl ⟨ARG, hXk x (.inr ⟨j, q⟩)⟩)
            · exact .inr (.inr q)
          · exact .inr (.inr (by rw [World.putObj_size] at q; omega))
        · rcases hx.2 with e | ⟨j, q⟩
          · exact .inl ⟨ARG, by rw [e]; exact hXk b (.inl rfl)⟩
          · rcases cX j x q.2 with q | q
            · exact .inl ⟨ARG, q⟩
            · exact .inr q
        · simp only [kx] at hl
          split at hl
          · rename_i e; cases hl; rw [e]; exact hb
          · cases hl
    cases e with
    | normal =>
      obtain ⟨hs, c1, c2, c3⟩ := q2
      obtain ⟨v, w', r1, bo, kx, r2, r3, r4, r5⟩ := fin none (btwQ r st H') hs c1 c2 (fun kf w4 Bf => ⟨b, kf, rfl, by rw [c3] at Bf; exact Bf⟩)
      exact ⟨v, w', r1, bo, kx, r2, by rw [r3]; exact r4, r5⟩
    | ret =>
      obtain ⟨hs, c, c1, c2, c3, c4, c5, c6⟩ := q2
      cases c5
      obtain ⟨v, w', r1, bo, kx, r2, r3, r4, r5⟩ := fin (some .ret) (outQ P r st Q) hs c1 c2 (fun kf w4 Bf => ⟨b, kf, .ret, _, rfl, Bf, c3, c4, c6⟩)
      exact ⟨v, w', r1, bo, kx, r2, by rw [r3]; exact r4, r5⟩
    | exit id =>
      obtain ⟨hs, c, c1, c2, c3, c4, c5, c6⟩ := q2
      cases c5
      obtain ⟨v, w', r1, bo, kx, r2, r3, r4, r5⟩ := fin (some (.exit id)) (outQ P r st Q) hs c1 c2 (fun kf w4 Bf => ⟨b, kf, .exit id, _, rfl, Bf, c3, c4, c6⟩)
      exact ⟨v, w', r1, bo, kx, r2, by rw [r3]; exact r4, r5⟩
    | goto l =>
      obtain ⟨hs, c, c1, c2, c3, c4, c5, c6⟩ := q2
      cases c5
      obtain ⟨v, w', r1, bo, kx, r2, r3, r4, r5⟩ := fin (some (.goto l)) (outQ P r st Q) hs c1 c2 (fun kf w4 Bf => ⟨b, kf, .goto l, _, rfl, Bf, c3, c4, c6⟩)
      exact ⟨v, w', r1, bo, kx, r2, by rw [r3]; exact r4, r5⟩
    | panic ch => obtain ⟨hs, c, c1, c2, c3, c4, c5, c6⟩ := q2; cases c5
    | outgrown => obtain ⟨hs, c, c1, c2, c3, c4, c5, c6⟩ := q2; cases c5
  | exit id => exact q1.elim
  | goto l => exact q1.elim
  | ret => exact q1.elim
  | panic ch => exact q1.elim
  | outgrown => exact q1.elim

/-- What entering the statement lays. -/
theorem enter_facts (s : Sim ro k w st a ms) (fn : FuncId) (ps : Array Tmp) (assign body : Code) : ∃ (l : Nat) (mk : List Nat) (w1 : World) (r : Rec),
    (Instr.enterLoop fn a.tmps ps assign body ro).run P w = .ok (l, mk.map fun D => { target := .collected D, args := #[] }) w1 ∧ r.fn = fn ∧ r.tmps = a.tmps ∧ r.params = ps ∧ r.assign = assign ∧ r.body = body ∧ r.β0 = k.up.β ∧
    w1.heap[l]? = some (.loop (r.loop .ready none)) ∧ w.heap.size ≤ l ∧ Grows w w1 ∧ (∀ b, b < w.heap.size → w1.heap[b]? = w.heap[b]?) ∧ mk.Nodup ∧ ∀ D ∈ mk, w.heap.size ≤ D ∧ D ≠ l ∧ w1.heap[D]? = some (.deferred (some [])) := by
  cases ro with
  | none =>
    refine ⟨w.heap.size + 1, [w.heap.size], _, ⟨fn, a.tmps, ps, assign, body, w.heap.size, k.up.β⟩, run_enterLoop_outer fn a.tmps ps assign body, rfl, rfl, rfl, rfl, rfl, rfl, ?_, by omega, (Grows.alloc w _).trans (Grows.alloc _ _), fun b hb => ?_, by simp, fun D hD => ?_⟩
    · have := heap_new (w.alloc (.deferred (some []))) (.loop { state := .ready, pending := none, fn := fn, tmps := a.tmps, params := ps, assign := assign, body := body, defers := w.heap.size })
      rw [size_alloc] at this; exact this
    · rw [heap_alloc _ _ b (by rw [size_alloc]; omega), heap_alloc w _ b hb]
    · simp only [List.mem_singleton] at hD; subst hD
      refine ⟨Nat.le_refl _, by omega, ?_⟩
      rw [heap_alloc _ _ _ (by rw [size_alloc]; omega)]; exact heap_new w _
  | some l0 =>
    obtain ⟨⟨r0, h0⟩, _, _⟩ := s.M.rd l0 rfl
    refine ⟨w.heap.size, [], _, ⟨fn, a.tmps, ps, assign, body, r0.defers, k.up.β⟩, run_enterLoop_inner h0 fn a.tmps ps assign body, rfl, rfl, rfl, rfl, rfl, rfl, heap_new w _, Nat.le_refl _, Grows.alloc w _, fun b hb => heap_alloc w _ b hb, by simp, by simp⟩

/-- The same memory, and a fact besides. -/
def Opq.andP (A : Opq) (p : Prop) : Opq where
  sat S X l w := p ∧ A.sat S X l w
  stable := fun ⟨h1, h2⟩ hg hs hS => ⟨h1, A.stable h2 hg hs hS⟩
def Never : Opq where
  sat _ _ _ _ := False
  stable := fun h => h.elim
/-- What a round's body has to come to, if a fact is to hold where it goes on. -/
def roundI (P : Program) (st : AS) (q : Prop) (H : List (Nat × Ob)) (Q : Exit → AS → Prop) : Exit → AS → Prop
  | .normal, s => q ∧ roundQ P st H Q .normal s
  | e, s => roundQ P st H Q e s

theorem SimH.reob {A A' : Opq} (s : SimH k w [(ARG, .opq A)]) (h : ∀ l, A.sat k.S (k.X ARG) l w → A'.sat k.S (k.X ARG) l w) : SimH k w [(ARG, .opq A')] := by
  refine ⟨s.inj, s.lt, s.dis, s.slt, s.prim, (fun i => by rw [show (lkp i [(ARG, Ob.opq A')]).isSome = (lkp i [(ARG, Ob.opq A)]).isSome by simp only [lkp]; split <;> rfl]; exact s.dom i), s.domX, fun i o h1 => ?_, s.env⟩
  simp only [lkp] at h1
  split at h1
  · rename_i e; subst e; cases h1
    obtain ⟨l, h2, h3⟩ := s.sat ARG (.opq A) (by simp [lkp])
    exact ⟨l, h2, h l h3⟩
  · cases h1

theorem YC.andP {A B N C : Opq} {p q : Prop} {ys : List V} (hN : ∀ {S X l w}, ¬ N.sat S X l w) (h1 : p → q → YC P A ys B C) (h2 : p → ¬ q → YC P A ys N C) : YC P (A.andP p) ys (B.andP q) C := by
  intro k w vals b hH hb hV
  obtain ⟨l, _, hp, _⟩ := hH.sat ARG (.opq (A.andP p)) (by simp [lkp])
  have hH' : SimH k w [(ARG, .opq A)] := hH.reob fun l h => h.2
  by_cases hq : q
  · obtain ⟨fn, tmps, assign, body, e1, e2⟩ := h1 hp hq k w vals b hH' hb hV
    refine ⟨fn, tmps, assign, body, e1, RoundIn.mono e2 ?_⟩
    rintro e w' ⟨bo, k', rfl, H', ex⟩
    refine ⟨bo, k', rfl, ?_, ex⟩
    cases bo with
    | true => exact SimH.reob (A := B) H' fun l h => ⟨hq, h⟩
    | false => exact H'
  · obtain ⟨fn, tmps, assign, body, e1, e2⟩ := h2 hp hq k w vals b hH' hb hV
    refine ⟨fn, tmps, assign, body, e1, RoundIn.mono e2 ?_⟩
    rintro e w' ⟨bo, k', rfl, H', ex⟩
    refine ⟨bo, k', rfl, ?_, ex⟩
    cases bo with
    | true => exact SimH.reob (A := N) H' fun l h => (hN h).elim
    | false => exact H'

theorem btwQ_never {r : Rec} : ∀ {S X : Nat → Prop} {l : Option Nat} {w : World}, ¬ (btwQ r st [(ARG, .opq Never)]).sat S X l w := by
  rintro S X l w ⟨b, kc, rfl, B⟩
  obtain ⟨_, _, h⟩ := B.H.sat ARG (.opq Never) (by simp [lkp])
  exact h

/-- **A RANGE OVER A FUNCTION.** I n: what holds besides when n rounds are over. -/
theorem AWP.rangeFuncI {g : Operand} {ps : Array Tmp} {assign body : Code} {f : FuncId} {first caps : List V} {ys : List (List V)} (hg : st.ev g = .fn f first caps) (hr : refsL (first ++ caps) = []) (hit : Iter P f first caps ys)
    (I : Nat → Prop) (hI0 : I 0) (H : Nat → List (Nat × Ob)) (h0 : H 0 = renH up st.h) (hsz : ∀ n, n < ys.length → ps.toList.length = (ys.getD n []).length) (hps : ltL ps.toList st.n = true) (hys : ∀ n, n < ys.length → refsL (ys.getD n []) = [])
    (Hz : List (Nat × Ob)) (hHz : ∀ {r : Rec} {S X : Nat → Prop} {b : Nat} {kc : K} {w : World}, Btw r st .ready none (H ys.length) S X b kc w → ∃ kc', Btw r st .ready none Hz S X b kc' w)
    (hge : geL (domL Hz) = true) (hgr : geL (refsH Hz) = true)
    (hbody : ∀ n, n < ys.length → I n → AWP P assign { n := st.n, t := bindT ps.toList (ys.getD n []) (renT up st.t), h := H n } (thenQ (fun s => AWP P body s (roundI P st (I (n + 1)) (H (n + 1)) Q)) fun _ _ => False))
    (hdone : I ys.length → Q .normal { st with h := renH down Hz }) : AWP P (.rangeFunc g ps assign body) st Q := by
  intro ro k w a ms s
  refine wpIn_rangeFunc (F := fence ro) fun fn _ => ?_
  obtain ⟨l, mk, w1, r, he, rfl, r2, r3, r4, r5, r6, hrec, hlw, hg1, hold, hnd, hmk⟩ := enter_facts (P := P) s fn ps assign body
  have hgv := AS.ev_enc s.T g
  rw [hg] at hgv
  obtain ⟨fs, cs, hev, v1, v2⟩ := hgv
  -- the callee's knowledge
  let ks : K := { S := k.S, β := fun i => if i = ARG then some (some l) else none, X := fun i x => i = ARG ∧ (x = l ∨ ∃ j, k.X j x) }
  have hl1 : l < w1.heap.size := (Array.getElem?_eq_some_iff.1 hrec).1
  have Hst : SimH k w1 st.h := s.H.stay hg1 (fun b hb => hold b (s.H.slt b hb)) (fun i b hb => hold b (s.H.lt i b hb))
  have hksX : ks.X ARG = fun x => x = l ∨ ∃ j, k.up.X j x := by
    funext x
    refine propext ⟨fun h => h.2.imp id fun ⟨j, q⟩ => ⟨up j, by simp [K.up, up, q]⟩, fun h => ⟨rfl, h.imp id fun ⟨j, q⟩ => ⟨_, q.2⟩⟩⟩
  have B0 : Btw r st .ready none (H 0) ks.S (ks.X ARG) l k.up w1 := by
    rw [hksX, h0]
    refine ⟨hrec, .inl rfl, Hst.up, fun _ h => h, fun _ h => h, fun i hx => ?_, fun hs => ?_, fun i x hx => ?_, fun i l' _ h => by rw [r6]; exact h⟩
    · have := s.H.lt _ l hx.2; omega
    · have := s.H.slt l hs; omega
    · obtain ⟨v, hv, he⟩ := s.T.tm i x hx
      refine ⟨v, by rw [r2]; exact hv, ?_⟩
      have he1 : VEnc k w1 x v := VEnc.mono ⟨hg1, fun b hb => hold b (s.H.slt b hb), fun _ h => h, fun _ _ h => h⟩ x v he
      exact VEnc.ren (k := k) (k' := k.up) up (fun _ h => h) x v (fun y _ => by simp [K.up, up]) he1
  have Hks : SimH ks w1 [(ARG, .opq ((btwQ r st (H 0)).andP (I 0)))] := by
    refine ⟨fun i j x h1 h2 => by rw [h1.1, h2.1], fun i x h1 => ?_, fun i x h1 h2 => ?_, fun b hb => by have := s.H.slt b hb; have := hg1.size; omega, fun i x h1 => ?_, fun i => ?_, fun i x h1 => by simp [ks, h1.1], fun i o ho => ?_, s.H.env.mono (fun b hb => hold b (s.H.slt b hb)) fun _ h => h⟩
    · rcases h1.2 with e | ⟨j, q⟩
      · rw [e]; exact hl1
      · have := s.H.lt j x q; have := hg1.size; omega
    · rcases h1.2 with e | ⟨j, q⟩
      · rw [e] at h2; have := s.H.slt l h2; omega
      · exact s.H.dis j x q h2
    · simp only [ks] at h1 ⊢
      split at h1
      · rename_i e; cases h1; exact ⟨e, .inl rfl⟩
      · cases h1
    · simp only [ks, lkp]
      by_cases e : i = ARG
      · rw [if_pos e, if_pos e.symm]; rfl
      · rw [if_neg e, if_neg (fun h => e h.symm)]; rfl
    · simp only [lkp] at ho
      split at ho
      · rename_i e; subst e; cases ho
        exact ⟨some l, by simp [ks], hI0, l, k.up, rfl, B0⟩
      · cases ho
  have hbare : ∀ (x : List V) (vs : List Value), refsL x = [] → VEncs k w x vs → VEncs ks w1 x vs := fun x vs hx h =>
    VEncs.mono (k := k.bare) (k' := ks) ⟨hg1, fun b hb => hold b (s.H.slt b hb), fun _ h => h, fun _ _ h => by simp [K.bare] at h⟩ _ _ (VEncs.agree (k := k) (k' := k.bare) _ _ ⟨rfl, fun i hi => by rw [hx] at hi; cases hi⟩ h)
  have hrf : ∀ (x y : List V), refsL (x ++ y) = refsL x ++ refsL y := by
    intro x; induction x with
    | nil => intro y; rfl
    | cons z zs ih => intro y; simp only [List.cons_append, refsL, ih, List.append_assoc]
  rw [hrf, List.append_eq_nil_iff] at hr
  have Vks : VEncs ks w1 (first ++ [.yld ARG] ++ caps) (fs ++ #[Value.func (.yield l) #[] #[]] ++ cs).toList := by
    rw [Array.toList_append, Array.toList_append]
    exact ((hbare first _ hr.1 v1).append (show VEncs ks w1 [.yld ARG] [Value.func (.yield l) #[] #[]] from ⟨⟨l, by simp [ks], rfl⟩, trivial⟩)).append (hbare caps _ hr.2 v2)
  have hPC := hit (fun n => (btwQ r st (H n)).andP (I n)) (outQ P r st Q) fun n hn => YC.andP (N := btwQ r st [(ARG, .opq Never)]) btwQ_never
    (fun hp hq => round_YC (T := []) (by rw [r3]; exact hsz n hn) (by rw [r3]; exact ltL_iff hps) (by rw [r2]; exact s.T.size) s.T.arg (hys n hn) (by
      rw [r3, r4, r5]
      refine AWP.mono (hbody n hn hp) fun e s hx => ?_
      cases e with
      | normal => exact AWP.mono hx fun e s hy => by cases e <;> first | exact hy.2 | exact hy
      | _ => exact hx))
    (fun hp hq => round_YC (T := []) (by rw [r3]; exact hsz n hn) (by rw [r3]; exact ltL_iff hps) (by rw [r2]; exact s.T.size) s.T.arg (hys n hn) (by
      rw [r3, r4, r5]
      refine AWP.mono (hbody n hn hp) fun e s hx => ?_
      cases e with
      | normal => exact AWP.mono hx fun e s hy => by cases e <;> first | exact (hq hy.1).elim | exact hy
      | _ => exact hx))
  refine ⟨l, _, w1, { target := .fn (.func f) cs, args := fs ++ #[Value.func (.yield l) #[] #[]] }, w1, f, fs ++ #[Value.func (.yield l) #[] #[]] ++ cs, w1, he, ?_, fun _ _ => trivial, ?_, fun h => (by simp [fence, Fence.wide] at h), ?_⟩
  · simp only [resolve, hev]
    simp [ofValue_fn, Act.eval]
  · simp only [invoke]; exact hPC.1 _ w1
  refine CallsIn.mono (F := fence ro) (show CallsIn (fence ro) (0 - 1) P f _ w1 _ from hPC.2 ks w1 _ Hks Vks) ?_
  rintro e w3 ⟨v, rv, h', k', rfl, _, H', ex, hq⟩
  have old3 : ∀ x, x < w.heap.size → (∀ i, ¬ k.X i x) → w3.heap[x]? = w.heap[x]? := fun x hx hn => by
    rw [ex.frame x (by have := hg1.size; omega) (fun i h => ?_), hold x hx]
    rcases h.2 with e | ⟨j, q⟩
    · omega
    · exact hn j q
  -- the state behind the statement
  have fin : ∀ (st1 : LoopState) (jump : Option Code) (Hf : List (Nat × Ob)) (b : Nat) (kc : K), k'.β ARG = some (some b) → Btw r st st1 jump Hf k'.S (k'.X ARG) b kc w3 → st1 ≠ .busy → geL (domL Hf) = true → geL (refsH Hf) = true →
      ∃ w4, (Instr.endLoop l).run P w3 = .ok jump w4 ∧ ∃ kf, Sim ro kf w4 { st with h := renH down Hf } { a with defers := (mk.map fun D => { target := .collected D, args := #[] }) ++ a.defers } (mk ++ ms) ∧ Step1 k w ms kf w4 (mk ++ ms) := by
    intro st1 jump Hf b kc hb B hnb hg2 hr2
    have hbl : b = l := by
      have := ex.old ARG (some b) (Nat.le_refl _) hb
      simp only [ks, if_true] at this
      cases this; rfl
    subst hbl
    refine ⟨_, run_endLoop B.rcd (by simpa [Rec.loop] using hnb), ?_⟩
    generalize hw4 : w3.putObj b (.loop { r.loop st1 jump with state := .exhausted }) = w4
    have hg4 : Grows w3 w4 := by rw [← hw4]; exact grows_putObj B.rcd
    have h4 : ∀ x, x ≠ b → w4.heap[x]? = w3.heap[x]? := fun x hx => by rw [← hw4]; exact World.putObj_heap_other hx
    have hbX : k'.X ARG b := B.own
    have hbS : ¬ k'.S b := H'.dis ARG b hbX
    let kw : K := kc.wide k'.S
    have Hw : SimH kw w3 Hf := B.H.wide B.S (fun i x hx => H'.dis ARG x (B.X x (.inr ⟨i, hx⟩))) H'.slt
    have Hw4 : SimH kw w4 Hf := Hw.stay hg4 (fun x hx => h4 x fun e => hbS (by rw [← e]; exact hx)) (fun i x hx => h4 x fun e => B.nb i (by rw [← e]; exact hx))
    have Hd := Hw4.dn hg2 hr2
    have cX : ∀ i x, kw.dn.X i x → (∃ j, k.X j x) ∨ w.heap.size ≤ x := fun i x hx => by
      rcases ex.newX ARG x (B.X x (.inr ⟨_, hx⟩)) with ⟨j, q⟩ | q
      · rcases q.2 with e | q
        · exact .inr (by omega)
        · exact .inl q
      · exact .inr (by have := hg1.size; omega)
    have cS : ∀ x, k'.S x → k.S x ∨ (∃ j, k.X j x) ∨ w.heap.size ≤ x := fun x hx => by
      rcases ex.newS x hx with q | ⟨j, q⟩ | q
      · exact .inl q
      · rcases q.2 with e | q
        · exact .inr (.inr (by omega))
        · exact .inr (.inl q)
      · exact .inr (.inr (by have := hg1.size; omega))
    have mkD : ∀ D ∈ mk, w4.heap[D]? = some (.deferred (some [])) ∧ ¬ k'.S D ∧ ∀ i, ¬ kw.dn.X i D := fun D hD => by
      obtain ⟨q1, q2, q3⟩ := hmk D hD
      have hlt := (Array.getElem?_eq_some_iff.1 q3).1
      have nX : ∀ i, ¬ ks.X i D := fun i h => by
        rcases h.2 with e | ⟨j, q⟩
        · exact q2 e
        · have := s.H.lt j D q; omega
      refine ⟨by rw [h4 D q2, ex.frame D hlt nX]; exact q3, fun hs => ?_, fun i hx => ?_⟩
      · rcases ex.newS D hs with q | ⟨j, q⟩ | q
        · have := s.H.slt D q; omega
        · exact nX j q
        · omega
      · rcases ex.newX ARG D (B.X D (.inr ⟨_, hx⟩)) with ⟨j, q⟩ | q
        · exact nX j q
        · omega
    have msD : ∀ D ∈ ms, w4.heap[D]? = some (.deferred (some [])) ∧ ¬ k'.S D ∧ ∀ i, ¬ kw.dn.X i D := fun D hD => by
      have hlt := s.M.lt hD
      refine ⟨by rw [h4 D (by omega), old3 D hlt (s.M.noX D hD)]; exact s.M.heap D hD, fun hs => ?_, fun i hx => ?_⟩
      · rcases cS D hs with q | ⟨j, q⟩ | q
        · exact s.M.noS D hD q
        · exact s.M.noX D hD j q
        · omega
      · rcases cX i D hx with ⟨j, q⟩ | q
        · exact s.M.noX D hD j q
        · omega
    have both : ∀ D ∈ mk ++ ms, w4.heap[D]? = some (.deferred (some [])) ∧ ¬ k'.S D ∧ ∀ i, ¬ kw.dn.X i D := fun D hD => (List.mem_append.1 hD).elim (mkD D) (msD D)
    refine ⟨kw.dn, ⟨Hd, ⟨s.T.size, s.T.arg, fun i x hx => ?_⟩, ⟨by simp only [List.map_append]; rw [s.M.eq], ?_, fun D hD => (both D hD).1, fun D hD => (both D hD).2.1, fun D hD => (both D hD).2.2, fun l0 hl0 => ?_⟩⟩, ⟨⟨?_, ?_, ?_, cS, cX, ?_⟩, fun D hD => ?_⟩⟩
    · obtain ⟨v, hv, he⟩ := B.t i x hx
      refine ⟨v, by rw [← r2]; exact hv, ?_⟩
      have e1 : VEnc kw w4 (x.ren up) v := VEnc.mono (k := kc) (k' := kw) ⟨hg4, fun x hx => h4 x fun e => B.nS (by rw [← e]; exact hx), B.S, fun _ _ h => h⟩ _ v he
      exact V.ren_up_dn e1
    · refine List.nodup_append.2 ⟨hnd, s.M.nodup, fun D hD D' hD' e => ?_⟩
      subst e
      have := (hmk D hD).1; have := s.M.lt hD'; omega
    · obtain ⟨⟨r0, q1⟩, q2, q3⟩ := s.M.rd l0 hl0
      have hlt := (Array.getElem?_eq_some_iff.1 q1).1
      refine ⟨⟨r0, by rw [h4 l0 (by omega), old3 l0 hlt q3]; exact q1⟩, fun hs => ?_, fun i hx => ?_⟩
      · rcases cS l0 hs with q | ⟨j, q⟩ | q
        · exact q2 q
        · exact q3 j q
        · omega
      · rcases cX i l0 hx with ⟨j, q⟩ | q
        · exact q3 j q
        · omega
    · exact (hg1.trans ex.grows).trans hg4
    · intro x hx hn
      rw [h4 x (by omega), old3 x hx hn]
    · intro x hx; exact ex.sub x hx
    · intro i l' hi hl
      have := B.old (i + ARG) l' (by omega) hl
      rw [r6] at this
      simp only [K.up] at this
      rw [if_pos (by omega), Nat.add_sub_cancel] at this
      exact this
    · rcases List.mem_append.1 hD with h | h
      · exact .inr (hmk D h).1
      · exact .inl h
  rcases hq with rfl | rfl
  · obtain ⟨l', hl', hIe, b, kc, rfl, B⟩ := H'.sat ARG (.opq ((btwQ r st (H ys.length)).andP (I ys.length))) (by simp [lkp])
    obtain ⟨kz, Bz⟩ := hHz B
    obtain ⟨w4, e1, kf, S4, E4⟩ := fin .ready none _ b kz hl' Bz (by simp) hge hgr
    exact ⟨none, w4, e1, kf, _, _, S4, E4, hdone hIe⟩
  · obtain ⟨l', hl', b, kc, c, Hf, rfl, B, g1, g2, g3⟩ := H'.sat ARG (.opq (outQ P r st Q)) (by simp [lkp])
    obtain ⟨w4, e1, kf, S4, E4⟩ := fin .done (some c) _ b kc hl' B (by simp) g1 g2
    exact ⟨some c, w4, e1, wpIn_mono (g3 ro kf w4 _ _ S4) fun _ _ _ hp => Post.step E4 hp⟩

/-- An iterator that has captured a variable of its own. -/
def Iter1 (P : Program) (f : FuncId) (vs0 : List V) (ys : List (List V)) : Prop :=
  ∀ (J : Nat → Opq) (Jx : Opq), (∀ n, n < ys.length → YC P (J n) (ys.getD n []) (J (n + 1)) Jx) →
    PC P f [(ARG, .opq (J 0)), (ARG + 1, .cells vs0)] [.yld ARG, .ptr (ARG + 1) 0] fun _ h => ∃ o, h = [(ARG, .opq (J ys.length)), (ARG + 1, o)] ∨ h = [(ARG, .opq Jx), (ARG + 1, o)]

/-- A RANGE OVER A FUNCTION THAT HAS CAPTURED A VARIABLE, which is given away with it. -/
theorem AWP.rangeFunc1 {g : Operand} {ps : Array Tmp} {assign body : Code} {f : FuncId} {id : Nat} {vs0 : List V} {ys : List (List V)} (ts hs : List Nat) (hc : st.closed ts hs = true) (hg : st.ev g = .fn f [] [.ptr id 0]) (hid : lkp id st.h = some (.cells vs0)) (hidn : inL hs id = false) (hvr : refsL vs0 = []) (hit : Iter1 P f vs0 ys)
    (I : Nat → Prop) (hI0 : I 0) (H : Nat → List (Nat × Ob)) (h0 : H 0 = renH up (st.keep ts hs).h) (hsz : ∀ n, n < ys.length → ps.toList.length = (ys.getD n []).length) (hps : ltL ps.toList st.n = true) (hys : ∀ n, n < ys.length → refsL (ys.getD n []) = [])
    (hge : geL (domL (H ys.length)) = true) (hgr : geL (refsH (H ys.length)) = true)
    (hbody : ∀ n, n < ys.length → I n → AWP P assign { n := st.n, t := bindT ps.toList (ys.getD n []) (renT up (st.keep ts hs).t), h := H n } (thenQ (fun s => AWP P body s (roundI P (st.keep ts hs) (I (n + 1)) (H (n + 1)) Q)) fun _ _ => False))
    (hdone : I ys.length → Q .normal { st.keep ts hs with h := renH down (H ys.length) }) : AWP P (.rangeFunc g ps assign body) st Q := by
  intro ro k w a ms s0
  refine wpIn_rangeFunc (F := fence ro) fun fn _ => ?_
  have s := (s0.keep ts hs hc).1
  have hn : (st.keep ts hs).n = st.n := rfl
  generalize hst : st.keep ts hs = stK at *
  simp only [← hn] at hps hbody
  generalize hkK : k.only hs = kK at *
  have kX : ∀ i x, kK.X i x → k.X i x := fun i x h => by rw [← hkK] at h; exact h.2
  have kS : kK.S = k.S := by rw [← hkK]; rfl
  have kβ : ∀ i l, kK.β i = some l → k.β i = some l := fun i l h => by
    rw [← hkK] at h
    simp only [K.only] at h
    split at h
    · exact h
    · cases h
  have kid : ∀ i x, kK.X i x → ¬ k.X id x := fun i x h h2 => by
    have e := s0.H.inj i id x (kX i x h) h2
    subst e
    rw [← hkK] at h
    have := h.1
    rw [hidn] at this; cases this
  obtain ⟨l, mk, w1, r, he, rfl, r2, r3, r4, r5, r6, hrec, hlw, hg1, hold, hnd, hmk⟩ := enter_facts (P := P) s fn ps assign body
  have hgv := AS.ev_enc s0.T g
  rw [hg] at hgv
  obtain ⟨fs, cs, hev, v1, v2⟩ := hgv
  obtain ⟨fs⟩ := fs
  obtain ⟨cs⟩ := cs
  match fs, v1 with
  | [], _ =>
  match cs, v2 with
  | [cv], ⟨⟨bI, hβI, hcv⟩, _⟩ =>
  subst hcv
  have hXI : k.X id bI := s0.H.prim id bI hβI
  -- the callee's knowledge
  let ks : K := { S := kK.S, β := fun i => if i = ARG then some (some l) else if i = ARG + 1 then some (some bI) else none, X := fun i x => (i = ARG ∧ (x = l ∨ ∃ j, kK.X j x)) ∨ (i = ARG + 1 ∧ k.X id x) }
  have A1 : ARG ≠ ARG + 1 := by unfold ARG; omega
  have ksI : ks.β (ARG + 1) = some (some bI) := by
    show (if ARG + 1 = ARG then some (some l) else if ARG + 1 = ARG + 1 then some (some bI) else none) = _
    rw [if_neg (fun e => A1 e.symm), if_pos rfl]
  have hl1 : l < w1.heap.size := (Array.getElem?_eq_some_iff.1 hrec).1
  have Hst : SimH kK w1 stK.h := s.H.stay hg1 (fun b hb => hold b (s.H.slt b hb)) (fun i b hb => hold b (s.H.lt i b hb))
  have hksX : ks.X ARG = fun x => x = l ∨ ∃ j, kK.up.X j x := by
    funext x
    refine propext ⟨fun h => ?_, fun h => .inl ⟨rfl, h.imp (fun e => e) fun ⟨j, q⟩ => ⟨_, q.2⟩⟩⟩
    rcases h with h | h
    · exact h.2.imp (fun e => e) fun ⟨j, q⟩ => ⟨up j, by simp [K.up, up, q]⟩
    · exact absurd h.1 A1
  have B0 : Btw r stK .ready none (H 0) ks.S (ks.X ARG) l kK.up w1 := by
    rw [hksX, h0]
    refine ⟨hrec, .inl rfl, Hst.up, fun _ h => h, fun _ h => h, fun i hx => ?_, fun hs => ?_, fun i x hx => ?_, fun i l' _ h => by rw [r6]; exact h⟩
    · have := s.H.lt _ l hx.2; omega
    · have := s.H.slt l hs; omega
    · obtain ⟨v, hv, he⟩ := s.T.tm i x hx
      refine ⟨v, by rw [r2]; exact hv, ?_⟩
      have he1 : VEnc kK w1 x v := VEnc.mono ⟨hg1, fun b hb => hold b (s.H.slt b hb), fun _ h => h, fun _ _ h => h⟩ x v he
      exact VEnc.ren (k := kK) (k' := kK.up) up (fun _ h => h) x v (fun y _ => by simp [K.up, up]) he1
  have lX : ∀ i, ¬ k.X i l := fun i h => by have := s0.H.lt i l h; omega
  have Hks : SimH ks w1 [(ARG, .opq ((btwQ r stK (H 0)).andP (I 0))), (ARG + 1, .cells vs0)] := by
    refine ⟨fun i j x h1 h2 => ?_, fun i x h1 => ?_, fun i x h1 h2 => ?_, fun b hb => by have := s.H.slt b hb; have := hg1.size; omega, fun i x h1 => ?_, fun i => ?_, fun i x h1 => ?_, fun i o ho => ?_, s.H.env.mono (fun b hb => hold b (s.H.slt b hb)) fun _ h => h⟩
    · rcases h1 with h1 | h1 <;> rcases h2 with h2 | h2
      · rw [h1.1, h2.1]
      · rcases h1.2 with e | ⟨j', q⟩
        · rw [e] at h2; exact absurd h2.2 (lX id)
        · exact absurd h2.2 (kid j' x q)
      · rcases h2.2 with e | ⟨j', q⟩
        · rw [e] at h1; exact absurd h1.2 (lX id)
        · exact absurd h1.2 (kid j' x q)
      · rw [h1.1, h2.1]
    · rcases h1 with h1 | h1
      · rcases h1.2 with e | ⟨j, q⟩
        · rw [e]; exact hl1
        · have := s.H.lt j x q; have := hg1.size; omega
      · have := s0.H.lt id x h1.2; have := hg1.size; omega
    · rcases h1 with h1 | h1
      · rcases h1.2 with e | ⟨j, q⟩
        · rw [e] at h2; have := s.H.slt l h2; omega
        · exact s.H.dis j x q h2
      · exact s0.H.dis id x h1.2 (by rw [← kS]; exact h2)
    · simp only [ks] at h1 ⊢
      split at h1
      · rename_i e; cases h1; exact .inl ⟨e, .inl rfl⟩
      · split at h1
        · rename_i e; cases h1; exact .inr ⟨e, hXI⟩
        · cases h1
    · simp only [ks, lkp]
      by_cases e : i = ARG
      · rw [if_pos e, if_pos e.symm]; rfl
      · by_cases e2 : i = ARG + 1
        · rw [if_neg e, if_pos e2, if_neg (fun h => e h.symm), if_pos e2.symm]; rfl
        · rw [if_neg e, if_neg e2, if_neg (fun h => e h.symm), if_neg (fun h => e2 h.symm)]; rfl
    · rcases h1 with h1 | h1
      · simp [ks, h1.1]
      · rw [h1.1, ksI]; rfl
    · simp only [lkp] at ho
      split at ho
      · rename_i e; subst e; cases ho
        exact ⟨some l, by simp [ks], hI0, l, kK.up, rfl, B0⟩
      · split at ho
        · rename_i e; subst e; cases ho
          obtain ⟨b', cs', ty, q1, q2, q3, q4, q5⟩ := s0.H.sat id _ hid
          rw [hβI] at q1; cases q1
          refine ⟨bI, cs', ty, ksI, by rw [hold bI (s0.H.lt id bI hXI)]; exact q2, ?_, q4, fun b' hb' => ?_⟩
          · refine VEncs.mono (k := k.bare) (k' := ks) ⟨hg1, fun b hb => hold b (s0.H.slt b hb), fun _ h => (by show kK.S _; rw [kS]; exact h), fun _ _ h => by simp [K.bare] at h⟩ _ _ (VEncs.agree (k := k) (k' := k.bare) _ _ ⟨rfl, fun i hi => by rw [hvr] at hi; cases hi⟩ q3)
          · rcases hb' with h | h
            · exact absurd h.1.symm A1
            · exact q5 b' h.2
        · cases ho
  have Vks : VEncs ks w1 [.yld ARG, .ptr (ARG + 1) 0] (#[] ++ #[Value.func (.yield l) #[] #[]] ++ #[Value.pointer (some ⟨bI, 0, none⟩)]).toList :=
    ⟨⟨l, by simp [ks], rfl⟩, ⟨bI, ksI, rfl⟩, trivial⟩
  have hPC := hit (fun n => (btwQ r stK (H n)).andP (I n)) (outQ P r stK Q) fun n hn => YC.andP (N := btwQ r stK [(ARG, .opq Never)]) btwQ_never
    (fun hp hq => round_YC (T := []) (by rw [r3]; exact hsz n hn) (by rw [r3]; exact ltL_iff hps) (by rw [r2]; exact s.T.size) s.T.arg (hys n hn) (by
      rw [r3, r4, r5]
      refine AWP.mono (hbody n hn hp) fun e s hx => ?_
      cases e with
      | normal => exact AWP.mono hx fun e s hy => by cases e <;> first | exact hy.2 | exact hy
      | _ => exact hx))
    (fun hp hq => round_YC (T := []) (by rw [r3]; exact hsz n hn) (by rw [r3]; exact ltL_iff hps) (by rw [r2]; exact s.T.size) s.T.arg (hys n hn) (by
      rw [r3, r4, r5]
      refine AWP.mono (hbody n hn hp) fun e s hx => ?_
      cases e with
      | normal => exact AWP.mono hx fun e s hy => by cases e <;> first | exact (hq hy.1).elim | exact hy
      | _ => exact hx))
  refine ⟨l, _, w1, { target := .fn (.func f) #[Value.pointer (some ⟨bI, 0, none⟩)], args := #[] ++ #[Value.func (.yield l) #[] #[]] }, w1, f, #[] ++ #[Value.func (.yield l) #[] #[]] ++ #[Value.pointer (some ⟨bI, 0, none⟩)], w1, he, ?_, fun _ _ => trivial, ?_, fun h => (by simp [fence, Fence.wide] at h), ?_⟩
  · simp only [resolve, hev]
    simp [ofValue_fn, Act.eval]
  · simp only [invoke]; exact hPC.1 _ w1
  refine CallsIn.mono (F := fence ro) (show CallsIn (fence ro) (0 - 1) P f _ w1 _ from hPC.2 ks w1 _ Hks Vks) ?_
  rintro e w3 ⟨v, rv, h', k', rfl, _, H', ex, hq⟩
  have kXs : ∀ i x, ks.X i x → x = l ∨ ∃ j, k.X j x := fun i x h => by
    rcases h with h | h
    · exact h.2.imp (fun e => e) fun ⟨j, q⟩ => ⟨j, kX j x q⟩
    · exact .inr ⟨id, h.2⟩
  have old3 : ∀ x, x < w.heap.size → (∀ i, ¬ k.X i x) → w3.heap[x]? = w.heap[x]? := fun x hx hn => by
    rw [ex.frame x (by have := hg1.size; omega) (fun i h => ?_), hold x hx]
    rcases kXs i x h with e | ⟨j, q⟩
    · omega
    · exact hn j q
  -- the state behind the statement
  have fin : ∀ (st1 : LoopState) (jump : Option Code) (Hf : List (Nat × Ob)) (b : Nat) (kc : K), k'.β ARG = some (some b) → Btw r stK st1 jump Hf k'.S (k'.X ARG) b kc w3 → st1 ≠ .busy → geL (domL Hf) = true → geL (refsH Hf) = true →
      ∃ w4, (Instr.endLoop l).run P w3 = .ok jump w4 ∧ ∃ kf, Sim ro kf w4 { stK with h := renH down Hf } { a with defers := (mk.map fun D => { target := .collected D, args := #[] }) ++ a.defers } (mk ++ ms) ∧ Step1 k w ms kf w4 (mk ++ ms) := by
    intro st1 jump Hf b kc hb B hnb hg2 hr2
    have hbl : b = l := by
      have := ex.old ARG (some b) (Nat.le_refl _) hb
      simp only [ks, if_true] at this
      cases this; rfl
    subst hbl
    refine ⟨_, run_endLoop B.rcd (by simpa [Rec.loop] using hnb), ?_⟩
    generalize hw4 : w3.putObj b (.loop { r.loop st1 jump with state := .exhausted }) = w4
    have hg4 : Grows w3 w4 := by rw [← hw4]; exact grows_putObj B.rcd
    have h4 : ∀ x, x ≠ b → w4.heap[x]? = w3.heap[x]? := fun x hx => by rw [← hw4]; exact World.putObj_heap_other hx
    have hbX : k'.X ARG b := B.own
    have hbS : ¬ k'.S b := H'.dis ARG b hbX
    let kw : K := kc.wide k'.S
    have Hw : SimH kw w3 Hf := B.H.wide B.S (fun i x hx => H'.dis ARG x (B.X x (.inr ⟨i, hx⟩))) H'.slt
    have Hw4 : SimH kw w4 Hf := Hw.stay hg4 (fun x hx => h4 x fun e => hbS (by rw [← e]; exact hx)) (fun i x hx => h4 x fun e => B.nb i (by rw [← e]; exact hx))
    have Hd := Hw4.dn hg2 hr2
    have cX : ∀ i x, kw.dn.X i x → (∃ j, k.X j x) ∨ w.heap.size ≤ x := fun i x hx => by
      rcases ex.newX ARG x (B.X x (.inr ⟨_, hx⟩)) with ⟨j, q⟩ | q
      · rcases kXs j x q with e | q
        · exact .inr (by omega)
        · exact .inl q
      · exact .inr (by have := hg1.size; omega)
    have cS : ∀ x, k'.S x → k.S x ∨ (∃ j, k.X j x) ∨ w.heap.size ≤ x := fun x hx => by
      rcases ex.newS x hx with q | ⟨j, q⟩ | q
      · exact .inl (kS ▸ q)
      · rcases kXs j x q with e | q
        · exact .inr (.inr (by omega))
        · exact .inr (.inl q)
      · exact .inr (.inr (by have := hg1.size; omega))
    have mkD : ∀ D ∈ mk, w4.heap[D]? = some (.deferred (some [])) ∧ ¬ k'.S D ∧ ∀ i, ¬ kw.dn.X i D := fun D hD => by
      obtain ⟨q1, q2, q3⟩ := hmk D hD
      have hlt := (Array.getElem?_eq_some_iff.1 q3).1
      have nX : ∀ i, ¬ ks.X i D := fun i h => by
        rcases kXs i D h with e | ⟨j, q⟩
        · exact q2 e
        · have := s0.H.lt j D q; omega
      refine ⟨by rw [h4 D q2, ex.frame D hlt nX]; exact q3, fun hs => ?_, fun i hx => ?_⟩
      · rcases ex.newS D hs with q | ⟨j, q⟩ | q
        · have := s.H.slt D q; omega
        · exact nX j q
        · omega
      · rcases ex.newX ARG D (B.X D (.inr ⟨_, hx⟩)) with ⟨j, q⟩ | q
        · exact nX j q
        · omega
    have msD : ∀ D ∈ ms, w4.heap[D]? = some (.deferred (some [])) ∧ ¬ k'.S D ∧ ∀ i, ¬ kw.dn.X i D := fun D hD => by
      have hlt := s0.M.lt hD
      refine ⟨by rw [h4 D (by omega), old3 D hlt (s0.M.noX D hD)]; exact s0.M.heap D hD, fun hs => ?_, fun i hx => ?_⟩
      · rcases cS D hs with q | ⟨j, q⟩ | q
        · exact s0.M.noS D hD q
        · exact s0.M.noX D hD j q
        · omega
      · rcases cX i D hx with ⟨j, q⟩ | q
        · exact s0.M.noX D hD j q
        · omega
    have both : ∀ D ∈ mk ++ ms, w4.heap[D]? = some (.deferred (some [])) ∧ ¬ k'.S D ∧ ∀ i, ¬ kw.dn.X i D := fun D hD => (List.mem_append.1 hD).elim (mkD D) (msD D)
    refine ⟨kw.dn, ⟨Hd, ⟨s.T.size, s.T.arg, fun i x hx => ?_⟩, ⟨by simp only [List.map_append]; rw [s0.M.eq], ?_, fun D hD => (both D hD).1, fun D hD => (both D hD).2.1, fun D hD => (both D hD).2.2, fun l0 hl0 => ?_⟩⟩, ⟨⟨?_, ?_, ?_, cS, cX, ?_⟩, fun D hD => ?_⟩⟩
    · obtain ⟨v, hv, he⟩ := B.t i x hx
      refine ⟨v, by rw [← r2]; exact hv, ?_⟩
      have e1 : VEnc kw w4 (x.ren up) v := VEnc.mono (k := kc) (k' := kw) ⟨hg4, fun x hx => h4 x fun e => B.nS (by rw [← e]; exact hx), B.S, fun _ _ h => h⟩ _ v he
      exact V.ren_up_dn e1
    · refine List.nodup_append.2 ⟨hnd, s0.M.nodup, fun D hD D' hD' e => ?_⟩
      subst e
      have := (hmk D hD).1; have := s0.M.lt hD'; omega
    · obtain ⟨⟨r0, q1⟩, q2, q3⟩ := s0.M.rd l0 hl0
      have hlt := (Array.getElem?_eq_some_iff.1 q1).1
      refine ⟨⟨r0, by rw [h4 l0 (by omega), old3 l0 hlt q3]; exact q1⟩, fun hs => ?_, fun i hx => ?_⟩
      · rcases cS l0 hs with q | ⟨j, q⟩ | q
        · exact q2 q
        · exact q3 j q
        · omega
      · rcases cX i l0 hx with ⟨j, q⟩ | q
        · exact q3 j q
        · omega
    · exact (hg1.trans ex.grows).trans hg4
    · intro x hx hn
      rw [h4 x (by omega), old3 x hx hn]
    · intro x hx; exact ex.sub x (by show kK.S x; rw [kS]; exact hx)
    · intro i l' hi hl
      have := B.old (i + ARG) l' (by omega) hl
      rw [r6] at this
      simp only [K.up] at this
      rw [if_pos (by omega), Nat.add_sub_cancel] at this
      exact kβ _ _ this
    · rcases List.mem_append.1 hD with h | h
      · exact .inr (hmk D h).1
      · exact .inl h
  obtain ⟨o, rfl | rfl⟩ := hq
  · obtain ⟨l', hl', hIe, b, kc, rfl, B⟩ := H'.sat ARG (.opq ((btwQ r stK (H ys.length)).andP (I ys.length))) (by simp [lkp])
    obtain ⟨w4, e1, kf, S4, E4⟩ := fin .ready none _ b kc hl' B (by simp) hge hgr
    exact ⟨none, w4, e1, kf, _, _, S4, E4, hdone hIe⟩
  · obtain ⟨l', hl', b, kc, c, Hf, rfl, B, g1, g2, g3⟩ := H'.sat ARG (.opq (outQ P r stK Q)) (by simp [lkp])
    obtain ⟨w4, e1, kf, S4, E4⟩ := fin .done (some c) _ b kc hl' B (by simp) g1 g2
    exact ⟨some c, w4, e1, wpIn_mono (g3 ro kf w4 _ _ S4) fun _ _ _ hp => Post.step E4 hp⟩
end
end Go.AM
end
section
/-! ## 24 -/
namespace Go.AM
open Go
set_option linter.unusedSectionVars false
variable [Env]

section
variable {P : Program} {T : List (Nat × TI)} {ops : Array Oper} {F : Fence} {R : Act → World → Prop} {ro : Option Nat} {q : Bool}

/-- From a step of a drawn region to a later one: if q, what stands stays. -/
def Stay (q : Bool) (w w' : World) : Prop := q = true → Still w w' ∧ w.heap.size ≤ w'.heap.size

theorem Stay.refl (q : Bool) (w : World) : Stay q w w := fun _ => ⟨Still.refl w, Nat.le_refl _⟩
theorem Stay.trans {w w' w'' : World} (h : Stay q w w') (h' : Stay q w' w'') : Stay q w w'' := fun e =>
  ⟨fun b hb => ((h' e).1 b (Nat.lt_of_lt_of_le hb (h e).2)).trans ((h e).1 b hb), Nat.le_trans (h e).2 (h' e).2⟩

def never : Exit → Act → World → Prop := fun _ _ _ => False

/-- Whatever order is picked from here on. -/
def AnyQ (q : Bool) (F : Fence) (P : Program) (ops : Array Oper) (R : Act → World → Prop) : Nat → Array Bool → Act → World → Prop
  | 0, listed, a, w => Region.ready .any ops listed = [] ∧ R a w
  | fuel + 1, listed, a, w => (Region.ready .any ops listed = [] → R a w) ∧
      ∀ i ∈ Region.ready .any ops listed, wpOpIn F 0 P ops never i (fun a' w' => Stay q w w' ∧ AnyQ q F P ops R fuel (listed.setIfInBounds i true) a' w') a w

theorem wpOpIn_weak {i : Nat} {K K' : Act → World → Prop} {Q : Exit → Act → World → Prop} {a : Act} {w : World} (h : ∀ a w, K a w → K' a w) (hh : wpOpIn F 0 P ops never i K a w) : wpOpIn F 0 P ops Q i K' a w := by
  unfold wpOpIn at *
  split
  · rename_i e; rw [e] at hh; exact h _ _ hh
  · rename_i o e
    rw [e] at hh
    simp only at hh
    split
    · rename_i hw
      rw [if_pos hw] at hh
      unfold Oper.wpIn at *
      refine ⟨hh.1, ?_⟩
      have h2 := hh.2
      generalize (o.semAt F.round a.eval).run P w = r at h2 ⊢
      cases r with
      | ok x w' =>
        cases x <;> simp only [Oper.uponIn] at h2 ⊢ <;>
          first
            | exact h _ _ h2
            | exact ⟨h2.1, CallsIn.mono h2.2 (fun e w'' he => by
                cases e with
                | returned v => exact h _ _ he
                | panicked c => exact he.elim
                | outgrown => obtain ⟨a0, w0, h0⟩ := he; exact h0.elim)⟩
            | exact ⟨h2.1, RowsIn.mono h2.2 (fun _ _ he => h _ _ he)⟩
            | exact ⟨h2.1, RoundIn.mono h2.2 (fun e w'' he => by
                cases e with
                | returned v => exact h _ _ he
                | panicked c => exact he.elim
                | outgrown => obtain ⟨a0, w0, h0⟩ := he; exact h0.elim)⟩
            | exact h2.elim
      | halt x w' => cases x <;> simp only [Oper.uponIn, never] at h2
    · rename_i hw
      rw [if_neg hw] at hh
      exact ⟨hh.1, h _ _ hh.2⟩

theorem AnyQ.sound {Q : Exit → Act → World → Prop} (hQ : ∀ a w, R a w → Q .normal a w) : ∀ (fuel : Nat) (listed : Array Bool) (a : Act) (w : World), AnyQ q F P ops R fuel listed a w → wpAnyIn F 0 P .any ops Q fuel listed a w
  | 0, _, _, _, h => ⟨h.1, hQ _ _ h.2⟩
  | fuel + 1, _, _, _, h => ⟨fun e => hQ _ _ (h.1 e), fun i hi => wpOpIn_weak (fun a' w' h' => AnyQ.sound hQ fuel _ a' w' h'.2) (h.2 i hi)⟩

/-- No operation waits for a channel, none is put off. -/
def plain (ops : Array Oper) : Bool := ops.all fun o => match o.op with
  | .select _ _ => false
  | .defer _ => false
  | _ => true

theorem plain_spec (h : plain ops = true) {i : Nat} {o : Oper} (hi : ops[i]? = some o) : (∀ cs b, o.op ≠ .select cs b) ∧ ∀ c, o.op ≠ .defer c := by
  have := Array.all_eq_true_iff_forall_mem.1 h o (Array.mem_of_getElem? hi)
  refine ⟨fun cs b e => ?_, fun c e => ?_⟩ <;> rw [e] at this <;> cases this

theorem semAt_plain {o : Oper} (h : ∀ c, o.op ≠ .defer c) (ρ : Operand → Value) : o.semAt (fence ro).round ρ = execOp ρ o := by
  cases ro with
  | none => exact Oper.semAt_none ρ o
  | some l => exact Oper.semAt_some l ρ o h

/-- An operation yields u, here and in later worlds. -/
def YieldsQ (q : Bool) (P : Program) (ops : Array Oper) (w : World) (o : Oper) (u : Value) (a : Act) : Prop :=
  (Region.wanted o (yielded ops a.tmps) = true ∧ ∀ w', Stay q w w' → (execOp a.eval o).run P w' = .ok (.value u) w') ∨ (Region.wanted o (yielded ops a.tmps) = false ∧ u = undef)

theorem YieldsQ.same {w w' : World} {o : Oper} {u : Value} {a a' : Act} (hs : Stay q w w') (he : execOp a'.eval o = execOp a.eval o) (hw : Region.wanted o (yielded ops a'.tmps) = Region.wanted o (yielded ops a.tmps)) (h : YieldsQ q P ops w o u a) : YieldsQ q P ops w' o u a' := by
  rcases h with ⟨h1, h2⟩ | ⟨h1, h2⟩
  · exact .inl ⟨by rw [hw]; exact h1, fun w'' hs' => by rw [he]; exact h2 w'' (hs.trans hs')⟩
  · exact .inr ⟨by rw [hw]; exact h1, h2⟩

theorem YieldsQ.op {i : Nat} {o : Oper} {u : Value} {a : Act} {w : World} (hi : ops[i]? = some o) (hp : plain ops = true) (hy : YieldsQ q P ops w o u a) {K : Act → World → Prop} (h : K (a.put o.dst u) w) : wpOpIn (fence ro) 0 P ops never i K a w := by
  unfold wpOpIn
  simp only [hi]
  have hab : ∀ f, o.about P w a.eval = some f → (fence ro).fn f := fun _ _ => trivial
  rcases hy with ⟨hw, hv⟩ | ⟨hw, rfl⟩
  · simp only [hw, if_true, Oper.wpIn, semAt_plain (plain_spec hp hi).2, hv w (Stay.refl q w), Oper.uponIn]
    exact ⟨hab, h⟩
  · simp only [hw, Bool.false_eq_true, if_false]
    exact ⟨hab, h⟩

/-- Another operation comes ahead of one that is apart from it. -/
theorem wpOpIn_putQ {i j : Nat} {oi oj : Oper} {u : Value} (hp : plain ops = true) (hi : ops[i]? = some oi) (hj : ops[j]? = some oj) (hap : oi.apart ops oj = true) {K : Act → World → Prop} {a : Act} {w : World} (h : wpOpIn (fence ro) 0 P ops never j K (a.put oi.dst u) w) :
    wpOpIn (fence ro) 0 P ops never j (fun a' w' => (execOp a'.eval oi = execOp a.eval oi ∧ Region.wanted oi (yielded ops a'.tmps) = Region.wanted oi (yielded ops a.tmps)) ∧ K (a'.put oi.dst u) w') a w := by
  obtain ⟨h1, h2, h3⟩ := Oper.apart_spec hap
  obtain ⟨hsi, hdi⟩ := plain_spec hp hi
  obtain ⟨hsj, hdj⟩ := plain_spec hp hj
  have keep : ∀ v, execOp (a.put oj.dst v).eval oi = execOp a.eval oi ∧ Region.wanted oi (yielded ops (a.put oj.dst v).tmps) = Region.wanted oi (yielded ops a.tmps) := fun v => ⟨execOp_put oi hsi a oj.dst v h3, wanted_put oi a oj.dst v h3⟩
  unfold wpOpIn at *
  simp only [hj] at *
  rw [wanted_put oj a oi.dst u h1] at h
  split
  · rename_i hw
    rw [if_pos hw] at h
    unfold Oper.wpIn at *
    refine ⟨fun _ _ => trivial, ?_⟩
    have h := h.2
    rw [semAt_plain hdj, execOp_put oj hsj a oi.dst u h1] at h
    rw [semAt_plain hdj]
    generalize (execOp a.eval oj).run P w = r at h ⊢
    cases r with
    | ok x w' =>
      cases x <;> simp only [Oper.uponIn] at h ⊢
      case value v => exact ⟨keep v, by rw [← Act.put_comm a u v h2]; exact h⟩
      case skip => exact ⟨keep _, by rw [← Act.put_comm a u undef h2]; exact h⟩
      case defer d =>
        refine ⟨⟨execOp_put oi hsi { a with defers := d :: a.defers } oj.dst undef h3, wanted_put oi { a with defers := d :: a.defers } oj.dst undef h3⟩, ?_⟩
        rw [← Act.put_comm _ u undef h2, ← Act.put_defers]
        exact h
      case enter f args =>
        refine ⟨h.1, CallsIn.mono h.2 fun e w'' he => ?_⟩
        cases e with
        | returned v => exact ⟨keep v, by rw [← Act.put_comm a u v h2]; exact he⟩
        | panicked c => exact he.elim
        | outgrown => exact he
      case row row args => exact ⟨h.1, RowsIn.mono h.2 fun v w'' he => ⟨keep v, by rw [← Act.put_comm a u v h2]; exact he⟩⟩
      case round l f tmps assign body =>
        refine ⟨h.1, RoundIn.mono h.2 fun e w'' he => ?_⟩
        cases e with
        | returned v => exact ⟨keep v, by rw [← Act.put_comm a u v h2]; exact he⟩
        | panicked c => exact he.elim
        | outgrown => exact he
    | halt x w' => cases x <;> simp only [Oper.uponIn, never] at h
  · rename_i hw
    rw [if_neg hw] at h
    exact ⟨fun _ _ => trivial, keep _, by rw [← Act.put_comm a u undef h2]; exact h.2⟩

/-- ONE MAY BE TAKEN FIRST. -/
theorem AnyQ.first {i : Nat} {oi : Oper} {u : Value} (hp : plain ops = true) (hi : ops[i]? = some oi) :
    ∀ (fuel : Nat) (listed : Array Bool) (a : Act) (w : World),
      (∀ j oj, ops[j]? = some oj → j ≠ i → listed.getD j true = false → (∀ e ∈ oj.after, Region.binds .any e = true → e.on ≠ i) → oi.apart ops oj = true) →
      i ∈ Region.ready .any ops listed → YieldsQ q P ops w oi u a →
      AnyQ q (fence ro) P ops R fuel (listed.setIfInBounds i true) (a.put oi.dst u) w → AnyQ q (fence ro) P ops R (fuel + 1) listed a w := by
  intro fuel
  induction fuel with
  | zero =>
    intro listed a w _ hr hy H
    refine ⟨fun h => (by rw [h] at hr; cases hr), fun j hj => ?_⟩
    by_cases hji : j = i
    · subst hji; exact hy.op hi hp ⟨Stay.refl q w, H⟩
    · have := ready_mono hj hji
      rw [H.1] at this
      cases this
  | succ fuel ih =>
    intro listed a w hfree hr hy H
    refine ⟨fun h => (by rw [h] at hr; cases hr), fun j hj => ?_⟩
    by_cases hji : j = i
    · subst hji; exact hy.op hi hp ⟨Stay.refl q w, H⟩
    · have h1 := H.2 j (ready_mono hj hji)
      obtain ⟨hjun, oj, hoj, hall⟩ := mem_ready.1 hj
      have hnot : ∀ e ∈ oj.after, Region.binds .any e = true → e.on ≠ i := fun e he hb heq => by
        have h1 := hall e he hb
        have h0 := (mem_ready.1 hr).1
        rw [heq] at h1
        rcases Nat.lt_or_ge i listed.size with h' | h'
        · simp [h'] at h0 h1; rw [h0] at h1; cases h1
        · simp [Array.getElem?_eq_none h'] at h1
      have h2 := wpOpIn_putQ hp hi hoj (hfree j oj hoj hji hjun hnot) h1
      have hfree' : ∀ k ok, ops[k]? = some ok → k ≠ i → (listed.setIfInBounds j true).getD k true = false →
          (∀ e ∈ ok.after, Region.binds .any e = true → e.on ≠ i) → oi.apart ops ok = true := fun k ok hk hki hun hno => by
        refine hfree k ok hk hki ?_ hno
        by_cases hjk : j = k
        · subst hjk; exact hjun
        · rw [getD_set_ne true hjk] at hun; exact hun
      refine wpOpIn_weak (fun a' w' h3 => ⟨h3.2.1, ih (listed.setIfInBounds j true) a' w' hfree' (ready_mono hr (Ne.symm hji)) (hy.same h3.2.1 h3.1.1 h3.1.2) ?_⟩) h2
      rw [Array.setIfInBounds_comm _ _ hji]
      exact h3.2.2
end
end Go.AM
end
