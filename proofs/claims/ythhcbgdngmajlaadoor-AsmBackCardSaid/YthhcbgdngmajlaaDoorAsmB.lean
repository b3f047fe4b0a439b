/- strings.Builder, as an object of the machine. No statement of the seat stands here. -/
import Derived.Test.YthhcbgdngmajlaaDoorAsmS
import Derived.Test.YthhcbgdngmajlaaDoorAmC
import Derived.Shelf.Strings.BuilderCap
set_option linter.unusedSimpArgs false
set_option linter.unusedVariables false
set_option maxRecDepth 100000
namespace Go.Proofs.YthhcbgdngmajlaaDoor
open Go Go.Proofs Go.RowKit Go.AM Go.Lib
set_option linter.unusedSectionVars false
variable [Env]

/-- Append of a text to a row of the builder's: what is kept, and where the row is. -/
theorem append_str {P : Program} (w : World) (t u ty e : TypeId) (i : TypeInfo) (ht : P.underlying t = some (.slice e)) (hu : P.underlying u = some .string) (hi : P.info? e = some i) (hz : i.zero = some (.int .u8 0))
    (hsize : i.size = 1) (hby : i.bytes = 1)
    (v : Value) (n : Nat) (xs : List Value) (hown : w.ownsRowF 0 e 1 v n xs) (s : ByteArray)
    (h63 : n + s.size ≤ maxLen) (hbytes : n + s.size ≤ 140737488355328) :
    ∃ v' w', (Builtin.append_ #[t, u] ty #[v, .string s]).run P w = .ok v' w' ∧ w'.ownsRowF 0 e 1 v' (n + s.size) (xs ++ strCells s) ∧ w.grownBy w' v.ownBlock ∧ Grows w w' ∧ ∀ g, v'.ownBlock = some g → v.ownBlock = some g ∨ w.heap.size ≤ g := by
  have ofNone : ∀ w' : World, w.grownBy w' none → Grows w w' := fun w' h => .of ⟨h.size, fun b cs ty fz hb => ⟨cs, by rw [h.block b (Array.getElem?_eq_some_iff.1 hb).1 (by simp)]; exact hb, rfl⟩⟩ h.os h.output
  rcases hown.2 with ⟨rfl, rfl⟩ | ⟨g, cap, cur, fz, rfl, hbg, hg, hfz, hnc, hcm, hcs, htake⟩
  · obtain ⟨v', w', h1, h2, h3, h4⟩ := run_append_own_string (P := P) w w.heap.size t u ty e i ht hu hi hz hsize hby (.slice none 0 0) 0 xs ⟨hown.1, .inl ⟨rfl, rfl⟩⟩ s h63 hbytes (Nat.le_refl _)
    have h2' := World.ownsRowF_of h2
    refine ⟨v', w', h1, ⟨h2'.1, ?_⟩, h3, ofNone w' h3, fun g hg => .inr (h2.lt g hg).1⟩
    rcases h2'.2 with h | ⟨g, cap, cur, fz, q1, q2, q3⟩
    · exact .inl h
    · exact .inr ⟨g, cap, cur, fz, q1, Nat.zero_le _, q3⟩
  · have hsmall : n + s.size ≤ 9223372036854775807 := by simp only [maxLen] at h63; omega
    have hxl : xs.length = n := by simpa using hown.1
    have hlen : (xs ++ strCells s).length = (n + s.size) * 1 := by rw [List.length_append, hxl, strCells_length, Nat.mul_one]
    by_cases hroom : n + s.size ≤ cap
    · have hcs' : cur.size = cap := by simpa using hcs
      have hr := run_append_room_stringF (P := P) w t u ty e i ht hu hi hsize g n cap cur fz hg (by simpa using hfz) s hroom (by omega)
      have hsz : ((cur.toList.take n ++ strCells s ++ cur.toList.drop (n + s.size)).toArray : Array Value).size = cap * 1 := by
        simp only [List.size_toArray, List.length_append, List.length_take, List.length_drop, Array.length_toList, strCells_length]
        omega
      refine ⟨_, _, hr, ⟨hlen, .inr ⟨g, cap, _, fz, rfl, hbg, setRow_heap w g cur _ e _ hg, by omega, hroom, hcm, hsz, ?_⟩⟩, ⟨rfl, rfl, rfl, by simp, fun k _ hk => setRow_other w g k _ (fun e => hk (by simp [Value.ownBlock, e]))⟩,
        .of ⟨by simp, fun b cs ty fz' hb => ?_⟩, fun g' hg' => .inl (by simpa [Value.ownBlock] using hg')⟩
      · have ht' : cur.toList.take n = xs := by simpa using htake
        rw [ht', ← hlen]
        exact List.take_left
      · by_cases hbg' : b = g
        · subst hbg'
          rw [hg] at hb; cases hb
          exact ⟨_, setRow_heap w b cur _ e _ hg, by rw [hsz]; omega⟩
        · exact ⟨cs, by rw [setRow_other w g b _ hbg']; exact hb, rfl⟩
    · have holds : ∀ j u, xs[j]? = some u → w.cell? ((⟨g, 0, none⟩ : Addr).add j) = some u := hown.cells (g := g) rfl
      have hr := run_append_grow_string (P := P) w t u ty e i (.int .u8 0) ht hu hi hz ⟨g, 0, none⟩ n cap xs (by rw [hsize]; simpa using hxl) holds s (by omega) (by omega) (by rw [hby]; exact growslice_fits (by omega) (by omega))
      have hge := grownCap_ge w (n + s.size) cap e
      have hcm2 : grownCap w (n + s.size) cap e ≤ maxLen := grownCap_le_maxLen w (n + s.size) cap e h63
      refine ⟨_, _, hr, ⟨hlen, .inr ⟨w.heap.size, _, _, (0, 0), rfl, Nat.zero_le _, Go.heap_alloc_new w.drew _, Nat.zero_le _, hge, hcm2, ?_, ?_⟩⟩, ⟨rfl, rfl, rfl, by simp, fun k hk _ => Go.heap_alloc_old w.drew _ hk⟩, (Grows.drew w).trans (Grows.alloc _ _), fun g' hg' => .inr ?_⟩
      · have hz1 : (Value.int IntKind.u8 0).cells.size = 1 := rfl
        simp only [Array.size_append, List.size_toArray, size_zeroCells, hz1, hxl, strCells_length]
        omega
      · simp only [Array.toList_append, List.append_assoc]
        rw [← List.append_assoc, ← hlen]
        exact List.take_left
      · simp [Value.ownBlock] at hg'; omega

theorem wp_append_str {P : Program} (w : World) {ops : Array Oper} {rest : List Oper} {o : Oper} {a : Act} {Q : Exit → Act → World → Prop} (hgd : o.guard = none) (sl x : Operand) (t u : TypeId)
    (ho : o.op = .call { callee := .builtin .append, args := #[sl, x], argTypes := #[t, u] })
    (e : TypeId) (i : TypeInfo) (ht : P.underlying t = some (.slice e)) (hu : P.underlying u = some .string) (hi : P.info? e = some i) (hz : i.zero = some (.int .u8 0))
    (hsize : i.size = 1) (hby : i.bytes = 1)
    (v : Value) (n : Nat) (xs : List Value) (hs : a.eval sl = v) (hown : w.ownsRowF 0 e 1 v n xs) (s : ByteArray) (hx : a.eval x = .string s)
    (h63 : n + s.size ≤ maxLen) (hbytes : n + s.size ≤ 140737488355328)
    (h : ∀ v' w', w'.ownsRowF 0 e 1 v' (n + s.size) (xs ++ strCells s) → w.grownBy w' v.ownBlock → Grows w w' → (∀ g, v'.ownBlock = some g → v.ownBlock = some g ∨ w.heap.size ≤ g) → wpList P ops Q rest (a.put o.dst v') w') : wpList P ops Q (o :: rest) a w := by
  refine wpList_plain hgd fun K hK => ?_
  obtain ⟨v', w', hr, h2, h3, h4, h5⟩ := append_str (P := P) w t u o.type e i ht hu hi hz hsize hby v n xs hown s h63 hbytes
  unfold Oper.wp execOp
  simp only [ho, resolve, invoke, builtin, Sem.run_bind, Sem.run_pure, Result.andThen_ok, List.map_toArray, List.map_cons, List.map_nil, hs, hx, hr]
  exact hK _ _ (h v' w' h2 h3 h4 h5)

/-- A builder in block b: what it holds; its row's block. -/
def BldAt (b : Nat) (l : List UInt8) (p v : Value) (w : World) : Prop :=
  (p = .pointer none ∨ p = .pointer (some ⟨b, 0, none⟩)) ∧ w.heap[b]? = some (.cells #[p, v] 76 (0, 0)) ∧ w.ownsRowF 0 5 1 v l.length (byteCells l) ∧ v.ownBlock ≠ some b ∧ (l = [] → v = .slice none 0 0)
theorem BldAt.is {b : Nat} {l : List UInt8} {p v : Value} {w : World} (h : BldAt b l p v w) : IsBuilderF 76 5 0 b (byteCells l) w := by
  obtain ⟨hp, h1, h2, h3, _⟩ := h
  rcases hp with rfl | rfl
  · exact .inl ⟨Nat.zero_le _, v, h1, by rw [byteCells_length]; exact h2, h3⟩
  · exact .inr ⟨Nat.zero_le _, v, h1, by rw [byteCells_length]; exact h2, h3⟩

/-- From w to w': nothing but block b and its row's have turned. -/
structure BStep (b : Nat) (g : Option Nat) (w w' : World) : Prop where
  grows : Grows w w'
  same : ∀ k, k < w.heap.size → k ≠ b → some k ≠ g → w'.heap[k]? = w.heap[k]?

theorem grows_setCell (w : World) (a : Addr) (u : Value) : Grows w (w.setCell a u) :=
  .of ⟨by simp [World.setCell], fun b cs ty fz hb => by
    by_cases e : b = a.block
    · subst e
      have hlt := (Array.getElem?_eq_some_iff.1 hb).1
      have hv := (Array.getElem?_eq_some_iff.1 hb).2
      refine ⟨if a.spot.isSome then cs else cs.setIfInBounds a.off u, ?_, by split <;> simp⟩
      unfold World.setCell
      rw [Array.getElem?_eq_getElem (by simpa using hlt), Array.getElem_modify]
      simp [hv]
    · exact ⟨cs, by rw [Below.heap_setCell w a u b e]; exact hb, rfl⟩⟩

theorem set_second {w : World} {b : Nat} {p v : Value} {T : TypeId} (hb : w.heap[b]? = some (.cells #[p, v] T (0, 0))) (u : Value) : (w.setCell ⟨b, 1, none⟩ u).heap[b]? = some (.cells #[p, u] T (0, 0)) := by
  unfold World.setCell
  simp only [Array.getElem?_modify]
  rw [if_pos trivial, hb]
  rfl
theorem setCell_size (w : World) (a : Addr) (u : Value) : (w.setCell a u).heap.size = w.heap.size := by simp [World.setCell]

set_option maxHeartbeats 4000000 in
theorem bldWrite (b : Nat) (l : List UInt8) (p v : Value) (s : ByteArray) (w : World) (h : BldAt b l p v w) (hlen : l.length + s.size ≤ 140737488355328) (hpos : 0 < s.size) :
    Calls Tryd.prog 38 #[.pointer (some ⟨b, 0, none⟩), .string s] w fun e w' => e = .returned (.tuple #[.int .i64 s.size, .nilIface]) ∧ BStep b v.ownBlock w w' ∧ ∃ p' v', BldAt b (l ++ s.data.toList) p' v' w' ∧ ∀ g, v'.ownBlock = some g → v.ownBlock = some g ∨ w.heap.size ≤ g := by
  have X := Tryd.Builder_Extra_166
  obtain ⟨i0, hi, hz0, hz1, hz2⟩ := info_parts X.infoByte
  have hcc : Calls Tryd.prog 62 #[.pointer (some ⟨b, 0, none⟩)] w fun e w' => e = .returned (.tuple #[]) ∧ BldAt b l (.pointer (some ⟨b, 0, none⟩)) v w' ∧ BStep b v.ownBlock w w' ∧ w'.heap.size = w.heap.size := by
    obtain ⟨hp, h1, h2, h3, h4⟩ := h
    rcases hp with rfl | rfl
    · have hA : BuilderAtF 76 5 0 b (.pointer none) (byteCells l) w := ⟨Nat.zero_le _, v, h1, by rw [byteCells_length]; exact h2, h3⟩
      refine (Any.Builder_copyCheck_fresh { Tryd.lays166 with } X.toX72 b w hA.cell0 hA.shape hA.frozen0).mono ?_
      rintro e w' ⟨rfl, rfl⟩
      refine ⟨rfl, ?_, ⟨grows_setCell _ _ _, fun k hk hb _ => Below.heap_setCell w _ _ k hb⟩, by simp [World.setCell]⟩
      exact ⟨.inr rfl, by simp [World.setCell, Array.getElem?_modify, h1], h2.kept (row := some b) ⟨rfl, rfl, rfl, by simp [World.setCell], fun k _ hk => Below.heap_setCell _ _ _ _ (fun e => hk (by simp [e]))⟩ (Or.inr h3), h3, h4⟩
    · have hA : BuilderAtF 76 5 0 b (.pointer (some ⟨b, 0, none⟩)) (byteCells l) w := ⟨Nat.zero_le _, v, h1, by rw [byteCells_length]; exact h2, h3⟩
      refine (Any.Builder_copyCheck_used { Tryd.lays166 with } X.toX72 b w hA.cell0).mono ?_
      rintro e w' ⟨rfl, rfl⟩
      exact ⟨rfl, ⟨.inr rfl, h1, h2, h3, h4⟩, ⟨.refl _, fun _ _ _ _ => rfl⟩, rfl⟩
  go_enter Tryd.func38, Tryd.ntmps38
  go_wp2_with (go_at_call 62; refine hcc.mono ?_)
  rintro e w1 ⟨rfl, h1, hs1, hsz⟩
  obtain ⟨_, hbk, hown, hne, _⟩ := h1
  have c0 : w1.cell? ⟨b, 0, none⟩ = some (.pointer (some ⟨b, 0, none⟩)) := by rw [Lib.cell_of_heap hbk]; rfl
  have c1 : w1.cell? ⟨b, 1, none⟩ = some v := by rw [Lib.cell_of_heap hbk]; rfl
  clear hcc h
  go_wp2_with (at_builtin; refine wp_append_str _ rfl _ _ 74 9 rfl 5 i0 Tryd.underlying74 Tryd.underlying9 hi hz0 hz1 hz2 _ _ _ rfl hown s rfl ?c3 ?c4 ?_)
  case c3 => unfold maxLen; omega
  case c4 => omega
  intro v' w2 hown' hgrow hgr hbl
  have hlt : b < w1.heap.size := (Array.getElem?_eq_some_iff.1 hbk).1
  have hb2 : w2.heap[b]? = some (.cells #[.pointer (some ⟨b, 0, none⟩), v] 76 (0, 0)) := by
    rw [hgrow.block b hlt (fun e => hne e.symm)]
    exact hbk
  have d0 : w2.cell? ⟨b, 0, none⟩ = some (.pointer (some ⟨b, 0, none⟩)) := by rw [Lib.cell_of_heap hb2]; rfl
  have d1 : w2.cell? ⟨b, 1, none⟩ = some v := by rw [Lib.cell_of_heap hb2]; rfl
  have f1 : w2.frozen? ⟨b, 1, none⟩ = false := Lib.frozen_of_heap hb2 1
  obtain ⟨ao, n', cap, rfl⟩ : ∃ ao n' cap, v' = .slice ao n' cap := by
    rcases hown'.2 with ⟨hv, _⟩ | ⟨g, cap, cur, fz, hv, _⟩
    · exact ⟨_, _, _, hv⟩
    · exact ⟨_, _, _, hv⟩
  go_wp2
  go_ret2
  have hne' := ownBlock_neF hown' hb2 (by decide)
  refine ⟨rfl, ⟨(hs1.grows.trans hgr).trans (grows_setCell _ _ _), fun k hk hkb hkg => ?_⟩, .pointer (some ⟨b, 0, none⟩), .slice ao n' cap, ⟨.inr rfl, set_second hb2 _, ?_, hne', fun e => ?_⟩, fun g hg => (hbl g hg).imp id fun h => by omega⟩
  · rw [Below.heap_setCell _ _ _ _ hkb, hgrow.block k (by omega) hkg, hs1.same k hk hkb hkg]
  · have e1 : (l ++ s.data.toList).length = l.length + s.size := by rw [List.length_append, Array.length_toList]; rfl
    have e2 : byteCells (l ++ s.data.toList) = byteCells l ++ strCells s := by rw [byteCells_append]; rfl
    rw [e1, e2]
    exact hown'.kept (row := some b) ⟨rfl, rfl, rfl, by rw [setCell_size]; exact Nat.le_refl _, fun k _ hk => Below.heap_setCell _ _ _ _ (fun e => hk (by rw [e]))⟩ (Or.inr hne')
  · have h8 := congrArg List.length e
    rw [List.length_append] at h8
    have h9 : s.data.toList.length = s.size := Array.length_toList
    rw [h9] at h8
    have h7 : ([] : List UInt8).length = 0 := rfl
    omega

theorem grows_freeze (w : World) (a : Addr) (n : Nat) : Grows w (w.freeze a n) := by
  unfold World.freeze
  split
  · exact .refl w
  · refine ⟨by simp, fun b cs ty fz hb => ?_, rfl, rfl⟩
    by_cases e : b = a.block
    · subst e
      have hlt := (Array.getElem?_eq_some_iff.1 hb).1
      have hv := (Array.getElem?_eq_some_iff.1 hb).2
      refine ⟨cs, if fz.1 == fz.2 then (a.off, a.off + n) else (min fz.1 a.off, max fz.2 (a.off + n)), ?_, rfl⟩
      simp only
      rw [Array.getElem?_eq_getElem (by simpa using hlt), Array.getElem_modify]
      simp [hv]
    · exact ⟨cs, fz, by simp only [Array.getElem?_modify]; rw [if_neg (fun h => e h.symm)]; exact hb, rfl⟩
theorem freeze_same (w : World) (a : Addr) (n k : Nat) (h : k ≠ a.block) : (w.freeze a n).heap[k]? = w.heap[k]? := by
  unfold World.freeze
  split
  · rfl
  · simp only [Array.getElem?_modify]; rw [if_neg (fun e => h e.symm)]

set_option maxHeartbeats 4000000 in
theorem bldString (b : Nat) (l : List UInt8) (p v : Value) (w : World) (h : BldAt b l p v w) :
    Calls Tryd.prog 40 #[.pointer (some ⟨b, 0, none⟩)] w fun e w' => e = .returned (.string ⟨l.toArray⟩) ∧ BStep b v.ownBlock w w' := by
  have X := Tryd.Builder_Extra_169
  have L := Tryd.lays169
  obtain ⟨hp, hbk, hown, hne, hnil⟩ := h
  have hlt : b < w.heap.size := (Array.getElem?_eq_some_iff.1 hbk).1
  rcases hown.2 with ⟨rfl, hl0⟩ | ⟨g, cap, cur, fz, rfl, hbg, hg, hfz, hnc, hcm, hcs, htake⟩
  · obtain rfl : l = [] := List.eq_nil_of_length_eq_zero hl0
    have hUS : ∀ W q, (Builtin.unsafeString_ #[68, 3] 9 #[.pointer q, .int .i64 0]).run Tryd.prog W = .ok (.string .empty) W := Any.unsafeString_none L X
    have c1 : w.drew.cell? ⟨b, 1, none⟩ = some (.slice none 0 0) := by
      have : w.drew.heap[b]? = some (.cells #[p, .slice none 0 0] 76 (0, 0)) := hbk
      rw [Lib.cell_of_heap this]; rfl
    have hSD : (Builtin.unsafeSliceData_ #[74] 68 #[.slice none 0 0]).run Tryd.prog w.drew = .ok (.pointer none) w.drew := rfl
    clear hown hne
    go_enter Tryd.func40, Tryd.ntmps40
    go_wp2
    go_region
    all_goals (go_wp2; go_ret; exact ⟨rfl, ⟨Grows.drew w, fun _ _ _ _ => rfl⟩⟩)
  · by_cases h0 : l = []
    · have := hnil h0; cases this
    · have hl0 : l.length ≠ 0 := by simpa using h0
      have c1 : w.drew.cell? ⟨b, 1, none⟩ = some (.slice (some ⟨g, 0, none⟩) l.length cap) := by
        have : w.drew.heap[b]? = some (.cells #[p, .slice (some ⟨g, 0, none⟩) l.length cap] 76 (0, 0)) := hbk
        rw [Lib.cell_of_heap this]; rfl
      have hSD : (Builtin.unsafeSliceData_ #[74] 68 #[.slice (some ⟨g, 0, none⟩) l.length cap]).run Tryd.prog w.drew = .ok (.pointer (some ⟨g, 0, none⟩)) w.drew :=
        Lib.run_unsafeSliceData_row _ _ _ _ _ _ (by omega)
      have hUS : (Builtin.unsafeString_ #[68, 3] 9 #[.pointer (some ⟨g, 0, none⟩), .int .i64 l.length]).run Tryd.prog w.drew = .ok (.string ⟨l.toArray⟩) (w.drew.freeze ⟨g, 0, none⟩ l.length) := by
        refine Lib.run_unsafeString_row w.drew 68 3 9 5 L.t127 X.cellsByte g cur.size (by have hg' : w.drew.heap[g]? = some (.cells cur 5 fz) := hg; simp [World.shape?, hg']) l h0 (by omega) (by unfold maxLen at hcm; omega) ?_
        intro j x hx
        have := hown.cells (g := g) rfl j (.int .u8 x.toNat) (by simp [Lib.byteCells, hx])
        exact this
      have st : BStep b (some g) w (w.drew.freeze ⟨g, 0, none⟩ l.length) := ⟨(Grows.drew w).trans (grows_freeze _ _ _), fun k _ _ hk => freeze_same _ _ _ _ (fun e => hk (by rw [e]))⟩
      clear hown hne
      go_enter Tryd.func40, Tryd.ntmps40
      go_wp2
      go_region
      all_goals (go_wp2; go_ret; exact ⟨rfl, st⟩)

theorem bldLen (b : Nat) (l : List UInt8) (p v : Value) (w : World) (h : BldAt b l p v w) : Calls Tryd.prog 39 #[.pointer (some ⟨b, 0, none⟩)] w fun e w' => e = .returned (.int .i64 l.length) ∧ w' = w := by
  have := Tryd.Builder_Len_f 0 b _ w h.is
  rwa [byteCells_length] at this

/-- A builder, as an object. -/
def Bld (l : List UInt8) : Opq where
  sat _ X loc w := ∃ b p v, loc = some b ∧ X b ∧ BldAt b l p v w ∧ ∀ g, v.ownBlock = some g → X g
  stable := by
    rintro S S' X loc w w' ⟨b, p, v, e, hb, ⟨h1, h2, h3, h4, h5⟩, hg⟩ _ hs _
    refine ⟨b, p, v, e, hb, ⟨h1, by rw [hs b (.inr hb)]; exact h2, ⟨h3.1, ?_⟩, h4, h5⟩, hg⟩
    rcases h3.2 with hn | ⟨g, cap, cur, fz, rfl, q1, q2, q3⟩
    · exact .inl hn
    · exact .inr ⟨g, cap, cur, fz, rfl, q1, by rw [hs g (.inr (hg g rfl))]; exact q2, q3⟩

theorem sat_bld {k : K} {w : World} {l : List UInt8} (h : obSat k w ARG (.opq (Bld l))) : ∃ b p v, k.β ARG = some (some b) ∧ k.X ARG b ∧ BldAt b l p v w ∧ ∀ g, v.ownBlock = some g → k.X ARG g := by
  obtain ⟨loc, h1, b, p, v, rfl, h2, h3, h4⟩ := h
  exact ⟨b, p, v, h1, h2, h3, h4⟩

theorem pc38 (l : List UInt8) (s : ByteArray) (hlen : l.length + s.size ≤ 140737488355328) (hpos : 0 < s.size) :
    PC Tryd.prog 38 [(ARG, .opq (Bld l))] [.ptr ARG 0, .d (.val (.string s))] fun r h => r = .tup [.d (.val (.int .i64 s.size)), .d (.val .nilIface)] ∧ h = [(ARG, .opq (Bld (l ++ s.data.toList)))] := by
  refine ⟨enters_of Tryd.func38 (by kernel_rfl) rfl, fun k w vals H Vv => ?_⟩
  obtain ⟨b, p, v, hβ, hXb, hB, hXg⟩ := sat_bld (H.sat ARG _ rfl)
  obtain ⟨vl⟩ := vals
  match vl, Vv with
  | [x, y], ⟨⟨b', e1, e2⟩, ⟨e3, _⟩, _⟩ =>
    rw [hβ] at e1; cases e1; subst e2; subst e3
    refine (callsIn_wide.2 (bldWrite b l p v s w hB hlen hpos)).mono ?_
    rintro e w' ⟨rfl, hs, p', v', hB', hv'⟩
    have hne : ∀ i x, k.X i x → i = ARG := fun i x hx => by
      have h1 := H.domX i x hx
      rw [H.dom i] at h1
      simp only [lkp] at h1
      split at h1
      · rename_i e; exact e.symm
      · cases h1
    have hdS : ∀ x, k.S x → w'.heap[x]? = w.heap[x]? := fun x hx => hs.same x (H.slt x hx) (fun e => H.dis ARG b hXb (e ▸ hx)) (fun e => H.dis ARG x (hXg x e.symm) hx)
    refine ⟨_, .tup [.d (.val (.int .i64 s.size)), .d (.val .nilIface)], [(ARG, .opq (Bld (l ++ s.data.toList)))], { k with X := fun i x => i = ARG ∧ (k.X ARG x ∨ v'.ownBlock = some x) }, rfl, ⟨_, rfl, ⟨rfl, rfl⟩, ⟨rfl, rfl⟩, trivial⟩, ?_, ?_, rfl, rfl⟩
    · refine ⟨fun i j x h1 h2 => h1.1.trans h2.1.symm, fun i x h1 => ?_, fun i x h1 h2 => ?_, fun x h1 => Nat.lt_of_lt_of_le (H.slt x h1) hs.grows.size, fun i x h1 => ?_, (fun i => by rw [show (lkp i [(ARG, Ob.opq (Bld (l ++ s.data.toList)))]).isSome = (lkp i [(ARG, Ob.opq (Bld l))]).isSome by simp only [lkp]; split <;> rfl]; exact H.dom i), fun i x h1 => by rw [h1.1, hβ]; rfl, fun i o h1 => ?_, H.env.mono hdS fun _ h => h⟩
      · rcases h1.2 with h | h
        · exact Nat.lt_of_lt_of_le (H.lt ARG x h) hs.grows.size
        · have := hB'.2.2.1.2
          rcases this with ⟨hn, _⟩ | ⟨g, cap, cur, fz, hv, _, hg, _⟩
          · rw [hn] at h; cases h
          · rw [hv] at h; simp [Value.ownBlock] at h; subst h
            exact (Array.getElem?_eq_some_iff.1 hg).1
      · rcases h1.2 with h | h
        · exact H.dis ARG x h h2
        · rcases hv' x h with h | h
          · exact H.dis ARG x (hXg x h) h2
          · have := H.slt x h2; omega
      · have := H.prim i x h1
        obtain rfl := hne i x this
        exact ⟨rfl, .inl this⟩
      · simp only [lkp] at h1
        split at h1
        · rename_i e; subst e; cases h1
          exact ⟨some b, hβ, b, p', v', rfl, ⟨rfl, .inl hXb⟩, hB', fun g hg => ⟨rfl, .inr hg⟩⟩
        · cases h1
    · refine ⟨hs.grows, fun x hx hn => hs.same x hx (fun e => hn ARG (e ▸ hXb)) (fun e => hn ARG (hXg x e.symm)), fun _ h => h, fun _ h => .inl h, fun i x h1 => ?_, fun _ _ _ h => h⟩
      rcases h1.2 with h | h
      · exact .inl ⟨ARG, h⟩
      · rcases hv' x h with h | h
        · exact .inl ⟨ARG, hXg x h⟩
        · exact .inr h

theorem pc39 (l : List UInt8) : PC Tryd.prog 39 [(ARG, .opq (Bld l))] [.ptr ARG 0] fun r h => r = .d (.val (.int .i64 l.length)) ∧ h = [(ARG, .opq (Bld l))] := by
  refine ⟨enters_of Tryd.func39 (by kernel_rfl) rfl, fun k w vals H Vv => ?_⟩
  obtain ⟨b, p, v, hβ, hXb, hB, hXg⟩ := sat_bld (H.sat ARG _ rfl)
  obtain ⟨vl⟩ := vals
  match vl, Vv with
  | [x], ⟨⟨b', e1, e2⟩, _⟩ =>
    rw [hβ] at e1; cases e1; subst e2
    refine (callsIn_wide.2 (bldLen b l p v w hB)).mono ?_
    rintro e w' ⟨rfl, rfl⟩
    exact ⟨_, .d (.val (.int .i64 l.length)), _, k, rfl, ⟨rfl, rfl⟩, H, .refl _ _, rfl, rfl⟩

/-- What nothing more is known of. -/
def Gone : Opq where
  sat _ _ _ _ := True
  stable := fun _ _ _ _ => trivial

/-- String: the builder is let go. -/
theorem pc40 (l : List UInt8) : PC Tryd.prog 40 [(ARG, .opq (Bld l))] [.ptr ARG 0] fun r h => r = .d (.val (.string ⟨l.toArray⟩)) ∧ h = [(ARG, .opq Gone)] := by
  refine ⟨enters_of Tryd.func40 (by kernel_rfl) rfl, fun k w vals H Vv => ?_⟩
  obtain ⟨b, p, v, hβ, hXb, hB, hXg⟩ := sat_bld (H.sat ARG _ rfl)
  obtain ⟨vl⟩ := vals
  match vl, Vv with
  | [x], ⟨⟨b', e1, e2⟩, _⟩ =>
    rw [hβ] at e1; cases e1; subst e2
    refine (callsIn_wide.2 (bldString b l p v w hB)).mono ?_
    rintro e w' ⟨rfl, hs⟩
    have hdS : ∀ x, k.S x → w'.heap[x]? = w.heap[x]? := fun x hx => hs.same x (H.slt x hx) (fun e => H.dis ARG b hXb (e ▸ hx)) (fun e => H.dis ARG x (hXg x e.symm) hx)
    refine ⟨_, .d (.val (.string ⟨l.toArray⟩)), [(ARG, .opq Gone)], k, rfl, ⟨rfl, rfl⟩, ?_, ?_, rfl, rfl⟩
    · refine ⟨H.inj, fun i x h => Nat.lt_of_lt_of_le (H.lt i x h) hs.grows.size, H.dis, fun x h1 => Nat.lt_of_lt_of_le (H.slt x h1) hs.grows.size, H.prim, (fun i => by rw [show (lkp i [(ARG, Ob.opq Gone)]).isSome = (lkp i [(ARG, Ob.opq (Bld l))]).isSome by simp only [lkp]; split <;> rfl]; exact H.dom i), H.domX, fun i o h1 => ?_, H.env.mono hdS fun _ h => h⟩
      simp only [lkp] at h1
      split at h1
      · rename_i e; subst e; cases h1
        exact ⟨some b, hβ, trivial⟩
      · cases h1
    · exact ⟨hs.grows, fun x hx hn => hs.same x hx (fun e => hn ARG (e ▸ hXb)) (fun e => hn ARG (hXg x e.symm)), fun _ h => h, fun _ h => .inl h, fun i _ h => .inl ⟨i, h⟩, fun _ _ _ h => h⟩

/-- An empty builder, as it is made. -/
theorem new_bld {S : Nat → Prop} {w : World} {b : Nat} (h : w.heap[b]? = some (.cells #[.pointer none, .slice none 0 0] 76 (0, 0))) : (Bld []).sat S (fun x => x = b) (some b) w :=
  ⟨b, _, _, rfl, rfl, ⟨.inl rfl, h, ⟨rfl, .inl ⟨rfl, rfl⟩⟩, by simp [Value.ownBlock], fun _ => rfl⟩, fun g hg => by simp [Value.ownBlock] at hg⟩
end Go.Proofs.YthhcbgdngmajlaaDoor
