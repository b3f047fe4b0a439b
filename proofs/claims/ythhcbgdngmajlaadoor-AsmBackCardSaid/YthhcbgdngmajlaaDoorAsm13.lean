/- Programs, as they are read. No statement of the seat stands here. -/
import Derived.Test.YthhcbgdngmajlaaDoorAsm10
import Derived.Test.YthhcbgdngmajlaaDoorAsm12
set_option linter.unusedSimpArgs false
set_option linter.unusedSectionVars false
set_option maxRecDepth 100000
namespace Go.Proofs.YthhcbgdngmajlaaDoor
open Go Go.AM

/-- A line without its end. -/
def bodyL (s : ByteArray) : ByteArray := ⟨(Lib.trimSuffix s.data.toList [10]).toArray⟩
/-- The instruction of a whole line. -/
def lineI (s : ByteArray) : Option In := if Lib.hasSuffix s.data.toList [10] then oneOf (bodyL s) else none
def insL (s : ByteArray) : In := (lineI s).getD ⟨0, 0, 0, 0⟩
/-- Where reading stops: c lines have been read, the next begins at a. -/
def badAt : Nat → Nat → List ByteArray → Option Nat
  | _, _, [] => none
  | c, a, s :: r => if (lineI s).isNone ∨ c = 255 then some a else badAt (c + 1) (a + s.size) r
theorem badAt_drop {l : List ByteArray} : ∀ n, n ≤ 255 → n ≤ l.length → (∀ s ∈ l.take n, (lineI s).isSome = true) → badAt 0 0 l = badAt n (sizes (l.take n)) (l.drop n)
  | 0, _, _, _ => by simp [sizes]
  | n + 1, h1, h2, h3 => by
    have hlt : n < l.length := h2
    have hin : l[n] ∈ l.take (n + 1) := by rw [List.take_succ_eq_append_getElem hlt]; exact List.mem_append_right _ (List.mem_singleton.2 rfl)
    have hs := h3 _ hin
    rw [badAt_drop n (by omega) (by omega) (fun s hs => h3 s (by rw [List.take_succ_eq_append_getElem hlt]; exact List.mem_append_left _ hs)), List.drop_eq_getElem_cons hlt, badAt, if_neg, sizes_take_succ hlt]
    rintro (h | h)
    · rw [Option.isNone_iff_eq_none] at h; rw [h] at hs; cases hs
    · omega
def nilV : V := .d (.val (.slice none 0 0))
def outV : List In → V
  | [] => nilV
  | l => rowsOf l
/-- What reading comes to. -/
def parseV (text : ByteArray) : V :=
  if 8192 < text.size then .tup [nilV, vi 0, vi 3] else
  match badAt 0 0 (linesOf text) with
  | some a => .tup [nilV, vi (a : Int), vi 180]
  | none => .tup [outV ((linesOf text).map insL), vi 0, vi 0]
theorem trimSuffix_le (s p : List UInt8) : (Lib.trimSuffix s p).length ≤ s.length := by
  unfold Lib.trimSuffix; split <;> simp
theorem bodyL_size (s : ByteArray) : (bodyL s).size ≤ s.size := by
  have := trimSuffix_le s.data.toList [10]
  have hl : s.data.toList.length = s.size := Array.length_toList
  rw [hl] at this
  show (Lib.trimSuffix s.data.toList [10]).toArray.size ≤ s.size
  rw [List.size_toArray]; exact this
theorem line_size {l : List ByteArray} : ∀ s ∈ l, s.size ≤ sizes l := by
  induction l with
  | nil => intro s h; cases h
  | cons x r ih =>
    intro s h
    rcases List.mem_cons.1 h with e | e
    · subst e; simp [sizes]
    · have := ih s e; simp [sizes]; omega
def mN : Nat → List (Nat × Nat)
  | 0 => [(100006, 100006), (100005, 100005)]
  | _ + 1 => [(100006, 100006), (100005, 100005), (100045, 45)]
def hN (l : List ByteArray) : Nat → List (Nat × Ob)
  | 0 => [(100006, .cells [vi (-1)]), (100005, .cells [nilV])]
  | n + 1 => [(100006, .cells [vi (-1)]), (100005, .cells [.own 45 4 0 (n + 1)]), (45, .arr 4 ((l.take (n + 1)).map fun s => (insL s).row))]
def zN (l : List ByteArray) : Nat → List (Nat × Ob)
  | 0 => [(100006, .cells [vi (-1)]), (100005, .cells [nilV])]
  | n + 1 => [(100006, .cells [vi (-1)]), (100005, .cells [.own 100045 4 0 (n + 1)]), (100045, .arr 4 ((l.take (n + 1)).map fun s => (insL s).row))]
variable [SE]
theorem outT_exitN {P : Program} {T : List (Nat × TI)} {Q : Exit → AS → Prop} {id : Nat} {s : AS} : ∀ (k : List It), popX id k = none → Q (.exit id) s → outT P T Q k (.exit id) s
  | [], _, hq => hq
  | .code _ :: k, h, hq => outT_exitN k h hq
  | .ops _ _ :: k, h, hq => outT_exitN k h hq
  | .plan _ _ _ :: k, h, hq => outT_exitN k h hq
  | .blk j :: k, h, hq => by
    simp only [popX] at h
    split at h
    · cases h
    · rename_i e
      simp only [outT]
      rw [if_neg e]
      exact outT_exitN k h hq
  | .sco :: k, h, hq => outT_exitN k h hq
  | .lp _ :: k, h, hq => outT_exitN k h hq
/-- A jump out of what is being run. -/
theorem leaf.exitN {P : Program} {T : List (Nat × TI)} {Q : Exit → AS → Prop} {st : AS} {id : Nat} {k : List It} (hp : popX id k = none) (h : Q (.exit id) st) : leaf P T Q (.code (.exit id) :: k) st := AWP.exit (outT_exitN k hp h)
theorem pc27' (s : ByteArray) (hs : s.size ≤ 9223372036854775807) : PC Tryd.prog 27 [] [vs s, vs ⟨#[10]⟩] (fun r h => h = [] ∧ r = .tup [vs (bodyL s), vb (Lib.hasSuffix s.data.toList [10])]) := pc27 s ⟨#[10]⟩ hs

def pl8 : List (Nat × Bool × Plan) := [(14, true, .take 0 (.take 1 (.take 2 (.take 3 (.done)))))]
set_option maxHeartbeats 16000000 in
theorem pc8 (text : ByteArray) (ht : text.size ≤ 1000000) : PC Tryd.prog 8 [] [vs text] (fun r h => h = [] ∧ r = parseV text) := by
  have hs := sizes_linesF text.size text
  have hlines : ∀ s ∈ linesOf text, s.size ≤ text.size := fun s h => by
    have := line_size s h; unfold linesOf at this h; omega
  have hal : ∀ n, ((sizes ((linesOf text).take n) : Nat) : Int) ≤ 1000000 := fun n => by
    have := sizes_take_le (linesOf text) n
    unfold linesOf at this ⊢; omega
  refine PC.pure ?_
  refine PC.frz (Q := fun r h => (r.norm.refs = [] ∧ r.norm = parseV text) ∨ ∃ n rows, parseV text = .tup [.d (.sl 4 rows), vi 0, vi 0] ∧ rows.length = n ∧ r = .tup [.own 45 4 0 n, vi 0, vi 0] ∧ h = [(6, .cells [vi (-1)]), (5, .cells [.own 45 4 0 n]), (45, .arr 4 rows)]) ?_ ?_
  · refine PC.go 300 pl8 TTok rfl Tryd.func8 (by kernel_rfl) rfl Tryd.ntmps8 (rs := [.tmp 2, .tmp 3, .tmp 4]) rfl rfl rfl (by kernel_rfl) ?_
    intro Q hQ
    simp (maxSteps := 9000000) only [go_sem, scrubT, scrubH, Nat.reducePow, Nat.reduceLT, Int.reduceToNat, Int.reduceLE, Int.reduceLT, Int.reduceEq, Int.reduceAdd, Int.reduceSub, Int.reduceMul, Nat.reduceAdd, Nat.reduceMul, Nat.reduceSub, Nat.reduceLeDiff, Nat.reduceEqDiff, Int.reduceNe, ↓reduceIte, ↓way_true, ↓way_false, ↓way_not, ↓way_dec, pl8, lk1, ti1, lk3, ti3, lk5, ti5, lk9, ti9, lk24, ti24, lk25, ti25, lk29, ti29, lk30, ti30, lk32, ti32]
    refine ⟨fun h8 => ?_, fun h8 => ?_⟩
    · subst hQ
      simp only [retQ, ares, aress, ares1, lkp, Option.getD_some, Nat.reduceEqDiff, ↓reduceIte, true_and, lk1, ti1, lk3, ti3, lk5, ti5, lk9, ti9, lk24, ti24, lk25, ti25, lk29, ti29, lk30, ti30, lk32, ti32]
      have h8' : 8192 < text.size := by omega
      refine .inl ⟨rfl, ?_⟩
      unfold parseV
      rw [if_pos h8']; rfl
    · have h8' : ¬ 8192 < text.size := by omega
      refine leaf.call1 300 pl8 TTok rfl (pc26 text) rfl rfl rfl rfl rfl rfl rfl (by kernel_rfl) ?_
      rintro r h ⟨rfl, rfl⟩
      refine ⟨rfl, ?_⟩
      simp (maxSteps := 9000000) only [go_sem, scrubT, scrubH, Nat.reducePow, Nat.reduceLT, Int.reduceToNat, Int.reduceLE, Int.reduceLT, Int.reduceEq, Int.reduceAdd, Int.reduceSub, Int.reduceMul, Nat.reduceAdd, Nat.reduceMul, Nat.reduceSub, Nat.reduceLeDiff, Nat.reduceEqDiff, Int.reduceNe, ↓reduceIte, ↓way_true, ↓way_false, ↓way_not, ↓way_dec, pl8, lk1, ti1, lk3, ti3, lk5, ti5, lk9, ti9, lk24, ti24, lk25, ti25, lk29, ti29, lk30, ti30, lk32, ti32]
      refine leaf.keep [0, 5, 6, 17] [6, 5] rfl rfl ?_
      simp (maxSteps := 9000000) only [go_sem, scrubT, scrubH, Nat.reducePow, Nat.reduceLT, Int.reduceToNat, Int.reduceLE, Int.reduceLT, Int.reduceEq, Int.reduceAdd, Int.reduceSub, Int.reduceMul, Nat.reduceAdd, Nat.reduceMul, Nat.reduceSub, Nat.reduceLeDiff, Nat.reduceEqDiff, Int.reduceNe, ↓reduceIte, ↓way_true, ↓way_false, ↓way_not, ↓way_dec, pl8, lk1, ti1, lk3, ti3, lk5, ti5, lk9, ti9, lk24, ti24, lk25, ti25, lk29, ti29, lk30, ti30, lk32, ti32, AS.keep, keepT, AM.keepH]
      refine leaf.rangeFuncR 300 pl8 TTok rfl (it53 text ht) (fun n => n ≤ 255 ∧ ∀ s ∈ (linesOf text).take n, (lineI s).isSome = true) (hN (linesOf text)) rfl rfl rfl ?_ rfl ?_ (mN (posOf 0 (linesOf text)).length) (zN (linesOf text) (posOf 0 (linesOf text)).length) ?_ ?_ ?_ ?_ ?_ ?_ rfl rfl (by kernel_rfl) ⟨Nat.zero_le _, by simp⟩ ?_ ?_
      · intro n hn; rw [posOf_length] at hn; rw [posOf_get _ _ _ hn]; rfl
      · intro n hn; rw [posOf_length] at hn; rw [posOf_get _ _ _ hn]; rfl
      · cases (posOf 0 (linesOf text)).length <;> rfl
      · cases (posOf 0 (linesOf text)).length
        · exact ⟨rfl, rfl, trivial⟩
        · exact ⟨rfl, rfl, rfl, trivial⟩
      · cases (posOf 0 (linesOf text)).length <;> rfl
      · cases (posOf 0 (linesOf text)).length <;> rfl
      · cases (posOf 0 (linesOf text)).length <;> rfl
      · cases (posOf 0 (linesOf text)).length <;> rfl
      · intro n hn hI J hJ
        rw [posOf_length] at hn
        rw [posOf_get _ _ _ hn, Nat.zero_add]
        obtain ⟨hI1, hI2⟩ := hI
        have hbad := badAt_drop (l := linesOf text) n hI1 (by omega) hI2
        rw [List.drop_eq_getElem_cons hn, badAt] at hbad
        have hsz := hlines _ (List.getElem_mem hn)
        have hbz := bodyL_size (linesOf text)[n]
        have hz : sizes ((linesOf text).take n) ≤ 1000000 := by have := hal n; omega
        simp (maxSteps := 9000000) only [go_sem, scrubT, scrubH, Nat.reducePow, Nat.reduceLT, Int.reduceToNat, Int.reduceLE, Int.reduceLT, Int.reduceEq, Int.reduceAdd, Int.reduceSub, Int.reduceMul, Nat.reduceAdd, Nat.reduceMul, Nat.reduceSub, Nat.reduceLeDiff, Nat.reduceEqDiff, Int.reduceNe, ↓reduceIte, ↓way_true, ↓way_false, ↓way_not, ↓way_dec, pl8, lk1, ti1, lk3, ti3, lk5, ti5, lk9, ti9, lk24, ti24, lk25, ti25, lk29, ti29, lk30, ti30, lk32, ti32, bindT, renT, up, ARG, Nat.reduceAdd]
        subst hJ
        intro Q' hQ'
        have htk : (linesOf text).take (n + 1) = (linesOf text).take n ++ [(linesOf text)[n]] := List.take_succ_eq_append_getElem hn
        generalize hL : (linesOf text)[n] = L at *
        generalize hZ : sizes ((linesOf text).take n) = z at *
        have hz0 : (0 ≤ (z : Int)) = True := eq_true (by omega)
        have hli0 : lineI L = if Lib.hasSuffix L.data.toList [10] then oneOf (bodyL L) else none := rfl
        cases n with
        | zero =>
          simp (maxSteps := 9000000) only [hN, nilV, go_sem, scrubT, scrubH, Nat.reducePow, Nat.reduceLT, Int.reduceToNat, Int.reduceLE, Int.reduceLT, Int.reduceEq, Int.reduceAdd, Int.reduceSub, Int.reduceMul, Nat.reduceAdd, Nat.reduceMul, Nat.reduceSub, Nat.reduceLeDiff, Nat.reduceEqDiff, Int.reduceNe, ↓reduceIte, ↓way_true, ↓way_false, ↓way_not, ↓way_dec, pl8, lk1, ti1, lk3, ti3, lk5, ti5, lk9, ti9, lk24, ti24, lk25, ti25, lk29, ti29, lk30, ti30, lk32, ti32, bindT, renT, up, ARG, Nat.reduceAdd]
          refine leaf.call1 300 pl8 TTok rfl (pc27' L (by omega)) rfl rfl rfl rfl rfl rfl rfl (by kernel_rfl) ?_
          rintro r h' ⟨rfl, rfl⟩
          refine ⟨rfl, ?_⟩
          simp (maxSteps := 9000000) only [go_sem, scrubT, scrubH, Nat.reducePow, Nat.reduceLT, Int.reduceToNat, Int.reduceLE, Int.reduceLT, Int.reduceEq, Int.reduceAdd, Int.reduceSub, Int.reduceMul, Nat.reduceAdd, Nat.reduceMul, Nat.reduceSub, Nat.reduceLeDiff, Nat.reduceEqDiff, Int.reduceNe, ↓reduceIte, ↓way_true, ↓way_false, ↓way_not, ↓way_dec, pl8, lk1, ti1, lk3, ti3, lk5, ti5, lk9, ti9, lk24, ti24, lk25, ti25, lk29, ti29, lk30, ti30, lk32, ti32]
          cases hE : Lib.hasSuffix L.data.toList [10] with
          | false =>
            have hno : lineI L = none := by rw [hli0, hE]; rfl
            refine leaf.call1 300 pl8 TTok rfl (pc11 (bodyL L) (by omega)) rfl rfl rfl rfl rfl rfl rfl (by kernel_rfl) ?_
            rintro r h' ⟨rfl, rfl⟩
            refine ⟨rfl, ?_⟩
            cases hO : oneOf (bodyL L) with
            | none =>
              simp (maxSteps := 9000000) only [optI, In.row, List.map_cons, List.map_nil, List.length_cons, List.length_nil, go_sem, scrubT, scrubH, Nat.reducePow, Nat.reduceLT, Int.reduceToNat, Int.reduceLE, Int.reduceLT, Int.reduceEq, Int.reduceAdd, Int.reduceSub, Int.reduceMul, Nat.reduceAdd, Nat.reduceMul, Nat.reduceSub, Nat.reduceLeDiff, Nat.reduceEqDiff, Int.reduceNe, ↓reduceIte, ↓way_true, ↓way_false, ↓way_not, ↓way_dec, pl8, lk1, ti1, lk3, ti3, lk5, ti5, lk9, ti9, lk24, ti24, lk25, ti25, lk29, ti29, lk30, ti30, lk32, ti32]
              refine leaf.exitN rfl ?_
              subst hQ'
              refine roundI_exit 300 pl8 TTok rfl [100006, 100005] rfl rfl rfl rfl rfl (by kernel_rfl) ?_
              simp (maxSteps := 9000000) only [go_sem, scrubT, scrubH, Nat.reducePow, Nat.reduceLT, Int.reduceToNat, Int.reduceLE, Int.reduceLT, Int.reduceEq, Int.reduceAdd, Int.reduceSub, Int.reduceMul, Nat.reduceAdd, Nat.reduceMul, Nat.reduceSub, Nat.reduceLeDiff, Nat.reduceEqDiff, Int.reduceNe, ↓reduceIte, ↓way_true, ↓way_false, ↓way_not, ↓way_dec, pl8, lk1, ti1, lk3, ti3, lk5, ti5, lk9, ti9, lk24, ti24, lk25, ti25, lk29, ti29, lk30, ti30, lk32, ti32, AS.keep, keepT, AM.keepH, renH, Ob.ren, renL, V.ren, down, ARG, Nat.reduceSub, hz0]
              subst hQ
              simp only [retQ, ares, aress, ares1, lkp, Option.getD_some, Nat.reduceEqDiff, ↓reduceIte, true_and, lk1, ti1, lk3, ti3, lk5, ti5, lk9, ti9, lk24, ti24, lk25, ti25, lk29, ti29, lk30, ti30, lk32, ti32]
              refine .inl ⟨rfl, ?_⟩
              unfold parseV
              rw [if_neg h8', hbad, if_pos (.inl (by rw [hno]; rfl))]; rfl
            | some x =>
              simp (maxSteps := 9000000) only [optI, In.row, List.map_cons, List.map_nil, List.length_cons, List.length_nil, go_sem, scrubT, scrubH, Nat.reducePow, Nat.reduceLT, Int.reduceToNat, Int.reduceLE, Int.reduceLT, Int.reduceEq, Int.reduceAdd, Int.reduceSub, Int.reduceMul, Nat.reduceAdd, Nat.reduceMul, Nat.reduceSub, Nat.reduceLeDiff, Nat.reduceEqDiff, Int.reduceNe, ↓reduceIte, ↓way_true, ↓way_false, ↓way_not, ↓way_dec, pl8, lk1, ti1, lk3, ti3, lk5, ti5, lk9, ti9, lk24, ti24, lk25, ti25, lk29, ti29, lk30, ti30, lk32, ti32]
              refine leaf.exitN rfl ?_
              subst hQ'
              refine roundI_exit 300 pl8 TTok rfl [100006, 100005] rfl rfl rfl rfl rfl (by kernel_rfl) ?_
              simp (maxSteps := 9000000) only [go_sem, scrubT, scrubH, Nat.reducePow, Nat.reduceLT, Int.reduceToNat, Int.reduceLE, Int.reduceLT, Int.reduceEq, Int.reduceAdd, Int.reduceSub, Int.reduceMul, Nat.reduceAdd, Nat.reduceMul, Nat.reduceSub, Nat.reduceLeDiff, Nat.reduceEqDiff, Int.reduceNe, ↓reduceIte, ↓way_true, ↓way_false, ↓way_not, ↓way_dec, pl8, lk1, ti1, lk3, ti3, lk5, ti5, lk9, ti9, lk24, ti24, lk25, ti25, lk29, ti29, lk30, ti30, lk32, ti32, AS.keep, keepT, AM.keepH, renH, Ob.ren, renL, V.ren, down, ARG, Nat.reduceSub, hz0]
              subst hQ
              simp only [retQ, ares, aress, ares1, lkp, Option.getD_some, Nat.reduceEqDiff, ↓reduceIte, true_and, lk1, ti1, lk3, ti3, lk5, ti5, lk9, ti9, lk24, ti24, lk25, ti25, lk29, ti29, lk30, ti30, lk32, ti32]
              refine .inl ⟨rfl, ?_⟩
              unfold parseV
              rw [if_neg h8', hbad, if_pos (.inl (by rw [hno]; rfl))]; rfl
          | true =>
            cases hO : oneOf (bodyL L) with
            | none =>
              have hno : lineI L = none := by rw [hli0, hE, hO]; rfl
              refine leaf.call1 300 pl8 TTok rfl (pc11 (bodyL L) (by omega)) rfl rfl rfl rfl rfl rfl rfl (by kernel_rfl) ?_
              rintro r h' ⟨rfl, rfl⟩
              refine ⟨rfl, ?_⟩
              rw [hO]
              simp (maxSteps := 9000000) only [optI, In.row, List.map_cons, List.map_nil, List.length_cons, List.length_nil, go_sem, scrubT, scrubH, Nat.reducePow, Nat.reduceLT, Int.reduceToNat, Int.reduceLE, Int.reduceLT, Int.reduceEq, Int.reduceAdd, Int.reduceSub, Int.reduceMul, Nat.reduceAdd, Nat.reduceMul, Nat.reduceSub, Nat.reduceLeDiff, Nat.reduceEqDiff, Int.reduceNe, ↓reduceIte, ↓way_true, ↓way_false, ↓way_not, ↓way_dec, pl8, lk1, ti1, lk3, ti3, lk5, ti5, lk9, ti9, lk24, ti24, lk25, ti25, lk29, ti29, lk30, ti30, lk32, ti32]
              refine leaf.exitN rfl ?_
              subst hQ'
              refine roundI_exit 300 pl8 TTok rfl [100006, 100005] rfl rfl rfl rfl rfl (by kernel_rfl) ?_
              simp (maxSteps := 9000000) only [go_sem, scrubT, scrubH, Nat.reducePow, Nat.reduceLT, Int.reduceToNat, Int.reduceLE, Int.reduceLT, Int.reduceEq, Int.reduceAdd, Int.reduceSub, Int.reduceMul, Nat.reduceAdd, Nat.reduceMul, Nat.reduceSub, Nat.reduceLeDiff, Nat.reduceEqDiff, Int.reduceNe, ↓reduceIte, ↓way_true, ↓way_false, ↓way_not, ↓way_dec, pl8, lk1, ti1, lk3, ti3, lk5, ti5, lk9, ti9, lk24, ti24, lk25, ti25, lk29, ti29, lk30, ti30, lk32, ti32, AS.keep, keepT, AM.keepH, renH, Ob.ren, renL, V.ren, down, ARG, Nat.reduceSub, hz0]
              subst hQ
              simp only [retQ, ares, aress, ares1, lkp, Option.getD_some, Nat.reduceEqDiff, ↓reduceIte, true_and, lk1, ti1, lk3, ti3, lk5, ti5, lk9, ti9, lk24, ti24, lk25, ti25, lk29, ti29, lk30, ti30, lk32, ti32]
              refine .inl ⟨rfl, ?_⟩
              unfold parseV
              rw [if_neg h8', hbad, if_pos (.inl (by rw [hno]; rfl))]; rfl
            | some x =>
              have hli : lineI L = some x := by rw [hli0, hE, hO]; rfl
              refine leaf.call1 300 pl8 TTok rfl (pc11 (bodyL L) (by omega)) rfl rfl rfl rfl rfl rfl rfl (by kernel_rfl) ?_
              rintro r h' ⟨rfl, rfl⟩
              refine ⟨rfl, ?_⟩
              rw [hO]
              have hins : insL L = x := by unfold insL; rw [hli]; rfl
              have hgood : 0 + 1 ≤ 255 ∧ ∀ s ∈ (linesOf text).take (0 + 1), (lineI s).isSome = true := by
                refine ⟨by omega, fun s hs => ?_⟩
                rw [htk] at hs
                rcases List.mem_append.1 hs with h | h
                · exact hI2 s h
                · rw [List.mem_singleton.1 h, hli]; rfl
              simp (maxSteps := 9000000) only [optI, In.row, List.map_cons, List.map_nil, List.length_cons, List.length_nil, Nat.reducePow, go_sem, scrubT, scrubH, Nat.reducePow, Nat.reduceLT, Int.reduceToNat, Int.reduceLE, Int.reduceLT, Int.reduceEq, Int.reduceAdd, Int.reduceSub, Int.reduceMul, Nat.reduceAdd, Nat.reduceMul, Nat.reduceSub, Nat.reduceLeDiff, Nat.reduceEqDiff, Int.reduceNe, ↓reduceIte, ↓way_true, ↓way_false, ↓way_not, ↓way_dec, pl8, lk1, ti1, lk3, ti3, lk5, ti5, lk9, ti9, lk24, ti24, lk25, ti25, lk29, ti29, lk30, ti30, lk32, ti32]
              refine ⟨(by (repeat' apply And.intro) <;> (try unfold LMAX) <;> omega), fun _ => ?_⟩
              subst hQ'
              refine roundI_normal [100006, 100005, 45] hgood rfl rfl ?_
              simp only [AS.keep, AM.keepH, lkp, hN, htk, List.map_append, List.map_cons, List.map_nil, hins]
              rfl
        | succ q =>
          simp only [hN]
          have hlen : ((linesOf text).take (q + 1)).length = q + 1 := by rw [List.length_take]; omega
          have htake : (((linesOf text).take (q + 1)).map fun s => (insL s).row).length = q + 1 := by rw [List.length_map, hlen]
          generalize hR : ((linesOf text).take (q + 1)).map (fun s => (insL s).row) = R at *
          simp (maxSteps := 9000000) only [go_sem, scrubT, scrubH, Nat.reducePow, Nat.reduceLT, Int.reduceToNat, Int.reduceLE, Int.reduceLT, Int.reduceEq, Int.reduceAdd, Int.reduceSub, Int.reduceMul, Nat.reduceAdd, Nat.reduceMul, Nat.reduceSub, Nat.reduceLeDiff, Nat.reduceEqDiff, Int.reduceNe, ↓reduceIte, ↓way_true, ↓way_false, ↓way_not, ↓way_dec, pl8, lk1, ti1, lk3, ti3, lk5, ti5, lk9, ti9, lk24, ti24, lk25, ti25, lk29, ti29, lk30, ti30, lk32, ti32, bindT, renT, up, ARG, Nat.reduceAdd]
          refine leaf.call1 300 pl8 TTok rfl (pc27' L (by omega)) rfl rfl rfl rfl rfl rfl rfl (by kernel_rfl) ?_
          rintro r h' ⟨rfl, rfl⟩
          refine ⟨rfl, ?_⟩
          simp (maxSteps := 9000000) only [go_sem, scrubT, scrubH, Nat.reducePow, Nat.reduceLT, Int.reduceToNat, Int.reduceLE, Int.reduceLT, Int.reduceEq, Int.reduceAdd, Int.reduceSub, Int.reduceMul, Nat.reduceAdd, Nat.reduceMul, Nat.reduceSub, Nat.reduceLeDiff, Nat.reduceEqDiff, Int.reduceNe, ↓reduceIte, ↓way_true, ↓way_false, ↓way_not, ↓way_dec, pl8, lk1, ti1, lk3, ti3, lk5, ti5, lk9, ti9, lk24, ti24, lk25, ti25, lk29, ti29, lk30, ti30, lk32, ti32]
          cases hE : Lib.hasSuffix L.data.toList [10] with
          | false =>
            have hno : lineI L = none := by rw [hli0, hE]; rfl
            refine leaf.call1 300 pl8 TTok rfl (pc11 (bodyL L) (by omega)) rfl rfl rfl rfl rfl rfl rfl (by kernel_rfl) ?_
            rintro r h' ⟨rfl, rfl⟩
            refine ⟨rfl, ?_⟩
            cases hO : oneOf (bodyL L) with
            | none =>
              simp (maxSteps := 9000000) only [optI, In.row, List.map_cons, List.map_nil, List.length_cons, List.length_nil, go_sem, scrubT, scrubH, Nat.reducePow, Nat.reduceLT, Int.reduceToNat, Int.reduceLE, Int.reduceLT, Int.reduceEq, Int.reduceAdd, Int.reduceSub, Int.reduceMul, Nat.reduceAdd, Nat.reduceMul, Nat.reduceSub, Nat.reduceLeDiff, Nat.reduceEqDiff, Int.reduceNe, ↓reduceIte, ↓way_true, ↓way_false, ↓way_not, ↓way_dec, pl8, lk1, ti1, lk3, ti3, lk5, ti5, lk9, ti9, lk24, ti24, lk25, ti25, lk29, ti29, lk30, ti30, lk32, ti32]
              refine leaf.drop 45 rfl ?_
              simp only [AS.drop, scrubT, scrubH, V.scrub, scrubL, Ob.scrub, ↓reduceIte, Nat.reduceEqDiff]
              refine leaf.exitN rfl ?_
              subst hQ'
              refine roundI_exit 300 pl8 TTok rfl [100006, 100005] rfl rfl rfl rfl rfl (by kernel_rfl) ?_
              simp (maxSteps := 9000000) only [go_sem, scrubT, scrubH, Nat.reducePow, Nat.reduceLT, Int.reduceToNat, Int.reduceLE, Int.reduceLT, Int.reduceEq, Int.reduceAdd, Int.reduceSub, Int.reduceMul, Nat.reduceAdd, Nat.reduceMul, Nat.reduceSub, Nat.reduceLeDiff, Nat.reduceEqDiff, Int.reduceNe, ↓reduceIte, ↓way_true, ↓way_false, ↓way_not, ↓way_dec, pl8, lk1, ti1, lk3, ti3, lk5, ti5, lk9, ti9, lk24, ti24, lk25, ti25, lk29, ti29, lk30, ti30, lk32, ti32, AS.keep, keepT, AM.keepH, renH, Ob.ren, renL, V.ren, down, ARG, Nat.reduceSub, hz0]
              subst hQ
              simp only [retQ, ares, aress, ares1, lkp, Option.getD_some, Nat.reduceEqDiff, ↓reduceIte, true_and, lk1, ti1, lk3, ti3, lk5, ti5, lk9, ti9, lk24, ti24, lk25, ti25, lk29, ti29, lk30, ti30, lk32, ti32]
              refine .inl ⟨rfl, ?_⟩
              unfold parseV
              rw [if_neg h8', hbad, if_pos (.inl (by rw [hno]; rfl))]; rfl
            | some x =>
              simp (maxSteps := 9000000) only [optI, In.row, List.map_cons, List.map_nil, List.length_cons, List.length_nil, go_sem, scrubT, scrubH, Nat.reducePow, Nat.reduceLT, Int.reduceToNat, Int.reduceLE, Int.reduceLT, Int.reduceEq, Int.reduceAdd, Int.reduceSub, Int.reduceMul, Nat.reduceAdd, Nat.reduceMul, Nat.reduceSub, Nat.reduceLeDiff, Nat.reduceEqDiff, Int.reduceNe, ↓reduceIte, ↓way_true, ↓way_false, ↓way_not, ↓way_dec, pl8, lk1, ti1, lk3, ti3, lk5, ti5, lk9, ti9, lk24, ti24, lk25, ti25, lk29, ti29, lk30, ti30, lk32, ti32]
              refine leaf.drop 45 rfl ?_
              simp only [AS.drop, scrubT, scrubH, V.scrub, scrubL, Ob.scrub, ↓reduceIte, Nat.reduceEqDiff]
              refine leaf.exitN rfl ?_
              subst hQ'
              refine roundI_exit 300 pl8 TTok rfl [100006, 100005] rfl rfl rfl rfl rfl (by kernel_rfl) ?_
              simp (maxSteps := 9000000) only [go_sem, scrubT, scrubH, Nat.reducePow, Nat.reduceLT, Int.reduceToNat, Int.reduceLE, Int.reduceLT, Int.reduceEq, Int.reduceAdd, Int.reduceSub, Int.reduceMul, Nat.reduceAdd, Nat.reduceMul, Nat.reduceSub, Nat.reduceLeDiff, Nat.reduceEqDiff, Int.reduceNe, ↓reduceIte, ↓way_true, ↓way_false, ↓way_not, ↓way_dec, pl8, lk1, ti1, lk3, ti3, lk5, ti5, lk9, ti9, lk24, ti24, lk25, ti25, lk29, ti29, lk30, ti30, lk32, ti32, AS.keep, keepT, AM.keepH, renH, Ob.ren, renL, V.ren, down, ARG, Nat.reduceSub, hz0]
              subst hQ
              simp only [retQ, ares, aress, ares1, lkp, Option.getD_some, Nat.reduceEqDiff, ↓reduceIte, true_and, lk1, ti1, lk3, ti3, lk5, ti5, lk9, ti9, lk24, ti24, lk25, ti25, lk29, ti29, lk30, ti30, lk32, ti32]
              refine .inl ⟨rfl, ?_⟩
              unfold parseV
              rw [if_neg h8', hbad, if_pos (.inl (by rw [hno]; rfl))]; rfl
          | true =>
            cases hO : oneOf (bodyL L) with
            | none =>
              have hno : lineI L = none := by rw [hli0, hE, hO]; rfl
              refine leaf.call1 300 pl8 TTok rfl (pc11 (bodyL L) (by omega)) rfl rfl rfl rfl rfl rfl rfl (by kernel_rfl) ?_
              rintro r h' ⟨rfl, rfl⟩
              refine ⟨rfl, ?_⟩
              rw [hO]
              simp (maxSteps := 9000000) only [optI, In.row, List.map_cons, List.map_nil, List.length_cons, List.length_nil, go_sem, scrubT, scrubH, Nat.reducePow, Nat.reduceLT, Int.reduceToNat, Int.reduceLE, Int.reduceLT, Int.reduceEq, Int.reduceAdd, Int.reduceSub, Int.reduceMul, Nat.reduceAdd, Nat.reduceMul, Nat.reduceSub, Nat.reduceLeDiff, Nat.reduceEqDiff, Int.reduceNe, ↓reduceIte, ↓way_true, ↓way_false, ↓way_not, ↓way_dec, pl8, lk1, ti1, lk3, ti3, lk5, ti5, lk9, ti9, lk24, ti24, lk25, ti25, lk29, ti29, lk30, ti30, lk32, ti32]
              refine leaf.drop 45 rfl ?_
              simp only [AS.drop, scrubT, scrubH, V.scrub, scrubL, Ob.scrub, ↓reduceIte, Nat.reduceEqDiff]
              refine leaf.exitN rfl ?_
              subst hQ'
              refine roundI_exit 300 pl8 TTok rfl [100006, 100005] rfl rfl rfl rfl rfl (by kernel_rfl) ?_
              simp (maxSteps := 9000000) only [go_sem, scrubT, scrubH, Nat.reducePow, Nat.reduceLT, Int.reduceToNat, Int.reduceLE, Int.reduceLT, Int.reduceEq, Int.reduceAdd, Int.reduceSub, Int.reduceMul, Nat.reduceAdd, Nat.reduceMul, Nat.reduceSub, Nat.reduceLeDiff, Nat.reduceEqDiff, Int.reduceNe, ↓reduceIte, ↓way_true, ↓way_false, ↓way_not, ↓way_dec, pl8, lk1, ti1, lk3, ti3, lk5, ti5, lk9, ti9, lk24, ti24, lk25, ti25, lk29, ti29, lk30, ti30, lk32, ti32, AS.keep, keepT, AM.keepH, renH, Ob.ren, renL, V.ren, down, ARG, Nat.reduceSub, hz0]
              subst hQ
              simp only [retQ, ares, aress, ares1, lkp, Option.getD_some, Nat.reduceEqDiff, ↓reduceIte, true_and, lk1, ti1, lk3, ti3, lk5, ti5, lk9, ti9, lk24, ti24, lk25, ti25, lk29, ti29, lk30, ti30, lk32, ti32]
              refine .inl ⟨rfl, ?_⟩
              unfold parseV
              rw [if_neg h8', hbad, if_pos (.inl (by rw [hno]; rfl))]; rfl
            | some x =>
              have hli : lineI L = some x := by rw [hli0, hE, hO]; rfl
              by_cases h255 : q + 1 = 255
              · have h255i : (((q + 1 : Nat) : Int) = 255) = True := eq_true (by omega)
                refine leaf.call1 300 pl8 TTok rfl (pc11 (bodyL L) (by omega)) rfl rfl rfl rfl rfl rfl rfl (by kernel_rfl) ?_
                rintro r h' ⟨rfl, rfl⟩
                refine ⟨rfl, ?_⟩
                rw [hO]
                simp (maxSteps := 9000000) only [optI, In.row, List.map_cons, List.map_nil, List.length_cons, List.length_nil, go_sem, scrubT, scrubH, Nat.reducePow, Nat.reduceLT, Int.reduceToNat, Int.reduceLE, Int.reduceLT, Int.reduceEq, Int.reduceAdd, Int.reduceSub, Int.reduceMul, Nat.reduceAdd, Nat.reduceMul, Nat.reduceSub, Nat.reduceLeDiff, Nat.reduceEqDiff, Int.reduceNe, ↓reduceIte, ↓way_true, ↓way_false, ↓way_not, ↓way_dec, pl8, lk1, ti1, lk3, ti3, lk5, ti5, lk9, ti9, lk24, ti24, lk25, ti25, lk29, ti29, lk30, ti30, lk32, ti32, h255i]
                refine leaf.drop 45 rfl ?_
                simp only [AS.drop, scrubT, scrubH, V.scrub, scrubL, Ob.scrub, ↓reduceIte, Nat.reduceEqDiff]
                refine leaf.exitN rfl ?_
                subst hQ'
                refine roundI_exit 300 pl8 TTok rfl [100006, 100005] rfl rfl rfl rfl rfl (by kernel_rfl) ?_
                simp (maxSteps := 9000000) only [go_sem, scrubT, scrubH, Nat.reducePow, Nat.reduceLT, Int.reduceToNat, Int.reduceLE, Int.reduceLT, Int.reduceEq, Int.reduceAdd, Int.reduceSub, Int.reduceMul, Nat.reduceAdd, Nat.reduceMul, Nat.reduceSub, Nat.reduceLeDiff, Nat.reduceEqDiff, Int.reduceNe, ↓reduceIte, ↓way_true, ↓way_false, ↓way_not, ↓way_dec, pl8, lk1, ti1, lk3, ti3, lk5, ti5, lk9, ti9, lk24, ti24, lk25, ti25, lk29, ti29, lk30, ti30, lk32, ti32, AS.keep, keepT, AM.keepH, renH, Ob.ren, renL, V.ren, down, ARG, Nat.reduceSub, hz0]
                subst hQ
                simp only [retQ, ares, aress, ares1, lkp, Option.getD_some, Nat.reduceEqDiff, ↓reduceIte, true_and, lk1, ti1, lk3, ti3, lk5, ti5, lk9, ti9, lk24, ti24, lk25, ti25, lk29, ti29, lk30, ti30, lk32, ti32]
                refine .inl ⟨rfl, ?_⟩
                unfold parseV
                rw [if_neg h8', hbad, if_pos (.inr h255)]; rfl
              · have h255i : (((q + 1 : Nat) : Int) = 255) = False := eq_false (by omega)
                refine leaf.call1 300 pl8 TTok rfl (pc11 (bodyL L) (by omega)) rfl rfl rfl rfl rfl rfl rfl (by kernel_rfl) ?_
                rintro r h' ⟨rfl, rfl⟩
                refine ⟨rfl, ?_⟩
                rw [hO]
                have hins : insL L = x := by unfold insL; rw [hli]; rfl
                have hgood : q + 1 + 1 ≤ 255 ∧ ∀ s ∈ (linesOf text).take (q + 1 + 1), (lineI s).isSome = true := by
                  refine ⟨by omega, fun s hs => ?_⟩
                  rw [htk] at hs
                  rcases List.mem_append.1 hs with h | h
                  · exact hI2 s h
                  · rw [List.mem_singleton.1 h, hli]; rfl
                simp (maxSteps := 9000000) only [optI, In.row, List.map_cons, List.map_nil, List.length_cons, List.length_nil, go_sem, scrubT, scrubH, Nat.reducePow, Nat.reduceLT, Int.reduceToNat, Int.reduceLE, Int.reduceLT, Int.reduceEq, Int.reduceAdd, Int.reduceSub, Int.reduceMul, Nat.reduceAdd, Nat.reduceMul, Nat.reduceSub, Nat.reduceLeDiff, Nat.reduceEqDiff, Int.reduceNe, ↓reduceIte, ↓way_true, ↓way_false, ↓way_not, ↓way_dec, pl8, lk1, ti1, lk3, ti3, lk5, ti5, lk9, ti9, lk24, ti24, lk25, ti25, lk29, ti29, lk30, ti30, lk32, ti32, hlen, h255i, htake]
                refine ⟨(by (repeat' apply And.intro) <;> (try unfold LMAX) <;> omega), fun _ => ?_⟩
                subst hQ'
                refine roundI_normal [100006, 100005, 45] hgood rfl rfl ?_
                simp only [AS.keep, AM.keepH, lkp, hN, htk, List.map_append, List.map_cons, List.map_nil, hins, hR, htake]
                rfl
      · intro hI
        obtain ⟨hI1, hI2⟩ := hI
        rw [posOf_length, List.take_length] at hI2
        rw [posOf_length] at hI1
        have hbad := badAt_drop (l := linesOf text) (linesOf text).length hI1 (Nat.le_refl _) (by rw [List.take_length]; exact hI2)
        rw [List.drop_length, badAt] at hbad
        have h8' : ¬ 8192 < text.size := by omega
        cases hq : (posOf 0 (linesOf text)).length with
        | zero =>
          simp (maxSteps := 9000000) only [zN, go_sem, scrubT, scrubH, Nat.reducePow, Nat.reduceLT, Int.reduceToNat, Int.reduceLE, Int.reduceLT, Int.reduceEq, Int.reduceAdd, Int.reduceSub, Int.reduceMul, Nat.reduceAdd, Nat.reduceMul, Nat.reduceSub, Nat.reduceLeDiff, Nat.reduceEqDiff, Int.reduceNe, ↓reduceIte, ↓way_true, ↓way_false, ↓way_not, ↓way_dec, pl8, lk1, ti1, lk3, ti3, lk5, ti5, lk9, ti9, lk24, ti24, lk25, ti25, lk29, ti29, lk30, ti30, lk32, ti32, renH, Ob.ren, renL, V.ren, down, ARG, Nat.reduceSub]
          subst hQ
          simp only [retQ, ares, aress, ares1, lkp, Option.getD_some, Nat.reduceEqDiff, ↓reduceIte, true_and, lk1, ti1, lk3, ti3, lk5, ti5, lk9, ti9, lk24, ti24, lk25, ti25, lk29, ti29, lk30, ti30, lk32, ti32]
          refine .inl ⟨rfl, ?_⟩
          rw [posOf_length] at hq
          have hnil : linesOf text = [] := List.length_eq_zero_iff.1 hq
          unfold parseV
          rw [if_neg h8', hbad, hnil]; rfl
        | succ q =>
          simp (maxSteps := 9000000) only [zN, go_sem, scrubT, scrubH, Nat.reducePow, Nat.reduceLT, Int.reduceToNat, Int.reduceLE, Int.reduceLT, Int.reduceEq, Int.reduceAdd, Int.reduceSub, Int.reduceMul, Nat.reduceAdd, Nat.reduceMul, Nat.reduceSub, Nat.reduceLeDiff, Nat.reduceEqDiff, Int.reduceNe, ↓reduceIte, ↓way_true, ↓way_false, ↓way_not, ↓way_dec, pl8, lk1, ti1, lk3, ti3, lk5, ti5, lk9, ti9, lk24, ti24, lk25, ti25, lk29, ti29, lk30, ti30, lk32, ti32, renH, Ob.ren, renL, V.ren, down, ARG, Nat.reduceSub]
          subst hQ
          simp only [retQ, ares, aress, ares1, lkp, Option.getD_some, Nat.reduceEqDiff, ↓reduceIte, true_and, lk1, ti1, lk3, ti3, lk5, ti5, lk9, ti9, lk24, ti24, lk25, ti25, lk29, ti29, lk30, ti30, lk32, ti32]
          refine .inr ⟨q + 1, (((linesOf text).take (q + 1)).map fun s => (insL s).row), ?_, ?_, rfl, rfl⟩
          · unfold parseV
            rw [posOf_length] at hq
            rw [if_neg h8', hbad, ← hq, List.take_length]
            cases hl : linesOf text with
            | nil => rw [hl] at hq; cases hq
            | cons a r =>
              show V.tup [rowsOf ((a :: r).map insL), vi 0, vi 0] = _
              unfold rowsOf
              rw [List.map_map]; rfl
          · rw [posOf_length] at hq
            rw [List.length_map, List.length_take]; omega
  · rintro r h (⟨h1, h2⟩ | ⟨n, rows, h1, rfl, rfl, rfl⟩)
    · exact .inl ⟨h1, h2⟩
    · refine .inr ⟨45, _, _, rfl, rfl, ?_, ?_, ?_⟩
      · exact ⟨fun _ => ⟨rfl, by omega⟩, trivial, trivial, trivial⟩
      · exact ⟨.inr ⟨trivial, trivial⟩, .inr ⟨fun _ => ⟨rfl, by omega⟩, trivial⟩, .inl rfl, trivial⟩
      · have : (rows.drop 0).take rows.length = rows := by simp
        simp only [V.frz, frzL, Frz.arr, ↓reduceIte, this, V.norm, normL]
        exact ⟨rfl, h1.symm⟩
end Go.Proofs.YthhcbgdngmajlaaDoor
