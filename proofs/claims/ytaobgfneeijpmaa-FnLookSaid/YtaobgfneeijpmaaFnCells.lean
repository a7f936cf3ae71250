/- Rows of cells of the call's own: how they lie, copies into them. -/
import Derived.Test.YtaobgfneeijpmaaFnRow
import Derived.Test.YtaobgfneeijpmaaFnClone
import Derived.Test.YtaobgfneeijpmaaBig
set_option linter.unusedSimpArgs false
set_option linter.unusedVariables false
namespace Go.Mux
open Go.RowKit
/-- The places of a cell. -/
def cv (c : DCell) : List Value := [.int .i64 c.R, .int .i64 c.A.Fg, .int .i64 c.A.Bg, .bool c.A.Bold, .bool c.A.Under, .bool c.A.Turn]
/-- The places of some cells. -/
@[irreducible] def cvs (l : List DCell) : List Value := (l.map cv).flatten
theorem cvs_nil : cvs [] = [] := by unfold cvs; rfl
theorem cvs_cons (c : DCell) (l : List DCell) : cvs (c :: l) = cv c ++ cvs l := by unfold cvs; simp
theorem cvs_append (a b : List DCell) : cvs (a ++ b) = cvs a ++ cvs b := by unfold cvs; simp
theorem cvs_length : ∀ l : List DCell, (cvs l).length = l.length * 6
  | [] => by rw [cvs_nil]; rfl
  | c :: l => by rw [cvs_cons, List.length_append, cvs_length l, List.length_cons]; simp [cv]; omega
theorem cvs_take (l : List DCell) (n : Nat) : cvs (l.take n) = (cvs l).take (n * 6) := by
  by_cases h : n ≤ l.length
  · have e : cvs l = cvs (l.take n) ++ cvs (l.drop n) := by rw [← cvs_append, List.take_append_drop]
    have hl : (cvs (l.take n)).length = n * 6 := by rw [cvs_length, List.length_take, Nat.min_eq_left h]
    rw [e, List.take_left' hl]
  · rw [List.take_of_length_le (by omega), List.take_of_length_le (by rw [cvs_length]; omega)]
theorem cvs_drop (l : List DCell) (n : Nat) : cvs (l.drop n) = (cvs l).drop (n * 6) := by
  by_cases h : n ≤ l.length
  · have e : cvs l = cvs (l.take n) ++ cvs (l.drop n) := by rw [← cvs_append, List.take_append_drop]
    have hl : (cvs (l.take n)).length = n * 6 := by rw [cvs_length, List.length_take, Nat.min_eq_left h]
    rw [e, List.drop_left' hl]
  · rw [List.drop_of_length_le (by omega), List.drop_of_length_le (by rw [cvs_length]; omega), cvs_nil]
theorem cvs_one (l : List DCell) : ∀ u ∈ cvs l, u.oneCell' = true := by
  induction l with
  | nil => rw [cvs_nil]; simp
  | cons c l ih =>
    rw [cvs_cons]
    intro u hu
    rcases List.mem_append.1 hu with h | h
    · simp only [cv, List.mem_cons, List.not_mem_nil, or_false] at h
      rcases h with rfl | rfl | rfl | rfl | rfl | rfl <;> rfl
    · exact ih u h
/-- The numbers of a cell are numbers of 64 bits. -/
@[irreducible] def cellI (c : DCell) : Prop := I64 c.R ∧ I64 c.A.Fg ∧ I64 c.A.Bg
theorem cell_rep {w : World} {c : DCell} (h : cellI c) : Rep.rep w (cv c) c := by
  unfold cellI at h
  exact DCell.rep_iff.2 ⟨rfl, h.1, h.2.1, h.2.2⟩
theorem cell_of {w : World} {cs : List Value} {c : DCell} (h : Rep.rep w cs c) : cs = cv c ∧ cellI c := by
  obtain ⟨rfl, h0, h1, h2⟩ := DCell.rep_iff.1 h
  exact ⟨rfl, by unfold cellI; exact ⟨h0, h1, h2⟩⟩
/-- A slice value that reads as some cells: their places lie there. -/
theorem cells_open {w : World} {v : Value} {l : List DCell} (h : RepS w v l) : ∃ a cap, v = .slice a l.length cap ∧ (l.length ≤ 9223372036854775807 ∧ l.length ≤ cap) ∧ (∀ c ∈ l, cellI c) ∧
    (l ≠ [] → ∃ b off, a = some ⟨b, off, none⟩ ∧ ∀ (j : Nat) u, (cvs l)[j]? = some u → w.cell? ⟨b, off + j, none⟩ = some u) := by
  obtain ⟨a, cap, rfl, hl, hc⟩ := h
  refine ⟨a, cap, rfl, hl, fun c hc' => ?_, fun hne => ?_⟩
  · obtain ⟨i, hi, rfl⟩ := List.mem_iff_getElem.1 hc'
    obtain ⟨b, off, _, h⟩ := hc (List.ne_nil_of_length_pos (by omega))
    obtain ⟨r, hr, _⟩ := h i l[i] (by simp)
    exact (cell_of hr).2
  · obtain ⟨b, off, rfl, h⟩ := hc hne
    refine ⟨b, off, rfl, fun j u hu => ?_⟩
    unfold cvs at hu
    obtain ⟨r, hr, hu'⟩ := flatten_get 6 (by decide) (l.map cv) (fun r hr => by obtain ⟨c, _, rfl⟩ := List.mem_map.1 hr; rfl) j u hu
    rw [List.getElem?_map] at hr
    cases hx : l[j / 6]? with
    | none => rw [hx] at hr; simp at hr
    | some c =>
      rw [hx] at hr
      obtain rfl : cv c = r := by simpa using hr
      obtain ⟨r2, hr2, hcell⟩ := h (j / 6) c hx
      obtain ⟨rfl, _⟩ := cell_of hr2
      have := hcell (j % 6) u hu'
      rw [show off + j / 6 * Rep.size DCell + j % 6 = off + j from by
        show off + j / 6 * 6 + j % 6 = off + j
        omega] at this
      exact this
/-- A row of the call's own, read as a slice. -/
theorem cells_own {w : World} {g : Nat} {l : List DCell} (h : RowAt w g (cvs l).toArray (Rep.tid DCell)) (hi : ∀ c ∈ l, cellI c) (hl : l.length ≤ 9223372036854775807) : OwnS w (.slice (some ⟨g, 0, none⟩) l.length l.length) l [g] := by
  refine ⟨l.map cv, List.replicate l.length [], ⟨?_, .inr ⟨g, l.length, (cvs l).toArray, rfl, Nat.zero_le _, h, Nat.le_refl _, by unfold maxLen; omega, ?_, ?_⟩⟩, hl, by simp, by simp, ?_, by simp [Value.ownBlock]⟩
  · have := cvs_length l
    unfold cvs at this
    exact this
  · rw [List.size_toArray, cvs_length]; rfl
  · have := cvs_length l
    show (cvs l).take (l.length * 6) = _
    rw [List.take_of_length_le (by omega)]
    unfold cvs
    rfl
  · intro i x r f hx hr hf
    have hil : i < l.length := by rw [List.getElem?_eq_some_iff] at hx; exact hx.1
    rw [List.getElem?_map, hx] at hr
    obtain rfl : cv x = r := by simpa using hr
    rw [List.getElem?_replicate, if_pos hil] at hf
    obtain rfl : ([] : List Nat) = f := by simpa using hf
    exact Flat.own (cell_rep (hi x (List.mem_of_getElem? hx)))
theorem cells_fresh {B : Nat} {w : World} {g : Nat} {l : List DCell} (h : RowAt w g (cvs l).toArray (Rep.tid DCell)) (hi : ∀ c ∈ l, cellI c) (hl : l.length ≤ 9223372036854775807) (hB : B ≤ g) : FreshS B w (.slice (some ⟨g, 0, none⟩) l.length l.length) l :=
  ⟨[g], cells_own h hi hl, by simp, by simpa using hB⟩
/-- Some elements with others in place of those from k on. -/
def putC {α : Type} (l : List α) (k : Nat) (c : List α) : List α := l.take k ++ c ++ l.drop (k + c.length)
theorem putC_len {α : Type} {l : List α} {k : Nat} {c : List α} (h : k + c.length ≤ l.length) : (putC l k c).length = l.length := by
  unfold putC
  simp only [List.length_append, List.length_take, List.length_drop]
  omega
theorem putAt_cvs (l : List DCell) (k : Nat) (c : List DCell) : putAt (cvs l).toArray (k * 6) (cvs c) = (cvs (putC l k c)).toArray := by
  unfold putAt putC
  rw [cvs_append, cvs_append, cvs_take, cvs_drop, cvs_length]
  simp only [Nat.add_mul]
section
variable {P : Program}
theorem putAt_none (cur : Array Value) (o : Nat) : putAt cur o [] = cur := by unfold putAt; simp
/-- copy into a row of the call's own, elements of any size: all is read before anything is written. -/
theorem run_copy_rows (w : World) (dT sT ty elem : TypeId) (sz : Nat) (hu : P.underlying dT = some (.slice elem)) (hs : (P.info? elem).map (·.size) = some sz) (g o dLen dCap : Nat) (sp : Option Addr) (sLen sCap : Nat) (cur : Array Value) (e : TypeId) (hg : RowAt w g cur e)
    (cs : List Value) (n : Nat) (hn : n = Nat.min sLen dLen) (hcs : cs.length = n * sz) (hsrc : 0 < n → ∃ b off, sp = some ⟨b, off, none⟩ ∧ ∀ (j : Nat) v, cs[j]? = some v → w.cell? ⟨b, off + j, none⟩ = some v) (hfit : o + cs.length ≤ cur.size) (h1 : ∀ v ∈ cs, v.oneCell' = true) :
    (Builtin.copy_ #[dT, sT] ty #[.slice (some ⟨g, o, none⟩) dLen dCap, .slice sp sLen sCap]).run P w = .ok (goInt n) (w.setRow g (putAt cur o cs)) := by
  have hst := run_storeCells_row P g o e cs 0 cur w hg (by simpa using hfit) h1
  simp only [Nat.add_zero] at hst
  have hl : (Builtin.firstCells sz n (.slice sp sLen sCap)).run P w = .ok cs.toArray w := by
    by_cases h0 : n = 0
    · subst h0
      obtain rfl : cs = [] := List.eq_nil_of_length_eq_zero (by simpa using hcs)
      cases sp with
      | none => rfl
      | some a =>
        have := run_loadCells_list (P := P) w a [] (by simp)
        simpa [Builtin.firstCells] using this
    · obtain ⟨b, off, rfl, hc⟩ := hsrc (by omega)
      have := run_loadCells_list (P := P) w ⟨b, off, none⟩ cs (fun j v hv => by rw [addr_add]; exact hc j v hv)
      rw [hcs] at this
      exact this
  cases hq : P.info? elem with
  | none => simp [hq] at hs
  | some i =>
    have hi : i.size = sz := by simpa [hq] using hs
    simp [Builtin.copy_, run_underlying hu, Builtin.lenOf, sizeOf, typeInfo, hq, hi, ← hn, hl, hst, putAt]
theorem step_copy_rows {ops : Array Oper} {o : Oper} {a : Act} {w : World} {K : Act → World → Prop} {Q : Exit → Act → World → Prop} {E : Prop} (hgd : o.guard = none) (d s : Operand) (dT sT : TypeId)
    (ho : o.op = .call { callee := .builtin .copy, args := #[d, s], argTypes := #[dT, sT] }) (elem : TypeId) (sz : Nat) (hu : P.underlying dT = some (.slice elem)) (hs : (P.info? elem).map (·.size) = some sz)
    (g off dLen dCap : Nat) (sp : Option Addr) (sLen sCap : Nat) (hd : a.eval d = .slice (some ⟨g, off, none⟩) dLen dCap) (hsv : a.eval s = .slice sp sLen sCap) (cur : Array Value) (e : TypeId) (hg : RowAt w g cur e)
    (cs : List Value) (n : Nat) (hn : n = Nat.min sLen dLen) (hcs : cs.length = n * sz) (hsrc : 0 < n → ∃ b off, sp = some ⟨b, off, none⟩ ∧ ∀ (j : Nat) v, cs[j]? = some v → w.cell? ⟨b, off + j, none⟩ = some v) (hfit : off + cs.length ≤ cur.size) (h1 : ∀ v ∈ cs, v.oneCell' = true)
    (h : ∀ w', RowAt w' g (putAt cur off cs) e → Moved g w w' → K (a.put o.dst (goInt n)) w') :
    if Region.wanted o (yielded ops a.tmps) = true then Oper.wp P o a w K Q else E := by
  have hw : Region.wanted o (yielded ops a.tmps) = true := by simp [Region.wanted, hgd]
  rw [if_pos hw]
  have hrun := run_copy_rows (P := P) w dT sT o.type elem sz hu hs g off dLen dCap sp sLen sCap cur e hg cs n hn hcs hsrc hfit h1
  unfold Oper.wp
  simp [execOp, ho, resolve, invoke, builtin, hd, hsv, hrun, Result.andThen]
  exact h _ (hg.setRow (by unfold putAt; simp; omega)) (Moved.row rfl)
theorem wpList_copy_rows {ops : Array Oper} {rest : List Oper} {o : Oper} {a : Act} {w : World} {Q : Exit → Act → World → Prop} (hgd : o.guard = none) (d s : Operand) (dT sT : TypeId)
    (ho : o.op = .call { callee := .builtin .copy, args := #[d, s], argTypes := #[dT, sT] }) (elem : TypeId) (sz : Nat) (hu : P.underlying dT = some (.slice elem)) (hs : (P.info? elem).map (·.size) = some sz)
    (g off dLen dCap : Nat) (sp : Option Addr) (sLen sCap : Nat) (hd : a.eval d = .slice (some ⟨g, off, none⟩) dLen dCap) (hsv : a.eval s = .slice sp sLen sCap) (cur : Array Value) (e : TypeId) (hg : RowAt w g cur e)
    (cs : List Value) (n : Nat) (hn : n = Nat.min sLen dLen) (hcs : cs.length = n * sz) (hsrc : 0 < n → ∃ b off, sp = some ⟨b, off, none⟩ ∧ ∀ (j : Nat) v, cs[j]? = some v → w.cell? ⟨b, off + j, none⟩ = some v) (hfit : off + cs.length ≤ cur.size) (h1 : ∀ v ∈ cs, v.oneCell' = true)
    (h : ∀ w', RowAt w' g (putAt cur off cs) e → Moved g w w' → wpList P ops Q rest (a.put o.dst (goInt n)) w') : wpList P ops Q (o :: rest) a w := by
  refine wpList_plain hgd fun K hK => ?_
  have hrun := run_copy_rows (P := P) w dT sT o.type elem sz hu hs g off dLen dCap sp sLen sCap cur e hg cs n hn hcs hsrc hfit h1
  unfold Oper.wp
  simp [execOp, ho, resolve, invoke, builtin, hd, hsv, hrun, Result.andThen]
  exact hK _ _ (h _ (hg.setRow (by unfold putAt; simp; omega)) (Moved.row rfl))
end
end Go.Mux
