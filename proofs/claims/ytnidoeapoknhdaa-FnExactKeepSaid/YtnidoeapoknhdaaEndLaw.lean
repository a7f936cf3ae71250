/- What TableEnd answers: the program's form and the reference's, and that they are one. -/
import Derived.Test.YtnidoeapoknhdaaFnTableOk
import Derived.Test.YtnidoeapoknhdaaMarkBase
set_option linter.unusedSimpArgs false
set_option linter.unusedVariables false
namespace Go.Mux
open Go.RowKit
@[irreducible] def tableEnd (x : DTable) (n : Int) : DTable × Int :=
  if tableOk x then (if procAtI x.Live n < 0 then (x, 0) else ({ x with Live := x.Live.eraseIdx (procAtI x.Live n).toNat }, ((x.Live[(procAtI x.Live n).toNat]?).map DProc.Pane).getD 0)) else (⟨0, [], []⟩, 0)
theorem MarkedOn.heap_eq {fp : List Nat} {w w' : World} (h : MarkedOn fp w w') {b : Nat} (hb : b < w.heap.size) (hn : b ∉ fp) : (∀ o, w'.cell? ⟨b, o, none⟩ = w.cell? ⟨b, o, none⟩) ∧ ∀ o, w'.frozen? ⟨b, o, none⟩ = w.frozen? ⟨b, o, none⟩ := by
  have e := h.block b hb hn
  constructor <;> intro o
  · simp only [World.cell?, e]
  · simp only [World.frozen?, e]
theorem row_new (w : World) (r : List Value) (t : TypeId) {g : Nat} (hg : g = w.heap.size) : ∀ (j : Nat) y, [r].flatten[j]? = some y → (w.alloc (.cells r.toArray t)).cell? ⟨g, 0 + j, none⟩ = some y := by
  subst hg
  intro j y hy
  have := cell_of_row (w.alloc (.cells r.toArray t)) w.heap.size j r.toArray t (0, 0) (heap_alloc_new w _)
  rw [Nat.zero_add, this]
  simpa using hy
/-- The reference's rows and pane. -/
@[irreducible] def endRows (n : Int) (l : List DProc) : List DProc := l.filter fun p => !pidIsB n p
@[irreducible] def endPane (n : Int) (l : List DProc) : Int := l.foldl (fun a p => if pidIsB n p then p.Pane else a) 0
theorem endRows_nil (n : Int) : endRows n [] = [] := by unfold endRows; rfl
theorem endPane_nil (n : Int) : endPane n [] = 0 := by unfold endPane; rfl
theorem end_other {n : Int} {l : List DProc} {k : Nat} {p : DProc} (hx : l[k]? = some p) (h : (p.Pid == n) = false) : endRows n (l.take (k + 1)) = endRows n (l.take k) ++ [p] ∧ endPane n (l.take (k + 1)) = endPane n (l.take k) := by
  have e : pidIsB n p = false := by unfold pidIsB; exact h
  rw [List.take_add_one, hx]
  unfold endRows endPane
  simp [e]
theorem end_this {n : Int} {l : List DProc} {k : Nat} {p : DProc} (hx : l[k]? = some p) (h : (p.Pid == n) = true) : endRows n (l.take (k + 1)) = endRows n (l.take k) ∧ endPane n (l.take (k + 1)) = p.Pane := by
  have e : pidIsB n p = true := by unfold pidIsB; exact h
  rw [List.take_add_one, hx]
  unfold endRows endPane
  simp [e]
theorem endPane_none (n : Int) : ∀ (l : List DProc) (a : Int), (∀ p ∈ l, pidIsB n p = false) → l.foldl (fun a p => if pidIsB n p then p.Pane else a) a = a
  | [], a, _ => rfl
  | p :: l, a, h => by
    rw [List.foldl_cons, h p (by simp)]
    exact endPane_none n l a fun q hq => h q (by simp [hq])
theorem pids_step {x : DTable} (h : tableOk x = true) {k : Nat} {p q : DProc} (hp : x.Live[k]? = some p) (hq : x.Live[k + 1]? = some q) : p.Pid < q.Pid := by
  unfold tableOk at h
  rw [Bool.and_eq_true, List.all_eq_true] at h
  have hk : k + 1 < x.Live.length := by rw [List.getElem?_eq_some_iff] at hq; exact hq.1
  have := h.2 (k + 1) (List.mem_range.2 hk)
  simp only [hq] at this
  unfold rowBad at this
  simp [hp] at this
  omega
theorem pids_lt {x : DTable} (h : tableOk x = true) : ∀ (d i : Nat) (p q : DProc), x.Live[i]? = some p → x.Live[i + d + 1]? = some q → p.Pid < q.Pid
  | 0, i, p, q, hp, hq => pids_step h hp hq
  | d + 1, i, p, q, hp, hq => by
    have hk : i + (d + 1) + 1 < x.Live.length := by rw [List.getElem?_eq_some_iff] at hq; exact hq.1
    have hm : x.Live[i + d + 1]? = some x.Live[i + d + 1] := by simp
    exact Int.lt_trans (pids_lt h d i p _ hp hm) (pids_step h hm hq)
theorem tableEnd_eq {x : DTable} (n : Int) (h : tableOk x = true) : tableEnd x n = ({ x with Live := endRows n x.Live }, endPane n x.Live) := by
  unfold tableEnd
  rw [if_pos h]
  cases hf : x.Live.findIdx? (pidIsB n) with
  | none =>
    have e : procAtI x.Live n = -1 := by unfold procAtI idxOf; rw [hf]
    rw [List.findIdx?_eq_none_iff] at hf
    rw [if_pos (by rw [e]; omega)]
    have e1 : endRows n x.Live = x.Live := by unfold endRows; rw [List.filter_eq_self]; intro p hp; simp [hf p hp]
    have e2 : endPane n x.Live = 0 := by unfold endPane; exact endPane_none n _ _ hf
    rw [e1, e2]
  | some k =>
    have e : procAtI x.Live n = (k : Int) := by unfold procAtI idxOf; rw [hf]
    rw [List.findIdx?_eq_some_iff_getElem] at hf
    obtain ⟨hk, hp, hno⟩ := hf
    have hk' : x.Live[k]? = some x.Live[k] := by simp
    rw [if_neg (by rw [e]; omega), e, Int.toNat_natCast, hk']
    have a1 : ∀ p ∈ x.Live.take k, pidIsB n p = false := by
      intro p hm
      obtain ⟨j, hj, rfl⟩ := List.mem_take_iff_getElem.1 hm
      have := hno j (by omega)
      simpa using this
    have a2 : ∀ p ∈ x.Live.drop (k + 1), pidIsB n p = false := by
      intro p hm
      obtain ⟨d, hd, rfl⟩ := List.mem_drop_iff_getElem.1 hm
      have := pids_lt h d k x.Live[k] x.Live[k + 1 + d] hk' (by simp [show k + d + 1 = k + 1 + d from by omega])
      unfold pidIsB at hp ⊢
      simp at hp ⊢
      omega
    have e0 : x.Live = x.Live.take k ++ x.Live[k] :: x.Live.drop (k + 1) := by simp
    have e1 : endRows n x.Live = x.Live.eraseIdx k := by
      rw [List.eraseIdx_eq_take_drop_succ]
      unfold endRows
      conv => lhs; rw [e0]
      rw [List.filter_append, List.filter_cons_of_neg (by simp [hp]), List.filter_eq_self.2 (fun p h => by simp [a1 p h]), List.filter_eq_self.2 (fun p h => by simp [a2 p h])]
    have e2 : endPane n x.Live = x.Live[k].Pane := by
      unfold endPane
      conv => lhs; rw [e0]
      rw [List.foldl_append, List.foldl_cons, hp, if_pos rfl]
      exact endPane_none n _ _ a2
    rw [e1, e2]
    rfl
end Go.Mux
