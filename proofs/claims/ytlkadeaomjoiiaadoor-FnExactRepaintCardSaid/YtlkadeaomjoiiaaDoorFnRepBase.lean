/- What Repaint is in plain words: the stretches of cells in which two grids differ. -/
import Derived.Test.YtlkadeaomjoiiaaDoorFnPaintBase
import Derived.Test.YtlkadeaomjoiiaaDoorAppStr2
set_option linter.unusedSimpArgs false
set_option linter.unusedVariables false
namespace Go.Mux
open Go.RowKit
/-- The first index from n - k on at which two rows are alike, or n. -/
def alikeFrom (a b : List DCell) (n : Nat) : Nat → Nat
  | 0 => n
  | k + 1 => match a[n - (k + 1)]?, b[n - (k + 1)]? with
    | some p, some q => if cellSame p q then n - (k + 1) else alikeFrom a b n k
    | _, _ => n - (k + 1)
def alike (a b : List DCell) (n x : Nat) : Nat := alikeFrom a b n (n - x)
theorem alikeFrom_le (a b : List DCell) (n : Nat) : ∀ k : Nat, k ≤ n → n - k ≤ alikeFrom a b n k ∧ alikeFrom a b n k ≤ n
  | 0, _ => by simp [alikeFrom]
  | k + 1, h => by
    have ih := alikeFrom_le a b n k (by omega)
    unfold alikeFrom
    split
    · split <;> omega
    · omega
theorem alike_le (a b : List DCell) {n x : Nat} (h : x ≤ n) : x ≤ alike a b n x ∧ alike a b n x ≤ n := by
  have := alikeFrom_le a b n (n - x) (by omega)
  unfold alike
  omega
theorem alike_end (a b : List DCell) (n : Nat) : alike a b n n = n := by
  unfold alike
  rw [Nat.sub_self, alikeFrom]
theorem alike_same {a b : List DCell} {n x : Nat} {p q : DCell} (h : x < n) (ha : a[x]? = some p) (hb : b[x]? = some q) (hs : cellSame p q = true) : alike a b n x = x := by
  unfold alike
  obtain ⟨k, hk⟩ : ∃ k, n - x = k + 1 := ⟨n - x - 1, by omega⟩
  rw [hk, alikeFrom, show n - (k + 1) = x by omega, ha, hb]
  simp [hs]
theorem alike_diff {a b : List DCell} {n x : Nat} {p q : DCell} (h : x < n) (ha : a[x]? = some p) (hb : b[x]? = some q) (hs : cellSame p q = false) : alike a b n x = alike a b n (x + 1) := by
  unfold alike
  obtain ⟨k, hk⟩ : ∃ k, n - x = k + 1 := ⟨n - x - 1, by omega⟩
  rw [hk, alikeFrom, show n - (k + 1) = x by omega, ha, hb, show n - (x + 1) = k by omega]
  simp [hs]
/-- The bytes for a row from x on. -/
def repRow (g : DGrid) (y : Int) (a b : List DCell) (n : Nat) (x : Nat) : List UInt8 :=
  if h : x < n then runOut g y (x : Int) (alike a b n x : Nat) ++ repRow g y a b n (alike a b n x + 1) else []
termination_by n - x
decreasing_by
  have := alike_le a b (show x ≤ n by omega)
  omega
theorem repRow_end (g : DGrid) (y : Int) (a b : List DCell) {n x : Nat} (h : n ≤ x) : repRow g y a b n x = [] := by
  rw [repRow, dif_neg (by omega)]
theorem repRow_step (g : DGrid) (y : Int) (a b : List DCell) {n x : Nat} (h : x < n) : repRow g y a b n x = runOut g y (x : Int) (alike a b n x : Nat) ++ repRow g y a b n (alike a b n x + 1) := by
  rw [repRow, dif_pos h]
theorem repRow_len (g : DGrid) (y : Int) (a b : List DCell) (n : Nat) : ∀ k x : Nat, n - x ≤ k → (repRow g y a b n x).length ≤ k * 16384
  | 0, x, h => by rw [repRow_end g y a b (by omega)]; simp
  | k + 1, x, h => by
    by_cases hx : x < n
    · have h1 := alike_le a b (show x ≤ n by omega)
      have h2 := repRow_len g y a b n k (alike a b n x + 1) (by omega)
      have h3 := runOut_wt g y (x : Int) (alike a b n x : Nat)
      rw [repRow_step g y a b hx, List.length_append]
      omega
    · rw [repRow_end g y a b (by omega)]; simp
def repRows (a b : DGrid) : Nat → List UInt8
  | 0 => []
  | k + 1 => repRows a b k ++ repRow b (k : Int) (rowOf a (k : Int)) (rowOf b (k : Int)) (rowOf b (k : Int)).length 0
theorem repRows_len (a b : DGrid) (hb : gridOkB b = true) : ∀ k : Nat, (k : Int) ≤ b.H → (repRows a b k).length ≤ k * 1966080
  | 0, _ => by simp [repRows]
  | k + 1, h => by
    have h1 := repRows_len a b hb k (by omega)
    have h2 := rowOf_len hb (show (0 : Int) ≤ (k : Int) by omega) (show (k : Int) < b.H by omega)
    obtain ⟨s1, s2, _⟩ := gridOkB_size hb
    have h3 := repRow_len b (k : Int) (rowOf a (k : Int)) (rowOf b (k : Int)) (rowOf b (k : Int)).length 120 0 (by omega)
    rw [repRows, List.length_append]
    omega
@[irreducible] def repOk (a b : DView) : Bool := viewOk a && (viewOk b && (decide (a.Grid.W = b.Grid.W) && decide (a.Grid.H = b.Grid.H)))
def repAll (a b : DView) : List UInt8 := repRows a.Grid b.Grid b.Grid.H.toNat
@[irreducible] def repStill (a b : DView) : Bool := decide ((repAll a b).length = 0) && (decide (a.X = b.X) && (decide (a.Y = b.Y) && decide (a.Hide = b.Hide)))
@[irreducible] def repaint (a b : DView) : List UInt8 × Bool := if repOk a b then (if repStill a b then ([], true) else (repAll a b ++ (viewEnds b).data.toList, true)) else ([], false)
theorem repaint_wt (a b : DView) : (repaint a b).1.length ≤ 240000000 := by
  unfold repaint
  cases h : repOk a b
  · simp
  · cases h2 : repStill a b
    · have h3 := viewEnds_size b
      have e : (viewEnds b).data.toList.length = (viewEnds b).size := Array.length_toList
      have hg : gridOkB b.Grid = true := by
        unfold repOk viewOk at h
        simp only [Bool.and_eq_true] at h
        exact h.2.1.1
      obtain ⟨s1, s2, s3, s4, _⟩ := gridOkB_size hg
      have hp := repRows_len a.Grid b.Grid hg b.Grid.H.toNat (by omega)
      have hk : b.Grid.H.toNat * 1966080 ≤ 120 * 1966080 := Nat.mul_le_mul_right _ (by omega)
      simp only [if_true, Bool.false_eq_true, if_false]
      rw [List.length_append]
      unfold repAll
      omega
    · simp
end Go.Mux
