/- The text of a mark; the loop of a marking function. -/
import Derived.Test.YtjglknaojfnllaaDoorMarkBase
import Derived.WalkLawsBesides
import Derived.Laws.IdiomStrings
set_option linter.unusedSimpArgs false
set_option linter.unusedVariables false
namespace Go.Mux
open Go.RowKit
/-- The decimal digits of n. -/
def digT (n : Nat) : List UInt8 := if n = 0 then [] else digT (n / 10) ++ [UInt8.ofNat (48 + n % 10)]
termination_by n
decreasing_by omega
theorem digT_pos {n : Nat} (h : 0 < n) : digT n = digT (n / 10) ++ [UInt8.ofNat (48 + n % 10)] := by
  rw [digT, if_neg (by omega)]
theorem digT_zero : digT 0 = [] := by rw [digT, if_pos rfl]
theorem digT_len (n : Nat) : (digT n).length ≤ n := by
  induction n using Nat.strongRecOn with
  | ind n ih =>
    rcases Nat.eq_zero_or_pos n with h | h
    · subst h; rw [digT_zero]; simp
    · rw [digT_pos h]
      have := ih (n / 10) (by omega)
      simp
      omega
/-- The text of a mark. -/
@[irreducible] def markT (k : Int) : ByteArray := ⟨(109 :: digT k.toNat).toArray⟩
theorem markT_size (k : Int) : (markT k).size ≤ k.toNat + 1 := by
  unfold markT
  have := digT_len k.toNat
  show (109 :: digT k.toNat).toArray.size ≤ _
  simp
  omega
theorem ofNat_dig (n : Nat) : ((UInt8.ofNat (48 + n % 10)).toNat : Int) = 48 + (n : Int) % 10 := by
  rw [UInt8.toNat_ofNat']
  omega
end Go.Mux
namespace Go.Proofs.YtjglknaojfnllaaDoor
open Go.RowKit Go.Mux


theorem size_int' : (Tryd.prog.info? 3).map (·.size) = some 1 := by kernel_rfl
theorem size_bool' : (Tryd.prog.info? 4).map (·.size) = some 1 := by kernel_rfl
theorem size_string' : (Tryd.prog.info? 9).map (·.size) = some 1 := by kernel_rfl
theorem size_byte' : (Tryd.prog.info? 5).map (·.size) = some 1 := by kernel_rfl
end Go.Proofs.YtjglknaojfnllaaDoor
namespace Go.Mux
open Go.RowKit
/-- The loop of a marking function at place j: the list L is there by now. -/
def MarkInv {α : Type} [Rep α] (H : α → Int → Int → Prop) (wt : α → Nat) (w : World) (v : Value) (l : List α) (k : Int) (fp : List Nat) (wr : World) (j : Nat) (q : Int) (L : List α) : Prop :=
  OwnS wr v L fp ∧ L.length = l.length ∧ L.drop j = l.drop j ∧ HoldL H (L.take j) k q ∧ MarkedOn fp w wr ∧ k ≤ q ∧ q ≤ k + (((l.take j).map wt).sum : Nat)
section
variable {α : Type} [Rep α] {H : α → Int → Int → Prop} {wt : α → Nat} {w wr W : World} {v : Value} {l L : List α} {k q : Int} {fp : List Nat} {j : Nat} {x x' : α}
theorem MarkInv.start (h : OwnS w v l fp) : MarkInv H wt w v l k fp w 0 k l := ⟨h, rfl, rfl, rfl, MarkedOn.refl _ _, Int.le_refl _, by simp⟩
theorem MarkInv.at_ (h : MarkInv H wt w v l k fp wr j q L) (hx : l[j]? = some x) : L[j]? = some x := by
  have h1 := congrArg (fun (m : List α) => m[0]?) h.2.2.1
  simp only [List.getElem?_drop, Nat.add_zero] at h1
  rw [h1]; exact hx
theorem MarkInv.bound (h : MarkInv H wt w v l k fp wr j q L) (hx : l[j]? = some x) (h0 : 1 ≤ k) {B : Int} (h1 : k + ((l.map wt).sum : Nat) ≤ B) : 1 ≤ q ∧ q + (wt x : Nat) ≤ B := by
  obtain ⟨_, _, _, _, _, h2, h3⟩ := h
  have e1 : ((l.take (j + 1)).map wt).sum = ((l.take j).map wt).sum + wt x := by
    rw [List.take_add_one, hx, List.map_append, List.sum_append]; simp
  have e2 : ((l.take (j + 1)).map wt).sum ≤ (l.map wt).sum := by
    rw [show (l.map wt).sum = ((l.take (j + 1) ++ l.drop (j + 1)).map wt).sum by rw [List.take_append_drop], List.map_append, List.sum_append]
    omega
  omega
theorem MarkInv.next {q' : Int} (h : MarkInv H wt w v l k fp wr j q L) (hx : l[j]? = some x) (ho : OwnS W v (L.set j x') fp) (hH : H x' q q') (hm : MarkedOn fp wr W) (h1 : q ≤ q') (h2 : q' ≤ q + (wt x : Nat)) :
    MarkInv H wt w v l k fp W (j + 1) q' (L.set j x') := by
  have hxL := h.at_ hx
  obtain ⟨_, hl, hd, hh, hmm, h3, h4⟩ := h
  have hj : j < L.length := by rw [List.getElem?_eq_some_iff] at hxL; exact hxL.1
  have e1 : ((l.take (j + 1)).map wt).sum = ((l.take j).map wt).sum + wt x := by
    rw [List.take_add_one, hx, List.map_append, List.sum_append]; simp
  refine ⟨ho, by simpa using hl, ?_, ?_, hmm.trans hm, by omega, by omega⟩
  · rw [List.drop_set_of_lt (by omega), ← List.drop_drop, ← List.drop_drop, hd]
  · rw [List.take_add_one, List.getElem?_set_self hj, List.take_set_of_le (Nat.le_refl _)]
    exact hh.snoc hH
theorem MarkInv.finish (h : MarkInv H wt w v l k fp wr l.length q L) : MarkOut (HoldL H) [v] fp k (l.map wt).sum w (.returned (.int .i64 q)) wr := by
  obtain ⟨ho, hl, _, hh, hmm, h3, h4⟩ := h
  rw [List.take_of_length_le (by omega)] at hh
  rw [List.take_length] at h4
  exact ⟨q, L, rfl, h3, h4, ⟨v, rfl, ho⟩, hh, hmm⟩
end
end Go.Mux
