/- The walks of OpsOf, the program's and the reference's: how many of a history's operations were not lost. -/
import Derived.Test.YtnidoeapoknhdaaEq
namespace Go.Mux
def opsOf (l : List DHist) : Nat := l.countP (fun x => !x.Lost)
theorem opsOf_succ (l : List DHist) (k : Nat) (x : DHist) (h : l[k]? = some x) : opsOf (l.take (k+1)) = opsOf (l.take k) + if x.Lost then 0 else 1 := by
  unfold opsOf
  rw [List.take_add_one, h, List.countP_append]
  cases hx : x.Lost <;> simp [hx]
theorem opsOf_le (l : List DHist) : opsOf l ≤ l.length := List.countP_le_length
end Go.Mux
namespace Go.Proofs.Ytnidoeapoknhdaa
open Go.RowKit Go.Mux
set_option maxRecDepth 100000 in
set_option maxHeartbeats 400000 in
theorem spec_OpsOf (w : World) (v : Value) (l : List DHist) (h : RepS w v l) :
    Calls Try.prog 10 #[v] w (Gives w fun r _ => r = .int .i64 (opsOf l : Nat)) := by
  obtain ⟨a, cap, rfl, hl, hc⟩ := h
  have HC := Lib.hid hc
  clear hc
  go_enter Try.func10, Try.ntmps10
  go_wp2
  go_loopw [3, 8] (fun n i wr => ∃ k : Nat, k ≤ l.length ∧ i = .int .i64 k ∧ n = .int .i64 (opsOf (l.take k) : Nat) ∧ Below w.heap.size w wr) (fun _ i _ => l.length - (intOf i).toNat)
  case atStart => exact ⟨0, Nat.zero_le _, rfl, rfl, Below.refl _ _⟩
  case round =>
    obtain ⟨k, hk, rfl, rfl, hB0⟩ := hrel
    have ho : opsOf (l.take k) ≤ k := Nat.le_trans (opsOf_le _) (by simp; omega)
    by_cases hlt : k < l.length
    · have hne : l ≠ [] := by intro e; rw [e] at hlt; simp at hlt
      obtain ⟨b, off, rfl, hc⟩ := HC.out hne
      obtain ⟨x, hx⟩ : ∃ x, l[k]? = some x := ⟨l[k], by simp [hlt]⟩
      obtain ⟨rr, hrep, hcell⟩ := hc k x hx
      have HI := Lib.hid (show (Try.prog.info? 73).map (·.size) = some rr.length by rw [Rep.len hrep]; exact size_implHist)
      have HL := Lib.hid (show ∀ (j : Nat) u, rr[j]? = some u → wr.cell? ⟨b, off + k * 9 + j, none⟩ = some u from fun j u hu => (hB0.cell (p := ⟨b, _, none⟩) (World.block_lt_of_cell? w _ (hcell j u hu))).trans (hcell j u hu))
      have HR := Lib.hid hrep
      have HX := Lib.hid hx
      obtain ⟨xa0, xn0, xc0, rfl⟩ := DHist.shape hrep
      clear hc hcell hrep hne hx
      have HS := Lib.hid (opsOf_succ l k x HX.out)
      cases hx : x.Lost
      all_goals
        go_wp2_with (with_reducible (show wpList _ _ _ (Oper.mk _ (Op.load 73 _) _ _ _ _ :: _) _ _); refine wpList_load_agg rfl 73 _ rfl b _ rfl _ _ HL.out Try.underlying73 HI.out ?_)
        go_roundw
        case rel => exact ⟨k + 1, by omega, by go_num, by rw [HS.out]; simp [hx], (by repeat (first | (with_reducible exact Below.refl _ _) | (with_reducible assumption) | (with_reducible refine bel_alloc ?_ _) | ((with_reducible refine bel_set ?_ ?_ _); rotate_left; (focus first | (simp; done) | (simp; omega)))))⟩
        case measure => simp [intOf]; omega
    · obtain rfl : k = l.length := by omega
      go_wp2
      go_ret
      exact ⟨_, rfl, by simp, hB0⟩
set_option maxRecDepth 100000 in
set_option maxHeartbeats 400000 in
theorem impl_OpsOf (w : World) (v : Value) (l : List DHist) (h : RepS w v l) :
    Calls Try.prog 12 #[v] w (Gives w fun r _ => r = .int .i64 (opsOf l : Nat)) := by
  obtain ⟨a, cap, rfl, hl, hc⟩ := h
  have HC := Lib.hid hc
  clear hc
  go_enter Try.func12, Try.ntmps12
  go_wp2
  go_loopw [3, 8] (fun n i wr => ∃ k : Nat, k ≤ l.length ∧ i = .int .i64 k ∧ n = .int .i64 (opsOf (l.take k) : Nat) ∧ Below w.heap.size w wr) (fun _ i _ => l.length - (intOf i).toNat)
  case atStart => exact ⟨0, Nat.zero_le _, rfl, rfl, Below.refl _ _⟩
  case round =>
    obtain ⟨k, hk, rfl, rfl, hB0⟩ := hrel
    have ho : opsOf (l.take k) ≤ k := Nat.le_trans (opsOf_le _) (by simp; omega)
    by_cases hlt : k < l.length
    · have hne : l ≠ [] := by intro e; rw [e] at hlt; simp at hlt
      obtain ⟨b, off, rfl, hc⟩ := HC.out hne
      obtain ⟨x, hx⟩ : ∃ x, l[k]? = some x := ⟨l[k], by simp [hlt]⟩
      obtain ⟨rr, hrep, hcell⟩ := hc k x hx
      have HI := Lib.hid (show (Try.prog.info? 73).map (·.size) = some rr.length by rw [Rep.len hrep]; exact size_implHist)
      have HL := Lib.hid (show ∀ (j : Nat) u, rr[j]? = some u → wr.cell? ⟨b, off + k * 9 + j, none⟩ = some u from fun j u hu => (hB0.cell (p := ⟨b, _, none⟩) (World.block_lt_of_cell? w _ (hcell j u hu))).trans (hcell j u hu))
      have HR := Lib.hid hrep
      have HX := Lib.hid hx
      obtain ⟨xa0, xn0, xc0, rfl⟩ := DHist.shape hrep
      clear hc hcell hrep hne hx
      have HS := Lib.hid (opsOf_succ l k x HX.out)
      cases hx : x.Lost
      all_goals
        go_wp2_with (with_reducible (show wpList _ _ _ (Oper.mk _ (Op.load 73 _) _ _ _ _ :: _) _ _); refine wpList_load_agg rfl 73 _ rfl b _ rfl _ _ HL.out Try.underlying73 HI.out ?_)
        go_roundw
        case rel => exact ⟨k + 1, by omega, by go_num, by rw [HS.out]; simp [hx], (by repeat (first | (with_reducible exact Below.refl _ _) | (with_reducible assumption) | (with_reducible refine bel_alloc ?_ _) | ((with_reducible refine bel_set ?_ ?_ _); rotate_left; (focus first | (simp; done) | (simp; omega)))))⟩
        case measure => simp [intOf]; omega
    · obtain rfl : k = l.length := by omega
      go_wp2
      go_ret
      exact ⟨_, rfl, by simp, hB0⟩
end Go.Proofs.Ytnidoeapoknhdaa
