/- slices.Clone at the element types that own nothing: its walks. -/
import Derived.Test.YtaobgfneeijpmaaClone
import Derived.Test.YtaobgfneeijpmaaTo
set_option linter.unusedSimpArgs false
set_option linter.unusedVariables false
namespace Go.Mux
open Go.RowKit
instance : Flat DCell := ⟨fun h => by
  obtain ⟨rfl, h0, h1, h2⟩ := DCell.rep_iff.1 h
  exact DCell.own_iff.2 ⟨rfl, h0, h1, h2, rfl⟩⟩
end Go.Mux
namespace Go.Proofs.Ytaobgfneeijpmaa
open Go.RowKit Go.Mux
set_option maxRecDepth 100000 in
set_option maxHeartbeats 400000 in
theorem clone_Cell (w : World) (v : Value) (l : List DCell) (h : RepS w v l) (hl : l.length ≤ 2097152) :
    Calls Try.prog 63 #[v] w (Gives w fun r w' => FreshS w.heap.size w' r l) := by
  obtain ⟨a, n, cap, rfl⟩ := h.shape
  obtain ⟨rows, fps, hr, hf, hc⟩ := RepS.rows (of_decide_eq_true (by kernel_rfl)) h
  have hn : n = l.length := by obtain ⟨_, _, e, _⟩ := h; injection e
  subst hn
  have HR := Lib.hid hr
  have HF := Lib.hid hf
  have HC := Lib.hid hc
  have hnil := fun wx => Lib.run_eql_slice_nil (P := Try.prog) wx 23 37 a l.length cap 0 0 Try.underlying23
  clear hr hf hc h
  cases a with
  | none =>
    have hl0 : l = [] := by
      by_cases hne : l = []
      · exact hne
      · obtain ⟨_, _, e, _⟩ := HC.out hne
        cases e
    subst hl0
    have hnil2 := fun wx => Lib.run_eql_slice_nil (P := Try.prog) wx 23 37 none 0 cap 0 0 Try.underlying23
    clear hnil
    simp only [List.length_nil]
    go_enter Try.func63, Try.ntmps63
    go_wp2
    go_ret
    exact ⟨_, rfl, ⟨[], ⟨[], [], ⟨by simp, .inl ⟨rfl, rfl⟩⟩, by simp, rfl, rfl, by simp, by simp [Value.ownBlock]⟩, by simp, by simp⟩, Below.refl _ _⟩
  | some ad =>
    have HE := Lib.hid (OwnS.empty (α := DCell) (e := 37) rfl (heap_alloc_new w (.cells #[] 37)))
    have HR2 := Lib.hid (HR.out.keep (w' := w.alloc (.cells #[] 37)) (fun b hb => by rw [HF.out] at hb; simp at hb))
    have HC2 : Hid (l ≠ [] → ∃ b off, some ad = some ⟨b, off, none⟩ ∧ ∀ (j : Nat) u, rows.flatten[j]? = some u → (w.alloc (.cells #[] 37)).cell? ⟨b, off + j, none⟩ = some u) := by
      intro hne
      obtain ⟨b, off, e, h⟩ := HC.out hne
      exact ⟨b, off, e, fun j u hu => (World.cell?_alloc_lt w _ ⟨b, off + j, none⟩ (World.block_lt_of_cell? w _ (h j u hu))).trans (h j u hu)⟩
    go_enter Try.func63, Try.ntmps63
    go_wp2_with (at_builtin; refine wpList_append_rep (α := DCell) rfl _ _ 23 rfl 37 _ _ Try.underlying23 info_implCell rfl rfl (of_decide_eq_true (by kernel_rfl)) _ [] _ rfl HE.out _ _ cap rfl l rfl rows fps HR2.out (by rw [HF.out]; simp) HC2.out (fun _ => .inr trivial) (by simp; omega) (by simp; omega) ?_; intro v' w' fp' HO' HN' HF' HG HOB; have HB' := Lib.hid (Below.grown (bel_alloc (Below.refl w.heap.size w) (.cells #[] 37)) HG (by simp) (fun g hg => by have := HOB g hg; simp at this; omega)); have HZ := Lib.hid (show FreshS w.heap.size w' v' l from ⟨fp', by simpa using HO', HN', fun b hb => by rcases HF' b hb with h | h | h <;> simp [HF.out] at h <;> omega⟩); clear HO' HN' HF' HG HOB)
    go_ret
    exact ⟨_, rfl, HZ.out, HB'.out⟩
end Go.Proofs.Ytaobgfneeijpmaa
