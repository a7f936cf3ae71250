/- slices.Clone at the element types that own nothing: its walks. -/
import Derived.Test.YtnidoeapoknhdaaClone
namespace Go.Mux
open Go.RowKit
instance : Flat DProc := ⟨fun {w cs x} h => @Flat.own (Int × Int) _ _ w cs x.prod h⟩
instance : Flat DAsk := ⟨fun {w cs x} h => @Flat.own (Int × ByteArray × ByteArray × Int × Int × Int) _ _ w cs x.prod h⟩
end Go.Mux
namespace Go.Proofs.Ytnidoeapoknhdaa
open Go.RowKit Go.Mux
set_option maxRecDepth 100000 in
set_option maxHeartbeats 400000 in
theorem clone_Proc (w : World) (v : Value) (l : List DProc) (h : RepS w v l) (hl : l.length ≤ 2097152) :
    Calls Try.prog 83 #[v] w (Gives w fun r w' => FreshS w.heap.size w' r l) := by
  obtain ⟨a, n, cap, rfl⟩ := h.shape
  obtain ⟨rows, fps, hr, hf, hc⟩ := RepS.rows (of_decide_eq_true (by kernel_rfl)) h
  have hn : n = l.length := by obtain ⟨_, _, e, _⟩ := h; injection e
  subst hn
  have HR := Lib.hid hr
  have HF := Lib.hid hf
  have HC := Lib.hid hc
  have hnil := fun wx => Lib.run_eql_slice_nil (P := Try.prog) wx 50 85 a l.length cap 0 0 Try.underlying50
  clear hr hf hc h
  cases a with
  | none =>
    have hl0 : l = [] := by
      by_cases hne : l = []
      · exact hne
      · obtain ⟨_, _, e, _⟩ := HC.out hne
        cases e
    subst hl0
    have hnil2 := fun wx => Lib.run_eql_slice_nil (P := Try.prog) wx 50 85 none 0 cap 0 0 Try.underlying50
    clear hnil
    simp only [List.length_nil]
    go_enter Try.func83, Try.ntmps83
    go_wp2
    go_ret
    exact ⟨_, rfl, ⟨[], ⟨[], [], ⟨by simp, .inl ⟨rfl, rfl⟩⟩, by simp, rfl, rfl, by simp, by simp [Value.ownBlock]⟩, by simp, by simp⟩, Below.refl _ _⟩
  | some ad =>
    have HE := Lib.hid (OwnS.empty (α := DProc) (e := 85) rfl (heap_alloc_new w (.cells #[] 85)))
    have HR2 := Lib.hid (HR.out.keep (w' := w.alloc (.cells #[] 85)) (fun b hb => by rw [HF.out] at hb; simp at hb))
    have HC2 : Hid (l ≠ [] → ∃ b off, some ad = some ⟨b, off, none⟩ ∧ ∀ (j : Nat) u, rows.flatten[j]? = some u → (w.alloc (.cells #[] 85)).cell? ⟨b, off + j, none⟩ = some u) := by
      intro hne
      obtain ⟨b, off, e, h⟩ := HC.out hne
      exact ⟨b, off, e, fun j u hu => (World.cell?_alloc_lt w _ ⟨b, off + j, none⟩ (World.block_lt_of_cell? w _ (h j u hu))).trans (h j u hu)⟩
    go_enter Try.func83, Try.ntmps83
    go_wp2_with (at_builtin; refine wpList_append_rep (α := DProc) rfl _ _ 50 rfl 85 _ _ Try.underlying50 info_implProc rfl rfl (of_decide_eq_true (by kernel_rfl)) _ [] _ rfl HE.out _ _ cap rfl l rfl rows fps HR2.out (by rw [HF.out]; simp) HC2.out (fun _ => .inr trivial) (by simp; omega) (by simp; omega) ?_; intro v' w' fp' HO' HN' HF' HG HOB; have HB' := Lib.hid (Below.grown (bel_alloc (Below.refl w.heap.size w) (.cells #[] 85)) HG (by simp) (fun g hg => by have := HOB g hg; simp at this; omega)); have HZ := Lib.hid (show FreshS w.heap.size w' v' l from ⟨fp', by simpa using HO', HN', fun b hb => by rcases HF' b hb with h | h | h <;> simp [HF.out] at h <;> omega⟩); clear HO' HN' HF' HG HOB)
    go_ret
    exact ⟨_, rfl, HZ.out, HB'.out⟩
set_option maxRecDepth 100000 in
set_option maxHeartbeats 400000 in
theorem clone_Ask (w : World) (v : Value) (l : List DAsk) (h : RepS w v l) (hl : l.length ≤ 2097152) :
    Calls Try.prog 84 #[v] w (Gives w fun r w' => FreshS w.heap.size w' r l) := by
  obtain ⟨a, n, cap, rfl⟩ := h.shape
  obtain ⟨rows, fps, hr, hf, hc⟩ := RepS.rows (of_decide_eq_true (by kernel_rfl)) h
  have hn : n = l.length := by obtain ⟨_, _, e, _⟩ := h; injection e
  subst hn
  have HR := Lib.hid hr
  have HF := Lib.hid hf
  have HC := Lib.hid hc
  have hnil := fun wx => Lib.run_eql_slice_nil (P := Try.prog) wx 51 118 a l.length cap 0 0 Try.underlying51
  clear hr hf hc h
  cases a with
  | none =>
    have hl0 : l = [] := by
      by_cases hne : l = []
      · exact hne
      · obtain ⟨_, _, e, _⟩ := HC.out hne
        cases e
    subst hl0
    have hnil2 := fun wx => Lib.run_eql_slice_nil (P := Try.prog) wx 51 118 none 0 cap 0 0 Try.underlying51
    clear hnil
    simp only [List.length_nil]
    go_enter Try.func84, Try.ntmps84
    go_wp2
    go_ret
    exact ⟨_, rfl, ⟨[], ⟨[], [], ⟨by simp, .inl ⟨rfl, rfl⟩⟩, by simp, rfl, rfl, by simp, by simp [Value.ownBlock]⟩, by simp, by simp⟩, Below.refl _ _⟩
  | some ad =>
    have HE := Lib.hid (OwnS.empty (α := DAsk) (e := 118) rfl (heap_alloc_new w (.cells #[] 118)))
    have HR2 := Lib.hid (HR.out.keep (w' := w.alloc (.cells #[] 118)) (fun b hb => by rw [HF.out] at hb; simp at hb))
    have HC2 : Hid (l ≠ [] → ∃ b off, some ad = some ⟨b, off, none⟩ ∧ ∀ (j : Nat) u, rows.flatten[j]? = some u → (w.alloc (.cells #[] 118)).cell? ⟨b, off + j, none⟩ = some u) := by
      intro hne
      obtain ⟨b, off, e, h⟩ := HC.out hne
      exact ⟨b, off, e, fun j u hu => (World.cell?_alloc_lt w _ ⟨b, off + j, none⟩ (World.block_lt_of_cell? w _ (h j u hu))).trans (h j u hu)⟩
    go_enter Try.func84, Try.ntmps84
    go_wp2_with (at_builtin; refine wpList_append_rep (α := DAsk) rfl _ _ 51 rfl 118 _ _ Try.underlying51 info_implAsk rfl rfl (of_decide_eq_true (by kernel_rfl)) _ [] _ rfl HE.out _ _ cap rfl l rfl rows fps HR2.out (by rw [HF.out]; simp) HC2.out (fun _ => .inr trivial) (by simp; omega) (by simp; omega) ?_; intro v' w' fp' HO' HN' HF' HG HOB; have HB' := Lib.hid (Below.grown (bel_alloc (Below.refl w.heap.size w) (.cells #[] 118)) HG (by simp) (fun g hg => by have := HOB g hg; simp at this; omega)); have HZ := Lib.hid (show FreshS w.heap.size w' v' l from ⟨fp', by simpa using HO', HN', fun b hb => by rcases HF' b hb with h | h | h <;> simp [HF.out] at h <;> omega⟩); clear HO' HN' HF' HG HOB)
    go_ret
    exact ⟨_, rfl, HZ.out, HB'.out⟩
end Go.Proofs.Ytnidoeapoknhdaa
