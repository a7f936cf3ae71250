/- slices.Delete at a slice of the call's own: the plain law of taking one element out. -/
import Derived.Test.YtaobgfneeijpmaaMarkBase
import Derived.Deep.RegionLaw
import Derived.Lib.SliceRun
set_option linter.unusedSimpArgs false
set_option linter.unusedVariables false
namespace Go.Mux
open Go.RowKit
section
variable {P : Program}
theorem setCells_row (w : World) (g off : Nat) (e : TypeId) (cs : List Value) (cur : Array Value) (hg : RowAt w g cur e) (hfit : off + cs.length ≤ cur.size) (h1 : ∀ u ∈ cs, u.oneCell' = true) :
    w.setCells g off cs = w.setRow g (putAt cur off cs) := by
  have hst := run_storeCells_row (default : Program) g off e cs 0 cur w hg (by simpa using hfit) h1
  simp only [Nat.add_zero] at hst
  have hst2 := run_storeCells_cells (P := (default : Program)) g off cs 0 w (fun j hj => by rw [hg.cell]; simp; omega) (fun j hj => hg.frozen (by omega)) h1
  simp only [Nat.add_zero] at hst2
  rw [hst] at hst2
  injection hst2 with _ h
  exact h.symm
/-- 'clear(s)' at elements of any size. -/
theorem run_clear_row (w : World) (t e ty : TypeId) (z : Value) (g off n c : Nat) (ht : P.underlying t = some (.slice e)) (hv : ∀ w, (zeroValue e).run P w = .ok z w) (h1 : ∀ u ∈ (Builtin.zeroCells z.cells n).toList, u.oneCell' = true) (hn : 0 < n) (e' : TypeId)
    (cur : Array Value) (hg : RowAt w g cur e') (hfit : off + n * z.cells.size ≤ cur.size) :
    (Builtin.clear_ #[t] ty #[.slice (some ⟨g, off, none⟩) n c]).run P w = .ok (.tuple #[]) (w.setRow g (putAt cur off (Builtin.zeroCells z.cells n).toList)) := by
  have hst := run_storeCells_row P g off e' (Builtin.zeroCells z.cells n).toList 0 cur w hg (by simpa [Builtin.zeroCells] using hfit) h1
  simp only [Nat.add_zero] at hst
  obtain ⟨m, rfl⟩ : ∃ m, n = m + 1 := ⟨n - 1, by omega⟩
  simp [Builtin.clear_, run_underlying ht, hv, hst, putAt]

theorem flatten_take {β : Type} (size : Nat) : ∀ (rows : List (List β)) (j : Nat), (∀ q ∈ rows, q.length = size) → (rows.take j).flatten = rows.flatten.take (j * size)
  | [], j, _ => by simp
  | q :: rows, 0, _ => by simp
  | q :: rows, j + 1, hs => by
    have hq : q.length = size := hs q (by simp)
    have ih := flatten_take size rows j (fun q h => hs q (by simp [h]))
    rw [List.take_succ_cons, List.flatten_cons, List.flatten_cons, ih, show (j + 1) * size = q.length + j * size by rw [hq, Nat.add_mul]; omega, List.take_length_add_append]
theorem flatten_drop {β : Type} (size : Nat) : ∀ (rows : List (List β)) (j : Nat), (∀ q ∈ rows, q.length = size) → (rows.drop j).flatten = rows.flatten.drop (j * size)
  | [], j, _ => by simp
  | q :: rows, 0, _ => by simp
  | q :: rows, j + 1, hs => by
    have hq : q.length = size := hs q (by simp)
    have ih := flatten_drop size rows j (fun q h => hs q (by simp [h]))
    rw [List.drop_succ_cons, List.flatten_cons, ih, show (j + 1) * size = q.length + j * size by rw [hq, Nat.add_mul]; omega, List.drop_length_add_append]

/-- One element taken out of a slice of the call's own. -/
theorem OwnS.delete {α : Type} [Rep α] {w : World} {v : Value} {l : List α} {fp : List Nat} (h : OwnS w v l fp) (hn : fp.Nodup) {k : Nat} (hk : k < l.length) :
    ∃ g cap cur news, v = .slice (some ⟨g, 0, none⟩) l.length cap ∧ g ∈ fp ∧ RowAt w g cur (Rep.tid α) ∧ cur.size = cap * Rep.size α ∧ l.length ≤ cap ∧ cap ≤ 9223372036854775807 ∧
      news.length = (l.length - (k + 1)) * Rep.size α ∧ (∀ u ∈ news, u.oneCell' = true) ∧ (∀ (j : Nat) u, news[j]? = some u → cur[(k + 1) * Rep.size α + j]? = some u) ∧
      ∀ (w2 : World) (cur2 : Array Value), RowAt w2 g cur2 (Rep.tid α) → cur2.size = cur.size → cur2.toList.take ((l.length - 1) * Rep.size α) = (putAt cur (k * Rep.size α) news).toList.take ((l.length - 1) * Rep.size α) → (∀ b ∈ fp, b ≠ g → w2.heap[b]? = w.heap[b]?) →
        ∃ fp', OwnS w2 (.slice (some ⟨g, 0, none⟩) (l.length - 1) cap) (l.eraseIdx k) fp' ∧ fp'.Nodup ∧ ∀ b ∈ fp', b ∈ fp := by
  obtain ⟨rows, fps, hown, hl, hrl, hfl, hel, rfl⟩ := h
  rcases hown.2 with ⟨_, h0⟩ | ⟨g, cap, cur, rfl, hb, hg, hnc, hcm, hcs, htake⟩
  · omega
  have hR : Rows w l rows fps := ⟨hrl, hfl, hel⟩
  have hsz : ∀ q ∈ rows, q.length = Rep.size α := by
    intro q hq
    obtain ⟨i, hi, rfl⟩ := List.mem_iff_getElem.1 hq
    exact Rep.len (Rep.ownRep (hel i l[i] rows[i] fps[i] (by simp [show i < l.length from by omega]) (by simp [hi]) (by simp [show i < fps.length from by omega])))
  simp only [Value.ownBlock, Option.toList_some, List.singleton_append, List.nodup_cons] at hn
  have hlen := hown.1
  have hmul : (k + 1) * Rep.size α ≤ l.length * Rep.size α := Nat.mul_le_mul_right _ hk
  have hcap : l.length * Rep.size α ≤ cur.size := by rw [hcs]; exact Nat.mul_le_mul_right _ hnc
  have hnl : (rows.drop (k + 1)).flatten.length = (l.length - (k + 1)) * Rep.size α := by
    rw [flatten_drop (Rep.size α) rows (k + 1) hsz, List.length_drop, hlen, Nat.sub_mul]
  refine ⟨g, cap, cur, (rows.drop (k + 1)).flatten, rfl, by simp [Value.ownBlock], hg, hcs, hnc, by simpa [maxLen] using hcm, hnl, ?_, ?_, ?_⟩
  · intro u hu
    obtain ⟨r, hr, hur⟩ := List.mem_flatten.1 hu
    exact hR.one_cell u (List.mem_flatten.2 ⟨r, List.mem_of_mem_drop hr, hur⟩)
  · intro j u hu
    rw [flatten_drop (Rep.size α) rows (k + 1) hsz, List.getElem?_drop, ← htake] at hu
    rw [List.getElem?_take] at hu
    split at hu
    · simpa using hu
    · cases hu
  · intro w2 cur2 hg2 hs2 ht2 hk2
    have hsub : (fps.eraseIdx k).flatten.Sublist fps.flatten := by
      have e : fps.flatten = (fps.take k).flatten ++ (fps.drop k).flatten := by rw [← List.flatten_append, List.take_append_drop]
      rw [e, List.eraseIdx_eq_take_drop_succ, List.flatten_append]
      refine List.Sublist.append (List.Sublist.refl _) ?_
      rw [List.drop_eq_getElem_cons (show k < fps.length by omega), List.flatten_cons]
      exact List.sublist_append_right _ _
    have hle : (l.eraseIdx k).length = l.length - 1 := List.length_eraseIdx_of_lt hk
    refine ⟨g :: (fps.eraseIdx k).flatten, ⟨rows.eraseIdx k, fps.eraseIdx k, ⟨?_, .inr ⟨g, cap, cur2, by rw [hle], hb, hg2, by omega, hcm, by omega, ?_⟩⟩, by omega, by rw [List.length_eraseIdx_of_lt (by omega), hle, hrl], by rw [List.length_eraseIdx_of_lt (by omega), hle, hfl], ?_, by simp [Value.ownBlock]⟩, ?_, ?_⟩
    · have : (rows.eraseIdx k).flatten.length = (rows.eraseIdx k).length * Rep.size α := by
        rw [List.length_flatten]
        have hq : (rows.eraseIdx k).map List.length = List.replicate (rows.eraseIdx k).length (Rep.size α) := by
          rw [List.eq_replicate_iff]
          refine ⟨by simp, fun b hb => ?_⟩
          obtain ⟨r, hr, rfl⟩ := List.mem_map.1 hb
          exact hsz r ((List.eraseIdx_sublist rows k).subset hr)
        rw [hq, List.sum_replicate_nat]
      rw [this, List.length_eraseIdx_of_lt (by omega), hle, hrl]
    · rw [hle, ht2, List.eraseIdx_eq_take_drop_succ, List.flatten_append]
      unfold putAt
      rw [List.append_assoc, ← List.append_assoc, List.take_append_of_le_length (by simp only [List.length_append, List.length_take, hnl, Array.length_toList]; rw [Nat.min_eq_left (by rw [Nat.add_mul] at hmul; omega), ← Nat.add_mul]; exact Nat.mul_le_mul_right _ (by omega)), List.take_of_length_le (by simp only [List.length_append, List.length_take, hnl, Array.length_toList]; rw [Nat.min_eq_left (by rw [Nat.add_mul] at hmul; omega), ← Nat.add_mul]; exact Nat.mul_le_mul_right _ (by omega))]
      rw [flatten_take (Rep.size α) rows k hsz, ← htake, List.take_take, Nat.min_eq_left (by rw [Nat.add_mul] at hmul; omega)]
    · intro i y r f hy hr hf
      by_cases hi : i < k
      · rw [List.getElem?_eraseIdx_of_lt hi] at hy hr hf
        exact Rep.ownMono (hel i y r f hy hr hf) fun b hbf => hk2 b (by simp [Value.ownBlock]; exact .inr (by simpa using (List.mem_flatten.2 ⟨f, List.mem_of_getElem? hf, hbf⟩ : b ∈ fps.flatten))) (fun e => hn.1 (e ▸ List.mem_flatten.2 ⟨f, List.mem_of_getElem? hf, hbf⟩))
      · rw [List.getElem?_eraseIdx_of_ge (by omega)] at hy hr hf
        exact Rep.ownMono (hel (i + 1) y r f hy hr hf) fun b hbf => hk2 b (by simp [Value.ownBlock]; exact .inr (by simpa using (List.mem_flatten.2 ⟨f, List.mem_of_getElem? hf, hbf⟩ : b ∈ fps.flatten))) (fun e => hn.1 (e ▸ List.mem_flatten.2 ⟨f, List.mem_of_getElem? hf, hbf⟩))
    · exact List.nodup_cons.2 ⟨fun hm => hn.1 (hsub.subset hm), hsub.nodup hn.2⟩
    · intro b hb
      simp only [Value.ownBlock, Option.toList_some, List.singleton_append, List.mem_cons] at hb ⊢
      exact hb.imp_right fun h => hsub.subset h
end
end Go.Mux
