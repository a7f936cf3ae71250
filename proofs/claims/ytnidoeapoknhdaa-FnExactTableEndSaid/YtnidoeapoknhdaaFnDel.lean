/- slices.Delete at the program's own element types: its walk over a slice of the call's own. -/
import Derived.Test.YtnidoeapoknhdaaDel
import Derived.Test.YtnidoeapoknhdaaFnClone
set_option linter.unusedSimpArgs false
set_option linter.unusedVariables false
namespace Go.Proofs.Ytnidoeapoknhdaa
open Go.RowKit Go.Mux
set_option maxRecDepth 1000000 in
set_option maxHeartbeats 4000000 in
theorem delete_Proc (w : World) (v : Value) (l : List DProc) (fp : List Nat) (k j : Nat) (h : OwnS w v l fp) (hn : fp.Nodup) (hj : j = k + 1) (hk : k < l.length) :
    Calls Try.prog 65 #[v, .int .i64 k, .int .i64 j] w fun e w' => ∃ v' fp', e = .returned v' ∧ OwnS w' v' (l.eraseIdx k) fp' ∧ fp'.Nodup ∧ (∀ b ∈ fp', b ∈ fp) ∧ MarkedOn fp w w' := by
  obtain ⟨g, cap, cur, news, rfl, hgf, hg, hcs, hnc, hcm, hnl, hn1, hnews, hfin⟩ := h.delete hn hk
  clear h hn
  have eS : Rep.size DProc = 2 := rfl
  have eT : Rep.tid DProc = 85 := rfl
  rw [eT] at hg hfin
  rw [eS] at hcs hnl hnews hfin
  rw [← hj] at hnl hnews
  generalize hL : l.length = n at hk hnc hnl hfin ⊢
  obtain ⟨i0, hi0, hz0, hz1, hz2⟩ := info_parts info_implProc
  have hzv : ∀ w, (zeroValue 85).run Try.prog w = .ok (.agg #[.int .i64 0, .int .i64 0]) w := fun w => by simp [zeroValue, typeInfo, hi0, hz0]
  have hmul : (k + 1) * 2 ≤ cap * 2 := Nat.mul_le_mul_right _ (by omega)
  obtain ⟨A, hA, hsrc⟩ : ∃ A : Addr, (if cap = j then some (⟨g, 0, none⟩ : Addr) else some ⟨g, j * 2, none⟩) = some A ∧ Hid (∀ t u, news[t]? = some u → w.drew.cell? (A.add t) = some u) := by
    by_cases hc : cap = j
    · refine ⟨⟨g, 0, none⟩, by simp [hc], fun t u hu => ?_⟩
      have h0 : news.length = 0 := by rw [hnl]; omega
      rw [List.length_eq_zero_iff.1 h0] at hu
      simp at hu
    · refine ⟨⟨g, j * 2, none⟩, by simp [hc], fun t u hu => ?_⟩
      rw [Addr.add_lit]
      exact (cell_of_row w g _ cur _ (0, 0) hg).trans (hnews t u hu)
  have s1 : Hid (news.length = (n - j) * 2) := hnl
  have s2 : Hid (∀ u ∈ news, u.oneCell' = true) := hn1
  have s3 : Hid (∀ t, t < news.length → (w.drew.cell? ⟨g, 0 + k * 2 + t, none⟩).isSome = true ∧ w.drew.frozen? ⟨g, 0 + k * 2 + t, none⟩ = false) := by
    intro t ht
    refine ⟨?_, frozen_of_row w.drew g _ cur _ hg⟩
    rw [cell_of_row w.drew g _ cur _ (0, 0) hg]
    simp; omega
  obtain ⟨W1, hW1⟩ : ∃ W1, W1 = w.drew.setCells g (0 + k * 2) news := ⟨_, rfl⟩
  have hR1 : W1 = w.drew.setRow g (putAt cur (k * 2) news) := by
    rw [hW1, Nat.zero_add]
    exact setCells_row w.drew g (k * 2) _ news cur hg (by omega) hn1
  have hg1 : W1.heap[g]? = some (.cells (putAt cur (k * 2) news) 85 (0, 0)) := by rw [hR1]; exact setRow_heap w.drew g _ _ _ (0, 0) hg
  have hsz1 : (putAt cur (k * 2) news).size = cur.size := size_putAt (by omega)
  obtain ⟨zs, hzs⟩ : ∃ zs, zs = (Builtin.zeroCells (Value.agg #[.int .i64 0, .int .i64 0]).cells (n - (k + (n - j)))).toList := ⟨_, rfl⟩
  have hzl : zs.length = (n - (k + (n - j))) * 2 := by rw [hzs]; simp [Builtin.zeroCells, Value.cells]
  have hz1' : ∀ u ∈ zs, u.oneCell' = true := by
    intro u hu
    rw [hzs] at hu
    simp only [Builtin.zeroCells, Value.cells, Array.toList_map, List.mem_map] at hu
    obtain ⟨a, _, rfl⟩ := hu
    rcases Nat.mod_two_eq_zero_or_one a with e | e <;> simp [e] <;> rfl
  have hcl : ∀ ty, (Builtin.clear_ #[50] ty #[.slice (some ⟨g, (k + (n - j)) * 2, none⟩) (n - (k + (n - j))) (cap - (k + (n - j)))]).run Try.prog W1 = .ok (.tuple #[]) (W1.setRow g (putAt (putAt cur (k * 2) news) ((k + (n - j)) * 2) zs)) := by
    intro ty
    have := run_clear_row (P := Try.prog) W1 50 85 ty (.agg #[.int .i64 0, .int .i64 0]) g ((k + (n - j)) * 2) (n - (k + (n - j))) (cap - (k + (n - j))) Try.underlying50 hzv (by rw [← hzs]; exact hz1') (by omega) _ (putAt cur (k * 2) news) hg1 (by rw [hsz1, hcs]; simp only [Value.cells, List.size_toArray, List.length_cons, List.length_nil]; omega)
    rw [← hzs] at this
    exact this
  have hW : Hid (W1 = w.drew.setCells g (0 + k * 2) news) := hW1
  have hF : Hid (∃ v' fp', (.slice (some ⟨g, 0, none⟩) (k + (n - j)) cap : Value) = v' ∧ OwnS (W1.setRow g (putAt (putAt cur (k * 2) news) ((k + (n - j)) * 2) zs)) v' (l.eraseIdx k) fp' ∧ fp'.Nodup ∧ (∀ b ∈ fp', b ∈ fp) ∧ MarkedOn fp w (W1.setRow g (putAt (putAt cur (k * 2) news) ((k + (n - j)) * 2) zs))) := by
    have hlt : g < w.heap.size := (Array.getElem?_eq_some_iff.1 hg).1
    have hoth : ∀ b, b ≠ g → (W1.setRow g (putAt (putAt cur (k * 2) news) ((k + (n - j)) * 2) zs)).heap[b]? = w.heap[b]? := by
      intro b hb
      rw [setRow_other W1 g b _ hb, hR1, setRow_other w.drew g b _ hb]
      rfl
    obtain ⟨fp', h1, h2, h3⟩ := hfin (W1.setRow g (putAt (putAt cur (k * 2) news) ((k + (n - j)) * 2) zs)) _ (setRow_heap W1 g _ _ _ (0, 0) hg1) (by rw [size_putAt (by omega), hsz1]) (by
      rw [show k + (n - j) = n - 1 by omega]
      clear hfin hoth hcl hW hg1 hR1 hW1
      generalize putAt cur (k * 2) news = B at hsz1 ⊢
      unfold putAt
      rw [List.take_append_of_le_length (by simp only [List.length_append, List.length_take, Array.length_toList]; omega), List.take_append_of_le_length (by simp only [List.length_take, Array.length_toList]; omega), List.take_take, Nat.min_self]) (fun b _ hb => hoth b hb)
    rw [show n - 1 = k + (n - j) by omega] at h1
    refine ⟨_, fp', rfl, h1, h2, h3, ⟨by rw [hR1]; rfl, by rw [hR1]; rfl, by rw [hR1]; rfl, by rw [hR1]; simp [World.setRow], fun b _ hb => hoth b (fun e => hb (e ▸ hgf))⟩⟩
  have hic : k ≤ cap := by omega
  have hjc : j ≤ cap := by omega
  have hjn : j ≤ n := by omega
  have hkj : k ≠ j := by omega
  have hkn : k + (n - j) < n := by omega
  have hJ := Lib.hid hj
  clear hzv hW1 hR1 hg1 hsz1 hz1' hzl hzs hfin hnews hn1 hnl hg hj
  go_enter Try.func65, Try.ntmps65
  go_wp2_with fail
  go_region_law (refine step_append_room rfl (.tmp 22) (.tmp 25) 50 rfl 85 i0 2 Try.underlying50 hi0 hz1 g 0 k cap (by simp [Act.eval, Act.put]) A (n - j) (cap - j) news (by simp [Act.eval, Act.put]) s1.out hsrc.out s2.out (by omega) s3.out ?_; rw [← hW.out])
  go_wp2
  go_ret
  obtain ⟨v1, fp1, e1, r1⟩ := hF.out
  exact ⟨v1, fp1, congrArg Ending.returned e1, r1⟩
end Go.Proofs.Ytnidoeapoknhdaa
