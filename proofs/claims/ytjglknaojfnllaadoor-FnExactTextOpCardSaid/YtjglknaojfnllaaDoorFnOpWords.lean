/- The walk of the program's opWords: the words of an operation that is in order. -/
import Derived.Test.YtjglknaojfnllaaDoorFnOpTextS
import Derived.Test.YtjglknaojfnllaaDoorMaps1
import Derived.Test.YtjglknaojfnllaaDoorDp
import Derived.Deep.RegionHeld
set_option linter.unusedSimpArgs false
set_option linter.unusedVariables false
namespace Go.Mux
open Go.RowKit
theorem headW_len (x : DOp) : (headW x).length ≤ 4 := by
  unfold headW
  by_cases k1 : x.Kind = 1
  · rw [if_pos k1]
    simp
  rw [if_neg k1]
  by_cases k2 : x.Kind = 2
  · rw [if_pos k2]
    simp
  rw [if_neg k2]
  by_cases k3 : x.Kind = 3
  · rw [if_pos k3]
    simp
  rw [if_neg k3]
  by_cases k4 : x.Kind = 4
  · rw [if_pos k4]
    simp
  rw [if_neg k4]
  by_cases k7 : x.Kind = 7
  · rw [if_pos k7]
    simp
  rw [if_neg k7]
  by_cases k14 : x.Kind = 14
  · rw [if_pos k14]
    simp
  rw [if_neg k14]
  by_cases k8 : x.Kind = 8
  · rw [if_pos k8]
    simp
  rw [if_neg k8]
  by_cases k9 : x.Kind = 9
  · rw [if_pos k9]
    simp
  rw [if_neg k9]
  by_cases k10 : x.Kind = 10
  · rw [if_pos k10]
    simp
  rw [if_neg k10]
  by_cases k11 : x.Kind = 11
  · rw [if_pos k11]
    simp
  rw [if_neg k11]
  by_cases k12 : x.Kind = 12
  · rw [if_pos k12]
    simp
  rw [if_neg k12]
  simp
theorem headW_size {x : DOp} {N : Nat} (hN : 100 ≤ N) (h : x.Name.size ≤ N) : ∀ b ∈ headW x, b.size ≤ N := by
  have h1 := numText_size x.A
  have h2 := numText_size x.B
  have h3 := numText_size x.C
  have h4 := sideT_size x.B
  have hl : ∀ a : Array UInt8, (⟨a⟩ : ByteArray).size = a.size := fun _ => rfl
  have h5 : (if x.B = 1 then (⟨#[98, 101, 108, 111, 119]⟩ : ByteArray) else ⟨#[98, 101, 115, 105, 100, 101]⟩).size ≤ N := by split <;> (refine Nat.le_trans ?_ hN; decide)
  unfold headW
  by_cases k1 : x.Kind = 1
  · rw [if_pos k1]
    intro b hb
    simp only [List.mem_cons, List.not_mem_nil, or_false] at hb
    rcases hb with hb | hb
    all_goals (rw [hb]; first | omega | exact h5 | (refine Nat.le_trans ?_ hN; decide))
  rw [if_neg k1]
  by_cases k2 : x.Kind = 2
  · rw [if_pos k2]
    intro b hb
    simp only [List.mem_cons, List.not_mem_nil, or_false] at hb
    rcases hb with hb | hb
    all_goals (rw [hb]; first | omega | exact h5 | (refine Nat.le_trans ?_ hN; decide))
  rw [if_neg k2]
  by_cases k3 : x.Kind = 3
  · rw [if_pos k3]
    intro b hb
    simp only [List.mem_cons, List.not_mem_nil, or_false] at hb
    rcases hb with hb | hb | hb
    all_goals (rw [hb]; first | omega | exact h5 | (refine Nat.le_trans ?_ hN; decide))
  rw [if_neg k3]
  by_cases k4 : x.Kind = 4
  · rw [if_pos k4]
    intro b hb
    simp only [List.mem_cons, List.not_mem_nil, or_false] at hb
    rcases hb with hb | hb
    all_goals (rw [hb]; first | omega | exact h5 | (refine Nat.le_trans ?_ hN; decide))
  rw [if_neg k4]
  by_cases k7 : x.Kind = 7
  · rw [if_pos k7]
    intro b hb
    simp only [List.mem_cons, List.not_mem_nil, or_false] at hb
    rcases hb with hb | hb
    all_goals (rw [hb]; first | omega | exact h5 | (refine Nat.le_trans ?_ hN; decide))
  rw [if_neg k7]
  by_cases k14 : x.Kind = 14
  · rw [if_pos k14]
    intro b hb
    simp only [List.mem_cons, List.not_mem_nil, or_false] at hb
    rcases hb with hb | hb
    all_goals (rw [hb]; first | omega | exact h5 | (refine Nat.le_trans ?_ hN; decide))
  rw [if_neg k14]
  by_cases k8 : x.Kind = 8
  · rw [if_pos k8]
    intro b hb
    simp only [List.mem_cons, List.not_mem_nil, or_false] at hb
    rcases hb with hb | hb
    all_goals (rw [hb]; first | omega | exact h5 | (refine Nat.le_trans ?_ hN; decide))
  rw [if_neg k8]
  by_cases k9 : x.Kind = 9
  · rw [if_pos k9]
    intro b hb
    simp only [List.mem_cons, List.not_mem_nil, or_false] at hb
    rcases hb with hb | hb | hb
    all_goals (rw [hb]; first | omega | exact h5 | (refine Nat.le_trans ?_ hN; decide))
  rw [if_neg k9]
  by_cases k10 : x.Kind = 10
  · rw [if_pos k10]
    intro b hb
    simp only [List.mem_cons, List.not_mem_nil, or_false] at hb
    rcases hb with hb | hb | hb | hb
    all_goals (rw [hb]; first | omega | exact h5 | (refine Nat.le_trans ?_ hN; decide))
  rw [if_neg k10]
  by_cases k11 : x.Kind = 11
  · rw [if_pos k11]
    intro b hb
    simp only [List.mem_cons, List.not_mem_nil, or_false] at hb
    rcases hb with hb | hb | hb
    all_goals (rw [hb]; first | omega | exact h5 | (refine Nat.le_trans ?_ hN; decide))
  rw [if_neg k11]
  by_cases k12 : x.Kind = 12
  · rw [if_pos k12]
    intro b hb
    simp only [List.mem_cons, List.not_mem_nil, or_false] at hb
    rcases hb with hb | hb | hb
    all_goals (rw [hb]; first | omega | exact h5 | (refine Nat.le_trans ?_ hN; decide))
  rw [if_neg k12]
  intro b hb
  cases hb
theorem strsW_lit (w : World) (l : List ByteArray) (e : TypeId) (he : e = Rep.tid ByteArray) (hl : l.length ≤ 100) (hi : ∀ n ∈ l, n.size ≤ 9223372036854775807) : FreshS w.heap.size (w.alloc (.cells (l.map fun n => Value.string n).toArray e)) (.slice (some ⟨w.heap.size, 0, none⟩) l.length l.length) l := by
  refine freshS_lit rfl w l _ e he (by simp) (by omega) fun i x u hx hu w => ?_
  rw [List.getElem?_map, hx] at hu
  cases hu
  exact ⟨rfl, hi x (List.mem_of_getElem? hx)⟩
theorem freshS_le {α : Type} [Rep α] {B B' : Nat} {w : World} {v : Value} {l : List α} (h : FreshS B w v l) (hB : B' ≤ B) : FreshS B' w v l := by
  obtain ⟨fp, h1, h2, h3⟩ := h
  exact ⟨fp, h1, h2, fun b hb => Nat.le_trans hB (h3 b hb)⟩
theorem freshS_nilA {α : Type} [Rep α] (B : Nat) (w : World) : FreshS (α := α) B w (.slice none 0 0) [] := ⟨[], ⟨[], [], ⟨by simp, .inl ⟨rfl, rfl⟩⟩, by simp, rfl, rfl, by simp, by simp [Value.ownBlock]⟩, by simp, by simp⟩
end Go.Mux
namespace Go.Proofs.YtjglknaojfnllaaDoor
open Go.RowKit Go.Mux
set_option maxHeartbeats 1000000 in
theorem impl_sideNames (w : World) : Calls Tryd.prog 53 #[] w (Gives w fun r w' => ∃ (g : Nat) (es : Array MapEntry) (ck : Nat), r = .map (some g) ∧ w.heap.size ≤ g ∧ w'.heap[g]? = some (.map es ck) ∧ ∀ n, sideB n = true → ∃ i, Instr.findNow (.int .i64) (.int .i64 n) es.toList 0 = some (some (i, .string (sideT n)))) := by
  have hmm := @run_makeMap Tryd.prog
  obtain ⟨M1, r1, q1, b1, z1⟩ := map_insert_int Tryd.underlying64 Tryd.underlying3 (w.alloc (.map #[] 0)) w.heap.size #[] 0 76 (.string ⟨#[108, 101, 102, 116]⟩) (heap_alloc_new w _) rfl
  obtain ⟨M2, r2, q2, b2, z2⟩ := map_insert_int Tryd.underlying64 Tryd.underlying3 M1 w.heap.size _ _ 82 (.string ⟨#[114, 105, 103, 104, 116]⟩) q1 rfl
  obtain ⟨M3, r3, q3, b3, z3⟩ := map_insert_int Tryd.underlying64 Tryd.underlying3 M2 w.heap.size _ _ 85 (.string ⟨#[117, 112]⟩) q2 rfl
  obtain ⟨M4, r4, q4, b4, z4⟩ := map_insert_int Tryd.underlying64 Tryd.underlying3 M3 w.heap.size _ _ 68 (.string ⟨#[100, 111, 119, 110]⟩) q3 rfl
  have HQ := Lib.hid q4
  have HBM := Lib.hid (((((bel_alloc (Below.refl w.heap.size w) (.map #[] 0)).trans b1).trans b2).trans b3).trans b4)
  clear q1 q2 q3 q4 b1 b2 b3 b4 z1 z2 z3 z4
  go_enter Tryd.func53, Tryd.ntmps53
  go_wp2_with fail
  go_ret
  refine ⟨_, rfl, ⟨w.heap.size, _, _, rfl, Nat.le_refl _, HQ.out, fun n hn => ?_⟩, HBM.out⟩
  unfold sideB at hn
  simp only [Bool.or_eq_true, decide_eq_true_eq] at hn
  rcases hn with rfl | rfl | rfl | rfl
  · exact ⟨0, by unfold sideT; rfl⟩
  · exact ⟨1, by unfold sideT; rfl⟩
  · exact ⟨2, by unfold sideT; rfl⟩
  · exact ⟨3, by unfold sideT; rfl⟩
set_option maxRecDepth 100000 in
set_option maxHeartbeats 8000000 in
theorem impl_opWords (w : World) (cs : List Value) (x : DOp) (h : Rep.rep w cs x) (hok : opOkB x = true) (ht : Tab Tryd.prog w) : Calls Tryd.prog 56 #[.agg cs.toArray] w (Gives w fun r w' => ∃ r0, r = .tuple #[r0, .bool (hasLine x)] ∧ FreshS w.heap.size w' r0 (headW x)) := by
  obtain ⟨v0, rfl, h0, h1, h2, h3, h4, h5, h6, h7⟩ := DOp.rep_iff.1 h
  obtain ⟨a0, p0, rfl, hl0, -⟩ := h7
  have HT := Lib.hid ht
  clear h ht h0 h1 h2 h3 h5 h6 hl0
  obtain ⟨kd, A, B, C, nm, tx, dr, da⟩ := x
  dsimp only at *
  have hzA := numText_size A
  have hzB := numText_size B
  have hzC := numText_size C
  have hzs := sideT_size B
  obtain ⟨S, hS⟩ : ∃ S : World → Prop, ∀ w', S w' ↔ (w'.cell? ⟨w.heap.size, 0, none⟩ = some (.int .i64 kd) ∧ w'.cell? ⟨w.heap.size, 1, none⟩ = some (.int .i64 A) ∧ w'.cell? ⟨w.heap.size, 2, none⟩ = some (.int .i64 B) ∧ w'.cell? ⟨w.heap.size, 3, none⟩ = some (.int .i64 C) ∧ w'.cell? ⟨w.heap.size, 4, none⟩ = some (.string nm)) := ⟨_, fun _ => Iff.rfl⟩
  have HSM := Lib.hid (show ∀ W W' : World, S W → Below W.heap.size W W' → S W' from fun W W' h hb => by
    rw [hS] at h ⊢
    obtain ⟨c0, c1, c2, c3, c4⟩ := h
    exact ⟨(hb.cell (p := ⟨w.heap.size, 0, none⟩) (World.block_lt_of_cell? _ _ c0)).trans c0, (hb.cell (p := ⟨w.heap.size, 1, none⟩) (World.block_lt_of_cell? _ _ c1)).trans c1, (hb.cell (p := ⟨w.heap.size, 2, none⟩) (World.block_lt_of_cell? _ _ c2)).trans c2, (hb.cell (p := ⟨w.heap.size, 3, none⟩) (World.block_lt_of_cell? _ _ c3)).trans c3, (hb.cell (p := ⟨w.heap.size, 4, none⟩) (World.block_lt_of_cell? _ _ c4)).trans c4⟩)
  have HSN := Lib.hid (show ∀ (n : Nat) (W W' : World), w.heap.size < n → S W → Below n W W' → S W' from fun n W W' hn h hb => by
    rw [hS] at h ⊢
    obtain ⟨c0, c1, c2, c3, c4⟩ := h
    exact ⟨(hb.cell (p := ⟨w.heap.size, 0, none⟩) hn).trans c0, (hb.cell (p := ⟨w.heap.size, 1, none⟩) hn).trans c1, (hb.cell (p := ⟨w.heap.size, 2, none⟩) hn).trans c2, (hb.cell (p := ⟨w.heap.size, 3, none⟩) hn).trans c3, (hb.cell (p := ⟨w.heap.size, 4, none⟩) hn).trans c4⟩)
  have HSL := Lib.hid (show ∀ W : World, S W → w.heap.size < W.heap.size from fun W h => by
    rw [hS] at h
    exact World.block_lt_of_cell? _ _ h.1)
  have HS := Lib.hid hS
  clear hS
  by_cases hk1 : kd = 1
  · subst hk1
    have HWD := Lib.hid (show headW ⟨1, A, B, C, nm, tx, dr, da⟩ = [⟨#[110, 101, 119]⟩, nm] from by simp [headW])
    have HLN := Lib.hid (show hasLine ⟨1, A, B, C, nm, tx, dr, da⟩ = true from by simp [hasLine])
    have HF := strsW_lit (w.alloc (.cells #[.int .i64 1, .int .i64 A, .int .i64 B, .int .i64 C, .string nm, .string tx, .string dr, .slice a0 da.length p0] 32)) [⟨#[110, 101, 119]⟩, nm] 9 rfl (by simp) (by simp; exact ⟨by decide, h4⟩)
    (try simp only [List.map_cons, List.map_nil, List.length_cons, List.length_nil, World.size_alloc] at HF)
    have HFF := Lib.hid HF
    clear HF
    go_enter Tryd.func56, Tryd.ntmps56
    go_wp2_with fail
    exact bodyPost_ret (v := .tuple #[.slice (some ⟨w.heap.size + 1, 0, none⟩) 2 2, .bool true]) (by simp [results, Tryd.results56, go_sem]) rfl ⟨_, rfl, ⟨_, by rw [HLN.out], by rw [HWD.out]; exact freshS_le HFF.out (by omega)⟩, (by repeat (first | (with_reducible exact Below.refl _ _) | (with_reducible assumption) | (with_reducible refine bel_alloc ?_ _) | ((with_reducible refine bel_set ?_ ?_ _); rotate_left; (focus first | (simp; done) | (simp; omega)))))⟩
  by_cases hk2 : kd = 2
  · subst hk2
    clear hk1
    have HWD := Lib.hid (show headW ⟨2, A, B, C, nm, tx, dr, da⟩ = [⟨#[119, 105, 110, 100, 111, 119]⟩, nm] from by simp [headW])
    have HLN := Lib.hid (show hasLine ⟨2, A, B, C, nm, tx, dr, da⟩ = true from by simp [hasLine])
    have HF := strsW_lit (w.alloc (.cells #[.int .i64 2, .int .i64 A, .int .i64 B, .int .i64 C, .string nm, .string tx, .string dr, .slice a0 da.length p0] 32)) [⟨#[119, 105, 110, 100, 111, 119]⟩, nm] 9 rfl (by simp) (by simp; exact ⟨by decide, h4⟩)
    (try simp only [List.map_cons, List.map_nil, List.length_cons, List.length_nil, World.size_alloc] at HF)
    have HFF := Lib.hid HF
    clear HF
    go_enter Tryd.func56, Tryd.ntmps56
    go_wp2_with fail
    exact bodyPost_ret (v := .tuple #[.slice (some ⟨w.heap.size + 1, 0, none⟩) 2 2, .bool true]) (by simp [results, Tryd.results56, go_sem]) rfl ⟨_, rfl, ⟨_, by rw [HLN.out], by rw [HWD.out]; exact freshS_le HFF.out (by omega)⟩, (by repeat (first | (with_reducible exact Below.refl _ _) | (with_reducible assumption) | (with_reducible refine bel_alloc ?_ _) | ((with_reducible refine bel_set ?_ ?_ _); rotate_left; (focus first | (simp; done) | (simp; omega)))))⟩
  by_cases hk3 : kd = 3
  · subst hk3
    clear hk1 hk2
    have hB : B = 0 ∨ B = 1 := by have h := hok; unfold opOkB at h; simp [withinB] at h; omega
    rcases hB with rfl | rfl
    · have HWD := Lib.hid (show headW ⟨3, A, 0,  C, nm, tx, dr, da⟩ = [⟨#[115, 112, 108, 105, 116]⟩, (numText A), ⟨#[98, 101, 115, 105, 100, 101]⟩] from by simp [headW])
      have HLN := Lib.hid (show hasLine ⟨3, A, 0,  C, nm, tx, dr, da⟩ = true from by simp [hasLine])
      go_enter Tryd.func56, Tryd.ntmps56
      go_wp2_with fail
      obtain ⟨W0, hW0⟩ : ∃ W0, W0 = (w.alloc (.cells #[.int .i64 3, .int .i64 A, .int .i64 0, .int .i64 C, .string nm, .string tx, .string dr, .slice a0 da.length p0] 32)).drew := ⟨_, rfl⟩
      have HB0 := Lib.hid (show Below w.heap.size w W0 from by rw [hW0]; exact (bel_alloc (Below.refl _ _) _).drew)
      have hS0 : S W0 := (HS.out W0).2 (by rw [hW0]; exact ⟨by simp, by simp, by simp, by simp, by simp⟩)
      have hz0 := HB0.out.size
      refine wp_region_held_drew (S := S) (by kernel_rfl) (by rw [← hW0]; exact hS0) (fun hHeld => ?_)
      rw [← hW0] at hHeld ⊢
      clear hW0
      refine wpAnyH_take (i := 0) (v := .pointer (some ⟨w.heap.size, 1, none⟩)) rfl (by kernel_rfl) (by kernel_rfl) (by kernel_rfl) (fun _ _ _ h => h) (.inl ⟨by rfl, fun _ _ => (by simp [execOp, go_sem])⟩) hHeld ?_
      (try simp only [Act.put, List.setIfInBounds_toArray, List.set_cons_zero, List.set_cons_succ])
      refine wpAnyH_take (i := 1) (v := .int .i64 A) rfl (by kernel_rfl) (by kernel_rfl) (by kernel_rfl) (fun _ _ _ h => h) (.inl ⟨by rfl, fun w' h => (by have h := ((HS.out w').1 h).2.1; simp [execOp, go_sem, h])⟩) hHeld ?_
      (try simp only [Act.put, List.setIfInBounds_toArray, List.set_cons_zero, List.set_cons_succ])
      refine wpAnyH_take (i := 4) (v := .pointer (some ⟨w.heap.size, 2, none⟩)) rfl (by kernel_rfl) (by kernel_rfl) (by kernel_rfl) (fun _ _ _ h => h) (.inl ⟨by rfl, fun _ _ => (by simp [execOp, go_sem])⟩) hHeld ?_
      (try simp only [Act.put, List.setIfInBounds_toArray, List.set_cons_zero, List.set_cons_succ])
      refine wpAnyH_take (i := 5) (v := .int .i64 0) rfl (by kernel_rfl) (by kernel_rfl) (by kernel_rfl) (fun _ _ _ h => h) (.inl ⟨by rfl, fun w' h => (by have h := ((HS.out w').1 h).2.2.1; simp [execOp, go_sem, h])⟩) hHeld ?_
      (try simp only [Act.put, List.setIfInBounds_toArray, List.set_cons_zero, List.set_cons_succ])
      refine wpAnyH_ready (rs := [2, 3]) (by kernel_rfl) (by simp) ?_
      refine AllReadyH.cons rfl (fun K hK => ?_) (AllReadyH.cons rfl (fun K hK => ?_) AllReadyH.nil)
      · go_simp
        refine (impl_NumText _ _ (HT.out.mono HB0.out)).mono ?_
        rintro e W1 ⟨_, rfl, rfl, hb⟩
        have HB1 := Lib.hid (bel_next HB0.out hb)
        have hS1 : S W1 := HSM.out _ _ hS0 hb
        have hz1 := HB1.out.size
        clear hb
        refine hK.out _ _ hS1 (fun hHeld => ?_)
        clear hK K
        (try simp only [Act.put, List.setIfInBounds_toArray, List.set_cons_zero, List.set_cons_succ])
        refine wpAnyH_ready (rs := [3]) (by kernel_rfl) (by simp) ?_
        refine AllReadyH.cons rfl (fun K hK => ?_) AllReadyH.nil
        go_simp
        obtain ⟨W2, hW⟩ : ∃ W, W = W1.alloc (Obj.cells #[Value.string ⟨#[98, 101, 115, 105, 100, 101]⟩, Value.string ⟨#[98, 101, 108, 111, 119]⟩] 9) := ⟨_, rfl⟩
        rw [← hW]
        have hb : Below W1.heap.size W1 W2 := by rw [hW]; exact bel_alloc (Below.refl _ _) _
        have HB2 := Lib.hid (bel_next HB1.out hb)
        have hS2 : S W2 := HSM.out _ _ hS1 hb
        have hz2 := HB2.out.size
        obtain ⟨g, hg⟩ : ∃ g, g = W1.heap.size := ⟨_, rfl⟩
        rw [← hg]
        have hcell : W2.cell? ⟨g, 0, none⟩ = some (.string ⟨#[98, 101, 115, 105, 100, 101]⟩) := by rw [hW, hg]; simp
        clear hW hb
        refine hK.out _ _ hS2 (fun hHeld => ?_)
        clear hK K hg
        (try simp only [Act.put, List.setIfInBounds_toArray, List.set_cons_zero, List.set_cons_succ])
        refine wpAnyH_take (i := 6) (v := .pointer (some ⟨g, 0, none⟩)) rfl (by kernel_rfl) (by kernel_rfl) (by kernel_rfl) (fun _ _ _ h => h) (.inl ⟨by rfl, fun _ _ => (by simp [execOp, go_sem])⟩) hHeld ?_
        (try simp only [Act.put, List.setIfInBounds_toArray, List.set_cons_zero, List.set_cons_succ])
        refine wpAnyH_ready (rs := [7]) (by kernel_rfl) (by simp) ?_
        refine AllReadyH.cons rfl (fun K hK => ?_) AllReadyH.nil
        go_simp
        refine hK.out _ _ hS2 (fun hHeld => ?_)
        clear hK K
        (try simp only [Act.put, List.setIfInBounds_toArray, List.set_cons_zero, List.set_cons_succ])
        refine wpAnyH_ready (rs := [8]) (by kernel_rfl) (by simp) ?_
        refine AllReadyH.cons rfl (fun K hK => ?_) AllReadyH.nil
        go_simp
        have HF := Lib.hid (show FreshS W2.heap.size (W2.alloc (Obj.cells #[Value.string ⟨#[115, 112, 108, 105, 116]⟩, Value.string (numText A), Value.string ⟨#[98, 101, 115, 105, 100, 101]⟩] 9)) (.slice (some ⟨W2.heap.size, 0, none⟩) 3 3) [⟨#[115, 112, 108, 105, 116]⟩, (numText A), ⟨#[98, 101, 115, 105, 100, 101]⟩] from strsW_lit W2 [⟨#[115, 112, 108, 105, 116]⟩, (numText A), ⟨#[98, 101, 115, 105, 100, 101]⟩] _ rfl (by simp) (fun n hn => by
          simp only [List.mem_cons, List.not_mem_nil, or_false] at hn
          rcases hn with hn | hn | hn
          all_goals (rw [hn]; first | decide | omega)))
        have HBE := Lib.hid (bel_next HB2.out (bel_alloc (Below.refl W2.heap.size W2) (Obj.cells #[Value.string ⟨#[115, 112, 108, 105, 116]⟩, Value.string (numText A), Value.string ⟨#[98, 101, 115, 105, 100, 101]⟩] 9)))
        have hSE := HSM.out _ _ hS2 (bel_alloc (Below.refl W2.heap.size W2) (Obj.cells #[Value.string ⟨#[115, 112, 108, 105, 116]⟩, Value.string (numText A), Value.string ⟨#[98, 101, 115, 105, 100, 101]⟩] 9))
        refine hK.out _ _ hSE (fun hHeld => ?_)
        clear hK K
        (try simp only [Act.put, List.setIfInBounds_toArray, List.set_cons_zero, List.set_cons_succ])
        refine wpAnyH_ready (rs := [9]) (by kernel_rfl) (by simp) ?_
        refine AllReadyH.cons rfl (fun K hK => ?_) AllReadyH.nil
        go_simp
        refine hK.out _ _ hSE (fun hHeld => ?_)
        clear hK K
        (try simp only [Act.put, List.setIfInBounds_toArray, List.set_cons_zero, List.set_cons_succ])
        refine wpAnyH_ready (rs := [10]) (by kernel_rfl) (by simp) ?_
        refine AllReadyH.cons rfl (fun K hK => ?_) AllReadyH.nil
        go_simp
        refine hK.out _ _ hSE (fun hHeld => ?_)
        clear hK K
        (try simp only [Act.put, List.setIfInBounds_toArray, List.set_cons_zero, List.set_cons_succ])
        refine wpAnyH_done (by kernel_rfl) ?_ _
        go_wp2_with fail
        exact bodyPost_ret (v := .tuple #[.slice (some ⟨W2.heap.size, 0, none⟩) 3 3, .bool true]) (by simp [results, Tryd.results56, go_sem]) rfl ⟨_, rfl, ⟨_, by rw [HLN.out], by rw [HWD.out]; exact freshS_le HF.out (by omega)⟩, HBE.out⟩
      · go_simp
        obtain ⟨W1, hW⟩ : ∃ W, W = W0.alloc (Obj.cells #[Value.string ⟨#[98, 101, 115, 105, 100, 101]⟩, Value.string ⟨#[98, 101, 108, 111, 119]⟩] 9) := ⟨_, rfl⟩
        rw [← hW]
        have hb : Below W0.heap.size W0 W1 := by rw [hW]; exact bel_alloc (Below.refl _ _) _
        have HB1 := Lib.hid (bel_next HB0.out hb)
        have hS1 : S W1 := HSM.out _ _ hS0 hb
        have hz1 := HB1.out.size
        obtain ⟨g, hg⟩ : ∃ g, g = W0.heap.size := ⟨_, rfl⟩
        rw [← hg]
        have hcell : W1.cell? ⟨g, 0, none⟩ = some (.string ⟨#[98, 101, 115, 105, 100, 101]⟩) := by rw [hW, hg]; simp
        clear hW hb
        refine hK.out _ _ hS1 (fun hHeld => ?_)
        clear hK K hg
        (try simp only [Act.put, List.setIfInBounds_toArray, List.set_cons_zero, List.set_cons_succ])
        refine wpAnyH_take (i := 6) (v := .pointer (some ⟨g, 0, none⟩)) rfl (by kernel_rfl) (by kernel_rfl) (by kernel_rfl) (fun _ _ _ h => h) (.inl ⟨by rfl, fun _ _ => (by simp [execOp, go_sem])⟩) hHeld ?_
        (try simp only [Act.put, List.setIfInBounds_toArray, List.set_cons_zero, List.set_cons_succ])
        refine wpAnyH_ready (rs := [2, 7]) (by kernel_rfl) (by simp) ?_
        refine AllReadyH.cons rfl (fun K hK => ?_) (AllReadyH.cons rfl (fun K hK => ?_) AllReadyH.nil)
        · go_simp
          refine (impl_NumText _ _ (HT.out.mono HB1.out)).mono ?_
          rintro e W2 ⟨_, rfl, rfl, hb⟩
          have HB2 := Lib.hid (bel_next HB1.out hb)
          have hS2 : S W2 := HSM.out _ _ hS1 hb
          have hz2 := HB2.out.size
          have hcell2 := (hb.cell (p := ⟨g, 0, none⟩) (World.block_lt_of_cell? _ _ hcell)).trans hcell
          clear hb
          refine hK.out _ _ hS2 (fun hHeld => ?_)
          clear hK K
          (try simp only [Act.put, List.setIfInBounds_toArray, List.set_cons_zero, List.set_cons_succ])
          refine wpAnyH_ready (rs := [7]) (by kernel_rfl) (by simp) ?_
          refine AllReadyH.cons rfl (fun K hK => ?_) AllReadyH.nil
          go_simp
          refine hK.out _ _ hS2 (fun hHeld => ?_)
          clear hK K
          (try simp only [Act.put, List.setIfInBounds_toArray, List.set_cons_zero, List.set_cons_succ])
          refine wpAnyH_ready (rs := [8]) (by kernel_rfl) (by simp) ?_
          refine AllReadyH.cons rfl (fun K hK => ?_) AllReadyH.nil
          go_simp
          have HF := Lib.hid (show FreshS W2.heap.size (W2.alloc (Obj.cells #[Value.string ⟨#[115, 112, 108, 105, 116]⟩, Value.string (numText A), Value.string ⟨#[98, 101, 115, 105, 100, 101]⟩] 9)) (.slice (some ⟨W2.heap.size, 0, none⟩) 3 3) [⟨#[115, 112, 108, 105, 116]⟩, (numText A), ⟨#[98, 101, 115, 105, 100, 101]⟩] from strsW_lit W2 [⟨#[115, 112, 108, 105, 116]⟩, (numText A), ⟨#[98, 101, 115, 105, 100, 101]⟩] _ rfl (by simp) (fun n hn => by
            simp only [List.mem_cons, List.not_mem_nil, or_false] at hn
            rcases hn with hn | hn | hn
            all_goals (rw [hn]; first | decide | omega)))
          have HBE := Lib.hid (bel_next HB2.out (bel_alloc (Below.refl W2.heap.size W2) (Obj.cells #[Value.string ⟨#[115, 112, 108, 105, 116]⟩, Value.string (numText A), Value.string ⟨#[98, 101, 115, 105, 100, 101]⟩] 9)))
          have hSE := HSM.out _ _ hS2 (bel_alloc (Below.refl W2.heap.size W2) (Obj.cells #[Value.string ⟨#[115, 112, 108, 105, 116]⟩, Value.string (numText A), Value.string ⟨#[98, 101, 115, 105, 100, 101]⟩] 9))
          refine hK.out _ _ hSE (fun hHeld => ?_)
          clear hK K
          (try simp only [Act.put, List.setIfInBounds_toArray, List.set_cons_zero, List.set_cons_succ])
          refine wpAnyH_ready (rs := [9]) (by kernel_rfl) (by simp) ?_
          refine AllReadyH.cons rfl (fun K hK => ?_) AllReadyH.nil
          go_simp
          refine hK.out _ _ hSE (fun hHeld => ?_)
          clear hK K
          (try simp only [Act.put, List.setIfInBounds_toArray, List.set_cons_zero, List.set_cons_succ])
          refine wpAnyH_ready (rs := [10]) (by kernel_rfl) (by simp) ?_
          refine AllReadyH.cons rfl (fun K hK => ?_) AllReadyH.nil
          go_simp
          refine hK.out _ _ hSE (fun hHeld => ?_)
          clear hK K
          (try simp only [Act.put, List.setIfInBounds_toArray, List.set_cons_zero, List.set_cons_succ])
          refine wpAnyH_done (by kernel_rfl) ?_ _
          go_wp2_with fail
          exact bodyPost_ret (v := .tuple #[.slice (some ⟨W2.heap.size, 0, none⟩) 3 3, .bool true]) (by simp [results, Tryd.results56, go_sem]) rfl ⟨_, rfl, ⟨_, by rw [HLN.out], by rw [HWD.out]; exact freshS_le HF.out (by omega)⟩, HBE.out⟩
        · go_simp
          refine hK.out _ _ hS1 (fun hHeld => ?_)
          clear hK K
          (try simp only [Act.put, List.setIfInBounds_toArray, List.set_cons_zero, List.set_cons_succ])
          refine wpAnyH_ready (rs := [2]) (by kernel_rfl) (by simp) ?_
          refine AllReadyH.cons rfl (fun K hK => ?_) AllReadyH.nil
          go_simp
          refine (impl_NumText _ _ (HT.out.mono HB1.out)).mono ?_
          rintro e W2 ⟨_, rfl, rfl, hb⟩
          have HB2 := Lib.hid (bel_next HB1.out hb)
          have hS2 : S W2 := HSM.out _ _ hS1 hb
          have hz2 := HB2.out.size
          clear hb
          refine hK.out _ _ hS2 (fun hHeld => ?_)
          clear hK K
          (try simp only [Act.put, List.setIfInBounds_toArray, List.set_cons_zero, List.set_cons_succ])
          refine wpAnyH_ready (rs := [8]) (by kernel_rfl) (by simp) ?_
          refine AllReadyH.cons rfl (fun K hK => ?_) AllReadyH.nil
          go_simp
          have HF := Lib.hid (show FreshS W2.heap.size (W2.alloc (Obj.cells #[Value.string ⟨#[115, 112, 108, 105, 116]⟩, Value.string (numText A), Value.string ⟨#[98, 101, 115, 105, 100, 101]⟩] 9)) (.slice (some ⟨W2.heap.size, 0, none⟩) 3 3) [⟨#[115, 112, 108, 105, 116]⟩, (numText A), ⟨#[98, 101, 115, 105, 100, 101]⟩] from strsW_lit W2 [⟨#[115, 112, 108, 105, 116]⟩, (numText A), ⟨#[98, 101, 115, 105, 100, 101]⟩] _ rfl (by simp) (fun n hn => by
            simp only [List.mem_cons, List.not_mem_nil, or_false] at hn
            rcases hn with hn | hn | hn
            all_goals (rw [hn]; first | decide | omega)))
          have HBE := Lib.hid (bel_next HB2.out (bel_alloc (Below.refl W2.heap.size W2) (Obj.cells #[Value.string ⟨#[115, 112, 108, 105, 116]⟩, Value.string (numText A), Value.string ⟨#[98, 101, 115, 105, 100, 101]⟩] 9)))
          have hSE := HSM.out _ _ hS2 (bel_alloc (Below.refl W2.heap.size W2) (Obj.cells #[Value.string ⟨#[115, 112, 108, 105, 116]⟩, Value.string (numText A), Value.string ⟨#[98, 101, 115, 105, 100, 101]⟩] 9))
          refine hK.out _ _ hSE (fun hHeld => ?_)
          clear hK K
          (try simp only [Act.put, List.setIfInBounds_toArray, List.set_cons_zero, List.set_cons_succ])
          refine wpAnyH_ready (rs := [9]) (by kernel_rfl) (by simp) ?_
          refine AllReadyH.cons rfl (fun K hK => ?_) AllReadyH.nil
          go_simp
          refine hK.out _ _ hSE (fun hHeld => ?_)
          clear hK K
          (try simp only [Act.put, List.setIfInBounds_toArray, List.set_cons_zero, List.set_cons_succ])
          refine wpAnyH_ready (rs := [10]) (by kernel_rfl) (by simp) ?_
          refine AllReadyH.cons rfl (fun K hK => ?_) AllReadyH.nil
          go_simp
          refine hK.out _ _ hSE (fun hHeld => ?_)
          clear hK K
          (try simp only [Act.put, List.setIfInBounds_toArray, List.set_cons_zero, List.set_cons_succ])
          refine wpAnyH_done (by kernel_rfl) ?_ _
          go_wp2_with fail
          exact bodyPost_ret (v := .tuple #[.slice (some ⟨W2.heap.size, 0, none⟩) 3 3, .bool true]) (by simp [results, Tryd.results56, go_sem]) rfl ⟨_, rfl, ⟨_, by rw [HLN.out], by rw [HWD.out]; exact freshS_le HF.out (by omega)⟩, HBE.out⟩
    · have HWD := Lib.hid (show headW ⟨3, A, 1,  C, nm, tx, dr, da⟩ = [⟨#[115, 112, 108, 105, 116]⟩, (numText A), ⟨#[98, 101, 108, 111, 119]⟩] from by simp [headW])
      have HLN := Lib.hid (show hasLine ⟨3, A, 1,  C, nm, tx, dr, da⟩ = true from by simp [hasLine])
      go_enter Tryd.func56, Tryd.ntmps56
      go_wp2_with fail
      obtain ⟨W0, hW0⟩ : ∃ W0, W0 = (w.alloc (.cells #[.int .i64 3, .int .i64 A, .int .i64 1, .int .i64 C, .string nm, .string tx, .string dr, .slice a0 da.length p0] 32)).drew := ⟨_, rfl⟩
      have HB0 := Lib.hid (show Below w.heap.size w W0 from by rw [hW0]; exact (bel_alloc (Below.refl _ _) _).drew)
      have hS0 : S W0 := (HS.out W0).2 (by rw [hW0]; exact ⟨by simp, by simp, by simp, by simp, by simp⟩)
      have hz0 := HB0.out.size
      refine wp_region_held_drew (S := S) (by kernel_rfl) (by rw [← hW0]; exact hS0) (fun hHeld => ?_)
      rw [← hW0] at hHeld ⊢
      clear hW0
      refine wpAnyH_take (i := 0) (v := .pointer (some ⟨w.heap.size, 1, none⟩)) rfl (by kernel_rfl) (by kernel_rfl) (by kernel_rfl) (fun _ _ _ h => h) (.inl ⟨by rfl, fun _ _ => (by simp [execOp, go_sem])⟩) hHeld ?_
      (try simp only [Act.put, List.setIfInBounds_toArray, List.set_cons_zero, List.set_cons_succ])
      refine wpAnyH_take (i := 1) (v := .int .i64 A) rfl (by kernel_rfl) (by kernel_rfl) (by kernel_rfl) (fun _ _ _ h => h) (.inl ⟨by rfl, fun w' h => (by have h := ((HS.out w').1 h).2.1; simp [execOp, go_sem, h])⟩) hHeld ?_
      (try simp only [Act.put, List.setIfInBounds_toArray, List.set_cons_zero, List.set_cons_succ])
      refine wpAnyH_take (i := 4) (v := .pointer (some ⟨w.heap.size, 2, none⟩)) rfl (by kernel_rfl) (by kernel_rfl) (by kernel_rfl) (fun _ _ _ h => h) (.inl ⟨by rfl, fun _ _ => (by simp [execOp, go_sem])⟩) hHeld ?_
      (try simp only [Act.put, List.setIfInBounds_toArray, List.set_cons_zero, List.set_cons_succ])
      refine wpAnyH_take (i := 5) (v := .int .i64 1) rfl (by kernel_rfl) (by kernel_rfl) (by kernel_rfl) (fun _ _ _ h => h) (.inl ⟨by rfl, fun w' h => (by have h := ((HS.out w').1 h).2.2.1; simp [execOp, go_sem, h])⟩) hHeld ?_
      (try simp only [Act.put, List.setIfInBounds_toArray, List.set_cons_zero, List.set_cons_succ])
      refine wpAnyH_ready (rs := [2, 3]) (by kernel_rfl) (by simp) ?_
      refine AllReadyH.cons rfl (fun K hK => ?_) (AllReadyH.cons rfl (fun K hK => ?_) AllReadyH.nil)
      · go_simp
        refine (impl_NumText _ _ (HT.out.mono HB0.out)).mono ?_
        rintro e W1 ⟨_, rfl, rfl, hb⟩
        have HB1 := Lib.hid (bel_next HB0.out hb)
        have hS1 : S W1 := HSM.out _ _ hS0 hb
        have hz1 := HB1.out.size
        clear hb
        refine hK.out _ _ hS1 (fun hHeld => ?_)
        clear hK K
        (try simp only [Act.put, List.setIfInBounds_toArray, List.set_cons_zero, List.set_cons_succ])
        refine wpAnyH_ready (rs := [3]) (by kernel_rfl) (by simp) ?_
        refine AllReadyH.cons rfl (fun K hK => ?_) AllReadyH.nil
        go_simp
        obtain ⟨W2, hW⟩ : ∃ W, W = W1.alloc (Obj.cells #[Value.string ⟨#[98, 101, 115, 105, 100, 101]⟩, Value.string ⟨#[98, 101, 108, 111, 119]⟩] 9) := ⟨_, rfl⟩
        rw [← hW]
        have hb : Below W1.heap.size W1 W2 := by rw [hW]; exact bel_alloc (Below.refl _ _) _
        have HB2 := Lib.hid (bel_next HB1.out hb)
        have hS2 : S W2 := HSM.out _ _ hS1 hb
        have hz2 := HB2.out.size
        obtain ⟨g, hg⟩ : ∃ g, g = W1.heap.size := ⟨_, rfl⟩
        rw [← hg]
        have hcell : W2.cell? ⟨g, 1, none⟩ = some (.string ⟨#[98, 101, 108, 111, 119]⟩) := by rw [hW, hg]; simp
        clear hW hb
        refine hK.out _ _ hS2 (fun hHeld => ?_)
        clear hK K hg
        (try simp only [Act.put, List.setIfInBounds_toArray, List.set_cons_zero, List.set_cons_succ])
        refine wpAnyH_take (i := 6) (v := .pointer (some ⟨g, 1, none⟩)) rfl (by kernel_rfl) (by kernel_rfl) (by kernel_rfl) (fun _ _ _ h => h) (.inl ⟨by rfl, fun _ _ => (by simp [execOp, go_sem])⟩) hHeld ?_
        (try simp only [Act.put, List.setIfInBounds_toArray, List.set_cons_zero, List.set_cons_succ])
        refine wpAnyH_ready (rs := [7]) (by kernel_rfl) (by simp) ?_
        refine AllReadyH.cons rfl (fun K hK => ?_) AllReadyH.nil
        go_simp
        refine hK.out _ _ hS2 (fun hHeld => ?_)
        clear hK K
        (try simp only [Act.put, List.setIfInBounds_toArray, List.set_cons_zero, List.set_cons_succ])
        refine wpAnyH_ready (rs := [8]) (by kernel_rfl) (by simp) ?_
        refine AllReadyH.cons rfl (fun K hK => ?_) AllReadyH.nil
        go_simp
        have HF := Lib.hid (show FreshS W2.heap.size (W2.alloc (Obj.cells #[Value.string ⟨#[115, 112, 108, 105, 116]⟩, Value.string (numText A), Value.string ⟨#[98, 101, 108, 111, 119]⟩] 9)) (.slice (some ⟨W2.heap.size, 0, none⟩) 3 3) [⟨#[115, 112, 108, 105, 116]⟩, (numText A), ⟨#[98, 101, 108, 111, 119]⟩] from strsW_lit W2 [⟨#[115, 112, 108, 105, 116]⟩, (numText A), ⟨#[98, 101, 108, 111, 119]⟩] _ rfl (by simp) (fun n hn => by
          simp only [List.mem_cons, List.not_mem_nil, or_false] at hn
          rcases hn with hn | hn | hn
          all_goals (rw [hn]; first | decide | omega)))
        have HBE := Lib.hid (bel_next HB2.out (bel_alloc (Below.refl W2.heap.size W2) (Obj.cells #[Value.string ⟨#[115, 112, 108, 105, 116]⟩, Value.string (numText A), Value.string ⟨#[98, 101, 108, 111, 119]⟩] 9)))
        have hSE := HSM.out _ _ hS2 (bel_alloc (Below.refl W2.heap.size W2) (Obj.cells #[Value.string ⟨#[115, 112, 108, 105, 116]⟩, Value.string (numText A), Value.string ⟨#[98, 101, 108, 111, 119]⟩] 9))
        refine hK.out _ _ hSE (fun hHeld => ?_)
        clear hK K
        (try simp only [Act.put, List.setIfInBounds_toArray, List.set_cons_zero, List.set_cons_succ])
        refine wpAnyH_ready (rs := [9]) (by kernel_rfl) (by simp) ?_
        refine AllReadyH.cons rfl (fun K hK => ?_) AllReadyH.nil
        go_simp
        refine hK.out _ _ hSE (fun hHeld => ?_)
        clear hK K
        (try simp only [Act.put, List.setIfInBounds_toArray, List.set_cons_zero, List.set_cons_succ])
        refine wpAnyH_ready (rs := [10]) (by kernel_rfl) (by simp) ?_
        refine AllReadyH.cons rfl (fun K hK => ?_) AllReadyH.nil
        go_simp
        refine hK.out _ _ hSE (fun hHeld => ?_)
        clear hK K
        (try simp only [Act.put, List.setIfInBounds_toArray, List.set_cons_zero, List.set_cons_succ])
        refine wpAnyH_done (by kernel_rfl) ?_ _
        go_wp2_with fail
        exact bodyPost_ret (v := .tuple #[.slice (some ⟨W2.heap.size, 0, none⟩) 3 3, .bool true]) (by simp [results, Tryd.results56, go_sem]) rfl ⟨_, rfl, ⟨_, by rw [HLN.out], by rw [HWD.out]; exact freshS_le HF.out (by omega)⟩, HBE.out⟩
      · go_simp
        obtain ⟨W1, hW⟩ : ∃ W, W = W0.alloc (Obj.cells #[Value.string ⟨#[98, 101, 115, 105, 100, 101]⟩, Value.string ⟨#[98, 101, 108, 111, 119]⟩] 9) := ⟨_, rfl⟩
        rw [← hW]
        have hb : Below W0.heap.size W0 W1 := by rw [hW]; exact bel_alloc (Below.refl _ _) _
        have HB1 := Lib.hid (bel_next HB0.out hb)
        have hS1 : S W1 := HSM.out _ _ hS0 hb
        have hz1 := HB1.out.size
        obtain ⟨g, hg⟩ : ∃ g, g = W0.heap.size := ⟨_, rfl⟩
        rw [← hg]
        have hcell : W1.cell? ⟨g, 1, none⟩ = some (.string ⟨#[98, 101, 108, 111, 119]⟩) := by rw [hW, hg]; simp
        clear hW hb
        refine hK.out _ _ hS1 (fun hHeld => ?_)
        clear hK K hg
        (try simp only [Act.put, List.setIfInBounds_toArray, List.set_cons_zero, List.set_cons_succ])
        refine wpAnyH_take (i := 6) (v := .pointer (some ⟨g, 1, none⟩)) rfl (by kernel_rfl) (by kernel_rfl) (by kernel_rfl) (fun _ _ _ h => h) (.inl ⟨by rfl, fun _ _ => (by simp [execOp, go_sem])⟩) hHeld ?_
        (try simp only [Act.put, List.setIfInBounds_toArray, List.set_cons_zero, List.set_cons_succ])
        refine wpAnyH_ready (rs := [2, 7]) (by kernel_rfl) (by simp) ?_
        refine AllReadyH.cons rfl (fun K hK => ?_) (AllReadyH.cons rfl (fun K hK => ?_) AllReadyH.nil)
        · go_simp
          refine (impl_NumText _ _ (HT.out.mono HB1.out)).mono ?_
          rintro e W2 ⟨_, rfl, rfl, hb⟩
          have HB2 := Lib.hid (bel_next HB1.out hb)
          have hS2 : S W2 := HSM.out _ _ hS1 hb
          have hz2 := HB2.out.size
          have hcell2 := (hb.cell (p := ⟨g, 1, none⟩) (World.block_lt_of_cell? _ _ hcell)).trans hcell
          clear hb
          refine hK.out _ _ hS2 (fun hHeld => ?_)
          clear hK K
          (try simp only [Act.put, List.setIfInBounds_toArray, List.set_cons_zero, List.set_cons_succ])
          refine wpAnyH_ready (rs := [7]) (by kernel_rfl) (by simp) ?_
          refine AllReadyH.cons rfl (fun K hK => ?_) AllReadyH.nil
          go_simp
          refine hK.out _ _ hS2 (fun hHeld => ?_)
          clear hK K
          (try simp only [Act.put, List.setIfInBounds_toArray, List.set_cons_zero, List.set_cons_succ])
          refine wpAnyH_ready (rs := [8]) (by kernel_rfl) (by simp) ?_
          refine AllReadyH.cons rfl (fun K hK => ?_) AllReadyH.nil
          go_simp
          have HF := Lib.hid (show FreshS W2.heap.size (W2.alloc (Obj.cells #[Value.string ⟨#[115, 112, 108, 105, 116]⟩, Value.string (numText A), Value.string ⟨#[98, 101, 108, 111, 119]⟩] 9)) (.slice (some ⟨W2.heap.size, 0, none⟩) 3 3) [⟨#[115, 112, 108, 105, 116]⟩, (numText A), ⟨#[98, 101, 108, 111, 119]⟩] from strsW_lit W2 [⟨#[115, 112, 108, 105, 116]⟩, (numText A), ⟨#[98, 101, 108, 111, 119]⟩] _ rfl (by simp) (fun n hn => by
            simp only [List.mem_cons, List.not_mem_nil, or_false] at hn
            rcases hn with hn | hn | hn
            all_goals (rw [hn]; first | decide | omega)))
          have HBE := Lib.hid (bel_next HB2.out (bel_alloc (Below.refl W2.heap.size W2) (Obj.cells #[Value.string ⟨#[115, 112, 108, 105, 116]⟩, Value.string (numText A), Value.string ⟨#[98, 101, 108, 111, 119]⟩] 9)))
          have hSE := HSM.out _ _ hS2 (bel_alloc (Below.refl W2.heap.size W2) (Obj.cells #[Value.string ⟨#[115, 112, 108, 105, 116]⟩, Value.string (numText A), Value.string ⟨#[98, 101, 108, 111, 119]⟩] 9))
          refine hK.out _ _ hSE (fun hHeld => ?_)
          clear hK K
          (try simp only [Act.put, List.setIfInBounds_toArray, List.set_cons_zero, List.set_cons_succ])
          refine wpAnyH_ready (rs := [9]) (by kernel_rfl) (by simp) ?_
          refine AllReadyH.cons rfl (fun K hK => ?_) AllReadyH.nil
          go_simp
          refine hK.out _ _ hSE (fun hHeld => ?_)
          clear hK K
          (try simp only [Act.put, List.setIfInBounds_toArray, List.set_cons_zero, List.set_cons_succ])
          refine wpAnyH_ready (rs := [10]) (by kernel_rfl) (by simp) ?_
          refine AllReadyH.cons rfl (fun K hK => ?_) AllReadyH.nil
          go_simp
          refine hK.out _ _ hSE (fun hHeld => ?_)
          clear hK K
          (try simp only [Act.put, List.setIfInBounds_toArray, List.set_cons_zero, List.set_cons_succ])
          refine wpAnyH_done (by kernel_rfl) ?_ _
          go_wp2_with fail
          exact bodyPost_ret (v := .tuple #[.slice (some ⟨W2.heap.size, 0, none⟩) 3 3, .bool true]) (by simp [results, Tryd.results56, go_sem]) rfl ⟨_, rfl, ⟨_, by rw [HLN.out], by rw [HWD.out]; exact freshS_le HF.out (by omega)⟩, HBE.out⟩
        · go_simp
          refine hK.out _ _ hS1 (fun hHeld => ?_)
          clear hK K
          (try simp only [Act.put, List.setIfInBounds_toArray, List.set_cons_zero, List.set_cons_succ])
          refine wpAnyH_ready (rs := [2]) (by kernel_rfl) (by simp) ?_
          refine AllReadyH.cons rfl (fun K hK => ?_) AllReadyH.nil
          go_simp
          refine (impl_NumText _ _ (HT.out.mono HB1.out)).mono ?_
          rintro e W2 ⟨_, rfl, rfl, hb⟩
          have HB2 := Lib.hid (bel_next HB1.out hb)
          have hS2 : S W2 := HSM.out _ _ hS1 hb
          have hz2 := HB2.out.size
          clear hb
          refine hK.out _ _ hS2 (fun hHeld => ?_)
          clear hK K
          (try simp only [Act.put, List.setIfInBounds_toArray, List.set_cons_zero, List.set_cons_succ])
          refine wpAnyH_ready (rs := [8]) (by kernel_rfl) (by simp) ?_
          refine AllReadyH.cons rfl (fun K hK => ?_) AllReadyH.nil
          go_simp
          have HF := Lib.hid (show FreshS W2.heap.size (W2.alloc (Obj.cells #[Value.string ⟨#[115, 112, 108, 105, 116]⟩, Value.string (numText A), Value.string ⟨#[98, 101, 108, 111, 119]⟩] 9)) (.slice (some ⟨W2.heap.size, 0, none⟩) 3 3) [⟨#[115, 112, 108, 105, 116]⟩, (numText A), ⟨#[98, 101, 108, 111, 119]⟩] from strsW_lit W2 [⟨#[115, 112, 108, 105, 116]⟩, (numText A), ⟨#[98, 101, 108, 111, 119]⟩] _ rfl (by simp) (fun n hn => by
            simp only [List.mem_cons, List.not_mem_nil, or_false] at hn
            rcases hn with hn | hn | hn
            all_goals (rw [hn]; first | decide | omega)))
          have HBE := Lib.hid (bel_next HB2.out (bel_alloc (Below.refl W2.heap.size W2) (Obj.cells #[Value.string ⟨#[115, 112, 108, 105, 116]⟩, Value.string (numText A), Value.string ⟨#[98, 101, 108, 111, 119]⟩] 9)))
          have hSE := HSM.out _ _ hS2 (bel_alloc (Below.refl W2.heap.size W2) (Obj.cells #[Value.string ⟨#[115, 112, 108, 105, 116]⟩, Value.string (numText A), Value.string ⟨#[98, 101, 108, 111, 119]⟩] 9))
          refine hK.out _ _ hSE (fun hHeld => ?_)
          clear hK K
          (try simp only [Act.put, List.setIfInBounds_toArray, List.set_cons_zero, List.set_cons_succ])
          refine wpAnyH_ready (rs := [9]) (by kernel_rfl) (by simp) ?_
          refine AllReadyH.cons rfl (fun K hK => ?_) AllReadyH.nil
          go_simp
          refine hK.out _ _ hSE (fun hHeld => ?_)
          clear hK K
          (try simp only [Act.put, List.setIfInBounds_toArray, List.set_cons_zero, List.set_cons_succ])
          refine wpAnyH_ready (rs := [10]) (by kernel_rfl) (by simp) ?_
          refine AllReadyH.cons rfl (fun K hK => ?_) AllReadyH.nil
          go_simp
          refine hK.out _ _ hSE (fun hHeld => ?_)
          clear hK K
          (try simp only [Act.put, List.setIfInBounds_toArray, List.set_cons_zero, List.set_cons_succ])
          refine wpAnyH_done (by kernel_rfl) ?_ _
          go_wp2_with fail
          exact bodyPost_ret (v := .tuple #[.slice (some ⟨W2.heap.size, 0, none⟩) 3 3, .bool true]) (by simp [results, Tryd.results56, go_sem]) rfl ⟨_, rfl, ⟨_, by rw [HLN.out], by rw [HWD.out]; exact freshS_le HF.out (by omega)⟩, HBE.out⟩
  by_cases hk4 : kd = 4
  · subst hk4
    clear hk1 hk2 hk3
    have HWD := Lib.hid (show headW ⟨4, A, B, C, nm, tx, dr, da⟩ = [⟨#[107, 105, 108, 108]⟩, (numText A)] from by simp [headW])
    have HLN := Lib.hid (show hasLine ⟨4, A, B, C, nm, tx, dr, da⟩ = true from by simp [hasLine])
    go_enter Tryd.func56, Tryd.ntmps56
    go_wp2_with fail
    obtain ⟨W0, hW0⟩ : ∃ W0, W0 = (w.alloc (.cells #[.int .i64 4, .int .i64 A, .int .i64 B, .int .i64 C, .string nm, .string tx, .string dr, .slice a0 da.length p0] 32)).drew := ⟨_, rfl⟩
    have HB0 := Lib.hid (show Below w.heap.size w W0 from by rw [hW0]; exact (bel_alloc (Below.refl _ _) _).drew)
    have hS0 : S W0 := (HS.out W0).2 (by rw [hW0]; exact ⟨by simp, by simp, by simp, by simp, by simp⟩)
    have hz0 := HB0.out.size
    refine wp_region_held_drew (S := S) (by kernel_rfl) (by rw [← hW0]; exact hS0) (fun hHeld => ?_)
    rw [← hW0] at hHeld ⊢
    clear hW0
    refine wpAnyH_take (i := 6) (v := .pointer (some ⟨w.heap.size, 0, none⟩)) rfl (by kernel_rfl) (by kernel_rfl) (by kernel_rfl) (fun _ _ _ h => h) (.inl ⟨by rfl, fun _ _ => (by simp [execOp, go_sem])⟩) hHeld ?_
    (try simp only [Act.put, List.setIfInBounds_toArray, List.set_cons_zero, List.set_cons_succ])
    refine wpAnyH_take (i := 7) (v := .int .i64 4) rfl (by kernel_rfl) (by kernel_rfl) (by kernel_rfl) (fun _ _ _ h => h) (.inl ⟨by rfl, fun w' h => (by have h := ((HS.out w').1 h).1; simp [execOp, go_sem, h])⟩) hHeld ?_
    (try simp only [Act.put, List.setIfInBounds_toArray, List.set_cons_zero, List.set_cons_succ])
    refine wpAnyH_take (i := 9) (v := .pointer (some ⟨w.heap.size, 1, none⟩)) rfl (by kernel_rfl) (by kernel_rfl) (by kernel_rfl) (fun _ _ _ h => h) (.inl ⟨by rfl, fun _ _ => (by simp [execOp, go_sem])⟩) hHeld ?_
    (try simp only [Act.put, List.setIfInBounds_toArray, List.set_cons_zero, List.set_cons_succ])
    refine wpAnyH_take (i := 10) (v := .int .i64 A) rfl (by kernel_rfl) (by kernel_rfl) (by kernel_rfl) (fun _ _ _ h => h) (.inl ⟨by rfl, fun w' h => (by have h := ((HS.out w').1 h).2.1; simp [execOp, go_sem, h])⟩) hHeld ?_
    (try simp only [Act.put, List.setIfInBounds_toArray, List.set_cons_zero, List.set_cons_succ])
    simp only [Act.put, List.getElem_toArray, List.getElem_cons_succ, List.getElem_cons_zero, List.setIfInBounds_toArray, List.set_cons_zero, List.set_cons_succ]
    have hmm := @run_makeMap Tryd.prog
    refine wpAnyH_mapcall (Inv := fun a0 s a w' => ∃ x32 x33 x36 x39 g, a = (((a0.put (some 32) x32).put (some 33) x33).put (some 36) x36).put (some 39) x39 ∧ (s.b0 = true → x32 = .map (some g) ∧ w.heap.size < g ∧ ∃ es ck, w'.heap[g]? = some (.map es ck) ∧ Look es 4 s.b1 (.string ⟨#[107, 105, 108, 108]⟩) ∧ Look es 7 s.b2 (.string ⟨#[115, 101, 108, 101, 99, 116]⟩) ∧ Look es 14 s.b3 (.string ⟨#[114, 101, 115, 116, 97, 114, 116]⟩) ∧ Look es 8 s.b4 (.string ⟨#[122, 111, 111, 109]⟩)) ∧ (s.b5 = true → x39 = .string (numText A)) ∧ (s.b6 = true → x33 = .map (some g)) ∧ (s.b7 = true → x36 = .string ⟨#[107, 105, 108, 108]⟩) ∧ S w' ∧ Below w.heap.size w w') 3 (by rfl) rfl (by kernel_rfl) ?_ ?_ ?_ ?_ ?_ ?_ ?_ ?_ ?_ ⟨undef, undef, undef, undef, 0, rfl, fun h => (by cases h), fun h => (by cases h), fun h => (by cases h), fun h => (by cases h), hS0, HB0.out⟩
    · rintro b5 a W ⟨x32, x33, x36, x39, g, rfl, -, h5, -, -, hs, hb⟩
      dsimp only at h5
      have H5 := Lib.hid h5
      clear h5
      have HB2 := Lib.hid (bel_next hb (bel_alloc (Below.refl W.heap.size W) (.map #[] 0)))
      have HS2 := Lib.hid (HSM.out _ _ hs (bel_alloc (Below.refl W.heap.size W) (.map #[] 0)))
      have HL2 := Lib.hid (HSL.out _ hs)
      clear hb hs
      (try simp only [Act.put, List.setIfInBounds_toArray, List.set_cons_zero, List.set_cons_succ])
      refine wpOp_step rfl (fun K hK => ?_)
      have HK := Lib.hid hK
      clear hK
      go_simp
      exact HK.out _ _ ⟨HS2.out, _, x33, x36, x39, W.heap.size, rfl, fun _ => ⟨rfl, HL2.out, #[], 0, heap_alloc_new _ _, Look.none _ _, Look.none _ _, Look.none _ _, Look.none _ _⟩, H5.out, fun h => (by cases h), fun h => (by cases h), HS2.out, HB2.out⟩
    · rintro b2 b3 b4 b5 a W ⟨x32, x33, x36, x39, g, rfl, h0, h5, -, -, hs, hb⟩
      dsimp only at h5 h0
      obtain ⟨rfl, hgl, es, ck, hgm, l1, l2, l3, l4⟩ := h0 rfl
      obtain ⟨M, hr, q, b, z⟩ := map_insert_int Tryd.underlying64 Tryd.underlying3 W g es ck 4 (.string ⟨#[107, 105, 108, 108]⟩) hgm (l1.2 rfl)
      have H5 := Lib.hid h5
      have HM := Lib.hid (And.intro hgl (And.intro q (And.intro (l1.same ck) (And.intro (l2.other (n := 4) (u := .string ⟨#[107, 105, 108, 108]⟩) ck (by decide)) (And.intro (l3.other (n := 4) (u := .string ⟨#[107, 105, 108, 108]⟩) ck (by decide)) (l4.other (n := 4) (u := .string ⟨#[107, 105, 108, 108]⟩) ck (by decide)))))))
      have HB2 := Lib.hid (hb.trans (b.mono (Nat.le_of_lt hgl)))
      have HS2 := Lib.hid (HSN.out _ _ _ hgl hs b)
      clear h5 h0 hgl hgm q b z l1 l2 l3 l4
      clear hb hs
      (try simp only [Act.put, List.setIfInBounds_toArray, List.set_cons_zero, List.set_cons_succ])
      refine wpOp_step rfl (fun K hK => ?_)
      have HK := Lib.hid hK
      clear hK
      go_simp
      exact HK.out _ _ ⟨HS2.out, _, x33, x36, x39, g, rfl, fun _ => ⟨rfl, HM.out.1, _, _, HM.out.2⟩, H5.out, fun h => (by cases h), fun h => (by cases h), HS2.out, HB2.out⟩
    · rintro b1 b3 b4 b5 a W ⟨x32, x33, x36, x39, g, rfl, h0, h5, -, -, hs, hb⟩
      dsimp only at h5 h0
      obtain ⟨rfl, hgl, es, ck, hgm, l1, l2, l3, l4⟩ := h0 rfl
      obtain ⟨M, hr, q, b, z⟩ := map_insert_int Tryd.underlying64 Tryd.underlying3 W g es ck 7 (.string ⟨#[115, 101, 108, 101, 99, 116]⟩) hgm (l2.2 rfl)
      have H5 := Lib.hid h5
      have HM := Lib.hid (And.intro hgl (And.intro q (And.intro (l1.other (n := 7) (u := .string ⟨#[115, 101, 108, 101, 99, 116]⟩) ck (by decide)) (And.intro (l2.same ck) (And.intro (l3.other (n := 7) (u := .string ⟨#[115, 101, 108, 101, 99, 116]⟩) ck (by decide)) (l4.other (n := 7) (u := .string ⟨#[115, 101, 108, 101, 99, 116]⟩) ck (by decide)))))))
      have HB2 := Lib.hid (hb.trans (b.mono (Nat.le_of_lt hgl)))
      have HS2 := Lib.hid (HSN.out _ _ _ hgl hs b)
      clear h5 h0 hgl hgm q b z l1 l2 l3 l4
      clear hb hs
      (try simp only [Act.put, List.setIfInBounds_toArray, List.set_cons_zero, List.set_cons_succ])
      refine wpOp_step rfl (fun K hK => ?_)
      have HK := Lib.hid hK
      clear hK
      go_simp
      exact HK.out _ _ ⟨HS2.out, _, x33, x36, x39, g, rfl, fun _ => ⟨rfl, HM.out.1, _, _, HM.out.2⟩, H5.out, fun h => (by cases h), fun h => (by cases h), HS2.out, HB2.out⟩
    · rintro b1 b2 b4 b5 a W ⟨x32, x33, x36, x39, g, rfl, h0, h5, -, -, hs, hb⟩
      dsimp only at h5 h0
      obtain ⟨rfl, hgl, es, ck, hgm, l1, l2, l3, l4⟩ := h0 rfl
      obtain ⟨M, hr, q, b, z⟩ := map_insert_int Tryd.underlying64 Tryd.underlying3 W g es ck 14 (.string ⟨#[114, 101, 115, 116, 97, 114, 116]⟩) hgm (l3.2 rfl)
      have H5 := Lib.hid h5
      have HM := Lib.hid (And.intro hgl (And.intro q (And.intro (l1.other (n := 14) (u := .string ⟨#[114, 101, 115, 116, 97, 114, 116]⟩) ck (by decide)) (And.intro (l2.other (n := 14) (u := .string ⟨#[114, 101, 115, 116, 97, 114, 116]⟩) ck (by decide)) (And.intro (l3.same ck) (l4.other (n := 14) (u := .string ⟨#[114, 101, 115, 116, 97, 114, 116]⟩) ck (by decide)))))))
      have HB2 := Lib.hid (hb.trans (b.mono (Nat.le_of_lt hgl)))
      have HS2 := Lib.hid (HSN.out _ _ _ hgl hs b)
      clear h5 h0 hgl hgm q b z l1 l2 l3 l4
      clear hb hs
      (try simp only [Act.put, List.setIfInBounds_toArray, List.set_cons_zero, List.set_cons_succ])
      refine wpOp_step rfl (fun K hK => ?_)
      have HK := Lib.hid hK
      clear hK
      go_simp
      exact HK.out _ _ ⟨HS2.out, _, x33, x36, x39, g, rfl, fun _ => ⟨rfl, HM.out.1, _, _, HM.out.2⟩, H5.out, fun h => (by cases h), fun h => (by cases h), HS2.out, HB2.out⟩
    · rintro b1 b2 b3 b5 a W ⟨x32, x33, x36, x39, g, rfl, h0, h5, -, -, hs, hb⟩
      dsimp only at h5 h0
      obtain ⟨rfl, hgl, es, ck, hgm, l1, l2, l3, l4⟩ := h0 rfl
      obtain ⟨M, hr, q, b, z⟩ := map_insert_int Tryd.underlying64 Tryd.underlying3 W g es ck 8 (.string ⟨#[122, 111, 111, 109]⟩) hgm (l4.2 rfl)
      have H5 := Lib.hid h5
      have HM := Lib.hid (And.intro hgl (And.intro q (And.intro (l1.other (n := 8) (u := .string ⟨#[122, 111, 111, 109]⟩) ck (by decide)) (And.intro (l2.other (n := 8) (u := .string ⟨#[122, 111, 111, 109]⟩) ck (by decide)) (And.intro (l3.other (n := 8) (u := .string ⟨#[122, 111, 111, 109]⟩) ck (by decide)) (l4.same ck))))))
      have HB2 := Lib.hid (hb.trans (b.mono (Nat.le_of_lt hgl)))
      have HS2 := Lib.hid (HSN.out _ _ _ hgl hs b)
      clear h5 h0 hgl hgm q b z l1 l2 l3 l4
      clear hb hs
      (try simp only [Act.put, List.setIfInBounds_toArray, List.set_cons_zero, List.set_cons_succ])
      refine wpOp_step rfl (fun K hK => ?_)
      have HK := Lib.hid hK
      clear hK
      go_simp
      exact HK.out _ _ ⟨HS2.out, _, x33, x36, x39, g, rfl, fun _ => ⟨rfl, HM.out.1, _, _, HM.out.2⟩, H5.out, fun h => (by cases h), fun h => (by cases h), HS2.out, HB2.out⟩
    · rintro b5 a W ⟨x32, x33, x36, x39, g, rfl, h0, h5, -, -, hs, hb⟩
      dsimp only at h5 h0
      obtain ⟨rfl, H0⟩ := h0 rfl
      have H5 := Lib.hid h5
      have HM := Lib.hid H0
      have HSo := Lib.hid hs
      have HBo := Lib.hid hb
      clear h5 h0 H0
      clear hb hs
      (try simp only [Act.put, List.setIfInBounds_toArray, List.set_cons_zero, List.set_cons_succ])
      refine wpOp_step rfl (fun K hK => ?_)
      have HK := Lib.hid hK
      clear hK
      go_simp
      exact HK.out _ _ ⟨HSo.out, _, _, x36, x39, g, rfl, fun _ => ⟨rfl, HM.out⟩, H5.out, fun _ => rfl, fun h => (by cases h), HSo.out, HBo.out⟩
    · rintro b5 a W ⟨x32, x33, x36, x39, g, rfl, h0, h5, h6, -, hs, hb⟩
      dsimp only at h5 h0
      obtain ⟨rfl, hgl, es, ck, hgm, l1, l2, l3, l4⟩ := h0 rfl
      obtain rfl := h6 rfl
      have H5 := Lib.hid h5
      have HM := Lib.hid (And.intro hgl (And.intro hgm (And.intro l1 (And.intro l2 (And.intro l3 l4)))))
      have HSo := Lib.hid hs
      have HBo := Lib.hid hb
      obtain ⟨li, hli⟩ := l1.1 rfl
      have lk := map_lookup_int Tryd.underlying64 Tryd.underlying3 W g es ck 4 li (.string ⟨#[107, 105, 108, 108]⟩) hgm hli
      clear h5 h0 h6 hgl hgm l1 l2 l3 l4 hli hmm
      clear hb hs
      (try simp only [Act.put, List.setIfInBounds_toArray, List.set_cons_zero, List.set_cons_succ])
      refine wpOp_step rfl (fun K hK => ?_)
      have HK := Lib.hid hK
      clear hK
      go_simp
      exact HK.out _ _ ⟨HSo.out, _, _, _, x39, g, rfl, fun _ => ⟨rfl, HM.out.1, _, _, HM.out.2⟩, H5.out, fun _ => rfl, fun _ => rfl, HSo.out, HBo.out⟩
    · rintro b0 b1 b2 b3 b4 b6 b7 a W ⟨x32, x33, x36, x39, g, rfl, h0, -, h6, h7, hs, hb⟩
      dsimp only at h0 h6 h7
      have H0 := Lib.hid h0
      have H6 := Lib.hid h6
      have H7 := Lib.hid h7
      have HSo := Lib.hid hs
      have HBo := Lib.hid hb
      have HTo := Lib.hid (HT.out.mono hb)
      clear h0 h6 h7
      clear hb hs
      (try simp only [Act.put, List.setIfInBounds_toArray, List.set_cons_zero, List.set_cons_succ])
      refine wpOp_step rfl (fun K hK => ?_)
      have HK := Lib.hid hK
      clear hK
      go_simp
      refine (impl_NumText _ _ HTo.out).mono ?_
      rintro e W2 ⟨_, rfl, rfl, hb2⟩
      refine HK.out _ _ ⟨HSM.out _ _ HSo.out hb2, x32, x33, x36, _, g, rfl, fun e0 => ?_, fun _ => rfl, H6.out, H7.out, HSM.out _ _ HSo.out hb2, bel_next HBo.out hb2⟩
      obtain ⟨k1, k2, es, ck, k3, k4⟩ := H0.out e0
      exact ⟨k1, k2, es, ck, (hb2.block g (Array.getElem?_eq_some_iff.1 k3).1).trans k3, k4⟩
    · rintro a W1 ⟨x32, x33, x36, x39, g, rfl, -, h5, -, h7, hS1, hb⟩
      obtain rfl := h5 rfl
      obtain rfl := h7 rfl
      have HB1 := Lib.hid hb
      have hz1 := hb.size
      clear h5 h7 hb hmm
      (try simp only [Act.put, List.setIfInBounds_toArray, List.set_cons_zero, List.set_cons_succ])
      refine wpAnyH_ready (rs := [12]) (by kernel_rfl) (by simp) ?_
      refine AllReadyH.cons rfl (fun K hK => ?_) AllReadyH.nil
      go_simp
      have HF := Lib.hid (show FreshS W1.heap.size (W1.alloc (Obj.cells #[Value.string ⟨#[107, 105, 108, 108]⟩, Value.string (numText A)] 9)) (.slice (some ⟨W1.heap.size, 0, none⟩) 2 2) [⟨#[107, 105, 108, 108]⟩, (numText A)] from strsW_lit W1 [⟨#[107, 105, 108, 108]⟩, (numText A)] _ rfl (by simp) (fun n hn => by
        simp only [List.mem_cons, List.not_mem_nil, or_false] at hn
        rcases hn with hn | hn
        all_goals (rw [hn]; first | decide | omega)))
      have HBE := Lib.hid (bel_next HB1.out (bel_alloc (Below.refl W1.heap.size W1) (Obj.cells #[Value.string ⟨#[107, 105, 108, 108]⟩, Value.string (numText A)] 9)))
      have hSE := HSM.out _ _ hS1 (bel_alloc (Below.refl W1.heap.size W1) (Obj.cells #[Value.string ⟨#[107, 105, 108, 108]⟩, Value.string (numText A)] 9))
      refine hK.out _ _ hSE (fun hHeld => ?_)
      clear hK K
      (try simp only [Act.put, List.setIfInBounds_toArray, List.set_cons_zero, List.set_cons_succ])
      refine wpAnyH_ready (rs := [13]) (by kernel_rfl) (by simp) ?_
      refine AllReadyH.cons rfl (fun K hK => ?_) AllReadyH.nil
      go_simp
      refine hK.out _ _ hSE (fun hHeld => ?_)
      clear hK K
      (try simp only [Act.put, List.setIfInBounds_toArray, List.set_cons_zero, List.set_cons_succ])
      refine wpAnyH_ready (rs := [14]) (by kernel_rfl) (by simp) ?_
      refine AllReadyH.cons rfl (fun K hK => ?_) AllReadyH.nil
      go_simp
      refine hK.out _ _ hSE (fun hHeld => ?_)
      clear hK K
      (try simp only [Act.put, List.setIfInBounds_toArray, List.set_cons_zero, List.set_cons_succ])
      refine wpAnyH_done (by kernel_rfl) ?_ _
      go_wp2_with fail
      exact bodyPost_ret (v := .tuple #[.slice (some ⟨W1.heap.size, 0, none⟩) 2 2, .bool true]) (by simp [results, Tryd.results56, go_sem]) rfl ⟨_, rfl, ⟨_, by rw [HLN.out], by rw [HWD.out]; exact freshS_le HF.out (by omega)⟩, HBE.out⟩
  by_cases hk5 : kd = 5
  · subst hk5
    clear hk1 hk2 hk3 hk4
    have HWD := Lib.hid (show headW ⟨5, A, B, C, nm, tx, dr, da⟩ = [] from by simp [headW])
    have HLN := Lib.hid (show hasLine ⟨5, A, B, C, nm, tx, dr, da⟩ = false from by simp [hasLine])
    go_enter Tryd.func56, Tryd.ntmps56
    go_wp2_with fail
    exact bodyPost_ret (v := .tuple #[.slice none 0 0, .bool false]) (by simp [results, Tryd.results56, go_sem]) rfl ⟨_, rfl, ⟨_, by rw [HLN.out], by rw [HWD.out]; exact freshS_nilA _ _⟩, (by repeat (first | (with_reducible exact Below.refl _ _) | (with_reducible assumption) | (with_reducible refine bel_alloc ?_ _) | ((with_reducible refine bel_set ?_ ?_ _); rotate_left; (focus first | (simp; done) | (simp; omega)))))⟩
  by_cases hk6 : kd = 6
  · subst hk6
    clear hk1 hk2 hk3 hk4 hk5
    have HWD := Lib.hid (show headW ⟨6, A, B, C, nm, tx, dr, da⟩ = [] from by simp [headW])
    have HLN := Lib.hid (show hasLine ⟨6, A, B, C, nm, tx, dr, da⟩ = false from by simp [hasLine])
    go_enter Tryd.func56, Tryd.ntmps56
    go_wp2_with fail
    exact bodyPost_ret (v := .tuple #[.slice none 0 0, .bool false]) (by simp [results, Tryd.results56, go_sem]) rfl ⟨_, rfl, ⟨_, by rw [HLN.out], by rw [HWD.out]; exact freshS_nilA _ _⟩, (by repeat (first | (with_reducible exact Below.refl _ _) | (with_reducible assumption) | (with_reducible refine bel_alloc ?_ _) | ((with_reducible refine bel_set ?_ ?_ _); rotate_left; (focus first | (simp; done) | (simp; omega)))))⟩
  by_cases hk7 : kd = 7
  · subst hk7
    clear hk1 hk2 hk3 hk4 hk5 hk6
    have HWD := Lib.hid (show headW ⟨7, A, B, C, nm, tx, dr, da⟩ = [⟨#[115, 101, 108, 101, 99, 116]⟩, (numText A)] from by simp [headW])
    have HLN := Lib.hid (show hasLine ⟨7, A, B, C, nm, tx, dr, da⟩ = true from by simp [hasLine])
    go_enter Tryd.func56, Tryd.ntmps56
    go_wp2_with fail
    obtain ⟨W0, hW0⟩ : ∃ W0, W0 = (w.alloc (.cells #[.int .i64 7, .int .i64 A, .int .i64 B, .int .i64 C, .string nm, .string tx, .string dr, .slice a0 da.length p0] 32)).drew := ⟨_, rfl⟩
    have HB0 := Lib.hid (show Below w.heap.size w W0 from by rw [hW0]; exact (bel_alloc (Below.refl _ _) _).drew)
    have hS0 : S W0 := (HS.out W0).2 (by rw [hW0]; exact ⟨by simp, by simp, by simp, by simp, by simp⟩)
    have hz0 := HB0.out.size
    refine wp_region_held_drew (S := S) (by kernel_rfl) (by rw [← hW0]; exact hS0) (fun hHeld => ?_)
    rw [← hW0] at hHeld ⊢
    clear hW0
    refine wpAnyH_take (i := 6) (v := .pointer (some ⟨w.heap.size, 0, none⟩)) rfl (by kernel_rfl) (by kernel_rfl) (by kernel_rfl) (fun _ _ _ h => h) (.inl ⟨by rfl, fun _ _ => (by simp [execOp, go_sem])⟩) hHeld ?_
    (try simp only [Act.put, List.setIfInBounds_toArray, List.set_cons_zero, List.set_cons_succ])
    refine wpAnyH_take (i := 7) (v := .int .i64 7) rfl (by kernel_rfl) (by kernel_rfl) (by kernel_rfl) (fun _ _ _ h => h) (.inl ⟨by rfl, fun w' h => (by have h := ((HS.out w').1 h).1; simp [execOp, go_sem, h])⟩) hHeld ?_
    (try simp only [Act.put, List.setIfInBounds_toArray, List.set_cons_zero, List.set_cons_succ])
    refine wpAnyH_take (i := 9) (v := .pointer (some ⟨w.heap.size, 1, none⟩)) rfl (by kernel_rfl) (by kernel_rfl) (by kernel_rfl) (fun _ _ _ h => h) (.inl ⟨by rfl, fun _ _ => (by simp [execOp, go_sem])⟩) hHeld ?_
    (try simp only [Act.put, List.setIfInBounds_toArray, List.set_cons_zero, List.set_cons_succ])
    refine wpAnyH_take (i := 10) (v := .int .i64 A) rfl (by kernel_rfl) (by kernel_rfl) (by kernel_rfl) (fun _ _ _ h => h) (.inl ⟨by rfl, fun w' h => (by have h := ((HS.out w').1 h).2.1; simp [execOp, go_sem, h])⟩) hHeld ?_
    (try simp only [Act.put, List.setIfInBounds_toArray, List.set_cons_zero, List.set_cons_succ])
    simp only [Act.put, List.getElem_toArray, List.getElem_cons_succ, List.getElem_cons_zero, List.setIfInBounds_toArray, List.set_cons_zero, List.set_cons_succ]
    have hmm := @run_makeMap Tryd.prog
    refine wpAnyH_mapcall (Inv := fun a0 s a w' => ∃ x32 x33 x36 x39 g, a = (((a0.put (some 32) x32).put (some 33) x33).put (some 36) x36).put (some 39) x39 ∧ (s.b0 = true → x32 = .map (some g) ∧ w.heap.size < g ∧ ∃ es ck, w'.heap[g]? = some (.map es ck) ∧ Look es 4 s.b1 (.string ⟨#[107, 105, 108, 108]⟩) ∧ Look es 7 s.b2 (.string ⟨#[115, 101, 108, 101, 99, 116]⟩) ∧ Look es 14 s.b3 (.string ⟨#[114, 101, 115, 116, 97, 114, 116]⟩) ∧ Look es 8 s.b4 (.string ⟨#[122, 111, 111, 109]⟩)) ∧ (s.b5 = true → x39 = .string (numText A)) ∧ (s.b6 = true → x33 = .map (some g)) ∧ (s.b7 = true → x36 = .string ⟨#[115, 101, 108, 101, 99, 116]⟩) ∧ S w' ∧ Below w.heap.size w w') 3 (by rfl) rfl (by kernel_rfl) ?_ ?_ ?_ ?_ ?_ ?_ ?_ ?_ ?_ ⟨undef, undef, undef, undef, 0, rfl, fun h => (by cases h), fun h => (by cases h), fun h => (by cases h), fun h => (by cases h), hS0, HB0.out⟩
    · rintro b5 a W ⟨x32, x33, x36, x39, g, rfl, -, h5, -, -, hs, hb⟩
      dsimp only at h5
      have H5 := Lib.hid h5
      clear h5
      have HB2 := Lib.hid (bel_next hb (bel_alloc (Below.refl W.heap.size W) (.map #[] 0)))
      have HS2 := Lib.hid (HSM.out _ _ hs (bel_alloc (Below.refl W.heap.size W) (.map #[] 0)))
      have HL2 := Lib.hid (HSL.out _ hs)
      clear hb hs
      (try simp only [Act.put, List.setIfInBounds_toArray, List.set_cons_zero, List.set_cons_succ])
      refine wpOp_step rfl (fun K hK => ?_)
      have HK := Lib.hid hK
      clear hK
      go_simp
      exact HK.out _ _ ⟨HS2.out, _, x33, x36, x39, W.heap.size, rfl, fun _ => ⟨rfl, HL2.out, #[], 0, heap_alloc_new _ _, Look.none _ _, Look.none _ _, Look.none _ _, Look.none _ _⟩, H5.out, fun h => (by cases h), fun h => (by cases h), HS2.out, HB2.out⟩
    · rintro b2 b3 b4 b5 a W ⟨x32, x33, x36, x39, g, rfl, h0, h5, -, -, hs, hb⟩
      dsimp only at h5 h0
      obtain ⟨rfl, hgl, es, ck, hgm, l1, l2, l3, l4⟩ := h0 rfl
      obtain ⟨M, hr, q, b, z⟩ := map_insert_int Tryd.underlying64 Tryd.underlying3 W g es ck 4 (.string ⟨#[107, 105, 108, 108]⟩) hgm (l1.2 rfl)
      have H5 := Lib.hid h5
      have HM := Lib.hid (And.intro hgl (And.intro q (And.intro (l1.same ck) (And.intro (l2.other (n := 4) (u := .string ⟨#[107, 105, 108, 108]⟩) ck (by decide)) (And.intro (l3.other (n := 4) (u := .string ⟨#[107, 105, 108, 108]⟩) ck (by decide)) (l4.other (n := 4) (u := .string ⟨#[107, 105, 108, 108]⟩) ck (by decide)))))))
      have HB2 := Lib.hid (hb.trans (b.mono (Nat.le_of_lt hgl)))
      have HS2 := Lib.hid (HSN.out _ _ _ hgl hs b)
      clear h5 h0 hgl hgm q b z l1 l2 l3 l4
      clear hb hs
      (try simp only [Act.put, List.setIfInBounds_toArray, List.set_cons_zero, List.set_cons_succ])
      refine wpOp_step rfl (fun K hK => ?_)
      have HK := Lib.hid hK
      clear hK
      go_simp
      exact HK.out _ _ ⟨HS2.out, _, x33, x36, x39, g, rfl, fun _ => ⟨rfl, HM.out.1, _, _, HM.out.2⟩, H5.out, fun h => (by cases h), fun h => (by cases h), HS2.out, HB2.out⟩
    · rintro b1 b3 b4 b5 a W ⟨x32, x33, x36, x39, g, rfl, h0, h5, -, -, hs, hb⟩
      dsimp only at h5 h0
      obtain ⟨rfl, hgl, es, ck, hgm, l1, l2, l3, l4⟩ := h0 rfl
      obtain ⟨M, hr, q, b, z⟩ := map_insert_int Tryd.underlying64 Tryd.underlying3 W g es ck 7 (.string ⟨#[115, 101, 108, 101, 99, 116]⟩) hgm (l2.2 rfl)
      have H5 := Lib.hid h5
      have HM := Lib.hid (And.intro hgl (And.intro q (And.intro (l1.other (n := 7) (u := .string ⟨#[115, 101, 108, 101, 99, 116]⟩) ck (by decide)) (And.intro (l2.same ck) (And.intro (l3.other (n := 7) (u := .string ⟨#[115, 101, 108, 101, 99, 116]⟩) ck (by decide)) (l4.other (n := 7) (u := .string ⟨#[115, 101, 108, 101, 99, 116]⟩) ck (by decide)))))))
      have HB2 := Lib.hid (hb.trans (b.mono (Nat.le_of_lt hgl)))
      have HS2 := Lib.hid (HSN.out _ _ _ hgl hs b)
      clear h5 h0 hgl hgm q b z l1 l2 l3 l4
      clear hb hs
      (try simp only [Act.put, List.setIfInBounds_toArray, List.set_cons_zero, List.set_cons_succ])
      refine wpOp_step rfl (fun K hK => ?_)
      have HK := Lib.hid hK
      clear hK
      go_simp
      exact HK.out _ _ ⟨HS2.out, _, x33, x36, x39, g, rfl, fun _ => ⟨rfl, HM.out.1, _, _, HM.out.2⟩, H5.out, fun h => (by cases h), fun h => (by cases h), HS2.out, HB2.out⟩
    · rintro b1 b2 b4 b5 a W ⟨x32, x33, x36, x39, g, rfl, h0, h5, -, -, hs, hb⟩
      dsimp only at h5 h0
      obtain ⟨rfl, hgl, es, ck, hgm, l1, l2, l3, l4⟩ := h0 rfl
      obtain ⟨M, hr, q, b, z⟩ := map_insert_int Tryd.underlying64 Tryd.underlying3 W g es ck 14 (.string ⟨#[114, 101, 115, 116, 97, 114, 116]⟩) hgm (l3.2 rfl)
      have H5 := Lib.hid h5
      have HM := Lib.hid (And.intro hgl (And.intro q (And.intro (l1.other (n := 14) (u := .string ⟨#[114, 101, 115, 116, 97, 114, 116]⟩) ck (by decide)) (And.intro (l2.other (n := 14) (u := .string ⟨#[114, 101, 115, 116, 97, 114, 116]⟩) ck (by decide)) (And.intro (l3.same ck) (l4.other (n := 14) (u := .string ⟨#[114, 101, 115, 116, 97, 114, 116]⟩) ck (by decide)))))))
      have HB2 := Lib.hid (hb.trans (b.mono (Nat.le_of_lt hgl)))
      have HS2 := Lib.hid (HSN.out _ _ _ hgl hs b)
      clear h5 h0 hgl hgm q b z l1 l2 l3 l4
      clear hb hs
      (try simp only [Act.put, List.setIfInBounds_toArray, List.set_cons_zero, List.set_cons_succ])
      refine wpOp_step rfl (fun K hK => ?_)
      have HK := Lib.hid hK
      clear hK
      go_simp
      exact HK.out _ _ ⟨HS2.out, _, x33, x36, x39, g, rfl, fun _ => ⟨rfl, HM.out.1, _, _, HM.out.2⟩, H5.out, fun h => (by cases h), fun h => (by cases h), HS2.out, HB2.out⟩
    · rintro b1 b2 b3 b5 a W ⟨x32, x33, x36, x39, g, rfl, h0, h5, -, -, hs, hb⟩
      dsimp only at h5 h0
      obtain ⟨rfl, hgl, es, ck, hgm, l1, l2, l3, l4⟩ := h0 rfl
      obtain ⟨M, hr, q, b, z⟩ := map_insert_int Tryd.underlying64 Tryd.underlying3 W g es ck 8 (.string ⟨#[122, 111, 111, 109]⟩) hgm (l4.2 rfl)
      have H5 := Lib.hid h5
      have HM := Lib.hid (And.intro hgl (And.intro q (And.intro (l1.other (n := 8) (u := .string ⟨#[122, 111, 111, 109]⟩) ck (by decide)) (And.intro (l2.other (n := 8) (u := .string ⟨#[122, 111, 111, 109]⟩) ck (by decide)) (And.intro (l3.other (n := 8) (u := .string ⟨#[122, 111, 111, 109]⟩) ck (by decide)) (l4.same ck))))))
      have HB2 := Lib.hid (hb.trans (b.mono (Nat.le_of_lt hgl)))
      have HS2 := Lib.hid (HSN.out _ _ _ hgl hs b)
      clear h5 h0 hgl hgm q b z l1 l2 l3 l4
      clear hb hs
      (try simp only [Act.put, List.setIfInBounds_toArray, List.set_cons_zero, List.set_cons_succ])
      refine wpOp_step rfl (fun K hK => ?_)
      have HK := Lib.hid hK
      clear hK
      go_simp
      exact HK.out _ _ ⟨HS2.out, _, x33, x36, x39, g, rfl, fun _ => ⟨rfl, HM.out.1, _, _, HM.out.2⟩, H5.out, fun h => (by cases h), fun h => (by cases h), HS2.out, HB2.out⟩
    · rintro b5 a W ⟨x32, x33, x36, x39, g, rfl, h0, h5, -, -, hs, hb⟩
      dsimp only at h5 h0
      obtain ⟨rfl, H0⟩ := h0 rfl
      have H5 := Lib.hid h5
      have HM := Lib.hid H0
      have HSo := Lib.hid hs
      have HBo := Lib.hid hb
      clear h5 h0 H0
      clear hb hs
      (try simp only [Act.put, List.setIfInBounds_toArray, List.set_cons_zero, List.set_cons_succ])
      refine wpOp_step rfl (fun K hK => ?_)
      have HK := Lib.hid hK
      clear hK
      go_simp
      exact HK.out _ _ ⟨HSo.out, _, _, x36, x39, g, rfl, fun _ => ⟨rfl, HM.out⟩, H5.out, fun _ => rfl, fun h => (by cases h), HSo.out, HBo.out⟩
    · rintro b5 a W ⟨x32, x33, x36, x39, g, rfl, h0, h5, h6, -, hs, hb⟩
      dsimp only at h5 h0
      obtain ⟨rfl, hgl, es, ck, hgm, l1, l2, l3, l4⟩ := h0 rfl
      obtain rfl := h6 rfl
      have H5 := Lib.hid h5
      have HM := Lib.hid (And.intro hgl (And.intro hgm (And.intro l1 (And.intro l2 (And.intro l3 l4)))))
      have HSo := Lib.hid hs
      have HBo := Lib.hid hb
      obtain ⟨li, hli⟩ := l2.1 rfl
      have lk := map_lookup_int Tryd.underlying64 Tryd.underlying3 W g es ck 7 li (.string ⟨#[115, 101, 108, 101, 99, 116]⟩) hgm hli
      clear h5 h0 h6 hgl hgm l1 l2 l3 l4 hli hmm
      clear hb hs
      (try simp only [Act.put, List.setIfInBounds_toArray, List.set_cons_zero, List.set_cons_succ])
      refine wpOp_step rfl (fun K hK => ?_)
      have HK := Lib.hid hK
      clear hK
      go_simp
      exact HK.out _ _ ⟨HSo.out, _, _, _, x39, g, rfl, fun _ => ⟨rfl, HM.out.1, _, _, HM.out.2⟩, H5.out, fun _ => rfl, fun _ => rfl, HSo.out, HBo.out⟩
    · rintro b0 b1 b2 b3 b4 b6 b7 a W ⟨x32, x33, x36, x39, g, rfl, h0, -, h6, h7, hs, hb⟩
      dsimp only at h0 h6 h7
      have H0 := Lib.hid h0
      have H6 := Lib.hid h6
      have H7 := Lib.hid h7
      have HSo := Lib.hid hs
      have HBo := Lib.hid hb
      have HTo := Lib.hid (HT.out.mono hb)
      clear h0 h6 h7
      clear hb hs
      (try simp only [Act.put, List.setIfInBounds_toArray, List.set_cons_zero, List.set_cons_succ])
      refine wpOp_step rfl (fun K hK => ?_)
      have HK := Lib.hid hK
      clear hK
      go_simp
      refine (impl_NumText _ _ HTo.out).mono ?_
      rintro e W2 ⟨_, rfl, rfl, hb2⟩
      refine HK.out _ _ ⟨HSM.out _ _ HSo.out hb2, x32, x33, x36, _, g, rfl, fun e0 => ?_, fun _ => rfl, H6.out, H7.out, HSM.out _ _ HSo.out hb2, bel_next HBo.out hb2⟩
      obtain ⟨k1, k2, es, ck, k3, k4⟩ := H0.out e0
      exact ⟨k1, k2, es, ck, (hb2.block g (Array.getElem?_eq_some_iff.1 k3).1).trans k3, k4⟩
    · rintro a W1 ⟨x32, x33, x36, x39, g, rfl, -, h5, -, h7, hS1, hb⟩
      obtain rfl := h5 rfl
      obtain rfl := h7 rfl
      have HB1 := Lib.hid hb
      have hz1 := hb.size
      clear h5 h7 hb hmm
      (try simp only [Act.put, List.setIfInBounds_toArray, List.set_cons_zero, List.set_cons_succ])
      refine wpAnyH_ready (rs := [12]) (by kernel_rfl) (by simp) ?_
      refine AllReadyH.cons rfl (fun K hK => ?_) AllReadyH.nil
      go_simp
      have HF := Lib.hid (show FreshS W1.heap.size (W1.alloc (Obj.cells #[Value.string ⟨#[115, 101, 108, 101, 99, 116]⟩, Value.string (numText A)] 9)) (.slice (some ⟨W1.heap.size, 0, none⟩) 2 2) [⟨#[115, 101, 108, 101, 99, 116]⟩, (numText A)] from strsW_lit W1 [⟨#[115, 101, 108, 101, 99, 116]⟩, (numText A)] _ rfl (by simp) (fun n hn => by
        simp only [List.mem_cons, List.not_mem_nil, or_false] at hn
        rcases hn with hn | hn
        all_goals (rw [hn]; first | decide | omega)))
      have HBE := Lib.hid (bel_next HB1.out (bel_alloc (Below.refl W1.heap.size W1) (Obj.cells #[Value.string ⟨#[115, 101, 108, 101, 99, 116]⟩, Value.string (numText A)] 9)))
      have hSE := HSM.out _ _ hS1 (bel_alloc (Below.refl W1.heap.size W1) (Obj.cells #[Value.string ⟨#[115, 101, 108, 101, 99, 116]⟩, Value.string (numText A)] 9))
      refine hK.out _ _ hSE (fun hHeld => ?_)
      clear hK K
      (try simp only [Act.put, List.setIfInBounds_toArray, List.set_cons_zero, List.set_cons_succ])
      refine wpAnyH_ready (rs := [13]) (by kernel_rfl) (by simp) ?_
      refine AllReadyH.cons rfl (fun K hK => ?_) AllReadyH.nil
      go_simp
      refine hK.out _ _ hSE (fun hHeld => ?_)
      clear hK K
      (try simp only [Act.put, List.setIfInBounds_toArray, List.set_cons_zero, List.set_cons_succ])
      refine wpAnyH_ready (rs := [14]) (by kernel_rfl) (by simp) ?_
      refine AllReadyH.cons rfl (fun K hK => ?_) AllReadyH.nil
      go_simp
      refine hK.out _ _ hSE (fun hHeld => ?_)
      clear hK K
      (try simp only [Act.put, List.setIfInBounds_toArray, List.set_cons_zero, List.set_cons_succ])
      refine wpAnyH_done (by kernel_rfl) ?_ _
      go_wp2_with fail
      exact bodyPost_ret (v := .tuple #[.slice (some ⟨W1.heap.size, 0, none⟩) 2 2, .bool true]) (by simp [results, Tryd.results56, go_sem]) rfl ⟨_, rfl, ⟨_, by rw [HLN.out], by rw [HWD.out]; exact freshS_le HF.out (by omega)⟩, HBE.out⟩
  by_cases hk8 : kd = 8
  · subst hk8
    clear hk1 hk2 hk3 hk4 hk5 hk6 hk7
    have HWD := Lib.hid (show headW ⟨8, A, B, C, nm, tx, dr, da⟩ = [⟨#[122, 111, 111, 109]⟩, (numText A)] from by simp [headW])
    have HLN := Lib.hid (show hasLine ⟨8, A, B, C, nm, tx, dr, da⟩ = true from by simp [hasLine])
    go_enter Tryd.func56, Tryd.ntmps56
    go_wp2_with fail
    obtain ⟨W0, hW0⟩ : ∃ W0, W0 = (w.alloc (.cells #[.int .i64 8, .int .i64 A, .int .i64 B, .int .i64 C, .string nm, .string tx, .string dr, .slice a0 da.length p0] 32)).drew := ⟨_, rfl⟩
    have HB0 := Lib.hid (show Below w.heap.size w W0 from by rw [hW0]; exact (bel_alloc (Below.refl _ _) _).drew)
    have hS0 : S W0 := (HS.out W0).2 (by rw [hW0]; exact ⟨by simp, by simp, by simp, by simp, by simp⟩)
    have hz0 := HB0.out.size
    refine wp_region_held_drew (S := S) (by kernel_rfl) (by rw [← hW0]; exact hS0) (fun hHeld => ?_)
    rw [← hW0] at hHeld ⊢
    clear hW0
    refine wpAnyH_take (i := 6) (v := .pointer (some ⟨w.heap.size, 0, none⟩)) rfl (by kernel_rfl) (by kernel_rfl) (by kernel_rfl) (fun _ _ _ h => h) (.inl ⟨by rfl, fun _ _ => (by simp [execOp, go_sem])⟩) hHeld ?_
    (try simp only [Act.put, List.setIfInBounds_toArray, List.set_cons_zero, List.set_cons_succ])
    refine wpAnyH_take (i := 7) (v := .int .i64 8) rfl (by kernel_rfl) (by kernel_rfl) (by kernel_rfl) (fun _ _ _ h => h) (.inl ⟨by rfl, fun w' h => (by have h := ((HS.out w').1 h).1; simp [execOp, go_sem, h])⟩) hHeld ?_
    (try simp only [Act.put, List.setIfInBounds_toArray, List.set_cons_zero, List.set_cons_succ])
    refine wpAnyH_take (i := 9) (v := .pointer (some ⟨w.heap.size, 1, none⟩)) rfl (by kernel_rfl) (by kernel_rfl) (by kernel_rfl) (fun _ _ _ h => h) (.inl ⟨by rfl, fun _ _ => (by simp [execOp, go_sem])⟩) hHeld ?_
    (try simp only [Act.put, List.setIfInBounds_toArray, List.set_cons_zero, List.set_cons_succ])
    refine wpAnyH_take (i := 10) (v := .int .i64 A) rfl (by kernel_rfl) (by kernel_rfl) (by kernel_rfl) (fun _ _ _ h => h) (.inl ⟨by rfl, fun w' h => (by have h := ((HS.out w').1 h).2.1; simp [execOp, go_sem, h])⟩) hHeld ?_
    (try simp only [Act.put, List.setIfInBounds_toArray, List.set_cons_zero, List.set_cons_succ])
    simp only [Act.put, List.getElem_toArray, List.getElem_cons_succ, List.getElem_cons_zero, List.setIfInBounds_toArray, List.set_cons_zero, List.set_cons_succ]
    have hmm := @run_makeMap Tryd.prog
    refine wpAnyH_mapcall (Inv := fun a0 s a w' => ∃ x32 x33 x36 x39 g, a = (((a0.put (some 32) x32).put (some 33) x33).put (some 36) x36).put (some 39) x39 ∧ (s.b0 = true → x32 = .map (some g) ∧ w.heap.size < g ∧ ∃ es ck, w'.heap[g]? = some (.map es ck) ∧ Look es 4 s.b1 (.string ⟨#[107, 105, 108, 108]⟩) ∧ Look es 7 s.b2 (.string ⟨#[115, 101, 108, 101, 99, 116]⟩) ∧ Look es 14 s.b3 (.string ⟨#[114, 101, 115, 116, 97, 114, 116]⟩) ∧ Look es 8 s.b4 (.string ⟨#[122, 111, 111, 109]⟩)) ∧ (s.b5 = true → x39 = .string (numText A)) ∧ (s.b6 = true → x33 = .map (some g)) ∧ (s.b7 = true → x36 = .string ⟨#[122, 111, 111, 109]⟩) ∧ S w' ∧ Below w.heap.size w w') 3 (by rfl) rfl (by kernel_rfl) ?_ ?_ ?_ ?_ ?_ ?_ ?_ ?_ ?_ ⟨undef, undef, undef, undef, 0, rfl, fun h => (by cases h), fun h => (by cases h), fun h => (by cases h), fun h => (by cases h), hS0, HB0.out⟩
    · rintro b5 a W ⟨x32, x33, x36, x39, g, rfl, -, h5, -, -, hs, hb⟩
      dsimp only at h5
      have H5 := Lib.hid h5
      clear h5
      have HB2 := Lib.hid (bel_next hb (bel_alloc (Below.refl W.heap.size W) (.map #[] 0)))
      have HS2 := Lib.hid (HSM.out _ _ hs (bel_alloc (Below.refl W.heap.size W) (.map #[] 0)))
      have HL2 := Lib.hid (HSL.out _ hs)
      clear hb hs
      (try simp only [Act.put, List.setIfInBounds_toArray, List.set_cons_zero, List.set_cons_succ])
      refine wpOp_step rfl (fun K hK => ?_)
      have HK := Lib.hid hK
      clear hK
      go_simp
      exact HK.out _ _ ⟨HS2.out, _, x33, x36, x39, W.heap.size, rfl, fun _ => ⟨rfl, HL2.out, #[], 0, heap_alloc_new _ _, Look.none _ _, Look.none _ _, Look.none _ _, Look.none _ _⟩, H5.out, fun h => (by cases h), fun h => (by cases h), HS2.out, HB2.out⟩
    · rintro b2 b3 b4 b5 a W ⟨x32, x33, x36, x39, g, rfl, h0, h5, -, -, hs, hb⟩
      dsimp only at h5 h0
      obtain ⟨rfl, hgl, es, ck, hgm, l1, l2, l3, l4⟩ := h0 rfl
      obtain ⟨M, hr, q, b, z⟩ := map_insert_int Tryd.underlying64 Tryd.underlying3 W g es ck 4 (.string ⟨#[107, 105, 108, 108]⟩) hgm (l1.2 rfl)
      have H5 := Lib.hid h5
      have HM := Lib.hid (And.intro hgl (And.intro q (And.intro (l1.same ck) (And.intro (l2.other (n := 4) (u := .string ⟨#[107, 105, 108, 108]⟩) ck (by decide)) (And.intro (l3.other (n := 4) (u := .string ⟨#[107, 105, 108, 108]⟩) ck (by decide)) (l4.other (n := 4) (u := .string ⟨#[107, 105, 108, 108]⟩) ck (by decide)))))))
      have HB2 := Lib.hid (hb.trans (b.mono (Nat.le_of_lt hgl)))
      have HS2 := Lib.hid (HSN.out _ _ _ hgl hs b)
      clear h5 h0 hgl hgm q b z l1 l2 l3 l4
      clear hb hs
      (try simp only [Act.put, List.setIfInBounds_toArray, List.set_cons_zero, List.set_cons_succ])
      refine wpOp_step rfl (fun K hK => ?_)
      have HK := Lib.hid hK
      clear hK
      go_simp
      exact HK.out _ _ ⟨HS2.out, _, x33, x36, x39, g, rfl, fun _ => ⟨rfl, HM.out.1, _, _, HM.out.2⟩, H5.out, fun h => (by cases h), fun h => (by cases h), HS2.out, HB2.out⟩
    · rintro b1 b3 b4 b5 a W ⟨x32, x33, x36, x39, g, rfl, h0, h5, -, -, hs, hb⟩
      dsimp only at h5 h0
      obtain ⟨rfl, hgl, es, ck, hgm, l1, l2, l3, l4⟩ := h0 rfl
      obtain ⟨M, hr, q, b, z⟩ := map_insert_int Tryd.underlying64 Tryd.underlying3 W g es ck 7 (.string ⟨#[115, 101, 108, 101, 99, 116]⟩) hgm (l2.2 rfl)
      have H5 := Lib.hid h5
      have HM := Lib.hid (And.intro hgl (And.intro q (And.intro (l1.other (n := 7) (u := .string ⟨#[115, 101, 108, 101, 99, 116]⟩) ck (by decide)) (And.intro (l2.same ck) (And.intro (l3.other (n := 7) (u := .string ⟨#[115, 101, 108, 101, 99, 116]⟩) ck (by decide)) (l4.other (n := 7) (u := .string ⟨#[115, 101, 108, 101, 99, 116]⟩) ck (by decide)))))))
      have HB2 := Lib.hid (hb.trans (b.mono (Nat.le_of_lt hgl)))
      have HS2 := Lib.hid (HSN.out _ _ _ hgl hs b)
      clear h5 h0 hgl hgm q b z l1 l2 l3 l4
      clear hb hs
      (try simp only [Act.put, List.setIfInBounds_toArray, List.set_cons_zero, List.set_cons_succ])
      refine wpOp_step rfl (fun K hK => ?_)
      have HK := Lib.hid hK
      clear hK
      go_simp
      exact HK.out _ _ ⟨HS2.out, _, x33, x36, x39, g, rfl, fun _ => ⟨rfl, HM.out.1, _, _, HM.out.2⟩, H5.out, fun h => (by cases h), fun h => (by cases h), HS2.out, HB2.out⟩
    · rintro b1 b2 b4 b5 a W ⟨x32, x33, x36, x39, g, rfl, h0, h5, -, -, hs, hb⟩
      dsimp only at h5 h0
      obtain ⟨rfl, hgl, es, ck, hgm, l1, l2, l3, l4⟩ := h0 rfl
      obtain ⟨M, hr, q, b, z⟩ := map_insert_int Tryd.underlying64 Tryd.underlying3 W g es ck 14 (.string ⟨#[114, 101, 115, 116, 97, 114, 116]⟩) hgm (l3.2 rfl)
      have H5 := Lib.hid h5
      have HM := Lib.hid (And.intro hgl (And.intro q (And.intro (l1.other (n := 14) (u := .string ⟨#[114, 101, 115, 116, 97, 114, 116]⟩) ck (by decide)) (And.intro (l2.other (n := 14) (u := .string ⟨#[114, 101, 115, 116, 97, 114, 116]⟩) ck (by decide)) (And.intro (l3.same ck) (l4.other (n := 14) (u := .string ⟨#[114, 101, 115, 116, 97, 114, 116]⟩) ck (by decide)))))))
      have HB2 := Lib.hid (hb.trans (b.mono (Nat.le_of_lt hgl)))
      have HS2 := Lib.hid (HSN.out _ _ _ hgl hs b)
      clear h5 h0 hgl hgm q b z l1 l2 l3 l4
      clear hb hs
      (try simp only [Act.put, List.setIfInBounds_toArray, List.set_cons_zero, List.set_cons_succ])
      refine wpOp_step rfl (fun K hK => ?_)
      have HK := Lib.hid hK
      clear hK
      go_simp
      exact HK.out _ _ ⟨HS2.out, _, x33, x36, x39, g, rfl, fun _ => ⟨rfl, HM.out.1, _, _, HM.out.2⟩, H5.out, fun h => (by cases h), fun h => (by cases h), HS2.out, HB2.out⟩
    · rintro b1 b2 b3 b5 a W ⟨x32, x33, x36, x39, g, rfl, h0, h5, -, -, hs, hb⟩
      dsimp only at h5 h0
      obtain ⟨rfl, hgl, es, ck, hgm, l1, l2, l3, l4⟩ := h0 rfl
      obtain ⟨M, hr, q, b, z⟩ := map_insert_int Tryd.underlying64 Tryd.underlying3 W g es ck 8 (.string ⟨#[122, 111, 111, 109]⟩) hgm (l4.2 rfl)
      have H5 := Lib.hid h5
      have HM := Lib.hid (And.intro hgl (And.intro q (And.intro (l1.other (n := 8) (u := .string ⟨#[122, 111, 111, 109]⟩) ck (by decide)) (And.intro (l2.other (n := 8) (u := .string ⟨#[122, 111, 111, 109]⟩) ck (by decide)) (And.intro (l3.other (n := 8) (u := .string ⟨#[122, 111, 111, 109]⟩) ck (by decide)) (l4.same ck))))))
      have HB2 := Lib.hid (hb.trans (b.mono (Nat.le_of_lt hgl)))
      have HS2 := Lib.hid (HSN.out _ _ _ hgl hs b)
      clear h5 h0 hgl hgm q b z l1 l2 l3 l4
      clear hb hs
      (try simp only [Act.put, List.setIfInBounds_toArray, List.set_cons_zero, List.set_cons_succ])
      refine wpOp_step rfl (fun K hK => ?_)
      have HK := Lib.hid hK
      clear hK
      go_simp
      exact HK.out _ _ ⟨HS2.out, _, x33, x36, x39, g, rfl, fun _ => ⟨rfl, HM.out.1, _, _, HM.out.2⟩, H5.out, fun h => (by cases h), fun h => (by cases h), HS2.out, HB2.out⟩
    · rintro b5 a W ⟨x32, x33, x36, x39, g, rfl, h0, h5, -, -, hs, hb⟩
      dsimp only at h5 h0
      obtain ⟨rfl, H0⟩ := h0 rfl
      have H5 := Lib.hid h5
      have HM := Lib.hid H0
      have HSo := Lib.hid hs
      have HBo := Lib.hid hb
      clear h5 h0 H0
      clear hb hs
      (try simp only [Act.put, List.setIfInBounds_toArray, List.set_cons_zero, List.set_cons_succ])
      refine wpOp_step rfl (fun K hK => ?_)
      have HK := Lib.hid hK
      clear hK
      go_simp
      exact HK.out _ _ ⟨HSo.out, _, _, x36, x39, g, rfl, fun _ => ⟨rfl, HM.out⟩, H5.out, fun _ => rfl, fun h => (by cases h), HSo.out, HBo.out⟩
    · rintro b5 a W ⟨x32, x33, x36, x39, g, rfl, h0, h5, h6, -, hs, hb⟩
      dsimp only at h5 h0
      obtain ⟨rfl, hgl, es, ck, hgm, l1, l2, l3, l4⟩ := h0 rfl
      obtain rfl := h6 rfl
      have H5 := Lib.hid h5
      have HM := Lib.hid (And.intro hgl (And.intro hgm (And.intro l1 (And.intro l2 (And.intro l3 l4)))))
      have HSo := Lib.hid hs
      have HBo := Lib.hid hb
      obtain ⟨li, hli⟩ := l4.1 rfl
      have lk := map_lookup_int Tryd.underlying64 Tryd.underlying3 W g es ck 8 li (.string ⟨#[122, 111, 111, 109]⟩) hgm hli
      clear h5 h0 h6 hgl hgm l1 l2 l3 l4 hli hmm
      clear hb hs
      (try simp only [Act.put, List.setIfInBounds_toArray, List.set_cons_zero, List.set_cons_succ])
      refine wpOp_step rfl (fun K hK => ?_)
      have HK := Lib.hid hK
      clear hK
      go_simp
      exact HK.out _ _ ⟨HSo.out, _, _, _, x39, g, rfl, fun _ => ⟨rfl, HM.out.1, _, _, HM.out.2⟩, H5.out, fun _ => rfl, fun _ => rfl, HSo.out, HBo.out⟩
    · rintro b0 b1 b2 b3 b4 b6 b7 a W ⟨x32, x33, x36, x39, g, rfl, h0, -, h6, h7, hs, hb⟩
      dsimp only at h0 h6 h7
      have H0 := Lib.hid h0
      have H6 := Lib.hid h6
      have H7 := Lib.hid h7
      have HSo := Lib.hid hs
      have HBo := Lib.hid hb
      have HTo := Lib.hid (HT.out.mono hb)
      clear h0 h6 h7
      clear hb hs
      (try simp only [Act.put, List.setIfInBounds_toArray, List.set_cons_zero, List.set_cons_succ])
      refine wpOp_step rfl (fun K hK => ?_)
      have HK := Lib.hid hK
      clear hK
      go_simp
      refine (impl_NumText _ _ HTo.out).mono ?_
      rintro e W2 ⟨_, rfl, rfl, hb2⟩
      refine HK.out _ _ ⟨HSM.out _ _ HSo.out hb2, x32, x33, x36, _, g, rfl, fun e0 => ?_, fun _ => rfl, H6.out, H7.out, HSM.out _ _ HSo.out hb2, bel_next HBo.out hb2⟩
      obtain ⟨k1, k2, es, ck, k3, k4⟩ := H0.out e0
      exact ⟨k1, k2, es, ck, (hb2.block g (Array.getElem?_eq_some_iff.1 k3).1).trans k3, k4⟩
    · rintro a W1 ⟨x32, x33, x36, x39, g, rfl, -, h5, -, h7, hS1, hb⟩
      obtain rfl := h5 rfl
      obtain rfl := h7 rfl
      have HB1 := Lib.hid hb
      have hz1 := hb.size
      clear h5 h7 hb hmm
      (try simp only [Act.put, List.setIfInBounds_toArray, List.set_cons_zero, List.set_cons_succ])
      refine wpAnyH_ready (rs := [12]) (by kernel_rfl) (by simp) ?_
      refine AllReadyH.cons rfl (fun K hK => ?_) AllReadyH.nil
      go_simp
      have HF := Lib.hid (show FreshS W1.heap.size (W1.alloc (Obj.cells #[Value.string ⟨#[122, 111, 111, 109]⟩, Value.string (numText A)] 9)) (.slice (some ⟨W1.heap.size, 0, none⟩) 2 2) [⟨#[122, 111, 111, 109]⟩, (numText A)] from strsW_lit W1 [⟨#[122, 111, 111, 109]⟩, (numText A)] _ rfl (by simp) (fun n hn => by
        simp only [List.mem_cons, List.not_mem_nil, or_false] at hn
        rcases hn with hn | hn
        all_goals (rw [hn]; first | decide | omega)))
      have HBE := Lib.hid (bel_next HB1.out (bel_alloc (Below.refl W1.heap.size W1) (Obj.cells #[Value.string ⟨#[122, 111, 111, 109]⟩, Value.string (numText A)] 9)))
      have hSE := HSM.out _ _ hS1 (bel_alloc (Below.refl W1.heap.size W1) (Obj.cells #[Value.string ⟨#[122, 111, 111, 109]⟩, Value.string (numText A)] 9))
      refine hK.out _ _ hSE (fun hHeld => ?_)
      clear hK K
      (try simp only [Act.put, List.setIfInBounds_toArray, List.set_cons_zero, List.set_cons_succ])
      refine wpAnyH_ready (rs := [13]) (by kernel_rfl) (by simp) ?_
      refine AllReadyH.cons rfl (fun K hK => ?_) AllReadyH.nil
      go_simp
      refine hK.out _ _ hSE (fun hHeld => ?_)
      clear hK K
      (try simp only [Act.put, List.setIfInBounds_toArray, List.set_cons_zero, List.set_cons_succ])
      refine wpAnyH_ready (rs := [14]) (by kernel_rfl) (by simp) ?_
      refine AllReadyH.cons rfl (fun K hK => ?_) AllReadyH.nil
      go_simp
      refine hK.out _ _ hSE (fun hHeld => ?_)
      clear hK K
      (try simp only [Act.put, List.setIfInBounds_toArray, List.set_cons_zero, List.set_cons_succ])
      refine wpAnyH_done (by kernel_rfl) ?_ _
      go_wp2_with fail
      exact bodyPost_ret (v := .tuple #[.slice (some ⟨W1.heap.size, 0, none⟩) 2 2, .bool true]) (by simp [results, Tryd.results56, go_sem]) rfl ⟨_, rfl, ⟨_, by rw [HLN.out], by rw [HWD.out]; exact freshS_le HF.out (by omega)⟩, HBE.out⟩
  by_cases hk9 : kd = 9
  · subst hk9
    clear hk1 hk2 hk3 hk4 hk5 hk6 hk7 hk8
    have HWD := Lib.hid (show headW ⟨9, A, B, C, nm, tx, dr, da⟩ = [⟨#[115, 119, 97, 112]⟩, (numText A), (numText B)] from by simp [headW])
    have HLN := Lib.hid (show hasLine ⟨9, A, B, C, nm, tx, dr, da⟩ = true from by simp [hasLine])
    go_enter Tryd.func56, Tryd.ntmps56
    go_wp2_with fail
    obtain ⟨W0, hW0⟩ : ∃ W0, W0 = (w.alloc (.cells #[.int .i64 9, .int .i64 A, .int .i64 B, .int .i64 C, .string nm, .string tx, .string dr, .slice a0 da.length p0] 32)).drew := ⟨_, rfl⟩
    have HB0 := Lib.hid (show Below w.heap.size w W0 from by rw [hW0]; exact (bel_alloc (Below.refl _ _) _).drew)
    have hS0 : S W0 := (HS.out W0).2 (by rw [hW0]; exact ⟨by simp, by simp, by simp, by simp, by simp⟩)
    have hz0 := HB0.out.size
    refine wp_region_held_drew (S := S) (by kernel_rfl) (by rw [← hW0]; exact hS0) (fun hHeld => ?_)
    rw [← hW0] at hHeld ⊢
    clear hW0
    refine wpAnyH_take (i := 0) (v := .pointer (some ⟨w.heap.size, 1, none⟩)) rfl (by kernel_rfl) (by kernel_rfl) (by kernel_rfl) (fun _ _ _ h => h) (.inl ⟨by rfl, fun _ _ => (by simp [execOp, go_sem])⟩) hHeld ?_
    (try simp only [Act.put, List.setIfInBounds_toArray, List.set_cons_zero, List.set_cons_succ])
    refine wpAnyH_take (i := 1) (v := .int .i64 A) rfl (by kernel_rfl) (by kernel_rfl) (by kernel_rfl) (fun _ _ _ h => h) (.inl ⟨by rfl, fun w' h => (by have h := ((HS.out w').1 h).2.1; simp [execOp, go_sem, h])⟩) hHeld ?_
    (try simp only [Act.put, List.setIfInBounds_toArray, List.set_cons_zero, List.set_cons_succ])
    refine wpAnyH_take (i := 3) (v := .pointer (some ⟨w.heap.size, 2, none⟩)) rfl (by kernel_rfl) (by kernel_rfl) (by kernel_rfl) (fun _ _ _ h => h) (.inl ⟨by rfl, fun _ _ => (by simp [execOp, go_sem])⟩) hHeld ?_
    (try simp only [Act.put, List.setIfInBounds_toArray, List.set_cons_zero, List.set_cons_succ])
    refine wpAnyH_take (i := 4) (v := .int .i64 B) rfl (by kernel_rfl) (by kernel_rfl) (by kernel_rfl) (fun _ _ _ h => h) (.inl ⟨by rfl, fun w' h => (by have h := ((HS.out w').1 h).2.2.1; simp [execOp, go_sem, h])⟩) hHeld ?_
    (try simp only [Act.put, List.setIfInBounds_toArray, List.set_cons_zero, List.set_cons_succ])
    refine wpAnyH_ready (rs := [2]) (by kernel_rfl) (by simp) ?_
    refine AllReadyH.cons rfl (fun K hK => ?_) AllReadyH.nil
    go_simp
    refine (impl_NumText _ _ (HT.out.mono HB0.out)).mono ?_
    rintro e W1 ⟨_, rfl, rfl, hb⟩
    have HB1 := Lib.hid (bel_next HB0.out hb)
    have hS1 : S W1 := HSM.out _ _ hS0 hb
    have hz1 := HB1.out.size
    clear hb
    refine hK.out _ _ hS1 (fun hHeld => ?_)
    clear hK K
    (try simp only [Act.put, List.setIfInBounds_toArray, List.set_cons_zero, List.set_cons_succ])
    refine wpAnyH_ready (rs := [5]) (by kernel_rfl) (by simp) ?_
    refine AllReadyH.cons rfl (fun K hK => ?_) AllReadyH.nil
    go_simp
    refine (impl_NumText _ _ (HT.out.mono HB1.out)).mono ?_
    rintro e W2 ⟨_, rfl, rfl, hb⟩
    have HB2 := Lib.hid (bel_next HB1.out hb)
    have hS2 : S W2 := HSM.out _ _ hS1 hb
    have hz2 := HB2.out.size
    clear hb
    refine hK.out _ _ hS2 (fun hHeld => ?_)
    clear hK K
    (try simp only [Act.put, List.setIfInBounds_toArray, List.set_cons_zero, List.set_cons_succ])
    refine wpAnyH_ready (rs := [6]) (by kernel_rfl) (by simp) ?_
    refine AllReadyH.cons rfl (fun K hK => ?_) AllReadyH.nil
    go_simp
    have HF := Lib.hid (show FreshS W2.heap.size (W2.alloc (Obj.cells #[Value.string ⟨#[115, 119, 97, 112]⟩, Value.string (numText A), Value.string (numText B)] 9)) (.slice (some ⟨W2.heap.size, 0, none⟩) 3 3) [⟨#[115, 119, 97, 112]⟩, (numText A), (numText B)] from strsW_lit W2 [⟨#[115, 119, 97, 112]⟩, (numText A), (numText B)] _ rfl (by simp) (fun n hn => by
      simp only [List.mem_cons, List.not_mem_nil, or_false] at hn
      rcases hn with hn | hn | hn
      all_goals (rw [hn]; first | decide | omega)))
    have HBE := Lib.hid (bel_next HB2.out (bel_alloc (Below.refl W2.heap.size W2) (Obj.cells #[Value.string ⟨#[115, 119, 97, 112]⟩, Value.string (numText A), Value.string (numText B)] 9)))
    have hSE := HSM.out _ _ hS2 (bel_alloc (Below.refl W2.heap.size W2) (Obj.cells #[Value.string ⟨#[115, 119, 97, 112]⟩, Value.string (numText A), Value.string (numText B)] 9))
    refine hK.out _ _ hSE (fun hHeld => ?_)
    clear hK K
    (try simp only [Act.put, List.setIfInBounds_toArray, List.set_cons_zero, List.set_cons_succ])
    refine wpAnyH_ready (rs := [7]) (by kernel_rfl) (by simp) ?_
    refine AllReadyH.cons rfl (fun K hK => ?_) AllReadyH.nil
    go_simp
    refine hK.out _ _ hSE (fun hHeld => ?_)
    clear hK K
    (try simp only [Act.put, List.setIfInBounds_toArray, List.set_cons_zero, List.set_cons_succ])
    refine wpAnyH_ready (rs := [8]) (by kernel_rfl) (by simp) ?_
    refine AllReadyH.cons rfl (fun K hK => ?_) AllReadyH.nil
    go_simp
    refine hK.out _ _ hSE (fun hHeld => ?_)
    clear hK K
    (try simp only [Act.put, List.setIfInBounds_toArray, List.set_cons_zero, List.set_cons_succ])
    refine wpAnyH_done (by kernel_rfl) ?_ _
    go_wp2_with fail
    exact bodyPost_ret (v := .tuple #[.slice (some ⟨W2.heap.size, 0, none⟩) 3 3, .bool true]) (by simp [results, Tryd.results56, go_sem]) rfl ⟨_, rfl, ⟨_, by rw [HLN.out], by rw [HWD.out]; exact freshS_le HF.out (by omega)⟩, HBE.out⟩
  by_cases hk10 : kd = 10
  · subst hk10
    clear hk1 hk2 hk3 hk4 hk5 hk6 hk7 hk8 hk9
    have HWD := Lib.hid (show headW ⟨10, A, B, C, nm, tx, dr, da⟩ = [⟨#[103, 114, 111, 119]⟩, (numText A), (sideT B), (numText C)] from by simp [headW])
    have HLN := Lib.hid (show hasLine ⟨10, A, B, C, nm, tx, dr, da⟩ = true from by simp [hasLine])
    have hside : sideB B = true := by have h := hok; unfold opOkB at h; simp at h; exact h.1.2.1
    go_enter Tryd.func56, Tryd.ntmps56
    go_wp2_with fail
    obtain ⟨W0, hW0⟩ : ∃ W0, W0 = (w.alloc (.cells #[.int .i64 10, .int .i64 A, .int .i64 B, .int .i64 C, .string nm, .string tx, .string dr, .slice a0 da.length p0] 32)).drew := ⟨_, rfl⟩
    have HB0 := Lib.hid (show Below w.heap.size w W0 from by rw [hW0]; exact (bel_alloc (Below.refl _ _) _).drew)
    have hS0 : S W0 := (HS.out W0).2 (by rw [hW0]; exact ⟨by simp, by simp, by simp, by simp, by simp⟩)
    have hz0 := HB0.out.size
    refine wp_region_held_drew (S := S) (by kernel_rfl) (by rw [← hW0]; exact hS0) (fun hHeld => ?_)
    rw [← hW0] at hHeld ⊢
    clear hW0
    refine wpAnyH_take (i := 0) (v := .pointer (some ⟨w.heap.size, 1, none⟩)) rfl (by kernel_rfl) (by kernel_rfl) (by kernel_rfl) (fun _ _ _ h => h) (.inl ⟨by rfl, fun _ _ => (by simp [execOp, go_sem])⟩) hHeld ?_
    (try simp only [Act.put, List.setIfInBounds_toArray, List.set_cons_zero, List.set_cons_succ])
    refine wpAnyH_take (i := 1) (v := .int .i64 A) rfl (by kernel_rfl) (by kernel_rfl) (by kernel_rfl) (fun _ _ _ h => h) (.inl ⟨by rfl, fun w' h => (by have h := ((HS.out w').1 h).2.1; simp [execOp, go_sem, h])⟩) hHeld ?_
    (try simp only [Act.put, List.setIfInBounds_toArray, List.set_cons_zero, List.set_cons_succ])
    refine wpAnyH_take (i := 4) (v := .pointer (some ⟨w.heap.size, 2, none⟩)) rfl (by kernel_rfl) (by kernel_rfl) (by kernel_rfl) (fun _ _ _ h => h) (.inl ⟨by rfl, fun _ _ => (by simp [execOp, go_sem])⟩) hHeld ?_
    (try simp only [Act.put, List.setIfInBounds_toArray, List.set_cons_zero, List.set_cons_succ])
    refine wpAnyH_take (i := 5) (v := .int .i64 B) rfl (by kernel_rfl) (by kernel_rfl) (by kernel_rfl) (fun _ _ _ h => h) (.inl ⟨by rfl, fun w' h => (by have h := ((HS.out w').1 h).2.2.1; simp [execOp, go_sem, h])⟩) hHeld ?_
    (try simp only [Act.put, List.setIfInBounds_toArray, List.set_cons_zero, List.set_cons_succ])
    refine wpAnyH_take (i := 7) (v := .pointer (some ⟨w.heap.size, 3, none⟩)) rfl (by kernel_rfl) (by kernel_rfl) (by kernel_rfl) (fun _ _ _ h => h) (.inl ⟨by rfl, fun _ _ => (by simp [execOp, go_sem])⟩) hHeld ?_
    (try simp only [Act.put, List.setIfInBounds_toArray, List.set_cons_zero, List.set_cons_succ])
    refine wpAnyH_take (i := 8) (v := .int .i64 C) rfl (by kernel_rfl) (by kernel_rfl) (by kernel_rfl) (fun _ _ _ h => h) (.inl ⟨by rfl, fun w' h => (by have h := ((HS.out w').1 h).2.2.2.1; simp [execOp, go_sem, h])⟩) hHeld ?_
    (try simp only [Act.put, List.setIfInBounds_toArray, List.set_cons_zero, List.set_cons_succ])
    refine wpAnyH_ready (rs := [2]) (by kernel_rfl) (by simp) ?_
    refine AllReadyH.cons rfl (fun K hK => ?_) AllReadyH.nil
    go_simp
    refine (impl_NumText _ _ (HT.out.mono HB0.out)).mono ?_
    rintro e W1 ⟨_, rfl, rfl, hb⟩
    have HB1 := Lib.hid (bel_next HB0.out hb)
    have hS1 : S W1 := HSM.out _ _ hS0 hb
    have hz1 := HB1.out.size
    clear hb
    refine hK.out _ _ hS1 (fun hHeld => ?_)
    clear hK K
    (try simp only [Act.put, List.setIfInBounds_toArray, List.set_cons_zero, List.set_cons_succ])
    refine wpAnyH_ready (rs := [3]) (by kernel_rfl) (by simp) ?_
    refine AllReadyH.cons rfl (fun K hK => ?_) AllReadyH.nil
    go_simp
    refine (impl_sideNames _).mono ?_
    rintro e W2 ⟨_, rfl, ⟨g, es, ck, rfl, hgl, hgm, hgf⟩, hb⟩
    have HB2 := Lib.hid (bel_next HB1.out hb)
    have hS2 : S W2 := HSM.out _ _ hS1 hb
    have hz2 := HB2.out.size
    obtain ⟨li, hli⟩ := hgf B hside
    have hglt : g < W2.heap.size := (Array.getElem?_eq_some_iff.1 hgm).1
    clear hb hgf hgl
    refine hK.out _ _ hS2 (fun hHeld => ?_)
    clear hK K
    (try simp only [Act.put, List.setIfInBounds_toArray, List.set_cons_zero, List.set_cons_succ])
    refine wpAnyH_ready (rs := [6, 9]) (by kernel_rfl) (by simp) ?_
    refine AllReadyH.cons rfl (fun K hK => ?_) (AllReadyH.cons rfl (fun K hK => ?_) AllReadyH.nil)
    · have lk := map_lookup_int Tryd.underlying64 Tryd.underlying3 W2 g es ck B li (.string (sideT B)) hgm hli
      go_simp
      refine hK.out _ _ hS2 (fun hHeld => ?_)
      clear hK K
      (try simp only [Act.put, List.setIfInBounds_toArray, List.set_cons_zero, List.set_cons_succ])
      clear lk
      refine wpAnyH_ready (rs := [9]) (by kernel_rfl) (by simp) ?_
      refine AllReadyH.cons rfl (fun K hK => ?_) AllReadyH.nil
      go_simp
      refine (impl_NumText _ _ (HT.out.mono HB2.out)).mono ?_
      rintro e W3 ⟨_, rfl, rfl, hb⟩
      have HB3 := Lib.hid (bel_next HB2.out hb)
      have hS3 : S W3 := HSM.out _ _ hS2 hb
      have hz3 := HB3.out.size
      clear hb
      refine hK.out _ _ hS3 (fun hHeld => ?_)
      clear hK K
      (try simp only [Act.put, List.setIfInBounds_toArray, List.set_cons_zero, List.set_cons_succ])
      refine wpAnyH_ready (rs := [10]) (by kernel_rfl) (by simp) ?_
      refine AllReadyH.cons rfl (fun K hK => ?_) AllReadyH.nil
      go_simp
      have HF := Lib.hid (show FreshS W3.heap.size (W3.alloc (Obj.cells #[Value.string ⟨#[103, 114, 111, 119]⟩, Value.string (numText A), Value.string (sideT B), Value.string (numText C)] 9)) (.slice (some ⟨W3.heap.size, 0, none⟩) 4 4) [⟨#[103, 114, 111, 119]⟩, (numText A), (sideT B), (numText C)] from strsW_lit W3 [⟨#[103, 114, 111, 119]⟩, (numText A), (sideT B), (numText C)] _ rfl (by simp) (fun n hn => by
        simp only [List.mem_cons, List.not_mem_nil, or_false] at hn
        rcases hn with hn | hn | hn | hn
        all_goals (rw [hn]; first | decide | omega)))
      have HBE := Lib.hid (bel_next HB3.out (bel_alloc (Below.refl W3.heap.size W3) (Obj.cells #[Value.string ⟨#[103, 114, 111, 119]⟩, Value.string (numText A), Value.string (sideT B), Value.string (numText C)] 9)))
      have hSE := HSM.out _ _ hS3 (bel_alloc (Below.refl W3.heap.size W3) (Obj.cells #[Value.string ⟨#[103, 114, 111, 119]⟩, Value.string (numText A), Value.string (sideT B), Value.string (numText C)] 9))
      refine hK.out _ _ hSE (fun hHeld => ?_)
      clear hK K
      (try simp only [Act.put, List.setIfInBounds_toArray, List.set_cons_zero, List.set_cons_succ])
      refine wpAnyH_ready (rs := [11]) (by kernel_rfl) (by simp) ?_
      refine AllReadyH.cons rfl (fun K hK => ?_) AllReadyH.nil
      go_simp
      refine hK.out _ _ hSE (fun hHeld => ?_)
      clear hK K
      (try simp only [Act.put, List.setIfInBounds_toArray, List.set_cons_zero, List.set_cons_succ])
      refine wpAnyH_ready (rs := [12]) (by kernel_rfl) (by simp) ?_
      refine AllReadyH.cons rfl (fun K hK => ?_) AllReadyH.nil
      go_simp
      refine hK.out _ _ hSE (fun hHeld => ?_)
      clear hK K
      (try simp only [Act.put, List.setIfInBounds_toArray, List.set_cons_zero, List.set_cons_succ])
      refine wpAnyH_done (by kernel_rfl) ?_ _
      go_wp2_with fail
      exact bodyPost_ret (v := .tuple #[.slice (some ⟨W3.heap.size, 0, none⟩) 4 4, .bool true]) (by simp [results, Tryd.results56, go_sem]) rfl ⟨_, rfl, ⟨_, by rw [HLN.out], by rw [HWD.out]; exact freshS_le HF.out (by omega)⟩, HBE.out⟩
    · go_simp
      refine (impl_NumText _ _ (HT.out.mono HB2.out)).mono ?_
      rintro e W3 ⟨_, rfl, rfl, hb⟩
      have HB3 := Lib.hid (bel_next HB2.out hb)
      have hS3 : S W3 := HSM.out _ _ hS2 hb
      have hz3 := HB3.out.size
      have hgm3 := (hb.block g hglt).trans hgm
      clear hb
      refine hK.out _ _ hS3 (fun hHeld => ?_)
      clear hK K
      (try simp only [Act.put, List.setIfInBounds_toArray, List.set_cons_zero, List.set_cons_succ])
      have lk := map_lookup_int Tryd.underlying64 Tryd.underlying3 W3 g es ck B li (.string (sideT B)) hgm3 hli
      refine wpAnyH_ready (rs := [6]) (by kernel_rfl) (by simp) ?_
      refine AllReadyH.cons rfl (fun K hK => ?_) AllReadyH.nil
      go_simp
      refine hK.out _ _ hS3 (fun hHeld => ?_)
      clear hK K
      (try simp only [Act.put, List.setIfInBounds_toArray, List.set_cons_zero, List.set_cons_succ])
      refine wpAnyH_ready (rs := [10]) (by kernel_rfl) (by simp) ?_
      refine AllReadyH.cons rfl (fun K hK => ?_) AllReadyH.nil
      go_simp
      have HF := Lib.hid (show FreshS W3.heap.size (W3.alloc (Obj.cells #[Value.string ⟨#[103, 114, 111, 119]⟩, Value.string (numText A), Value.string (sideT B), Value.string (numText C)] 9)) (.slice (some ⟨W3.heap.size, 0, none⟩) 4 4) [⟨#[103, 114, 111, 119]⟩, (numText A), (sideT B), (numText C)] from strsW_lit W3 [⟨#[103, 114, 111, 119]⟩, (numText A), (sideT B), (numText C)] _ rfl (by simp) (fun n hn => by
        simp only [List.mem_cons, List.not_mem_nil, or_false] at hn
        rcases hn with hn | hn | hn | hn
        all_goals (rw [hn]; first | decide | omega)))
      have HBE := Lib.hid (bel_next HB3.out (bel_alloc (Below.refl W3.heap.size W3) (Obj.cells #[Value.string ⟨#[103, 114, 111, 119]⟩, Value.string (numText A), Value.string (sideT B), Value.string (numText C)] 9)))
      have hSE := HSM.out _ _ hS3 (bel_alloc (Below.refl W3.heap.size W3) (Obj.cells #[Value.string ⟨#[103, 114, 111, 119]⟩, Value.string (numText A), Value.string (sideT B), Value.string (numText C)] 9))
      refine hK.out _ _ hSE (fun hHeld => ?_)
      clear hK K
      (try simp only [Act.put, List.setIfInBounds_toArray, List.set_cons_zero, List.set_cons_succ])
      refine wpAnyH_ready (rs := [11]) (by kernel_rfl) (by simp) ?_
      refine AllReadyH.cons rfl (fun K hK => ?_) AllReadyH.nil
      go_simp
      refine hK.out _ _ hSE (fun hHeld => ?_)
      clear hK K
      (try simp only [Act.put, List.setIfInBounds_toArray, List.set_cons_zero, List.set_cons_succ])
      refine wpAnyH_ready (rs := [12]) (by kernel_rfl) (by simp) ?_
      refine AllReadyH.cons rfl (fun K hK => ?_) AllReadyH.nil
      go_simp
      refine hK.out _ _ hSE (fun hHeld => ?_)
      clear hK K
      (try simp only [Act.put, List.setIfInBounds_toArray, List.set_cons_zero, List.set_cons_succ])
      refine wpAnyH_done (by kernel_rfl) ?_ _
      go_wp2_with fail
      exact bodyPost_ret (v := .tuple #[.slice (some ⟨W3.heap.size, 0, none⟩) 4 4, .bool true]) (by simp [results, Tryd.results56, go_sem]) rfl ⟨_, rfl, ⟨_, by rw [HLN.out], by rw [HWD.out]; exact freshS_le HF.out (by omega)⟩, HBE.out⟩
  by_cases hk11 : kd = 11
  · subst hk11
    clear hk1 hk2 hk3 hk4 hk5 hk6 hk7 hk8 hk9 hk10
    have HWD := Lib.hid (show headW ⟨11, A, B, C, nm, tx, dr, da⟩ = [⟨#[110, 97, 109, 101]⟩, (numText A), nm] from by simp [headW])
    have HLN := Lib.hid (show hasLine ⟨11, A, B, C, nm, tx, dr, da⟩ = true from by simp [hasLine])
    go_enter Tryd.func56, Tryd.ntmps56
    go_wp2_with fail
    obtain ⟨W0, hW0⟩ : ∃ W0, W0 = (w.alloc (.cells #[.int .i64 11, .int .i64 A, .int .i64 B, .int .i64 C, .string nm, .string tx, .string dr, .slice a0 da.length p0] 32)).drew := ⟨_, rfl⟩
    have HB0 := Lib.hid (show Below w.heap.size w W0 from by rw [hW0]; exact (bel_alloc (Below.refl _ _) _).drew)
    have hS0 : S W0 := (HS.out W0).2 (by rw [hW0]; exact ⟨by simp, by simp, by simp, by simp, by simp⟩)
    have hz0 := HB0.out.size
    refine wp_region_held_drew (S := S) (by kernel_rfl) (by rw [← hW0]; exact hS0) (fun hHeld => ?_)
    rw [← hW0] at hHeld ⊢
    clear hW0
    refine wpAnyH_take (i := 0) (v := .pointer (some ⟨w.heap.size, 1, none⟩)) rfl (by kernel_rfl) (by kernel_rfl) (by kernel_rfl) (fun _ _ _ h => h) (.inl ⟨by rfl, fun _ _ => (by simp [execOp, go_sem])⟩) hHeld ?_
    (try simp only [Act.put, List.setIfInBounds_toArray, List.set_cons_zero, List.set_cons_succ])
    refine wpAnyH_take (i := 1) (v := .int .i64 A) rfl (by kernel_rfl) (by kernel_rfl) (by kernel_rfl) (fun _ _ _ h => h) (.inl ⟨by rfl, fun w' h => (by have h := ((HS.out w').1 h).2.1; simp [execOp, go_sem, h])⟩) hHeld ?_
    (try simp only [Act.put, List.setIfInBounds_toArray, List.set_cons_zero, List.set_cons_succ])
    refine wpAnyH_take (i := 3) (v := .pointer (some ⟨w.heap.size, 4, none⟩)) rfl (by kernel_rfl) (by kernel_rfl) (by kernel_rfl) (fun _ _ _ h => h) (.inl ⟨by rfl, fun _ _ => (by simp [execOp, go_sem])⟩) hHeld ?_
    (try simp only [Act.put, List.setIfInBounds_toArray, List.set_cons_zero, List.set_cons_succ])
    refine wpAnyH_take (i := 4) (v := .string nm) rfl (by kernel_rfl) (by kernel_rfl) (by kernel_rfl) (fun _ _ _ h => h) (.inl ⟨by rfl, fun w' h => (by have h := ((HS.out w').1 h).2.2.2.2; simp [execOp, go_sem, h])⟩) hHeld ?_
    (try simp only [Act.put, List.setIfInBounds_toArray, List.set_cons_zero, List.set_cons_succ])
    refine wpAnyH_ready (rs := [2]) (by kernel_rfl) (by simp) ?_
    refine AllReadyH.cons rfl (fun K hK => ?_) AllReadyH.nil
    go_simp
    refine (impl_NumText _ _ (HT.out.mono HB0.out)).mono ?_
    rintro e W1 ⟨_, rfl, rfl, hb⟩
    have HB1 := Lib.hid (bel_next HB0.out hb)
    have hS1 : S W1 := HSM.out _ _ hS0 hb
    have hz1 := HB1.out.size
    clear hb
    refine hK.out _ _ hS1 (fun hHeld => ?_)
    clear hK K
    (try simp only [Act.put, List.setIfInBounds_toArray, List.set_cons_zero, List.set_cons_succ])
    refine wpAnyH_ready (rs := [5]) (by kernel_rfl) (by simp) ?_
    refine AllReadyH.cons rfl (fun K hK => ?_) AllReadyH.nil
    go_simp
    have HF := Lib.hid (show FreshS W1.heap.size (W1.alloc (Obj.cells #[Value.string ⟨#[110, 97, 109, 101]⟩, Value.string (numText A), Value.string nm] 9)) (.slice (some ⟨W1.heap.size, 0, none⟩) 3 3) [⟨#[110, 97, 109, 101]⟩, (numText A), nm] from strsW_lit W1 [⟨#[110, 97, 109, 101]⟩, (numText A), nm] _ rfl (by simp) (fun n hn => by
      simp only [List.mem_cons, List.not_mem_nil, or_false] at hn
      rcases hn with hn | hn | hn
      all_goals (rw [hn]; first | decide | omega)))
    have HBE := Lib.hid (bel_next HB1.out (bel_alloc (Below.refl W1.heap.size W1) (Obj.cells #[Value.string ⟨#[110, 97, 109, 101]⟩, Value.string (numText A), Value.string nm] 9)))
    have hSE := HSM.out _ _ hS1 (bel_alloc (Below.refl W1.heap.size W1) (Obj.cells #[Value.string ⟨#[110, 97, 109, 101]⟩, Value.string (numText A), Value.string nm] 9))
    refine hK.out _ _ hSE (fun hHeld => ?_)
    clear hK K
    (try simp only [Act.put, List.setIfInBounds_toArray, List.set_cons_zero, List.set_cons_succ])
    refine wpAnyH_ready (rs := [6]) (by kernel_rfl) (by simp) ?_
    refine AllReadyH.cons rfl (fun K hK => ?_) AllReadyH.nil
    go_simp
    refine hK.out _ _ hSE (fun hHeld => ?_)
    clear hK K
    (try simp only [Act.put, List.setIfInBounds_toArray, List.set_cons_zero, List.set_cons_succ])
    refine wpAnyH_ready (rs := [7]) (by kernel_rfl) (by simp) ?_
    refine AllReadyH.cons rfl (fun K hK => ?_) AllReadyH.nil
    go_simp
    refine hK.out _ _ hSE (fun hHeld => ?_)
    clear hK K
    (try simp only [Act.put, List.setIfInBounds_toArray, List.set_cons_zero, List.set_cons_succ])
    refine wpAnyH_done (by kernel_rfl) ?_ _
    go_wp2_with fail
    exact bodyPost_ret (v := .tuple #[.slice (some ⟨W1.heap.size, 0, none⟩) 3 3, .bool true]) (by simp [results, Tryd.results56, go_sem]) rfl ⟨_, rfl, ⟨_, by rw [HLN.out], by rw [HWD.out]; exact freshS_le HF.out (by omega)⟩, HBE.out⟩
  by_cases hk12 : kd = 12
  · subst hk12
    clear hk1 hk2 hk3 hk4 hk5 hk6 hk7 hk8 hk9 hk10 hk11
    have HWD := Lib.hid (show headW ⟨12, A, B, C, nm, tx, dr, da⟩ = [⟨#[115, 105, 122, 101]⟩, (numText A), (numText B)] from by simp [headW])
    have HLN := Lib.hid (show hasLine ⟨12, A, B, C, nm, tx, dr, da⟩ = true from by simp [hasLine])
    go_enter Tryd.func56, Tryd.ntmps56
    go_wp2_with fail
    obtain ⟨W0, hW0⟩ : ∃ W0, W0 = (w.alloc (.cells #[.int .i64 12, .int .i64 A, .int .i64 B, .int .i64 C, .string nm, .string tx, .string dr, .slice a0 da.length p0] 32)).drew := ⟨_, rfl⟩
    have HB0 := Lib.hid (show Below w.heap.size w W0 from by rw [hW0]; exact (bel_alloc (Below.refl _ _) _).drew)
    have hS0 : S W0 := (HS.out W0).2 (by rw [hW0]; exact ⟨by simp, by simp, by simp, by simp, by simp⟩)
    have hz0 := HB0.out.size
    refine wp_region_held_drew (S := S) (by kernel_rfl) (by rw [← hW0]; exact hS0) (fun hHeld => ?_)
    rw [← hW0] at hHeld ⊢
    clear hW0
    refine wpAnyH_take (i := 0) (v := .pointer (some ⟨w.heap.size, 1, none⟩)) rfl (by kernel_rfl) (by kernel_rfl) (by kernel_rfl) (fun _ _ _ h => h) (.inl ⟨by rfl, fun _ _ => (by simp [execOp, go_sem])⟩) hHeld ?_
    (try simp only [Act.put, List.setIfInBounds_toArray, List.set_cons_zero, List.set_cons_succ])
    refine wpAnyH_take (i := 1) (v := .int .i64 A) rfl (by kernel_rfl) (by kernel_rfl) (by kernel_rfl) (fun _ _ _ h => h) (.inl ⟨by rfl, fun w' h => (by have h := ((HS.out w').1 h).2.1; simp [execOp, go_sem, h])⟩) hHeld ?_
    (try simp only [Act.put, List.setIfInBounds_toArray, List.set_cons_zero, List.set_cons_succ])
    refine wpAnyH_take (i := 3) (v := .pointer (some ⟨w.heap.size, 2, none⟩)) rfl (by kernel_rfl) (by kernel_rfl) (by kernel_rfl) (fun _ _ _ h => h) (.inl ⟨by rfl, fun _ _ => (by simp [execOp, go_sem])⟩) hHeld ?_
    (try simp only [Act.put, List.setIfInBounds_toArray, List.set_cons_zero, List.set_cons_succ])
    refine wpAnyH_take (i := 4) (v := .int .i64 B) rfl (by kernel_rfl) (by kernel_rfl) (by kernel_rfl) (fun _ _ _ h => h) (.inl ⟨by rfl, fun w' h => (by have h := ((HS.out w').1 h).2.2.1; simp [execOp, go_sem, h])⟩) hHeld ?_
    (try simp only [Act.put, List.setIfInBounds_toArray, List.set_cons_zero, List.set_cons_succ])
    refine wpAnyH_ready (rs := [2]) (by kernel_rfl) (by simp) ?_
    refine AllReadyH.cons rfl (fun K hK => ?_) AllReadyH.nil
    go_simp
    refine (impl_NumText _ _ (HT.out.mono HB0.out)).mono ?_
    rintro e W1 ⟨_, rfl, rfl, hb⟩
    have HB1 := Lib.hid (bel_next HB0.out hb)
    have hS1 : S W1 := HSM.out _ _ hS0 hb
    have hz1 := HB1.out.size
    clear hb
    refine hK.out _ _ hS1 (fun hHeld => ?_)
    clear hK K
    (try simp only [Act.put, List.setIfInBounds_toArray, List.set_cons_zero, List.set_cons_succ])
    refine wpAnyH_ready (rs := [5]) (by kernel_rfl) (by simp) ?_
    refine AllReadyH.cons rfl (fun K hK => ?_) AllReadyH.nil
    go_simp
    refine (impl_NumText _ _ (HT.out.mono HB1.out)).mono ?_
    rintro e W2 ⟨_, rfl, rfl, hb⟩
    have HB2 := Lib.hid (bel_next HB1.out hb)
    have hS2 : S W2 := HSM.out _ _ hS1 hb
    have hz2 := HB2.out.size
    clear hb
    refine hK.out _ _ hS2 (fun hHeld => ?_)
    clear hK K
    (try simp only [Act.put, List.setIfInBounds_toArray, List.set_cons_zero, List.set_cons_succ])
    refine wpAnyH_ready (rs := [6]) (by kernel_rfl) (by simp) ?_
    refine AllReadyH.cons rfl (fun K hK => ?_) AllReadyH.nil
    go_simp
    have HF := Lib.hid (show FreshS W2.heap.size (W2.alloc (Obj.cells #[Value.string ⟨#[115, 105, 122, 101]⟩, Value.string (numText A), Value.string (numText B)] 9)) (.slice (some ⟨W2.heap.size, 0, none⟩) 3 3) [⟨#[115, 105, 122, 101]⟩, (numText A), (numText B)] from strsW_lit W2 [⟨#[115, 105, 122, 101]⟩, (numText A), (numText B)] _ rfl (by simp) (fun n hn => by
      simp only [List.mem_cons, List.not_mem_nil, or_false] at hn
      rcases hn with hn | hn | hn
      all_goals (rw [hn]; first | decide | omega)))
    have HBE := Lib.hid (bel_next HB2.out (bel_alloc (Below.refl W2.heap.size W2) (Obj.cells #[Value.string ⟨#[115, 105, 122, 101]⟩, Value.string (numText A), Value.string (numText B)] 9)))
    have hSE := HSM.out _ _ hS2 (bel_alloc (Below.refl W2.heap.size W2) (Obj.cells #[Value.string ⟨#[115, 105, 122, 101]⟩, Value.string (numText A), Value.string (numText B)] 9))
    refine hK.out _ _ hSE (fun hHeld => ?_)
    clear hK K
    (try simp only [Act.put, List.setIfInBounds_toArray, List.set_cons_zero, List.set_cons_succ])
    refine wpAnyH_ready (rs := [7]) (by kernel_rfl) (by simp) ?_
    refine AllReadyH.cons rfl (fun K hK => ?_) AllReadyH.nil
    go_simp
    refine hK.out _ _ hSE (fun hHeld => ?_)
    clear hK K
    (try simp only [Act.put, List.setIfInBounds_toArray, List.set_cons_zero, List.set_cons_succ])
    refine wpAnyH_ready (rs := [8]) (by kernel_rfl) (by simp) ?_
    refine AllReadyH.cons rfl (fun K hK => ?_) AllReadyH.nil
    go_simp
    refine hK.out _ _ hSE (fun hHeld => ?_)
    clear hK K
    (try simp only [Act.put, List.setIfInBounds_toArray, List.set_cons_zero, List.set_cons_succ])
    refine wpAnyH_done (by kernel_rfl) ?_ _
    go_wp2_with fail
    exact bodyPost_ret (v := .tuple #[.slice (some ⟨W2.heap.size, 0, none⟩) 3 3, .bool true]) (by simp [results, Tryd.results56, go_sem]) rfl ⟨_, rfl, ⟨_, by rw [HLN.out], by rw [HWD.out]; exact freshS_le HF.out (by omega)⟩, HBE.out⟩
  by_cases hk13 : kd = 13
  · subst hk13
    clear hk1 hk2 hk3 hk4 hk5 hk6 hk7 hk8 hk9 hk10 hk11 hk12
    have HWD := Lib.hid (show headW ⟨13, A, B, C, nm, tx, dr, da⟩ = [] from by simp [headW])
    have HLN := Lib.hid (show hasLine ⟨13, A, B, C, nm, tx, dr, da⟩ = false from by simp [hasLine])
    go_enter Tryd.func56, Tryd.ntmps56
    go_wp2_with fail
    exact bodyPost_ret (v := .tuple #[.slice none 0 0, .bool false]) (by simp [results, Tryd.results56, go_sem]) rfl ⟨_, rfl, ⟨_, by rw [HLN.out], by rw [HWD.out]; exact freshS_nilA _ _⟩, (by repeat (first | (with_reducible exact Below.refl _ _) | (with_reducible assumption) | (with_reducible refine bel_alloc ?_ _) | ((with_reducible refine bel_set ?_ ?_ _); rotate_left; (focus first | (simp; done) | (simp; omega)))))⟩
  by_cases hk14 : kd = 14
  · subst hk14
    clear hk1 hk2 hk3 hk4 hk5 hk6 hk7 hk8 hk9 hk10 hk11 hk12 hk13
    have HWD := Lib.hid (show headW ⟨14, A, B, C, nm, tx, dr, da⟩ = [⟨#[114, 101, 115, 116, 97, 114, 116]⟩, (numText A)] from by simp [headW])
    have HLN := Lib.hid (show hasLine ⟨14, A, B, C, nm, tx, dr, da⟩ = true from by simp [hasLine])
    go_enter Tryd.func56, Tryd.ntmps56
    go_wp2_with fail
    obtain ⟨W0, hW0⟩ : ∃ W0, W0 = (w.alloc (.cells #[.int .i64 14, .int .i64 A, .int .i64 B, .int .i64 C, .string nm, .string tx, .string dr, .slice a0 da.length p0] 32)).drew := ⟨_, rfl⟩
    have HB0 := Lib.hid (show Below w.heap.size w W0 from by rw [hW0]; exact (bel_alloc (Below.refl _ _) _).drew)
    have hS0 : S W0 := (HS.out W0).2 (by rw [hW0]; exact ⟨by simp, by simp, by simp, by simp, by simp⟩)
    have hz0 := HB0.out.size
    refine wp_region_held_drew (S := S) (by kernel_rfl) (by rw [← hW0]; exact hS0) (fun hHeld => ?_)
    rw [← hW0] at hHeld ⊢
    clear hW0
    refine wpAnyH_take (i := 6) (v := .pointer (some ⟨w.heap.size, 0, none⟩)) rfl (by kernel_rfl) (by kernel_rfl) (by kernel_rfl) (fun _ _ _ h => h) (.inl ⟨by rfl, fun _ _ => (by simp [execOp, go_sem])⟩) hHeld ?_
    (try simp only [Act.put, List.setIfInBounds_toArray, List.set_cons_zero, List.set_cons_succ])
    refine wpAnyH_take (i := 7) (v := .int .i64 14) rfl (by kernel_rfl) (by kernel_rfl) (by kernel_rfl) (fun _ _ _ h => h) (.inl ⟨by rfl, fun w' h => (by have h := ((HS.out w').1 h).1; simp [execOp, go_sem, h])⟩) hHeld ?_
    (try simp only [Act.put, List.setIfInBounds_toArray, List.set_cons_zero, List.set_cons_succ])
    refine wpAnyH_take (i := 9) (v := .pointer (some ⟨w.heap.size, 1, none⟩)) rfl (by kernel_rfl) (by kernel_rfl) (by kernel_rfl) (fun _ _ _ h => h) (.inl ⟨by rfl, fun _ _ => (by simp [execOp, go_sem])⟩) hHeld ?_
    (try simp only [Act.put, List.setIfInBounds_toArray, List.set_cons_zero, List.set_cons_succ])
    refine wpAnyH_take (i := 10) (v := .int .i64 A) rfl (by kernel_rfl) (by kernel_rfl) (by kernel_rfl) (fun _ _ _ h => h) (.inl ⟨by rfl, fun w' h => (by have h := ((HS.out w').1 h).2.1; simp [execOp, go_sem, h])⟩) hHeld ?_
    (try simp only [Act.put, List.setIfInBounds_toArray, List.set_cons_zero, List.set_cons_succ])
    simp only [Act.put, List.getElem_toArray, List.getElem_cons_succ, List.getElem_cons_zero, List.setIfInBounds_toArray, List.set_cons_zero, List.set_cons_succ]
    have hmm := @run_makeMap Tryd.prog
    refine wpAnyH_mapcall (Inv := fun a0 s a w' => ∃ x32 x33 x36 x39 g, a = (((a0.put (some 32) x32).put (some 33) x33).put (some 36) x36).put (some 39) x39 ∧ (s.b0 = true → x32 = .map (some g) ∧ w.heap.size < g ∧ ∃ es ck, w'.heap[g]? = some (.map es ck) ∧ Look es 4 s.b1 (.string ⟨#[107, 105, 108, 108]⟩) ∧ Look es 7 s.b2 (.string ⟨#[115, 101, 108, 101, 99, 116]⟩) ∧ Look es 14 s.b3 (.string ⟨#[114, 101, 115, 116, 97, 114, 116]⟩) ∧ Look es 8 s.b4 (.string ⟨#[122, 111, 111, 109]⟩)) ∧ (s.b5 = true → x39 = .string (numText A)) ∧ (s.b6 = true → x33 = .map (some g)) ∧ (s.b7 = true → x36 = .string ⟨#[114, 101, 115, 116, 97, 114, 116]⟩) ∧ S w' ∧ Below w.heap.size w w') 3 (by rfl) rfl (by kernel_rfl) ?_ ?_ ?_ ?_ ?_ ?_ ?_ ?_ ?_ ⟨undef, undef, undef, undef, 0, rfl, fun h => (by cases h), fun h => (by cases h), fun h => (by cases h), fun h => (by cases h), hS0, HB0.out⟩
    · rintro b5 a W ⟨x32, x33, x36, x39, g, rfl, -, h5, -, -, hs, hb⟩
      dsimp only at h5
      have H5 := Lib.hid h5
      clear h5
      have HB2 := Lib.hid (bel_next hb (bel_alloc (Below.refl W.heap.size W) (.map #[] 0)))
      have HS2 := Lib.hid (HSM.out _ _ hs (bel_alloc (Below.refl W.heap.size W) (.map #[] 0)))
      have HL2 := Lib.hid (HSL.out _ hs)
      clear hb hs
      (try simp only [Act.put, List.setIfInBounds_toArray, List.set_cons_zero, List.set_cons_succ])
      refine wpOp_step rfl (fun K hK => ?_)
      have HK := Lib.hid hK
      clear hK
      go_simp
      exact HK.out _ _ ⟨HS2.out, _, x33, x36, x39, W.heap.size, rfl, fun _ => ⟨rfl, HL2.out, #[], 0, heap_alloc_new _ _, Look.none _ _, Look.none _ _, Look.none _ _, Look.none _ _⟩, H5.out, fun h => (by cases h), fun h => (by cases h), HS2.out, HB2.out⟩
    · rintro b2 b3 b4 b5 a W ⟨x32, x33, x36, x39, g, rfl, h0, h5, -, -, hs, hb⟩
      dsimp only at h5 h0
      obtain ⟨rfl, hgl, es, ck, hgm, l1, l2, l3, l4⟩ := h0 rfl
      obtain ⟨M, hr, q, b, z⟩ := map_insert_int Tryd.underlying64 Tryd.underlying3 W g es ck 4 (.string ⟨#[107, 105, 108, 108]⟩) hgm (l1.2 rfl)
      have H5 := Lib.hid h5
      have HM := Lib.hid (And.intro hgl (And.intro q (And.intro (l1.same ck) (And.intro (l2.other (n := 4) (u := .string ⟨#[107, 105, 108, 108]⟩) ck (by decide)) (And.intro (l3.other (n := 4) (u := .string ⟨#[107, 105, 108, 108]⟩) ck (by decide)) (l4.other (n := 4) (u := .string ⟨#[107, 105, 108, 108]⟩) ck (by decide)))))))
      have HB2 := Lib.hid (hb.trans (b.mono (Nat.le_of_lt hgl)))
      have HS2 := Lib.hid (HSN.out _ _ _ hgl hs b)
      clear h5 h0 hgl hgm q b z l1 l2 l3 l4
      clear hb hs
      (try simp only [Act.put, List.setIfInBounds_toArray, List.set_cons_zero, List.set_cons_succ])
      refine wpOp_step rfl (fun K hK => ?_)
      have HK := Lib.hid hK
      clear hK
      go_simp
      exact HK.out _ _ ⟨HS2.out, _, x33, x36, x39, g, rfl, fun _ => ⟨rfl, HM.out.1, _, _, HM.out.2⟩, H5.out, fun h => (by cases h), fun h => (by cases h), HS2.out, HB2.out⟩
    · rintro b1 b3 b4 b5 a W ⟨x32, x33, x36, x39, g, rfl, h0, h5, -, -, hs, hb⟩
      dsimp only at h5 h0
      obtain ⟨rfl, hgl, es, ck, hgm, l1, l2, l3, l4⟩ := h0 rfl
      obtain ⟨M, hr, q, b, z⟩ := map_insert_int Tryd.underlying64 Tryd.underlying3 W g es ck 7 (.string ⟨#[115, 101, 108, 101, 99, 116]⟩) hgm (l2.2 rfl)
      have H5 := Lib.hid h5
      have HM := Lib.hid (And.intro hgl (And.intro q (And.intro (l1.other (n := 7) (u := .string ⟨#[115, 101, 108, 101, 99, 116]⟩) ck (by decide)) (And.intro (l2.same ck) (And.intro (l3.other (n := 7) (u := .string ⟨#[115, 101, 108, 101, 99, 116]⟩) ck (by decide)) (l4.other (n := 7) (u := .string ⟨#[115, 101, 108, 101, 99, 116]⟩) ck (by decide)))))))
      have HB2 := Lib.hid (hb.trans (b.mono (Nat.le_of_lt hgl)))
      have HS2 := Lib.hid (HSN.out _ _ _ hgl hs b)
      clear h5 h0 hgl hgm q b z l1 l2 l3 l4
      clear hb hs
      (try simp only [Act.put, List.setIfInBounds_toArray, List.set_cons_zero, List.set_cons_succ])
      refine wpOp_step rfl (fun K hK => ?_)
      have HK := Lib.hid hK
      clear hK
      go_simp
      exact HK.out _ _ ⟨HS2.out, _, x33, x36, x39, g, rfl, fun _ => ⟨rfl, HM.out.1, _, _, HM.out.2⟩, H5.out, fun h => (by cases h), fun h => (by cases h), HS2.out, HB2.out⟩
    · rintro b1 b2 b4 b5 a W ⟨x32, x33, x36, x39, g, rfl, h0, h5, -, -, hs, hb⟩
      dsimp only at h5 h0
      obtain ⟨rfl, hgl, es, ck, hgm, l1, l2, l3, l4⟩ := h0 rfl
      obtain ⟨M, hr, q, b, z⟩ := map_insert_int Tryd.underlying64 Tryd.underlying3 W g es ck 14 (.string ⟨#[114, 101, 115, 116, 97, 114, 116]⟩) hgm (l3.2 rfl)
      have H5 := Lib.hid h5
      have HM := Lib.hid (And.intro hgl (And.intro q (And.intro (l1.other (n := 14) (u := .string ⟨#[114, 101, 115, 116, 97, 114, 116]⟩) ck (by decide)) (And.intro (l2.other (n := 14) (u := .string ⟨#[114, 101, 115, 116, 97, 114, 116]⟩) ck (by decide)) (And.intro (l3.same ck) (l4.other (n := 14) (u := .string ⟨#[114, 101, 115, 116, 97, 114, 116]⟩) ck (by decide)))))))
      have HB2 := Lib.hid (hb.trans (b.mono (Nat.le_of_lt hgl)))
      have HS2 := Lib.hid (HSN.out _ _ _ hgl hs b)
      clear h5 h0 hgl hgm q b z l1 l2 l3 l4
      clear hb hs
      (try simp only [Act.put, List.setIfInBounds_toArray, List.set_cons_zero, List.set_cons_succ])
      refine wpOp_step rfl (fun K hK => ?_)
      have HK := Lib.hid hK
      clear hK
      go_simp
      exact HK.out _ _ ⟨HS2.out, _, x33, x36, x39, g, rfl, fun _ => ⟨rfl, HM.out.1, _, _, HM.out.2⟩, H5.out, fun h => (by cases h), fun h => (by cases h), HS2.out, HB2.out⟩
    · rintro b1 b2 b3 b5 a W ⟨x32, x33, x36, x39, g, rfl, h0, h5, -, -, hs, hb⟩
      dsimp only at h5 h0
      obtain ⟨rfl, hgl, es, ck, hgm, l1, l2, l3, l4⟩ := h0 rfl
      obtain ⟨M, hr, q, b, z⟩ := map_insert_int Tryd.underlying64 Tryd.underlying3 W g es ck 8 (.string ⟨#[122, 111, 111, 109]⟩) hgm (l4.2 rfl)
      have H5 := Lib.hid h5
      have HM := Lib.hid (And.intro hgl (And.intro q (And.intro (l1.other (n := 8) (u := .string ⟨#[122, 111, 111, 109]⟩) ck (by decide)) (And.intro (l2.other (n := 8) (u := .string ⟨#[122, 111, 111, 109]⟩) ck (by decide)) (And.intro (l3.other (n := 8) (u := .string ⟨#[122, 111, 111, 109]⟩) ck (by decide)) (l4.same ck))))))
      have HB2 := Lib.hid (hb.trans (b.mono (Nat.le_of_lt hgl)))
      have HS2 := Lib.hid (HSN.out _ _ _ hgl hs b)
      clear h5 h0 hgl hgm q b z l1 l2 l3 l4
      clear hb hs
      (try simp only [Act.put, List.setIfInBounds_toArray, List.set_cons_zero, List.set_cons_succ])
      refine wpOp_step rfl (fun K hK => ?_)
      have HK := Lib.hid hK
      clear hK
      go_simp
      exact HK.out _ _ ⟨HS2.out, _, x33, x36, x39, g, rfl, fun _ => ⟨rfl, HM.out.1, _, _, HM.out.2⟩, H5.out, fun h => (by cases h), fun h => (by cases h), HS2.out, HB2.out⟩
    · rintro b5 a W ⟨x32, x33, x36, x39, g, rfl, h0, h5, -, -, hs, hb⟩
      dsimp only at h5 h0
      obtain ⟨rfl, H0⟩ := h0 rfl
      have H5 := Lib.hid h5
      have HM := Lib.hid H0
      have HSo := Lib.hid hs
      have HBo := Lib.hid hb
      clear h5 h0 H0
      clear hb hs
      (try simp only [Act.put, List.setIfInBounds_toArray, List.set_cons_zero, List.set_cons_succ])
      refine wpOp_step rfl (fun K hK => ?_)
      have HK := Lib.hid hK
      clear hK
      go_simp
      exact HK.out _ _ ⟨HSo.out, _, _, x36, x39, g, rfl, fun _ => ⟨rfl, HM.out⟩, H5.out, fun _ => rfl, fun h => (by cases h), HSo.out, HBo.out⟩
    · rintro b5 a W ⟨x32, x33, x36, x39, g, rfl, h0, h5, h6, -, hs, hb⟩
      dsimp only at h5 h0
      obtain ⟨rfl, hgl, es, ck, hgm, l1, l2, l3, l4⟩ := h0 rfl
      obtain rfl := h6 rfl
      have H5 := Lib.hid h5
      have HM := Lib.hid (And.intro hgl (And.intro hgm (And.intro l1 (And.intro l2 (And.intro l3 l4)))))
      have HSo := Lib.hid hs
      have HBo := Lib.hid hb
      obtain ⟨li, hli⟩ := l3.1 rfl
      have lk := map_lookup_int Tryd.underlying64 Tryd.underlying3 W g es ck 14 li (.string ⟨#[114, 101, 115, 116, 97, 114, 116]⟩) hgm hli
      clear h5 h0 h6 hgl hgm l1 l2 l3 l4 hli hmm
      clear hb hs
      (try simp only [Act.put, List.setIfInBounds_toArray, List.set_cons_zero, List.set_cons_succ])
      refine wpOp_step rfl (fun K hK => ?_)
      have HK := Lib.hid hK
      clear hK
      go_simp
      exact HK.out _ _ ⟨HSo.out, _, _, _, x39, g, rfl, fun _ => ⟨rfl, HM.out.1, _, _, HM.out.2⟩, H5.out, fun _ => rfl, fun _ => rfl, HSo.out, HBo.out⟩
    · rintro b0 b1 b2 b3 b4 b6 b7 a W ⟨x32, x33, x36, x39, g, rfl, h0, -, h6, h7, hs, hb⟩
      dsimp only at h0 h6 h7
      have H0 := Lib.hid h0
      have H6 := Lib.hid h6
      have H7 := Lib.hid h7
      have HSo := Lib.hid hs
      have HBo := Lib.hid hb
      have HTo := Lib.hid (HT.out.mono hb)
      clear h0 h6 h7
      clear hb hs
      (try simp only [Act.put, List.setIfInBounds_toArray, List.set_cons_zero, List.set_cons_succ])
      refine wpOp_step rfl (fun K hK => ?_)
      have HK := Lib.hid hK
      clear hK
      go_simp
      refine (impl_NumText _ _ HTo.out).mono ?_
      rintro e W2 ⟨_, rfl, rfl, hb2⟩
      refine HK.out _ _ ⟨HSM.out _ _ HSo.out hb2, x32, x33, x36, _, g, rfl, fun e0 => ?_, fun _ => rfl, H6.out, H7.out, HSM.out _ _ HSo.out hb2, bel_next HBo.out hb2⟩
      obtain ⟨k1, k2, es, ck, k3, k4⟩ := H0.out e0
      exact ⟨k1, k2, es, ck, (hb2.block g (Array.getElem?_eq_some_iff.1 k3).1).trans k3, k4⟩
    · rintro a W1 ⟨x32, x33, x36, x39, g, rfl, -, h5, -, h7, hS1, hb⟩
      obtain rfl := h5 rfl
      obtain rfl := h7 rfl
      have HB1 := Lib.hid hb
      have hz1 := hb.size
      clear h5 h7 hb hmm
      (try simp only [Act.put, List.setIfInBounds_toArray, List.set_cons_zero, List.set_cons_succ])
      refine wpAnyH_ready (rs := [12]) (by kernel_rfl) (by simp) ?_
      refine AllReadyH.cons rfl (fun K hK => ?_) AllReadyH.nil
      go_simp
      have HF := Lib.hid (show FreshS W1.heap.size (W1.alloc (Obj.cells #[Value.string ⟨#[114, 101, 115, 116, 97, 114, 116]⟩, Value.string (numText A)] 9)) (.slice (some ⟨W1.heap.size, 0, none⟩) 2 2) [⟨#[114, 101, 115, 116, 97, 114, 116]⟩, (numText A)] from strsW_lit W1 [⟨#[114, 101, 115, 116, 97, 114, 116]⟩, (numText A)] _ rfl (by simp) (fun n hn => by
        simp only [List.mem_cons, List.not_mem_nil, or_false] at hn
        rcases hn with hn | hn
        all_goals (rw [hn]; first | decide | omega)))
      have HBE := Lib.hid (bel_next HB1.out (bel_alloc (Below.refl W1.heap.size W1) (Obj.cells #[Value.string ⟨#[114, 101, 115, 116, 97, 114, 116]⟩, Value.string (numText A)] 9)))
      have hSE := HSM.out _ _ hS1 (bel_alloc (Below.refl W1.heap.size W1) (Obj.cells #[Value.string ⟨#[114, 101, 115, 116, 97, 114, 116]⟩, Value.string (numText A)] 9))
      refine hK.out _ _ hSE (fun hHeld => ?_)
      clear hK K
      (try simp only [Act.put, List.setIfInBounds_toArray, List.set_cons_zero, List.set_cons_succ])
      refine wpAnyH_ready (rs := [13]) (by kernel_rfl) (by simp) ?_
      refine AllReadyH.cons rfl (fun K hK => ?_) AllReadyH.nil
      go_simp
      refine hK.out _ _ hSE (fun hHeld => ?_)
      clear hK K
      (try simp only [Act.put, List.setIfInBounds_toArray, List.set_cons_zero, List.set_cons_succ])
      refine wpAnyH_ready (rs := [14]) (by kernel_rfl) (by simp) ?_
      refine AllReadyH.cons rfl (fun K hK => ?_) AllReadyH.nil
      go_simp
      refine hK.out _ _ hSE (fun hHeld => ?_)
      clear hK K
      (try simp only [Act.put, List.setIfInBounds_toArray, List.set_cons_zero, List.set_cons_succ])
      refine wpAnyH_done (by kernel_rfl) ?_ _
      go_wp2_with fail
      exact bodyPost_ret (v := .tuple #[.slice (some ⟨W1.heap.size, 0, none⟩) 2 2, .bool true]) (by simp [results, Tryd.results56, go_sem]) rfl ⟨_, rfl, ⟨_, by rw [HLN.out], by rw [HWD.out]; exact freshS_le HF.out (by omega)⟩, HBE.out⟩
  rw [opOkB_out (show kd < 1 ∨ 14 < kd by omega)] at hok
  cases hok
end Go.Proofs.YtjglknaojfnllaaDoor
