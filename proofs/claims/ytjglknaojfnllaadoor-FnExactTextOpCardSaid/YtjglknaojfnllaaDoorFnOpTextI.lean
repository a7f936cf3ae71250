/- The walk of the program's OpText. -/
import Derived.Test.YtjglknaojfnllaaDoorFnOpWords
set_option linter.unusedSimpArgs false
set_option linter.unusedVariables false
namespace Go.Mux
open Go.RowKit
theorem joinT_size (l : List ByteArray) (n : Nat) (h : ∀ b ∈ l, b.size ≤ n) : (joinT l bl).size ≤ l.length * (n + 1) := by
  have e : (joinT l bl).data.toList.length = (joinT l bl).size := data_len _
  rw [← e]
  cases l with
  | nil => unfold joinT bl; simp [Lib.join_nil]
  | cons a l =>
    have h2 : ∀ l : List ByteArray, (∀ b ∈ l, b.size ≤ n) → (Lib.joinTail [32] (l.map (·.data.toList))).length ≤ l.length * (n + 1) := by
      intro l
      induction l with
      | nil => intro _; simp [Lib.joinTail]
      | cons b l ih =>
        intro hb
        have h1 := hb b (by simp)
        have h3 := ih (fun c hc => hb c (by simp [hc]))
        have h4 := data_len b
        have h5 : (Lib.joinTail [32] ((b :: l).map (·.data.toList))).length = 1 + b.data.toList.length + (Lib.joinTail [32] (l.map (·.data.toList))).length := by simp [Lib.joinTail]; omega
        rw [h5, List.length_cons, Nat.add_mul]
        omega
    have h1 := h a (by simp)
    have h3 := h2 l (fun c hc => h c (by simp [hc]))
    have h4 := data_len a
    have h5 : (joinT (a :: l) bl).data.toList.length = a.data.toList.length + (Lib.joinTail [32] (l.map (·.data.toList))).length := by unfold joinT bl; simp [Lib.join_cons]
    rw [h5, List.length_cons, Nat.add_mul]
    omega
end Go.Mux
namespace Go.Proofs.YtjglknaojfnllaaDoor
open Go.RowKit Go.Mux
set_option maxRecDepth 100000 in
set_option maxHeartbeats 8000000 in
theorem impl_OpText' (w : World) (cs : List Value) (x : DOp) (h : Rep.rep w cs x) (hsz : x.bulk ≤ 1048576) (ht : Tab Tryd.prog w) : Calls Tryd.prog 33 #[.agg cs.toArray] w (Gives w fun r _ => r = .string (opText x)) := by
  have HR := Lib.hid h
  have HT := Lib.hid ht
  have info_str : (Tryd.prog.info? 9).map (fun i => (i.zero, i.size, i.bytes)) = some (some (.string ByteArray.empty), 1, 16) := by kernel_rfl
  have INFO := Lib.hid info_str
  obtain ⟨v0, rfl, h0, h1, h2, h3, h4, h5, h6, h7⟩ := DOp.rep_iff.1 h
  obtain ⟨a0, p0, rfl, hl0, -⟩ := h7
  unfold DOp.bulk at hsz
  clear h ht h0 h1 h2 h3 h4 h5 h6 hl0 info_str
  obtain ⟨kd, A, B, C, nm, tx, dr, da⟩ := x
  dsimp only at *
  have hds := dirT_size dr
  have hdz : (dirT dr).size ≤ 1048577 := by omega
  have htz : tx.size ≤ 1048577 := by omega
  have HW := Lib.hid (headW_size (x := ⟨kd, A, B, C, nm, tx, dr, da⟩) (N := 1048577) (by omega) (show nm.size ≤ 1048577 by omega))
  have HWL := Lib.hid (headW_len ⟨kd, A, B, C, nm, tx, dr, da⟩)
  clear hds
  cases hok : opOkB ⟨kd, A, B, C, nm, tx, dr, da⟩
  · have HOK := Lib.hid hok
    have HN := Lib.hid (opText_no (x := ⟨kd, A, B, C, nm, tx, dr, da⟩) (by rw [hok]; rfl))
    clear hok
    go_enter Tryd.func33, Tryd.ntmps33
    go_wp2_with fail
    refine (impl_OpOk _ [_, _, _, _, _, _, _, _] ⟨kd, A, B, C, nm, tx, dr, da⟩ (Rep.mono HR.out (by repeat (first | (with_reducible exact Below.refl _ _) | (with_reducible assumption) | (with_reducible refine bel_alloc ?_ _) | ((with_reducible refine bel_set ?_ ?_ _); rotate_left; (focus first | (simp; done) | (simp; omega))))))).mono ?_
    rintro e W1 ⟨_, rfl, rfl, hb⟩
    rw [HOK.out]
    have HB1 := Lib.hid (bel_next (show Below w.heap.size w _ from (by repeat (first | (with_reducible exact Below.refl _ _) | (with_reducible assumption) | (with_reducible refine bel_alloc ?_ _) | ((with_reducible refine bel_set ?_ ?_ _); rotate_left; (focus first | (simp; done) | (simp; omega)))))) hb)
    have f0 : W1.cell? ⟨w.heap.size, 0, none⟩ = some (.int .i64 kd) := (hb.cell (p := ⟨w.heap.size, 0, none⟩) (by simp)).trans (by simp)
    have f1 : W1.cell? ⟨w.heap.size, 1, none⟩ = some (.int .i64 A) := (hb.cell (p := ⟨w.heap.size, 1, none⟩) (by simp)).trans (by simp)
    have f2 : W1.cell? ⟨w.heap.size, 2, none⟩ = some (.int .i64 B) := (hb.cell (p := ⟨w.heap.size, 2, none⟩) (by simp)).trans (by simp)
    have f3 : W1.cell? ⟨w.heap.size, 3, none⟩ = some (.int .i64 C) := (hb.cell (p := ⟨w.heap.size, 3, none⟩) (by simp)).trans (by simp)
    have f4 : W1.cell? ⟨w.heap.size, 4, none⟩ = some (.string nm) := (hb.cell (p := ⟨w.heap.size, 4, none⟩) (by simp)).trans (by simp)
    have f5 : W1.cell? ⟨w.heap.size, 5, none⟩ = some (.string tx) := (hb.cell (p := ⟨w.heap.size, 5, none⟩) (by simp)).trans (by simp)
    have f6 : W1.cell? ⟨w.heap.size, 6, none⟩ = some (.string dr) := (hb.cell (p := ⟨w.heap.size, 6, none⟩) (by simp)).trans (by simp)
    have f7 : W1.cell? ⟨w.heap.size, 7, none⟩ = some (.slice a0 da.length p0) := (hb.cell (p := ⟨w.heap.size, 7, none⟩) (by simp)).trans (by simp)
    clear hb
    go_wp2_with fail
    go_ret
    exact ⟨_, rfl, by show _ = Value.string _; rw [HN.out] <;> rfl, HB1.out⟩
  have HOK := Lib.hid hok
  cases hln : hasLine ⟨kd, A, B, C, nm, tx, dr, da⟩
  · have HLN := Lib.hid hln
    have HN := Lib.hid (opText_noline (x := ⟨kd, A, B, C, nm, tx, dr, da⟩) hln)
    clear hok hln
    go_enter Tryd.func33, Tryd.ntmps33
    go_wp2_with fail
    refine (impl_OpOk _ [_, _, _, _, _, _, _, _] ⟨kd, A, B, C, nm, tx, dr, da⟩ (Rep.mono HR.out (by repeat (first | (with_reducible exact Below.refl _ _) | (with_reducible assumption) | (with_reducible refine bel_alloc ?_ _) | ((with_reducible refine bel_set ?_ ?_ _); rotate_left; (focus first | (simp; done) | (simp; omega))))))).mono ?_
    rintro e W1 ⟨_, rfl, rfl, hb⟩
    rw [HOK.out]
    have HB1 := Lib.hid (bel_next (show Below w.heap.size w _ from (by repeat (first | (with_reducible exact Below.refl _ _) | (with_reducible assumption) | (with_reducible refine bel_alloc ?_ _) | ((with_reducible refine bel_set ?_ ?_ _); rotate_left; (focus first | (simp; done) | (simp; omega)))))) hb)
    have f0 : W1.cell? ⟨w.heap.size, 0, none⟩ = some (.int .i64 kd) := (hb.cell (p := ⟨w.heap.size, 0, none⟩) (by simp)).trans (by simp)
    have f1 : W1.cell? ⟨w.heap.size, 1, none⟩ = some (.int .i64 A) := (hb.cell (p := ⟨w.heap.size, 1, none⟩) (by simp)).trans (by simp)
    have f2 : W1.cell? ⟨w.heap.size, 2, none⟩ = some (.int .i64 B) := (hb.cell (p := ⟨w.heap.size, 2, none⟩) (by simp)).trans (by simp)
    have f3 : W1.cell? ⟨w.heap.size, 3, none⟩ = some (.int .i64 C) := (hb.cell (p := ⟨w.heap.size, 3, none⟩) (by simp)).trans (by simp)
    have f4 : W1.cell? ⟨w.heap.size, 4, none⟩ = some (.string nm) := (hb.cell (p := ⟨w.heap.size, 4, none⟩) (by simp)).trans (by simp)
    have f5 : W1.cell? ⟨w.heap.size, 5, none⟩ = some (.string tx) := (hb.cell (p := ⟨w.heap.size, 5, none⟩) (by simp)).trans (by simp)
    have f6 : W1.cell? ⟨w.heap.size, 6, none⟩ = some (.string dr) := (hb.cell (p := ⟨w.heap.size, 6, none⟩) (by simp)).trans (by simp)
    have f7 : W1.cell? ⟨w.heap.size, 7, none⟩ = some (.slice a0 da.length p0) := (hb.cell (p := ⟨w.heap.size, 7, none⟩) (by simp)).trans (by simp)
    clear hb
    go_wp2_with fail
    refine (impl_opWords _ [_, _, _, _, _, _, _, _] ⟨kd, A, B, C, nm, tx, dr, da⟩ (Rep.mono HR.out HB1.out) HOK.out (HT.out.mono HB1.out)).mono ?_
    rintro e W2 ⟨_, rfl, ⟨r0, rfl, hF⟩, hb⟩
    rw [HLN.out]
    have HB2 := Lib.hid (bel_next HB1.out hb)
    have HF := Lib.hid hF
    have hz1 := HB1.out.size
    have hz2 := hb.size
    have HBB := Lib.hid hb
    have g0 : W2.cell? ⟨w.heap.size, 0, none⟩ = some (.int .i64 kd) := (hb.cell (p := ⟨w.heap.size, 0, none⟩) (World.block_lt_of_cell? _ _ f0)).trans f0
    have g1 : W2.cell? ⟨w.heap.size, 1, none⟩ = some (.int .i64 A) := (hb.cell (p := ⟨w.heap.size, 1, none⟩) (World.block_lt_of_cell? _ _ f1)).trans f1
    have g2 : W2.cell? ⟨w.heap.size, 2, none⟩ = some (.int .i64 B) := (hb.cell (p := ⟨w.heap.size, 2, none⟩) (World.block_lt_of_cell? _ _ f2)).trans f2
    have g3 : W2.cell? ⟨w.heap.size, 3, none⟩ = some (.int .i64 C) := (hb.cell (p := ⟨w.heap.size, 3, none⟩) (World.block_lt_of_cell? _ _ f3)).trans f3
    have g4 : W2.cell? ⟨w.heap.size, 4, none⟩ = some (.string nm) := (hb.cell (p := ⟨w.heap.size, 4, none⟩) (World.block_lt_of_cell? _ _ f4)).trans f4
    have g5 : W2.cell? ⟨w.heap.size, 5, none⟩ = some (.string tx) := (hb.cell (p := ⟨w.heap.size, 5, none⟩) (World.block_lt_of_cell? _ _ f5)).trans f5
    have g6 : W2.cell? ⟨w.heap.size, 6, none⟩ = some (.string dr) := (hb.cell (p := ⟨w.heap.size, 6, none⟩) (World.block_lt_of_cell? _ _ f6)).trans f6
    have g7 : W2.cell? ⟨w.heap.size, 7, none⟩ = some (.slice a0 da.length p0) := (hb.cell (p := ⟨w.heap.size, 7, none⟩) (World.block_lt_of_cell? _ _ f7)).trans f7
    clear hb hF
    go_wp2_with fail
    go_ret
    exact ⟨_, rfl, by show _ = Value.string _; rw [HN.out] <;> rfl, HB2.out⟩
  have HLN := Lib.hid hln
  by_cases hk1 : kd = 1
  · subst hk1
    clear hok hln
    cases hdk : dirOk dr
    · have HDK := Lib.hid hdk
      have HN := Lib.hid (opText_nodir (x := ⟨1, A, B, C, nm, tx, dr, da⟩) hdk)
      clear hdk
      go_enter Tryd.func33, Tryd.ntmps33
      go_wp2_with fail
      refine (impl_OpOk _ [_, _, _, _, _, _, _, _] ⟨1, A, B, C, nm, tx, dr, da⟩ (Rep.mono HR.out (by repeat (first | (with_reducible exact Below.refl _ _) | (with_reducible assumption) | (with_reducible refine bel_alloc ?_ _) | ((with_reducible refine bel_set ?_ ?_ _); rotate_left; (focus first | (simp; done) | (simp; omega))))))).mono ?_
      rintro e W1 ⟨_, rfl, rfl, hb⟩
      rw [HOK.out]
      have HB1 := Lib.hid (bel_next (show Below w.heap.size w _ from (by repeat (first | (with_reducible exact Below.refl _ _) | (with_reducible assumption) | (with_reducible refine bel_alloc ?_ _) | ((with_reducible refine bel_set ?_ ?_ _); rotate_left; (focus first | (simp; done) | (simp; omega)))))) hb)
      have f0 : W1.cell? ⟨w.heap.size, 0, none⟩ = some (.int .i64 1) := (hb.cell (p := ⟨w.heap.size, 0, none⟩) (by simp)).trans (by simp)
      have f1 : W1.cell? ⟨w.heap.size, 1, none⟩ = some (.int .i64 A) := (hb.cell (p := ⟨w.heap.size, 1, none⟩) (by simp)).trans (by simp)
      have f2 : W1.cell? ⟨w.heap.size, 2, none⟩ = some (.int .i64 B) := (hb.cell (p := ⟨w.heap.size, 2, none⟩) (by simp)).trans (by simp)
      have f3 : W1.cell? ⟨w.heap.size, 3, none⟩ = some (.int .i64 C) := (hb.cell (p := ⟨w.heap.size, 3, none⟩) (by simp)).trans (by simp)
      have f4 : W1.cell? ⟨w.heap.size, 4, none⟩ = some (.string nm) := (hb.cell (p := ⟨w.heap.size, 4, none⟩) (by simp)).trans (by simp)
      have f5 : W1.cell? ⟨w.heap.size, 5, none⟩ = some (.string tx) := (hb.cell (p := ⟨w.heap.size, 5, none⟩) (by simp)).trans (by simp)
      have f6 : W1.cell? ⟨w.heap.size, 6, none⟩ = some (.string dr) := (hb.cell (p := ⟨w.heap.size, 6, none⟩) (by simp)).trans (by simp)
      have f7 : W1.cell? ⟨w.heap.size, 7, none⟩ = some (.slice a0 da.length p0) := (hb.cell (p := ⟨w.heap.size, 7, none⟩) (by simp)).trans (by simp)
      clear hb
      go_wp2_with fail
      refine (impl_opWords _ [_, _, _, _, _, _, _, _] ⟨1, A, B, C, nm, tx, dr, da⟩ (Rep.mono HR.out HB1.out) HOK.out (HT.out.mono HB1.out)).mono ?_
      rintro e W2 ⟨_, rfl, ⟨r0, rfl, hF⟩, hb⟩
      rw [HLN.out]
      have HB2 := Lib.hid (bel_next HB1.out hb)
      have HF := Lib.hid hF
      have hz1 := HB1.out.size
      have hz2 := hb.size
      have HBB := Lib.hid hb
      have g0 : W2.cell? ⟨w.heap.size, 0, none⟩ = some (.int .i64 1) := (hb.cell (p := ⟨w.heap.size, 0, none⟩) (World.block_lt_of_cell? _ _ f0)).trans f0
      have g1 : W2.cell? ⟨w.heap.size, 1, none⟩ = some (.int .i64 A) := (hb.cell (p := ⟨w.heap.size, 1, none⟩) (World.block_lt_of_cell? _ _ f1)).trans f1
      have g2 : W2.cell? ⟨w.heap.size, 2, none⟩ = some (.int .i64 B) := (hb.cell (p := ⟨w.heap.size, 2, none⟩) (World.block_lt_of_cell? _ _ f2)).trans f2
      have g3 : W2.cell? ⟨w.heap.size, 3, none⟩ = some (.int .i64 C) := (hb.cell (p := ⟨w.heap.size, 3, none⟩) (World.block_lt_of_cell? _ _ f3)).trans f3
      have g4 : W2.cell? ⟨w.heap.size, 4, none⟩ = some (.string nm) := (hb.cell (p := ⟨w.heap.size, 4, none⟩) (World.block_lt_of_cell? _ _ f4)).trans f4
      have g5 : W2.cell? ⟨w.heap.size, 5, none⟩ = some (.string tx) := (hb.cell (p := ⟨w.heap.size, 5, none⟩) (World.block_lt_of_cell? _ _ f5)).trans f5
      have g6 : W2.cell? ⟨w.heap.size, 6, none⟩ = some (.string dr) := (hb.cell (p := ⟨w.heap.size, 6, none⟩) (World.block_lt_of_cell? _ _ f6)).trans f6
      have g7 : W2.cell? ⟨w.heap.size, 7, none⟩ = some (.slice a0 da.length p0) := (hb.cell (p := ⟨w.heap.size, 7, none⟩) (World.block_lt_of_cell? _ _ f7)).trans f7
      clear hb hF
      go_wp2_with (go_at_call 57; refine (impl_dirText _ _).mono ?_; rintro e w' ⟨rfl, rfl⟩; rw [HDK.out])
      go_ret
      exact ⟨_, rfl, by show _ = Value.string _; rw [HN.out] <;> rfl, HB2.out⟩
    have HDK := Lib.hid hdk
    clear hdk
    by_cases hT : tx.toList = []
    · have dT : decide (tx.toList = []) = true := decide_eq_true hT
      have eT : (tx.toList == []) = true := by simpa using hT
      have nT : (tx.toList != []) = false := by simpa using hT
      have HN := Lib.hid (show opText ⟨1, A, B, C, nm, tx, dr, da⟩ = joinT ((headW ⟨1, A, B, C, nm, tx, dr, da⟩) ++ [dirT dr]) ⟨#[32]⟩ from by
        rw [opText_yes' HOK.out HLN.out HDK.out (l := (headW ⟨1, A, B, C, nm, tx, dr, da⟩) ++ [dirT dr]) (by simp [tailW, hasDir, hT])]; rfl)
      have HL3 : ∀ W : World, FreshS W.heap.size (W.alloc (.cells #[.string (dirT dr)] 9)) (.slice (some ⟨W.heap.size, 0, none⟩) 1 1) [dirT dr] := fun W => freshS_lit rfl W [_] [_] _ rfl rfl (by simp) (fun i u v hu hv w => by
        match i, hu, hv with
        | 0, hu, hv => cases hu; cases hv; exact ⟨rfl, by omega⟩)
      have HJS := Lib.hid (show (joinT ((headW ⟨1, A, B, C, nm, tx, dr, da⟩) ++ [dirT dr]) ⟨#[32]⟩).size ≤ 140737488355328 from by
        have h := joinT_size ((headW ⟨1, A, B, C, nm, tx, dr, da⟩) ++ [dirT dr]) 1048577 (fun b hb => by
          rcases List.mem_append.1 hb with hb | hb
          · exact HW.out b hb
          · rw [List.mem_singleton.1 hb]; omega)
        have h2 := HWL.out
        unfold bl at h
        have h3 : ((headW ⟨1, A, B, C, nm, tx, dr, da⟩) ++ [dirT dr]).length ≤ 6 := by (try simp only [List.length_append, List.length_cons, List.length_nil]); omega
        have h4 : ((headW ⟨1, A, B, C, nm, tx, dr, da⟩) ++ [dirT dr]).length * (1048577 + 1) ≤ 6 * (1048577 + 1) := Nat.mul_le_mul_right _ h3
        omega)
      clear hT
      go_enter Tryd.func33, Tryd.ntmps33
      go_wp2_with fail
      refine (impl_OpOk _ [_, _, _, _, _, _, _, _] ⟨1, A, B, C, nm, tx, dr, da⟩ (Rep.mono HR.out (by repeat (first | (with_reducible exact Below.refl _ _) | (with_reducible assumption) | (with_reducible refine bel_alloc ?_ _) | ((with_reducible refine bel_set ?_ ?_ _); rotate_left; (focus first | (simp; done) | (simp; omega))))))).mono ?_
      rintro e W1 ⟨_, rfl, rfl, hb⟩
      rw [HOK.out]
      have HB1 := Lib.hid (bel_next (show Below w.heap.size w _ from (by repeat (first | (with_reducible exact Below.refl _ _) | (with_reducible assumption) | (with_reducible refine bel_alloc ?_ _) | ((with_reducible refine bel_set ?_ ?_ _); rotate_left; (focus first | (simp; done) | (simp; omega)))))) hb)
      have f0 : W1.cell? ⟨w.heap.size, 0, none⟩ = some (.int .i64 1) := (hb.cell (p := ⟨w.heap.size, 0, none⟩) (by simp)).trans (by simp)
      have f1 : W1.cell? ⟨w.heap.size, 1, none⟩ = some (.int .i64 A) := (hb.cell (p := ⟨w.heap.size, 1, none⟩) (by simp)).trans (by simp)
      have f2 : W1.cell? ⟨w.heap.size, 2, none⟩ = some (.int .i64 B) := (hb.cell (p := ⟨w.heap.size, 2, none⟩) (by simp)).trans (by simp)
      have f3 : W1.cell? ⟨w.heap.size, 3, none⟩ = some (.int .i64 C) := (hb.cell (p := ⟨w.heap.size, 3, none⟩) (by simp)).trans (by simp)
      have f4 : W1.cell? ⟨w.heap.size, 4, none⟩ = some (.string nm) := (hb.cell (p := ⟨w.heap.size, 4, none⟩) (by simp)).trans (by simp)
      have f5 : W1.cell? ⟨w.heap.size, 5, none⟩ = some (.string tx) := (hb.cell (p := ⟨w.heap.size, 5, none⟩) (by simp)).trans (by simp)
      have f6 : W1.cell? ⟨w.heap.size, 6, none⟩ = some (.string dr) := (hb.cell (p := ⟨w.heap.size, 6, none⟩) (by simp)).trans (by simp)
      have f7 : W1.cell? ⟨w.heap.size, 7, none⟩ = some (.slice a0 da.length p0) := (hb.cell (p := ⟨w.heap.size, 7, none⟩) (by simp)).trans (by simp)
      clear hb
      go_wp2_with fail
      refine (impl_opWords _ [_, _, _, _, _, _, _, _] ⟨1, A, B, C, nm, tx, dr, da⟩ (Rep.mono HR.out HB1.out) HOK.out (HT.out.mono HB1.out)).mono ?_
      rintro e W2 ⟨_, rfl, ⟨r0, rfl, hF⟩, hb⟩
      rw [HLN.out]
      have HB2 := Lib.hid (bel_next HB1.out hb)
      have HF := Lib.hid hF
      have hz1 := HB1.out.size
      have hz2 := hb.size
      have HBB := Lib.hid hb
      have g0 : W2.cell? ⟨w.heap.size, 0, none⟩ = some (.int .i64 1) := (hb.cell (p := ⟨w.heap.size, 0, none⟩) (World.block_lt_of_cell? _ _ f0)).trans f0
      have g1 : W2.cell? ⟨w.heap.size, 1, none⟩ = some (.int .i64 A) := (hb.cell (p := ⟨w.heap.size, 1, none⟩) (World.block_lt_of_cell? _ _ f1)).trans f1
      have g2 : W2.cell? ⟨w.heap.size, 2, none⟩ = some (.int .i64 B) := (hb.cell (p := ⟨w.heap.size, 2, none⟩) (World.block_lt_of_cell? _ _ f2)).trans f2
      have g3 : W2.cell? ⟨w.heap.size, 3, none⟩ = some (.int .i64 C) := (hb.cell (p := ⟨w.heap.size, 3, none⟩) (World.block_lt_of_cell? _ _ f3)).trans f3
      have g4 : W2.cell? ⟨w.heap.size, 4, none⟩ = some (.string nm) := (hb.cell (p := ⟨w.heap.size, 4, none⟩) (World.block_lt_of_cell? _ _ f4)).trans f4
      have g5 : W2.cell? ⟨w.heap.size, 5, none⟩ = some (.string tx) := (hb.cell (p := ⟨w.heap.size, 5, none⟩) (World.block_lt_of_cell? _ _ f5)).trans f5
      have g6 : W2.cell? ⟨w.heap.size, 6, none⟩ = some (.string dr) := (hb.cell (p := ⟨w.heap.size, 6, none⟩) (World.block_lt_of_cell? _ _ f6)).trans f6
      have g7 : W2.cell? ⟨w.heap.size, 7, none⟩ = some (.slice a0 da.length p0) := (hb.cell (p := ⟨w.heap.size, 7, none⟩) (World.block_lt_of_cell? _ _ f7)).trans f7
      clear hb hF
      go_wp2_with fail
      refine (impl_dirText _ _).mono ?_
      rintro e w' ⟨rfl, rfl⟩
      rw [HDK.out]
      go_wp2_with (first | (at_builtin; refine wpList_append_flat (α := ByteArray) rfl _ _ 37 rfl 9 (.string ByteArray.empty) 16 Tryd.underlying37 INFO.out rfl rfl (by decide) W1.heap.size (by first | (simp only [World.size_alloc]; omega) | omega) _ (headW ⟨1, A, B, C, nm, tx, dr, da⟩) rfl (HF.out.grow (bel_alloc (Below.refl _ _) _)) _ [dirT dr] rfl (HL3 _).repS (by have := HWL.out; (try simp only [List.length_append, List.length_cons, List.length_nil]); omega) (by have := HWL.out; (try simp only [List.length_append, List.length_cons, List.length_nil]); omega) ?_; intro v3 W3 hF3 hb3; have HF3 := Lib.hid hF3; have HB3 := Lib.hid ((bel_alloc HBB.out (.cells #[.string (dirT dr)] 9)).trans hb3); have hz3 := HB3.out.size; have y0 : W3.cell? ⟨w.heap.size, 0, none⟩ = some (.int .i64 1) := (HB3.out.cell (p := ⟨w.heap.size, 0, none⟩) (World.block_lt_of_cell? _ _ f0)).trans f0; have y1 : W3.cell? ⟨w.heap.size, 1, none⟩ = some (.int .i64 A) := (HB3.out.cell (p := ⟨w.heap.size, 1, none⟩) (World.block_lt_of_cell? _ _ f1)).trans f1; have y2 : W3.cell? ⟨w.heap.size, 2, none⟩ = some (.int .i64 B) := (HB3.out.cell (p := ⟨w.heap.size, 2, none⟩) (World.block_lt_of_cell? _ _ f2)).trans f2; have y3 : W3.cell? ⟨w.heap.size, 3, none⟩ = some (.int .i64 C) := (HB3.out.cell (p := ⟨w.heap.size, 3, none⟩) (World.block_lt_of_cell? _ _ f3)).trans f3; have y4 : W3.cell? ⟨w.heap.size, 4, none⟩ = some (.string nm) := (HB3.out.cell (p := ⟨w.heap.size, 4, none⟩) (World.block_lt_of_cell? _ _ f4)).trans f4; have y5 : W3.cell? ⟨w.heap.size, 5, none⟩ = some (.string tx) := (HB3.out.cell (p := ⟨w.heap.size, 5, none⟩) (World.block_lt_of_cell? _ _ f5)).trans f5; have y6 : W3.cell? ⟨w.heap.size, 6, none⟩ = some (.string dr) := (HB3.out.cell (p := ⟨w.heap.size, 6, none⟩) (World.block_lt_of_cell? _ _ f6)).trans f6; have y7 : W3.cell? ⟨w.heap.size, 7, none⟩ = some (.slice a0 da.length p0) := (HB3.out.cell (p := ⟨w.heap.size, 7, none⟩) (World.block_lt_of_cell? _ _ f7)).trans f7; clear hF3 hb3))
      go_wp2_with (go_at_call 47; refine (strings_join _ _ ((headW ⟨1, A, B, C, nm, tx, dr, da⟩) ++ [dirT dr]) ⟨#[32]⟩ HF3.out.repS (by have := HWL.out; (try simp only [List.length_append, List.length_cons, List.length_nil]); omega) HJS.out).mono ?_; rintro e W5 ⟨_, rfl, rfl, hb⟩; have HB5 := Lib.hid (bel_next (HB1.out.trans (HB3.out.mono (by omega))) hb); clear hb)
      go_ret
      exact ⟨_, rfl, by show _ = Value.string _; rw [HN.out] <;> rfl, HB5.out⟩
    · have dT : decide (tx.toList = []) = false := decide_eq_false hT
      have eT : (tx.toList == []) = false := by simpa using hT
      have nT : (tx.toList != []) = true := by simpa using hT
      have HN := Lib.hid (show opText ⟨1, A, B, C, nm, tx, dr, da⟩ = joinT (((headW ⟨1, A, B, C, nm, tx, dr, da⟩) ++ [dirT dr]) ++ [tx]) ⟨#[32]⟩ from by
        rw [opText_yes' HOK.out HLN.out HDK.out (l := ((headW ⟨1, A, B, C, nm, tx, dr, da⟩) ++ [dirT dr]) ++ [tx]) (by simp [tailW, hasDir, hT])]; rfl)
      have HL3 : ∀ W : World, FreshS W.heap.size (W.alloc (.cells #[.string (dirT dr)] 9)) (.slice (some ⟨W.heap.size, 0, none⟩) 1 1) [dirT dr] := fun W => freshS_lit rfl W [_] [_] _ rfl rfl (by simp) (fun i u v hu hv w => by
        match i, hu, hv with
        | 0, hu, hv => cases hu; cases hv; exact ⟨rfl, by omega⟩)
      have HL4 : ∀ W : World, FreshS W.heap.size (W.alloc (.cells #[.string (tx)] 9)) (.slice (some ⟨W.heap.size, 0, none⟩) 1 1) [tx] := fun W => freshS_lit rfl W [_] [_] _ rfl rfl (by simp) (fun i u v hu hv w => by
        match i, hu, hv with
        | 0, hu, hv => cases hu; cases hv; exact ⟨rfl, by omega⟩)
      have HJS := Lib.hid (show (joinT (((headW ⟨1, A, B, C, nm, tx, dr, da⟩) ++ [dirT dr]) ++ [tx]) ⟨#[32]⟩).size ≤ 140737488355328 from by
        have h := joinT_size (((headW ⟨1, A, B, C, nm, tx, dr, da⟩) ++ [dirT dr]) ++ [tx]) 1048577 (fun b hb => by
          rcases List.mem_append.1 hb with hb | hb
          · rcases List.mem_append.1 hb with hb | hb
            · exact HW.out b hb
            · rw [List.mem_singleton.1 hb]; omega
          · rw [List.mem_singleton.1 hb]; omega)
        have h2 := HWL.out
        unfold bl at h
        have h3 : (((headW ⟨1, A, B, C, nm, tx, dr, da⟩) ++ [dirT dr]) ++ [tx]).length ≤ 6 := by (try simp only [List.length_append, List.length_cons, List.length_nil]); omega
        have h4 : (((headW ⟨1, A, B, C, nm, tx, dr, da⟩) ++ [dirT dr]) ++ [tx]).length * (1048577 + 1) ≤ 6 * (1048577 + 1) := Nat.mul_le_mul_right _ h3
        omega)
      clear hT
      go_enter Tryd.func33, Tryd.ntmps33
      go_wp2_with fail
      refine (impl_OpOk _ [_, _, _, _, _, _, _, _] ⟨1, A, B, C, nm, tx, dr, da⟩ (Rep.mono HR.out (by repeat (first | (with_reducible exact Below.refl _ _) | (with_reducible assumption) | (with_reducible refine bel_alloc ?_ _) | ((with_reducible refine bel_set ?_ ?_ _); rotate_left; (focus first | (simp; done) | (simp; omega))))))).mono ?_
      rintro e W1 ⟨_, rfl, rfl, hb⟩
      rw [HOK.out]
      have HB1 := Lib.hid (bel_next (show Below w.heap.size w _ from (by repeat (first | (with_reducible exact Below.refl _ _) | (with_reducible assumption) | (with_reducible refine bel_alloc ?_ _) | ((with_reducible refine bel_set ?_ ?_ _); rotate_left; (focus first | (simp; done) | (simp; omega)))))) hb)
      have f0 : W1.cell? ⟨w.heap.size, 0, none⟩ = some (.int .i64 1) := (hb.cell (p := ⟨w.heap.size, 0, none⟩) (by simp)).trans (by simp)
      have f1 : W1.cell? ⟨w.heap.size, 1, none⟩ = some (.int .i64 A) := (hb.cell (p := ⟨w.heap.size, 1, none⟩) (by simp)).trans (by simp)
      have f2 : W1.cell? ⟨w.heap.size, 2, none⟩ = some (.int .i64 B) := (hb.cell (p := ⟨w.heap.size, 2, none⟩) (by simp)).trans (by simp)
      have f3 : W1.cell? ⟨w.heap.size, 3, none⟩ = some (.int .i64 C) := (hb.cell (p := ⟨w.heap.size, 3, none⟩) (by simp)).trans (by simp)
      have f4 : W1.cell? ⟨w.heap.size, 4, none⟩ = some (.string nm) := (hb.cell (p := ⟨w.heap.size, 4, none⟩) (by simp)).trans (by simp)
      have f5 : W1.cell? ⟨w.heap.size, 5, none⟩ = some (.string tx) := (hb.cell (p := ⟨w.heap.size, 5, none⟩) (by simp)).trans (by simp)
      have f6 : W1.cell? ⟨w.heap.size, 6, none⟩ = some (.string dr) := (hb.cell (p := ⟨w.heap.size, 6, none⟩) (by simp)).trans (by simp)
      have f7 : W1.cell? ⟨w.heap.size, 7, none⟩ = some (.slice a0 da.length p0) := (hb.cell (p := ⟨w.heap.size, 7, none⟩) (by simp)).trans (by simp)
      clear hb
      go_wp2_with fail
      refine (impl_opWords _ [_, _, _, _, _, _, _, _] ⟨1, A, B, C, nm, tx, dr, da⟩ (Rep.mono HR.out HB1.out) HOK.out (HT.out.mono HB1.out)).mono ?_
      rintro e W2 ⟨_, rfl, ⟨r0, rfl, hF⟩, hb⟩
      rw [HLN.out]
      have HB2 := Lib.hid (bel_next HB1.out hb)
      have HF := Lib.hid hF
      have hz1 := HB1.out.size
      have hz2 := hb.size
      have HBB := Lib.hid hb
      have g0 : W2.cell? ⟨w.heap.size, 0, none⟩ = some (.int .i64 1) := (hb.cell (p := ⟨w.heap.size, 0, none⟩) (World.block_lt_of_cell? _ _ f0)).trans f0
      have g1 : W2.cell? ⟨w.heap.size, 1, none⟩ = some (.int .i64 A) := (hb.cell (p := ⟨w.heap.size, 1, none⟩) (World.block_lt_of_cell? _ _ f1)).trans f1
      have g2 : W2.cell? ⟨w.heap.size, 2, none⟩ = some (.int .i64 B) := (hb.cell (p := ⟨w.heap.size, 2, none⟩) (World.block_lt_of_cell? _ _ f2)).trans f2
      have g3 : W2.cell? ⟨w.heap.size, 3, none⟩ = some (.int .i64 C) := (hb.cell (p := ⟨w.heap.size, 3, none⟩) (World.block_lt_of_cell? _ _ f3)).trans f3
      have g4 : W2.cell? ⟨w.heap.size, 4, none⟩ = some (.string nm) := (hb.cell (p := ⟨w.heap.size, 4, none⟩) (World.block_lt_of_cell? _ _ f4)).trans f4
      have g5 : W2.cell? ⟨w.heap.size, 5, none⟩ = some (.string tx) := (hb.cell (p := ⟨w.heap.size, 5, none⟩) (World.block_lt_of_cell? _ _ f5)).trans f5
      have g6 : W2.cell? ⟨w.heap.size, 6, none⟩ = some (.string dr) := (hb.cell (p := ⟨w.heap.size, 6, none⟩) (World.block_lt_of_cell? _ _ f6)).trans f6
      have g7 : W2.cell? ⟨w.heap.size, 7, none⟩ = some (.slice a0 da.length p0) := (hb.cell (p := ⟨w.heap.size, 7, none⟩) (World.block_lt_of_cell? _ _ f7)).trans f7
      clear hb hF
      go_wp2_with fail
      refine (impl_dirText _ _).mono ?_
      rintro e w' ⟨rfl, rfl⟩
      rw [HDK.out]
      go_wp2_with (first | (at_builtin; refine wpList_append_flat (α := ByteArray) rfl _ _ 37 rfl 9 (.string ByteArray.empty) 16 Tryd.underlying37 INFO.out rfl rfl (by decide) W1.heap.size (by first | (simp only [World.size_alloc]; omega) | omega) _ (headW ⟨1, A, B, C, nm, tx, dr, da⟩) rfl (HF.out.grow (bel_alloc (Below.refl _ _) _)) _ [dirT dr] rfl (HL3 _).repS (by have := HWL.out; (try simp only [List.length_append, List.length_cons, List.length_nil]); omega) (by have := HWL.out; (try simp only [List.length_append, List.length_cons, List.length_nil]); omega) ?_; intro v3 W3 hF3 hb3; have HF3 := Lib.hid hF3; have HB3 := Lib.hid ((bel_alloc HBB.out (.cells #[.string (dirT dr)] 9)).trans hb3); have hz3 := HB3.out.size; have y0 : W3.cell? ⟨w.heap.size, 0, none⟩ = some (.int .i64 1) := (HB3.out.cell (p := ⟨w.heap.size, 0, none⟩) (World.block_lt_of_cell? _ _ f0)).trans f0; have y1 : W3.cell? ⟨w.heap.size, 1, none⟩ = some (.int .i64 A) := (HB3.out.cell (p := ⟨w.heap.size, 1, none⟩) (World.block_lt_of_cell? _ _ f1)).trans f1; have y2 : W3.cell? ⟨w.heap.size, 2, none⟩ = some (.int .i64 B) := (HB3.out.cell (p := ⟨w.heap.size, 2, none⟩) (World.block_lt_of_cell? _ _ f2)).trans f2; have y3 : W3.cell? ⟨w.heap.size, 3, none⟩ = some (.int .i64 C) := (HB3.out.cell (p := ⟨w.heap.size, 3, none⟩) (World.block_lt_of_cell? _ _ f3)).trans f3; have y4 : W3.cell? ⟨w.heap.size, 4, none⟩ = some (.string nm) := (HB3.out.cell (p := ⟨w.heap.size, 4, none⟩) (World.block_lt_of_cell? _ _ f4)).trans f4; have y5 : W3.cell? ⟨w.heap.size, 5, none⟩ = some (.string tx) := (HB3.out.cell (p := ⟨w.heap.size, 5, none⟩) (World.block_lt_of_cell? _ _ f5)).trans f5; have y6 : W3.cell? ⟨w.heap.size, 6, none⟩ = some (.string dr) := (HB3.out.cell (p := ⟨w.heap.size, 6, none⟩) (World.block_lt_of_cell? _ _ f6)).trans f6; have y7 : W3.cell? ⟨w.heap.size, 7, none⟩ = some (.slice a0 da.length p0) := (HB3.out.cell (p := ⟨w.heap.size, 7, none⟩) (World.block_lt_of_cell? _ _ f7)).trans f7; clear hF3 hb3) | (at_builtin; refine wpList_append_flat (α := ByteArray) rfl _ _ 37 rfl 9 (.string ByteArray.empty) 16 Tryd.underlying37 INFO.out rfl rfl (by decide) W1.heap.size (by first | (simp only [World.size_alloc]; omega) | omega) _ ((headW ⟨1, A, B, C, nm, tx, dr, da⟩) ++ [dirT dr]) rfl (HF3.out.grow (bel_alloc (Below.refl _ _) _)) _ [tx] rfl (HL4 _).repS (by have := HWL.out; (try simp only [List.length_append, List.length_cons, List.length_nil]); omega) (by have := HWL.out; (try simp only [List.length_append, List.length_cons, List.length_nil]); omega) ?_; intro v4 W4 hF4 hb4; have HF4 := Lib.hid hF4; have HB4 := Lib.hid ((bel_alloc HB3.out (.cells #[.string (tx)] 9)).trans hb4); have hz4 := HB4.out.size; clear hF4 hb4))
      go_wp2_with (go_at_call 47; refine (strings_join _ _ (((headW ⟨1, A, B, C, nm, tx, dr, da⟩) ++ [dirT dr]) ++ [tx]) ⟨#[32]⟩ HF4.out.repS (by have := HWL.out; (try simp only [List.length_append, List.length_cons, List.length_nil]); omega) HJS.out).mono ?_; rintro e W5 ⟨_, rfl, rfl, hb⟩; have HB5 := Lib.hid (bel_next (HB1.out.trans (HB4.out.mono (by omega))) hb); clear hb)
      go_ret
      exact ⟨_, rfl, by show _ = Value.string _; rw [HN.out] <;> rfl, HB5.out⟩
  by_cases hk2 : kd = 2
  · subst hk2
    clear hk1
    clear hok hln
    cases hdk : dirOk dr
    · have HDK := Lib.hid hdk
      have HN := Lib.hid (opText_nodir (x := ⟨2, A, B, C, nm, tx, dr, da⟩) hdk)
      clear hdk
      go_enter Tryd.func33, Tryd.ntmps33
      go_wp2_with fail
      refine (impl_OpOk _ [_, _, _, _, _, _, _, _] ⟨2, A, B, C, nm, tx, dr, da⟩ (Rep.mono HR.out (by repeat (first | (with_reducible exact Below.refl _ _) | (with_reducible assumption) | (with_reducible refine bel_alloc ?_ _) | ((with_reducible refine bel_set ?_ ?_ _); rotate_left; (focus first | (simp; done) | (simp; omega))))))).mono ?_
      rintro e W1 ⟨_, rfl, rfl, hb⟩
      rw [HOK.out]
      have HB1 := Lib.hid (bel_next (show Below w.heap.size w _ from (by repeat (first | (with_reducible exact Below.refl _ _) | (with_reducible assumption) | (with_reducible refine bel_alloc ?_ _) | ((with_reducible refine bel_set ?_ ?_ _); rotate_left; (focus first | (simp; done) | (simp; omega)))))) hb)
      have f0 : W1.cell? ⟨w.heap.size, 0, none⟩ = some (.int .i64 2) := (hb.cell (p := ⟨w.heap.size, 0, none⟩) (by simp)).trans (by simp)
      have f1 : W1.cell? ⟨w.heap.size, 1, none⟩ = some (.int .i64 A) := (hb.cell (p := ⟨w.heap.size, 1, none⟩) (by simp)).trans (by simp)
      have f2 : W1.cell? ⟨w.heap.size, 2, none⟩ = some (.int .i64 B) := (hb.cell (p := ⟨w.heap.size, 2, none⟩) (by simp)).trans (by simp)
      have f3 : W1.cell? ⟨w.heap.size, 3, none⟩ = some (.int .i64 C) := (hb.cell (p := ⟨w.heap.size, 3, none⟩) (by simp)).trans (by simp)
      have f4 : W1.cell? ⟨w.heap.size, 4, none⟩ = some (.string nm) := (hb.cell (p := ⟨w.heap.size, 4, none⟩) (by simp)).trans (by simp)
      have f5 : W1.cell? ⟨w.heap.size, 5, none⟩ = some (.string tx) := (hb.cell (p := ⟨w.heap.size, 5, none⟩) (by simp)).trans (by simp)
      have f6 : W1.cell? ⟨w.heap.size, 6, none⟩ = some (.string dr) := (hb.cell (p := ⟨w.heap.size, 6, none⟩) (by simp)).trans (by simp)
      have f7 : W1.cell? ⟨w.heap.size, 7, none⟩ = some (.slice a0 da.length p0) := (hb.cell (p := ⟨w.heap.size, 7, none⟩) (by simp)).trans (by simp)
      clear hb
      go_wp2_with fail
      refine (impl_opWords _ [_, _, _, _, _, _, _, _] ⟨2, A, B, C, nm, tx, dr, da⟩ (Rep.mono HR.out HB1.out) HOK.out (HT.out.mono HB1.out)).mono ?_
      rintro e W2 ⟨_, rfl, ⟨r0, rfl, hF⟩, hb⟩
      rw [HLN.out]
      have HB2 := Lib.hid (bel_next HB1.out hb)
      have HF := Lib.hid hF
      have hz1 := HB1.out.size
      have hz2 := hb.size
      have HBB := Lib.hid hb
      have g0 : W2.cell? ⟨w.heap.size, 0, none⟩ = some (.int .i64 2) := (hb.cell (p := ⟨w.heap.size, 0, none⟩) (World.block_lt_of_cell? _ _ f0)).trans f0
      have g1 : W2.cell? ⟨w.heap.size, 1, none⟩ = some (.int .i64 A) := (hb.cell (p := ⟨w.heap.size, 1, none⟩) (World.block_lt_of_cell? _ _ f1)).trans f1
      have g2 : W2.cell? ⟨w.heap.size, 2, none⟩ = some (.int .i64 B) := (hb.cell (p := ⟨w.heap.size, 2, none⟩) (World.block_lt_of_cell? _ _ f2)).trans f2
      have g3 : W2.cell? ⟨w.heap.size, 3, none⟩ = some (.int .i64 C) := (hb.cell (p := ⟨w.heap.size, 3, none⟩) (World.block_lt_of_cell? _ _ f3)).trans f3
      have g4 : W2.cell? ⟨w.heap.size, 4, none⟩ = some (.string nm) := (hb.cell (p := ⟨w.heap.size, 4, none⟩) (World.block_lt_of_cell? _ _ f4)).trans f4
      have g5 : W2.cell? ⟨w.heap.size, 5, none⟩ = some (.string tx) := (hb.cell (p := ⟨w.heap.size, 5, none⟩) (World.block_lt_of_cell? _ _ f5)).trans f5
      have g6 : W2.cell? ⟨w.heap.size, 6, none⟩ = some (.string dr) := (hb.cell (p := ⟨w.heap.size, 6, none⟩) (World.block_lt_of_cell? _ _ f6)).trans f6
      have g7 : W2.cell? ⟨w.heap.size, 7, none⟩ = some (.slice a0 da.length p0) := (hb.cell (p := ⟨w.heap.size, 7, none⟩) (World.block_lt_of_cell? _ _ f7)).trans f7
      clear hb hF
      go_wp2_with (go_at_call 57; refine (impl_dirText _ _).mono ?_; rintro e w' ⟨rfl, rfl⟩; rw [HDK.out])
      go_ret
      exact ⟨_, rfl, by show _ = Value.string _; rw [HN.out] <;> rfl, HB2.out⟩
    have HDK := Lib.hid hdk
    clear hdk
    by_cases hT : tx.toList = []
    · have dT : decide (tx.toList = []) = true := decide_eq_true hT
      have eT : (tx.toList == []) = true := by simpa using hT
      have nT : (tx.toList != []) = false := by simpa using hT
      have HN := Lib.hid (show opText ⟨2, A, B, C, nm, tx, dr, da⟩ = joinT ((headW ⟨2, A, B, C, nm, tx, dr, da⟩) ++ [dirT dr]) ⟨#[32]⟩ from by
        rw [opText_yes' HOK.out HLN.out HDK.out (l := (headW ⟨2, A, B, C, nm, tx, dr, da⟩) ++ [dirT dr]) (by simp [tailW, hasDir, hT])]; rfl)
      have HL3 : ∀ W : World, FreshS W.heap.size (W.alloc (.cells #[.string (dirT dr)] 9)) (.slice (some ⟨W.heap.size, 0, none⟩) 1 1) [dirT dr] := fun W => freshS_lit rfl W [_] [_] _ rfl rfl (by simp) (fun i u v hu hv w => by
        match i, hu, hv with
        | 0, hu, hv => cases hu; cases hv; exact ⟨rfl, by omega⟩)
      have HJS := Lib.hid (show (joinT ((headW ⟨2, A, B, C, nm, tx, dr, da⟩) ++ [dirT dr]) ⟨#[32]⟩).size ≤ 140737488355328 from by
        have h := joinT_size ((headW ⟨2, A, B, C, nm, tx, dr, da⟩) ++ [dirT dr]) 1048577 (fun b hb => by
          rcases List.mem_append.1 hb with hb | hb
          · exact HW.out b hb
          · rw [List.mem_singleton.1 hb]; omega)
        have h2 := HWL.out
        unfold bl at h
        have h3 : ((headW ⟨2, A, B, C, nm, tx, dr, da⟩) ++ [dirT dr]).length ≤ 6 := by (try simp only [List.length_append, List.length_cons, List.length_nil]); omega
        have h4 : ((headW ⟨2, A, B, C, nm, tx, dr, da⟩) ++ [dirT dr]).length * (1048577 + 1) ≤ 6 * (1048577 + 1) := Nat.mul_le_mul_right _ h3
        omega)
      clear hT
      go_enter Tryd.func33, Tryd.ntmps33
      go_wp2_with fail
      refine (impl_OpOk _ [_, _, _, _, _, _, _, _] ⟨2, A, B, C, nm, tx, dr, da⟩ (Rep.mono HR.out (by repeat (first | (with_reducible exact Below.refl _ _) | (with_reducible assumption) | (with_reducible refine bel_alloc ?_ _) | ((with_reducible refine bel_set ?_ ?_ _); rotate_left; (focus first | (simp; done) | (simp; omega))))))).mono ?_
      rintro e W1 ⟨_, rfl, rfl, hb⟩
      rw [HOK.out]
      have HB1 := Lib.hid (bel_next (show Below w.heap.size w _ from (by repeat (first | (with_reducible exact Below.refl _ _) | (with_reducible assumption) | (with_reducible refine bel_alloc ?_ _) | ((with_reducible refine bel_set ?_ ?_ _); rotate_left; (focus first | (simp; done) | (simp; omega)))))) hb)
      have f0 : W1.cell? ⟨w.heap.size, 0, none⟩ = some (.int .i64 2) := (hb.cell (p := ⟨w.heap.size, 0, none⟩) (by simp)).trans (by simp)
      have f1 : W1.cell? ⟨w.heap.size, 1, none⟩ = some (.int .i64 A) := (hb.cell (p := ⟨w.heap.size, 1, none⟩) (by simp)).trans (by simp)
      have f2 : W1.cell? ⟨w.heap.size, 2, none⟩ = some (.int .i64 B) := (hb.cell (p := ⟨w.heap.size, 2, none⟩) (by simp)).trans (by simp)
      have f3 : W1.cell? ⟨w.heap.size, 3, none⟩ = some (.int .i64 C) := (hb.cell (p := ⟨w.heap.size, 3, none⟩) (by simp)).trans (by simp)
      have f4 : W1.cell? ⟨w.heap.size, 4, none⟩ = some (.string nm) := (hb.cell (p := ⟨w.heap.size, 4, none⟩) (by simp)).trans (by simp)
      have f5 : W1.cell? ⟨w.heap.size, 5, none⟩ = some (.string tx) := (hb.cell (p := ⟨w.heap.size, 5, none⟩) (by simp)).trans (by simp)
      have f6 : W1.cell? ⟨w.heap.size, 6, none⟩ = some (.string dr) := (hb.cell (p := ⟨w.heap.size, 6, none⟩) (by simp)).trans (by simp)
      have f7 : W1.cell? ⟨w.heap.size, 7, none⟩ = some (.slice a0 da.length p0) := (hb.cell (p := ⟨w.heap.size, 7, none⟩) (by simp)).trans (by simp)
      clear hb
      go_wp2_with fail
      refine (impl_opWords _ [_, _, _, _, _, _, _, _] ⟨2, A, B, C, nm, tx, dr, da⟩ (Rep.mono HR.out HB1.out) HOK.out (HT.out.mono HB1.out)).mono ?_
      rintro e W2 ⟨_, rfl, ⟨r0, rfl, hF⟩, hb⟩
      rw [HLN.out]
      have HB2 := Lib.hid (bel_next HB1.out hb)
      have HF := Lib.hid hF
      have hz1 := HB1.out.size
      have hz2 := hb.size
      have HBB := Lib.hid hb
      have g0 : W2.cell? ⟨w.heap.size, 0, none⟩ = some (.int .i64 2) := (hb.cell (p := ⟨w.heap.size, 0, none⟩) (World.block_lt_of_cell? _ _ f0)).trans f0
      have g1 : W2.cell? ⟨w.heap.size, 1, none⟩ = some (.int .i64 A) := (hb.cell (p := ⟨w.heap.size, 1, none⟩) (World.block_lt_of_cell? _ _ f1)).trans f1
      have g2 : W2.cell? ⟨w.heap.size, 2, none⟩ = some (.int .i64 B) := (hb.cell (p := ⟨w.heap.size, 2, none⟩) (World.block_lt_of_cell? _ _ f2)).trans f2
      have g3 : W2.cell? ⟨w.heap.size, 3, none⟩ = some (.int .i64 C) := (hb.cell (p := ⟨w.heap.size, 3, none⟩) (World.block_lt_of_cell? _ _ f3)).trans f3
      have g4 : W2.cell? ⟨w.heap.size, 4, none⟩ = some (.string nm) := (hb.cell (p := ⟨w.heap.size, 4, none⟩) (World.block_lt_of_cell? _ _ f4)).trans f4
      have g5 : W2.cell? ⟨w.heap.size, 5, none⟩ = some (.string tx) := (hb.cell (p := ⟨w.heap.size, 5, none⟩) (World.block_lt_of_cell? _ _ f5)).trans f5
      have g6 : W2.cell? ⟨w.heap.size, 6, none⟩ = some (.string dr) := (hb.cell (p := ⟨w.heap.size, 6, none⟩) (World.block_lt_of_cell? _ _ f6)).trans f6
      have g7 : W2.cell? ⟨w.heap.size, 7, none⟩ = some (.slice a0 da.length p0) := (hb.cell (p := ⟨w.heap.size, 7, none⟩) (World.block_lt_of_cell? _ _ f7)).trans f7
      clear hb hF
      go_wp2_with fail
      refine (impl_dirText _ _).mono ?_
      rintro e w' ⟨rfl, rfl⟩
      rw [HDK.out]
      go_wp2_with (first | (at_builtin; refine wpList_append_flat (α := ByteArray) rfl _ _ 37 rfl 9 (.string ByteArray.empty) 16 Tryd.underlying37 INFO.out rfl rfl (by decide) W1.heap.size (by first | (simp only [World.size_alloc]; omega) | omega) _ (headW ⟨2, A, B, C, nm, tx, dr, da⟩) rfl (HF.out.grow (bel_alloc (Below.refl _ _) _)) _ [dirT dr] rfl (HL3 _).repS (by have := HWL.out; (try simp only [List.length_append, List.length_cons, List.length_nil]); omega) (by have := HWL.out; (try simp only [List.length_append, List.length_cons, List.length_nil]); omega) ?_; intro v3 W3 hF3 hb3; have HF3 := Lib.hid hF3; have HB3 := Lib.hid ((bel_alloc HBB.out (.cells #[.string (dirT dr)] 9)).trans hb3); have hz3 := HB3.out.size; have y0 : W3.cell? ⟨w.heap.size, 0, none⟩ = some (.int .i64 2) := (HB3.out.cell (p := ⟨w.heap.size, 0, none⟩) (World.block_lt_of_cell? _ _ f0)).trans f0; have y1 : W3.cell? ⟨w.heap.size, 1, none⟩ = some (.int .i64 A) := (HB3.out.cell (p := ⟨w.heap.size, 1, none⟩) (World.block_lt_of_cell? _ _ f1)).trans f1; have y2 : W3.cell? ⟨w.heap.size, 2, none⟩ = some (.int .i64 B) := (HB3.out.cell (p := ⟨w.heap.size, 2, none⟩) (World.block_lt_of_cell? _ _ f2)).trans f2; have y3 : W3.cell? ⟨w.heap.size, 3, none⟩ = some (.int .i64 C) := (HB3.out.cell (p := ⟨w.heap.size, 3, none⟩) (World.block_lt_of_cell? _ _ f3)).trans f3; have y4 : W3.cell? ⟨w.heap.size, 4, none⟩ = some (.string nm) := (HB3.out.cell (p := ⟨w.heap.size, 4, none⟩) (World.block_lt_of_cell? _ _ f4)).trans f4; have y5 : W3.cell? ⟨w.heap.size, 5, none⟩ = some (.string tx) := (HB3.out.cell (p := ⟨w.heap.size, 5, none⟩) (World.block_lt_of_cell? _ _ f5)).trans f5; have y6 : W3.cell? ⟨w.heap.size, 6, none⟩ = some (.string dr) := (HB3.out.cell (p := ⟨w.heap.size, 6, none⟩) (World.block_lt_of_cell? _ _ f6)).trans f6; have y7 : W3.cell? ⟨w.heap.size, 7, none⟩ = some (.slice a0 da.length p0) := (HB3.out.cell (p := ⟨w.heap.size, 7, none⟩) (World.block_lt_of_cell? _ _ f7)).trans f7; clear hF3 hb3))
      go_wp2_with (go_at_call 47; refine (strings_join _ _ ((headW ⟨2, A, B, C, nm, tx, dr, da⟩) ++ [dirT dr]) ⟨#[32]⟩ HF3.out.repS (by have := HWL.out; (try simp only [List.length_append, List.length_cons, List.length_nil]); omega) HJS.out).mono ?_; rintro e W5 ⟨_, rfl, rfl, hb⟩; have HB5 := Lib.hid (bel_next (HB1.out.trans (HB3.out.mono (by omega))) hb); clear hb)
      go_ret
      exact ⟨_, rfl, by show _ = Value.string _; rw [HN.out] <;> rfl, HB5.out⟩
    · have dT : decide (tx.toList = []) = false := decide_eq_false hT
      have eT : (tx.toList == []) = false := by simpa using hT
      have nT : (tx.toList != []) = true := by simpa using hT
      have HN := Lib.hid (show opText ⟨2, A, B, C, nm, tx, dr, da⟩ = joinT (((headW ⟨2, A, B, C, nm, tx, dr, da⟩) ++ [dirT dr]) ++ [tx]) ⟨#[32]⟩ from by
        rw [opText_yes' HOK.out HLN.out HDK.out (l := ((headW ⟨2, A, B, C, nm, tx, dr, da⟩) ++ [dirT dr]) ++ [tx]) (by simp [tailW, hasDir, hT])]; rfl)
      have HL3 : ∀ W : World, FreshS W.heap.size (W.alloc (.cells #[.string (dirT dr)] 9)) (.slice (some ⟨W.heap.size, 0, none⟩) 1 1) [dirT dr] := fun W => freshS_lit rfl W [_] [_] _ rfl rfl (by simp) (fun i u v hu hv w => by
        match i, hu, hv with
        | 0, hu, hv => cases hu; cases hv; exact ⟨rfl, by omega⟩)
      have HL4 : ∀ W : World, FreshS W.heap.size (W.alloc (.cells #[.string (tx)] 9)) (.slice (some ⟨W.heap.size, 0, none⟩) 1 1) [tx] := fun W => freshS_lit rfl W [_] [_] _ rfl rfl (by simp) (fun i u v hu hv w => by
        match i, hu, hv with
        | 0, hu, hv => cases hu; cases hv; exact ⟨rfl, by omega⟩)
      have HJS := Lib.hid (show (joinT (((headW ⟨2, A, B, C, nm, tx, dr, da⟩) ++ [dirT dr]) ++ [tx]) ⟨#[32]⟩).size ≤ 140737488355328 from by
        have h := joinT_size (((headW ⟨2, A, B, C, nm, tx, dr, da⟩) ++ [dirT dr]) ++ [tx]) 1048577 (fun b hb => by
          rcases List.mem_append.1 hb with hb | hb
          · rcases List.mem_append.1 hb with hb | hb
            · exact HW.out b hb
            · rw [List.mem_singleton.1 hb]; omega
          · rw [List.mem_singleton.1 hb]; omega)
        have h2 := HWL.out
        unfold bl at h
        have h3 : (((headW ⟨2, A, B, C, nm, tx, dr, da⟩) ++ [dirT dr]) ++ [tx]).length ≤ 6 := by (try simp only [List.length_append, List.length_cons, List.length_nil]); omega
        have h4 : (((headW ⟨2, A, B, C, nm, tx, dr, da⟩) ++ [dirT dr]) ++ [tx]).length * (1048577 + 1) ≤ 6 * (1048577 + 1) := Nat.mul_le_mul_right _ h3
        omega)
      clear hT
      go_enter Tryd.func33, Tryd.ntmps33
      go_wp2_with fail
      refine (impl_OpOk _ [_, _, _, _, _, _, _, _] ⟨2, A, B, C, nm, tx, dr, da⟩ (Rep.mono HR.out (by repeat (first | (with_reducible exact Below.refl _ _) | (with_reducible assumption) | (with_reducible refine bel_alloc ?_ _) | ((with_reducible refine bel_set ?_ ?_ _); rotate_left; (focus first | (simp; done) | (simp; omega))))))).mono ?_
      rintro e W1 ⟨_, rfl, rfl, hb⟩
      rw [HOK.out]
      have HB1 := Lib.hid (bel_next (show Below w.heap.size w _ from (by repeat (first | (with_reducible exact Below.refl _ _) | (with_reducible assumption) | (with_reducible refine bel_alloc ?_ _) | ((with_reducible refine bel_set ?_ ?_ _); rotate_left; (focus first | (simp; done) | (simp; omega)))))) hb)
      have f0 : W1.cell? ⟨w.heap.size, 0, none⟩ = some (.int .i64 2) := (hb.cell (p := ⟨w.heap.size, 0, none⟩) (by simp)).trans (by simp)
      have f1 : W1.cell? ⟨w.heap.size, 1, none⟩ = some (.int .i64 A) := (hb.cell (p := ⟨w.heap.size, 1, none⟩) (by simp)).trans (by simp)
      have f2 : W1.cell? ⟨w.heap.size, 2, none⟩ = some (.int .i64 B) := (hb.cell (p := ⟨w.heap.size, 2, none⟩) (by simp)).trans (by simp)
      have f3 : W1.cell? ⟨w.heap.size, 3, none⟩ = some (.int .i64 C) := (hb.cell (p := ⟨w.heap.size, 3, none⟩) (by simp)).trans (by simp)
      have f4 : W1.cell? ⟨w.heap.size, 4, none⟩ = some (.string nm) := (hb.cell (p := ⟨w.heap.size, 4, none⟩) (by simp)).trans (by simp)
      have f5 : W1.cell? ⟨w.heap.size, 5, none⟩ = some (.string tx) := (hb.cell (p := ⟨w.heap.size, 5, none⟩) (by simp)).trans (by simp)
      have f6 : W1.cell? ⟨w.heap.size, 6, none⟩ = some (.string dr) := (hb.cell (p := ⟨w.heap.size, 6, none⟩) (by simp)).trans (by simp)
      have f7 : W1.cell? ⟨w.heap.size, 7, none⟩ = some (.slice a0 da.length p0) := (hb.cell (p := ⟨w.heap.size, 7, none⟩) (by simp)).trans (by simp)
      clear hb
      go_wp2_with fail
      refine (impl_opWords _ [_, _, _, _, _, _, _, _] ⟨2, A, B, C, nm, tx, dr, da⟩ (Rep.mono HR.out HB1.out) HOK.out (HT.out.mono HB1.out)).mono ?_
      rintro e W2 ⟨_, rfl, ⟨r0, rfl, hF⟩, hb⟩
      rw [HLN.out]
      have HB2 := Lib.hid (bel_next HB1.out hb)
      have HF := Lib.hid hF
      have hz1 := HB1.out.size
      have hz2 := hb.size
      have HBB := Lib.hid hb
      have g0 : W2.cell? ⟨w.heap.size, 0, none⟩ = some (.int .i64 2) := (hb.cell (p := ⟨w.heap.size, 0, none⟩) (World.block_lt_of_cell? _ _ f0)).trans f0
      have g1 : W2.cell? ⟨w.heap.size, 1, none⟩ = some (.int .i64 A) := (hb.cell (p := ⟨w.heap.size, 1, none⟩) (World.block_lt_of_cell? _ _ f1)).trans f1
      have g2 : W2.cell? ⟨w.heap.size, 2, none⟩ = some (.int .i64 B) := (hb.cell (p := ⟨w.heap.size, 2, none⟩) (World.block_lt_of_cell? _ _ f2)).trans f2
      have g3 : W2.cell? ⟨w.heap.size, 3, none⟩ = some (.int .i64 C) := (hb.cell (p := ⟨w.heap.size, 3, none⟩) (World.block_lt_of_cell? _ _ f3)).trans f3
      have g4 : W2.cell? ⟨w.heap.size, 4, none⟩ = some (.string nm) := (hb.cell (p := ⟨w.heap.size, 4, none⟩) (World.block_lt_of_cell? _ _ f4)).trans f4
      have g5 : W2.cell? ⟨w.heap.size, 5, none⟩ = some (.string tx) := (hb.cell (p := ⟨w.heap.size, 5, none⟩) (World.block_lt_of_cell? _ _ f5)).trans f5
      have g6 : W2.cell? ⟨w.heap.size, 6, none⟩ = some (.string dr) := (hb.cell (p := ⟨w.heap.size, 6, none⟩) (World.block_lt_of_cell? _ _ f6)).trans f6
      have g7 : W2.cell? ⟨w.heap.size, 7, none⟩ = some (.slice a0 da.length p0) := (hb.cell (p := ⟨w.heap.size, 7, none⟩) (World.block_lt_of_cell? _ _ f7)).trans f7
      clear hb hF
      go_wp2_with fail
      refine (impl_dirText _ _).mono ?_
      rintro e w' ⟨rfl, rfl⟩
      rw [HDK.out]
      go_wp2_with (first | (at_builtin; refine wpList_append_flat (α := ByteArray) rfl _ _ 37 rfl 9 (.string ByteArray.empty) 16 Tryd.underlying37 INFO.out rfl rfl (by decide) W1.heap.size (by first | (simp only [World.size_alloc]; omega) | omega) _ (headW ⟨2, A, B, C, nm, tx, dr, da⟩) rfl (HF.out.grow (bel_alloc (Below.refl _ _) _)) _ [dirT dr] rfl (HL3 _).repS (by have := HWL.out; (try simp only [List.length_append, List.length_cons, List.length_nil]); omega) (by have := HWL.out; (try simp only [List.length_append, List.length_cons, List.length_nil]); omega) ?_; intro v3 W3 hF3 hb3; have HF3 := Lib.hid hF3; have HB3 := Lib.hid ((bel_alloc HBB.out (.cells #[.string (dirT dr)] 9)).trans hb3); have hz3 := HB3.out.size; have y0 : W3.cell? ⟨w.heap.size, 0, none⟩ = some (.int .i64 2) := (HB3.out.cell (p := ⟨w.heap.size, 0, none⟩) (World.block_lt_of_cell? _ _ f0)).trans f0; have y1 : W3.cell? ⟨w.heap.size, 1, none⟩ = some (.int .i64 A) := (HB3.out.cell (p := ⟨w.heap.size, 1, none⟩) (World.block_lt_of_cell? _ _ f1)).trans f1; have y2 : W3.cell? ⟨w.heap.size, 2, none⟩ = some (.int .i64 B) := (HB3.out.cell (p := ⟨w.heap.size, 2, none⟩) (World.block_lt_of_cell? _ _ f2)).trans f2; have y3 : W3.cell? ⟨w.heap.size, 3, none⟩ = some (.int .i64 C) := (HB3.out.cell (p := ⟨w.heap.size, 3, none⟩) (World.block_lt_of_cell? _ _ f3)).trans f3; have y4 : W3.cell? ⟨w.heap.size, 4, none⟩ = some (.string nm) := (HB3.out.cell (p := ⟨w.heap.size, 4, none⟩) (World.block_lt_of_cell? _ _ f4)).trans f4; have y5 : W3.cell? ⟨w.heap.size, 5, none⟩ = some (.string tx) := (HB3.out.cell (p := ⟨w.heap.size, 5, none⟩) (World.block_lt_of_cell? _ _ f5)).trans f5; have y6 : W3.cell? ⟨w.heap.size, 6, none⟩ = some (.string dr) := (HB3.out.cell (p := ⟨w.heap.size, 6, none⟩) (World.block_lt_of_cell? _ _ f6)).trans f6; have y7 : W3.cell? ⟨w.heap.size, 7, none⟩ = some (.slice a0 da.length p0) := (HB3.out.cell (p := ⟨w.heap.size, 7, none⟩) (World.block_lt_of_cell? _ _ f7)).trans f7; clear hF3 hb3) | (at_builtin; refine wpList_append_flat (α := ByteArray) rfl _ _ 37 rfl 9 (.string ByteArray.empty) 16 Tryd.underlying37 INFO.out rfl rfl (by decide) W1.heap.size (by first | (simp only [World.size_alloc]; omega) | omega) _ ((headW ⟨2, A, B, C, nm, tx, dr, da⟩) ++ [dirT dr]) rfl (HF3.out.grow (bel_alloc (Below.refl _ _) _)) _ [tx] rfl (HL4 _).repS (by have := HWL.out; (try simp only [List.length_append, List.length_cons, List.length_nil]); omega) (by have := HWL.out; (try simp only [List.length_append, List.length_cons, List.length_nil]); omega) ?_; intro v4 W4 hF4 hb4; have HF4 := Lib.hid hF4; have HB4 := Lib.hid ((bel_alloc HB3.out (.cells #[.string (tx)] 9)).trans hb4); have hz4 := HB4.out.size; clear hF4 hb4))
      go_wp2_with (go_at_call 47; refine (strings_join _ _ (((headW ⟨2, A, B, C, nm, tx, dr, da⟩) ++ [dirT dr]) ++ [tx]) ⟨#[32]⟩ HF4.out.repS (by have := HWL.out; (try simp only [List.length_append, List.length_cons, List.length_nil]); omega) HJS.out).mono ?_; rintro e W5 ⟨_, rfl, rfl, hb⟩; have HB5 := Lib.hid (bel_next (HB1.out.trans (HB4.out.mono (by omega))) hb); clear hb)
      go_ret
      exact ⟨_, rfl, by show _ = Value.string _; rw [HN.out] <;> rfl, HB5.out⟩
  by_cases hk3 : kd = 3
  · subst hk3
    clear hk1 hk2
    clear hok hln
    cases hdk : dirOk dr
    · have HDK := Lib.hid hdk
      have HN := Lib.hid (opText_nodir (x := ⟨3, A, B, C, nm, tx, dr, da⟩) hdk)
      clear hdk
      go_enter Tryd.func33, Tryd.ntmps33
      go_wp2_with fail
      refine (impl_OpOk _ [_, _, _, _, _, _, _, _] ⟨3, A, B, C, nm, tx, dr, da⟩ (Rep.mono HR.out (by repeat (first | (with_reducible exact Below.refl _ _) | (with_reducible assumption) | (with_reducible refine bel_alloc ?_ _) | ((with_reducible refine bel_set ?_ ?_ _); rotate_left; (focus first | (simp; done) | (simp; omega))))))).mono ?_
      rintro e W1 ⟨_, rfl, rfl, hb⟩
      rw [HOK.out]
      have HB1 := Lib.hid (bel_next (show Below w.heap.size w _ from (by repeat (first | (with_reducible exact Below.refl _ _) | (with_reducible assumption) | (with_reducible refine bel_alloc ?_ _) | ((with_reducible refine bel_set ?_ ?_ _); rotate_left; (focus first | (simp; done) | (simp; omega)))))) hb)
      have f0 : W1.cell? ⟨w.heap.size, 0, none⟩ = some (.int .i64 3) := (hb.cell (p := ⟨w.heap.size, 0, none⟩) (by simp)).trans (by simp)
      have f1 : W1.cell? ⟨w.heap.size, 1, none⟩ = some (.int .i64 A) := (hb.cell (p := ⟨w.heap.size, 1, none⟩) (by simp)).trans (by simp)
      have f2 : W1.cell? ⟨w.heap.size, 2, none⟩ = some (.int .i64 B) := (hb.cell (p := ⟨w.heap.size, 2, none⟩) (by simp)).trans (by simp)
      have f3 : W1.cell? ⟨w.heap.size, 3, none⟩ = some (.int .i64 C) := (hb.cell (p := ⟨w.heap.size, 3, none⟩) (by simp)).trans (by simp)
      have f4 : W1.cell? ⟨w.heap.size, 4, none⟩ = some (.string nm) := (hb.cell (p := ⟨w.heap.size, 4, none⟩) (by simp)).trans (by simp)
      have f5 : W1.cell? ⟨w.heap.size, 5, none⟩ = some (.string tx) := (hb.cell (p := ⟨w.heap.size, 5, none⟩) (by simp)).trans (by simp)
      have f6 : W1.cell? ⟨w.heap.size, 6, none⟩ = some (.string dr) := (hb.cell (p := ⟨w.heap.size, 6, none⟩) (by simp)).trans (by simp)
      have f7 : W1.cell? ⟨w.heap.size, 7, none⟩ = some (.slice a0 da.length p0) := (hb.cell (p := ⟨w.heap.size, 7, none⟩) (by simp)).trans (by simp)
      clear hb
      go_wp2_with fail
      refine (impl_opWords _ [_, _, _, _, _, _, _, _] ⟨3, A, B, C, nm, tx, dr, da⟩ (Rep.mono HR.out HB1.out) HOK.out (HT.out.mono HB1.out)).mono ?_
      rintro e W2 ⟨_, rfl, ⟨r0, rfl, hF⟩, hb⟩
      rw [HLN.out]
      have HB2 := Lib.hid (bel_next HB1.out hb)
      have HF := Lib.hid hF
      have hz1 := HB1.out.size
      have hz2 := hb.size
      have HBB := Lib.hid hb
      have g0 : W2.cell? ⟨w.heap.size, 0, none⟩ = some (.int .i64 3) := (hb.cell (p := ⟨w.heap.size, 0, none⟩) (World.block_lt_of_cell? _ _ f0)).trans f0
      have g1 : W2.cell? ⟨w.heap.size, 1, none⟩ = some (.int .i64 A) := (hb.cell (p := ⟨w.heap.size, 1, none⟩) (World.block_lt_of_cell? _ _ f1)).trans f1
      have g2 : W2.cell? ⟨w.heap.size, 2, none⟩ = some (.int .i64 B) := (hb.cell (p := ⟨w.heap.size, 2, none⟩) (World.block_lt_of_cell? _ _ f2)).trans f2
      have g3 : W2.cell? ⟨w.heap.size, 3, none⟩ = some (.int .i64 C) := (hb.cell (p := ⟨w.heap.size, 3, none⟩) (World.block_lt_of_cell? _ _ f3)).trans f3
      have g4 : W2.cell? ⟨w.heap.size, 4, none⟩ = some (.string nm) := (hb.cell (p := ⟨w.heap.size, 4, none⟩) (World.block_lt_of_cell? _ _ f4)).trans f4
      have g5 : W2.cell? ⟨w.heap.size, 5, none⟩ = some (.string tx) := (hb.cell (p := ⟨w.heap.size, 5, none⟩) (World.block_lt_of_cell? _ _ f5)).trans f5
      have g6 : W2.cell? ⟨w.heap.size, 6, none⟩ = some (.string dr) := (hb.cell (p := ⟨w.heap.size, 6, none⟩) (World.block_lt_of_cell? _ _ f6)).trans f6
      have g7 : W2.cell? ⟨w.heap.size, 7, none⟩ = some (.slice a0 da.length p0) := (hb.cell (p := ⟨w.heap.size, 7, none⟩) (World.block_lt_of_cell? _ _ f7)).trans f7
      clear hb hF
      go_wp2_with (go_at_call 57; refine (impl_dirText _ _).mono ?_; rintro e w' ⟨rfl, rfl⟩; rw [HDK.out])
      go_ret
      exact ⟨_, rfl, by show _ = Value.string _; rw [HN.out] <;> rfl, HB2.out⟩
    have HDK := Lib.hid hdk
    clear hdk
    by_cases hT : tx.toList = []
    · have dT : decide (tx.toList = []) = true := decide_eq_true hT
      have eT : (tx.toList == []) = true := by simpa using hT
      have nT : (tx.toList != []) = false := by simpa using hT
      have HN := Lib.hid (show opText ⟨3, A, B, C, nm, tx, dr, da⟩ = joinT ((headW ⟨3, A, B, C, nm, tx, dr, da⟩) ++ [dirT dr]) ⟨#[32]⟩ from by
        rw [opText_yes' HOK.out HLN.out HDK.out (l := (headW ⟨3, A, B, C, nm, tx, dr, da⟩) ++ [dirT dr]) (by simp [tailW, hasDir, hT])]; rfl)
      have HL3 : ∀ W : World, FreshS W.heap.size (W.alloc (.cells #[.string (dirT dr)] 9)) (.slice (some ⟨W.heap.size, 0, none⟩) 1 1) [dirT dr] := fun W => freshS_lit rfl W [_] [_] _ rfl rfl (by simp) (fun i u v hu hv w => by
        match i, hu, hv with
        | 0, hu, hv => cases hu; cases hv; exact ⟨rfl, by omega⟩)
      have HJS := Lib.hid (show (joinT ((headW ⟨3, A, B, C, nm, tx, dr, da⟩) ++ [dirT dr]) ⟨#[32]⟩).size ≤ 140737488355328 from by
        have h := joinT_size ((headW ⟨3, A, B, C, nm, tx, dr, da⟩) ++ [dirT dr]) 1048577 (fun b hb => by
          rcases List.mem_append.1 hb with hb | hb
          · exact HW.out b hb
          · rw [List.mem_singleton.1 hb]; omega)
        have h2 := HWL.out
        unfold bl at h
        have h3 : ((headW ⟨3, A, B, C, nm, tx, dr, da⟩) ++ [dirT dr]).length ≤ 6 := by (try simp only [List.length_append, List.length_cons, List.length_nil]); omega
        have h4 : ((headW ⟨3, A, B, C, nm, tx, dr, da⟩) ++ [dirT dr]).length * (1048577 + 1) ≤ 6 * (1048577 + 1) := Nat.mul_le_mul_right _ h3
        omega)
      clear hT
      go_enter Tryd.func33, Tryd.ntmps33
      go_wp2_with fail
      refine (impl_OpOk _ [_, _, _, _, _, _, _, _] ⟨3, A, B, C, nm, tx, dr, da⟩ (Rep.mono HR.out (by repeat (first | (with_reducible exact Below.refl _ _) | (with_reducible assumption) | (with_reducible refine bel_alloc ?_ _) | ((with_reducible refine bel_set ?_ ?_ _); rotate_left; (focus first | (simp; done) | (simp; omega))))))).mono ?_
      rintro e W1 ⟨_, rfl, rfl, hb⟩
      rw [HOK.out]
      have HB1 := Lib.hid (bel_next (show Below w.heap.size w _ from (by repeat (first | (with_reducible exact Below.refl _ _) | (with_reducible assumption) | (with_reducible refine bel_alloc ?_ _) | ((with_reducible refine bel_set ?_ ?_ _); rotate_left; (focus first | (simp; done) | (simp; omega)))))) hb)
      have f0 : W1.cell? ⟨w.heap.size, 0, none⟩ = some (.int .i64 3) := (hb.cell (p := ⟨w.heap.size, 0, none⟩) (by simp)).trans (by simp)
      have f1 : W1.cell? ⟨w.heap.size, 1, none⟩ = some (.int .i64 A) := (hb.cell (p := ⟨w.heap.size, 1, none⟩) (by simp)).trans (by simp)
      have f2 : W1.cell? ⟨w.heap.size, 2, none⟩ = some (.int .i64 B) := (hb.cell (p := ⟨w.heap.size, 2, none⟩) (by simp)).trans (by simp)
      have f3 : W1.cell? ⟨w.heap.size, 3, none⟩ = some (.int .i64 C) := (hb.cell (p := ⟨w.heap.size, 3, none⟩) (by simp)).trans (by simp)
      have f4 : W1.cell? ⟨w.heap.size, 4, none⟩ = some (.string nm) := (hb.cell (p := ⟨w.heap.size, 4, none⟩) (by simp)).trans (by simp)
      have f5 : W1.cell? ⟨w.heap.size, 5, none⟩ = some (.string tx) := (hb.cell (p := ⟨w.heap.size, 5, none⟩) (by simp)).trans (by simp)
      have f6 : W1.cell? ⟨w.heap.size, 6, none⟩ = some (.string dr) := (hb.cell (p := ⟨w.heap.size, 6, none⟩) (by simp)).trans (by simp)
      have f7 : W1.cell? ⟨w.heap.size, 7, none⟩ = some (.slice a0 da.length p0) := (hb.cell (p := ⟨w.heap.size, 7, none⟩) (by simp)).trans (by simp)
      clear hb
      go_wp2_with fail
      refine (impl_opWords _ [_, _, _, _, _, _, _, _] ⟨3, A, B, C, nm, tx, dr, da⟩ (Rep.mono HR.out HB1.out) HOK.out (HT.out.mono HB1.out)).mono ?_
      rintro e W2 ⟨_, rfl, ⟨r0, rfl, hF⟩, hb⟩
      rw [HLN.out]
      have HB2 := Lib.hid (bel_next HB1.out hb)
      have HF := Lib.hid hF
      have hz1 := HB1.out.size
      have hz2 := hb.size
      have HBB := Lib.hid hb
      have g0 : W2.cell? ⟨w.heap.size, 0, none⟩ = some (.int .i64 3) := (hb.cell (p := ⟨w.heap.size, 0, none⟩) (World.block_lt_of_cell? _ _ f0)).trans f0
      have g1 : W2.cell? ⟨w.heap.size, 1, none⟩ = some (.int .i64 A) := (hb.cell (p := ⟨w.heap.size, 1, none⟩) (World.block_lt_of_cell? _ _ f1)).trans f1
      have g2 : W2.cell? ⟨w.heap.size, 2, none⟩ = some (.int .i64 B) := (hb.cell (p := ⟨w.heap.size, 2, none⟩) (World.block_lt_of_cell? _ _ f2)).trans f2
      have g3 : W2.cell? ⟨w.heap.size, 3, none⟩ = some (.int .i64 C) := (hb.cell (p := ⟨w.heap.size, 3, none⟩) (World.block_lt_of_cell? _ _ f3)).trans f3
      have g4 : W2.cell? ⟨w.heap.size, 4, none⟩ = some (.string nm) := (hb.cell (p := ⟨w.heap.size, 4, none⟩) (World.block_lt_of_cell? _ _ f4)).trans f4
      have g5 : W2.cell? ⟨w.heap.size, 5, none⟩ = some (.string tx) := (hb.cell (p := ⟨w.heap.size, 5, none⟩) (World.block_lt_of_cell? _ _ f5)).trans f5
      have g6 : W2.cell? ⟨w.heap.size, 6, none⟩ = some (.string dr) := (hb.cell (p := ⟨w.heap.size, 6, none⟩) (World.block_lt_of_cell? _ _ f6)).trans f6
      have g7 : W2.cell? ⟨w.heap.size, 7, none⟩ = some (.slice a0 da.length p0) := (hb.cell (p := ⟨w.heap.size, 7, none⟩) (World.block_lt_of_cell? _ _ f7)).trans f7
      clear hb hF
      go_wp2_with fail
      refine (impl_dirText _ _).mono ?_
      rintro e w' ⟨rfl, rfl⟩
      rw [HDK.out]
      go_wp2_with (first | (at_builtin; refine wpList_append_flat (α := ByteArray) rfl _ _ 37 rfl 9 (.string ByteArray.empty) 16 Tryd.underlying37 INFO.out rfl rfl (by decide) W1.heap.size (by first | (simp only [World.size_alloc]; omega) | omega) _ (headW ⟨3, A, B, C, nm, tx, dr, da⟩) rfl (HF.out.grow (bel_alloc (Below.refl _ _) _)) _ [dirT dr] rfl (HL3 _).repS (by have := HWL.out; (try simp only [List.length_append, List.length_cons, List.length_nil]); omega) (by have := HWL.out; (try simp only [List.length_append, List.length_cons, List.length_nil]); omega) ?_; intro v3 W3 hF3 hb3; have HF3 := Lib.hid hF3; have HB3 := Lib.hid ((bel_alloc HBB.out (.cells #[.string (dirT dr)] 9)).trans hb3); have hz3 := HB3.out.size; have y0 : W3.cell? ⟨w.heap.size, 0, none⟩ = some (.int .i64 3) := (HB3.out.cell (p := ⟨w.heap.size, 0, none⟩) (World.block_lt_of_cell? _ _ f0)).trans f0; have y1 : W3.cell? ⟨w.heap.size, 1, none⟩ = some (.int .i64 A) := (HB3.out.cell (p := ⟨w.heap.size, 1, none⟩) (World.block_lt_of_cell? _ _ f1)).trans f1; have y2 : W3.cell? ⟨w.heap.size, 2, none⟩ = some (.int .i64 B) := (HB3.out.cell (p := ⟨w.heap.size, 2, none⟩) (World.block_lt_of_cell? _ _ f2)).trans f2; have y3 : W3.cell? ⟨w.heap.size, 3, none⟩ = some (.int .i64 C) := (HB3.out.cell (p := ⟨w.heap.size, 3, none⟩) (World.block_lt_of_cell? _ _ f3)).trans f3; have y4 : W3.cell? ⟨w.heap.size, 4, none⟩ = some (.string nm) := (HB3.out.cell (p := ⟨w.heap.size, 4, none⟩) (World.block_lt_of_cell? _ _ f4)).trans f4; have y5 : W3.cell? ⟨w.heap.size, 5, none⟩ = some (.string tx) := (HB3.out.cell (p := ⟨w.heap.size, 5, none⟩) (World.block_lt_of_cell? _ _ f5)).trans f5; have y6 : W3.cell? ⟨w.heap.size, 6, none⟩ = some (.string dr) := (HB3.out.cell (p := ⟨w.heap.size, 6, none⟩) (World.block_lt_of_cell? _ _ f6)).trans f6; have y7 : W3.cell? ⟨w.heap.size, 7, none⟩ = some (.slice a0 da.length p0) := (HB3.out.cell (p := ⟨w.heap.size, 7, none⟩) (World.block_lt_of_cell? _ _ f7)).trans f7; clear hF3 hb3))
      go_wp2_with (go_at_call 47; refine (strings_join _ _ ((headW ⟨3, A, B, C, nm, tx, dr, da⟩) ++ [dirT dr]) ⟨#[32]⟩ HF3.out.repS (by have := HWL.out; (try simp only [List.length_append, List.length_cons, List.length_nil]); omega) HJS.out).mono ?_; rintro e W5 ⟨_, rfl, rfl, hb⟩; have HB5 := Lib.hid (bel_next (HB1.out.trans (HB3.out.mono (by omega))) hb); clear hb)
      go_ret
      exact ⟨_, rfl, by show _ = Value.string _; rw [HN.out] <;> rfl, HB5.out⟩
    · have dT : decide (tx.toList = []) = false := decide_eq_false hT
      have eT : (tx.toList == []) = false := by simpa using hT
      have nT : (tx.toList != []) = true := by simpa using hT
      have HN := Lib.hid (show opText ⟨3, A, B, C, nm, tx, dr, da⟩ = joinT (((headW ⟨3, A, B, C, nm, tx, dr, da⟩) ++ [dirT dr]) ++ [tx]) ⟨#[32]⟩ from by
        rw [opText_yes' HOK.out HLN.out HDK.out (l := ((headW ⟨3, A, B, C, nm, tx, dr, da⟩) ++ [dirT dr]) ++ [tx]) (by simp [tailW, hasDir, hT])]; rfl)
      have HL3 : ∀ W : World, FreshS W.heap.size (W.alloc (.cells #[.string (dirT dr)] 9)) (.slice (some ⟨W.heap.size, 0, none⟩) 1 1) [dirT dr] := fun W => freshS_lit rfl W [_] [_] _ rfl rfl (by simp) (fun i u v hu hv w => by
        match i, hu, hv with
        | 0, hu, hv => cases hu; cases hv; exact ⟨rfl, by omega⟩)
      have HL4 : ∀ W : World, FreshS W.heap.size (W.alloc (.cells #[.string (tx)] 9)) (.slice (some ⟨W.heap.size, 0, none⟩) 1 1) [tx] := fun W => freshS_lit rfl W [_] [_] _ rfl rfl (by simp) (fun i u v hu hv w => by
        match i, hu, hv with
        | 0, hu, hv => cases hu; cases hv; exact ⟨rfl, by omega⟩)
      have HJS := Lib.hid (show (joinT (((headW ⟨3, A, B, C, nm, tx, dr, da⟩) ++ [dirT dr]) ++ [tx]) ⟨#[32]⟩).size ≤ 140737488355328 from by
        have h := joinT_size (((headW ⟨3, A, B, C, nm, tx, dr, da⟩) ++ [dirT dr]) ++ [tx]) 1048577 (fun b hb => by
          rcases List.mem_append.1 hb with hb | hb
          · rcases List.mem_append.1 hb with hb | hb
            · exact HW.out b hb
            · rw [List.mem_singleton.1 hb]; omega
          · rw [List.mem_singleton.1 hb]; omega)
        have h2 := HWL.out
        unfold bl at h
        have h3 : (((headW ⟨3, A, B, C, nm, tx, dr, da⟩) ++ [dirT dr]) ++ [tx]).length ≤ 6 := by (try simp only [List.length_append, List.length_cons, List.length_nil]); omega
        have h4 : (((headW ⟨3, A, B, C, nm, tx, dr, da⟩) ++ [dirT dr]) ++ [tx]).length * (1048577 + 1) ≤ 6 * (1048577 + 1) := Nat.mul_le_mul_right _ h3
        omega)
      clear hT
      go_enter Tryd.func33, Tryd.ntmps33
      go_wp2_with fail
      refine (impl_OpOk _ [_, _, _, _, _, _, _, _] ⟨3, A, B, C, nm, tx, dr, da⟩ (Rep.mono HR.out (by repeat (first | (with_reducible exact Below.refl _ _) | (with_reducible assumption) | (with_reducible refine bel_alloc ?_ _) | ((with_reducible refine bel_set ?_ ?_ _); rotate_left; (focus first | (simp; done) | (simp; omega))))))).mono ?_
      rintro e W1 ⟨_, rfl, rfl, hb⟩
      rw [HOK.out]
      have HB1 := Lib.hid (bel_next (show Below w.heap.size w _ from (by repeat (first | (with_reducible exact Below.refl _ _) | (with_reducible assumption) | (with_reducible refine bel_alloc ?_ _) | ((with_reducible refine bel_set ?_ ?_ _); rotate_left; (focus first | (simp; done) | (simp; omega)))))) hb)
      have f0 : W1.cell? ⟨w.heap.size, 0, none⟩ = some (.int .i64 3) := (hb.cell (p := ⟨w.heap.size, 0, none⟩) (by simp)).trans (by simp)
      have f1 : W1.cell? ⟨w.heap.size, 1, none⟩ = some (.int .i64 A) := (hb.cell (p := ⟨w.heap.size, 1, none⟩) (by simp)).trans (by simp)
      have f2 : W1.cell? ⟨w.heap.size, 2, none⟩ = some (.int .i64 B) := (hb.cell (p := ⟨w.heap.size, 2, none⟩) (by simp)).trans (by simp)
      have f3 : W1.cell? ⟨w.heap.size, 3, none⟩ = some (.int .i64 C) := (hb.cell (p := ⟨w.heap.size, 3, none⟩) (by simp)).trans (by simp)
      have f4 : W1.cell? ⟨w.heap.size, 4, none⟩ = some (.string nm) := (hb.cell (p := ⟨w.heap.size, 4, none⟩) (by simp)).trans (by simp)
      have f5 : W1.cell? ⟨w.heap.size, 5, none⟩ = some (.string tx) := (hb.cell (p := ⟨w.heap.size, 5, none⟩) (by simp)).trans (by simp)
      have f6 : W1.cell? ⟨w.heap.size, 6, none⟩ = some (.string dr) := (hb.cell (p := ⟨w.heap.size, 6, none⟩) (by simp)).trans (by simp)
      have f7 : W1.cell? ⟨w.heap.size, 7, none⟩ = some (.slice a0 da.length p0) := (hb.cell (p := ⟨w.heap.size, 7, none⟩) (by simp)).trans (by simp)
      clear hb
      go_wp2_with fail
      refine (impl_opWords _ [_, _, _, _, _, _, _, _] ⟨3, A, B, C, nm, tx, dr, da⟩ (Rep.mono HR.out HB1.out) HOK.out (HT.out.mono HB1.out)).mono ?_
      rintro e W2 ⟨_, rfl, ⟨r0, rfl, hF⟩, hb⟩
      rw [HLN.out]
      have HB2 := Lib.hid (bel_next HB1.out hb)
      have HF := Lib.hid hF
      have hz1 := HB1.out.size
      have hz2 := hb.size
      have HBB := Lib.hid hb
      have g0 : W2.cell? ⟨w.heap.size, 0, none⟩ = some (.int .i64 3) := (hb.cell (p := ⟨w.heap.size, 0, none⟩) (World.block_lt_of_cell? _ _ f0)).trans f0
      have g1 : W2.cell? ⟨w.heap.size, 1, none⟩ = some (.int .i64 A) := (hb.cell (p := ⟨w.heap.size, 1, none⟩) (World.block_lt_of_cell? _ _ f1)).trans f1
      have g2 : W2.cell? ⟨w.heap.size, 2, none⟩ = some (.int .i64 B) := (hb.cell (p := ⟨w.heap.size, 2, none⟩) (World.block_lt_of_cell? _ _ f2)).trans f2
      have g3 : W2.cell? ⟨w.heap.size, 3, none⟩ = some (.int .i64 C) := (hb.cell (p := ⟨w.heap.size, 3, none⟩) (World.block_lt_of_cell? _ _ f3)).trans f3
      have g4 : W2.cell? ⟨w.heap.size, 4, none⟩ = some (.string nm) := (hb.cell (p := ⟨w.heap.size, 4, none⟩) (World.block_lt_of_cell? _ _ f4)).trans f4
      have g5 : W2.cell? ⟨w.heap.size, 5, none⟩ = some (.string tx) := (hb.cell (p := ⟨w.heap.size, 5, none⟩) (World.block_lt_of_cell? _ _ f5)).trans f5
      have g6 : W2.cell? ⟨w.heap.size, 6, none⟩ = some (.string dr) := (hb.cell (p := ⟨w.heap.size, 6, none⟩) (World.block_lt_of_cell? _ _ f6)).trans f6
      have g7 : W2.cell? ⟨w.heap.size, 7, none⟩ = some (.slice a0 da.length p0) := (hb.cell (p := ⟨w.heap.size, 7, none⟩) (World.block_lt_of_cell? _ _ f7)).trans f7
      clear hb hF
      go_wp2_with fail
      refine (impl_dirText _ _).mono ?_
      rintro e w' ⟨rfl, rfl⟩
      rw [HDK.out]
      go_wp2_with (first | (at_builtin; refine wpList_append_flat (α := ByteArray) rfl _ _ 37 rfl 9 (.string ByteArray.empty) 16 Tryd.underlying37 INFO.out rfl rfl (by decide) W1.heap.size (by first | (simp only [World.size_alloc]; omega) | omega) _ (headW ⟨3, A, B, C, nm, tx, dr, da⟩) rfl (HF.out.grow (bel_alloc (Below.refl _ _) _)) _ [dirT dr] rfl (HL3 _).repS (by have := HWL.out; (try simp only [List.length_append, List.length_cons, List.length_nil]); omega) (by have := HWL.out; (try simp only [List.length_append, List.length_cons, List.length_nil]); omega) ?_; intro v3 W3 hF3 hb3; have HF3 := Lib.hid hF3; have HB3 := Lib.hid ((bel_alloc HBB.out (.cells #[.string (dirT dr)] 9)).trans hb3); have hz3 := HB3.out.size; have y0 : W3.cell? ⟨w.heap.size, 0, none⟩ = some (.int .i64 3) := (HB3.out.cell (p := ⟨w.heap.size, 0, none⟩) (World.block_lt_of_cell? _ _ f0)).trans f0; have y1 : W3.cell? ⟨w.heap.size, 1, none⟩ = some (.int .i64 A) := (HB3.out.cell (p := ⟨w.heap.size, 1, none⟩) (World.block_lt_of_cell? _ _ f1)).trans f1; have y2 : W3.cell? ⟨w.heap.size, 2, none⟩ = some (.int .i64 B) := (HB3.out.cell (p := ⟨w.heap.size, 2, none⟩) (World.block_lt_of_cell? _ _ f2)).trans f2; have y3 : W3.cell? ⟨w.heap.size, 3, none⟩ = some (.int .i64 C) := (HB3.out.cell (p := ⟨w.heap.size, 3, none⟩) (World.block_lt_of_cell? _ _ f3)).trans f3; have y4 : W3.cell? ⟨w.heap.size, 4, none⟩ = some (.string nm) := (HB3.out.cell (p := ⟨w.heap.size, 4, none⟩) (World.block_lt_of_cell? _ _ f4)).trans f4; have y5 : W3.cell? ⟨w.heap.size, 5, none⟩ = some (.string tx) := (HB3.out.cell (p := ⟨w.heap.size, 5, none⟩) (World.block_lt_of_cell? _ _ f5)).trans f5; have y6 : W3.cell? ⟨w.heap.size, 6, none⟩ = some (.string dr) := (HB3.out.cell (p := ⟨w.heap.size, 6, none⟩) (World.block_lt_of_cell? _ _ f6)).trans f6; have y7 : W3.cell? ⟨w.heap.size, 7, none⟩ = some (.slice a0 da.length p0) := (HB3.out.cell (p := ⟨w.heap.size, 7, none⟩) (World.block_lt_of_cell? _ _ f7)).trans f7; clear hF3 hb3) | (at_builtin; refine wpList_append_flat (α := ByteArray) rfl _ _ 37 rfl 9 (.string ByteArray.empty) 16 Tryd.underlying37 INFO.out rfl rfl (by decide) W1.heap.size (by first | (simp only [World.size_alloc]; omega) | omega) _ ((headW ⟨3, A, B, C, nm, tx, dr, da⟩) ++ [dirT dr]) rfl (HF3.out.grow (bel_alloc (Below.refl _ _) _)) _ [tx] rfl (HL4 _).repS (by have := HWL.out; (try simp only [List.length_append, List.length_cons, List.length_nil]); omega) (by have := HWL.out; (try simp only [List.length_append, List.length_cons, List.length_nil]); omega) ?_; intro v4 W4 hF4 hb4; have HF4 := Lib.hid hF4; have HB4 := Lib.hid ((bel_alloc HB3.out (.cells #[.string (tx)] 9)).trans hb4); have hz4 := HB4.out.size; clear hF4 hb4))
      go_wp2_with (go_at_call 47; refine (strings_join _ _ (((headW ⟨3, A, B, C, nm, tx, dr, da⟩) ++ [dirT dr]) ++ [tx]) ⟨#[32]⟩ HF4.out.repS (by have := HWL.out; (try simp only [List.length_append, List.length_cons, List.length_nil]); omega) HJS.out).mono ?_; rintro e W5 ⟨_, rfl, rfl, hb⟩; have HB5 := Lib.hid (bel_next (HB1.out.trans (HB4.out.mono (by omega))) hb); clear hb)
      go_ret
      exact ⟨_, rfl, by show _ = Value.string _; rw [HN.out] <;> rfl, HB5.out⟩
  have dk1 : decide (kd = 1) = false := decide_eq_false hk1
  have ek1 : (kd == 1) = false := by simpa using hk1
  have dk2 : decide (kd = 2) = false := decide_eq_false hk2
  have ek2 : (kd == 2) = false := by simpa using hk2
  have dk3 : decide (kd = 3) = false := decide_eq_false hk3
  have ek3 : (kd == 3) = false := by simpa using hk3
  have hnd : hasDir ⟨kd, A, B, C, nm, tx, dr, da⟩ = false := by unfold hasDir; simp; omega
  have hno := opOkB_nodir hok hnd
  dsimp only at hno
  have HN := Lib.hid (show opText ⟨kd, A, B, C, nm, tx, dr, da⟩ = joinT (headW ⟨kd, A, B, C, nm, tx, dr, da⟩) ⟨#[32]⟩ from by
    rw [opText_yes' HOK.out HLN.out (dirOk_nil hno.2) (l := headW ⟨kd, A, B, C, nm, tx, dr, da⟩) (by simp [tailW, hnd])]; rfl)
  have HJS := Lib.hid (show (joinT (headW ⟨kd, A, B, C, nm, tx, dr, da⟩) ⟨#[32]⟩).size ≤ 140737488355328 from by
    have h := joinT_size (headW ⟨kd, A, B, C, nm, tx, dr, da⟩) 1048577 (fun b hb => HW.out b hb)
    have h2 := HWL.out
    unfold bl at h
    have h3 : (headW ⟨kd, A, B, C, nm, tx, dr, da⟩).length ≤ 6 := by (try simp only [List.length_append, List.length_cons, List.length_nil]); omega
    have h4 : (headW ⟨kd, A, B, C, nm, tx, dr, da⟩).length * (1048577 + 1) ≤ 6 * (1048577 + 1) := Nat.mul_le_mul_right _ h3
    omega)
  clear hno hnd hok hln hk1 hk2 hk3
  go_enter Tryd.func33, Tryd.ntmps33
  go_wp2_with fail
  refine (impl_OpOk _ [_, _, _, _, _, _, _, _] ⟨kd, A, B, C, nm, tx, dr, da⟩ (Rep.mono HR.out (by repeat (first | (with_reducible exact Below.refl _ _) | (with_reducible assumption) | (with_reducible refine bel_alloc ?_ _) | ((with_reducible refine bel_set ?_ ?_ _); rotate_left; (focus first | (simp; done) | (simp; omega))))))).mono ?_
  rintro e W1 ⟨_, rfl, rfl, hb⟩
  rw [HOK.out]
  have HB1 := Lib.hid (bel_next (show Below w.heap.size w _ from (by repeat (first | (with_reducible exact Below.refl _ _) | (with_reducible assumption) | (with_reducible refine bel_alloc ?_ _) | ((with_reducible refine bel_set ?_ ?_ _); rotate_left; (focus first | (simp; done) | (simp; omega)))))) hb)
  have f0 : W1.cell? ⟨w.heap.size, 0, none⟩ = some (.int .i64 kd) := (hb.cell (p := ⟨w.heap.size, 0, none⟩) (by simp)).trans (by simp)
  have f1 : W1.cell? ⟨w.heap.size, 1, none⟩ = some (.int .i64 A) := (hb.cell (p := ⟨w.heap.size, 1, none⟩) (by simp)).trans (by simp)
  have f2 : W1.cell? ⟨w.heap.size, 2, none⟩ = some (.int .i64 B) := (hb.cell (p := ⟨w.heap.size, 2, none⟩) (by simp)).trans (by simp)
  have f3 : W1.cell? ⟨w.heap.size, 3, none⟩ = some (.int .i64 C) := (hb.cell (p := ⟨w.heap.size, 3, none⟩) (by simp)).trans (by simp)
  have f4 : W1.cell? ⟨w.heap.size, 4, none⟩ = some (.string nm) := (hb.cell (p := ⟨w.heap.size, 4, none⟩) (by simp)).trans (by simp)
  have f5 : W1.cell? ⟨w.heap.size, 5, none⟩ = some (.string tx) := (hb.cell (p := ⟨w.heap.size, 5, none⟩) (by simp)).trans (by simp)
  have f6 : W1.cell? ⟨w.heap.size, 6, none⟩ = some (.string dr) := (hb.cell (p := ⟨w.heap.size, 6, none⟩) (by simp)).trans (by simp)
  have f7 : W1.cell? ⟨w.heap.size, 7, none⟩ = some (.slice a0 da.length p0) := (hb.cell (p := ⟨w.heap.size, 7, none⟩) (by simp)).trans (by simp)
  clear hb
  go_wp2_with fail
  refine (impl_opWords _ [_, _, _, _, _, _, _, _] ⟨kd, A, B, C, nm, tx, dr, da⟩ (Rep.mono HR.out HB1.out) HOK.out (HT.out.mono HB1.out)).mono ?_
  rintro e W2 ⟨_, rfl, ⟨r0, rfl, hF⟩, hb⟩
  rw [HLN.out]
  have HB2 := Lib.hid (bel_next HB1.out hb)
  have HF := Lib.hid hF
  have hz1 := HB1.out.size
  have hz2 := hb.size
  have HBB := Lib.hid hb
  have g0 : W2.cell? ⟨w.heap.size, 0, none⟩ = some (.int .i64 kd) := (hb.cell (p := ⟨w.heap.size, 0, none⟩) (World.block_lt_of_cell? _ _ f0)).trans f0
  have g1 : W2.cell? ⟨w.heap.size, 1, none⟩ = some (.int .i64 A) := (hb.cell (p := ⟨w.heap.size, 1, none⟩) (World.block_lt_of_cell? _ _ f1)).trans f1
  have g2 : W2.cell? ⟨w.heap.size, 2, none⟩ = some (.int .i64 B) := (hb.cell (p := ⟨w.heap.size, 2, none⟩) (World.block_lt_of_cell? _ _ f2)).trans f2
  have g3 : W2.cell? ⟨w.heap.size, 3, none⟩ = some (.int .i64 C) := (hb.cell (p := ⟨w.heap.size, 3, none⟩) (World.block_lt_of_cell? _ _ f3)).trans f3
  have g4 : W2.cell? ⟨w.heap.size, 4, none⟩ = some (.string nm) := (hb.cell (p := ⟨w.heap.size, 4, none⟩) (World.block_lt_of_cell? _ _ f4)).trans f4
  have g5 : W2.cell? ⟨w.heap.size, 5, none⟩ = some (.string tx) := (hb.cell (p := ⟨w.heap.size, 5, none⟩) (World.block_lt_of_cell? _ _ f5)).trans f5
  have g6 : W2.cell? ⟨w.heap.size, 6, none⟩ = some (.string dr) := (hb.cell (p := ⟨w.heap.size, 6, none⟩) (World.block_lt_of_cell? _ _ f6)).trans f6
  have g7 : W2.cell? ⟨w.heap.size, 7, none⟩ = some (.slice a0 da.length p0) := (hb.cell (p := ⟨w.heap.size, 7, none⟩) (World.block_lt_of_cell? _ _ f7)).trans f7
  clear hb hF
  go_wp2_with (go_at_call 47; refine (strings_join _ _ (headW ⟨kd, A, B, C, nm, tx, dr, da⟩) ⟨#[32]⟩ HF.out.repS (by have := HWL.out; (try simp only [List.length_append, List.length_cons, List.length_nil]); omega) HJS.out).mono ?_; rintro e W5 ⟨_, rfl, rfl, hb⟩; have HB5 := Lib.hid (bel_next HB2.out hb); clear hb)
  go_ret
  exact ⟨_, rfl, by show _ = Value.string _; rw [HN.out] <;> rfl, HB5.out⟩
end Go.Proofs.YtjglknaojfnllaaDoor
