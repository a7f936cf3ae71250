/- The walk of the reference's TableEnd. -/
import Derived.Test.YtnidoeapoknhdaaEndLaw
import Derived.Test.YtnidoeapoknhdaaFnTableDown
set_option linter.unusedSimpArgs false
set_option linter.unusedVariables false
namespace Go.Proofs.Ytnidoeapoknhdaa
open Go.RowKit Go.Mux
set_option maxRecDepth 100000 in
set_option maxHeartbeats 1000000 in
theorem spec_TableEnd' (w : World) (cs : List Value) (x : DTable) (n : Int) (h : Rep.rep w cs x) (hsz : x.bulk ≤ 1048576) : Calls Try.prog 32 #[.agg cs.toArray, .int .i64 n] w (Gives w fun r w' => ∃ cs', r = .tuple #[.agg cs'.toArray, .int .i64 (tableEnd x n).2] ∧ Fresh w.heap.size w' cs' (tableEnd x n).1) := by
  have HP := Lib.hid h
  have HS := Lib.hid hsz
  have HI := Lib.hid (show I64 x.Next from by obtain ⟨_, _, _, hi, _⟩ := DTable.rep_iff.1 h; exact hi)
  obtain ⟨p0, m0, q0, p1, m1, q1, rfl⟩ : ∃ p0 m0 q0 p1 m1 q1, cs = [.int .i64 x.Next, .slice p0 m0 q0, .slice p1 m1 q1] := by
    obtain ⟨a, b, c, d, e, f, h⟩ := DTable.shape h
    exact ⟨_, _, _, _, _, _, h⟩
  clear h hsz
  have hlt1 : w.heap.size < w.heap.size + 1 := by omega
  cases ht : tableOk x
  all_goals
    have HT := Lib.hid ht
    clear ht
    go_enter Try.func32, Try.ntmps32
    go_wp2_with fail
    refine (spec_TableOk _ [_, _, _] x (Rep.mono HP.out (by repeat (first | (with_reducible exact Below.refl _ _) | (with_reducible assumption) | (with_reducible refine bel_alloc ?_ _) | ((with_reducible refine bel_set ?_ ?_ _); rotate_left; (focus first | (simp; done) | (simp; omega)))))) HS.out).mono ?_
    rintro e W1 ⟨_, rfl, rfl, hb⟩
    rw [HT.out]
    have HB1 := Lib.hid (bel_next (show Below w.heap.size w _ from (by repeat (first | (with_reducible exact Below.refl _ _) | (with_reducible assumption) | (with_reducible refine bel_alloc ?_ _) | ((with_reducible refine bel_set ?_ ?_ _); rotate_left; (focus first | (simp; done) | (simp; omega)))))) hb)
    have cA1 := fun o => hb.cell (p := ⟨w.heap.size, o, none⟩) (by simp only [World.size_alloc]; omega)
    have cR1 := fun o => hb.cell (p := ⟨w.heap.size + 1, o, none⟩) (by simp only [World.size_alloc]; omega)
    have fR1 := fun o => hb.frozen (p := ⟨w.heap.size + 1, o, none⟩) (by simp only [World.size_alloc]; omega)
    have hz1 := hb.size
    simp only [World.size_alloc] at hz1
    have hx1 : w.heap.size + 1 < W1.heap.size := by omega
    have hw1 : w.heap.size < W1.heap.size := by omega
    clear hb
    go_wp2_with fail
  · refine bodyPost_ret (v := .tuple #[.agg #[.int .i64 0, .slice none 0 0, .slice none 0 0], .int .i64 0]) (by simp [results, Try.results32, go_sem, cR1, fR1, hx1, hw1]) rfl ⟨_, rfl, ⟨[_, _, _], (by have e : (tableEnd x n).2 = 0 := (by unfold tableEnd; simp [HT.out]); rw [e]), ?_⟩, (by have hB := HB1.out; repeat (first | (with_reducible assumption) | ((with_reducible refine bel_set ?_ ?_ _); rotate_left; (focus first | (simp; done) | (simp; omega)))))⟩
    have e : (tableEnd x n).1 = ⟨0, [], []⟩ := by unfold tableEnd; simp [HT.out]
    rw [e]
    exact ⟨[], DTable.zero _, by simp, by simp⟩
  · refine (spec_l21Copy _ [_, _, _] x (Rep.mono HP.out HB1.out) HS.out).mono ?_
    rintro e W2 ⟨_, rfl, ⟨cs2, rfl, HF⟩, hb⟩
    obtain ⟨s0, t0, u0, s1, t1, u1, rfl⟩ : ∃ p0 m0 q0 p1 m1 q1, cs2 = [.int .i64 x.Next, .slice p0 m0 q0, .slice p1 m1 q1] := by
      obtain ⟨a, b, c, d, e, f, h⟩ := DTable.shape HF.rep
      exact ⟨_, _, _, _, _, _, h⟩
    have HF1 := Lib.hid (DTable.asked HF.frIn)
    have HB2 := Lib.hid (bel_next HB1.out hb)
    have cR2 := fun o => hb.cell (p := ⟨w.heap.size + 1, o, none⟩) hx1
    have fR2 := fun o => hb.frozen (p := ⟨w.heap.size + 1, o, none⟩) hx1
    have hz2 := hb.size
    have hx2 : w.heap.size + 1 < W2.heap.size := by omega
    have hw2 : w.heap.size < W2.heap.size := by omega
    have cA2 := fun o => hb.cell (p := ⟨w.heap.size, o, none⟩) hw1
    clear hb HF
    have hlen := (DTable.lens HS.out).1
    have HIN := HI
    obtain ⟨v0', v1', e', _, hl', _⟩ := DTable.rep_iff.1 HP.out
    simp only [List.cons.injEq, and_true, true_and] at e'
    obtain ⟨rfl, rfl⟩ := e'
    obtain ⟨a', cap', e'', hl'', hc''⟩ := hl'
    cases e''
    have HC := Lib.hid hc''
    clear hc'' hl''
    have HE := Lib.hid (tableEnd_eq n HT.out)
    go_wp2_with fail
    go_loopw [7, 20] (fun pv i wr => ∃ (k : Nat) (v : Value) (fp : List Nat), k ≤ x.Live.length ∧ i = .int .i64 k ∧ pv = .int .i64 (endPane n (x.Live.take k)) ∧ wr.cell? ⟨W2.heap.size, 0, none⟩ = some (.int .i64 x.Next) ∧ wr.cell? ⟨W2.heap.size, 1, none⟩ = some v ∧ wr.cell? ⟨W2.heap.size, 2, none⟩ = some (.slice s1 t1 u1) ∧ (∀ o, wr.frozen? ⟨W2.heap.size, o, none⟩ = false) ∧ Hid (OwnS wr v (endRows n (x.Live.take k)) fp ∧ fp.Nodup ∧ ∀ b ∈ fp, W2.heap.size < b) ∧ Hid (W2.heap.size < wr.heap.size ∧ Below W2.heap.size W2 wr)) (fun _ i _ => x.Live.length - (intOf i).toNat)
    case atStart => exact ⟨0, .slice none 0 0, [], Nat.zero_le _, rfl, by rw [List.take_zero, endPane_nil], by simp, by simp, by simp, fun o => by simp, ⟨by rw [List.take_zero, endRows_nil]; exact OwnS.nil _, by simp, by simp⟩, ⟨by simp, bel_alloc (Below.refl _ _) _⟩⟩
    case round =>
      obtain ⟨k, v, fp, hk, rfl, rfl, g0, g1, g2, gf, HO, HB0'⟩ := hrel
      have HB := Lib.hid (bel_next HB2.out HB0'.out.2)
      have hzr := HB0'.out.1
      obtain ⟨a3, n3, c3, rfl⟩ := HO.out.1.repS.shape
      have hne3 : W2.heap.size ≠ wr.heap.size := by omega
      have hnf3 : wr.heap.size ≠ W2.heap.size := by omega
      by_cases hlt : k < x.Live.length
      · have hB0 := HB.out
        have hne : x.Live ≠ [] := by intro e; rw [e] at hlt; simp at hlt
        obtain ⟨b, off, rfl, hc⟩ := HC.out hne
        obtain ⟨p, hx⟩ : ∃ p, x.Live[k]? = some p := ⟨x.Live[k], by simp [hlt]⟩
        obtain ⟨rr, hrep, hcell⟩ := hc k p hx
        have HI := Lib.hid (show (Try.prog.info? 85).map (·.size) = some rr.length by rw [Rep.len hrep]; exact size_implProc)
        have HL := Lib.hid (show ∀ (j : Nat) u, rr[j]? = some u → wr.cell? ⟨b, off + k * 2 + j, none⟩ = some u from fun j u hu => (hB0.cell (p := ⟨b, _, none⟩) (World.block_lt_of_cell? w _ (hcell j u hu))).trans (hcell j u hu))
        have HR := Lib.hid hrep
        have HX := Lib.hid hx
        obtain rfl := DProc.shape hrep
        clear hc hcell hrep hne hx
        clear hB0
        cases hp : (p.Pid == n)
        · have HPN := Lib.hid (end_other HX.out hp)
          have HPE := Lib.hid hp
          have HW := Lib.hid (show Below (W2.heap.size + 1) wr ((wr.alloc (.cells #[.int .i64 p.Pid, .int .i64 p.Pane] 85)).alloc (.cells #[.int .i64 p.Pid, .int .i64 p.Pane] 85)) from Below.mono (by simpa using bel_alloc (bel_alloc (Below.refl wr.heap.size wr) _) _) (by omega))
          have HA := Lib.hid (HO.out.1.grow (show Below wr.heap.size wr ((wr.alloc (.cells #[.int .i64 p.Pid, .int .i64 p.Pane] 85)).alloc (.cells #[.int .i64 p.Pid, .int .i64 p.Pane] 85)) from bel_alloc (bel_alloc (Below.refl _ _) _) _))
          have HRP := Lib.hid (Flat.own (Rep.mono HR.out (bel_alloc (bel_alloc HB.out (.cells #[.int .i64 p.Pid, .int .i64 p.Pane] 85)) (.cells #[.int .i64 p.Pid, .int .i64 p.Pane] 85))))
          have hll : (endRows n (x.Live.take k)).length ≤ 1048576 := by unfold endRows; exact Nat.le_trans (List.length_filter_le _ _) (by simp; omega)
          go_wp2_with (first | (with_reducible (show wpList _ _ _ (Oper.mk _ (Op.load 85 _) _ _ _ _ :: _) _ _); refine wpList_load_agg rfl 85 _ rfl b _ rfl _ _ HL.out Try.underlying85 HI.out ?_) | (at_builtin; refine wpList_append_rep (α := DProc) rfl _ _ 50 rfl 85 _ _ Try.underlying50 info_implProc rfl rfl (of_decide_eq_true (by kernel_rfl)) (.slice a3 n3 c3) _ fp rfl HA.out _ 1 1 rfl [p] rfl [[.int .i64 p.Pid, .int .i64 p.Pane]] [[]] (Rows.one HRP.out) (by simpa using HO.out.2.1) (fun _ => ⟨_, 0, rfl, row_new _ _ _ (by simp)⟩) (fun _ => .inr trivial) (by simp; omega) (by simp; omega) ?_; intro v' w' fp' HO' HN' HF' HG HOB; have HB' := Lib.hid (Below.grown HW.out HG (by simp; omega) (fun g hg => HO.out.2.2 g (HOB g hg))); have HO2 := Lib.hid (show OwnS w' v' (endRows n (x.Live.take (k + 1))) fp' ∧ fp'.Nodup ∧ ∀ b ∈ fp', W2.heap.size < b from ⟨by rw [HPN.out.1]; exact HO', HN', fun b hb => (HF' b hb).elim (HO.out.2.2 b) (fun h => h.elim (by simp) (fun h => by rw [h]; simp; omega))⟩); obtain ⟨a4, n4, c4, rfl⟩ := HO'.repS.shape; have hz4 := HG.size; simp only [World.size_alloc] at hz4; have cT := fun o => HB'.out.cell (p := ⟨W2.heap.size, o, none⟩) (by simp); have fT := fun o => HB'.out.frozen (p := ⟨W2.heap.size, o, none⟩) (by simp); have hz5 : W2.heap.size < w'.heap.size := (by omega); clear HO' HN' HF' HG HOB))
          go_roundw
          case rel => exact ⟨k + 1, .slice a4 n4 c4, fp', by omega, by go_num, by rw [HPN.out.2], by simp [go_sem, cT, g0], by simp [go_sem, cT, g1, hz5], by simp [go_sem, cT, g2], fun o => by simp [go_sem, fT, gf], ⟨HO2.out.1.mono (fun b hb => heap_setCell_other _ _ _ _ (by have := HO2.out.2.2 b hb; show b ≠ W2.heap.size; omega)), HO2.out.2⟩, ⟨by simpa using hz5, bel_set (bel_upto HB0'.out.2 HB'.out (Nat.le_succ _)) (Nat.le_refl _) _⟩⟩
          case measure => simp [intOf]; omega
        · have HPN := Lib.hid (end_this HX.out hp)
          have HPE := Lib.hid hp
          go_wp2_with (with_reducible (show wpList _ _ _ (Oper.mk _ (Op.load 85 _) _ _ _ _ :: _) _ _); refine wpList_load_agg rfl 85 _ rfl b _ rfl _ _ HL.out Try.underlying85 HI.out ?_)
          go_roundw
          case rel => exact ⟨k + 1, .slice a3 n3 c3, fp, by omega, by go_num, by rw [HPN.out.2], by simp [World.cell?_alloc_lt, hzr, g0], by first | (simp [World.cell?_alloc_lt, hzr, g1]; done) | (simp [World.cell?_alloc_lt, hzr]; exact g1), by simp [World.cell?_alloc_lt, hzr, g2], fun o => by simp [World.frozen?_alloc_past, hzr, gf], ⟨by rw [HPN.out.1]; exact HO.out.1.grow (bel_alloc (Below.refl _ _) _), HO.out.2⟩, ⟨by simp; omega, bel_next HB0'.out.2 (bel_alloc (Below.refl _ _) _)⟩⟩
          case measure => simp [intOf]; omega
      · obtain rfl : k = x.Live.length := by omega
        have hx3 : w.heap.size + 1 < wr.heap.size := by omega
        have cR4 := fun o => HB0'.out.2.cell (p := ⟨w.heap.size + 1, o, none⟩) hx2
        have fR4 := fun o => HB0'.out.2.frozen (p := ⟨w.heap.size + 1, o, none⟩) hx2
        go_wp2_with fail
        rw [List.take_length]
        have hO := HO.out
        rw [List.take_length] at hO
        refine bodyPost_ret (v := .tuple #[.agg #[.int .i64 x.Next, .slice a3 n3 c3, .slice s1 t1 u1], .int .i64 (endPane n x.Live)]) (by simp [results, Try.results32, go_sem, cR4, cR2, cR1, fR4, fR2, fR1, hx1, hx2, hw1, hw2, hzr, hx3]) rfl ⟨_, rfl, ⟨[_, _, _], (by rw [HE.out]), ?_⟩, ?_⟩
        · rw [HE.out]
          obtain ⟨fq, ⟨vq, eq, hoA⟩, hnA, hbA⟩ := FrIn.below HB0'.out.2 HF1.out
          cases eq
          refine ⟨fp ++ fq, Rep.ownMono (w := wr) (DTable.own_iff.2 ⟨_, _, fp, fq, rfl, HIN.out, hO.1, hoA, rfl⟩) (fun b hb => ?_), List.nodup_append.2 ⟨hO.2.1, hnA, fun a ha b hb e => by have h1 := hO.2.2 a ha; have h2 := (hbA b hb).2; omega⟩, fun b hb => ?_⟩
          · have h1 : w.heap.size + 1 < b := (List.mem_append.1 hb).elim (fun h => by have := hO.2.2 b h; omega) (fun h => by have := (hbA b h).1; omega)
            rw [heap_setCell_other _ _ _ _ (by show _ ≠ _; simp; omega), heap_setCell_other _ _ _ _ (by show _ ≠ _; simp; omega), heap_setCell_other _ _ _ _ (by show _ ≠ _; simp; omega)]
          · exact (List.mem_append.1 hb).elim (fun h => by have := hO.2.2 b h; omega) (fun h => by have := (hbA b h).1; omega)
        · have hB := HB.out
          repeat (first | (with_reducible assumption) | (with_reducible refine bel_alloc ?_ _) | ((with_reducible refine bel_set ?_ ?_ _); rotate_left; (focus first | (simp; done) | (simp; omega) | omega)))
end Go.Proofs.Ytnidoeapoknhdaa
