/- The walks of TableOk, the program's and the reference's. -/
import Derived.Test.YtnidoeapoknhdaaFnTable
import Derived.Test.YtnidoeapoknhdaaExt
import Derived.Test.YtnidoeapoknhdaaApp
set_option linter.unusedSimpArgs false
set_option linter.unusedVariables false
namespace Go.Mux
open Go.RowKit
@[irreducible] def hasPane (l : List DProc) (k : Nat) (n : Int) : Bool := hasInt ((l.take k).map (·.Pane)) n
/-- Does the process p at place k break a table? c: the greatest number that it may bear. -/
@[irreducible] def rowBad (l : List DProc) (c : Int) (k : Nat) (p : DProc) : Bool :=
  !withinB p.Pid 1 c || (decide (0 < k) && (match l[k - 1]? with | some q => decide (p.Pid ≤ q.Pid) | none => false)) || !isIdB p.Pane || hasPane l k p.Pane
@[irreducible] def tableOk (x : DTable) : Bool := isIdB x.Next && (List.range x.Live.length).all fun k => match x.Live[k]? with | some p => !rowBad x.Live (x.Next - 1) k p | none => true
theorem tableOk_no {x : DTable} {c : Int} (hc : isIdB x.Next = true → c = x.Next - 1) {k : Nat} {p : DProc} (hx : x.Live[k]? = some p) (h : rowBad x.Live c k p = true) : tableOk x = false := by
  unfold tableOk
  cases hi : isIdB x.Next
  · simp
  · rw [hc hi] at h
    rw [Bool.true_and, List.all_eq_false]
    have hk : k < x.Live.length := by rw [List.getElem?_eq_some_iff] at hx; exact hx.1
    exact ⟨k, List.mem_range.2 hk, by simp only [hx]; simp [h]⟩
theorem tableOk_yes {x : DTable} {c : Int} (hc : isIdB x.Next = true → c = x.Next - 1) (h : ∀ k p, k < x.Live.length → x.Live[k]? = some p → rowBad x.Live c k p = false) : tableOk x = isIdB x.Next := by
  unfold tableOk
  cases hi : isIdB x.Next
  · simp
  · rw [Bool.true_and, List.all_eq_true]
    intro k hk
    have hk' := List.mem_range.1 hk
    rw [List.getElem?_eq_getElem hk']
    have := h k x.Live[k] hk' (by simp [hk'])
    rw [hc hi] at this
    simp [this]
theorem isIdB_true {n : Int} (h : isIdB n = true) : 1 ≤ n ∧ n ≤ 1000000 := by unfold isIdB at h; exact withinB_true.1 h
theorem wrap_next {n : Int} (h : isIdB n = true) : wrap64 (n - 1) = n - 1 := by
  have := isIdB_true h
  exact IntWalk.wrap64_in _ (by omega)
theorem rows_snoc {l : List DProc} {c : Int} {k : Nat} {p : DProc} (h : ∀ j q, j < k → l[j]? = some q → rowBad l c j q = false) (hx : l[k]? = some p) (hp : rowBad l c k p = false) : Hid (∀ j q, j < k + 1 → l[j]? = some q → rowBad l c j q = false) := by
  intro j q hj hq
  rcases Nat.lt_succ_iff_lt_or_eq.1 hj with h1 | rfl
  · exact h j q h1 hq
  · rw [hx] at hq; cases hq; exact hp
/-- Where the first process of a pane stands. -/
theorem procOf_first {l : List DProc} {k : Nat} {p : DProc} (hx : l[k]? = some p) : (procOfI l p.Pane != (k : Int)) = hasPane l k p.Pane := by
  have hk : k < l.length := by rw [List.getElem?_eq_some_iff] at hx; exact hx.1
  unfold hasPane
  cases hh : hasInt ((l.take k).map (·.Pane)) p.Pane
  · have : procOfI l p.Pane = (k : Int) := by
      refine idxOf_found (x := p) (fun y hy => ?_) hx (by unfold paneIsB; simp)
      unfold hasInt at hh
      rw [List.any_eq_false] at hh
      have := hh y.Pane (List.mem_map.2 ⟨y, hy, rfl⟩)
      unfold paneIsB
      simpa using this
    simp [this]
  · unfold hasInt at hh
    rw [List.any_eq_true] at hh
    obtain ⟨n, hn, he⟩ := hh
    obtain ⟨y, hy, rfl⟩ := List.mem_map.1 hn
    obtain ⟨j, hj, rfl⟩ := List.mem_iff_getElem.1 hy
    have hj' : j < k := by simp at hj; omega
    simp only [bne_iff_ne, ne_eq]
    intro hc
    unfold procOfI idxOf at hc
    cases hf : l.findIdx? (paneIsB p.Pane) with
    | none => rw [hf] at hc; simp at hc
    | some i =>
      rw [hf] at hc
      obtain rfl : i = k := by have : (i : Int) = (k : Int) := hc; omega
      rw [List.findIdx?_eq_some_iff_getElem] at hf
      obtain ⟨_, _, h3⟩ := hf
      have := h3 j hj'
      unfold paneIsB at this
      simp at this he
      exact this he
end Go.Mux
namespace Go.Proofs.Ytnidoeapoknhdaa
open Go.RowKit Go.Mux
theorem info_int : (Try.prog.info? 3).map (fun i => (i.zero, i.size, i.bytes)) = some (some (.int .i64 0), 1, 8) := by kernel_rfl
set_option maxRecDepth 100000 in
set_option maxHeartbeats 4000000 in
theorem impl_TableOk (w : World) (cs : List Value) (x : DTable) (h : Rep.rep w cs x) : Calls Try.prog 22 #[.agg cs.toArray] w (Says w (tableOk x)) := by
  have HT := Lib.hid h
  obtain ⟨v0, v1, rfl, h0, h1, h2⟩ := DTable.rep_iff.1 h
  clear h
  obtain ⟨a1, n1, c1, rfl⟩ := h2.shape
  obtain ⟨a, cap, rfl, hl, hc⟩ := h1
  have HC := Lib.hid hc
  clear hc h0 h2
  go_enter Try.func22, Try.ntmps22
  go_wp2
  go_loopw [8] (fun i wr => ∃ k : Nat, k ≤ x.Live.length ∧ i = .int .i64 k ∧ Hid (∀ j q, j < k → x.Live[j]? = some q → rowBad x.Live (wrap64 (x.Next - 1)) j q = false) ∧ Hid (Below (w.heap.size + 1) (w.alloc (.cells #[.int .i64 x.Next, .slice a x.Live.length cap, .slice a1 n1 c1] 53)) wr)) (fun i _ => x.Live.length - (intOf i).toNat)
  case atStart => exact ⟨0, Nat.zero_le _, rfl, by intro j q hj; omega, Below.refl _ _⟩
  case round =>
    obtain ⟨k, hk, rfl, HN, HB0'⟩ := hrel
    have HB0 := Lib.hid (show Below (w.alloc (.cells #[.int .i64 x.Next, .slice a x.Live.length cap, .slice a1 n1 c1] 53)).heap.size _ wr from by simpa using HB0'.out)
    have HB := Lib.hid ((bel_alloc (Below.refl w.heap.size w) _).trans (HB0'.out.mono (by omega)))
    clear HB0'
    by_cases hlt : k < x.Live.length
    · have HCC := HC
      have hB0 := HB.out
      have hne : x.Live ≠ [] := by intro e; rw [e] at hlt; simp at hlt
      obtain ⟨b, off, rfl, hc⟩ := HC.out hne
      obtain ⟨p, hx⟩ : ∃ p, x.Live[k]? = some p := ⟨x.Live[k], by simp [hlt]⟩
      obtain ⟨rr, hrep, hcell⟩ := hc k p hx
      have HI := Lib.hid (show (Try.prog.info? 85).map (·.size) = some rr.length by rw [Rep.len hrep]; exact size_implProc)
      have HL := Lib.hid (show ∀ (j : Nat) u, rr[j]? = some u → wr.cell? ⟨b, off + k * 2 + j, none⟩ = some u from fun j u hu => (hB0.cell (p := ⟨b, _, none⟩) (World.block_lt_of_cell? w _ (hcell j u hu))).trans (hcell j u hu))
      have HR := Lib.hid hrep
      have HX := Lib.hid hx
      obtain rfl := DProc.shape hrep
      clear hc hcell hrep hne hx
      clear hB0
      have HCC : Hid (∀ (i : Nat) y, x.Live[i]? = some y → ∃ r, Rep.rep w r y ∧ ∀ (j : Nat) u, r[j]? = some u → w.cell? ⟨b, off + i * 2 + j, none⟩ = some u) := by
        obtain ⟨b', off', e, h⟩ := HCC.out (by intro e; rw [e] at hlt; simp at hlt)
        cases e
        exact h
      have q0 : wr.cell? ⟨w.heap.size, 0, none⟩ = some (.int .i64 x.Next) := (HB0.out.cell (p := ⟨_, _, none⟩) (by simp)).trans (by simp)
      have q1 : wr.cell? ⟨w.heap.size, 1, none⟩ = some (.slice (some ⟨b, off, none⟩) x.Live.length cap) := (HB0.out.cell (p := ⟨_, _, none⟩) (by simp)).trans (by simp)
      have q2 : wr.cell? ⟨w.heap.size, 2, none⟩ = some (.slice a1 n1 c1) := (HB0.out.cell (p := ⟨_, _, none⟩) (by simp)).trans (by simp)
      have e0 := ext_cell_alloc (.cells #[.int .i64 p.Pid, .int .i64 p.Pane] 85) q0
      have e1 := ext_cell_alloc (.cells #[.int .i64 p.Pid, .int .i64 p.Pane] 85) q1
      have e2 := ext_cell_alloc (.cells #[.int .i64 p.Pid, .int .i64 p.Pane] 85) q2
      have e3 := ext_cell (W := wr.alloc (.cells #[.int .i64 p.Pid, .int .i64 p.Pane] 85)) (b := wr.heap.size) (o := 0) (v := .int .i64 p.Pid) (by simp)
      have e4 := ext_cell (W := wr.alloc (.cells #[.int .i64 p.Pid, .int .i64 p.Pane] 85)) (b := wr.heap.size) (o := 1) (v := .int .i64 p.Pane) (by simp)
      clear q0 q1 q2
      have HQ := Lib.hid (show ∀ W (e : Ext W), Below w.heap.size w W → Calls Try.prog 50 #[.agg #[.int .i64 x.Next, .slice (some ⟨b, off, none⟩) x.Live.length cap, .slice a1 n1 c1], .int .i64 p.Pane] e.w (Gives e.w fun r _ => r = .int .i64 (procOfI x.Live p.Pane)) from fun W e hb => impl_Table_procOf e.w [_, _, _] x p.Pane (Rep.mono HT.out (bel_next hb e.bel)))
      cases t1 : withinB p.Pid 1 (wrap64 (x.Next - 1))
      case false =>
        have TW := Lib.hid (show ∀ W, Calls Try.prog 48 #[.int .i64 p.Pid, .int .i64 1, .int .i64 (wrap64 (x.Next - 1))] W (Pure W (.bool false)) from fun W => by rw [← t1]; exact impl_within W _ _ _)
        have T1 := Lib.hid t1
        clear t1
        go_wp2_with (with_reducible (show wpList _ _ _ (Oper.mk _ (Op.load 85 _) _ _ _ _ :: _) _ _); refine wpList_load_agg rfl 85 _ rfl b _ rfl _ _ HL.out Try.underlying85 HI.out ?_)
        refine wp_region_ext (by kernel_rfl) (by kernel_rfl) ?_
        repeat (go_big_quiet_step ((first | (go_at_call 48; exact ext_pure (TW.out _)) | (go_at_call 49; exact ext_pure (TI.out _)) | (go_at_call 50; exact ext_gives (HQ.out _ _ (bel_alloc HB.out _))))))
        refine wpQuiet_nil ?_
        intro _ hw'
        obtain ⟨eW, rfl⟩ := hw'
        go_wp2
        go_ret
        exact says_ret (tableOk_no (c := wrap64 (x.Next - 1)) wrap_next HX.out (by unfold rowBad; simp [T1.out])).symm (bel_next (bel_alloc HB.out _) eW.bel)
      case true =>
        have TW := Lib.hid (show ∀ W, Calls Try.prog 48 #[.int .i64 p.Pid, .int .i64 1, .int .i64 (wrap64 (x.Next - 1))] W (Pure W (.bool true)) from fun W => by rw [← t1]; exact impl_within W _ _ _)
        have T1 := Lib.hid t1
        clear t1
        by_cases hk0 : 0 < k
        case neg =>
          have hd : decide ((0 : Int) < (k : Int)) = false := decide_eq_false (by omega)
          have HK := Lib.hid (show decide (0 < k) = false from decide_eq_false hk0)
          cases t3 : isIdB p.Pane
          case false =>
            have TI := Lib.hid (show ∀ W, Calls Try.prog 49 #[.int .i64 p.Pane] W (Pure W (.bool false)) from fun W => by rw [← t3]; exact impl_isId W _)
            have T3 := Lib.hid t3
            clear t3
            go_wp2_with (with_reducible (show wpList _ _ _ (Oper.mk _ (Op.load 85 _) _ _ _ _ :: _) _ _); refine wpList_load_agg rfl 85 _ rfl b _ rfl _ _ HL.out Try.underlying85 HI.out ?_)
            refine wp_region_ext (by kernel_rfl) (by kernel_rfl) ?_
            repeat (go_big_quiet_step ((first | (go_at_call 48; exact ext_pure (TW.out _)) | (go_at_call 49; exact ext_pure (TI.out _)) | (go_at_call 50; exact ext_gives (HQ.out _ _ (bel_alloc HB.out _))))))
            refine wpQuiet_nil ?_
            intro _ hw'
            obtain ⟨eW, rfl⟩ := hw'
            go_wp2
            go_ret
            exact says_ret (tableOk_no (c := wrap64 (x.Next - 1)) wrap_next HX.out (by unfold rowBad; simp [HK.out, T3.out])).symm (bel_next (bel_alloc HB.out _) eW.bel)
          case true =>
            have TI := Lib.hid (show ∀ W, Calls Try.prog 49 #[.int .i64 p.Pane] W (Pure W (.bool true)) from fun W => by rw [← t3]; exact impl_isId W _)
            have T3 := Lib.hid t3
            clear t3
            have hpf := procOf_first HX.out
            cases t4 : (procOfI x.Live p.Pane != (k : Int))
            all_goals
              rw [t4] at hpf
              have HPF := Lib.hid hpf
              clear hpf
            case true =>
              go_wp2_with (with_reducible (show wpList _ _ _ (Oper.mk _ (Op.load 85 _) _ _ _ _ :: _) _ _); refine wpList_load_agg rfl 85 _ rfl b _ rfl _ _ HL.out Try.underlying85 HI.out ?_)
              refine wp_region_ext (by kernel_rfl) (by kernel_rfl) ?_
              repeat (go_big_quiet_step ((first | (go_at_call 48; exact ext_pure (TW.out _)) | (go_at_call 49; exact ext_pure (TI.out _)) | (go_at_call 50; exact ext_gives (HQ.out _ _ (bel_alloc HB.out _))))))
              refine wpQuiet_nil ?_
              intro _ hw'
              obtain ⟨eW, rfl⟩ := hw'
              go_wp2
              go_ret
              exact says_ret (tableOk_no (c := wrap64 (x.Next - 1)) wrap_next HX.out (by unfold rowBad; simp [HK.out, ← HPF.out])).symm (bel_next (bel_alloc HB.out _) eW.bel)
            case false =>
              go_wp2_with (with_reducible (show wpList _ _ _ (Oper.mk _ (Op.load 85 _) _ _ _ _ :: _) _ _); refine wpList_load_agg rfl 85 _ rfl b _ rfl _ _ HL.out Try.underlying85 HI.out ?_)
              refine wp_region_ext (by kernel_rfl) (by kernel_rfl) ?_
              repeat (go_big_quiet_step ((first | (go_at_call 48; exact ext_pure (TW.out _)) | (go_at_call 49; exact ext_pure (TI.out _)) | (go_at_call 50; exact ext_gives (HQ.out _ _ (bel_alloc HB.out _))))))
              refine wpQuiet_nil ?_
              intro _ hw'
              obtain ⟨eW, rfl⟩ := hw'
              go_wp2
              go_roundw
              case rel => exact ⟨k + 1, by omega, by go_num, rows_snoc HN.out HX.out (by unfold rowBad; simp [HK.out, T1.out, T3.out, ← HPF.out]), (show Below (w.heap.size + 1) _ _ from by simpa using bel_next (bel_alloc HB0.out _) eW.bel)⟩
              case measure => simp [intOf]; omega
        case pos =>
          have HK := Lib.hid (show decide (0 < k) = true from decide_eq_true hk0)
          obtain ⟨q, hq⟩ : ∃ q, x.Live[k - 1]? = some q := ⟨x.Live[k - 1], by simp [show k - 1 < x.Live.length from by omega]⟩
          obtain ⟨rq, hrq, hcq⟩ := HCC.out (k - 1) q hq
          obtain rfl := DProc.shape hrq
          have cq := hcq 0 (.int .i64 q.Pid) rfl
          have cq' := ext_cell_alloc (.cells #[.int .i64 p.Pid, .int .i64 p.Pane] 85) ((HB.out.cell (p := ⟨b, off + (k - 1) * 2, none⟩) (World.block_lt_of_cell? w _ (by simpa using cq))).trans (by simpa using cq))
          have HQX := Lib.hid hq
          clear hrq hcq cq hq
          have hd : decide ((0 : Int) < (k : Int)) = true := decide_eq_true (by omega)
          by_cases t2 : p.Pid ≤ q.Pid
          case pos =>
            have HT2 := Lib.hid t2
            go_wp2_with (with_reducible (show wpList _ _ _ (Oper.mk _ (Op.load 85 _) _ _ _ _ :: _) _ _); refine wpList_load_agg rfl 85 _ rfl b _ rfl _ _ HL.out Try.underlying85 HI.out ?_)
            refine wp_region_ext (by kernel_rfl) (by kernel_rfl) ?_
            repeat (go_big_quiet_step ((first | (go_at_call 48; exact ext_pure (TW.out _)) | (go_at_call 49; exact ext_pure (TI.out _)) | (go_at_call 50; exact ext_gives (HQ.out _ _ (bel_alloc HB.out _))))))
            refine wpQuiet_nil ?_
            intro _ hw'
            obtain ⟨eW, rfl⟩ := hw'
            go_wp2
            go_ret
            exact says_ret (tableOk_no (c := wrap64 (x.Next - 1)) wrap_next HX.out (by unfold rowBad; simp [HK.out, HQX.out, HT2.out])).symm (bel_next (bel_alloc HB.out _) eW.bel)
          case neg =>
            have hd2 : decide (p.Pid ≤ q.Pid) = false := decide_eq_false t2
            have HT2 := Lib.hid t2
            have t2' : q.Pid < p.Pid := by omega
            cases t3 : isIdB p.Pane
            case false =>
              have TI := Lib.hid (show ∀ W, Calls Try.prog 49 #[.int .i64 p.Pane] W (Pure W (.bool false)) from fun W => by rw [← t3]; exact impl_isId W _)
              have T3 := Lib.hid t3
              clear t3
              go_wp2_with (with_reducible (show wpList _ _ _ (Oper.mk _ (Op.load 85 _) _ _ _ _ :: _) _ _); refine wpList_load_agg rfl 85 _ rfl b _ rfl _ _ HL.out Try.underlying85 HI.out ?_)
              refine wp_region_ext (by kernel_rfl) (by kernel_rfl) ?_
              repeat (go_big_quiet_step ((first | (go_at_call 48; exact ext_pure (TW.out _)) | (go_at_call 49; exact ext_pure (TI.out _)) | (go_at_call 50; exact ext_gives (HQ.out _ _ (bel_alloc HB.out _))))))
              refine wpQuiet_nil ?_
              intro _ hw'
              obtain ⟨eW, rfl⟩ := hw'
              go_wp2
              go_ret
              exact says_ret (tableOk_no (c := wrap64 (x.Next - 1)) wrap_next HX.out (by unfold rowBad; simp [HK.out, HQX.out, HT2.out, T3.out])).symm (bel_next (bel_alloc HB.out _) eW.bel)
            case true =>
              have TI := Lib.hid (show ∀ W, Calls Try.prog 49 #[.int .i64 p.Pane] W (Pure W (.bool true)) from fun W => by rw [← t3]; exact impl_isId W _)
              have T3 := Lib.hid t3
              clear t3
              have hpf := procOf_first HX.out
              cases t4 : (procOfI x.Live p.Pane != (k : Int))
              all_goals
                rw [t4] at hpf
                have HPF := Lib.hid hpf
                clear hpf
              case true =>
                go_wp2_with (with_reducible (show wpList _ _ _ (Oper.mk _ (Op.load 85 _) _ _ _ _ :: _) _ _); refine wpList_load_agg rfl 85 _ rfl b _ rfl _ _ HL.out Try.underlying85 HI.out ?_)
                refine wp_region_ext (by kernel_rfl) (by kernel_rfl) ?_
                repeat (go_big_quiet_step ((first | (go_at_call 48; exact ext_pure (TW.out _)) | (go_at_call 49; exact ext_pure (TI.out _)) | (go_at_call 50; exact ext_gives (HQ.out _ _ (bel_alloc HB.out _))))))
                refine wpQuiet_nil ?_
                intro _ hw'
                obtain ⟨eW, rfl⟩ := hw'
                go_wp2
                go_ret
                exact says_ret (tableOk_no (c := wrap64 (x.Next - 1)) wrap_next HX.out (by unfold rowBad; simp [HK.out, HQX.out, HT2.out, ← HPF.out])).symm (bel_next (bel_alloc HB.out _) eW.bel)
              case false =>
                go_wp2_with (with_reducible (show wpList _ _ _ (Oper.mk _ (Op.load 85 _) _ _ _ _ :: _) _ _); refine wpList_load_agg rfl 85 _ rfl b _ rfl _ _ HL.out Try.underlying85 HI.out ?_)
                refine wp_region_ext (by kernel_rfl) (by kernel_rfl) ?_
                repeat (go_big_quiet_step ((first | (go_at_call 48; exact ext_pure (TW.out _)) | (go_at_call 49; exact ext_pure (TI.out _)) | (go_at_call 50; exact ext_gives (HQ.out _ _ (bel_alloc HB.out _))))))
                refine wpQuiet_nil ?_
                intro _ hw'
                obtain ⟨eW, rfl⟩ := hw'
                go_wp2
                go_roundw
                case rel => exact ⟨k + 1, by omega, by go_num, rows_snoc HN.out HX.out (by unfold rowBad; simp [HK.out, HQX.out, HT2.out, T1.out, T3.out, ← HPF.out]), (show Below (w.heap.size + 1) _ _ from by simpa using bel_next (bel_alloc HB0.out _) eW.bel)⟩
                case measure => simp [intOf]; omega
    · obtain rfl : k = x.Live.length := by omega
      have q0 : wr.cell? ⟨w.heap.size, 0, none⟩ = some (.int .i64 x.Next) := (HB0.out.cell (p := ⟨_, _, none⟩) (by simp)).trans (by simp)
      go_wp2_with (go_at_call 49; refine (impl_isId _ _).mono ?_; rintro e w' ⟨rfl, rfl⟩)
      go_ret
      exact says_ret (tableOk_yes (c := wrap64 (x.Next - 1)) wrap_next HN.out).symm HB.out
set_option maxRecDepth 100000 in
set_option maxHeartbeats 4000000 in
theorem spec_TableOk (w : World) (cs : List Value) (x : DTable) (h : Rep.rep w cs x) (hsz : x.bulk ≤ 1048576) : Calls Try.prog 20 #[.agg cs.toArray] w (Says w (tableOk x)) := by
  have hlen : x.Live.length ≤ 1048576 := by unfold DTable.bulk at hsz; omega
  clear hsz
  obtain ⟨v0, v1, rfl, h0, h1, h2⟩ := DTable.rep_iff.1 h
  clear h
  obtain ⟨a1, n1, c1, rfl⟩ := h2.shape
  obtain ⟨a, cap, rfl, hl, hc⟩ := h1
  have HC := Lib.hid hc
  clear hc h0 h2
  go_enter Try.func20, Try.ntmps20
  go_wp2
  have HE0 := Lib.hid (OwnS.empty (α := Int) (e := 3) rfl (heap_alloc_new (w.alloc (.cells #[.int .i64 x.Next, .slice a x.Live.length cap, .slice a1 n1 c1] 53)) (.cells #[] 3)))
  go_loopw [3, 10] (fun v i wr => ∃ (k : Nat) (fp : List Nat), k ≤ x.Live.length ∧ i = .int .i64 k ∧ Hid (OwnS wr v ((x.Live.take k).map (·.Pane)) fp ∧ fp.Nodup ∧ ∀ b ∈ fp, w.heap.size < b) ∧ Hid (∀ j q, j < k → x.Live[j]? = some q → rowBad x.Live (x.Next - 1) j q = false) ∧ Hid (Below (w.heap.size + 1) (w.alloc (.cells #[.int .i64 x.Next, .slice a x.Live.length cap, .slice a1 n1 c1] 53)) wr)) (fun _ i _ => x.Live.length - (intOf i).toNat)
  case atStart => exact ⟨0, [w.heap.size + 1], Nat.zero_le _, rfl, ⟨by simpa using HE0.out, by simp, by simp⟩, by intro j q hj; omega, by show Below _ _ _; simpa using bel_alloc (Below.refl (w.alloc (.cells #[.int .i64 x.Next, .slice a x.Live.length cap, .slice a1 n1 c1] 53)).heap.size _) _⟩
  case round =>
    obtain ⟨k, fp, hk, rfl, HO, HN, HB0'⟩ := hrel
    have HB0 := Lib.hid (show Below (w.alloc (.cells #[.int .i64 x.Next, .slice a x.Live.length cap, .slice a1 n1 c1] 53)).heap.size _ wr from by simpa using HB0'.out)
    have HB := Lib.hid ((bel_alloc (Below.refl w.heap.size w) _).trans (HB0'.out.mono (by omega)))
    clear HB0'
    by_cases hlt : k < x.Live.length
    · have HCC := HC
      have hB0 := HB.out
      have hne : x.Live ≠ [] := by intro e; rw [e] at hlt; simp at hlt
      obtain ⟨b, off, rfl, hc⟩ := HC.out hne
      obtain ⟨p, hx⟩ : ∃ p, x.Live[k]? = some p := ⟨x.Live[k], by simp [hlt]⟩
      obtain ⟨rr, hrep, hcell⟩ := hc k p hx
      have HI := Lib.hid (show (Try.prog.info? 85).map (·.size) = some rr.length by rw [Rep.len hrep]; exact size_implProc)
      have HL := Lib.hid (show ∀ (j : Nat) u, rr[j]? = some u → wr.cell? ⟨b, off + k * 2 + j, none⟩ = some u from fun j u hu => (hB0.cell (p := ⟨b, _, none⟩) (World.block_lt_of_cell? w _ (hcell j u hu))).trans (hcell j u hu))
      have HR := Lib.hid hrep
      have HX := Lib.hid hx
      obtain rfl := DProc.shape hrep
      clear hc hcell hrep hne hx
      have HPB := Lib.hid (DProc.rep_iff.1 HR.out).2.2
      clear hB0
      have HCC : Hid (∀ (i : Nat) y, x.Live[i]? = some y → ∃ r, Rep.rep w r y ∧ ∀ (j : Nat) u, r[j]? = some u → w.cell? ⟨b, off + i * 2 + j, none⟩ = some u) := by
        obtain ⟨b', off', e, h⟩ := HCC.out (by intro e; rw [e] at hlt; simp at hlt)
        cases e
        exact h
      have q0 : wr.cell? ⟨w.heap.size, 0, none⟩ = some (.int .i64 x.Next) := (HB0.out.cell (p := ⟨_, _, none⟩) (by simp)).trans (by simp)
      have q1 : wr.cell? ⟨w.heap.size, 1, none⟩ = some (.slice (some ⟨b, off, none⟩) x.Live.length cap) := (HB0.out.cell (p := ⟨_, _, none⟩) (by simp)).trans (by simp)
      have q2 : wr.cell? ⟨w.heap.size, 2, none⟩ = some (.slice a1 n1 c1) := (HB0.out.cell (p := ⟨_, _, none⟩) (by simp)).trans (by simp)
      have e0 := ext_cell_alloc (.cells #[.int .i64 p.Pid, .int .i64 p.Pane] 85) q0
      have e1 := ext_cell_alloc (.cells #[.int .i64 p.Pid, .int .i64 p.Pane] 85) q1
      have e2 := ext_cell_alloc (.cells #[.int .i64 p.Pid, .int .i64 p.Pane] 85) q2
      have e3 := ext_cell (W := wr.alloc (.cells #[.int .i64 p.Pid, .int .i64 p.Pane] 85)) (b := wr.heap.size) (o := 0) (v := .int .i64 p.Pid) (by simp)
      have e4 := ext_cell (W := wr.alloc (.cells #[.int .i64 p.Pid, .int .i64 p.Pane] 85)) (b := wr.heap.size) (o := 1) (v := .int .i64 p.Pane) (by simp)
      clear q0 q1 q2
      by_cases t0 : p.Pid < 1
      case pos =>
        have d1 : decide (p.Pid < 1) = true := decide_eq_true t0
        have T1 := Lib.hid (show withinB p.Pid 1 (x.Next - 1) = false from withinB_false.2 (.inl t0))
        go_wp2_with (with_reducible (show wpList _ _ _ (Oper.mk _ (Op.load 85 _) _ _ _ _ :: _) _ _); refine wpList_load_agg rfl 85 _ rfl b _ rfl _ _ HL.out Try.underlying85 HI.out ?_)
        refine wp_region_ext (by kernel_rfl) (by kernel_rfl) ?_
        repeat (go_big_quiet_step (fail))
        refine wpQuiet_nil ?_
        intro _ hw'
        obtain ⟨eW, rfl⟩ := hw'
        go_wp2
        go_ret
        exact says_ret (tableOk_no (c := x.Next - 1) (fun _ => rfl) HX.out (by unfold rowBad; simp [T1.out])).symm (bel_next (bel_alloc HB.out _) eW.bel)
      case neg =>
      have d1 : decide (p.Pid < 1) = false := decide_eq_false t0
      by_cases t1 : x.Next ≤ p.Pid
      case pos =>
        have d2 : decide (x.Next ≤ p.Pid) = true := decide_eq_true t1
        have T1 := Lib.hid (show withinB p.Pid 1 (x.Next - 1) = false from withinB_false.2 (.inr (by omega)))
        go_wp2_with (with_reducible (show wpList _ _ _ (Oper.mk _ (Op.load 85 _) _ _ _ _ :: _) _ _); refine wpList_load_agg rfl 85 _ rfl b _ rfl _ _ HL.out Try.underlying85 HI.out ?_)
        refine wp_region_ext (by kernel_rfl) (by kernel_rfl) ?_
        repeat (go_big_quiet_step (fail))
        refine wpQuiet_nil ?_
        intro _ hw'
        obtain ⟨eW, rfl⟩ := hw'
        go_wp2
        go_ret
        exact says_ret (tableOk_no (c := x.Next - 1) (fun _ => rfl) HX.out (by unfold rowBad; simp [T1.out])).symm (bel_next (bel_alloc HB.out _) eW.bel)
      case neg =>
        have d2 : decide (x.Next ≤ p.Pid) = false := decide_eq_false t1
        have T1 := Lib.hid (show withinB p.Pid 1 (x.Next - 1) = true from withinB_true.2 ⟨by omega, by omega⟩)
        by_cases hk0 : 0 < k
        case neg =>
          have hd : decide ((0 : Int) < (k : Int)) = false := decide_eq_false (by omega)
          have HK := Lib.hid (show decide (0 < k) = false from decide_eq_false hk0)
          by_cases t3 : p.Pane < 1
          case pos =>
            have d4 : decide (p.Pane < 1) = true := decide_eq_true t3
            have T3 := Lib.hid (show isIdB p.Pane = false from by unfold isIdB; exact withinB_false.2 (.inl t3))
            go_wp2_with (with_reducible (show wpList _ _ _ (Oper.mk _ (Op.load 85 _) _ _ _ _ :: _) _ _); refine wpList_load_agg rfl 85 _ rfl b _ rfl _ _ HL.out Try.underlying85 HI.out ?_)
            refine wp_region_ext (by kernel_rfl) (by kernel_rfl) ?_
            repeat (go_big_quiet_step (fail))
            refine wpQuiet_nil ?_
            intro _ hw'
            obtain ⟨eW, rfl⟩ := hw'
            go_wp2
            go_ret
            exact says_ret (tableOk_no (c := x.Next - 1) (fun _ => rfl) HX.out (by unfold rowBad; simp [HK.out, T3.out])).symm (bel_next (bel_alloc HB.out _) eW.bel)
          case neg =>
            have d4 : decide (p.Pane < 1) = false := decide_eq_false t3
            by_cases t5 : 1000000 < p.Pane
            case pos =>
              have d5 : decide (1000000 < p.Pane) = true := decide_eq_true t5
              have T3 := Lib.hid (show isIdB p.Pane = false from by unfold isIdB; exact withinB_false.2 (.inr t5))
              go_wp2_with (with_reducible (show wpList _ _ _ (Oper.mk _ (Op.load 85 _) _ _ _ _ :: _) _ _); refine wpList_load_agg rfl 85 _ rfl b _ rfl _ _ HL.out Try.underlying85 HI.out ?_)
              refine wp_region_ext (by kernel_rfl) (by kernel_rfl) ?_
              repeat (go_big_quiet_step (fail))
              refine wpQuiet_nil ?_
              intro _ hw'
              obtain ⟨eW, rfl⟩ := hw'
              go_wp2
              go_ret
              exact says_ret (tableOk_no (c := x.Next - 1) (fun _ => rfl) HX.out (by unfold rowBad; simp [HK.out, T3.out])).symm (bel_next (bel_alloc HB.out _) eW.bel)
            case neg =>
              have d5 : decide (1000000 < p.Pane) = false := decide_eq_false t5
              have T3 := Lib.hid (show isIdB p.Pane = true from by unfold isIdB; exact withinB_true.2 ⟨by omega, by omega⟩)
              have hh : hasPane x.Live k p.Pane = hasInt ((x.Live.take k).map (·.Pane)) p.Pane := by unfold hasPane; rfl
              cases t6 : hasPane x.Live k p.Pane
              all_goals
                rw [t6] at hh
                have T6 := Lib.hid t6
                clear t6
              case true =>
                have TH := Lib.hid (show ∀ W (e : Ext W), Below wr.heap.size wr W → Calls Try.prog 45 #[u3, .int .i64 p.Pane] e.w (Pure e.w (.bool true)) from fun W e hb => by rw [hh]; exact spec_HasInt e.w u3 ((x.Live.take k).map DProc.Pane) p.Pane (HO.out.1.repS.mono (bel_next hb e.bel)))
                clear hh
                go_wp2_with (with_reducible (show wpList _ _ _ (Oper.mk _ (Op.load 85 _) _ _ _ _ :: _) _ _); refine wpList_load_agg rfl 85 _ rfl b _ rfl _ _ HL.out Try.underlying85 HI.out ?_)
                refine wp_region_ext (by kernel_rfl) (by kernel_rfl) ?_
                repeat (go_big_quiet_step ((first | (go_at_call 45; exact ext_pure (TH.out _ _ (bel_alloc (Below.refl _ _) _))))))
                refine wpQuiet_nil ?_
                intro _ hw'
                obtain ⟨eW, rfl⟩ := hw'
                go_wp2
                go_ret
                exact says_ret (tableOk_no (c := x.Next - 1) (fun _ => rfl) HX.out (by unfold rowBad; simp [HK.out, T6.out])).symm (bel_next (bel_alloc HB.out _) eW.bel)
              case false =>
                have TH := Lib.hid (show ∀ W (e : Ext W), Below wr.heap.size wr W → Calls Try.prog 45 #[u3, .int .i64 p.Pane] e.w (Pure e.w (.bool false)) from fun W e hb => by rw [hh]; exact spec_HasInt e.w u3 ((x.Live.take k).map DProc.Pane) p.Pane (HO.out.1.repS.mono (bel_next hb e.bel)))
                clear hh
                go_wp2_with (with_reducible (show wpList _ _ _ (Oper.mk _ (Op.load 85 _) _ _ _ _ :: _) _ _); refine wpList_load_agg rfl 85 _ rfl b _ rfl _ _ HL.out Try.underlying85 HI.out ?_)
                refine wp_region_ext (by kernel_rfl) (by kernel_rfl) ?_
                repeat (go_big_quiet_step ((first | (go_at_call 45; exact ext_pure (TH.out _ _ (bel_alloc (Below.refl _ _) _))))))
                refine wpQuiet_nil ?_
                intro _ hw'
                obtain ⟨eW, rfl⟩ := hw'
                have e4' := e4 eW
                clear e0 e1 e2 e3 e4
                have HE := Lib.hid (show Below wr.heap.size wr (eW.w.alloc (.cells #[.int .i64 p.Pane] 3)) from bel_alloc (bel_next (bel_alloc (Below.refl _ _) _) eW.bel) _)
                have HA := Lib.hid (HO.out.1.grow HE.out)
                have HW := Lib.hid (show Below (w.heap.size + 1) _ (eW.w.alloc (.cells #[.int .i64 p.Pane] 3)) from by simpa using bel_alloc (bel_next (bel_alloc HB0.out _) eW.bel) _)
                go_wp2_with (at_builtin; refine wpList_append_rep (α := Int) rfl _ _ 83 rfl 3 _ 8 Try.underlying83 info_int rfl rfl (by decide) u3 _ fp rfl HA.out _ 1 1 rfl [p.Pane] rfl [[.int .i64 p.Pane]] [[]] (Rows.one ⟨⟨rfl, HPB.out⟩, rfl⟩) (by simpa using HO.out.2.1) (fun _ => ⟨_, 0, rfl, one_new _ _ _⟩) (fun _ => .inr trivial) (by simp; omega) (by simp; omega) ?_; intro v' w' fp' HO' HN' HF' HG HOB; have HB' := Lib.hid (Below.grown HW.out HG (by have := HW.out.size; simp at this ⊢; omega) (fun g hg => HO.out.2.2 g (HOB g hg))); have HO2 := Lib.hid (show OwnS w' v' ((x.Live.take (k + 1)).map (·.Pane)) fp' ∧ fp'.Nodup ∧ ∀ b ∈ fp', w.heap.size < b from ⟨by rw [List.take_add_one, HX.out, List.map_append]; exact HO', HN', fun b hb => (HF' b hb).elim (HO.out.2.2 b) (fun h => h.elim (by simp) (fun h => by rw [h]; have := HW.out.size; simp at this ⊢; omega))⟩); clear HO' HN' HF' HG HOB)
                go_roundw
                case rel => exact ⟨k + 1, fp', by omega, by go_num, HO2, rows_snoc HN.out HX.out (by unfold rowBad; simp [HK.out, T1.out, T3.out, T6.out]), HB'⟩
                case measure => simp [intOf]; omega
        case pos =>
          have HK := Lib.hid (show decide (0 < k) = true from decide_eq_true hk0)
          obtain ⟨q, hq⟩ : ∃ q, x.Live[k - 1]? = some q := ⟨x.Live[k - 1], by simp [show k - 1 < x.Live.length from by omega]⟩
          obtain ⟨rq, hrq, hcq⟩ := HCC.out (k - 1) q hq
          obtain rfl := DProc.shape hrq
          have cq := hcq 0 (.int .i64 q.Pid) rfl
          have cq' := ext_cell_alloc (.cells #[.int .i64 p.Pid, .int .i64 p.Pane] 85) ((HB.out.cell (p := ⟨b, off + (k - 1) * 2, none⟩) (World.block_lt_of_cell? w _ (by simpa using cq))).trans (by simpa using cq))
          have HQX := Lib.hid hq
          clear hrq hcq cq hq
          have hd : decide ((0 : Int) < (k : Int)) = true := decide_eq_true (by omega)
          by_cases t2 : p.Pid ≤ q.Pid
          case pos =>
            have HT2 := Lib.hid t2
            have d3 : decide (p.Pid ≤ q.Pid) = true := decide_eq_true t2
            go_wp2_with (with_reducible (show wpList _ _ _ (Oper.mk _ (Op.load 85 _) _ _ _ _ :: _) _ _); refine wpList_load_agg rfl 85 _ rfl b _ rfl _ _ HL.out Try.underlying85 HI.out ?_)
            refine wp_region_ext (by kernel_rfl) (by kernel_rfl) ?_
            repeat (go_big_quiet_step (fail))
            refine wpQuiet_nil ?_
            intro _ hw'
            obtain ⟨eW, rfl⟩ := hw'
            go_wp2
            go_ret
            exact says_ret (tableOk_no (c := x.Next - 1) (fun _ => rfl) HX.out (by unfold rowBad; simp [HK.out, HQX.out, HT2.out])).symm (bel_next (bel_alloc HB.out _) eW.bel)
          case neg =>
            have hd2 : decide (p.Pid ≤ q.Pid) = false := decide_eq_false t2
            have HT2 := Lib.hid t2
            by_cases t3 : p.Pane < 1
            case pos =>
              have d4 : decide (p.Pane < 1) = true := decide_eq_true t3
              have T3 := Lib.hid (show isIdB p.Pane = false from by unfold isIdB; exact withinB_false.2 (.inl t3))
              go_wp2_with (with_reducible (show wpList _ _ _ (Oper.mk _ (Op.load 85 _) _ _ _ _ :: _) _ _); refine wpList_load_agg rfl 85 _ rfl b _ rfl _ _ HL.out Try.underlying85 HI.out ?_)
              refine wp_region_ext (by kernel_rfl) (by kernel_rfl) ?_
              repeat (go_big_quiet_step (fail))
              refine wpQuiet_nil ?_
              intro _ hw'
              obtain ⟨eW, rfl⟩ := hw'
              go_wp2
              go_ret
              exact says_ret (tableOk_no (c := x.Next - 1) (fun _ => rfl) HX.out (by unfold rowBad; simp [HK.out, HQX.out, HT2.out, T3.out])).symm (bel_next (bel_alloc HB.out _) eW.bel)
            case neg =>
              have d4 : decide (p.Pane < 1) = false := decide_eq_false t3
              by_cases t5 : 1000000 < p.Pane
              case pos =>
                have d5 : decide (1000000 < p.Pane) = true := decide_eq_true t5
                have T3 := Lib.hid (show isIdB p.Pane = false from by unfold isIdB; exact withinB_false.2 (.inr t5))
                go_wp2_with (with_reducible (show wpList _ _ _ (Oper.mk _ (Op.load 85 _) _ _ _ _ :: _) _ _); refine wpList_load_agg rfl 85 _ rfl b _ rfl _ _ HL.out Try.underlying85 HI.out ?_)
                refine wp_region_ext (by kernel_rfl) (by kernel_rfl) ?_
                repeat (go_big_quiet_step (fail))
                refine wpQuiet_nil ?_
                intro _ hw'
                obtain ⟨eW, rfl⟩ := hw'
                go_wp2
                go_ret
                exact says_ret (tableOk_no (c := x.Next - 1) (fun _ => rfl) HX.out (by unfold rowBad; simp [HK.out, HQX.out, HT2.out, T3.out])).symm (bel_next (bel_alloc HB.out _) eW.bel)
              case neg =>
                have d5 : decide (1000000 < p.Pane) = false := decide_eq_false t5
                have T3 := Lib.hid (show isIdB p.Pane = true from by unfold isIdB; exact withinB_true.2 ⟨by omega, by omega⟩)
                have hh : hasPane x.Live k p.Pane = hasInt ((x.Live.take k).map (·.Pane)) p.Pane := by unfold hasPane; rfl
                cases t6 : hasPane x.Live k p.Pane
                all_goals
                  rw [t6] at hh
                  have T6 := Lib.hid t6
                  clear t6
                case true =>
                  have TH := Lib.hid (show ∀ W (e : Ext W), Below wr.heap.size wr W → Calls Try.prog 45 #[u3, .int .i64 p.Pane] e.w (Pure e.w (.bool true)) from fun W e hb => by rw [hh]; exact spec_HasInt e.w u3 ((x.Live.take k).map DProc.Pane) p.Pane (HO.out.1.repS.mono (bel_next hb e.bel)))
                  clear hh
                  go_wp2_with (with_reducible (show wpList _ _ _ (Oper.mk _ (Op.load 85 _) _ _ _ _ :: _) _ _); refine wpList_load_agg rfl 85 _ rfl b _ rfl _ _ HL.out Try.underlying85 HI.out ?_)
                  refine wp_region_ext (by kernel_rfl) (by kernel_rfl) ?_
                  repeat (go_big_quiet_step ((first | (go_at_call 45; exact ext_pure (TH.out _ _ (bel_alloc (Below.refl _ _) _))))))
                  refine wpQuiet_nil ?_
                  intro _ hw'
                  obtain ⟨eW, rfl⟩ := hw'
                  go_wp2
                  go_ret
                  exact says_ret (tableOk_no (c := x.Next - 1) (fun _ => rfl) HX.out (by unfold rowBad; simp [HK.out, HQX.out, HT2.out, T6.out])).symm (bel_next (bel_alloc HB.out _) eW.bel)
                case false =>
                  have TH := Lib.hid (show ∀ W (e : Ext W), Below wr.heap.size wr W → Calls Try.prog 45 #[u3, .int .i64 p.Pane] e.w (Pure e.w (.bool false)) from fun W e hb => by rw [hh]; exact spec_HasInt e.w u3 ((x.Live.take k).map DProc.Pane) p.Pane (HO.out.1.repS.mono (bel_next hb e.bel)))
                  clear hh
                  go_wp2_with (with_reducible (show wpList _ _ _ (Oper.mk _ (Op.load 85 _) _ _ _ _ :: _) _ _); refine wpList_load_agg rfl 85 _ rfl b _ rfl _ _ HL.out Try.underlying85 HI.out ?_)
                  refine wp_region_ext (by kernel_rfl) (by kernel_rfl) ?_
                  repeat (go_big_quiet_step ((first | (go_at_call 45; exact ext_pure (TH.out _ _ (bel_alloc (Below.refl _ _) _))))))
                  refine wpQuiet_nil ?_
                  intro _ hw'
                  obtain ⟨eW, rfl⟩ := hw'
                  have e4' := e4 eW
                  clear e0 e1 e2 e3 e4
                  have HE := Lib.hid (show Below wr.heap.size wr (eW.w.alloc (.cells #[.int .i64 p.Pane] 3)) from bel_alloc (bel_next (bel_alloc (Below.refl _ _) _) eW.bel) _)
                  have HA := Lib.hid (HO.out.1.grow HE.out)
                  have HW := Lib.hid (show Below (w.heap.size + 1) _ (eW.w.alloc (.cells #[.int .i64 p.Pane] 3)) from by simpa using bel_alloc (bel_next (bel_alloc HB0.out _) eW.bel) _)
                  go_wp2_with (at_builtin; refine wpList_append_rep (α := Int) rfl _ _ 83 rfl 3 _ 8 Try.underlying83 info_int rfl rfl (by decide) u3 _ fp rfl HA.out _ 1 1 rfl [p.Pane] rfl [[.int .i64 p.Pane]] [[]] (Rows.one ⟨⟨rfl, HPB.out⟩, rfl⟩) (by simpa using HO.out.2.1) (fun _ => ⟨_, 0, rfl, one_new _ _ _⟩) (fun _ => .inr trivial) (by simp; omega) (by simp; omega) ?_; intro v' w' fp' HO' HN' HF' HG HOB; have HB' := Lib.hid (Below.grown HW.out HG (by have := HW.out.size; simp at this ⊢; omega) (fun g hg => HO.out.2.2 g (HOB g hg))); have HO2 := Lib.hid (show OwnS w' v' ((x.Live.take (k + 1)).map (·.Pane)) fp' ∧ fp'.Nodup ∧ ∀ b ∈ fp', w.heap.size < b from ⟨by rw [List.take_add_one, HX.out, List.map_append]; exact HO', HN', fun b hb => (HF' b hb).elim (HO.out.2.2 b) (fun h => h.elim (by simp) (fun h => by rw [h]; have := HW.out.size; simp at this ⊢; omega))⟩); clear HO' HN' HF' HG HOB)
                  go_roundw
                  case rel => exact ⟨k + 1, fp', by omega, by go_num, HO2, rows_snoc HN.out HX.out (by unfold rowBad; simp [HK.out, HQX.out, HT2.out, T1.out, T3.out, T6.out]), HB'⟩
                  case measure => simp [intOf]; omega
    · obtain rfl : k = x.Live.length := by omega
      have q0 : wr.cell? ⟨w.heap.size, 0, none⟩ = some (.int .i64 x.Next) := (HB0.out.cell (p := ⟨_, _, none⟩) (by simp)).trans (by simp)
      have ht := tableOk_yes (x := x) (c := x.Next - 1) (fun _ => rfl) HN.out
      unfold isIdB withinB at ht
      have HT := Lib.hid ht
      clear ht
      go_wp2
      all_goals go_ret
      all_goals exact says_ret (by rw [HT.out, Bool.eq_iff_iff]; simp [*] <;> omega) HB.out
end Go.Proofs.Ytnidoeapoknhdaa
