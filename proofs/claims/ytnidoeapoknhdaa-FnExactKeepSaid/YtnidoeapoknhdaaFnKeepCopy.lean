/- The walks of the copies of a history, the program's and the reference's. -/
import Derived.Test.YtnidoeapoknhdaaKeepLaw
import Derived.Test.YtnidoeapoknhdaaFnClone
import Derived.Test.YtnidoeapoknhdaaTo
set_option linter.unusedSimpArgs false
set_option linter.unusedVariables false
namespace Go.Proofs.Ytnidoeapoknhdaa
open Go.RowKit Go.Mux
set_option maxRecDepth 100000 in
set_option maxHeartbeats 400000 in
theorem clone_u8 (w : World) (v : Value) (l : List UInt8) (h : RepS w v l) (hl : l.length ≤ 2097152) :
    Calls Try.prog 82 #[v] w (Gives w fun r w' => FreshS w.heap.size w' r l) := by
  obtain ⟨a, n, cap, rfl⟩ := h.shape
  obtain ⟨rows, fps, hr, hf, hc⟩ := RepS.rows (of_decide_eq_true (by kernel_rfl)) h
  have hn : n = l.length := by obtain ⟨_, _, e, _⟩ := h; injection e
  subst hn
  have HR := Lib.hid hr
  have HF := Lib.hid hf
  have HC := Lib.hid hc
  have hnil := fun wx => Lib.run_eql_slice_nil (P := Try.prog) wx 66 5 a l.length cap 0 0 Try.underlying66
  clear hr hf hc h
  cases a with
  | none =>
    have hl0 : l = [] := by
      by_cases hne : l = []
      · exact hne
      · obtain ⟨_, _, e, _⟩ := HC.out hne
        cases e
    subst hl0
    have hnil2 := fun wx => Lib.run_eql_slice_nil (P := Try.prog) wx 66 5 none 0 cap 0 0 Try.underlying66
    clear hnil
    simp only [List.length_nil]
    go_enter Try.func82, Try.ntmps82
    go_wp2
    go_ret
    exact ⟨_, rfl, ⟨[], ⟨[], [], ⟨by simp, .inl ⟨rfl, rfl⟩⟩, by simp, rfl, rfl, by simp, by simp [Value.ownBlock]⟩, by simp, by simp⟩, Below.refl _ _⟩
  | some ad =>
    have HE := Lib.hid (OwnS.empty (α := UInt8) (e := 5) rfl (heap_alloc_new w (.cells #[] 5)))
    have HR2 := Lib.hid (HR.out.keep (w' := w.alloc (.cells #[] 5)) (fun b hb => by rw [HF.out] at hb; simp at hb))
    have HC2 : Hid (l ≠ [] → ∃ b off, some ad = some ⟨b, off, none⟩ ∧ ∀ (j : Nat) u, rows.flatten[j]? = some u → (w.alloc (.cells #[] 5)).cell? ⟨b, off + j, none⟩ = some u) := by
      intro hne
      obtain ⟨b, off, e, h⟩ := HC.out hne
      exact ⟨b, off, e, fun j u hu => (World.cell?_alloc_lt w _ ⟨b, off + j, none⟩ (World.block_lt_of_cell? w _ (h j u hu))).trans (h j u hu)⟩
    go_enter Try.func82, Try.ntmps82
    go_wp2_with (at_builtin; refine wpList_append_rep (α := UInt8) rfl _ _ 66 rfl 5 _ _ Try.underlying66 info_u8 rfl rfl (of_decide_eq_true (by kernel_rfl)) _ [] _ rfl HE.out _ _ cap rfl l rfl rows fps HR2.out (by rw [HF.out]; simp) HC2.out (fun _ => .inr trivial) (by simp; omega) (by simp; omega) ?_; intro v' w' fp' HO' HN' HF' HG HOB; have HB' := Lib.hid (Below.grown (bel_alloc (Below.refl w.heap.size w) (.cells #[] 5)) HG (by simp) (fun g hg => by have := HOB g hg; simp at this; omega)); have HZ := Lib.hid (show FreshS w.heap.size w' v' l from ⟨fp', by simpa using HO', HN', fun b hb => by rcases HF' b hb with h | h | h <;> simp [HF.out] at h <;> omega⟩); clear HO' HN' HF' HG HOB)
    go_ret
    exact ⟨_, rfl, HZ.out, HB'.out⟩
set_option maxRecDepth 100000 in
set_option maxHeartbeats 1000000 in
theorem impl_copyHist (w : World) (v : Value) (l : List DHist) (h : RepS w v l) (hl : l.length ≤ 1048576) (hd : ∀ x ∈ l, x.Op.Data.length ≤ 1048576) :
    Calls Try.prog 54 #[v] w (Gives w fun r w' => FreshS w.heap.size w' r l) := by
  obtain ⟨a, cap, rfl, hl', hc⟩ := h
  have HC := Lib.hid hc
  have HDL := Lib.hid hd
  clear hc hd
  go_enter Try.func54, Try.ntmps54
  go_wp2_with fail
  have HE0 := Lib.hid (OwnS.empty (α := DHist) (e := 73) rfl (heap_alloc_new w (.cells #[] 73)))
  go_loopw [3, 9] (fun v i wr => ∃ (k : Nat) (fp : List Nat), k ≤ l.length ∧ i = .int .i64 k ∧ Hid (OwnS wr v (l.take k) fp ∧ fp.Nodup ∧ ∀ b ∈ fp, w.heap.size ≤ b) ∧ Hid (Below w.heap.size w wr)) (fun _ i _ => l.length - (intOf i).toNat)
  case atStart => exact ⟨0, [w.heap.size], Nat.zero_le _, rfl, ⟨by simpa using HE0.out, by simp, by simp⟩, bel_alloc (Below.refl _ _) _⟩
  case round =>
    obtain ⟨k, fp, hk, rfl, HO, HB⟩ := hrel
    have hzr := HB.out.size
    by_cases hlt : k < l.length
    · have hB0 := HB.out
      have hne : l ≠ [] := by intro e; rw [e] at hlt; simp at hlt
      obtain ⟨b, off, rfl, hc⟩ := HC.out hne
      obtain ⟨x, hx⟩ : ∃ x, l[k]? = some x := ⟨l[k], by simp [hlt]⟩
      obtain ⟨rr, hrep, hcell⟩ := hc k x hx
      have HI := Lib.hid (show (Try.prog.info? 73).map (·.size) = some rr.length by rw [Rep.len hrep]; exact size_implHist)
      have HL := Lib.hid (show ∀ (j : Nat) u, rr[j]? = some u → wr.cell? ⟨b, off + k * 9 + j, none⟩ = some u from fun j u hu => (hB0.cell (p := ⟨b, _, none⟩) (World.block_lt_of_cell? w _ (hcell j u hu))).trans (hcell j u hu))
      have HR := Lib.hid hrep
      have HX := Lib.hid hx
      obtain ⟨xa0, xn0, xc0, rfl⟩ := DHist.shape hrep
      clear hc hcell hrep hne hx
      clear hB0
      obtain ⟨v0, e0, r0, r1, r2, r3, r4, r5, r6, r7⟩ := DHist.rep_iff.1 HR.out
      have HRX := Lib.hid (And.intro r0 (And.intro r1 (And.intro r2 (And.intro r3 (And.intro r4 (And.intro r5 r6))))))
      simp only [List.cons.injEq, and_true, true_and] at e0
      obtain rfl := e0
      have HD := Lib.hid r7
      have hdl := HDL.out x (List.mem_of_getElem? HX.out)
      have hne : wr.heap.size ≠ wr.heap.size + 1 := by omega
      clear r0 r1 r2 r3 r4 r5 r6 r7
      go_wp2_with (first
        | (with_reducible (show wpList _ _ _ (Oper.mk _ (Op.load 73 _) _ _ _ _ :: _) _ _); refine wpList_load_agg rfl 73 _ rfl b _ rfl _ _ HL.out Try.underlying73 HI.out ?_)
        | (go_at_call 82; refine (clone_u8 _ _ x.Op.Data (HD.out.mono (bel_alloc HB.out _)) (by omega)).mono ?_; rintro e W1 ⟨_, rfl, HF, hb⟩; obtain ⟨a0, n0, c0, rfl⟩ := HF.repS.shape; obtain ⟨f, hoF, hnF, hbF⟩ := HF; have HOF := Lib.hid hoF; have HBF := Lib.hid hbF; have HB1 := Lib.hid (bel_next (bel_alloc (Below.refl wr.heap.size wr) _) hb); have cX := fun o => hb.cell (p := ⟨wr.heap.size, o, none⟩) (by simp); have fX := fun o => hb.frozen (p := ⟨wr.heap.size, o, none⟩) (by simp); have hz1 := hb.size; simp only [World.size_alloc] at hz1; have hx1 : wr.heap.size < W1.heap.size := (by omega); clear hb hoF hbF)
        | (at_builtin; have HA := Lib.hid (HO.out.1.grow (show Below wr.heap.size wr ((W1.setCell ⟨wr.heap.size, 8, none⟩ (.slice a0 n0 c0)).alloc (.cells #[.bool x.Lost, .int .i64 x.Op.Kind, .int .i64 x.Op.A, .int .i64 x.Op.B, .int .i64 x.Op.C, .string x.Op.Name, .string x.Op.Text, .string x.Op.Dir, .slice a0 n0 c0] 73)) from bel_alloc (bel_set HB1.out (Nat.le_refl _) _) _)); have HROW := Lib.hid (show Rep.own ((W1.setCell ⟨wr.heap.size, 8, none⟩ (.slice a0 n0 c0)).alloc (.cells #[.bool x.Lost, .int .i64 x.Op.Kind, .int .i64 x.Op.A, .int .i64 x.Op.B, .int .i64 x.Op.C, .string x.Op.Name, .string x.Op.Text, .string x.Op.Dir, .slice a0 n0 c0] 73)) [.bool x.Lost, .int .i64 x.Op.Kind, .int .i64 x.Op.A, .int .i64 x.Op.B, .int .i64 x.Op.C, .string x.Op.Name, .string x.Op.Text, .string x.Op.Dir, .slice a0 n0 c0] x f from DHist.own_iff.2 ⟨_, rfl, HRX.out.1, HRX.out.2.1, HRX.out.2.2.1, HRX.out.2.2.2.1, HRX.out.2.2.2.2.1, HRX.out.2.2.2.2.2.1, HRX.out.2.2.2.2.2.2, HOF.out.mono (fun b hb => (Below.heap_alloc _ _ b (by have := HOF.out.lt b hb; simpa using this)).trans (heap_setCell_other _ _ _ _ (by have := HBF.out b hb; simp at this; show b ≠ wr.heap.size; omega)))⟩); have HND := Lib.hid (show (fp ++ [f].flatten).Nodup from by rw [show [f].flatten = f from by simp]; exact List.nodup_append.2 ⟨HO.out.2.1, hnF, fun a ha b hb e => by have h1 := HO.out.1.lt a ha; have h2 := HBF.out b hb; simp at h2; omega⟩); have HW := Lib.hid (show Below w.heap.size w ((W1.setCell ⟨wr.heap.size, 8, none⟩ (.slice a0 n0 c0)).alloc (.cells #[.bool x.Lost, .int .i64 x.Op.Kind, .int .i64 x.Op.A, .int .i64 x.Op.B, .int .i64 x.Op.C, .string x.Op.Name, .string x.Op.Text, .string x.Op.Dir, .slice a0 n0 c0] 73)) from bel_next HB.out (bel_alloc (bel_set HB1.out (Nat.le_refl _) _) _)); refine wpList_append_rep (α := DHist) rfl _ _ 25 rfl 73 _ 112 Try.underlying25 info_implHist rfl rfl (of_decide_eq_true (by kernel_rfl)) u3 _ fp rfl HA.out _ 1 1 rfl [x] rfl [[.bool x.Lost, .int .i64 x.Op.Kind, .int .i64 x.Op.A, .int .i64 x.Op.B, .int .i64 x.Op.C, .string x.Op.Name, .string x.Op.Text, .string x.Op.Dir, .slice a0 n0 c0]] [f] (Rows.one HROW.out) HND.out (fun _ => ⟨_, 0, rfl, row_new _ _ _ (by simp)⟩) (fun _ => .inr trivial) (by simp; omega) (by simp; omega) ?_; intro v' w' fp' HO' HN' HF' HG HOB; have HB' := Lib.hid (Below.grown HW.out HG (by have := HW.out.size; exact this) (fun g hg => HO.out.2.2 g (HOB g hg))); have HO2 := Lib.hid (show OwnS w' v' (l.take (k + 1)) fp' ∧ fp'.Nodup ∧ ∀ b ∈ fp', w.heap.size ≤ b from ⟨by rw [List.take_add_one, HX.out]; exact HO', HN', fun b hb => (HF' b hb).elim (HO.out.2.2 b) (fun h => h.elim (fun h => by have h2 := HBF.out b (by simpa using h); simp at h2; omega) (fun h => by rw [h]; simp; omega))⟩); clear HO' HN' HF' HG HOB))
      go_roundw
      case rel => exact ⟨k + 1, fp', by omega, by go_num, HO2, HB'⟩
      case measure => simp [intOf]; omega
    · obtain rfl : k = l.length := by omega
      go_wp2_with fail
      go_ret
      exact ⟨_, rfl, ⟨fp, by simpa using HO.out.1, HO.out.2⟩, HB.out⟩
set_option maxRecDepth 100000 in
set_option maxHeartbeats 1000000 in
theorem spec_l22Hist (w : World) (cs : List Value) (x : DHist) (h : Rep.rep w cs x) (hd : x.Op.Data.length ≤ 1048576) :
    Calls Try.prog 53 #[.agg cs.toArray] w (Gives w fun r w' => ∃ cs', r = .agg cs'.toArray ∧ Fresh w.heap.size w' cs' x) := by
  obtain ⟨v0, rfl, r0, r1, r2, r3, r4, r5, r6, r7⟩ := DHist.rep_iff.1 h
  have HRX := Lib.hid (And.intro r0 (And.intro r1 (And.intro r2 (And.intro r3 (And.intro r4 (And.intro r5 r6))))))
  obtain ⟨p0, m0, q0, rfl⟩ := r7.shape
  have HD := Lib.hid r7
  clear h r0 r1 r2 r3 r4 r5 r6 r7
  have hlt2 : w.heap.size < w.heap.size + 1 + 1 := by omega
  go_enter Try.func53, Try.ntmps53
  go_wp2_with (at_builtin; refine wpList_append_copy (α := UInt8) rfl _ _ 66 rfl 5 _ _ Try.underlying66 info_u8 rfl rfl (of_decide_eq_true (by kernel_rfl)) (w.heap.size + 1 + 1) rfl (heap_new_at _ _ (by simp)) (.slice p0 m0 q0) x.Op.Data rfl (HD.out.mono (by repeat (first | (with_reducible exact Below.refl _ _) | (with_reducible assumption) | (with_reducible refine bel_alloc ?_ _) | ((with_reducible refine bel_set ?_ ?_ _); rotate_left; (focus first | (simp; done) | (simp; omega)))))) (by omega) ?_; intro v' W0 HF hb; obtain ⟨a0, n0, c0, rfl⟩ := HF.repS.shape; have HF0 := Lib.hid HF; have HB0 := Lib.hid (bel_upto (show Below w.heap.size w _ from (by repeat (first | (with_reducible exact Below.refl _ _) | (with_reducible assumption) | (with_reducible refine bel_alloc ?_ _) | ((with_reducible refine bel_set ?_ ?_ _); rotate_left; (focus first | (simp; done) | (simp; omega)))))) hb (by omega)); have cA0 := fun o => hb.cell (p := ⟨w.heap.size, o, none⟩) (show w.heap.size < w.heap.size + 1 + 1 by omega); have cR0 := fun o => hb.cell (p := ⟨w.heap.size + 1, o, none⟩) (show w.heap.size + 1 < w.heap.size + 1 + 1 by omega); have fA0 := fun o => hb.frozen (p := ⟨w.heap.size, o, none⟩) (show w.heap.size < w.heap.size + 1 + 1 by omega); have fR0 := fun o => hb.frozen (p := ⟨w.heap.size + 1, o, none⟩) (show w.heap.size + 1 < w.heap.size + 1 + 1 by omega); have hz0 := hb.size; simp only [World.size_alloc] at hz0; have hy0 : w.heap.size + 1 + 1 < W0.heap.size := (by omega); have hx0 : w.heap.size + 1 < W0.heap.size := (by omega); have hw0 : w.heap.size < W0.heap.size := (by omega); clear hb HF)
  refine bodyPost_ret (v := .agg #[.bool x.Lost, .int .i64 x.Op.Kind, .int .i64 x.Op.A, .int .i64 x.Op.B, .int .i64 x.Op.C, .string x.Op.Name, .string x.Op.Text, .string x.Op.Dir, .slice a0 n0 c0]) (by simp [results, Try.results53, go_sem, hlt2, cA0, cR0, fA0, fR0, hy0, hx0, hw0]) rfl ⟨_, rfl, ⟨[_, _, _, _, _, _, _, _, _], rfl, ?_⟩, (by have hB := HB0.out; repeat (first | (with_reducible assumption) | ((with_reducible refine bel_set ?_ ?_ _); rotate_left; (focus first | (simp; done) | (simp; omega)))))⟩
  obtain ⟨f, ho, hn, hb⟩ := HF0.out
  refine ⟨f, Rep.ownMono (w := W0) (DHist.own_iff.2 ⟨_, rfl, HRX.out.1, HRX.out.2.1, HRX.out.2.2.1, HRX.out.2.2.2.1, HRX.out.2.2.2.2.1, HRX.out.2.2.2.2.2.1, HRX.out.2.2.2.2.2.2, ho⟩) (fun b hbf => ?_), hn, fun b hbf => by have := hb b hbf; omega⟩
  have h1 := hb b hbf
  repeat rw [heap_setCell_other _ _ _ _ (by show _ ≠ _; simp; omega)]
end Go.Proofs.Ytnidoeapoknhdaa
