/- The walks of Keep, the program's and the reference's. -/
import Derived.Test.YtnidoeapoknhdaaFnKeepCopy
import Derived.Test.YtnidoeapoknhdaaFnTableDown
set_option linter.unusedSimpArgs false
set_option linter.unusedVariables false
namespace Go.Mux
open Go.RowKit
theorem keep_take {l : List DHist} {m k : Nat} (h : keepLen l m = k) : keep l (m : Int) = l.take k := by
  unfold keep
  rw [if_neg (by omega), Int.toNat_natCast, h]
theorem FreshS.low {α : Type} [Rep α] {B B' : Nat} {w : World} {v : Value} {l : List α} (h : FreshS B w v l) (hB : B' ≤ B) : FreshS B' w v l := by
  obtain ⟨fp, ho, hn, hb⟩ := h
  exact ⟨fp, ho, hn, fun b hbf => Nat.le_trans hB (hb b hbf)⟩
end Go.Mux
namespace Go.Proofs.Ytnidoeapoknhdaa
open Go.RowKit Go.Mux
set_option maxRecDepth 100000 in
set_option maxHeartbeats 1000000 in
theorem impl_Keep' (w : World) (v : Value) (l : List DHist) (n : Int) (h : RepS w v l) (hn : I64 n) (hsz : l.length + (l.map DHist.bulk).sum ≤ 1048576) :
    Calls Try.prog 25 #[v, .int .i64 n] w (Gives w fun r w' => FreshS w.heap.size w' r (keep l n)) := by
  obtain ⟨hlen, hdat⟩ := hist_lens hsz
  have HH := Lib.hid h
  have HDT := Lib.hid hdat
  obtain ⟨a, cap, rfl, hl', hc⟩ := h
  have HC := Lib.hid hc
  unfold I64 at hn
  clear hc hsz hdat
  by_cases hn0 : n < 0
  · have d0 : decide (n < 0) = true := decide_eq_true hn0
    have HK : Hid (keep l n = []) := by show keep l n = []; unfold keep; rw [if_pos hn0]
    go_enter Try.func25, Try.ntmps25
    go_wp2_with fail
    go_ret
    exact ⟨_, rfl, ⟨[], by rw [HK.out]; exact OwnS.nil _, by simp, by simp⟩, Below.refl _ _⟩
  · obtain ⟨m, rfl⟩ : ∃ m : Nat, n = m := ⟨n.toNat, by omega⟩
    have d0 : decide ((m : Int) < 0) = false := decide_eq_false hn0
    go_enter Try.func25, Try.ntmps25
    go_wp2_with fail
    go_loopw [1, 5] (fun nv i wr => ∃ (k q : Nat), k ≤ l.length ∧ i = .int .i64 k ∧ nv = .int .i64 (q : Nat) ∧ q ≤ m ∧ Hid (keepLen l m = k + keepLen (l.drop k) q) ∧ Hid (Below w.heap.size w wr)) (fun _ i _ => l.length - (intOf i).toNat)
    case atStart => exact ⟨0, m, Nat.zero_le _, rfl, rfl, Nat.le_refl _, by show _ = _; simp, Below.refl _ _⟩
    case round =>
      obtain ⟨k, q, hk, rfl, rfl, hq, HK, HB⟩ := hrel
      by_cases hlt : k < l.length
      · have hB0 := HB.out
        have HC2 := HC
        have hne : l ≠ [] := by intro e; rw [e] at hlt; simp at hlt
        obtain ⟨b, off, rfl, hc⟩ := HC.out hne
        obtain ⟨x, hx⟩ : ∃ x, l[k]? = some x := ⟨l[k], by simp [hlt]⟩
        obtain ⟨rr, hrep, hcell⟩ := hc k x hx
        have HI := Lib.hid (show (Try.prog.info? 73).map (·.size) = some rr.length by rw [Rep.len hrep]; exact size_implHist)
        have HL := Lib.hid (show ∀ (j : Nat) u, rr[j]? = some u → wr.cell? ⟨b, off + k * 9 + j, none⟩ = some u from fun j u hu => (hB0.cell (p := ⟨b, _, none⟩) (World.block_lt_of_cell? w _ (hcell j u hu))).trans (hcell j u hu))
        have HR := Lib.hid hrep
        have HX := Lib.hid hx
        obtain ⟨xa0, xn0, xc0, rfl⟩ := DHist.shape hrep
        clear hc hcell hrep hne hx
        clear hB0
        have eL : wr.cell? ⟨b, off + k * 9, none⟩ = some (.bool x.Lost) := by simpa using HL.out 0 _ rfl
        cases hx : x.Lost
        · rw [hx] at eL
          by_cases hq0 : q = 0
          · have dq : decide ((0 : Int) < (q : Int)) = false := decide_eq_false (by omega)
            have HKE := Lib.hid (show keepLen l m = k from by rw [HK.out, hq0, keep_stop HX.out hx]; rfl)
            have HT := Lib.hid ((HH.out.mono HB.out).take hk)
            go_wp2_with fail
            refine (impl_copyHist _ _ (l.take k) HT.out (by simp; omega) (fun y hy => HDT.out y (List.mem_of_mem_take hy))).mono ?_
            rintro e W1 ⟨_, rfl, HF, hb⟩
            have HFF := Lib.hid HF
            have HB1 := Lib.hid (bel_next HB.out hb)
            have hzz := HB.out.size
            clear hb HF
            go_wp2_with fail
            go_ret
            exact ⟨_, rfl, by rw [keep_take HKE.out]; exact HFF.out.low hzz, HB1.out⟩
          · have dq : decide ((0 : Int) < (q : Int)) = true := decide_eq_true (by omega)
            obtain ⟨q', hq'⟩ : ∃ q', q = q' + 1 := ⟨q - 1, by omega⟩
            have hqw : IntKind.i64.wrap ((q : Int) - 1) = (q' : Int) := by rw [IntKind.wrap_i64]; omega
            go_wp2_with fail
            go_roundw
            case rel => exact ⟨k + 1, q', by omega, by go_num, by go_num, by omega, by show _ = _; rw [HK.out, hq', keep_op HX.out hx]; omega, HB⟩
            case measure => simp [intOf]; omega
        · rw [hx] at eL
          go_wp2_with fail
          go_roundw
          case rel => exact ⟨k + 1, q, by omega, by go_num, rfl, hq, by show _ = _; rw [HK.out, keep_lost HX.out hx]; omega, HB⟩
          case measure => simp [intOf]; omega
      · obtain rfl : k = l.length := by omega
        have HKE := Lib.hid (show keepLen l m = l.length from by rw [HK.out, keep_end]; rfl)
        have HT := Lib.hid ((HH.out.mono HB.out).take hk)
        go_wp2_with fail
        refine (impl_copyHist _ _ (l.take l.length) HT.out (by simp; omega) (fun y hy => HDT.out y (List.mem_of_mem_take hy))).mono ?_
        rintro e W1 ⟨_, rfl, HF, hb⟩
        have HFF := Lib.hid HF
        have HB1 := Lib.hid (bel_next HB.out hb)
        have hzz := HB.out.size
        clear hb HF
        go_wp2_with fail
        go_ret
        exact ⟨_, rfl, by rw [keep_take HKE.out]; exact HFF.out.low hzz, HB1.out⟩
set_option maxRecDepth 100000 in
set_option maxHeartbeats 1000000 in
theorem spec_Keep' (w : World) (v : Value) (l : List DHist) (n : Int) (h : RepS w v l) (hn : I64 n) (hsz : l.length + (l.map DHist.bulk).sum ≤ 1048576) :
    Calls Try.prog 24 #[v, .int .i64 n] w (Gives w fun r w' => FreshS w.heap.size w' r (keep l n)) := by
  obtain ⟨hlen, hdat⟩ := hist_lens hsz
  have HH := Lib.hid h
  have HDT := Lib.hid hdat
  obtain ⟨a, cap, rfl, hl', hc⟩ := h
  have HC := Lib.hid hc
  unfold I64 at hn
  clear hc hsz hdat
  by_cases hn0 : n < 0
  · have d0 : decide (n < 0) = true := decide_eq_true hn0
    have HK : Hid (keep l n = []) := by show keep l n = []; unfold keep; rw [if_pos hn0]
    go_enter Try.func24, Try.ntmps24
    go_wp2_with fail
    go_ret
    exact ⟨_, rfl, ⟨[w.heap.size], by rw [HK.out]; exact OwnS.empty (α := DHist) (e := 73) rfl (heap_alloc_new w (.cells #[] 73)), by simp, by simp⟩, bel_alloc (Below.refl _ _) _⟩
  · obtain ⟨m, rfl⟩ : ∃ m : Nat, n = m := ⟨n.toNat, by omega⟩
    have d0 : decide ((m : Int) < 0) = false := decide_eq_false hn0
    go_enter Try.func24, Try.ntmps24
    go_wp2_with fail
    have HE0 := Lib.hid (OwnS.empty (α := DHist) (e := 73) rfl (heap_alloc_new w (.cells #[] 73)))
    go_loopw [1, 5, 14] (fun nv v i wr => ∃ (k q : Nat) (fp : List Nat), k ≤ l.length ∧ i = .int .i64 k ∧ nv = .int .i64 (q : Nat) ∧ q ≤ m ∧ Hid (keepLen l m = k + keepLen (l.drop k) q) ∧ Hid (OwnS wr v (l.take k) fp ∧ fp.Nodup ∧ ∀ b ∈ fp, w.heap.size ≤ b) ∧ Hid (Below w.heap.size w wr)) (fun _ _ i _ => l.length - (intOf i).toNat)
    case atStart => exact ⟨0, m, [w.heap.size], Nat.zero_le _, rfl, rfl, Nat.le_refl _, by show _ = _; simp, ⟨by simpa using HE0.out, by simp, by simp⟩, bel_alloc (Below.refl _ _) _⟩
    case round =>
      obtain ⟨k, q, fp, hk, rfl, rfl, hq, HK, HO, HB⟩ := hrel
      have hzr := HB.out.size
      by_cases hlt : k < l.length
      · have hB0 := HB.out
        have hne : l ≠ [] := by intro e; rw [e] at hlt; simp at hlt
        obtain ⟨b, off, rfl, hc⟩ := HC.out hne
        obtain ⟨x, hx⟩ : ∃ x, l[k]? = some x := ⟨l[k], by simp [hlt]⟩
        obtain ⟨rr, hrep, hcell⟩ := hc k x hx
        have HI := Lib.hid (show (Try.prog.info? 73).map (·.size) = some rr.length by rw [Rep.len hrep]; exact size_implHist)
        have HL := Lib.hid (show ∀ (j : Nat) u, rr[j]? = some u → wr.cell? ⟨b, off + k * 9 + j, none⟩ = some u from fun j u hu => (hB0.cell (p := ⟨b, _, none⟩) (World.block_lt_of_cell? w _ (hcell j u hu))).trans (hcell j u hu))
        have HR := Lib.hid hrep
        have HX := Lib.hid hx
        obtain ⟨xa0, xn0, xc0, rfl⟩ := DHist.shape hrep
        clear hc hcell hrep hne hx
        clear hB0
        have hdl := HDT.out x (List.mem_of_getElem? HX.out)
        cases hx : x.Lost
        · rw [hx] at HR HL HI
          by_cases hq0 : q = 0
          · have dq : decide ((q : Int) = 0) = true := decide_eq_true (by omega)
            have dq2 : ((q : Int) == 0) = true := by simp; omega
            have HKE := Lib.hid (show keepLen l m = k from by rw [HK.out, hq0, keep_stop HX.out hx]; rfl)
            go_wp2_with (with_reducible (show wpList _ _ _ (Oper.mk _ (Op.load 73 _) _ _ _ _ :: _) _ _); refine wpList_load_agg rfl 73 _ rfl b _ rfl _ _ HL.out Try.underlying73 HI.out ?_)
            go_ret
            exact ⟨_, rfl, by rw [keep_take HKE.out]; exact ⟨fp, HO.out.1.grow (bel_alloc (Below.refl _ _) _), HO.out.2⟩, bel_alloc HB.out _⟩
          · have dq : decide ((q : Int) = 0) = false := decide_eq_false (by omega)
            have dq2 : ((q : Int) == 0) = false := by simp; omega
            obtain ⟨q', hq'⟩ : ∃ q', q = q' + 1 := ⟨q - 1, by omega⟩
            have hqw : IntKind.i64.wrap ((q : Int) - 1) = (q' : Int) := by rw [IntKind.wrap_i64]; omega
            go_wp2_with (first
              | (with_reducible (show wpList _ _ _ (Oper.mk _ (Op.load 73 _) _ _ _ _ :: _) _ _); refine wpList_load_agg rfl 73 _ rfl b _ rfl _ _ HL.out Try.underlying73 HI.out ?_)
              | (go_at_call 53; refine (spec_l22Hist _ [_, _, _, _, _, _, _, _, _] x (Rep.mono HR.out (bel_alloc HB.out _)) (by omega)).mono ?_; rintro e W1 ⟨_, rfl, ⟨cs2, rfl, HF⟩, hb⟩; obtain ⟨a0, n0, c0, rfl⟩ := DHist.shape HF.rep; obtain ⟨f, hoF, hnF, hbF⟩ := HF; rw [hx] at hoF; have HOF := Lib.hid hoF; have HBF := Lib.hid hbF; have HB1 := Lib.hid (bel_next (bel_alloc (Below.refl wr.heap.size wr) _) hb); have cX := fun o => hb.cell (p := ⟨wr.heap.size, o, none⟩) (by simp); have fX := fun o => hb.frozen (p := ⟨wr.heap.size, o, none⟩) (by simp); have hz1 := hb.size; simp only [World.size_alloc] at hz1; have hx1 : wr.heap.size < W1.heap.size := (by omega); clear hb hoF hbF)
              | (at_builtin; have HA := Lib.hid (HO.out.1.grow (show Below wr.heap.size wr (W1.alloc (.cells #[.bool false, .int .i64 x.Op.Kind, .int .i64 x.Op.A, .int .i64 x.Op.B, .int .i64 x.Op.C, .string x.Op.Name, .string x.Op.Text, .string x.Op.Dir, .slice a0 n0 c0] 73)) from bel_alloc HB1.out _)); have HROW := Lib.hid (show Rep.own (W1.alloc (.cells #[.bool false, .int .i64 x.Op.Kind, .int .i64 x.Op.A, .int .i64 x.Op.B, .int .i64 x.Op.C, .string x.Op.Name, .string x.Op.Text, .string x.Op.Dir, .slice a0 n0 c0] 73)) [.bool false, .int .i64 x.Op.Kind, .int .i64 x.Op.A, .int .i64 x.Op.B, .int .i64 x.Op.C, .string x.Op.Name, .string x.Op.Text, .string x.Op.Dir, .slice a0 n0 c0] x f from Rep.ownMono HOF.out (fun b hb => Below.heap_alloc _ _ b (Rep.ownLt HOF.out b hb))); have HND := Lib.hid (show (fp ++ [f].flatten).Nodup from by rw [show [f].flatten = f from by simp]; exact List.nodup_append.2 ⟨HO.out.2.1, hnF, fun a ha b hb e => by have h1 := HO.out.1.lt a ha; have h2 := HBF.out b hb; simp at h2; omega⟩); have HW := Lib.hid (show Below w.heap.size w (W1.alloc (.cells #[.bool false, .int .i64 x.Op.Kind, .int .i64 x.Op.A, .int .i64 x.Op.B, .int .i64 x.Op.C, .string x.Op.Name, .string x.Op.Text, .string x.Op.Dir, .slice a0 n0 c0] 73)) from bel_next HB.out (bel_alloc HB1.out _)); refine wpList_append_rep (α := DHist) rfl _ _ 25 rfl 73 _ 112 Try.underlying25 info_implHist rfl rfl (of_decide_eq_true (by kernel_rfl)) u5 _ fp rfl HA.out _ 1 1 rfl [x] rfl [[.bool false, .int .i64 x.Op.Kind, .int .i64 x.Op.A, .int .i64 x.Op.B, .int .i64 x.Op.C, .string x.Op.Name, .string x.Op.Text, .string x.Op.Dir, .slice a0 n0 c0]] [f] (Rows.one HROW.out) HND.out (fun _ => ⟨_, 0, rfl, row_new _ _ _ (by simp)⟩) (fun _ => .inr trivial) (by simp; omega) (by simp; omega) ?_; intro v' w' fp' HO' HN' HF' HG HOB; have HB' := Lib.hid (Below.grown HW.out HG (by have := HW.out.size; exact this) (fun g hg => HO.out.2.2 g (HOB g hg))); have HO2 := Lib.hid (show OwnS w' v' (l.take (k + 1)) fp' ∧ fp'.Nodup ∧ ∀ b ∈ fp', w.heap.size ≤ b from ⟨by rw [List.take_add_one, HX.out]; exact HO', HN', fun b hb => (HF' b hb).elim (HO.out.2.2 b) (fun h => h.elim (fun h => by have h2 := HBF.out b (by simpa using h); simp at h2; omega) (fun h => by rw [h]; simp; omega))⟩); clear HO' HN' HF' HG HOB))
            go_roundw
            case rel => exact ⟨k + 1, q', fp', by omega, by go_num, by go_num, by omega, by show _ = _; rw [HK.out, hq', keep_op HX.out hx]; omega, HO2, HB'⟩
            case measure => simp [intOf]; omega
        · rw [hx] at HR HL HI
          go_wp2_with (first
            | (with_reducible (show wpList _ _ _ (Oper.mk _ (Op.load 73 _) _ _ _ _ :: _) _ _); refine wpList_load_agg rfl 73 _ rfl b _ rfl _ _ HL.out Try.underlying73 HI.out ?_)
            | (go_at_call 53; refine (spec_l22Hist _ [_, _, _, _, _, _, _, _, _] x (Rep.mono HR.out (bel_alloc HB.out _)) (by omega)).mono ?_; rintro e W1 ⟨_, rfl, ⟨cs2, rfl, HF⟩, hb⟩; obtain ⟨a0, n0, c0, rfl⟩ := DHist.shape HF.rep; obtain ⟨f, hoF, hnF, hbF⟩ := HF; rw [hx] at hoF; have HOF := Lib.hid hoF; have HBF := Lib.hid hbF; have HB1 := Lib.hid (bel_next (bel_alloc (Below.refl wr.heap.size wr) _) hb); have cX := fun o => hb.cell (p := ⟨wr.heap.size, o, none⟩) (by simp); have fX := fun o => hb.frozen (p := ⟨wr.heap.size, o, none⟩) (by simp); have hz1 := hb.size; simp only [World.size_alloc] at hz1; have hx1 : wr.heap.size < W1.heap.size := (by omega); clear hb hoF hbF)
            | (at_builtin; have HA := Lib.hid (HO.out.1.grow (show Below wr.heap.size wr (W1.alloc (.cells #[.bool true, .int .i64 x.Op.Kind, .int .i64 x.Op.A, .int .i64 x.Op.B, .int .i64 x.Op.C, .string x.Op.Name, .string x.Op.Text, .string x.Op.Dir, .slice a0 n0 c0] 73)) from bel_alloc HB1.out _)); have HROW := Lib.hid (show Rep.own (W1.alloc (.cells #[.bool true, .int .i64 x.Op.Kind, .int .i64 x.Op.A, .int .i64 x.Op.B, .int .i64 x.Op.C, .string x.Op.Name, .string x.Op.Text, .string x.Op.Dir, .slice a0 n0 c0] 73)) [.bool true, .int .i64 x.Op.Kind, .int .i64 x.Op.A, .int .i64 x.Op.B, .int .i64 x.Op.C, .string x.Op.Name, .string x.Op.Text, .string x.Op.Dir, .slice a0 n0 c0] x f from Rep.ownMono HOF.out (fun b hb => Below.heap_alloc _ _ b (Rep.ownLt HOF.out b hb))); have HND := Lib.hid (show (fp ++ [f].flatten).Nodup from by rw [show [f].flatten = f from by simp]; exact List.nodup_append.2 ⟨HO.out.2.1, hnF, fun a ha b hb e => by have h1 := HO.out.1.lt a ha; have h2 := HBF.out b hb; simp at h2; omega⟩); have HW := Lib.hid (show Below w.heap.size w (W1.alloc (.cells #[.bool true, .int .i64 x.Op.Kind, .int .i64 x.Op.A, .int .i64 x.Op.B, .int .i64 x.Op.C, .string x.Op.Name, .string x.Op.Text, .string x.Op.Dir, .slice a0 n0 c0] 73)) from bel_next HB.out (bel_alloc HB1.out _)); refine wpList_append_rep (α := DHist) rfl _ _ 25 rfl 73 _ 112 Try.underlying25 info_implHist rfl rfl (of_decide_eq_true (by kernel_rfl)) u5 _ fp rfl HA.out _ 1 1 rfl [x] rfl [[.bool true, .int .i64 x.Op.Kind, .int .i64 x.Op.A, .int .i64 x.Op.B, .int .i64 x.Op.C, .string x.Op.Name, .string x.Op.Text, .string x.Op.Dir, .slice a0 n0 c0]] [f] (Rows.one HROW.out) HND.out (fun _ => ⟨_, 0, rfl, row_new _ _ _ (by simp)⟩) (fun _ => .inr trivial) (by simp; omega) (by simp; omega) ?_; intro v' w' fp' HO' HN' HF' HG HOB; have HB' := Lib.hid (Below.grown HW.out HG (by have := HW.out.size; exact this) (fun g hg => HO.out.2.2 g (HOB g hg))); have HO2 := Lib.hid (show OwnS w' v' (l.take (k + 1)) fp' ∧ fp'.Nodup ∧ ∀ b ∈ fp', w.heap.size ≤ b from ⟨by rw [List.take_add_one, HX.out]; exact HO', HN', fun b hb => (HF' b hb).elim (HO.out.2.2 b) (fun h => h.elim (fun h => by have h2 := HBF.out b (by simpa using h); simp at h2; omega) (fun h => by rw [h]; simp; omega))⟩); clear HO' HN' HF' HG HOB))
          go_roundw
          case rel => exact ⟨k + 1, q, fp', by omega, by go_num, rfl, hq, by show _ = _; rw [HK.out, keep_lost HX.out hx]; omega, HO2, HB'⟩
          case measure => simp [intOf]; omega
      · obtain rfl : k = l.length := by omega
        have HKE := Lib.hid (show keepLen l m = l.length from by rw [HK.out, keep_end]; rfl)
        go_wp2_with fail
        go_ret
        exact ⟨_, rfl, by rw [keep_take HKE.out]; exact ⟨fp, HO.out.1, HO.out.2⟩, HB.out⟩
end Go.Proofs.Ytnidoeapoknhdaa
