/- The walk of the reference's Look, some rows back; both ways joined. -/
import Derived.Test.YtaobgfneeijpmaaFnLookT
import Derived.Deep.RegionHeld3
set_option linter.unusedSimpArgs false
set_option linter.unusedVariables false
namespace Go.Mux
open Go.RowKit
/-- The first k rows that scrolled out, as wide as the screen. -/
@[irreducible] def fillsTop (x : DScr) (m k : Nat) : List DCell := ((x.Back.take k).map fun r => fillTop r.Cells m).flatten
theorem fillsTop_zero (x : DScr) (m : Nat) : fillsTop x m 0 = [] := by unfold fillsTop; simp
theorem fillsTop_succ {x : DScr} {m k : Nat} {y : DRow} (h : x.Back[k]? = some y) : fillsTop x m (k + 1) = fillsTop x m k ++ fillTop y.Cells m := by
  unfold fillsTop
  rw [List.take_add_one, h]
  simp
theorem fillsTop_len {x : DScr} {m k : Nat} (h : k ≤ x.Back.length) : (fillsTop x m k).length = k * m := by
  unfold fillsTop
  rw [flat_len m _ (fun l hl => by obtain ⟨r, _, rfl⟩ := List.mem_map.1 hl; exact fillTop_len _ _), List.length_map, List.length_take, Nat.min_eq_left h]
theorem freshS_moved {α : Type} [Rep α] {B g : Nat} {W W1 : World} {v : Value} {l : List α} (h : FreshS B W v l) (hM : Moved g W W1) (hg : g < B) : FreshS B W1 v l := by
  obtain ⟨fp, ho, hn, hb⟩ := h
  exact ⟨fp, ho.mono (fun b hbf => hM.other b (by have := hb b hbf; omega)), hn, hb⟩
theorem lookBack_eq {x : DScr} {back : Int} {fr m n lo : Nat} (hf : fr = lookFrom x back) (hW : x.W = (m : Int)) (hn : x.W * x.H = (n : Int)) (hH : 0 ≤ x.H) (hl : lo = fr * m) : lookBack x back = { W := x.W, H := x.H, Cells := ((lookAll x).drop lo).take n } := by
  obtain ⟨h, hh⟩ : ∃ h : Nat, x.H = (h : Int) := ⟨x.H.toNat, by omega⟩
  rw [hW, hh, ← Int.natCast_mul] at hn
  have hn' : m * h = n := Int.ofNat.inj hn
  unfold lookBack
  rw [← hf, show x.W.toNat = m by rw [hW, Int.toNat_natCast], show x.H.toNat = h by rw [hh, Int.toNat_natCast], hn', ← hl]
theorem lookAll_eq {x : DScr} {m : Nat} (h : x.W = (m : Int)) : fillsTop x m x.Back.length ++ x.Main.Cells = lookAll x := by
  unfold fillsTop lookAll fillTop
  rw [List.take_length, h, Int.toNat_natCast]
end Go.Mux
namespace Go.Proofs.Ytaobgfneeijpmaa
open Go.RowKit Go.Mux
set_option maxRecDepth 100000 in
set_option maxHeartbeats 2000000 in
theorem spec_Look_back (w : World) (cs : List Value) (x : DScr) (back : Int) (h : Rep.rep w cs x) (hg : scrOkB x = true) (ho : x.OnAlt = false) (hp : 0 < back) : Calls Try.prog 12 #[.agg cs.toArray, .int .i64 back] w (Gives w fun r w' => ∃ cs', r = .agg cs'.toArray ∧ Rep.rep w' cs' (lookBack x back)) := by
  have HP := Lib.hid h
  obtain ⟨v0, v1, v2, v3, rfl, h0, h1, h2, h3, h4, h5, h6, h7, h8, h9, h10, h11, h12, h13, h14, h15, h16, h17, h18, h19, h20⟩ := DScr.rep_iff.1 h
  have HMC := Lib.hid h4
  obtain ⟨a0, n0, c0, rfl⟩ := h4.shape
  obtain ⟨a1, n1, c1, rfl⟩ := h7.shape
  obtain ⟨a3, c3, rfl, ⟨hl3, hl4⟩, hc3⟩ := h20
  have HC := Lib.hid hc3
  have q := scrOkB_true hg
  have HQ := Lib.hid q
  have HS := Lib.hid hg
  obtain ⟨e1, e2, -, -⟩ := scrSize_true q.2.2.2.2.2.2.1
  obtain ⟨s1, s2, s3, s4, s5, s6, s7⟩ := gridOkB_size q.2.2.2.2.1
  have hlb : x.Back.length ≤ 100 := by have := q.2.2.2.2.2.2.2.2.2.2.2.2.2.2.2.2.2.2.2.2.2.2; omega
  rw [e1, e2] at s5 s6 s7
  rw [e1] at s1 s2
  rw [e2] at s3 s4
  obtain ⟨m, hm⟩ : ∃ m : Nat, x.W = (m : Int) := ⟨x.W.toNat, by omega⟩
  have HWN := Lib.hid hm
  have hm2 : m ≤ 120 := by omega
  obtain ⟨n, hn⟩ : ∃ n : Nat, x.W * x.H = (n : Int) := ⟨(x.W * x.H).toNat, by omega⟩
  have HNN := Lib.hid hn
  have hn4 : n ≤ 4000 := by omega
  have hn1 : 1 ≤ n := by omega
  have HML := Lib.hid (show x.Main.Cells.length = n from by omega)
  obtain ⟨fr, hfr⟩ : ∃ fr, fr = lookFrom x back := ⟨_, rfl⟩
  have HFR := Lib.hid hfr
  have hfle : fr ≤ x.Back.length := by rw [hfr]; unfold lookFrom; omega
  have HCLM := Lib.hid (show clampI back (x.Back.length : Int) = ((x.Back.length - fr : Nat) : Int) from by rw [hfr]; unfold clampI lookFrom; split <;> (try split) <;> omega)
  have hsub : IntKind.i64.wrap ((x.Back.length : Int) - ((x.Back.length - fr : Nat) : Int)) = (fr : Int) := by rw [IntKind.wrap_i64]; omega
  have hfm : fr * m ≤ 100 * 120 := Nat.mul_le_mul (by omega) hm2
  obtain ⟨lo, hlo⟩ : ∃ lo, lo = fr * m := ⟨_, rfl⟩
  have HLO := Lib.hid hlo
  obtain ⟨hi, hhi⟩ : ∃ hi, hi = lo + n := ⟨_, rfl⟩
  have HHI := Lib.hid hhi
  have hmul : IntKind.i64.wrap ((fr : Int) * x.W) = (lo : Int) := by rw [hm, ← Int.natCast_mul, IntKind.wrap_i64]; omega
  have hmul2 : IntKind.i64.wrap (x.W * x.H) = (n : Int) := by rw [hn, IntKind.wrap_i64]; omega
  have hadd : IntKind.i64.wrap ((lo : Int) + (n : Int)) = (hi : Int) := by rw [IntKind.wrap_i64]; omega
  have hd : decide (back ≤ 0) = false := decide_eq_false (by omega)
  have HI1 := Lib.hid h0
  have HI2 := Lib.hid h1
  rw [ho] at HP ⊢
  clear h h0 h1 h2 h3 h4 h5 h6 h7 h8 h9 h10 h11 h12 h13 h14 h15 h16 h17 h18 h19 q hg hc3 e1 e2 s5 s6 s7 ho hm hn hfr hlo hhi
  go_enter Try.func12, Try.ntmps12
  go_wp2_with (first | ((with_reducible (show wpList _ _ _ (Oper.mk _ (Op.load 31 _) _ _ _ _ :: _) _ _)); generalize hwb : World.alloc (World.alloc w _) _ = W0; have HB0 := Lib.hid (show Below w.heap.size w W0 from (by rw [← hwb]; exact bel_alloc (bel_alloc (Below.refl _ _) _) _)); have hz0 : w.heap.size + 1 < W0.heap.size := (by rw [← hwb]; simp); have hr0 : W0.heap[w.heap.size]? = some (.cells #[.int .i64 x.W, .int .i64 x.H, .int .i64 x.Main.W, .int .i64 x.Main.H, .slice a0 n0 c0, .int .i64 x.Alt.W, .int .i64 x.Alt.H, .slice a1 n1 c1, .bool false, .int .i64 x.X, .int .i64 x.Y, .bool x.Wrap, .int .i64 x.A.Fg, .int .i64 x.A.Bg, .bool x.A.Bold, .bool x.A.Under, .bool x.A.Turn, .int .i64 x.Top, .int .i64 x.Bot, .bool x.NoWrap, .bool x.Hide, .int .i64 x.SaveX, .int .i64 x.SaveY, .int .i64 x.SaveA.Fg, .int .i64 x.SaveA.Bg, .bool x.SaveA.Bold, .bool x.SaveA.Under, .bool x.SaveA.Turn, v2, .int .i64 x.Limit, .slice a3 x.Back.length c3] 31 (0, 0)) := (by rw [← hwb]; exact (Below.heap_alloc _ _ _ (by simp)).trans (new_at _ _ rfl)); have hr1 : W0.heap[w.heap.size + 1]? = some (.cells #[.int .i64 0, .int .i64 0, .slice none 0 0] 25 (0, 0)) := (by rw [← hwb]; exact new_at _ _ (by simp)); clear hwb; refine wpList_load_row rfl 31 _ rfl w.heap.size rfl 31 #[.int .i64 x.W, .int .i64 x.H, .int .i64 x.Main.W, .int .i64 x.Main.H, .slice a0 n0 c0, .int .i64 x.Alt.W, .int .i64 x.Alt.H, .slice a1 n1 c1, .bool false, .int .i64 x.X, .int .i64 x.Y, .bool x.Wrap, .int .i64 x.A.Fg, .int .i64 x.A.Bg, .bool x.A.Bold, .bool x.A.Under, .bool x.A.Turn, .int .i64 x.Top, .int .i64 x.Bot, .bool x.NoWrap, .bool x.Hide, .int .i64 x.SaveX, .int .i64 x.SaveY, .int .i64 x.SaveA.Fg, .int .i64 x.SaveA.Bg, .bool x.SaveA.Bold, .bool x.SaveA.Under, .bool x.SaveA.Turn, v2, .int .i64 x.Limit, .slice a3 x.Back.length c3] (0, 0) _ hr0 Try.underlying31 rfl size_implScr ?_) | (go_at_call 27; refine (spec_ScrOk _ [_, _, _, _, _, _, _, _, _, _, _, _, _, _, _, _, _, _, _, _, _, _, _, _, _, _, _, _, _, _, _] x (Rep.mono HP.out HB0.out)).mono ?_; rintro e W1 ⟨_, rfl, rfl, hb⟩; rw [HS.out]; have HB1 := Lib.hid (bel_next HB0.out hb); have HS1 := Lib.hid ((hb.block (w.heap.size + 1) hz0).trans hr1); have hb1 := (hb.block w.heap.size (by omega)).trans hr0; have hz1 : w.heap.size + 1 < W1.heap.size := Nat.lt_of_lt_of_le hz0 hb.size; have hzz : w.heap.size < W1.heap.size := (by omega); have b0 : W1.cell? ⟨w.heap.size, 0, none⟩ = some (.int .i64 x.W) := (by simp only [World.cell?, hb1]; rfl); have b1 : W1.cell? ⟨w.heap.size, 1, none⟩ = some (.int .i64 x.H) := (by simp only [World.cell?, hb1]; rfl); have b4 : W1.cell? ⟨w.heap.size, 4, none⟩ = some (.slice a0 n0 c0) := (by simp only [World.cell?, hb1]; rfl); have b8 : W1.cell? ⟨w.heap.size, 8, none⟩ = some (.bool false) := (by simp only [World.cell?, hb1]; rfl); have b30 : W1.cell? ⟨w.heap.size, 30, none⟩ = some (.slice a3 x.Back.length c3) := (by simp only [World.cell?, hb1]; rfl); clear hb hr0 hr1 hb1))
  generalize hwb : World.alloc W1 _ = V0
  have HV0 := Lib.hid (show Below W1.heap.size W1 V0 from by rw [← hwb]; exact bel_alloc (Below.refl _ _) _)
  have HF0 := Lib.hid (show FreshS (α := DCell) W1.heap.size V0 (.slice (some ⟨W1.heap.size, 0, none⟩) 0 0) [] from ⟨[W1.heap.size], OwnS.empty (α := DCell) (e := 37) rfl (by rw [← hwb]; exact new_at _ _ rfl), by simp, by simp⟩)
  clear hwb
  go_loopw [5, 25] (fun rv i wr => ∃ k : Nat, k ≤ x.Back.length ∧ i = .int .i64 k ∧ Hid (FreshS W1.heap.size wr rv (fillsTop x m k)) ∧ Hid (Below W1.heap.size W1 wr)) (fun _ i _ => x.Back.length - (intOf i).toNat)
  case atStart => exact ⟨0, Nat.zero_le _, rfl, by show FreshS _ _ _ _; rw [fillsTop_zero]; exact HF0.out, HV0.out⟩
  case round =>
    obtain ⟨k, hk, rfl, HF, HB⟩ := hrel
    have hws := HB.out.size
    have hB0 := bel_next HB1.out HB.out
    have kA := fun o => HB.out.cell (p := ⟨w.heap.size, o, none⟩) hzz
    have hzr : w.heap.size < wr.heap.size := by omega
    have HLK := Lib.hid (fillsTop_len (m := m) hk)
    have hkm : k * m ≤ 100 * 120 := Nat.mul_le_mul (by omega) hm2
    obtain ⟨ra, rn, rc, rfl⟩ := HF.out.shape
    by_cases hlt : k < x.Back.length
    · have hne : x.Back ≠ [] := by intro e; rw [e] at hlt; simp at hlt
      obtain ⟨b, off, rfl, hc⟩ := HC.out hne
      obtain ⟨y, hx⟩ : ∃ y, x.Back[k]? = some y := ⟨x.Back[k], by simp [hlt]⟩
      obtain ⟨rr, hrep, hcell⟩ := hc k y hx
      simp only [show k * Rep.size DRow = k from Nat.mul_one k] at hcell
      have HI := Lib.hid (show (Try.prog.info? 39).map (·.size) = some rr.length by rw [Rep.len hrep]; exact size_implRow)
      have HL := Lib.hid (show ∀ (j : Nat) u, rr[j]? = some u → wr.cell? ⟨b, off + k + j, none⟩ = some u from fun j u hu => (hB0.cell (p := ⟨b, _, none⟩) (World.block_lt_of_cell? w _ (hcell j u hu))).trans (hcell j u hu))
      have HR := Lib.hid hrep
      have HX := Lib.hid hx
      obtain ⟨ya0, yn0, yc0, rfl⟩ := DRow.shape hrep
      clear hc hcell hrep hne hx
      have HBw := Lib.hid hB0
      have HY := Lib.hid (show RepS w (.slice ya0 yn0 yc0) y.Cells from by obtain ⟨v0, e, h⟩ := DRow.rep_iff.1 HR.out; simp at e; rw [e]; exact h)
      have HN := Lib.hid (fillsTop_succ (m := m) HX.out)
      clear hB0
      go_wp2_with (first | (with_reducible (show wpList _ _ _ (Oper.mk _ (Op.load 39 _) _ _ _ _ :: _) _ _); refine wpList_load_agg rfl 39 _ rfl b _ rfl _ _ HL.out Try.underlying39 HI.out ?_) | (go_at_call 36; refine (spec_l19Fill _ _ y.Cells x.W m (HY.out.mono (bel_alloc HBw.out _)) HWN.out hm2).mono ?_; rintro e W5 ⟨_, rfl, hF, hb⟩; obtain ⟨la, ln, lc, rfl⟩ := hF.repS.shape; have HF5 := Lib.hid hF; have HBC := Lib.hid (bel_next (bel_alloc (Below.refl wr.heap.size wr) _) hb); have hcs := hb.size; clear hb hF) | (at_builtin; go_loud (refine wpList_append_flat (α := DCell) rfl _ _ 23 rfl 37 _ _ Try.underlying23 info_implCell rfl rfl (by decide) W1.heap.size (by have := HBC.out.size; omega) _ (fillsTop x m k) rfl (HF.out.grow HBC.out) (.slice la ln lc) (fillTop y.Cells m) rfl HF5.out.repS (by rw [HLK.out, fillTop_len]; omega) (by rw [HLK.out, fillTop_len]; omega) ?_; intro v' W6 hF1 hb; have HF1 := Lib.hid hF1; have HB6 := Lib.hid (bel_upto (bel_next HB.out HBC.out) hb (Nat.le_refl _)); clear hF1 hb)))
      go_roundw
      case rel => exact ⟨k + 1, by omega, by go_num, by show FreshS _ _ _ _; rw [HN.out]; exact HF1.out, HB6.out⟩
      case measure => simp [intOf]; omega
    · have d1 : decide ((k : Int) < (x.Back.length : Int)) = false := decide_eq_false (by omega)
      have d2 : decide (k < x.Back.length) = false := decide_eq_false hlt
      obtain rfl : k = x.Back.length := by omega
      have HBw := Lib.hid hB0
      have HLA := Lib.hid (lookAll_eq (x := x) HWN.out)
      clear hB0
      go_wp2_with (at_builtin; go_loud (refine wpList_append_flat (α := DCell) rfl _ _ 23 rfl 37 _ _ Try.underlying23 info_implCell rfl rfl (by decide) W1.heap.size (by omega) _ (fillsTop x m x.Back.length) rfl HF.out (.slice a0 n0 c0) x.Main.Cells rfl (HMC.out.mono HBw.out) (by rw [HLK.out, HML.out]; omega) (by rw [HLK.out, HML.out]; omega) ?_; intro v' W6 hF1 hb; rw [HLA.out] at hF1; have HF1 := Lib.hid hF1; have HB6 := Lib.hid (bel_upto HB.out hb (Nat.le_refl _)); clear hF1 hb))
      obtain ⟨va0, vc0, vve, ⟨hv1, hv2⟩, hvc⟩ := HF1.out.repS
      obtain ⟨ab, aoff, rfl, -⟩ := hvc (by intro e; have := congrArg List.length e; rw [← HLA.out, List.length_append, HLK.out, HML.out] at this; simp only [List.length_nil] at this; omega)
      subst vve
      have HLL := Lib.hid (show (lookAll x).length = x.Back.length * m + n from by rw [← HLA.out, List.length_append, HLK.out, HML.out])
      have hfr2 : fr * m + n ≤ x.Back.length * m + n := Nat.add_le_add_right (Nat.mul_le_mul_right _ hfle) _
      have HSUB := Lib.hid (HF1.out.repS.sub (i := lo) (m := n) (by rw [HLL.out, HLO.out]; exact hfr2))
      have hLc : hi ≤ vc0 := by rw [HLL.out] at hv2; have h1 := HLO.out; have h2 := HHI.out; omega
      have hlh : lo ≤ hi := by have h2 := HHI.out; omega
      have hlh2 : (lo : Int) ≤ (hi : Int) := by omega
      have hlo0 : (0 : Int) ≤ (lo : Int) := by omega
      have hLc2 : (hi : Int) ≤ (vc0 : Int) := by omega
      have hnl : ¬vc0 = lo := by have h2 := HHI.out; omega
      have HDN := Lib.hid (show hi - lo = n from by have h2 := HHI.out; omega)
      have hw6 : w.heap.size < W6.heap.size := by have := HB6.out.size; omega
      have kW := fun o => HB6.out.cell (p := ⟨w.heap.size, o, none⟩) hzz
      have g0 := ext_cell (W := W6) (b := w.heap.size) (o := 0) ((kW 0).trans b0)
      have g1 := ext_cell (W := W6) (b := w.heap.size) (o := 1) ((kW 1).trans b1)
      have g30 := ext_cell (W := W6) (b := w.heap.size) (o := 30) ((kW 30).trans b30)
      have HCL2 := Lib.hid (show ∀ wx : World, Calls Try.prog 37 #[.int .i64 back, .int .i64 (x.Back.length : Int)] wx (Pure wx (.int .i64 ((x.Back.length - fr : Nat) : Int))) from fun wx => by have hh := spec_l02Clamp wx back (x.Back.length : Int); rw [HCLM.out] at hh; exact hh)
      clear hvc kA hfr2 hv1 hv2
      refine wp_region_ext (by kernel_rfl) (by kernel_rfl) ?_
      repeat (go_big_quiet_step ((go_at_call 37; exact ext_pure (HCL2.out _))))
      refine wpQuiet_nil ?_
      intro _ hw'
      obtain ⟨eW, rfl⟩ := hw'
      have HBe := Lib.hid (bel_next HB6.out eW.bel)
      have y0 := g0 eW
      have y1 := g1 eW
      have hzE : w.heap.size < eW.w.heap.size := Nat.lt_of_lt_of_le hw6 eW.bel.size
      have HSUBe := Lib.hid (HSUB.out.mono eW.bel)
      have HSE := Lib.hid (show eW.w.heap[w.heap.size + 1]? = some (.cells #[.int .i64 0, .int .i64 0, .slice none 0 0] 25 (0, 0)) from ((eW.bel.block _ (by have := HB6.out.size; omega)).trans (HB6.out.block _ hz1)).trans HS1.out)
      have hzE1 : w.heap.size + 1 < eW.w.heap.size := by have := HB6.out.size; have := eW.bel.size; omega
      go_wp2_with fail
      go_region_held3 (fun w' => w'.cell? ⟨w.heap.size, 0, none⟩ = some (.int .i64 x.W) ∧ w'.cell? ⟨w.heap.size, 1, none⟩ = some (.int .i64 x.H)) ((first | (with_reducible exact ⟨kE0, kE1⟩) | (refine ⟨?_, ?_⟩ <;> (repeat (first | (with_reducible assumption) | (rw [World.cell?_setCell_other _ _ _ _ (by first | (simp; done) | (simp; omega))]) | (rw [World.cell?_alloc_lt _ _ _ (by simp; omega)]))) <;> done) | go_keep))
        (go_loud (refine step_append_flat (α := DCell) rfl (.tmp 58) (.tmp 68) 23 rfl 37 _ _ Try.underlying23 info_implCell rfl rfl (by decide) eW.w.heap.size (by simp) (.slice (some ⟨eW.w.heap.size, 0, none⟩) 0 0) ([] : List DCell) rfl ⟨[eW.w.heap.size], OwnS.empty (α := DCell) (e := 37) rfl (new_at _ _ rfl), by simp, by simp⟩ (.slice (some ⟨ab, aoff + lo * 6, none⟩) (hi - lo) (vc0 - lo)) (((lookAll x).drop lo).take n) (by simp [Act.eval, Act.put]) (by rw [HDN.out]; exact HSUBe.out.mono (bel_alloc (Below.refl _ _).drew _)) (by simp; omega) (by simp; omega) ?_; intro v' W8 hF hb; have HF8 := Lib.hid hF; have HB8 := Lib.hid (bel_upto (show Below eW.w.heap.size eW.w _ from bel_alloc (Below.refl _ _).drew _) hb (Nat.le_refl _)); obtain ⟨va, vn, vc, rfl⟩ := hF.repS.shape; have kE0 : W8.cell? ⟨w.heap.size, 0, none⟩ = some (.int .i64 x.W) := (HB8.out.cell (p := ⟨w.heap.size, 0, none⟩) hzE).trans y0; have kE1 : W8.cell? ⟨w.heap.size, 1, none⟩ = some (.int .i64 x.H) := (HB8.out.cell (p := ⟨w.heap.size, 1, none⟩) hzE).trans y1; have hS8 := (HB8.out.block _ hzE1).trans HSE.out; have c0 : W8.cell? ⟨w.heap.size + 1, 0, none⟩ = some (.int .i64 0) := (by simp only [World.cell?, hS8]; rfl); have c1 : W8.cell? ⟨w.heap.size + 1, 1, none⟩ = some (.int .i64 0) := (by simp only [World.cell?, hS8]; rfl); have c2 : W8.cell? ⟨w.heap.size + 1, 2, none⟩ = some (.slice none 0 0) := (by simp only [World.cell?, hS8]; rfl); have f0 : W8.frozen? ⟨w.heap.size + 1, 0, none⟩ = false := (by simp [World.frozen?, hS8]); have f1 : W8.frozen? ⟨w.heap.size + 1, 1, none⟩ = false := (by simp [World.frozen?, hS8]); have f2 : W8.frozen? ⟨w.heap.size + 1, 2, none⟩ = false := (by simp [World.frozen?, hS8]); have HS8 := Lib.hid hS8; clear hF hb hS8))
      go_wp2_with fail
      obtain ⟨hs, hM⟩ := set3 (v0 := .int .i64 x.W) (v1 := .int .i64 x.H) (v2 := .slice va vn vc) HS8.out
      have hFF := freshS_moved HF8.out hM hzE1
      rw [List.nil_append] at hFF
      exact bodyPost_ret (results_cell_row Try.results12 _ _ (w.heap.size + 1) 25 #[.int .i64 x.W, .int .i64 x.H, .slice va vn vc] (0, 0) _ rfl hs Try.underlying25 rfl size_implGrid) rfl ⟨_, rfl, ⟨[.int .i64 x.W, .int .i64 x.H, .slice va vn vc], rfl, by rw [lookBack_eq HFR.out HWN.out HNN.out (by omega) HLO.out]; exact DGrid.rep_iff.2 ⟨_, rfl, HI1.out, HI2.out, hFF.repS⟩⟩, hM.below (bel_next (bel_next HB1.out HBe.out) HB8.out) (by omega)⟩
theorem spec_Look' (w : World) (cs : List Value) (x : DScr) (back : Int) (h : Rep.rep w cs x) : Calls Try.prog 12 #[.agg cs.toArray, .int .i64 back] w (Gives w fun r w' => ∃ cs', r = .agg cs'.toArray ∧ Rep.rep w' cs' (lookG x back)) := by
  cases hg : scrOkB x
  · exact spec_Look_no w cs x back h hg
  · cases hs : (x.OnAlt || decide (back ≤ 0))
    · rw [look_back hg hs]
      simp only [Bool.or_eq_false_iff, decide_eq_false_iff_not] at hs
      exact spec_Look_back w cs x back h hg hs.1 (by omega)
    · exact spec_Look_shown w cs x back h hg hs
end Go.Proofs.Ytaobgfneeijpmaa
