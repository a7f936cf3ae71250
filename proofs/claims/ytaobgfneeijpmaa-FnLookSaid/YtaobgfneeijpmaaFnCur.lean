/- The cursor of the draws (l01Cur): a block of its own whose two numbers turn; what is drawn lies in its bounds. -/
import Derived.Test.YtaobgfneeijpmaaFnSame
import Derived.Laws.Bits64b
set_option linter.unusedSimpArgs false
set_option linter.unusedVariables false
namespace Go.Mux
open Go.RowKit
theorem and_bound (z : Int) (m : Nat) (hm : m < 4611686018427387904) : 0 ≤ bits .and .i64 z (m : Int) ∧ bits .and .i64 z (m : Int) ≤ (m : Int) := by
  have h2 : (BitVec.ofInt 64 (m : Int)).toNat = m := by
    rw [BitVec.ofInt_natCast, BitVec.toNat_ofNat]; exact Nat.mod_eq_of_lt (by omega)
  have h : bits .and .i64 z (m : Int) = IntKind.i64.wrap ((BitVec.ofInt 64 z &&& BitVec.ofInt 64 (m : Int)).toNat : Int) := rfl
  have hle : (BitVec.ofInt 64 z &&& BitVec.ofInt 64 (m : Int)).toNat ≤ m := by rw [BitVec.toNat_and, h2]; exact Nat.and_le_right
  rw [h, IntKind.wrap_i64]
  omega
theorem act_put_none (a : Act) (v : Value) : a.put none v = a := rfl
theorem and255 (z : Int) : 0 ≤ bits .and .i64 z 255 ∧ bits .and .i64 z 255 ≤ 255 := and_bound z 255 (by omega)
/-- A cursor at block C, newer than w0, over bytes that were there in w0. -/
def Cur (w0 : World) (C : Nat) (w : World) : Prop :=
  w0.heap.size ≤ C ∧ ∃ (l : List UInt8) (v : Value) (i : Nat) (h : Int), RepS w0 v l ∧ l.length ≤ 1048576 ∧ i ≤ l.length ∧ w.heap[C]? = some (.cells #[v, .int .i64 (i : Int), .int .i64 h] 84 (0, 0))
theorem Cur.keep {w0 w w' : World} {C : Nat} (h : Cur w0 C w) (hk : w'.heap[C]? = w.heap[C]?) : Cur w0 C w' := by
  obtain ⟨h0, l, v, i, n, h1, h2, h3, h4⟩ := h
  exact ⟨h0, l, v, i, n, h1, h2, h3, hk.trans h4⟩
theorem Cur.lt {w0 w : World} {C : Nat} (h : Cur w0 C w) : C < w.heap.size := by
  obtain ⟨_, _, _, _, _, _, _, _, h4⟩ := h
  exact (Array.getElem?_eq_some_iff.1 h4).1
theorem Part.trans {G : Nat} {W W1 W2 : World} (h : Part G W W1) (h2 : Part G W1 W2) : Part G W W2 :=
  ⟨h2.os.trans h.os, h2.tape.trans h.tape, h2.output.trans h.output, Nat.le_trans h.size h2.size, fun k hk hg => (h2.other k (Nat.lt_of_lt_of_le hk h.size) hg).trans (h.other k hk hg)⟩
theorem Cur.base {w0 w : World} {C : Nat} (h : Cur w0 C w) : w0.heap.size ≤ C := h.1
theorem mod_draw {x n : Int} (hn : 1 ≤ n) : 0 ≤ x % n ∧ x % n ≤ n - 1 := by
  have := Int.emod_nonneg x (show n ≠ 0 by omega)
  have := Int.emod_lt_of_pos x (show 0 < n by omega)
  omega
/-- A draw from the cursor: a number from lo to hi; of what was there block C alone has turned. -/
def Draws (w0 : World) (C : Nat) (w : World) (lo hi : Int) (e : Ending) (w' : World) : Prop := ∃ n : Int, e = .returned (.int .i64 n) ∧ lo ≤ n ∧ n ≤ hi ∧ Cur w0 C w' ∧ Part C w w'
end Go.Mux
namespace Go.Proofs.Ytaobgfneeijpmaa
open Go.RowKit Go.Mux
set_option maxRecDepth 100000 in
set_option maxHeartbeats 1000000 in
theorem spec_l01Byte (w0 w : World) (C : Nat) (hc : Cur w0 C w) (hb : Below w0.heap.size w0 w) : Calls Try.prog 76 #[.pointer (some ⟨C, 0, none⟩)] w (Draws w0 C w 0 255) := by
  obtain ⟨hC, l, v, i, h, hR, hl, hi, hrow⟩ := hc
  have HR := Lib.hid hR
  obtain ⟨va, vc, rfl, hl2, hbc⟩ := bytes_open hR
  have HBC := Lib.hid hbc
  have HB := Lib.hid hb
  clear hb hR hbc
  have b2 : w.cell? ⟨C, 2, none⟩ = some (.int .i64 h) := by simp only [World.cell?, hrow]; rfl
  obtain ⟨h2, hh2⟩ : ∃ h2, h2 = wrap64 (wrap64 (h * 6364136223846793005) + 1442695040888963407) := ⟨_, rfl⟩
  have HH2 := Lib.hid hh2
  clear hh2
  go_enter Try.func76, Try.ntmps76
  go_wp2_with ((with_reducible (show wpList _ _ _ (Oper.mk _ (Op.store 3 (Operand.tmp 12) _) _ _ _ _ :: _) _ _)); refine wpList_store_at rfl 3 _ _ rfl C 2 rfl (.int .i64 (wrap64 (wrap64 (h * 6364136223846793005) + 1442695040888963407))) rfl [.int .i64 (wrap64 (wrap64 (h * 6364136223846793005) + 1442695040888963407))] rfl #[.slice va l.length vc, .int .i64 (i : Int), .int .i64 h] 84 hrow (Nat.le_of_ble_eq_true rfl) (by simp [Value.oneCell']) (show (Try.prog.info? 3).map (·.size) = some 1 by kernel_rfl) ?_; intro W1 hW; (try rw [act_put_none]); have hM1 := Moved.row hW; have hr1 : W1.heap[C]? = some (.cells #[.slice va l.length vc, .int .i64 (i : Int), .int .i64 h2] 84 (0, 0)) := (by rw [hW, setRow_heap _ _ _ _ _ _ hrow, HH2.out]; rfl); clear hW)
  have HB1 := Lib.hid (hM1.below HB.out hC)
  have HP1 := Lib.hid ((Part.refl C w).moved hM1)
  have hCl : C < W1.heap.size := (Array.getElem?_eq_some_iff.1 hr1).1
  have k0 : W1.cell? ⟨C, 0, none⟩ = some (.slice va l.length vc) := by simp only [World.cell?, hr1]; rfl
  have k1 : W1.cell? ⟨C, 1, none⟩ = some (.int .i64 (i : Int)) := by simp only [World.cell?, hr1]; rfl
  have k2 : W1.cell? ⟨C, 2, none⟩ = some (.int .i64 h2) := by simp only [World.cell?, hr1]; rfl
  have g2 := ext_cell (W := W1) (b := C) (o := 2) k2
  clear b2
  go_wp2_with fail
  refine wp_region_ext (by kernel_rfl) (by kernel_rfl) ?_
  repeat (go_big_quiet_step (fail))
  refine wpQuiet_nil ?_
  intro _ hw'
  obtain ⟨eW, rfl⟩ := hw'
  have HB2 := Lib.hid (HB1.out.trans (eW.bel.mono HB1.out.size))
  have HP2 := Lib.hid (HP1.out.call eW.bel)
  have hr2 := (eW.bel.block C hCl).trans hr1
  have hC2 : C < eW.w.heap.size := (Array.getElem?_eq_some_iff.1 hr2).1
  have m0 := ext_cell (W := eW.w) (b := C) (o := 0) (v := .slice va l.length vc) (by simp only [World.cell?, hr2]; rfl)
  have m1 := ext_cell (W := eW.w) (b := C) (o := 1) (v := .int .i64 (i : Int)) (by simp only [World.cell?, hr2]; rfl)
  clear k0 k1 k2 g2
  obtain ⟨x0, hx0⟩ : ∃ x0, x0 = bits .and .i64 (bits .xor .i64 (h2 / 8589934592) (h2 / 35184372088832)) 255 := ⟨_, rfl⟩
  have hx1 : 0 ≤ x0 ∧ x0 ≤ 255 := by rw [hx0]; exact and255 _
  rw [← hx0]
  have HX := Lib.hid hx1
  clear hx0 hx1
  have d0 : (0 : Int) ≤ (i : Int) := by omega
  by_cases hlt : i < l.length
  · have d1 : decide ((i : Int) < (l.length : Int)) = true := decide_eq_true (by omega)
    have d2 : (i : Int) < (l.length : Int) := by omega
    obtain ⟨y, hy⟩ : ∃ y, l[i]? = some y := ⟨l[i], by simp [hlt]⟩
    obtain ⟨b, off, rfl, hcell⟩ := HBC.out (by intro e; rw [e] at hlt; simp at hlt)
    have hy255 : y.toNat < 256 := y.toNat_lt
    go_wp2_with fail
    refine wp_region_ext (by kernel_rfl) (by kernel_rfl) ?_
    repeat (go_big_quiet_step (fail))
    refine wpQuiet_nil ?_
    intro _ hw'
    obtain ⟨e3, rfl⟩ := hw'
    have HB3 := Lib.hid (HB2.out.trans (e3.bel.mono HB2.out.size))
    have HP3 := Lib.hid (HP2.out.call e3.bel)
    have hr3 := (e3.bel.block C hC2).trans hr2
    have hC3 : C < e3.w.heap.size := (Array.getElem?_eq_some_iff.1 hr3).1
    have n0 := ext_cell (W := e3.w) (b := C) (o := 0) (v := .slice (some ⟨b, off, none⟩) l.length vc) (by simp only [World.cell?, hr3]; rfl)
    have n1 := ext_cell (W := e3.w) (b := C) (o := 1) (v := .int .i64 (i : Int)) (by simp only [World.cell?, hr3]; rfl)
    have n2 := ext_cell (W := e3.w) (b := b) (o := off + i) (v := .int .u8 y.toNat) ((HB3.out.cell (p := ⟨b, off + i, none⟩) (World.block_lt_of_cell? w0 _ (hcell i y hy))).trans (hcell i y hy))
    have hyw : IntKind.i64.wrap ((y.toNat : Nat) : Int) = ((y.toNat : Nat) : Int) := by rw [IntKind.wrap_i64]; omega
    have hsum : IntKind.i64.wrap (x0 + ((y.toNat : Nat) : Int)) = x0 + ((y.toNat : Nat) : Int) := by have := HX.out; rw [IntKind.wrap_i64]; omega
    clear m0 m1 hcell hy
    go_wp2_with fail
    refine wp_region_ext (by kernel_rfl) (by kernel_rfl) ?_
    repeat (go_big_quiet_step (fail))
    refine wpQuiet_nil ?_
    intro _ hw'
    obtain ⟨e4, rfl⟩ := hw'
    have HP4 := Lib.hid (HP3.out.call e4.bel)
    have hr4 := (e4.bel.block C hC3).trans hr3
    have r1 : e4.w.cell? ⟨C, 1, none⟩ = some (.int .i64 (i : Int)) := by simp only [World.cell?, hr4]; rfl
    have hi1 : IntKind.i64.wrap ((i : Int) + 1) = (i : Int) + 1 := by rw [IntKind.wrap_i64]; omega
    obtain ⟨x4, hx4⟩ : ∃ x4, x4 = bits .and .i64 (x0 + ((y.toNat : Nat) : Int)) 255 := ⟨_, rfl⟩
    have HX4 := Lib.hid (show 0 ≤ x4 ∧ x4 ≤ 255 from by rw [hx4]; exact and255 _)
    rw [← hx4]
    clear n0 n1 n2 hx4
    go_wp2_with ((with_reducible (show wpList _ _ _ (Oper.mk _ (Op.store 3 (Operand.tmp 56) _) _ _ _ _ :: _) _ _)); refine wpList_store_at rfl 3 _ _ rfl C 1 rfl (.int .i64 ((i : Int) + 1)) rfl [.int .i64 ((i : Int) + 1)] rfl #[.slice (some ⟨b, off, none⟩) l.length vc, .int .i64 (i : Int), .int .i64 h2] 84 hr4 (Nat.le_of_ble_eq_true rfl) (by simp [Value.oneCell']) (show (Try.prog.info? 3).map (·.size) = some 1 by kernel_rfl) ?_; intro W5 hW; (try rw [act_put_none]); have hM5 := Moved.row hW; have hr5 : W5.heap[C]? = some (.cells #[.slice (some ⟨b, off, none⟩) l.length vc, .int .i64 ((i : Int) + 1), .int .i64 h2] 84 (0, 0)) := (by rw [hW, setRow_heap _ _ _ _ _ _ hr4]; rfl); clear hW)
    go_ret
    exact ⟨x4, rfl, HX4.out.1, HX4.out.2, ⟨hC, l, _, i + 1, h2, HR.out, hl, hlt, by rw [hr5, Int.natCast_add]; rfl⟩, HP4.out.moved hM5⟩
  · have d1 : decide ((i : Int) < (l.length : Int)) = false := decide_eq_false (by omega)
    go_wp2_with fail
    refine wp_region_ext (by kernel_rfl) (by kernel_rfl) ?_
    repeat (go_big_quiet_step (fail))
    refine wpQuiet_nil ?_
    intro _ hw'
    obtain ⟨e3, rfl⟩ := hw'
    have HP3 := Lib.hid (HP2.out.call e3.bel)
    have hr3 := (e3.bel.block C hC2).trans hr2
    clear m0 m1
    go_wp2_with fail
    go_ret
    exact ⟨x0, rfl, HX.out.1, HX.out.2, ⟨hC, l, _, i, h2, HR.out, hl, hi, hr3⟩, HP3.out⟩
set_option maxRecDepth 100000 in
set_option maxHeartbeats 1000000 in
theorem spec_l01Below (w0 w : World) (C : Nat) (n : Int) (hc : Cur w0 C w) (hb : Below w0.heap.size w0 w) (hn : 1 ≤ n) (hn2 : n ≤ 4294967296) : Calls Try.prog 50 #[.pointer (some ⟨C, 0, none⟩), .int .i64 n] w (Draws w0 C w 0 (n - 1)) := by
  have HC := Lib.hid hc
  have HB := Lib.hid hb
  have hC := hc.base
  clear hc hb
  have hn0 : ¬n = 0 := by omega
  have d1 : decide (n ≤ 0) = false := decide_eq_false (by omega)
  by_cases h256 : n ≤ 256
  · have d2 : decide (n ≤ 256) = true := decide_eq_true h256
    go_enter Try.func50, Try.ntmps50
    go_wp2_with fail
    refine (spec_l01Byte w0 _ C HC.out HB.out).mono ?_
    rintro e W1 ⟨x, rfl, hx0, hx1, hc1, hp1⟩
    have HT := Lib.hid (mod_draw (x := x) hn)
    have HC1 := Lib.hid hc1
    have HP1 := Lib.hid hp1
    clear hc1 hp1
    go_wp2_with fail
    go_ret
    exact ⟨_, rfl, HT.out.1, HT.out.2, HC1.out, HP1.out⟩
  · have d2 : decide (n ≤ 256) = false := decide_eq_false h256
    go_enter Try.func50, Try.ntmps50
    go_wp2_with fail
    refine (spec_l01Byte w0 _ C HC.out HB.out).mono ?_
    rintro e W1 ⟨x, rfl, hx0, hx1, hc1, hp1⟩
    have HC1 := Lib.hid hc1
    have HP1 := Lib.hid hp1
    have HB1 := Lib.hid (hp1.below HB.out hC HB.out.size)
    clear hc1 hp1
    go_wp2_with fail
    refine (spec_l01Byte w0 _ C HC1.out HB1.out).mono ?_
    rintro e W2 ⟨y, rfl, hy0, hy1, hc2, hp2⟩
    have HC2 := Lib.hid hc2
    have HP2 := Lib.hid (HP1.out.trans hp2)
    have HB2 := Lib.hid (hp2.below HB1.out hC HB1.out.size)
    clear hc2 hp2
    go_wp2_with fail
    refine (spec_l01Byte w0 _ C HC2.out HB2.out).mono ?_
    rintro e W3 ⟨z, rfl, hz0, hz1, hc3, hp3⟩
    have HC3 := Lib.hid hc3
    have HP3 := Lib.hid (HP2.out.trans hp3)
    have HB3 := Lib.hid (hp3.below HB2.out hC HB2.out.size)
    clear hc3 hp3
    go_wp2_with fail
    refine (spec_l01Byte w0 _ C HC3.out HB3.out).mono ?_
    rintro e W4 ⟨u, rfl, hu0, hu1, hc4, hp4⟩
    have HC4 := Lib.hid hc4
    have HP4 := Lib.hid (HP3.out.trans hp4)
    clear hc4 hp4
    have a1 : IntKind.i64.wrap (x * 16777216) = x * 16777216 := by rw [IntKind.wrap_i64]; omega
    have a2 : IntKind.i64.wrap (y * 65536) = y * 65536 := by rw [IntKind.wrap_i64]; omega
    have a3 : IntKind.i64.wrap (x * 16777216 + y * 65536) = x * 16777216 + y * 65536 := by rw [IntKind.wrap_i64]; omega
    have a4 : IntKind.i64.wrap (z * 256) = z * 256 := by rw [IntKind.wrap_i64]; omega
    have a5 : IntKind.i64.wrap (x * 16777216 + y * 65536 + z * 256) = x * 16777216 + y * 65536 + z * 256 := by rw [IntKind.wrap_i64]; omega
    have a6 : IntKind.i64.wrap (x * 16777216 + y * 65536 + z * 256 + u) = x * 16777216 + y * 65536 + z * 256 + u := by rw [IntKind.wrap_i64]; omega
    have a7 : 0 ≤ x * 16777216 + y * 65536 + z * 256 + u := by omega
    have HT := Lib.hid (mod_draw (x := x * 16777216 + y * 65536 + z * 256 + u) hn)
    go_wp2_with fail
    go_ret
    exact ⟨_, rfl, HT.out.1, HT.out.2, HC4.out, HP4.out⟩
set_option maxRecDepth 100000 in
set_option maxHeartbeats 1000000 in
theorem spec_l01New (w : World) (v : Value) (l : List UInt8) (h : RepS w v l) (hl : l.length ≤ 1048576) : Calls Try.prog 19 #[v] w (fun e w' => ∃ C, e = .returned (.pointer (some ⟨C, 0, none⟩)) ∧ Cur w C w' ∧ Below w.heap.size w w') := by
  have HR := Lib.hid h
  obtain ⟨a, cap, rfl, hl2, hc⟩ := bytes_open h
  have HC := Lib.hid hc
  clear h hc
  go_enter Try.func19, Try.ntmps19
  go_wp2_with fail
  go_loopw [3, 4] (fun hv iv wr => ∃ (k : Nat) (hh : Int), k ≤ l.length ∧ iv = .int .i64 k ∧ hv = .int .i64 hh ∧ Hid (Below w.heap.size w wr)) (fun _ iv _ => l.length - (intOf iv).toNat)
  case atStart => exact ⟨0, _, Nat.zero_le _, rfl, rfl, Below.refl _ _⟩
  case round =>
    obtain ⟨k, hh, hk, rfl, rfl, HB⟩ := hrel
    by_cases hlt : k < l.length
    · have d1 : decide ((k : Int) < (l.length : Int)) = true := decide_eq_true (by omega)
      have k0 : (0 : Int) ≤ (k : Int) := by omega
      have k1 : (k : Int) < (l.length : Int) := by omega
      by_cases h4 : (k : Int) < 4000
      · have d2 : decide ((k : Int) < 4000) = true := decide_eq_true h4
        obtain ⟨y, hy⟩ : ∃ y, l[k]? = some y := ⟨l[k], by simp [hlt]⟩
        obtain ⟨b, off, rfl, hcell⟩ := HC.out (by intro e; rw [e] at hlt; simp at hlt)
        have hy255 : y.toNat < 256 := y.toNat_lt
        have c1 : wr.cell? ⟨b, off + k, none⟩ = some (.int .u8 y.toNat) := (HB.out.cell (p := ⟨b, off + k, none⟩) (World.block_lt_of_cell? w _ (hcell k y hy))).trans (hcell k y hy)
        clear hcell hy
        go_wp2_with fail
        go_roundw
        case rel => exact ⟨k + 1, _, by omega, by go_num, rfl, HB.out⟩
        case measure => simp [intOf]; omega
      · have d2 : decide ((k : Int) < 4000) = false := decide_eq_false h4
        go_wp2_with fail
        go_ret
        exact ⟨_, rfl, ⟨HB.out.size, l, _, 0, hh, HR.out, hl, Nat.zero_le _, new_at _ _ rfl⟩, bel_alloc HB.out _⟩
    · have d1 : decide ((k : Int) < (l.length : Int)) = false := decide_eq_false (by omega)
      have d3 : decide (k < l.length) = false := decide_eq_false hlt
      go_wp2_with fail
      go_ret
      exact ⟨_, rfl, ⟨HB.out.size, l, _, 0, hh, HR.out, hl, Nat.zero_le _, new_at _ _ rfl⟩, bel_alloc HB.out _⟩
end Go.Proofs.Ytaobgfneeijpmaa
