/- Cells of the call's own that turn one by one: the reference's GridFill and GridRoll. -/
import Derived.Test.YtaobgfneeijpmaaFnDrawK
set_option linter.unusedSimpArgs false
set_option linter.unusedVariables false
namespace Go.Mux
open Go.RowKit
/-- Cells in a row of the call's own, with room behind them. -/
def CellsAt (w : World) (g cap : Nat) (l : List DCell) : Prop :=
  ∃ rest : List Value, RowAt w g (cvs l ++ rest).toArray 37 ∧ (cvs l ++ rest).length = cap * 6 ∧ l.length ≤ cap ∧ cap ≤ maxLen ∧ ∀ c ∈ l, cellI c
theorem cells_at_of {B : Nat} {w : World} {a : Option Addr} {n cap : Nat} {l : List DCell} (h : FreshS B w (.slice a n cap) l) (hne : l ≠ []) : ∃ g, a = some ⟨g, 0, none⟩ ∧ B ≤ g ∧ n = l.length ∧ CellsAt w g cap l := by
  obtain ⟨fp, ho, hn, hf⟩ := h
  have hr := ho.repS
  obtain ⟨_, _, _, _, hI, _⟩ := cells_open hr
  obtain ⟨rows, fps, how, hl, hrl, hfl, hown, hfp⟩ := ho
  have hrows : rows = l.map cv := by
    refine List.ext_getElem (by simp [hrl]) fun i h1 h2 => ?_
    have hil : i < l.length := by omega
    have := hown i l[i] rows[i] fps[i] (by simp [hil]) (by simp [h1]) (by simp [show i < fps.length by omega])
    simpa using (cell_of (Rep.ownRep this)).1
  rcases how.2 with ⟨hv, h0⟩ | ⟨g, cap', cur, hv, _, hg, h1, h2, h3, h4⟩
  · exact absurd (List.eq_nil_of_length_eq_zero h0) hne
  · cases hv
    refine ⟨g, rfl, hf g (by rw [hfp]; simp [Value.ownBlock]), rfl, cur.toList.drop (l.length * 6), ?_, ?_, h1, h2, hI⟩
    · have e : cvs l ++ cur.toList.drop (l.length * 6) = cur.toList := by
        have : cvs l = cur.toList.take (l.length * 6) := by
          unfold cvs
          rw [← hrows]
          exact h4.symm
        rw [this, List.take_append_drop]
      rw [e]
      exact hg
    · have h5 : cur.toList.length = cap * 6 := h3
      rw [List.length_append, cvs_length, List.length_drop, h5]
      have : l.length * 6 ≤ cap * 6 := Nat.mul_le_mul_right _ h1
      omega
theorem CellsAt.fresh {B : Nat} {w : World} {g cap : Nat} {l : List DCell} (h : CellsAt w g cap l) (hB : B ≤ g) : FreshS B w (.slice (some ⟨g, 0, none⟩) l.length cap) l := by
  obtain ⟨rest, hr, hlen, h1, h2, hI⟩ := h
  have hm : l.length ≤ 9223372036854775807 := by have := h2; simp only [maxLen] at this; omega
  refine ⟨[g], ⟨l.map cv, List.replicate l.length [], ⟨?_, .inr ⟨g, cap, _, rfl, Nat.zero_le _, hr, h1, h2, by rw [List.size_toArray, hlen]; rfl, ?_⟩⟩, hm, by simp, by simp, ?_, by simp [Value.ownBlock]⟩, by simp, by simpa using hB⟩
  · have := cvs_length l
    unfold cvs at this
    exact this
  · have := cvs_length l
    show (cvs l ++ rest).take (l.length * 6) = _
    rw [List.take_left' this]
    unfold cvs
    rfl
  · intro i x r f hx hr hf
    have hil : i < l.length := by rw [List.getElem?_eq_some_iff] at hx; exact hx.1
    rw [List.getElem?_map, hx] at hr
    obtain rfl : cv x = r := by simpa using hr
    rw [List.getElem?_replicate, if_pos hil] at hf
    obtain rfl : ([] : List Nat) = f := by simpa using hf
    exact Flat.own (cell_rep (hI x (List.mem_of_getElem? hx)))
theorem CellsAt.keep {w w' : World} {g cap : Nat} {l : List DCell} (h : CellsAt w g cap l) (hk : w'.heap[g]? = w.heap[g]?) : CellsAt w' g cap l := by
  obtain ⟨rest, hr, h2⟩ := h
  exact ⟨rest, hr.keep hk, h2⟩
/-- One of them is written. -/
theorem CellsAt.set {w W1 : World} {g cap k : Nat} {l : List DCell} {c : DCell} {rest : List Value} (hr : RowAt w g (cvs l ++ rest).toArray 37) (hlen : (cvs l ++ rest).length = cap * 6) (h1 : l.length ≤ cap) (h2 : cap ≤ maxLen) (hI : ∀ c ∈ l, cellI c)
    (hk : k < l.length) (hc : cellI c) (hW : W1 = w.setRow g (putAt (cvs l ++ rest).toArray (k * 6) (cv c))) : CellsAt W1 g cap (l.set k c) := by
  have e : putAt (cvs l ++ rest).toArray (k * 6) (cv c) = (cvs (l.set k c) ++ rest).toArray := by
    have hs : l.set k c = l.take k ++ c :: l.drop (k + 1) := List.set_eq_take_append_cons_drop.trans (if_pos hk)
    have hcl := cvs_length l
    unfold putAt
    rw [hs, cvs_append, cvs_cons, cvs_take, cvs_drop]
    have hc6 : (cv c).length = 6 := rfl
    congr 1
    simp only [hc6]
    rw [List.take_append_of_le_length (by omega), List.drop_append_of_le_length (by omega), show (k + 1) * 6 = k * 6 + 6 by omega]
    simp [List.append_assoc]
  subst hW
  rw [e]
  refine ⟨rest, hr.setRow (by simp only [List.size_toArray, List.length_append, cvs_length, List.length_set]), ?_, by simpa using h1, h2, ?_⟩
  · rw [List.length_append, cvs_length, List.length_set, ← cvs_length, ← List.length_append]; exact hlen
  · intro d hd
    rcases List.mem_or_eq_of_mem_set hd with h | rfl
    · exact hI d h
    · exact hc
theorem shows_range {r : Int} (h : showsB r = true) : 32 ≤ r ∧ r ≤ 65535 := by
  unfold showsB withinB at h
  simp only [Bool.and_eq_true, Bool.or_eq_true, decide_eq_true_eq] at h
  omega
theorem ok_cellI {c : DCell} (h : cellOkB c = true) : cellI c := by
  unfold cellOkB attrOkB at h
  simp only [Bool.and_eq_true, withinB_true] at h
  have hr := shows_range h.1
  unfold cellI I64
  omega
theorem Moved.refl (g : Nat) (W : World) : Moved g W W := ⟨rfl, rfl, rfl, rfl, fun _ _ => rfl⟩
theorem cvs_at {l : List DCell} {i t : Nat} {d : DCell} {v : Value} (h : l[i]? = some d) (ht : (cv d)[t]? = some v) : (cvs l)[i * 6 + t]? = some v := by
  obtain ⟨hi, hd⟩ := List.getElem?_eq_some_iff.1 h
  have e : (cvs l).drop (i * 6) = cv d ++ cvs (l.drop (i + 1)) := by
    rw [← cvs_drop, List.drop_eq_getElem_cons hi, hd, cvs_cons]
  rw [← List.getElem?_drop, e, List.getElem?_append_left (List.getElem?_eq_some_iff.1 ht).1]
  exact ht
/-- What the rounds of a roll keep: block G holds n well formed cells; nothing else that was there has turned. -/
def RollI (G n q : Nat) (W wr : World) : Prop := ∃ l : List DCell, l.length = n ∧ (∀ d ∈ l, cellOkB d = true) ∧ CellsAt wr G q l ∧ Part G W wr
theorem CellsAt.lt {w : World} {g cap : Nat} {l : List DCell} (h : CellsAt w g cap l) : g < w.heap.size := by
  obtain ⟨rest, hr, _⟩ := h
  exact hr.lt
theorem RollI.call {G n q : Nat} {W wr w1 : World} (h : RollI G n q W wr) (hb : Below wr.heap.size wr w1) : RollI G n q W w1 := by
  obtain ⟨l, h1, h2, h3, h4⟩ := h
  exact ⟨l, h1, h2, h3.keep (hb.block G h3.lt), h4.call hb⟩
theorem RollI.part {G n q : Nat} {W wr : World} (h : RollI G n q W wr) : Part G W wr := by
  obtain ⟨l, h1, h2, h3, h4⟩ := h
  exact h4
/-- A cell is written: what a store asks for, and what it leaves. -/
theorem RollI.open {G n q k : Nat} {W wr : World} (h : RollI G n q W wr) (hk : k < n) {c : DCell} (hc : cellOkB c = true) :
    ∃ cur : Array Value, RowAt wr G cur 37 ∧ k * 6 + (cv c).length ≤ cur.size ∧ ∀ W1, W1 = wr.setRow G (putAt cur (k * 6) (cv c)) → RollI G n q W W1 := by
  obtain ⟨l, h1, h2, ⟨rest, hr, h3, h4, h5, h6⟩, hp⟩ := h
  refine ⟨_, hr, ?_, fun W1 hW => ⟨l.set k c, by rw [List.length_set]; exact h1, fun d hd => ?_, CellsAt.set hr h3 h4 h5 h6 (by omega) (ok_cellI hc) hW, hp.moved (Moved.row hW)⟩⟩
  · have h7 : (cv c).length = 6 := rfl
    have := cvs_length l
    rw [List.size_toArray, List.length_append]
    omega
  · rcases List.mem_or_eq_of_mem_set hd with h | rfl
    · exact h2 d h
    · exact hc
/-- A load behind a guard. -/
theorem wpList_load_row_w {P : Program} {ops : Array Oper} {rest : List Oper} {o : Oper} {a : Act} {w : World} {Q : Exit → Act → World → Prop} (hw : Region.wanted o (yielded ops a.tmps) = true) (ty : TypeId) (x : Operand) (ho : o.op = .load ty x)
    (g : Nat) (hx : a.eval x = .pointer (some ⟨g, 0, none⟩)) (t : TypeId) (cs : Array Value) (fr : Nat × Nat) (d : TypeDesc) (hg : w.heap[g]? = some (.cells cs t fr))
    (hu : P.underlying ty = some d) (hd : (match d with | .struct _ | .array _ _ => true | _ => false) = true) (hi : (P.info? ty).map (·.size) = some cs.size)
    (h : wpList P ops Q rest (a.put o.dst (.agg cs)) w) : wpList P ops Q (o :: rest) a w :=
  wpList_step fun K hK => by
    rw [if_pos hw]
    exact wp_load_row ty x ho g hx t cs fr d hg hu hd hi (hK _ _ h)
/-- A grid of the same size whose cells are well formed. -/
def SameSize (g g' : DGrid) : Prop := g'.W = g.W ∧ g'.H = g.H ∧ gridOkB g' = true
theorem same_of {g : DGrid} {l : List DCell} (hg : gridOkB g = true) (hl : l.length = g.Cells.length) (ho : ∀ c ∈ l, cellOkB c = true) : SameSize g { g with Cells := l } := by
  refine ⟨rfl, rfl, ?_⟩
  unfold gridOkB at hg ⊢
  simp only [Bool.and_eq_true, beq_iff_eq] at hg ⊢
  exact ⟨⟨hg.1.1, by rw [hl]; exact hg.1.2⟩, List.all_eq_true.2 ho⟩
end Go.Mux
namespace Go.Proofs.Ytaobgfneeijpmaa
open Go.RowKit Go.Mux
theorem spec_l07Small (w : World) (n : Int) (h0 : 0 ≤ n) (h1 : n ≤ 200) : Calls Try.prog 93 #[.int .i64 n] w (Pure w (.bool true)) := by
  have d1 : decide (-100000 ≤ n) = true := decide_eq_true (by omega)
  have d2 : decide (n ≤ 100000) = true := decide_eq_true (by omega)
  go_enter Try.func93, Try.ntmps93
  go_wp2
  go_ret
  exact ⟨rfl, rfl⟩
set_option maxRecDepth 100000 in
set_option maxHeartbeats 1000000 in
theorem spec_GridFill (w : World) (g : DGrid) (u : Value) (x y : Int) (c : DCell) (h : RepS w u g.Cells) (hg : gridOkB g = true) (hc : cellOkB c = true) (hx0 : 0 ≤ x) (hx1 : x ≤ 200) (hy0 : 0 ≤ y) (hy1 : y ≤ 200) :
    Calls Try.prog 81 #[.agg #[.int .i64 g.W, .int .i64 g.H, u], .int .i64 x, .int .i64 y, .int .i64 1, .int .i64 1, .agg #[.int .i64 c.R, .int .i64 c.A.Fg, .int .i64 c.A.Bg, .bool c.A.Bold, .bool c.A.Under, .bool c.A.Turn]] w (Gives w fun r w' => ∃ (g' : DGrid) (v : Value), r = .agg #[.int .i64 g'.W, .int .i64 g'.H, v] ∧ FreshS w.heap.size w' v g'.Cells ∧ SameSize g g') := by
  obtain ⟨s1, s2, s3, s4, s5, s6, s7⟩ := gridOkB_size hg
  have HG := Lib.hid hg
  have HC := Lib.hid hc
  have HRG := Lib.hid (fun (W : World) (hb : Below w.heap.size w W) => (DGrid.rep_iff (w := W) (cs := [.int .i64 g.W, .int .i64 g.H, u]) (x := g)).2 ⟨u, rfl, by unfold I64; omega, by unfold I64; omega, h.mono hb⟩)
  have HRC := Lib.hid (fun (W : World) => cell_rep (w := W) (ok_cellI hc))
  have hlen : g.Cells.length ≤ 2097152 := by omega
  have hne : g.Cells ≠ [] := by intro e; rw [e] at s7; simp at s7; omega
  have HNE := Lib.hid hne
  have hW0 : ¬ g.W = 0 := by omega
  have hw0 : (0 : Int) ≤ g.W := by omega
  have HU := Lib.hid h
  obtain ⟨ua, un, uc, rfl⟩ := h.shape
  clear h hg hc hne s1 s2 s3 s4 s5 s6 s7
  go_enter Try.func81, Try.ntmps81
  go_upto_region 1 with (fail)
  generalize hwb : World.alloc (World.alloc (World.alloc w _) _) _ = W0
  obtain ⟨hb0, hr0, hr1, hr2, hz0⟩ := boxes3 hwb
  clear hwb
  have HB0 := Lib.hid hb0
  have hz0 : w.heap.size + 3 ≤ W0.heap.size := Nat.le_of_eq hz0.symm
  clear hb0
  go_upto_region 3 with (first
    | ((with_reducible (show wpList _ _ _ (Oper.mk _ (Op.load 25 _) _ _ _ _ :: _) _ _)); refine wpList_load_row rfl 25 _ rfl w.heap.size rfl 25 #[.int .i64 g.W, .int .i64 g.H, .slice ua un uc] (0, 0) _ hr0 Try.underlying25 rfl size_implGrid ?_)
    | (go_at_call 64; refine (spec_GridOk _ [.int .i64 g.W, .int .i64 g.H, .slice ua un uc] g (HRG.out _ HB0.out)).mono ?_; rintro e W1 ⟨_, rfl, rfl, hb⟩; rw [HG.out]; have HB1 := Lib.hid (bel_next HB0.out hb); have hs0 := (hb.block w.heap.size (by omega)).trans hr0; have hs1 := (hb.block (w.heap.size + 1) (by omega)).trans hr1; have hs2 := (hb.block (w.heap.size + 1 + 1) (by omega)).trans hr2; have hz1 := hb.size; clear hb hr0 hr1 hr2)
    | ((with_reducible (show wpList _ _ _ (Oper.mk _ (Op.load 37 _) _ _ _ _ :: _) _ _)); refine wpList_load_row_w (by rfl) 37 _ rfl (w.heap.size + 1) rfl 37 #[.int .i64 c.R, .int .i64 c.A.Fg, .int .i64 c.A.Bg, .bool c.A.Bold, .bool c.A.Under, .bool c.A.Turn] (0, 0) _ hs1 Try.underlying37 rfl size_implCell ?_)
    | (go_at_call 87; refine (spec_CellOk _ (cv c) c (HRC.out _)).mono ?_; rintro e W2 ⟨_, rfl, rfl, hb⟩; rw [HC.out]; have HB2 := Lib.hid (bel_next HB1.out hb); have hu0 := (hb.block w.heap.size (by omega)).trans hs0; have hu1 := (hb.block (w.heap.size + 1) (by omega)).trans hs1; have hu2 := (hb.block (w.heap.size + 1 + 1) (by omega)).trans hs2; have hz2 := hb.size; clear hb hs0 hs1 hs2)
    | (go_at_call 93; refine (spec_l07Small _ _ (by omega) (by omega)).mono ?_; rintro e W3 ⟨rfl, rfl⟩))
  go_upto_region 4 with (first
    | ((with_reducible (show wpList _ _ _ (Oper.mk _ (Op.load 25 _) _ _ _ _ :: _) _ _)); refine wpList_load_row rfl 25 _ rfl w.heap.size rfl 25 #[.int .i64 g.W, .int .i64 g.H, .slice ua un uc] (0, 0) _ hu0 Try.underlying25 rfl size_implGrid ?_)
    | (go_at_call 28; refine (spec_l07Copy _ _ g (HRG.out _ HB2.out) hlen).mono ?_; rintro e W4 ⟨_, rfl, ⟨cs4, rfl, hF⟩, hb⟩; obtain ⟨fp4, ho4, hn4, hf4⟩ := hF; obtain ⟨v4, rfl, -, -, hv4⟩ := DGrid.own_iff.1 ho4; have HF4 := Lib.hid (show FreshS W2.heap.size W4 v4 g.Cells from ⟨fp4, hv4, hn4, hf4⟩); obtain ⟨p0, m0, q0, rfl⟩ := HF4.out.shape; have HB4 := Lib.hid (bel_next HB2.out hb); have hq0 := (hb.block w.heap.size (by omega)).trans hu0; have hq1 := (hb.block (w.heap.size + 1) (by omega)).trans hu1; have hq2 := (hb.block (w.heap.size + 1 + 1) (by omega)).trans hu2; have hz4 := hb.size; clear ho4 hn4 hf4 hv4 hb hu0 hu1 hu2))
  generalize hwb : World.alloc W4 _ = W5
  have hb5 : Below W4.heap.size W4 W5 := by rw [← hwb]; exact bel_alloc (Below.refl _ _) _
  have hr5 : W5.heap[W4.heap.size]? = some (.cells #[.int .i64 g.W, .int .i64 g.H, .slice p0 m0 q0] 25 (0, 0)) := by rw [← hwb]; exact new_at _ _ rfl
  clear hwb
  obtain ⟨G, rfl, hG, hm0, hcells⟩ := cells_at_of (HF4.out.grow hb5) HNE.out
  have HM0 := Lib.hid hm0
  have hm4 : m0 ≤ 2097152 := by omega
  have HG4 : G < W4.heap.size := by
    obtain ⟨fp, ho, _, hf⟩ := HF4.out
    obtain ⟨rows, fps, how, _, _, _, _, hfp⟩ := ho
    exact (how.lt G rfl).2
  have HCE := Lib.hid hcells
  have HB5 := Lib.hid (bel_next HB4.out hb5)
  have ht0 := (hb5.block w.heap.size (by omega)).trans hq0
  have ht1 := (hb5.block (w.heap.size + 1) (by omega)).trans hq1
  have ht2 := (hb5.block (w.heap.size + 1 + 1) (by omega)).trans hq2
  have hg1 : w.heap.size + 3 ≤ G := by omega
  have kk2 : W5.cell? ⟨W4.heap.size, 2, none⟩ = some (.slice (some ⟨G, 0, none⟩) m0 q0) := cell_at (cs := [_, _, _]) hr5 rfl
  have hall : ∀ d ∈ g.Cells, cellOkB d = true := by have := HG.out; unfold gridOkB at this; simp only [Bool.and_eq_true] at this; exact List.all_eq_true.1 this.2
  have HALL := Lib.hid hall
  clear hq0 hq1 hq2 hcells hm0 hb5 hall HF4 HB0 HB1 HB2 HB4 hz0 hz1 hz2 hz4
  go_wp2_with fail
  clear kk2
  go_loopw [51] (fun i wr => ∃ k : Nat, k ≤ m0 ∧ i = .int .i64 k ∧ ∃ l : List DCell, Hid (l.length = m0 ∧ ∀ d ∈ l, cellOkB d = true) ∧ Hid (CellsAt wr G q0 l) ∧ Hid (Moved G W5 wr)) (fun i _ => m0 - (intOf i).toNat)
  case atStart => exact ⟨0, Nat.zero_le _, rfl, g.Cells, ⟨HM0.out.symm, HALL.out⟩, HCE.out, Moved.refl _ _⟩
  case round =>
    obtain ⟨k, hk, rfl, l, HL, HCW, HMV⟩ := hrel
    have kr0 := (HMV.out.other w.heap.size (by omega)).trans ht0
    have kr1 := (HMV.out.other (w.heap.size + 1) (by omega)).trans ht1
    have kr2 := (HMV.out.other (w.heap.size + 1 + 1) (by omega)).trans ht2
    have kr5 := (HMV.out.other W4.heap.size (by omega)).trans hr5
    by_cases hlt : k < m0
    · have d1 : decide ((k : Int) < (m0 : Int)) = true := decide_eq_true (by omega)
      have kg : wr.cell? ⟨w.heap.size, 0, none⟩ = some (.int .i64 g.W) := cell_at (cs := [_, _, _]) kr0 rfl
      have kc2 : wr.cell? ⟨W4.heap.size, 2, none⟩ = some (.slice (some ⟨G, 0, none⟩) m0 q0) := cell_at (cs := [_, _, _]) kr5 rfl
      obtain ⟨rest, hrow, hlen6, h16, h26, hI6⟩ := HCW.out
      have HROW := Lib.hid hrow
      have HLEN := Lib.hid hlen6
      have H16 := Lib.hid h16
      have H26 := Lib.hid h26
      have HI6 := Lib.hid hI6
      have b0 : (0 : Int) ≤ (k : Int) := by omega
      have b1 : (k : Int) < (m0 : Int) := by omega
      have hfit : k * 6 + (cv c).length ≤ (cvs l ++ rest).toArray.size := by
        have h6 : (cv c).length = 6 := rfl
        have := cvs_length l
        have := HL.out.1
        rw [List.size_toArray, List.length_append]
        omega
      clear hrow hlen6 h16 h26 hI6
      go_wp2_with (first
        | ((with_reducible (show wpList _ _ _ (Oper.mk _ (Op.load 37 _) _ _ _ _ :: _) _ _)); refine wpList_load_row rfl 37 _ rfl (w.heap.size + 1) rfl 37 #[.int .i64 c.R, .int .i64 c.A.Fg, .int .i64 c.A.Bg, .bool c.A.Bold, .bool c.A.Under, .bool c.A.Turn] (0, 0) _ kr1 Try.underlying37 rfl size_implCell ?_)
        | ((with_reducible (show wpList _ _ _ (Oper.mk _ (Op.store 37 _ _) _ _ _ _ :: _) _ _)); refine wpList_store_in rfl 37 _ _ rfl G (k * 6) rfl _ rfl (cv c) rfl (cvs l ++ rest).toArray 37 HROW.out hfit (by simp [cv, Value.oneCell']) size_implCell ?_; intro W6 hW; have hM6 := Lib.hid (Moved.row hW); have HC6 := Lib.hid (CellsAt.set HROW.out HLEN.out H16.out H26.out HI6.out (show k < l.length by have := HL.out.1; omega) (ok_cellI HC.out) hW); clear hW))
      all_goals first
        | (go_roundw
           case rel => exact ⟨k + 1, by omega, by go_num, l.set k c, ⟨by rw [List.length_set]; exact HL.out.1, fun d hd => by
             rcases List.mem_or_eq_of_mem_set hd with h | rfl
             · exact HL.out.2 d h
             · exact HC.out⟩, HC6.out, HMV.out.trans hM6.out⟩
           case measure => simp [intOf]; omega)
        | (go_roundw
           case rel => exact ⟨k + 1, by omega, by go_num, l, HL.out, HCW.out, HMV.out⟩
           case measure => simp [intOf]; omega)
    · have d1 : decide ((k : Int) < (m0 : Int)) = false := decide_eq_false (by omega)
      go_wp2_with (first
        | ((with_reducible (show wpList _ _ _ (Oper.mk _ (Op.load 25 _) _ _ _ _ :: _) _ _)); refine wpList_load_row rfl 25 _ rfl W4.heap.size rfl 25 #[.int .i64 g.W, .int .i64 g.H, .slice (some ⟨G, 0, none⟩) m0 q0] (0, 0) _ kr5 Try.underlying25 rfl size_implGrid ?_)
        | ((with_reducible (show wpList _ _ _ (Oper.mk _ (Op.store 25 _ _) _ _ _ _ :: _) _ _)); refine wpList_store_at rfl 25 _ _ rfl (w.heap.size + 1 + 1) 0 rfl _ rfl [.int .i64 g.W, .int .i64 g.H, .slice (some ⟨G, 0, none⟩) m0 q0] rfl #[.int .i64 0, .int .i64 0, .slice none 0 0] 25 kr2 (Nat.le_of_ble_eq_true rfl) (by simp [Value.oneCell']) size_implGrid ?_; intro W7 hW; have hM7 := Moved.row hW; have hr7 := (row_turn (cur := [_, _, _]) kr2 hW (cur' := [.int .i64 g.W, .int .i64 g.H, .slice (some ⟨G, 0, none⟩) m0 q0]) rfl); clear hW))
      have hll := HL.out.1
      have HF7 := ((HCW.out.keep (hM7.other G (by omega))).fresh (B := w.heap.size) (by omega))
      rw [hll] at HF7
      exact bodyPost_ret (results_cell_row Try.results81 _ _ (w.heap.size + 1 + 1) 25 #[.int .i64 g.W, .int .i64 g.H, .slice (some ⟨G, 0, none⟩) m0 q0] (0, 0) _ rfl hr7 Try.underlying25 rfl size_implGrid) rfl ⟨_, rfl, ⟨{ g with Cells := l }, _, rfl, HF7, same_of HG.out (by rw [hll]; exact HM0.out) HL.out.2⟩, hM7.below (HMV.out.below HB5.out (by omega)) (by omega)⟩
set_option maxRecDepth 100000 in
set_option maxHeartbeats 2000000 in
theorem spec_GridRoll (w : World) (g : DGrid) (u : Value) (top bot : Int) (h : RepS w u g.Cells) (hg : gridOkB g = true) (ht0 : 0 ≤ top) (ht1 : top ≤ bot) (hb1 : bot < g.H) :
    Calls Try.prog 99 #[.agg #[.int .i64 g.W, .int .i64 g.H, u], .int .i64 top, .int .i64 bot, .int .i64 1] w (Gives w fun r w' => ∃ (g' : DGrid) (v : Value), r = .agg #[.int .i64 g'.W, .int .i64 g'.H, v] ∧ FreshS w.heap.size w' v g'.Cells ∧ SameSize g g') := by
  obtain ⟨tp, rfl⟩ : ∃ tp : Nat, top = (tp : Int) := ⟨top.toNat, by omega⟩
  obtain ⟨s1, s2, s3, s4, s5, s6, s7⟩ := gridOkB_size hg
  have HG := Lib.hid hg
  have HRG := Lib.hid (fun (W : World) (hb : Below w.heap.size w W) => (DGrid.rep_iff (w := W) (cs := [.int .i64 g.W, .int .i64 g.H, u]) (x := g)).2 ⟨u, rfl, by unfold I64; omega, by unfold I64; omega, h.mono hb⟩)
  have hlen : g.Cells.length ≤ 2097152 := by omega
  have hne : g.Cells ≠ [] := by intro e; rw [e] at s7; simp at s7; omega
  have HNE := Lib.hid hne
  obtain ⟨ua, uc, rfl, hul, hcI, hcc⟩ := cells_open h
  obtain ⟨ub, uo, rfl, hcell⟩ := hcc hne
  obtain ⟨un, hun⟩ : ∃ un, un = g.Cells.length := ⟨_, rfl⟩
  rw [← hun] at HRG ⊢
  have HUN := Lib.hid hun
  have HCL := Lib.hid hcell
  obtain ⟨m, hm⟩ : ∃ m : Nat, g.W = (m : Int) := ⟨g.W.toNat, by omega⟩
  obtain ⟨hh, hhh⟩ : ∃ hh : Nat, g.H = (hh : Int) := ⟨g.H.toNat, by omega⟩
  have hmn : m * hh = un := by
    rw [hm, hhh, ← Int.natCast_mul] at s7
    have := Int.ofNat.inj s7
    omega
  have HMN := Lib.hid hmn
  have HM := Lib.hid hm
  have HHH := Lib.hid hhh
  have HW0 := Lib.hid (show ([.int .i64 g.W, .int .i64 g.H, .slice (some ⟨ub, uo, none⟩) un uc] : List Value)[0]? = some (.int .i64 (m : Int)) from by rw [← hm]; rfl)
  have hm1 : 1 ≤ m ∧ m ≤ 120 := by omega
  have hh1 : 1 ≤ hh ∧ hh ≤ 120 := by omega
  have hun4 : un ≤ 4000 := by omega
  have hbh : bot < (hh : Int) := by omega
  have d1 : decide ((tp : Int) < 0) = false := decide_eq_false (by omega)
  have d2 : decide (bot < (tp : Int)) = false := decide_eq_false (by omega)
  have d3 : decide (g.H ≤ bot) = false := decide_eq_false (by omega)
  have d4 : decide (g.H < 1) = false := decide_eq_false (by omega)
  have e4 : IntKind.i64.wrap (-g.H) = -g.H := by rw [IntKind.wrap_i64]; omega
  have d5 : decide (1 < -g.H) = false := decide_eq_false (by omega)
  clear h hg hne s1 s2 s3 s4 s5 s6 s7 hm hhh hcell hcc hcI hun hmn hb1
  go_enter Try.func99, Try.ntmps99
  go_upto_region 1 with (fail)
  generalize hwb : World.alloc (World.alloc w _) _ = W0
  obtain ⟨hb0, hr0, hr1, hz0⟩ := boxes2 hwb
  clear hwb
  have HB0 := Lib.hid hb0
  have hz0 : w.heap.size + 2 ≤ W0.heap.size := Nat.le_of_eq hz0.symm
  clear hb0
  go_upto_region 7 with (first
    | ((with_reducible (show wpList _ _ _ (Oper.mk _ (Op.load 25 _) _ _ _ _ :: _) _ _)); refine wpList_load_row rfl 25 _ rfl w.heap.size rfl 25 #[.int .i64 g.W, .int .i64 g.H, .slice (some ⟨ub, uo, none⟩) un uc] (0, 0) _ hr0 Try.underlying25 rfl size_implGrid ?_)
    | (go_at_call 64; refine (spec_GridOk _ [.int .i64 g.W, .int .i64 g.H, .slice (some ⟨ub, uo, none⟩) un uc] g (HRG.out _ HB0.out)).mono ?_; rintro e W1 ⟨_, rfl, rfl, hb⟩; rw [HG.out]; have HB1 := Lib.hid (bel_next HB0.out hb); have hs0 := (hb.block w.heap.size (by omega)).trans hr0; have hs1 := (hb.block (w.heap.size + 1) (by omega)).trans hr1; have hz1 := hb.size; have kh : W1.cell? ⟨w.heap.size, 1, none⟩ = some (.int .i64 g.H) := (cell_at (cs := [_, _, _]) hs0 rfl); clear hb hr0 hr1))
  clear kh
  go_upto_region 8 with (first
    | ((with_reducible (show wpList _ _ _ (Oper.mk _ (Op.load 25 _) _ _ _ _ :: _) _ _)); refine wpList_load_row rfl 25 _ rfl w.heap.size rfl 25 #[.int .i64 g.W, .int .i64 g.H, .slice (some ⟨ub, uo, none⟩) un uc] (0, 0) _ hs0 Try.underlying25 rfl size_implGrid ?_)
    | (go_at_call 28; refine (spec_l07Copy _ _ g (HRG.out _ HB1.out) hlen).mono ?_; rintro e W4 ⟨_, rfl, ⟨cs4, rfl, hF⟩, hb⟩; obtain ⟨fp4, ho4, hn4, hf4⟩ := hF; obtain ⟨v4, rfl, -, -, hv4⟩ := DGrid.own_iff.1 ho4; have HF4 := Lib.hid (show FreshS W1.heap.size W4 v4 g.Cells from ⟨fp4, hv4, hn4, hf4⟩); obtain ⟨p0, n0, q0, rfl⟩ := HF4.out.shape; have HB4 := Lib.hid (bel_next HB1.out hb); have hq0 := (hb.block w.heap.size (by omega)).trans hs0; have hq1 := (hb.block (w.heap.size + 1) (by omega)).trans hs1; have hz4 := hb.size; clear ho4 hn4 hf4 hv4 hb hs0 hs1))
  generalize hwb : World.alloc W4 _ = W5
  have hb5 : Below W4.heap.size W4 W5 := by rw [← hwb]; exact bel_alloc (Below.refl _ _) _
  have hr5 : W5.heap[W4.heap.size]? = some (.cells #[.int .i64 g.W, .int .i64 g.H, .slice p0 n0 q0] 25 (0, 0)) := by rw [← hwb]; exact new_at _ _ rfl
  have hz5 : W4.heap.size < W5.heap.size := by rw [← hwb]; simp
  clear hwb
  obtain ⟨G, rfl, hG, hm0, hcells⟩ := cells_at_of (HF4.out.grow hb5) HNE.out
  have HM0 := Lib.hid (show n0 = un by have := HUN.out; omega)
  have HG4 : G < W4.heap.size := by
    obtain ⟨fp, ho, _, hf⟩ := HF4.out
    obtain ⟨rows, fps, how, _, _, _, _, hfp⟩ := ho
    exact (how.lt G rfl).2
  have HCE := Lib.hid hcells
  have HB5 := Lib.hid (bel_next HB4.out hb5)
  have ht0 := (hb5.block w.heap.size (by omega)).trans hq0
  have ht1 := (hb5.block (w.heap.size + 1) (by omega)).trans hq1
  have hg1 : w.heap.size + 2 ≤ G := by omega
  have hall : ∀ d ∈ g.Cells, cellOkB d = true := by have := HG.out; unfold gridOkB at this; simp only [Bool.and_eq_true] at this; exact List.all_eq_true.1 this.2
  have HALL := Lib.hid hall
  have hzw : w.heap.size + 2 ≤ W5.heap.size := by omega
  clear hq0 hq1 hcells hm0 hb5 hall HF4 HB0 HB1 HB4 hz0 hz1 hz4
  have HI0 := Lib.hid (show RollI G n0 q0 W5 W5 from ⟨g.Cells, by have := HM0.out; have := HUN.out; omega, HALL.out, HCE.out, Part.refl _ _⟩)
  clear HALL HCE
  go_wp2_with fail
  go_loopw [10] (fun i wr => ∃ j : Nat, (tp : Int) ≤ (j : Int) ∧ (j : Int) ≤ bot + 1 ∧ i = .int .i64 (j : Int) ∧ Hid (RollI G n0 q0 W5 wr)) (fun i _ => hh + 1 - (intOf i).toNat)
  case atStart => exact ⟨tp, Int.le_refl _, by omega, rfl, HI0.out⟩
  case round =>
    obtain ⟨j, hj1, hj2, rfl, HI⟩ := hrel
    by_cases hjb : (j : Int) ≤ bot
    · have d10 : decide ((j : Int) ≤ bot) = true := decide_eq_true hjb
      have hjh : j + 1 ≤ hh := by omega
      obtain ⟨jm, hjm⟩ : ∃ jm, jm = j * m := ⟨_, rfl⟩
      obtain ⟨j1, hj1'⟩ : ∃ j1, j1 = j + 1 := ⟨_, rfl⟩
      obtain ⟨km, hkm⟩ : ∃ km, km = j1 * m := ⟨_, rfl⟩
      have hle : (j + 1) * m ≤ hh * m := Nat.mul_le_mul_right _ hjh
      have hexp : (j + 1) * m = j * m + m := Nat.succ_mul j m
      have hcm : hh * m = un := by rw [Nat.mul_comm]; exact HMN.out
      have hjm1 : jm + m ≤ un := by omega
      have hkm1 : km = jm + m := by rw [hkm, hj1', hjm]; exact hexp
      have e64 : IntKind.i64.wrap ((j : Int) * (m : Int)) = (jm : Int) := by rw [← Int.natCast_mul, ← hjm, IntKind.wrap_i64]; omega
      have e71 : IntKind.i64.wrap ((j : Int) + 1) = (j1 : Int) := by rw [IntKind.wrap_i64]; omega
      have e96 : IntKind.i64.wrap ((j1 : Int) * (m : Int)) = (km : Int) := by rw [← Int.natCast_mul, ← hkm, IntKind.wrap_i64]; omega
      have d71 : decide ((tp : Int) ≤ (j1 : Int)) = true := decide_eq_true (by omega)
      have d71' : decide (tp ≤ j1) = true := decide_eq_true (by omega)
      have p71 : tp ≤ j1 := by omega
      have HJ := Lib.hid (And.intro hj1' (And.intro hjm1 hkm1))
      have HKM := Lib.hid hkm
      have hj1le : j1 ≤ 120 := by omega
      clear hjm hkm hle hexp hcm hj1' hkm1
      go_wp2_with fail
      go_loopw [11] (fun i wr => ∃ x : Nat, x ≤ m ∧ i = .int .i64 (x : Int) ∧ Hid (RollI G n0 q0 W5 wr)) (fun i _ => m - (intOf i).toNat)
      case atStart => exact ⟨0, Nat.zero_le _, rfl, HI.out⟩
      case round =>
        obtain ⟨x, hx, rfl, HIX⟩ := hrel
        have kr0 := (HIX.out.part.other w.heap.size (by omega) (by omega)).trans ht0
        have kr5 := (HIX.out.part.other W4.heap.size hz5 (by omega)).trans hr5
        have kg : _root_.Go.World.cell? _ ⟨w.heap.size, 0, none⟩ = some (.int .i64 (m : Int)) := cell_at (cs := [_, _, _]) kr0 (by rw [← HM.out]; rfl)
        by_cases hxm : x < m
        · have d11 : decide ((x : Int) < (m : Int)) = true := decide_eq_true (by omega)
          obtain ⟨ix, hix⟩ : ∃ ix, ix = jm + x := ⟨_, rfl⟩
          obtain ⟨iy, hiy⟩ : ∃ iy, iy = km + x := ⟨_, rfl⟩
          have hixn : ix < n0 := by have := HJ.out.2.1; have := HM0.out; omega
          have e66 : IntKind.i64.wrap ((jm : Int) + (x : Int)) = (ix : Int) := by rw [hix, IntKind.wrap_i64]; omega
          have e98 : IntKind.i64.wrap ((km : Int) + (x : Int)) = (iy : Int) := by have := HJ.out.2.1; have := HJ.out.2.2; rw [hiy, IntKind.wrap_i64]; omega
          have b0 : (0 : Int) ≤ (ix : Int) := by omega
          have b1 : (ix : Int) < (n0 : Int) := by omega
          have HIXE := Lib.hid (And.intro hix hiy)
          have hxi := HIX.out
          clear hix hiy
          go_wp2_with fail
          refine wp_region_chain 10 (fun w' => w'.rangeAt W4.heap.size 0 [.int .i64 g.W, .int .i64 g.H, .slice (some ⟨G, 0, none⟩) n0 q0] ∧ w'.rangeAt w.heap.size 0 [.int .i64 g.W, .int .i64 g.H, .slice (some ⟨ub, uo, none⟩) un uc]) (by kernel_rfl) ⟨range_row (w := wr.drew) (cs := [.int .i64 g.W, .int .i64 g.H, .slice (some ⟨G, 0, none⟩) n0 q0]) kr5, range_row (w := wr.drew) (cs := [.int .i64 g.W, .int .i64 g.H, .slice (some ⟨ub, uo, none⟩) un uc]) kr0⟩ (fun hHeld => ?_)
          have hbd := bel_drew wr
          obtain ⟨v1, hWd⟩ : ∃ W, W = wr.drew := ⟨_, rfl⟩
          rw [← hWd] at hHeld hbd ⊢
          clear hWd
          (refine wpChain_take (i := 0) (v := ?_) rfl rfl rfl (by kernel_rfl) (by kernel_rfl) (by kernel_rfl) (by kernel_rfl) (fun _ _ _ h => h) (.inl ⟨by rfl, ?_⟩) hHeld ?_; rotate_left; (focus (intro wq hwq; go_simp; (try with_reducible rfl))); (try simp only [Act.put, List.getElem_toArray, List.getElem_cons_succ, List.getElem_cons_zero, List.setIfInBounds_toArray, List.set_cons_zero, List.set_cons_succ]))
          (refine wpChain_take (i := 1) rfl rfl rfl (by kernel_rfl) (by kernel_rfl) (by kernel_rfl) (by kernel_rfl) (fun _ _ _ h => h) (yieldsL_field (by rfl) _ _ rfl _ _ rfl [.int .i64 g.W, .int .i64 g.H, .slice (some ⟨G, 0, none⟩) n0 q0] _ (fun _ h => h.1) (rfl) (fun wq hcq => by go_simp)) hHeld ?_; (try simp only [Act.put, List.getElem_toArray, List.getElem_cons_succ, List.getElem_cons_zero, List.setIfInBounds_toArray, List.set_cons_zero, List.set_cons_succ]))
          (refine wpChain_take (i := 2) (v := ?_) rfl rfl rfl (by kernel_rfl) (by kernel_rfl) (by kernel_rfl) (by kernel_rfl) (fun _ _ _ h => h) (.inl ⟨by rfl, ?_⟩) hHeld ?_; rotate_left; (focus (intro wq hwq; go_simp; (try with_reducible rfl))); (try simp only [Act.put, List.getElem_toArray, List.getElem_cons_succ, List.getElem_cons_zero, List.setIfInBounds_toArray, List.set_cons_zero, List.set_cons_succ]))
          (refine wpChain_take (i := 3) (v := ?_) rfl rfl rfl (by kernel_rfl) (by kernel_rfl) (by kernel_rfl) (by kernel_rfl) (fun _ _ _ h => h) (.inl ⟨by rfl, ?_⟩) hHeld ?_; rotate_left; (focus (intro wq hwq; go_simp; (try with_reducible rfl))); (try simp only [Act.put, List.getElem_toArray, List.getElem_cons_succ, List.getElem_cons_zero, List.setIfInBounds_toArray, List.set_cons_zero, List.set_cons_succ]))
          (refine wpChain_take (i := 4) rfl rfl rfl (by kernel_rfl) (by kernel_rfl) (by kernel_rfl) (by kernel_rfl) (fun _ _ _ h => h) (yieldsL_field (by rfl) _ _ rfl _ _ rfl [.int .i64 g.W, .int .i64 g.H, .slice (some ⟨ub, uo, none⟩) un uc] _ (fun _ h => h.2) (HW0.out) (fun wq hcq => by go_simp)) hHeld ?_; (try simp only [Act.put, List.getElem_toArray, List.getElem_cons_succ, List.getElem_cons_zero, List.setIfInBounds_toArray, List.set_cons_zero, List.set_cons_succ]))
          (refine wpChain_take (i := 5) (v := ?_) rfl rfl rfl (by kernel_rfl) (by kernel_rfl) (by kernel_rfl) (by kernel_rfl) (fun _ _ _ h => h) (.inl ⟨by rfl, ?_⟩) hHeld ?_; rotate_left; (focus (intro wq hwq; go_simp; (try with_reducible rfl))); (try simp only [Act.put, List.getElem_toArray, List.getElem_cons_succ, List.getElem_cons_zero, List.setIfInBounds_toArray, List.set_cons_zero, List.set_cons_succ]))
          (refine wpChain_take (i := 6) (v := ?_) rfl rfl rfl (by kernel_rfl) (by kernel_rfl) (by kernel_rfl) (by kernel_rfl) (fun _ _ _ h => h) (.inl ⟨by rfl, ?_⟩) hHeld ?_; rotate_left; (focus (intro wq hwq; go_simp; (try with_reducible rfl))); (try simp only [Act.put, List.getElem_toArray, List.getElem_cons_succ, List.getElem_cons_zero, List.setIfInBounds_toArray, List.set_cons_zero, List.set_cons_succ]))
          (refine wpChain_take (i := 7) (v := ?_) rfl rfl rfl (by kernel_rfl) (by kernel_rfl) (by kernel_rfl) (by kernel_rfl) (fun _ _ _ h => h) (.inl ⟨by rfl, ?_⟩) hHeld ?_; rotate_left; (focus (intro wq hwq; go_simp; (try with_reducible rfl))); (try simp only [Act.put, List.getElem_toArray, List.getElem_cons_succ, List.getElem_cons_zero, List.setIfInBounds_toArray, List.set_cons_zero, List.set_cons_succ]))
          refine wpChain_step (i := 8) rfl (by kernel_rfl) (fun K hK => ?_)
          go_simp
          refine (spec.l07Blank' _).mono ?_
          rintro e v2 ⟨_, rfl, rfl, hb2⟩
          have hI2 := hxi.call (hbd.trans (hb2.mono hbd.size))
          have hHeld2 := And.intro (range_step hb2 hHeld.1) (range_step hb2 hHeld.2)
          refine hK.out _ _ hHeld2 ?_
          replace hHeld := hHeld2
          clear hK K hbd hHeld2 hb2
          (try simp only [Act.put, List.getElem_toArray, List.getElem_cons_succ, List.getElem_cons_zero, List.setIfInBounds_toArray, List.set_cons_zero, List.set_cons_succ])
          (refine wpChain_take (i := 9) (v := ?_) rfl rfl rfl (by kernel_rfl) (by kernel_rfl) (by kernel_rfl) (by kernel_rfl) (fun _ _ _ h => h) (.inl ⟨by rfl, ?_⟩) hHeld ?_; rotate_left; (focus (intro wq hwq; go_simp; (try with_reducible rfl))); (try simp only [Act.put, List.getElem_toArray, List.getElem_cons_succ, List.getElem_cons_zero, List.setIfInBounds_toArray, List.set_cons_zero, List.set_cons_succ]))
          obtain ⟨cur, hcur, hfit, hset⟩ := hI2.open hixn blank_ok
          refine wpChain_store rfl rfl (by kernel_rfl) (by kernel_rfl) rfl 37 _ _ rfl G (ix * 6) rfl _ rfl (cv blankC) rfl cur 37 hcur hfit (by simp [cv, Value.oneCell']) size_implCell ?_
          intro v3 hW
          have hI3 := Lib.hid (hset v3 hW)
          clear hW hset hcur hfit cur hI2 hHeld
          (try simp only [Act.put, List.getElem_toArray, List.getElem_cons_succ, List.getElem_cons_zero, List.setIfInBounds_toArray, List.set_cons_zero, List.set_cons_succ])
          by_cases hlast : (j1 : Int) ≤ bot
          · have d79 : decide ((j1 : Int) ≤ bot) = true := decide_eq_true hlast
            have hiyn : iy < un := by
              have h1 : (j1 + 1) * m ≤ hh * m := Nat.mul_le_mul_right _ (by omega)
              have h2 : (j1 + 1) * m = j1 * m + m := Nat.succ_mul j1 m
              have h3 : hh * m = un := by rw [Nat.mul_comm]; exact HMN.out
              have h4 : (j + 1) * m = j * m + m := Nat.succ_mul j m
              have h5 := HJ.out.2.2
              have h6 := HJ.out.1
              have h7 := HIXE.out.2
              have h8 : km = j1 * m := HKM.out
              omega
            obtain ⟨d, hd⟩ : ∃ d, g.Cells[iy]? = some d := ⟨g.Cells[iy]'(by have := HUN.out; omega), by simp⟩
            have hdok : cellOkB d = true := by have := HG.out; unfold gridOkB at this; simp only [Bool.and_eq_true] at this; exact List.all_eq_true.1 this.2 d (List.mem_of_getElem? hd)
            have lr0 := (hI3.out.part.other w.heap.size (by omega) (by omega)).trans ht0
            have lr5 := (hI3.out.part.other W4.heap.size hz5 (by omega)).trans hr5
            have hBw := hI3.out.part.below HB5.out (by omega) (by omega)
            have hsrc : v3.rangeAt ub (uo + iy * 6) (cv d) := fun t v hv => by
              have hc := HCL.out (iy * 6 + t) v (cvs_at hd hv)
              rw [← Nat.add_assoc] at hc
              exact (hBw.cell (p := ⟨ub, _, none⟩) (World.block_lt_of_cell? w _ hc)).trans hc
            have c0 : (0 : Int) ≤ (iy : Int) := by omega
            have c1 : (iy : Int) < (un : Int) := by omega
            have HD := Lib.hid hdok
            clear hd hdok hBw
            go_wp2_with fail
            refine wp_region_chain 21 (fun w' => w'.rangeAt W4.heap.size 0 [.int .i64 g.W, .int .i64 g.H, .slice (some ⟨G, 0, none⟩) n0 q0] ∧ w'.rangeAt w.heap.size 0 [.int .i64 g.W, .int .i64 g.H, .slice (some ⟨ub, uo, none⟩) un uc] ∧ w'.rangeAt ub (uo + iy * 6) (cv d)) (by kernel_rfl) ⟨range_row (w := v3.drew) (cs := [.int .i64 g.W, .int .i64 g.H, .slice (some ⟨G, 0, none⟩) n0 q0]) lr5, range_row (w := v3.drew) (cs := [.int .i64 g.W, .int .i64 g.H, .slice (some ⟨ub, uo, none⟩) un uc]) lr0, hsrc⟩ (fun hHeld => ?_)
            have hbd := bel_drew v3
            obtain ⟨v4, hWd⟩ : ∃ W, W = v3.drew := ⟨_, rfl⟩
            rw [← hWd] at hHeld hbd ⊢
            clear hWd
            (refine wpChain_take (i := 0) (v := ?_) rfl rfl rfl (by kernel_rfl) (by kernel_rfl) (by kernel_rfl) (by kernel_rfl) (fun _ _ _ h => h) (.inl ⟨by rfl, ?_⟩) hHeld ?_; rotate_left; (focus (intro wq hwq; go_simp; (try with_reducible rfl))); (try simp only [Act.put, List.getElem_toArray, List.getElem_cons_succ, List.getElem_cons_zero, List.setIfInBounds_toArray, List.set_cons_zero, List.set_cons_succ]))
            (refine wpChain_take (i := 1) rfl rfl rfl (by kernel_rfl) (by kernel_rfl) (by kernel_rfl) (by kernel_rfl) (fun _ _ _ h => h) (yieldsL_field (by rfl) _ _ rfl _ _ rfl [.int .i64 g.W, .int .i64 g.H, .slice (some ⟨G, 0, none⟩) n0 q0] _ (fun _ h => h.1) (rfl) (fun wq hcq => by go_simp)) hHeld ?_; (try simp only [Act.put, List.getElem_toArray, List.getElem_cons_succ, List.getElem_cons_zero, List.setIfInBounds_toArray, List.set_cons_zero, List.set_cons_succ]))
            (refine wpChain_take (i := 2) (v := ?_) rfl rfl rfl (by kernel_rfl) (by kernel_rfl) (by kernel_rfl) (by kernel_rfl) (fun _ _ _ h => h) (.inl ⟨by rfl, ?_⟩) hHeld ?_; rotate_left; (focus (intro wq hwq; go_simp; (try with_reducible rfl))); (try simp only [Act.put, List.getElem_toArray, List.getElem_cons_succ, List.getElem_cons_zero, List.setIfInBounds_toArray, List.set_cons_zero, List.set_cons_succ]))
            (refine wpChain_take (i := 3) (v := ?_) rfl rfl rfl (by kernel_rfl) (by kernel_rfl) (by kernel_rfl) (by kernel_rfl) (fun _ _ _ h => h) (.inl ⟨by rfl, ?_⟩) hHeld ?_; rotate_left; (focus (intro wq hwq; go_simp; (try with_reducible rfl))); (try simp only [Act.put, List.getElem_toArray, List.getElem_cons_succ, List.getElem_cons_zero, List.setIfInBounds_toArray, List.set_cons_zero, List.set_cons_succ]))
            (refine wpChain_take (i := 4) rfl rfl rfl (by kernel_rfl) (by kernel_rfl) (by kernel_rfl) (by kernel_rfl) (fun _ _ _ h => h) (yieldsL_field (by rfl) _ _ rfl _ _ rfl [.int .i64 g.W, .int .i64 g.H, .slice (some ⟨ub, uo, none⟩) un uc] _ (fun _ h => h.2.1) (HW0.out) (fun wq hcq => by go_simp)) hHeld ?_; (try simp only [Act.put, List.getElem_toArray, List.getElem_cons_succ, List.getElem_cons_zero, List.setIfInBounds_toArray, List.set_cons_zero, List.set_cons_succ]))
            (refine wpChain_take (i := 5) (v := ?_) rfl rfl rfl (by kernel_rfl) (by kernel_rfl) (by kernel_rfl) (by kernel_rfl) (fun _ _ _ h => h) (.inl ⟨by rfl, ?_⟩) hHeld ?_; rotate_left; (focus (intro wq hwq; go_simp; (try with_reducible rfl))); (try simp only [Act.put, List.getElem_toArray, List.getElem_cons_succ, List.getElem_cons_zero, List.setIfInBounds_toArray, List.set_cons_zero, List.set_cons_succ]))
            (refine wpChain_take (i := 6) (v := ?_) rfl rfl rfl (by kernel_rfl) (by kernel_rfl) (by kernel_rfl) (by kernel_rfl) (fun _ _ _ h => h) (.inl ⟨by rfl, ?_⟩) hHeld ?_; rotate_left; (focus (intro wq hwq; go_simp; (try with_reducible rfl))); (try simp only [Act.put, List.getElem_toArray, List.getElem_cons_succ, List.getElem_cons_zero, List.setIfInBounds_toArray, List.set_cons_zero, List.set_cons_succ]))
            (refine wpChain_take (i := 7) (v := ?_) rfl rfl rfl (by kernel_rfl) (by kernel_rfl) (by kernel_rfl) (by kernel_rfl) (fun _ _ _ h => h) (.inl ⟨by rfl, ?_⟩) hHeld ?_; rotate_left; (focus (intro wq hwq; go_simp; (try with_reducible rfl))); (try simp only [Act.put, List.getElem_toArray, List.getElem_cons_succ, List.getElem_cons_zero, List.setIfInBounds_toArray, List.set_cons_zero, List.set_cons_succ]))
            (refine wpChain_take (i := 8) (v := ?_) rfl rfl rfl (by kernel_rfl) (by kernel_rfl) (by kernel_rfl) (by kernel_rfl) (fun _ _ _ h => h) (.inl ⟨by rfl, ?_⟩) hHeld ?_; rotate_left; (focus (intro wq hwq; go_simp; (try with_reducible rfl))); (try simp only [Act.put, List.getElem_toArray, List.getElem_cons_succ, List.getElem_cons_zero, List.setIfInBounds_toArray, List.set_cons_zero, List.set_cons_succ]))
            (refine wpChain_take (i := 9) rfl rfl rfl (by kernel_rfl) (by kernel_rfl) (by kernel_rfl) (by kernel_rfl) (fun _ _ _ h => h) (yieldsL_field (by rfl) _ _ rfl _ _ rfl [.int .i64 g.W, .int .i64 g.H, .slice (some ⟨ub, uo, none⟩) un uc] _ (fun _ h => h.2.1) (rfl) (fun wq hcq => by go_simp)) hHeld ?_; (try simp only [Act.put, List.getElem_toArray, List.getElem_cons_succ, List.getElem_cons_zero, List.setIfInBounds_toArray, List.set_cons_zero, List.set_cons_succ]))
            (refine wpChain_take (i := 10) (v := ?_) rfl rfl rfl (by kernel_rfl) (by kernel_rfl) (by kernel_rfl) (by kernel_rfl) (fun _ _ _ h => h) (.inl ⟨by rfl, ?_⟩) hHeld ?_; rotate_left; (focus (intro wq hwq; go_simp; (try with_reducible rfl))); (try simp only [Act.put, List.getElem_toArray, List.getElem_cons_succ, List.getElem_cons_zero, List.setIfInBounds_toArray, List.set_cons_zero, List.set_cons_succ]))
            (refine wpChain_take (i := 11) (v := ?_) rfl rfl rfl (by kernel_rfl) (by kernel_rfl) (by kernel_rfl) (by kernel_rfl) (fun _ _ _ h => h) (.inl ⟨by rfl, ?_⟩) hHeld ?_; rotate_left; (focus (intro wq hwq; go_simp; (try with_reducible rfl))); (try simp only [Act.put, List.getElem_toArray, List.getElem_cons_succ, List.getElem_cons_zero, List.setIfInBounds_toArray, List.set_cons_zero, List.set_cons_succ]))
            (refine wpChain_take (i := 12) (v := ?_) rfl rfl rfl (by kernel_rfl) (by kernel_rfl) (by kernel_rfl) (by kernel_rfl) (fun _ _ _ h => h) (.inl ⟨by rfl, ?_⟩) hHeld ?_; rotate_left; (focus (intro wq hwq; go_simp; (try with_reducible rfl))); (try simp only [Act.put, List.getElem_toArray, List.getElem_cons_succ, List.getElem_cons_zero, List.setIfInBounds_toArray, List.set_cons_zero, List.set_cons_succ]))
            (refine wpChain_take (i := 13) (v := ?_) rfl rfl rfl (by kernel_rfl) (by kernel_rfl) (by kernel_rfl) (by kernel_rfl) (fun _ _ _ h => h) (.inl ⟨by rfl, ?_⟩) hHeld ?_; rotate_left; (focus (intro wq hwq; go_simp; (try with_reducible rfl))); (try simp only [Act.put, List.getElem_toArray, List.getElem_cons_succ, List.getElem_cons_zero, List.setIfInBounds_toArray, List.set_cons_zero, List.set_cons_succ]))
            (refine wpChain_take (i := 14) rfl rfl rfl (by kernel_rfl) (by kernel_rfl) (by kernel_rfl) (by kernel_rfl) (fun _ _ _ h => h) (yieldsL_field (by rfl) _ _ rfl _ _ rfl [.int .i64 g.W, .int .i64 g.H, .slice (some ⟨ub, uo, none⟩) un uc] _ (fun _ h => h.2.1) (HW0.out) (fun wq hcq => by go_simp)) hHeld ?_; (try simp only [Act.put, List.getElem_toArray, List.getElem_cons_succ, List.getElem_cons_zero, List.setIfInBounds_toArray, List.set_cons_zero, List.set_cons_succ]))
            (refine wpChain_take (i := 15) (v := ?_) rfl rfl rfl (by kernel_rfl) (by kernel_rfl) (by kernel_rfl) (by kernel_rfl) (fun _ _ _ h => h) (.inl ⟨by rfl, ?_⟩) hHeld ?_; rotate_left; (focus (intro wq hwq; go_simp; (try with_reducible rfl))); (try simp only [Act.put, List.getElem_toArray, List.getElem_cons_succ, List.getElem_cons_zero, List.setIfInBounds_toArray, List.set_cons_zero, List.set_cons_succ]))
            (refine wpChain_take (i := 16) (v := ?_) rfl rfl rfl (by kernel_rfl) (by kernel_rfl) (by kernel_rfl) (by kernel_rfl) (fun _ _ _ h => h) (.inl ⟨by rfl, ?_⟩) hHeld ?_; rotate_left; (focus (intro wq hwq; go_simp; (try with_reducible rfl))); (try simp only [Act.put, List.getElem_toArray, List.getElem_cons_succ, List.getElem_cons_zero, List.setIfInBounds_toArray, List.set_cons_zero, List.set_cons_succ]))
            (refine wpChain_take (i := 17) (v := ?_) rfl rfl rfl (by kernel_rfl) (by kernel_rfl) (by kernel_rfl) (by kernel_rfl) (fun _ _ _ h => h) (.inl ⟨by rfl, ?_⟩) hHeld ?_; rotate_left; (focus (intro wq hwq; go_simp; (try with_reducible rfl))); (try simp only [Act.put, List.getElem_toArray, List.getElem_cons_succ, List.getElem_cons_zero, List.setIfInBounds_toArray, List.set_cons_zero, List.set_cons_succ]))
            (refine wpChain_take (i := 18) (v := ?_) rfl rfl rfl (by kernel_rfl) (by kernel_rfl) (by kernel_rfl) (by kernel_rfl) (fun _ _ _ h => h) (.inl ⟨by rfl, ?_⟩) hHeld ?_; rotate_left; (focus (intro wq hwq; go_simp; (try with_reducible rfl))); (try simp only [Act.put, List.getElem_toArray, List.getElem_cons_succ, List.getElem_cons_zero, List.setIfInBounds_toArray, List.set_cons_zero, List.set_cons_succ]))
            (refine wpChain_take (i := 19) rfl rfl rfl (by kernel_rfl) (by kernel_rfl) (by kernel_rfl) (by kernel_rfl) (fun _ _ _ h => h) (yieldsL_struct (by rfl) 37 _ rfl ub (uo + iy * 6) rfl (cv d) _ (fun _ h => h.2.2) Try.underlying37 rfl size_implCell) hHeld ?_; (try simp only [Act.put, List.getElem_toArray, List.getElem_cons_succ, List.getElem_cons_zero, List.setIfInBounds_toArray, List.set_cons_zero, List.set_cons_succ]))
            (refine wpChain_take (i := 20) (v := ?_) rfl rfl rfl (by kernel_rfl) (by kernel_rfl) (by kernel_rfl) (by kernel_rfl) (fun _ _ _ h => h) (.inl ⟨by rfl, ?_⟩) hHeld ?_; rotate_left; (focus (intro wq hwq; go_simp; (try with_reducible rfl))); (try simp only [Act.put, List.getElem_toArray, List.getElem_cons_succ, List.getElem_cons_zero, List.setIfInBounds_toArray, List.set_cons_zero, List.set_cons_succ]))
            obtain ⟨cur, hcur, hfit, hset⟩ := (hI3.out.call hbd).open hixn HD.out
            refine wpChain_store rfl rfl (by kernel_rfl) (by kernel_rfl) rfl 37 _ _ rfl G (ix * 6) rfl _ rfl (cv d) rfl cur 37 hcur hfit (by simp [cv, Value.oneCell']) size_implCell ?_
            intro v5 hW
            have hI5 := Lib.hid (hset v5 hW)
            clear hW hset hcur hfit cur hHeld
            (try simp only [Act.put, List.getElem_toArray, List.getElem_cons_succ, List.getElem_cons_zero, List.setIfInBounds_toArray, List.set_cons_zero, List.set_cons_succ])
            go_wp2_with fail
            go_roundw
            case rel => exact ⟨x + 1, by omega, by go_num, hI5.out⟩
            case measure => simp [intOf]; omega
          · have d79 : decide ((j1 : Int) ≤ bot) = false := decide_eq_false hlast
            go_wp2_with fail
            go_roundw
            case rel => exact ⟨x + 1, by omega, by go_num, hI3.out⟩
            case measure => simp [intOf]; omega
        · have d11 : decide ((x : Int) < (m : Int)) = false := decide_eq_false (by omega)
          have hj1e := HJ.out.1
          have HJ1 := Lib.hid hj1e
          clear hj1e
          go_wp2_with fail
          go_roundw
          case rel => exact ⟨j1, by have := HJ1.out; omega, by have := HJ1.out; omega, rfl, HIX.out⟩
          case measure => simp [intOf]; have := HJ1.out; omega
    · have d10 : decide ((j : Int) ≤ bot) = false := decide_eq_false hjb
      have kr0 := (HI.out.part.other w.heap.size (by omega) (by omega)).trans ht0
      have kr1 := (HI.out.part.other (w.heap.size + 1) (by omega) (by omega)).trans ht1
      have kr5 := (HI.out.part.other W4.heap.size hz5 (by omega)).trans hr5
      go_wp2_with (first
        | ((with_reducible (show wpList _ _ _ (Oper.mk _ (Op.load 25 _) _ _ _ _ :: _) _ _)); refine wpList_load_row rfl 25 _ rfl W4.heap.size rfl 25 #[.int .i64 g.W, .int .i64 g.H, .slice (some ⟨G, 0, none⟩) n0 q0] (0, 0) _ kr5 Try.underlying25 rfl size_implGrid ?_)
        | ((with_reducible (show wpList _ _ _ (Oper.mk _ (Op.store 25 _ _) _ _ _ _ :: _) _ _)); refine wpList_store_at rfl 25 _ _ rfl (w.heap.size + 1) 0 rfl _ rfl [.int .i64 g.W, .int .i64 g.H, .slice (some ⟨G, 0, none⟩) n0 q0] rfl #[.int .i64 0, .int .i64 0, .slice none 0 0] 25 kr1 (Nat.le_of_ble_eq_true rfl) (by simp [Value.oneCell']) size_implGrid ?_; intro W7 hW; have hM7 := Moved.row hW; have hr7 := (row_turn (cur := [_, _, _]) kr1 hW (cur' := [.int .i64 g.W, .int .i64 g.H, .slice (some ⟨G, 0, none⟩) n0 q0]) rfl); clear hW))
      obtain ⟨l, hl1, hl2, hl3, hl4⟩ := HI.out
      have HF7 := ((hl3.keep (hM7.other G (by omega))).fresh (B := w.heap.size) (by omega))
      rw [hl1] at HF7
      exact bodyPost_ret (results_cell_row Try.results99 _ _ (w.heap.size + 1) 25 #[.int .i64 g.W, .int .i64 g.H, .slice (some ⟨G, 0, none⟩) n0 q0] (0, 0) _ rfl hr7 Try.underlying25 rfl size_implGrid) rfl ⟨_, rfl, ⟨{ g with Cells := l }, _, rfl, HF7, same_of HG.out (by have := HM0.out; have := HUN.out; omega) hl2⟩, hM7.below (hl4.below HB5.out (by omega) (by omega)) (by omega)⟩
end Go.Proofs.Ytaobgfneeijpmaa
