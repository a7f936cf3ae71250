/- A screen in a box, written on while it is drawn from a cursor: what a draw, a store and a new screen leave. -/
import Derived.Test.YtaobgfneeijpmaaFnDrawQ
set_option linter.unusedSimpArgs false
set_option linter.unusedVariables false
namespace Go.Mux
open Go.RowKit
theorem RepAway.part {lo M L g : Nat} {W W1 : World} {cs : List Value} {x : DScr} (h : RepAway lo M L W cs x) (hP : Part g W W1) (h1 : g < lo ∨ M ≤ g) (h2 : g < L) : RepAway lo M L W1 cs x := fun W' hk =>
  h W' fun k h3 h4 => (hk k (Nat.lt_of_lt_of_le h3 hP.size) h4).trans (hP.other k h3 (by omega))
theorem RepAway.held {lo L : Nat} {W : World} {cs : List Value} {x : DScr} (h : RepAway 0 0 lo W cs x) : RepAway lo W.heap.size L W cs x := fun W' hk =>
  h W' fun k h3 h4 => hk k h3 (.inl (by omega))
/-- The cursor at C, the result's box at A, the screen y, of the places cs, in the box T. -/
structure Pen (w0 : World) (C A T : Nat) (W : World) (cs : List Value) (y : DScr) : Prop where
  cur : Cur w0 C W
  bel : Below w0.heap.size w0 W
  box : W.heap[A]? = some (.cells zeroScr.toArray 31 (0, 0))
  row : W.heap[T]? = some (.cells cs.toArray 31 (0, 0))
  ca : C < A
  ta : A < T
  away : ∃ lo M, A < lo ∧ (T < lo ∨ M ≤ T) ∧ RepAway lo M (T + 1) W cs y
section
variable {w0 W W1 W2 : World} {C A T : Nat} {cs cs' : List Value} {y y' : DScr}
theorem Pen.rep (h : Pen w0 C A T W cs y) : Rep.rep W cs y := by
  obtain ⟨lo, M, _, _, h⟩ := h.away
  exact h.rep
theorem Pen.lt (h : Pen w0 C A T W cs y) : T < W.heap.size := (Array.getElem?_eq_some_iff.1 h.row).1
theorem Pen.draw (h : Pen w0 C A T W cs y) (hc : Cur w0 C W1) (hp : Part C W W1) : Pen w0 C A T W1 cs y := by
  have hlt := h.lt
  have := h.ca
  have := h.ta
  have hw := h.bel.size
  have hC := h.cur.base
  refine ⟨hc, hp.below h.bel hC hw, (hp.other A (by omega) (by omega)).trans h.box, (hp.other T hlt (by omega)).trans h.row, h.ca, h.ta, ?_⟩
  obtain ⟨lo, M, h1, h2, h3⟩ := h.away
  exact ⟨lo, M, h1, h2, h3.part hp (.inl (by omega)) (by omega)⟩
theorem Pen.call (h : Pen w0 C A T W cs y) (hb : Below W.heap.size W W1) : Pen w0 C A T W1 cs y := h.draw (h.cur.call hb) ((Part.refl C W).call hb)
theorem Pen.moved (h : Pen w0 C A T W cs y) (hM : Moved T W W1) (hr : W1.heap[T]? = some (.cells cs'.toArray 31 (0, 0))) (ha : ∀ lo M, RepAway lo M (T + 1) W1 cs y → RepAway lo M (T + 1) W1 cs' y') : Pen w0 C A T W1 cs' y' := by
  have := h.ca
  have := h.ta
  have hC := h.cur.base
  refine ⟨h.cur.moved hM (by omega), hM.below h.bel (by omega), (hM.other A (by omega)).trans h.box, hr, h.ca, h.ta, ?_⟩
  obtain ⟨lo, M, h1, h2, h3⟩ := h.away
  exact ⟨lo, M, h1, h2, ha lo M (h3.moved hM h2 (by omega))⟩
/-- A new screen is laid into the box. -/
theorem Pen.give (h : Pen w0 C A T W cs y) (hb : Below W.heap.size W W1) (ha : RepAway 0 0 W.heap.size W1 cs' y') (hM : Moved T W1 W2) (hr : W2.heap[T]? = some (.cells cs'.toArray 31 (0, 0))) : Pen w0 C A T W2 cs' y' := by
  have h1 := h.call hb
  have hlt := h.lt
  have := h.ca
  have := h.ta
  have hC := h.cur.base
  exact ⟨h1.cur.moved hM (by omega), hM.below h1.bel (by omega), (hM.other A (by omega)).trans h1.box, hr, h.ca, h.ta, W.heap.size, W1.heap.size, by omega, .inl hlt, ha.held.moved hM (.inl hlt) (by omega)⟩
/-- The first screen. -/
theorem Pen.first (hc : Cur w0 C W1) (hbe : Below w0.heap.size w0 W1) (hbox : W1.heap[A]? = some (.cells zeroScr.toArray 31 (0, 0))) (hca : C < A) (hA : A < W.heap.size) (hW : W.heap.size ≤ W1.heap.size) (ha : RepAway 0 0 W.heap.size W1 cs' y') (hM : Moved W1.heap.size (W1.alloc (.cells zeroScr.toArray 31 (0, 0))) W2) (hr : W2.heap[W1.heap.size]? = some (.cells cs'.toArray 31 (0, 0))) : Pen w0 C A W1.heap.size W2 cs' y' := by
  have hal := bel_alloc (Below.refl W1.heap.size W1) (.cells zeroScr.toArray 31 (0, 0))
  have hC := hc.base
  refine ⟨(hc.call hal).moved hM (by omega), hM.below (hbe.trans (hal.mono (by omega))) (by omega), (hM.other A (by omega)).trans ((hal.block A (by omega)).trans hbox), hr, hca, by omega, W.heap.size, W1.heap.size, hA, .inr (Nat.le_refl _), ?_⟩
  exact (ha.held.call hal).moved hM (.inr (Nat.le_refl _)) (by omega)
end
/-- A field of the screen turns. -/
theorem Pen.turn {w0 W W1 : World} {C A T : Nat} {y y' : DScr} {v0 v1 v2 v3 : Value} (h : Pen w0 C A T W (scrRow y v0 v1 v2 v3) y) (hM : Moved T W W1) (hr : W1.heap[T]? = some (.cells (scrRow y' v0 v1 v2 v3).toArray 31 (0, 0))) (hy : scrOkB y' = true) (e0 : y'.Main.Cells = y.Main.Cells) (e1 : y'.Alt.Cells = y.Alt.Cells) (e2 : y'.Tabs = y.Tabs) (e3 : y'.Back = y.Back) : Pen w0 C A T W1 (scrRow y' v0 v1 v2 v3) y' :=
  h.moved hM hr fun _ _ h => h.same hy e0 e1 e2 e3
/-- What drawing turns of a screen at the end. -/
theorem ok_turn {x : DScr} {a n : Bool} {t b sx sy : Int} {c sa : DAttr} (hx : scrOkB x = true) (h1 : attrOkB c = true) (h2 : attrOkB sa = true) (h3 : 0 ≤ t) (h4 : t ≤ b) (h5 : b < x.H) (h6 : t = b → x.H = 1) (h7 : 0 ≤ sx) (h8 : sx < x.W) (h9 : 0 ≤ sy) (h10 : sy < x.H) :
    scrOkB { x with OnAlt := a, A := c, Top := t, Bot := b, NoWrap := n, SaveX := sx, SaveY := sy, SaveA := sa } = true := by
  have q := scrOkB_true hx
  refine scr_ok q.2.2.2.2.1 q.2.2.2.2.2.1 ?_ h1 h2 ?_ q.2.2.2.2.2.2.2.2.2.2.2.2.2.2.2.2.2.2.2.2.2.1 q.2.2.2.2.2.2.2.1
  · have := q.2.2.2.2.2.2.1
    unfold scrSize at this ⊢
    exact this
  · obtain ⟨_, _, _, _, _, _, _, _, p1, p2, p3, p4, p5, p6, p7, p8, p9, p10, p11, p12, p13, _, p15, p16, p17⟩ := q
    exact ⟨p1, p2, p3, p4, h7, h8, h9, h10, p9, h3, h4, h5, h6, p15, p16, p17⟩
theorem drawn_attr {x : DScr} {c : DAttr} (hx : drawn x) (h1 : attrOkB c = true) : drawn { x with A := c } := by
  have q := scrOkB_true (drawn_ok hx)
  obtain ⟨_, _, _, h4, _, _, _, _, p1, p2, p3, p4, p5, p6, p7, p8, p9, p10, p11, p12, p13, _, p15, p16, p17⟩ := q
  have := ok_turn (a := x.OnAlt) (n := x.NoWrap) (drawn_ok hx) h1 h4 p10 p11 p12 p13 p5 p6 p7 p8
  unfold drawn at hx ⊢
  exact ⟨this, hx.2⟩
theorem ok_in {x : DScr} (h : scrOkB x = true) : 1 ≤ x.W ∧ x.W ≤ 120 ∧ 1 ≤ x.H ∧ x.H ≤ 120 ∧ 0 ≤ x.Top ∧ x.Top ≤ x.Bot ∧ x.Bot < x.H ∧ (x.Top = x.Bot → x.H = 1) ∧ 0 ≤ x.SaveX ∧ x.SaveX < x.W ∧ 0 ≤ x.SaveY ∧ x.SaveY < x.H ∧ attrOkB x.A = true ∧ attrOkB x.SaveA = true := by
  have q := scrOkB_true h
  have := gridOkB_size q.2.2.2.2.1
  have := scrSize_true q.2.2.2.2.2.2.1
  obtain ⟨_, _, h3, h4, _, _, _, _, p1, p2, p3, p4, p5, p6, p7, p8, p9, p10, p11, p12, p13, _, p15, p16, p17⟩ := q
  exact ⟨by omega, by omega, by omega, by omega, p10, p11, p12, p13, p5, p6, p7, p8, h3, h4⟩
section
variable {P : Program} {ops : Array Oper} {Q : Exit → Act → World → Prop} {md : Region.Mode} {S : World → Prop} {z : Nat}
/-- Two may come up. -/
theorem wpChain_two {i j : Nat} {oi oj : Oper} {fuel : Nat} {listed : Array Bool} {a : Act} {w : World} (hi : ops[i]? = some oi) (hj : ops[j]? = some oj) (hr : Region.ready md ops listed = [i, j])
    (h1 : ∀ K' : Act → World → Prop, Shut (∀ a w, S w → wpChain P md ops Q S z fuel (listed.setIfInBounds i true) a w → K' a w) → if Region.wanted oi (yielded ops a.tmps) = true then Oper.wp P oi a w K' Q else K' (a.put oi.dst undef) w)
    (h2 : ∀ K' : Act → World → Prop, Shut (∀ a w, S w → wpChain P md ops Q S z fuel (listed.setIfInBounds j true) a w → K' a w) → if Region.wanted oj (yielded ops a.tmps) = true then Oper.wp P oj a w K' Q else K' (a.put oj.dst undef) w) :
    wpChain P md ops Q S z (fuel + 1) listed a w := fun hd =>
  ⟨fun h0 => (by rw [h0] at hr; cases hr), fun k hk => by
    have hk' := hk
    rw [hr] at hk
    simp only [List.mem_cons, List.not_mem_nil, or_false] at hk
    rcases hk with rfl | rfl
    · exact wpOp_step hi (fun K' hK => h1 K' (fun a w hS hW => hK a w ⟨fun _ => hS, hW (hd.set hk')⟩))
    · exact wpOp_step hj (fun K' hK => h2 K' (fun a w hS hW => hK a w ⟨fun _ => hS, hW (hd.set hk')⟩))⟩
end
end Go.Mux
