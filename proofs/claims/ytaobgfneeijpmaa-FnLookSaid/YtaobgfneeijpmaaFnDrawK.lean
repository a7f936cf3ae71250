/- A screen in a box: its row, what turns in it; copies of a screen. -/
import Derived.Test.YtaobgfneeijpmaaFnDrawN
import Derived.Test.YtaobgfneeijpmaaFnClone
set_option linter.unusedSimpArgs false
set_option linter.unusedVariables false
namespace Go.Mux
open Go.RowKit
/-- The places of a screen. -/
def scrRow (x : DScr) (v0 v1 v2 v3 : Value) : List Value := [.int .i64 x.W, .int .i64 x.H, .int .i64 x.Main.W, .int .i64 x.Main.H, v0, .int .i64 x.Alt.W, .int .i64 x.Alt.H, v1, .bool x.OnAlt, .int .i64 x.X, .int .i64 x.Y, .bool x.Wrap, .int .i64 x.A.Fg, .int .i64 x.A.Bg, .bool x.A.Bold, .bool x.A.Under, .bool x.A.Turn, .int .i64 x.Top, .int .i64 x.Bot, .bool x.NoWrap, .bool x.Hide, .int .i64 x.SaveX, .int .i64 x.SaveY, .int .i64 x.SaveA.Fg, .int .i64 x.SaveA.Bg, .bool x.SaveA.Bold, .bool x.SaveA.Under, .bool x.SaveA.Turn, v2, .int .i64 x.Limit, v3]
theorem scrRow_one (x : DScr) {v0 v1 v2 v3 : Value} (h0 : v0.oneCell' = true) (h1 : v1.oneCell' = true) (h2 : v2.oneCell' = true) (h3 : v3.oneCell' = true) : ∀ u ∈ scrRow x v0 v1 v2 v3, u.oneCell' = true := by
  intro u hu
  simp only [scrRow, List.mem_cons, List.not_mem_nil, or_false] at hu
  rcases hu with rfl | rfl | rfl | rfl | rfl | rfl | rfl | rfl | rfl | rfl | rfl | rfl | rfl | rfl | rfl | rfl | rfl | rfl | rfl | rfl | rfl | rfl | rfl | rfl | rfl | rfl | rfl | rfl | rfl | rfl | rfl <;> first | rfl | assumption
theorem scr_open {w : World} {cs : List Value} {x : DScr} (h : Rep.rep w cs x) : ∃ v0 v1 v2 v3, cs = scrRow x v0 v1 v2 v3 ∧ RepS w v0 x.Main.Cells ∧ RepS w v1 x.Alt.Cells ∧ RepS w v2 x.Tabs ∧ RepS w v3 x.Back := by
  obtain ⟨v0, v1, v2, v3, rfl, h0, h1, h2, h3, h4, h5, h6, h7, h8, h9, h10, h11, h12, h13, h14, h15, h16, h17, h18, h19, h20⟩ := DScr.rep_iff.1 h
  exact ⟨v0, v1, v2, v3, rfl, h4, h7, h18, h20⟩
/-- The numbers of a well formed screen are small. -/
theorem scr_rep {w : World} {x : DScr} {v0 v1 v2 v3 : Value} (hg : scrOkB x = true) (h0 : RepS w v0 x.Main.Cells) (h1 : RepS w v1 x.Alt.Cells) (h2 : RepS w v2 x.Tabs) (h3 : RepS w v3 x.Back) : Rep.rep w (scrRow x v0 v1 v2 v3) x := by
  have q := scrOkB_true hg
  have g1 := gridOkB_size q.2.2.2.2.1
  have g2 := gridOkB_size q.2.2.2.2.2.1
  have a1 := q.2.2.1
  have a2 := q.2.2.2.1
  have hs := q.2.2.2.2.2.2.1
  unfold scrSize at hs
  simp only [Bool.and_eq_true, beq_iff_eq] at hs
  unfold attrOkB at a1 a2
  simp only [Bool.and_eq_true, withinB_true] at a1 a2
  obtain ⟨_, _, _, _, _, _, _, _, p1, p2, p3, p4, p5, p6, p7, p8, _, p10, p11, p12, _, _, p15, p16, _⟩ := q
  unfold scrRow
  refine DScr.rep_iff.2 ⟨_, _, _, _, rfl, ?_, ?_, ?_, ?_, h0, ?_, ?_, h1, ?_, ?_, ?_, ?_, ?_, ?_, ?_, ?_, ?_, ?_, h2, ?_, h3⟩ <;> (unfold I64; omega)
theorem cell_at {w : World} {g k : Nat} {cs : List Value} {t : TypeId} {fr : Nat × Nat} {v : Value} (h : w.heap[g]? = some (.cells cs.toArray t fr)) (hk : cs[k]? = some v) : w.cell? ⟨g, k, none⟩ = some v := by
  rw [cell_of_row w g k cs.toArray t fr h]
  simpa using hk
theorem range_part {w : World} {g : Nat} {cur : List Value} {t : TypeId} {fr : Nat × Nat} (h : w.heap[g]? = some (.cells cur.toArray t fr)) (off : Nat) (cs : List Value) (hp : (cur.drop off).take cs.length = cs) : w.rangeAt g off cs := fun j v hv => by
  refine cell_at h ?_
  rw [← hp] at hv
  have := take_get hv
  rwa [List.getElem?_drop] at this
theorem boxes2 {w W0 : World} {A B : Obj} (h : (w.alloc A).alloc B = W0) : Below w.heap.size w W0 ∧ W0.heap[w.heap.size]? = some A ∧ W0.heap[w.heap.size + 1]? = some B ∧ W0.heap.size = w.heap.size + 2 := by
  subst h
  exact ⟨bel_alloc (bel_alloc (Below.refl _ _) _) _, (Below.heap_alloc _ _ _ (by simp)).trans (new_at _ _ rfl), new_at _ _ (by simp), by simp⟩
theorem boxes3 {w W0 : World} {A B C : Obj} (h : ((w.alloc A).alloc B).alloc C = W0) : Below w.heap.size w W0 ∧ W0.heap[w.heap.size]? = some A ∧ W0.heap[w.heap.size + 1]? = some B ∧ W0.heap[w.heap.size + 1 + 1]? = some C ∧ W0.heap.size = w.heap.size + 3 := by
  subst h
  exact ⟨bel_alloc (bel_alloc (bel_alloc (Below.refl _ _) _) _) _, (Below.heap_alloc _ _ _ (by simp; omega)).trans ((Below.heap_alloc _ _ _ (by simp)).trans (new_at _ _ rfl)), (Below.heap_alloc _ _ _ (by simp)).trans (new_at _ _ (by simp)), new_at _ _ (by simp), by simp⟩
/-- A new screen's places. -/
def zeroScr : List Value := [.int .i64 0, .int .i64 0, .int .i64 0, .int .i64 0, .slice none 0 0, .int .i64 0, .int .i64 0, .slice none 0 0, .bool false, .int .i64 0, .int .i64 0, .bool false, .int .i64 0, .int .i64 0, .bool false, .bool false, .bool false, .int .i64 0, .int .i64 0, .bool false, .bool false, .int .i64 0, .int .i64 0, .int .i64 0, .int .i64 0, .bool false, .bool false, .bool false, .slice none 0 0, .int .i64 0, .slice none 0 0]
/-- A field of a screen's row turns. -/
theorem row_turn {w W1 : World} {g off : Nat} {cur cs cur' : List Value} {t : TypeId} (h : w.heap[g]? = some (.cells cur.toArray t (0, 0))) (hW : W1 = w.setRow g (putAt cur.toArray off cs)) (he : cur.take off ++ cs ++ cur.drop (off + cs.length) = cur') : W1.heap[g]? = some (.cells cur'.toArray t (0, 0)) := by
  rw [hW, setRow_heap _ _ _ _ _ _ h]
  unfold putAt
  rw [← he]
/-- A screen in a box. -/
def ScrBox (w : World) (g : Nat) (x : DScr) (v0 v1 v2 v3 : Value) : Prop := w.heap[g]? = some (.cells (scrRow x v0 v1 v2 v3).toArray 31 (0, 0))
/-- A slice that lies in blocks of the call's own, from lo on, below B. -/
def HoldB {α : Type} [Rep α] (lo B : Nat) (W : World) (v : Value) (l : List α) : Prop := ∃ fp, OwnS W v l fp ∧ ∀ b ∈ fp, lo ≤ b ∧ b < B
theorem HoldB.repS {α : Type} [Rep α] {lo B : Nat} {W : World} {v : Value} {l : List α} (h : HoldB lo B W v l) : RepS W v l := by
  obtain ⟨fp, ho, _⟩ := h
  exact ho.repS
theorem HoldB.keep {α : Type} [Rep α] {lo B : Nat} {W W1 : World} {v : Value} {l : List α} (h : HoldB lo B W v l) (hb : Below B W W1) : HoldB lo B W1 v l := by
  obtain ⟨fp, ho, hf⟩ := h
  exact ⟨fp, ho.mono fun b hb' => hb.block b (hf b hb').2, hf⟩
theorem HoldB.low {α : Type} [Rep α] {lo lo' B : Nat} {W : World} {v : Value} {l : List α} (h : HoldB lo B W v l) (hl : lo' ≤ lo) : HoldB lo' B W v l := by
  obtain ⟨fp, ho, hf⟩ := h
  exact ⟨fp, ho, fun b hb => ⟨Nat.le_trans hl (hf b hb).1, (hf b hb).2⟩⟩
theorem FreshS.over {α : Type} [Rep α] {L B : Nat} {W W1 W2 : World} {v : Value} {l : List α} (h : FreshS L W v l) (h1 : Below W.heap.size W W1) (h2 : Below B W1 W2) (hB : W.heap.size ≤ B) : FreshS L W2 v l := by
  obtain ⟨fp, ho, hn, hf⟩ := h
  exact ⟨fp, ho.mono fun b hb => (h2.block b (by have := ho.lt b hb; omega)).trans (h1.block b (ho.lt b hb)), hn, hf⟩
theorem FreshS.holdAt {α : Type} [Rep α] {L B g1 g2 : Nat} {W W1 W2 W3 : World} {v : Value} {l : List α} (h : FreshS L W v l) (hB : W.heap.size ≤ B) (hb : Below B W W1) (hM1 : Moved g1 W1 W2) (h1 : g1 < L) (hM2 : Moved g2 W2 W3) (h2 : g2 < L) : HoldB L B W3 v l := by
  obtain ⟨fp, ho, hn, hf⟩ := h
  exact ⟨fp, ho.mono fun b hb' => (hM2.other b (by have := hf b hb'; omega)).trans ((hM1.other b (by have := hf b hb'; omega)).trans (hb.block b (by have := ho.lt b hb'; omega))), fun b hb' => ⟨hf b hb', by have := ho.lt b hb'; omega⟩⟩
/-- A slice in blocks of the call's own, from B on, below M, each met once. -/
def FreshBM {α : Type} [Rep α] (B M : Nat) (W : World) (v : Value) (l : List α) : Prop := ∃ fp, OwnS W v l fp ∧ fp.Nodup ∧ ∀ b ∈ fp, B ≤ b ∧ b < M
theorem FreshS.bm {α : Type} [Rep α] {B M : Nat} {W : World} {v : Value} {l : List α} (h : FreshS B W v l) (hM : W.heap.size ≤ M) : FreshBM B M W v l := by
  obtain ⟨fp, ho, hn, hf⟩ := h
  exact ⟨fp, ho, hn, fun b hb => ⟨hf b hb, Nat.lt_of_lt_of_le (ho.lt b hb) hM⟩⟩
theorem FreshBM.repS {α : Type} [Rep α] {B M : Nat} {W : World} {v : Value} {l : List α} (h : FreshBM B M W v l) : RepS W v l := by
  obtain ⟨fp, ho, _⟩ := h
  exact ho.repS
theorem FreshBM.keep {α : Type} [Rep α] {B M : Nat} {W W1 : World} {v : Value} {l : List α} (h : FreshBM B M W v l) (hb : Below M W W1) : FreshBM B M W1 v l := by
  obtain ⟨fp, ho, hn, hf⟩ := h
  exact ⟨fp, ho.mono fun b hb' => hb.block b (hf b hb').2, hn, hf⟩
/-- A screen copied: its fixed parts lie below B, its rows from B on, below M. -/
def CopyS (lo B M : Nat) (W : World) (cs : List Value) (x : DScr) : Prop :=
  ∃ v0 v1 v2 v3, cs = scrRow x v0 v1 v2 v3 ∧ HoldB lo B W v0 x.Main.Cells ∧ HoldB lo B W v1 x.Alt.Cells ∧ HoldB lo B W v2 x.Tabs ∧ FreshBM B M W v3 x.Back
theorem CopyS.keep {lo B M : Nat} {W W1 : World} {cs : List Value} {x : DScr} (h : CopyS lo B M W cs x) (hBM : B ≤ M) (hb : Below M W W1) : CopyS lo B M W1 cs x := by
  obtain ⟨v0, v1, v2, v3, e, h0, h1, h2, h3⟩ := h
  exact ⟨v0, v1, v2, v3, e, h0.keep (hb.mono hBM), h1.keep (hb.mono hBM), h2.keep (hb.mono hBM), h3.keep hb⟩
theorem CopyS.rep {lo B M : Nat} {W : World} {cs : List Value} {x : DScr} (h : CopyS lo B M W cs x) (hg : scrOkB x = true) : Rep.rep W cs x := by
  obtain ⟨v0, v1, v2, v3, rfl, h0, h1, h2, h3⟩ := h
  exact scr_rep hg h0.repS h1.repS h2.repS h3.repS
theorem freshS_low {α : Type} [Rep α] {B B' : Nat} {W : World} {v : Value} {l : List α} (h : FreshS B W v l) (hB : B' ≤ B) : FreshS B' W v l := by
  obtain ⟨fp, ho, hn, hf⟩ := h
  exact ⟨fp, ho, hn, fun b hb => Nat.le_trans hB (hf b hb)⟩
theorem RepAway.rep {lo M L : Nat} {W : World} {cs : List Value} {x : DScr} (h : RepAway lo M L W cs x) : Rep.rep W cs x := h W fun _ _ _ => rfl
theorem RepAway.call {lo M L : Nat} {W W1 : World} {cs : List Value} {x : DScr} (h : RepAway lo M L W cs x) (hb : Below W.heap.size W W1) : RepAway lo M L W1 cs x := fun W' hk =>
  h W' fun k h1 h2 => (hk k (Nat.lt_of_lt_of_le h1 hb.size) h2).trans (hb.block k h1)
theorem RepAway.moved {lo M L g : Nat} {W W1 : World} {cs : List Value} {x : DScr} (h : RepAway lo M L W cs x) (hM : Moved g W W1) (h1 : g < lo ∨ M ≤ g) (h2 : g < L) : RepAway lo M L W1 cs x := fun W' hk =>
  h W' fun k h3 h4 => (hk k (by rw [hM.size]; exact h3) h4).trans (hM.other k (by omega))
theorem RepAway.less {lo M L L' : Nat} {W : World} {cs : List Value} {x : DScr} (h : RepAway lo M L W cs x) (hL : L' ≤ L) : RepAway lo M L' W cs x := fun W' hk =>
  h W' fun k h3 h4 => hk k h3 (by omega)
theorem scrRow_inj {x : DScr} {v0 v1 v2 v3 u0 u1 u2 u3 : Value} (h : scrRow x v0 v1 v2 v3 = scrRow x u0 u1 u2 u3) : v0 = u0 ∧ v1 = u1 ∧ v2 = u2 ∧ v3 = u3 := by
  simp only [scrRow, List.cons.injEq, true_and, and_true] at h
  exact h
theorem scr_parts {w : World} {x : DScr} {v0 v1 v2 v3 : Value} (h : Rep.rep w (scrRow x v0 v1 v2 v3) x) : RepS w v0 x.Main.Cells ∧ RepS w v1 x.Alt.Cells ∧ RepS w v2 x.Tabs ∧ RepS w v3 x.Back := by
  obtain ⟨u0, u1, u2, u3, e, h0, h1, h2, h3⟩ := scr_open h
  obtain ⟨rfl, rfl, rfl, rfl⟩ := scrRow_inj e
  exact ⟨h0, h1, h2, h3⟩
/-- Another screen of the same parts. -/
theorem RepAway.same {lo M L : Nat} {W : World} {x y : DScr} {v0 v1 v2 v3 : Value} (h : RepAway lo M L W (scrRow x v0 v1 v2 v3) x) (hy : scrOkB y = true) (e0 : y.Main.Cells = x.Main.Cells) (e1 : y.Alt.Cells = x.Alt.Cells) (e2 : y.Tabs = x.Tabs) (e3 : y.Back = x.Back) : RepAway lo M L W (scrRow y v0 v1 v2 v3) y := fun W' hk => by
  obtain ⟨h0, h1, h2, h3⟩ := scr_parts (h W' hk)
  exact scr_rep hy (by rw [e0]; exact h0) (by rw [e1]; exact h1) (by rw [e2]; exact h2) (by rw [e3]; exact h3)
theorem RepAway.put {lo M L : Nat} {W : World} {x : DScr} {g : DGrid} {v0 v1 v2 v3 u : Value} (h : RepAway lo M L W (scrRow x v0 v1 v2 v3) x) (hu : FreshS L W u g.Cells) (hy : scrOkB { x with Main := g } = true) : RepAway lo M L W (scrRow { x with Main := g } u v1 v2 v3) { x with Main := g } := fun W' hk => by
  obtain ⟨h0, h1, h2, h3⟩ := scr_parts (h W' hk)
  obtain ⟨fp, ho, hn, hf⟩ := hu
  exact scr_rep hy (ho.mono fun b hb => hk b (ho.lt b hb) (.inr (hf b hb))).repS h1 h2 h3
/-- A copied screen, its rows read from another slice. -/
theorem away_of {lo B M L : Nat} {W : World} {x : DScr} {v0 v1 v2 v3 : Value} (hx : scrOkB x = true) (hBM : B ≤ M) (h0 : HoldB lo B W v0 x.Main.Cells) (h1 : HoldB lo B W v1 x.Alt.Cells) (h2 : HoldB lo B W v2 x.Tabs) (h3 : ∀ W' : World, (∀ k, k < W.heap.size → (lo ≤ k ∧ k < M ∨ L ≤ k) → W'.heap[k]? = W.heap[k]?) → RepS W' v3 x.Back) : RepAway lo M L W (scrRow x v0 v1 v2 v3) x := fun W' hk => by
  have hb : ∀ {α : Type} [Rep α] {v : Value} {l : List α}, HoldB lo B W v l → RepS W' v l := fun h => by
    obtain ⟨fp, ho, hf⟩ := h
    exact (ho.mono fun b hb => hk b (ho.lt b hb) (.inl ⟨(hf b hb).1, Nat.lt_of_lt_of_le (hf b hb).2 hBM⟩)).repS
  exact scr_rep hx (hb h0) (hb h1) (hb h2) (h3 W' hk)
theorem CopyS.away {lo B M L : Nat} {W : World} {cs : List Value} {x : DScr} (h : CopyS lo B M W cs x) (hx : scrOkB x = true) (hlo : lo ≤ B) (hBM : B ≤ M) : RepAway lo M L W cs x := by
  obtain ⟨v0, v1, v2, v3, rfl, h0, h1, h2, h3⟩ := h
  refine away_of hx hBM h0 h1 h2 fun W' hk => ?_
  obtain ⟨fp, ho, hn, hf⟩ := h3
  exact (ho.mono fun b hb => hk b (ho.lt b hb) (.inl ⟨Nat.le_trans hlo (hf b hb).1, (hf b hb).2⟩)).repS
/-- What an append of one row asks for. -/
theorem row_args {B : Nat} {wr W : World} {v u : Value} {l : List DRow} {r : List DCell} {g : Nat} (hB : B ≤ wr.heap.size) (hv : FreshS B wr v l) (hb : Below wr.heap.size wr W) (hu : FreshS wr.heap.size W u r) (hg : W.heap[g]? = some (.cells #[u] 39 (0, 0))) :
    ∃ fp f, OwnS W v l fp ∧ (∀ b ∈ fp, B ≤ b) ∧ (∀ b ∈ f, B ≤ b) ∧ Rows W [DRow.mk r] [[u]] [f] ∧ (fp ++ [f].flatten).Nodup ∧ ∀ (j : Nat) w', [[u]].flatten[j]? = some w' → W.cell? ⟨g, 0 + j, none⟩ = some w' := by
  obtain ⟨fp, ho, hn, hf⟩ := hv
  obtain ⟨f, ho2, hn2, hf2⟩ := hu
  refine ⟨fp, f, ho.grow hb, hf, fun b h => Nat.le_trans hB (hf2 b h), Rows.one (DRow.own_iff.2 ⟨u, rfl, ho2⟩), ?_, fun j w' hj => ?_⟩
  · rw [show [f].flatten = f from by simp]
    exact List.nodup_append.2 ⟨hn, hn2, fun a ha b hb e => by have h1 := ho.lt a ha; have h2 := hf2 b hb; omega⟩
  · rw [Nat.zero_add]
    exact cell_at hg (by simpa using hj)
section
variable {P : Program}
theorem wpList_append_drow {ops : Array Oper} {rest : List Oper} {o : Oper} {a : Act} {w : World} {Q : Exit → Act → World → Prop} (hw : Region.wanted o (yielded ops a.tmps) = true) (s x : Operand) (t : TypeId)
    (ho : o.op = .call { callee := .builtin .append, args := #[s, x], argTypes := #[t, t] })
    (ht : P.underlying t = some (.slice 39)) (hi : (P.info? 39).map (fun i => (i.zero, i.size, i.bytes)) = some (some (.agg #[.slice none 0 0]), 1, 24))
    {B : Nat} {wr : World} {v u : Value} {l : List DRow} {r : List DCell} {g c : Nat} (hs : a.eval s = v) (hx : a.eval x = .slice (some ⟨g, 0, none⟩) 1 c)
    (hB : B ≤ wr.heap.size) (hv : FreshS B wr v l) (hb : Below wr.heap.size wr w) (hu : FreshS wr.heap.size w u r) (hg : w.heap[g]? = some (.cells #[u] 39 (0, 0))) (hl : l.length ≤ 1000)
    (h : ∀ v' w', FreshS B w' v' (l ++ [DRow.mk r]) → Below B w w' → wpList P ops Q rest (a.put o.dst v') w') : wpList P ops Q (o :: rest) a w := by
  obtain ⟨fp, f, h1, h2, h3, h4, h5, h6⟩ := row_args hB hv hb hu hg
  refine wpList_append_rep (α := DRow) hw s x t ho 39 (.agg #[.slice none 0 0]) 24 ht hi rfl rfl (by decide) v l fp hs h1 (some ⟨g, 0, none⟩) 1 c hx [DRow.mk r] rfl [[u]] [f] h4 h5 (fun _ => ⟨g, 0, rfl, h6⟩) (fun e => by cases e) (by simp; omega) (by simp; omega) ?_
  intro v' w' fp' HO HN HF HG HOB
  have hws := hb.size
  refine h v' w' ⟨fp', HO, HN, fun b hb => ?_⟩ ⟨HG.os, HG.tape, HG.output, HG.size, fun k hk => HG.block k (by omega) (fun e => ?_)⟩
  · rcases HF b hb with h | h | h
    · exact h2 b h
    · exact h3 b (by simpa using h)
    · omega
  · have := h2 k (HOB k e.symm)
    omega
/-- A slice in blocks of which none lies from m on, below L. -/
def GapS {α : Type} [Rep α] (lo m L : Nat) (W : World) (v : Value) (l : List α) : Prop := ∃ fp, OwnS W v l fp ∧ ∀ b ∈ fp, lo ≤ b ∧ b < m ∨ L ≤ b
theorem GapS.repS {α : Type} [Rep α] {lo m L : Nat} {W : World} {v : Value} {l : List α} (h : GapS lo m L W v l) : RepS W v l := by
  obtain ⟨fp, ho, _⟩ := h
  exact ho.repS
theorem GapS.moved {α : Type} [Rep α] {lo m L g : Nat} {W W1 : World} {v : Value} {l : List α} (h : GapS lo m L W v l) (hM : Moved g W W1) (h1 : m ≤ g) (h2 : g < L) : GapS lo m L W1 v l := by
  obtain ⟨fp, ho, hf⟩ := h
  exact ⟨fp, ho.mono fun b hb => hM.other b (by have := hf b hb; omega), hf⟩
theorem GapS.away {α : Type} [Rep α] {lo m L L' : Nat} {W : World} {v : Value} {l : List α} (h : GapS lo m L W v l) (hL : L' ≤ L) (W' : World) (hk : ∀ k, k < W.heap.size → (lo ≤ k ∧ k < m ∨ L' ≤ k) → W'.heap[k]? = W.heap[k]?) : RepS W' v l := by
  obtain ⟨fp, ho, hf⟩ := h
  exact (ho.mono fun b hb => hk b (ho.lt b hb) (by have := hf b hb; omega)).repS
theorem step_append_drow {ops : Array Oper} {o : Oper} {a : Act} {w : World} {K : Act → World → Prop} {Q : Exit → Act → World → Prop} {E : Prop} (hgd : o.guard = none) (s x : Operand) (t : TypeId)
    (ho : o.op = .call { callee := .builtin .append, args := #[s, x], argTypes := #[t, t] })
    (ht : P.underlying t = some (.slice 39)) (hi : (P.info? 39).map (fun i => (i.zero, i.size, i.bytes)) = some (some (.agg #[.slice none 0 0]), 1, 24))
    {B M L : Nat} {v u : Value} {l : List DRow} {r : List DCell} {g c : Nat} (hs : a.eval s = v) (hx : a.eval x = .slice (some ⟨g, 0, none⟩) 1 c)
    (hB : B ≤ M) (hv : FreshBM B M w v l) (hL : M ≤ L) (hLw : L ≤ w.heap.size) (hu : FreshS L w u r) (hg : w.heap[g]? = some (.cells #[u] 39 (0, 0))) (hl : l.length ≤ 1000)
    (h : ∀ v' w', GapS B M L w' v' (l ++ [DRow.mk r]) → Below B w w' → (∀ k, M ≤ k → k < w.heap.size → w'.heap[k]? = w.heap[k]?) → K (a.put o.dst v') w') : if Region.wanted o (yielded ops a.tmps) = true then Oper.wp P o a w K Q else E := by
  have hw : Region.wanted o (yielded ops a.tmps) = true := by simp [Region.wanted, hgd]
  rw [if_pos hw]
  obtain ⟨fp, ho1, hn1, hf1⟩ := hv
  obtain ⟨f, ho2, hn2, hf2⟩ := hu
  have hlt : ∀ b ∈ fp, b < M := fun b hb => (hf1 b hb).2
  have hnd : (fp ++ [f].flatten).Nodup := by
    rw [show [f].flatten = f from by simp]
    exact List.nodup_append.2 ⟨hn1, hn2, fun a ha b hb e => by have h1 := hlt a ha; have h2 := hf2 b hb; omega⟩
  refine oper_append_rep (α := DRow) s x t ho 39 (.agg #[.slice none 0 0]) 24 ht hi rfl rfl (by decide) v l fp hs ho1 (some ⟨g, 0, none⟩) 1 c hx [DRow.mk r] rfl [[u]] [f] (Rows.one (DRow.own_iff.2 ⟨u, rfl, ho2⟩)) hnd (fun _ => ⟨g, 0, rfl, fun j w' hj => by rw [Nat.zero_add]; exact cell_at hg (by simpa using hj)⟩) (fun e => by cases e) (by simp; omega) (by simp; omega) ?_
  intro v' w' fp' HO HN HF HG HOB
  refine h v' w' ⟨fp', HO, fun b hb => ?_⟩ ⟨HG.os, HG.tape, HG.output, HG.size, fun k hk => HG.block k (by omega) (fun e => ?_)⟩ fun k hk hk2 => HG.block k hk2 (fun e => ?_)
  · rcases HF b hb with h | h | h
    · exact .inl (hf1 b h)
    · exact .inr (hf2 b (by simpa using h))
    · omega
  · have := (hf1 k (HOB k e.symm)).1
    omega
  · have := hlt k (HOB k e.symm)
    omega
end
end Go.Mux
namespace Go.Proofs.Ytaobgfneeijpmaa
open Go.RowKit Go.Mux
set_option maxRecDepth 100000 in
set_option maxHeartbeats 1000000 in
theorem spec_l09Put (w : World) (x : DScr) (g : DGrid) (v0 v1 v2 v3 u : Value) (ho : x.OnAlt = false) (h0 : v0.oneCell' = true) (h1 : v1.oneCell' = true) (h2 : v2.oneCell' = true) (h3 : v3.oneCell' = true) (hu : u.oneCell' = true) :
    Calls Try.prog 80 #[.agg (scrRow x v0 v1 v2 v3).toArray, .agg #[.int .i64 g.W, .int .i64 g.H, u]] w (Gives w fun r _ => r = .agg (scrRow { x with Main := g } u v1 v2 v3).toArray) := by
  have ONE := Lib.hid (scrRow_one { x with Main := g } hu h1 h2 h3)
  go_enter Try.func80, Try.ntmps80
  go_upto_region 1 with (fail)
  generalize hwb : World.alloc (World.alloc (World.alloc w _) _) _ = W0
  obtain ⟨hb0, hr0, hr1, hr2, hz0⟩ := boxes3 hwb
  clear hwb
  have k8 : W0.cell? ⟨w.heap.size, 8, none⟩ = some (.bool false) := cell_at hr0 (by rw [← ho]; rfl)
  have hr2 : W0.heap[w.heap.size + 1 + 1]? = some (.cells zeroScr.toArray 31 (0, 0)) := hr2
  have HB0 := Lib.hid hb0
  clear hb0
  go_wp2_with (first
    | ((with_reducible (show wpList _ _ _ (Oper.mk _ (Op.load 25 _) _ _ _ _ :: _) _ _)); refine wpList_load_row rfl 25 _ rfl (w.heap.size + 1) rfl 25 #[.int .i64 g.W, .int .i64 g.H, u] (0, 0) _ hr1 Try.underlying25 rfl size_implGrid ?_)
    | ((with_reducible (show wpList _ _ _ (Oper.mk _ (Op.store 25 _ _) _ _ _ _ :: _) _ _)); refine wpList_store_at rfl 25 _ _ rfl w.heap.size 2 rfl _ rfl [.int .i64 g.W, .int .i64 g.H, u] rfl (scrRow x v0 v1 v2 v3).toArray 31 hr0 (Nat.le_of_ble_eq_true rfl) (by intro q hq; simp only [List.mem_cons, List.not_mem_nil, or_false] at hq; rcases hq with rfl | rfl | rfl <;> first | rfl | exact hu) size_implGrid ?_; intro W3 hW; have hM3 := Moved.row hW; have hr3 := (row_turn hr0 hW (cur' := (scrRow { x with Main := g } u v1 v2 v3)) rfl); clear hW k8 hr0; have hr20 := (hM3.other (w.heap.size + 1 + 1) (by omega)).trans hr2; clear hr2)
    | ((with_reducible (show wpList _ _ _ (Oper.mk _ (Op.load 31 _) _ _ _ _ :: _) _ _)); refine wpList_load_row rfl 31 _ rfl w.heap.size rfl 31 (scrRow { x with Main := g } u v1 v2 v3).toArray (0, 0) _ hr3 Try.underlying31 rfl size_implScr ?_)
    | ((with_reducible (show wpList _ _ _ (Oper.mk _ (Op.store 31 _ _) _ _ _ _ :: _) _ _)); refine wpList_store_at rfl 31 _ _ rfl (w.heap.size + 1 + 1) 0 rfl _ rfl (scrRow { x with Main := g } u v1 v2 v3) rfl zeroScr.toArray 31 hr20 (Nat.le_of_ble_eq_true rfl) ONE.out size_implScr ?_; intro W4 hW; have hM4 := Moved.row hW; have hr4 := (row_turn hr20 hW (cur' := (scrRow { x with Main := g } u v1 v2 v3)) rfl); clear hW))
  exact bodyPost_ret (results_cell_row Try.results80 _ _ (w.heap.size + 1 + 1) 31 (scrRow { x with Main := g } u v1 v2 v3).toArray (0, 0) _ rfl hr4 Try.underlying31 rfl size_implScr) rfl ⟨_, rfl, rfl, hM4.below (hM3.below HB0.out (by omega)) (by omega)⟩
set_option maxRecDepth 100000 in
set_option maxHeartbeats 1000000 in
theorem spec_l09Copy (w : World) (cs : List Value) (x : DScr) (h : Rep.rep w cs x) (hg : scrOkB x = true) (ht : x.Tabs.length ≤ 1) :
    Calls Try.prog 77 #[.agg cs.toArray] w (Gives w fun r w' => ∃ B M cs', r = .agg cs'.toArray ∧ w.heap.size ≤ B ∧ B ≤ M ∧ M ≤ w'.heap.size ∧ CopyS w.heap.size B M w' cs' x) := by
  obtain ⟨v0, v1, v2, v3, rfl, h0, h1, h2, h3⟩ := scr_open h
  have q := scrOkB_true hg
  have g1 := gridOkB_size q.2.2.2.2.1
  have g2 := gridOkB_size q.2.2.2.2.2.1
  have HM := Lib.hid (fun (W : World) (hb : Below w.heap.size w W) => (DGrid.rep_iff (w := W) (cs := [.int .i64 x.Main.W, .int .i64 x.Main.H, v0]) (x := x.Main)).2 ⟨v0, rfl, by unfold I64; omega, by unfold I64; omega, h0.mono hb⟩)
  have HA := Lib.hid (fun (W : World) (hb : Below w.heap.size w W) => (DGrid.rep_iff (w := W) (cs := [.int .i64 x.Alt.W, .int .i64 x.Alt.H, v1]) (x := x.Alt)).2 ⟨v1, rfl, by unfold I64; omega, by unfold I64; omega, h1.mono hb⟩)
  have HT := Lib.hid h2
  have HQ := Lib.hid q
  have hm1 : x.Main.Cells.length ≤ 2097152 := by omega
  have hm2 : x.Alt.Cells.length ≤ 2097152 := by omega
  obtain ⟨a0, n0, c0, rfl⟩ := h0.shape
  obtain ⟨a1, n1, c1, rfl⟩ := h1.shape
  obtain ⟨a2, n2, c2, rfl⟩ := h2.shape
  obtain ⟨a3, c3, rfl, ⟨hl3, hl4⟩, hc3⟩ := h3
  have HC := Lib.hid hc3
  have hlb : x.Back.length ≤ 100 := by have := q.2.2.2.2.2.2.2.2.2.2.2.2.2.2.2.2.2.2.2.2.2.2; omega
  clear h h0 h1 h2 hc3 q g1 g2 hg
  go_enter Try.func77, Try.ntmps77
  go_upto_region 1 with (fail)
  generalize hwb : World.alloc (World.alloc w _) _ = W0
  obtain ⟨hb0, hr0, hr1, hz0⟩ := boxes2 hwb
  clear hwb
  have HB0 := Lib.hid hb0
  have hr1 : W0.heap[w.heap.size + 1]? = some (.cells zeroScr.toArray 31 (0, 0)) := hr1
  clear hb0
  go_upto_region 2 with (first
    | ((with_reducible (show wpList _ _ _ (Oper.mk _ (Op.load 25 _) _ _ _ _ :: _) _ _)); refine wpList_load_mid rfl 25 _ rfl w.heap.size 2 rfl [.int .i64 x.Main.W, .int .i64 x.Main.H, .slice a0 n0 c0] _ (range_part hr0 2 _ rfl) Try.underlying25 rfl size_implGrid ?_)
    | (go_at_call 28; refine (spec_l07Copy _ _ x.Main (HM.out _ HB0.out) hm1).mono ?_; rintro e W1 ⟨_, rfl, ⟨cs1, rfl, hF⟩, hb⟩; obtain ⟨fp1, ho1, hn1, hf1⟩ := hF; obtain ⟨u0, rfl, -, -, hu0⟩ := DGrid.own_iff.1 ho1; have HF1 := Lib.hid (show FreshS W0.heap.size W1 u0 x.Main.Cells from ⟨fp1, hu0, hn1, hf1⟩); obtain ⟨p0, m0, q0, rfl⟩ := HF1.out.shape; have HB1 := Lib.hid (bel_upto HB0.out hb (by omega)); have hz1 := hb.size; have hs0 := (hb.block w.heap.size (by omega)).trans hr0; have hs1 := (hb.block (w.heap.size + 1) (by omega)).trans hr1; clear ho1 hn1 hf1 hu0 hb hr0 hr1)
    | ((with_reducible (show wpList _ _ _ (Oper.mk _ (Op.store 25 _ _) _ _ _ _ :: _) _ _)); refine wpList_store_at rfl 25 _ _ rfl w.heap.size 2 rfl _ rfl [.int .i64 x.Main.W, .int .i64 x.Main.H, .slice p0 m0 q0] rfl (scrRow x (.slice a0 n0 c0) (.slice a1 n1 c1) (.slice a2 n2 c2) (.slice a3 x.Back.length c3)).toArray 31 hs0 (Nat.le_of_ble_eq_true rfl) (by simp [Value.oneCell']) size_implGrid ?_; intro W2 hW; have hM2 := Moved.row hW; have hr2 := (row_turn hs0 hW (cur' := scrRow x (.slice p0 m0 q0) (.slice a1 n1 c1) (.slice a2 n2 c2) (.slice a3 x.Back.length c3)) rfl); clear hW hs0))
  have HB2 := Lib.hid (hM2.below HB1.out (Nat.le_refl _))
  have HF2 := Lib.hid (freshS_moved HF1.out hM2 (by omega))
  have hz2 : W1.heap.size ≤ W2.heap.size := Nat.le_of_eq hM2.size.symm
  have hs2 := (hM2.other (w.heap.size + 1) (by omega)).trans hs1
  clear hs1
  go_upto_region 3 with (first
    | ((with_reducible (show wpList _ _ _ (Oper.mk _ (Op.load 25 _) _ _ _ _ :: _) _ _)); refine wpList_load_mid rfl 25 _ rfl w.heap.size 5 rfl [.int .i64 x.Alt.W, .int .i64 x.Alt.H, .slice a1 n1 c1] _ (range_part hr2 5 _ rfl) Try.underlying25 rfl size_implGrid ?_)
    | (go_at_call 28; refine (spec_l07Copy _ _ x.Alt (HA.out _ HB2.out) hm2).mono ?_; rintro e W3 ⟨_, rfl, ⟨cs3, rfl, hF⟩, hb⟩; obtain ⟨fp3, ho3, hn3, hf3⟩ := hF; obtain ⟨u1, rfl, -, -, hu1⟩ := DGrid.own_iff.1 ho3; have HG3 := Lib.hid (show FreshS W2.heap.size W3 u1 x.Alt.Cells from ⟨fp3, hu1, hn3, hf3⟩); obtain ⟨p1, m1, q1, rfl⟩ := HG3.out.shape; have HF3 := Lib.hid (HF2.out.grow hb); have HB3 := Lib.hid (bel_upto HB2.out hb (by omega)); have hz3 := hb.size; have hs3 := (hb.block w.heap.size (by omega)).trans hr2; have hs31 := (hb.block (w.heap.size + 1) (by omega)).trans hs2; clear ho3 hn3 hf3 hu1 hb hr2 hs2)
    | ((with_reducible (show wpList _ _ _ (Oper.mk _ (Op.store 25 _ _) _ _ _ _ :: _) _ _)); refine wpList_store_at rfl 25 _ _ rfl w.heap.size 5 rfl _ rfl [.int .i64 x.Alt.W, .int .i64 x.Alt.H, .slice p1 m1 q1] rfl (scrRow x (.slice p0 m0 q0) (.slice a1 n1 c1) (.slice a2 n2 c2) (.slice a3 x.Back.length c3)).toArray 31 hs3 (Nat.le_of_ble_eq_true rfl) (by simp [Value.oneCell']) size_implGrid ?_; intro W4 hW; have hM4 := Moved.row hW; have hr4 := (row_turn hs3 hW (cur' := (scrRow x (.slice p0 m0 q0) (.slice p1 m1 q1) (.slice a2 n2 c2) (.slice a3 x.Back.length c3))) rfl); clear hW hs3))
  have HB4 := Lib.hid (hM4.below HB3.out (Nat.le_refl _))
  have HF4 := Lib.hid (freshS_moved HF3.out hM4 (by omega))
  have HG4 := Lib.hid (freshS_moved HG3.out hM4 (by omega))
  have hz4 : W3.heap.size ≤ W4.heap.size := Nat.le_of_eq hM4.size.symm
  have k28 : (World.alloc W4 (.cells #[] 3)).cell? ⟨w.heap.size, 28, none⟩ = some (.slice a2 n2 c2) := (World.cell?_alloc_lt W4 _ ⟨w.heap.size, 28, none⟩ (by show w.heap.size < W4.heap.size; omega)).trans (cell_at hr4 rfl)
  have hs4 := (hM4.other (w.heap.size + 1) (by omega)).trans hs31
  clear hs31
  go_upto_region 4 with (first
    | (at_builtin; generalize hwb : World.alloc W4 _ = W5; have hb5 : Below W4.heap.size W4 W5 := (by rw [← hwb]; exact bel_alloc (Below.refl _ _) _); have hn5 : W5.heap[W4.heap.size]? = some (.cells #[] 3 (0, 0)) := (by rw [← hwb]; exact new_at _ _ rfl); have hz5 : W4.heap.size < W5.heap.size := (by rw [← hwb]; simp); clear hwb k28; have hr5 := (hb5.block w.heap.size (by omega)).trans hr4; have hs5 := (hb5.block (w.heap.size + 1) (by omega)).trans hs4; have HB5 := Lib.hid (HB4.out.trans (hb5.mono (by omega))); have hb5' := Lib.hid hb5; clear hb5 hr4 hs4; refine wpList_append_copy (α := Int) rfl _ _ 28 rfl 3 _ _ Try.underlying28 info_int rfl rfl (by decide) W4.heap.size rfl hn5 (.slice a2 n2 c2) x.Tabs rfl (HT.out.mono HB5.out) (by omega) ?_; intro v' W6 hF6 hb; obtain ⟨p2, m2, q2, rfl⟩ := hF6.repS.shape; have HT6 := Lib.hid hF6; have HB6 := Lib.hid (bel_upto HB5.out hb (by omega)); have hz6 := hb.size; have hr6 := (hb.block w.heap.size (by omega)).trans hr5; have hs6 := (hb.block (w.heap.size + 1) (by omega)).trans hs5; have HF6 := Lib.hid (HF4.out.over hb5'.out hb (Nat.le_refl _)); have HG6 := Lib.hid (HG4.out.over hb5'.out hb (Nat.le_refl _)); clear hF6 hb hr5 hs5 hb5')
    | ((with_reducible (show wpList _ _ _ (Oper.mk _ (Op.store 28 _ _) _ _ _ _ :: _) _ _)); refine wpList_store_at rfl 28 _ _ rfl w.heap.size 28 rfl _ rfl [.slice p2 m2 q2] rfl (scrRow x (.slice p0 m0 q0) (.slice p1 m1 q1) (.slice a2 n2 c2) (.slice a3 x.Back.length c3)).toArray 31 hr6 (Nat.le_of_ble_eq_true rfl) (by simp [Value.oneCell']) (show (Try.prog.info? 28).map (·.size) = some 1 by kernel_rfl) ?_; intro W7 hW; have hM7 := Moved.row hW; have hr7 := (row_turn hr6 hW (cur' := (scrRow x (.slice p0 m0 q0) (.slice p1 m1 q1) (.slice p2 m2 q2) (.slice a3 x.Back.length c3))) rfl); clear hW hr6))
  have HB7 := Lib.hid (hM7.below HB6.out (Nat.le_refl _))
  have HF7 := Lib.hid (freshS_low (freshS_moved HF6.out hM7 (by omega)) (show w.heap.size + 2 ≤ W0.heap.size by omega))
  have HG7 := Lib.hid (freshS_low (freshS_moved HG6.out hM7 (by omega)) (show w.heap.size + 2 ≤ W2.heap.size by omega))
  have HT7 := Lib.hid (freshS_low (freshS_moved HT6.out hM7 (by omega)) (show w.heap.size + 2 ≤ W4.heap.size by omega))
  have hz7 : W6.heap.size ≤ W7.heap.size := Nat.le_of_eq hM7.size.symm
  have hs7 := (hM7.other (w.heap.size + 1) (by omega)).trans hs6
  have hz70 : w.heap.size + 2 ≤ W7.heap.size := by omega
  clear hs6 HF1 HF2 HF3 HF4 HF6 HG3 HG4 HG6 HT6 hM7 hz7 hz6 hz5 hz4 hz3 hz2 hz1 hM2 hM4 HB1 HB2 HB3 HB4 HB5 HB6
  have k30 : (World.alloc W7 (.cells #[] 39)).cell? ⟨w.heap.size, 30, none⟩ = some (.slice a3 x.Back.length c3) := (World.cell?_alloc_lt W7 _ ⟨w.heap.size, 30, none⟩ (by show w.heap.size < W7.heap.size; omega)).trans (cell_at hr7 rfl)
  go_wp2_with fail
  generalize hwb : World.alloc W7 _ = W8
  have hb8 : Below W7.heap.size W7 W8 := by rw [← hwb]; exact bel_alloc (Below.refl _ _) _
  have HE := Lib.hid (show FreshS (α := DRow) W7.heap.size W8 (.slice (some ⟨W7.heap.size, 0, none⟩) 0 0) [] from ⟨[W7.heap.size], OwnS.empty (α := DRow) (e := 39) rfl (by rw [← hwb]; exact new_at _ _ rfl), by simp, by simp⟩)
  have HB8 := Lib.hid hb8
  clear hwb hb8 k30
  go_loopw [3, 23] (fun rv i wr => ∃ k : Nat, k ≤ x.Back.length ∧ i = .int .i64 k ∧ Hid (FreshS W7.heap.size wr rv (x.Back.take k)) ∧ Hid (Below W7.heap.size W7 wr)) (fun _ i _ => x.Back.length - (intOf i).toNat)
  case atStart => exact ⟨0, Nat.zero_le _, rfl, by show FreshS _ _ _ _; simpa using HE.out, HB8.out⟩
  case round =>
    obtain ⟨k, hk, rfl, HF, HB⟩ := hrel
    obtain ⟨ra, rn, rc, rfl⟩ := HF.out.shape
    have hws := HB.out.size
    by_cases hlt : k < x.Back.length
    · have hB0 := HB7.out.trans (HB.out.mono HB7.out.size)
      have hne : x.Back ≠ [] := by intro e; rw [e] at hlt; simp at hlt
      obtain ⟨b, off, rfl, hc⟩ := HC.out hne
      obtain ⟨y, hx⟩ : ∃ y, x.Back[k]? = some y := ⟨x.Back[k], by simp [hlt]⟩
      obtain ⟨rr, hrep, hcell⟩ := hc k y hx
      simp only [show k * Rep.size DRow = k from Nat.mul_one k] at hcell
      have HI := Lib.hid (show (Try.prog.info? 39).map (·.size) = some rr.length by rw [Rep.len hrep]; exact size_implRow)
      have HL := Lib.hid (show ∀ (j : Nat) u, rr[j]? = some u → wr.cell? ⟨b, off + k + j, none⟩ = some u from fun j u hu => (hB0.cell (p := ⟨b, _, none⟩) (World.block_lt_of_cell? w _ (hcell j u hu))).trans (hcell j u hu))
      have HR := Lib.hid hrep
      have HX := Lib.hid hx
      obtain ⟨ya0, yn0, yc0, rfl⟩ := DRow.shape hrep
      clear hc hcell hrep hne hx
      have hyl : y.Cells.length ≤ 120 := (rowOk_len (List.all_eq_true.1 HQ.out.2.2.2.2.2.2.2.1 y (List.mem_of_getElem? HX.out))).2.1
      have HY := Lib.hid (show RepS w (.slice ya0 yn0 yc0) y.Cells from by obtain ⟨v0, e, h⟩ := DRow.rep_iff.1 HR.out; simp at e; rw [e]; exact h)
      have HBw := Lib.hid hB0
      have HN := Lib.hid (show x.Back.take (k + 1) = x.Back.take k ++ [DRow.mk y.Cells] from by rw [List.take_add_one, HX.out]; rfl)
      clear hB0
      go_wp2_with (first
        | (with_reducible (show wpList _ _ _ (Oper.mk _ (Op.load 39 _) _ _ _ _ :: _) _ _); refine wpList_load_agg rfl 39 _ rfl b _ rfl _ _ HL.out Try.underlying39 HI.out ?_)
        | (at_builtin; generalize hwb : World.alloc (World.alloc wr _) _ = V0; obtain ⟨hb0, hq0, hq1, hzq⟩ := boxes2 hwb; clear hwb; have hzq : wr.heap.size + 1 < V0.heap.size := (by omega); have HV0 := Lib.hid hb0; refine wpList_append_copy (α := DCell) rfl _ _ 23 rfl 37 _ _ Try.underlying23 info_implCell rfl rfl (by decide) (wr.heap.size + 1) rfl hq1 (.slice ya0 yn0 yc0) y.Cells rfl (HY.out.mono (HBw.out.trans (hb0.mono HBw.out.size))) (by omega) ?_; intro v' V1 hF hb; obtain ⟨sa, sn, sc, rfl⟩ := hF.repS.shape; have HF1 := Lib.hid (freshS_low hF (Nat.le_succ _)); have HV1 := Lib.hid (hb0.trans (hb.mono (Nat.le_succ _))); clear hF hb hq0 hq1 hb0)
        | (at_builtin; generalize hwb : World.alloc V1 _ = V2; have hb2 : Below V1.heap.size V1 V2 := (by rw [← hwb]; exact bel_alloc (Below.refl _ _) _); have hn2 : V2.heap[V1.heap.size]? = some (.cells #[.slice sa sn sc] 39 (0, 0)) := (by rw [← hwb]; exact new_at _ _ rfl); clear hwb; have HV2 := Lib.hid (HV1.out.trans (hb2.mono HV1.out.size)); refine wpList_append_drow rfl _ _ 29 rfl Try.underlying29 info_implRow (B := W7.heap.size) (wr := wr) (v := .slice ra rn rc) (u := .slice sa sn sc) (l := x.Back.take k) (r := y.Cells) (g := V1.heap.size) (c := 1) rfl rfl HB.out.size HF.out HV2.out (HF1.out.grow hb2) hn2 (by simp; omega) ?_; intro v' V3 hF3 hb3; have HF3 := Lib.hid hF3; have HV3 := Lib.hid (HB.out.trans ((HV2.out.mono HB.out.size).trans hb3)); clear hF3 hb3 hb2))
      go_roundw
      case rel => exact ⟨k + 1, by omega, by go_num, by show FreshS _ _ _ _; rw [HN.out]; exact HF3.out, HV3.out⟩
      case measure => simp [intOf]; omega
    · obtain rfl : k = x.Back.length := by omega
      have hr9 := (HB.out.block w.heap.size (by omega)).trans hr7
      have hs9 := (HB.out.block (w.heap.size + 1) (by omega)).trans hs7
      rw [List.take_length] at HF
      clear hr7 hs7
      go_wp2_with (first
        | ((with_reducible (show wpList _ _ _ (Oper.mk _ (Op.store 29 _ _) _ _ _ _ :: _) _ _)); refine wpList_store_at rfl 29 _ _ rfl w.heap.size 30 rfl _ rfl [.slice ra rn rc] rfl (scrRow x (.slice p0 m0 q0) (.slice p1 m1 q1) (.slice p2 m2 q2) (.slice a3 x.Back.length c3)).toArray 31 hr9 (Nat.le_of_ble_eq_true rfl) (by simp [Value.oneCell']) (show (Try.prog.info? 29).map (·.size) = some 1 by kernel_rfl) ?_; intro V1 hW; have hM1 := Moved.row hW; have hv1 := (row_turn hr9 hW (cur' := (scrRow x (.slice p0 m0 q0) (.slice p1 m1 q1) (.slice p2 m2 q2) (.slice ra rn rc))) rfl); clear hW hr9; have hv2 := (hM1.other (w.heap.size + 1) (by omega)).trans hs9)
        | ((with_reducible (show wpList _ _ _ (Oper.mk _ (Op.load 31 _) _ _ _ _ :: _) _ _)); refine wpList_load_row rfl 31 _ rfl w.heap.size rfl 31 (scrRow x (.slice p0 m0 q0) (.slice p1 m1 q1) (.slice p2 m2 q2) (.slice ra rn rc)).toArray (0, 0) _ hv1 Try.underlying31 rfl size_implScr ?_)
        | ((with_reducible (show wpList _ _ _ (Oper.mk _ (Op.store 31 _ _) _ _ _ _ :: _) _ _)); refine wpList_store_at rfl 31 _ _ rfl (w.heap.size + 1) 0 rfl _ rfl (scrRow x (.slice p0 m0 q0) (.slice p1 m1 q1) (.slice p2 m2 q2) (.slice ra rn rc)) rfl zeroScr.toArray 31 hv2 (Nat.le_of_ble_eq_true rfl) (scrRow_one x rfl rfl rfl rfl) size_implScr ?_; intro V3 hW; have hM3 := Moved.row hW; have hv3 := (row_turn hv2 hW (cur' := (scrRow x (.slice p0 m0 q0) (.slice p1 m1 q1) (.slice p2 m2 q2) (.slice ra rn rc))) rfl); clear hW))
      exact bodyPost_ret (results_cell_row Try.results77 _ _ (w.heap.size + 1) 31 (scrRow x (.slice p0 m0 q0) (.slice p1 m1 q1) (.slice p2 m2 q2) (.slice ra rn rc)).toArray (0, 0) _ rfl hv3 Try.underlying31 rfl size_implScr) rfl ⟨_, rfl, ⟨W7.heap.size, V3.heap.size, (scrRow x (.slice p0 m0 q0) (.slice p1 m1 q1) (.slice p2 m2 q2) (.slice ra rn rc)), rfl, by omega, by have := hM1.size; have := hM3.size; omega, Nat.le_refl _, _, _, _, _, rfl, (HF7.out.holdAt (Nat.le_refl _) HB.out hM1 (by omega) hM3 (by omega)).low (by omega), (HG7.out.holdAt (Nat.le_refl _) HB.out hM1 (by omega) hM3 (by omega)).low (by omega), (HT7.out.holdAt (Nat.le_refl _) HB.out hM1 (by omega) hM3 (by omega)).low (by omega), (freshS_moved (freshS_moved HF.out hM1 (by omega)) hM3 (by omega)).bm (Nat.le_refl _)⟩, hM3.below (hM1.below (HB7.out.trans (HB.out.mono HB7.out.size)) (Nat.le_refl _)) (by omega)⟩
end Go.Proofs.Ytaobgfneeijpmaa
