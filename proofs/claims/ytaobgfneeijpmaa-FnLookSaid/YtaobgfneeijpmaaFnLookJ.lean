/- The walk of the program's (*Scr).look, some rows back. -/
import Derived.Test.YtaobgfneeijpmaaFnLookI
import Derived.Test.YtaobgfneeijpmaaDel
import Derived.Deep.CutRange
set_option linter.unusedSimpArgs false
set_option linter.unusedVariables false
namespace Go.Mux
open Go.RowKit
/-- Slice values that read as these rows. -/
@[irreducible] def RowsOf (w : World) (vs : List VS) (rows : List (List DCell)) : Prop := vs.length = rows.length ∧ ∀ (i : Nat) v r, vs[i]? = some v → rows[i]? = some r → RepS w v.v r
theorem RowsOf.nil (w : World) : RowsOf w [] [] := by unfold RowsOf; exact ⟨rfl, by simp⟩
theorem RowsOf.snoc {w : World} {vs : List VS} {rows : List (List DCell)} {v : Value} {r : List DCell} (h : RowsOf w vs rows) (hr : RepS w v r) : RowsOf w (vs ++ [⟨v⟩]) (rows ++ [r]) := by
  unfold RowsOf at *
  obtain ⟨h1, h2⟩ := h
  refine ⟨by simp [h1], fun i u q hu hq => ?_⟩
  by_cases hi : i < vs.length
  · rw [List.getElem?_append_left hi] at hu
    rw [List.getElem?_append_left (by omega)] at hq
    exact h2 i u q hu hq
  · rw [List.getElem?_append_right (by omega)] at hu hq
    have e1 : i - vs.length = 0 := by
      have : i - vs.length < 1 := by rw [List.getElem?_eq_some_iff] at hu; exact hu.1
      omega
    rw [e1] at hu
    rw [← h1, e1] at hq
    simp at hu hq
    subst hu hq
    exact hr
theorem RowsOf.len {w : World} {vs : List VS} {rows : List (List DCell)} (h : RowsOf w vs rows) : vs.length = rows.length := by unfold RowsOf at h; exact h.1
theorem RowsOf.get {w : World} {vs : List VS} {rows : List (List DCell)} (h : RowsOf w vs rows) {i : Nat} {v : VS} {r : List DCell} (hv : vs[i]? = some v) (hr : rows[i]? = some r) : RepS w v.v r := by unfold RowsOf at h; exact h.2 i v r hv hr
def backRows (x : DScr) : List (List DCell) := x.Back.map fun r => r.Cells
def mainRows (x : DScr) (k : Nat) : List (List DCell) := (List.range k).map fun y => rowOf x.Main ((y : Nat) : Int)
theorem mainRows_succ (x : DScr) (k : Nat) : mainRows x (k + 1) = mainRows x k ++ [rowOf x.Main ((k : Nat) : Int)] := by unfold mainRows; rw [List.range_succ, List.map_append]; rfl
theorem Moved.trans {g : Nat} {W W1 W2 : World} (h : Moved g W W1) (h2 : Moved g W1 W2) : Moved g W W2 :=
  ⟨h2.os.trans h.os, h2.tape.trans h.tape, h2.output.trans h.output, h2.size.trans h.size, fun k hk => (h2.other k hk).trans (h.other k hk)⟩
theorem set3 {W : World} {p : Nat} {c0 c1 c2 v0 v1 v2 : Value} {t : TypeId} (h : W.heap[p]? = some (.cells #[c0, c1, c2] t (0, 0))) :
    (((W.setCell ⟨p, 0, none⟩ v0).setCell ⟨p, 1, none⟩ v1).setCell ⟨p, 2, none⟩ v2).heap[p]? = some (.cells #[v0, v1, v2] t (0, 0)) ∧ Moved p W (((W.setCell ⟨p, 0, none⟩ v0).setCell ⟨p, 1, none⟩ v1).setCell ⟨p, 2, none⟩ v2) := by
  have h1 : (W.setCell ⟨p, 0, none⟩ v0).heap[p]? = some (.cells #[v0, c1, c2] t (0, 0)) := by rw [setCell_eq_setRow W p 0 _ t _ v0 h]; exact setRow_heap W p _ _ t _ h
  have h2 : ((W.setCell ⟨p, 0, none⟩ v0).setCell ⟨p, 1, none⟩ v1).heap[p]? = some (.cells #[v0, v1, c2] t (0, 0)) := by rw [setCell_eq_setRow _ p 1 _ t _ v1 h1]; exact setRow_heap _ p _ _ t _ h1
  have h3 : (((W.setCell ⟨p, 0, none⟩ v0).setCell ⟨p, 1, none⟩ v1).setCell ⟨p, 2, none⟩ v2).heap[p]? = some (.cells #[v0, v1, v2] t (0, 0)) := by rw [setCell_eq_setRow _ p 2 _ t _ v2 h2]; exact setRow_heap _ p _ _ t _ h2
  exact ⟨h3, ((Moved.row (setCell_eq_setRow W p 0 _ t _ v0 h)).trans (Moved.row (setCell_eq_setRow _ p 1 _ t _ v1 h1))).trans (Moved.row (setCell_eq_setRow _ p 2 _ t _ v2 h2))⟩
/-- Of what was there block G alone may have turned. -/
structure Part (G : Nat) (W W1 : World) : Prop where
  os : W1.os = W.os
  tape : W1.tape = W.tape
  output : W1.output = W.output
  size : W.heap.size ≤ W1.heap.size
  other : ∀ k, k < W.heap.size → k ≠ G → W1.heap[k]? = W.heap[k]?
theorem Part.refl (G : Nat) (W : World) : Part G W W := ⟨rfl, rfl, rfl, Nat.le_refl _, fun _ _ _ => rfl⟩
theorem Part.call {G : Nat} {W W1 W2 : World} (h : Part G W W1) (hb : Below W1.heap.size W1 W2) : Part G W W2 :=
  ⟨hb.os.trans h.os, hb.tape.trans h.tape, hb.output.trans h.output, Nat.le_trans h.size hb.size, fun k hk hg => (hb.block k (Nat.lt_of_lt_of_le hk h.size)).trans (h.other k hk hg)⟩
theorem Part.moved {G : Nat} {W W1 W2 : World} (h : Part G W W1) (hm : Moved G W1 W2) : Part G W W2 :=
  ⟨hm.os.trans h.os, hm.tape.trans h.tape, hm.output.trans h.output, by rw [hm.size]; exact h.size, fun k hk hg => (hm.other k hg).trans (h.other k hk hg)⟩
theorem Part.below {B G : Nat} {w W W1 : World} (h : Part G W W1) (hb : Below B w W) (hG : B ≤ G) (hB : B ≤ W.heap.size) : Below B w W1 :=
  hb.trans ⟨h.os, h.tape, h.output, h.size, fun k hk => h.other k (by omega) (by omega)⟩
/-- The rows that are shown, the first j of them laid out; blanks behind. -/
@[irreducible] def lookTop (x : DScr) (n fr W j : Nat) : List DCell := ((List.range j).map fun i => fillRow W ((backRows x ++ mainRows x x.H.toNat)[fr + i]?.getD [])).flatten ++ List.replicate (n - j * W) blankC
theorem lookTop_zero (x : DScr) (n fr W : Nat) : lookTop x n fr W 0 = List.replicate n blankC := by unfold lookTop; simp
theorem fillRow_len (n : Nat) (l : List DCell) : (fillRow n l).length = n := by unfold fillRow; rw [List.length_append, List.length_take, List.length_replicate]; omega
theorem flat_len {α : Type} (n : Nat) : ∀ (L : List (List α)), (∀ l ∈ L, l.length = n) → L.flatten.length = L.length * n
  | [], _ => by simp
  | l :: L, h => by rw [List.flatten_cons, List.length_append, flat_len n L (fun q hq => h q (by simp [hq])), h l (by simp), List.length_cons, Nat.add_mul]; omega
theorem lookTop_len {x : DScr} {n fr W j : Nat} (h : j * W ≤ n) : (lookTop x n fr W j).length = n := by
  unfold lookTop
  rw [List.length_append, flat_len W _ (fun l hl => by obtain ⟨i, _, rfl⟩ := List.mem_map.1 hl; exact fillRow_len _ _), List.length_map, List.length_range, List.length_replicate]
  omega
theorem take_get {α : Type} {l : List α} {k i : Nat} {u : α} (h : (l.take k)[i]? = some u) : l[i]? = some u := by
  rw [List.getElem?_take] at h
  split at h
  · exact h
  · cases h
theorem lookTop_succ {x : DScr} {n fr W j mm H : Nat} {r : List DCell} (hH : x.H = (H : Int)) (hr : (backRows x ++ mainRows x H)[fr + j]? = some r) (hm : mm = min r.length W) (hn : j * W + W ≤ n) : lookTop x n fr W (j + 1) = putC (lookTop x n fr W j) (j * W) (r.take mm) := by
  have hHn : x.H.toNat = H := by rw [hH, Int.toNat_natCast]
  unfold lookTop
  rw [List.range_succ, List.map_append, List.flatten_append]
  obtain ⟨A, hA⟩ : ∃ A, A = ((List.range j).map fun i => fillRow W ((backRows x ++ mainRows x x.H.toNat)[fr + i]?.getD [])).flatten := ⟨_, rfl⟩
  have hAl : A.length = j * W := by rw [hA, flat_len W _ (fun l hl => by obtain ⟨i, _, rfl⟩ := List.mem_map.1 hl; exact fillRow_len _ _), List.length_map, List.length_range]
  rw [← hA]
  simp only [List.map_cons, List.map_nil, List.flatten_cons, List.flatten_nil, List.append_nil, hHn, hr, Option.getD_some]
  have hmr : mm ≤ r.length := by rw [hm]; exact Nat.min_le_left _ _
  have hmW : mm ≤ W := by rw [hm]; exact Nat.min_le_right _ _
  have ht : r.take mm = r.take W := by
    by_cases h : r.length ≤ W
    · rw [hm, Nat.min_eq_left h, List.take_of_length_le (Nat.le_refl _), List.take_of_length_le h]
    · rw [hm, Nat.min_eq_right (by omega)]
  have htl : (r.take W).length = mm := by rw [← ht, List.length_take, Nat.min_eq_left hmr]
  unfold putC
  rw [ht, htl, List.take_left' hAl, List.drop_append, hAl, List.drop_of_length_le (by omega : A.length ≤ j * W + mm), List.nil_append, List.drop_replicate]
  unfold fillRow
  rw [List.append_assoc, List.append_assoc, List.append_assoc, List.replicate_append_replicate]
  congr 4
  have : r.length = mm ∨ mm = W := by
    rcases Nat.le_total r.length W with h | h
    · left; rw [hm, Nat.min_eq_left h]
    · right; rw [hm, Nat.min_eq_right h]
  rw [Nat.add_mul, Nat.one_mul]
  rcases this with h | h <;> omega
theorem lookTop_cells {w : World} {vs : List VS} {x : DScr} {n fr W j H : Nat} (hH : x.H = (H : Int)) (h : RowsOf w vs (backRows x ++ mainRows x H)) : ∀ c ∈ lookTop x n fr W j, cellI c := by
  have hHn : x.H.toNat = H := by rw [hH, Int.toNat_natCast]
  have hb : cellI blankC := by unfold cellI; exact ⟨⟨by decide, by decide⟩, ⟨by decide, by decide⟩, ⟨by decide, by decide⟩⟩
  intro c hc
  unfold lookTop at hc
  rcases List.mem_append.1 hc with hc | hc
  · obtain ⟨l, hl, hcl⟩ := List.mem_flatten.1 hc
    obtain ⟨i, _, rfl⟩ := List.mem_map.1 hl
    unfold fillRow at hcl
    rcases List.mem_append.1 hcl with hcl | hcl
    · have hcl := List.mem_of_mem_take hcl
      rw [hHn] at hcl
      cases hr : (backRows x ++ mainRows x H)[fr + i]? with
      | none => rw [hr] at hcl; simp at hcl
      | some r =>
        rw [hr] at hcl
        have hlt : fr + i < vs.length := by rw [h.len]; rw [List.getElem?_eq_some_iff] at hr; exact hr.1
        obtain ⟨_, _, _, _, hI, _⟩ := cells_open (h.get (List.getElem?_eq_getElem hlt) hr)
        exact hI c (by simpa using hcl)
    · rw [(List.mem_replicate.1 hcl).2]; exact hb
  · rw [(List.mem_replicate.1 hc).2]; exact hb
theorem fillRow_same {n : Nat} {l : List DCell} (h : l.length = n) : fillRow n l = l := by unfold fillRow; rw [h, Nat.sub_self, List.take_of_length_le (by omega)]; simp
theorem rows_flat {x : DScr} {W : Nat} (hW : x.Main.W = (W : Int)) : ∀ k : Nat, ((List.range k).map fun y : Nat => rowOf x.Main (y : Int)).flatten = x.Main.Cells.take (k * W)
  | 0 => by simp
  | k + 1 => by
    rw [List.range_succ, List.map_append, List.flatten_append, rows_flat hW k, Nat.add_mul, Nat.one_mul, List.take_add]
    congr 1
    simp only [List.map_cons, List.map_nil, List.flatten_cons, List.flatten_nil, List.append_nil]
    unfold rowOf
    rw [hW, Int.toNat_natCast, Int.toNat_natCast]
theorem lookTop_all {x : DScr} {n fr W H : Nat} (hW : x.W = (W : Int)) (hH : x.H = (H : Int)) (hn : n = W * H) (hg : gridOkB x.Main = true) (e1 : x.Main.W = x.W) (e2 : x.Main.H = x.H) (hf : fr ≤ x.Back.length) :
    ((lookAll x).drop (fr * x.W.toNat)).take (x.W.toNat * x.H.toNat) = lookTop x n fr W H := by
  have hWn : x.W.toNat = W := by rw [hW, Int.toNat_natCast]
  have hHn : x.H.toNat = H := by rw [hH, Int.toNat_natCast]
  obtain ⟨_, _, _, _, _, _, s7⟩ := gridOkB_size hg
  rw [e1, e2, hW, hH, ← Int.natCast_mul] at s7
  have hlen : x.Main.Cells.length = W * H := Int.ofNat.inj s7
  have hrl : ∀ y : Nat, y < H → (rowOf x.Main (y : Int)).length = W := by
    intro y hy
    unfold rowOf
    rw [e1, hWn, Int.toNat_natCast, List.length_take, List.length_drop, hlen]
    have : (y + 1) * W ≤ H * W := Nat.mul_le_mul_right _ hy
    rw [Nat.add_mul, Nat.one_mul, Nat.mul_comm H W] at this
    omega
  obtain ⟨R, hR⟩ : ∃ R, R = (backRows x ++ mainRows x H).map (fillRow W) := ⟨_, rfl⟩
  have hRl : ∀ l ∈ R, l.length = W := by
    intro l hl
    rw [hR] at hl
    obtain ⟨r, _, rfl⟩ := List.mem_map.1 hl
    exact fillRow_len _ _
  have hRf : R.flatten = lookAll x := by
    rw [hR, List.map_append, List.flatten_append]
    unfold lookAll
    rw [hWn]
    congr 1
    · unfold backRows
      rw [List.map_map]
      rfl
    · have e : (mainRows x H).map (fillRow W) = (List.range H).map fun y : Nat => rowOf x.Main (y : Int) := by
        unfold mainRows
        rw [List.map_map]
        refine List.map_congr_left fun y hy => ?_
        exact fillRow_same (hrl y (List.mem_range.1 hy))
      rw [e, rows_flat (e1.trans hW) H, Nat.mul_comm H W, ← hlen, List.take_length]
  rw [hWn, hHn, ← hRf, ← flatten_drop W R fr hRl, Nat.mul_comm W H, ← flatten_take W (R.drop fr) H (fun q hq => hRl q (List.mem_of_mem_drop hq))]
  unfold lookTop
  rw [hn, Nat.mul_comm W H, Nat.sub_self, hHn]
  simp only [List.replicate_zero, List.append_nil]
  congr 1
  apply List.ext_getElem?
  intro i
  have hll : (backRows x ++ mainRows x H).length = x.Back.length + H := by unfold backRows mainRows; simp
  rw [List.getElem?_take, List.getElem?_map]
  by_cases hi : i < H
  · rw [if_pos hi, List.getElem?_drop, hR, List.getElem?_map, List.getElem?_range hi]
    have hlt : fr + i < (backRows x ++ mainRows x H).length := by rw [hll]; omega
    simp only [Option.map_some, List.getElem?_eq_getElem hlt, Option.getD_some]
  · rw [if_neg hi, List.getElem?_eq_none (by simpa using hi)]
    rfl
theorem bel3 {B : Nat} {w0 w1 w2 w3 : World} (h1 : Below B w0 w1) (h2 : Below w1.heap.size w1 w2) (hB : B ≤ w1.heap.size) (h3 : Below B w2 w3) : Below B w0 w3 := (h1.trans (h2.mono hB)).trans h3
end Go.Mux
namespace Go.Proofs.Ytaobgfneeijpmaa
open Go.RowKit Go.Mux
set_option maxRecDepth 100000 in
set_option maxHeartbeats 1000000 in
/-- The y-th row of a grid whose cells lie in a row of their own: the stretch of it. -/
theorem impl_Grid_row_at (w : World) (W H y : Int) (lo m n G : Nat) (e1 : y * W = (lo : Int)) (e2 : (y + 1) * W = ((lo + m : Nat) : Int)) (hy : 0 ≤ y) (hy2 : y < 120) (hm : 1 ≤ m) (hn : lo + m ≤ n) (hn2 : n ≤ 4000) :
    Calls Try.prog 32 #[.agg #[.int .i64 W, .int .i64 H, .slice (some ⟨G, 0, none⟩) n n], .int .i64 y] w (Gives w fun r _ => r = .slice (some ⟨G, lo * 6, none⟩) m (n - lo)) := by
  have hw1 : IntKind.i64.wrap (y + 1) = y + 1 := by rw [IntKind.wrap_i64]; omega
  have hw2 : IntKind.i64.wrap (y * W) = (lo : Int) := by rw [e1, IntKind.wrap_i64]; omega
  have hw3 : IntKind.i64.wrap ((y + 1) * W) = ((lo + m : Nat) : Int) := by rw [e2, IntKind.wrap_i64]; omega
  have b1 : lo ≤ lo + m := by omega
  clear e1 e2
  go_enter Try.func32, Try.ntmps32
  go_wp2_with fail
  go_ret
  refine ⟨_, rfl, ?_, (by repeat (first | (with_reducible exact Below.refl _ _) | (with_reducible assumption) | (with_reducible refine bel_alloc ?_ _) | ((with_reducible refine bel_set ?_ ?_ _); rotate_left; (focus first | (simp; done) | (simp; omega)))))⟩
  have e : lo + m - lo = m := by omega
  show Value.slice (some ⟨G, lo * 6, none⟩) (lo + m - lo) (n - lo) = _
  rw [e]
theorem info_cells : (Try.prog.info? 23).map (fun i => (i.zero, i.size, i.bytes)) = some (some (.slice none 0 0), 1, 24) := by kernel_rfl
set_option maxRecDepth 100000 in
set_option maxHeartbeats 2000000 in
theorem impl_look_back (w : World) (g : Nat) (cs : List Value) (x : DScr) (back : Int) (h : Rep.rep w cs x) (hbox : w.heap[g]? = some (.cells cs.toArray 31 (0, 0))) (hg : scrOkB x = true) (ho : x.OnAlt = false) (hp : 0 < back) :
    Calls Try.prog 24 #[.pointer (some ⟨g, 0, none⟩), .int .i64 back] w (Gives w fun r w' => ∃ cs', r = .agg cs'.toArray ∧ Fresh w.heap.size w' cs' (lookBack x back)) := by
  obtain ⟨v0, v1, v2, v3, rfl, h0, h1, h2, h3, h4, h5, h6, h7, h8, h9, h10, h11, h12, h13, h14, h15, h16, h17, h18, h19, h20⟩ := DScr.rep_iff.1 h
  have HM := Lib.hid ((DGrid.rep_iff (w := w) (x := x.Main)).2 ⟨v0, rfl, h2, h3, h4⟩)
  obtain ⟨a0, n0, c0, rfl⟩ := h4.shape
  obtain ⟨a3, c3, rfl, ⟨hl3, hl4⟩, hc3⟩ := h20
  have HC := Lib.hid hc3
  have q := scrOkB_true hg
  have HQ := Lib.hid q
  obtain ⟨e1, e2, -, -⟩ := scrSize_true q.2.2.2.2.2.2.1
  obtain ⟨s1, s2, s3, s4, s5, s6, s7⟩ := gridOkB_size q.2.2.2.2.1
  have hlb : x.Back.length ≤ 100 := by have := q.2.2.2.2.2.2.2.2.2.2.2.2.2.2.2.2.2.2.2.2.2.2; omega
  have hgl : g < w.heap.size := (Array.getElem?_eq_some_iff.1 hbox).1
  rw [e1] at s1 s2
  rw [e2] at s3 s4
  have b0 : w.cell? ⟨g, 0, none⟩ = some (.int .i64 x.W) := by simp only [World.cell?, hbox]; rfl
  have b1 : w.cell? ⟨g, 1, none⟩ = some (.int .i64 x.H) := by simp only [World.cell?, hbox]; rfl
  have b2 : w.cell? ⟨g, 2, none⟩ = some (.int .i64 x.Main.W) := by simp only [World.cell?, hbox]; rfl
  have b3 : w.cell? ⟨g, 3, none⟩ = some (.int .i64 x.Main.H) := by simp only [World.cell?, hbox]; rfl
  have b4 : w.cell? ⟨g, 4, none⟩ = some (.slice a0 n0 c0) := by simp only [World.cell?, hbox]; rfl
  have b8 : w.cell? ⟨g, 8, none⟩ = some (.bool false) := by rw [← ho]; simp only [World.cell?, hbox]; rfl
  have b30 : w.cell? ⟨g, 30, none⟩ = some (.slice a3 x.Back.length c3) := by simp only [World.cell?, hbox]; rfl
  have hd : decide (back ≤ 0) = false := decide_eq_false (by omega)
  have HE2 := Lib.hid e2
  have HE1 := Lib.hid e1
  clear h h0 h1 h2 h3 h4 h5 h6 h7 h8 h9 h10 h11 h12 h13 h14 h15 h16 h17 h18 h19 q hbox hg hc3 e1 e2 s5 s6 s7 ho
  go_enter Try.func24, Try.ntmps24
  go_wp2_with fail
  generalize hwb : World.alloc (World.alloc w _) _ = W0
  have HB0 := Lib.hid (show Below w.heap.size w W0 from by rw [← hwb]; exact bel_alloc (bel_alloc (Below.refl _ _) _) _)
  have hz0 : w.heap.size + 1 < W0.heap.size := by rw [← hwb]; simp
  have hr0 : W0.heap[w.heap.size]? = some (.cells #[.int .i64 0, .int .i64 0, .slice none 0 0] 25 (0, 0)) := by rw [← hwb]; exact (Below.heap_alloc _ _ _ (by simp)).trans (new_at _ _ rfl)
  have HF0 := Lib.hid (show FreshS (α := VS) (w.heap.size + 1) W0 (.slice (some ⟨w.heap.size + 1, 0, none⟩) 0 0) [] from ⟨[w.heap.size + 1], OwnS.empty (α := VS) (e := 23) rfl (by rw [← hwb]; exact new_at _ _ (by simp)), by simp, by simp⟩)
  clear hwb
  go_loopw [5, 31] (fun rv i wr => ∃ (k : Nat) (vs : List VS), k ≤ x.Back.length ∧ i = .int .i64 k ∧ Hid (RowsOf w vs ((backRows x).take k)) ∧ Hid (FreshS (w.heap.size + 1) wr rv vs) ∧ Hid (Below (w.heap.size + 1) W0 wr)) (fun _ i _ => x.Back.length - (intOf i).toNat)
  case atStart => exact ⟨0, [], Nat.zero_le _, rfl, RowsOf.nil w, HF0.out, Below.refl _ _⟩
  case round =>
    obtain ⟨k, vs, hk, rfl, HRO, HF, HB⟩ := hrel
    have hwsz := HB.out.size
    have hB0 := HB0.out.trans (HB.out.mono (Nat.le_succ _))
    have kA := fun o => hB0.cell (p := ⟨g, o, none⟩) hgl
    have hvl : vs.length = k := by rw [HRO.out.len, List.length_take]; unfold backRows; rw [List.length_map]; omega
    obtain ⟨ra, rn, rc, rfl⟩ := HF.out.shape
    by_cases hlt : k < x.Back.length
    · have hne : x.Back ≠ [] := by intro e; rw [e] at hlt; simp at hlt
      obtain ⟨b, off, rfl, hc⟩ := HC.out hne
      obtain ⟨y, hx⟩ : ∃ y, x.Back[k]? = some y := ⟨x.Back[k], by simp [hlt]⟩
      obtain ⟨rr, hrep, hcell⟩ := hc k y hx
      simp only [show k * Rep.size DRow = k from Nat.mul_one k] at hcell
      have HI := Lib.hid (show (Try.prog.info? 39).map (·.size) = some rr.length by rw [Rep.len hrep]; exact size_implRow)
      have HL := Lib.hid (show ∀ (j : Nat) u, rr[j]? = some u → wr.cell? ⟨b, off + k + j, none⟩ = some u from fun j u hu => (hB0.cell (p := ⟨b, _, none⟩) (World.block_lt_of_cell? w _ (hcell j u hu))).trans (hcell j u hu))
      have HR := Lib.hid hrep
      have HX := Lib.hid hx
      obtain ⟨ya0, yn0, yc0, rfl⟩ := DRow.shape hrep
      clear hc hcell hrep hne hx
      have HBw := Lib.hid hB0
      have HY := Lib.hid (show RepS w (.slice ya0 yn0 yc0) y.Cells from by obtain ⟨v0, e, h⟩ := DRow.rep_iff.1 HR.out; simp at e; rw [e]; exact h)
      have HN := Lib.hid (show (backRows x).take (k + 1) = (backRows x).take k ++ [y.Cells] from by rw [List.take_add_one]; unfold backRows; rw [List.getElem?_map, HX.out]; rfl)
      clear hB0
      go_wp2_with (first | (with_reducible (show wpList _ _ _ (Oper.mk _ (Op.load 39 _) _ _ _ _ :: _) _ _); refine wpList_load_agg rfl 39 _ rfl b _ rfl _ _ HL.out Try.underlying39 HI.out ?_) | (at_builtin; go_loud (refine wpList_append_flat (α := VS) rfl _ _ 99 rfl 23 (.slice none 0 0) 24 Try.underlying99 info_cells rfl rfl (by decide) (w.heap.size + 1) (by simp; omega) _ vs rfl (HF.out.grow (show Below wr.heap.size wr _ from (by repeat (first | (with_reducible exact Below.refl _ _) | (with_reducible assumption) | (with_reducible refine bel_alloc ?_ _) | ((with_reducible refine bel_set ?_ ?_ _); rotate_left; (focus first | (simp; done) | (simp; omega))))))) (.slice (some ⟨wr.heap.size + 1, 0, none⟩) 1 1) [VS.mk (.slice ya0 yn0 yc0)] rfl (vs_lit_at (by simp) rfl) (by simp; omega) (by simp; omega) ?_; intro v' W1 hF1 hb; have HF1 := Lib.hid hF1; have HB1 := Lib.hid (bel3 HB.out (show Below wr.heap.size wr _ from (by repeat (first | (with_reducible exact Below.refl _ _) | (with_reducible assumption) | (with_reducible refine bel_alloc ?_ _) | ((with_reducible refine bel_set ?_ ?_ _); rotate_left; (focus first | (simp; done) | (simp; omega)))))) (by omega) hb); clear hF1 hb)))
      go_roundw
      case rel => exact ⟨k + 1, _, by omega, by go_num, by show RowsOf _ _ _; rw [HN.out]; exact HRO.out.snoc HY.out, HF1.out, HB1.out⟩
      case measure => simp [intOf]; omega
    · have d1 : decide ((k : Int) < (x.Back.length : Int)) = false := decide_eq_false (by omega)
      have d2 : decide (k < x.Back.length) = false := decide_eq_false hlt
      obtain rfl : k = x.Back.length := by omega
      have HRB := Lib.hid (show RowsOf w vs (backRows x ++ mainRows x 0) from by have h := HRO.out; rw [List.take_of_length_le (by unfold backRows; simp)] at h; simpa [mainRows] using h)
      go_wp2_with fail
      go_loopw [5, 45] (fun rv i wq => ∃ (k : Nat) (vs : List VS), (k : Int) ≤ x.H ∧ i = .int .i64 k ∧ Hid (RowsOf w vs (backRows x ++ mainRows x k)) ∧ Hid (FreshS (w.heap.size + 1) wq rv vs) ∧ Hid (Below (w.heap.size + 1) W0 wq)) (fun _ i _ => x.H.toNat - (intOf i).toNat)
      case atStart => exact ⟨0, vs, by omega, rfl, HRB.out, HF.out, HB.out⟩
      case round =>
        obtain ⟨k, vs, hk, rfl, HRO, HF, HB⟩ := hrel
        have hwsz := HB.out.size
        have hB0 := HB0.out.trans (HB.out.mono (Nat.le_succ _))
        have kA := fun o => hB0.cell (p := ⟨g, o, none⟩) hgl
        have hvl : vs.length = x.Back.length + k := by rw [HRO.out.len]; unfold backRows mainRows; simp
        obtain ⟨ra, rn, rc, rfl⟩ := HF.out.shape
        have HBw := Lib.hid hB0
        clear hB0
        by_cases hlt : (k : Int) < x.H
        · have d1 : decide ((k : Int) < x.H) = true := decide_eq_true hlt
          go_wp2_with (first
            | (go_at_call 32; refine (impl_Grid_row w _ [_, _, _] x.Main (k : Int) HM.out HQ.out.2.2.2.2.1 (by omega) (by rw [HE2.out]; exact hlt)).mono ?_; rintro e W1 ⟨_, rfl, hr, hb⟩; obtain ⟨ya0, yn0, yc0, rfl⟩ := hr.shape; have HY := Lib.hid hr; have HBC := Lib.hid hb; have hcs := hb.size; clear hr hb)
            | (at_builtin; go_loud (refine wpList_append_flat (α := VS) rfl _ _ 99 rfl 23 (.slice none 0 0) 24 Try.underlying99 info_cells rfl rfl (by decide) (w.heap.size + 1) (by simp; omega) _ vs rfl (HF.out.grow (bel_alloc HBC.out _)) (.slice (some ⟨W1.heap.size, 0, none⟩) 1 1) [VS.mk (.slice ya0 yn0 yc0)] rfl (vs_lit_at rfl rfl) (by simp; omega) (by simp; omega) ?_; intro v' W2 hF1 hb; have HF1 := Lib.hid hF1; have HB1 := Lib.hid (bel3 HB.out (bel_alloc HBC.out _) (by omega) hb); clear hF1 hb)))
          go_roundw
          case rel => exact ⟨k + 1, _, by omega, by go_num, by show RowsOf _ _ _; rw [mainRows_succ, ← List.append_assoc]; exact HRO.out.snoc HY.out, HF1.out, HB1.out⟩
          case measure => simp [intOf]; omega
        · have d1 : decide ((k : Int) < x.H) = false := decide_eq_false hlt
          obtain ⟨n, hn⟩ : ∃ n : Nat, x.W * x.H = (n : Int) := ⟨(x.W * x.H).toNat, by have := HQ.out.2.2.2.2.1; have hh := (gridOkB_size this).2.2.2.2; rw [HE1.out, HE2.out] at hh; omega⟩
          have HN := Lib.hid hn
          have HSZ := Lib.hid (show isSizeB x.W x.H = true from by have := HQ.out.2.2.2.2.1; unfold gridOkB at this; simp only [Bool.and_eq_true] at this; rw [HE1.out, HE2.out] at this; exact this.1.1)
          obtain ⟨fr, hfr⟩ : ∃ fr, fr = lookFrom x back := ⟨_, rfl⟩
          have HFR := Lib.hid hfr
          have hfle : fr ≤ x.Back.length := by rw [hfr]; unfold lookFrom; omega
          have hmn : (if (x.Back.length : Int) < back then (x.Back.length : Int) else back) = ((x.Back.length - fr : Nat) : Int) := by rw [hfr]; unfold lookFrom; split <;> omega
          have hsub : IntKind.i64.wrap ((x.Back.length : Int) - ((x.Back.length - fr : Nat) : Int)) = (fr : Int) := by rw [IntKind.wrap_i64]; omega
          have hgq : g < wr.heap.size := Nat.lt_of_lt_of_le hgl HBw.out.size
          have q0 : wr.cell? ⟨g, 0, none⟩ = some (.int .i64 x.W) := (kA 0).trans b0
          have q1 : wr.cell? ⟨g, 1, none⟩ = some (.int .i64 x.H) := (kA 1).trans b1
          have q30 : wr.cell? ⟨g, 30, none⟩ = some (.slice a3 x.Back.length c3) := (kA 30).trans b30
          clear hn hfr
          go_upto_region 14 with (fail)
          go_cut [9, 10] from 58 to 79 (fun v9 v10 wx => v9 = .int .i64 (fr : Int) ∧ ∃ p G : Nat, v10 = .pointer (some ⟨p, 0, none⟩) ∧ wr.heap.size ≤ p ∧ p < wx.heap.size ∧ wr.heap.size ≤ G ∧ p ≠ G ∧ Hid (Below wr.heap.size wr wx) ∧ Hid (RowAt wx G (cvs (List.replicate n blankC)).toArray 37) ∧ Hid (wx.heap[p]? = some (.cells #[.int .i64 x.W, .int .i64 x.H, .slice (some ⟨G, 0, none⟩) n n] 25 (0, 0))))
          case first =>
            go_region_held3 (fun w' => w'.cell? ⟨g, 0, none⟩ = some (.int .i64 x.W) ∧ w'.cell? ⟨g, 1, none⟩ = some (.int .i64 x.H) ∧ w'.cell? ⟨g, 30, none⟩ = some (.slice a3 x.Back.length c3)) ((first | (with_reducible exact ⟨kB0, kB1, kB2⟩) | (refine ⟨?_, ?_, ?_⟩ <;> (repeat (first | (with_reducible assumption) | (rw [World.cell?_setCell_other _ _ _ _ (by first | (simp; done) | (simp; omega))]) | (rw [World.cell?_alloc_lt _ _ _ (by simp; omega)]))) <;> done) | go_keep))
              (first
                | (go_at_call 62; refine (impl_gridOf _ x.W x.H n HSZ.out HN.out).mono ?_; rintro e W3 ⟨_, rfl, ⟨G, rfl, hG, hrow⟩, hb⟩; have kB0 : W3.cell? ⟨g, 0, none⟩ = some (.int .i64 x.W) := (hb.cell (p := ⟨g, 0, none⟩) (by simp; omega)).trans (by first | exact q0 | exact (World.cell?_alloc_lt _ _ ⟨g, 0, none⟩ hgq).trans q0); have kB1 : W3.cell? ⟨g, 1, none⟩ = some (.int .i64 x.H) := (hb.cell (p := ⟨g, 1, none⟩) (by simp; omega)).trans (by first | exact q1 | exact (World.cell?_alloc_lt _ _ ⟨g, 1, none⟩ hgq).trans q1); have kB2 : W3.cell? ⟨g, 30, none⟩ = some (.slice a3 x.Back.length c3) := (hb.cell (p := ⟨g, 30, none⟩) (by simp; omega)).trans (by first | exact q30 | exact (World.cell?_alloc_lt _ _ ⟨g, 30, none⟩ hgq).trans q30); have HROW := Lib.hid hrow; have HB3 := Lib.hid (bel_next (show Below wr.heap.size wr _ from (by first | exact (Below.refl _ _).drew | exact bel_alloc (Below.refl _ _).drew _)) hb); have hc3 := bel_cell hb; have hf3 := bel_frozen hb; have hz3 := hb.size; have HK := Lib.hid (fun bb hh => hb.block bb hh); have hlt3 := hrow.lt; clear hb hrow; dsimp only))
            all_goals go_wp2_with fail
            all_goals go_meet
            all_goals first
              | exact ⟨rfl, W3.heap.size, G, rfl, HB3.out.size, by simp, by have := hG; simp at this; omega, by omega, bel_alloc HB3.out _, HROW.out.keep (Below.heap_alloc _ _ _ hlt3), new_at _ _ rfl⟩
              | (obtain ⟨hs, hm⟩ := set3 (v0 := .int .i64 x.W) (v1 := .int .i64 x.H) (v2 := .slice (some ⟨G, 0, none⟩) n n) ((HK.out wr.heap.size (by simp)).trans (new_at _ _ rfl)); have hG' := hG; simp at hG'; exact ⟨rfl, wr.heap.size, G, rfl, Nat.le_refl _, (by rw [hm.size]; omega), by omega, by omega, hm.below HB3.out (Nat.le_refl _), HROW.out.keep (hm.other G (by omega)), hs⟩)
          case rest =>
            obtain ⟨rfl, p, G, rfl, hp1, hp2, hG1, hpG, HB5, HROW5, HP5⟩ := hcut
            have HBc := Lib.hid (bel_next HBw.out HB5.out)
            have kC := fun o => HBc.out.cell (p := ⟨g, o, none⟩) hgl
            obtain ⟨W', hW'⟩ : ∃ m : Nat, x.W = (m : Int) := ⟨x.W.toNat, by omega⟩
            have HWN := Lib.hid hW'
            have hm1 : 1 ≤ W' := by omega
            have hm2 : W' ≤ 120 := by omega
            obtain ⟨H', hH'⟩ : ∃ m : Nat, x.H = (m : Int) := ⟨x.H.toNat, by omega⟩
            have HHN := Lib.hid hH'
            have hh1 : 1 ≤ H' := by omega
            have hh2 : H' ≤ 120 := by omega
            have hnn : n = W' * H' := by have h := HN.out; rw [hW', hH', ← Int.natCast_mul] at h; exact (Int.ofNat.inj h).symm
            have HNN := Lib.hid hnn
            have hn4 : n ≤ 4000 := by have h := (isSizeB_true HSZ.out).2.2.2.2.2; rw [HN.out] at h; omega
            obtain ⟨va, vcap, ve, hvl2, hvc⟩ := HF.out.repS
            injection ve with ve1 ve2 ve3
            subst ve1 ve2 ve3
            obtain ⟨vb, voff, rfl, hve⟩ := hvc (by intro e; rw [e] at hvl; simp at hvl; omega)
            have HVC := Lib.hid (show ∀ (i : Nat) v, vs[i]? = some v → wr.cell? ⟨vb, voff + i, none⟩ = some v.v from fun i v hv => by
              obtain ⟨r, ⟨rfl, _⟩, hr⟩ := hve i v hv
              have h := hr 0 v.v rfl
              simp only [show i * Rep.size VS = i from Nat.mul_one i, Nat.add_zero] at h
              exact h)
            have hvb : vb < wr.heap.size := by
              obtain ⟨v, hv⟩ : ∃ v, vs[0]? = some v := ⟨vs[0]'(by omega), by simp⟩
              exact World.block_lt_of_cell? wr _ (HVC.out 0 v hv)
            have HVC5 := Lib.hid (show ∀ (i : Nat) v, vs[i]? = some v → wc.cell? ⟨vb, voff + i, none⟩ = some v.v from fun i v hv => (HB5.out.cell (p := ⟨vb, voff + i, none⟩) hvb).trans (HVC.out i v hv))
            have hvG : vb ≠ G := by omega
            have hwG : w.heap.size ≠ G := by omega
            have hgG : g ≠ G := by omega
            have hvb5 : vb < wc.heap.size := Nat.lt_of_lt_of_le hvb HB5.out.size
            clear hve hvc
            have hkk : k = H' := by omega
            have HVL := Lib.hid (show vs.length = x.Back.length + H' from by rw [hvl, hkk])
            have HROK := Lib.hid (show RowsOf w vs (backRows x ++ mainRows x H') from by have h := HRO.out; rw [hkk] at h; exact h)
            have HR0 := Lib.hid (show wc.heap[w.heap.size]? = some (.cells #[.int .i64 0, .int .i64 0, .slice none 0 0] 25 (0, 0)) from (HB5.out.block w.heap.size (by omega)).trans ((HB.out.block w.heap.size (by omega)).trans hr0))
            clear hW' hH' hnn hkk hvl
            go_wp2_with fail
            go_loopw [84] (fun i wr => ∃ j : Nat, j ≤ H' ∧ i = .int .i64 j ∧ Hid (RowAt wr G (cvs (lookTop x n fr W' j)).toArray 37) ∧ Hid (Part G wc wr)) (fun i _ => H' - (intOf i).toNat)
            case atStart => exact ⟨0, Nat.zero_le _, rfl, by show RowAt _ _ _ _; rw [lookTop_zero]; exact HROW5.out, Part.refl _ _⟩
            case round =>
              obtain ⟨j, hj, rfl, HG, HP⟩ := hrel
              by_cases hlt : j < H'
              · have d1 : decide ((j : Int) < x.H) = true := decide_eq_true (by have := HHN.out; omega)
                obtain ⟨q, hq⟩ : ∃ q, q = fr + j := ⟨_, rfl⟩
                have HQJ := Lib.hid hq
                obtain ⟨r, hr⟩ : ∃ r, (backRows x ++ mainRows x H')[q]? = some r := ⟨(backRows x ++ mainRows x H')[q]'(by rw [← HROK.out.len, HVL.out]; omega), by rw [List.getElem?_eq_getElem]⟩
                obtain ⟨v, hv⟩ : ∃ v, vs[q]? = some v := ⟨vs[q]'(by rw [HVL.out]; omega), by rw [List.getElem?_eq_getElem]⟩
                obtain ⟨sa, scap, hsv, ⟨hsl, -⟩, hsI, hsc⟩ := cells_open (HROK.out.get hv hr)
                have q0 : wr.cell? ⟨p, 0, none⟩ = some (.int .i64 x.W) := by have h := (HP.out.other p (by omega) hpG).trans HP5.out; simp only [World.cell?, h]; rfl
                have q1 : wr.cell? ⟨p, 1, none⟩ = some (.int .i64 x.H) := by have h := (HP.out.other p (by omega) hpG).trans HP5.out; simp only [World.cell?, h]; rfl
                have q2 : wr.cell? ⟨p, 2, none⟩ = some (.slice (some ⟨G, 0, none⟩) n n) := by have h := (HP.out.other p (by omega) hpG).trans HP5.out; simp only [World.cell?, h]; rfl
                have q3 : wr.cell? ⟨vb, voff + q, none⟩ = some (.slice sa r.length scap) := by rw [cell_of_heap (HP.out.other vb hvb5 hvG), HVC5.out _ v hv, hsv]
                have hBw2 := HP.out.below (B := w.heap.size) HBc.out (by omega) (Nat.le_of_lt (by omega))
                have HSRC := Lib.hid (show r ≠ [] → ∃ b off, sa = some ⟨b, off, none⟩ ∧ ∀ (i : Nat) u, (cvs r)[i]? = some u → w.cell? ⟨b, off + i, none⟩ = some u from hsc)
                obtain ⟨mm, hmm⟩ : ∃ mm, mm = Nat.min r.length W' := ⟨_, rfl⟩
                have HMM := Lib.hid hmm
                have hmr : mm ≤ r.length := by rw [hmm]; exact Nat.min_le_left _ _
                have hmW : mm ≤ W' := by rw [hmm]; exact Nat.min_le_right _ _
                have hjW : (j + 1) * W' ≤ W' * H' := by rw [Nat.mul_comm W' H']; exact Nat.mul_le_mul_right _ hlt
                rw [← HNN.out, Nat.add_mul, Nat.one_mul] at hjW
                have e1 : (j : Int) * x.W = ((j * W' : Nat) : Int) := by rw [HWN.out, Int.natCast_mul]
                have e2 : ((j : Int) + 1) * x.W = ((j * W' + W' : Nat) : Int) := by rw [HWN.out, Int.natCast_add, Int.natCast_mul, Int.add_mul, Int.one_mul]
                have hsum : IntKind.i64.wrap ((fr : Int) + (j : Int)) = (q : Int) := by rw [IntKind.wrap_i64]; omega
                have k0 : (0 : Int) ≤ (q : Int) := by omega
                have k1 : (q : Int) < (vs.length : Int) := by rw [HVL.out]; omega
                have HE1' := Lib.hid e1
                have HE2' := Lib.hid e2
                have HHJ := Lib.hid hr
                have HCL : Hid ((cvs (r.take mm)).length = mm * 6) := (cvs_length _).trans (by rw [List.length_take, Nat.min_eq_left hmr])
                have HLT : Hid ((cvs (lookTop x n fr W' j)).length = n * 6) := (cvs_length _).trans (by rw [lookTop_len (by omega)])
                clear hq hr hv hsv hsc hsI hsl hmm e1 e2
                go_wp2_with fail
                go_region_held3 (fun w' => w'.cell? ⟨p, 0, none⟩ = some (.int .i64 x.W) ∧ w'.cell? ⟨p, 1, none⟩ = some (.int .i64 x.H) ∧ w'.cell? ⟨p, 2, none⟩ = some (.slice (some ⟨G, 0, none⟩) n n) ∧ w'.cell? ⟨vb, voff + q, none⟩ = some (.slice sa r.length scap)) ((first | (with_reducible exact ⟨kF0, kF1, kF2, kF3⟩) | (with_reducible exact ⟨kE0, kE1, kE2, kE3⟩) | go_keep))
                  (first
                    | (go_at_call 32; go_loud (refine (impl_Grid_row_at _ x.W x.H (j : Int) (j * W') W' n G HE1'.out HE2'.out (by omega) (by omega) hm1 hjW hn4).mono ?_; rintro e W5 ⟨_, rfl, rfl, hb⟩; have kE0 : W5.cell? ⟨p, 0, none⟩ = some (.int .i64 x.W) := (hb.cell (p := ⟨p, 0, none⟩) (World.block_lt_of_cell? wr _ q0)).trans q0; have kE1 : W5.cell? ⟨p, 1, none⟩ = some (.int .i64 x.H) := (hb.cell (p := ⟨p, 1, none⟩) (World.block_lt_of_cell? wr _ q1)).trans q1; have kE2 : W5.cell? ⟨p, 2, none⟩ = some (.slice (some ⟨G, 0, none⟩) n n) := (hb.cell (p := ⟨p, 2, none⟩) (World.block_lt_of_cell? wr _ q2)).trans q2; have kE3 : W5.cell? ⟨vb, voff + q, none⟩ = some (.slice sa r.length scap) := (hb.cell (p := ⟨vb, voff + q, none⟩) (World.block_lt_of_cell? wr _ q3)).trans q3; have HP5' := Lib.hid ((HP.out.call (show Below wr.heap.size wr wr.drew from (Below.refl _ _).drew)).call hb); have HG5 := Lib.hid (show RowAt W5 G (cvs (lookTop x n fr W' j)).toArray 37 from HG.out.keep (hb.block G HG.out.lt)); have HBw5 := Lib.hid (bel_next (show Below w.heap.size w wr.drew from hBw2.drew) hb); clear hb; dsimp only))
                    | ((refine step_copy_rows rfl (.tmp 89) (.tmp 95) 23 23 rfl 37 6 Try.underlying23 size_implCell G (j * W' * 6) W' (n - j * W') sa r.length scap (by simp [Act.eval, Act.put]) (by simp [Act.eval, Act.put]) _ 37 HG5.out (cvs (r.take mm)) mm HMM.out HCL.out (fun h0 => by obtain ⟨b, off, e, hc⟩ := HSRC.out (by intro e; rw [e] at hmr; simp at hmr; omega); exact ⟨b, off, e, fun i u hu => by rw [cvs_take] at hu; have hu' := take_get hu; exact (HBw5.out.cell (p := ⟨b, off + i, none⟩) (World.block_lt_of_cell? w _ (hc i u hu'))).trans (hc i u hu')⟩) (by have h1 := HCL.out; have h2 := HLT.out; simp only [List.size_toArray]; omega) (cvs_one _) ?_; intro W6 hR hM; have kF0 : W6.cell? ⟨p, 0, none⟩ = some (.int .i64 x.W) := (cell_of_heap (hM.other p hpG) 0).trans kE0; have kF1 : W6.cell? ⟨p, 1, none⟩ = some (.int .i64 x.H) := (cell_of_heap (hM.other p hpG) 1).trans kE1; have kF2 : W6.cell? ⟨p, 2, none⟩ = some (.slice (some ⟨G, 0, none⟩) n n) := (cell_of_heap (hM.other p hpG) 2).trans kE2; have kF3 : W6.cell? ⟨vb, voff + q, none⟩ = some (.slice sa r.length scap) := (cell_of_heap (hM.other vb hvG) _).trans kE3; have HP6 := Lib.hid (HP5'.out.moved hM); have HG6 := Lib.hid (show RowAt W6 G (cvs (lookTop x n fr W' (j + 1))).toArray 37 from (by rw [lookTop_succ HHN.out (by rw [← HQJ.out]; exact HHJ.out) HMM.out hjW, ← putAt_cvs]; exact hR)); clear hR hM)))
                all_goals go_wp2_with fail
                all_goals
                  go_roundw
                  case rel => exact ⟨j + 1, by omega, by go_num, HG6.out, HP6.out⟩
                  case measure => simp [intOf]; omega
              · have d1 : decide ((j : Int) < x.H) = false := decide_eq_false (by have := HHN.out; omega)
                obtain rfl : j = H' := by omega
                have q0 : wr.cell? ⟨p, 0, none⟩ = some (.int .i64 x.W) := by have h := (HP.out.other p (by omega) hpG).trans HP5.out; simp only [World.cell?, h]; rfl
                have q1 : wr.cell? ⟨p, 1, none⟩ = some (.int .i64 x.H) := by have h := (HP.out.other p (by omega) hpG).trans HP5.out; simp only [World.cell?, h]; rfl
                have q2 : wr.cell? ⟨p, 2, none⟩ = some (.slice (some ⟨G, 0, none⟩) n n) := by have h := (HP.out.other p (by omega) hpG).trans HP5.out; simp only [World.cell?, h]; rfl
                have hBw2 := Lib.hid (HP.out.below (B := w.heap.size) HBc.out (by omega) (Nat.le_of_lt (by omega)))
                have hR := (HP.out.other w.heap.size (by omega) hwG).trans HR0.out
                have HI := Lib.hid (show ∀ c ∈ lookTop x n fr W' j, cellI c from lookTop_cells (by have := HHN.out; omega) HROK.out)
                have HLN := Lib.hid (show (lookTop x n fr W' j).length = n from lookTop_len (by rw [HNN.out, Nat.mul_comm]; exact Nat.le_refl _))
                have HEQ := Lib.hid (show lookBack x back = { W := x.W, H := x.H, Cells := lookTop x n fr W' j } from by
                  unfold lookBack
                  rw [← HFR.out, lookTop_all HWN.out HHN.out HNN.out HQ.out.2.2.2.2.1 HE1.out HE2.out hfle])
                go_wp2_with ((with_reducible (show wpList _ _ _ (Oper.mk _ (Op.store 25 _ _) _ _ _ _ :: _) _ _)); refine wpList_store_at rfl 25 _ _ rfl w.heap.size 0 rfl _ rfl [.int .i64 x.W, .int .i64 x.H, .slice (some ⟨G, 0, none⟩) n n] rfl #[.int .i64 0, .int .i64 0, .slice none 0 0] 25 hR (Nat.le_of_ble_eq_true rfl) (by simp [Value.oneCell']) size_implGrid ?_; intro W7 hW; have hM := Moved.row hW; have hr7 : W7.heap[w.heap.size]? = some (.cells #[.int .i64 x.W, .int .i64 x.H, .slice (some ⟨G, 0, none⟩) n n] 25 (0, 0)) := (by rw [hW, setRow_heap _ _ _ _ _ _ hR]; rfl); clear hW)
                have hown := cells_own (HG.out.keep (hM.other G (fun e => hwG e.symm))) HI.out (by rw [HLN.out]; omega)
                rw [HLN.out] at hown
                exact bodyPost_ret (results_cell_row Try.results24 _ _ w.heap.size 25 #[.int .i64 x.W, .int .i64 x.H, .slice (some ⟨G, 0, none⟩) n n] (0, 0) _ rfl hr7 Try.underlying25 rfl size_implGrid) rfl ⟨_, rfl, ⟨[.int .i64 x.W, .int .i64 x.H, .slice (some ⟨G, 0, none⟩) n n], rfl, by rw [HEQ.out]; exact ⟨[G], DGrid.own_iff.2 ⟨_, rfl, ⟨by show (-9223372036854775808 : Int) ≤ x.W; omega, by show x.W ≤ 9223372036854775807; omega⟩, ⟨by show (-9223372036854775808 : Int) ≤ x.H; omega, by show x.H ≤ 9223372036854775807; omega⟩, hown⟩, by simp, by simp; omega⟩⟩, hM.below hBw2.out (Nat.le_refl _)⟩
end Go.Proofs.Ytaobgfneeijpmaa
