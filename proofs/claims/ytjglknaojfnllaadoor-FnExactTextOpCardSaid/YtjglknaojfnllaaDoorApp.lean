/- append to a slice of the call's own whose elements may own memory themselves. -/
import Derived.Test.YtjglknaojfnllaaDoorBase
import Derived.Maps.AppendAt
set_option linter.unusedSimpArgs false
set_option linter.unusedVariables false
namespace Go.Mux
open Go.RowKit
section
variable {P : Program} {α : Type} [Rep α]

/-- Rows of cells that read as the elements of a list; each element's own blocks beside it. -/
def Rows (w : World) (ys : List α) (rows : List (List Value)) (fps : List (List Nat)) : Prop :=
  rows.length = ys.length ∧ fps.length = ys.length ∧ ∀ (i : Nat) x r f, ys[i]? = some x → rows[i]? = some r → fps[i]? = some f → Rep.own w r x f

theorem Rows.nil (w : World) : Rows (α := α) w [] [] [] := ⟨rfl, rfl, by simp⟩
theorem Rows.one {w : World} {x : α} {r : List Value} {f : List Nat} (h : Rep.own w r x f) : Rows w [x] [r] [f] := by
  refine ⟨rfl, rfl, fun i y r' f' hy hr hf => ?_⟩
  match i, hy, hr, hf with
  | 0, hy, hr, hf => simp at hy hr hf; subst hy hr hf; exact h
  | i + 1, hy, _, _ => simp at hy
theorem Rows.append {w : World} {xs ys : List α} {r1 r2 : List (List Value)} {f1 f2 : List (List Nat)} (h1 : Rows w xs r1 f1) (h2 : Rows w ys r2 f2) : Rows w (xs ++ ys) (r1 ++ r2) (f1 ++ f2) := by
  obtain ⟨a1, b1, c1⟩ := h1
  obtain ⟨a2, b2, c2⟩ := h2
  refine ⟨by simp [a1, a2], by simp [b1, b2], fun i x r f hx hr hf => ?_⟩
  by_cases hi : i < xs.length
  · rw [List.getElem?_append_left hi] at hx
    rw [List.getElem?_append_left (by omega)] at hr hf
    exact c1 i x r f hx hr hf
  · rw [List.getElem?_append_right (by omega)] at hx hr hf
    rw [a1] at hr
    rw [b1] at hf
    exact c2 _ x r f hx hr hf
theorem Rows.keep {w w' : World} {xs : List α} {r1 : List (List Value)} {f1 : List (List Nat)} (h : Rows w xs r1 f1) (hb : ∀ b ∈ f1.flatten, w'.heap[b]? = w.heap[b]?) : Rows w' xs r1 f1 :=
  ⟨h.1, h.2.1, fun i x r f hx hr hf => Rep.ownMono (h.2.2 i x r f hx hr hf) fun b hbf => hb b (List.mem_flatten.2 ⟨f, List.mem_of_getElem? hf, hbf⟩)⟩
theorem Rows.lt {w : World} {xs : List α} {r1 : List (List Value)} {f1 : List (List Nat)} (h : Rows w xs r1 f1) : ∀ b ∈ f1.flatten, b < w.heap.size := by
  intro b hb
  obtain ⟨f, hf, hbf⟩ := List.mem_flatten.1 hb
  obtain ⟨i, hi, rfl⟩ := List.mem_iff_getElem.1 hf
  have := h.1
  have := h.2.1
  exact Rep.ownLt (h.2.2 i xs[i] r1[i] f1[i] (by simp [show i < xs.length from by omega]) (by simp [show i < r1.length from by omega]) (by simp [hi])) b hbf
theorem Rows.one_cell {w : World} {xs : List α} {r1 : List (List Value)} {f1 : List (List Nat)} (h : Rows w xs r1 f1) : ∀ u ∈ r1.flatten, u.oneCell' = true := by
  intro u hu
  obtain ⟨r, hr, hur⟩ := List.mem_flatten.1 hu
  obtain ⟨i, hi, rfl⟩ := List.mem_iff_getElem.1 hr
  have := h.1
  have := h.2.1
  exact Rep.one (Rep.ownRep (h.2.2 i xs[i] r1[i] f1[i] (by simp [show i < xs.length from by omega]) (by simp [hi]) (by simp [show i < f1.length from by omega]))) u hur
theorem Rows.length_flatten {w : World} {xs : List α} {r1 : List (List Value)} {f1 : List (List Nat)} (h : Rows w xs r1 f1) : r1.flatten.length = xs.length * Rep.size α := by
  rw [List.length_flatten]
  have hs : r1.map List.length = List.replicate r1.length (Rep.size α) := by
    rw [List.eq_replicate_iff]
    refine ⟨by simp, fun b hb => ?_⟩
    obtain ⟨r, hr, rfl⟩ := List.mem_map.1 hb
    obtain ⟨i, hi, rfl⟩ := List.mem_iff_getElem.1 hr
    have := h.1
    have := h.2.1
    exact Rep.len (Rep.ownRep (h.2.2 i xs[i] r1[i] f1[i] (by simp [show i < xs.length from by omega]) (by simp [hi]) (by simp [show i < f1.length from by omega])))
  rw [hs, List.sum_replicate_nat, h.1]

/-- append onto a row of the call's own, a mark behind it or not. -/
theorem run_append_row (w : World) (t ty e : TypeId) (i : TypeInfo) (z : Value) (size bytes : Nat) (ht : P.underlying t = some (.slice e)) (hi : P.info? e = some i) (hz : i.zero = some z)
    (hsize : i.size = size) (hby : i.bytes = bytes) (hzs : z.cells.size = size) (hsz : 0 < size)
    (v : Value) (n : Nat) (xs : List Value) (hown : OwnsRow w e size v n xs)
    (a : Addr) (m c : Nat) (news : List Value) (hl : news.length = m * size) (hnews : ∀ j u, news[j]? = some u → w.cell? (a.add j) = some u) (h1 : ∀ u ∈ news, u.oneCell' = true)
    (h63 : n + m ≤ maxLen) (hbytes : (n + m) * bytes ≤ 140737488355328) :
    ∃ v' w', (Builtin.append_ #[t, t] ty #[v, .slice (some a) m c]).run P w = .ok v' w' ∧ OwnsRow w' e size v' (n + m) (xs ++ news) ∧ w.grownBy w' v.ownBlock ∧
      (v'.ownBlock = v.ownBlock ∨ v'.ownBlock = some w.heap.size) := by
  subst hsize
  subst hby
  have hsmall : n + m ≤ 9223372036854775807 := by simp only [maxLen] at h63; omega
  have hlen : (xs ++ news).length = (n + m) * i.size := by rw [List.length_append, hown.1, hl, Nat.add_mul]
  have hown0 := hown
  rcases hown.2 with ⟨rfl, rfl⟩ | ⟨g, cap, cur, rfl, hbg, hg, hnc, hcm, hcs, htake⟩
  · obtain ⟨v', w', hr, h2, h3, _, h5⟩ := run_append_own_at (P := P) w 0 t ty e i z i.size i.bytes ht hi hz rfl rfl hzs hsz (.slice none 0 0) 0 xs ⟨hown.1, .inl ⟨rfl, rfl⟩⟩ a m c news hl hnews h1 h63 hbytes (Nat.zero_le _)
    exact ⟨v', w', hr, OwnsRow.of h2, h3, h5⟩
  · by_cases hroom : n + m ≤ cap
    · have hfit : n * i.size + news.length ≤ cur.size := by rw [hl, hcs, ← Nat.add_mul]; exact Nat.mul_le_mul_right _ hroom
      have hf := run_firstCells_some (P := P) w i.size m a m c news hl hnews
      have hst := run_storeCells_row P g (n * i.size) e news 0 cur w hg (by simpa using hfit) h1
      simp only [Nat.add_zero] at hst
      have hr : (Builtin.append_ #[t, t] ty #[.slice (some ⟨g, 0, none⟩) n cap, .slice (some a) m c]).run P w =
          .ok (.slice (some ⟨g, 0, none⟩) (n + m) cap) (w.setRow g (cur.toList.take (n * i.size) ++ news ++ cur.toList.drop (n * i.size + news.length)).toArray) := by
        simp [Builtin.append_, run_underlying ht, sizeOf, typeInfo, hi, Builtin.lenOf, hroom, hf, Addr.add_lit, hst]
      have hss : (cur.toList.take (n * i.size) ++ news ++ cur.toList.drop (n * i.size + news.length)).toArray.size = cur.size := by
        simp only [List.size_toArray, List.length_append, List.length_take, List.length_drop, Array.length_toList]
        omega
      refine ⟨_, _, hr, ⟨hlen, .inr ⟨g, cap, _, rfl, hbg, hg.setRow hss, hroom, hcm, ?_, ?_⟩⟩, ⟨rfl, rfl, rfl, by simp, fun k _ hk => setRow_other w g k _ (fun e => hk (by simp [Value.ownBlock, e]))⟩, Or.inl rfl⟩
      · rw [hss, hcs]
      · rw [htake, ← hlen]
        exact List.take_left
    · have holds : ∀ j u, xs[j]? = some u → w.cell? ((⟨g, 0, none⟩ : Addr).add j) = some u := hown0.cells (g := g) rfl
      have hr := run_append_grow (P := P) w t ty e i z ht hi hz ⟨g, 0, none⟩ n cap xs hown.1 holds a m c news hl hnews (by omega) (by omega) (growslice_fits (by omega) hbytes)
      have hge := grownCap_ge w (n + m) cap e
      have hcm2 : grownCap w (n + m) cap e ≤ maxLen := grownCap_le_maxLen w (n + m) cap e h63
      refine ⟨_, _, hr, ⟨hlen, .inr ⟨w.heap.size, _, _, rfl, Nat.zero_le _, RowAt.of (heap_alloc_new w.drew _), hge, hcm2, ?_, ?_⟩⟩, ⟨rfl, rfl, rfl, by simp, fun k hk _ => heap_alloc_old w.drew _ hk⟩, Or.inr rfl⟩
      · simp only [Array.size_append, List.size_toArray, size_zeroCells, hzs, hown.1, hl, ← Nat.add_mul]
        congr 1
        omega
      · simp only [Array.toList_append, List.append_assoc]
        rw [← List.append_assoc, ← hlen]
        exact List.take_left

theorem wpList_append_rep {ops : Array Oper} {rest : List Oper} {o : Oper} {a : Act} {w : World} {Q : Exit → Act → World → Prop} (hw : Region.wanted o (yielded ops a.tmps) = true) (s x : Operand) (t : TypeId)
    (ho : o.op = .call { callee := .builtin .append, args := #[s, x], argTypes := #[t, t] })
    (e : TypeId) (z : Value) (bytes : Nat) (ht : P.underlying t = some (.slice e)) (hi : (P.info? e).map (fun i => (i.zero, i.size, i.bytes)) = some (some z, Rep.size α, bytes)) (he : e = Rep.tid α)
    (hzs : z.cells.size = Rep.size α) (hsz : 0 < Rep.size α)
    (v : Value) (l : List α) (fp : List Nat) (hs : a.eval s = v) (hv : OwnS w v l fp)
    (A : Option Addr) (m c : Nat) (hx : a.eval x = .slice A m c) (ys : List α) (hm : m = ys.length) (rows : List (List Value)) (fps : List (List Nat)) (hr : Rows w ys rows fps) (hnd : (fp ++ fps.flatten).Nodup)
    (hc : ys ≠ [] → ∃ b off, A = some ⟨b, off, none⟩ ∧ ∀ (j : Nat) u, rows.flatten[j]? = some u → w.cell? ⟨b, off + j, none⟩ = some u) (hA : A = none → c = 0 ∨ True)
    (h63 : l.length + ys.length ≤ 9223372036854775807) (hbytes : (l.length + ys.length) * bytes ≤ 140737488355328)
    (h : ∀ v' w' fp', OwnS w' v' (l ++ ys) fp' → fp'.Nodup → (∀ b ∈ fp', b ∈ fp ∨ b ∈ fps.flatten ∨ b = w.heap.size) → w.grownBy w' v.ownBlock → (∀ g, v.ownBlock = some g → g ∈ fp) → wpList P ops Q rest (a.put o.dst v') w') :
    wpList P ops Q (o :: rest) a w := by
  subst he hm
  have hv0 := hv
  obtain ⟨rows0, fps0, hown, hl, hrl, hfl, hel, rfl⟩ := hv
  have hR0 : Rows w l rows0 fps0 := ⟨hrl, hfl, hel⟩
  have hobl : ∀ g, v.ownBlock = some g → g ∈ v.ownBlock.toList ++ fps0.flatten := fun g hg => by simp [hg]
  obtain ⟨i, hi', hz, hsize, hby⟩ := info_parts hi
  have key : ∀ v' w', OwnsRow w' (Rep.tid α) (Rep.size α) v' (l.length + ys.length) (rows0.flatten ++ rows.flatten) → w.grownBy w' v.ownBlock →
      (v'.ownBlock = v.ownBlock ∨ v'.ownBlock = some w.heap.size) → wpList P ops Q rest (a.put o.dst v') w' := by
    intro v' w' hown' hg hat
    have hk : ∀ b ∈ (fps0 ++ fps).flatten, w'.heap[b]? = w.heap[b]? := by
      intro b hb
      rw [List.flatten_append] at hb
      have hlt : b < w.heap.size := by
        rcases List.mem_append.1 hb with hb | hb
        · exact hR0.lt b hb
        · exact hr.lt b hb
      refine hg.block b hlt (fun e => ?_)
      rw [List.append_assoc, List.nodup_append] at hnd
      exact hnd.2.2 b (by simp [← e]) b hb rfl
    have hR : Rows w' (l ++ ys) (rows0 ++ rows) (fps0 ++ fps) := (hR0.append hr).keep hk
    refine h v' w' (v'.ownBlock.toList ++ (fps0 ++ fps).flatten) ⟨rows0 ++ rows, fps0 ++ fps, ?_, by simpa using h63, hR.1, hR.2.1, hR.2.2, rfl⟩ ?_ ?_ hg hobl
    · rw [List.flatten_append, List.length_append]; exact hown'
    · rcases hat with e | e
      · rw [e, List.flatten_append, ← List.append_assoc]; exact hnd
      · rw [e]
        simp only [Option.toList_some, List.singleton_append, List.nodup_cons]
        refine ⟨fun hm => ?_, ?_⟩
        · rw [List.flatten_append] at hm
          rcases List.mem_append.1 hm with hb | hb
          · have := hR0.lt _ hb; omega
          · have := hr.lt _ hb; omega
        · rw [List.flatten_append]
          rw [List.append_assoc, List.nodup_append] at hnd
          exact hnd.2.1
    · intro b hb
      rcases List.mem_append.1 hb with hb | hb
      · rcases hat with e | e
        · rw [e] at hb; exact .inl (List.mem_append.2 (.inl hb))
        · rw [e] at hb; simp at hb; exact .inr (.inr hb)
      · rw [List.flatten_append] at hb
        rcases List.mem_append.1 hb with hb | hb
        · exact .inl (List.mem_append.2 (.inr hb))
        · exact .inr (.inl hb)
  refine wpList_step fun K hK => ?_
  rw [if_pos hw]
  by_cases hys : ys = []
  · subst hys
    have hrows : rows = [] := List.eq_nil_of_length_eq_zero hr.1
    subst hrows
    cases A with
    | none =>
      have hrun : (Builtin.append_ #[t, t] o.type #[v, .slice none 0 c]).run P w = .ok v w := by
        rcases hown.2 with ⟨rfl, hn⟩ | ⟨g, cap, cur, rfl, _, _, hnc, _⟩
        · simp [Builtin.append_, run_underlying ht, sizeOf, typeInfo, hi', Builtin.lenOf, Builtin.firstCells]
        · simp [Builtin.append_, run_underlying ht, sizeOf, typeInfo, hi', Builtin.lenOf, Builtin.firstCells, hnc, storeCells]
      unfold Oper.wp execOp
      simp only [ho, resolve, invoke, builtin, Sem.run_bind, Sem.run_pure, Result.andThen_ok, List.map_toArray, List.map_cons, List.map_nil, hs, hx, List.length_nil, hrun]
      exact hK _ _ (key v w (by simpa using hown) (World.grownBy.refl w _) (.inl rfl))
    | some ad =>
      obtain ⟨v', w', hrun, h2, h3, h5⟩ := run_append_row (P := P) w t o.type (Rep.tid α) i z (Rep.size α) bytes ht hi' hz hsize hby hzs hsz v l.length rows0.flatten hown ad 0 c [] (by simp) (by simp) (by simp) (by simp only [maxLen]; omega) (by simpa using hbytes)
      unfold Oper.wp execOp
      simp only [ho, resolve, invoke, builtin, Sem.run_bind, Sem.run_pure, Result.andThen_ok, List.map_toArray, List.map_cons, List.map_nil, hs, hx, List.length_nil, hrun]
      exact hK _ _ (key v' w' (by simpa using h2) h3 h5)
  · obtain ⟨b, off, rfl, hcell⟩ := hc hys
    obtain ⟨v', w', hrun, h2, h3, h5⟩ := run_append_row (P := P) w t o.type (Rep.tid α) i z (Rep.size α) bytes ht hi' hz hsize hby hzs hsz v l.length rows0.flatten hown ⟨b, off, none⟩ ys.length c rows.flatten hr.length_flatten (fun j u hu => by rw [addr_add]; exact hcell j u hu) hr.one_cell (by simp only [maxLen]; omega) hbytes
    unfold Oper.wp execOp
    simp only [ho, resolve, invoke, builtin, Sem.run_bind, Sem.run_pure, Result.andThen_ok, List.map_toArray, List.map_cons, List.map_nil, hs, hx, hrun]
    exact hK _ _ (key v' w' h2 h3 h5)
end
theorem OwnS.grow {α : Type} [Rep α] {w w' : World} {v : Value} {l : List α} {fp : List Nat} (h : OwnS w v l fp) (hb : Below w.heap.size w w') : OwnS w' v l fp := h.mono fun b hbf => hb.block b (h.lt b hbf)
theorem one_new (w : World) (u : Value) (t : TypeId) : ∀ (j : Nat) y, [[u]].flatten[j]? = some y → (w.alloc (.cells #[u] t)).cell? ⟨w.heap.size, 0 + j, none⟩ = some y := by
  intro j y hy
  have := cell_of_row (w.alloc (.cells #[u] t)) w.heap.size j #[u] t (0, 0) (heap_alloc_new w _)
  rw [Nat.zero_add, this]
  simpa using hy
theorem OwnS.empty {α : Type} [Rep α] {w : World} {g : Nat} {e : TypeId} (he : e = Rep.tid α) (h : w.heap[g]? = some (.cells #[] e (0, 0))) : OwnS (α := α) w (.slice (some ⟨g, 0, none⟩) 0 0) [] [g] := by
  subst he
  exact ⟨[], [], ⟨by simp, .inr ⟨g, 0, #[], by simp, Nat.zero_le _, RowAt.of h, by simp, by simp [maxLen], by simp, by simp⟩⟩, by simp, rfl, rfl, by simp, by simp [Value.ownBlock]⟩
end Go.Mux
