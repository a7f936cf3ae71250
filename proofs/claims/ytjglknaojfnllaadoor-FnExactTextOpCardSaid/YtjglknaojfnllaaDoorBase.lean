/- General words and lemmas of ours for the proofs of this seat: how Go data lies in memory ('Rep', 'Own'), no program in sight. -/
import Derived.WalkKit
import Derived.Lib.Hide
import Derived.WalkSmall
import Derived.StillTailTactics
set_option linter.unusedSimpArgs false
set_option linter.unusedVariables false
namespace Go.Mux
open Go.RowKit

/-- The range of Go's int. -/
def I64 (n : Int) : Prop := -9223372036854775808 ≤ n ∧ n ≤ 9223372036854775807

/-- How values of a Lean type lie in memory as Go data: 'tid' is the type's number, 'size' its cells. 'rep': the cells read as x; 'own': they do, each slice from the head of a block of its own type that nothing has frozen; fp are these blocks (that each is met once is said apart: 'fp.Nodup'). -/
class Rep (α : Type) where
  tid : TypeId
  size : Nat
  rep : World → List Value → α → Prop
  own : World → List Value → α → List Nat → Prop
  len : ∀ {w cs x}, rep w cs x → cs.length = size
  one : ∀ {w cs x}, rep w cs x → ∀ u ∈ cs, u.oneCell' = true
  mono : ∀ {w w' cs x}, rep w cs x → Below w.heap.size w w' → rep w' cs x
  ownRep : ∀ {w cs x fp}, own w cs x fp → rep w cs x
  ownMono : ∀ {w w' cs x fp}, own w cs x fp → (∀ b ∈ fp, w'.heap[b]? = w.heap[b]?) → own w' cs x fp
  ownLt : ∀ {w cs x fp}, own w cs x fp → ∀ b ∈ fp, b < w.heap.size

/-- A slice value that reads as the list l. -/
def RepS {α : Type} [Rep α] (w : World) (v : Value) (l : List α) : Prop :=
  ∃ a cap, v = .slice a l.length cap ∧ (l.length ≤ 9223372036854775807 ∧ l.length ≤ cap) ∧
    (l ≠ [] → ∃ b off, a = some ⟨b, off, none⟩ ∧
      ∀ (i : Nat) x, l[i]? = some x → ∃ r, Rep.rep w r x ∧ ∀ (j : Nat) u, r[j]? = some u → w.cell? ⟨b, off + i * Rep.size α + j, none⟩ = some u)

/-- Of a row of n cells none is frozen. -/
def NoIce (n : Nat) (fz : Nat × Nat) : Prop := fz.2 = 0 ∨ n ≤ fz.1
/-- Block g holds the row cur of e, none of its cells frozen (a mark behind the last cell may be there: a conversion leaves one). -/
def RowAt (w : World) (g : Nat) (cur : Array Value) (e : TypeId) : Prop := ∃ fz, w.heap[g]? = some (.cells cur e fz) ∧ NoIce cur.size fz
theorem RowAt.of {w : World} {g : Nat} {cur : Array Value} {e : TypeId} (h : w.heap[g]? = some (.cells cur e (0, 0))) : RowAt w g cur e := ⟨_, h, .inl rfl⟩
theorem RowAt.lt {w : World} {g : Nat} {cur : Array Value} {e : TypeId} (h : RowAt w g cur e) : g < w.heap.size := by
  obtain ⟨_, h, _⟩ := h
  exact (Array.getElem?_eq_some_iff.1 h).1
theorem RowAt.cell {w : World} {g : Nat} {cur : Array Value} {e : TypeId} (h : RowAt w g cur e) (o : Nat) : w.cell? ⟨g, o, none⟩ = cur[o]? := by
  obtain ⟨fz, h, _⟩ := h
  exact cell_of_row w g o cur e fz h
theorem RowAt.frozen {w : World} {g : Nat} {cur : Array Value} {e : TypeId} (h : RowAt w g cur e) {o : Nat} (ho : o < cur.size) : w.frozen? ⟨g, o, none⟩ = false := by
  obtain ⟨⟨lo, hi⟩, h, hc⟩ := h
  simp only [World.frozen?, h, Bool.and_eq_false_iff, decide_eq_false_iff_not]
  unfold NoIce at hc
  simp only at hc
  omega
theorem RowAt.setRow {w : World} {g : Nat} {cur : Array Value} {e : TypeId} (h : RowAt w g cur e) {cs : Array Value} (hs : cs.size = cur.size) : RowAt (w.setRow g cs) g cs e := by
  obtain ⟨fz, h, hc⟩ := h
  exact ⟨fz, setRow_heap w g cur _ e _ h, by rw [hs]; exact hc⟩
theorem RowAt.keep {w w' : World} {g : Nat} {cur : Array Value} {e : TypeId} (h : RowAt w g cur e) (hk : w'.heap[g]? = w.heap[g]?) : RowAt w' g cur e := by
  obtain ⟨fz, h, hc⟩ := h
  exact ⟨fz, hk.trans h, hc⟩
theorem run_storeCells_row (P : Program) (g o : Nat) (t : TypeId) : ∀ (vs : List Value) (i : Nat) (cur : Array Value) (w : World), RowAt w g cur t → o + i + vs.length ≤ cur.size → (∀ v ∈ vs, v.oneCell' = true) →
    (storeCells ⟨g, o, none⟩ vs i).run P w = .ok () (w.setRow g (cur.toList.take (o + i) ++ vs ++ cur.toList.drop (o + i + vs.length)).toArray)
  | [], i, cur, w, hr, _, _ => by
    obtain ⟨fz, hg, _⟩ := hr
    simp only [storeCells, List.append_nil, List.length_nil, Nat.add_zero, List.take_append_drop, Array.toArray_toList]
    rw [setRow_self w g cur t fz hg]
    rfl
  | v :: rest, i, cur, w, hr, hl, h1 => by
    have hi : o + i < cur.size := by simp at hl; omega
    have hadd : (⟨g, o, none⟩ : Addr).add i = ⟨g, o + i, none⟩ := by unfold Addr.add; split <;> simp_all
    have hcell : w.cell? ⟨g, o + i, none⟩ = some cur[o + i] := by rw [hr.cell]; simp [hi]
    have hfro := hr.frozen hi
    have ih := run_storeCells_row P g o t rest (i + 1) (cur.setIfInBounds (o + i) v) (w.setRow g (cur.setIfInBounds (o + i) v)) (hr.setRow (by simp)) (by simp at hl ⊢; omega) (fun x hx => h1 x (by simp [hx]))
    obtain ⟨fz, hg, _⟩ := hr
    have hst : (store ((⟨g, o, none⟩ : Addr).add i) v).run P w = .ok () (w.setRow g (cur.setIfInBounds (o + i) v)) := by
      rw [hadd, run_store P w _ v _ (h1 v (by simp)), hcell]
      simp [hfro, setCell_eq_setRow w g (o + i) cur t fz v hg]
    simp only [storeCells, Sem.run_bind, hst, Result.andThen_ok, ih, setRow_setRow]
    congr 3
    have e := list_seg_step cur.toList (o + i) v rest (by simp at hl ⊢; omega)
    simpa [Array.toList_setIfInBounds, Nat.add_assoc] using e

/-- The slice value v owns the cells xs, n elements of so many cells each. -/
def OwnsRow (w : World) (e : TypeId) (size : Nat) (v : Value) (n : Nat) (xs : List Value) : Prop :=
  xs.length = n * size ∧
  ((v = .slice none 0 0 ∧ n = 0) ∨
   ∃ g cap cur, v = .slice (some ⟨g, 0, none⟩) n cap ∧ 0 ≤ g ∧ RowAt w g cur e ∧ n ≤ cap ∧ cap ≤ maxLen ∧ cur.size = cap * size ∧ cur.toList.take (n * size) = xs)
theorem OwnsRow.of {w : World} {e : TypeId} {size : Nat} {v : Value} {n : Nat} {xs : List Value} (h : w.ownsRow 0 e size v n xs) : OwnsRow w e size v n xs := by
  refine ⟨h.1, ?_⟩
  rcases h.2 with hn | ⟨g, cap, cur, hv, hb, hg, rest⟩
  · exact .inl hn
  · exact .inr ⟨g, cap, cur, hv, hb, RowAt.of hg, rest⟩
theorem OwnsRow.lt {w : World} {e : TypeId} {size : Nat} {v : Value} {n : Nat} {xs : List Value} (h : OwnsRow w e size v n xs) : ∀ k, v.ownBlock = some k → 0 ≤ k ∧ k < w.heap.size := by
  intro k hk
  rcases h.2 with ⟨rfl, _⟩ | ⟨g, cap, cur, rfl, hb, hg, _⟩
  · simp [Value.ownBlock] at hk
  · simp [Value.ownBlock] at hk
    subst hk
    exact ⟨hb, hg.lt⟩
theorem OwnsRow.cells {w : World} {e : TypeId} {size : Nat} {v : Value} {n : Nat} {xs : List Value} (h : OwnsRow w e size v n xs) {g : Nat} (hg : v.ownBlock = some g) : ∀ j u, xs[j]? = some u → w.cell? ((⟨g, 0, none⟩ : Addr).add j) = some u := by
  intro j u hu
  rcases h.2 with ⟨rfl, _⟩ | ⟨g', cap, cur, rfl, _, hgg, _, _, _, htake⟩
  · simp [Value.ownBlock] at hg
  · simp [Value.ownBlock] at hg
    subst hg
    have hadd : (⟨g', 0, none⟩ : Addr).add j = ⟨g', j, none⟩ := by unfold Addr.add; split <;> simp_all
    rw [hadd, hgg.cell j]
    rw [← htake, List.getElem?_take] at hu
    split at hu
    · simpa using hu
    · cases hu

/-- A slice value that owns its block, and its elements theirs: fp are the blocks. -/
def OwnS {α : Type} [Rep α] (w : World) (v : Value) (l : List α) (fp : List Nat) : Prop :=
  ∃ (rows : List (List Value)) (fps : List (List Nat)),
    OwnsRow w (Rep.tid α) (Rep.size α) v l.length rows.flatten ∧ l.length ≤ 9223372036854775807 ∧
    rows.length = l.length ∧ fps.length = l.length ∧
    (∀ (i : Nat) x r f, l[i]? = some x → rows[i]? = some r → fps[i]? = some f → Rep.own w r x f) ∧
    fp = v.ownBlock.toList ++ fps.flatten

theorem RepS.shape {α : Type} [Rep α] {w : World} {v : Value} {l : List α} (h : RepS w v l) : ∃ a n cap, v = .slice a n cap := by
  obtain ⟨a, cap, rfl, _⟩ := h; exact ⟨_, _, _, rfl⟩

theorem RepS.nilSlice {α : Type} [Rep α] (w : World) (a : Option Addr) (cap : Nat) : RepS (α := α) w (.slice a 0 cap) [] :=
  ⟨a, cap, rfl, by simp, fun h => absurd rfl h⟩

/-- The first elements of a slice. -/
theorem RepS.take {α : Type} [Rep α] {w : World} {a : Option Addr} {n cap : Nat} {l : List α} (h : RepS w (.slice a n cap) l) {k : Nat} (hk : k ≤ l.length) : RepS w (.slice a k cap) (l.take k) := by
  obtain ⟨a', cap', e, ⟨h1, h2⟩, hc⟩ := h
  cases e
  have hl : (l.take k).length = k := by simp; omega
  refine ⟨a, cap, by rw [hl], ⟨by omega, by omega⟩, fun hne => ?_⟩
  obtain ⟨b, off, ha, hr⟩ := hc (fun e => hne (by rw [e]; simp))
  refine ⟨b, off, ha, fun i x hx => hr i x ?_⟩
  have hi : i < (l.take k).length := by rw [List.getElem?_eq_some_iff] at hx; exact hx.1
  rw [List.getElem?_take_of_lt (by omega)] at hx
  exact hx

instance : Rep Int where
  tid := 3
  size := 1
  rep _ cs n := cs = [.int .i64 n] ∧ I64 n
  own _ cs n fp := (cs = [.int .i64 n] ∧ I64 n) ∧ fp = []
  len h := by rw [h.1]; rfl
  one h := by rw [h.1]; simp [Value.oneCell']
  mono h _ := h
  ownRep h := h.1
  ownMono h _ := h
  ownLt h := by rw [h.2]; simp

instance : Rep Bool where
  tid := 4
  size := 1
  rep _ cs b := cs = [.bool b]
  own _ cs b fp := cs = [.bool b] ∧ fp = []
  len h := by rw [h]; rfl
  one h := by rw [h]; simp [Value.oneCell']
  mono h _ := h
  ownRep h := h.1
  ownMono h _ := h
  ownLt h := by rw [h.2]; simp

instance : Rep UInt8 where
  tid := 5
  size := 1
  rep _ cs x := cs = [.int .u8 x.toNat]
  own _ cs x fp := cs = [.int .u8 x.toNat] ∧ fp = []
  len h := by rw [h]; rfl
  one h := by rw [h]; simp [Value.oneCell']
  mono h _ := h
  ownRep h := h.1
  ownMono h _ := h
  ownLt h := by rw [h.2]; simp

instance : Rep ByteArray where
  tid := 9
  size := 1
  rep _ cs s := cs = [.string s] ∧ s.size ≤ 9223372036854775807
  own _ cs s fp := (cs = [.string s] ∧ s.size ≤ 9223372036854775807) ∧ fp = []
  len h := by rw [h.1]; rfl
  one h := by rw [h.1]; simp [Value.oneCell']
  mono h _ := h
  ownRep h := h.1
  ownMono h _ := h
  ownLt h := by rw [h.2]; simp

section lists
variable {α : Type} [Rep α]

theorem RepS.mono {w w' : World} {v : Value} {l : List α} (h : RepS w v l) (hb : Below w.heap.size w w') : RepS w' v l := by
  obtain ⟨a, cap, rfl, hl, h⟩ := h
  refine ⟨a, cap, rfl, hl, fun hne => ?_⟩
  obtain ⟨b, off, ha, hr⟩ := h hne
  refine ⟨b, off, ha, fun i x hx => ?_⟩
  obtain ⟨r, hrep, hc⟩ := hr i x hx
  exact ⟨r, Rep.mono hrep hb, fun j u hu => by
    have h1 := hc j u hu
    have hlt : b < w.heap.size := World.block_lt_of_cell? w _ h1
    exact (hb.cell (p := ⟨b, _, none⟩) hlt).trans h1⟩

theorem getElem?_flatten_rows {β : Type} (size : Nat) : ∀ (rows : List (List β)), (∀ r ∈ rows, r.length = size) →
    ∀ i r j u, rows[i]? = some r → r[j]? = some u → rows.flatten[i * size + j]? = some u
  | [], _, i, r, j, u, hr, _ => by simp at hr
  | r0 :: rows, hs, 0, r, j, u, hr, hu => by
    simp only [List.getElem?_cons_zero, Option.some.injEq] at hr
    subst hr
    have hj : j < r0.length := by rw [List.getElem?_eq_some_iff] at hu; exact hu.1
    simp only [List.flatten_cons, Nat.zero_mul, Nat.zero_add]
    rw [List.getElem?_append_left hj]
    exact hu
  | r0 :: rows, hs, i + 1, r, j, u, hr, hu => by
    simp only [List.getElem?_cons_succ] at hr
    have h0 : r0.length = size := hs r0 (by simp)
    have ih := getElem?_flatten_rows size rows (fun r h => hs r (by simp [h])) i r j u hr hu
    simp only [List.flatten_cons]
    rw [List.getElem?_append_right (by rw [h0, Nat.add_mul]; omega), h0]
    rw [show (i + 1) * size + j - size = i * size + j from by rw [Nat.add_mul]; omega]
    exact ih

theorem OwnS.repS {w : World} {v : Value} {l : List α} {fp : List Nat} (h : OwnS w v l fp) : RepS w v l := by
  obtain ⟨rows, fps, ho, hl, hrl, hfl, hown, -⟩ := h
  have hlen : ∀ r ∈ rows, r.length = Rep.size α := by
    intro r hr
    obtain ⟨i, hi, rfl⟩ := List.mem_iff_getElem.1 hr
    have h1 : i < l.length := by omega
    have h2 : i < fps.length := by omega
    exact Rep.len (Rep.ownRep (hown i l[i] rows[i] fps[i] (by simp [h1]) (by simp [hi]) (by simp [h2])))
  rcases ho.2 with ⟨hv, hn⟩ | ⟨g, cap, cur, hv, hb, hg, hnc, hcm, hcs, htake⟩
  · subst hv
    refine ⟨none, 0, by rw [hn], ⟨hl, by omega⟩, fun hne => ?_⟩
    exact absurd (List.eq_nil_of_length_eq_zero hn) hne
  · subst hv
    refine ⟨_, _, rfl, ⟨hl, hnc⟩, fun _ => ⟨g, 0, rfl, fun i x hx => ?_⟩⟩
    have h1 : i < l.length := by rw [List.getElem?_eq_some_iff] at hx; exact hx.1
    have h2 : i < rows.length := by omega
    have h3 : i < fps.length := by omega
    refine ⟨rows[i], Rep.ownRep (hown i x rows[i] fps[i] hx (by simp [h2]) (by simp [h3])), fun j u hu => ?_⟩
    have hc := ho.cells (g := g) rfl (i * Rep.size α + j) u (getElem?_flatten_rows _ rows hlen i rows[i] j u (by simp [h2]) hu)
    rw [show (⟨g, 0 + i * Rep.size α + j, none⟩ : Addr) = (⟨g, 0, none⟩ : Addr).add (i * Rep.size α + j) from by
      unfold Addr.add; split <;> simp_all]
    exact hc

theorem OwnS.mono {w w' : World} {v : Value} {l : List α} {fp : List Nat} (h : OwnS w v l fp) (hb : ∀ b ∈ fp, w'.heap[b]? = w.heap[b]?) : OwnS w' v l fp := by
  obtain ⟨rows, fps, ho, hl, hrl, hfl, hown, hfp⟩ := h
  refine ⟨rows, fps, ⟨ho.1, ?_⟩, hl, hrl, hfl, fun i x r f hx hr hf => Rep.ownMono (hown i x r f hx hr hf) (fun b hbf => hb b ?_), hfp⟩
  · rcases ho.2 with hn | ⟨g, cap, cur, hv, h1, hg, h2⟩
    · exact .inl hn
    · refine .inr ⟨g, cap, cur, hv, h1, ?_, h2⟩
      exact hg.keep (hb g (by rw [hfp, hv]; simp [Value.ownBlock]))
  · rw [hfp]
    exact List.mem_append.2 (.inr (List.mem_flatten.2 ⟨f, List.mem_of_getElem? hf, hbf⟩))

theorem OwnS.lt {w : World} {v : Value} {l : List α} {fp : List Nat} (h : OwnS w v l fp) : ∀ b ∈ fp, b < w.heap.size := by
  obtain ⟨rows, fps, ho, hl, hrl, hfl, hown, hfp⟩ := h
  intro b hb
  rw [hfp] at hb
  rcases List.mem_append.1 hb with hb | hb
  · exact (ho.lt b (by simpa using hb)).2
  · obtain ⟨f, hf, hbf⟩ := List.mem_flatten.1 hb
    obtain ⟨i, hi, rfl⟩ := List.mem_iff_getElem.1 hf
    exact Rep.ownLt (hown i l[i] rows[i] fps[i] (by simp [show i < l.length from by omega]) (by simp [show i < rows.length from by omega]) (by simp [hi])) b hbf

theorem RepS.oneCell {w : World} {v : Value} {l : List α} (h : RepS w v l) : v.oneCell' = true := by
  obtain ⟨a, cap, rfl, _⟩ := h; rfl

/-- A slice: one cell. 'tid' of a slice type is not asked (slices of slices do not occur as owned rows here). -/
instance : Rep (List α) where
  tid := 0
  size := 1
  rep w cs l := ∃ v, cs = [v] ∧ RepS w v l
  own w cs l fp := ∃ v, cs = [v] ∧ OwnS w v l fp
  len h := by obtain ⟨v, rfl, _⟩ := h; rfl
  one h := by obtain ⟨v, rfl, h⟩ := h; simpa using h.oneCell
  mono h hb := by obtain ⟨v, rfl, h⟩ := h; exact ⟨v, rfl, h.mono hb⟩
  ownRep h := by obtain ⟨v, rfl, h⟩ := h; exact ⟨v, rfl, h.repS⟩
  ownMono h hb := by obtain ⟨v, rfl, h⟩ := h; exact ⟨v, rfl, h.mono hb⟩
  ownLt h := by obtain ⟨v, rfl, h⟩ := h; exact h.lt
end lists

/-- Two parts, one behind the other. -/
instance {α β : Type} [Rep α] [Rep β] : Rep (α × β) where
  tid := 0
  size := Rep.size α + Rep.size β
  rep w cs x := ∃ c1 c2, cs = c1 ++ c2 ∧ Rep.rep w c1 x.1 ∧ Rep.rep w c2 x.2
  own w cs x fp := ∃ c1 c2 f1 f2, cs = c1 ++ c2 ∧ Rep.own w c1 x.1 f1 ∧ Rep.own w c2 x.2 f2 ∧ fp = f1 ++ f2
  len h := by obtain ⟨c1, c2, rfl, h1, h2⟩ := h; rw [List.length_append, Rep.len h1, Rep.len h2]
  one h := by
    obtain ⟨c1, c2, rfl, h1, h2⟩ := h
    intro u hu
    rcases List.mem_append.1 hu with hu | hu
    · exact Rep.one h1 u hu
    · exact Rep.one h2 u hu
  mono h hb := by obtain ⟨c1, c2, rfl, h1, h2⟩ := h; exact ⟨c1, c2, rfl, Rep.mono h1 hb, Rep.mono h2 hb⟩
  ownRep h := by obtain ⟨c1, c2, f1, f2, rfl, h1, h2, _⟩ := h; exact ⟨c1, c2, rfl, Rep.ownRep h1, Rep.ownRep h2⟩
  ownMono h hb := by
    obtain ⟨c1, c2, f1, f2, rfl, h1, h2, rfl⟩ := h
    exact ⟨c1, c2, f1, f2, rfl, Rep.ownMono h1 (fun b hbf => hb b (by simp [hbf])), Rep.ownMono h2 (fun b hbf => hb b (by simp [hbf])), rfl⟩
  ownLt h := by
    obtain ⟨c1, c2, f1, f2, rfl, h1, h2, rfl⟩ := h
    intro b hb
    rcases List.mem_append.1 hb with hb | hb
    · exact Rep.ownLt h1 b hb
    · exact Rep.ownLt h2 b hb

/-- A struct type, by way of the nested pairs of its fields. -/
@[reducible] def Rep.via {α β : Type} [Rep β] (t : TypeId) (f : α → β) : Rep α where
  tid := t
  size := Rep.size β
  rep w cs x := Rep.rep w cs (f x)
  own w cs x fp := Rep.own w cs (f x) fp
  len h := Rep.len h
  one h := Rep.one h
  mono h hb := Rep.mono h hb
  ownRep h := Rep.ownRep h
  ownMono h hb := Rep.ownMono h hb
  ownLt h := Rep.ownLt h

/-- The call returns a value of which P speaks; nothing that was there has turned. -/
def Gives (w : World) (P : Value → World → Prop) (e : Ending) (w' : World) : Prop := ∃ v, e = .returned v ∧ P v w' ∧ Below w.heap.size w w'

/-- The cells read as x, in blocks that are all new (from block number B on), each met once. -/
def Fresh {α : Type} [Rep α] (B : Nat) (w : World) (cs : List Value) (x : α) : Prop := ∃ fp, Rep.own w cs x fp ∧ fp.Nodup ∧ ∀ b ∈ fp, B ≤ b
def FreshS {α : Type} [Rep α] (B : Nat) (w : World) (v : Value) (l : List α) : Prop := ∃ fp, OwnS w v l fp ∧ fp.Nodup ∧ ∀ b ∈ fp, B ≤ b

theorem below_row {B g : Nat} {w0 w W1 : World} {cs : Array Value} (hb : Below B w0 w) (hBg : B ≤ g) (h : W1 = w.setRow g cs) : Below B w0 W1 := by
  subst h
  exact hb.trans ⟨rfl, rfl, rfl, by simp, fun k hk => setRow_other w g k cs (by omega)⟩

theorem bel_next {w W w' : World} (h : Below w.heap.size w W) (hb : Below W.heap.size W w') : Below w.heap.size w w' := h.trans (hb.mono h.size)
theorem bel_alloc {w W : World} (h : Below w.heap.size w W) (o : Obj) : Below w.heap.size w (W.alloc o) := h.alloc h.size o
theorem bel_set {w W : World} (h : Below w.heap.size w W) {p : Addr} (hp : w.heap.size ≤ p.block) (u : Value) : Below w.heap.size w (W.setCell p u) := h.setCell hp u
theorem bel_cell {W w1 : World} (hb : Below W.heap.size W w1) : ∀ b o, b < W.heap.size → w1.cell? ⟨b, o, none⟩ = W.cell? ⟨b, o, none⟩ := fun b o h => hb.cell (p := ⟨b, o, none⟩) h
theorem bel_frozen {W w1 : World} (hb : Below W.heap.size W w1) : ∀ b o, b < W.heap.size → w1.frozen? ⟨b, o, none⟩ = W.frozen? ⟨b, o, none⟩ := fun b o h => hb.frozen (p := ⟨b, o, none⟩) h

theorem FreshS.shape {α : Type} [Rep α] {B : Nat} {w : World} {v : Value} {l : List α} (h : FreshS B w v l) : ∃ a n cap, v = .slice a n cap := by
  obtain ⟨fp, ⟨rows, fps, ho, _⟩, _⟩ := h
  rcases ho.2 with ⟨rfl, _⟩ | ⟨g, cap, cur, rfl, _⟩
  · exact ⟨_, _, _, rfl⟩
  · exact ⟨_, _, _, rfl⟩

/-- The cells read as x; the blocks behind them, each met once, lie from lo on and below hi. -/
def FrIn {α : Type} [Rep α] (lo hi : Nat) (w : World) (cs : List Value) (x : α) : Prop := ∃ fp, Rep.own w cs x fp ∧ fp.Nodup ∧ ∀ b ∈ fp, lo ≤ b ∧ b < hi

section frin
variable {α β : Type} [Rep α] [Rep β] {lo hi : Nat} {w : World} {cs c1 c2 : List Value} {x : α} {y : β}

theorem Fresh.frIn {B : Nat} (h : Fresh B w cs x) : FrIn B w.heap.size w cs x := by
  obtain ⟨fp, ho, hn, hg⟩ := h
  exact ⟨fp, ho, hn, fun b hb => ⟨hg b hb, Rep.ownLt ho b hb⟩⟩
theorem FreshS.frIn {B : Nat} {v : Value} {l : List α} (h : FreshS B w v l) : FrIn B w.heap.size w [v] l := by
  obtain ⟨fp, ho, hn, hg⟩ := h
  exact ⟨fp, ⟨v, rfl, ho⟩, hn, fun b hb => ⟨hg b hb, ho.lt b hb⟩⟩
theorem FrIn.fresh {B : Nat} (h : FrIn lo hi w cs x) (hB : B ≤ lo) : Fresh B w cs x := by
  obtain ⟨fp, ho, hn, hg⟩ := h
  exact ⟨fp, ho, hn, fun b hb => Nat.le_trans hB (hg b hb).1⟩
theorem FrIn.freshS {B : Nat} {v : Value} {l : List α} (h : FrIn lo hi w [v] l) (hB : B ≤ lo) : FreshS B w v l := by
  obtain ⟨fp, ⟨v', hv, ho⟩, hn, hg⟩ := h
  cases hv
  exact ⟨fp, ho, hn, fun b hb => Nat.le_trans hB (hg b hb).1⟩
theorem FrIn.rep (h : FrIn lo hi w cs x) : Rep.rep w cs x := by
  obtain ⟨fp, ho, _⟩ := h; exact Rep.ownRep ho
theorem Fresh.rep {B : Nat} (h : Fresh B w cs x) : Rep.rep w cs x := by
  obtain ⟨fp, ho, _⟩ := h; exact Rep.ownRep ho
theorem FreshS.repS {B : Nat} {v : Value} {l : List α} (h : FreshS B w v l) : RepS w v l := by
  obtain ⟨fp, ho, _⟩ := h; exact ho.repS
theorem FrIn.keep {w' : World} (h : FrIn lo hi w cs x) (hk : ∀ b, lo ≤ b → b < hi → b < w.heap.size → w'.heap[b]? = w.heap[b]?) : FrIn lo hi w' cs x := by
  obtain ⟨fp, ho, hn, hg⟩ := h
  exact ⟨fp, Rep.ownMono ho (fun b hb => hk b (hg b hb).1 (hg b hb).2 (Rep.ownLt ho b hb)), hn, hg⟩
theorem FrIn.set (h : FrIn lo hi w cs x) {p : Addr} (hp : p.block < lo ∨ hi ≤ p.block) (u : Value) : FrIn lo hi (w.setCell p u) cs x :=
  h.keep fun b h1 h2 _ => heap_setCell_other w p b u (by omega)
theorem FrIn.row {g : Nat} {cs' : Array Value} {w' : World} (h : FrIn lo hi w cs x) (hp : g < lo ∨ hi ≤ g) (hw : w' = w.setRow g cs') : FrIn lo hi w' cs x := by
  subst hw
  exact h.keep fun b h1 h2 _ => setRow_other w g b cs' (by omega)
theorem FrIn.alloc (h : FrIn lo hi w cs x) (o : Obj) : FrIn lo hi (w.alloc o) cs x := h.keep fun b _ _ h3 => Below.heap_alloc w o b h3
theorem FrIn.drewN (h : FrIn lo hi w cs x) (n : Nat) : FrIn lo hi (w.drewN n) cs x := h.keep fun _ _ _ _ => rfl
theorem FrIn.drew (h : FrIn lo hi w cs x) : FrIn lo hi w.drew cs x := h.keep fun _ _ _ _ => rfl
theorem FrIn.below {w' : World} (hb : Below w.heap.size w w') (h : FrIn lo hi w cs x) : FrIn lo hi w' cs x := h.keep fun b _ _ h3 => hb.block b h3
theorem FrIn.wide {lo' hi' : Nat} (h : FrIn lo hi w cs x) (h1 : lo' ≤ lo) (h2 : hi ≤ hi') : FrIn lo' hi' w cs x := by
  obtain ⟨fp, ho, hn, hg⟩ := h
  exact ⟨fp, ho, hn, fun b hb => ⟨Nat.le_trans h1 (hg b hb).1, Nat.lt_of_lt_of_le (hg b hb).2 h2⟩⟩
theorem FrIn.flat (m : Nat) (h : Rep.own w cs x []) : FrIn m m w cs x := ⟨[], h, by simp, by simp⟩
theorem FrIn.consFlat (h : Rep.own w c1 x []) (h2 : FrIn lo hi w c2 y) : FrIn lo hi w (c1 ++ c2) (x, y) := by
  obtain ⟨fp, ho, hn, hg⟩ := h2
  exact ⟨fp, ⟨c1, c2, [], fp, rfl, h, ho, rfl⟩, hn, hg⟩
theorem FrIn.snocFlat (h : FrIn lo hi w c1 x) (h2 : Rep.own w c2 y []) : FrIn lo hi w (c1 ++ c2) (x, y) := by
  obtain ⟨fp, ho, hn, hg⟩ := h
  exact ⟨fp, ⟨c1, c2, fp, [], rfl, ho, h2, by simp⟩, hn, hg⟩
theorem FrIn.pair {lo2 hi2 : Nat} (h : FrIn lo hi w c1 x) (h2 : FrIn lo2 hi2 w c2 y) (hd : hi ≤ lo2) (h3 : lo ≤ lo2) (h4 : hi ≤ hi2) : FrIn lo hi2 w (c1 ++ c2) (x, y) := by
  obtain ⟨f1, ho1, hn1, hg1⟩ := h
  obtain ⟨f2, ho2, hn2, hg2⟩ := h2
  refine ⟨f1 ++ f2, ⟨c1, c2, f1, f2, rfl, ho1, ho2, rfl⟩, List.nodup_append.2 ⟨hn1, hn2, fun a ha b hb e => ?_⟩, fun b hb => ?_⟩
  · have := (hg1 a ha).2
    have := (hg2 b hb).1
    omega
  · rcases List.mem_append.1 hb with hb | hb
    · have := hg1 b hb; omega
    · have := hg2 b hb; omega
end frin

section laws
variable {P : Program} {ops : Array Oper} {rest : List Oper} {o : Oper} {a : Act} {w : World} {Q : Exit → Act → World → Prop}

theorem addr_add (b off j : Nat) : (⟨b, off, none⟩ : Addr).add j = ⟨b, off + j, none⟩ := by
  unfold Addr.add; split <;> simp_all

/-- A struct read out of a row. -/
theorem run_load_row (ty : TypeId) (b off : Nat) (cs : List Value) (fs : Array Field)
    (hc : ∀ (j : Nat) u, cs[j]? = some u → w.cell? ⟨b, off + j, none⟩ = some u) (hu : P.underlying ty = some (.struct fs)) (hi : (P.info? ty).map (·.size) = some cs.length) :
    (loadVar ty ⟨b, off, none⟩).run P w = .ok (.agg cs.toArray) w := by
  have hl : (loadCells ⟨b, off, none⟩ cs.length).run P w = .ok cs.toArray w :=
    run_loadCells_list (P := P) w ⟨b, off, none⟩ cs (fun j v hv => by rw [addr_add]; exact hc j v hv)
  cases hq : P.info? ty with
  | none => simp [hq] at hi
  | some i =>
    have hs : i.size = cs.length := by simpa [hq] using hi
    have hagg : (isAgg ty).run P w = .ok true w := by
      unfold isAgg
      rw [Sem.run_bind, run_underlying hu w]
      simp
    simp [loadVar, Sem.run_bind, hagg, sizeOf, typeInfo, hq, hs, hl]

theorem wpList_load_agg (hgd : o.guard = none) (ty : TypeId) (x : Operand) (ho : o.op = .load ty x) (b off : Nat) (hx : a.eval x = .pointer (some ⟨b, off, none⟩))
    (cs : List Value) (fs : Array Field) (hc : ∀ (j : Nat) u, cs[j]? = some u → w.cell? ⟨b, off + j, none⟩ = some u)
    (hu : P.underlying ty = some (.struct fs)) (hi : (P.info? ty).map (·.size) = some cs.length)
    (h : wpList P ops Q rest (a.put o.dst (.agg cs.toArray)) w) : wpList P ops Q (o :: rest) a w :=
  wpList_plain hgd fun K hK => by
    unfold Oper.wp execOp
    simp only [ho, hx, Instr.loadAt, Instr.sureAddr, Sem.run_bind, Sem.run_pure, Result.andThen_ok, run_load_row ty b off cs fs hc hu hi]
    exact hK _ _ h

theorem wpStill_load_agg {Q : Act → Prop} (hgd : o.guard = none) (ty : TypeId) (x : Operand) (ho : o.op = .load ty x) (b off : Nat) (hx : a.eval x = .pointer (some ⟨b, off, none⟩))
    (cs : List Value) (fs : Array Field) (hc : ∀ (j : Nat) u, cs[j]? = some u → w.cell? ⟨b, off + j, none⟩ = some u)
    (hu : P.underlying ty = some (.struct fs)) (hi : (P.info? ty).map (·.size) = some cs.length)
    (h : wpStill P ops w Q rest (a.put o.dst (.agg cs.toArray))) : wpStill P ops w Q (o :: rest) a :=
  wpStill_step fun K hK => by
    rw [if_pos (by simp [Region.wanted, hgd])]
    unfold Oper.still execOp
    simp only [ho, hx, Instr.loadAt, Instr.sureAddr, Sem.run_bind, Sem.run_pure, Result.andThen_ok, run_load_row ty b off cs fs hc hu hi]
    exact ⟨rfl, hK _ h⟩

/-- A struct stored into a row of the call's own. -/
theorem run_store_row (ty : TypeId) (g off : Nat) (cs : List Value) (cur : Array Value) (e : TypeId) (hg : w.heap[g]? = some (.cells cur e (0, 0))) (hfit : off + cs.length ≤ cur.size)
    (h1 : ∀ u ∈ cs, u.oneCell' = true) (hi : (P.info? ty).map (·.size) = some cs.length) :
    (storeVar ty ⟨g, off, none⟩ (.agg cs.toArray)).run P w = .ok () (w.setRow g (cur.toList.take off ++ cs ++ cur.toList.drop (off + cs.length)).toArray) := by
  cases hq : P.info? ty with
  | none => simp [hq] at hi
  | some i =>
    have hs : i.size = cs.length := by simpa [hq] using hi
    have hst := run_storeCells_at P g off e cs 0 cur w hg (by simpa using hfit) h1
    simp only [Nat.add_zero] at hst
    simp [storeVar, Sem.run_bind, sizeOf, typeInfo, hq, hs, Value.cells, hst]

/-- A row with the cells cs written from place off on. -/
def putAt (cur : Array Value) (off : Nat) (cs : List Value) : Array Value := (cur.toList.take off ++ cs ++ cur.toList.drop (off + cs.length)).toArray

theorem run_store_row' (ty : TypeId) (g off : Nat) (v : Value) (cs : List Value) (hv : v.cells = cs.toArray) (cur : Array Value) (e : TypeId) (hg : RowAt w g cur e) (hfit : off + cs.length ≤ cur.size)
    (h1 : ∀ u ∈ cs, u.oneCell' = true) (hi : (P.info? ty).map (·.size) = some cs.length) :
    (storeVar ty ⟨g, off, none⟩ v).run P w = .ok () (w.setRow g (cur.toList.take off ++ cs ++ cur.toList.drop (off + cs.length)).toArray) := by
  cases hq : P.info? ty with
  | none => simp [hq] at hi
  | some i =>
    have hs : i.size = cs.length := by simpa [hq] using hi
    have hst := run_storeCells_row P g off e cs 0 cur w hg (by simpa using hfit) h1
    simp only [Nat.add_zero] at hst
    simp [storeVar, Sem.run_bind, sizeOf, typeInfo, hq, hs, hv, hst]

/-- A value (a struct, or one cell) stored into a row of the call's own. -/
theorem wpList_store_in (hgd : o.guard = none) (ty : TypeId) (x y : Operand) (ho : o.op = .store ty x y) (g off : Nat) (hx : a.eval x = .pointer (some ⟨g, off, none⟩))
    (v : Value) (hy : a.eval y = v) (cs : List Value) (hv : v.cells = cs.toArray) (cur : Array Value) (e : TypeId) (hg : RowAt w g cur e) (hfit : off + cs.length ≤ cur.size)
    (h1 : ∀ u ∈ cs, u.oneCell' = true) (hi : (P.info? ty).map (·.size) = some cs.length)
    (h : ∀ W1, W1 = w.setRow g (putAt cur off cs) → wpList P ops Q rest (a.put o.dst undef) W1) : wpList P ops Q (o :: rest) a w :=
  wpList_plain hgd fun K hK => by
    unfold Oper.wp execOp
    simp only [ho, hx, hy, Instr.storeAt, Instr.sureAddr, Sem.run_bind, Sem.run_pure, Result.andThen_ok, run_store_row' ty g off v cs hv cur e hg hfit h1 hi]
    exact hK _ _ (h _ rfl)

theorem wpList_store_at (hgd : o.guard = none) (ty : TypeId) (x y : Operand) (ho : o.op = .store ty x y) (g off : Nat) (hx : a.eval x = .pointer (some ⟨g, off, none⟩))
    (v : Value) (hy : a.eval y = v) (cs : List Value) (hv : v.cells = cs.toArray) (cur : Array Value) (e : TypeId) (hg : w.heap[g]? = some (.cells cur e (0, 0))) (hfit : off + cs.length ≤ cur.size)
    (h1 : ∀ u ∈ cs, u.oneCell' = true) (hi : (P.info? ty).map (·.size) = some cs.length)
    (h : ∀ W1, W1 = w.setRow g (putAt cur off cs) → wpList P ops Q rest (a.put o.dst undef) W1) : wpList P ops Q (o :: rest) a w :=
  wpList_store_in hgd ty x y ho g off hx v hy cs hv cur e (RowAt.of hg) hfit h1 hi h

/-- make([]T, n). -/
theorem wpList_make_row (hgd : o.guard = none) (t : TypeId) (xl xc : Operand) (ho : o.op = .makeSlice t xl xc) (n : Nat) (hl : a.eval xl = .int .i64 n) (hc : a.eval xc = .int .i64 n)
    (e : TypeId) (z : Value) (size bytes : Nat) (ht : P.underlying t = some (.slice e)) (hi : (P.info? e).map (fun i => (i.zero, i.size, i.bytes)) = some (some z, size, bytes))
    (hb : bytes * n ≤ 281474976710656) (hn : n ≤ 9223372036854775807)
    (h : wpList P ops Q rest (a.put o.dst (.slice (some ⟨w.heap.size, 0, none⟩) n n)) (w.alloc (.cells (madeCells z.cells (n * size)) e))) : wpList P ops Q (o :: rest) a w :=
  wpList_plain hgd fun K hK => by
    obtain ⟨i, hi', hz, hs, hby⟩ := info_parts hi
    subst hs; subst hby
    have hb' : (i.bytes : Int) * (n : Int) ≤ 281474976710656 := by
      have : ((i.bytes * n : Nat) : Int) ≤ 281474976710656 := by omega
      rwa [Int.natCast_mul] at this
    have hr := run_make (P := P) w t e i z ht hi' hz .i64 .i64 n n (by omega) (Int.le_refl _) hb' (by omega)
    simp only [Int.toNat_natCast] at hr
    unfold Oper.wp execOp
    simp only [ho, hl, hc, Sem.run_bind, Sem.run_pure, Result.andThen_ok, hr]
    exact hK _ _ h
end laws

section filling
variable {α : Type} [Rep α]

/-- A made slice of n places, the first of which hold the list l by now; fp: the blocks of these elements. -/
def Filling (B : Nat) (w : World) (g n : Nat) (l : List α) (fp : List Nat) : Prop :=
  ∃ (cur : Array Value) (fps : List (List Nat)), B ≤ g ∧ w.heap[g]? = some (.cells cur (Rep.tid α) (0, 0)) ∧ cur.size = n * Rep.size α ∧ l.length ≤ n ∧ n ≤ 9223372036854775807 ∧
    fps.length = l.length ∧ fp = fps.flatten ∧ (g :: fp).Nodup ∧ (∀ b ∈ fp, B ≤ b) ∧
    ∀ (i : Nat) x f, l[i]? = some x → fps[i]? = some f → ∃ r, Rep.own w r x f ∧ ∀ (j : Nat) u, r[j]? = some u → cur[i * Rep.size α + j]? = some u

theorem Filling.start (B : Nat) (w : World) (n : Nat) (z : Array Value) (hB : B ≤ w.heap.size) (hn : n ≤ 9223372036854775807) :
    Filling (α := α) B (w.alloc (.cells (madeCells z (n * Rep.size α)) (Rep.tid α))) w.heap.size n [] [] :=
  ⟨_, [], hB, heap_alloc_new w _, size_madeCells _ _, Nat.zero_le _, hn, rfl, rfl, by simp, by simp, by simp⟩

theorem Filling.keep {B : Nat} {w w' : World} {g n : Nat} {l : List α} {fp : List Nat} (h : Filling B w g n l fp) (hb : Below w.heap.size w w') : Filling B w' g n l fp := by
  obtain ⟨cur, fps, h1, h2, h3, h4, h4', h5, h6, h7, h8, h9⟩ := h
  refine ⟨cur, fps, h1, (hb.block g (Array.getElem?_eq_some_iff.1 h2).1).trans h2, h3, h4, h4', h5, h6, h7, h8, fun i x f hx hf => ?_⟩
  obtain ⟨r, hr, hc⟩ := h9 i x f hx hf
  exact ⟨r, Rep.ownMono hr (fun b hbf => hb.block b (Rep.ownLt hr b hbf)), hc⟩

theorem Filling.lt {B : Nat} {w : World} {g n : Nat} {l : List α} {fp : List Nat} (h : Filling B w g n l fp) : B ≤ g ∧ g < w.heap.size := by
  obtain ⟨cur, fps, h1, h2, _⟩ := h
  exact ⟨h1, (Array.getElem?_eq_some_iff.1 h2).1⟩

theorem Filling.fpLt {B : Nat} {w : World} {g n : Nat} {l : List α} {fp : List Nat} (h : Filling B w g n l fp) : ∀ b ∈ fp, b < w.heap.size := by
  obtain ⟨cur, fps, h1, h2, h3, h4, h4', h5, h6, h7, h8, h9⟩ := h
  intro b hb
  rw [h6] at hb
  obtain ⟨f, hf, hbf⟩ := List.mem_flatten.1 hb
  obtain ⟨i, hi, rfl⟩ := List.mem_iff_getElem.1 hf
  obtain ⟨r, hr, _⟩ := h9 i l[i] fps[i] (by simp [show i < l.length from by omega]) (by simp [hi])
  exact Rep.ownLt hr b hbf

theorem List.getElem?_snoc {β : Type} (l : List β) (x : β) (i : Nat) (y : β) (h : (l ++ [x])[i]? = some y) : (i < l.length ∧ l[i]? = some y) ∨ (i = l.length ∧ y = x) := by
  by_cases hi : i < l.length
  · rw [List.getElem?_append_left hi] at h; exact .inl ⟨hi, h⟩
  · rw [List.getElem?_append_right (by omega)] at h
    have : i - l.length = 0 := by
      rcases Nat.eq_zero_or_pos (i - l.length) with h0 | h0
      · exact h0
      · rw [List.getElem?_eq_none (by simp; omega)] at h; cases h
    rw [this] at h
    simp at h
    exact .inr ⟨by omega, h.symm⟩

/-- The element x, made in new blocks behind w, is stored at the next place. -/
theorem Filling.step {B : Nat} {w w1 : World} {g n : Nat} {l : List α} {fp f : List Nat} {x : α} {r : List Value} (h : Filling B w g n l fp) (hb : Below w.heap.size w w1) (hlt : l.length < n)
    (hr : Rep.own w1 r x f) (hfn : f.Nodup) (hf : ∀ b ∈ f, w.heap.size ≤ b) (off : Nat) (hoff : off = l.length * Rep.size α) (l' : List α) (hl' : l ++ [x] = l') (e : TypeId) (he : e = Rep.tid α) :
    ∃ cur : Array Value, w1.heap[g]? = some (.cells cur e (0, 0)) ∧ off + r.length ≤ cur.size ∧
      ∀ W1, W1 = w1.setRow g (putAt cur off r) → Filling B W1 g n l' (fp ++ f) := by
  subst hoff hl' he
  have hg := h.lt
  have hfl := h.fpLt
  have hk := h.keep hb
  obtain ⟨cur, fps, h1, h2, h3, h4, h4', h5, h6, h7, h8, h9⟩ := hk
  have hrl : r.length = Rep.size α := Rep.len (Rep.ownRep hr)
  have hfit : l.length * Rep.size α + r.length ≤ cur.size := by
    rw [h3, hrl, ← Nat.succ_mul]; exact Nat.mul_le_mul_right _ hlt
  refine ⟨cur, h2, hfit, ?_⟩
  rintro W1 rfl
  unfold putAt
  have hlen : (cur.toList.take (l.length * Rep.size α)).length = l.length * Rep.size α := by simp; omega
  refine ⟨_, fps ++ [f], h1, setRow_heap w1 g cur _ _ (0, 0) h2, ?_, by simp; omega, h4', by simp [h5], by simp [h6], ?_, ?_, ?_⟩
  · simp only [List.size_toArray, List.length_append, List.length_drop, Array.length_toList, hlen]; omega
  · rw [List.nodup_cons] at h7 ⊢
    refine ⟨?_, ?_⟩
    · intro hm
      rcases List.mem_append.1 hm with hm | hm
      · exact h7.1 hm
      · have := hf g hm; omega
    · rw [List.nodup_append]
      refine ⟨h7.2, hfn, fun a ha b hb' e => ?_⟩
      have := hfl a ha
      have := hf b hb'
      omega
  · intro b hbm
    rcases List.mem_append.1 hbm with hbm | hbm
    · exact h8 b hbm
    · have := hf b hbm; omega
  · intro i y f' hy hf'
    rcases List.getElem?_snoc _ _ _ _ hy with ⟨hi, hy⟩ | ⟨rfl, rfl⟩
    · rw [List.getElem?_append_left (by omega)] at hf'
      obtain ⟨r', hr', hc⟩ := h9 i y f' hy hf'
      refine ⟨r', Rep.ownMono hr' (fun b hbf => ?_), fun j u hu => ?_⟩
      · refine setRow_other w1 g b _ (fun e => ?_)
        subst e
        rw [List.nodup_cons, h6] at h7
        exact h7.1 (List.mem_flatten.2 ⟨f', List.mem_of_getElem? hf', hbf⟩)
      · have hj : j < Rep.size α := by
          have : j < r'.length := by rw [List.getElem?_eq_some_iff] at hu; exact hu.1
          rw [Rep.len (Rep.ownRep hr')] at this; exact this
        have hlt' : i * Rep.size α + j < l.length * Rep.size α := by
          have : (i + 1) * Rep.size α ≤ l.length * Rep.size α := Nat.mul_le_mul_right _ hi
          rw [Nat.add_mul] at this; omega
        have := hc j u hu
        simp only [List.getElem?_toArray]
        rw [List.append_assoc, List.getElem?_append_left (by rw [hlen]; exact hlt'), List.getElem?_take_of_lt hlt']
        simpa using this
    · rw [List.getElem?_append_right (by omega)] at hf'
      simp only [h5, Nat.sub_self, List.getElem?_cons_zero, Option.some.injEq] at hf'
      subst hf'
      refine ⟨r, Rep.ownMono hr (fun b hbf => setRow_other w1 g b _ (fun e => ?_)), fun j u hu => ?_⟩
      · subst e
        have := hf b hbf; omega
      · have hj : j < r.length := by rw [List.getElem?_eq_some_iff] at hu; exact hu.1
        simp only [List.getElem?_toArray]
        rw [List.append_assoc, List.getElem?_append_right (by omega), hlen, Nat.add_sub_cancel_left, List.getElem?_append_left hj]
        exact hu

theorem Filling.finish {B : Nat} {w : World} {g n : Nat} {l : List α} {fp : List Nat} (h : Filling B w g n l fp) (hn : l.length = n) (hm : n ≤ maxLen) :
    FreshS B w (.slice (some ⟨g, 0, none⟩) n n) l := by
  obtain ⟨cur, fps, h1, h2, h3, h4, h4', h5, h6, h7, h8, h9⟩ := h
  refine ⟨g :: fp, ?_, h7, fun b hb => ?_⟩
  · have hrows : ∀ i : Fin l.length, ∃ r, Rep.own w r l[i] (fps[i.1]'(by omega)) ∧ ∀ (j : Nat) u, r[j]? = some u → cur[i.1 * Rep.size α + j]? = some u :=
      fun i => h9 i l[i] (fps[i.1]'(by omega)) (by simp) (by simp)
    let rows : List (List Value) := List.ofFn fun i => (hrows i).choose
    have hr0 : ∀ (i : Nat) (hi : i < l.length), rows[i]? = some (hrows ⟨i, hi⟩).choose := fun i hi => by simp [rows, hi]
    have hlen : rows.length = l.length := by simp [rows]
    have hsz : ∀ r ∈ rows, r.length = Rep.size α := by
      intro r hr
      obtain ⟨i, hi, rfl⟩ := List.mem_iff_getElem.1 hr
      have := hr0 i (by omega)
      rw [List.getElem?_eq_getElem hi] at this
      rw [Option.some.inj this]
      exact Rep.len (Rep.ownRep (hrows ⟨i, by omega⟩).choose_spec.1)
    have hfl : rows.flatten.length = n * Rep.size α := by
      rw [List.length_flatten]
      have : rows.map List.length = List.replicate rows.length (Rep.size α) := by
        rw [List.eq_replicate_iff]; exact ⟨by simp, fun b hb => by obtain ⟨r, hr, rfl⟩ := List.mem_map.1 hb; exact hsz r hr⟩
      rw [this, List.sum_replicate_nat, hlen, hn]
    have hcur : cur.toList = rows.flatten := by
      apply List.ext_getElem?
      intro k
      by_cases hk : k < n * Rep.size α
      · have hs : 0 < Rep.size α := by
          rcases Nat.eq_zero_or_pos (Rep.size α) with h0 | h0
          · rw [h0] at hk; simp at hk
          · exact h0
        have hi : k / Rep.size α < l.length := by rw [hn]; exact Nat.div_lt_of_lt_mul (by rw [Nat.mul_comm]; exact hk)
        have hj : k % Rep.size α < Rep.size α := Nat.mod_lt _ hs
        have hkk : k / Rep.size α * Rep.size α + k % Rep.size α = k := by rw [Nat.mul_comm]; exact Nat.div_add_mod _ _
        have hro := (hrows ⟨k / Rep.size α, hi⟩).choose_spec
        have hrl : (hrows ⟨k / Rep.size α, hi⟩).choose.length = Rep.size α := Rep.len (Rep.ownRep hro.1)
        have e := hro.2 (k % Rep.size α) _ (List.getElem?_eq_getElem (by rw [hrl]; exact hj))
        have e2 := getElem?_flatten_rows _ rows hsz (k / Rep.size α) _ (k % Rep.size α) _ (hr0 _ hi) (List.getElem?_eq_getElem (by rw [hrl]; exact hj))
        rw [hkk] at e2
        rw [e2]
        simp only [hkk] at e
        simpa using e
      · rw [List.getElem?_eq_none (by simp; omega), List.getElem?_eq_none (by omega)]
    refine ⟨rows, fps, ⟨by rw [hfl, hn], .inr ⟨g, n, cur, by rw [hn], Nat.zero_le _, RowAt.of h2, by omega, hm, h3, ?_⟩⟩, by omega, hlen, h5, fun i x r f hx hr hf => ?_, by simp [Value.ownBlock, h6]⟩
    · rw [hcur, hn, List.take_of_length_le (by omega)]
    · have hi : i < l.length := by rw [List.getElem?_eq_some_iff] at hx; exact hx.1
      rw [hr0 i hi] at hr
      cases hr
      have := (hrows ⟨i, hi⟩).choose_spec.1
      rw [List.getElem?_eq_getElem hi] at hx
      rw [List.getElem?_eq_getElem (by omega)] at hf
      cases hx; cases hf
      exact this
  · rcases List.mem_cons.1 hb with rfl | hb
    · exact h1
    · exact h8 b hb
end filling

end Go.Mux
