/- Marks: what the laws' marking functions leave in memory of the call's own, and how their checking functions find it again. -/
import Derived.Test.YtjglknaojfnllaaDoorEq
import Derived.Test.YtjglknaojfnllaaDoorApp
import Derived.Lib.SlBytesConst
set_option linter.unusedSimpArgs false
set_option linter.unusedVariables false
namespace Go.Mux
open Go.RowKit
/-- Nothing has turned but in the blocks fp, and what is new. -/
structure MarkedOn (fp : List Nat) (w w' : World) : Prop where
  os : w'.os = w.os
  tape : w'.tape = w.tape
  output : w'.output = w.output
  size : w.heap.size ≤ w'.heap.size
  block : ∀ b, b < w.heap.size → b ∉ fp → w'.heap[b]? = w.heap[b]?
theorem MarkedOn.refl (fp : List Nat) (w : World) : MarkedOn fp w w := ⟨rfl, rfl, rfl, Nat.le_refl _, fun _ _ _ => rfl⟩
theorem MarkedOn.trans {fp : List Nat} {a b c : World} (h : MarkedOn fp a b) (k : MarkedOn fp b c) : MarkedOn fp a c :=
  ⟨k.os.trans h.os, k.tape.trans h.tape, k.output.trans h.output, Nat.le_trans h.size k.size, fun i hi hn => (k.block i (Nat.lt_of_lt_of_le hi h.size) hn).trans (h.block i hi hn)⟩
theorem MarkedOn.of_below {fp : List Nat} {w w' : World} (h : Below w.heap.size w w') : MarkedOn fp w w' := ⟨h.os, h.tape, h.output, h.size, fun b hb _ => h.block b hb⟩
theorem MarkedOn.mono {fp fp' : List Nat} {w w' : World} (h : MarkedOn fp w w') (hs : ∀ b ∈ fp, b ∈ fp') : MarkedOn fp' w w' := ⟨h.os, h.tape, h.output, h.size, fun b hb hn => h.block b hb fun hm => hn (hs b hm)⟩
theorem MarkedOn.row {fp : List Nat} {w w1 : World} {g : Nat} {cs : Array Value} (hg : g ∈ fp) (h : w1 = w.setRow g cs) : MarkedOn fp w w1 := by
  subst h
  exact ⟨rfl, rfl, rfl, by simp [World.setRow], fun b _ hn => setRow_other w g b cs fun e => hn (e ▸ hg)⟩
theorem MarkedOn.below {fp : List Nat} {w w' : World} {B : Nat} (h : MarkedOn fp w w') (hB : B ≤ w.heap.size) (hf : ∀ b ∈ fp, B ≤ b) : Below B w w' :=
  ⟨h.os, h.tape, h.output, h.size, fun k hk => h.block k (Nat.lt_of_lt_of_le hk hB) fun hm => absurd (hf k hm) (by omega)⟩
theorem OwnS.apart {α : Type} [Rep α] {w w' : World} {v : Value} {l : List α} {fp fq : List Nat} (h : OwnS w v l fp) (hm : MarkedOn fq w w') (hd : ∀ b ∈ fp, b ∉ fq) : OwnS w' v l fp :=
  h.mono fun b hb => hm.block b (h.lt b hb) (hd b hb)

/-- The marks of a list: one element's behind the other's. -/
def HoldL {α : Type} (H : α → Int → Int → Prop) : List α → Int → Int → Prop
  | [], k, k' => k' = k
  | x :: l, k, k' => ∃ k1, H x k k1 ∧ HoldL H l k1 k'
theorem HoldL.snoc {α : Type} {H : α → Int → Int → Prop} {l : List α} {x : α} {k k1 k2 : Int} (h : HoldL H l k k1) (hx : H x k1 k2) : HoldL H (l ++ [x]) k k2 := by
  induction l generalizing k with
  | nil => cases h; exact ⟨k2, hx, rfl⟩
  | cons y l ih => obtain ⟨k0, hy, h⟩ := h; exact ⟨k0, hy, ih h⟩
theorem HoldL.le {α : Type} {H : α → Int → Int → Prop} (hH : ∀ x k k', H x k k' → k ≤ k') {l : List α} {k k' : Int} (h : HoldL H l k k') : k ≤ k' := by
  induction l generalizing k with
  | nil => cases h; exact Int.le_refl _
  | cons y l ih => obtain ⟨k0, hy, h⟩ := h; exact Int.le_trans (hH _ _ _ hy) (ih h)
theorem HoldL.drop {α : Type} {H : α → Int → Int → Prop} {l : List α} {j : Nat} {x : α} {k k' : Int} (h : HoldL H (l.drop j) k k') (hx : l[j]? = some x) : ∃ k1, H x k k1 ∧ HoldL H (l.drop (j + 1)) k1 k' := by
  have hj : j < l.length := by rw [List.getElem?_eq_some_iff] at hx; exact hx.1
  rw [List.drop_eq_getElem_cons hj] at h
  rw [List.getElem?_eq_getElem hj] at hx
  cases hx
  exact h

def MarkOut {α : Type} [Rep α] (H : α → Int → Int → Prop) (cs : List Value) (fp : List Nat) (k : Int) (n : Nat) (w : World) (e : Ending) (w' : World) : Prop :=
  ∃ (k' : Int) (y : α), e = .returned (.int .i64 k') ∧ k ≤ k' ∧ k' ≤ k + n ∧ Rep.own w' cs y fp ∧ H y k k' ∧ MarkedOn fp w w'

theorem flatten_set {β : Type} (size : Nat) : ∀ (rows : List (List β)) (j : Nat) (r : List β), (∀ q ∈ rows, q.length = size) → j < rows.length →
    (rows.set j r).flatten = rows.flatten.take (j * size) ++ r ++ rows.flatten.drop (j * size + size)
  | [], j, r, _, hj => by simp at hj
  | q :: rows, 0, r, hs, _ => by
    have hq : q.length = size := hs q (by simp)
    simp [← hq]
  | q :: rows, j + 1, r, hs, hj => by
    have hq : q.length = size := hs q (by simp)
    have ih := flatten_set size rows j r (fun q h => hs q (by simp [h])) (by simpa using hj)
    simp only [List.set_cons_succ, List.flatten_cons]
    rw [ih]
    have e1 : (j + 1) * size = q.length + j * size := by rw [hq, Nat.add_mul]; omega
    rw [e1, List.take_length_add_append, Nat.add_assoc, List.drop_length_add_append]
    simp [List.append_assoc]

theorem OwnS.openAt {α : Type} [Rep α] {w : World} {a : Option Addr} {n cap : Nat} {l : List α} {fp : List Nat} (h : OwnS w (.slice a n cap) l fp) (hn : fp.Nodup) {j : Nat} {x : α} (hx : l[j]? = some x) :
    ∃ g A f r, a = some ⟨g, 0, none⟩ ∧ RowAt w g A (Rep.tid α) ∧ Rep.own w r x f ∧ f.Nodup ∧ (∀ b ∈ f, b ∈ fp) ∧ g ∈ fp ∧ g ∉ f ∧ j * Rep.size α + Rep.size α ≤ A.size ∧
      (∀ (c : Nat) u, r[c]? = some u → A[j * Rep.size α + c]? = some u) ∧
      ∀ (w' : World) (x' : α) (r' : List Value), Rep.own w' r' x' f → RowAt w' g (putAt A (j * Rep.size α) r') (Rep.tid α) → (∀ b ∈ fp, b ≠ g → b ∉ f → w'.heap[b]? = w.heap[b]?) →
        OwnS w' (.slice a n cap) (l.set j x') fp := by
  obtain ⟨rows, fps, hown, hl, hrl, hfl, hel, rfl⟩ := h
  have hj : j < l.length := by rw [List.getElem?_eq_some_iff] at hx; exact hx.1
  have hR : Rows w l rows fps := ⟨hrl, hfl, hel⟩
  rcases hown.2 with ⟨_, h0⟩ | ⟨g, cap', cur, hv, hb, hg, hnc, hcm, hcs, htake⟩
  · omega
  injection hv with ha hn' hc'
  subst ha hn' hc'
  have hrj : rows[j]? = some (rows[j]'(by omega)) := List.getElem?_eq_getElem (by omega)
  have hfj : fps[j]? = some (fps[j]'(by omega)) := List.getElem?_eq_getElem (by omega)
  generalize rows[j]'(by omega) = r at hrj
  generalize fps[j]'(by omega) = f at hfj
  have ho := hel j x r f hx hrj hfj
  have hsz : ∀ q ∈ rows, q.length = Rep.size α := by
    intro q hq
    obtain ⟨i, hi, rfl⟩ := List.mem_iff_getElem.1 hq
    exact Rep.len (Rep.ownRep (hel i l[i] rows[i] fps[i] (by simp [show i < l.length from by omega]) (by simp [hi]) (by simp [show i < fps.length from by omega])))
  have hrl' : r.length = Rep.size α := hsz r (List.mem_of_getElem? hrj)
  simp only [Value.ownBlock, Option.toList_some, List.singleton_append, List.nodup_cons] at hn
  have hfsub : ∀ b ∈ f, b ∈ fps.flatten := fun b hbf => List.mem_flatten.2 ⟨f, List.mem_of_getElem? hfj, hbf⟩
  have hmul : (j + 1) * Rep.size α ≤ l.length * Rep.size α := Nat.mul_le_mul_right _ hj
  rw [Nat.add_mul, Nat.one_mul] at hmul
  have hcap : l.length * Rep.size α ≤ cur.size := by rw [hcs]; exact Nat.mul_le_mul_right _ hnc
  refine ⟨g, cur, f, r, rfl, hg, ho, (List.pairwise_flatten.1 hn.2).1 f (List.mem_of_getElem? hfj), fun b hbf => by simp [Value.ownBlock]; exact .inr (by simpa using hfsub b hbf), by simp [Value.ownBlock], fun hm => hn.1 (hfsub g hm), by omega, fun c u hu => ?_, ?_⟩
  · have h1 := getElem?_flatten_rows (Rep.size α) rows hsz j r c u hrj hu
    rw [← htake] at h1
    have hlt : j * Rep.size α + c < l.length * Rep.size α := by
      have : c < r.length := by rw [List.getElem?_eq_some_iff] at hu; exact hu.1
      omega
    rw [List.getElem?_take_of_lt hlt] at h1
    simpa using h1
  · intro w' x' r' ho' hg' hk
    have hr' : r'.length = Rep.size α := Rep.len (Rep.ownRep ho')
    refine ⟨rows.set j r', fps, ⟨?_, .inr ⟨g, cap, _, by simp, Nat.zero_le _, hg', by simpa using hnc, hcm, ?_, ?_⟩⟩, by simpa using hl, by simpa using hrl, by simpa using hfl, ?_, rfl⟩
    · rw [flatten_set (Rep.size α) rows j r' hsz (by omega)]
      have := hown.1
      simp only [List.length_append, List.length_take, List.length_drop, List.length_set, this, hr']
      omega
    · unfold putAt
      simp only [List.size_toArray, List.length_append, List.length_take, List.length_drop, Array.length_toList, hr']
      omega
    · unfold putAt
      rw [flatten_set (Rep.size α) rows j r' hsz (by omega), ← htake]
      simp only [List.length_set, hr']
      rw [List.take_take, Nat.min_eq_left (by omega), List.take_append, List.take_append]
      simp only [List.length_take, Array.length_toList, List.length_append, hr']
      rw [List.take_take, Nat.min_eq_right (by omega), Nat.min_eq_left (show j * Rep.size α ≤ cur.size by omega), List.take_of_length_le (show r'.length ≤ _ by omega), List.drop_take]
    · intro i y q f' hy hq hf'
      by_cases hij : i = j
      · subst hij
        rw [List.getElem?_set_self (by omega)] at hy
        rw [List.getElem?_set_self (by omega)] at hq
        rw [hfj] at hf'
        cases hy; cases hq; cases hf'
        exact ho'
      · rw [List.getElem?_set_ne (by omega)] at hy hq
        refine Rep.ownMono (hel i y q f' hy hq hf') fun b hbf => hk b ?_ ?_ ?_
        · simp [Value.ownBlock]; exact .inr (by simpa using (List.mem_flatten.2 ⟨f', List.mem_of_getElem? hf', hbf⟩ : b ∈ fps.flatten))
        · intro e
          subst e
          exact hn.1 (List.mem_flatten.2 ⟨f', List.mem_of_getElem? hf', hbf⟩)
        · intro hbf2
          have hp := (List.pairwise_flatten.1 hn.2).2
          rw [List.pairwise_iff_getElem] at hp
          have hi : i < fps.length := by rw [List.getElem?_eq_some_iff] at hf'; exact hf'.1
          have e1 : fps[i] = f' := by rw [List.getElem?_eq_getElem hi] at hf'; exact Option.some.inj hf'
          have e2 : fps[j]'(by omega) = f := by rw [List.getElem?_eq_getElem (by omega)] at hfj; exact Option.some.inj hfj
          rcases Nat.lt_or_gt_of_ne hij with hlt | hgt
          · have := hp i j hi (by omega) hlt
            rw [e1, e2] at this
            exact this b hbf b hbf2 rfl
          · have := hp j i (by omega) hi hgt
            rw [e1, e2] at this
            exact this b hbf2 b hbf rfl

/-- The row A of n places from off on is being written: the first cells, p, stand. -/
def Rowing (w : World) (g : Nat) (A : Array Value) (e : TypeId) (off n : Nat) (p : List Value) : Prop :=
  RowAt w g (putAt A off p) e ∧ off + n ≤ A.size
theorem putAt_nil (A : Array Value) (off : Nat) : putAt A off [] = A := by
  unfold putAt
  simp
theorem size_putAt {A : Array Value} {off : Nat} {p : List Value} (h : off + p.length ≤ A.size) : (putAt A off p).size = A.size := by
  unfold putAt
  simp only [List.size_toArray, List.length_append, List.length_take, List.length_drop, Array.length_toList]
  omega
theorem putAt_snoc {A : Array Value} {off : Nat} {p : List Value} (u : Value) (h : off + p.length < A.size) : putAt (putAt A off p) (off + p.length) [u] = putAt A off (p ++ [u]) := by
  have hl : (A.toList.take off ++ p).length = off + p.length := by rw [List.length_append, List.length_take, Array.length_toList, Nat.min_eq_left (by omega)]
  have e1 : (A.toList.take off ++ p ++ A.toList.drop (off + p.length)).take (off + p.length) = A.toList.take off ++ p := List.take_left' hl
  have e2 : (A.toList.take off ++ p ++ A.toList.drop (off + p.length)).drop (off + p.length + 1) = A.toList.drop (off + p.length + 1) := by
    rw [← List.drop_drop, List.drop_left' hl, List.drop_drop]
  unfold putAt
  simp only [List.length_singleton, List.length_append]
  rw [e1, e2, List.append_assoc (A.toList.take off) p [u], Nat.add_assoc]
theorem putAt_keep {A : Array Value} {off : Nat} {p : List Value} {u : Value} (h : A[off + p.length]? = some u) : putAt A off p = putAt A off (p ++ [u]) := by
  have hlt : off + p.length < A.size := (Array.getElem?_eq_some_iff.1 h).1
  unfold putAt
  congr 1
  rw [List.drop_eq_getElem_cons (show off + p.length < A.toList.length by simpa using hlt)]
  have : A.toList[off + p.length]'(by simpa using hlt) = u := by
    have := (Array.getElem?_eq_some_iff.1 h).2
    simpa using this
  rw [this]
  simp [Nat.add_assoc]
theorem Rowing.start {w : World} {g : Nat} {A : Array Value} {e : TypeId} {off n : Nat} (h : RowAt w g A e) (hs : off + n ≤ A.size) : Rowing w g A e off n [] := ⟨by rw [putAt_nil]; exact h, hs⟩
theorem Rowing.store {w w1 : World} {g : Nat} {A : Array Value} {e : TypeId} {off n o : Nat} {p : List Value} {u : Value} (h : Rowing w g A e off n p) (hp : p.length < n) (ho : o = off + p.length) (hw : w1 = w.setRow g (putAt (putAt A off p) o [u])) : Rowing w1 g A e off n (p ++ [u]) := by
  subst hw ho
  refine ⟨?_, h.2⟩
  rw [← putAt_snoc u (by have := h.2; omega)]
  exact h.1.setRow (size_putAt (by rw [size_putAt (by have := h.2; omega)]; have := h.2; simp; omega))
theorem Rowing.keep {w : World} {g : Nat} {A : Array Value} {e : TypeId} {off n : Nat} {p : List Value} {u : Value} (h : Rowing w g A e off n p) (hu : A[off + p.length]? = some u) : Rowing w g A e off n (p ++ [u]) := ⟨by rw [← putAt_keep hu]; exact h.1, h.2⟩
theorem Rowing.step {w w1 : World} {g : Nat} {A : Array Value} {e : TypeId} {off n : Nat} {p : List Value} (h : Rowing w g A e off n p) (hb : w1.heap[g]? = w.heap[g]?) : Rowing w1 g A e off n p := ⟨h.1.keep hb, h.2⟩
theorem Rowing.lt {w : World} {g : Nat} {A : Array Value} {e : TypeId} {off n : Nat} {p : List Value} (h : Rowing w g A e off n p) : g < w.heap.size := h.1.lt
theorem Rowing.fit {w : World} {g : Nat} {A : Array Value} {e : TypeId} {off n o : Nat} {p : List Value} (h : Rowing w g A e off n p) (hp : p.length < n) (ho : o = off + p.length) : o + 1 ≤ (putAt A off p).size := by
  rw [size_putAt (by have := h.2; omega)]; have := h.2; omega
theorem Rowing.cell {w : World} {g : Nat} {A : Array Value} {e : TypeId} {off n c : Nat} {p : List Value} {u : Value} (h : Rowing w g A e off n p) (hc : p.length ≤ c) (hn : c < n) (hu : A[off + c]? = some u) : w.cell? ⟨g, off + c, none⟩ = some u := by
  rw [h.1.cell]
  have := h.2
  unfold putAt
  rw [List.getElem?_toArray, List.getElem?_append_right (by simp; omega)]
  simp only [List.length_append, List.length_take, Array.length_toList, Nat.min_eq_left (show off ≤ A.size by omega), List.getElem?_drop]
  rw [show off + p.length + (off + c - (off + p.length)) = off + c from by omega]
  simpa using hu
end Go.Mux
