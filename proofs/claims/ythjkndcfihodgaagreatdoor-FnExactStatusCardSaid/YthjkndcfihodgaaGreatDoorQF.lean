/- What a call may hold, as plain values and a store: a small machine over them, the functions of this program as its contracts, and the plain laws: texts QS2 to QT5. -/
import Derived.Test.YthjkndcfihodgaaGreatDoorQE
set_option linter.unusedSimpArgs false
set_option linter.unusedVariables false
set_option linter.constructorNameAsVariable false
namespace Go.Px
def Tre.sh : Tre → Prop
  | .leaf x => x.Pane ≠ 0
  | .node x a b => x.Pane = 0 ∧ a.sh ∧ b.sh
def cnt : Nat → List INode → Option (List INode)
  | _, [] => none
  | k, x :: l => if x.Pane = 0 then cnt (k + 1) l else if k = 1 then some l else cnt (k - 1) l
theorem cnt_cons (k : Nat) (x : INode) (l : List INode) : cnt k (x :: l) = if x.Pane = 0 then cnt (k + 1) l else if k = 1 then some l else cnt (k - 1) l := by rw [cnt]
theorem cnt_flat : ∀ {T : Tre} {k : Nat} {r : List INode}, T.sh → 1 ≤ k → cnt k (T.flat ++ r) = if k = 1 then some r else cnt (k - 1) r
  | .leaf x, k, r, h, hk => by
    show cnt k (x :: r) = _
    rw [cnt_cons, if_neg h]
  | .node x a b, k, r, h, hk => by
    show cnt k (x :: (a.flat ++ b.flat) ++ r) = _
    rw [List.cons_append, List.append_assoc, cnt_cons, if_pos h.1, cnt_flat h.2.1 (by omega), if_neg (by omega), show k + 1 - 1 = k by omega, cnt_flat h.2.2 hk]
theorem cnt_conv : ∀ {l : List INode} {k : Nat} {r : List INode}, 1 ≤ k → cnt k l = some r → ∃ Ts : List Tre, Ts.length = k ∧ (∀ T ∈ Ts, T.sh) ∧ l = Ts.flatMap Tre.flat ++ r
  | [], k, r, _, h => by cases h
  | x :: l, k, r, hk, h => by
    rw [cnt_cons] at h
    split at h
    · rename_i h0
      obtain ⟨Ts, h1, h2, h3⟩ := cnt_conv (by omega) h
      match Ts, h1 with
      | [T], h1 => simp at h1; omega
      | T1 :: T2 :: Ts, h1 =>
        refine ⟨.node x T1 T2 :: Ts, by simp at h1 ⊢; omega, fun T hT => ?_, by rw [h3]; simp [Tre.flat]⟩
        rcases List.mem_cons.1 hT with rfl | hT
        · exact ⟨h0, h2 _ (by simp), h2 _ (by simp)⟩
        · exact h2 T (by simp [hT])
      | [], h1 => simp at h1
    · rename_i h0
      split at h
      · rename_i h1
        cases h
        exact ⟨[.leaf x], by simp [h1], fun T hT => by rw [List.mem_singleton.1 hT]; exact h0, by simp [Tre.flat]⟩
      · rename_i h1
        obtain ⟨Ts, h2, h3, h4⟩ := cnt_conv (by omega) h
        refine ⟨.leaf x :: Ts, by simp [h2]; omega, fun T hT => ?_, by rw [h4]; simp [Tre.flat]⟩
        rcases List.mem_cons.1 hT with rfl | hT
        · exact h0
        · exact h3 T hT
def cntV (k : Nat) (t l : List INode) : Int := match cnt k l with
  | some r => (t.length : Int) - (r.length : Int)
  | none => -1
theorem l13End_loop (fuel : Nat) (t : List INode) (ht : t.length ≤ 1048576) : ∀ (m fl i k : Nat), t.length - i = m → i ≤ t.length → 1 ≤ k → k + m ≤ 10000000 → m < fl →
    loopF (pS_l13End_b1 fuel) fl (t, (k : Int), (i : Int)) = some (match cnt k (t.drop i) with
      | some r => .inr ((t.length : Int) - (r.length : Int))
      | none => .inl ())
  | m, 0, _, _, _, _, _, _, h => by omega
  | 0, fl + 1, i, k, hm, hi, hk, hb, hf => by
    obtain rfl : i = t.length := by omega
    unfold loopF pS_l13End_b1
    rw [List.drop_length]
    simp [cnt]
  | m + 1, fl + 1, i, k, hm, hi, hk, hb, hf => by
    have hlt : i < t.length := by omega
    have hx : t[i]? = some t[i] := List.getElem?_eq_getElem hlt
    obtain ⟨h1, h2, h3, h4, h5⟩ := idx_facts hx (by omega)
    have ih := l13End_loop fuel t ht m fl (i + 1)
    rw [drop_get hx]
    generalize t[i] = x at hx h3
    unfold loopF
    generalize loopF (pS_l13End_b1 fuel) fl = lf at ih ⊢
    unfold pS_l13End_b1
    simp only [h1, br_t, gd_t h2, h3, bd_s]
    rw [cnt_cons]
    by_cases h0 : x.Pane = 0
    · have e1 : (x.Pane == 0) = true := by simp [h0]
      have e2 : ((k : Int) + 1 == 0) = false := by simp; omega
      rw [e1, if_pos h0]
      simp only [br_t]
      rw [gd_t (inK64 (by omega) (by omega)), bd_s]
      simp only [e2, br_f]
      rw [h5, gd_t h4]
      simp only
      rw [show (k : Int) + 1 = ((k + 1 : Nat) : Int) by omega, ih (k + 1) (by omega) (by omega) (by omega) (by omega) (by omega)]
    · have e1 : (x.Pane == 0) = false := by simp [h0]
      rw [e1, if_neg h0]
      simp only [br_f]
      rw [gd_t (inK64 (by omega) (by omega)), bd_s]
      by_cases hk1 : k = 1
      · have e2 : ((k : Int) - 1 == 0) = true := by simp; omega
        simp only [e2, br_t]
        rw [if_pos hk1, h5, gd_t h4]
        simp only [List.length_drop]
        congr 3
        omega
      · have e2 : ((k : Int) - 1 == 0) = false := by simp; omega
        simp only [e2, br_f]
        rw [if_neg hk1, h5, gd_t h4]
        simp only
        rw [show (k : Int) - 1 = ((k - 1 : Nat) : Int) by omega, ih (k - 1) (by omega) (by omega) (by omega) (by omega) (by omega)]
theorem l13End_eq {fuel : Nat} {t : List INode} {i : Nat} (ht : t.length ≤ 1048576) (hi : i ≤ t.length) (hf : t.length < fuel) : pS_l13End fuel t (i : Int) = some (cntV 1 t (t.drop i)) := by
  unfold pS_l13End cntV
  have := l13End_loop fuel t ht (t.length - i) fuel i 1 rfl hi (by omega) (by omega) (by omega)
  rw [show (1 : Int) = ((1 : Nat) : Int) from rfl, this]
  cases cnt 1 (t.drop i) <;> rfl
def lvs (t : List INode) : List Int := (t.filter fun x => x.Pane != 0).map (·.Pane)
theorem lvs_len (t : List INode) : (lvs t).length ≤ t.length := by unfold lvs; rw [List.length_map]; exact List.length_filter_le _ _
theorem lvs_app (s t : List INode) : lvs (s ++ t) = lvs s ++ lvs t := by simp [lvs]
theorem lvs_one (x : INode) : lvs [x] = if x.Pane = 0 then [] else [x.Pane] := by
  unfold lvs
  by_cases h : x.Pane = 0 <;> simp [h]
theorem pI_leaves_eq {fuel : Nat} {t : List INode} (ht : t.length ≤ 1048576) (hf : t.length < fuel) : pI_leaves fuel t = some (lvs t) := by
  unfold pI_leaves
  have key : loopF (pI_leaves_b1 fuel) fuel ([], t, (t.length : Int), 0) = some (lvs t) := by
    refine loopF_run (fun i => (lvs (t.take i), t, (t.length : Int), (i : Int))) t.length (lvs t) rfl (fun i hi => ?_) (by unfold pI_leaves_b1; simp) hf
    have hx : t[i]? = some t[i] := List.getElem?_eq_getElem hi
    obtain ⟨h1, h2, h3, h4, h5⟩ := idx_facts hx (by omega)
    rw [take_succ_get hx, lvs_app, lvs_one]
    generalize t[i] = x at hx h3
    unfold pI_leaves_b1 pI_Node_isLeaf
    simp only [h1, br_t, gd_t h2, h3, bd_s]
    have hr : roomB K.int (lvs (t.take i) ++ [x.Pane]).length := roomB_of (by have := lvs_len (t.take i); simp at this ⊢; omega) (by decide)
    by_cases h0 : x.Pane = 0
    · have e1 : (x.Pane != 0) = false := by simp [h0]
      simp only [e1, br_f, bd_s, if_pos h0, List.append_nil]
      rw [h5, gd_t h4]
    · have e1 : (x.Pane != 0) = true := by simp [h0]
      simp only [e1, br_t, if_neg h0, gd_t hr, bd_s]
      rw [h5, gd_t h4]
  rw [key]
  rfl
theorem compact_inner (fuel k0 : Nat) (l : List Int) (hl : l.length ≤ 1048576) (hk1 : 1 ≤ k0) (hk : k0 < l.length) (hf : l.length < fuel) : ∃ o, loopF (pG_slices_Compact_int_b2 fuel) fuel (l, (k0 : Int), (k0, l.length - k0), 1) = some o ∧ o.1.length = l.length ∧ 0 ≤ o.2 ∧ o.2 < l.length := by
  refine loopF_inv (V := List Int × Int × (Nat × Nat) × Int) (O := List Int × Int) (fun v => v.1.length = l.length ∧ v.2.2.1 = (k0, l.length - k0) ∧ 1 ≤ v.2.2.2 ∧ v.2.2.2 ≤ ((l.length - k0 : Nat) : Int) ∧ (k0 : Int) ≤ v.2.1 ∧ v.2.1 + 1 ≤ k0 + v.2.2.2) (fun v => (((l.length - k0 : Nat) : Int) - v.2.2.2).toNat) (fun o => o.1.length = l.length ∧ 0 ≤ o.2 ∧ o.2 < l.length) ?_ fuel _ ⟨rfl, rfl, by dsimp only; omega, by dsimp only; omega, by dsimp only; omega, by dsimp only; omega⟩ (by dsimp only; omega)
  rintro ⟨v, k, ⟨off, n⟩, i⟩ ⟨a1, a2, a3, a4, a5, a6⟩
  cases a2
  simp only at a1 a3 a4 a5 a6 ⊢
  unfold pG_slices_Compact_int_b2
  simp only
  by_cases hlt : i < ((l.length - k0 : Nat) : Int)
  · left
    rw [show decide (i < ((l.length - k0 : Nat) : Int)) = true by simpa using hlt]
    have hx : v[k0 + i.toNat]? = some v[k0 + i.toNat]! := by
      rw [List.getElem?_eq_getElem (by omega), getElem!_pos v _ (by omega)]
    have hy : v[k0 + (i - 1).toNat]? = some v[k0 + (i - 1).toNat]! := by
      rw [List.getElem?_eq_getElem (by omega), getElem!_pos v _ (by omega)]
    have hz : v[0 + k.toNat]? = some v[0 + k.toNat]! := by
      rw [List.getElem?_eq_getElem (by omega), getElem!_pos v _ (by omega)]
    simp only [br_t]
    rw [gd_t ⟨by omega, hlt⟩, hx, bd_s, gd_t (inK64 (by omega) (by omega)), gd_t ⟨by omega, by omega⟩, hy, bd_s]
    cases (v[k0 + i.toNat]! != v[k0 + (i - 1).toNat]!) with
    | true =>
      rw [br_t, gd_t ⟨by omega, hlt⟩, bd_s, gd_t ⟨by omega, by omega⟩, hz, bd_s, gd_t (inK64 (by omega) (by omega)), bd_s]
      simp only
      rw [gd_t (inK64 (by omega) (by omega))]
      exact ⟨_, rfl, ⟨by simp [a1], rfl, by dsimp only; omega, by dsimp only; omega, by dsimp only; omega, by dsimp only; omega⟩, by dsimp only; omega⟩
    | false =>
      rw [br_f, bd_s]
      simp only
      rw [gd_t (inK64 (by omega) (by omega))]
      exact ⟨_, rfl, ⟨a1, rfl, by dsimp only; omega, by dsimp only; omega, by dsimp only; omega, by dsimp only; omega⟩, by dsimp only; omega⟩
  · right
    rw [show decide (i < ((l.length - k0 : Nat) : Int)) = false by simpa using hlt]
    exact ⟨_, rfl, a1, by dsimp only; omega, by dsimp only; omega⟩
def adj (l : List Int) (i : Nat) : Bool := l[i + 1]? == l[i]?
theorem compact_len {fuel : Nat} {l : List Int} (hl : l.length ≤ 1048576) (hf : l.length < fuel) : ∃ r, pG_slices_Compact_int fuel l = some r ∧ (((r.length : Int) == (l.length : Int)) = !(List.range (l.length - 1)).any (adj l)) := by
  unfold pG_slices_Compact_int
  by_cases h2 : l.length < 2
  · rw [show decide ((l.length : Int) < 2) = true by simp; omega, br_t]
    exact ⟨l, rfl, by rw [show l.length - 1 = 0 by omega]; simp⟩
  · rw [show decide ((l.length : Int) < 2) = false by simp; omega, br_f]
    have key : ∀ (m fl i : Nat), l.length - i = m → 1 ≤ i → i ≤ l.length → m < fl → fl ≤ fuel → (∀ j, j + 1 < i → adj l j = false) → ∃ o, loopF (pG_slices_Compact_int_b1 fuel) fl (l, (i : Int)) = some o ∧ ((o = .inl l ∧ ∀ j, j + 1 < l.length → adj l j = false) ∨ ∃ r, o = .inr r ∧ r.length < l.length ∧ ∃ j, j + 1 < l.length ∧ adj l j = true) := by
      intro m
      induction m with
      | zero =>
        intro fl i hm h1 hi hfl hle hj
        obtain rfl : i = l.length := by omega
        cases fl with
        | zero => omega
        | succ fl =>
          unfold loopF pG_slices_Compact_int_b1
          simp only [show decide ((l.length : Int) < (l.length : Int)) = false by simp, br_f]
          exact ⟨_, rfl, .inl ⟨rfl, hj⟩⟩
      | succ m ih =>
        intro fl i hm h1 hi hfl hle hj
        cases fl with
        | zero => omega
        | succ fl =>
        have hlt : i < l.length := by omega
        have hx : l[0 + (i : Int).toNat]? = some l[i] := by rw [show 0 + (i : Int).toNat = i by omega]; exact List.getElem?_eq_getElem hlt
        have hy : l[0 + ((i : Int) - 1).toNat]? = some l[i - 1] := by rw [show 0 + ((i : Int) - 1).toNat = i - 1 by omega]; exact List.getElem?_eq_getElem (by omega)
        have hadj : adj l (i - 1) = (l[i] == l[i - 1]) := by
          unfold adj
          rw [show i - 1 + 1 = i by omega, List.getElem?_eq_getElem hlt, List.getElem?_eq_getElem (show i - 1 < l.length by omega)]
          simp
        have ih := ih fl (i + 1) (by omega) (by omega) (by omega) (by omega) (by omega)
        unfold loopF
        generalize loopF (pG_slices_Compact_int_b1 fuel) fl = lf at ih ⊢
        unfold pG_slices_Compact_int_b1
        simp only [show decide ((i : Int) < (l.length : Int)) = true by simpa using hlt, br_t]
        rw [gd_t ⟨by omega, by omega⟩, hx, bd_s, gd_t (inK64 (by omega) (by omega)), gd_t ⟨by omega, by omega⟩, hy, bd_s]
        cases he : l[i] == l[i - 1] with
        | true =>
          rw [br_t, gd_t ⟨by omega, by omega⟩]
          obtain ⟨o, p1, p2, p3, p4⟩ := compact_inner fuel i l hl h1 hlt hf
          rw [show (0 + (i : Int).toNat, l.length - (i : Int).toNat) = (i, l.length - i) by simp, p1, bd_s]
          obtain ⟨o1, o2⟩ := o
          simp only at p2 p3 p4 ⊢
          rw [gd_t ⟨by omega, by omega⟩, gd_t ⟨by omega, by omega⟩]
          refine ⟨_, rfl, .inr ⟨_, rfl, ?_, i - 1, by omega, by rw [hadj, he]⟩⟩
          rw [List.length_take]; omega
        | false =>
          rw [br_f, gd_t (inK64 (by omega) (by omega))]
          simp only
          rw [show (i : Int) + 1 = ((i + 1 : Nat) : Int) by omega]
          exact ih fun j hj2 => by
            by_cases hji : j = i - 1
            · rw [hji, hadj, he]
            · exact hj j (by omega)
    obtain ⟨o, p1, p2⟩ := key (l.length - 1) fuel 1 rfl (by omega) (by omega) (by omega) (Nat.le_refl _) (fun j hj => by omega)
    rw [show (1 : Int) = ((1 : Nat) : Int) from rfl, p1]
    rcases p2 with ⟨rfl, h3⟩ | ⟨r, rfl, h3, j, h4, h5⟩
    · refine ⟨l, rfl, ?_⟩
      rw [show (List.range (l.length - 1)).any (adj l) = false from List.any_eq_false.2 fun j hj => by rw [h3 j (by have := List.mem_range.1 hj; omega)]; simp]
      simp
    · refine ⟨r, rfl, ?_⟩
      rw [show (List.range (l.length - 1)).any (adj l) = true from List.any_eq_true.2 ⟨j, List.mem_range.2 (by omega), h5⟩]
      simp; omega
theorem sorted_adj : ∀ {l : List Int}, l.Pairwise (· ≤ ·) → ((List.range (l.length - 1)).any (adj l) = false ↔ l.Nodup)
  | [], _ => by simp
  | [x], _ => by simp
  | x :: y :: l, h => by
    have ih := sorted_adj (l := y :: l) (List.pairwise_cons.1 h).2
    have e : (List.range ((x :: y :: l).length - 1)).any (adj (x :: y :: l)) = ((y == x) || (List.range ((y :: l).length - 1)).any (adj (y :: l))) := by
      rw [show (x :: y :: l).length - 1 = ((y :: l).length - 1) + 1 by simp, List.range_succ_eq_map, List.any_cons, List.any_map]
      congr 1
    rw [e, Bool.or_eq_false_iff, ih, List.nodup_cons (a := x)]
    constructor
    · rintro ⟨h1, h2⟩
      refine ⟨fun hm => ?_, h2⟩
      have h1 : y ≠ x := by simpa using h1
      rcases List.mem_cons.1 hm with rfl | hm
      · exact h1 rfl
      · have q1 := (List.pairwise_cons.1 h).1 y (by simp)
        have q2 := (List.pairwise_cons.1 (List.pairwise_cons.1 h).2).1 x hm
        omega
    · rintro ⟨h1, h2⟩
      refine ⟨?_, h2⟩
      have : y ≠ x := fun e => h1 (by simp [e])
      simpa using this
theorem sort_ok {l : List Int} (hl : l.length ≤ 1048576) : pG_slices_Sort_int l = some (l.mergeSort fun x y => decide (x ≤ y)) := by
  unfold pG_slices_Sort_int
  exact gd_t (by omega) _
theorem sort_pw (l : List Int) : (l.mergeSort fun x y => decide (x ≤ y)).Pairwise (· ≤ ·) := by
  have := List.pairwise_mergeSort (le := fun (x y : Int) => decide (x ≤ y)) (fun a b c h1 h2 => by simp at h1 h2 ⊢; omega) (fun a b => by simp; omega) l
  exact this.imp fun h => by simpa using h
end Go.Px
namespace Go.Px
def treeP (t : List INode) : Prop := t.length ≤ 31 ∧ (∃ T : Tre, t = T.flat ∧ T.ok) ∧ (lvs t).Nodup
open Classical in
noncomputable def treeB (t : List INode) : Bool := decide (treeP t)
theorem treeB_iff {t : List INode} : treeB t = true ↔ treeP t := by unfold treeB; simp
theorem eq_treeB {t : List INode} {b : Bool} (h : b = true ↔ treeP t) : b = treeB t := by rw [Bool.eq_iff_iff, treeB_iff]; exact h
theorem endV_iff {n : Nat} {t : List INode} (hn : t.length ≤ n) : endV n t t = (t.length : Int) ↔ ∃ T : Tre, t = T.flat ∧ T.ok := by
  unfold endV
  constructor
  · intro h
    cases hp : prs n t with
    | none => rw [hp] at h; simp only at h; omega
    | some p =>
      obtain ⟨T, r⟩ := p
      rw [hp] at h
      simp only at h
      obtain ⟨e, ho⟩ := prs_sound hp
      have : r = [] := List.eq_nil_of_length_eq_zero (by omega)
      subst this
      exact ⟨T, by simpa using e, ho⟩
  · rintro ⟨T, e, ho⟩
    have := prs_complete (r := []) (n := n) ho (by rw [← e]; exact hn)
    rw [List.append_nil, ← e] at this
    rw [this]
    simp
theorem pI_TreeOk_eq {fuel : Nat} {t : List INode} (hf : 2 * t.length + 100 < fuel) : pI_TreeOk fuel t = some (treeB t) := by
  unfold pI_TreeOk
  by_cases h31 : t.length ≤ 31
  · have e1 : decide ((31 : Int) < (t.length : Int)) = false := by simp; omega
    have he := endOf_at fuel t (by omega) fuel 0 (by omega) (by omega)
    rw [List.drop_zero] at he
    rw [show ((0 : Nat) : Int) = 0 from rfl] at he
    rw [e1, br_f, he, bd_s, bd_s]
    simp only
    by_cases hE : endV fuel t t = (t.length : Int)
    · rw [show (endV fuel t t != (t.length : Int)) = false by simp [hE], br_f, pI_leaves_eq (by omega) (by omega), bd_s]
      have hl := lvs_len t
      have hml : ((lvs t).mergeSort fun x y => decide (x ≤ y)).length = (lvs t).length := List.length_mergeSort ..
      rw [sort_ok (by omega), bd_s, clone_int (roomB_of (by omega) (by decide)), bd_s]
      obtain ⟨r, h1, h2⟩ := compact_len (fuel := fuel) (l := (lvs t).mergeSort fun x y => decide (x ≤ y)) (by omega) (by omega)
      rw [h1, bd_s]
      rw [hml] at h2
      rw [h2]
      congr 1
      refine eq_treeB ?_
      have hs := sorted_adj (sort_pw (lvs t))
      rw [hml] at hs
      rw [Bool.not_eq_true', hs, (List.mergeSort_perm (lvs t) _).nodup_iff]
      exact ⟨fun h => ⟨h31, (endV_iff (by omega)).1 hE, h⟩, fun h => h.2.2⟩
    · rw [show (endV fuel t t != (t.length : Int)) = true by simp [hE], br_t]
      congr 1
      exact eq_treeB ⟨fun h => (by cases h), fun h => absurd ((endV_iff (by omega)).2 h.2.1) hE⟩
  · have e1 : decide ((31 : Int) < (t.length : Int)) = true := by simp; omega
    rw [e1, br_t, bd_s]
    simp only [br_t]
    congr 1
    exact eq_treeB ⟨fun h => (by cases h), fun h => absurd h.1 h31⟩
def nodeOk (x : INode) : Bool := leafOk x || splitOk x
theorem leafOk_ne {x : INode} (h : leafOk x = true) : x.Pane ≠ 0 := by
  unfold leafOk at h
  simp only [Bool.and_eq_true, decide_eq_true_eq] at h
  omega
theorem splitOk_eq {x : INode} (h : splitOk x = true) : x.Pane = 0 := by
  unfold splitOk at h
  simp only [Bool.and_eq_true, beq_iff_eq] at h
  exact h.1
theorem ok_sh : ∀ {T : Tre}, T.ok → T.sh ∧ ∀ x ∈ T.flat, nodeOk x = true
  | .leaf x, h => ⟨h.1, fun y hy => by rw [List.mem_singleton.1 hy]; unfold nodeOk; rw [h.2]; rfl⟩
  | .node x a b, h => by
    obtain ⟨a1, a2⟩ := ok_sh h.2.1
    obtain ⟨b1, b2⟩ := ok_sh h.2.2
    refine ⟨⟨splitOk_eq h.1, a1, b1⟩, fun y hy => ?_⟩
    rcases List.mem_cons.1 hy with rfl | hy
    · unfold nodeOk; rw [h.1]; simp
    · rcases List.mem_append.1 hy with hy | hy
      · exact a2 y hy
      · exact b2 y hy
theorem sh_ok : ∀ {T : Tre}, T.sh → (∀ x ∈ T.flat, nodeOk x = true) → T.ok
  | .leaf x, h, hn => by
    have := hn x (by simp [Tre.flat])
    unfold nodeOk at this
    rw [Bool.or_eq_true] at this
    rcases this with h1 | h1
    · exact ⟨h, h1⟩
    · exact absurd (splitOk_eq h1) h
  | .node x a b, h, hn => by
    have := hn x (by simp [Tre.flat])
    unfold nodeOk at this
    rw [Bool.or_eq_true] at this
    rcases this with h1 | h1
    · exact absurd h.1 (leafOk_ne h1)
    · exact ⟨h1, sh_ok h.2.1 fun y hy => hn y (by simp [Tre.flat, hy]), sh_ok h.2.2 fun y hy => hn y (by simp [Tre.flat, hy])⟩
theorem cntV_iff {t : List INode} : cntV 1 t t = (t.length : Int) ↔ ∃ T : Tre, t = T.flat ∧ T.sh := by
  unfold cntV
  constructor
  · intro h
    cases hp : cnt 1 t with
    | none => rw [hp] at h; simp only at h; omega
    | some r =>
      rw [hp] at h
      simp only at h
      obtain ⟨Ts, h1, h2, h3⟩ := cnt_conv (Nat.le_refl 1) hp
      have : r = [] := List.eq_nil_of_length_eq_zero (by omega)
      subst this
      match Ts, h1 with
      | [T], _ => exact ⟨T, by simpa using h3, h2 T (by simp)⟩
  · rintro ⟨T, e, hs⟩
    have := cnt_flat (r := []) hs (Nat.le_refl 1)
    rw [List.append_nil, ← e, if_pos rfl] at this
    rw [this]
    simp
def badB (t : List INode) (i : Nat) : Bool := match t[i]? with
  | some x => !nodeOk x || (leafOk x && (lvs (t.take i)).any fun y => y == x.Pane)
  | none => false
theorem bad_iff {t : List INode} (hn : ∀ x ∈ t, nodeOk x = true) : ∀ n, n ≤ t.length → ((List.range n).any (badB t) = false ↔ (lvs (t.take n)).Nodup)
  | 0, _ => by simp [lvs]
  | n + 1, h => by
    have hlt : n < t.length := by omega
    have hx : t[n]? = some t[n] := List.getElem?_eq_getElem hlt
    have ih := bad_iff hn n (by omega)
    have hxm : t[n] ∈ t := List.getElem_mem hlt
    rw [List.range_succ, List.any_append, Bool.or_eq_false_iff, ih, take_succ_get hx, lvs_app, lvs_one, List.any_cons, List.any_nil, Bool.or_false]
    unfold badB
    rw [hx]
    have hno := hn _ hxm
    generalize t[n] = x at hno
    simp only [hno, Bool.not_true, Bool.false_or]
    by_cases h0 : x.Pane = 0
    · rw [if_pos h0, List.append_nil]
      have : leafOk x = false := by
        cases hl : leafOk x with
        | false => rfl
        | true => exact absurd h0 (leafOk_ne hl)
      rw [this]
      simp
    · have hl : leafOk x = true := by
        unfold nodeOk at hno
        rw [Bool.or_eq_true] at hno
        exact hno.resolve_right fun h => h0 (splitOk_eq h)
      rw [if_neg h0, hl, Bool.true_and, List.any_eq_false, List.nodup_append]
      constructor
      · rintro ⟨h1, h2⟩
        exact ⟨h1, by simp, fun y hy z hz e => h2 y hy (by rw [List.mem_singleton.1 hz] at e; simp [e])⟩
      · rintro ⟨h1, _, h2⟩
        exact ⟨h1, fun y hy e => h2 y hy x.Pane (by simp) (by simpa using e)⟩
theorem badB_false_node {t : List INode} (h : (List.range t.length).any (badB t) = false) : ∀ x ∈ t, nodeOk x = true := fun x hx => by
  obtain ⟨i, hi⟩ := List.getElem?_of_mem hx
  have hlt := (List.getElem?_eq_some_iff.1 hi).1
  have := List.any_eq_false.1 h i (List.mem_range.2 hlt)
  unfold badB at this
  rw [hi] at this
  simp only [Bool.not_eq_true, Bool.or_eq_false_iff, Bool.not_eq_false'] at this
  exact this.1
theorem br4 {α : Type} (f : Bool → α) (a b d e : Bool) : br a (br b (br d (some (f e)) (some (f false))) (some (f false))) (some (f false)) = some (f ((a && b) && (d && e))) := by cases a <;> cases b <;> cases d <;> rfl
theorem br3 {α : Type} (f : Bool → α) (a b e : Bool) : br a (br b (some (f e)) (some (f false))) (some (f false)) = some (f (a && (b && e))) := by cases a <;> cases b <;> rfl
theorem pS_TreeOk_step {fuel : Nat} {t : List INode} (ht : t.length ≤ 1048576) (hf : t.length < fuel) {i : Nat} (hi : i < t.length) : pS_TreeOk_b1 fuel (lvs (t.take i), t, (t.length : Int), (i : Int)) = if badB t i then some (.inr (.inr false)) else some (.inl (lvs (t.take (i + 1)), t, (t.length : Int), ((i + 1 : Nat) : Int))) := by
  have hx : t[i]? = some t[i] := List.getElem?_eq_getElem hi
  obtain ⟨h1, h2, h3, h4, h5⟩ := idx_facts hx (by omega)
  have hll : (lvs (t.take i)).length ≤ i := by have := lvs_len (t.take i); rw [List.length_take] at this; omega
  rw [take_succ_get hx, lvs_app, lvs_one]
  have hb : badB t i = (!nodeOk t[i] || (leafOk t[i] && (lvs (t.take i)).any fun y => y == t[i].Pane)) := by unfold badB; rw [hx]
  rw [hb]
  generalize t[i] = x at hx h3
  have hhas : pS_l02HasInt fuel (lvs (t.take i)) x.Pane = some ((lvs (t.take i)).any fun y => y == x.Pane) := hasInt_eq (by omega) (by omega)
  have hr : roomB K.int (lvs (t.take i) ++ [x.Pane]).length := roomB_of (by simp; omega) (by decide)
  unfold pS_TreeOk_b1
  simp only [h1, br_t, gd_t h2, h3, bd_s]
  have q1 : leafOk x = (decide (1 ≤ x.Pane) && decide (x.Pane ≤ 1000000) && (!x.Down && x.First == 0)) := rfl
  have q2 : splitOk x = (x.Pane == 0 && (decide (1 ≤ x.First) && decide (x.First ≤ 120))) := rfl
  have k1 := br4 (fun z => (x, lvs (t.take i), z, t, (t.length : Int), (i : Int))) (decide (1 ≤ x.Pane)) (decide (x.Pane ≤ 1000000)) (!x.Down) (x.First == 0)
  have k2 := br3 (fun z => (x, lvs (t.take i), leafOk x, z, t, (t.length : Int), (i : Int))) (x.Pane == 0) (decide (1 ≤ x.First)) (decide (x.First ≤ 120))
  rw [k1, ← q1, bd_s]
  dsimp only
  rw [k2, ← q2, bd_s]
  dsimp only
  unfold nodeOk
  cases hl : leafOk x with
  | true =>
    have h0 := leafOk_ne hl
    have hs : splitOk x = false := by
      cases hs : splitOk x with
      | false => rfl
      | true => exact absurd (splitOk_eq hs) h0
    simp only [br_t, br_f, bd_s, Bool.not_true, hhas, hs, Bool.or_false, Bool.false_or, Bool.true_and]
    cases (lvs (t.take i)).any fun y => y == x.Pane with
    | true => simp
    | false =>
      simp only [br_f, br_t, gd_t hr, jn_l]
      rw [h5, gd_t h4, if_neg h0]
      simp
  | false =>
    cases hs : splitOk x with
    | true =>
      have h0 := splitOk_eq hs
      simp only [br_t, br_f, bd_s, Bool.not_false, Bool.not_true, jn_l, Bool.false_or, Bool.false_and]
      rw [h5, gd_t h4, if_pos h0]
      simp
    | false => simp
theorem pS_TreeOk_eq {fuel : Nat} {t : List INode} (hf : 2 * t.length + 100 < fuel) : pS_TreeOk fuel t = some (treeB t) := by
  unfold pS_TreeOk
  by_cases h31 : t.length ≤ 31
  · have e1 : decide ((31 : Int) < (t.length : Int)) = false := by simp; omega
    have he := l13End_eq (fuel := fuel) (t := t) (i := 0) (by omega) (by omega) (by omega)
    rw [List.drop_zero] at he
    rw [show ((0 : Nat) : Int) = 0 from rfl] at he
    rw [e1, br_f, he, bd_s, bd_s]
    simp only
    by_cases hE : cntV 1 t t = (t.length : Int)
    · rw [show (cntV 1 t t != (t.length : Int)) = false by simp [hE], br_f]
      have hsc : loopF (pS_TreeOk_b1 fuel) fuel ([], t, (t.length : Int), 0) = some (if (List.range t.length).any (badB t) then .inr false else .inl ()) :=
        loopF_scan (fun i => (lvs (t.take i), t, (t.length : Int), (i : Int))) t.length (badB t) _ _ rfl (fun i hi => pS_TreeOk_step (by omega) (by omega) hi) (by unfold pS_TreeOk_b1; simp) (by omega)
      rw [hsc]
      have hb : (!(List.range t.length).any (badB t)) = treeB t := by
        refine eq_treeB ?_
        rw [Bool.not_eq_true']
        constructor
        · intro h
          have hn := badB_false_node h
          obtain ⟨T, e, hs⟩ := cntV_iff.1 hE
          refine ⟨h31, ⟨T, e, sh_ok hs fun x hx => hn x (by rw [e]; exact hx)⟩, ?_⟩
          have := (bad_iff hn t.length (Nat.le_refl _)).1 h
          rwa [List.take_length] at this
        · rintro ⟨_, ⟨T, e, ho⟩, hd⟩
          refine (bad_iff (fun x hx => (ok_sh ho).2 x (by rw [← e]; exact hx)) t.length (Nat.le_refl _)).2 ?_
          rwa [List.take_length]
      rw [← hb]
      cases (List.range t.length).any (badB t) <;> rfl
    · rw [show (cntV 1 t t != (t.length : Int)) = true by simp [hE], br_t]
      congr 1
      refine eq_treeB ⟨fun h => (by cases h), fun h => ?_⟩
      obtain ⟨T, e, ho⟩ := h.2.1
      exact absurd (cntV_iff.2 ⟨T, e, (ok_sh ho).1⟩) hE
  · have e1 : decide ((31 : Int) < (t.length : Int)) = true := by simp; omega
    rw [e1, br_t, bd_s]
    simp only [br_t]
    congr 1
    exact eq_treeB ⟨fun h => (by cases h), fun h => absurd h.1 h31⟩
end Go.Px
namespace Go.Px
abbrev Qd := Int × Int × Int × Int
def mn (f n : Int) : Int := if n - 2 < f then n - 2 else f
def f1 (x : INode) (q : Qd) : Qd := if x.Down = true then (q.1, q.2.1, q.2.2.1, mn x.First q.2.2.2) else (q.1, q.2.1, mn x.First q.2.2.1, q.2.2.2)
def f2 (x : INode) (q : Qd) : Qd := if x.Down = true then (q.1, q.2.1 + mn x.First q.2.2.2 + 1, q.2.2.1, q.2.2.2 - mn x.First q.2.2.2 - 1) else (q.1 + mn x.First q.2.2.1 + 1, q.2.1, q.2.2.1 - mn x.First q.2.2.1 - 1, q.2.2.2)
def room (x : INode) (q : Qd) : Bool := decide (3 ≤ if x.Down = true then q.2.2.2 else q.2.2.1)
def mkR (p : Int) (q : Qd) : IRect := IRect.mk p q.1 q.2.1 q.2.2.1 q.2.2.2
def rq (r : IRect) : Qd := (r.X, r.Y, r.W, r.H)
def Tre.fits : Tre → Qd → Bool
  | .leaf _, _ => true
  | .node x a b, q => room x q && (a.fits (f1 x q) && b.fits (f2 x q))
def Tre.all : Tre → Qd → List IRect
  | .leaf x, q => [mkR x.Pane q]
  | .node x a b, q => mkR x.Pane q :: (a.all (f1 x q) ++ b.all (f2 x q))
def Tre.lf : Tre → Qd → List IRect
  | .leaf x, q => [mkR x.Pane q]
  | .node x a b, q => a.lf (f1 x q) ++ b.lf (f2 x q)
def qOk (q : Qd) : Prop := 0 ≤ q.1 ∧ 0 ≤ q.2.1 ∧ 1 ≤ q.2.2.1 ∧ 1 ≤ q.2.2.2 ∧ q.1 + q.2.2.1 ≤ 1000 ∧ q.2.1 + q.2.2.2 ≤ 1000
theorem qOk_part {x : INode} {q : Qd} (h : qOk q) (hr : room x q = true) (hf : 1 ≤ x.First) : qOk (f1 x q) ∧ qOk (f2 x q) := by
  obtain ⟨X, Y, W, H⟩ := q
  unfold qOk at h
  unfold room at hr
  simp only [decide_eq_true_eq] at hr h
  unfold qOk f1 f2 mn
  cases hd : x.Down with
  | true =>
    rw [hd] at hr
    simp only [if_true] at hr ⊢
    split <;> omega
  | false =>
    rw [hd] at hr
    simp only [if_false, Bool.false_eq_true] at hr ⊢
    split <;> omega
theorem mn_bounds {f n : Int} (h1 : 1 ≤ f) (h2 : f ≤ 120) (h3 : 1 ≤ n) (h4 : n ≤ 1000) : -1 ≤ mn f n ∧ mn f n ≤ 120 := by
  unfold mn; split <;> omega
theorem splitOk_first {x : INode} (h : splitOk x = true) : 1 ≤ x.First ∧ x.First ≤ 120 := by
  unfold splitOk at h
  simp only [Bool.and_eq_true, decide_eq_true_eq] at h
  exact h.2
theorem partsOf_eq (fuel : Nat) {x : INode} {r : IRect} (hq : qOk (rq r)) (h1 : 1 ≤ x.First) (h2 : x.First ≤ 120) : pI_partsOf fuel x r = some (mkR r.Pane (f1 x (rq r)), mkR r.Pane (f2 x (rq r)), room x (rq r)) := by
  obtain ⟨P, X, Y, W, H⟩ := r
  unfold qOk rq at hq
  simp only at hq
  have bH := mn_bounds h1 h2 hq.2.2.2.1 (show H ≤ 1000 by omega)
  have bW := mn_bounds h1 h2 hq.2.2.1 (show W ≤ 1000 by omega)
  unfold pI_partsOf mkR f1 f2 room rq mn
  unfold mn at bH bW
  cases hd : x.Down with
  | true =>
    simp only [br_t, bd_s, hd, if_true]
    rw [gd_p (inK64 (by omega) (by omega)), gd_p (inK64 (by omega) (by omega)), gd_p (inK64 (by omega) (by omega)), gd_p (inK64 (by omega) (by omega)), gd_p (inK64 (by omega) (by omega)), bd_s]
  | false =>
    simp only [br_f, bd_s, hd, if_false, Bool.false_eq_true]
    rw [gd_p (inK64 (by omega) (by omega)), gd_p (inK64 (by omega) (by omega)), gd_p (inK64 (by omega) (by omega)), gd_p (inK64 (by omega) (by omega)), gd_p (inK64 (by omega) (by omega)), bd_s]
theorem drop_node {t rest : List INode} {x : INode} {a b : Tre} {i : Nat} (h : t.drop i = (Tre.node x a b).flat ++ rest) : t[i]? = some x ∧ t.drop (i + 1) = a.flat ++ (b.flat ++ rest) ∧ t.drop (i + 1 + a.flat.length) = b.flat ++ rest ∧ i + 1 + a.flat.length + b.flat.length ≤ t.length := by
  have h : t.drop i = x :: (a.flat ++ (b.flat ++ rest)) := by rw [h]; simp [Tre.flat]
  have e1 : t[i]? = some x := by
    have : (t.drop i)[0]? = some x := by rw [h]; rfl
    rwa [List.getElem?_drop, Nat.add_zero] at this
  have e2 : t.drop (i + 1) = a.flat ++ (b.flat ++ rest) := by
    have := drop_get e1
    rw [h] at this
    exact (List.cons.inj this).2.symm
  have e3 : t.drop (i + 1 + a.flat.length) = b.flat ++ rest := by
    rw [← List.drop_drop, e2, List.drop_left]
  refine ⟨e1, e2, e3, ?_⟩
  have hi := (List.getElem?_eq_some_iff.1 e1).1
  have := congrArg List.length e2
  simp only [List.length_drop, List.length_append] at this
  omega
theorem drop_leaf {t rest : List INode} {x : INode} {i : Nat} (h : t.drop i = (Tre.leaf x).flat ++ rest) : t[i]? = some x := by
  have : (t.drop i)[0]? = some x := by rw [h]; rfl
  rwa [List.getElem?_drop, Nat.add_zero] at this
theorem end_at {fuel : Nat} {t rest : List INode} {a : Tre} {i : Nat} (ht : t.length ≤ 1048576) (hf : 2 * t.length + 100 < fuel) (ha : a.ok) (h : t.drop i = a.flat ++ rest) (hi : i ≤ t.length) :
    recF (pI_endOf fuel) fuel (t, (i : Int)) = some ((i + a.flat.length : Nat) : Int) ∧ pS_l13End fuel t (i : Int) = some ((i + a.flat.length : Nat) : Int) := by
  have hl := congrArg List.length h
  simp only [List.length_drop, List.length_append] at hl
  constructor
  · rw [endOf_at fuel t ht fuel i hi (by omega)]
    unfold endV
    rw [h, prs_complete ha (by omega)]
    simp only
    congr 1
    omega
  · rw [l13End_eq ht hi (by omega)]
    unfold cntV
    rw [h, cnt_flat (ok_sh ha).1 (Nat.le_refl 1), if_pos rfl]
    simp only
    congr 1
    omega
theorem put_at (fuel : Nat) (t : List INode) (ht : t.length ≤ 1048576) (hf : 2 * t.length + 100 < fuel) : ∀ (T : Tre) (n i : Nat) (rest : List INode) (r : IRect) (out : List IRect), T.ok → t.drop i = T.flat ++ rest → T.flat.length ≤ n → qOk (rq r) → out.length + T.flat.length ≤ 1048600 →
    ∃ o, recF (pI_areasOf_1 fuel) n ((i : Int), r, t, out, true, ()) = some (t, o, T.fits (rq r), ()) ∧ (T.fits (rq r) = true → o = out ++ T.all (rq r)) ∧ o.length ≤ out.length + T.flat.length
  | .leaf x, 0, i, rest, r, out, ho, hd, hn, hq, hb => by simp [Tre.flat] at hn
  | .leaf x, n + 1, i, rest, r, out, ho, hd, hn, hq, hb => by
    have hx := drop_leaf hd
    obtain ⟨h1, h2, h3, h4, h5⟩ := idx_facts hx (by omega)
    have hl : (Tre.leaf x).flat.length = 1 := rfl
    rw [hl] at hb
    have hr : roomB K.iRect (out ++ [IRect.mk x.Pane r.X r.Y r.W r.H]).length := roomB_of (by simp; omega) (by decide)
    have e1 : (x.Pane != 0) = true := by simpa using ho.1
    refine ⟨out ++ [IRect.mk x.Pane r.X r.Y r.W r.H], ?_, fun _ => rfl, by simp [Tre.flat]⟩
    show pI_areasOf_1 fuel (recF (pI_areasOf_1 fuel) n) _ = _
    generalize recF (pI_areasOf_1 fuel) n = slf
    unfold pI_areasOf_1 pI_Node_isLeaf
    simp only [gd_t h2, h3, bd_s, gd_t hr, e1, br_t]
    rfl
  | .node x a b, 0, i, rest, r, out, ho, hd, hn, hq, hb => by simp [Tre.flat] at hn
  | .node x a b, n + 1, i, rest, r, out, ho, hd, hn, hq, hb => by
    obtain ⟨hx, hd1, hd2, hle⟩ := drop_node hd
    obtain ⟨h1, h2, h3, h4, h5⟩ := idx_facts hx (by omega)
    have hl : (Tre.node x a b).flat.length = a.flat.length + b.flat.length + 1 := by simp [Tre.flat]
    rw [hl] at hb hn
    have hr : roomB K.iRect (out ++ [IRect.mk x.Pane r.X r.Y r.W r.H]).length := roomB_of (by simp; omega) (by decide)
    have h0 := splitOk_eq ho.1
    obtain ⟨hf1, hf2⟩ := splitOk_first ho.1
    have e1 : (x.Pane != 0) = false := by simp [h0]
    have hpo := partsOf_eq fuel (x := x) (r := IRect.mk x.Pane r.X r.Y r.W r.H) hq hf1 hf2
    have iha := put_at fuel t ht hf a n (i + 1) (b.flat ++ rest) (mkR x.Pane (f1 x (rq r))) (out ++ [IRect.mk x.Pane r.X r.Y r.W r.H]) ho.2.1 hd1 (by omega)
    have ihb := fun o => put_at fuel t ht hf b n (i + 1 + a.flat.length) rest (mkR x.Pane (f2 x (rq r))) o ho.2.2 hd2 (by omega)
    have hend := (end_at (fuel := fuel) (i := i + 1) ht hf ho.2.1 hd1 (by omega)).1
    rw [hl]
    unfold Tre.fits
    show ∃ o, pI_areasOf_1 fuel (recF (pI_areasOf_1 fuel) n) _ = _ ∧ _
    generalize recF (pI_areasOf_1 fuel) n = slf at iha ihb ⊢
    unfold pI_areasOf_1 pI_Node_isLeaf
    simp only [gd_t h2, h3, bd_s, gd_t hr, e1, br_f, Bool.not_true]
    rw [hpo, bd_s]
    simp only
    have erq : rq (IRect.mk x.Pane r.X r.Y r.W r.H) = rq r := rfl
    rw [erq]
    cases hro : room x (rq r) with
    | false =>
      simp only [Bool.not_false, br_t, Bool.false_and]
      exact ⟨_, rfl, fun h => (by cases h), by simp⟩
    | true =>
      obtain ⟨q1, q2⟩ := qOk_part hq hro hf1
      simp only [Bool.not_true, br_f, Bool.true_and]
      rw [h5, gd_t h4]
      obtain ⟨oa, a1, a2, a3⟩ := iha q1 (by simp; omega)
      have erf : rq (mkR x.Pane (f1 x (rq r))) = f1 x (rq r) := rfl
      have erg : rq (mkR x.Pane (f2 x (rq r))) = f2 x (rq r) := rfl
      rw [erf] at a1 a2
      rw [a1, bd_s]
      simp only
      simp only [List.length_append, List.length_singleton] at a3
      cases hfa : a.fits (f1 x (rq r)) with
      | false =>
        simp only [br_f, Bool.false_and]
        exact ⟨oa, rfl, fun h => (by cases h), by omega⟩
      | true =>
        simp only [br_t, Bool.true_and]
        rw [gd_t h4, hend, bd_s]
        obtain ⟨ob, b1, b2, b3⟩ := ihb oa q2 (by omega)
        rw [erg] at b1 b2
        rw [b1, bd_s]
        refine ⟨ob, rfl, fun h => ?_, by omega⟩
        rw [b2 h, a2 hfa]
        simp [Tre.all, mkR, rq]
theorem place_at (fuel : Nat) (t : List INode) (ht : t.length ≤ 1048576) (hf : 2 * t.length + 100 < fuel) : ∀ (T : Tre) (n i : Nat) (rest : List INode) (r : IRect), T.ok → t.drop i = T.flat ++ rest → T.flat.length ≤ n → qOk (rq r) →
    ∃ l, recF (pS_l13Place fuel) n (t, (i : Int), r) = some (l, T.fits (rq r)) ∧ (T.fits (rq r) = true → l = T.lf (rq r)) ∧ l.length ≤ T.flat.length
  | .leaf x, 0, i, rest, r, ho, hd, hn, hq => by simp [Tre.flat] at hn
  | .leaf x, n + 1, i, rest, r, ho, hd, hn, hq => by
    have hx := drop_leaf hd
    obtain ⟨h1, h2, h3, h4, h5⟩ := idx_facts hx (by omega)
    have e1 : decide (0 < x.Pane) = true := by
      have := ho.2
      unfold leafOk at this
      simp only [Bool.and_eq_true, decide_eq_true_eq] at this
      simp; omega
    refine ⟨[IRect.mk x.Pane r.X r.Y r.W r.H], ?_, fun _ => rfl, by simp [Tre.flat]⟩
    show pS_l13Place fuel (recF (pS_l13Place fuel) n) _ = _
    generalize recF (pS_l13Place fuel) n = slf
    unfold pS_l13Place
    simp only [gd_t h2, h3, bd_s, e1, br_t]
    rfl
  | .node x a b, 0, i, rest, r, ho, hd, hn, hq => by simp [Tre.flat] at hn
  | .node x a b, n + 1, i, rest, r, ho, hd, hn, hq => by
    obtain ⟨hx, hd1, hd2, hle⟩ := drop_node hd
    obtain ⟨h1, h2, h3, h4, h5⟩ := idx_facts hx (by omega)
    have hl : (Tre.node x a b).flat.length = a.flat.length + b.flat.length + 1 := by simp [Tre.flat]
    rw [hl] at hn
    have h0 := splitOk_eq ho.1
    obtain ⟨hf1, hf2⟩ := splitOk_first ho.1
    have e1 : decide (0 < x.Pane) = false := by simp [h0]
    have iha := place_at fuel t ht hf a n (i + 1) (b.flat ++ rest) (mkR r.Pane (f1 x (rq r))) ho.2.1 hd1 (by omega)
    have ihb := place_at fuel t ht hf b n (i + 1 + a.flat.length) rest (mkR r.Pane (f2 x (rq r))) ho.2.2 hd2 (by omega)
    have hend := (end_at (fuel := fuel) (i := i + 1) ht hf ho.2.1 hd1 (by omega)).2
    rw [hl]
    have erf : rq (mkR r.Pane (f1 x (rq r))) = f1 x (rq r) := rfl
    have erg : rq (mkR r.Pane (f2 x (rq r))) = f2 x (rq r) := rfl
    rw [erf] at iha
    rw [erg] at ihb
    unfold Tre.fits
    show ∃ l, pS_l13Place fuel (recF (pS_l13Place fuel) n) _ = _ ∧ _
    generalize recF (pS_l13Place fuel) n = slf at iha ihb ⊢
    generalize hle : pS_l13End fuel = le at hend
    unfold pS_l13Place pS_l13First
    rw [hle]
    simp only [gd_t h2, h3, bd_s, e1, br_f]
    have parts : ∀ K : IRect × IRect × List INode × Int → Option (List IRect × Bool), jn (V := IRect × IRect × List INode × Int) (
        br x.Down (br (decide (r.H < 3)) (some (.inr ([], false))) (bd (gd (inK IntKind.i64 (r.H - 2)) (br (decide (r.H - 2 < x.First)) (gd (inK IntKind.i64 (r.H - 2)) (some (r.H - 2))) (some x.First))) fun x5 =>
          gd (inK IntKind.i64 (r.Y + x5)) (gd (inK IntKind.i64 (r.Y + x5 + 1)) (gd (inK IntKind.i64 (r.H - x5)) (gd (inK IntKind.i64 (r.H - x5 - 1)) (some (.inl (IRect.mk r.Pane r.X r.Y r.W x5, IRect.mk r.Pane r.X (r.Y + x5 + 1) r.W (r.H - x5 - 1), t, (i : Int)))))))))
        (br (decide (r.W < 3)) (some (.inr ([], false))) (bd (gd (inK IntKind.i64 (r.W - 2)) (br (decide (r.W - 2 < x.First)) (gd (inK IntKind.i64 (r.W - 2)) (some (r.W - 2))) (some x.First))) fun x6 =>
          gd (inK IntKind.i64 (r.X + x6)) (gd (inK IntKind.i64 (r.X + x6 + 1)) (gd (inK IntKind.i64 (r.W - x6)) (gd (inK IntKind.i64 (r.W - x6 - 1)) (some (.inl (IRect.mk r.Pane r.X r.Y x6 r.H, IRect.mk r.Pane (r.X + x6 + 1) r.Y (r.W - x6 - 1) r.H, t, (i : Int)))))))))) K
        = if room x (rq r) = true then K (mkR r.Pane (f1 x (rq r)), mkR r.Pane (f2 x (rq r)), t, (i : Int)) else some ([], false) := by
      intro K
      obtain ⟨P, X, Y, W, H⟩ := r
      unfold qOk rq at hq
      simp only at hq
      have fst : ∀ n : Int, 1 ≤ n → n ≤ 1000 → gd (inK IntKind.i64 (n - 2)) (br (decide (n - 2 < x.First)) (gd (inK IntKind.i64 (n - 2)) (some (n - 2))) (some x.First)) = some (mn x.First n) := by
        intro n hn1 hn2
        rw [gd_t (inK64 (by omega) (by omega)), gd_t (inK64 (by omega) (by omega))]
        unfold mn
        by_cases hc : n - 2 < x.First
        · simp [hc]
        · simp [hc]
      have bH := mn_bounds hf1 hf2 hq.2.2.2.1 (show H ≤ 1000 by omega)
      have bW := mn_bounds hf1 hf2 hq.2.2.1 (show W ≤ 1000 by omega)
      simp only [fst H (by omega) (by omega), fst W (by omega) (by omega), bd_s]
      unfold mkR f1 f2 room rq
      simp only
      cases hdn : x.Down with
      | true =>
        simp only [br_t, if_true]
        by_cases h3 : H < 3
        · rw [show decide (H < 3) = true by simpa using h3, br_t, if_neg (by simp; omega)]; rfl
        · rw [show decide (H < 3) = false by simpa using h3, br_f, gd_t (inK64 (by omega) (by omega)), gd_t (inK64 (by omega) (by omega)), gd_t (inK64 (by omega) (by omega)), gd_t (inK64 (by omega) (by omega)), jn_l, if_pos (by simp; omega)]
      | false =>
        simp only [br_f, if_false, Bool.false_eq_true]
        by_cases h3 : W < 3
        · rw [show decide (W < 3) = true by simpa using h3, br_t, if_neg (by simp; omega)]; rfl
        · rw [show decide (W < 3) = false by simpa using h3, br_f, gd_t (inK64 (by omega) (by omega)), gd_t (inK64 (by omega) (by omega)), gd_t (inK64 (by omega) (by omega)), gd_t (inK64 (by omega) (by omega)), jn_l, if_pos (by simp; omega)]
    rw [parts]
    cases hro : room x (rq r) with
    | false =>
      simp only [Bool.false_eq_true, if_false, Bool.false_and]
      exact ⟨[], rfl, fun h => (by cases h), by simp⟩
    | true =>
      obtain ⟨q1, q2⟩ := qOk_part hq hro hf1
      simp only [if_true, Bool.true_and]
      rw [h5, gd_t h4]
      obtain ⟨la, a1, a2, a3⟩ := iha q1
      obtain ⟨lb, b1, b2, b3⟩ := ihb q2
      rw [a1, bd_s]
      simp only
      rw [gd_t h4, hend, bd_s, b1, bd_s]
      simp only
      rw [gd_t (roomB_of (by simp; omega) (by decide))]
      have hlen : (la ++ lb).length ≤ a.flat.length + b.flat.length + 1 := by simp; omega
      cases hfa : a.fits (f1 x (rq r)) with
      | false =>
        simp only [br_f, bd_s, Bool.false_and]
        exact ⟨_, rfl, fun h => (by cases h), hlen⟩
      | true =>
        simp only [br_t, bd_s, Bool.true_and]
        exact ⟨_, rfl, fun h => by rw [a2 hfa, b2 h]; rfl, hlen⟩
end Go.Px
namespace Go.Px
instance : Inhabited IRect := ⟨IRect.mk 0 0 0 0 0⟩
theorem all_lf : ∀ {T : Tre} {q : Qd}, T.ok → (T.all q).filter (fun r => !(r.Pane == 0)) = T.lf q
  | .leaf x, q, h => by
    have e : (mkR x.Pane q).Pane ≠ 0 := h.1
    show [mkR x.Pane q].filter _ = [mkR x.Pane q]
    simp [e]
  | .node x a b, q, h => by
    have e : (mkR x.Pane q).Pane = 0 := splitOk_eq h.1
    show (mkR x.Pane q :: (a.all (f1 x q) ++ b.all (f2 x q))).filter _ = a.lf (f1 x q) ++ b.lf (f2 x q)
    rw [List.filter_cons]
    simp only [e, beq_self_eq_true, Bool.not_true, Bool.false_eq_true, if_false, List.filter_append]
    rw [all_lf h.2.1, all_lf h.2.2]
theorem all_len : ∀ (T : Tre) (q : Qd), (T.all q).length = T.flat.length
  | .leaf x, q => rfl
  | .node x a b, q => by simp [Tre.all, Tre.flat, all_len a, all_len b]
theorem deleteFunc_eq {fuel : Nat} {l : List IRect} (hl : l.length ≤ 1048600) (hf : l.length < fuel) : pG_slices_DeleteFunc_IRect_I_Places_1 fuel l = some (l.filter fun r => !(r.Pane == 0)) := by
  unfold pG_slices_DeleteFunc_IRect_I_Places_1 pG_slices_IndexFunc_IRect_I_Places_1
  rcases loopF_find (B := pG_slices_IndexFunc_IRect_I_Places_1_b1 fuel) (fun i => (l, (l.length : Int), (i : Int))) l (fun x => x.Pane == 0) (fun i => .inr (i : Int)) (.inl ()) (fuel := fuel) (v := (l, (l.length : Int), 0)) rfl (fun i x hx => by
    obtain ⟨h1, h2, h3, h4, h5⟩ := idx_facts hx (by omega)
    unfold pG_slices_IndexFunc_IRect_I_Places_1_b1 pI_Places_1
    simp only [h1, br_t, gd_t h2, h3, bd_s, h5, gd_t h4]
    cases x.Pane == 0 <;> rfl) (by
    unfold pG_slices_IndexFunc_IRect_I_Places_1_b1
    simp) hf with ⟨i, x, h1, h2, h3, h4⟩ | ⟨h1, h2⟩
  · have hi := (List.getElem?_eq_some_iff.1 h1).1
    rw [h4]
    simp only [jn_r, bd_s]
    rw [show ((i : Int) == -1) = false by simp, br_f, gd_t (inK64 (by omega) (by omega))]
    have hfirst : l.take i = (l.take (i + 1)).filter fun r => !(r.Pane == 0) := by
      rw [take_succ_get h1, List.filter_append]
      have e1 : (l.take i).filter (fun r => !(r.Pane == 0)) = l.take i := List.filter_eq_self.2 fun y hy => by
        obtain ⟨j, hj⟩ := List.getElem?_of_mem hy
        have hji : j < i := by have := (List.getElem?_eq_some_iff.1 hj).1; simp at this; omega
        rw [List.getElem?_take, if_pos hji] at hj
        rw [h3 j y hji hj]; rfl
      rw [e1]
      simp [h2]
    obtain ⟨o, p1, p2, p3, p4, p5⟩ := loopF_inv (V := List IRect × Int × Int) (O := List IRect × Int) (B := pG_slices_DeleteFunc_IRect_I_Places_1_b1 fuel)
      (fun v => v.1.length = l.length ∧ 0 ≤ v.2.1 ∧ v.2.1 < v.2.2 ∧ v.2.2 ≤ (l.length : Int) ∧ v.1.take v.2.1.toNat = (l.take v.2.2.toNat).filter (fun r => !(r.Pane == 0)) ∧ v.1.drop v.2.2.toNat = l.drop v.2.2.toNat)
      (fun v => ((l.length : Int) - v.2.2).toNat) (fun o => o.1.length = l.length ∧ 0 ≤ o.2 ∧ o.2 ≤ (l.length : Int) ∧ o.1.take o.2.toNat = l.filter (fun r => !(r.Pane == 0))) (by
        rintro ⟨v, k, j⟩ ⟨a1, a2, a3, a4, a5, a6⟩
        simp only at a1 a2 a3 a4 a5 a6 ⊢
        unfold pG_slices_DeleteFunc_IRect_I_Places_1_b1
        simp only
        by_cases hlt : j < (l.length : Int)
        · left
          rw [show decide (j < (v.length : Int)) = true by simp; omega, br_t, gd_t ⟨by omega, by omega⟩]
          have hjl : l[j.toNat]? = some l[j.toNat]! := by rw [List.getElem?_eq_getElem (by omega), getElem!_pos l _ (by omega)]
          have hjv : v[0 + j.toNat]? = some l[j.toNat]! := by
            rw [← hjl, Nat.zero_add]
            have e1 := List.getElem?_drop (xs := v) (i := j.toNat) (j := 0)
            have e2 := List.getElem?_drop (xs := l) (i := j.toNat) (j := 0)
            rw [a6] at e1
            rw [Nat.add_zero] at e1 e2
            rw [← e1, ← e2]
          have hkv : v[0 + k.toNat]? = some v[k.toNat]! := by rw [Nat.zero_add, List.getElem?_eq_getElem (by omega), getElem!_pos v _ (by omega)]
          have hd : v.drop (j + 1).toNat = l.drop (j + 1).toNat := by
            have e : (j + 1).toNat = j.toNat + 1 := by omega
            rw [e, ← List.drop_drop, ← List.drop_drop, a6]
          have ht : l.take (j + 1).toNat = l.take j.toNat ++ [l[j.toNat]!] := by
            rw [show (j + 1).toNat = j.toNat + 1 by omega, take_succ_get hjl]
          rw [hjv, bd_s]
          unfold pI_Places_1
          rw [bd_s]
          generalize l[j.toNat]! = x9 at *
          cases hx9 : (x9.Pane == 0) with
          | true =>
            simp only [Bool.not_true, br_f, bd_s]
            rw [gd_t (inK64 (by omega) (by omega))]
            refine ⟨_, rfl, ⟨a1, a2, by dsimp only; omega, by dsimp only; omega, ?_, hd⟩, by dsimp only; omega⟩
            dsimp only
            rw [ht, List.filter_append, ← a5]
            simp [hx9]
          | false =>
            simp only [Bool.not_false, br_t]
            rw [gd_t ⟨by omega, by omega⟩, hkv, bd_s, gd_t (inK64 (by omega) (by omega)), bd_s]
            simp only
            rw [gd_t (inK64 (by omega) (by omega))]
            refine ⟨_, rfl, ⟨by simp [a1], by dsimp only; omega, by dsimp only; omega, by dsimp only; omega, ?_, ?_⟩, by dsimp only; omega⟩
            · dsimp only
              rw [ht, List.filter_append, ← a5, show (k + 1).toNat = k.toNat + 1 by omega, Nat.zero_add]
              have hset : (v.set k.toNat x9)[k.toNat]? = some x9 := by rw [List.getElem?_set_self (by omega)]
              rw [take_succ_get hset, List.take_set_of_le (Nat.le_refl _)]
              simp [hx9]
            · dsimp only
              rw [Nat.zero_add, List.drop_set_of_lt (by omega)]
              exact hd
        · right
          rw [show decide (j < (v.length : Int)) = false by simp; omega, br_f]
          refine ⟨_, rfl, a1, a2, by dsimp only; omega, ?_⟩
          dsimp only
          rw [a5, List.take_of_length_le (by omega)]) fuel (l, (i : Int), (i : Int) + 1) ⟨rfl, by dsimp only; omega, by dsimp only; omega, by dsimp only; omega, by
            dsimp only
            rw [show ((i : Int) + 1).toNat = i + 1 by omega, show (i : Int).toNat = i by omega]
            exact hfirst, rfl⟩ (by dsimp only; omega)
    rw [p1, bd_s]
    obtain ⟨v, k⟩ := o
    simp only at p2 p3 p4 p5 ⊢
    rw [gd_t ⟨by omega, by omega⟩, gd_t ⟨by omega, by omega⟩]
    congr 1
    rw [← p5, Nat.sub_zero, List.drop_zero, Nat.zero_add]
    unfold putL
    rw [List.append_assoc, List.take_append_of_le_length (by rw [List.length_take]; omega), List.take_take, Nat.min_self]
  · rw [h2]
    simp only [jn_l, bd_s]
    rw [show ((-1 : Int) == -1) = true by rfl, br_t]
    congr 1
    exact (List.filter_eq_self.2 fun y hy => by rw [h1 y hy]; rfl).symm
def noR : IRect := IRect.mk 0 0 0 0 0
noncomputable def placesV (t : List INode) (w h : Int) : List IRect × Bool := if treeB t = true ∧ (1 ≤ w ∧ w ≤ 120) ∧ 1 ≤ h ∧ h ≤ 120 then (match prs t.length t with
  | some (T, _) => if T.fits (0, 0, w, h) = true then (T.lf (0, 0, w, h), true) else ([], false)
  | none => ([], false)) else ([], false)
theorem placesV_tree {t : List INode} (h : treeB t = true) : ∃ T : Tre, t = T.flat ∧ T.ok ∧ prs t.length t = some (T, []) := by
  obtain ⟨_, ⟨T, e, ho⟩, _⟩ := treeB_iff.1 h
  have := prs_complete (r := []) (n := t.length) ho (by rw [← e]; exact Nat.le_refl _)
  rw [List.append_nil, ← e] at this
  exact ⟨T, e, ho, this⟩
theorem pI_Places_eq {fuel : Nat} {t : List INode} {w h : Int} (hf : 2 * t.length + 100 < fuel) : pI_Places fuel t w h = some (placesV t w h) := by
  unfold pI_Places pI_places pI_areasOf placesV
  rw [pI_TreeOk_eq hf, bd_s, pI_within_eq, pI_within_eq]
  cases ht : treeB t with
  | false => simp
  | true =>
    simp only [Bool.not_true, br_f, bd_s]
    by_cases hw : 1 ≤ w ∧ w ≤ 120
    · rw [show (decide (1 ≤ w) && decide (w ≤ 120)) = true by simp [hw.1, hw.2]]
      by_cases hh : 1 ≤ h ∧ h ≤ 120
      · rw [show (decide (1 ≤ h) && decide (h ≤ 120)) = true by simp [hh.1, hh.2], if_pos ⟨trivial, hw, hh⟩]
        obtain ⟨T, e, ho, hp⟩ := placesV_tree ht
        have hl31 := (treeB_iff.1 ht).1
        rw [hp]
        simp only [Bool.not_true, br_f, bd_s]
        obtain ⟨o, h1, h2, h3⟩ := put_at fuel t (by omega) hf T fuel 0 [] (IRect.mk 0 0 0 w h) [] ho (by rw [List.drop_zero, List.append_nil]; exact e) (by rw [← e]; omega) (by unfold qOk rq; simp only; omega) (by rw [← e]; simp; omega)
        rw [show ((0 : Nat) : Int) = 0 from rfl, show rq (IRect.mk 0 0 0 w h) = (0, 0, w, h) from rfl] at h1
        rw [show rq (IRect.mk 0 0 0 w h) = (0, 0, w, h) from rfl] at h2
        rw [h1, bd_s]
        simp only [bd_s]
        cases hfit : T.fits (0, 0, w, h) with
        | false => simp
        | true =>
          have e2 := h2 hfit
          rw [List.nil_append] at e2
          subst e2
          simp only [Bool.not_true, br_f, if_true]
          rw [deleteFunc_eq (by rw [all_len, ← e]; omega) (by rw [all_len, ← e]; omega), bd_s, all_lf ho]
      · rw [show (decide (1 ≤ h) && decide (h ≤ 120)) = false by rw [Bool.and_eq_false_iff]; simp; omega, if_neg (by omega)]
        simp
    · rw [show (decide (1 ≤ w) && decide (w ≤ 120)) = false by rw [Bool.and_eq_false_iff]; simp; omega, if_neg (by omega)]
      simp
theorem pS_Places_eq {fuel : Nat} {t : List INode} {w h : Int} (hf : 2 * t.length + 100 < fuel) : pS_Places fuel t w h = some (placesV t w h) := by
  unfold pS_Places placesV
  rw [pS_TreeOk_eq hf, bd_s]
  cases ht : treeB t with
  | false => simp
  | true =>
    simp only [Bool.not_true, br_f]
    by_cases hw : 1 ≤ w ∧ w ≤ 120
    · by_cases hh : 1 ≤ h ∧ h ≤ 120
      · rw [show decide (w < 1) = false by simp; omega, show decide (120 < w) = false by simp; omega, show decide (h < 1) = false by simp; omega, show decide (120 < h) = false by simp; omega, if_pos ⟨trivial, hw, hh⟩]
        obtain ⟨T, e, ho, hp⟩ := placesV_tree ht
        have hl31 := (treeB_iff.1 ht).1
        rw [hp]
        simp only [br_f, bd_s]
        obtain ⟨l, h1, h2, h3⟩ := place_at fuel t (by omega) hf T fuel 0 [] (IRect.mk 0 0 0 w h) ho (by rw [List.drop_zero, List.append_nil]; exact e) (by rw [← e]; omega) (by unfold qOk rq; simp only; omega)
        rw [show ((0 : Nat) : Int) = 0 from rfl, show rq (IRect.mk 0 0 0 w h) = (0, 0, w, h) from rfl] at h1
        rw [show rq (IRect.mk 0 0 0 w h) = (0, 0, w, h) from rfl] at h2
        rw [h1, bd_s]
        simp only
        cases hfit : T.fits (0, 0, w, h) with
        | false => simp
        | true =>
          rw [h2 hfit]
          simp
      · rw [if_neg (by omega)]
        by_cases hw1 : h < 1
        · simp [hw1, show ¬ w < 1 by omega, show ¬ 120 < w by omega]
        · simp [hw1, show 120 < h by omega, show ¬ w < 1 by omega, show ¬ 120 < w by omega]
    · rw [if_neg (by omega)]
      by_cases hw1 : w < 1
      · simp [hw1]
      · simp [hw1, show 120 < w by omega]
theorem lf_len : ∀ (T : Tre) (q : Qd), (T.lf q).length ≤ T.flat.length
  | .leaf x, q => Nat.le_refl _
  | .node x a b, q => by have := lf_len a (f1 x q); have := lf_len b (f2 x q); simp [Tre.lf, Tre.flat]; omega
theorem placesV_len (t : List INode) (w h : Int) : (placesV t w h).1.length ≤ t.length := by
  unfold placesV
  split
  · rename_i hc
    obtain ⟨T, e, ho, hp⟩ := placesV_tree hc.1
    rw [hp]
    simp only
    split
    · rw [e]; exact lf_len T _
    · exact Nat.zero_le _
  · exact Nat.zero_le _
noncomputable def placeOfV (t : List INode) (w h p : Int) : IRect × Bool := match (placesV t w h).1.find? (fun r => r.Pane == p) with
  | some r => (r, true)
  | none => (noR, false)
theorem find_at {α : Type} {l : List α} {q : α → Bool} {i : Nat} {x : α} (h1 : l[i]? = some x) (h2 : q x = true) (h3 : ∀ (j : Nat) y, j < i → l[j]? = some y → q y = false) : l.find? q = some x := by
  obtain ⟨hi, e⟩ := List.getElem?_eq_some_iff.1 h1
  have : l.find? q = some l[i] := List.find?_eq_some_iff_getElem.2 ⟨by rw [e]; exact h2, i, hi, rfl, fun j hj => by
    rw [h3 j l[j] hj (List.getElem?_eq_getElem (by omega))]; rfl⟩
  rw [this, e]
theorem pI_PlaceOf_eq {fuel : Nat} {t : List INode} {w h p : Int} (hf : 2 * t.length + 100 < fuel) (hm : t.length ≤ 1048576) : pI_PlaceOf fuel t w h p = some (placeOfV t w h p) := by
  unfold pI_PlaceOf placeOfV pG_slices_IndexFunc_IRect_I_PlaceOf_1
  rw [pI_Places_eq hf, bd_s]
  have hl := placesV_len t w h
  generalize placesV t w h = pl at hl
  obtain ⟨l, b⟩ := pl
  simp only at hl ⊢
  rcases loopF_find (B := pG_slices_IndexFunc_IRect_I_PlaceOf_1_b1 fuel) (fun i => (p, l, (l.length : Int), (i : Int))) l (fun x => x.Pane == p) (fun i => .inr ((i : Int), p)) (.inl p) (fuel := fuel) (v := (p, l, (l.length : Int), 0)) rfl (fun i x hx => by
    obtain ⟨h1, h2, h3, h4, h5⟩ := idx_facts hx (by omega)
    unfold pG_slices_IndexFunc_IRect_I_PlaceOf_1_b1 pI_PlaceOf_1
    simp only [h1, br_t, gd_t h2, h3, bd_s, h5, gd_t h4]
    cases x.Pane == p <;> rfl) (by
    unfold pG_slices_IndexFunc_IRect_I_PlaceOf_1_b1
    simp) (by omega) with ⟨i, x, h1, h2, h3, h4⟩ | ⟨h1, h2⟩
  · have hi := (List.getElem?_eq_some_iff.1 h1).1
    rw [h4]
    simp only [jn_r, bd_s]
    rw [show decide ((i : Int) < 0) = false by simp, br_f, gd_t ⟨by omega, by omega⟩, show (i : Int).toNat = i by omega, h1, bd_s, find_at h1 h2 h3]
  · rw [h2]
    simp only [jn_l, bd_s]
    rw [show decide ((-1 : Int) < 0) = true by rfl, br_t, List.find?_eq_none.2 fun x hx => by rw [h1 x hx]; simp]
    rfl
theorem pS_PlaceOf_eq {fuel : Nat} {t : List INode} {w h p : Int} (hf : 2 * t.length + 100 < fuel) (hm : t.length ≤ 1048576) : pS_PlaceOf fuel t w h p = some (placeOfV t w h p) := by
  unfold pS_PlaceOf placeOfV
  rw [pS_Places_eq hf, bd_s]
  have hl := placesV_len t w h
  generalize placesV t w h = pl at hl
  obtain ⟨l, b⟩ := pl
  simp only at hl ⊢
  have key : (∃ (i : Nat) (x : IRect), l[i]? = some x ∧ (x.Pane == p) = true ∧ (∀ (j : Nat) y, j < i → l[j]? = some y → (y.Pane == p) = false) ∧ loopF (pS_PlaceOf_b1 fuel) fuel (IRect.mk 0 0 0 0 0, p, l, (l.length : Int), 0) = some (.inr ((l[i]?).getD noR, true))) ∨ ((∀ x ∈ l, (x.Pane == p) = false) ∧ loopF (pS_PlaceOf_b1 fuel) fuel (IRect.mk 0 0 0 0 0, p, l, (l.length : Int), 0) = some (.inl noR)) :=
    loopF_find (B := pS_PlaceOf_b1 fuel) (fun i => (IRect.mk 0 0 0 0 0, p, l, (l.length : Int), (i : Int))) l (fun x => x.Pane == p) (fun i => .inr ((l[i]?).getD noR, true)) (.inl noR) rfl (fun i x hx => by
      obtain ⟨h1, h2, h3, h4, h5⟩ := idx_facts hx (by omega)
      unfold pS_PlaceOf_b1
      rw [hx]
      simp only [h1, br_t, gd_t h2, Nat.zero_add, h3, bd_s, h5, gd_t h4]
      cases x.Pane == p <;> rfl) (by
      unfold pS_PlaceOf_b1
      simp [noR]) (by omega)
  rcases key with ⟨i, x, h1, h2, h3, h4⟩ | ⟨h1, h2⟩
  · rw [h4]
    simp only [jn_r]
    rw [find_at h1 h2 h3, h1]
    rfl
  · rw [h2]
    simp only [jn_l]
    rw [List.find?_eq_none.2 fun x hx => by rw [h1 x hx]; simp]
    rfl
noncomputable def leavesV (t : List INode) : List Int := if treeB t = true then lvs t else []
theorem leavesV_len (t : List INode) : (leavesV t).length ≤ t.length := by
  unfold leavesV
  split
  · exact lvs_len t
  · exact Nat.zero_le _
theorem pI_Leaves_eq {fuel : Nat} {t : List INode} (hf : 2 * t.length + 100 < fuel) : pI_Leaves fuel t = some (leavesV t) := by
  unfold pI_Leaves leavesV
  rw [pI_TreeOk_eq hf, bd_s]
  cases ht : treeB t with
  | false => rfl
  | true =>
    have := (treeB_iff.1 ht).1
    simp only [Bool.not_true, br_f, if_true]
    rw [pI_leaves_eq (by omega) (by omega), bd_s]
theorem pS_Leaves_eq {fuel : Nat} {t : List INode} (hf : 2 * t.length + 100 < fuel) : pS_Leaves fuel t = some (leavesV t) := by
  unfold pS_Leaves leavesV
  rw [pS_TreeOk_eq hf, bd_s]
  cases ht : treeB t with
  | false => rfl
  | true =>
    obtain ⟨hl, ⟨T, e, ho⟩, _⟩ := treeB_iff.1 ht
    have hn : ∀ x ∈ t, nodeOk x = true := fun x hx => (ok_sh ho).2 x (by rw [← e]; exact hx)
    simp only [Bool.not_true, br_f, if_true]
    have key : loopF (pS_Leaves_b1 fuel) fuel ([], t, (t.length : Int), 0) = some (lvs t) := by
      refine loopF_run (fun i => (lvs (t.take i), t, (t.length : Int), (i : Int))) t.length (lvs t) rfl (fun i hi => ?_) (by unfold pS_Leaves_b1; simp) (by omega)
      have hx : t[i]? = some t[i] := List.getElem?_eq_getElem hi
      have hno := hn _ (List.getElem_mem hi)
      obtain ⟨h1, h2, h3, h4, h5⟩ := idx_facts hx (by omega)
      rw [take_succ_get hx, lvs_app, lvs_one]
      generalize t[i] = x at hx h3 hno
      unfold pS_Leaves_b1
      simp only [h1, br_t, gd_t h2, h3, bd_s]
      have hr : roomB K.int (lvs (t.take i) ++ [x.Pane]).length := roomB_of (by have := lvs_len (t.take i); simp at this ⊢; omega) (by decide)
      by_cases h0 : x.Pane = 0
      · have e1 : decide (0 < x.Pane) = false := by simp [h0]
        simp only [e1, br_f, bd_s, if_pos h0, List.append_nil]
        rw [h5, gd_t h4]
      · have e1 : decide (0 < x.Pane) = true := by
          unfold nodeOk at hno
          rw [Bool.or_eq_true] at hno
          rcases hno with h | h
          · unfold leafOk at h; simp only [Bool.and_eq_true, decide_eq_true_eq] at h; simp; omega
          · exact absurd (splitOk_eq h) h0
        simp only [e1, br_t, if_neg h0, gd_t hr, bd_s]
        rw [h5, gd_t h4]
    rw [key, bd_s]
end Go.Px
namespace Go.Px
def atV {α : Type} (q : α → Bool) (l : List α) : Int := match l.findIdx? q with
  | some i => (i : Int)
  | none => -1
theorem findIdx_at {α : Type} {l : List α} {q : α → Bool} {i : Nat} {x : α} (h1 : l[i]? = some x) (h2 : q x = true) (h3 : ∀ (j : Nat) y, j < i → l[j]? = some y → q y = false) : l.findIdx? q = some i := by
  obtain ⟨hi, e⟩ := List.getElem?_eq_some_iff.1 h1
  exact List.findIdx?_eq_some_iff_getElem.2 ⟨hi, by rw [e]; exact h2, fun j hj => by
    rw [h3 j l[j] hj (List.getElem?_eq_getElem (by omega))]; simp⟩
theorem loopF_fnd {V O α : Type} {B : V → Option (V ⊕ O)} (f : Nat → V) (l : List α) (q : α → Bool) (R : Nat → O) (E : O) {fuel : Nat} {v : V} (hv : v = f 0) (h : ∀ i x, l[i]? = some x → B (f i) = if q x then some (.inr (R i)) else some (.inl (f (i + 1)))) (he : B (f l.length) = some (.inr E)) (hf : l.length < fuel) :
    loopF B fuel v = some (match l.findIdx? q with | some i => R i | none => E) := by
  rcases loopF_find f l q R E hv h he hf with ⟨i, x, h1, h2, h3, h4⟩ | ⟨h1, h2⟩
  · rw [h4, findIdx_at h1 h2 h3]
  · rw [h2, List.findIdx?_eq_none_iff.2 h1]
theorem atV_some {α : Type} {q : α → Bool} {l : List α} {i : Nat} (h : l.findIdx? q = some i) : atV q l = (i : Int) := by unfold atV; rw [h]
theorem atV_none {α : Type} {q : α → Bool} {l : List α} (h : l.findIdx? q = none) : atV q l = -1 := by unfold atV; rw [h]
theorem atV_neg {α : Type} (q : α → Bool) (l : List α) : decide (atV q l < 0) = !l.any q := by
  cases h : l.findIdx? q with
  | none =>
    rw [atV_none h]
    have := List.findIdx?_eq_none_iff.1 h
    rw [show l.any q = false from List.any_eq_false.2 fun x hx => by rw [this x hx]; simp]
    rfl
  | some i =>
    rw [atV_some h]
    obtain ⟨hi, h2, _⟩ := List.findIdx?_eq_some_iff_getElem.1 h
    rw [show l.any q = true from List.any_eq_true.2 ⟨l[i], List.getElem_mem hi, h2⟩]
    simp
theorem atV_nonneg {α : Type} (q : α → Bool) (l : List α) : decide (0 ≤ atV q l) = l.any q := by
  have := atV_neg q l
  cases h : l.any q with
  | true =>
    rw [h] at this
    simp only [Bool.not_true, decide_eq_false_iff_not] at this
    simp; omega
  | false =>
    rw [h] at this
    simp only [Bool.not_false, decide_eq_true_eq] at this
    simp; omega
theorem findIdx_get {α : Type} {q : α → Bool} {l : List α} {i : Nat} (h : l.findIdx? q = some i) : ∃ x, l[i]? = some x ∧ q x = true := by
  obtain ⟨hi, h2, _⟩ := List.findIdx?_eq_some_iff_getElem.1 h
  exact ⟨l[i], List.getElem?_eq_getElem hi, h2⟩
section
variable {fuel : Nat}
theorem index_int {l : List Int} {n : Int} (hl : l.length ≤ 1000000000) (hf : l.length < fuel) : pG_slices_Index_int fuel l n = some (atV (fun y => y == n) l) := by
  unfold pG_slices_Index_int atV
  have h := loopF_fnd (B := pG_slices_Index_int_b1 fuel) (fun i => (l, n, (l.length : Int), (i : Int))) l (fun y => y == n) (fun i => .inr (i : Int)) (.inl ()) (v := (l, n, (l.length : Int), 0)) rfl (fun i x hx => by
    obtain ⟨h1, h2, h3, h4, h5⟩ := idx_facts hx (by omega)
    unfold pG_slices_Index_int_b1
    simp only [h1, br_t, gd_t h2, h3, bd_s, h5, gd_t h4]
    rw [show (n == x) = (x == n) by rw [Bool.eq_iff_iff]; simp; exact eq_comm]
    cases x == n <;> rfl) (by unfold pG_slices_Index_int_b1; simp) hf
  rw [h]
  cases l.findIdx? _ <;> rfl
theorem contains_int {l : List Int} {n : Int} (hl : l.length ≤ 1000000000) (hf : l.length < fuel) : pG_slices_Contains_int fuel l n = some (l.any fun y => y == n) := by
  unfold pG_slices_Contains_int
  rw [index_int hl hf, bd_s, atV_nonneg]
theorem pS_PaneAt_eq {s : IState} {n : Int} (hl : s.Panes.length ≤ 1000000000) (hf : s.Panes.length < fuel) : pS_PaneAt fuel s n = some (atV (fun y => y.Id == n) s.Panes) := by
  unfold pS_PaneAt atV
  have h := loopF_fnd (B := pS_PaneAt_b1 fuel) (fun i => (n, s.Panes, (s.Panes.length : Int), (i : Int))) s.Panes (fun y => y.Id == n) (fun i => .inr (i : Int)) (.inl ()) (v := (n, s.Panes, (s.Panes.length : Int), 0)) rfl (fun i x hx => by
    obtain ⟨h1, h2, h3, h4, h5⟩ := idx_facts hx (by omega)
    unfold pS_PaneAt_b1
    simp only [h1, br_t, gd_t h2, h3, bd_s, h5, gd_t h4]
    cases x.Id == n <;> rfl) (by unfold pS_PaneAt_b1; simp) hf
  rw [h]
  cases s.Panes.findIdx? _ <;> rfl
theorem pS_WinAt_eq {s : IState} {n : Int} (hl : s.Wins.length ≤ 1000000000) (hf : s.Wins.length < fuel) : pS_WinAt fuel s n = some (atV (fun y => y.Id == n) s.Wins) := by
  unfold pS_WinAt atV
  have h := loopF_fnd (B := pS_WinAt_b1 fuel) (fun i => (n, s.Wins, (s.Wins.length : Int), (i : Int))) s.Wins (fun y => y.Id == n) (fun i => .inr (i : Int)) (.inl ()) (v := (n, s.Wins, (s.Wins.length : Int), 0)) rfl (fun i x hx => by
    obtain ⟨h1, h2, h3, h4, h5⟩ := idx_facts hx (by omega)
    unfold pS_WinAt_b1
    simp only [h1, br_t, gd_t h2, h3, bd_s, h5, gd_t h4]
    cases x.Id == n <;> rfl) (by unfold pS_WinAt_b1; simp) hf
  rw [h]
  cases s.Wins.findIdx? _ <;> rfl
theorem pI_WinAt_eq {s : IState} {n : Int} (hl : s.Wins.length ≤ 1000000000) (hf : s.Wins.length < fuel) : pI_WinAt fuel s n = some (atV (fun y => y.Id == n) s.Wins) := by
  unfold pI_WinAt pG_slices_IndexFunc_IWin_I_WinAt_1 atV
  have h := loopF_fnd (B := pG_slices_IndexFunc_IWin_I_WinAt_1_b1 fuel) (fun i => (n, s.Wins, (s.Wins.length : Int), (i : Int))) s.Wins (fun y => y.Id == n) (fun i => .inr ((i : Int), n)) (.inl n) (v := (n, s.Wins, (s.Wins.length : Int), 0)) rfl (fun i x hx => by
    obtain ⟨h1, h2, h3, h4, h5⟩ := idx_facts hx (by omega)
    unfold pG_slices_IndexFunc_IWin_I_WinAt_1_b1 pI_WinAt_1
    simp only [h1, br_t, gd_t h2, h3, bd_s, h5, gd_t h4]
    cases x.Id == n <;> rfl) (by unfold pG_slices_IndexFunc_IWin_I_WinAt_1_b1; simp) hf
  rw [h]
  cases s.Wins.findIdx? _ <;> rfl
theorem pS_SessAt_eq {s : IState} {n : ByteArray} (hl : s.Sess.length ≤ 1000000000) (hf : s.Sess.length < fuel) : pS_SessAt fuel s n = some (atV (fun y => decide (y.Name = n)) s.Sess) := by
  unfold pS_SessAt atV
  have h := loopF_fnd (B := pS_SessAt_b1 fuel) (fun i => (n, s.Sess, (s.Sess.length : Int), (i : Int))) s.Sess (fun y => decide (y.Name = n)) (fun i => .inr (i : Int)) (.inl ()) (v := (n, s.Sess, (s.Sess.length : Int), 0)) rfl (fun i x hx => by
    obtain ⟨h1, h2, h3, h4, h5⟩ := idx_facts hx (by omega)
    unfold pS_SessAt_b1
    simp only [h1, br_t, gd_t h2, h3, bd_s, h5, gd_t h4]
    cases decide (x.Name = n) <;> rfl) (by unfold pS_SessAt_b1; simp) hf
  rw [h]
  cases s.Sess.findIdx? _ <;> rfl
theorem pI_SessAt_eq {s : IState} {n : ByteArray} (hl : s.Sess.length ≤ 1000000000) (hf : s.Sess.length < fuel) : pI_SessAt fuel s n = some (atV (fun y => decide (y.Name = n)) s.Sess) := by
  unfold pI_SessAt pG_slices_IndexFunc_ISess_I_SessAt_1 atV
  have h := loopF_fnd (B := pG_slices_IndexFunc_ISess_I_SessAt_1_b1 fuel) (fun i => (n, s.Sess, (s.Sess.length : Int), (i : Int))) s.Sess (fun y => decide (y.Name = n)) (fun i => .inr ((i : Int), n)) (.inl n) (v := (n, s.Sess, (s.Sess.length : Int), 0)) rfl (fun i x hx => by
    obtain ⟨h1, h2, h3, h4, h5⟩ := idx_facts hx (by omega)
    unfold pG_slices_IndexFunc_ISess_I_SessAt_1_b1 pI_SessAt_1
    simp only [h1, br_t, gd_t h2, h3, bd_s, h5, gd_t h4]
    cases decide (x.Name = n) <;> rfl) (by unfold pG_slices_IndexFunc_ISess_I_SessAt_1_b1; simp) hf
  rw [h]
  cases s.Sess.findIdx? _ <;> rfl
structure StF (fuel : Nat) (s : IState) : Prop where
  fu : 20000000 < fuel
  pl : s.Panes.length ≤ 1048576
  wl : s.Wins.length ≤ 1048576
  sl : s.Sess.length ≤ 1048576
  tr : ∀ w ∈ s.Wins, w.Tree.length ≤ 1048576
  nm : ∀ w ∈ s.Wins, w.Name.size ≤ 1048576
  sw : ∀ x ∈ s.Sess, x.Wins.length ≤ 1048576
  sn : ∀ x ∈ s.Sess, x.Name.size ≤ 1048576
noncomputable def winQ (p : Int) (w : IWin) : Bool := (leavesV w.Tree).any fun y => y == p
theorem pI_WinOf_eq {s : IState} {p : Int} (h : StF fuel s) : pI_WinOf fuel s p = some (atV (winQ p) s.Wins) := by
  have := h.fu; have := h.wl
  unfold pI_WinOf pG_slices_IndexFunc_IWin_I_WinOf_1 atV
  have hh := loopF_fnd (fuel := fuel) (B := pG_slices_IndexFunc_IWin_I_WinOf_1_b1 fuel) (fun i => (p, s.Wins, (s.Wins.length : Int), (i : Int))) s.Wins (winQ p) (fun i => .inr ((i : Int), p)) (.inl p) (v := (p, s.Wins, (s.Wins.length : Int), 0)) rfl (fun i x hx => by
    obtain ⟨h1, h2, h3, h4, h5⟩ := idx_facts hx (by omega)
    have ht := h.tr x (List.mem_of_getElem? hx)
    have hll := leavesV_len x.Tree
    unfold pG_slices_IndexFunc_IWin_I_WinOf_1_b1 pI_WinOf_1
    simp only [h1, br_t, gd_t h2, h3, bd_s, h5, gd_t h4]
    rw [pI_Leaves_eq (by omega), bd_s, contains_int (by omega) (by omega), bd_s, bd_s]
    unfold winQ
    cases (leavesV x.Tree).any fun y => y == p <;> rfl) (by unfold pG_slices_IndexFunc_IWin_I_WinOf_1_b1; simp) (by omega)
  rw [hh]
  cases s.Wins.findIdx? _ <;> rfl
theorem pS_WinOf_eq {s : IState} {p : Int} (h : StF fuel s) : pS_WinOf fuel s p = some (atV (winQ p) s.Wins) := by
  have := h.fu; have := h.wl
  unfold pS_WinOf atV
  have hh := loopF_fnd (fuel := fuel) (B := pS_WinOf_b1 fuel) (fun i => (p, s.Wins, (s.Wins.length : Int), (i : Int))) s.Wins (winQ p) (fun i => .inr (i : Int)) (.inl ()) (v := (p, s.Wins, (s.Wins.length : Int), 0)) rfl (fun i x hx => by
    obtain ⟨h1, h2, h3, h4, h5⟩ := idx_facts hx (by omega)
    have ht := h.tr x (List.mem_of_getElem? hx)
    have hll := leavesV_len x.Tree
    unfold pS_WinOf_b1
    simp only [h1, br_t, gd_t h2, h3, bd_s, h5, gd_t h4]
    rw [pS_Leaves_eq (by omega), bd_s, hasInt_eq (by omega) (by omega), bd_s]
    unfold winQ
    cases (leavesV x.Tree).any fun y => y == p <;> rfl) (by unfold pS_WinOf_b1; simp) (by omega)
  rw [hh]
  cases s.Wins.findIdx? _ <;> rfl
noncomputable def areaV (s : IState) (p : Int) : Int × Int := match s.Wins.findIdx? (winQ p) with
  | none => (0, 0)
  | some i => (match s.Wins[i]? with
    | none => (0, 0)
    | some w => if (w.Zoom && w.Active == p) = true then (s.W, s.H) else ((placeOfV w.Tree s.W s.H p).1.W, (placeOfV w.Tree s.W s.H p).1.H))
theorem pI_Area_eq {s : IState} {p : Int} (h : StF fuel s) : pI_Area fuel s p = some (areaV s p) := by
  have := h.fu; have := h.wl
  unfold pI_Area areaV
  rw [pI_WinOf_eq h, bd_s]
  cases hi : s.Wins.findIdx? (winQ p) with
  | none => rw [atV_none hi]; rfl
  | some i =>
    obtain ⟨w, hw, _⟩ := findIdx_get hi
    have hlt := (List.getElem?_eq_some_iff.1 hw).1
    have ht := h.tr w (List.mem_of_getElem? hw)
    rw [atV_some hi, show decide ((i : Int) < 0) = false by simp, br_f, gd_t ⟨by omega, by omega⟩, show (i : Int).toNat = i by omega, hw, bd_s]
    simp only
    rw [hw]
    simp only
    cases hz : w.Zoom with
    | false =>
      simp only [br_f, bd_s, Bool.false_and, Bool.false_eq_true, if_false]
      rw [pI_PlaceOf_eq (by omega) ht, bd_s]
    | true =>
      simp only [br_t, bd_s, Bool.true_and]
      cases ha : (w.Active == p) with
      | true => rfl
      | false =>
        simp only [br_f, Bool.false_eq_true, if_false]
        rw [pI_PlaceOf_eq (by omega) ht, bd_s]
theorem pS_Area_eq {s : IState} {p : Int} (h : StF fuel s) : pS_Area fuel s p = some (areaV s p) := by
  have := h.fu; have := h.wl
  unfold pS_Area areaV
  rw [pS_WinOf_eq h, bd_s]
  cases hi : s.Wins.findIdx? (winQ p) with
  | none => rw [atV_none hi]; rfl
  | some i =>
    obtain ⟨w, hw, _⟩ := findIdx_get hi
    have hlt := (List.getElem?_eq_some_iff.1 hw).1
    have ht := h.tr w (List.mem_of_getElem? hw)
    rw [atV_some hi, show decide ((i : Int) < 0) = false by simp, br_f, gd_t ⟨by omega, by omega⟩, show (i : Int).toNat = i by omega, hw, bd_s]
    simp only
    rw [hw]
    simp only
    cases hz : w.Zoom with
    | false =>
      simp only [br_f, bd_s, Bool.false_and, Bool.false_eq_true, if_false]
      rw [pS_PlaceOf_eq (by omega) ht, bd_s]
    | true =>
      simp only [br_t, bd_s, Bool.true_and]
      cases ha : (w.Active == p) with
      | true => rfl
      | false =>
        simp only [br_f, Bool.false_eq_true, if_false]
        rw [pS_PlaceOf_eq (by omega) ht, bd_s]
end
end Go.Px
namespace Go.Px
def bOk (x : UInt8) : Bool := (decide (97 ≤ x.toNat) && decide (x.toNat ≤ 122)) || (decide (48 ≤ x.toNat) && decide (x.toNat ≤ 57))
def badW (s : ByteArray) (i : Nat) : Bool := match s[i]? with
  | some x => !bOk x
  | none => false
def wordB (s : ByteArray) : Bool := !(List.range s.size).any (badW s) && (decide (1 ≤ (s.size : Int)) && decide ((s.size : Int) ≤ 12))
theorem byte_at {s : ByteArray} {i : Nat} (h : i < s.size) : s[i]? = some s[i] := getElem?_pos s i h
theorem noByte (c : Int) : pG_strings_IndexByte (ByteArray.mk #[]) c = some (-1) := by
  unfold pG_strings_IndexByte
  rw [gd_t (by show (0 : Nat) ≤ _; omega)]
  rfl
theorem word_cases (x : UInt8) : ∃ a b c d : Bool, decide (97 ≤ (x.toNat : Int)) = a ∧ decide ((x.toNat : Int) ≤ 122) = b ∧ decide (48 ≤ (x.toNat : Int)) = c ∧ decide ((x.toNat : Int) ≤ 57) = d ∧ bOk x = ((a && b) || (c && d)) := by
  refine ⟨_, _, _, _, rfl, rfl, rfl, rfl, ?_⟩
  unfold bOk
  rw [show decide (97 ≤ (x.toNat : Int)) = decide (97 ≤ x.toNat) by rw [decide_eq_decide]; omega, show decide ((x.toNat : Int) ≤ 122) = decide (x.toNat ≤ 122) by rw [decide_eq_decide]; omega, show decide (48 ≤ (x.toNat : Int)) = decide (48 ≤ x.toNat) by rw [decide_eq_decide]; omega, show decide ((x.toNat : Int) ≤ 57) = decide (x.toNat ≤ 57) by rw [decide_eq_decide]; omega]
theorem pI_WordOk_eq {fuel : Nat} {s : ByteArray} (hs : s.size ≤ 1048576) (hf : s.size < fuel) : pI_WordOk fuel s = some (wordB s) := by
  unfold pI_WordOk pI_isPlain wordB
  have key : loopF (pI_isPlain_b1 fuel) fuel (s, 12, ByteArray.mk #[], (s.size : Int), 0) = some (if (List.range s.size).any (badW s) then Sum.inr false else Sum.inl (s, 12)) := by
    refine loopF_scan (fun i => (s, 12, ByteArray.mk #[], (s.size : Int), (i : Int))) s.size (badW s) (Sum.inr false) (Sum.inl (s, 12)) rfl (fun i hi => ?_) (by unfold pI_isPlain_b1; simp) hf
    have hx := byte_at hi
    unfold pI_isPlain_b1 badW
    rw [hx]
    generalize s[i] = x at hx
    simp only
    rw [show decide ((i : Int) < (s.size : Int)) = true by simpa using hi, br_t, gd_t (by omega), show (i : Int).toNat = i by omega, hx, bd_s]
    obtain ⟨a, b, c, d, e1, e2, e3, e4, e5⟩ := word_cases x
    simp only [e1, e2, e3, e4, e5, noByte]
    have h5 : (i : Int) + 1 = ((i + 1 : Nat) : Int) := by omega
    have hk : inK .i64 ((i : Int) + 1) := inK64 (by omega) (by omega)
    cases a <;> cases b <;> cases c <;> cases d <;> simp only [br_t, br_f, bd_s] <;> first | rfl | (refine (gd_p hk _).trans ?_; rw [h5]; rfl)
  rw [key]
  cases (List.range s.size).any (badW s) with
  | true => rfl
  | false =>
    simp only [Bool.false_eq_true, if_false, jn_l, pI_within_eq, bd_s, Bool.not_false, Bool.true_and]
theorem pS_WordOk_eq {fuel : Nat} {s : ByteArray} (hs : s.size ≤ 1048576) (hf : s.size < fuel) : pS_WordOk fuel s = some (wordB s) := by
  unfold pS_WordOk wordB
  have key : loopF (pS_WordOk_b1 fuel) fuel (s, 0) = some (if (List.range s.size).any (badW s) then Sum.inr false else Sum.inl s) := by
    refine loopF_scan (fun i => (s, (i : Int))) s.size (badW s) (Sum.inr false) (Sum.inl s) rfl (fun i hi => ?_) (by unfold pS_WordOk_b1; simp) hf
    have hx := byte_at hi
    unfold pS_WordOk_b1 badW
    rw [hx]
    generalize s[i] = x at hx
    simp only
    rw [show decide ((i : Int) < (s.size : Int)) = true by simpa using hi, br_t]
    simp only [gd_t (show (0 : Int) ≤ (i : Int) by omega), show (i : Int).toNat = i by omega, hx, bd_s]
    obtain ⟨a, b, c, d, e1, e2, e3, e4, e5⟩ := word_cases x
    have f1 : decide ((x.toNat : Int) < 97) = !a := by rw [← e1]; by_cases h : 97 ≤ (x.toNat : Int) <;> simp [h] <;> omega
    have f2 : decide (122 < (x.toNat : Int)) = !b := by rw [← e2]; by_cases h : (x.toNat : Int) ≤ 122 <;> simp [h] <;> omega
    have f3 : decide ((x.toNat : Int) < 48) = !c := by rw [← e3]; by_cases h : 48 ≤ (x.toNat : Int) <;> simp [h] <;> omega
    have f4 : decide (57 < (x.toNat : Int)) = !d := by rw [← e4]; by_cases h : (x.toNat : Int) ≤ 57 <;> simp [h] <;> omega
    simp only [f1, f2, f3, f4, e5]
    have h5 : (i : Int) + 1 = ((i + 1 : Nat) : Int) := by omega
    have f5 : a = true → b = false → c = true ∧ d = false := by
      intro ha hb
      subst ha hb
      simp only [decide_eq_true_eq, decide_eq_false_iff_not] at e1 e2
      constructor
      · rw [← e3]; simp; omega
      · rw [← e4]; simp; omega
    have f6 : a = false → b = true := by
      intro ha
      subst ha
      simp only [decide_eq_false_iff_not] at e1
      rw [← e2]; simp; omega
    have hk : inK .i64 ((i : Int) + 1) := inK64 (by omega) (by omega)
    cases a <;> cases b <;> cases c <;> cases d <;> simp only [br_t, br_f, bd_s, Bool.not_true, Bool.not_false] <;> first | rfl | (exact absurd (f6 rfl) (by decide)) | (have f7 := f5 rfl rfl; simp at f7; done) | (refine (gd_p hk _).trans ?_; rw [h5]; rfl)
  rw [key]
  cases (List.range s.size).any (badW s) with
  | true => rfl
  | false =>
    simp only [Bool.false_eq_true, if_false, jn_l, bd_s, Bool.not_false, Bool.true_and]
    cases decide (1 ≤ (s.size : Int)) <;> rfl
def numT (n : Int) : ByteArray := if 0 ≤ n ∧ n ≤ 4294967295 then ⟨(Lib.decDigits n.toNat).toArray⟩ else ByteArray.mk #[]
theorem pI_NumText_eq (fuel : Nat) (n : Int) : pI_NumText fuel n = some (numT n) := by
  unfold pI_NumText pI_isNum numT pG_strconv_Itoa
  rw [pI_within_eq, bd_s, bd_s]
  by_cases h : 0 ≤ n ∧ n ≤ 4294967295
  · rw [show (decide (0 ≤ n) && decide (n ≤ 4294967295)) = true by simp [h.1, h.2], if_pos h, gd_t h]
    rfl
  · rw [show (decide (0 ≤ n) && decide (n ≤ 4294967295)) = false by rw [Bool.and_eq_false_iff]; simp; omega, if_neg h]
    rfl
theorem dig (k : Nat) (hk : k < 10) : UInt8.ofNat (IntKind.u8.wrap (48 + (k : Int))).toNat = UInt8.ofNat (48 + k) := by
  congr 1
  show ((48 + (k : Int)) % 256).toNat = _
  omega
theorem numText_go (fuel : Nat) : ∀ (k m u : Nat), u < 10 ^ (k + 1) → u ≤ 4294967295 → k < m → recF (pS_NumText fuel) m (u : Int) = some ⟨(Lib.decDigits u).toArray⟩
  | k, 0, u, h, hu, hk => by omega
  | k, m + 1, u, h, hu, hk => by
    show pS_NumText fuel (recF (pS_NumText fuel) m) (u : Int) = _
    have ih : ∀ k', k = k' + 1 → recF (pS_NumText fuel) m ((u / 10 : Nat) : Int) = some ⟨(Lib.decDigits (u / 10)).toArray⟩ := fun k' e => numText_go fuel k' m (u / 10) (by subst e; rw [Nat.pow_succ] at h; omega) (by omega) (by omega)
    generalize recF (pS_NumText fuel) m = slf at ih ⊢
    unfold pS_NumText pS_l01Num
    rw [show decide (0 ≤ (u : Int)) = true by simp, show decide ((u : Int) ≤ 4294967295) = true by simp; omega]
    simp only [br_t, bd_s, Bool.not_true, br_f]
    by_cases h10 : u < 10
    · rw [show decide ((u : Int) < 10) = true by simp; omega, br_t, gd_t (inK64 (by omega) (by omega)), dec_small h10, dig u h10]
    · rw [show decide ((u : Int) < 10) = false by simp; omega, br_f]
      have e1 : (u : Int).tdiv 10 = ((u / 10 : Nat) : Int) := by
        rw [Int.tdiv_eq_ediv_of_nonneg (by omega)]; omega
      have e2 : (u : Int).tmod 10 = ((u % 10 : Nat) : Int) := by
        rw [Int.tmod_eq_emod_of_nonneg (by omega)]; omega
      cases k with
      | zero => simp at h; omega
      | succ k =>
        have hl := dec_len k (u / 10) (by rw [Nat.pow_succ] at h; omega)
        have hk20 : k ≤ 9 ∨ 9 < k := by omega
        rw [e1, e2, gd_t (by omega), gd_t (inK64 (by omega) (by omega)), ih k rfl, bd_s, gd_t (by omega), gd_t (inK64 (by omega) (by omega)), dig (u % 10) (by omega)]
        have hl2 := dec_len 9 (u / 10) (by omega)
        rw [gd_t (by
          show (Lib.decDigits (u / 10)).toArray.size + 1 ≤ _
          simp; omega), dec_big h10]
        congr 1
theorem pS_NumText_eq {fuel : Nat} (n : Int) (hf : 20 < fuel) : recF (pS_NumText fuel) fuel n = some (numT n) := by
  unfold numT
  by_cases h : 0 ≤ n ∧ n ≤ 4294967295
  · rw [if_pos h]
    have := numText_go fuel 9 fuel n.toNat (by omega) (by omega) (by omega)
    rwa [show ((n.toNat : Nat) : Int) = n by omega] at this
  · rw [if_neg h]
    obtain ⟨m, rfl⟩ : ∃ m, fuel = m + 1 := ⟨fuel - 1, by omega⟩
    show pS_NumText (m + 1) (recF (pS_NumText (m + 1)) m) n = _
    generalize recF (pS_NumText (m + 1)) m = slf
    unfold pS_NumText pS_l01Num
    by_cases h0 : 0 ≤ n
    · rw [show decide (0 ≤ n) = true by simpa using h0, show decide (n ≤ 4294967295) = false by simp; omega]; rfl
    · rw [show decide (0 ≤ n) = false by simpa using h0]; rfl
theorem numT_size (n : Int) : (numT n).size ≤ 10 := by
  unfold numT
  split
  · show (Lib.decDigits n.toNat).toArray.size ≤ _
    have := dec_len 9 n.toNat (by omega)
    simp; omega
  · exact Nat.zero_le _
end Go.Px
namespace Go.Px
open Classical in
noncomputable def fi : List MapEntry → Int → Option (Nat × Value)
  | [], _ => none
  | e :: l, k => if e.key = .int .i64 k then some (0, e.val) else (fi l k).map fun p => (p.1 + 1, p.2)
def WfE (e : MapEntry) : Prop := (∃ n, e.key = .int .i64 n) ∧ ∃ b, e.val = .bool b
theorem find_fi {k : Int} : ∀ {l : List MapEntry} {i : Nat}, (∀ e ∈ l, WfE e) → Instr.findNow (.int .i64) (.int .i64 k) l i = some ((fi l k).map fun p => (i + p.1, p.2))
  | [], i, _ => rfl
  | e :: l, i, h => by
    obtain ⟨⟨n, hn⟩, _⟩ := h e (by simp)
    have ih := find_fi (k := k) (l := l) (i := i + 1) fun e he => h e (by simp [he])
    unfold Instr.findNow fi
    rw [hn]
    unfold Instr.sameNow
    by_cases hkn : k = n
    · subst hkn
      simp
    · have e1 : ¬ (Value.int .i64 n = .int .i64 k) := fun e => hkn (by injection e with _ e; exact e.symm)
      rw [if_neg e1]
      simp only [if_true, show (k == n) = false by simpa using hkn]
      rw [ih]
      cases fi l k with
      | none => rfl
      | some p => simp; omega
theorem fi_get {k : Int} : ∀ {l : List MapEntry} {i : Nat} {v : Value}, fi l k = some (i, v) → ∃ e, l[i]? = some e ∧ e.key = .int .i64 k ∧ e.val = v
  | [], _, _, h => by cases h
  | e :: l, i, v, h => by
    unfold fi at h
    split at h
    · rename_i hk
      cases h
      exact ⟨e, rfl, hk, rfl⟩
    · cases hf : fi l k with
      | none => rw [hf] at h; cases h
      | some p =>
        rw [hf] at h
        obtain ⟨j, u⟩ := p
        simp at h
        obtain ⟨rfl, rfl⟩ := h
        obtain ⟨e', h1, h2⟩ := fi_get hf
        exact ⟨e', by simpa using h1, h2⟩
def boolV : Value → Bool
  | .bool b => b
  | _ => false
def boolOf : Option (Nat × Value) → Bool
  | some p => boolV p.2
  | none => false
def MapF (o : Obj) (g : Int → Bool) : Prop := ∃ es cl, o = .map es cl ∧ (∀ e ∈ es.toList, WfE e) ∧ ∀ k, boolOf (fi es.toList k) = g k
theorem mapF_empty : MapF emptyM fun _ => false := ⟨#[], 0, rfl, by simp, fun k => rfl⟩
theorem mapF_get {o : Obj} {g : Int → Bool} (h : MapF o g) (k : Int) : mpB .i o (.int .i64 k) = some (g k) := by
  obtain ⟨es, cl, rfl, hw, hg⟩ := h
  unfold mpB mpGet
  simp only [MK.td]
  rw [find_fi hw, ← hg k]
  cases hf : fi es.toList k with
  | none => rfl
  | some p =>
    obtain ⟨i, v⟩ := p
    obtain ⟨e, h1, _, h3⟩ := fi_get hf
    obtain ⟨_, b, hb⟩ := hw e (List.mem_of_getElem? h1)
    rw [hb] at h3
    subst h3
    rfl
theorem fi_app {k : Int} {x : MapEntry} : ∀ {l : List MapEntry}, boolOf (fi (l ++ [x]) k) = match fi l k with
    | some p => boolOf (some p)
    | none => boolOf (fi [x] k)
  | [] => rfl
  | e :: l => by
    have ih := fi_app (k := k) (x := x) (l := l)
    rw [List.cons_append]
    unfold fi
    by_cases hk : e.key = .int .i64 k
    · rw [if_pos hk, if_pos hk]
    · rw [if_neg hk, if_neg hk]
      cases h1 : fi (l ++ [x]) k <;> cases h2 : fi l k <;> simp only [h1, h2] at ih <;> simp only [Option.map_none, Option.map_some]
      · exact ih
      · rename_i p; obtain ⟨_, v⟩ := p; exact ih
      · rename_i p; obtain ⟨_, v⟩ := p; unfold fi at ih; exact ih
      · rename_i p q; obtain ⟨_, v⟩ := p; obtain ⟨_, u⟩ := q; exact ih
theorem fi_mod {k k' : Int} {b : Bool} : ∀ {l : List MapEntry} {i : Nat} {v : Value}, fi l k = some (i, v) → boolOf (fi (l.modify i fun e => { e with key := .int .i64 k, val := .bool b }) k') = if k' = k then b else boolOf (fi l k')
  | [], _, _, h => by cases h
  | e :: l, i, v, h => by
    unfold fi at h
    split at h
    · rename_i hk
      cases h
      rw [List.modify_zero_cons]
      unfold fi
      by_cases hkk : k' = k
      · subst hkk; simp [boolOf, boolV]
      · have e1 : ¬ (Value.int .i64 k = .int .i64 k') := fun e => hkk (by injection e with _ e; exact e.symm)
        rw [if_neg hkk, hk]
        simp only
        rw [if_neg e1, if_neg e1]
    · rename_i hk
      cases hf : fi l k with
      | none => rw [hf] at h; cases h
      | some p =>
        rw [hf] at h
        obtain ⟨j, u⟩ := p
        simp at h
        obtain ⟨rfl, rfl⟩ := h
        have ih := fi_mod (k' := k') (b := b) hf
        rw [List.modify_succ_cons]
        unfold fi
        by_cases hk2 : e.key = .int .i64 k'
        · rw [if_pos hk2, if_pos hk2]
          have : k' ≠ k := fun e2 => hk (by rw [hk2, e2])
          rw [if_neg this]
        · rw [if_neg hk2, if_neg hk2]
          cases h1 : fi (l.modify j fun e => { e with key := .int .i64 k, val := .bool b }) k' with
          | none =>
            rw [h1] at ih
            cases h2 : fi l k' with
            | none => rw [h2] at ih; exact ih
            | some q => rw [h2] at ih; obtain ⟨_, w⟩ := q; exact ih
          | some p1 =>
            rw [h1] at ih
            obtain ⟨_, w1⟩ := p1
            cases h2 : fi l k' with
            | none => rw [h2] at ih; exact ih
            | some q => rw [h2] at ih; obtain ⟨_, w⟩ := q; exact ih
theorem mapF_put {o : Obj} {g : Int → Bool} (h : MapF o g) (k : Int) (b : Bool) : ∃ o', mpPut .i o (.int .i64 k) (.bool b) = some o' ∧ MapF o' fun k' => if k' = k then b else g k' := by
  obtain ⟨es, cl, rfl, hw, hg⟩ := h
  unfold mpPut
  simp only [MK.td]
  rw [find_fi hw]
  cases hf : fi es.toList k with
  | none =>
    refine ⟨_, rfl, _, _, rfl, fun e he => ?_, fun k' => ?_⟩
    · rw [Array.toList_push] at he
      rcases List.mem_append.1 he with he | he
      · exact hw e he
      · rw [List.mem_singleton.1 he]; exact ⟨⟨k, rfl⟩, b, rfl⟩
    · show _ = if k' = k then b else g k'
      rw [Array.toList_push, fi_app]
      by_cases hk : k' = k
      · subst hk
        rw [hf, if_pos rfl]
        unfold fi
        simp [boolOf, boolV]
      · rw [if_neg hk, ← hg k']
        cases h2 : fi es.toList k' with
        | some p => rfl
        | none =>
          unfold fi
          have e1 : ¬ (Value.int .i64 k = .int .i64 k') := fun e => hk (by injection e with _ e; exact e.symm)
          rw [if_neg e1]
          rfl
  | some p =>
    obtain ⟨i, v⟩ := p
    obtain ⟨e, h1, h2, h3⟩ := fi_get hf
    have hi : es[i]? = some e := by simpa using h1
    have hsb : Instr.sameBits 10000 (((es[i]?).map (·.key)).getD (.int .i64 k)) (.int .i64 k) = true := by
      rw [hi]
      simp only [Option.map_some, Option.getD_some, h2]
      simp [Instr.sameBits]
    simp only [Option.map_some, Nat.zero_add]
    rw [if_pos hsb]
    refine ⟨_, rfl, _, _, rfl, fun e' he' => ?_, fun k' => ?_⟩
    · rw [Array.toList_modify] at he'
      obtain ⟨j, hj⟩ := List.getElem?_of_mem he'
      rw [List.getElem?_modify] at hj
      cases hlj : es.toList[j]? with
      | none => rw [hlj] at hj; simp at hj
      | some e2 =>
        rw [hlj] at hj
        simp at hj
        by_cases hij : i = j
        · rw [if_pos hij] at hj; rw [← hj]; exact ⟨⟨k, rfl⟩, b, rfl⟩
        · rw [if_neg hij] at hj; rw [← hj]; exact hw e2 (List.mem_of_getElem? hlj)
    · rw [Array.toList_modify, fi_mod hf, hg k']
end Go.Px
namespace Go.Px
structure PaneF (fuel : Nat) (p : IPane) : Prop where
  al : p.Term.P.Args.length ≤ 9223372036854775807
  af : p.Term.P.Args.length < fuel
  s : ScrF fuel p.Term.S
noncomputable def paneB (p : IPane) : Bool := paneOkB p (runeBeginB p.Term.P.Part)
theorem pI_PaneOk_f {F : Nat} {p : IPane} (h : PaneF (F + 70) p) : pI_PaneOk (F + 70) p = some (paneB p) :=
  pI_PaneOk_eq (pI_TermOk_eq h.al h.af h.s (pI_RuneBegin_eq (F + 68) _))
theorem pS_PaneOk_f {F : Nat} {p : IPane} (h : PaneF (F + 70) p) : pS_PaneOk (F + 70) p = some (paneB p) :=
  pS_PaneOk_eq (pS_TermOk_eq h.al h.af h.s (pS_RuneBegin_eq F _))
theorem loopF_rel {V O : Type} {B : V → Option (V ⊕ O)} (I : Nat → V → Prop) (n : Nat) (bad : Nat → Bool) (R E : O) {fuel : Nat} {v : V} (h0 : I 0 v) (h : ∀ i v, i < n → I i v → if bad i = true then B v = some (.inr R) else ∃ v', B v = some (.inl v') ∧ I (i + 1) v') (he : ∀ v, I n v → B v = some (.inr E)) (hf : n < fuel) :
    loopF B fuel v = some (if (List.range n).any bad then R else E) := by
  have key : ∀ (m fuel i : Nat) (v : V), n - i = m → i ≤ n → m < fuel → I i v → (∀ j, j < i → bad j = false) → loopF B fuel v = some (if (List.range n).any bad then R else E) := by
    intro m
    induction m with
    | zero =>
      intro fuel i v hm hi hf hv hb
      obtain rfl : i = n := by omega
      cases fuel with
      | zero => omega
      | succ fuel =>
        unfold loopF
        rw [he v hv, show (List.range i).any bad = false from List.any_eq_false.2 fun j hj => by rw [hb j (List.mem_range.1 hj)]; simp]
        rfl
    | succ m ih =>
      intro fuel i v hm hi hf hv hb
      cases fuel with
      | zero => omega
      | succ fuel =>
        have := h i v (by omega) hv
        unfold loopF
        cases hbi : bad i with
        | true =>
          rw [hbi, if_pos rfl] at this
          rw [this, show (List.range n).any bad = true from List.any_eq_true.2 ⟨i, List.mem_range.2 (by omega), hbi⟩]
          rfl
        | false =>
          rw [hbi] at this
          obtain ⟨v', e, hv'⟩ := this
          rw [e]
          exact ih fuel (i + 1) v' (by omega) (by omega) (by omega) hv' fun j hj => by
            by_cases hji : j = i
            · rw [hji]; exact hbi
            · exact hb j (by omega)
  exact key n fuel 0 v rfl (Nat.zero_le _) hf h0 fun j hj => by omega
def prevB (l : List Int) (i : Nat) (n : Int) : Bool := match i with
  | 0 => false
  | j + 1 => (match l[j]? with
    | some y => decide (n ≤ y)
    | none => false)
theorem prev_step {α β : Type} {l : List α} {g : α → Int} {i : Nat} {x : α} (hx : l[i]? = some x) (hl : l.length ≤ 1000000000) (n : Int) (K : Bool → Option β) (K' : α → Option β) (hK : ∀ y, K' y = K (decide (n ≤ g y))) :
    br (decide (0 < (i : Int))) (gd (inK IntKind.i64 ((i : Int) - 1)) (gd (0 ≤ (i : Int) - 1 ∧ (i : Int) - 1 < (l.length : Int)) (bd (l[((i : Int) - 1).toNat]?) K'))) (K false) = K (prevB (l.map g) i n) := by
  cases i with
  | zero => rfl
  | succ j =>
    obtain ⟨y, h1, h2, h3, h4, h5⟩ := prev_facts hx (by omega)
    rw [h2, br_t, gd_t h3, gd_t h4, h5, bd_s, hK]
    unfold prevB
    simp only [List.getElem?_map, h1, Option.map_some]
def liveG (l : List IPane) (k : Int) : Bool := l.any fun q => q.Life == 1 && q.Pid == k
noncomputable def badP (s : IState) (i : Nat) : Bool := match s.Panes[i]? with
  | none => false
  | some p => (!paneB p || (decide (s.Next ≤ p.Id) || (prevB (s.Panes.map (·.Id)) i p.Id || ((s.Wins.any fun w => w.Id == p.Id) || p.Term.S.Limit != s.Limit)))) || (p.Life == 1 && liveG (s.Panes.take i) p.Pid)
structure SF (F : Nat) (s : IState) : Prop where
  f : StF (F + 70) s
  p : ∀ p ∈ s.Panes, PaneF (F + 70) p
theorem pI_panesOk_eq {F : Nat} {s : IState} (h : SF F s) : pI_State_panesOk (F + 70) s = some (!(List.range s.Panes.length).any (badP s) && decide ((s.Panes.length : Int) ≤ 24)) := by
  have hfu := h.f.fu; have hpl := h.f.pl; have hwl := h.f.wl
  unfold pI_State_panesOk
  have key : loopF (pI_State_panesOk_b1 (F + 70)) (F + 70) (s, emptyM, s.Panes, (s.Panes.length : Int), 0) = some (if (List.range s.Panes.length).any (badP s) then Sum.inr false else Sum.inl s) := by
    refine loopF_rel (fun i v => ∃ o, v = (s, o, s.Panes, (s.Panes.length : Int), (i : Int)) ∧ MapF o (liveG (s.Panes.take i))) s.Panes.length (badP s) (Sum.inr false) (Sum.inl s) ⟨_, rfl, mapF_empty⟩ ?_ ?_ (by omega)
    · rintro i v hi ⟨o, rfl, hm⟩
      have hx : s.Panes[i]? = some s.Panes[i] := List.getElem?_eq_getElem hi
      have hmem := List.mem_of_getElem? hx
      obtain ⟨h1, h2, h3, h4, h5⟩ := idx_facts hx (by omega)
      have hpo := pI_PaneOk_f (h.p _ hmem)
      have htk := take_succ_get hx
      unfold badP
      rw [hx]
      generalize s.Panes[i] = p at hx h3 hmem hpo htk
      have hprev := prev_step (β := IState × IPane × Obj × List IPane × Int × Int × Bool) (l := s.Panes) (g := (·.Id)) hx (by omega) p.Id
      simp only
      have chk : (bd (pI_PaneOk (F + 70) p) fun x10 =>
          br (!x10) (some (s, p, o, s.Panes, (s.Panes.length : Int), (i : Int), true)) <|
          br (decide (s.Next ≤ p.Id)) (some (s, p, o, s.Panes, (s.Panes.length : Int), (i : Int), true)) <|
          br (decide (0 < (i : Int))) (
            gd (inK IntKind.i64 ((i : Int) - 1)) <|
            gd (0 ≤ (i : Int) - 1 ∧ (i : Int) - 1 < (s.Panes.length : Int)) <|
            bd (s.Panes[((i : Int) - 1).toNat]?) fun x11 =>
            br (decide (p.Id ≤ x11.Id)) (some (s, p, o, s.Panes, (s.Panes.length : Int), (i : Int), true)) <|
            bd (pI_WinAt (F + 70) s p.Id) fun x12 =>
            br (decide (0 ≤ x12)) (some (s, p, o, s.Panes, (s.Panes.length : Int), (i : Int), true)) <|
            some (s, p, o, s.Panes, (s.Panes.length : Int), (i : Int), p.Term.S.Limit != s.Limit)) <|
          bd (pI_WinAt (F + 70) s p.Id) fun x13 =>
          br (decide (0 ≤ x13)) (some (s, p, o, s.Panes, (s.Panes.length : Int), (i : Int), true)) <|
          some (s, p, o, s.Panes, (s.Panes.length : Int), (i : Int), p.Term.S.Limit != s.Limit))
          = some (s, p, o, s.Panes, (s.Panes.length : Int), (i : Int), !paneB p || (decide (s.Next ≤ p.Id) || (prevB (s.Panes.map (·.Id)) i p.Id || ((s.Wins.any fun w => w.Id == p.Id) || p.Term.S.Limit != s.Limit)))) := by
        rw [hpo, bd_s, pI_WinAt_eq (by omega) (by omega)]
        simp only [bd_s, atV_nonneg]
        have hp2 := hprev (fun b => br b (some (s, p, o, s.Panes, (s.Panes.length : Int), (i : Int), true)) (br (s.Wins.any fun y => y.Id == p.Id) (some (s, p, o, s.Panes, (s.Panes.length : Int), (i : Int), true)) (some (s, p, o, s.Panes, (s.Panes.length : Int), (i : Int), p.Term.S.Limit != s.Limit)))) (fun x11 => br (decide (p.Id ≤ x11.Id)) (some (s, p, o, s.Panes, (s.Panes.length : Int), (i : Int), true)) (br (s.Wins.any fun y => y.Id == p.Id) (some (s, p, o, s.Panes, (s.Panes.length : Int), (i : Int), true)) (some (s, p, o, s.Panes, (s.Panes.length : Int), (i : Int), p.Term.S.Limit != s.Limit)))) (fun y => rfl)
        simp only [br_f] at hp2
        rw [hp2]
        cases paneB p <;> cases decide (s.Next ≤ p.Id) <;> cases prevB (s.Panes.map (·.Id)) i p.Id <;> cases (s.Wins.any fun y => y.Id == p.Id) <;> rfl
      unfold pI_State_panesOk_b1
      simp only [h1, br_t, gd_t h2, h3, bd_s]
      rw [chk, bd_s]
      simp only
      generalize (!paneB p || (decide (s.Next ≤ p.Id) || (prevB (s.Panes.map (·.Id)) i p.Id || ((s.Wins.any fun w => w.Id == p.Id) || p.Term.S.Limit != s.Limit)))) = c
      cases c with
      | true => simp
      | false =>
        simp only [br_f, Bool.false_or]
        rw [mapF_get hm]
        simp only [bd_s]
        have fin : ∀ b : Bool, b = (liveG (s.Panes.take i) p.Pid || p.Life == 1) → ∃ v', (bd (mpPut MK.i o (Value.int IntKind.i64 p.Pid) (Value.bool b)) fun x30 => (some (s, x30, s.Panes, (s.Panes.length : Int), (i : Int)) : Option (IState × Obj × List IPane × Int × Int))) = some (s, v', s.Panes, (s.Panes.length : Int), (i : Int)) ∧ MapF v' (liveG (s.Panes.take (i + 1))) := by
          intro b hb
          obtain ⟨o', e, hm'⟩ := mapF_put hm p.Pid b
          refine ⟨o', by rw [e, bd_s], ?_⟩
          have : (fun k' => if k' = p.Pid then b else liveG (s.Panes.take i) k') = liveG (s.Panes.take (i + 1)) := by
            funext k'
            rw [htk]
            unfold liveG
            rw [List.any_append, List.any_cons, List.any_nil, Bool.or_false]
            by_cases hk : k' = p.Pid
            · subst hk
              rw [if_pos rfl, hb]
              unfold liveG
              simp
            · rw [if_neg hk, show (p.Pid == k') = false by simpa using fun e => hk e.symm]
              simp
          rw [← this]
          exact hm'
        cases hlf : (p.Life == 1) with
        | true =>
          simp only [br_t, bd_s, Bool.true_and]
          cases hg : liveG (s.Panes.take i) p.Pid with
          | true => simp
          | false =>
            simp only [br_f, Bool.false_eq_true, if_false]
            obtain ⟨v', e, hm'⟩ := fin true (by rw [hlf]; simp)
            rw [mapF_get hm, hg, bd_s, br_f, hlf, e, bd_s]
            simp only
            rw [h5, gd_t h4]
            exact ⟨_, rfl, _, rfl, hm'⟩
        | false =>
          simp only [br_f, bd_s, Bool.false_and, Bool.false_eq_true, if_false]
          rw [mapF_get hm, bd_s]
          cases hg : liveG (s.Panes.take i) p.Pid with
          | true =>
            obtain ⟨v', e, hm'⟩ := fin true (by rw [hg]; simp)
            rw [br_t, e, bd_s]
            simp only
            rw [h5, gd_t h4]
            exact ⟨_, rfl, _, rfl, hm'⟩
          | false =>
            obtain ⟨v', e, hm'⟩ := fin false (by rw [hg, hlf]; simp)
            rw [br_f, hlf, e, bd_s]
            simp only
            rw [h5, gd_t h4]
            exact ⟨_, rfl, _, rfl, hm'⟩
    · rintro v ⟨o, rfl, hm⟩
      unfold pI_State_panesOk_b1
      simp
  rw [key]
  cases (List.range s.Panes.length).any (badP s) <;> rfl
def pidsL (l : List IPane) : List Int := (l.filter fun q => q.Life == 1).map (·.Pid)
theorem pidsL_any (l : List IPane) (k : Int) : ((pidsL l).any fun y => y == k) = liveG l k := by
  unfold pidsL liveG
  rw [List.any_map, List.any_filter]
  rfl
noncomputable def badQ (s : IState) (i : Nat) : Bool := match s.Panes[i]? with
  | none => false
  | some p => ((!paneB p || (decide (s.Next ≤ p.Id) || prevB (s.Panes.map (·.Id)) i p.Id)) || (p.Term.S.W != (areaV s p.Id).1 || (p.Term.S.H != (areaV s p.Id).2 || p.Term.S.Limit != s.Limit))) || (p.Life == 1 && liveG (s.Panes.take i) p.Pid)
theorem pS_panes_eq {F : Nat} {s : IState} (h : SF F s) : pS_l14Panes (F + 70) s = some (!(List.range s.Panes.length).any (badQ s)) := by
  have hfu := h.f.fu; have hpl := h.f.pl; have hwl := h.f.wl
  unfold pS_l14Panes
  have key : loopF (pS_l14Panes_b1 (F + 70)) (F + 70) (s, [], s.Panes, (s.Panes.length : Int), 0) = some (if (List.range s.Panes.length).any (badQ s) then Sum.inr false else Sum.inl ()) := by
    refine loopF_scan (fun i => (s, pidsL (s.Panes.take i), s.Panes, (s.Panes.length : Int), (i : Int))) s.Panes.length (badQ s) (Sum.inr false) (Sum.inl ()) rfl (fun i hi => ?_) (by unfold pS_l14Panes_b1; simp) (by omega)
    have hx : s.Panes[i]? = some s.Panes[i] := List.getElem?_eq_getElem hi
    have hmem := List.mem_of_getElem? hx
    obtain ⟨h1, h2, h3, h4, h5⟩ := idx_facts hx (by omega)
    have hpo := pS_PaneOk_f (h.p _ hmem)
    have htk := take_succ_get hx
    have hpll : (pidsL (s.Panes.take i)).length ≤ i := by
      unfold pidsL
      rw [List.length_map]
      have := List.length_filter_le (fun q => q.Life == 1) (s.Panes.take i)
      rw [List.length_take] at this
      omega
    generalize s.Panes[i] = p at hx h3 hmem hpo htk
    have hbad : badQ s i = (((!paneB p || (decide (s.Next ≤ p.Id) || prevB (s.Panes.map (·.Id)) i p.Id)) || (p.Term.S.W != (areaV s p.Id).1 || (p.Term.S.H != (areaV s p.Id).2 || p.Term.S.Limit != s.Limit))) || (p.Life == 1 && liveG (s.Panes.take i) p.Pid)) := by unfold badQ; rw [hx]
    have hnext : pidsL (s.Panes.take (i + 1)) = if (p.Life == 1) = true then pidsL (s.Panes.take i) ++ [p.Pid] else pidsL (s.Panes.take i) := by
      rw [htk]
      unfold pidsL
      rw [List.filter_append, List.map_append]
      cases hl : (p.Life == 1) <;> simp [hl]
    rw [hnext]
    have hr : roomB K.int (pidsL (s.Panes.take i) ++ [p.Pid]).length := roomB_of (by simp; omega) (by decide)
    have hhas : pS_l02HasInt (F + 70) (pidsL (s.Panes.take i)) p.Pid = some (liveG (s.Panes.take i) p.Pid) := by rw [hasInt_eq (by omega) (by omega), pidsL_any]
    generalize pidsL (s.Panes.take i) = pd at hhas hr ⊢
    have hprev := prev_step (l := s.Panes) (g := (·.Id)) hx (by omega) p.Id (fun b => some (s, p, pd, s.Panes, (s.Panes.length : Int), (i : Int), b)) (fun x10 => some (s, p, pd, s.Panes, (s.Panes.length : Int), (i : Int), decide (p.Id ≤ x10.Id))) (fun y => rfl)
    unfold pS_l14Panes_b1
    simp only [h1, br_t, gd_t h2, h3, bd_s, hpo]
    rw [hprev]
    have hcomb : ∀ (a b c : Bool), br (!a) (some (s, p, pd, s.Panes, (s.Panes.length : Int), (i : Int), true)) (br b (some (s, p, pd, s.Panes, (s.Panes.length : Int), (i : Int), true)) (some (s, p, pd, s.Panes, (s.Panes.length : Int), (i : Int), c))) = some (s, p, pd, s.Panes, (s.Panes.length : Int), (i : Int), !a || (b || c)) := by
      intro a b c; cases a <;> cases b <;> rfl
    rw [hcomb, bd_s]
    simp only
    generalize (!paneB p || (decide (s.Next ≤ p.Id) || prevB (s.Panes.map (·.Id)) i p.Id)) = c1 at hbad ⊢
    cases c1 with
    | true => rw [hbad]; simp
    | false =>
      simp only [br_f, bd_s, Bool.false_or]
      rw [pS_Area_eq h.f, bd_s]
      have hcomb2 : ∀ (a b c : Bool), br a (some (s, p, pd, s.Panes, (s.Panes.length : Int), (i : Int), true)) (br b (some (s, p, pd, s.Panes, (s.Panes.length : Int), (i : Int), true)) (some (s, p, pd, s.Panes, (s.Panes.length : Int), (i : Int), c))) = some (s, p, pd, s.Panes, (s.Panes.length : Int), (i : Int), a || (b || c)) := by
        intro a b c; cases a <;> cases b <;> rfl
      rw [hcomb2, bd_s]
      simp only
      generalize (p.Term.S.W != (areaV s p.Id).fst || (p.Term.S.H != (areaV s p.Id).snd || p.Term.S.Limit != s.Limit)) = c2 at hbad ⊢
      cases c2 with
      | true => rw [hbad]; simp
      | false =>
        rw [hhas]
        simp only [br_f, Bool.false_or] at hbad ⊢
        rw [hbad]
        cases hlf : (p.Life == 1) with
        | true =>
          simp only [br_t, bd_s, Bool.true_and]
          cases hg : liveG (s.Panes.take i) p.Pid with
          | true => simp
          | false =>
            simp only [br_f, gd_t hr]
            rw [hlf, br_t, jn_l]
            simp only
            rw [h5, gd_t h4]
            simp
        | false =>
          simp only [br_f, bd_s, Bool.false_and]
          rw [hlf, br_f, jn_l]
          simp only
          rw [h5, gd_t h4]
          simp
  rw [key]
  cases (List.range s.Panes.length).any (badQ s) <;> rfl
end Go.Px
namespace Go.Px
theorem perm_of {a b : List Int} (ha : a.Nodup) (hb : a.length = b.length) (hs : ∀ x ∈ a, x ∈ b) : a.Perm b := by
  induction a generalizing b with
  | nil =>
    cases b with
    | nil => exact .nil
    | cons y b => simp at hb
  | cons x a ih =>
    have hx : x ∈ b := hs x (List.mem_cons_self ..)
    refine (List.Perm.cons x (ih (b := b.erase x) (List.nodup_cons.1 ha).2 ?_ fun y hy => ?_)).trans (List.perm_cons_erase hx).symm
    · rw [List.length_erase_of_mem hx, ← hb]; simp
    · have hne : y ≠ x := fun e => (List.nodup_cons.1 ha).1 (e ▸ hy)
      exact (List.mem_erase_of_ne hne).2 (hs y (List.mem_cons_of_mem _ hy))
noncomputable def onceB (a b : List Int) : Bool := (a.mergeSort fun x y => decide (x ≤ y)) == (b.mergeSort fun x y => decide (x ≤ y))
theorem once_perm (a b : List Int) : onceB a b = true ↔ a.Perm b := by
  unfold onceB
  rw [beq_iff_eq]
  constructor
  · intro h
    exact (List.mergeSort_perm a _).symm.trans (h ▸ List.mergeSort_perm b _)
  · intro h
    refine List.Perm.eq_of_pairwise (le := fun x y => x ≤ y) (fun x y _ _ h1 h2 => Int.le_antisymm h1 h2) (sort_pw a) (sort_pw b) ?_
    exact (List.mergeSort_perm a _).trans (h.trans (List.mergeSort_perm b _).symm)
theorem equal_int {fuel : Nat} {a b : List Int} (ha : a.length ≤ 1000000000) (hf : a.length < fuel) : pG_slices_Equal_int fuel a b = some (a == b) := by
  unfold pG_slices_Equal_int
  by_cases hl : a.length = b.length
  · rw [show ((a.length : Int) != (b.length : Int)) = false by simp; omega, br_f]
    have key : loopF (pG_slices_Equal_int_b1 fuel) fuel (a, b, (a.length : Int), 0) = some (if (List.range a.length).any (fun i => a[i]? != b[i]?) then Sum.inr false else Sum.inl ()) := by
      refine loopF_scan (fun i => (a, b, (a.length : Int), (i : Int))) a.length (fun i => a[i]? != b[i]?) (Sum.inr false) (Sum.inl ()) rfl (fun i hi => ?_) (by unfold pG_slices_Equal_int_b1; simp) hf
      obtain ⟨h1, h2, h3, h4, h5⟩ := idx_facts (List.getElem?_eq_getElem hi) (by omega)
      obtain ⟨_, g2, g3, _, _⟩ := idx_facts (List.getElem?_eq_getElem (l := b) (i := i) (by omega)) (by omega)
      unfold pG_slices_Equal_int_b1
      simp only [h1, br_t, gd_t h2, h3, bd_s, gd_t g2, g3, h5, gd_t h4]
      rw [List.getElem?_eq_getElem hi, List.getElem?_eq_getElem (show i < b.length by omega)]
      have : (a[i] != b[i]'(by omega)) = (some a[i] != some (b[i]'(by omega))) := by
        rw [Bool.eq_iff_iff]; simp
      rw [this]
      cases (some a[i] != some (b[i]'(by omega))) <;> simp
    rw [key]
    cases h : (List.range a.length).any (fun i => a[i]? != b[i]?) with
    | true =>
      obtain ⟨i, _, hi⟩ := List.any_eq_true.1 h
      have : (a == b) = false := by
        rw [beq_eq_false_iff_ne]
        intro e; subst e; simp at hi
      rw [this]; rfl
    | false =>
      have : (a == b) = true := by
        rw [beq_iff_eq]
        refine List.ext_getElem? fun i => ?_
        by_cases hi : i < a.length
        · have := List.any_eq_false.1 h i (List.mem_range.2 hi)
          simpa using this
        · rw [List.getElem?_eq_none (by omega), List.getElem?_eq_none (by omega)]
      rw [this]; rfl
  · rw [show ((a.length : Int) != (b.length : Int)) = true by simp; omega, br_t]
    rw [show (a == b) = false by rw [beq_eq_false_iff_ne]; intro e; exact hl (by rw [e])]
theorem pI_once_eq {fuel : Nat} {a b : List Int} (ha : a.length ≤ 1048576) (hb : b.length ≤ 1048576) (hf : 1048576 < fuel) : pI_once fuel a b = some (onceB a b) := by
  unfold pI_once
  rw [clone_int (roomB_of (by omega) (by decide)), bd_s, clone_int (roomB_of (by omega) (by decide)), bd_s, sort_ok ha, bd_s, sort_ok hb, bd_s, equal_int (by rw [List.length_mergeSort]; omega) (by rw [List.length_mergeSort]; omega), bd_s]
  rfl
structure SG (F : Nat) (s : IState) : Prop where
  f : SF F s
  al : (s.Wins.flatMap fun w => w.Tree).length ≤ 1048576
  sg : (s.Sess.flatMap fun x => x.Wins).length ≤ 1048576
def lvw (l : List IWin) : List Int := l.flatMap fun w => lvs w.Tree
def ssw (l : List ISess) : List Int := l.flatMap fun x => x.Wins
theorem lvw_len : ∀ (l : List IWin), (lvw l).length ≤ (l.flatMap fun w => w.Tree).length
  | [] => by simp [lvw]
  | w :: l => by
    have := lvw_len l
    have := lvs_len w.Tree
    unfold lvw at *
    rw [List.flatMap_cons, List.flatMap_cons, List.length_append, List.length_append]
    omega
theorem flat_take {α β : Type} (g : α → List β) (l : List α) (i : Nat) : ((l.take i).flatMap g).length ≤ (l.flatMap g).length := by
  conv => rhs; rw [← List.take_append_drop i l, List.flatMap_append, List.length_append]
  omega
theorem lvw_succ {l : List IWin} {i : Nat} {w : IWin} (h : l[i]? = some w) : lvw (l.take (i + 1)) = lvw (l.take i) ++ lvs w.Tree := by
  unfold lvw; rw [take_succ_get h, List.flatMap_append]; simp
theorem ssw_succ {l : List ISess} {i : Nat} {x : ISess} (h : l[i]? = some x) : ssw (l.take (i + 1)) = ssw (l.take i) ++ x.Wins := by
  unfold ssw; rw [take_succ_get h, List.flatMap_append]; simp
end Go.Px
namespace Go.Px
noncomputable def badW1 (s : IState) (i : Nat) : Bool := match s.Wins[i]? with
  | none => false
  | some w => decide (w.Id < 1) || (decide (s.Next ≤ w.Id) || (prevB (s.Wins.map (·.Id)) i w.Id || (!wordB w.Name || (!(placesV w.Tree s.W s.H).2 || !((lvs w.Tree).any fun y => y == w.Active)))))
noncomputable def badW2 (s : IState) (i : Nat) : Bool := match s.Wins[i]? with
  | none => false
  | some w => !(placesV w.Tree s.W s.H).2 || (decide (w.Id < 1) || (decide (s.Next ≤ w.Id) || (prevB (s.Wins.map (·.Id)) i w.Id || ((s.Panes.any fun y => y.Id == w.Id) || (!wordB w.Name || !((leavesV w.Tree).any fun y => y == w.Active))))))
theorem placesV_true {t : List INode} {w h : Int} (hh : (placesV t w h).2 = true) : treeB t = true := by
  unfold placesV at hh
  split at hh
  · rename_i h; exact h.1
  · cases hh
theorem winsOk_b1 {F : Nat} {s : IState} (h : SG F s) : loopF (pI_State_winsOk_b1 (F + 70)) (F + 70) (s, [], [], s.Wins, (s.Wins.length : Int), 0) = some (if (List.range s.Wins.length).any (badW1 s) then Sum.inr false else Sum.inl (s, lvw s.Wins, [])) := by
  have hfu := h.f.f.fu; have hpl := h.f.f.pl; have hwl := h.f.f.wl
  have he : (lvw (s.Wins.take s.Wins.length)) = lvw s.Wins := by rw [List.take_length]
  rw [← he]
  refine loopF_scan (fun i => (s, lvw (s.Wins.take i), [], s.Wins, (s.Wins.length : Int), (i : Int))) s.Wins.length (badW1 s) (Sum.inr false) (Sum.inl (s, lvw (s.Wins.take s.Wins.length), [])) rfl (fun i hi => ?_) (by unfold pI_State_winsOk_b1; simp) (by omega)
  have hx : s.Wins[i]? = some s.Wins[i] := List.getElem?_eq_getElem hi
  have hmem := List.mem_of_getElem? hx
  obtain ⟨h1, h2, h3, h4, h5⟩ := idx_facts hx (by omega)
  have hsum : (lvw (s.Wins.take (i + 1))).length ≤ 1048576 := Nat.le_trans (lvw_len _) (Nat.le_trans (flat_take _ _ _) h.al)
  have ht := h.f.f.tr _ hmem
  have hn := h.f.f.nm _ hmem
  have hll := lvs_len s.Wins[i].Tree
  have hsucc := lvw_succ hx
  rw [hsucc] at hsum
  have hr : roomB K.int (lvw (s.Wins.take i) ++ lvs s.Wins[i].Tree).length := roomB_of (by omega) (by decide)
  rw [hsucc]
  generalize lvw (s.Wins.take i) = A at hr ⊢
  have hbad : badW1 s i = (decide (s.Wins[i].Id < 1) || (decide (s.Next ≤ s.Wins[i].Id) || (prevB (s.Wins.map (·.Id)) i s.Wins[i].Id || (!wordB s.Wins[i].Name || (!(placesV s.Wins[i].Tree s.W s.H).2 || !((lvs s.Wins[i].Tree).any fun y => y == s.Wins[i].Active)))))) := by unfold badW1; rw [hx]
  generalize s.Wins[i] = w at hx h3 hmem ht hn hll hr hbad ⊢
  have hpl := pI_Places_eq (fuel := F + 70) (t := w.Tree) (w := s.W) (h := s.H) (by omega)
  have hwo := pI_WordOk_eq (fuel := F + 70) (s := w.Name) (by omega) (by omega)
  have hle := pI_leaves_eq (fuel := F + 70) (t := w.Tree) (by omega) (by omega)
  have hco := contains_int (fuel := F + 70) (l := lvs w.Tree) (n := w.Active) (by omega) (by omega)
  have hprev := prev_step (l := s.Wins) (g := (·.Id)) hx (by omega) w.Id
    (fun b => br b (some (s, w, A, ([] : List Int), s.Wins, (s.Wins.length : Int), (i : Int), true)) (br (!wordB w.Name) (some (s, w, A, [], s.Wins, (s.Wins.length : Int), (i : Int), true)) (br (!(placesV w.Tree s.W s.H).2) (some (s, w, A, [], s.Wins, (s.Wins.length : Int), (i : Int), true)) (some (s, w, A, [], s.Wins, (s.Wins.length : Int), (i : Int), !((lvs w.Tree).any fun y => y == w.Active))))))
    (fun x => br (decide (w.Id ≤ x.Id)) (some (s, w, A, ([] : List Int), s.Wins, (s.Wins.length : Int), (i : Int), true)) (br (!wordB w.Name) (some (s, w, A, [], s.Wins, (s.Wins.length : Int), (i : Int), true)) (br (!(placesV w.Tree s.W s.H).2) (some (s, w, A, [], s.Wins, (s.Wins.length : Int), (i : Int), true)) (some (s, w, A, [], s.Wins, (s.Wins.length : Int), (i : Int), !((lvs w.Tree).any fun y => y == w.Active)))))) (fun y => rfl)
  simp only [br_f] at hprev
  unfold pI_State_winsOk_b1
  simp only [h1, br_t, gd_t h2, h3, bd_s, hpl, hwo, hle, hco]
  rw [hprev]
  have hcomb : ∀ a b c d e f : Bool, br a (some (s, w, A, ([] : List Int), s.Wins, (s.Wins.length : Int), (i : Int), true)) (br b (some (s, w, A, [], s.Wins, (s.Wins.length : Int), (i : Int), true)) (br c (some (s, w, A, ([] : List Int), s.Wins, (s.Wins.length : Int), (i : Int), true)) (br (!d) (some (s, w, A, [], s.Wins, (s.Wins.length : Int), (i : Int), true)) (br (!e) (some (s, w, A, [], s.Wins, (s.Wins.length : Int), (i : Int), true)) (some (s, w, A, [], s.Wins, (s.Wins.length : Int), (i : Int), !f)))))) = some (s, w, A, [], s.Wins, (s.Wins.length : Int), (i : Int), a || (b || (c || (!d || (!e || !f))))) := by
    intro a b c d e f; cases a <;> cases b <;> cases c <;> cases d <;> cases e <;> rfl
  rw [hcomb, bd_s, ← hbad]
  cases badW1 s i with
  | true => simp
  | false =>
    simp only [br_f]
    rw [hle, bd_s, h5, gd_t hr, gd_t h4]
    simp
theorem winsOk_b2 {F : Nat} {s : IState} (h : SG F s) (A : List Int) : loopF (pI_State_winsOk_b2 (F + 70)) (F + 70) (s, A, [], s.Panes, (s.Panes.length : Int), 0) = some (s, A, s.Panes.map (·.Id)) := by
  have hfu := h.f.f.fu; have hpl := h.f.f.pl; have hwl := h.f.f.wl
  refine loopF_run (B := pI_State_winsOk_b2 (F + 70)) (fuel := F + 70) (fun i => (s, A, (s.Panes.take i).map (·.Id), s.Panes, (s.Panes.length : Int), (i : Int))) s.Panes.length (s, A, s.Panes.map (·.Id)) rfl (fun i hi => ?_) (by unfold pI_State_winsOk_b2; simp) (by omega)
  obtain ⟨h1, h2, h3, h4, h5⟩ := idx_facts (List.getElem?_eq_getElem hi) (by omega)
  have hr : roomB K.int ((s.Panes.take i).map (·.Id) ++ [s.Panes[i].Id]).length := roomB_of (by simp; omega) (by decide)
  unfold pI_State_winsOk_b2
  simp only [h1, br_t, gd_t h2, h3, bd_s, gd_t hr, h5, gd_t h4]
  rw [take_succ_get (List.getElem?_eq_getElem hi), List.map_append]
  rfl
theorem pI_winsOk_eq {F : Nat} {s : IState} (h : SG F s) : pI_State_winsOk (F + 70) s = some (!(List.range s.Wins.length).any (badW1 s) && (decide ((s.Wins.length : Int) ≤ 12) && onceB (lvw s.Wins) (s.Panes.map (·.Id)))) := by
  have hfu := h.f.f.fu; have hpl := h.f.f.pl; have hwl := h.f.f.wl
  have hA : (lvw s.Wins).length ≤ 1048576 := Nat.le_trans (lvw_len _) h.al
  unfold pI_State_winsOk
  rw [winsOk_b1 h]
  cases (List.range s.Wins.length).any (badW1 s) with
  | true => rfl
  | false =>
    simp only [Bool.false_eq_true, if_false, jn_l]
    rw [winsOk_b2 h, bd_s, pI_once_eq hA (by simp; omega) (by omega)]
    cases decide ((s.Wins.length : Int) ≤ 12) <;> rfl
theorem l14Wins_b1 {F : Nat} {s : IState} (h : SG F s) : loopF (pS_l14Wins_b1 (F + 70)) (F + 70) (s, [], s.Wins, (s.Wins.length : Int), 0) = some (if (List.range s.Wins.length).any (badW2 s) then Sum.inr false else Sum.inl (s, lvw s.Wins)) := by
  have hfu := h.f.f.fu; have hpl := h.f.f.pl; have hwl := h.f.f.wl
  have he : (lvw (s.Wins.take s.Wins.length)) = lvw s.Wins := by rw [List.take_length]
  rw [← he]
  refine loopF_scan (fun i => (s, lvw (s.Wins.take i), s.Wins, (s.Wins.length : Int), (i : Int))) s.Wins.length (badW2 s) (Sum.inr false) (Sum.inl (s, lvw (s.Wins.take s.Wins.length))) rfl (fun i hi => ?_) (by unfold pS_l14Wins_b1; simp) (by omega)
  have hx : s.Wins[i]? = some s.Wins[i] := List.getElem?_eq_getElem hi
  have hmem := List.mem_of_getElem? hx
  obtain ⟨h1, h2, h3, h4, h5⟩ := idx_facts hx (by omega)
  have hsum : (lvw (s.Wins.take (i + 1))).length ≤ 1048576 := Nat.le_trans (lvw_len _) (Nat.le_trans (flat_take _ _ _) h.al)
  have ht := h.f.f.tr _ hmem
  have hn := h.f.f.nm _ hmem
  have hsucc := lvw_succ hx
  rw [hsucc] at hsum
  have hr : roomB K.int (lvw (s.Wins.take i) ++ lvs s.Wins[i].Tree).length := roomB_of (by omega) (by decide)
  rw [hsucc]
  generalize lvw (s.Wins.take i) = A at hr ⊢
  have hbad : badW2 s i = (!(placesV s.Wins[i].Tree s.W s.H).2 || (decide (s.Wins[i].Id < 1) || (decide (s.Next ≤ s.Wins[i].Id) || (prevB (s.Wins.map (·.Id)) i s.Wins[i].Id || ((s.Panes.any fun y => y.Id == s.Wins[i].Id) || (!wordB s.Wins[i].Name || !((leavesV s.Wins[i].Tree).any fun y => y == s.Wins[i].Active))))))) := by unfold badW2; rw [hx]
  generalize s.Wins[i] = w at hx h3 hmem ht hn hr hbad ⊢
  have hlv := leavesV_len w.Tree
  have hpl' := pS_Places_eq (fuel := F + 70) (t := w.Tree) (w := s.W) (h := s.H) (by omega)
  have hwo := pS_WordOk_eq (fuel := F + 70) (s := w.Name) (by omega) (by omega)
  have hle := pS_Leaves_eq (fuel := F + 70) (t := w.Tree) (by omega)
  have hco := hasInt_eq (fuel := F + 70) (l := leavesV w.Tree) (n := w.Active) (by omega) (by omega)
  have hpa := pS_PaneAt_eq (fuel := F + 70) (s := s) (n := w.Id) (by omega) (by omega)
  have hprev := prev_step (l := s.Wins) (g := (·.Id)) hx (by omega) w.Id
    (fun b => br b (some (s, w, A, s.Wins, (s.Wins.length : Int), (i : Int), true)) (br (s.Panes.any fun y => y.Id == w.Id) (some (s, w, A, s.Wins, (s.Wins.length : Int), (i : Int), true)) (br (!wordB w.Name) (some (s, w, A, s.Wins, (s.Wins.length : Int), (i : Int), true)) (some (s, w, A, s.Wins, (s.Wins.length : Int), (i : Int), !((leavesV w.Tree).any fun y => y == w.Active))))))
    (fun x => br (decide (w.Id ≤ x.Id)) (some (s, w, A, s.Wins, (s.Wins.length : Int), (i : Int), true)) (br (s.Panes.any fun y => y.Id == w.Id) (some (s, w, A, s.Wins, (s.Wins.length : Int), (i : Int), true)) (br (!wordB w.Name) (some (s, w, A, s.Wins, (s.Wins.length : Int), (i : Int), true)) (some (s, w, A, s.Wins, (s.Wins.length : Int), (i : Int), !((leavesV w.Tree).any fun y => y == w.Active)))))) (fun y => rfl)
  simp only [br_f] at hprev
  unfold pS_l14Wins_b1
  simp only [h1, br_t, gd_t h2, h3, bd_s, hpl', hwo, hle, hco, hpa, atV_nonneg]
  rw [hprev]
  have hcomb : ∀ a b c d e f g : Bool, br (!a) (some (s, w, A, s.Wins, (s.Wins.length : Int), (i : Int), true)) (br b (some (s, w, A, s.Wins, (s.Wins.length : Int), (i : Int), true)) (br c (some (s, w, A, s.Wins, (s.Wins.length : Int), (i : Int), true)) (br d (some (s, w, A, s.Wins, (s.Wins.length : Int), (i : Int), true)) (br e (some (s, w, A, s.Wins, (s.Wins.length : Int), (i : Int), true)) (br (!f) (some (s, w, A, s.Wins, (s.Wins.length : Int), (i : Int), true)) (some (s, w, A, s.Wins, (s.Wins.length : Int), (i : Int), !g))))))) = some (s, w, A, s.Wins, (s.Wins.length : Int), (i : Int), !a || (b || (c || (d || (e || (!f || !g)))))) := by
    intro a b c d e f g; cases a <;> cases b <;> cases c <;> cases d <;> cases e <;> cases f <;> rfl
  rw [hcomb, bd_s, ← hbad]
  cases hb : badW2 s i with
  | true => simp
  | false =>
    have hp : (placesV w.Tree s.W s.H).2 = true := by
      rw [hb] at hbad
      cases hp : (placesV w.Tree s.W s.H).2 with
      | true => rfl
      | false => rw [hp] at hbad; simp at hbad
    have hl : leavesV w.Tree = lvs w.Tree := by unfold leavesV; rw [if_pos (placesV_true hp)]
    simp only [br_f]
    rw [hle, bd_s, h5, hl, gd_t hr, gd_t h4]
    simp
def badU (all ids : List Int) (i : Nat) : Bool := match all[i]? with
  | none => false
  | some x => ((all.take i).any fun y => y == x) || !(ids.any fun y => y == x)
theorem viewL_take {l : List Int} {i : Nat} : viewL false l (0 + 0) ((i : Int).toNat - 0) = l.take i := by
  unfold viewL
  simp
theorem l14Wins_b2 {F : Nat} {s : IState} (h : SG F s) {A : List Int} (hA : A.length ≤ 1048576) : loopF (pS_l14Wins_b2 (F + 70)) (F + 70) (s, A, (A.length : Int), 0) = some (if (List.range A.length).any (badU A (s.Panes.map (·.Id))) then Sum.inr false else Sum.inl (s, A)) := by
  have hfu := h.f.f.fu; have hpl := h.f.f.pl; have hwl := h.f.f.wl
  refine loopF_scan (B := pS_l14Wins_b2 (F + 70)) (fuel := F + 70) (fun i => (s, A, (A.length : Int), (i : Int))) A.length (badU A (s.Panes.map (·.Id))) (Sum.inr false) (Sum.inl (s, A)) rfl (fun i hi => ?_) (by unfold pS_l14Wins_b2; simp) (by omega)
  have hx : A[i]? = some A[i] := List.getElem?_eq_getElem hi
  obtain ⟨h1, h2, h3, h4, h5⟩ := idx_facts hx (by omega)
  have hbad : badU A (s.Panes.map (·.Id)) i = (((A.take i).any fun y => y == A[i]) || !(s.Panes.any fun y => y.Id == A[i])) := by
    unfold badU; rw [hx]; simp only [List.any_map]; rfl
  generalize A[i] = x at hx h3 hbad
  have hco := hasInt_eq (fuel := F + 70) (l := A.take i) (n := x) (by rw [List.length_take]; omega) (by rw [List.length_take]; omega)
  have hpa := pS_PaneAt_eq (fuel := F + 70) (s := s) (n := x) (by omega) (by omega)
  unfold pS_l14Wins_b2
  simp only [h1, br_t, gd_t h2, Nat.zero_add, h3, bd_s, gd_p (show (0 : Int) ≤ (i : Int) ∧ (i : Int) ≤ (A.length : Int) from ⟨by omega, by omega⟩)]
  rw [show viewL false A 0 ((i : Int).toNat - 0) = A.take i from viewL_take, hco, bd_s, hpa, bd_s, atV_neg]
  have hcomb : ∀ a b : Bool, br a (some (s, A, (A.length : Int), (i : Int), true)) (some (s, A, (A.length : Int), (i : Int), !b)) = some (s, A, (A.length : Int), (i : Int), a || !b) := by
    intro a b; cases a <;> rfl
  rw [hcomb, bd_s, ← hbad]
  cases badU A (s.Panes.map (·.Id)) i with
  | true => simp
  | false => simp only [br_f]; rw [h5, gd_t h4]; simp
theorem pS_l14Wins_eq {F : Nat} {s : IState} (h : SG F s) : pS_l14Wins (F + 70) s = some (!(List.range s.Wins.length).any (badW2 s) && (!(List.range (lvw s.Wins).length).any (badU (lvw s.Wins) (s.Panes.map (·.Id))) && ((lvw s.Wins).length : Int) == (s.Panes.length : Int))) := by
  have hA : (lvw s.Wins).length ≤ 1048576 := Nat.le_trans (lvw_len _) h.al
  unfold pS_l14Wins
  rw [l14Wins_b1 h]
  cases (List.range s.Wins.length).any (badW2 s) with
  | true => rfl
  | false =>
    simp only [Bool.false_eq_true, if_false, jn_l]
    rw [l14Wins_b2 h hA]
    cases (List.range (lvw s.Wins).length).any (badU (lvw s.Wins) (s.Panes.map (·.Id))) <;> rfl
end Go.Px
namespace Go.Px
noncomputable def badX (s : IState) (i : Nat) : Bool := match s.Sess[i]? with
  | none => false
  | some x => !wordB x.Name || (atV (fun y => decide (y.Name = x.Name)) s.Sess != (i : Int) || !(x.Wins.any fun y => y == x.Active))
theorem ssw_len {F : Nat} {s : IState} (h : SG F s) (i : Nat) : (ssw (s.Sess.take i)).length ≤ 1048576 := Nat.le_trans (flat_take _ _ _) h.sg
theorem sessOk_b1 {F : Nat} {s : IState} (h : SG F s) : loopF (pI_State_sessOk_b1 (F + 70)) (F + 70) (s, [], [], s.Sess, (s.Sess.length : Int), 0) = some (if (List.range s.Sess.length).any (badX s) then Sum.inr false else Sum.inl (s, ssw s.Sess, [])) := by
  have hfu := h.f.f.fu; have hpl := h.f.f.pl; have hsl := h.f.f.sl
  have he : (ssw (s.Sess.take s.Sess.length)) = ssw s.Sess := by rw [List.take_length]
  rw [← he]
  refine loopF_scan (fun i => (s, ssw (s.Sess.take i), [], s.Sess, (s.Sess.length : Int), (i : Int))) s.Sess.length (badX s) (Sum.inr false) (Sum.inl (s, ssw (s.Sess.take s.Sess.length), [])) rfl (fun i hi => ?_) (by unfold pI_State_sessOk_b1; simp) (by omega)
  have hx : s.Sess[i]? = some s.Sess[i] := List.getElem?_eq_getElem hi
  have hmem := List.mem_of_getElem? hx
  obtain ⟨h1, h2, h3, h4, h5⟩ := idx_facts hx (by omega)
  have hsum := ssw_len h (i + 1)
  have hn := h.f.f.sn _ hmem
  have hw := h.f.f.sw _ hmem
  have hsucc := ssw_succ hx
  rw [hsucc] at hsum ⊢
  have hr : roomB K.int (ssw (s.Sess.take i) ++ s.Sess[i].Wins).length := roomB_of (by omega) (by decide)
  generalize ssw (s.Sess.take i) = A at hr ⊢
  have hbad : badX s i = (!wordB s.Sess[i].Name || (atV (fun y => decide (y.Name = s.Sess[i].Name)) s.Sess != (i : Int) || !(s.Sess[i].Wins.any fun y => y == s.Sess[i].Active))) := by unfold badX; rw [hx]
  generalize s.Sess[i] = x at hx h3 hmem hn hw hr hbad ⊢
  have hwo := pI_WordOk_eq (fuel := F + 70) (s := x.Name) (by omega) (by omega)
  have hsa := pI_SessAt_eq (fuel := F + 70) (s := s) (n := x.Name) (by omega) (by omega)
  have hco := contains_int (fuel := F + 70) (l := x.Wins) (n := x.Active) (by omega) (by omega)
  unfold pI_State_sessOk_b1
  simp only [h1, br_t, gd_t h2, h3, bd_s, hwo, hsa, hco]
  have hcomb : ∀ a b c : Bool, br (!a) (some (s, x, A, ([] : List Int), s.Sess, (s.Sess.length : Int), (i : Int), true)) (br b (some (s, x, A, [], s.Sess, (s.Sess.length : Int), (i : Int), true)) (some (s, x, A, [], s.Sess, (s.Sess.length : Int), (i : Int), !c))) = some (s, x, A, [], s.Sess, (s.Sess.length : Int), (i : Int), !a || (b || !c)) := by
    intro a b c; cases a <;> cases b <;> rfl
  rw [hcomb, bd_s, ← hbad]
  cases badX s i with
  | true => simp
  | false =>
    simp only [br_f]
    rw [h5, gd_t hr, gd_t h4]
    simp
theorem sessOk_b2 {F : Nat} {s : IState} (h : SG F s) (A : List Int) : loopF (pI_State_sessOk_b2 (F + 70)) (F + 70) (s, A, [], s.Wins, (s.Wins.length : Int), 0) = some (s, A, s.Wins.map (·.Id)) := by
  have hfu := h.f.f.fu; have hpl := h.f.f.pl; have hwl := h.f.f.wl
  refine loopF_run (B := pI_State_sessOk_b2 (F + 70)) (fuel := F + 70) (fun i => (s, A, (s.Wins.take i).map (·.Id), s.Wins, (s.Wins.length : Int), (i : Int))) s.Wins.length (s, A, s.Wins.map (·.Id)) rfl (fun i hi => ?_) (by unfold pI_State_sessOk_b2; simp) (by omega)
  obtain ⟨h1, h2, h3, h4, h5⟩ := idx_facts (List.getElem?_eq_getElem hi) (by omega)
  have hr : roomB K.int ((s.Wins.take i).map (·.Id) ++ [s.Wins[i].Id]).length := roomB_of (by simp; omega) (by decide)
  unfold pI_State_sessOk_b2
  simp only [h1, br_t, gd_t h2, h3, bd_s, gd_t hr, h5, gd_t h4]
  rw [take_succ_get (List.getElem?_eq_getElem hi), List.map_append]
  rfl
theorem pI_sessOk_eq {F : Nat} {s : IState} (h : SG F s) : pI_State_sessOk (F + 70) s = some (!(List.range s.Sess.length).any (badX s) && (decide ((s.Sess.length : Int) ≤ 8) && onceB (ssw s.Sess) (s.Wins.map (·.Id)))) := by
  have hfu := h.f.f.fu; have hpl := h.f.f.pl; have hwl := h.f.f.wl
  unfold pI_State_sessOk
  rw [sessOk_b1 h]
  cases (List.range s.Sess.length).any (badX s) with
  | true => rfl
  | false =>
    simp only [Bool.false_eq_true, if_false, jn_l]
    have hsg : (ssw s.Sess).length ≤ 1048576 := h.sg
    rw [sessOk_b2 h, bd_s, pI_once_eq hsg (by simp; omega) (by omega)]
    cases decide ((s.Sess.length : Int) ≤ 8) <;> rfl
theorem l14Sess_b1 {F : Nat} {s : IState} (h : SG F s) : loopF (pS_l14Sess_b1 (F + 70)) (F + 70) (s, [], s.Sess, (s.Sess.length : Int), 0) = some (if (List.range s.Sess.length).any (badX s) then Sum.inr false else Sum.inl (s, ssw s.Sess)) := by
  have hfu := h.f.f.fu; have hpl := h.f.f.pl; have hsl := h.f.f.sl
  have he : (ssw (s.Sess.take s.Sess.length)) = ssw s.Sess := by rw [List.take_length]
  rw [← he]
  refine loopF_scan (fun i => (s, ssw (s.Sess.take i), s.Sess, (s.Sess.length : Int), (i : Int))) s.Sess.length (badX s) (Sum.inr false) (Sum.inl (s, ssw (s.Sess.take s.Sess.length))) rfl (fun i hi => ?_) (by unfold pS_l14Sess_b1; simp) (by omega)
  have hx : s.Sess[i]? = some s.Sess[i] := List.getElem?_eq_getElem hi
  have hmem := List.mem_of_getElem? hx
  obtain ⟨h1, h2, h3, h4, h5⟩ := idx_facts hx (by omega)
  have hsum := ssw_len h (i + 1)
  have hn := h.f.f.sn _ hmem
  have hw := h.f.f.sw _ hmem
  have hsucc := ssw_succ hx
  rw [hsucc] at hsum ⊢
  have hr : roomB K.int (ssw (s.Sess.take i) ++ s.Sess[i].Wins).length := roomB_of (by omega) (by decide)
  generalize ssw (s.Sess.take i) = A at hr ⊢
  have hbad : badX s i = (!wordB s.Sess[i].Name || (atV (fun y => decide (y.Name = s.Sess[i].Name)) s.Sess != (i : Int) || !(s.Sess[i].Wins.any fun y => y == s.Sess[i].Active))) := by unfold badX; rw [hx]
  generalize s.Sess[i] = x at hx h3 hmem hn hw hr hbad ⊢
  have hwo := pS_WordOk_eq (fuel := F + 70) (s := x.Name) (by omega) (by omega)
  have hsa := pS_SessAt_eq (fuel := F + 70) (s := s) (n := x.Name) (by omega) (by omega)
  have hco := hasInt_eq (fuel := F + 70) (l := x.Wins) (n := x.Active) (by omega) (by omega)
  unfold pS_l14Sess_b1
  simp only [h1, br_t, gd_t h2, h3, bd_s, hwo, hsa, hco]
  have hcomb : ∀ a b c : Bool, br (!a) (some (s, x, A, s.Sess, (s.Sess.length : Int), (i : Int), true)) (br b (some (s, x, A, s.Sess, (s.Sess.length : Int), (i : Int), true)) (some (s, x, A, s.Sess, (s.Sess.length : Int), (i : Int), !c))) = some (s, x, A, s.Sess, (s.Sess.length : Int), (i : Int), !a || (b || !c)) := by
    intro a b c; cases a <;> cases b <;> rfl
  rw [hcomb, bd_s, ← hbad]
  cases badX s i with
  | true => simp
  | false =>
    simp only [br_f]
    rw [h5, gd_t hr, gd_t h4]
    simp
theorem l14Sess_b2 {F : Nat} {s : IState} (h : SG F s) {A : List Int} (hA : A.length ≤ 1048576) : loopF (pS_l14Sess_b2 (F + 70)) (F + 70) (s, A, (A.length : Int), 0) = some (if (List.range A.length).any (badU A (s.Wins.map (·.Id))) then Sum.inr false else Sum.inl (s, A)) := by
  have hfu := h.f.f.fu; have hpl := h.f.f.pl; have hwl := h.f.f.wl
  refine loopF_scan (B := pS_l14Sess_b2 (F + 70)) (fuel := F + 70) (fun i => (s, A, (A.length : Int), (i : Int))) A.length (badU A (s.Wins.map (·.Id))) (Sum.inr false) (Sum.inl (s, A)) rfl (fun i hi => ?_) (by unfold pS_l14Sess_b2; simp) (by omega)
  have hx : A[i]? = some A[i] := List.getElem?_eq_getElem hi
  obtain ⟨h1, h2, h3, h4, h5⟩ := idx_facts hx (by omega)
  have hbad : badU A (s.Wins.map (·.Id)) i = (((A.take i).any fun y => y == A[i]) || !(s.Wins.any fun y => y.Id == A[i])) := by
    unfold badU; rw [hx]; simp only [List.any_map]; rfl
  generalize A[i] = x at hx h3 hbad
  have hco := hasInt_eq (fuel := F + 70) (l := A.take i) (n := x) (by rw [List.length_take]; omega) (by rw [List.length_take]; omega)
  have hpa := pS_WinAt_eq (fuel := F + 70) (s := s) (n := x) (by omega) (by omega)
  unfold pS_l14Sess_b2
  simp only [h1, br_t, gd_t h2, Nat.zero_add, h3, bd_s, gd_p (show (0 : Int) ≤ (i : Int) ∧ (i : Int) ≤ (A.length : Int) from ⟨by omega, by omega⟩)]
  rw [show viewL false A 0 ((i : Int).toNat - 0) = A.take i from viewL_take, hco, bd_s, hpa, bd_s, atV_neg]
  have hcomb : ∀ a b : Bool, br a (some (s, A, (A.length : Int), (i : Int), true)) (some (s, A, (A.length : Int), (i : Int), !b)) = some (s, A, (A.length : Int), (i : Int), a || !b) := by
    intro a b; cases a <;> rfl
  rw [hcomb, bd_s, ← hbad]
  cases badU A (s.Wins.map (·.Id)) i with
  | true => simp
  | false => simp only [br_f]; rw [h5, gd_t h4]; simp
theorem pS_l14Sess_eq {F : Nat} {s : IState} (h : SG F s) : pS_l14Sess (F + 70) s = some (!(List.range s.Sess.length).any (badX s) && (!(List.range (ssw s.Sess).length).any (badU (ssw s.Sess) (s.Wins.map (·.Id))) && ((ssw s.Sess).length : Int) == (s.Wins.length : Int))) := by
  unfold pS_l14Sess
  rw [l14Sess_b1 h]
  cases (List.range s.Sess.length).any (badX s) with
  | true => rfl
  | false =>
    simp only [Bool.false_eq_true, if_false, jn_l]
    have hsg : (ssw s.Sess).length ≤ 1048576 := h.sg
    rw [l14Sess_b2 h hsg]
    cases (List.range (ssw s.Sess).length).any (badU (ssw s.Sess) (s.Wins.map (·.Id))) <;> rfl
end Go.Px
namespace Go.Px
theorem any_range {n : Nat} {bad : Nat → Bool} : (List.range n).any bad = false ↔ ∀ i, i < n → bad i = false := by
  rw [List.any_eq_false]
  constructor
  · intro h i hi
    have := h i (List.mem_range.2 hi)
    simpa using this
  · intro h i hi
    rw [h i (List.mem_range.1 hi)]; simp
def PanOk (s : IState) : Prop := ∀ i p, s.Panes[i]? = some p → paneB p = true ∧ p.Id < s.Next ∧ prevB (s.Panes.map (·.Id)) i p.Id = false ∧ p.Term.S.Limit = s.Limit ∧ (p.Life == 1 && liveG (s.Panes.take i) p.Pid) = false
def DisOk (s : IState) : Prop := ∀ p ∈ s.Panes, ∀ w ∈ s.Wins, w.Id ≠ p.Id
def AreaOk (s : IState) : Prop := ∀ p ∈ s.Panes, p.Term.S.W = (areaV s p.Id).1 ∧ p.Term.S.H = (areaV s p.Id).2
def WinOk (s : IState) : Prop := ∀ i w, s.Wins[i]? = some w → (placesV w.Tree s.W s.H).2 = true ∧ 1 ≤ w.Id ∧ w.Id < s.Next ∧ prevB (s.Wins.map (·.Id)) i w.Id = false ∧ wordB w.Name = true ∧ ((lvs w.Tree).any fun y => y == w.Active) = true
theorem badP_iff (s : IState) : (List.range s.Panes.length).any (badP s) = false ↔ PanOk s ∧ DisOk s := by
  rw [any_range]
  constructor
  · intro h
    have h' : ∀ i p, s.Panes[i]? = some p → _ := fun i p hp => by
      have h1 := h i (List.getElem?_eq_some_iff.1 hp).1
      unfold badP at h1
      rw [hp] at h1
      simp only [Bool.or_eq_false_iff, Bool.not_eq_false', decide_eq_false_iff_not, Int.not_le, bne_eq_false_iff_eq] at h1
      exact h1
    refine ⟨fun i p hp => ?_, fun p hp w hw e => ?_⟩
    · obtain ⟨⟨a, b, c, d, e⟩, f⟩ := h' i p hp
      exact ⟨a, b, c, e, f⟩
    · obtain ⟨i, hi⟩ := List.getElem?_of_mem hp
      obtain ⟨⟨a, b, c, d, _⟩, f⟩ := h' i p hi
      exact absurd (beq_iff_eq.2 e) (List.any_eq_false.1 d w hw)
  · rintro ⟨h, hd⟩ i hi
    have hp : s.Panes[i]? = some s.Panes[i] := List.getElem?_eq_getElem hi
    obtain ⟨a, b, c, e, f⟩ := h i _ hp
    unfold badP
    rw [hp]
    simp only [Bool.or_eq_false_iff, Bool.not_eq_false', decide_eq_false_iff_not, Int.not_le, bne_eq_false_iff_eq]
    exact ⟨⟨a, b, c, List.any_eq_false.2 fun w hw => by simpa using hd _ (List.getElem_mem hi) w hw, e⟩, f⟩
theorem badQ_iff (s : IState) : (List.range s.Panes.length).any (badQ s) = false ↔ PanOk s ∧ AreaOk s := by
  rw [any_range]
  constructor
  · intro h
    have h' : ∀ i p, s.Panes[i]? = some p → _ := fun i p hp => by
      have h1 := h i (List.getElem?_eq_some_iff.1 hp).1
      unfold badQ at h1
      rw [hp] at h1
      simp only [Bool.or_eq_false_iff, Bool.not_eq_false', decide_eq_false_iff_not, Int.not_le, bne_eq_false_iff_eq] at h1
      exact h1
    refine ⟨fun i p hp => ?_, fun p hp => ?_⟩
    · obtain ⟨⟨⟨a, b, c⟩, d, e, g⟩, f⟩ := h' i p hp
      exact ⟨a, b, c, g, f⟩
    · obtain ⟨i, hi⟩ := List.getElem?_of_mem hp
      obtain ⟨⟨⟨a, b, c⟩, d, e, g⟩, f⟩ := h' i p hi
      exact ⟨d, e⟩
  · rintro ⟨h, hd⟩ i hi
    have hp : s.Panes[i]? = some s.Panes[i] := List.getElem?_eq_getElem hi
    obtain ⟨a, b, c, e, f⟩ := h i _ hp
    obtain ⟨d, g⟩ := hd _ (List.getElem_mem hi)
    unfold badQ
    rw [hp]
    simp only [Bool.or_eq_false_iff, Bool.not_eq_false', decide_eq_false_iff_not, Int.not_le, bne_eq_false_iff_eq]
    exact ⟨⟨⟨a, b, c⟩, d, g, e⟩, f⟩
theorem badW1_iff (s : IState) : (List.range s.Wins.length).any (badW1 s) = false ↔ WinOk s := by
  rw [any_range]
  constructor
  · intro h i w hw
    have h1 := h i (List.getElem?_eq_some_iff.1 hw).1
    unfold badW1 at h1
    rw [hw] at h1
    simp only [Bool.or_eq_false_iff, Bool.not_eq_false', decide_eq_false_iff_not, Int.not_le, Int.not_lt] at h1
    obtain ⟨a, b, c, d, e, f⟩ := h1
    exact ⟨e, a, b, c, d, f⟩
  · intro h i hi
    have hw : s.Wins[i]? = some s.Wins[i] := List.getElem?_eq_getElem hi
    obtain ⟨e, a, b, c, d, f⟩ := h i _ hw
    unfold badW1
    rw [hw]
    simp only [Bool.or_eq_false_iff, Bool.not_eq_false', decide_eq_false_iff_not, Int.not_le, Int.not_lt]
    exact ⟨a, b, c, d, e, f⟩
theorem badW2_iff (s : IState) : (List.range s.Wins.length).any (badW2 s) = false ↔ WinOk s ∧ DisOk s := by
  have hl : ∀ w : IWin, (placesV w.Tree s.W s.H).2 = true → leavesV w.Tree = lvs w.Tree := fun w hp => by unfold leavesV; rw [if_pos (placesV_true hp)]
  rw [any_range]
  constructor
  · intro h
    have h' : ∀ i w, s.Wins[i]? = some w → _ := fun i w hp => by
      have h1 := h i (List.getElem?_eq_some_iff.1 hp).1
      unfold badW2 at h1
      rw [hp] at h1
      simp only [Bool.or_eq_false_iff, Bool.not_eq_false', decide_eq_false_iff_not, Int.not_le, Int.not_lt] at h1
      exact h1
    refine ⟨fun i w hw => ?_, fun p hp w hw e => ?_⟩
    · obtain ⟨a, b, c, d, e, f, g⟩ := h' i w hw
      rw [hl w a] at g
      exact ⟨a, b, c, d, f, g⟩
    · obtain ⟨i, hi⟩ := List.getElem?_of_mem hw
      obtain ⟨a, b, c, d, q, f, g⟩ := h' i w hi
      exact absurd (beq_iff_eq.2 e.symm) (List.any_eq_false.1 q p hp)
  · rintro ⟨h, hd⟩ i hi
    have hw : s.Wins[i]? = some s.Wins[i] := List.getElem?_eq_getElem hi
    obtain ⟨a, b, c, d, f, g⟩ := h i _ hw
    unfold badW2
    rw [hw]
    simp only [Bool.or_eq_false_iff, Bool.not_eq_false', decide_eq_false_iff_not, Int.not_le, Int.not_lt]
    exact ⟨a, b, c, d, List.any_eq_false.2 fun p hp => by simpa using fun e => hd p hp _ (List.getElem_mem hi) e.symm, f, by rw [hl _ a]; exact g⟩
theorem badU_iff {a b : List Int} (hb : b.Nodup) : ((List.range a.length).any (badU a b) = false ∧ a.length = b.length) ↔ a.Perm b := by
  rw [any_range]
  constructor
  · rintro ⟨h, hl⟩
    have h' : ∀ i x, a[i]? = some x → x ∉ a.take i ∧ x ∈ b := fun i x hx => by
      have h1 := h i (List.getElem?_eq_some_iff.1 hx).1
      unfold badU at h1
      rw [hx] at h1
      simp only [Bool.or_eq_false_iff, Bool.not_eq_false'] at h1
      obtain ⟨h2, h3⟩ := h1
      refine ⟨fun hm => absurd (beq_self_eq_true x) (List.any_eq_false.1 h2 x hm), ?_⟩
      obtain ⟨y, hy, e⟩ := List.any_eq_true.1 h3
      rw [← beq_iff_eq.1 e]; exact hy
    refine perm_of (List.pairwise_iff_getElem.2 fun i j hi hj hij e => ?_) hl fun x hx => ?_
    · refine (h' j _ (List.getElem?_eq_getElem hj)).1 ?_
      rw [← e]
      exact List.mem_take_iff_getElem.2 ⟨i, by omega, rfl⟩
    · obtain ⟨i, hi⟩ := List.getElem?_of_mem hx
      exact (h' i x hi).2
  · intro h
    have ha : a.Nodup := h.nodup_iff.2 hb
    refine ⟨fun i hi => ?_, h.length_eq⟩
    unfold badU
    rw [List.getElem?_eq_getElem hi]
    simp only [Bool.or_eq_false_iff, Bool.not_eq_false']
    refine ⟨List.any_eq_false.2 fun y hy e => ?_, List.any_eq_true.2 ⟨a[i], h.mem_iff.1 (List.getElem_mem hi), beq_self_eq_true _⟩⟩
    obtain ⟨j, hj, e'⟩ := List.mem_take_iff_getElem.1 hy
    exact List.pairwise_iff_getElem.1 ha j i (by omega) hi (by omega) (e'.trans (beq_iff_eq.1 e))
theorem asc_lt {l : List Int} (h : ∀ (i : Nat) x, l[i]? = some x → prevB l i x = false) : ∀ (j i : Nat) (x y : Int), i < j → l[i]? = some x → l[j]? = some y → x < y := by
  intro j
  induction j with
  | zero => intro i x y hij; omega
  | succ j ih =>
    intro i x y hij hx hy
    have hj : j < l.length := by have := (List.getElem?_eq_some_iff.1 hy).1; omega
    have h1 := h (j + 1) y hy
    unfold prevB at h1
    simp only [List.getElem?_eq_getElem hj, decide_eq_false_iff_not, Int.not_le] at h1
    by_cases e : i = j
    · subst e
      rw [List.getElem?_eq_getElem hj] at hx; cases hx; exact h1
    · have := ih i x l[j] (by omega) hx (List.getElem?_eq_getElem hj)
      omega
theorem asc_nodup {l : List Int} (h : ∀ (i : Nat) x, l[i]? = some x → prevB l i x = false) : l.Nodup :=
  List.pairwise_iff_getElem.2 fun i j hi hj hij e => by
    have := asc_lt h j i _ _ hij (List.getElem?_eq_getElem hi) (List.getElem?_eq_getElem hj)
    omega
theorem PanOk.nodup {s : IState} (h : PanOk s) : (s.Panes.map (·.Id)).Nodup := asc_nodup fun i x hx => by
  rw [List.getElem?_map] at hx
  obtain ⟨p, hp, rfl⟩ := Option.map_eq_some_iff.1 hx
  exact (h i p hp).2.2.1
theorem WinOk.nodup {s : IState} (h : WinOk s) : (s.Wins.map (·.Id)).Nodup := asc_nodup fun i x hx => by
  rw [List.getElem?_map] at hx
  obtain ⟨p, hp, rfl⟩ := Option.map_eq_some_iff.1 hx
  exact (h i p hp).2.2.2.1
noncomputable def areaB (s : IState) (p : IPane) : Bool := p.Term.S.W != (areaV s p.Id).1 || p.Term.S.H != (areaV s p.Id).2
theorem areaB_iff (s : IState) : s.Panes.any (areaB s) = false ↔ AreaOk s := by
  rw [List.any_eq_false]
  constructor
  · intro h p hp
    have := h p hp
    unfold areaB at this
    simpa using this
  · intro h p hp
    have := h p hp
    unfold areaB
    simpa using this
noncomputable def stateB (s : IState) : Bool := isSizeB s.W s.H && ((decide (0 ≤ s.Limit) && decide (s.Limit ≤ 100)) && ((decide (1 ≤ s.Next) && decide (s.Next ≤ 1000000)) && ((!(List.range s.Panes.length).any (badP s) && decide ((s.Panes.length : Int) ≤ 24)) && ((!(List.range s.Wins.length).any (badW1 s) && (decide ((s.Wins.length : Int) ≤ 12) && onceB (lvw s.Wins) (s.Panes.map (·.Id)))) && ((!(List.range s.Sess.length).any (badX s) && (decide ((s.Sess.length : Int) ≤ 8) && onceB (ssw s.Sess) (s.Wins.map (·.Id)))) && !s.Panes.any (areaB s))))))
theorem pI_StateOk_1_eq {F : Nat} {s : IState} {p : IPane} (h : SG F s) : pI_StateOk_1 (F + 70) p s = some (areaB s p, s) := by
  unfold pI_StateOk_1 areaB
  rw [pI_Area_eq h.f.f, bd_s]
  generalize areaV s p.Id = v
  obtain ⟨a, b⟩ := v
  simp only
  cases (p.Term.S.W != a) <;> rfl
theorem containsArea_eq {F : Nat} {s : IState} (h : SG F s) : pG_slices_ContainsFunc_IPane_I_StateOk_1 (F + 70) s.Panes s = some (s.Panes.any (areaB s), s) := by
  have hfu := h.f.f.fu; have hpl := h.f.f.pl
  unfold pG_slices_ContainsFunc_IPane_I_StateOk_1 pG_slices_IndexFunc_IPane_I_StateOk_1
  have hh := loopF_fnd (fuel := F + 70) (B := pG_slices_IndexFunc_IPane_I_StateOk_1_b1 (F + 70)) (fun i => (s, s.Panes, (s.Panes.length : Int), (i : Int))) s.Panes (areaB s) (fun i => .inr ((i : Int), s)) (.inl s) (v := (s, s.Panes, (s.Panes.length : Int), 0)) rfl (fun i x hx => by
    obtain ⟨h1, h2, h3, h4, h5⟩ := idx_facts hx (by omega)
    unfold pG_slices_IndexFunc_IPane_I_StateOk_1_b1
    simp only [h1, br_t, gd_t h2, h3, bd_s, h5, gd_t h4, pI_StateOk_1_eq h]
    cases areaB s x <;> rfl) (by unfold pG_slices_IndexFunc_IPane_I_StateOk_1_b1; simp) (by omega)
  rw [hh, ← atV_nonneg]
  unfold atV
  cases s.Panes.findIdx? (areaB s) <;> rfl
theorem pI_StateOk_eq {F : Nat} {s : IState} (h : SG F s) : pI_StateOk (F + 70) s = some (stateB s) := by
  unfold pI_StateOk stateB
  simp only [pI_isSize_eq, pI_within_eq, pI_isId_eq, bd_s, pI_panesOk_eq h.f, pI_winsOk_eq h, pI_sessOk_eq h]
  have hcomb : ∀ a b c d e f : Bool, br (!a) (some (s, true)) (br (!b) (some (s, true)) (br (!c) (some (s, true)) (br (!d) (some (s, true)) (br (!e) (some (s, true)) (some (s, !f)))))) = some (s, !(a && (b && (c && (d && (e && f)))))) := by
    intro a b c d e f; cases a <;> cases b <;> cases c <;> cases d <;> cases e <;> rfl
  rw [hcomb, bd_s]
  simp only
  rw [containsArea_eq h, bd_s]
  have hfin : ∀ a b c d e f g : Bool, br (!(a && (b && (c && (d && (e && f)))))) (some false) (some (!g)) = some (a && (b && (c && (d && (e && (f && !g)))))) := by
    intro a b c d e f g; cases a <;> cases b <;> cases c <;> cases d <;> cases e <;> cases f <;> rfl
  exact hfin _ _ _ _ _ _ _
theorem pS_GridNew_eq {fuel : Nat} (w h : Int) (hf : 20000 < fuel) : ∃ g, pS_GridNew fuel w h = some (g, isSizeB w h) := by
  unfold pS_GridNew
  by_cases h1 : w < 1
  · exact ⟨IGrid.mk 0 0 [], by rw [decide_eq_true h1, show isSizeB w h = false by unfold isSizeB; rw [decide_eq_false (show ¬ 1 ≤ w by omega)]; rfl]; rfl⟩
  by_cases h2 : 120 < w
  · exact ⟨IGrid.mk 0 0 [], by rw [decide_eq_false h1, decide_eq_true h2, show isSizeB w h = false by unfold isSizeB; rw [decide_eq_false (show ¬ w ≤ 120 by omega)]; simp]; rfl⟩
  by_cases h3 : h < 1
  · exact ⟨IGrid.mk 0 0 [], by rw [decide_eq_false h1, decide_eq_false h2, decide_eq_true h3, show isSizeB w h = false by unfold isSizeB; rw [decide_eq_false (show ¬ 1 ≤ h by omega)]; simp]; rfl⟩
  by_cases h4 : 120 < h
  · exact ⟨IGrid.mk 0 0 [], by rw [decide_eq_false h1, decide_eq_false h2, decide_eq_false h3, decide_eq_true h4, show isSizeB w h = false by unfold isSizeB; rw [decide_eq_false (show ¬ h ≤ 120 by omega)]; simp]; rfl⟩
  have hm0 : 0 ≤ w * h := Int.mul_nonneg (by omega) (by omega)
  have hm1 : w * h ≤ 120 * 120 := Int.mul_le_mul (by omega) (by omega) (by omega) (by omega)
  have hk : inK IntKind.i64 (w * h) := inK64 (by omega) (by omega)
  rw [decide_eq_false h1, decide_eq_false h2, decide_eq_false h3, decide_eq_false h4]
  simp only [br_f, gd_t hk, bd_s]
  by_cases h5 : 4000 < w * h
  · exact ⟨IGrid.mk 0 0 [], by rw [decide_eq_true h5, show isSizeB w h = false by unfold isSizeB; rw [decide_eq_false (show ¬ w * h ≤ 4000 by omega)]; simp]; rfl⟩
  have hs : isSizeB w h = true := isSizeB_true.2 ⟨by omega, by omega, by omega, by omega, by omega⟩
  rw [decide_eq_false h5, hs, br_f]
  obtain ⟨n, hn⟩ := Int.eq_ofNat_of_zero_le hm0
  have key : loopF (pS_GridNew_b1 fuel) fuel (IGrid.mk 0 0 [], IGrid.mk w h [], w, h, 0) = some (IGrid.mk 0 0 [], IGrid.mk w h (List.replicate n (ICell.mk 32 (IAttr.mk 0 0 false false false)))) := by
    refine loopF_run (B := pS_GridNew_b1 fuel) (fuel := fuel) (fun i => (IGrid.mk 0 0 [], IGrid.mk w h (List.replicate i (ICell.mk 32 (IAttr.mk 0 0 false false false))), w, h, (i : Int))) n _ rfl (fun i hi => ?_) (by unfold pS_GridNew_b1; simp only [gd_t hk]; rw [hn]; simp) (by omega)
    have hr : roomB K.iCell (List.replicate i (ICell.mk 32 (IAttr.mk 0 0 false false false)) ++ [ICell.mk 32 (IAttr.mk 0 0 false false false)]).length := roomB_of (by simp; omega) (by decide)
    unfold pS_GridNew_b1 pS_l07Blank
    simp only [gd_t hk, bd_s]
    rw [hn, decide_eq_true (show (i : Int) < (n : Int) by omega), br_t, gd_t hr, gd_t (inK64 (v := (i : Int) + 1) (by omega) (by omega)), ← List.replicate_succ']
    rfl
  rw [key]
  exact ⟨_, rfl⟩
noncomputable def stateS (s : IState) : Bool := isSizeB s.W s.H && (!decide (s.Limit < 0) && (!decide (100 < s.Limit) && (!decide (s.Next < 1) && (!decide (1000000 < s.Next) && (!decide (24 < (s.Panes.length : Int)) && (!decide (12 < (s.Wins.length : Int)) && (!decide (8 < (s.Sess.length : Int)) && ((!(List.range s.Wins.length).any (badW2 s) && (!(List.range (lvw s.Wins).length).any (badU (lvw s.Wins) (s.Panes.map (·.Id))) && ((lvw s.Wins).length : Int) == (s.Panes.length : Int))) && ((!(List.range s.Sess.length).any (badX s) && (!(List.range (ssw s.Sess).length).any (badU (ssw s.Sess) (s.Wins.map (·.Id))) && ((ssw s.Sess).length : Int) == (s.Wins.length : Int))) && !(List.range s.Panes.length).any (badQ s))))))))))
theorem pS_StateOk_eq' {F : Nat} {s : IState} (h : SG F s) : pS_StateOk (F + 70) s = some (stateS s) := by
  have hfu := h.f.f.fu
  obtain ⟨g, hg⟩ := pS_GridNew_eq (fuel := F + 70) s.W s.H (by omega)
  unfold pS_StateOk stateS
  simp only [hg, bd_s, pS_l14Wins_eq h, pS_l14Sess_eq h, pS_panes_eq h.f]
  have hcomb : ∀ a b c d e f g k : Bool, br (!a) (some (s, true)) (br b (some (s, true)) (br c (some (s, true)) (br d (some (s, true)) (br e (some (s, true)) (br f (some (s, true)) (br g (some (s, true)) (some (s, k)))))))) = some (s, !(a && (!b && (!c && (!d && (!e && (!f && (!g && !k)))))))) := by
    intro a b c d e f g k; cases a <;> cases b <;> cases c <;> cases d <;> cases e <;> cases f <;> cases g <;> cases k <;> rfl
  rw [hcomb, bd_s]
  simp only
  rw [pS_l14Wins_eq h, bd_s, pS_l14Sess_eq h, bd_s, pS_panes_eq h.f, bd_s]
  have hfin : ∀ z a b c : Bool, br (!z) (some false) (bd (br a (br b (some c) (some false)) (some false)) fun x => some x) = some (z && (a && (b && c))) := by
    intro z a b c; cases z <;> cases a <;> cases b <;> cases c <;> rfl
  rw [hfin]
  simp only [Bool.and_assoc]
theorem stateB_eq (s : IState) : stateS s = stateB s := by
  rw [Bool.eq_iff_iff]
  unfold stateS stateB
  simp only [Bool.and_eq_true, Bool.not_eq_true', badP_iff, badQ_iff, badW1_iff, badW2_iff, areaB_iff, once_perm, decide_eq_true_eq, decide_eq_false_iff_not, beq_iff_eq, Int.not_lt]
  constructor
  · rintro ⟨z, l1, l2, n1, n2, c1, c2, c3, ⟨⟨w, d⟩, u, ul⟩, ⟨x, v, vl⟩, p, a⟩
    exact ⟨z, ⟨by omega, by omega⟩, ⟨by omega, by omega⟩, ⟨⟨p, d⟩, by omega⟩, ⟨w, by omega, (badU_iff p.nodup).1 ⟨u, by simp; omega⟩⟩, ⟨x, by omega, (badU_iff w.nodup).1 ⟨v, by simp; omega⟩⟩, a⟩
  · rintro ⟨z, ⟨l1, l2⟩, ⟨n1, n2⟩, ⟨⟨p, d⟩, c1⟩, ⟨w, c2, u⟩, ⟨x, c3, v⟩, a⟩
    obtain ⟨u1, u2⟩ := (badU_iff p.nodup).2 u
    obtain ⟨v1, v2⟩ := (badU_iff w.nodup).2 v
    rw [List.length_map] at u2 v2
    exact ⟨z, by omega, by omega, by omega, by omega, by omega, by omega, by omega, ⟨⟨w, d⟩, u1, by omega⟩, ⟨x, v1, by omega⟩, p, a⟩
theorem pS_StateOk_eq {F : Nat} {s : IState} (h : SG F s) : pS_StateOk (F + 70) s = some (stateB s) := by rw [pS_StateOk_eq' h, stateB_eq]
end Go.Px
namespace Go.Px
structure StB (s : IState) : Prop where
  win : WinOk s
  c2 : s.Wins.length ≤ 12
  ses : ∀ (i : Nat) (x : ISess), s.Sess[i]? = some x → wordB x.Name = true
  p2 : (ssw s.Sess).Perm (s.Wins.map (·.Id))
theorem stB_of {s : IState} (h : stateB s = true) : StB s := by
  unfold stateB at h
  simp only [Bool.and_eq_true, Bool.not_eq_true', badP_iff, badQ_iff, badW1_iff, badW2_iff, areaB_iff, once_perm, decide_eq_true_eq] at h
  obtain ⟨z, ⟨l1, l2⟩, ⟨n1, n2⟩, ⟨⟨p, d⟩, c1⟩, ⟨w, c2, u⟩, ⟨x, c3, v⟩, a⟩ := h
  refine ⟨w, by omega, fun i y hy => ?_, v⟩
  have h1 := any_range.1 x i (List.getElem?_eq_some_iff.1 hy).1
  unfold badX at h1
  rw [hy] at h1
  simp only [Bool.or_eq_false_iff, Bool.not_eq_false'] at h1
  exact h1.1
theorem wordB_size {b : ByteArray} (h : wordB b = true) : b.size ≤ 12 := by
  unfold wordB at h
  simp only [Bool.and_eq_true, decide_eq_true_eq] at h
  omega
def winNm (s : IState) (n : Int) : ByteArray := match s.Wins.find? (fun w => w.Id == n) with
  | some w => w.Name
  | none => ByteArray.mk #[]
def stepT (s : IState) (act : Int) (v : ByteArray) (n : Int) : ByteArray := if (n == act) = true then v ++ ByteArray.mk #[32] ++ numT n ++ ByteArray.mk #[58] ++ winNm s n ++ ByteArray.mk #[42] else v ++ ByteArray.mk #[32] ++ numT n ++ ByteArray.mk #[58] ++ winNm s n
theorem win_find {s : IState} (h : StB s) {n : Int} (hn : n ∈ s.Wins.map (·.Id)) : ∃ (i : Nat) (w : IWin), atV (fun y => y.Id == n) s.Wins = (i : Int) ∧ s.Wins[i]? = some w ∧ winNm s n = w.Name ∧ w.Name.size ≤ 12 := by
  cases hf : s.Wins.findIdx? (fun y => y.Id == n) with
  | none =>
    obtain ⟨w, hw, e⟩ := List.mem_map.1 hn
    have := List.findIdx?_eq_none_iff.1 hf w hw
    simp [e] at this
  | some i =>
    obtain ⟨w, hw, hq⟩ := findIdx_get hf
    refine ⟨i, w, atV_some hf, hw, ?_, wordB_size (h.win i w hw).2.2.2.2.1⟩
    unfold winNm
    obtain ⟨hi, _, h3⟩ := List.findIdx?_eq_some_iff_getElem.1 hf
    rw [find_at hw hq (fun j y hj hy => by
      have := h3 j hj
      obtain ⟨hj', e⟩ := List.getElem?_eq_some_iff.1 hy
      rw [e] at this; simpa using this)]
theorem stepT_size {s : IState} (h : StB s) {n act : Int} (hn : n ∈ s.Wins.map (·.Id)) (v : ByteArray) : (stepT s act v n).size ≤ v.size + 30 := by
  obtain ⟨i, w, _, _, e, hs⟩ := win_find h hn
  have := numT_size n
  have h1 : (ByteArray.mk #[32]).size = 1 := rfl
  have h2 : (ByteArray.mk #[58]).size = 1 := rfl
  have h3 : (ByteArray.mk #[42]).size = 1 := rfl
  unfold stepT
  rw [e]
  split <;> simp only [ByteArray.size_append] <;> omega
theorem fold_size {s : IState} (h : StB s) {act : Int} : ∀ (l : List Int) (v : ByteArray), (∀ n ∈ l, n ∈ s.Wins.map (·.Id)) → (l.foldl (stepT s act) v).size ≤ v.size + 30 * l.length
  | [], v, _ => by simp
  | n :: l, v, hl => by
    have h1 := fold_size h (act := act) l (stepT s act v n) fun m hm => hl m (List.mem_cons_of_mem _ hm)
    have h2 := stepT_size h (act := act) (hl n (List.mem_cons_self ..)) v
    rw [List.foldl_cons, List.length_cons]
    omega
theorem sess_ids {s : IState} (h : StB s) {x : ISess} (hx : x ∈ s.Sess) : ∀ n ∈ x.Wins, n ∈ s.Wins.map (·.Id) := fun n hn => by
  refine h.p2.mem_iff.1 ?_
  unfold ssw
  exact List.mem_flatMap.2 ⟨x, hx, hn⟩
theorem pI_status_loop {F : Nat} {s : IState} (h : SG F s) (hb : StB s) {x : ISess} (hx : x ∈ s.Sess) (v0 : ByteArray) (hv : v0.size ≤ 1000) : loopF (pI_State_status_b1 (F + 70)) (F + 70) (s, x, v0, x.Wins, (x.Wins.length : Int), 0) = some (x.Wins.foldl (stepT s x.Active) v0) := by
  have hfu := h.f.f.fu; have hwl := h.f.f.wl
  have hsw := h.f.f.sw x hx
  have he : x.Wins.take x.Wins.length = x.Wins := List.take_length
  refine loopF_run (B := pI_State_status_b1 (F + 70)) (fuel := F + 70) (fun i => (s, x, (x.Wins.take i).foldl (stepT s x.Active) v0, x.Wins, (x.Wins.length : Int), (i : Int))) x.Wins.length _ rfl (fun i hi => ?_) (by unfold pI_State_status_b1; simp) (by omega)
  obtain ⟨h1, h2, h3, h4, h5⟩ := idx_facts (List.getElem?_eq_getElem hi) (by omega)
  have hids := sess_ids hb hx
  have hsz := fold_size hb (act := x.Active) (x.Wins.take i) v0 fun n hn => hids n (List.mem_of_mem_take hn)
  rw [take_succ_get (List.getElem?_eq_getElem hi), List.foldl_append, List.foldl_cons, List.foldl_nil]
  have hn := hids _ (List.getElem_mem hi)
  rw [List.length_take] at hsz
  generalize (x.Wins.take i).foldl (stepT s x.Active) v0 = v at hsz ⊢
  generalize x.Wins[i] = n at h3 hn ⊢
  obtain ⟨k, w, e1, e2, e3, e4⟩ := win_find hb hn
  have hk := (List.getElem?_eq_some_iff.1 e2).1
  have hnt := numT_size n
  have z1 : (ByteArray.mk #[32]).size = 1 := rfl
  have z2 : (ByteArray.mk #[58]).size = 1 := rfl
  have z3 : (ByteArray.mk #[42]).size = 1 := rfl
  have hwa := pI_WinAt_eq (fuel := F + 70) (s := s) (n := n) (by omega) (by omega)
  unfold pI_State_status_b1
  simp only [h1, br_t]
  rw [gd_t h2, h3, bd_s, pI_NumText_eq, bd_s]
  rw [gd_p (by rw [z1]; omega), gd_p (by simp only [ByteArray.size_append]; omega), hwa, bd_s, e1, gd_p ⟨by omega, by omega⟩, show (k : Int).toNat = k by omega, e2, bd_s]
  rw [gd_p (by simp only [ByteArray.size_append]; omega), gd_p (by simp only [ByteArray.size_append]; omega)]
  unfold stepT
  rw [e3]
  cases (n == x.Active) with
  | true =>
    rw [br_t, gd_p (by simp only [ByteArray.size_append]; omega), bd_s]
    simp only
    rw [h5, gd_t h4]
    simp only [if_true, ByteArray.append_assoc]
  | false =>
    rw [br_f, bd_s]
    simp only
    rw [h5, gd_t h4]
    simp only [Bool.false_eq_true, if_false, ByteArray.append_assoc]
theorem pS_status_loop {F : Nat} {s : IState} (h : SG F s) (hb : StB s) {x : ISess} {j : Nat} (hx : s.Sess[j]? = some x) (v0 : ByteArray) (hv : v0.size ≤ 1000) : loopF (pS_Status_b1 (F + 70)) (F + 70) (s, (j : Int), v0, x.Wins, (x.Wins.length : Int), 0) = some (x.Wins.foldl (stepT s x.Active) v0) := by
  have hfu := h.f.f.fu; have hwl := h.f.f.wl; have hsl := h.f.f.sl
  have hmem := List.mem_of_getElem? hx
  have hj := (List.getElem?_eq_some_iff.1 hx).1
  have hsw := h.f.f.sw x hmem
  have he : x.Wins.take x.Wins.length = x.Wins := List.take_length
  refine loopF_run (B := pS_Status_b1 (F + 70)) (fuel := F + 70) (fun i => (s, (j : Int), (x.Wins.take i).foldl (stepT s x.Active) v0, x.Wins, (x.Wins.length : Int), (i : Int))) x.Wins.length _ rfl (fun i hi => ?_) (by unfold pS_Status_b1; simp) (by omega)
  obtain ⟨h1, h2, h3, h4, h5⟩ := idx_facts (List.getElem?_eq_getElem hi) (by omega)
  have hids := sess_ids hb hmem
  have hsz := fold_size hb (act := x.Active) (x.Wins.take i) v0 fun n hn => hids n (List.mem_of_mem_take hn)
  rw [take_succ_get (List.getElem?_eq_getElem hi), List.foldl_append, List.foldl_cons, List.foldl_nil]
  have hn := hids _ (List.getElem_mem hi)
  rw [List.length_take] at hsz
  generalize (x.Wins.take i).foldl (stepT s x.Active) v0 = v at hsz ⊢
  generalize x.Wins[i] = n at h3 hn ⊢
  obtain ⟨k, w, e1, e2, e3, e4⟩ := win_find hb hn
  have hk := (List.getElem?_eq_some_iff.1 e2).1
  have hnt := numT_size n
  have z1 : (ByteArray.mk #[32]).size = 1 := rfl
  have z2 : (ByteArray.mk #[58]).size = 1 := rfl
  have z3 : (ByteArray.mk #[42]).size = 1 := rfl
  have hwa := pS_WinAt_eq (fuel := F + 70) (s := s) (n := n) (by omega) (by omega)
  unfold pS_Status_b1
  simp only [h1, br_t]
  rw [gd_t h2, h3, bd_s, gd_p (by omega), pS_NumText_eq n (by omega), bd_s]
  rw [gd_p (by simp only [ByteArray.size_append]; omega), gd_p (by simp only [ByteArray.size_append]; omega), hwa, bd_s, e1, gd_p ⟨by omega, by omega⟩, show (k : Int).toNat = k by omega, e2, bd_s]
  rw [gd_p (by simp only [ByteArray.size_append]; omega), gd_p ⟨by omega, by omega⟩, show (j : Int).toNat = j by omega, hx, bd_s]
  unfold stepT
  rw [e3]
  cases (n == x.Active) with
  | true =>
    rw [br_t, gd_p (by simp only [ByteArray.size_append]; omega), bd_s]
    simp only
    rw [h5, gd_t h4]
    simp only [if_true]
  | false =>
    rw [br_f, bd_s]
    simp only
    rw [h5, gd_t h4]
    simp only [Bool.false_eq_true, if_false]
noncomputable def statusV (s : IState) (n : ByteArray) : ByteArray := if stateB s = true then (match s.Sess.find? (fun y => decide (y.Name = n)) with
    | none => ByteArray.mk #[]
    | some x => x.Wins.foldl (stepT s x.Active) (ByteArray.mk #[91] ++ n ++ ByteArray.mk #[93])) else ByteArray.mk #[]
theorem sess_find {s : IState} {n : ByteArray} {j : Nat} (hf : s.Sess.findIdx? (fun y => decide (y.Name = n)) = some j) : ∃ x, s.Sess[j]? = some x ∧ x.Name = n ∧ s.Sess.find? (fun y => decide (y.Name = n)) = some x := by
  obtain ⟨x, hx, hq⟩ := findIdx_get hf
  obtain ⟨hi, _, h3⟩ := List.findIdx?_eq_some_iff_getElem.1 hf
  refine ⟨x, hx, by simpa using hq, find_at hx hq (fun j y hj hy => by
    have := h3 j hj
    obtain ⟨hj', e⟩ := List.getElem?_eq_some_iff.1 hy
    rw [e] at this; simpa using this)⟩
theorem pI_Status_eq {F : Nat} {s : IState} {n : ByteArray} (h : SG F s) : pI_Status (F + 70) s n = some (statusV s n) := by
  have hfu := h.f.f.fu; have hsl := h.f.f.sl
  unfold pI_Status statusV
  rw [pI_SessAt_eq (by omega) (by omega), bd_s, pI_StateOk_eq h, bd_s]
  cases hb : stateB s with
  | false => rfl
  | true =>
    have hB := stB_of hb
    simp only [Bool.not_true, br_f, bd_s, if_true]
    cases hf : s.Sess.findIdx? (fun y => decide (y.Name = n)) with
    | none =>
      rw [atV_none hf, show s.Sess.find? (fun y => decide (y.Name = n)) = none from List.find?_eq_none.2 fun y hy => by rw [List.findIdx?_eq_none_iff.1 hf y hy]; simp]
      rfl
    | some j =>
      obtain ⟨x, hx, hn, hfd⟩ := sess_find hf
      have hj := (List.getElem?_eq_some_iff.1 hx).1
      have hw := wordB_size (hB.ses j x hx)
      have z1 : (ByteArray.mk #[91]).size = 1 := rfl
      have z2 : (ByteArray.mk #[93]).size = 1 := rfl
      rw [atV_some hf, hfd, show decide ((j : Int) < 0) = false by simp, br_f, gd_p ⟨by omega, by omega⟩, show (j : Int).toNat = j by omega, hx, bd_s]
      unfold pI_State_status
      rw [gd_p (by omega), gd_p (by simp only [ByteArray.size_append]; omega), pI_status_loop h hB (List.mem_of_getElem? hx) _ (by simp only [ByteArray.size_append]; omega), hn]
      rfl
theorem pS_Status_eq {F : Nat} {s : IState} {n : ByteArray} (h : SG F s) : pS_Status (F + 70) s n = some (statusV s n) := by
  have hfu := h.f.f.fu; have hsl := h.f.f.sl
  unfold pS_Status statusV
  rw [pS_SessAt_eq (by omega) (by omega), bd_s, pS_StateOk_eq h, bd_s]
  cases hb : stateB s with
  | false => rfl
  | true =>
    have hB := stB_of hb
    simp only [Bool.not_true, br_f, bd_s, if_true]
    cases hf : s.Sess.findIdx? (fun y => decide (y.Name = n)) with
    | none =>
      rw [atV_none hf, show s.Sess.find? (fun y => decide (y.Name = n)) = none from List.find?_eq_none.2 fun y hy => by rw [List.findIdx?_eq_none_iff.1 hf y hy]; simp]
      rfl
    | some j =>
      obtain ⟨x, hx, hn, hfd⟩ := sess_find hf
      have hj := (List.getElem?_eq_some_iff.1 hx).1
      have hw := wordB_size (hB.ses j x hx)
      rw [hn] at hw
      have z1 : (ByteArray.mk #[91]).size = 1 := rfl
      have z2 : (ByteArray.mk #[93]).size = 1 := rfl
      rw [atV_some hf, hfd, show decide ((j : Int) < 0) = false by simp, br_f, gd_p (by omega), gd_p (by simp only [ByteArray.size_append]; omega), gd_p ⟨by omega, by omega⟩, show (j : Int).toNat = j by omega, hx, bd_s, pS_status_loop h hB hx _ (by simp only [ByteArray.size_append]; omega), bd_s]
end Go.Px
namespace Go.Px
theorem set_take {α β : Type} {l : List α} {g : α → β} {o : List β} {i : Nat} {x : α} (hx : l[i]? = some x) (ho : o.length = l.length) : ((l.take i).map g ++ o.drop i).set i (g x) = (l.take (i + 1)).map g ++ o.drop (i + 1) := by
  have hi := (List.getElem?_eq_some_iff.1 hx).1
  have e : l.take (i + 1) = l.take i ++ [x] := by rw [List.take_add_one, hx]; rfl
  have ed : o.drop i = o[i]'(by omega) :: o.drop (i + 1) := by rw [List.drop_eq_getElem_cons (by omega)]
  have hl : ((l.take i).map g).length = i := by rw [List.length_map, List.length_take]; omega
  rw [e, ed, List.set_append_right _ _ (by omega), hl, Nat.sub_self, List.set_cons_zero, List.map_append, List.append_assoc]
  rfl
theorem loopF_set {α β O : Type} {B : List α × List β × Int → Option ((List α × List β × Int) ⊕ O)} (l : List α) (g : α → β) (out : List β → O) {o : List β} {fuel : Nat} (ho : o.length = l.length)
    (hB : ∀ (i : Nat) x (o : List β), l[i]? = some x → o.length = l.length → B (l, o, (i : Int)) = some (.inl (l, o.set i (g x), ((i + 1 : Nat) : Int)))) (hE : ∀ o, B (l, o, (l.length : Int)) = some (.inr (out o))) (hf : l.length < fuel) : loopF B fuel (l, o, 0) = some (out (l.map g)) := by
  have key : ∀ (n i fuel : Nat), l.length - i = n → i ≤ l.length → n < fuel → loopF B fuel (l, (l.take i).map g ++ o.drop i, (i : Int)) = some (out (l.map g)) := by
    intro n
    induction n with
    | zero =>
      intro i fuel hn hi hf
      obtain rfl : i = l.length := by omega
      cases fuel with
      | zero => omega
      | succ fuel => rw [loopF, hE, List.take_length, List.drop_eq_nil_of_le (by omega), List.append_nil]
    | succ n ih =>
      intro i fuel hn hi hf
      have hil : i < l.length := by omega
      cases fuel with
      | zero => omega
      | succ fuel =>
        rw [loopF, hB i l[i] _ (List.getElem?_eq_getElem hil) (by simp; omega), set_take (List.getElem?_eq_getElem hil) ho]
        exact ih (i + 1) fuel (by omega) (by omega) (by omega)
  have := key l.length 0 fuel (by omega) (by omega) hf
  simpa using this
theorem loopF_walk {V O : Type} {B : V → Option (V ⊕ O)} (f : Nat → V) (n : Nat) (E : O) {fuel : Nat} {v : V} (hv : v = f 0) (h : ∀ i, i < n → B (f i) = some (.inl (f (i + 1)))) (he : B (f n) = some (.inr E)) (hf : n < fuel) : loopF B fuel v = some E := by
  subst hv
  have key : ∀ (m i fuel : Nat), n - i = m → i ≤ n → m < fuel → loopF B fuel (f i) = some E := by
    intro m
    induction m with
    | zero =>
      intro i fuel hm hi hf
      obtain rfl : i = n := by omega
      cases fuel with
      | zero => omega
      | succ fuel => rw [loopF, he]
    | succ m ih =>
      intro i fuel hm hi hf
      cases fuel with
      | zero => omega
      | succ fuel =>
        rw [loopF, h i (by omega)]
        exact ih (i + 1) fuel (by omega) (by omega) (by omega)
  exact key n 0 fuel (by omega) (by omega) hf
theorem loopF_sz {α : Type} {B : List α × Int × Int → Option ((List α × Int × Int) ⊕ (Int ⊕ Int))} (l : List α) (P : α → Prop) {left : Int} {fuel : Nat} (h0 : 0 ≤ left) (h1 : left ≤ 1048576)
    (hB : ∀ (i : Nat) x k, l[i]? = some x → 0 ≤ k → k ≤ 1048576 → ∃ r, B (l, k, (i : Int)) = (if r < 0 then some (.inr (.inr (-1))) else some (.inl (l, r, ((i + 1 : Nat) : Int)))) ∧ r ≤ k ∧ (0 ≤ r → P x)) (hE : ∀ k, B (l, k, (l.length : Int)) = some (.inr (.inl k))) (hf : l.length < fuel) :
    loopF B fuel (l, left, 0) = some (.inr (-1)) ∨ ∃ r, loopF B fuel (l, left, 0) = some (.inl r) ∧ 0 ≤ r ∧ r ≤ left ∧ ∀ x ∈ l, P x := by
  have key : ∀ (n i fuel : Nat) (k : Int), l.length - i = n → i ≤ l.length → n < fuel → 0 ≤ k → k ≤ left → (∀ (j : Nat) x, j < i → l[j]? = some x → P x) → loopF B fuel (l, k, (i : Int)) = some (.inr (-1)) ∨ ∃ r, loopF B fuel (l, k, (i : Int)) = some (.inl r) ∧ 0 ≤ r ∧ r ≤ left ∧ ∀ x ∈ l, P x := by
    intro n
    induction n with
    | zero =>
      intro i fuel k hn hi hf hk0 hk1 hP
      obtain rfl : i = l.length := by omega
      cases fuel with
      | zero => omega
      | succ fuel =>
        refine .inr ⟨k, by rw [loopF, hE], hk0, hk1, fun x hx => ?_⟩
        obtain ⟨j, hj⟩ := List.getElem?_of_mem hx
        exact hP j x (List.getElem?_eq_some_iff.1 hj).1 hj
    | succ n ih =>
      intro i fuel k hn hi hf hk0 hk1 hP
      have hil : i < l.length := by omega
      cases fuel with
      | zero => omega
      | succ fuel =>
        obtain ⟨r, hb, hr, hp⟩ := hB i l[i] k (List.getElem?_eq_getElem hil) hk0 (by omega)
        rw [loopF, hb]
        by_cases hr0 : r < 0
        · rw [if_pos hr0]; exact .inl rfl
        · rw [if_neg hr0]
          refine ih (i + 1) fuel r (by omega) (by omega) (by omega) (by omega) (by omega) fun j x hj hx => ?_
          by_cases hji : j = i
          · subst hji
            rw [List.getElem?_eq_getElem hil] at hx; cases hx
            exact hp (by omega)
          · exact hP j x (by omega) hx
  exact key l.length 0 fuel left (by omega) (by omega) hf h0 (by omega) fun j x hj => by omega
end Go.Px
namespace Go.Px
def tAttr (x : LAttr) : IAttr := IAttr.mk x.Fg x.Bg x.Bold x.Under x.Turn
theorem to_Attr {fuel : Nat} {x : LAttr} : pL_toAttr fuel x = some (tAttr x) := by
  unfold pL_toAttr
  rfl
theorem eq_Attr {fuel : Nat} {x : IAttr} : pL_eqAttr fuel x x = some true := by
  unfold pL_eqAttr
  simp []
def tCell (x : LCell) : ICell := ICell.mk x.R (tAttr x.A)
theorem to_Cell {fuel : Nat} {x : LCell} : pL_toCell fuel x = some (tCell x) := by
  have q_A := to_Attr (fuel := fuel) (x := x.A)
  unfold pL_toCell
  simp only [q_A, bd_s]
  rfl
theorem eq_Cell {fuel : Nat} {x : ICell} : pL_eqCell fuel x x = some true := by
  have q_A := eq_Attr (fuel := fuel) (x := x.A)
  unfold pL_eqCell
  simp [q_A]
theorem to_CellS {fuel : Nat} {l : List LCell} (hl : l.length ≤ 1048576) (hf : 1048586 < fuel) : pL_toCellS fuel l = some (l.map tCell) := by
  unfold pL_toCellS
  rw [gd_t ⟨by omega, by omega⟩, gd_t (show roomB K.iCell _ from ⟨by omega, by show _ * byt K.iCell ≤ _; rw [show byt K.iCell = 32 from rfl]; omega⟩)]
  have := loopF_set (B := pL_toCellS_b1 fuel) l (tCell) (fun o => o) (o := List.replicate (l.length : Int).toNat (zK K.iCell)) (fuel := fuel) (by simp) (fun i x o hxi ho => by
    obtain ⟨h1, h2, h3, h4, h5⟩ := idx_facts hxi (by omega)
    have hi := (List.getElem?_eq_some_iff.1 hxi).1
    unfold pL_toCellS_b1
    have ht := to_Cell (fuel := fuel) (x := x)
    simp only [h1, br_t, gd_t h2, h3, bd_s, ht, ho, show (0 + (i : Int).toNat) = i by omega, List.getElem?_eq_getElem (show i < o.length by omega), h5, gd_t h4])
    (fun o => by unfold pL_toCellS_b1; simp) (by omega)
  rw [this]
  rfl
theorem eq_CellS {fuel : Nat} {l : List ICell} (hl : l.length ≤ 1048581) (hf : 1048586 < fuel) : pL_eqCellS fuel l l = some true := by
  unfold pL_eqCellS
  simp only [bne_self_eq_false, br_f]
  have := loopF_walk (B := pL_eqCellS_b1 fuel) (fun i => (l, l, (i : Int))) l.length (.inl ()) (fuel := fuel) (v := (l, l, 0)) rfl (fun i hi => by
    obtain ⟨h1, h2, h3, h4, h5⟩ := idx_facts (List.getElem?_eq_getElem hi) (by omega)
    unfold pL_eqCellS_b1
    have ht := eq_Cell (fuel := fuel) (x := l[i])
    simp only [h1, br_t, gd_t h2, h3, bd_s, ht, Bool.not_true, br_f, h5, gd_t h4, bne_self_eq_false]) (by unfold pL_eqCellS_b1; simp) (by omega)
  rw [this]
  rfl
def tGrid (x : LGrid) : IGrid := IGrid.mk x.W x.H (x.Cells.map tCell)
def FitGrid (n : Nat) (x : IGrid) : Prop := x.Cells.length ≤ n
theorem to_Grid {fuel : Nat} {x : LGrid} (hf : 1048586 < fuel) (h : FitGrid 1048576 (tGrid x)) : pL_toGrid fuel x = some (tGrid x) := by
  have l_Cells : (tGrid x).Cells.length ≤ 1048576 := h
  have q_Cells := to_CellS (fuel := fuel) (l := x.Cells) (by simpa [tGrid] using l_Cells) hf
  unfold pL_toGrid
  simp only [q_Cells, bd_s]
  rfl
theorem eq_Grid {fuel : Nat} {x : IGrid} (hf : 1048586 < fuel) (h : FitGrid 1048581 x) : pL_eqGrid fuel x x = some true := by
  have l_Cells : x.Cells.length ≤ 1048581 := h
  have q_Cells := eq_CellS (fuel := fuel) (l := x.Cells) l_Cells hf
  unfold pL_eqGrid
  simp [q_Cells]
def tRow (x : LRow) : IRow := IRow.mk (x.Cells.map tCell)
def FitRow (n : Nat) (x : IRow) : Prop := x.Cells.length ≤ n
theorem to_Row {fuel : Nat} {x : LRow} (hf : 1048586 < fuel) (h : FitRow 1048576 (tRow x)) : pL_toRow fuel x = some (tRow x) := by
  have l_Cells : (tRow x).Cells.length ≤ 1048576 := h
  have q_Cells := to_CellS (fuel := fuel) (l := x.Cells) (by simpa [tRow] using l_Cells) hf
  unfold pL_toRow
  simp only [q_Cells, bd_s]
  rfl
theorem eq_Row {fuel : Nat} {x : IRow} (hf : 1048586 < fuel) (h : FitRow 1048581 x) : pL_eqRow fuel x x = some true := by
  have l_Cells : x.Cells.length ≤ 1048581 := h
  have q_Cells := eq_CellS (fuel := fuel) (l := x.Cells) l_Cells hf
  unfold pL_eqRow
  simp [q_Cells]
theorem to_IntS {fuel : Nat} {l : List Int} (hl : l.length ≤ 1048576) (hf : 1048586 < fuel) : pL_toIntS fuel l = some l := by
  unfold pL_toIntS
  rw [gd_t ⟨by omega, by omega⟩, gd_t (show roomB K.int _ from ⟨by omega, by show _ * byt K.int ≤ _; rw [show byt K.int = 8 from rfl]; omega⟩)]
  have := loopF_set (B := pL_toIntS_b1 fuel) l (fun x => x) (fun o => o) (o := List.replicate (l.length : Int).toNat (zK K.int)) (fuel := fuel) (by simp) (fun i x o hxi ho => by
    obtain ⟨h1, h2, h3, h4, h5⟩ := idx_facts hxi (by omega)
    have hi := (List.getElem?_eq_some_iff.1 hxi).1
    unfold pL_toIntS_b1
    simp only [h1, br_t, gd_t h2, h3, bd_s, ho, show (0 + (i : Int).toNat) = i by omega, List.getElem?_eq_getElem (show i < o.length by omega), h5, gd_t h4])
    (fun o => by unfold pL_toIntS_b1; simp) (by omega)
  rw [this]
  simp
theorem eq_IntS {fuel : Nat} {l : List Int} (hl : l.length ≤ 1048581) (hf : 1048586 < fuel) : pL_eqIntS fuel l l = some true := by
  unfold pL_eqIntS
  simp only [bne_self_eq_false, br_f]
  have := loopF_walk (B := pL_eqIntS_b1 fuel) (fun i => (l, l, (i : Int))) l.length (.inl ()) (fuel := fuel) (v := (l, l, 0)) rfl (fun i hi => by
    obtain ⟨h1, h2, h3, h4, h5⟩ := idx_facts (List.getElem?_eq_getElem hi) (by omega)
    unfold pL_eqIntS_b1
    simp only [h1, br_t, gd_t h2, h3, bd_s, Bool.not_true, br_f, h5, gd_t h4, bne_self_eq_false]) (by unfold pL_eqIntS_b1; simp) (by omega)
  rw [this]
  rfl
theorem to_ByteS {fuel : Nat} {l : List UInt8} (hl : l.length ≤ 1048576) (hf : 1048586 < fuel) : pL_toByteS fuel l = some l := by
  unfold pL_toByteS
  rw [gd_t ⟨by omega, by omega⟩, gd_t (show roomB K.u8 _ from ⟨by omega, by show _ * byt K.u8 ≤ _; rw [show byt K.u8 = 1 from rfl]; omega⟩)]
  have := loopF_set (B := pL_toByteS_b1 fuel) l (fun x => x) (fun o => o) (o := List.replicate (l.length : Int).toNat (zK K.u8)) (fuel := fuel) (by simp) (fun i x o hxi ho => by
    obtain ⟨h1, h2, h3, h4, h5⟩ := idx_facts hxi (by omega)
    have hi := (List.getElem?_eq_some_iff.1 hxi).1
    unfold pL_toByteS_b1
    simp only [h1, br_t, gd_t h2, h3, bd_s, ho, show (0 + (i : Int).toNat) = i by omega, List.getElem?_eq_getElem (show i < o.length by omega), h5, gd_t h4, show UInt8.ofNat (x.toNat : Int).toNat = x by simp])
    (fun o => by unfold pL_toByteS_b1; simp) (by omega)
  rw [this]
  simp
theorem eq_ByteS {fuel : Nat} {l : List UInt8} (hl : l.length ≤ 1048581) (hf : 1048586 < fuel) : pL_eqByteS fuel l l = some true := by
  unfold pL_eqByteS
  simp only [bne_self_eq_false, br_f]
  have := loopF_walk (B := pL_eqByteS_b1 fuel) (fun i => (l, l, (i : Int))) l.length (.inl ()) (fuel := fuel) (v := (l, l, 0)) rfl (fun i hi => by
    obtain ⟨h1, h2, h3, h4, h5⟩ := idx_facts (List.getElem?_eq_getElem hi) (by omega)
    unfold pL_eqByteS_b1
    simp only [h1, br_t, gd_t h2, h3, bd_s, Bool.not_true, br_f, h5, gd_t h4, bne_self_eq_false]) (by unfold pL_eqByteS_b1; simp) (by omega)
  rw [this]
  rfl
def tVp (x : LVp) : IVp := IVp.mk x.State x.Mark x.Args x.Part
def FitVp (n : Nat) (x : IVp) : Prop := x.Args.length ≤ n ∧ x.Part.length ≤ n
theorem to_Vp {fuel : Nat} {x : LVp} (hf : 1048586 < fuel) (h : FitVp 1048576 (tVp x)) : pL_toVp fuel x = some (tVp x) := by
  obtain ⟨l_Args, l_Part⟩ := h
  have q_Args := to_IntS (fuel := fuel) (l := x.Args) (by simpa [tVp] using l_Args) hf
  have q_Part := to_ByteS (fuel := fuel) (l := x.Part) (by simpa [tVp] using l_Part) hf
  unfold pL_toVp
  simp only [q_Args, q_Part, bd_s]
  rfl
theorem eq_Vp {fuel : Nat} {x : IVp} (hf : 1048586 < fuel) (h : FitVp 1048581 x) : pL_eqVp fuel x x = some true := by
  obtain ⟨l_Args, l_Part⟩ := h
  have q_Args := eq_IntS (fuel := fuel) (l := x.Args) l_Args hf
  have q_Part := eq_ByteS (fuel := fuel) (l := x.Part) l_Part hf
  unfold pL_eqVp
  simp [q_Args, q_Part]
theorem to_RowS {fuel : Nat} {l : List LRow} (hl : l.length ≤ 1048576) (hf : 1048586 < fuel) (hx : ∀ y ∈ l, FitRow 1048576 (tRow y)) : pL_toRowS fuel l = some (l.map tRow) := by
  unfold pL_toRowS
  rw [gd_t ⟨by omega, by omega⟩, gd_t (show roomB K.iRow _ from ⟨by omega, by show _ * byt K.iRow ≤ _; rw [show byt K.iRow = 24 from rfl]; omega⟩)]
  have := loopF_set (B := pL_toRowS_b1 fuel) l (tRow) (fun o => o) (o := List.replicate (l.length : Int).toNat (zK K.iRow)) (fuel := fuel) (by simp) (fun i x o hxi ho => by
    obtain ⟨h1, h2, h3, h4, h5⟩ := idx_facts hxi (by omega)
    have hi := (List.getElem?_eq_some_iff.1 hxi).1
    unfold pL_toRowS_b1
    have ht := to_Row (fuel := fuel) (x := x) hf (hx x (List.mem_of_getElem? hxi))
    simp only [h1, br_t, gd_t h2, h3, bd_s, ht, ho, show (0 + (i : Int).toNat) = i by omega, List.getElem?_eq_getElem (show i < o.length by omega), h5, gd_t h4])
    (fun o => by unfold pL_toRowS_b1; simp) (by omega)
  rw [this]
  rfl
theorem eq_RowS {fuel : Nat} {l : List IRow} (hl : l.length ≤ 1048581) (hf : 1048586 < fuel) (hx : ∀ y ∈ l, FitRow 1048581 y) : pL_eqRowS fuel l l = some true := by
  unfold pL_eqRowS
  simp only [bne_self_eq_false, br_f]
  have := loopF_walk (B := pL_eqRowS_b1 fuel) (fun i => (l, l, (i : Int))) l.length (.inl ()) (fuel := fuel) (v := (l, l, 0)) rfl (fun i hi => by
    obtain ⟨h1, h2, h3, h4, h5⟩ := idx_facts (List.getElem?_eq_getElem hi) (by omega)
    unfold pL_eqRowS_b1
    have ht := eq_Row (fuel := fuel) (x := l[i]) hf (hx _ (List.getElem_mem hi))
    simp only [h1, br_t, gd_t h2, h3, bd_s, ht, Bool.not_true, br_f, h5, gd_t h4, bne_self_eq_false]) (by unfold pL_eqRowS_b1; simp) (by omega)
  rw [this]
  rfl
def tScr (x : LScr) : IScr := IScr.mk x.W x.H (tGrid x.Main) (tGrid x.Alt) x.OnAlt x.X x.Y x.Wrap (tAttr x.A) x.Top x.Bot x.NoWrap x.Hide x.SaveX x.SaveY (tAttr x.SaveA) x.Tabs x.Limit (x.Back.map tRow)
def FitScr (n : Nat) (x : IScr) : Prop := FitGrid n x.Main ∧ FitGrid n x.Alt ∧ x.Tabs.length ≤ n ∧ x.Back.length ≤ n ∧ (∀ y ∈ x.Back, FitRow n y)
theorem to_Scr {fuel : Nat} {x : LScr} (hf : 1048586 < fuel) (h : FitScr 1048576 (tScr x)) : pL_toScr fuel x = some (tScr x) := by
  obtain ⟨f_Main, f_Alt, l_Tabs, l_Back, e_Back⟩ := h
  have q_Main := to_Grid (fuel := fuel) (x := x.Main) hf f_Main
  have q_Alt := to_Grid (fuel := fuel) (x := x.Alt) hf f_Alt
  have q_A := to_Attr (fuel := fuel) (x := x.A)
  have q_SaveA := to_Attr (fuel := fuel) (x := x.SaveA)
  have q_Tabs := to_IntS (fuel := fuel) (l := x.Tabs) (by simpa [tScr] using l_Tabs) hf
  have q_Back := to_RowS (fuel := fuel) (l := x.Back) (by simpa [tScr] using l_Back) hf (fun y hy => e_Back _ (List.mem_map.2 ⟨y, hy, rfl⟩))
  unfold pL_toScr
  simp only [q_Main, q_Alt, q_A, q_SaveA, q_Tabs, q_Back, bd_s]
  rfl
theorem eq_Scr {fuel : Nat} {x : IScr} (hf : 1048586 < fuel) (h : FitScr 1048581 x) : pL_eqScr fuel x x = some true := by
  obtain ⟨f_Main, f_Alt, l_Tabs, l_Back, e_Back⟩ := h
  have q_Main := eq_Grid (fuel := fuel) (x := x.Main) hf f_Main
  have q_Alt := eq_Grid (fuel := fuel) (x := x.Alt) hf f_Alt
  have q_A := eq_Attr (fuel := fuel) (x := x.A)
  have q_SaveA := eq_Attr (fuel := fuel) (x := x.SaveA)
  have q_Tabs := eq_IntS (fuel := fuel) (l := x.Tabs) l_Tabs hf
  have q_Back := eq_RowS (fuel := fuel) (l := x.Back) l_Back hf e_Back
  unfold pL_eqScr
  simp [q_Main, q_Alt, q_A, q_SaveA, q_Tabs, q_Back]
def tTerm (x : LTerm) : ITerm := ITerm.mk (tVp x.P) (tScr x.S)
def FitTerm (n : Nat) (x : ITerm) : Prop := FitVp n x.P ∧ FitScr n x.S
theorem to_Term {fuel : Nat} {x : LTerm} (hf : 1048586 < fuel) (h : FitTerm 1048576 (tTerm x)) : pL_toTerm fuel x = some (tTerm x) := by
  obtain ⟨f_P, f_S⟩ := h
  have q_P := to_Vp (fuel := fuel) (x := x.P) hf f_P
  have q_S := to_Scr (fuel := fuel) (x := x.S) hf f_S
  unfold pL_toTerm
  simp only [q_P, q_S, bd_s]
  rfl
theorem eq_Term {fuel : Nat} {x : ITerm} (hf : 1048586 < fuel) (h : FitTerm 1048581 x) : pL_eqTerm fuel x x = some true := by
  obtain ⟨f_P, f_S⟩ := h
  have q_P := eq_Vp (fuel := fuel) (x := x.P) hf f_P
  have q_S := eq_Scr (fuel := fuel) (x := x.S) hf f_S
  unfold pL_eqTerm
  simp [q_P, q_S]
def tPane (x : LPane) : IPane := IPane.mk x.Id x.Cmd x.Dir x.Life x.Code x.Pid (tTerm x.Term)
def FitPane (n : Nat) (x : IPane) : Prop := x.Cmd.size ≤ n ∧ x.Dir.size ≤ n ∧ FitTerm n x.Term
theorem to_Pane {fuel : Nat} {x : LPane} (hf : 1048586 < fuel) (h : FitPane 1048576 (tPane x)) : pL_toPane fuel x = some (tPane x) := by
  obtain ⟨s_Cmd, s_Dir, f_Term⟩ := h
  have q_Term := to_Term (fuel := fuel) (x := x.Term) hf f_Term
  unfold pL_toPane
  simp only [q_Term, bd_s]
  rfl
theorem eq_Pane {fuel : Nat} {x : IPane} (hf : 1048586 < fuel) (h : FitPane 1048581 x) : pL_eqPane fuel x x = some true := by
  obtain ⟨s_Cmd, s_Dir, f_Term⟩ := h
  have q_Term := eq_Term (fuel := fuel) (x := x.Term) hf f_Term
  unfold pL_eqPane
  simp [q_Term]
def tNode (x : LNode) : INode := INode.mk x.Pane x.Down x.First
theorem to_Node {fuel : Nat} {x : LNode} : pL_toNode fuel x = some (tNode x) := by
  unfold pL_toNode
  rfl
theorem eq_Node {fuel : Nat} {x : INode} : pL_eqNode fuel x x = some true := by
  unfold pL_eqNode
  simp []
theorem to_NodeS {fuel : Nat} {l : List LNode} (hl : l.length ≤ 1048576) (hf : 1048586 < fuel) : pL_toNodeS fuel l = some (l.map tNode) := by
  unfold pL_toNodeS
  rw [gd_t ⟨by omega, by omega⟩, gd_t (show roomB K.iNode _ from ⟨by omega, by show _ * byt K.iNode ≤ _; rw [show byt K.iNode = 24 from rfl]; omega⟩)]
  have := loopF_set (B := pL_toNodeS_b1 fuel) l (tNode) (fun o => o) (o := List.replicate (l.length : Int).toNat (zK K.iNode)) (fuel := fuel) (by simp) (fun i x o hxi ho => by
    obtain ⟨h1, h2, h3, h4, h5⟩ := idx_facts hxi (by omega)
    have hi := (List.getElem?_eq_some_iff.1 hxi).1
    unfold pL_toNodeS_b1
    have ht := to_Node (fuel := fuel) (x := x)
    simp only [h1, br_t, gd_t h2, h3, bd_s, ht, ho, show (0 + (i : Int).toNat) = i by omega, List.getElem?_eq_getElem (show i < o.length by omega), h5, gd_t h4])
    (fun o => by unfold pL_toNodeS_b1; simp) (by omega)
  rw [this]
  rfl
theorem eq_NodeS {fuel : Nat} {l : List INode} (hl : l.length ≤ 1048581) (hf : 1048586 < fuel) : pL_eqNodeS fuel l l = some true := by
  unfold pL_eqNodeS
  simp only [bne_self_eq_false, br_f]
  have := loopF_walk (B := pL_eqNodeS_b1 fuel) (fun i => (l, l, (i : Int))) l.length (.inl ()) (fuel := fuel) (v := (l, l, 0)) rfl (fun i hi => by
    obtain ⟨h1, h2, h3, h4, h5⟩ := idx_facts (List.getElem?_eq_getElem hi) (by omega)
    unfold pL_eqNodeS_b1
    have ht := eq_Node (fuel := fuel) (x := l[i])
    simp only [h1, br_t, gd_t h2, h3, bd_s, ht, Bool.not_true, br_f, h5, gd_t h4, bne_self_eq_false]) (by unfold pL_eqNodeS_b1; simp) (by omega)
  rw [this]
  rfl
def tWin (x : LWin) : IWin := IWin.mk x.Id x.Name (x.Tree.map tNode) x.Active x.Zoom
def FitWin (n : Nat) (x : IWin) : Prop := x.Name.size ≤ n ∧ x.Tree.length ≤ n
theorem to_Win {fuel : Nat} {x : LWin} (hf : 1048586 < fuel) (h : FitWin 1048576 (tWin x)) : pL_toWin fuel x = some (tWin x) := by
  obtain ⟨s_Name, l_Tree⟩ := h
  have q_Tree := to_NodeS (fuel := fuel) (l := x.Tree) (by simpa [tWin] using l_Tree) hf
  unfold pL_toWin
  simp only [q_Tree, bd_s]
  rfl
theorem eq_Win {fuel : Nat} {x : IWin} (hf : 1048586 < fuel) (h : FitWin 1048581 x) : pL_eqWin fuel x x = some true := by
  obtain ⟨s_Name, l_Tree⟩ := h
  have q_Tree := eq_NodeS (fuel := fuel) (l := x.Tree) l_Tree hf
  unfold pL_eqWin
  simp [q_Tree]
def tSess (x : LSess) : ISess := ISess.mk x.Name x.Wins x.Active
def FitSess (n : Nat) (x : ISess) : Prop := x.Name.size ≤ n ∧ x.Wins.length ≤ n
theorem to_Sess {fuel : Nat} {x : LSess} (hf : 1048586 < fuel) (h : FitSess 1048576 (tSess x)) : pL_toSess fuel x = some (tSess x) := by
  obtain ⟨s_Name, l_Wins⟩ := h
  have q_Wins := to_IntS (fuel := fuel) (l := x.Wins) (by simpa [tSess] using l_Wins) hf
  unfold pL_toSess
  simp only [q_Wins, bd_s]
  rfl
theorem eq_Sess {fuel : Nat} {x : ISess} (hf : 1048586 < fuel) (h : FitSess 1048581 x) : pL_eqSess fuel x x = some true := by
  obtain ⟨s_Name, l_Wins⟩ := h
  have q_Wins := eq_IntS (fuel := fuel) (l := x.Wins) l_Wins hf
  unfold pL_eqSess
  simp [q_Wins]
theorem to_PaneS {fuel : Nat} {l : List LPane} (hl : l.length ≤ 1048576) (hf : 1048586 < fuel) (hx : ∀ y ∈ l, FitPane 1048576 (tPane y)) : pL_toPaneS fuel l = some (l.map tPane) := by
  unfold pL_toPaneS
  rw [gd_t ⟨by omega, by omega⟩, gd_t (show roomB K.iPane _ from ⟨by omega, by show _ * byt K.iPane ≤ _; rw [show byt K.iPane = 400 from rfl]; omega⟩)]
  have := loopF_set (B := pL_toPaneS_b1 fuel) l (tPane) (fun o => o) (o := List.replicate (l.length : Int).toNat (zK K.iPane)) (fuel := fuel) (by simp) (fun i x o hxi ho => by
    obtain ⟨h1, h2, h3, h4, h5⟩ := idx_facts hxi (by omega)
    have hi := (List.getElem?_eq_some_iff.1 hxi).1
    unfold pL_toPaneS_b1
    have ht := to_Pane (fuel := fuel) (x := x) hf (hx x (List.mem_of_getElem? hxi))
    simp only [h1, br_t, gd_t h2, h3, bd_s, ht, ho, show (0 + (i : Int).toNat) = i by omega, List.getElem?_eq_getElem (show i < o.length by omega), h5, gd_t h4])
    (fun o => by unfold pL_toPaneS_b1; simp) (by omega)
  rw [this]
  rfl
theorem eq_PaneS {fuel : Nat} {l : List IPane} (hl : l.length ≤ 1048581) (hf : 1048586 < fuel) (hx : ∀ y ∈ l, FitPane 1048581 y) : pL_eqPaneS fuel l l = some true := by
  unfold pL_eqPaneS
  simp only [bne_self_eq_false, br_f]
  have := loopF_walk (B := pL_eqPaneS_b1 fuel) (fun i => (l, l, (i : Int))) l.length (.inl ()) (fuel := fuel) (v := (l, l, 0)) rfl (fun i hi => by
    obtain ⟨h1, h2, h3, h4, h5⟩ := idx_facts (List.getElem?_eq_getElem hi) (by omega)
    unfold pL_eqPaneS_b1
    have ht := eq_Pane (fuel := fuel) (x := l[i]) hf (hx _ (List.getElem_mem hi))
    simp only [h1, br_t, gd_t h2, h3, bd_s, ht, Bool.not_true, br_f, h5, gd_t h4, bne_self_eq_false]) (by unfold pL_eqPaneS_b1; simp) (by omega)
  rw [this]
  rfl
theorem to_WinS {fuel : Nat} {l : List LWin} (hl : l.length ≤ 1048576) (hf : 1048586 < fuel) (hx : ∀ y ∈ l, FitWin 1048576 (tWin y)) : pL_toWinS fuel l = some (l.map tWin) := by
  unfold pL_toWinS
  rw [gd_t ⟨by omega, by omega⟩, gd_t (show roomB K.iWin _ from ⟨by omega, by show _ * byt K.iWin ≤ _; rw [show byt K.iWin = 64 from rfl]; omega⟩)]
  have := loopF_set (B := pL_toWinS_b1 fuel) l (tWin) (fun o => o) (o := List.replicate (l.length : Int).toNat (zK K.iWin)) (fuel := fuel) (by simp) (fun i x o hxi ho => by
    obtain ⟨h1, h2, h3, h4, h5⟩ := idx_facts hxi (by omega)
    have hi := (List.getElem?_eq_some_iff.1 hxi).1
    unfold pL_toWinS_b1
    have ht := to_Win (fuel := fuel) (x := x) hf (hx x (List.mem_of_getElem? hxi))
    simp only [h1, br_t, gd_t h2, h3, bd_s, ht, ho, show (0 + (i : Int).toNat) = i by omega, List.getElem?_eq_getElem (show i < o.length by omega), h5, gd_t h4])
    (fun o => by unfold pL_toWinS_b1; simp) (by omega)
  rw [this]
  rfl
theorem eq_WinS {fuel : Nat} {l : List IWin} (hl : l.length ≤ 1048581) (hf : 1048586 < fuel) (hx : ∀ y ∈ l, FitWin 1048581 y) : pL_eqWinS fuel l l = some true := by
  unfold pL_eqWinS
  simp only [bne_self_eq_false, br_f]
  have := loopF_walk (B := pL_eqWinS_b1 fuel) (fun i => (l, l, (i : Int))) l.length (.inl ()) (fuel := fuel) (v := (l, l, 0)) rfl (fun i hi => by
    obtain ⟨h1, h2, h3, h4, h5⟩ := idx_facts (List.getElem?_eq_getElem hi) (by omega)
    unfold pL_eqWinS_b1
    have ht := eq_Win (fuel := fuel) (x := l[i]) hf (hx _ (List.getElem_mem hi))
    simp only [h1, br_t, gd_t h2, h3, bd_s, ht, Bool.not_true, br_f, h5, gd_t h4, bne_self_eq_false]) (by unfold pL_eqWinS_b1; simp) (by omega)
  rw [this]
  rfl
theorem to_SessS {fuel : Nat} {l : List LSess} (hl : l.length ≤ 1048576) (hf : 1048586 < fuel) (hx : ∀ y ∈ l, FitSess 1048576 (tSess y)) : pL_toSessS fuel l = some (l.map tSess) := by
  unfold pL_toSessS
  rw [gd_t ⟨by omega, by omega⟩, gd_t (show roomB K.iSess _ from ⟨by omega, by show _ * byt K.iSess ≤ _; rw [show byt K.iSess = 48 from rfl]; omega⟩)]
  have := loopF_set (B := pL_toSessS_b1 fuel) l (tSess) (fun o => o) (o := List.replicate (l.length : Int).toNat (zK K.iSess)) (fuel := fuel) (by simp) (fun i x o hxi ho => by
    obtain ⟨h1, h2, h3, h4, h5⟩ := idx_facts hxi (by omega)
    have hi := (List.getElem?_eq_some_iff.1 hxi).1
    unfold pL_toSessS_b1
    have ht := to_Sess (fuel := fuel) (x := x) hf (hx x (List.mem_of_getElem? hxi))
    simp only [h1, br_t, gd_t h2, h3, bd_s, ht, ho, show (0 + (i : Int).toNat) = i by omega, List.getElem?_eq_getElem (show i < o.length by omega), h5, gd_t h4])
    (fun o => by unfold pL_toSessS_b1; simp) (by omega)
  rw [this]
  rfl
theorem eq_SessS {fuel : Nat} {l : List ISess} (hl : l.length ≤ 1048581) (hf : 1048586 < fuel) (hx : ∀ y ∈ l, FitSess 1048581 y) : pL_eqSessS fuel l l = some true := by
  unfold pL_eqSessS
  simp only [bne_self_eq_false, br_f]
  have := loopF_walk (B := pL_eqSessS_b1 fuel) (fun i => (l, l, (i : Int))) l.length (.inl ()) (fuel := fuel) (v := (l, l, 0)) rfl (fun i hi => by
    obtain ⟨h1, h2, h3, h4, h5⟩ := idx_facts (List.getElem?_eq_getElem hi) (by omega)
    unfold pL_eqSessS_b1
    have ht := eq_Sess (fuel := fuel) (x := l[i]) hf (hx _ (List.getElem_mem hi))
    simp only [h1, br_t, gd_t h2, h3, bd_s, ht, Bool.not_true, br_f, h5, gd_t h4, bne_self_eq_false]) (by unfold pL_eqSessS_b1; simp) (by omega)
  rw [this]
  rfl
def tState (x : LState) : IState := IState.mk x.W x.H x.Limit x.Next (x.Panes.map tPane) (x.Wins.map tWin) (x.Sess.map tSess)
def FitState (n : Nat) (x : IState) : Prop := x.Panes.length ≤ n ∧ (∀ y ∈ x.Panes, FitPane n y) ∧ x.Wins.length ≤ n ∧ (∀ y ∈ x.Wins, FitWin n y) ∧ x.Sess.length ≤ n ∧ (∀ y ∈ x.Sess, FitSess n y)
theorem to_State {fuel : Nat} {x : LState} (hf : 1048586 < fuel) (h : FitState 1048576 (tState x)) : pL_toState fuel x = some (tState x) := by
  obtain ⟨l_Panes, e_Panes, l_Wins, e_Wins, l_Sess, e_Sess⟩ := h
  have q_Panes := to_PaneS (fuel := fuel) (l := x.Panes) (by simpa [tState] using l_Panes) hf (fun y hy => e_Panes _ (List.mem_map.2 ⟨y, hy, rfl⟩))
  have q_Wins := to_WinS (fuel := fuel) (l := x.Wins) (by simpa [tState] using l_Wins) hf (fun y hy => e_Wins _ (List.mem_map.2 ⟨y, hy, rfl⟩))
  have q_Sess := to_SessS (fuel := fuel) (l := x.Sess) (by simpa [tState] using l_Sess) hf (fun y hy => e_Sess _ (List.mem_map.2 ⟨y, hy, rfl⟩))
  unfold pL_toState
  simp only [q_Panes, q_Wins, q_Sess, bd_s]
  rfl
theorem eq_State {fuel : Nat} {x : IState} (hf : 1048586 < fuel) (h : FitState 1048581 x) : pL_eqState fuel x x = some true := by
  obtain ⟨l_Panes, e_Panes, l_Wins, e_Wins, l_Sess, e_Sess⟩ := h
  have q_Panes := eq_PaneS (fuel := fuel) (l := x.Panes) l_Panes hf e_Panes
  have q_Wins := eq_WinS (fuel := fuel) (l := x.Wins) l_Wins hf e_Wins
  have q_Sess := eq_SessS (fuel := fuel) (l := x.Sess) l_Sess hf e_Sess
  unfold pL_eqState
  simp [q_Panes, q_Wins, q_Sess]
end Go.Px
namespace Go.Px
theorem sz_CellS {fuel : Nat} {l : List LCell} {left : Int} (hm : l.length ≤ 9223372036854775807) (h0 : 0 ≤ left) (h1 : left ≤ 1048576) : ∃ r, pL_szCellS fuel l left = some r ∧ r ≤ left ∧ (0 ≤ r → l.length ≤ 1048576) := by
  unfold pL_szCellS
  rw [gd_i64 (by omega) (by omega)]
  by_cases hn : left - (l.length : Int) < 0
  · rw [decide_eq_true hn]; exact ⟨-1, rfl, by omega, fun h => by omega⟩
  rw [decide_eq_false hn]
  exact ⟨_, rfl, by omega, fun h => by omega⟩
theorem sz_Grid {fuel : Nat} {x : LGrid} {left : Int} (hf : 1048586 < fuel) (h : FitGrid 9223372036854775807 (tGrid x)) (h0 : 0 ≤ left) (h1 : left ≤ 1048576) : ∃ r, pL_szGrid fuel x left = some r ∧ r ≤ left ∧ (0 ≤ r → FitGrid 1048576 (tGrid x)) := by
  have l_Cells : (tGrid x).Cells.length ≤ 9223372036854775807 := h
  unfold pL_szGrid
  obtain ⟨r_Cells, a_Cells, b_Cells, c_Cells⟩ := sz_CellS (fuel := fuel) (l := x.Cells) (left := left) (by simpa [tGrid] using l_Cells) (by omega) (by omega)
  rw [a_Cells]
  simp only [bd_s]
  by_cases n_Cells : r_Cells < 0
  · rw [decide_eq_true n_Cells]; exact ⟨-1, rfl, by omega, fun h => by omega⟩
  rw [decide_eq_false n_Cells]
  simp only [br_f]
  have d_Cells := c_Cells (by omega)
  exact ⟨_, rfl, by omega, fun _ => (by show (x.Cells.map tCell).length ≤ _; rw [List.length_map]; exact d_Cells)⟩
theorem sz_Row {fuel : Nat} {x : LRow} {left : Int} (hf : 1048586 < fuel) (h : FitRow 9223372036854775807 (tRow x)) (h0 : 0 ≤ left) (h1 : left ≤ 1048576) : ∃ r, pL_szRow fuel x left = some r ∧ r ≤ left ∧ (0 ≤ r → FitRow 1048576 (tRow x)) := by
  have l_Cells : (tRow x).Cells.length ≤ 9223372036854775807 := h
  unfold pL_szRow
  obtain ⟨r_Cells, a_Cells, b_Cells, c_Cells⟩ := sz_CellS (fuel := fuel) (l := x.Cells) (left := left) (by simpa [tRow] using l_Cells) (by omega) (by omega)
  rw [a_Cells]
  simp only [bd_s]
  by_cases n_Cells : r_Cells < 0
  · rw [decide_eq_true n_Cells]; exact ⟨-1, rfl, by omega, fun h => by omega⟩
  rw [decide_eq_false n_Cells]
  simp only [br_f]
  have d_Cells := c_Cells (by omega)
  exact ⟨_, rfl, by omega, fun _ => (by show (x.Cells.map tCell).length ≤ _; rw [List.length_map]; exact d_Cells)⟩
theorem sz_IntS {fuel : Nat} {l : List Int} {left : Int} (hm : l.length ≤ 9223372036854775807) (h0 : 0 ≤ left) (h1 : left ≤ 1048576) : ∃ r, pL_szIntS fuel l left = some r ∧ r ≤ left ∧ (0 ≤ r → l.length ≤ 1048576) := by
  unfold pL_szIntS
  rw [gd_i64 (by omega) (by omega)]
  by_cases hn : left - (l.length : Int) < 0
  · rw [decide_eq_true hn]; exact ⟨-1, rfl, by omega, fun h => by omega⟩
  rw [decide_eq_false hn]
  exact ⟨_, rfl, by omega, fun h => by omega⟩
theorem sz_ByteS {fuel : Nat} {l : List UInt8} {left : Int} (hm : l.length ≤ 9223372036854775807) (h0 : 0 ≤ left) (h1 : left ≤ 1048576) : ∃ r, pL_szByteS fuel l left = some r ∧ r ≤ left ∧ (0 ≤ r → l.length ≤ 1048576) := by
  unfold pL_szByteS
  rw [gd_i64 (by omega) (by omega)]
  by_cases hn : left - (l.length : Int) < 0
  · rw [decide_eq_true hn]; exact ⟨-1, rfl, by omega, fun h => by omega⟩
  rw [decide_eq_false hn]
  exact ⟨_, rfl, by omega, fun h => by omega⟩
theorem sz_Vp {fuel : Nat} {x : LVp} {left : Int} (hf : 1048586 < fuel) (h : FitVp 9223372036854775807 (tVp x)) (h0 : 0 ≤ left) (h1 : left ≤ 1048576) : ∃ r, pL_szVp fuel x left = some r ∧ r ≤ left ∧ (0 ≤ r → FitVp 1048576 (tVp x)) := by
  obtain ⟨l_Args, l_Part⟩ := h
  unfold pL_szVp
  obtain ⟨r_Args, a_Args, b_Args, c_Args⟩ := sz_IntS (fuel := fuel) (l := x.Args) (left := left) (by simpa [tVp] using l_Args) (by omega) (by omega)
  rw [a_Args]
  simp only [bd_s]
  by_cases n_Args : r_Args < 0
  · rw [decide_eq_true n_Args]; exact ⟨-1, rfl, by omega, fun h => by omega⟩
  rw [decide_eq_false n_Args]
  simp only [br_f]
  have d_Args := c_Args (by omega)
  obtain ⟨r_Part, a_Part, b_Part, c_Part⟩ := sz_ByteS (fuel := fuel) (l := x.Part) (left := r_Args) (by simpa [tVp] using l_Part) (by omega) (by omega)
  rw [a_Part]
  simp only [bd_s]
  by_cases n_Part : r_Part < 0
  · rw [decide_eq_true n_Part]; exact ⟨-1, rfl, by omega, fun h => by omega⟩
  rw [decide_eq_false n_Part]
  simp only [br_f]
  have d_Part := c_Part (by omega)
  exact ⟨_, rfl, by omega, fun _ => ⟨d_Args, d_Part⟩⟩
theorem sz_RowS {fuel : Nat} {l : List LRow} {left : Int} (hm : l.length ≤ 9223372036854775807) (h0 : 0 ≤ left) (h1 : left ≤ 1048576) (hf : 1048586 < fuel) (hx : ∀ y ∈ l, FitRow 9223372036854775807 (tRow y)) : ∃ r, pL_szRowS fuel l left = some r ∧ r ≤ left ∧ (0 ≤ r → l.length ≤ 1048576 ∧ ∀ y ∈ l, FitRow 1048576 (tRow y)) := by
  unfold pL_szRowS
  rw [gd_i64 (by omega) (by omega)]
  by_cases hn : left - (l.length : Int) < 0
  · rw [decide_eq_true hn]; exact ⟨-1, rfl, by omega, fun h => by omega⟩
  rw [decide_eq_false hn]
  have hl : l.length ≤ 1048576 := by omega
  simp only [br_f]
  rcases loopF_sz (B := pL_szRowS_b1 fuel) l (fun y => FitRow 1048576 (tRow y)) (left := left - (l.length : Int)) (fuel := fuel) (by omega) (by omega) (fun i x k hxi hk0 hk1 => by
      obtain ⟨g1, g2, g3, g4, g5⟩ := idx_facts hxi (by omega)
      obtain ⟨r, e1, e2, e3⟩ := sz_Row (fuel := fuel) (x := x) (left := k) hf (hx x (List.mem_of_getElem? hxi)) hk0 hk1
      refine ⟨r, ?_, e2, e3⟩
      unfold pL_szRowS_b1
      simp only [g1, br_t, gd_t g2, g3, bd_s, e1, g5, gd_t g4, show IntKind.i64.wrap ((i + 1 : Nat) : Int) = ((i + 1 : Nat) : Int) from g4]
      by_cases hr : r < 0
      · simp only [decide_eq_true hr, br_t, if_pos hr]
      · simp only [decide_eq_false hr, br_f, if_neg hr]) (fun k => by unfold pL_szRowS_b1; simp) (by omega) with h | ⟨r, h, r0, r1, r2⟩
  · rw [h]; exact ⟨-1, rfl, by omega, fun h => by omega⟩
  · rw [h]; exact ⟨r, rfl, by omega, fun _ => ⟨hl, r2⟩⟩
theorem sz_Scr {fuel : Nat} {x : LScr} {left : Int} (hf : 1048586 < fuel) (h : FitScr 9223372036854775807 (tScr x)) (h0 : 0 ≤ left) (h1 : left ≤ 1048576) : ∃ r, pL_szScr fuel x left = some r ∧ r ≤ left ∧ (0 ≤ r → FitScr 1048576 (tScr x)) := by
  obtain ⟨f_Main, f_Alt, l_Tabs, l_Back, e_Back⟩ := h
  unfold pL_szScr
  obtain ⟨r_Main, a_Main, b_Main, c_Main⟩ := sz_Grid (fuel := fuel) (x := x.Main) (left := left) hf f_Main (by omega) (by omega)
  rw [a_Main]
  simp only [bd_s]
  by_cases n_Main : r_Main < 0
  · rw [decide_eq_true n_Main]; exact ⟨-1, rfl, by omega, fun h => by omega⟩
  rw [decide_eq_false n_Main]
  simp only [br_f]
  have d_Main := c_Main (by omega)
  obtain ⟨r_Alt, a_Alt, b_Alt, c_Alt⟩ := sz_Grid (fuel := fuel) (x := x.Alt) (left := r_Main) hf f_Alt (by omega) (by omega)
  rw [a_Alt]
  simp only [bd_s]
  by_cases n_Alt : r_Alt < 0
  · rw [decide_eq_true n_Alt]; exact ⟨-1, rfl, by omega, fun h => by omega⟩
  rw [decide_eq_false n_Alt]
  simp only [br_f]
  have d_Alt := c_Alt (by omega)
  obtain ⟨r_Tabs, a_Tabs, b_Tabs, c_Tabs⟩ := sz_IntS (fuel := fuel) (l := x.Tabs) (left := r_Alt) (by simpa [tScr] using l_Tabs) (by omega) (by omega)
  rw [a_Tabs]
  simp only [bd_s]
  by_cases n_Tabs : r_Tabs < 0
  · rw [decide_eq_true n_Tabs]; exact ⟨-1, rfl, by omega, fun h => by omega⟩
  rw [decide_eq_false n_Tabs]
  simp only [br_f]
  have d_Tabs := c_Tabs (by omega)
  obtain ⟨r_Back, a_Back, b_Back, c_Back⟩ := sz_RowS (fuel := fuel) (l := x.Back) (left := r_Tabs) (by simpa [tScr] using l_Back) (by omega) (by omega) hf (fun y hy => e_Back _ (List.mem_map.2 ⟨y, hy, rfl⟩))
  rw [a_Back]
  simp only [bd_s]
  by_cases n_Back : r_Back < 0
  · rw [decide_eq_true n_Back]; exact ⟨-1, rfl, by omega, fun h => by omega⟩
  rw [decide_eq_false n_Back]
  simp only [br_f]
  have d_Back := c_Back (by omega)
  exact ⟨_, rfl, by omega, fun _ => ⟨d_Main, d_Alt, d_Tabs, (by show (x.Back.map tRow).length ≤ _; rw [List.length_map]; exact d_Back.1), (fun y hy => by obtain ⟨z, hz, rfl⟩ := List.mem_map.1 hy; exact d_Back.2 z hz)⟩⟩
theorem sz_Term {fuel : Nat} {x : LTerm} {left : Int} (hf : 1048586 < fuel) (h : FitTerm 9223372036854775807 (tTerm x)) (h0 : 0 ≤ left) (h1 : left ≤ 1048576) : ∃ r, pL_szTerm fuel x left = some r ∧ r ≤ left ∧ (0 ≤ r → FitTerm 1048576 (tTerm x)) := by
  obtain ⟨f_P, f_S⟩ := h
  unfold pL_szTerm
  obtain ⟨r_P, a_P, b_P, c_P⟩ := sz_Vp (fuel := fuel) (x := x.P) (left := left) hf f_P (by omega) (by omega)
  rw [a_P]
  simp only [bd_s]
  by_cases n_P : r_P < 0
  · rw [decide_eq_true n_P]; exact ⟨-1, rfl, by omega, fun h => by omega⟩
  rw [decide_eq_false n_P]
  simp only [br_f]
  have d_P := c_P (by omega)
  obtain ⟨r_S, a_S, b_S, c_S⟩ := sz_Scr (fuel := fuel) (x := x.S) (left := r_P) hf f_S (by omega) (by omega)
  rw [a_S]
  simp only [bd_s]
  by_cases n_S : r_S < 0
  · rw [decide_eq_true n_S]; exact ⟨-1, rfl, by omega, fun h => by omega⟩
  rw [decide_eq_false n_S]
  simp only [br_f]
  have d_S := c_S (by omega)
  exact ⟨_, rfl, by omega, fun _ => ⟨d_P, d_S⟩⟩
theorem sz_Pane {fuel : Nat} {x : LPane} {left : Int} (hf : 1048586 < fuel) (h : FitPane 9223372036854775807 (tPane x)) (h0 : 0 ≤ left) (h1 : left ≤ 1048576) : ∃ r, pL_szPane fuel x left = some r ∧ r ≤ left ∧ (0 ≤ r → FitPane 1048576 (tPane x)) := by
  obtain ⟨s_Cmd, s_Dir, f_Term⟩ := h
  have s_Cmd : x.Cmd.size ≤ 9223372036854775807 := s_Cmd
  have s_Dir : x.Dir.size ≤ 9223372036854775807 := s_Dir
  unfold pL_szPane
  rw [gd_i64 (by omega) (by omega)]
  by_cases n_Cmd : left - (x.Cmd.size : Int) < 0
  · rw [decide_eq_true n_Cmd]; exact ⟨-1, rfl, by omega, fun h => by omega⟩
  rw [decide_eq_false n_Cmd]
  simp only [br_f]
  rw [gd_i64 (by omega) (by omega)]
  by_cases n_Dir : left - (x.Cmd.size : Int) - (x.Dir.size : Int) < 0
  · rw [decide_eq_true n_Dir]; exact ⟨-1, rfl, by omega, fun h => by omega⟩
  rw [decide_eq_false n_Dir]
  simp only [br_f]
  obtain ⟨r_Term, a_Term, b_Term, c_Term⟩ := sz_Term (fuel := fuel) (x := x.Term) (left := left - (x.Cmd.size : Int) - (x.Dir.size : Int)) hf f_Term (by omega) (by omega)
  rw [a_Term]
  simp only [bd_s]
  by_cases n_Term : r_Term < 0
  · rw [decide_eq_true n_Term]; exact ⟨-1, rfl, by omega, fun h => by omega⟩
  rw [decide_eq_false n_Term]
  simp only [br_f]
  have d_Term := c_Term (by omega)
  exact ⟨_, rfl, by omega, fun _ => ⟨(by show x.Cmd.size ≤ _; omega), (by show x.Dir.size ≤ _; omega), d_Term⟩⟩
theorem sz_NodeS {fuel : Nat} {l : List LNode} {left : Int} (hm : l.length ≤ 9223372036854775807) (h0 : 0 ≤ left) (h1 : left ≤ 1048576) : ∃ r, pL_szNodeS fuel l left = some r ∧ r ≤ left ∧ (0 ≤ r → l.length ≤ 1048576) := by
  unfold pL_szNodeS
  rw [gd_i64 (by omega) (by omega)]
  by_cases hn : left - (l.length : Int) < 0
  · rw [decide_eq_true hn]; exact ⟨-1, rfl, by omega, fun h => by omega⟩
  rw [decide_eq_false hn]
  exact ⟨_, rfl, by omega, fun h => by omega⟩
theorem sz_Win {fuel : Nat} {x : LWin} {left : Int} (hf : 1048586 < fuel) (h : FitWin 9223372036854775807 (tWin x)) (h0 : 0 ≤ left) (h1 : left ≤ 1048576) : ∃ r, pL_szWin fuel x left = some r ∧ r ≤ left ∧ (0 ≤ r → FitWin 1048576 (tWin x)) := by
  obtain ⟨s_Name, l_Tree⟩ := h
  have s_Name : x.Name.size ≤ 9223372036854775807 := s_Name
  unfold pL_szWin
  rw [gd_i64 (by omega) (by omega)]
  by_cases n_Name : left - (x.Name.size : Int) < 0
  · rw [decide_eq_true n_Name]; exact ⟨-1, rfl, by omega, fun h => by omega⟩
  rw [decide_eq_false n_Name]
  simp only [br_f]
  obtain ⟨r_Tree, a_Tree, b_Tree, c_Tree⟩ := sz_NodeS (fuel := fuel) (l := x.Tree) (left := left - (x.Name.size : Int)) (by simpa [tWin] using l_Tree) (by omega) (by omega)
  rw [a_Tree]
  simp only [bd_s]
  by_cases n_Tree : r_Tree < 0
  · rw [decide_eq_true n_Tree]; exact ⟨-1, rfl, by omega, fun h => by omega⟩
  rw [decide_eq_false n_Tree]
  simp only [br_f]
  have d_Tree := c_Tree (by omega)
  exact ⟨_, rfl, by omega, fun _ => ⟨(by show x.Name.size ≤ _; omega), (by show (x.Tree.map tNode).length ≤ _; rw [List.length_map]; exact d_Tree)⟩⟩
theorem sz_Sess {fuel : Nat} {x : LSess} {left : Int} (hf : 1048586 < fuel) (h : FitSess 9223372036854775807 (tSess x)) (h0 : 0 ≤ left) (h1 : left ≤ 1048576) : ∃ r, pL_szSess fuel x left = some r ∧ r ≤ left ∧ (0 ≤ r → FitSess 1048576 (tSess x)) := by
  obtain ⟨s_Name, l_Wins⟩ := h
  have s_Name : x.Name.size ≤ 9223372036854775807 := s_Name
  unfold pL_szSess
  rw [gd_i64 (by omega) (by omega)]
  by_cases n_Name : left - (x.Name.size : Int) < 0
  · rw [decide_eq_true n_Name]; exact ⟨-1, rfl, by omega, fun h => by omega⟩
  rw [decide_eq_false n_Name]
  simp only [br_f]
  obtain ⟨r_Wins, a_Wins, b_Wins, c_Wins⟩ := sz_IntS (fuel := fuel) (l := x.Wins) (left := left - (x.Name.size : Int)) (by simpa [tSess] using l_Wins) (by omega) (by omega)
  rw [a_Wins]
  simp only [bd_s]
  by_cases n_Wins : r_Wins < 0
  · rw [decide_eq_true n_Wins]; exact ⟨-1, rfl, by omega, fun h => by omega⟩
  rw [decide_eq_false n_Wins]
  simp only [br_f]
  have d_Wins := c_Wins (by omega)
  exact ⟨_, rfl, by omega, fun _ => ⟨(by show x.Name.size ≤ _; omega), d_Wins⟩⟩
theorem sz_PaneS {fuel : Nat} {l : List LPane} {left : Int} (hm : l.length ≤ 9223372036854775807) (h0 : 0 ≤ left) (h1 : left ≤ 1048576) (hf : 1048586 < fuel) (hx : ∀ y ∈ l, FitPane 9223372036854775807 (tPane y)) : ∃ r, pL_szPaneS fuel l left = some r ∧ r ≤ left ∧ (0 ≤ r → l.length ≤ 1048576 ∧ ∀ y ∈ l, FitPane 1048576 (tPane y)) := by
  unfold pL_szPaneS
  rw [gd_i64 (by omega) (by omega)]
  by_cases hn : left - (l.length : Int) < 0
  · rw [decide_eq_true hn]; exact ⟨-1, rfl, by omega, fun h => by omega⟩
  rw [decide_eq_false hn]
  have hl : l.length ≤ 1048576 := by omega
  simp only [br_f]
  rcases loopF_sz (B := pL_szPaneS_b1 fuel) l (fun y => FitPane 1048576 (tPane y)) (left := left - (l.length : Int)) (fuel := fuel) (by omega) (by omega) (fun i x k hxi hk0 hk1 => by
      obtain ⟨g1, g2, g3, g4, g5⟩ := idx_facts hxi (by omega)
      obtain ⟨r, e1, e2, e3⟩ := sz_Pane (fuel := fuel) (x := x) (left := k) hf (hx x (List.mem_of_getElem? hxi)) hk0 hk1
      refine ⟨r, ?_, e2, e3⟩
      unfold pL_szPaneS_b1
      simp only [g1, br_t, gd_t g2, g3, bd_s, e1, g5, gd_t g4, show IntKind.i64.wrap ((i + 1 : Nat) : Int) = ((i + 1 : Nat) : Int) from g4]
      by_cases hr : r < 0
      · simp only [decide_eq_true hr, br_t, if_pos hr]
      · simp only [decide_eq_false hr, br_f, if_neg hr]) (fun k => by unfold pL_szPaneS_b1; simp) (by omega) with h | ⟨r, h, r0, r1, r2⟩
  · rw [h]; exact ⟨-1, rfl, by omega, fun h => by omega⟩
  · rw [h]; exact ⟨r, rfl, by omega, fun _ => ⟨hl, r2⟩⟩
theorem sz_WinS {fuel : Nat} {l : List LWin} {left : Int} (hm : l.length ≤ 9223372036854775807) (h0 : 0 ≤ left) (h1 : left ≤ 1048576) (hf : 1048586 < fuel) (hx : ∀ y ∈ l, FitWin 9223372036854775807 (tWin y)) : ∃ r, pL_szWinS fuel l left = some r ∧ r ≤ left ∧ (0 ≤ r → l.length ≤ 1048576 ∧ ∀ y ∈ l, FitWin 1048576 (tWin y)) := by
  unfold pL_szWinS
  rw [gd_i64 (by omega) (by omega)]
  by_cases hn : left - (l.length : Int) < 0
  · rw [decide_eq_true hn]; exact ⟨-1, rfl, by omega, fun h => by omega⟩
  rw [decide_eq_false hn]
  have hl : l.length ≤ 1048576 := by omega
  simp only [br_f]
  rcases loopF_sz (B := pL_szWinS_b1 fuel) l (fun y => FitWin 1048576 (tWin y)) (left := left - (l.length : Int)) (fuel := fuel) (by omega) (by omega) (fun i x k hxi hk0 hk1 => by
      obtain ⟨g1, g2, g3, g4, g5⟩ := idx_facts hxi (by omega)
      obtain ⟨r, e1, e2, e3⟩ := sz_Win (fuel := fuel) (x := x) (left := k) hf (hx x (List.mem_of_getElem? hxi)) hk0 hk1
      refine ⟨r, ?_, e2, e3⟩
      unfold pL_szWinS_b1
      simp only [g1, br_t, gd_t g2, g3, bd_s, e1, g5, gd_t g4, show IntKind.i64.wrap ((i + 1 : Nat) : Int) = ((i + 1 : Nat) : Int) from g4]
      by_cases hr : r < 0
      · simp only [decide_eq_true hr, br_t, if_pos hr]
      · simp only [decide_eq_false hr, br_f, if_neg hr]) (fun k => by unfold pL_szWinS_b1; simp) (by omega) with h | ⟨r, h, r0, r1, r2⟩
  · rw [h]; exact ⟨-1, rfl, by omega, fun h => by omega⟩
  · rw [h]; exact ⟨r, rfl, by omega, fun _ => ⟨hl, r2⟩⟩
theorem sz_SessS {fuel : Nat} {l : List LSess} {left : Int} (hm : l.length ≤ 9223372036854775807) (h0 : 0 ≤ left) (h1 : left ≤ 1048576) (hf : 1048586 < fuel) (hx : ∀ y ∈ l, FitSess 9223372036854775807 (tSess y)) : ∃ r, pL_szSessS fuel l left = some r ∧ r ≤ left ∧ (0 ≤ r → l.length ≤ 1048576 ∧ ∀ y ∈ l, FitSess 1048576 (tSess y)) := by
  unfold pL_szSessS
  rw [gd_i64 (by omega) (by omega)]
  by_cases hn : left - (l.length : Int) < 0
  · rw [decide_eq_true hn]; exact ⟨-1, rfl, by omega, fun h => by omega⟩
  rw [decide_eq_false hn]
  have hl : l.length ≤ 1048576 := by omega
  simp only [br_f]
  rcases loopF_sz (B := pL_szSessS_b1 fuel) l (fun y => FitSess 1048576 (tSess y)) (left := left - (l.length : Int)) (fuel := fuel) (by omega) (by omega) (fun i x k hxi hk0 hk1 => by
      obtain ⟨g1, g2, g3, g4, g5⟩ := idx_facts hxi (by omega)
      obtain ⟨r, e1, e2, e3⟩ := sz_Sess (fuel := fuel) (x := x) (left := k) hf (hx x (List.mem_of_getElem? hxi)) hk0 hk1
      refine ⟨r, ?_, e2, e3⟩
      unfold pL_szSessS_b1
      simp only [g1, br_t, gd_t g2, g3, bd_s, e1, g5, gd_t g4, show IntKind.i64.wrap ((i + 1 : Nat) : Int) = ((i + 1 : Nat) : Int) from g4]
      by_cases hr : r < 0
      · simp only [decide_eq_true hr, br_t, if_pos hr]
      · simp only [decide_eq_false hr, br_f, if_neg hr]) (fun k => by unfold pL_szSessS_b1; simp) (by omega) with h | ⟨r, h, r0, r1, r2⟩
  · rw [h]; exact ⟨-1, rfl, by omega, fun h => by omega⟩
  · rw [h]; exact ⟨r, rfl, by omega, fun _ => ⟨hl, r2⟩⟩
theorem sz_State {fuel : Nat} {x : LState} {left : Int} (hf : 1048586 < fuel) (h : FitState 9223372036854775807 (tState x)) (h0 : 0 ≤ left) (h1 : left ≤ 1048576) : ∃ r, pL_szState fuel x left = some r ∧ r ≤ left ∧ (0 ≤ r → FitState 1048576 (tState x)) := by
  obtain ⟨l_Panes, e_Panes, l_Wins, e_Wins, l_Sess, e_Sess⟩ := h
  unfold pL_szState
  obtain ⟨r_Panes, a_Panes, b_Panes, c_Panes⟩ := sz_PaneS (fuel := fuel) (l := x.Panes) (left := left) (by simpa [tState] using l_Panes) (by omega) (by omega) hf (fun y hy => e_Panes _ (List.mem_map.2 ⟨y, hy, rfl⟩))
  rw [a_Panes]
  simp only [bd_s]
  by_cases n_Panes : r_Panes < 0
  · rw [decide_eq_true n_Panes]; exact ⟨-1, rfl, by omega, fun h => by omega⟩
  rw [decide_eq_false n_Panes]
  simp only [br_f]
  have d_Panes := c_Panes (by omega)
  obtain ⟨r_Wins, a_Wins, b_Wins, c_Wins⟩ := sz_WinS (fuel := fuel) (l := x.Wins) (left := r_Panes) (by simpa [tState] using l_Wins) (by omega) (by omega) hf (fun y hy => e_Wins _ (List.mem_map.2 ⟨y, hy, rfl⟩))
  rw [a_Wins]
  simp only [bd_s]
  by_cases n_Wins : r_Wins < 0
  · rw [decide_eq_true n_Wins]; exact ⟨-1, rfl, by omega, fun h => by omega⟩
  rw [decide_eq_false n_Wins]
  simp only [br_f]
  have d_Wins := c_Wins (by omega)
  obtain ⟨r_Sess, a_Sess, b_Sess, c_Sess⟩ := sz_SessS (fuel := fuel) (l := x.Sess) (left := r_Wins) (by simpa [tState] using l_Sess) (by omega) (by omega) hf (fun y hy => e_Sess _ (List.mem_map.2 ⟨y, hy, rfl⟩))
  rw [a_Sess]
  simp only [bd_s]
  by_cases n_Sess : r_Sess < 0
  · rw [decide_eq_true n_Sess]; exact ⟨-1, rfl, by omega, fun h => by omega⟩
  rw [decide_eq_false n_Sess]
  simp only [br_f]
  have d_Sess := c_Sess (by omega)
  exact ⟨_, rfl, by omega, fun _ => ⟨(by show (x.Panes.map tPane).length ≤ _; rw [List.length_map]; exact d_Panes.1), (fun y hy => by obtain ⟨z, hz, rfl⟩ := List.mem_map.1 hy; exact d_Panes.2 z hz), (by show (x.Wins.map tWin).length ≤ _; rw [List.length_map]; exact d_Wins.1), (fun y hy => by obtain ⟨z, hz, rfl⟩ := List.mem_map.1 hy; exact d_Wins.2 z hz), (by show (x.Sess.map tSess).length ≤ _; rw [List.length_map]; exact d_Sess.1), (fun y hy => by obtain ⟨z, hz, rfl⟩ := List.mem_map.1 hy; exact d_Sess.2 z hz)⟩⟩
end Go.Px
namespace Go.Px
theorem loopF_wt {α : Type} {B : List α × Int × Int → Option ((List α × Int × Int) ⊕ (Int ⊕ Int))} (l : List α) (wt : α → Nat)
    (hB : ∀ (i : Nat) x k, l[i]? = some x → 0 ≤ k → k ≤ 1048576 → ∃ r, B (l, k, (i : Int)) = (if r < 0 then some (.inr (.inr (-1))) else some (.inl (l, r, ((i + 1 : Nat) : Int)))) ∧ r ≤ k ∧ (0 ≤ r → r + (wt x : Int) ≤ k)) (hE : ∀ k, B (l, k, (l.length : Int)) = some (.inr (.inl k))) :
    ∀ (fuel i : Nat) (k : Int) (o : Int ⊕ Int), i ≤ l.length → 0 ≤ k → k ≤ 1048576 → loopF B fuel (l, k, (i : Int)) = some o → o = .inr (-1) ∨ ∃ r, o = .inl r ∧ r + (((l.drop i).map wt).sum : Int) ≤ k := by
  intro fuel
  induction fuel with
  | zero => intro i k o hi h0 h1 h; cases h
  | succ fuel ih =>
    intro i k o hi h0 h1 h
    unfold loopF at h
    by_cases he : i = l.length
    · subst he
      rw [hE] at h
      cases h
      rw [List.drop_eq_nil_of_le (Nat.le_refl _)]
      exact .inr ⟨_, rfl, by simp⟩
    · have hx : l[i]? = some (l[i]'(by omega)) := List.getElem?_eq_getElem (by omega)
      obtain ⟨r', e, e1, e2⟩ := hB i _ k hx h0 h1
      rw [e] at h
      by_cases hr : r' < 0
      · rw [if_pos hr] at h; cases h; exact .inl rfl
      · rw [if_neg hr] at h
        rcases ih (i + 1) r' o (by omega) (by omega) (by omega) h with h | ⟨r, h, h2⟩
        · exact .inl h
        · have := e2 (by omega)
          refine .inr ⟨r, h, ?_⟩
          rw [drop_get hx, List.map_cons, List.sum_cons]
          omega
theorem wt_Win {fuel : Nat} {x : LWin} {left : Int} (h : FitWin 9223372036854775807 (tWin x)) (h0 : 0 ≤ left) (h1 : left ≤ 1048576) : ∃ r, pL_szWin fuel x left = some r ∧ r ≤ left ∧ (0 ≤ r → r + (x.Tree.length : Int) ≤ left) := by
  obtain ⟨s_Name, l_Tree⟩ := h
  have s_Name : x.Name.size ≤ 9223372036854775807 := s_Name
  have l_Tree : x.Tree.length ≤ 9223372036854775807 := by simpa [tWin] using l_Tree
  unfold pL_szWin pL_szNodeS
  rw [gd_i64 (by omega) (by omega)]
  by_cases n_Name : left - (x.Name.size : Int) < 0
  · rw [decide_eq_true n_Name]; exact ⟨-1, rfl, by omega, fun h => by omega⟩
  rw [decide_eq_false n_Name]
  simp only [br_f]
  rw [gd_i64 (by omega) (by omega)]
  by_cases n2 : left - (x.Name.size : Int) - (x.Tree.length : Int) < 0
  · rw [decide_eq_true n2]; exact ⟨-1, rfl, by omega, fun h => by omega⟩
  rw [decide_eq_false n2]
  simp only [br_f, bd_s, decide_eq_false n2]
  exact ⟨_, rfl, by omega, fun _ => by omega⟩
theorem wt_Sess {fuel : Nat} {x : LSess} {left : Int} (h : FitSess 9223372036854775807 (tSess x)) (h0 : 0 ≤ left) (h1 : left ≤ 1048576) : ∃ r, pL_szSess fuel x left = some r ∧ r ≤ left ∧ (0 ≤ r → r + (x.Wins.length : Int) ≤ left) := by
  obtain ⟨s_Name, l_Tree⟩ := h
  have s_Name : x.Name.size ≤ 9223372036854775807 := s_Name
  have l_Tree : x.Wins.length ≤ 9223372036854775807 := l_Tree
  unfold pL_szSess pL_szIntS
  rw [gd_i64 (by omega) (by omega)]
  by_cases n_Name : left - (x.Name.size : Int) < 0
  · rw [decide_eq_true n_Name]; exact ⟨-1, rfl, by omega, fun h => by omega⟩
  rw [decide_eq_false n_Name]
  simp only [br_f]
  rw [gd_i64 (by omega) (by omega)]
  by_cases n2 : left - (x.Name.size : Int) - (x.Wins.length : Int) < 0
  · rw [decide_eq_true n2]; exact ⟨-1, rfl, by omega, fun h => by omega⟩
  rw [decide_eq_false n2]
  simp only [br_f, bd_s, decide_eq_false n2]
  exact ⟨_, rfl, by omega, fun _ => by omega⟩
theorem wt_WinS {fuel : Nat} {l : List LWin} {left r : Int} (hm : l.length ≤ 9223372036854775807) (h0 : 0 ≤ left) (h1 : left ≤ 1048576) (hx : ∀ y ∈ l, FitWin 9223372036854775807 (tWin y)) (h : pL_szWinS fuel l left = some r) (hr : 0 ≤ r) : (l.flatMap fun w => w.Tree).length ≤ 1048576 := by
  unfold pL_szWinS at h
  rw [gd_i64 (by omega) (by omega)] at h
  by_cases hn : left - (l.length : Int) < 0
  · rw [decide_eq_true hn] at h; cases h; omega
  rw [decide_eq_false hn] at h
  simp only [br_f] at h
  have key := loopF_wt (B := pL_szWinS_b1 fuel) l (fun w => w.Tree.length) (fun i x k hxi hk0 hk1 => by
      obtain ⟨g1, g2, g3, g4, g5⟩ := idx_facts hxi (by omega)
      obtain ⟨r, e1, e2, e3⟩ := wt_Win (fuel := fuel) (x := x) (left := k) (hx x (List.mem_of_getElem? hxi)) hk0 hk1
      refine ⟨r, ?_, e2, e3⟩
      unfold pL_szWinS_b1
      simp only [g1, br_t, gd_t g2, g3, bd_s, e1, g5, gd_t g4, show IntKind.i64.wrap ((i + 1 : Nat) : Int) = ((i + 1 : Nat) : Int) from g4]
      by_cases hr : r < 0
      · simp only [decide_eq_true hr, br_t, if_pos hr]
      · simp only [decide_eq_false hr, br_f, if_neg hr]) (fun k => by unfold pL_szWinS_b1; simp) fuel 0 (left - (l.length : Int))
  cases hl : loopF (pL_szWinS_b1 fuel) fuel (l, left - (l.length : Int), 0) with
  | none => rw [hl] at h; cases h
  | some o =>
    rw [hl] at h
    rcases key o (by omega) (by omega) (by omega) hl with rfl | ⟨v, rfl, h2⟩
    · cases h; omega
    · rw [List.length_flatMap]
      rw [List.drop_zero] at h2
      cases h
      omega
theorem wt_SessS {fuel : Nat} {l : List LSess} {left r : Int} (hm : l.length ≤ 9223372036854775807) (h0 : 0 ≤ left) (h1 : left ≤ 1048576) (hx : ∀ y ∈ l, FitSess 9223372036854775807 (tSess y)) (h : pL_szSessS fuel l left = some r) (hr : 0 ≤ r) : (l.flatMap fun w => w.Wins).length ≤ 1048576 := by
  unfold pL_szSessS at h
  rw [gd_i64 (by omega) (by omega)] at h
  by_cases hn : left - (l.length : Int) < 0
  · rw [decide_eq_true hn] at h; cases h; omega
  rw [decide_eq_false hn] at h
  simp only [br_f] at h
  have key := loopF_wt (B := pL_szSessS_b1 fuel) l (fun w => w.Wins.length) (fun i x k hxi hk0 hk1 => by
      obtain ⟨g1, g2, g3, g4, g5⟩ := idx_facts hxi (by omega)
      obtain ⟨r, e1, e2, e3⟩ := wt_Sess (fuel := fuel) (x := x) (left := k) (hx x (List.mem_of_getElem? hxi)) hk0 hk1
      refine ⟨r, ?_, e2, e3⟩
      unfold pL_szSessS_b1
      simp only [g1, br_t, gd_t g2, g3, bd_s, e1, g5, gd_t g4, show IntKind.i64.wrap ((i + 1 : Nat) : Int) = ((i + 1 : Nat) : Int) from g4]
      by_cases hr : r < 0
      · simp only [decide_eq_true hr, br_t, if_pos hr]
      · simp only [decide_eq_false hr, br_f, if_neg hr]) (fun k => by unfold pL_szSessS_b1; simp) fuel 0 (left - (l.length : Int))
  cases hl : loopF (pL_szSessS_b1 fuel) fuel (l, left - (l.length : Int), 0) with
  | none => rw [hl] at h; cases h
  | some o =>
    rw [hl] at h
    rcases key o (by omega) (by omega) (by omega) hl with rfl | ⟨v, rfl, h2⟩
    · cases h; omega
    · rw [List.length_flatMap]
      rw [List.drop_zero] at h2
      cases h
      omega
end Go.Px
namespace Go.Px
theorem sz_StateG {fuel : Nat} {x : LState} {left : Int} (hf : 1048586 < fuel) (h : FitState 9223372036854775807 (tState x)) (h0 : 0 ≤ left) (h1 : left ≤ 1048576) : ∃ r, pL_szState fuel x left = some r ∧ (0 ≤ r → FitState 1048576 (tState x) ∧ (x.Wins.flatMap fun w => w.Tree).length ≤ 1048576 ∧ (x.Sess.flatMap fun w => w.Wins).length ≤ 1048576) := by
  obtain ⟨r0, q0, q1, q2⟩ := sz_State (fuel := fuel) hf h h0 h1
  refine ⟨r0, q0, fun hr => ⟨q2 hr, ?_⟩⟩
  obtain ⟨l_Panes, e_Panes, l_Wins, e_Wins, l_Sess, e_Sess⟩ := h
  have l_Panes : x.Panes.length ≤ 9223372036854775807 := by simpa [tState] using l_Panes
  have l_Wins : x.Wins.length ≤ 9223372036854775807 := by simpa [tState] using l_Wins
  have l_Sess : x.Sess.length ≤ 9223372036854775807 := by simpa [tState] using l_Sess
  have f_Wins : ∀ y ∈ x.Wins, FitWin 9223372036854775807 (tWin y) := fun y hy => e_Wins _ (List.mem_map.2 ⟨y, hy, rfl⟩)
  have f_Sess : ∀ y ∈ x.Sess, FitSess 9223372036854775807 (tSess y) := fun y hy => e_Sess _ (List.mem_map.2 ⟨y, hy, rfl⟩)
  unfold pL_szState at q0
  obtain ⟨r1, a1, b1, c1⟩ := sz_PaneS (fuel := fuel) (l := x.Panes) (left := left) l_Panes (by omega) (by omega) hf (fun y hy => e_Panes _ (List.mem_map.2 ⟨y, hy, rfl⟩))
  rw [a1, bd_s] at q0
  by_cases n1 : r1 < 0
  · rw [decide_eq_true n1] at q0; cases q0; omega
  rw [decide_eq_false n1, br_f] at q0
  obtain ⟨r2, a2, b2, c2⟩ := sz_WinS (fuel := fuel) (l := x.Wins) (left := r1) l_Wins (by omega) (by omega) hf f_Wins
  rw [a2, bd_s] at q0
  by_cases n2 : r2 < 0
  · rw [decide_eq_true n2] at q0; cases q0; omega
  rw [decide_eq_false n2, br_f] at q0
  obtain ⟨r3, a3, b3, c3⟩ := sz_SessS (fuel := fuel) (l := x.Sess) (left := r2) l_Sess (by omega) (by omega) hf f_Sess
  rw [a3, bd_s] at q0
  by_cases n3 : r3 < 0
  · rw [decide_eq_true n3] at q0; cases q0; omega
  exact ⟨wt_WinS l_Wins (by omega) (by omega) f_Wins a2 (by omega), wt_SessS l_Sess (by omega) (by omega) f_Sess a3 (by omega)⟩
theorem paneF_of {p : IPane} (hp : FitPane 1048576 p) {fu : Nat} (hf : 1048700 ≤ fu) : PaneF fu p := by
  obtain ⟨_, _, ⟨a1, a2⟩, b1, b2, b3, b4, b5⟩ := hp
  have b1 : p.Term.S.Main.Cells.length ≤ 1048576 := b1
  have b2 : p.Term.S.Alt.Cells.length ≤ 1048576 := b2
  refine ⟨by omega, by omega, ⟨⟨by omega, by omega⟩, ⟨by omega, by omega⟩, ⟨by omega, by omega⟩, ⟨by omega, by omega⟩, fun x hx => ?_, by omega⟩⟩
  have : x.Cells.length ≤ 1048576 := b5 x hx
  exact ⟨by omega, by omega⟩
theorem FitPane.up {p : IPane} (h : FitPane 1048576 p) : FitPane 1048581 p := by
  obtain ⟨h1, h2, ⟨a1, a2⟩, b1, b2, b3, b4, b5⟩ := h
  have b1 : p.Term.S.Main.Cells.length ≤ 1048576 := b1
  have b2 : p.Term.S.Alt.Cells.length ≤ 1048576 := b2
  refine ⟨by omega, by omega, ⟨by omega, by omega⟩, ?_, ?_, by omega, by omega, fun y hy => ?_⟩
  · show p.Term.S.Main.Cells.length ≤ _; omega
  · show p.Term.S.Alt.Cells.length ≤ _; omega
  · have : y.Cells.length ≤ 1048576 := b5 y hy
    show y.Cells.length ≤ _; omega
theorem FitState.up {s : IState} (h : FitState 1048576 s) : FitState 1048581 s := by
  obtain ⟨h1, h2, h3, h4, h5, h6⟩ := h
  exact ⟨by omega, fun y hy => (h2 y hy).up, by omega, fun y hy => ⟨Nat.le_trans (h4 y hy).1 (by omega), Nat.le_trans (h4 y hy).2 (by omega)⟩, by omega, fun y hy => ⟨Nat.le_trans (h6 y hy).1 (by omega), Nat.le_trans (h6 y hy).2 (by omega)⟩⟩
theorem flat_tree (l : List LWin) : ((l.map tWin).flatMap fun w => w.Tree).length = (l.flatMap fun w => w.Tree).length := by
  rw [List.length_flatMap, List.length_flatMap, List.map_map]
  congr 1
  exact List.map_congr_left fun w hw => by show (w.Tree.map tNode).length = _; rw [List.length_map]
theorem flat_wins (l : List LSess) : ((l.map tSess).flatMap fun w => w.Wins).length = (l.flatMap fun w => w.Wins).length := by
  rw [List.length_flatMap, List.length_flatMap, List.map_map]
  congr 1
theorem sg_of {F : Nat} {x : LState} (hF : 20000000 < F + 70) (h : FitState 1048576 (tState x)) (h1 : (x.Wins.flatMap fun w => w.Tree).length ≤ 1048576) (h2 : (x.Sess.flatMap fun w => w.Wins).length ≤ 1048576) : SG F (tState x) := by
  obtain ⟨a1, a2, a3, a4, a5, a6⟩ := h
  refine ⟨⟨⟨hF, a1, a3, a5, fun w hw => (a4 w hw).2, fun w hw => (a4 w hw).1, fun w hw => (a6 w hw).2, fun w hw => (a6 w hw).1⟩, fun p hp => paneF_of (a2 p hp) (by omega)⟩, ?_, ?_⟩
  · show ((x.Wins.map tWin).flatMap fun w => w.Tree).length ≤ _; rw [flat_tree]; exact h1
  · show ((x.Sess.map tSess).flatMap fun w => w.Wins).length ≤ _; rw [flat_wins]; exact h2
theorem plain_law (s : LState) (n : ByteArray) (hs : FitState 9223372036854775807 (tState s)) : pL_FnExactStatus 20000100 s n = some true := by
  have hf : 1048586 < 20000100 := by omega
  unfold pL_FnExactStatus
  by_cases n0 : 1048576 < (n.size : Int)
  · rw [decide_eq_true n0]; rfl
  rw [decide_eq_false n0]
  simp only [br_f]
  obtain ⟨r1, a1, a2⟩ := sz_StateG (fuel := 20000100) (x := s) (left := 1048576) hf hs (by omega) (by omega)
  rw [a1]
  simp only [bd_s]
  by_cases n1 : r1 < 0
  · rw [decide_eq_true n1]; rfl
  rw [decide_eq_false n1]
  simp only [br_f]
  obtain ⟨hs', s1, s2⟩ := a2 (by omega)
  have hg : SG 20000030 (tState s) := sg_of (by omega) hs' s1 s2
  have e1 := to_State (fuel := 20000100) (x := s) hf hs'
  have e3 : pS_Status 20000100 (tState s) n = some (statusV (tState s) n) := pS_Status_eq hg
  have e4 : pI_Status 20000100 (tState s) n = some (statusV (tState s) n) := pI_Status_eq hg
  have e5 := eq_State (fuel := 20000100) (x := tState s) hf hs'.up
  simp only [e1, e3, e4, bd_s, e5, Bool.not_true, br_f, decide_true]
end Go.Px
namespace Go.Px
open Go.RowKit
def lenN : Nat → Leaf → Prop
  | 0, _ => True
  | _ + 1, .sc v => wfV v
  | n + 1, .nest _ l => l.length ≤ 9223372036854775807 ∧ ∀ x ∈ l, ∀ lf ∈ leaves x, lenN n lf
theorem lenN_of {S : Nat → Prop} {w : World} : ∀ (n : Nat) {lf : Leaf} {u : Value}, LeafV S w lf u → lenN n lf
  | 0, _, _, _ => trivial
  | n + 1, .sc v, u, h => h.2
  | n + 1, .nest k l, u, h => by
    obtain ⟨a, cap, _, h1, h2, h3⟩ := Row.open h
    refine ⟨h2, fun x hx lf hlf => ?_⟩
    obtain ⟨i, hi⟩ := List.getElem?_of_mem hx
    obtain ⟨j, hj⟩ := List.getElem?_of_mem hlf
    obtain ⟨b, off, _, _, h4⟩ := h3 (by intro e; subst e; simp at hi)
    obtain ⟨u', _, hv⟩ := h4 i x hi j lf hj
    exact lenN_of n hv
theorem lens_of {S : Nat → Prop} {w : World} {lfs : List Leaf} {us : List Value} (n : Nat) (h : All2 (LeafV S w) lfs us) : ∀ lf ∈ lfs, lenN n lf := fun lf hm => by
  obtain ⟨i, hi⟩ := List.getElem?_of_mem hm
  obtain ⟨u, _, hv⟩ := h.get i lf hi
  exact lenN_of n hv
theorem fit_Pane {p : LPane} (h : ∀ lf ∈ leaves (k := .lPane) p, lenN 3 lf) : FitPane 9223372036854775807 (tPane p) := by
  have h1 := h (.sc (.string p.Cmd)) (by simp [leaves])
  have h2 := h (.sc (.string p.Dir)) (by simp [leaves])
  have h3 := h (.nest .int p.Term.P.Args) (by simp [leaves])
  have h4 := h (.nest .u8 p.Term.P.Part) (by simp [leaves])
  have h5 := h (.nest .lCell p.Term.S.Main.Cells) (by simp [leaves])
  have h6 := h (.nest .lCell p.Term.S.Alt.Cells) (by simp [leaves])
  have h7 := h (.nest .int p.Term.S.Tabs) (by simp [leaves])
  have h8 := h (.nest .lRow p.Term.S.Back) (by simp [leaves])
  refine ⟨h1, h2, ⟨h3.1, h4.1⟩, ?_, ?_, h7.1, ?_, fun y hy => ?_⟩
  · show (p.Term.S.Main.Cells.map tCell).length ≤ _; rw [List.length_map]; exact h5.1
  · show (p.Term.S.Alt.Cells.map tCell).length ≤ _; rw [List.length_map]; exact h6.1
  · show (p.Term.S.Back.map tRow).length ≤ _; rw [List.length_map]; exact h8.1
  · obtain ⟨z, hz, rfl⟩ := List.mem_map.1 hy
    have h9 := h8.2 z hz (.nest .lCell z.Cells) (by simp [leaves])
    show (z.Cells.map tCell).length ≤ _; rw [List.length_map]; exact h9.1
theorem fit_Win {p : LWin} (h : ∀ lf ∈ leaves (k := .lWin) p, lenN 3 lf) : FitWin 9223372036854775807 (tWin p) := by
  have h1 := h (.sc (.string p.Name)) (by simp [leaves])
  have h2 := h (.nest .lNode p.Tree) (by simp [leaves])
  refine ⟨h1, ?_⟩
  show (p.Tree.map tNode).length ≤ _; rw [List.length_map]; exact h2.1
theorem fit_Sess {p : LSess} (h : ∀ lf ∈ leaves (k := .lSess) p, lenN 3 lf) : FitSess 9223372036854775807 (tSess p) := by
  have h1 := h (.sc (.string p.Name)) (by simp [leaves])
  have h2 := h (.nest .int p.Wins) (by simp [leaves])
  exact ⟨h1, h2.1⟩
theorem fit_State {p : LState} (h : ∀ lf ∈ leaves (k := .lState) p, lenN 4 lf) : FitState 9223372036854775807 (tState p) := by
  have h1 := h (.nest .lPane p.Panes) (by simp [leaves])
  have h2 := h (.nest .lWin p.Wins) (by simp [leaves])
  have h3 := h (.nest .lSess p.Sess) (by simp [leaves])
  refine ⟨?_, fun y hy => ?_, ?_, fun y hy => ?_, ?_, fun y hy => ?_⟩
  · show (p.Panes.map tPane).length ≤ _; rw [List.length_map]; exact h1.1
  · obtain ⟨z, hz, rfl⟩ := List.mem_map.1 hy
    exact fit_Pane (h1.2 z hz)
  · show (p.Wins.map tWin).length ≤ _; rw [List.length_map]; exact h2.1
  · obtain ⟨z, hz, rfl⟩ := List.mem_map.1 hy
    exact fit_Win (h2.2 z hz)
  · show (p.Sess.map tSess).length ≤ _; rw [List.length_map]; exact h3.1
  · obtain ⟨z, hz, rfl⟩ := List.mem_map.1 hy
    exact fit_Sess (h3.2 z hz)
theorem law_ofE {P : Program} {f : FuncId} {fn : Func} {c : Code} {E : World → Prop} (hf : P.funcs[f]? = some fn) (hname : (fn.name == "runtime.NumGoroutine") = false) (hb : fn.body = some c) {args : List PV} {us : List Value} {W : World} (hE : E W) (h : PCalls P W.heap.size E f args [] (.v (.bool true)) []) (ha : All3 (Own1 (fun b => b < W.heap.size) W (extB []) (extS [])) args us []) :
    Calls P f us.toArray W fun e W' => e = .returned (.bool true) ∧ Below W.heap.size W W' := by
  refine Arrive.calls hf hname hb (Arrive.mono (h.2 W (fun b => b < W.heap.size) us [] [] [] (Nat.le_refl _) hE rfl rfl (by simp) (by simp) (fun b hb => ⟨hb, by simp⟩) ha (fun j p cs L hj => by simp at hj)) ?_)
  rintro e W' ⟨u, Lr, Le', rfl, _, _, _, h5, _, h7⟩
  obtain ⟨_, rfl, _⟩ := h5
  exact ⟨rfl, h7.os, h7.tape, h7.output, h7.size, fun b hb => h7.old b hb (by simp)⟩
theorem tab_stays {w w' : World} (h : TabW w) (hs : ∀ b, b < w.heap.size → w'.heap[b]? = w.heap[b]?) : TabW w' := by
  unfold TabW Lib.TabIs World.var? at h ⊢
  cases hg : Proofs.Tryz.prog.globalNamed "internal/strconv.uint64pow10" with
  | none => rw [hg] at h; cases h
  | some g =>
    rw [hg] at h
    simp only [Option.bind_some] at h ⊢
    by_cases hlt : g < w.heap.size
    · rw [hs g hlt]; exact h
    · rw [Array.getElem?_eq_none (by omega)] at h; cases h
end Go.Px
