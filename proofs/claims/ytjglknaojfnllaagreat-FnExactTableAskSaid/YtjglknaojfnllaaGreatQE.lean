/- The small machine over plain values, further: texts QT2, QT3, QK, QM1, QM2, QM3, QM4, QT4, QT5. -/
import Derived.Test.YtjglknaojfnllaaGreatQD
set_option linter.unusedSimpArgs false
set_option linter.unusedVariables false
set_option linter.constructorNameAsVariable false
namespace Go.Px
theorem room_int {n : Nat} (h : n ≤ 4000000) : roomB K.int n := by
  refine ⟨by omega, ?_⟩
  show n * byt K.int ≤ _
  have : byt K.int = 8 := rfl
  rw [this]; omega
def panesTo (t : ITable) (i : Nat) : List Int := (t.Live.take i).map (·.Pane)
theorem panes_any (t : ITable) (i : Nat) (x : IProc) : ((panesTo t i).any fun n => n == x.Pane) = seenB t i x := by
  unfold panesTo seenB
  rw [List.any_map]
  rfl
theorem panes_next {t : ITable} {i : Nat} {x : IProc} (hx : t.Live[i]? = some x) : panesTo t i ++ [x.Pane] = panesTo t (i + 1) := by
  unfold panesTo
  have hi := (List.getElem?_eq_some_iff.1 hx).1
  have e : t.Live.take (i + 1) = t.Live.take i ++ [x] := by
    rw [List.take_add_one, hx]; rfl
  rw [e, List.map_append]; rfl
theorem pS_TableOk_step {fuel : Nat} {t : ITable} (hl : t.Live.length ≤ 2000000) (hf : t.Live.length < fuel) {i : Nat} {x : IProc} (hx : t.Live[i]? = some x) :
    pS_TableOk_b1 fuel (t, panesTo t i, t.Live, (t.Live.length : Int), (i : Int)) = if badT t i x then some (.inr (.inr false)) else some (.inl (t, panesTo t (i + 1), t.Live, (t.Live.length : Int), ((i + 1 : Nat) : Int))) := by
  obtain ⟨h1, h2, h3, h4, h5⟩ := idx_facts hx (by omega)
  have hplen : (panesTo t i).length ≤ t.Live.length := by unfold panesTo; simp; omega
  have hk : pS_l02HasInt fuel (panesTo t i) x.Pane = some (seenB t i x) := by
    rw [hasInt_eq (by omega) (by omega), panes_any]
  unfold pS_TableOk_b1
  simp only [h1, br_t, gd_t h2, h3, bd_s, hk]
  unfold badT
  have hfin : ∀ c : Bool, (br c (some (.inr (.inr false))) (gd (roomB K.int (panesTo t i ++ [x.Pane]).length) (gd (inK IntKind.i64 ((i : Int) + 1)) (some (.inl (t, panesTo t i ++ [x.Pane], t.Live, (t.Live.length : Int), (i : Int) + 1))))) : Option ((ITable × List Int × List IProc × Int × Int) ⊕ (ITable ⊕ Bool))) = if c then some (.inr (.inr false)) else some (.inl (t, panesTo t (i + 1), t.Live, (t.Live.length : Int), ((i + 1 : Nat) : Int))) := by
    intro c
    rw [gd_t (room_int (by rw [List.length_append]; simp; omega)), h5, gd_t h4, panes_next hx]
    cases c <;> rfl
  have n1 : decide (x.Pid < 1) = !decide (1 ≤ x.Pid) := by by_cases h : 1 ≤ x.Pid <;> simp [h] <;> omega
  have n2 : decide (t.Next ≤ x.Pid) = !decide (x.Pid < t.Next) := by by_cases h : x.Pid < t.Next <;> simp [h] <;> omega
  have n3 : decide (x.Pane < 1) = !decide (1 ≤ x.Pane) := by by_cases h : 1 ≤ x.Pane <;> simp [h] <;> omega
  have n4 : decide (1000000 < x.Pane) = !decide (x.Pane ≤ 1000000) := by by_cases h : x.Pane ≤ 1000000 <;> simp [h] <;> omega
  simp only [n1, n2, n3, n4]
  have e : (isIdB x.Pane) = (decide (1 ≤ x.Pane) && decide (x.Pane ≤ 1000000)) := rfl
  rw [e]
  cases decide (1 ≤ x.Pid) with
  | false => simp only [Bool.not_false, br_t, bd_s, Bool.false_and, Bool.true_or, if_true]
  | true =>
  cases decide (x.Pid < t.Next) with
  | false => simp only [Bool.not_false, Bool.not_true, br_t, br_f, bd_s, Bool.true_and, Bool.true_or, if_true]
  | true =>
    simp only [Bool.not_true, br_f, Bool.true_and, Bool.false_or]
    cases i with
    | zero =>
      simp only [show decide ((0 : Int) < ((0 : Nat) : Int)) = false from rfl, br_f, prevB, Bool.false_or]
      cases decide (1 ≤ x.Pane) with
      | false => simp only [Bool.not_false, br_t, bd_s, Bool.false_and, Bool.true_or, if_true]
      | true =>
      cases decide (x.Pane ≤ 1000000) with
      | false => simp only [Bool.not_false, Bool.not_true, br_t, br_f, bd_s, Bool.true_and, Bool.true_or, if_true]
      | true =>
        simp only [Bool.not_true, br_f, bd_s, Bool.true_and, Bool.false_or]
        exact hfin _
    | succ i =>
      have hi0 : i < t.Live.length := by have := (List.getElem?_eq_some_iff.1 hx).1; omega
      simp only [decide_eq_true (show (0 : Int) < ((i + 1 : Nat) : Int) by omega), br_t]
      rw [gd_i64 (by omega) (by omega), gd_ix (by omega) (by omega), show (((i + 1 : Nat) : Int) - 1).toNat = i by omega, List.getElem?_eq_getElem hi0]
      have e0 : prevB t (i + 1) x = decide (x.Pid ≤ t.Live[i].Pid) := by simp [prevB, hi0]
      simp only [bd_s, e0]
      cases decide (x.Pid ≤ t.Live[i].Pid) with
      | true => simp only [br_t, bd_s, Bool.true_or, if_true]
      | false =>
        simp only [br_f, Bool.false_or]
        cases decide (1 ≤ x.Pane) with
        | false => simp only [Bool.not_false, br_t, bd_s, Bool.false_and, Bool.true_or, if_true]
        | true =>
        cases decide (x.Pane ≤ 1000000) with
        | false => simp only [Bool.not_false, Bool.not_true, br_t, br_f, bd_s, Bool.true_and, Bool.true_or, if_true]
        | true =>
          simp only [Bool.not_true, br_f, bd_s, Bool.true_and, Bool.false_or]
          exact hfin _
theorem pS_TableOk_any {fuel : Nat} {t : ITable} (hl : t.Live.length ≤ 2000000) (hf : t.Live.length < fuel) : pS_TableOk fuel t = some (!(t.Live.zipIdx.any fun p => badT t p.2 p.1) && isIdB t.Next) := by
  unfold pS_TableOk
  have := loopF_anyI (B := pS_TableOk_b1 fuel) (fun i => (t, panesTo t i, t.Live, (t.Live.length : Int), (i : Int))) t.Live (badT t) (.inr false) (.inl t) (fuel := fuel) (v := (t, [], t.Live, (t.Live.length : Int), 0)) rfl (fun i x hx => pS_TableOk_step hl hf hx) (by
    unfold pS_TableOk_b1
    simp) hf
  rw [this]
  cases t.Live.zipIdx.any fun p => badT t p.2 p.1 with
  | true => rfl
  | false =>
    simp only [jn_l, Bool.false_eq_true, if_false, bd_s, Bool.not_false, Bool.true_and]
    unfold isIdB
    cases decide (1 ≤ t.Next) <;> rfl
def tableOkB (t : ITable) : Bool := !(t.Live.zipIdx.any fun p => badT t p.2 p.1) && isIdB t.Next
theorem pS_TableOk_eq {fuel : Nat} {t : ITable} (hl : t.Live.length ≤ 2000000) (hf : t.Live.length < fuel) : pS_TableOk fuel t = some (tableOkB t) := pS_TableOk_any hl hf
theorem pI_TableOk_eq {fuel : Nat} {t : ITable} (hl : t.Live.length ≤ 2000000) (hf : t.Live.length < fuel) : pI_TableOk fuel t = some (tableOkB t) := by
  rw [pI_TableOk_any (by omega) hf]
  unfold tableOkB
  cases hn : isIdB t.Next with
  | false => simp
  | true =>
    congr 1
    have hn2 : 1 ≤ t.Next ∧ t.Next ≤ 1000000 := by simpa [isIdB] using hn
    have : ∀ (i : Nat) (x : IProc), badI t i x = badT t i x := by
      intro i x
      unfold badI badT
      rw [(wrap_iff .i64 _).2 ⟨by show -9223372036854775808 ≤ _; omega, by show _ ≤ 9223372036854775807; omega⟩]
      congr 3
      by_cases h : x.Pid < t.Next
      · rw [decide_eq_true h, decide_eq_true (by omega)]
      · rw [decide_eq_false h, decide_eq_false (by omega)]
    simp only [this]
end Go.Px
namespace Go.Px
/-! ### TableAsk in both readings -/
theorem room_iProc {n : Nat} (h : n ≤ 4000000) : roomB K.iProc n := by
  refine ⟨by omega, ?_⟩
  show n * byt K.iProc ≤ _
  have : byt K.iProc = 16 := rfl
  rw [this]; omega
theorem room_iAsk {n : Nat} (h : n ≤ 4000000) : roomB K.iAsk n := by
  refine ⟨by omega, ?_⟩
  show n * byt K.iAsk ≤ _
  have : byt K.iAsk = 64 := rfl
  rw [this]; omega
structure PaneF (fuel : Nat) (p : IPane) : Prop where
  al : p.Term.P.Args.length ≤ 9223372036854775807
  af : p.Term.P.Args.length < fuel
  s : ScrF fuel p.Term.S
def okAskB (t : ITable) (p : IPane) : Bool := tableOkB t && paneOkB p (runeBeginB p.Term.P.Part)
def askNew (t : ITable) (p : IPane) : ITable := ITable.mk (t.Next + 1) (t.Live ++ [IProc.mk t.Next p.Id]) (t.Asked ++ [IAsk.mk p.Id p.Cmd p.Dir p.Term.S.W p.Term.S.H t.Next])
def askB (t : ITable) (p : IPane) : ITable × Int :=
  if okAskB t p then (if (t.Live.any fun x => x.Pane == p.Id) || t.Next == 1000000 then (t, 0) else (askNew t p, t.Next)) else (ITable.mk 0 [] [], 0)
theorem next_of {t : ITable} {p : IPane} (h : okAskB t p = true) : 1 ≤ t.Next ∧ t.Next ≤ 1000000 := by
  unfold okAskB tableOkB isIdB at h
  simp only [Bool.and_eq_true, decide_eq_true_eq] at h
  exact h.1.2
theorem pI_PaneOk_f {F : Nat} {p : IPane} (h : PaneF (F + 70) p) : pI_PaneOk (F + 70) p = some (paneOkB p (runeBeginB p.Term.P.Part)) :=
  pI_PaneOk_eq (pI_TermOk_eq h.al h.af h.s (pI_RuneBegin_eq (F + 68) _))
theorem pS_PaneOk_f {F : Nat} {p : IPane} (h : PaneF (F + 70) p) : pS_PaneOk (F + 70) p = some (paneOkB p (runeBeginB p.Term.P.Part)) :=
  pS_PaneOk_eq (pS_TermOk_eq h.al h.af h.s (pS_RuneBegin_eq F _))
theorem pI_TableAsk_eq {F : Nat} {t : ITable} {p : IPane} (hl : t.Live.length ≤ 2000000) (ha : t.Asked.length ≤ 2000000) (hf : t.Live.length < F + 70) (hp : PaneF (F + 70) p) : pI_TableAsk (F + 70) t p = some (askB t p) := by
  unfold pI_TableAsk
  rw [pI_TableOk_eq hl hf]
  simp only [bd_s, pI_PaneOk_f hp]
  unfold askB
  cases hok : okAskB t p with
  | false =>
    have h := hok
    unfold okAskB at h
    cases ht : tableOkB t with
    | false => simp only [Bool.not_false, br_t, bd_s]; rfl
    | true =>
      rw [ht, Bool.true_and] at h
      simp only [Bool.not_true, br_f, bd_s, h, Bool.not_false, br_t]; rfl
  | true =>
    have hn := next_of hok
    have h := hok
    unfold okAskB at h
    rw [Bool.and_eq_true] at h
    simp only [h.1, h.2, Bool.not_true, br_f, bd_s, if_true]
    rw [copyTable_I (room_iProc (by omega)) (room_iAsk (by omega))]
    simp only [bd_s]
    have key : ∃ k, pI_Table_procOf (F + 70) t p.Id = some k ∧ decide (0 ≤ k) = t.Live.any fun x => x.Pane == p.Id := by
      rcases procOf_eq (n := p.Id) (by omega) hf with ⟨i, x, h1, h2, _, h4⟩ | ⟨h1, h2⟩
      · refine ⟨i, h4, ?_⟩
        rw [decide_eq_true (by omega)]
        exact (List.any_eq_true.2 ⟨x, List.mem_of_getElem? h1, h2⟩).symm
      · refine ⟨-1, h2, ?_⟩
        rw [decide_eq_false (by omega)]
        exact (List.any_eq_false.2 fun x hx => by simpa using h1 x hx).symm
    obtain ⟨k, hk, hk2⟩ := key
    rw [hk]
    simp only [bd_s, hk2]
    cases t.Live.any fun x => x.Pane == p.Id with
    | true => simp only [br_t, bd_s, Bool.true_or, if_true]
    | false =>
      simp only [br_f, bd_s, Bool.false_or]
      cases he : t.Next == 1000000 with
      | true => simp only [br_t, if_true]
      | false =>
        simp only [br_f, Bool.false_eq_true, if_false]
        rw [gd_i64 (by omega) (by omega), gd_t (room_iProc (by simp; omega)), gd_t (room_iAsk (by simp; omega))]
        rfl
theorem pS_TableAsk_loop {fuel : Nat} {t q w : ITable} {p : IPane} (hl : t.Live.length ≤ 2000000) (hf : t.Live.length < fuel) : loopF (pS_TableAsk_b1 fuel) fuel (t, p, q, w, t.Live, (t.Live.length : Int), 0) = some (if (t.Live.any fun x => x.Pane == p.Id) then .inr (w, 0) else .inl (t, p, q, w)) := by
  have := loopF_any (B := pS_TableAsk_b1 fuel) (fun i => (t, p, q, w, t.Live, (t.Live.length : Int), (i : Int))) t.Live (fun x => x.Pane == p.Id) (.inr (w, 0)) (.inl (t, p, q, w)) (fuel := fuel) (v := (t, p, q, w, t.Live, (t.Live.length : Int), 0)) rfl (fun i x hx => by
    obtain ⟨h1, h2, h3, h4, h5⟩ := idx_facts hx (by omega)
    unfold pS_TableAsk_b1
    simp only [h1, br_t, gd_t h2, h3, bd_s, h5, gd_t h4]
    cases x.Pane == p.Id <;> rfl) (by
    unfold pS_TableAsk_b1
    simp) hf
  exact this
theorem pS_TableAsk_eq {F : Nat} {t : ITable} {p : IPane} (hl : t.Live.length ≤ 2000000) (ha : t.Asked.length ≤ 2000000) (hf : t.Live.length < F + 70) (hp : PaneF (F + 70) p) : pS_TableAsk (F + 70) t p = some (askB t p) := by
  unfold pS_TableAsk
  rw [pS_TableOk_eq hl hf]
  simp only [bd_s, pS_PaneOk_f hp]
  unfold askB
  cases hok : okAskB t p with
  | false =>
    have h := hok
    unfold okAskB at h
    cases ht : tableOkB t with
    | false => simp only [Bool.not_false, br_t, bd_s]; rfl
    | true =>
      rw [ht, Bool.true_and] at h
      simp only [Bool.not_true, br_f, bd_s, h, Bool.not_false, br_t]; rfl
  | true =>
    have hn := next_of hok
    have h := hok
    unfold okAskB at h
    rw [Bool.and_eq_true] at h
    simp only [h.1, h.2, Bool.not_true, br_f, bd_s, if_true]
    rw [copyTable_S (room_iProc (by omega)) (room_iAsk (by omega))]
    simp only [bd_s]
    rw [pS_TableAsk_loop hl hf]
    cases t.Live.any fun x => x.Pane == p.Id with
    | true => simp only [if_true, jn_r, Bool.true_or]
    | false =>
      simp only [Bool.false_eq_true, if_false, jn_l, Bool.false_or]
      cases he : t.Next == 1000000 with
      | true => simp only [br_t, if_true]
      | false =>
        simp only [br_f, Bool.false_eq_true, if_false]
        rw [gd_t (room_iProc (by simp; omega)), gd_t (room_iAsk (by simp; omega)), gd_i64 (by omega) (by omega)]
        rfl
end Go.Px
namespace Go.Px
/-! ### The loops of a law's own functions -/
theorem set_take {α β : Type} {l : List α} {g : α → β} {o : List β} {i : Nat} {x : α} (hx : l[i]? = some x) (ho : o.length = l.length) : ((l.take i).map g ++ o.drop i).set i (g x) = (l.take (i + 1)).map g ++ o.drop (i + 1) := by
  have hi := (List.getElem?_eq_some_iff.1 hx).1
  have e : l.take (i + 1) = l.take i ++ [x] := by rw [List.take_add_one, hx]; rfl
  have ed : o.drop i = o[i]'(by omega) :: o.drop (i + 1) := by rw [List.drop_eq_getElem_cons (by omega)]
  have hl : ((l.take i).map g).length = i := by rw [List.length_map, List.length_take]; omega
  rw [e, ed, List.set_append_right _ _ (by omega), hl, Nat.sub_self, List.set_cons_zero, List.map_append, List.append_assoc]
  rfl
/-- A list written element by element. -/
theorem loopF_set {α β O : Type} {B : List α × List β × Int → Option ((List α × List β × Int) ⊕ O)} (l : List α) (g : α → β) (out : List β → O) {o : List β} {fuel : Nat} (ho : o.length = l.length)
    (hB : ∀ (i : Nat) x (o : List β), l[i]? = some x → o.length = l.length → B (l, o, (i : Int)) = some (.inl (l, o.set i (g x), ((i + 1 : Nat) : Int)))) (hE : ∀ o, B (l, o, (l.length : Int)) = some (.inr (out o))) (hf : l.length < fuel) : loopF B fuel (l, o, 0) = some (out (l.map g)) := by
  have key : ∀ (n i fuel : Nat), l.length - i = n → i ≤ l.length → n < fuel → loopF B fuel (l, (l.take i).map g ++ o.drop i, (i : Int)) = some (out (l.map g)) := by
    intro n
    induction n with
    | zero =>
      intro i fuel hn hi hf
      obtain rfl : i = l.length := by omega
      cases fuel with
      | zero => omega
      | succ fuel => rw [loopF, hE, List.take_length, List.drop_eq_nil_of_le (by omega), List.append_nil]
    | succ n ih =>
      intro i fuel hn hi hf
      have hil : i < l.length := by omega
      cases fuel with
      | zero => omega
      | succ fuel =>
        rw [loopF, hB i l[i] _ (List.getElem?_eq_getElem hil) (by simp; omega), set_take (List.getElem?_eq_getElem hil) ho]
        exact ih (i + 1) fuel (by omega) (by omega) (by omega)
  have := key l.length 0 fuel (by omega) (by omega) hf
  simpa using this
/-- A loop that only goes on. -/
theorem loopF_walk {V O : Type} {B : V → Option (V ⊕ O)} (f : Nat → V) (n : Nat) (E : O) {fuel : Nat} {v : V} (hv : v = f 0) (h : ∀ i, i < n → B (f i) = some (.inl (f (i + 1)))) (he : B (f n) = some (.inr E)) (hf : n < fuel) : loopF B fuel v = some E := by
  subst hv
  have key : ∀ (m i fuel : Nat), n - i = m → i ≤ n → m < fuel → loopF B fuel (f i) = some E := by
    intro m
    induction m with
    | zero =>
      intro i fuel hm hi hf
      obtain rfl : i = n := by omega
      cases fuel with
      | zero => omega
      | succ fuel => rw [loopF, he]
    | succ m ih =>
      intro i fuel hm hi hf
      cases fuel with
      | zero => omega
      | succ fuel =>
        rw [loopF, h i (by omega)]
        exact ih (i + 1) fuel (by omega) (by omega) (by omega)
  exact key n 0 fuel (by omega) (by omega) hf
/-- Marks, element by element: each step takes the count on, by no more than C. -/
theorem loopF_mark {α O : Type} {B : List α × Int × Int → Option ((List α × Int × Int) ⊕ O)} (l : List α) (C : Int) (hC : 0 ≤ C) (M : Int → α → Int → α → Prop) (out : Int → List α → O) {k : Int} {fuel : Nat} (hk : 0 ≤ k) (hk2 : k + C * (l.length : Int) ≤ 1000000000000000000)
    (hB : ∀ (i : Nat) x (l' : List α) (k : Int), l'[i]? = some x → l[i]? = some x → l'.length = l.length → 0 ≤ k → k + C ≤ 1000000000000000000 → ∃ k' x', B (l', k, (i : Int)) = some (.inl (l'.set i x', k', ((i + 1 : Nat) : Int))) ∧ M k x k' x' ∧ k ≤ k' ∧ k' ≤ k + C) (hE : ∀ (l' : List α) k, l'.length = l.length → B (l', k, (l.length : Int)) = some (.inr (out k l'))) (hf : l.length < fuel) :
    ∃ (k' : Int) (l' : List α) (ks : Nat → Int), loopF B fuel (l, k, 0) = some (out k' l') ∧ k ≤ k' ∧ k' ≤ k + C * (l.length : Int) ∧ l'.length = l.length ∧ ks 0 = k ∧ ks l.length = k' ∧ (∀ (i : Nat), i < l.length → 0 ≤ ks i ∧ ks i ≤ k + C * (i : Int)) ∧ ∀ (i : Nat) x, l[i]? = some x → ∃ x', l'[i]? = some x' ∧ M (ks i) x (ks (i + 1)) x' := by
  have key : ∀ (n i fuel : Nat) (l1 : List α) (k1 : Int) (ks : Nat → Int), l.length - i = n → i ≤ l.length → n < fuel → l1.length = l.length → (∀ j, i ≤ j → l1[j]? = l[j]?) → ks i = k1 → ks 0 = k → k ≤ k1 → k1 ≤ k + C * (i : Int) → (∀ j, j < i → 0 ≤ ks j ∧ ks j ≤ k + C * (j : Int)) → (∀ (j : Nat) x, j < i → l[j]? = some x → ∃ x', l1[j]? = some x' ∧ M (ks j) x (ks (j + 1)) x') →
      ∃ (k' : Int) (l' : List α) (ks : Nat → Int), loopF B fuel (l1, k1, (i : Int)) = some (out k' l') ∧ k ≤ k' ∧ k' ≤ k + C * (l.length : Int) ∧ l'.length = l.length ∧ ks 0 = k ∧ ks l.length = k' ∧ (∀ (i : Nat), i < l.length → 0 ≤ ks i ∧ ks i ≤ k + C * (i : Int)) ∧ ∀ (i : Nat) x, l[i]? = some x → ∃ x', l'[i]? = some x' ∧ M (ks i) x (ks (i + 1)) x' := by
    intro n
    induction n with
    | zero =>
      intro i fuel l1 k1 ks hn hi hf hl1 hsame hki hk0 h1 h2 hks hM
      obtain rfl : i = l.length := by omega
      cases fuel with
      | zero => omega
      | succ fuel =>
        exact ⟨k1, l1, ks, by rw [loopF, hE l1 k1 hl1], h1, h2, hl1, hk0, hki, hks, fun j x hx => hM j x (List.getElem?_eq_some_iff.1 hx).1 hx⟩
    | succ n ih =>
      intro i fuel l1 k1 ks hn hi hf hl1 hsame hki hk0 h1 h2 hks hM
      have hil : i < l.length := by omega
      have hCi : C * (i : Int) + C ≤ C * (l.length : Int) := by
        have : C * ((i : Int) + 1) ≤ C * (l.length : Int) := Int.mul_le_mul_of_nonneg_left (by omega) hC
        rw [Int.mul_add, Int.mul_one] at this
        exact this
      cases fuel with
      | zero => omega
      | succ fuel =>
        obtain ⟨k2, x2, hb, hm, hk1, hk2'⟩ := hB i l[i] l1 k1 (by rw [hsame i (Nat.le_refl _)]; exact List.getElem?_eq_getElem hil) (List.getElem?_eq_getElem hil) hl1 (by omega) (by omega)
        rw [loopF, hb]
        have e1 : C * ((i + 1 : Nat) : Int) = C * (i : Int) + C := by rw [show ((i + 1 : Nat) : Int) = (i : Int) + 1 by omega, Int.mul_add, Int.mul_one]
        refine ih (i + 1) fuel (l1.set i x2) k2 (fun j => if j = i + 1 then k2 else ks j) (by omega) (by omega) (by omega) (by simp [hl1]) (fun j hj => by rw [List.getElem?_set_ne (by omega)]; exact hsame j (by omega)) (by simp) (by simp [hk0]) (by omega) (by rw [e1]; omega) (fun j hj => ?_) (fun j x hj hx => ?_)
        · have hne : j ≠ i + 1 := by omega
          simp only [hne, if_false]
          by_cases hji : j = i
          · subst hji; rw [hki]; exact ⟨by omega, h2⟩
          · exact hks j (by omega)
        · by_cases hji : j = i
          · subst hji
            refine ⟨x2, by rw [List.getElem?_set_self (by omega)], ?_⟩
            have hx' : x = l[j] := by rw [List.getElem?_eq_getElem hil] at hx; cases hx; rfl
            subst hx'
            simp only [show j ≠ j + 1 by omega, if_false, if_true, hki]
            exact hm
          · obtain ⟨x', q1, q2⟩ := hM j x (by omega) hx
            refine ⟨x', by rw [List.getElem?_set_ne (by omega)]; exact q1, ?_⟩
            have h3 : j ≠ i + 1 := by omega
            have h4 : j + 1 ≠ i + 1 := by omega
            simp only [h3, h4, if_false]
            exact q2
  have := key l.length 0 fuel l k (fun _ => k) (by omega) (by omega) hf rfl (fun _ _ => rfl) rfl rfl (by omega) (by simp) (fun j hj => by omega) (fun j x hj => by omega)
  simpa using this
/-- Sizes, element by element. -/
theorem loopF_sz {α : Type} {B : List α × Int × Int → Option ((List α × Int × Int) ⊕ (Int ⊕ Int))} (l : List α) (P : α → Prop) {left : Int} {fuel : Nat} (h0 : 0 ≤ left) (h1 : left ≤ 1048576)
    (hB : ∀ (i : Nat) x k, l[i]? = some x → 0 ≤ k → k ≤ 1048576 → ∃ r, B (l, k, (i : Int)) = (if r < 0 then some (.inr (.inr (-1))) else some (.inl (l, r, ((i + 1 : Nat) : Int)))) ∧ r ≤ k ∧ (0 ≤ r → P x)) (hE : ∀ k, B (l, k, (l.length : Int)) = some (.inr (.inl k))) (hf : l.length < fuel) :
    loopF B fuel (l, left, 0) = some (.inr (-1)) ∨ ∃ r, loopF B fuel (l, left, 0) = some (.inl r) ∧ 0 ≤ r ∧ r ≤ left ∧ ∀ x ∈ l, P x := by
  have key : ∀ (n i fuel : Nat) (k : Int), l.length - i = n → i ≤ l.length → n < fuel → 0 ≤ k → k ≤ left → (∀ (j : Nat) x, j < i → l[j]? = some x → P x) → loopF B fuel (l, k, (i : Int)) = some (.inr (-1)) ∨ ∃ r, loopF B fuel (l, k, (i : Int)) = some (.inl r) ∧ 0 ≤ r ∧ r ≤ left ∧ ∀ x ∈ l, P x := by
    intro n
    induction n with
    | zero =>
      intro i fuel k hn hi hf hk0 hk1 hP
      obtain rfl : i = l.length := by omega
      cases fuel with
      | zero => omega
      | succ fuel =>
        refine .inr ⟨k, by rw [loopF, hE], hk0, hk1, fun x hx => ?_⟩
        obtain ⟨j, hj⟩ := List.getElem?_of_mem hx
        exact hP j x (List.getElem?_eq_some_iff.1 hj).1 hj
    | succ n ih =>
      intro i fuel k hn hi hf hk0 hk1 hP
      have hil : i < l.length := by omega
      cases fuel with
      | zero => omega
      | succ fuel =>
        obtain ⟨r, hb, hr, hp⟩ := hB i l[i] k (List.getElem?_eq_getElem hil) hk0 (by omega)
        rw [loopF, hb]
        by_cases hr0 : r < 0
        · rw [if_pos hr0]; exact .inl rfl
        · rw [if_neg hr0]
          refine ih (i + 1) fuel r (by omega) (by omega) (by omega) (by omega) (by omega) fun j x hj hx => ?_
          by_cases hji : j = i
          · subst hji
            rw [List.getElem?_eq_getElem hil] at hx; cases hx
            exact hp (by omega)
          · exact hP j x (by omega) hx
  exact key l.length 0 fuel left (by omega) (by omega) hf h0 (by omega) fun j x hj => by omega
end Go.Px
namespace Go.Px
def tProc (x : LProc) : IProc := IProc.mk x.Pid x.Pane
theorem to_Proc {fuel : Nat} {x : LProc} : pL_toProc fuel x = some (tProc x) := by
  unfold pL_toProc
  rfl
theorem eq_Proc {fuel : Nat} {x : IProc} : pL_eqProc fuel x x = some true := by
  unfold pL_eqProc
  simp []
def tAsk (x : LAsk) : IAsk := IAsk.mk x.Pane x.Cmd x.Dir x.W x.H x.Pid
def FitAsk (n : Nat) (x : IAsk) : Prop := x.Cmd.size ≤ n ∧ x.Dir.size ≤ n
theorem to_Ask {fuel : Nat} {x : LAsk} (h : FitAsk 1048576 (tAsk x)) : pL_toAsk fuel x = some (tAsk x) := by
  obtain ⟨s_Cmd, s_Dir⟩ := h
  unfold pL_toAsk
  rfl
theorem eq_Ask {fuel : Nat} {x : IAsk} (h : FitAsk 1048581 x) : pL_eqAsk fuel x x = some true := by
  obtain ⟨s_Cmd, s_Dir⟩ := h
  unfold pL_eqAsk
  simp []
theorem to_ProcS {fuel : Nat} {l : List LProc} (hl : l.length ≤ 1048576) (hf : 1048586 < fuel) : pL_toProcS fuel l = some (l.map tProc) := by
  unfold pL_toProcS
  rw [gd_t ⟨by omega, by omega⟩, gd_t (show roomB K.iProc _ from ⟨by omega, by show _ * byt K.iProc ≤ _; rw [show byt K.iProc = 16 from rfl]; omega⟩)]
  have := loopF_set (B := pL_toProcS_b1 fuel) l (tProc) (fun o => o) (o := List.replicate (l.length : Int).toNat (zK K.iProc)) (fuel := fuel) (by simp) (fun i x o hxi ho => by
    obtain ⟨h1, h2, h3, h4, h5⟩ := idx_facts hxi (by omega)
    have hi := (List.getElem?_eq_some_iff.1 hxi).1
    unfold pL_toProcS_b1
    have ht := to_Proc (fuel := fuel) (x := x)
    simp only [h1, br_t, gd_t h2, h3, bd_s, ht, ho, show (0 + (i : Int).toNat) = i by omega, List.getElem?_eq_getElem (show i < o.length by omega), h5, gd_t h4])
    (fun o => by unfold pL_toProcS_b1; simp) (by omega)
  rw [this]
  rfl
theorem eq_ProcS {fuel : Nat} {l : List IProc} (hl : l.length ≤ 1048581) (hf : 1048586 < fuel) : pL_eqProcS fuel l l = some true := by
  unfold pL_eqProcS
  simp only [bne_self_eq_false, br_f]
  have := loopF_walk (B := pL_eqProcS_b1 fuel) (fun i => (l, l, (i : Int))) l.length (.inl ()) (fuel := fuel) (v := (l, l, 0)) rfl (fun i hi => by
    obtain ⟨h1, h2, h3, h4, h5⟩ := idx_facts (List.getElem?_eq_getElem hi) (by omega)
    unfold pL_eqProcS_b1
    have ht := eq_Proc (fuel := fuel) (x := l[i])
    simp only [h1, br_t, gd_t h2, h3, bd_s, ht, Bool.not_true, br_f, h5, gd_t h4, bne_self_eq_false]) (by unfold pL_eqProcS_b1; simp) (by omega)
  rw [this]
  rfl
theorem to_AskS {fuel : Nat} {l : List LAsk} (hl : l.length ≤ 1048576) (hf : 1048586 < fuel) (hx : ∀ y ∈ l, FitAsk 1048576 (tAsk y)) : pL_toAskS fuel l = some (l.map tAsk) := by
  unfold pL_toAskS
  rw [gd_t ⟨by omega, by omega⟩, gd_t (show roomB K.iAsk _ from ⟨by omega, by show _ * byt K.iAsk ≤ _; rw [show byt K.iAsk = 64 from rfl]; omega⟩)]
  have := loopF_set (B := pL_toAskS_b1 fuel) l (tAsk) (fun o => o) (o := List.replicate (l.length : Int).toNat (zK K.iAsk)) (fuel := fuel) (by simp) (fun i x o hxi ho => by
    obtain ⟨h1, h2, h3, h4, h5⟩ := idx_facts hxi (by omega)
    have hi := (List.getElem?_eq_some_iff.1 hxi).1
    unfold pL_toAskS_b1
    have ht := to_Ask (fuel := fuel) (x := x) (hx x (List.mem_of_getElem? hxi))
    simp only [h1, br_t, gd_t h2, h3, bd_s, ht, ho, show (0 + (i : Int).toNat) = i by omega, List.getElem?_eq_getElem (show i < o.length by omega), h5, gd_t h4])
    (fun o => by unfold pL_toAskS_b1; simp) (by omega)
  rw [this]
  rfl
theorem eq_AskS {fuel : Nat} {l : List IAsk} (hl : l.length ≤ 1048581) (hf : 1048586 < fuel) (hx : ∀ y ∈ l, FitAsk 1048581 y) : pL_eqAskS fuel l l = some true := by
  unfold pL_eqAskS
  simp only [bne_self_eq_false, br_f]
  have := loopF_walk (B := pL_eqAskS_b1 fuel) (fun i => (l, l, (i : Int))) l.length (.inl ()) (fuel := fuel) (v := (l, l, 0)) rfl (fun i hi => by
    obtain ⟨h1, h2, h3, h4, h5⟩ := idx_facts (List.getElem?_eq_getElem hi) (by omega)
    unfold pL_eqAskS_b1
    have ht := eq_Ask (fuel := fuel) (x := l[i]) (hx _ (List.getElem_mem hi))
    simp only [h1, br_t, gd_t h2, h3, bd_s, ht, Bool.not_true, br_f, h5, gd_t h4, bne_self_eq_false]) (by unfold pL_eqAskS_b1; simp) (by omega)
  rw [this]
  rfl
def tTable (x : LTable) : ITable := ITable.mk x.Next (x.Live.map tProc) (x.Asked.map tAsk)
def FitTable (n : Nat) (x : ITable) : Prop := x.Live.length ≤ n ∧ x.Asked.length ≤ n ∧ (∀ y ∈ x.Asked, FitAsk n y)
theorem to_Table {fuel : Nat} {x : LTable} (hf : 1048586 < fuel) (h : FitTable 1048576 (tTable x)) : pL_toTable fuel x = some (tTable x) := by
  obtain ⟨l_Live, l_Asked, e_Asked⟩ := h
  have q_Live := to_ProcS (fuel := fuel) (l := x.Live) (by simpa [tTable] using l_Live) hf
  have q_Asked := to_AskS (fuel := fuel) (l := x.Asked) (by simpa [tTable] using l_Asked) hf (fun y hy => e_Asked _ (List.mem_map.2 ⟨y, hy, rfl⟩))
  unfold pL_toTable
  simp only [q_Live, q_Asked, bd_s]
  rfl
theorem eq_Table {fuel : Nat} {x : ITable} (hf : 1048586 < fuel) (h : FitTable 1048581 x) : pL_eqTable fuel x x = some true := by
  obtain ⟨l_Live, l_Asked, e_Asked⟩ := h
  have q_Live := eq_ProcS (fuel := fuel) (l := x.Live) l_Live hf
  have q_Asked := eq_AskS (fuel := fuel) (l := x.Asked) l_Asked hf e_Asked
  unfold pL_eqTable
  simp [q_Live, q_Asked]
def tAttr (x : LAttr) : IAttr := IAttr.mk x.Fg x.Bg x.Bold x.Under x.Turn
theorem to_Attr {fuel : Nat} {x : LAttr} : pL_toAttr fuel x = some (tAttr x) := by
  unfold pL_toAttr
  rfl
theorem eq_Attr {fuel : Nat} {x : IAttr} : pL_eqAttr fuel x x = some true := by
  unfold pL_eqAttr
  simp []
def tCell (x : LCell) : ICell := ICell.mk x.R (tAttr x.A)
theorem to_Cell {fuel : Nat} {x : LCell} : pL_toCell fuel x = some (tCell x) := by
  have q_A := to_Attr (fuel := fuel) (x := x.A)
  unfold pL_toCell
  simp only [q_A, bd_s]
  rfl
theorem eq_Cell {fuel : Nat} {x : ICell} : pL_eqCell fuel x x = some true := by
  have q_A := eq_Attr (fuel := fuel) (x := x.A)
  unfold pL_eqCell
  simp [q_A]
theorem to_CellS {fuel : Nat} {l : List LCell} (hl : l.length ≤ 1048576) (hf : 1048586 < fuel) : pL_toCellS fuel l = some (l.map tCell) := by
  unfold pL_toCellS
  rw [gd_t ⟨by omega, by omega⟩, gd_t (show roomB K.iCell _ from ⟨by omega, by show _ * byt K.iCell ≤ _; rw [show byt K.iCell = 32 from rfl]; omega⟩)]
  have := loopF_set (B := pL_toCellS_b1 fuel) l (tCell) (fun o => o) (o := List.replicate (l.length : Int).toNat (zK K.iCell)) (fuel := fuel) (by simp) (fun i x o hxi ho => by
    obtain ⟨h1, h2, h3, h4, h5⟩ := idx_facts hxi (by omega)
    have hi := (List.getElem?_eq_some_iff.1 hxi).1
    unfold pL_toCellS_b1
    have ht := to_Cell (fuel := fuel) (x := x)
    simp only [h1, br_t, gd_t h2, h3, bd_s, ht, ho, show (0 + (i : Int).toNat) = i by omega, List.getElem?_eq_getElem (show i < o.length by omega), h5, gd_t h4])
    (fun o => by unfold pL_toCellS_b1; simp) (by omega)
  rw [this]
  rfl
theorem eq_CellS {fuel : Nat} {l : List ICell} (hl : l.length ≤ 1048581) (hf : 1048586 < fuel) : pL_eqCellS fuel l l = some true := by
  unfold pL_eqCellS
  simp only [bne_self_eq_false, br_f]
  have := loopF_walk (B := pL_eqCellS_b1 fuel) (fun i => (l, l, (i : Int))) l.length (.inl ()) (fuel := fuel) (v := (l, l, 0)) rfl (fun i hi => by
    obtain ⟨h1, h2, h3, h4, h5⟩ := idx_facts (List.getElem?_eq_getElem hi) (by omega)
    unfold pL_eqCellS_b1
    have ht := eq_Cell (fuel := fuel) (x := l[i])
    simp only [h1, br_t, gd_t h2, h3, bd_s, ht, Bool.not_true, br_f, h5, gd_t h4, bne_self_eq_false]) (by unfold pL_eqCellS_b1; simp) (by omega)
  rw [this]
  rfl
def tGrid (x : LGrid) : IGrid := IGrid.mk x.W x.H (x.Cells.map tCell)
def FitGrid (n : Nat) (x : IGrid) : Prop := x.Cells.length ≤ n
theorem to_Grid {fuel : Nat} {x : LGrid} (hf : 1048586 < fuel) (h : FitGrid 1048576 (tGrid x)) : pL_toGrid fuel x = some (tGrid x) := by
  have l_Cells : (tGrid x).Cells.length ≤ 1048576 := h
  have q_Cells := to_CellS (fuel := fuel) (l := x.Cells) (by simpa [tGrid] using l_Cells) hf
  unfold pL_toGrid
  simp only [q_Cells, bd_s]
  rfl
theorem eq_Grid {fuel : Nat} {x : IGrid} (hf : 1048586 < fuel) (h : FitGrid 1048581 x) : pL_eqGrid fuel x x = some true := by
  have l_Cells : x.Cells.length ≤ 1048581 := h
  have q_Cells := eq_CellS (fuel := fuel) (l := x.Cells) l_Cells hf
  unfold pL_eqGrid
  simp [q_Cells]
def tRow (x : LRow) : IRow := IRow.mk (x.Cells.map tCell)
def FitRow (n : Nat) (x : IRow) : Prop := x.Cells.length ≤ n
theorem to_Row {fuel : Nat} {x : LRow} (hf : 1048586 < fuel) (h : FitRow 1048576 (tRow x)) : pL_toRow fuel x = some (tRow x) := by
  have l_Cells : (tRow x).Cells.length ≤ 1048576 := h
  have q_Cells := to_CellS (fuel := fuel) (l := x.Cells) (by simpa [tRow] using l_Cells) hf
  unfold pL_toRow
  simp only [q_Cells, bd_s]
  rfl
theorem eq_Row {fuel : Nat} {x : IRow} (hf : 1048586 < fuel) (h : FitRow 1048581 x) : pL_eqRow fuel x x = some true := by
  have l_Cells : x.Cells.length ≤ 1048581 := h
  have q_Cells := eq_CellS (fuel := fuel) (l := x.Cells) l_Cells hf
  unfold pL_eqRow
  simp [q_Cells]
theorem to_IntS {fuel : Nat} {l : List Int} (hl : l.length ≤ 1048576) (hf : 1048586 < fuel) : pL_toIntS fuel l = some l := by
  unfold pL_toIntS
  rw [gd_t ⟨by omega, by omega⟩, gd_t (show roomB K.int _ from ⟨by omega, by show _ * byt K.int ≤ _; rw [show byt K.int = 8 from rfl]; omega⟩)]
  have := loopF_set (B := pL_toIntS_b1 fuel) l (fun x => x) (fun o => o) (o := List.replicate (l.length : Int).toNat (zK K.int)) (fuel := fuel) (by simp) (fun i x o hxi ho => by
    obtain ⟨h1, h2, h3, h4, h5⟩ := idx_facts hxi (by omega)
    have hi := (List.getElem?_eq_some_iff.1 hxi).1
    unfold pL_toIntS_b1
    simp only [h1, br_t, gd_t h2, h3, bd_s, ho, show (0 + (i : Int).toNat) = i by omega, List.getElem?_eq_getElem (show i < o.length by omega), h5, gd_t h4])
    (fun o => by unfold pL_toIntS_b1; simp) (by omega)
  rw [this]
  simp
theorem eq_IntS {fuel : Nat} {l : List Int} (hl : l.length ≤ 1048581) (hf : 1048586 < fuel) : pL_eqIntS fuel l l = some true := by
  unfold pL_eqIntS
  simp only [bne_self_eq_false, br_f]
  have := loopF_walk (B := pL_eqIntS_b1 fuel) (fun i => (l, l, (i : Int))) l.length (.inl ()) (fuel := fuel) (v := (l, l, 0)) rfl (fun i hi => by
    obtain ⟨h1, h2, h3, h4, h5⟩ := idx_facts (List.getElem?_eq_getElem hi) (by omega)
    unfold pL_eqIntS_b1
    simp only [h1, br_t, gd_t h2, h3, bd_s, Bool.not_true, br_f, h5, gd_t h4, bne_self_eq_false]) (by unfold pL_eqIntS_b1; simp) (by omega)
  rw [this]
  rfl
theorem to_ByteS {fuel : Nat} {l : List UInt8} (hl : l.length ≤ 1048576) (hf : 1048586 < fuel) : pL_toByteS fuel l = some l := by
  unfold pL_toByteS
  rw [gd_t ⟨by omega, by omega⟩, gd_t (show roomB K.u8 _ from ⟨by omega, by show _ * byt K.u8 ≤ _; rw [show byt K.u8 = 1 from rfl]; omega⟩)]
  have := loopF_set (B := pL_toByteS_b1 fuel) l (fun x => x) (fun o => o) (o := List.replicate (l.length : Int).toNat (zK K.u8)) (fuel := fuel) (by simp) (fun i x o hxi ho => by
    obtain ⟨h1, h2, h3, h4, h5⟩ := idx_facts hxi (by omega)
    have hi := (List.getElem?_eq_some_iff.1 hxi).1
    unfold pL_toByteS_b1
    simp only [h1, br_t, gd_t h2, h3, bd_s, ho, show (0 + (i : Int).toNat) = i by omega, List.getElem?_eq_getElem (show i < o.length by omega), h5, gd_t h4, show UInt8.ofNat (x.toNat : Int).toNat = x by simp])
    (fun o => by unfold pL_toByteS_b1; simp) (by omega)
  rw [this]
  simp
theorem eq_ByteS {fuel : Nat} {l : List UInt8} (hl : l.length ≤ 1048581) (hf : 1048586 < fuel) : pL_eqByteS fuel l l = some true := by
  unfold pL_eqByteS
  simp only [bne_self_eq_false, br_f]
  have := loopF_walk (B := pL_eqByteS_b1 fuel) (fun i => (l, l, (i : Int))) l.length (.inl ()) (fuel := fuel) (v := (l, l, 0)) rfl (fun i hi => by
    obtain ⟨h1, h2, h3, h4, h5⟩ := idx_facts (List.getElem?_eq_getElem hi) (by omega)
    unfold pL_eqByteS_b1
    simp only [h1, br_t, gd_t h2, h3, bd_s, Bool.not_true, br_f, h5, gd_t h4, bne_self_eq_false]) (by unfold pL_eqByteS_b1; simp) (by omega)
  rw [this]
  rfl
def tVp (x : LVp) : IVp := IVp.mk x.State x.Mark x.Args x.Part
def FitVp (n : Nat) (x : IVp) : Prop := x.Args.length ≤ n ∧ x.Part.length ≤ n
theorem to_Vp {fuel : Nat} {x : LVp} (hf : 1048586 < fuel) (h : FitVp 1048576 (tVp x)) : pL_toVp fuel x = some (tVp x) := by
  obtain ⟨l_Args, l_Part⟩ := h
  have q_Args := to_IntS (fuel := fuel) (l := x.Args) (by simpa [tVp] using l_Args) hf
  have q_Part := to_ByteS (fuel := fuel) (l := x.Part) (by simpa [tVp] using l_Part) hf
  unfold pL_toVp
  simp only [q_Args, q_Part, bd_s]
  rfl
theorem eq_Vp {fuel : Nat} {x : IVp} (hf : 1048586 < fuel) (h : FitVp 1048581 x) : pL_eqVp fuel x x = some true := by
  obtain ⟨l_Args, l_Part⟩ := h
  have q_Args := eq_IntS (fuel := fuel) (l := x.Args) l_Args hf
  have q_Part := eq_ByteS (fuel := fuel) (l := x.Part) l_Part hf
  unfold pL_eqVp
  simp [q_Args, q_Part]
theorem to_RowS {fuel : Nat} {l : List LRow} (hl : l.length ≤ 1048576) (hf : 1048586 < fuel) (hx : ∀ y ∈ l, FitRow 1048576 (tRow y)) : pL_toRowS fuel l = some (l.map tRow) := by
  unfold pL_toRowS
  rw [gd_t ⟨by omega, by omega⟩, gd_t (show roomB K.iRow _ from ⟨by omega, by show _ * byt K.iRow ≤ _; rw [show byt K.iRow = 24 from rfl]; omega⟩)]
  have := loopF_set (B := pL_toRowS_b1 fuel) l (tRow) (fun o => o) (o := List.replicate (l.length : Int).toNat (zK K.iRow)) (fuel := fuel) (by simp) (fun i x o hxi ho => by
    obtain ⟨h1, h2, h3, h4, h5⟩ := idx_facts hxi (by omega)
    have hi := (List.getElem?_eq_some_iff.1 hxi).1
    unfold pL_toRowS_b1
    have ht := to_Row (fuel := fuel) (x := x) hf (hx x (List.mem_of_getElem? hxi))
    simp only [h1, br_t, gd_t h2, h3, bd_s, ht, ho, show (0 + (i : Int).toNat) = i by omega, List.getElem?_eq_getElem (show i < o.length by omega), h5, gd_t h4])
    (fun o => by unfold pL_toRowS_b1; simp) (by omega)
  rw [this]
  rfl
theorem eq_RowS {fuel : Nat} {l : List IRow} (hl : l.length ≤ 1048581) (hf : 1048586 < fuel) (hx : ∀ y ∈ l, FitRow 1048581 y) : pL_eqRowS fuel l l = some true := by
  unfold pL_eqRowS
  simp only [bne_self_eq_false, br_f]
  have := loopF_walk (B := pL_eqRowS_b1 fuel) (fun i => (l, l, (i : Int))) l.length (.inl ()) (fuel := fuel) (v := (l, l, 0)) rfl (fun i hi => by
    obtain ⟨h1, h2, h3, h4, h5⟩ := idx_facts (List.getElem?_eq_getElem hi) (by omega)
    unfold pL_eqRowS_b1
    have ht := eq_Row (fuel := fuel) (x := l[i]) hf (hx _ (List.getElem_mem hi))
    simp only [h1, br_t, gd_t h2, h3, bd_s, ht, Bool.not_true, br_f, h5, gd_t h4, bne_self_eq_false]) (by unfold pL_eqRowS_b1; simp) (by omega)
  rw [this]
  rfl
def tScr (x : LScr) : IScr := IScr.mk x.W x.H (tGrid x.Main) (tGrid x.Alt) x.OnAlt x.X x.Y x.Wrap (tAttr x.A) x.Top x.Bot x.NoWrap x.Hide x.SaveX x.SaveY (tAttr x.SaveA) x.Tabs x.Limit (x.Back.map tRow)
def FitScr (n : Nat) (x : IScr) : Prop := FitGrid n x.Main ∧ FitGrid n x.Alt ∧ x.Tabs.length ≤ n ∧ x.Back.length ≤ n ∧ (∀ y ∈ x.Back, FitRow n y)
theorem to_Scr {fuel : Nat} {x : LScr} (hf : 1048586 < fuel) (h : FitScr 1048576 (tScr x)) : pL_toScr fuel x = some (tScr x) := by
  obtain ⟨f_Main, f_Alt, l_Tabs, l_Back, e_Back⟩ := h
  have q_Main := to_Grid (fuel := fuel) (x := x.Main) hf f_Main
  have q_Alt := to_Grid (fuel := fuel) (x := x.Alt) hf f_Alt
  have q_A := to_Attr (fuel := fuel) (x := x.A)
  have q_SaveA := to_Attr (fuel := fuel) (x := x.SaveA)
  have q_Tabs := to_IntS (fuel := fuel) (l := x.Tabs) (by simpa [tScr] using l_Tabs) hf
  have q_Back := to_RowS (fuel := fuel) (l := x.Back) (by simpa [tScr] using l_Back) hf (fun y hy => e_Back _ (List.mem_map.2 ⟨y, hy, rfl⟩))
  unfold pL_toScr
  simp only [q_Main, q_Alt, q_A, q_SaveA, q_Tabs, q_Back, bd_s]
  rfl
theorem eq_Scr {fuel : Nat} {x : IScr} (hf : 1048586 < fuel) (h : FitScr 1048581 x) : pL_eqScr fuel x x = some true := by
  obtain ⟨f_Main, f_Alt, l_Tabs, l_Back, e_Back⟩ := h
  have q_Main := eq_Grid (fuel := fuel) (x := x.Main) hf f_Main
  have q_Alt := eq_Grid (fuel := fuel) (x := x.Alt) hf f_Alt
  have q_A := eq_Attr (fuel := fuel) (x := x.A)
  have q_SaveA := eq_Attr (fuel := fuel) (x := x.SaveA)
  have q_Tabs := eq_IntS (fuel := fuel) (l := x.Tabs) l_Tabs hf
  have q_Back := eq_RowS (fuel := fuel) (l := x.Back) l_Back hf e_Back
  unfold pL_eqScr
  simp [q_Main, q_Alt, q_A, q_SaveA, q_Tabs, q_Back]
def tTerm (x : LTerm) : ITerm := ITerm.mk (tVp x.P) (tScr x.S)
def FitTerm (n : Nat) (x : ITerm) : Prop := FitVp n x.P ∧ FitScr n x.S
theorem to_Term {fuel : Nat} {x : LTerm} (hf : 1048586 < fuel) (h : FitTerm 1048576 (tTerm x)) : pL_toTerm fuel x = some (tTerm x) := by
  obtain ⟨f_P, f_S⟩ := h
  have q_P := to_Vp (fuel := fuel) (x := x.P) hf f_P
  have q_S := to_Scr (fuel := fuel) (x := x.S) hf f_S
  unfold pL_toTerm
  simp only [q_P, q_S, bd_s]
  rfl
theorem eq_Term {fuel : Nat} {x : ITerm} (hf : 1048586 < fuel) (h : FitTerm 1048581 x) : pL_eqTerm fuel x x = some true := by
  obtain ⟨f_P, f_S⟩ := h
  have q_P := eq_Vp (fuel := fuel) (x := x.P) hf f_P
  have q_S := eq_Scr (fuel := fuel) (x := x.S) hf f_S
  unfold pL_eqTerm
  simp [q_P, q_S]
def tPane (x : LPane) : IPane := IPane.mk x.Id x.Cmd x.Dir x.Life x.Code x.Pid (tTerm x.Term)
def FitPane (n : Nat) (x : IPane) : Prop := x.Cmd.size ≤ n ∧ x.Dir.size ≤ n ∧ FitTerm n x.Term
theorem to_Pane {fuel : Nat} {x : LPane} (hf : 1048586 < fuel) (h : FitPane 1048576 (tPane x)) : pL_toPane fuel x = some (tPane x) := by
  obtain ⟨s_Cmd, s_Dir, f_Term⟩ := h
  have q_Term := to_Term (fuel := fuel) (x := x.Term) hf f_Term
  unfold pL_toPane
  simp only [q_Term, bd_s]
  rfl
theorem eq_Pane {fuel : Nat} {x : IPane} (hf : 1048586 < fuel) (h : FitPane 1048581 x) : pL_eqPane fuel x x = some true := by
  obtain ⟨s_Cmd, s_Dir, f_Term⟩ := h
  have q_Term := eq_Term (fuel := fuel) (x := x.Term) hf f_Term
  unfold pL_eqPane
  simp [q_Term]
end Go.Px
namespace Go.Px
theorem sz_Ask {fuel : Nat} {x : LAsk} {left : Int} (h : FitAsk 9223372036854775807 (tAsk x)) (h0 : 0 ≤ left) (h1 : left ≤ 1048576) : ∃ r, pL_szAsk fuel x left = some r ∧ r ≤ left ∧ (0 ≤ r → FitAsk 1048576 (tAsk x)) := by
  obtain ⟨s_Cmd, s_Dir⟩ := h
  have s_Cmd : x.Cmd.size ≤ 9223372036854775807 := s_Cmd
  have s_Dir : x.Dir.size ≤ 9223372036854775807 := s_Dir
  unfold pL_szAsk
  rw [gd_i64 (by omega) (by omega)]
  by_cases n_Cmd : left - (x.Cmd.size : Int) < 0
  · rw [decide_eq_true n_Cmd]; exact ⟨-1, rfl, by omega, fun h => by omega⟩
  rw [decide_eq_false n_Cmd]
  simp only [br_f]
  rw [gd_i64 (by omega) (by omega)]
  by_cases n_Dir : left - (x.Cmd.size : Int) - (x.Dir.size : Int) < 0
  · rw [decide_eq_true n_Dir]; exact ⟨-1, rfl, by omega, fun h => by omega⟩
  rw [decide_eq_false n_Dir]
  simp only [br_f]
  exact ⟨_, rfl, by omega, fun _ => ⟨(by show x.Cmd.size ≤ _; omega), (by show x.Dir.size ≤ _; omega)⟩⟩
theorem sz_ProcS {fuel : Nat} {l : List LProc} {left : Int} (hm : l.length ≤ 9223372036854775807) (h0 : 0 ≤ left) (h1 : left ≤ 1048576) : ∃ r, pL_szProcS fuel l left = some r ∧ r ≤ left ∧ (0 ≤ r → l.length ≤ 1048576) := by
  unfold pL_szProcS
  rw [gd_i64 (by omega) (by omega)]
  by_cases hn : left - (l.length : Int) < 0
  · rw [decide_eq_true hn]; exact ⟨-1, rfl, by omega, fun h => by omega⟩
  rw [decide_eq_false hn]
  exact ⟨_, rfl, by omega, fun h => by omega⟩
theorem sz_AskS {fuel : Nat} {l : List LAsk} {left : Int} (hm : l.length ≤ 9223372036854775807) (h0 : 0 ≤ left) (h1 : left ≤ 1048576) (hf : 1048586 < fuel) (hx : ∀ y ∈ l, FitAsk 9223372036854775807 (tAsk y)) : ∃ r, pL_szAskS fuel l left = some r ∧ r ≤ left ∧ (0 ≤ r → l.length ≤ 1048576 ∧ ∀ y ∈ l, FitAsk 1048576 (tAsk y)) := by
  unfold pL_szAskS
  rw [gd_i64 (by omega) (by omega)]
  by_cases hn : left - (l.length : Int) < 0
  · rw [decide_eq_true hn]; exact ⟨-1, rfl, by omega, fun h => by omega⟩
  rw [decide_eq_false hn]
  have hl : l.length ≤ 1048576 := by omega
  simp only [br_f]
  rcases loopF_sz (B := pL_szAskS_b1 fuel) l (fun y => FitAsk 1048576 (tAsk y)) (left := left - (l.length : Int)) (fuel := fuel) (by omega) (by omega) (fun i x k hxi hk0 hk1 => by
      obtain ⟨g1, g2, g3, g4, g5⟩ := idx_facts hxi (by omega)
      obtain ⟨r, e1, e2, e3⟩ := sz_Ask (fuel := fuel) (x := x) (left := k) (hx x (List.mem_of_getElem? hxi)) hk0 hk1
      refine ⟨r, ?_, e2, e3⟩
      unfold pL_szAskS_b1
      simp only [g1, br_t, gd_t g2, g3, bd_s, e1, g5, gd_t g4, show IntKind.i64.wrap ((i + 1 : Nat) : Int) = ((i + 1 : Nat) : Int) from g4]
      by_cases hr : r < 0
      · simp only [decide_eq_true hr, br_t, if_pos hr]
      · simp only [decide_eq_false hr, br_f, if_neg hr]) (fun k => by unfold pL_szAskS_b1; simp) (by omega) with h | ⟨r, h, r0, r1, r2⟩
  · rw [h]; exact ⟨-1, rfl, by omega, fun h => by omega⟩
  · rw [h]; exact ⟨r, rfl, by omega, fun _ => ⟨hl, r2⟩⟩
theorem sz_Table {fuel : Nat} {x : LTable} {left : Int} (hf : 1048586 < fuel) (h : FitTable 9223372036854775807 (tTable x)) (h0 : 0 ≤ left) (h1 : left ≤ 1048576) : ∃ r, pL_szTable fuel x left = some r ∧ r ≤ left ∧ (0 ≤ r → FitTable 1048576 (tTable x)) := by
  obtain ⟨l_Live, l_Asked, e_Asked⟩ := h
  unfold pL_szTable
  obtain ⟨r_Live, a_Live, b_Live, c_Live⟩ := sz_ProcS (fuel := fuel) (l := x.Live) (left := left) (by simpa [tTable] using l_Live) (by omega) (by omega)
  rw [a_Live]
  simp only [bd_s]
  by_cases n_Live : r_Live < 0
  · rw [decide_eq_true n_Live]; exact ⟨-1, rfl, by omega, fun h => by omega⟩
  rw [decide_eq_false n_Live]
  simp only [br_f]
  have d_Live := c_Live (by omega)
  obtain ⟨r_Asked, a_Asked, b_Asked, c_Asked⟩ := sz_AskS (fuel := fuel) (l := x.Asked) (left := r_Live) (by simpa [tTable] using l_Asked) (by omega) (by omega) hf (fun y hy => e_Asked _ (List.mem_map.2 ⟨y, hy, rfl⟩))
  rw [a_Asked]
  simp only [bd_s]
  by_cases n_Asked : r_Asked < 0
  · rw [decide_eq_true n_Asked]; exact ⟨-1, rfl, by omega, fun h => by omega⟩
  rw [decide_eq_false n_Asked]
  simp only [br_f]
  have d_Asked := c_Asked (by omega)
  exact ⟨_, rfl, by omega, fun _ => ⟨(by show (x.Live.map tProc).length ≤ _; rw [List.length_map]; exact d_Live), (by show (x.Asked.map tAsk).length ≤ _; rw [List.length_map]; exact d_Asked.1), (fun y hy => by obtain ⟨z, hz, rfl⟩ := List.mem_map.1 hy; exact d_Asked.2 z hz)⟩⟩
theorem sz_CellS {fuel : Nat} {l : List LCell} {left : Int} (hm : l.length ≤ 9223372036854775807) (h0 : 0 ≤ left) (h1 : left ≤ 1048576) : ∃ r, pL_szCellS fuel l left = some r ∧ r ≤ left ∧ (0 ≤ r → l.length ≤ 1048576) := by
  unfold pL_szCellS
  rw [gd_i64 (by omega) (by omega)]
  by_cases hn : left - (l.length : Int) < 0
  · rw [decide_eq_true hn]; exact ⟨-1, rfl, by omega, fun h => by omega⟩
  rw [decide_eq_false hn]
  exact ⟨_, rfl, by omega, fun h => by omega⟩
theorem sz_Grid {fuel : Nat} {x : LGrid} {left : Int} (hf : 1048586 < fuel) (h : FitGrid 9223372036854775807 (tGrid x)) (h0 : 0 ≤ left) (h1 : left ≤ 1048576) : ∃ r, pL_szGrid fuel x left = some r ∧ r ≤ left ∧ (0 ≤ r → FitGrid 1048576 (tGrid x)) := by
  have l_Cells : (tGrid x).Cells.length ≤ 9223372036854775807 := h
  unfold pL_szGrid
  obtain ⟨r_Cells, a_Cells, b_Cells, c_Cells⟩ := sz_CellS (fuel := fuel) (l := x.Cells) (left := left) (by simpa [tGrid] using l_Cells) (by omega) (by omega)
  rw [a_Cells]
  simp only [bd_s]
  by_cases n_Cells : r_Cells < 0
  · rw [decide_eq_true n_Cells]; exact ⟨-1, rfl, by omega, fun h => by omega⟩
  rw [decide_eq_false n_Cells]
  simp only [br_f]
  have d_Cells := c_Cells (by omega)
  exact ⟨_, rfl, by omega, fun _ => (by show (x.Cells.map tCell).length ≤ _; rw [List.length_map]; exact d_Cells)⟩
theorem sz_Row {fuel : Nat} {x : LRow} {left : Int} (hf : 1048586 < fuel) (h : FitRow 9223372036854775807 (tRow x)) (h0 : 0 ≤ left) (h1 : left ≤ 1048576) : ∃ r, pL_szRow fuel x left = some r ∧ r ≤ left ∧ (0 ≤ r → FitRow 1048576 (tRow x)) := by
  have l_Cells : (tRow x).Cells.length ≤ 9223372036854775807 := h
  unfold pL_szRow
  obtain ⟨r_Cells, a_Cells, b_Cells, c_Cells⟩ := sz_CellS (fuel := fuel) (l := x.Cells) (left := left) (by simpa [tRow] using l_Cells) (by omega) (by omega)
  rw [a_Cells]
  simp only [bd_s]
  by_cases n_Cells : r_Cells < 0
  · rw [decide_eq_true n_Cells]; exact ⟨-1, rfl, by omega, fun h => by omega⟩
  rw [decide_eq_false n_Cells]
  simp only [br_f]
  have d_Cells := c_Cells (by omega)
  exact ⟨_, rfl, by omega, fun _ => (by show (x.Cells.map tCell).length ≤ _; rw [List.length_map]; exact d_Cells)⟩
theorem sz_IntS {fuel : Nat} {l : List Int} {left : Int} (hm : l.length ≤ 9223372036854775807) (h0 : 0 ≤ left) (h1 : left ≤ 1048576) : ∃ r, pL_szIntS fuel l left = some r ∧ r ≤ left ∧ (0 ≤ r → l.length ≤ 1048576) := by
  unfold pL_szIntS
  rw [gd_i64 (by omega) (by omega)]
  by_cases hn : left - (l.length : Int) < 0
  · rw [decide_eq_true hn]; exact ⟨-1, rfl, by omega, fun h => by omega⟩
  rw [decide_eq_false hn]
  exact ⟨_, rfl, by omega, fun h => by omega⟩
theorem sz_ByteS {fuel : Nat} {l : List UInt8} {left : Int} (hm : l.length ≤ 9223372036854775807) (h0 : 0 ≤ left) (h1 : left ≤ 1048576) : ∃ r, pL_szByteS fuel l left = some r ∧ r ≤ left ∧ (0 ≤ r → l.length ≤ 1048576) := by
  unfold pL_szByteS
  rw [gd_i64 (by omega) (by omega)]
  by_cases hn : left - (l.length : Int) < 0
  · rw [decide_eq_true hn]; exact ⟨-1, rfl, by omega, fun h => by omega⟩
  rw [decide_eq_false hn]
  exact ⟨_, rfl, by omega, fun h => by omega⟩
theorem sz_Vp {fuel : Nat} {x : LVp} {left : Int} (hf : 1048586 < fuel) (h : FitVp 9223372036854775807 (tVp x)) (h0 : 0 ≤ left) (h1 : left ≤ 1048576) : ∃ r, pL_szVp fuel x left = some r ∧ r ≤ left ∧ (0 ≤ r → FitVp 1048576 (tVp x)) := by
  obtain ⟨l_Args, l_Part⟩ := h
  unfold pL_szVp
  obtain ⟨r_Args, a_Args, b_Args, c_Args⟩ := sz_IntS (fuel := fuel) (l := x.Args) (left := left) (by simpa [tVp] using l_Args) (by omega) (by omega)
  rw [a_Args]
  simp only [bd_s]
  by_cases n_Args : r_Args < 0
  · rw [decide_eq_true n_Args]; exact ⟨-1, rfl, by omega, fun h => by omega⟩
  rw [decide_eq_false n_Args]
  simp only [br_f]
  have d_Args := c_Args (by omega)
  obtain ⟨r_Part, a_Part, b_Part, c_Part⟩ := sz_ByteS (fuel := fuel) (l := x.Part) (left := r_Args) (by simpa [tVp] using l_Part) (by omega) (by omega)
  rw [a_Part]
  simp only [bd_s]
  by_cases n_Part : r_Part < 0
  · rw [decide_eq_true n_Part]; exact ⟨-1, rfl, by omega, fun h => by omega⟩
  rw [decide_eq_false n_Part]
  simp only [br_f]
  have d_Part := c_Part (by omega)
  exact ⟨_, rfl, by omega, fun _ => ⟨d_Args, d_Part⟩⟩
theorem sz_RowS {fuel : Nat} {l : List LRow} {left : Int} (hm : l.length ≤ 9223372036854775807) (h0 : 0 ≤ left) (h1 : left ≤ 1048576) (hf : 1048586 < fuel) (hx : ∀ y ∈ l, FitRow 9223372036854775807 (tRow y)) : ∃ r, pL_szRowS fuel l left = some r ∧ r ≤ left ∧ (0 ≤ r → l.length ≤ 1048576 ∧ ∀ y ∈ l, FitRow 1048576 (tRow y)) := by
  unfold pL_szRowS
  rw [gd_i64 (by omega) (by omega)]
  by_cases hn : left - (l.length : Int) < 0
  · rw [decide_eq_true hn]; exact ⟨-1, rfl, by omega, fun h => by omega⟩
  rw [decide_eq_false hn]
  have hl : l.length ≤ 1048576 := by omega
  simp only [br_f]
  rcases loopF_sz (B := pL_szRowS_b1 fuel) l (fun y => FitRow 1048576 (tRow y)) (left := left - (l.length : Int)) (fuel := fuel) (by omega) (by omega) (fun i x k hxi hk0 hk1 => by
      obtain ⟨g1, g2, g3, g4, g5⟩ := idx_facts hxi (by omega)
      obtain ⟨r, e1, e2, e3⟩ := sz_Row (fuel := fuel) (x := x) (left := k) hf (hx x (List.mem_of_getElem? hxi)) hk0 hk1
      refine ⟨r, ?_, e2, e3⟩
      unfold pL_szRowS_b1
      simp only [g1, br_t, gd_t g2, g3, bd_s, e1, g5, gd_t g4, show IntKind.i64.wrap ((i + 1 : Nat) : Int) = ((i + 1 : Nat) : Int) from g4]
      by_cases hr : r < 0
      · simp only [decide_eq_true hr, br_t, if_pos hr]
      · simp only [decide_eq_false hr, br_f, if_neg hr]) (fun k => by unfold pL_szRowS_b1; simp) (by omega) with h | ⟨r, h, r0, r1, r2⟩
  · rw [h]; exact ⟨-1, rfl, by omega, fun h => by omega⟩
  · rw [h]; exact ⟨r, rfl, by omega, fun _ => ⟨hl, r2⟩⟩
theorem sz_Scr {fuel : Nat} {x : LScr} {left : Int} (hf : 1048586 < fuel) (h : FitScr 9223372036854775807 (tScr x)) (h0 : 0 ≤ left) (h1 : left ≤ 1048576) : ∃ r, pL_szScr fuel x left = some r ∧ r ≤ left ∧ (0 ≤ r → FitScr 1048576 (tScr x)) := by
  obtain ⟨f_Main, f_Alt, l_Tabs, l_Back, e_Back⟩ := h
  unfold pL_szScr
  obtain ⟨r_Main, a_Main, b_Main, c_Main⟩ := sz_Grid (fuel := fuel) (x := x.Main) (left := left) hf f_Main (by omega) (by omega)
  rw [a_Main]
  simp only [bd_s]
  by_cases n_Main : r_Main < 0
  · rw [decide_eq_true n_Main]; exact ⟨-1, rfl, by omega, fun h => by omega⟩
  rw [decide_eq_false n_Main]
  simp only [br_f]
  have d_Main := c_Main (by omega)
  obtain ⟨r_Alt, a_Alt, b_Alt, c_Alt⟩ := sz_Grid (fuel := fuel) (x := x.Alt) (left := r_Main) hf f_Alt (by omega) (by omega)
  rw [a_Alt]
  simp only [bd_s]
  by_cases n_Alt : r_Alt < 0
  · rw [decide_eq_true n_Alt]; exact ⟨-1, rfl, by omega, fun h => by omega⟩
  rw [decide_eq_false n_Alt]
  simp only [br_f]
  have d_Alt := c_Alt (by omega)
  obtain ⟨r_Tabs, a_Tabs, b_Tabs, c_Tabs⟩ := sz_IntS (fuel := fuel) (l := x.Tabs) (left := r_Alt) (by simpa [tScr] using l_Tabs) (by omega) (by omega)
  rw [a_Tabs]
  simp only [bd_s]
  by_cases n_Tabs : r_Tabs < 0
  · rw [decide_eq_true n_Tabs]; exact ⟨-1, rfl, by omega, fun h => by omega⟩
  rw [decide_eq_false n_Tabs]
  simp only [br_f]
  have d_Tabs := c_Tabs (by omega)
  obtain ⟨r_Back, a_Back, b_Back, c_Back⟩ := sz_RowS (fuel := fuel) (l := x.Back) (left := r_Tabs) (by simpa [tScr] using l_Back) (by omega) (by omega) hf (fun y hy => e_Back _ (List.mem_map.2 ⟨y, hy, rfl⟩))
  rw [a_Back]
  simp only [bd_s]
  by_cases n_Back : r_Back < 0
  · rw [decide_eq_true n_Back]; exact ⟨-1, rfl, by omega, fun h => by omega⟩
  rw [decide_eq_false n_Back]
  simp only [br_f]
  have d_Back := c_Back (by omega)
  exact ⟨_, rfl, by omega, fun _ => ⟨d_Main, d_Alt, d_Tabs, (by show (x.Back.map tRow).length ≤ _; rw [List.length_map]; exact d_Back.1), (fun y hy => by obtain ⟨z, hz, rfl⟩ := List.mem_map.1 hy; exact d_Back.2 z hz)⟩⟩
theorem sz_Term {fuel : Nat} {x : LTerm} {left : Int} (hf : 1048586 < fuel) (h : FitTerm 9223372036854775807 (tTerm x)) (h0 : 0 ≤ left) (h1 : left ≤ 1048576) : ∃ r, pL_szTerm fuel x left = some r ∧ r ≤ left ∧ (0 ≤ r → FitTerm 1048576 (tTerm x)) := by
  obtain ⟨f_P, f_S⟩ := h
  unfold pL_szTerm
  obtain ⟨r_P, a_P, b_P, c_P⟩ := sz_Vp (fuel := fuel) (x := x.P) (left := left) hf f_P (by omega) (by omega)
  rw [a_P]
  simp only [bd_s]
  by_cases n_P : r_P < 0
  · rw [decide_eq_true n_P]; exact ⟨-1, rfl, by omega, fun h => by omega⟩
  rw [decide_eq_false n_P]
  simp only [br_f]
  have d_P := c_P (by omega)
  obtain ⟨r_S, a_S, b_S, c_S⟩ := sz_Scr (fuel := fuel) (x := x.S) (left := r_P) hf f_S (by omega) (by omega)
  rw [a_S]
  simp only [bd_s]
  by_cases n_S : r_S < 0
  · rw [decide_eq_true n_S]; exact ⟨-1, rfl, by omega, fun h => by omega⟩
  rw [decide_eq_false n_S]
  simp only [br_f]
  have d_S := c_S (by omega)
  exact ⟨_, rfl, by omega, fun _ => ⟨d_P, d_S⟩⟩
theorem sz_Pane {fuel : Nat} {x : LPane} {left : Int} (hf : 1048586 < fuel) (h : FitPane 9223372036854775807 (tPane x)) (h0 : 0 ≤ left) (h1 : left ≤ 1048576) : ∃ r, pL_szPane fuel x left = some r ∧ r ≤ left ∧ (0 ≤ r → FitPane 1048576 (tPane x)) := by
  obtain ⟨s_Cmd, s_Dir, f_Term⟩ := h
  have s_Cmd : x.Cmd.size ≤ 9223372036854775807 := s_Cmd
  have s_Dir : x.Dir.size ≤ 9223372036854775807 := s_Dir
  unfold pL_szPane
  rw [gd_i64 (by omega) (by omega)]
  by_cases n_Cmd : left - (x.Cmd.size : Int) < 0
  · rw [decide_eq_true n_Cmd]; exact ⟨-1, rfl, by omega, fun h => by omega⟩
  rw [decide_eq_false n_Cmd]
  simp only [br_f]
  rw [gd_i64 (by omega) (by omega)]
  by_cases n_Dir : left - (x.Cmd.size : Int) - (x.Dir.size : Int) < 0
  · rw [decide_eq_true n_Dir]; exact ⟨-1, rfl, by omega, fun h => by omega⟩
  rw [decide_eq_false n_Dir]
  simp only [br_f]
  obtain ⟨r_Term, a_Term, b_Term, c_Term⟩ := sz_Term (fuel := fuel) (x := x.Term) (left := left - (x.Cmd.size : Int) - (x.Dir.size : Int)) hf f_Term (by omega) (by omega)
  rw [a_Term]
  simp only [bd_s]
  by_cases n_Term : r_Term < 0
  · rw [decide_eq_true n_Term]; exact ⟨-1, rfl, by omega, fun h => by omega⟩
  rw [decide_eq_false n_Term]
  simp only [br_f]
  have d_Term := c_Term (by omega)
  exact ⟨_, rfl, by omega, fun _ => ⟨(by show x.Cmd.size ≤ _; omega), (by show x.Dir.size ≤ _; omega), d_Term⟩⟩
end Go.Px
namespace Go.Px
/-! ### Marks -/
theorem markText_loop (F : Nat) : ∀ (m fuel : Nat) (v : Int) (s : ByteArray), 0 ≤ v → v ≤ 9223372036854775807 → v < 10 ^ m → m < fuel → s.size + m ≤ 1000 → ∃ r : ByteArray, loopF (pL_markText_b1 F) fuel (v, s) = some r ∧ r.size ≤ 1000
  | m, 0, _, _, _, _, _, h, _ => by omega
  | 0, fuel + 1, v, s, h0, hM, h1, _, hs => by
    have : v = 0 := by simp at h1; omega
    subst this
    exact ⟨s, by rw [loopF]; rfl, by omega⟩
  | m + 1, fuel + 1, v, s, h0, hM, h1, hf, hs => by
    rw [loopF]
    by_cases hv : 0 < v
    · have hd : v.tdiv 10 = v / 10 := Int.tdiv_eq_ediv_of_nonneg h0
      have hm : v.tmod 10 = v % 10 := Int.tmod_eq_emod_of_nonneg h0
      have hp : (10 : Int) ^ (m + 1) = 10 ^ m * 10 := Int.pow_succ 10 m
      have e : pL_markText_b1 F (v, s) = some (.inl (v / 10, ByteArray.mk #[UInt8.ofNat (IntKind.u8.wrap (48 + v % 10)).toNat] ++ s)) := by
        unfold pL_markText_b1
        simp only [decide_eq_true hv, br_t]
        rw [gd_t (by omega), hm, gd_i64 (by omega) (by omega), gd_t (by show 1 + s.size ≤ _; omega), gd_t (by omega), hd, gd_i64 (by omega) (by omega)]
      rw [e]
      refine markText_loop F m fuel (v / 10) _ (by omega) (by omega) (by rw [hp] at h1; omega) (by omega) ?_
      rw [ByteArray.size_append]
      show 1 + s.size + m ≤ 1000
      omega
    · have : v = 0 := by omega
      subst this
      exact ⟨s, rfl, by omega⟩
theorem markText_tot {fuel : Nat} {k : Int} (h0 : 0 ≤ k) (h1 : k ≤ 2000000000000000000) (hf : 100 < fuel) : ∃ s, pL_markText fuel k = some s := by
  unfold pL_markText
  by_cases h : k ≤ 0
  · rw [decide_eq_true h]; exact ⟨_, rfl⟩
  · rw [decide_eq_false h]
    obtain ⟨r, h2, h3⟩ := markText_loop fuel 20 fuel k (ByteArray.mk #[]) h0 (by omega) (by omega) (by omega) (by decide)
    simp only [br_f, h2, bd_s]
    rw [gd_t (by show 1 + r.size ≤ _; omega)]
    exact ⟨_, rfl⟩
theorem mark_ProcS {fuel : Nat} {l : List IProc} {k : Int} (hl : l.length ≤ 1048581) (hf : 1048590 < fuel) (h0 : 0 ≤ k) (h1 : k ≤ 100000000000000000) :
    ∃ k' l', pL_markProcS fuel l k = some (k', l') ∧ k ≤ k' ∧ k' ≤ k + 2 * (l.length : Int) ∧ l'.length = l.length ∧ pL_heldProcS fuel l' k = some k' := by
  obtain ⟨k', l', ks, q1, q2, q3, q4, q5, q6, q7, q8⟩ := loopF_mark (B := pL_markProcS_b1 fuel) l 2 (by omega) (fun k x k' x' => k' = k + 1 + 1 ∧ x'.Pid = k ∧ x'.Pane = k + 1) (fun k l => (k, l)) (k := k) (fuel := fuel) h0 (by omega) (fun i x l' k hx hxl hl' hk0 hk1 => by
    obtain ⟨g1, g2, g3, g4, g5⟩ := idx_facts hx (by omega)
    have hi := (List.getElem?_eq_some_iff.1 hx).1
    refine ⟨k + 1 + 1, IProc.mk k (k + 1), ?_, ⟨rfl, rfl, rfl⟩, by omega, by omega⟩
    unfold pL_markProcS_b1
    simp only [g1, br_t, gd_t g2, show (0 + (i : Int).toNat) = i by omega, hx, bd_s, List.getElem?_set_self hi, List.set_set]
    rw [gd_i64 (by omega) (by omega), gd_i64 (by omega) (by omega), g5, gd_t g4]) (fun l' k hl' => by
    unfold pL_markProcS_b1
    rw [← hl']
    simp) (by omega)
  refine ⟨k', l', by unfold pL_markProcS; rw [q1]; rfl, q2, q3, q4, ?_⟩
  unfold pL_heldProcS
  have := loopF_walk (B := pL_heldProcS_b1 fuel) (fun i => (l', ks i, (i : Int))) l'.length (.inl k') (fuel := fuel) (v := (l', k, 0)) (by simp [q5]) (fun i hi => by
    obtain ⟨x', e1, m1, m2, m3⟩ := q8 i l[i] (List.getElem?_eq_getElem (by omega))
    obtain ⟨g1, g2, g3, g4, g5⟩ := idx_facts e1 (by omega)
    obtain ⟨b1, b2⟩ := q7 i (by omega)
    unfold pL_heldProcS_b1
    simp only [g1, br_t, gd_t g2, g3, bd_s, m2, m3, bne_self_eq_false, br_f]
    rw [gd_i64 (by omega) (by omega), gd_i64 (by omega) (by omega), g5, gd_t g4, m1]) (by
    unfold pL_heldProcS_b1
    simp only [decide_eq_false (show ¬ (l'.length : Int) < (l'.length : Int) by omega), br_f]
    rw [q4, q6]) (by omega)
  rw [this]
  rfl
theorem mark_AskS {fuel : Nat} {l : List IAsk} {k : Int} (hl : l.length ≤ 1048581) (hf : 1048590 < fuel) (h0 : 0 ≤ k) (h1 : k ≤ 100000000000000000) :
    ∃ k' l', pL_markAskS fuel l k = some (k', l') ∧ k ≤ k' ∧ k' ≤ k + 6 * (l.length : Int) ∧ l'.length = l.length ∧ pL_heldAskS fuel l' k = some k' := by
  obtain ⟨k', l', ks, q1, q2, q3, q4, q5, q6, q7, q8⟩ := loopF_mark (B := pL_markAskS_b1 fuel) l 6 (by omega) (fun k x k' x' => k' = k + 1 + 1 + 1 + 1 + 1 + 1 ∧ x'.Pane = k ∧ pL_markText fuel (k + 1) = some x'.Cmd ∧ pL_markText fuel (k + 1 + 1) = some x'.Dir ∧ x'.W = k + 1 + 1 + 1 ∧ x'.H = k + 1 + 1 + 1 + 1 ∧ x'.Pid = k + 1 + 1 + 1 + 1 + 1) (fun k l => (k, l)) (k := k) (fuel := fuel) h0 (by omega) (fun i x l' k hx hxl hl' hk0 hk1 => by
    obtain ⟨g1, g2, g3, g4, g5⟩ := idx_facts hx (by omega)
    have hi := (List.getElem?_eq_some_iff.1 hx).1
    obtain ⟨t1, ht1⟩ := markText_tot (fuel := fuel) (k := k + 1) (by omega) (by omega) (by omega)
    obtain ⟨t2, ht2⟩ := markText_tot (fuel := fuel) (k := k + 1 + 1) (by omega) (by omega) (by omega)
    refine ⟨k + 1 + 1 + 1 + 1 + 1 + 1, IAsk.mk k t1 t2 (k + 1 + 1 + 1) (k + 1 + 1 + 1 + 1) (k + 1 + 1 + 1 + 1 + 1), ?_, ⟨rfl, rfl, ht1, ht2, rfl, rfl, rfl⟩, by omega, by omega⟩
    unfold pL_markAskS_b1
    simp only [g1, br_t, gd_t g2, show (0 + (i : Int).toNat) = i by omega, hx, bd_s, List.getElem?_set_self hi, List.set_set, ht1, ht2]
    rw [gd_i64 (by omega) (by omega), gd_i64 (by omega) (by omega), gd_i64 (by omega) (by omega), gd_i64 (by omega) (by omega), gd_i64 (by omega) (by omega), gd_i64 (by omega) (by omega), g5, gd_t g4]) (fun l' k hl' => by
    unfold pL_markAskS_b1
    rw [← hl']
    simp) (by omega)
  refine ⟨k', l', by unfold pL_markAskS; rw [q1]; rfl, q2, q3, q4, ?_⟩
  unfold pL_heldAskS
  have := loopF_walk (B := pL_heldAskS_b1 fuel) (fun i => (l', ks i, (i : Int))) l'.length (.inl k') (fuel := fuel) (v := (l', k, 0)) (by simp [q5]) (fun i hi => by
    obtain ⟨x', e1, m1, m2, m3, m4, m5, m6, m7⟩ := q8 i l[i] (List.getElem?_eq_getElem (by omega))
    obtain ⟨g1, g2, g3, g4, g5⟩ := idx_facts e1 (by omega)
    obtain ⟨b1, b2⟩ := q7 i (by omega)
    unfold pL_heldAskS_b1
    simp only [g1, br_t, gd_t g2, g3, bd_s, m2, m3, m4, m5, m6, m7, bne_self_eq_false, br_f, decide_true, Bool.not_true]
    rw [gd_i64 (by omega) (by omega), gd_i64 (by omega) (by omega), gd_i64 (by omega) (by omega), gd_i64 (by omega) (by omega), gd_i64 (by omega) (by omega), gd_i64 (by omega) (by omega), g5, gd_t g4, m1]) (by
    unfold pL_heldAskS_b1
    simp only [decide_eq_false (show ¬ (l'.length : Int) < (l'.length : Int) by omega), br_f]
    rw [q4, q6]) (by omega)
  rw [this]
  rfl
theorem mark_Table {fuel : Nat} {x : ITable} {k : Int} (h : FitTable 1048581 x) (hf : 1048590 < fuel) (h0 : 0 ≤ k) (h1 : k ≤ 10000000000000000) :
    ∃ k' a b, pL_markTable fuel x k = some (k', a, b) ∧ k ≤ k' ∧ k' ≤ k + 8388648 ∧ pL_heldTable fuel (ITable.mk x.Next a b) k = some k' := by
  obtain ⟨l1, l2, _⟩ := h
  obtain ⟨k1, a, a1, a2, a3, a4, a5⟩ := mark_ProcS (fuel := fuel) (l := x.Live) (k := k) l1 hf h0 (by omega)
  obtain ⟨k2, b, b1, b2, b3, b4, b5⟩ := mark_AskS (fuel := fuel) (l := x.Asked) (k := k1) l2 hf (by omega) (by omega)
  refine ⟨k2, a, b, by unfold pL_markTable; simp only [a1, bd_s, b1], by omega, by omega, ?_⟩
  unfold pL_heldTable
  simp only [a5, bd_s, decide_eq_false (show ¬ k1 < 0 by omega), br_f, b5, decide_eq_false (show ¬ k2 < 0 by omega)]
end Go.Px
namespace Go.Px
theorem wrap64 {v : Int} (h1 : -9223372036854775808 ≤ v) (h2 : v ≤ 9223372036854775807) : IntKind.i64.wrap v = v := (wrap_iff .i64 v).2 ⟨h1, h2⟩
theorem mark_IntS {fuel : Nat} {l : List Int} {k : Int} (hl : l.length ≤ 1048581) (hf : 1048590 < fuel) (h0 : 0 ≤ k) (h1 : k ≤ 100000000000000000) :
    ∃ k' l', pL_markIntS fuel l k = some (k', l') ∧ k ≤ k' ∧ k' ≤ k + 1 * (l.length : Int) ∧ l'.length = l.length := by
  obtain ⟨k', l', ks, q1, q2, q3, q4, _⟩ := loopF_mark (B := pL_markIntS_b1 fuel) l 1 (by omega) (fun k x k' x' => True) (fun k l => (k, l)) (k := k) (fuel := fuel) h0 (by omega) (fun i x l' k hx hxl hl' hk0 hk1 => by
    obtain ⟨g1, g2, g3, g4, g5⟩ := idx_facts hx (by omega)
    refine ⟨k + 1, k, ?_, trivial, by omega, by omega⟩
    unfold pL_markIntS_b1
    simp only [g1, br_t, gd_t g2, show (0 + (i : Int).toNat) = i by omega, hx, bd_s]
    rw [g5, gd_t g4, wrap64 (by omega) (by omega)]) (fun l' k hl' => by
    unfold pL_markIntS_b1
    rw [← hl']
    simp) (by omega)
  exact ⟨k', l', by unfold pL_markIntS; rw [q1]; rfl, q2, q3, q4⟩
theorem mark_ByteS {fuel : Nat} {l : List UInt8} {k : Int} (hl : l.length ≤ 1048581) (hf : 1048590 < fuel) (h0 : 0 ≤ k) (h1 : k ≤ 100000000000000000) :
    ∃ k' l', pL_markByteS fuel l k = some (k', l') ∧ k ≤ k' ∧ k' ≤ k + 1 * (l.length : Int) ∧ l'.length = l.length := by
  obtain ⟨k', l', ks, q1, q2, q3, q4, _⟩ := loopF_mark (B := pL_markByteS_b1 fuel) l 1 (by omega) (fun k x k' x' => True) (fun k l => (k, l)) (k := k) (fuel := fuel) h0 (by omega) (fun i x l' k hx hxl hl' hk0 hk1 => by
    obtain ⟨g1, g2, g3, g4, g5⟩ := idx_facts hx (by omega)
    refine ⟨k + 1, UInt8.ofNat (IntKind.u8.wrap k).toNat, ?_, trivial, by omega, by omega⟩
    unfold pL_markByteS_b1
    simp only [g1, br_t, gd_t g2, show (0 + (i : Int).toNat) = i by omega, hx, bd_s]
    rw [gd_i64 (by omega) (by omega), g5, gd_t g4]) (fun l' k hl' => by
    unfold pL_markByteS_b1
    rw [← hl']
    simp) (by omega)
  exact ⟨k', l', by unfold pL_markByteS; rw [q1]; rfl, q2, q3, q4⟩
theorem mark_CellS {fuel : Nat} {l : List ICell} {k : Int} (hl : l.length ≤ 1048581) (hf : 1048590 < fuel) (h0 : 0 ≤ k) (h1 : k + 6291500 ≤ 1000000000000000000) :
    ∃ k' l', pL_markCellS fuel l k = some (k', l') ∧ k ≤ k' ∧ k' ≤ k + 6 * (l.length : Int) ∧ l'.length = l.length := by
  obtain ⟨k', l', ks, q1, q2, q3, q4, _⟩ := loopF_mark (B := pL_markCellS_b1 fuel) l 6 (by omega) (fun k x k' x' => True) (fun k l => (k, l)) (k := k) (fuel := fuel) h0 (by omega) (fun i x l' k hx hxl hl' hk0 hk1 => by
    obtain ⟨g1, g2, g3, g4, g5⟩ := idx_facts hx (by omega)
    have hi := (List.getElem?_eq_some_iff.1 hx).1
    refine ⟨k + 1 + 1 + 1 + 1 + 1 + 1, ?_, ?_, trivial, by omega, by omega⟩
    rotate_left
    · unfold pL_markCellS_b1
      simp only [g1, br_t, gd_t g2, show (0 + (i : Int).toNat) = i by omega, hx, bd_s, List.getElem?_set_self hi, List.set_set, gd_t (show (3 : Int) ≠ (0 : Int) by omega)]
      rw [gd_i64 (by omega) (by omega), gd_i64 (by omega) (by omega), gd_i64 (by omega) (by omega), gd_i64 (by omega) (by omega), gd_i64 (by omega) (by omega), gd_i64 (by omega) (by omega), g5, gd_t g4]) (fun l' k hl' => by
    unfold pL_markCellS_b1
    rw [← hl']
    simp) (by omega)
  exact ⟨k', l', by unfold pL_markCellS; rw [q1]; rfl, q2, q3, q4⟩
theorem mark_RowS {fuel : Nat} {l : List IRow} {k : Int} (hl : l.length ≤ 1048581) (hx : ∀ y ∈ l, FitRow 1048581 y) (hf : 1048590 < fuel) (h0 : 0 ≤ k) (h1 : k ≤ 1000000000000) :
    ∃ k' l', pL_markRowS fuel l k = some (k', l') ∧ k ≤ k' ∧ k' ≤ k + 6291500 * (l.length : Int) ∧ l'.length = l.length := by
  obtain ⟨k', l', ks, q1, q2, q3, q4, _⟩ := loopF_mark (B := pL_markRowS_b1 fuel) l 6291500 (by omega) (fun k x k' x' => True) (fun k l => (k, l)) (k := k) (fuel := fuel) h0 (by omega) (fun i x l' k hx1 hxl hl' hk0 hk1 => by
    obtain ⟨g1, g2, g3, g4, g5⟩ := idx_facts hx1 (by omega)
    have hfx : x.Cells.length ≤ 1048581 := hx x (List.mem_of_getElem? hxl)
    obtain ⟨k2, c2, m1, m2, m3, m4⟩ := mark_CellS (fuel := fuel) (l := x.Cells) (k := k) hfx hf hk0 hk1
    refine ⟨k2, IRow.mk c2, ?_, trivial, m2, by omega⟩
    unfold pL_markRowS_b1
    simp only [g1, br_t, gd_t g2, show (0 + (i : Int).toNat) = i by omega, hx1, bd_s, m1]
    rw [g5, gd_t g4]) (fun l' k hl' => by
    unfold pL_markRowS_b1
    rw [← hl']
    simp) (by omega)
  exact ⟨k', l', by unfold pL_markRowS; rw [q1]; rfl, q2, q3, q4⟩
theorem mark_Scr {fuel : Nat} {x : IScr} {k : Int} (h : FitScr 1048581 x) (hf : 1048590 < fuel) (h0 : 0 ≤ k) (h1 : k ≤ 100000000000) :
    ∃ k' a b c d, pL_markScr fuel x k = some (k', a, b, c, d) ∧ k ≤ k' := by
  obtain ⟨f1, f2, f3, f4, f5⟩ := h
  have f1 : x.Main.Cells.length ≤ 1048581 := f1
  have f2 : x.Alt.Cells.length ≤ 1048581 := f2
  obtain ⟨k1, a, a1, a2, a3, a4⟩ := mark_CellS (fuel := fuel) (l := x.Main.Cells) (k := k) f1 hf h0 (by omega)
  obtain ⟨k2, b, b1, b2, b3, b4⟩ := mark_CellS (fuel := fuel) (l := x.Alt.Cells) (k := k1) f2 hf (by omega) (by omega)
  obtain ⟨k3, c, c1, c2, c3, c4⟩ := mark_IntS (fuel := fuel) (l := x.Tabs) (k := k2) f3 hf (by omega) (by omega)
  obtain ⟨k4, d, d1, d2, d3, d4⟩ := mark_RowS (fuel := fuel) (l := x.Back) (k := k3) f4 f5 hf (by omega) (by omega)
  refine ⟨k4, a, b, c, d, ?_, by omega⟩
  unfold pL_markScr pL_markGrid
  simp only [a1, bd_s, b1, c1, d1]
theorem mark_Pane {fuel : Nat} {x : IPane} {k : Int} (h : FitPane 1048581 x) (hf : 1048590 < fuel) (h0 : 0 ≤ k) (h1 : k ≤ 10000000000) :
    ∃ k' a b c d e f, pL_markPane fuel x k = some (k', a, b, c, d, e, f) ∧ k ≤ k' := by
  obtain ⟨_, _, ⟨p1, p2⟩, s1⟩ := h
  obtain ⟨k1, a, a1, a2, a3, a4⟩ := mark_IntS (fuel := fuel) (l := x.Term.P.Args) (k := k) p1 hf h0 (by omega)
  obtain ⟨k2, b, b1, b2, b3, b4⟩ := mark_ByteS (fuel := fuel) (l := x.Term.P.Part) (k := k1) p2 hf (by omega) (by omega)
  obtain ⟨k3, c, d, e, f, c1, c2⟩ := mark_Scr (fuel := fuel) (x := x.Term.S) (k := k2) s1 hf (by omega) (by omega)
  refine ⟨k3, a, b, c, d, e, f, ?_, by omega⟩
  unfold pL_markPane pL_markTerm pL_markVp
  simp only [a1, bd_s, b1, c1]
end Go.Px
namespace Go.Px
/-! ### The law of TableAsk -/
theorem FitAsk.mono {n m : Nat} (hnm : n ≤ m) {x : IAsk} (h : FitAsk n x) : FitAsk m x := ⟨Nat.le_trans h.1 hnm, Nat.le_trans h.2 hnm⟩
theorem fit_ask {t : ITable} {p : IPane} (ht : FitTable 1048576 t) (hp : FitPane 1048576 p) : FitTable 1048581 (askB t p).1 := by
  obtain ⟨h1, h2, h3⟩ := ht
  obtain ⟨h4, h5, _⟩ := hp
  have ht' : FitTable 1048581 t := ⟨by omega, by omega, fun y hy => (h3 y hy).mono (by omega)⟩
  unfold askB
  split
  · split
    · exact ht'
    · refine ⟨by simp [askNew]; omega, by simp [askNew]; omega, fun y hy => ?_⟩
      have hy : y ∈ t.Asked ++ [IAsk.mk p.Id p.Cmd p.Dir p.Term.S.W p.Term.S.H t.Next] := hy
      rcases List.mem_append.1 hy with hy | hy
      · exact (h3 y hy).mono (by omega)
      · rw [List.mem_singleton.1 hy]
        exact ⟨by show p.Cmd.size ≤ _; omega, by show p.Dir.size ≤ _; omega⟩
  · exact ⟨by simp, by simp, fun y hy => by simp at hy⟩
theorem paneF_of {p : IPane} (hp : FitPane 1048576 p) : PaneF 1048700 p := by
  obtain ⟨_, _, ⟨a1, a2⟩, b1, b2, b3, b4, b5⟩ := hp
  have b1 : p.Term.S.Main.Cells.length ≤ 1048576 := b1
  have b2 : p.Term.S.Alt.Cells.length ≤ 1048576 := b2
  refine ⟨by omega, by omega, ⟨⟨by omega, by omega⟩, ⟨by omega, by omega⟩, ⟨by omega, by omega⟩, ⟨by omega, by omega⟩, fun x hx => ?_, by omega⟩⟩
  have : x.Cells.length ≤ 1048576 := b5 x hx
  exact ⟨by omega, by omega⟩
theorem FitPane.up {p : IPane} (h : FitPane 1048576 p) : FitPane 1048581 p := by
  obtain ⟨h1, h2, ⟨a1, a2⟩, b1, b2, b3, b4, b5⟩ := h
  have b1 : p.Term.S.Main.Cells.length ≤ 1048576 := b1
  have b2 : p.Term.S.Alt.Cells.length ≤ 1048576 := b2
  refine ⟨by omega, by omega, ⟨by omega, by omega⟩, ?_, ?_, by omega, by omega, fun y hy => ?_⟩
  · show p.Term.S.Main.Cells.length ≤ _; omega
  · show p.Term.S.Alt.Cells.length ≤ _; omega
  · have : y.Cells.length ≤ 1048576 := b5 y hy
    show y.Cells.length ≤ _; omega
theorem plain_law (t : LTable) (p : LPane) (ht : FitTable 9223372036854775807 (tTable t)) (hp : FitPane 9223372036854775807 (tPane p)) : pL_FnExactTableAsk 1048700 t p = some true := by
  have hf : 1048586 < 1048700 := by omega
  unfold pL_FnExactTableAsk
  obtain ⟨r1, a1, a2, a3⟩ := sz_Table (fuel := 1048700) (x := t) (left := 1048576) hf ht (by omega) (by omega)
  rw [a1]
  simp only [bd_s]
  by_cases n1 : r1 < 0
  · rw [decide_eq_true n1]; rfl
  rw [decide_eq_false n1]
  simp only [br_f]
  obtain ⟨r2, b1, b2, b3⟩ := sz_Pane (fuel := 1048700) (x := p) (left := r1) hf hp (by omega) (by omega)
  rw [b1]
  simp only [bd_s]
  by_cases n2 : r2 < 0
  · rw [decide_eq_true n2]; rfl
  rw [decide_eq_false n2]
  simp only [br_f]
  have ht' := a3 (by omega)
  have hp' := b3 (by omega)
  have e1 := to_Table (fuel := 1048700) (x := t) hf ht'
  have e2 := to_Pane (fuel := 1048700) (x := p) hf hp'
  have e3 := pS_TableAsk_eq (F := 1048630) (t := tTable t) (p := tPane p) (by have := ht'.1; omega) (by have := ht'.2.1; omega) (by have := ht'.1; omega) (paneF_of hp')
  have e4 := pI_TableAsk_eq (F := 1048630) (t := tTable t) (p := tPane p) (by have := ht'.1; omega) (by have := ht'.2.1; omega) (by have := ht'.1; omega) (paneF_of hp')
  have e3 : pS_TableAsk 1048700 (tTable t) (tPane p) = some (askB (tTable t) (tPane p)) := e3
  have e4 : pI_TableAsk 1048700 (tTable t) (tPane p) = some (askB (tTable t) (tPane p)) := e4
  have hr := fit_ask ht' hp'
  have e5 := eq_Table (fuel := 1048700) (x := (askB (tTable t) (tPane p)).1) hf hr
  have htu : FitTable 1048581 (tTable t) := ⟨by have := ht'.1; omega, by have := ht'.2.1; omega, fun y hy => (ht'.2.2 y hy).mono (by omega)⟩
  have e6 := eq_Table (fuel := 1048700) (x := tTable t) hf htu
  have e7 := eq_Pane (fuel := 1048700) (x := tPane p) hf hp'.up
  obtain ⟨k1, c1, c2, d1, d2, _⟩ := mark_Table (fuel := 1048700) (x := tTable t) (k := 1) htu (by omega) (by omega) (by omega)
  obtain ⟨k2, m1, m2, m3, m4, m5, m6, f1, f2⟩ := mark_Pane (fuel := 1048700) (x := tPane p) (k := k1) hp'.up (by omega) (by omega) (by omega)
  obtain ⟨k3, g1, g2, q1, q2, q3, q4⟩ := mark_Table (fuel := 1048700) (x := (askB (tTable t) (tPane p)).1) (k := 1) hr (by omega) (by omega) (by omega)
  simp only [e1, e2, e3, e4, bd_s, e5, e6, e7, Bool.not_true, br_f, bne_self_eq_false, d1, f1, decide_eq_false (show ¬ k2 < 0 by omega), q1, q4, decide_eq_false (show ¬ k3 < 0 by omega)]
end Go.Px
namespace Go.Px
open Go.RowKit
/-! ### What lies in memory is no longer than a length can say -/
def lenN : Nat → Leaf → Prop
  | 0, _ => True
  | _ + 1, .sc v => wfV v
  | n + 1, .nest _ l => l.length ≤ 9223372036854775807 ∧ ∀ x ∈ l, ∀ lf ∈ leaves x, lenN n lf
theorem lenN_of {S : Nat → Prop} {w : World} : ∀ (n : Nat) {lf : Leaf} {u : Value}, LeafV S w lf u → lenN n lf
  | 0, _, _, _ => trivial
  | n + 1, .sc v, u, h => h.2
  | n + 1, .nest k l, u, h => by
    obtain ⟨a, cap, _, h1, h2, h3⟩ := Row.open h
    refine ⟨h2, fun x hx lf hlf => ?_⟩
    obtain ⟨i, hi⟩ := List.getElem?_of_mem hx
    obtain ⟨j, hj⟩ := List.getElem?_of_mem hlf
    obtain ⟨b, off, _, _, h4⟩ := h3 (by intro e; subst e; simp at hi)
    obtain ⟨u', _, hv⟩ := h4 i x hi j lf hj
    exact lenN_of n hv
theorem lens_of {S : Nat → Prop} {w : World} {lfs : List Leaf} {us : List Value} (n : Nat) (h : All2 (LeafV S w) lfs us) : ∀ lf ∈ lfs, lenN n lf := fun lf hm => by
  obtain ⟨i, hi⟩ := List.getElem?_of_mem hm
  obtain ⟨u, _, hv⟩ := h.get i lf hi
  exact lenN_of n hv
theorem fit_Table {t : LTable} (h : ∀ lf ∈ leaves (k := .lTable) t, lenN 3 lf) : FitTable 9223372036854775807 (tTable t) := by
  have h1 := h (.nest .lProc t.Live) (by simp [leaves])
  have h2 := h (.nest .lAsk t.Asked) (by simp [leaves])
  refine ⟨?_, ?_, fun y hy => ?_⟩
  · show (t.Live.map tProc).length ≤ _; rw [List.length_map]; exact h1.1
  · show (t.Asked.map tAsk).length ≤ _; rw [List.length_map]; exact h2.1
  · obtain ⟨z, hz, rfl⟩ := List.mem_map.1 hy
    have h3 := h2.2 z hz (.sc (.string z.Cmd)) (by simp [leaves])
    have h4 := h2.2 z hz (.sc (.string z.Dir)) (by simp [leaves])
    exact ⟨h3, h4⟩
theorem fit_Pane {p : LPane} (h : ∀ lf ∈ leaves (k := .lPane) p, lenN 3 lf) : FitPane 9223372036854775807 (tPane p) := by
  have h1 := h (.sc (.string p.Cmd)) (by simp [leaves])
  have h2 := h (.sc (.string p.Dir)) (by simp [leaves])
  have h3 := h (.nest .int p.Term.P.Args) (by simp [leaves])
  have h4 := h (.nest .u8 p.Term.P.Part) (by simp [leaves])
  have h5 := h (.nest .lCell p.Term.S.Main.Cells) (by simp [leaves])
  have h6 := h (.nest .lCell p.Term.S.Alt.Cells) (by simp [leaves])
  have h7 := h (.nest .int p.Term.S.Tabs) (by simp [leaves])
  have h8 := h (.nest .lRow p.Term.S.Back) (by simp [leaves])
  refine ⟨h1, h2, ⟨h3.1, h4.1⟩, ?_, ?_, h7.1, ?_, fun y hy => ?_⟩
  · show (p.Term.S.Main.Cells.map tCell).length ≤ _; rw [List.length_map]; exact h5.1
  · show (p.Term.S.Alt.Cells.map tCell).length ≤ _; rw [List.length_map]; exact h6.1
  · show (p.Term.S.Back.map tRow).length ≤ _; rw [List.length_map]; exact h8.1
  · obtain ⟨z, hz, rfl⟩ := List.mem_map.1 hy
    have h9 := h8.2 z hz (.nest .lCell z.Cells) (by simp [leaves])
    show (z.Cells.map tCell).length ≤ _; rw [List.length_map]; exact h9.1
end Go.Px
