/- What a call may hold, as plain values and a store: a small machine over them, the functions of this program as its contracts, and the plain laws: texts Qd to T0. -/
import Derived.Test.YthjkndcfihodgaaGreatDoorQC
import Derived.Test.YthjkndcfihodgaaGreatDoorProg
import Derived.Shelf.Small.Strs
import Derived.Shelf.Sort.Plain
import Derived.Shelf.Slices.In.SortNone
import Derived.Shelf.Strconv.Itoa3
import Derived.Sort.OwnSortedInts
import Derived.Ground.NamesProg
import Derived.Lib.SmallJoins
set_option linter.unusedSimpArgs false
set_option linter.unusedVariables false
set_option linter.constructorNameAsVariable false
namespace Go.Px
open Go.RowKit
theorem liveB_spec {σ : Sto} {id ver : Nat} {b : Blk} (h : liveB σ id ver = some b) : σ id = ⟨ver, some b⟩ := by
  unfold liveB at h
  split at h
  · rename_i v b0 e
    split at h
    · rename_i e2; cases h; rw [e, Nat.eq_of_beq_eq_true e2]
    · cases h
  · cases h
theorem eqN_spec {x : Option (Option Nat)} {b : Nat} (h : eqN x b = true) : x = some (some b) := by
  unfold eqN at h
  split at h
  · rw [Nat.eq_of_beq_eq_true h]
  · cases h
theorem hasSrc_spec {id : Nat} : ∀ {ρ : Rl}, hasSrc id ρ = false → ∀ i, (i, some id) ∉ ρ
  | [], _, i => by simp
  | (a, some j) :: l, h, i => by
    unfold hasSrc at h
    split at h
    · cases h
    · rename_i e
      have hne : j ≠ id := fun e2 => by rw [e2, Nat.beq_refl] at e; cases e
      simp only [List.mem_cons, Prod.mk.injEq, Option.some.injEq, not_or]
      exact ⟨fun h => hne h.2.symm, hasSrc_spec h i⟩
  | (a, none) :: l, h, i => by
    unfold hasSrc at h
    simp only [List.mem_cons, Prod.mk.injEq, reduceCtorEq, and_false, false_or]
    exact hasSrc_spec h i
def sameS (e : Ent) (b : Blk) : Prop := match b with
  | .rowb k l => e = ⟨0, some (.rowb k l)⟩
  | .rowd k l => e = ⟨0, some (.rowd k l)⟩
  | .box _ => ∃ cs, e = ⟨0, some (.box cs)⟩
  | .objb o => e = ⟨0, some (.objb o)⟩
  | _ => True
theorem sameS.row {e : Ent} {b : Blk} {k : K} {l : List (ty k)} (h : sameS e b) (hw : IsRw b k l) : e = ⟨0, some b⟩ := by cases hw <;> exact h
theorem sameS.self {b : Blk} {k : K} {l : List (ty k)} (hw : IsRw b k l) : sameS ⟨0, some b⟩ b := by cases hw <;> exact rfl
theorem rowK_rw (d : Bool) (k : K) (l : List (ty k)) : IsRw (rowK d k l) k l := by cases d <;> constructor
theorem rowAs_spec {d : Bool} {k : K} {b : Blk} {l : List (ty k)} (h : rowAs d k b = some l) : b = rowK d k l := by
  unfold rowAs at h
  split at h
  · split at h
    · obtain ⟨rfl, rfl⟩ := castL_some h; rfl
    · cases h
  · split at h
    · obtain ⟨rfl, rfl⟩ := castL_some h; rfl
    · cases h
  · cases h
theorem rowOf_spec {b : Blk} {d : Bool} {k : K} {l : List (ty k)} (h : rowOf b = some (d, ⟨k, l⟩)) : b = rowK d k l := by
  unfold rowOf at h
  split at h
  · cases h; rfl
  · cases h; rfl
  · cases h
section
variable {ε : Env} {ρl : Rl} {σ' : Sto}
structure Hy (ε : Env) (ρl : Rl) (σ' : Sto) : Prop where
  a : ∀ id, hasSrc id ρl = false → ∀ i, look i ρl ≠ some (some id)
  b : ∀ id id0 ver b, look id ρl = some (some id0) → ε.s id0 = ⟨ver, some b⟩ → sameS (σ' id) b
abbrev ρf (ρl : Rl) : Rn := fun id => look id ρl
theorem leafD_spec (H : Hy ε ρl σ') {p : PV} {x : LeafI} {lf : Leaf} (h : leafD ε.s ρl p = some x) (hi : InL x lf) : Sl0 (ρf ρl) ε.s σ' p (leafPV lf) := by
  unfold leafD at h
  split at h
  · cases h; exact .v _ _ hi
  · cases h; obtain ⟨k, rfl⟩ := hi; exact .nilRow k
  · cases h; have e : lf = _ := hi; subst e; exact .row _ _
  · rename_i id ver off n full
    unfold letD at h
    split at h
    · rename_i k l hl hn
      cases h
      have e : lf = _ := hi
      subst e
      cases full with
      | true => exact .letF (liveB_spec hl) .b (H.a _ hn)
      | false => exact .let_ (liveB_spec hl) .b (H.a _ hn)
    · rename_i k l hl hn
      cases h
      have e : lf = _ := hi
      subst e
      cases full with
      | true => exact .letF (liveB_spec hl) .d (H.a _ hn)
      | false => exact .let_ (liveB_spec hl) .d (H.a _ hn)
    · cases h
  · cases h
abbrev SB (ε : Env) (src : Rl) (bl : List (Nat × Blk)) : Prop := ∀ id id0 ver b, (id, some id0) ∈ src → ε.s id0 = ⟨ver, some b⟩ → ∃ b', (id, b') ∈ bl ∧ sameS ⟨0, some b'⟩ b
abbrev BS (ε : Env) (ρl : Rl) (σ' : Sto) (src : Rl) (bl : List (Nat × Blk)) : Prop := ∀ id b', (id, b') ∈ bl → (∃ id0 v0 b0, (id, some id0) ∈ src ∧ ε.s id0 = ⟨v0, some b0⟩ ∧ BlR (ρf ρl) ε.s σ' b0 b') ∨ ((id, none) ∈ src ∧ ∃ k, IsRw b' k [])
theorem SB.app {s1 s2 : Rl} {b1 b2 : List (Nat × Blk)} (h1 : SB ε s1 b1) (h2 : SB ε s2 b2) : SB ε (s1 ++ s2) (b1 ++ b2) := fun id id0 ver b hm he => by
  rcases List.mem_append.1 hm with h | h
  · obtain ⟨b', q1, q2⟩ := h1 id id0 ver b h he; exact ⟨b', List.mem_append_left _ q1, q2⟩
  · obtain ⟨b', q1, q2⟩ := h2 id id0 ver b h he; exact ⟨b', List.mem_append_right _ q1, q2⟩
theorem BS.app {s1 s2 : Rl} {b1 b2 : List (Nat × Blk)} (h1 : BS ε ρl σ' s1 b1) (h2 : BS ε ρl σ' s2 b2) : BS ε ρl σ' (s1 ++ s2) (b1 ++ b2) := fun id b' hm => by
  rcases List.mem_append.1 hm with h | h
  · exact (h1 id b' h).imp (fun ⟨i, v, b, q, r⟩ => ⟨i, v, b, List.mem_append_left _ q, r⟩) (fun ⟨q, r⟩ => ⟨List.mem_append_left _ q, r⟩)
  · exact (h2 id b' h).imp (fun ⟨i, v, b, q, r⟩ => ⟨i, v, b, List.mem_append_right _ q, r⟩) (fun ⟨q, r⟩ => ⟨List.mem_append_right _ q, r⟩)
theorem SB.nil {b : List (Nat × Blk)} : SB ε [] b := fun _ _ _ _ h => by cases h
theorem BS.nil {s : Rl} : BS ε ρl σ' s [] := fun _ _ h => by cases h
theorem sto_spec {refs : List (Nat × Nat)} : ∀ {ps : List PV} {ls : List LeafI} {lfs : List Leaf} {j : Nat}, stoL ε.s ρl refs j ps = some ls → All2 InL ls lfs →
    SB ε (stoSrc refs j ps) (stoB refs j lfs) ∧ BS ε ρl σ' (stoSrc refs j ps) (stoB refs j lfs) ∧ (Hy ε ρl σ' → (∀ id b, (id, b) ∈ stoB refs j lfs → σ' id = ⟨0, some b⟩) → All2 (Sl0 (ρf ρl) ε.s σ') ps (stoP refs j lfs))
  | [], ls, lfs, j, h, hi => by
    cases h
    cases lfs with
    | nil => exact ⟨SB.nil, BS.nil, fun _ _ => trivial⟩
    | cons _ _ => exact hi.elim
  | p :: ps, ls, lfs, j, h, hi => by
    unfold stoL at h
    split at h
    · rename_i a l h1 h2
      cases h
      cases lfs with
      | nil => exact hi.elim
      | cons lf lfs =>
        obtain ⟨hi1, hi2⟩ := hi
        obtain ⟨q1, q2, q3⟩ := sto_spec (j := j + 1) h2 hi2
        cases hlk : look j refs with
        | none =>
          simp only [hlk] at h1
          have e1 : stoSrc refs j (p :: ps) = stoSrc refs (j + 1) ps := by simp [stoSrc, hlk]
          have e2 : stoB refs j (lf :: lfs) = stoB refs (j + 1) lfs := by simp [stoB, hlk]
          have e3 : stoP refs j (lf :: lfs) = leafPV lf :: stoP refs (j + 1) lfs := by simp [stoP, hlk]
          rw [e1, e2, e3]
          exact ⟨q1, q2, fun H hb => ⟨leafD_spec H h1 hi1, q3 H hb⟩⟩
        | some id =>
          simp only [hlk] at h1
          have e1 : stoSrc refs j (p :: ps) = (id, srcP p) :: stoSrc refs (j + 1) ps := by simp [stoSrc, hlk]
          rw [e1]
          split at h1
          · split at h1
            · rename_i e
              cases h1
              obtain ⟨k, rfl⟩ := hi1
              have e2 : stoB refs j (.nest k [] :: lfs) = (id, rowK (dpI id k) k []) :: stoB refs (j + 1) lfs := by simp [stoB, hlk]
              have e3 : stoP refs j (.nest k [] :: lfs) = .ref id 0 0 0 true :: stoP refs (j + 1) lfs := by simp [stoP, hlk]
              rw [e2, e3]
              refine ⟨fun i id0 ver b hm he => ?_, fun i b' hm => ?_, fun H hb => ⟨.nilRef (k := k) (rowK_rw _ _ _) e (hb _ _ (List.mem_cons_self ..)), q3 H fun i b hm => hb i b (List.mem_cons_of_mem _ hm)⟩⟩
              · rcases List.mem_cons.1 hm with hm | hm
                · cases hm
                · obtain ⟨b', r1, r2⟩ := q1 i id0 ver b hm he; exact ⟨b', List.mem_cons_of_mem _ r1, r2⟩
              · rcases List.mem_cons.1 hm with hm | hm
                · cases hm; exact .inr ⟨List.mem_cons_self .., k, rowK_rw _ _ _⟩
                · exact (q2 i b' hm).imp (fun ⟨i, v, b, q, r⟩ => ⟨i, v, b, List.mem_cons_of_mem _ q, r⟩) (fun ⟨q, r⟩ => ⟨List.mem_cons_of_mem _ q, r⟩)
            · cases h1
          · rename_i id0 ver off n
            split at h1
            · rename_i blk e4 e5
              split at h1
              case h_2 => cases h1
              rename_i d k l e6
              split at h1
              case h_2 => cases h1
              rename_i e7
              cases h1
              obtain rfl := rowOf_spec e6
              obtain rfl : d = dpI id k := eq_of_beq e7
              have hi1 : lf = .nest k l := hi1
              subst hi1
              have e5 := liveB_spec e5
              have e2 : stoB refs j (.nest k l :: lfs) = (id, rowK (dpI id k) k l) :: stoB refs (j + 1) lfs := by simp [stoB, hlk]
              have e3 : stoP refs j (.nest k l :: lfs) = .ref id 0 0 l.length true :: stoP refs (j + 1) lfs := by simp [stoP, hlk]
              rw [e2, e3]
              refine ⟨fun i id0' ver b hm he => ?_, fun i b' hm => ?_, fun H hb => ⟨.refF e5 (rowK_rw _ _ _) (eqN_spec e4) (hb _ _ (List.mem_cons_self ..)), q3 H fun i b hm => hb i b (List.mem_cons_of_mem _ hm)⟩⟩
              · rcases List.mem_cons.1 hm with hm | hm
                · cases hm
                  rw [e5] at he; cases he
                  exact ⟨_, List.mem_cons_self .., sameS.self (rowK_rw _ _ _)⟩
                · obtain ⟨b', r1, r2⟩ := q1 i id0' ver b hm he; exact ⟨b', List.mem_cons_of_mem _ r1, r2⟩
              · rcases List.mem_cons.1 hm with hm | hm
                · cases hm; exact .inl ⟨_, _, _, List.mem_cons_self .., e5, .row (rowK_rw _ _ _)⟩
                · exact (q2 i b' hm).imp (fun ⟨i, v, b, q, r⟩ => ⟨i, v, b, List.mem_cons_of_mem _ q, r⟩) (fun ⟨q, r⟩ => ⟨List.mem_cons_of_mem _ q, r⟩)
            · cases h1
          · cases h1
    · cases h
theorem list_spec {k : K} {x : LeafI} {l : List (ty k)} (h : x.list k = some l) : InL x (.nest k l) := LeafI.list_spec h
theorem capsOk_spec (H : Hy ε ρl σ') : ∀ {l : List (Nat × Nat)} {ps : List PV}, capsOk ε.s ρl l ps = true → All2 (SlP (ρf ρl) ε.s σ') ps (capsP l)
  | [], [], _ => trivial
  | [], _ :: _, h => by cases h
  | (id, j) :: l, [], h => by cases h
  | (id, j) :: l, p :: ps, h => by
    unfold capsOk at h
    split at h
    · rename_i e1 e2; cases e1
    · rename_i id1 j1 l1 id0 ver i j' ps1 e1 e2
      cases e1; cases e2
      simp only [Bool.and_eq_true] at h
      obtain ⟨h1, h2, h3, h4, h5⟩ := h
      rw [Nat.eq_of_beq_eq_true h1, Nat.eq_of_beq_eq_true h2]
      split at h4
      · rename_i cs e2
        obtain ⟨cs', e3⟩ := H.b _ _ _ _ (eqN_spec h3) (liveB_spec e2)
        exact ⟨⟨.ptrb (liveB_spec e2) (eqN_spec h3) e3, rfl, rfl⟩, capsOk_spec H h5⟩
      · cases h4
    · cases h
theorem Sh.dec_spec (H : Hy ε ρl σ') : ∀ {sh : Sh} {p : PV} {x : sh.V}, sh.dec ε.s ρl p = some x → (∀ id b, (id, b) ∈ sh.bl x → σ' id = ⟨0, some b⟩) →
    Sl1 (ρf ρl) ε.s σ' p (sh.enc x) ∧ ((∀ k r, sh ≠ .st k r) → SlB (ρf ρl) ε.s σ' p (sh.enc x)) := by
  intro sh p x h hb
  have z : Sl0 (ρf ρl) ε.s σ' p (sh.enc x) → Sl1 (ρf ρl) ε.s σ' p (sh.enc x) ∧ ((∀ k r, sh ≠ .st k r) → SlB (ρf ρl) ε.s σ' p (sh.enc x)) := fun h => ⟨.inl (.inl h), fun _ => .inl h⟩
  unfold Sh.dec at h
  split at h
  · rename_i k k' n
    split at h
    · rename_i e; subst e; cases h; exact z (.v _ (.sc _) fun _ => rfl)
    · cases h
  · cases h; exact z (.v _ (.sc _) fun _ => rfl)
  · cases h; exact z (.v _ (.sc _) fun _ => rfl)
  · rename_i k p
    split at h
    · rename_i y hy; exact z (leafD_spec H hy (list_spec h))
    · cases h
  · rename_i k refs cs
    split at h
    · rename_i l hl
      exact ⟨.inr ⟨_, _, rfl, rfl, (sto_spec hl (ofLeaves_spec h)).2.2 H hb⟩, fun hn => absurd rfl (hn k refs)⟩
    · cases h
  · rename_i k id
    split at h
    · rename_i e
      cases h
      exact z (.nilRef (k := k) (rowK_rw _ _ _) e (hb id _ (List.mem_cons_self ..)))
    · cases h
  · rename_i k id id0 ver off n
    split at h
    · rename_i b e1 e2
      obtain rfl := rowAs_spec h
      exact z (.refF (liveB_spec e2) (rowK_rw _ _ _) (eqN_spec e1) (hb id _ (List.mem_cons_self ..)))
    · cases h
  · rename_i id id0 ver off n full
    split at h
    · rename_i k' l e1 e2
      cases h
      have := H.b _ _ _ _ (eqN_spec e1) (liveB_spec e2)
      exact z (.refV (liveB_spec e2) .b (eqN_spec e1) this)
    · rename_i k' l e1 e2
      cases h
      have := H.b _ _ _ _ (eqN_spec e1) (liveB_spec e2)
      exact z (.refV (liveB_spec e2) .d (eqN_spec e1) this)
    · cases h
  · rename_i id j id0 ver i j'
    split at h
    · rename_i cs e0 e1 e2
      cases h
      obtain ⟨cs', h3⟩ := H.b _ _ _ _ (eqN_spec e1) (liveB_spec e2)
      obtain rfl := Nat.eq_of_beq_eq_true e0
      exact z (.ptrb (liveB_spec e2) (eqN_spec e1) h3)
    · rename_i k l e0 e1 e2
      cases h
      have h3 := H.b _ _ _ _ (eqN_spec e1) (liveB_spec e2)
      obtain rfl := Nat.eq_of_beq_eq_true e0
      exact z (.ptrr (liveB_spec e2) .b (eqN_spec e1) h3)
    · rename_i k l e0 e1 e2
      cases h
      have h3 := H.b _ _ _ _ (eqN_spec e1) (liveB_spec e2)
      obtain rfl := Nat.eq_of_beq_eq_true e0
      exact z (.ptrr (liveB_spec e2) .d (eqN_spec e1) h3)
    · cases h
  · rename_i k j k' l i j'
    split at h
    · rename_i l' e0 e1
      cases h
      obtain ⟨rfl, rfl⟩ := castL_some e1
      obtain rfl := Nat.eq_of_beq_eq_true e0
      exact z (.eptr _ _ _ _)
    · cases h
  · rename_i f caps f' ps
    split at h
    · rename_i e
      cases h
      rw [Bool.and_eq_true] at e
      obtain rfl := Nat.eq_of_beq_eq_true e.1
      have := capsOk_spec H e.2
      exact ⟨.inl (.inr ⟨_, _, _, rfl, rfl, this⟩), fun _ => .inr ⟨_, _, _, rfl, rfl, this⟩⟩
    · cases h
  · cases h
theorem plDec_spec (H : Hy ε ρl σ') : ∀ {l : List Sh} {ps : List PV} {x : PL l}, plDec ε.s ρl l ps = some x → (∀ id b, (id, b) ∈ plBl l x → σ' id = ⟨0, some b⟩) →
    All2 (Sl1 (ρf ρl) ε.s σ') ps (plEnc l x) ∧ ((∀ s ∈ l, ∀ k r, s ≠ .st k r) → All2 (SlB (ρf ρl) ε.s σ') ps (plEnc l x)) := by
  intro l
  induction l with
  | nil =>
    intro ps x h hb
    cases ps with
    | nil => exact ⟨trivial, fun _ => trivial⟩
    | cons _ _ => cases h
  | cons a l ih =>
    intro ps x h hb
    cases l with
    | nil =>
      match ps, h with
      | [p], h =>
        have := Sh.dec_spec H (sh := a) (p := p) h hb
        exact ⟨⟨this.1, trivial⟩, fun hn => ⟨this.2 (hn a (by simp)), trivial⟩⟩
      | [], h => cases h
      | _ :: _ :: _, h => cases h
    | cons b l =>
      match ps, h with
      | p :: ps, h =>
        unfold plDec at h
        split at h
        · rename_i x1 y1 h1 h2
          cases h
          have q1 := Sh.dec_spec H h1 fun id b hm => hb id b (List.mem_append_left _ hm)
          have q2 := ih h2 fun id b hm => hb id b (List.mem_append_right _ hm)
          exact ⟨⟨q1.1, q2.1⟩, fun hn => ⟨q1.2 (hn a (by simp)), q2.2 fun s hs => hn s (List.mem_cons_of_mem _ hs)⟩⟩
        · cases h
      | [], h => cases h
end
end Go.Px
namespace Go.Px
open Go.RowKit
section
variable {ε : Env} {ρl : Rl} {σ' : Sto}
theorem Sh.sb : ∀ {sh : Sh} {p : PV} {x : sh.V}, sh.dec ε.s ρl p = some x → SB ε (sh.src p) (sh.bl x) ∧ BS ε ρl σ' (sh.src p) (sh.bl x) := by
  intro sh p x h
  cases sh with
  | own k id =>
    cases p with
    | nil =>
      simp only [Sh.dec] at h
      split at h
      · cases h
        refine ⟨fun i id0 ver b hm he => ?_, fun i b' hm => ?_⟩
        · simp [Sh.src, srcP] at hm
        · obtain ⟨rfl, rfl⟩ : i = id ∧ b' = rowK (dpI id k) k [] := by simpa [Sh.bl] using hm
          exact .inr ⟨by simp [Sh.src, srcP], k, rowK_rw _ _ _⟩
      · cases h
    | ref id0 ver off n full =>
      cases full with
      | false => simp [Sh.dec] at h
      | true =>
        simp only [Sh.dec] at h
        split at h
        · rename_i blk e1 e2
          obtain rfl := rowAs_spec h
          have e2 := liveB_spec e2
          refine ⟨fun i id0' ver b hm he => ?_, fun i b' hm => ?_⟩
          · obtain ⟨rfl, rfl⟩ : i = id ∧ id0' = id0 := by simpa [Sh.src, srcP] using hm
            rw [e2] at he; cases he
            exact ⟨_, List.mem_cons_self .., sameS.self (rowK_rw _ _ _)⟩
          · obtain ⟨rfl, rfl⟩ : i = id ∧ b' = rowK (dpI id k) k x := by simpa [Sh.bl] using hm
            exact .inl ⟨_, _, _, List.mem_cons_self .., e2, .row (rowK_rw _ _ _)⟩
        · cases h
    | _ => simp [Sh.dec] at h
  | st k refs =>
    cases p with
    | agg cs =>
      simp only [Sh.dec] at h
      split at h
      · rename_i l hl
        have := sto_spec (σ' := σ') hl (ofLeaves_spec h)
        exact ⟨this.1, this.2.1⟩
      · cases h
    | _ => simp [Sh.dec] at h
  | _ => exact ⟨SB.nil, BS.nil⟩
theorem plDec.sb : ∀ {l : List Sh} {ps : List PV} {x : PL l}, plDec ε.s ρl l ps = some x → SB ε (plSrc l ps) (plBl l x) ∧ BS ε ρl σ' (plSrc l ps) (plBl l x) := by
  intro l
  induction l with
  | nil =>
    intro ps x h
    exact ⟨by cases ps <;> exact SB.nil, BS.nil⟩
  | cons a l ih =>
    intro ps x h
    cases l with
    | nil =>
      match ps, h with
      | [p], h =>
        have := Sh.sb (σ' := σ') (sh := a) (p := p) h
        simp only [plSrc, List.append_nil]
        exact this
      | [], h => cases h
      | _ :: _ :: _, h => cases h
    | cons b l =>
      match ps, h with
      | p :: ps, h =>
        unfold plDec at h
        split at h
        · rename_i x1 y1 h1 h2
          cases h
          have q1 := Sh.sb (σ' := σ') h1
          have q2 := ih h2
          exact ⟨q1.1.app q2.1, q1.2.app q2.2⟩
        · cases h
      | [], h => cases h
theorem boxC_eq {id v : Nat} {cs : List PV} (h : ε.s id = ⟨v, some (.box cs)⟩) : boxC ε id = cs := by unfold boxC; rw [h]
theorem sb_box {id v : Nat} {cs : List PV} {src : Rl} {ds : List PV} {bl : List (Nat × Blk)} (he : ε.s id = ⟨v, some (.box cs)⟩) (h1 : SB ε src bl) : SB ε ((id, some id) :: src) ((id, .box ds) :: bl) := fun i id0 ver b hm e => by
  rcases List.mem_cons.1 hm with hm | hm
  · cases hm
    rw [he] at e; cases e
    exact ⟨_, List.mem_cons_self .., _, rfl⟩
  · obtain ⟨b', r1, r2⟩ := h1 i id0 ver b hm e; exact ⟨b', List.mem_cons_of_mem _ r1, r2⟩
theorem bs_box {id v : Nat} {cs : List PV} {src : Rl} {ds : List PV} {bl : List (Nat × Blk)} (he : ε.s id = ⟨v, some (.box cs)⟩) (h1 : BS ε ρl σ' src bl) (h2 : All2 (SlB (ρf ρl) ε.s σ') cs ds) : BS ε ρl σ' ((id, some id) :: src) ((id, .box ds) :: bl) := fun i b' hm => by
  rcases List.mem_cons.1 hm with hm | hm
  · cases hm; exact .inl ⟨id, v, _, List.mem_cons_self .., he, .box h2⟩
  · exact (h1 i b' hm).imp (fun ⟨i, v, b, q, r⟩ => ⟨i, v, b, List.mem_cons_of_mem _ q, r⟩) (fun ⟨q, r⟩ => ⟨List.mem_cons_of_mem _ q, r⟩)
theorem noSt_spec {id : Nat} {l : List Sh} (h : (En.bxl id l).okB = true) : ∀ s ∈ l, ∀ k r, s ≠ .st k r := fun s hs k r e => by
  subst e
  have := List.all_eq_true.1 h _ hs
  cases this
theorem En.spec : ∀ {e : En} {x : e.V}, e.okB = true → e.dec ε ρl = some x → SB ε (e.src ε) (e.bl x) ∧ (Hy ε ρl σ' → (∀ id b, (id, b) ∈ e.bl x → σ' id = ⟨0, some b⟩) → BS ε ρl σ' (e.src ε) (e.bl x) ∧ ∀ t p, (t, p) ∈ e.tm x → SlC (ρf ρl) ε.s σ' (ε.t t) p) := by
  intro e x ho h
  cases e with
  | sl t sh =>
    have q := Sh.sb (σ' := σ') (sh := sh) h
    refine ⟨q.1, fun H hb => ⟨q.2, fun t' p hm => ?_⟩⟩
    obtain ⟨rfl, rfl⟩ : t' = t ∧ p = sh.enc x := by simpa [En.tm] using hm
    exact .inl (Sh.dec_spec H (sh := sh) h hb).1
  | tup t l =>
    simp only [En.dec] at h
    split at h
    · rename_i vs he
      have q := plDec.sb (σ' := σ') (l := l) h
      simp only [En.src, he, tupC]
      refine ⟨q.1, fun H hb => ⟨q.2, fun t' p hm => ?_⟩⟩
      obtain ⟨rfl, rfl⟩ : t' = t ∧ p = .tup (plEnc l x) := by simpa [En.tm] using hm
      rw [he]
      exact .inr (.inl ⟨_, _, rfl, rfl, (plDec_spec H h hb).1⟩)
    · cases h
  | bxl id l =>
    simp only [En.dec] at h
    split at h
    · rename_i v cs he
      have q := plDec.sb (σ' := σ') (l := l) h
      simp only [En.src, En.bl, boxC_eq he]
      exact ⟨sb_box he q.1, fun H hb => ⟨bs_box he q.2 ((plDec_spec H h fun i b hm => hb i b (List.mem_cons_of_mem _ hm)).2 (noSt_spec (id := id) ho)), fun t p hm => by cases hm⟩⟩
    · cases h
  | sto id k refs =>
    simp only [En.dec] at h
    split at h
    · rename_i v cs he
      split at h
      · rename_i l hl
        have q := sto_spec (σ' := σ') hl (ofLeaves_spec h)
        simp only [En.src, En.bl, boxC_eq he]
        exact ⟨sb_box he q.1, fun H hb => ⟨bs_box he q.2.1 ((q.2.2 H fun i b hm => hb i b (List.mem_cons_of_mem _ hm)).mono fun _ _ h => .inl h), fun t p hm => by cases hm⟩⟩
      · cases h
    · cases h
  | rw id k =>
    simp only [En.dec] at h
    split at h
    · rename_i v blk he
      obtain rfl := rowAs_spec h
      refine ⟨fun i id0 ver b hm e => ?_, fun H hb => ⟨fun i b' hm => ?_, fun t p hm => by cases hm⟩⟩
      · obtain ⟨rfl, rfl⟩ : i = id ∧ id0 = id := by simpa [En.src] using hm
        rw [he] at e; cases e
        exact ⟨_, List.mem_cons_self .., sameS.self (rowK_rw _ _ _)⟩
      · obtain ⟨rfl, rfl⟩ : i = id ∧ b' = rowK (dpI id k) k x := by simpa [En.bl] using hm
        exact .inl ⟨_, _, _, List.mem_cons_self .., he, .row (rowK_rw _ _ _)⟩
    · cases h
  | ob id =>
    simp only [En.dec] at h
    split at h
    · rename_i v o he
      cases h
      refine ⟨fun i id0 ver b hm e => ?_, fun H hb => ⟨fun i b' hm => ?_, fun t p hm => by cases hm⟩⟩
      · obtain ⟨rfl, rfl⟩ : i = id ∧ id0 = id := by simpa [En.src] using hm
        rw [he] at e; cases e
        exact ⟨_, List.mem_cons_self .., rfl⟩
      · obtain ⟨rfl, rfl⟩ : i = id ∧ b' = .objb x := by simpa [En.bl] using hm
        exact .inl ⟨_, _, _, List.mem_cons_self .., he, .obj⟩
    · cases h
end
end Go.Px
namespace Go.Px
open Go.RowKit
theorem nodN_spec : ∀ {l : List Nat}, nodN l = true → l.Nodup
  | [], _ => List.nodup_nil
  | x :: l, h => by
    simp only [nodN, Bool.and_eq_true, Bool.not_eq_true', List.any_eq_false] at h
    refine List.nodup_cons.2 ⟨fun hm => ?_, nodN_spec h.2⟩
    have := h.1 x hm
    rw [Nat.beq_refl] at this
    exact this rfl
theorem look_of_mem {α : Type} : ∀ {l : List (Nat × α)} {a : Nat} {b : α}, (l.map (·.1)).Nodup → (a, b) ∈ l → look a l = some b
  | (k, v) :: l, a, b, hn, hm => by
    rw [List.map_cons, List.nodup_cons] at hn
    unfold look
    rcases List.mem_cons.1 hm with e | hm
    · cases e; rw [if_pos rfl]
    · rw [if_neg (fun e => hn.1 (by rw [e]; exact List.mem_map.2 ⟨_, hm, rfl⟩))]
      exact look_of_mem hn.2 hm
  | [], _, _, _, hm => by cases hm
theorem srcs_inj : ∀ {l : Rl} {i j id : Nat}, (srcsL l).Nodup → (i, some id) ∈ l → (j, some id) ∈ l → i = j
  | (a, none) :: l, i, j, id, hn, h1, h2 => by
    have h1 : (i, some id) ∈ l := (List.mem_cons.1 h1).resolve_left (fun e => nomatch e)
    have h2 : (j, some id) ∈ l := (List.mem_cons.1 h2).resolve_left (fun e => nomatch e)
    exact srcs_inj (l := l) hn h1 h2
  | (a, some x) :: l, i, j, id, hn, h1, h2 => by
    have mem : ∀ {l : Rl} {i : Nat}, (i, some id) ∈ l → id ∈ srcsL l := by
      intro l
      induction l with
      | nil => intro i h; cases h
      | cons y l ih =>
        intro i h
        obtain ⟨a, b⟩ := y
        cases b with
        | none => simp only [List.mem_cons, Prod.mk.injEq, reduceCtorEq, and_false, false_or] at h; exact ih h
        | some b =>
          rcases List.mem_cons.1 h with e | h
          · cases e; exact List.mem_cons_self ..
          · exact List.mem_cons_of_mem _ (ih h)
    have hn : (x :: srcsL l).Nodup := hn
    rw [List.nodup_cons] at hn
    rcases List.mem_cons.1 h1 with e1 | h1
    · rcases List.mem_cons.1 h2 with e2 | h2
      · cases e1; cases e2; rfl
      · cases e1; exact absurd (mem h2) hn.1
    · rcases List.mem_cons.1 h2 with e2 | h2
      · cases e2; exact absurd (mem h1) hn.1
      · exact srcs_inj hn.2 h1 h2
  | [], _, _, _, _, h, _ => by cases h
theorem bigB_spec {nx : Nat} : ∀ {l : Rl}, bigB nx l = true → ∀ i j, (i, some j) ∈ l → i ≠ j → nx ≤ i ∧ nx ≤ j
  | (a, none) :: l, h, i, j, hm, hne => by
    have hm : (i, some j) ∈ l := (List.mem_cons.1 hm).resolve_left (fun e => nomatch e)
    exact bigB_spec (l := l) h i j hm hne
  | (a, some x) :: l, h, i, j, hm, hne => by
    have h : ((Nat.beq a x || (Nat.ble nx a && Nat.ble nx x)) && bigB nx l) = true := h
    rw [Bool.and_eq_true, Bool.or_eq_true, Bool.and_eq_true] at h
    rcases List.mem_cons.1 hm with e | hm
    · cases e
      rcases h.1 with h1 | ⟨h1, h2⟩
      · exact absurd (Nat.eq_of_beq_eq_true h1) hne
      · exact ⟨Nat.le_of_ble_eq_true h1, Nat.le_of_ble_eq_true h2⟩
    · exact bigB_spec h.2 i j hm hne
  | [], _, _, _, hm, _ => by cases hm
section
variable {ε : Env} {ρl : Rl} {σ' : Sto}
theorem el_spec : ∀ {es : List En} {x : EL es}, es.all En.okB = true → elDec ε ρl es = some x → SB ε (es.flatMap (En.src ε)) (elBl es x) ∧
    (Hy ε ρl σ' → (∀ id b, (id, b) ∈ elBl es x → σ' id = ⟨0, some b⟩) → BS ε ρl σ' (es.flatMap (En.src ε)) (elBl es x) ∧ ∀ t p, (t, p) ∈ elTm es x → SlC (ρf ρl) ε.s σ' (ε.t t) p) := by
  intro es
  induction es with
  | nil => intro x _ h; exact ⟨SB.nil, fun _ _ => ⟨BS.nil, fun _ _ h => by cases h⟩⟩
  | cons a l ih =>
    intro x ho h
    rw [List.all_cons, Bool.and_eq_true] at ho
    cases l with
    | nil =>
      have := En.spec (σ' := σ') (e := a) ho.1 h
      simp only [List.flatMap_cons, List.flatMap_nil, List.append_nil]
      exact this
    | cons b l =>
      unfold elDec at h
      split at h
      · rename_i x1 y1 h1 h2
        cases h
        have q1 := En.spec (σ' := σ') ho.1 h1
        have q2 := ih ho.2 h2
        rw [List.flatMap_cons]
        refine ⟨q1.1.app q2.1, fun H hb => ?_⟩
        have r1 := q1.2 H fun i b hm => hb i b (List.mem_append_left _ hm)
        have r2 := q2.2 H fun i b hm => hb i b (List.mem_append_right _ hm)
        refine ⟨r1.1.app r2.1, fun t p hm => ?_⟩
        rcases List.mem_append.1 hm with hm | hm
        · exact r1.2 t p hm
        · exact r2.2 t p hm
      · cases h
theorem U.ok_spec (H : Hy ε ρl σ') {u : U} {p : PV} (h : u.ok ε.s ρl p = true) : SlC (ρf ρl) ε.s σ' p (u.pv σ') := by
  unfold U.ok at h
  split at h
  · exact .inl (.inl (.inl .nil))
  · exact .inl (.inl (.inl .un))
  · exact .inl (.inl (.inl (.v _ (.sc _) fun _ => rfl)))
  · rename_i f caps f' ps
    rw [Bool.and_eq_true] at h
    obtain rfl := Nat.eq_of_beq_eq_true h.1
    exact .inr (.inr ⟨_, _, _, rfl, rfl, capsOk_spec H h.2⟩)
  · rename_i id id0 ver off n
    split at h
    · rename_i k l e1 e2
      have e3 : σ' id = _ := H.b _ _ _ _ (eqN_spec e1) (liveB_spec e2)
      simp only [U.pv, e3]
      exact .inl (.inl (.inl (.refF (liveB_spec e2) .b (eqN_spec e1) e3)))
    · rename_i k l e1 e2
      have e3 : σ' id = _ := H.b _ _ _ _ (eqN_spec e1) (liveB_spec e2)
      simp only [U.pv, e3]
      exact .inl (.inl (.inl (.refF (liveB_spec e2) .d (eqN_spec e1) e3)))
    · cases h
  · rename_i id j id0 ver i j'
    simp only [Bool.and_eq_true] at h
    obtain ⟨h1, h2, h3, h4⟩ := h
    rw [Nat.eq_of_beq_eq_true h1, Nat.eq_of_beq_eq_true h2]
    split at h4
    · rename_i cs e2
      obtain ⟨cs', e3⟩ := H.b _ _ _ _ (eqN_spec h3) (liveB_spec e2)
      exact .inl (.inl (.inl (.ptrb (liveB_spec e2) (eqN_spec h3) e3)))
    · rename_i k l e2
      have e3 := H.b _ _ _ _ (eqN_spec h3) (liveB_spec e2)
      exact .inl (.inl (.inl (.ptrr (liveB_spec e2) .b (eqN_spec h3) e3)))
    · rename_i k l e2
      have e3 := H.b _ _ _ _ (eqN_spec h3) (liveB_spec e2)
      exact .inl (.inl (.inl (.ptrr (liveB_spec e2) .d (eqN_spec h3) e3)))
    · rename_i o e2
      have e3 := H.b _ _ _ _ (eqN_spec h3) (liveB_spec e2)
      exact .inl (.inl (.inl (.ptro (liveB_spec e2) (eqN_spec h3) e3)))
    · cases h4
  · cases h
theorem usOk_spec (H : Hy ε ρl σ') : ∀ {us : List (Nat × U)}, usOk ε ρl us = true → ∀ t p, (t, p) ∈ usTm σ' us → SlC (ρf ρl) ε.s σ' (ε.t t) p
  | [], _, _, _, hm => by cases hm
  | (t0, u) :: l, h, t, p, hm => by
    unfold usOk at h
    rw [Bool.and_eq_true] at h
    rcases List.mem_cons.1 hm with e | hm
    · cases e; exact U.ok_spec H h.1
    · exact usOk_spec H h.2 t p hm
end
theorem Shape.dec_nrm {nx : Nat} {sh : Shape} {ε0 : Env} {v : EL sh.es} (h : sh.dec nx ε0 = some v) : Nrm (nxB nx) (nxL nx) (ρf (sh.src (unfEnv (srcsL (sh.src ε0)) ε0))) (unfEnv (srcsL (sh.src ε0)) ε0) (sh.enc v) := by
  unfold Shape.dec at h
  simp only at h
  generalize unfEnv (srcsL (sh.src ε0)) ε0 = ε at h ⊢
  split at h
  · cases h
  rename_i v' hv
  split at h
  case h_2 => cases h
  cases h
  rename_i hc
  simp only [Bool.and_eq_true] at hc
  obtain ⟨c1, c2, c3, c4, c5, c6, c7⟩ := hc
  have n2 := nodN_spec c2
  have n3 := nodN_spec c3
  have n4 := nodN_spec c4
  have hbl : ∀ id b, (id, b) ∈ elBl sh.es v → (stoOf (elBl sh.es v)) id = ⟨0, some b⟩ := fun id b hm => by
    unfold stoOf; rw [look_of_mem n4 hm]
  have hsb := (el_spec (σ' := stoOf (elBl sh.es v)) c1 hv).1
  have H : Hy ε (sh.src ε) (stoOf (elBl sh.es v)) := ⟨fun id hs i e => hasSrc_spec hs i (look_mem e), fun id id0 ver b e1 e2 => by
    obtain ⟨b', q1, q2⟩ := hsb id id0 ver b (look_mem e1) e2
    rw [hbl id b' q1]; exact q2⟩
  obtain ⟨hbs, htm⟩ := (el_spec (σ' := stoOf (elBl sh.es v)) c1 hv).2 H hbl
  refine ⟨fun i => ?_, fun id w b e => ?_, fun i j id e1 e2 => srcs_inj n3 (look_mem e1) (look_mem e2), fun j hj => ?_, fun q hq => ?_, fun i id e hne => bigB_spec c5 i id (look_mem e) hne⟩
  · show SlC _ _ _ _ (tmOf _ i)
    unfold tmOf
    split
    · rename_i p hp
      rcases List.mem_append.1 (look_mem hp) with hm | hm
      · exact usOk_spec H c7 i p hm
      · exact htm i p hm
    · exact .inl (.inl (.inl (.dead _)))
  · have e : stoOf (elBl sh.es v) id = ⟨w, some b⟩ := e
    unfold stoOf at e
    split at e
    · rename_i b' hb
      cases e
      refine ⟨rfl, ?_⟩
      rcases hbs id b (look_mem hb) with ⟨id0, v0, b0, q1, q2, q3⟩ | ⟨q1, q2⟩
      · exact .inl ⟨id0, v0, b0, look_of_mem n2 q1, q2, q3⟩
      · exact .inr ⟨look_of_mem n2 q1, q2⟩
    · cases e
  · have c6 : (((List.range (nxB nx)).all fun j => eqN (look j (sh.src ε)) j && isBoxE (elBl sh.es v) j) && ((List.range (nxL nx)).all fun q => eqN (look (50 + q) (sh.src ε)) (50 + q) && hasE' (elBl sh.es v) (50 + q))) = true := c6
    rw [Bool.and_eq_true] at c6
    have := List.all_eq_true.1 c6.1 j (List.mem_range.2 hj)
    rw [Bool.and_eq_true] at this
    refine ⟨eqN_spec this.1, ?_⟩
    have h2 := this.2
    unfold isBoxE at h2
    split at h2
    · rename_i cs e
      exact ⟨cs, by show (stoOf _ j).blk = _; unfold stoOf; rw [e]⟩
    · cases h2
  · have c6 : (((List.range (nxB nx)).all fun j => eqN (look j (sh.src ε)) j && isBoxE (elBl sh.es v) j) && ((List.range (nxL nx)).all fun q => eqN (look (50 + q) (sh.src ε)) (50 + q) && hasE' (elBl sh.es v) (50 + q))) = true := c6
    rw [Bool.and_eq_true] at c6
    have := List.all_eq_true.1 c6.2 q (List.mem_range.2 hq)
    rw [Bool.and_eq_true] at this
    refine ⟨eqN_spec this.1, ?_⟩
    have h2 := this.2
    unfold hasE' at h2
    split at h2
    · rename_i b e
      exact ⟨b, by show (stoOf _ (50 + q)).blk = _; unfold stoOf; rw [e]⟩
    · cases h2
theorem unfS_gh {X : Ctx} {nt : Nat} {t : Nat → PV} {s : Sto} {id : Nat} : Gh X nt ⟨t, s⟩ ⟨t, unfS s id⟩ := fun a w hg => by
  unfold unfS
  split
  · rename_i ver k l i cs he
    split
    · rename_i y A hc
      obtain ⟨hs, hd, β, N, hst⟩ := hg
      obtain ⟨N', st, _⟩ := unfocus_spec (t := t) hst he hc
      exact ⟨hs, hd, β, N', st⟩
    · exact hg
  · exact hg
theorem unfSL_gh {X : Ctx} {nt : Nat} {t : Nat → PV} : ∀ {ids : List Nat} {s : Sto}, Gh X nt ⟨t, s⟩ ⟨t, unfSL ids s⟩
  | [], s => fun a w hg => hg
  | id :: l, s => fun a w hg => unfSL_gh (ids := l) a w (unfS_gh a w hg)
theorem unf_gh {X : Ctx} {nt : Nat} (ids : List Nat) (ε : Env) : Gh X nt ε (unfEnv ids ε) := fun a w hg => unfSL_gh (ids := ids) (t := ε.t) a w hg
def XOk (nx : Nat) (X : Ctx) : Prop := X.ext.length = nxB nx ∧ ∀ q u n, X.rx q = some (u, n) → q < nxL nx
theorem Shape.dec_gh {X : Ctx} {nt nx : Nat} (hX : XOk nx X) {sh : Shape} {ε : Env} {v : EL sh.es} (h : sh.dec nx ε = some v) : Gh X nt ε (sh.enc v) := fun a w hg => (Shape.dec_nrm h).gh hX.1 hX.2 a w (unf_gh _ _ a w hg)
end Go.Px
namespace Go.Px
open Go.RowKit
def gd {β : Type} (p : Prop) [Decidable p] (x : Option β) : Option β := if p then x else none
theorem gd_some {β : Type} {p : Prop} [Decidable p] {x : Option β} {r : β} (h : gd p x = some r) : p ∧ x = some r := by
  unfold gd at h
  split at h
  · rename_i hp; exact ⟨hp, h⟩
  · cases h
def bd {α β : Type} (o : Option α) (f : α → Option β) : Option β := o.bind f
def br {α : Type} (b : Bool) (x y : α) : α := if b then x else y
noncomputable def cmpN {α β : Type} (l : List α) (x y : Option β) : Option β := br l.isEmpty (@ite (Option β) (x = y) (Classical.propDecidable (x = y)) y none) y
def loopF {V O : Type} (B : V → Option (V ⊕ O)) : Nat → V → Option O
  | 0, _ => none
  | n + 1, v => match B v with
    | none => none
    | some (.inl v') => loopF B n v'
    | some (.inr o) => some o
def recF {V R : Type} (B : (V → Option R) → V → Option R) : Nat → V → Option R
  | 0, _ => none
  | n + 1, v => B (recF B n) v
def jn {V β : Type} (o : Option (V ⊕ β)) (f : V → Option β) : Option β := bd o fun s => match s with
  | .inl v => f v
  | .inr r => some r
def ownR (id : Nat) (k : K) (l : List (ty k)) : PV := match dpI id k with
  | true => .drow k l
  | false => .row true k l
def cellC (own : Option Nat) (lf : Leaf) : PV := match own, lf with
  | some id, .nest k l => ownR id k l
  | _, lf => leafPV lf
def stoR (js : List (Nat × Nat)) : Nat → List Leaf → List PV
  | _, [] => []
  | j, lf :: l => cellC (look j js) lf :: stoR js (j + 1) l
def Sh.encC : (sh : Sh) → sh.V → PV
  | .own k id, l => ownR id k l
  | .st k js, x => .agg (stoR js 0 (leaves (k := k) x))
  | sh, x => sh.enc x
def plEncC : (l : List Sh) → PL l → List PV
  | [], _ => []
  | [a], v => [a.encC v]
  | a :: b :: l, v => a.encC v.1 :: plEncC (b :: l) v.2
inductive Ro where
  | one (sh : Sh) | tup (l : List Sh)
abbrev Ro.V : Ro → Type
  | .one sh => sh.V
  | .tup l => PL l
def ownOk (own : Option Nat) (k : K) : Bool := match own with
  | none => true
  | some id => match dpI id k with
    | true => flat k
    | false => true
def leafC (own : Option Nat) : PV → Option LeafI
  | .v x => match own with
    | some _ => none
    | none => some (.sc x)
  | .nil => some .nl
  | .row true k l => match ownOk own k with
    | true => some (.nest k l)
    | false => none
  | .drow k l => some (.nest k l)
  | .row false k l => match own with
    | some _ => none
    | none => some (.nest k l)
  | _ => none
def leafsC (js : List (Nat × Nat)) : Nat → List PV → Option (List LeafI)
  | _, [] => some []
  | j, p :: ps => match leafC (look j js) p, leafsC js (j + 1) ps with
    | some a, some l => some (a :: l)
    | _, _ => none
def eqC0 : PV → PV → Bool
  | .ptr a b c d, .ptr a' b' c' d' => Nat.beq a a' && (Nat.beq b b' && (Nat.beq c c' && Nat.beq d d'))
  | .nil, .nil => true
  | .v (.pointer none), .v (.pointer none) => true
  | _, _ => false
def eqCL : List PV → List PV → Bool
  | [], [] => true
  | p :: ps, q :: qs => eqC0 p q && eqCL ps qs
  | _, _ => false
def Sh.decC : (sh : Sh) → PV → Option sh.V
  | .I k, .v (.int k' n) => if k' = k then some n else none
  | .S, .v (.string x) => some x
  | .B, .v (.bool x) => some x
  | .row k, p => match leafC none p with
    | some x => x.list k
    | none => none
  | .own k id, p => match leafC (some id) p with
    | some x => x.list k
    | none => none
  | .st k js, .agg cs => match leafsC js 0 cs with
    | some l => ofLeaves k l
    | none => none
  | .eptr k j, .eptr _ l i j' => match Nat.beq j' j, castL k l with
    | true, some l => some (l, i)
    | _, _ => none
  | .cfn f caps, .fn f' ps => match Nat.beq f' f && eqCL ps (capsP caps) with
    | true => some ()
    | false => none
  | _, _ => none
def plDecC : (l : List Sh) → List PV → Option (PL l)
  | [], [] => some ()
  | [a], [p] => a.decC p
  | a :: b :: l, p :: ps => match a.decC p, plDecC (b :: l) ps with
    | some x, some y => some (x, y)
    | _, _ => none
  | _, _ => none
def eqC : PV → PV → Bool
  | .fn f l, .fn g m => Nat.beq f g && eqCL l m
  | p, q => eqC0 p q
def splitA : List (Option PV) → List PV → Option (List PV)
  | [], [] => some []
  | none :: ps, p :: l => match splitA ps l with
    | some ds => some (p :: ds)
    | none => none
  | some c :: ps, p :: l => match eqC p c with
    | true => splitA ps l
    | false => none
  | _, _ => none
def joinA : List (Option PV) → List PV → List PV × List PV
  | [], l => ([], l)
  | none :: ps, p :: l => (p :: (joinA ps l).1, (joinA ps l).2)
  | none :: ps, [] => (.dead :: (joinA ps []).1, (joinA ps []).2)
  | some c :: ps, l => (c :: (joinA ps l).1, (joinA ps l).2)
def xC : PV → List PV
  | .agg cs => cs
  | p => [p]
def isAgg : PV → Bool
  | .agg _ => true
  | _ => false
def unX : Sh → List PV → Option PV
  | .st _ _, cs => some (.agg cs)
  | _, [p] => match isAgg p with
    | true => none
    | false => some p
  | _, _ => none
def unXs : List Sh → List (List PV) → Option (List PV)
  | [], [] => some []
  | sh :: l, cs :: xs => match unX sh cs, unXs l xs with
    | some p, some ps => some (p :: ps)
    | _, _ => none
  | _, _ => none
def Ro.l : Ro → List Sh
  | .one sh => [sh]
  | .tup l => l
def Ro.encL : (o : Ro) → o.V → List PV
  | .one sh, x => [sh.encC x]
  | .tup l, x => plEncC l x
def Ro.decL : (o : Ro) → List PV → Option o.V
  | .one sh, [p] => sh.decC p
  | .one _, _ => none
  | .tup l, ps => plDecC l ps
structure Orc where
  f : FuncId
  pat : List (Option PV)
  ins : List Sh
  nx : Nat
  out : Ro
  p : PL ins → Option out.V
def Orc.args (o : Orc) (v : PL o.ins) : List PV := (joinA o.pat (plEncC o.ins v)).1
def Orc.exts (o : Orc) (v : PL o.ins) : List (List PV) := (joinA o.pat (plEncC o.ins v)).2.map xC
def lnQ (nx : Nat) : Bool := Nat.ble 100 nx
def Orc.nr (o : Orc) : Nat := o.out.l.length - (nxB o.nx + nxL o.nx)
def Orc.res (o : Orc) (r : o.out.V) : List PV := (o.out.encL r).take o.nr
def gbE (ln : Bool) (es : List PV) : List PV := match ln with
  | true => es
  | false => []
def exE (ln : Bool) (es : List PV) : List (List PV) := match ln with
  | true => []
  | false => es.map xC
def Orc.gbs (o : Orc) (r : o.out.V) : List PV := gbE (lnQ o.nx) ((o.out.encL r).drop o.nr)
def Orc.back (o : Orc) (r : o.out.V) : List (List PV) := exE (lnQ o.nx) ((o.out.encL r).drop o.nr)
def Orc.ret (o : Orc) (r : o.out.V) : PV := gbIf (lnQ o.nx) (oneOr (o.res r)) (o.gbs r)
def sigL : List PV → List PV → Bool
  | [], [] => true
  | p :: ps, q :: qs => (isOwnR p == isOwnR q) && sigL ps qs
  | _, _ => false
def sigE : PV → PV → Bool
  | .agg cs, .agg ds => sigL cs ds
  | .agg _, _ => false
  | _, .agg _ => false
  | p, q => isOwnR p == isOwnR q
def sigA : List PV → List PV → Bool
  | [], [] => true
  | p :: ps, q :: qs => sigE p q && sigA ps qs
  | _, _ => false
def sigQ (nx : Nat) (xs bs : List PV) : Bool := match lnQ nx with
  | true => sigA xs bs
  | false => true
def orcK {β : Type} : List Orc → FuncId → List PV → List (List PV) → (PV → List (List PV) → Option β) → Option β
  | [], _, _, _, _ => none
  | o :: l, f, args, exts, K => match Nat.beq o.f f with
    | true => (match splitA o.pat args with
      | some ds => (match unXs (o.ins.drop ds.length) exts with
        | some xs => (match plDecC o.ins (ds ++ xs) with
          | some v => (match sigQ o.nx args (o.args v) with
          | true => bd (o.p v) fun r => K (o.ret r) (o.back r)
          | false => orcK l f args exts K)
          | none => orcK l f args exts K)
        | none => orcK l f args exts K)
      | none => orcK l f args exts K)
    | false => orcK l f args exts K
section
variable (C : List Orc)
def Eff.ev {α β : Type} : Eff α → Sto → (α → Sto → List Nat → List Nat → Option β) → Option β
  | .ret a, s, K => K a s [] []
  | .fail, _, _ => none
  | .rd id k, s, K => (k (s id)).ev s fun a s' r w => K a s' (id :: r) w
  | .wr id e k, s, K => k.ev (upd s id e) fun a s' r w => K a s' r (id :: w)
  | .guard p _ k, s, K => gd p (k.ev s K)
  | .opt o k, s, K => bd o fun x => (k x).ev s K
  | .call f args exts k, s, K => orcK C f args exts fun v ys => (k v ys).ev s K
  | .ite b x y, s, K => br b (x.ev s K) (y.ev s K)
def knO (kn : List (Nat × Bool)) : Operand → Option Bool
  | .const (.bool b) => some b
  | .tmp d => look d kn
  | _ => none
def knP (kn : List (Nat × Bool)) : Op → Option Bool
  | .move x => knO kn x
  | .assign x => knO kn x
  | .pick c x y => match knO kn c with
    | some true => knO kn x
    | some false => knO kn y
    | none => none
  | _ => none
def knS (kn : List (Nat × Bool)) (o : Oper) : List (Nat × Bool) := match o.dst, knP kn o.op with
  | some d, some b => (d, b) :: kn
  | _, _ => kn
def rev {β : Type} (ops : Array Oper) : List Oper → Nat → List (Nat × Bool) → Env → (List Ft → Env → Option β) → Option β
  | [], _, _, ε, K => K [] ε
  | o :: rest, i, kn, ε, K =>
    let step := fun (t : Nat → PV) (kn : List (Nat × Bool)) => (eop o t).ev C ε.s fun v s' r w => rev ops rest (i + 1) (knS kn o) ⟨putE o.dst v t, s'⟩ fun l ε' => K ((i, r, w) :: l) ε'
    let skip := fun (t : Nat → PV) (kn : List (Nat × Bool)) => rev ops rest (i + 1) kn ⟨putE o.dst .un t, ε.s⟩ fun l ε' => K ((i, [], []) :: l) ε'
    match o.guard with
    | none => step ε.t kn
    | some (g, want) => match (ops[g]?).bind (·.dst) with
      | none => skip ε.t kn
      | some d => match ε.t d with
        | .v (.bool b) => (match look d kn with
          | some _ => (match b, want with
            | true, true => step ε.t kn
            | false, false => step ε.t kn
            | true, false => skip ε.t kn
            | false, true => skip ε.t kn)
          | none => (match want with
            | true => br b (step (upd ε.t d (.v (.bool true))) ((d, true) :: kn)) (skip (upd ε.t d (.v (.bool false))) ((d, false) :: kn))
            | false => br b (skip (upd ε.t d (.v (.bool true))) ((d, true) :: kn)) (step (upd ε.t d (.v (.bool false))) ((d, false) :: kn))))
        | .un => skip ε.t kn
        | _ => none
def key : Code → Option Nat
  | .region id _ _ => some id
  | .seq a b => match key a with
    | some k => some k
    | none => key b
  | .cond _ a b => match key a with
    | some k => some k
    | none => key b
  | .block _ c => key c
  | .loop c => key c
  | _ => none
def lookO {α : Type} (k : Option Nat) (l : List (Nat × α)) : Option α := match k with
  | some k => look k l
  | none => none
structure Tab where
  r : List (Nat × Shape)
  s : List (Nat × Bool × Shape)
  l : List (Nat × Bool × Shape × Nat × Shape)
def nilCmp (o : Oper) : Option (Operand × Nat) := match o.op, o.guard, o.dst with
  | .binOp .eql t x (.const (.slice none 0 0)) _, none, some d => match slK t with
    | some _ => some (x, d)
    | none => none
  | _, _, _ => none
def spl : List Oper → Option (List Oper × Oper)
  | [] => none
  | [o] => some ([], o)
  | o :: o2 :: l => match spl (o2 :: l) with
    | some (i, z) => some (o :: i, z)
    | none => none
def nilLast (draw : Bool) (l : List Oper) : Option (List Oper × Operand × Nat) := match draw, spl l with
  | false, some (i, o) => match nilCmp o with
    | some (x, d) => some (i, x, d)
    | none => none
  | _, _ => none
variable (T : Tab) (nx fuel : Nat)
noncomputable def cev : Code → {β : Type} → Env → (Exit → Env → Option β) → Option β
  | .skip, _, ε, K => K .normal ε
  | .label _, _, ε, K => K .normal ε
  | .exit id, _, ε, K => K (.exit id) ε
  | .seq x y, β, ε, K => match lookO (key y) T.s with
    | none => cev x ε fun e ε' => match e with
      | .normal => cev y ε' K
      | e => K e ε'
    | some (false, sh) => bd (cev x (β := EL sh.es) ε fun e ε' => match e with
      | .normal => sh.dec nx ε'
      | _ => none) fun v => cev y (sh.enc v) K
    | some (true, sh) => jn (cev x (β := EL sh.es ⊕ β) ε fun e ε' => match e with
      | .normal => (sh.dec nx ε').map .inl
      | e => (K e ε').map .inr) fun v => cev y (sh.enc v) K
  | .cond c x y, _, ε, K => match opd ε.t c with
    | .v (.bool b) => br b (cev x ε K) (cev y ε K)
    | _ => none
  | .block id c, _, ε, K => cev c ε fun e ε' => match e with
    | .exit id' => (match Nat.beq id' id with
      | true => K .normal ε'
      | false => K (.exit id') ε')
    | e => K e ε'
  | .loop c, β, ε, K => match lookO (key c) T.l with
    | none => none
    | some (false, si, id, so) => (match si.dec nx ε with
      | none => none
      | some v => bd (loopF (fun v => cev c (β := EL si.es ⊕ EL so.es) (si.enc v) fun e ε' => match e with
        | .normal => (si.dec nx ε').map .inl
        | .exit id' => (match Nat.beq id' id with
          | true => (so.dec nx ε').map .inr
          | false => none)
        | _ => none) fuel v) fun o => K (.exit id) (so.enc o))
    | some (true, si, id, so) => (match si.dec nx ε with
      | none => none
      | some v => jn (loopF (fun v => cev c (β := EL si.es ⊕ (EL so.es ⊕ β)) (si.enc v) fun e ε' => match e with
        | .normal => (si.dec nx ε').map .inl
        | .exit id' => (match Nat.beq id' id with
          | true => (so.dec nx ε').map fun o => .inr (.inl o)
          | false => (K (.exit id') ε').map fun r => .inr (.inr r))
        | e => (K e ε').map fun r => .inr (.inr r)) fuel v) fun o => K (.exit id) (so.enc o))
  | .region id ops draw, _, ε, K => match nilLast draw ops.toList with
   | some (i, x, d) => rev C ops i 0 [] ε fun _ ε' => (match opd ε'.t x with
      | .row _ k l => cmpN l (K .normal ⟨putE (some d) (.v (.bool true)) ε'.t, ε'.s⟩) (K .normal ⟨putE (some d) (.v (.bool false)) ε'.t, ε'.s⟩)
      | .nil => K .normal ⟨putE (some d) (.v (.bool true)) ε'.t, ε'.s⟩
      | _ => none)
   | none => match look id T.r with
    | none => rev C ops ops.toList 0 [] ε fun ft ε' => match draw with
      | false => K .normal ε'
      | true => (match orderOk ops ft with
        | true => K .normal ε'
        | false => none)
    | some sh => bd (rev (β := EL sh.es) C ops ops.toList 0 [] ε fun ft ε' => match draw with
      | false => sh.dec nx ε'
      | true => (match orderOk ops ft with
        | true => sh.dec nx ε'
        | false => none)) fun v => K .normal (sh.enc v)
  | .ret, _, ε, K => K .ret ε
  | _, _, _, _ => none
def unR : List Sh → Nat → List PV → Option (List PV)
  | [], _, [] => some []
  | _ :: l, n + 1, q :: qs => match unR l n qs with
    | some r => some (q :: r)
    | none => none
  | sh :: l, 0, q :: qs => match q with
    | .agg cs => (match unX sh cs, unR l 0 qs with
      | some p, some r => some (p :: r)
      | _, _ => none)
    | _ => none
  | _, _, _ => none
def unE (ln : Bool) (l : List Sh) : List PV → Option (List PV)
  | .agg bs :: qs => (match ln with
    | true => (match qs with
      | [] => (match bs.any isAgg with
        | false => some bs
        | true => none)
      | _ :: _ => none)
    | false => (match bs with
      | [] => unR l 0 qs
      | _ :: _ => none))
  | _ => none
def unQ (ln : Bool) : List Sh → Nat → List PV → Option (List PV)
  | l, 0, qs => unE ln l qs
  | _ :: l, n + 1, q :: qs => (match unQ ln l n qs with
    | some r => some (q :: r)
    | none => none)
  | _, _, _ => none
def outR (ε : Env) : List ResultVar → List Nat
  | [] => []
  | .tmp t :: l => refsA [ε.t t] ++ outR ε l
  | .cell p _ :: l => (match ε.t p with
    | .ptr id _ _ _ => refsL (boxC ε id)
    | _ => []) ++ outR ε l
def outB (ε : Env) : Nat → List Nat
  | 0 => []
  | n + 1 => outB ε n ++ refsL (boxC ε n)
def lents : Nat → List Nat
  | 0 => []
  | n + 1 => lents n ++ [50 + n]
def outE (nx : Nat) (rs : List ResultVar) (ε : Env) : Env := unfEnv (outR ε rs ++ (outB ε (nxB nx) ++ lents (nxL nx))) ε
def finE (nt nx : Nat) (rs : List ResultVar) (nxe : Nat) (ls : List PV) (out : Ro) (ε : Env) : Option out.V := match resL nt ε rs with
  | none => none
  | some vs => match extC ε 0 nxe with
    | none => none
    | some cs => match close1LK ε.s (vs ++ .agg ls :: cs.map .agg) with
      | none => none
      | some (qs, A, B) => match nodN A && disjL A B with
        | true => (match unQ (lnQ nx) out.l (out.l.length - (nxB nx + nxL nx)) qs with
          | some rs => out.decL rs
          | none => none)
        | false => none
noncomputable def fev (fn : Func) (pat : List (Option PV)) (ins : List Sh) (out : Ro) (v : PL ins) : Option out.V := match fn.body with
  | none => none
  | some c => cev C T nx fuel c (initX (lnQ nx) (joinA pat (plEncC ins v)).1 ((joinA pat (plEncC ins v)).2.map xC)) fun e ε => match e with
    | .goto _ => none
    | .exit _ => none
    | .panic _ => none
    | .outgrown => none
    | _ => finE fn.ntmps nx fn.results.toList ((joinA pat (plEncC ins v)).2.map xC).length (lentL (lnQ nx) (joinA pat (plEncC ins v)).1) out (outE nx fn.results.toList ε)
end
end Go.Px
namespace Go.Px
open Go.RowKit
theorem leafC_wk {own : Option Nat} {p : PV} {x : LeafI} {lf : Leaf} (h : leafC own p = some x) (hi : InL x lf) : wkS p (cellC own lf) := by
  unfold leafC at h
  split at h
  · cases own with
    | some id => cases h
    | none => cases h; exact .inr (.inr (.inr (.inl ⟨_, lf, rfl, rfl, hi⟩)))
  · cases h; obtain ⟨k, rfl⟩ := hi
    cases own with
    | some id =>
      show wkS .nil (ownR id k [])
      unfold ownR
      split
      · exact .inr (.inr (.inr (.inr (.nil k))))
      · exact .inr (.inl ⟨rfl, true, k, rfl⟩)
    | none => exact .inr (.inl ⟨rfl, false, k, rfl⟩)
  · rename_i k l
    split at h
    case h_2 => cases h
    rename_i hk
    cases h; have e : lf = _ := hi; subst e
    cases own with
    | some id =>
      show wkS (.row true k l) (ownR id k l)
      unfold ownR
      simp only [ownOk] at hk
      split
      · rename_i hd
        rw [hd] at hk
        exact .inr (.inr (.inr (.inr (.flat k l hk))))
      · exact .inl rfl
    | none => exact .inr (.inr (.inl ⟨_, _, rfl, rfl⟩))
  · rename_i k l
    cases h; have e : lf = _ := hi; subst e
    cases own with
    | some id =>
      show wkS (.drow k l) (ownR id k l)
      unfold ownR
      split
      · exact .inl rfl
      · exact .inr (.inr (.inr (.inr (.own k l))))
    | none => exact .inr (.inr (.inr (.inr (.row k l))))
  · cases own with
    | some id => cases h
    | none => cases h; have e : lf = _ := hi; subst e; exact .inl rfl
  · cases h
theorem leafsC_wk {js : List (Nat × Nat)} : ∀ {ps : List PV} {ls : List LeafI} {lfs : List Leaf} {j : Nat}, leafsC js j ps = some ls → All2 InL ls lfs → All2 wkS ps (stoR js j lfs)
  | [], ls, lfs, j, h, hi => by
    cases h
    cases lfs with
    | nil => trivial
    | cons _ _ => exact hi.elim
  | p :: ps, ls, lfs, j, h, hi => by
    unfold leafsC at h
    split at h
    · rename_i a l h1 h2
      cases h
      cases lfs with
      | nil => exact hi.elim
      | cons lf lfs =>
        exact ⟨leafC_wk h1 hi.1, leafsC_wk h2 hi.2⟩
    · cases h
theorem eqC0_spec {p q : PV} (h : eqC0 p q = true) : p = q := by
  unfold eqC0 at h
  split at h
  · simp only [Bool.and_eq_true] at h
    obtain ⟨h1, h2, h3, h4⟩ := h
    rw [Nat.eq_of_beq_eq_true h1, Nat.eq_of_beq_eq_true h2, Nat.eq_of_beq_eq_true h3, Nat.eq_of_beq_eq_true h4]
  · rfl
  · rfl
  · cases h
theorem eqCL_spec : ∀ {l m : List PV}, eqCL l m = true → l = m
  | [], [], _ => rfl
  | p :: ps, q :: qs, h => by
    unfold eqCL at h
    rw [Bool.and_eq_true] at h
    rw [eqC0_spec h.1, eqCL_spec h.2]
  | [], _ :: _, h => by cases h
  | _ :: _, [], h => by cases h
theorem Sh.decC_wk : ∀ {sh : Sh} {p : PV} {x : sh.V}, sh.decC p = some x → wk1 p (sh.encC x) := by
  intro sh p x h
  unfold Sh.decC at h
  split at h
  · rename_i k k' n
    split at h
    · rename_i e; subst e; cases h; exact .inl (.inl rfl)
    · cases h
  · cases h; exact .inl (.inl rfl)
  · cases h; exact .inl (.inl rfl)
  · split at h
    · rename_i y hy
      exact .inl (leafC_wk hy (LeafI.list_spec h))
    · cases h
  · split at h
    · rename_i y hy
      exact .inl (leafC_wk hy (LeafI.list_spec h))
    · cases h
  · split at h
    · rename_i l hl
      exact .inr ⟨_, _, rfl, rfl, leafsC_wk hl (ofLeaves_spec h)⟩
    · cases h
  · split at h
    · rename_i l e1 e2
      cases h
      obtain ⟨rfl, rfl⟩ := castL_some e2
      obtain rfl := Nat.eq_of_beq_eq_true e1
      exact .inl (.inl rfl)
    · cases h
  · rename_i f caps f' ps
    split at h
    · rename_i e
      cases h
      rw [Bool.and_eq_true] at e
      obtain rfl := Nat.eq_of_beq_eq_true e.1
      obtain rfl := eqCL_spec e.2
      exact .inl (.inl rfl)
    · cases h
  · cases h
theorem plDecC_wk : ∀ {l : List Sh} {ps : List PV} {x : PL l}, plDecC l ps = some x → All2 wk1 ps (plEncC l x) := by
  intro l
  induction l with
  | nil =>
    intro ps x h
    cases ps with
    | nil => trivial
    | cons _ _ => cases h
  | cons a l ih =>
    intro ps x h
    cases l with
    | nil =>
      match ps, h with
      | [p], h => exact ⟨Sh.decC_wk (sh := a) h, trivial⟩
      | [], h => cases h
      | _ :: _ :: _, h => cases h
    | cons b l =>
      match ps, h with
      | p :: ps, h =>
        unfold plDecC at h
        split at h
        · rename_i x1 y1 h1 h2
          cases h
          exact ⟨Sh.decC_wk h1, ih h2⟩
        · cases h
      | [], h => cases h
theorem Ro.decL_wk {o : Ro} {qs : List PV} {r : o.V} (h : o.decL qs = some r) : All2 wk1 qs (o.encL r) := by
  unfold Ro.decL at h
  split at h
  · exact ⟨Sh.decC_wk h, trivial⟩
  · cases h
  · exact plDecC_wk h
theorem eqC_spec {p q : PV} (h : eqC p q = true) : p = q := by
  unfold eqC at h
  split at h
  · rw [Bool.and_eq_true] at h
    rw [Nat.eq_of_beq_eq_true h.1, eqCL_spec h.2]
  · exact eqC0_spec h
theorem wk1_refl (p : PV) : wk1 p p := .inl (.inl rfl)
theorem joinA_wk : ∀ {pat : List (Option PV)} {args ds zs es : List PV}, splitA pat args = some ds → All2 wk1 (ds ++ zs) es → All2 wk1 args (joinA pat es).1 ∧ All2 wk1 zs (joinA pat es).2
  | [], [], ds, zs, es, h, hw => by cases h; exact ⟨trivial, hw⟩
  | [], _ :: _, _, _, _, h, _ => by cases h
  | none :: ps, [], _, _, _, h, _ => by cases h
  | some c :: ps, [], _, _, _, h, _ => by cases h
  | none :: ps, p :: l, ds, zs, es, h, hw => by
    unfold splitA at h
    split at h
    · rename_i ds' h1
      cases h
      cases es with
      | nil => exact hw.elim
      | cons e es =>
        have := joinA_wk h1 hw.2
        exact ⟨⟨hw.1, this.1⟩, this.2⟩
    · cases h
  | some c :: ps, p :: l, ds, zs, es, h, hw => by
    unfold splitA at h
    split at h
    · rename_i hc
      obtain rfl := eqC_spec hc
      have := joinA_wk h hw
      have e : joinA (some p :: ps) es = (p :: (joinA ps es).1, (joinA ps es).2) := by cases es <;> rfl
      rw [e]
      exact ⟨⟨wk1_refl _, this.1⟩, this.2⟩
    · cases h
theorem isAgg_no {p : PV} (h : isAgg p = false) : ∀ cs, p ≠ .agg cs := fun cs e => by rw [e] at h; cases h
theorem wk1_na {p q : PV} (h : isAgg p = false) (hw : wk1 p q) : wkS p q := by
  rcases hw with h' | ⟨cs, ds, e, _, _⟩
  · exact h'
  · exact absurd e (isAgg_no h cs)
theorem wkS_refl (p : PV) : wkS p p := .inl rfl
theorem All2_refl {R : PV → PV → Prop} (h : ∀ p, R p p) : ∀ {l : List PV}, All2 R l l
  | [] => trivial
  | p :: l => ⟨h p, All2_refl h⟩
theorem wkS_agg {cs : List PV} {q : PV} (h : wkS (.agg cs) q) : q = .agg cs := by
  rcases h with h | ⟨h, _⟩ | ⟨_, _, h, _⟩ | ⟨_, _, h, _⟩ | h
  · exact h.symm
  · cases h
  · cases h
  · cases h
  · cases h
theorem wk1_agg {cs : List PV} {q : PV} (h : wk1 (.agg cs) q) : ∃ ds, q = .agg ds ∧ All2 wkS cs ds := by
  rcases h with h | ⟨cs', ds, e, h, hw⟩
  · exact ⟨cs, wkS_agg h, All2_refl wkS_refl⟩
  · cases e; exact ⟨ds, h, hw⟩
theorem wkS_na {p q : PV} (h : isAgg p = false) (hw : wkS p q) : isAgg q = false := by
  rcases hw with h' | ⟨_, _, _, h'⟩ | ⟨_, _, _, h'⟩ | ⟨_, lf, _, h', _⟩ | h'
  · rw [← h']; exact h
  · rw [h']; rfl
  · rw [h']; rfl
  · rw [h']; cases lf <;> rfl
  · cases h' <;> rfl
theorem xC_na {q : PV} (h : isAgg q = false) : xC q = [q] := by
  cases q <;> first | rfl | cases h
theorem unX_wk {sh : Sh} {cs : List PV} {p q : PV} (h : unX sh cs = some p) (hw : wk1 p q) : All2 wkS cs (xC q) := by
  unfold unX at h
  split at h
  · cases h
    obtain ⟨ds, rfl, hd⟩ := wk1_agg hw
    exact hd
  · split at h
    · cases h
    · rename_i hna
      cases h
      have hna : isAgg p = false := by simpa using hna
      have hs := wk1_na hna hw
      rw [xC_na (wkS_na hna hs)]
      exact ⟨hs, trivial⟩
  · cases h
theorem unXs_wk : ∀ {shs : List Sh} {xs : List (List PV)} {ps qs : List PV}, unXs shs xs = some ps → All2 wk1 ps qs → All2 (All2 wkS) xs (qs.map xC)
  | [], [], ps, qs, h, hw => by
    cases h
    cases qs with
    | nil => trivial
    | cons _ _ => exact hw.elim
  | [], _ :: _, _, _, h, _ => by cases h
  | _ :: _, [], _, _, h, _ => by cases h
  | sh :: l, cs :: xs, ps, qs, h, hw => by
    unfold unXs at h
    split at h
    · rename_i p ps' h1 h2
      cases h
      cases qs with
      | nil => exact hw.elim
      | cons q qs => exact ⟨unX_wk h1 hw.1, unXs_wk h2 hw.2⟩
    · cases h
theorem unR_wk : ∀ {shs : List Sh} {n : Nat} {qs rs es : List PV}, unR shs n qs = some rs → All2 wk1 rs es → All2 wk1 qs (es.take n ++ ((es.drop n).map xC).map .agg)
  | [], n, [], rs, es, h, hw => by
    cases h
    cases es with
    | nil => simp; trivial
    | cons _ _ => exact hw.elim
  | [], _, _ :: _, _, _, h, _ => by cases h
  | _ :: _, 0, [], _, _, h, _ => by cases h
  | _ :: _, _ + 1, [], _, _, h, _ => by cases h
  | sh :: l, n + 1, q :: qs, rs, es, h, hw => by
    unfold unR at h
    split at h
    · rename_i r h1
      cases h
      cases es with
      | nil => exact hw.elim
      | cons e es => exact ⟨hw.1, unR_wk h1 hw.2⟩
    · cases h
  | sh :: l, 0, q :: qs, rs, es, h, hw => by
    unfold unR at h
    split at h
    · rename_i cs
      split at h
      · rename_i p r h1 h2
        cases h
        cases es with
        | nil => exact hw.elim
        | cons e es =>
          have ih := unR_wk h2 hw.2
          exact ⟨.inr ⟨_, _, rfl, rfl, unX_wk h1 hw.1⟩, ih⟩
      · cases h
    · cases h
theorem unR_wk0 {shs : List Sh} {qs rs es : List PV} (h : unR shs 0 qs = some rs) (hw : All2 wk1 rs es) : All2 wk1 qs ((es.map xC).map .agg) := unR_wk (n := 0) h hw
theorem wk1_aggL {bs es : List PV} (h : bs.any isAgg = false) (hw : All2 wk1 bs es) : All2 wkS bs es := by
  induction bs generalizing es with
  | nil => cases es with
    | nil => trivial
    | cons _ _ => exact hw.elim
  | cons b bs ih => cases es with
    | nil => exact hw.elim
    | cons e es =>
      rw [List.any_cons, Bool.or_eq_false_iff] at h
      exact ⟨wk1_na h.1 hw.1, ih h.2 hw.2⟩
theorem unE_wk {ln : Bool} {l : List Sh} {qs rs es : List PV} (h : unE ln l qs = some rs) (hw : All2 wk1 rs es) : All2 wk1 qs (.agg (gbE ln es) :: (exE ln es).map .agg) := by
  match qs, h with
  | .agg bs :: qs1, h =>
    cases ln with
    | true =>
      match qs1, h with
      | [], h =>
        have h : (match bs.any isAgg with | false => some bs | true => none) = some rs := h
        cases hb : bs.any isAgg with
        | true => rw [hb] at h; cases h
        | false =>
          rw [hb] at h
          cases h
          exact ⟨.inr ⟨_, _, rfl, rfl, wk1_aggL hb hw⟩, trivial⟩
      | _ :: _, h => cases h
    | false =>
      match bs, h with
      | [], h => exact ⟨.inr ⟨[], [], rfl, rfl, trivial⟩, unR_wk0 h hw⟩
      | _ :: _, h => cases h
theorem unQ_wk {ln : Bool} : ∀ {shs : List Sh} {n : Nat} {qs rs es : List PV}, unQ ln shs n qs = some rs → All2 wk1 rs es → All2 wk1 qs (es.take n ++ .agg (gbE ln (es.drop n)) :: (exE ln (es.drop n)).map .agg)
  | shs, 0, qs, rs, es, h, hw => by
    have h : unE ln shs qs = some rs := by cases shs <;> exact h
    exact unE_wk h hw
  | [], n + 1, qs, rs, es, h, hw => by cases h
  | _ :: _, n + 1, [], rs, es, h, hw => by cases h
  | _ :: l, n + 1, q :: qs, rs, es, h, hw => by
    unfold unQ at h
    split at h
    · rename_i r h1
      cases h
      cases es with
      | nil => exact hw.elim
      | cons e es => exact ⟨hw.1, unQ_wk h1 hw.2⟩
    · cases h
theorem sigL_spec : ∀ {cs ds : List PV}, sigL cs ds = true → cs.map isOwnR = ds.map isOwnR
  | [], [], _ => rfl
  | c :: cs, d :: ds, h => by
    have h : ((isOwnR c == isOwnR d) && sigL cs ds) = true := h
    rw [Bool.and_eq_true] at h
    rw [List.map_cons, List.map_cons, sigL_spec h.2, eq_of_beq h.1]
  | [], _ :: _, h => by cases h
  | _ :: _, [], h => by cases h
theorem sigE_spec {p q : PV} (h : sigE p q = true) : sig1 p = sig1 q := by
  by_cases ha : ∃ cs, p = .agg cs
  · obtain ⟨cs, rfl⟩ := ha
    by_cases hb : ∃ ds, q = .agg ds
    · obtain ⟨ds, rfl⟩ := hb
      show (true, _) = (true, _)
      rw [sigL_spec h]
    · exfalso
      cases q <;> first | (cases h; done) | exact hb ⟨_, rfl⟩
  · have e2 : sig1 p = (false, [isOwnR p]) := by cases p <;> first | rfl | exact absurd ⟨_, rfl⟩ ha
    have hb : ¬ ∃ ds, q = .agg ds := by
      rintro ⟨ds, rfl⟩
      cases p <;> first | (cases h; done) | exact ha ⟨_, rfl⟩
    have e3 : sig1 q = (false, [isOwnR q]) := by cases q <;> first | rfl | exact absurd ⟨_, rfl⟩ hb
    have h : (isOwnR p == isOwnR q) = true := by
      unfold sigE at h
      split at h
      · exact absurd ⟨_, rfl⟩ ha
      · exact absurd ⟨_, rfl⟩ ha
      · exact absurd ⟨_, rfl⟩ hb
      · exact h
    rw [e2, e3, eq_of_beq h]
theorem sigA_spec : ∀ {cs ds : List PV}, sigA cs ds = true → cs.map sig1 = ds.map sig1
  | [], [], _ => rfl
  | c :: cs, d :: ds, h => by
    have h : (sigE c d && sigA cs ds) = true := h
    rw [Bool.and_eq_true] at h
    rw [List.map_cons, List.map_cons, sigA_spec h.2, sigE_spec h.1]
  | [], _ :: _, h => by cases h
  | _ :: _, [], h => by cases h
theorem oneOr_gb {l : List PV} (h : ∀ p ∈ l, isGb p = false) : isGb (oneOr l) = false := by
  match l, h with
  | [], _ => rfl
  | [p], h => exact h p (by simp)
  | _ :: _ :: _, _ => rfl
theorem encC_gb {sh : Sh} {x : sh.V} : isGb (sh.encC x) = false := by
  cases sh <;> try rfl
  case own k id => show isGb (ownR id k x) = false; unfold ownR; split <;> rfl
theorem plEncC_gb : ∀ {l : List Sh} {x : PL l}, ∀ p ∈ plEncC l x, isGb p = false := by
  intro l
  induction l with
  | nil => intro x p hp; cases hp
  | cons a l ih =>
    intro x p hp
    cases l with
    | nil => rw [List.mem_singleton.1 hp]; exact encC_gb
    | cons b l =>
      rcases List.mem_cons.1 hp with rfl | hp
      · exact encC_gb
      · exact ih p hp
theorem Orc.ret_gb {o : Orc} {r : o.out.V} (h : lnQ o.nx = false) : isGb (o.ret r) = false := by
  unfold Orc.ret
  rw [h]
  refine oneOr_gb fun p hp => ?_
  have hp := List.mem_of_mem_take hp
  obtain ⟨f, pat, ins, nx, out, pf⟩ := o
  cases out with
  | one sh => rw [List.mem_singleton.1 hp]; exact encC_gb
  | tup l => exact plEncC_gb p hp
theorem sigQ_spec {o : Orc} {r : o.out.V} {avs bs : List PV} (h : sigQ o.nx avs bs = true) : isGb (o.ret r) = false ∨ avs.map sig1 = bs.map sig1 := by
  unfold sigQ at h
  split at h
  · exact .inr (sigA_spec h)
  · rename_i hl; exact .inl (Orc.ret_gb hl)
section
variable {P : Program} {G : Nat} {E : World → Prop}
def Ctr (P : Program) (G : Nat) (E : World → Prop) (o : Orc) : Prop := ∀ v r, o.p v = some r → PCalls P G E o.f (o.args v) (o.exts v) (o.ret r) (o.back r)
theorem bd_some {α β : Type} {o : Option α} {f : α → Option β} {r : β} (h : bd o f = some r) : ∃ a, o = some a ∧ f a = some r := Option.bind_eq_some_iff.1 h
theorem orcK_sound {β : Type} {f : FuncId} {args : List PV} {exts : List (List PV)} {K : PV → List (List PV) → Option β} {r : β} : ∀ {C : List Orc}, (∀ o ∈ C, Ctr P G E o) → orcK C f args exts K = some r → ∃ v ys, PCalls P G E f args exts v ys ∧ K v ys = some r
  | [], _, h => by cases h
  | o :: C, hC, h => by
    have ih := orcK_sound (f := f) (args := args) (exts := exts) (r := r) (C := C) (K := K) fun o ho => hC o (List.mem_cons_of_mem _ ho)
    unfold orcK at h
    split at h
    · rename_i hf
      split at h
      · rename_i ds hds
        split at h
        · rename_i xs hxs
          split at h
          · rename_i v hv
            split at h
            · rename_i hsig
              obtain ⟨x, h3, h4⟩ := bd_some h
              obtain rfl := Nat.eq_of_beq_eq_true hf
              obtain ⟨w1, w2⟩ := joinA_wk hds (plDecC_wk hv)
              exact ⟨_, _, (hC o (List.mem_cons_self ..) v x h3).argsX w1 (unXs_wk hxs w2) (sigQ_spec hsig), h4⟩
            · exact ih h
          · exact ih h
        · exact ih h
      · exact ih h
    · exact ih h
theorem br_some {β : Type} {b : Bool} {x y : Option β} {r : β} (h : br b x y = some r) : (b = true ∧ x = some r) ∨ (b = false ∧ y = some r) := by
  unfold br at h
  cases b <;> simp at h
  · exact .inr ⟨rfl, h⟩
  · exact .inl ⟨rfl, h⟩
theorem cmpN_some {α β : Type} {l : List α} {x y : Option β} {r : β} (h : cmpN l x y = some r) : y = some r ∧ (l = [] → x = some r) := by
  unfold cmpN at h
  rcases br_some h with ⟨h1, h2⟩ | ⟨h1, h2⟩
  · split at h2
    · rename_i e; exact ⟨h2, fun _ => e.trans h2⟩
    · cases h2
  · exact ⟨h2, fun e => by subst e; cases h1⟩
theorem spl_spec : ∀ {l i : List Oper} {o : Oper}, spl l = some (i, o) → l = i ++ [o]
  | [], _, _, h => by cases h
  | [o], _, _, h => by cases h; rfl
  | o :: o2 :: l, i, z, h => by
    unfold spl at h
    split at h
    · rename_i i' z' h1; cases h; rw [spl_spec h1]; rfl
    · cases h
theorem nilCmp_spec {o : Oper} {x : Operand} {d : Nat} (h : nilCmp o = some (x, d)) : ∃ t t' k, o.op = .binOp .eql t x (.const (.slice none 0 0)) t' ∧ o.guard = none ∧ o.dst = some d ∧ slK t = some k := by
  unfold nilCmp at h
  split at h
  · rename_i t x' t' d' h1 h2 h3
    split at h
    · rename_i k hk; cases h; exact ⟨t, t', k, h1, h2, h3, hk⟩
    · cases h
  · cases h
theorem nilLast_spec {draw : Bool} {l i : List Oper} {x : Operand} {d : Nat} (h : nilLast draw l = some (i, x, d)) : draw = false ∧ ∃ o t t' k, l = i ++ [o] ∧ o.op = .binOp .eql t x (.const (.slice none 0 0)) t' ∧ o.guard = none ∧ o.dst = some d ∧ slK t = some k := by
  unfold nilLast at h
  split at h
  · rename_i i' o hs
    split at h
    · rename_i x' d' hc
      cases h
      obtain ⟨t, t', k, q⟩ := nilCmp_spec hc
      exact ⟨rfl, o, t, t', k, spl_spec hs, q⟩
    · cases h
  · cases h
theorem jn_some {V β : Type} {o : Option (V ⊕ β)} {f : V → Option β} {r : β} (h : jn o f = some r) : (∃ v, o = some (.inl v) ∧ f v = some r) ∨ o = some (.inr r) := by
  unfold jn at h
  obtain ⟨s, h1, h2⟩ := bd_some h
  cases s with
  | inl v => exact .inl ⟨v, h1, h2⟩
  | inr x => cases h2; exact .inr h1
variable {C : List Orc}
theorem Eff.ev_sound {α β : Type} (hC : ∀ o ∈ C, Ctr P G E o) : ∀ (e : Eff α) (s : Sto) (K : α → Sto → List Nat → List Nat → Option β) (res : β), e.ev C s K = some res → ∃ a s' r w, e.Run (PCalls P G E) s a s' r w ∧ K a s' r w = some res
  | .ret a, s, K, res, h => ⟨a, s, [], [], ⟨rfl, rfl, rfl, rfl⟩, h⟩
  | .fail, _, _, _, h => by cases h
  | .rd id k, s, K, res, h => by
    obtain ⟨a, s', r, w, h1, h2⟩ := Eff.ev_sound hC (k (s id)) s _ res h
    exact ⟨a, s', id :: r, w, ⟨r, rfl, h1⟩, h2⟩
  | .wr id e k, s, K, res, h => by
    obtain ⟨a, s', r, w, h1, h2⟩ := Eff.ev_sound hC k (upd s id e) _ res h
    exact ⟨a, s', r, id :: w, ⟨w, rfl, h1⟩, h2⟩
  | .guard p d k, s, K, res, h => by
    obtain ⟨hp, h⟩ := gd_some h
    obtain ⟨a, s', r, w, h1, h2⟩ := Eff.ev_sound hC k s _ res h
    exact ⟨a, s', r, w, ⟨hp, h1⟩, h2⟩
  | .opt o k, s, K, res, h => by
    obtain ⟨x, hx, h⟩ := bd_some h
    obtain ⟨a, s', r, w, h1, h2⟩ := Eff.ev_sound hC (k x) s _ res h
    exact ⟨a, s', r, w, ⟨x, hx, h1⟩, h2⟩
  | .call f args exts k, s, K, res, h => by
    obtain ⟨v, ys, hv, h⟩ := orcK_sound hC h
    obtain ⟨a, s', r, w, h1, h2⟩ := Eff.ev_sound hC (k v ys) s _ res h
    exact ⟨a, s', r, w, ⟨v, ys, hv, h1⟩, h2⟩
  | .ite b x y, s, K, res, h => by
    rcases br_some h with ⟨hb, h⟩ | ⟨hb, h⟩
    · obtain ⟨a, s', r, w, h1, h2⟩ := Eff.ev_sound hC x s _ res h
      exact ⟨a, s', r, w, .inl ⟨hb, h1⟩, h2⟩
    · obtain ⟨a, s', r, w, h1, h2⟩ := Eff.ev_sound hC y s _ res h
      exact ⟨a, s', r, w, .inr ⟨hb, h1⟩, h2⟩
theorem upd_id {α : Type} {f : Nat → α} {i : Nat} {a : α} (h : f i = a) : upd f i a = f := by
  funext j
  unfold upd
  split
  · rename_i e; rw [e, h]
  · rfl
theorem rev_sound {β : Type} {ops : Array Oper} (hC : ∀ o ∈ C, Ctr P G E o) : ∀ (rest : List Oper) (i : Nat) (kn : List (Nat × Bool)) (ε : Env) (K : List Ft → Env → Option β) (res : β), (∀ j o, rest[j]? = some o → ops[i + j]? = some o) → rev C ops rest i kn ε K = some res →
    ∃ l ε', ORun (PCalls P G E) eop ops l ε ε' ∧ l.map (·.1) = List.range' i rest.length ∧ K l ε' = some res
  | [], i, kn, ε, K, res, _, h => ⟨[], ε, .nil ε, rfl, h⟩
  | o :: rest, i, kn, ε, K, res, hi, h => by
    have h0 : ops[i]? = some o := hi 0 o rfl
    have hi' : ∀ j o', rest[j]? = some o' → ops[i + 1 + j]? = some o' := fun j o' hj => by have := hi (j + 1) o' (by simpa using hj); rw [show i + 1 + j = i + (j + 1) by omega]; exact this
    have step : ∀ t kn', t = ε.t → wantedP ops o ε.t = some true → ((eop o t).ev C ε.s fun v s' r w => rev C ops rest (i + 1) kn' ⟨putE o.dst v t, s'⟩ fun l ε' => K ((i, r, w) :: l) ε') = some res →
        ∃ l ε', ORun (PCalls P G E) eop ops l ε ε' ∧ l.map (·.1) = List.range' i (o :: rest).length ∧ K l ε' = some res := by
      rintro t kn' rfl hw h
      obtain ⟨v, s', r, w, h1, h2⟩ := Eff.ev_sound hC _ _ _ _ h
      obtain ⟨l, ε', h3, h4, h5⟩ := rev_sound hC rest (i + 1) _ _ _ res hi' h2
      exact ⟨_, ε', .cons h0 (.inl ⟨hw, v, s', h1, rfl⟩) h3, by simp [h4, List.range'_succ], h5⟩
    have skip : ∀ t kn', t = ε.t → wantedP ops o ε.t = some false → (rev C ops rest (i + 1) kn' ⟨putE o.dst .un t, ε.s⟩ fun l ε' => K ((i, [], []) :: l) ε') = some res →
        ∃ l ε', ORun (PCalls P G E) eop ops l ε ε' ∧ l.map (·.1) = List.range' i (o :: rest).length ∧ K l ε' = some res := by
      rintro t kn' rfl hw h
      obtain ⟨l, ε', h3, h4, h5⟩ := rev_sound hC rest (i + 1) _ _ _ res hi' h
      exact ⟨_, ε', .cons h0 (.inr ⟨hw, rfl, rfl, rfl⟩) h3, by simp [h4, List.range'_succ], h5⟩
    unfold rev at h
    simp only at h
    split at h
    · rename_i hg
      exact step _ _ rfl (by unfold wantedP; rw [hg]) h
    · rename_i g want hg
      split at h
      · rename_i hd
        exact skip _ _ rfl (by unfold wantedP; rw [hg]; simp only [hd]) h
      · rename_i d hd
        split at h
        · rename_i b hb
          have hw : wantedP ops o ε.t = some (b == want) := by unfold wantedP; rw [hg]; simp only [hd, hb]
          split at h
          · split at h
            · exact step _ _ rfl hw h
            · exact step _ _ rfl hw h
            · exact skip _ _ rfl hw h
            · exact skip _ _ rfl hw h
          · cases want with
            | true =>
              rcases br_some h with ⟨hbt, h⟩ | ⟨hbt, h⟩ <;> subst hbt
              · exact step _ _ (upd_id hb) hw h
              · exact skip _ _ (upd_id hb) hw h
            | false =>
              rcases br_some h with ⟨hbt, h⟩ | ⟨hbt, h⟩ <;> subst hbt
              · exact skip _ _ (upd_id hb) hw h
              · exact step _ _ (upd_id hb) hw h
        · rename_i hb
          exact skip _ _ rfl (by unfold wantedP; rw [hg]; simp only [hd, hb]) h
        · cases h
theorem XW.gq {X : Ctx} {nt : Nat} {c : Code} {ε : Env} {Q : Exit → Env → Prop} (h : XW P X nt c ε fun e ε' => ∃ ε2, Gh X nt ε' ε2 ∧ Q e ε2) : XW P X nt c ε Q := fun a w hg =>
  wp_mono (h a w hg) fun e a' w' ⟨ε', h1, ε2, h2, h3⟩ => ⟨ε2, h2 a' w' h1, h3⟩
theorem nodN_B : ∀ {l : List Nat}, nodN l = true → nodupB l = true
  | [], _ => rfl
  | x :: l, h => by
    simp only [nodN, nodupB, Bool.and_eq_true, Bool.not_eq_true', List.any_eq_false] at h ⊢
    refine ⟨?_, nodN_B h.2⟩
    simp only [List.contains_eq_any_beq, List.any_eq_false]
    intro y hy e
    have := h.1 y hy
    exact this (by rw [beq_iff_eq] at e; rw [e]; exact Nat.beq_refl _)
def codeB (nt : Nat) : Code → Bool
  | .region _ ops _ => opsB nt ops.toList
  | .seq x y => codeB nt x && codeB nt y
  | .cond c x y => opndB nt c && (codeB nt x && codeB nt y)
  | .block _ c => codeB nt c
  | .loop c => codeB nt c
  | _ => true
theorem map_inl {V β : Type} {o : Option V} {v : V} (h : o.map (Sum.inl (β := β)) = some (.inl v)) : o = some v := by
  cases o with
  | none => cases h
  | some x => cases h; rfl
theorem map_inr {V β : Type} {o : Option β} {v : β} (h : o.map (Sum.inr (α := V)) = some (.inr v)) : o = some v := by
  cases o with
  | none => cases h
  | some x => cases h; rfl
theorem cev_sound (hC : ∀ o ∈ C, Ctr P G E o) (hF : Facts P) (hm : P.follows .mixedOrders = true) {T : Tab} {nx fuel : Nat} {X : Ctx} (hE : X.E = E) (hG : X.G = G) (hX : XOk nx X) {nt : Nat} :
    ∀ (c : Code) (hb : codeB nt c = true) {β : Type} (ε : Env) (K : Exit → Env → Option β) (r : β) (Q : Exit → Env → Prop), cev C T nx fuel c ε K = some r → (∀ e ε', K e ε' = some r → Q e ε') → XW P X nt c ε Q := by
  intro c
  induction c with
  | skip => intro _ β ε K r Q h hQ; exact XW.skip (hQ _ _ h)
  | label l => intro _ β ε K r Q h hQ; exact XW.label (hQ _ _ h)
  | exit id => intro _ β ε K r Q h hQ; exact XW.exit (hQ _ _ h)
  | ret => intro _ β ε K r Q h hQ; exact XW.ret (hQ _ _ h)
  | seq x y ihx ihy =>
    intro hb β ε K r Q h hQ
    have hb : (codeB nt x && codeB nt y) = true := hb
    rw [Bool.and_eq_true] at hb
    unfold cev at h
    refine XW.seq ?_
    split at h
    · refine ihx hb.1 ε _ r _ h fun e ε' hk => ?_
      cases e with
      | normal => exact ihy hb.2 ε' K r Q hk hQ
      | _ => exact hQ _ _ hk
    · rename_i sh _
      obtain ⟨v, h1, h2⟩ := bd_some h
      refine ihx hb.1 ε _ v _ h1 fun e ε' hk => ?_
      cases e with
      | normal => exact XW.gh (Shape.dec_gh hX hk) (ihy hb.2 _ K r Q h2 hQ)
      | _ => cases hk
    · rename_i sh _
      rcases jn_some h with ⟨v, h1, h2⟩ | h1
      · refine ihx hb.1 ε _ _ _ h1 fun e ε' hk => ?_
        cases e with
        | normal => exact XW.gh (Shape.dec_gh hX (map_inl hk)) (ihy hb.2 _ K r Q h2 hQ)
        | _ => simp at hk
      · refine ihx hb.1 ε _ _ _ h1 fun e ε' hk => ?_
        cases e with
        | normal => simp at hk
        | _ => exact hQ _ _ (map_inr hk)
  | cond c x y ihx ihy =>
    intro hb β ε K r Q h hQ
    have hb : (opndB nt c && (codeB nt x && codeB nt y)) = true := hb
    rw [Bool.and_eq_true, Bool.and_eq_true] at hb
    unfold cev at h
    split at h
    · rename_i b hc
      refine XW.cond hc (fun d e => ?_) (fun hbt => ?_) (fun hbf => ?_)
      · subst e; simpa [opndB] using hb.1
      · subst hbt
        exact ihx hb.2.1 ε K r Q h hQ
      · subst hbf
        exact ihy hb.2.2 ε K r Q h hQ
    · cases h
  | block id c ih =>
    intro hb β ε K r Q h hQ
    unfold cev at h
    refine XW.block (ih hb ε _ r _ h fun e ε' hk => ?_)
    cases e with
    | exit id' =>
      simp only at hk
      show (if id' = id then Q .normal ε' else Q (.exit id') ε')
      split at hk
      · rename_i e; rw [if_pos (Nat.eq_of_beq_eq_true e)]; exact hQ _ _ hk
      · rename_i e; rw [if_neg (fun e2 => by rw [e2, Nat.beq_refl] at e; cases e)]; exact hQ _ _ hk
    | _ => exact hQ _ _ hk
  | loop c ih =>
    intro hb β ε K r Q h hQ
    unfold cev at h
    split at h
    · cases h
    · rename_i si id so _
      split at h
      · cases h
      · rename_i v hv
        obtain ⟨o, h1, h2⟩ := bd_some h
        refine XW.gq (XW.loop (fun n ε => ∃ v, Gh X nt ε (si.enc v) ∧ loopF _ n v = some o) fuel ⟨v, Shape.dec_gh hX hv, h1⟩ fun n ε ⟨v, hgh, hl⟩ => XW.gh hgh ?_)
        cases n with
        | zero => cases hl
        | succ n =>
          unfold loopF at hl
          split at hl
          · cases hl
          · rename_i v' hb'
            refine ih hb _ _ _ _ hb' fun e ε' hk => ?_
            cases e with
            | normal => exact ⟨n, Nat.lt_succ_self n, v', Shape.dec_gh hX (map_inl hk), hl⟩
            | exit id' =>
              simp only at hk
              split at hk
              · simp at hk
              · cases hk
            | _ => cases hk
          · rename_i o' hb'
            cases hl
            refine ih hb _ _ _ _ hb' fun e ε' hk => ?_
            cases e with
            | normal => simp at hk
            | exit id' =>
              simp only at hk
              split at hk
              · rename_i e; rw [Nat.eq_of_beq_eq_true e]; exact ⟨_, Shape.dec_gh hX (map_inr hk), hQ _ _ h2⟩
              · cases hk
            | _ => cases hk
    · rename_i si id so _
      split at h
      · cases h
      · rename_i v hv
        have key : ∃ x, loopF (fun v => cev C T nx fuel c (β := EL si.es ⊕ (EL so.es ⊕ β)) (si.enc v) fun e ε' => match e with
            | .normal => (si.dec nx ε').map .inl
            | .exit id' => (match Nat.beq id' id with
              | true => (so.dec nx ε').map fun o => .inr (.inl o)
              | false => (K (.exit id') ε').map fun r => .inr (.inr r))
            | e => (K e ε').map fun r => .inr (.inr r)) fuel v = some x ∧ ((∃ o, x = .inl o ∧ K (.exit id) (so.enc o) = some r) ∨ x = .inr r) := by
          rcases jn_some h with ⟨o, q1, q2⟩ | q1
          · exact ⟨_, q1, .inl ⟨o, rfl, q2⟩⟩
          · exact ⟨_, q1, .inr rfl⟩
        obtain ⟨x, h1, h2⟩ := key
        refine XW.gq (XW.loop (fun n ε => ∃ v, Gh X nt ε (si.enc v) ∧ loopF _ n v = some x) fuel ⟨v, Shape.dec_gh hX hv, h1⟩ fun n ε ⟨v, hgh, hl⟩ => XW.gh hgh ?_)
        cases n with
        | zero => cases hl
        | succ n =>
          unfold loopF at hl
          split at hl
          · cases hl
          · rename_i v' hb'
            refine ih hb _ _ _ _ hb' fun e ε' hk => ?_
            cases e with
            | normal => exact ⟨n, Nat.lt_succ_self n, v', Shape.dec_gh hX (map_inl hk), hl⟩
            | exit id' =>
              simp only at hk
              split at hk
              · simp at hk
              · simp at hk
            | _ => simp at hk
          · rename_i o' hb'
            cases hl
            refine ih hb _ _ _ _ hb' fun e ε' hk => ?_
            have out : ∀ e ε', (K e ε').map (fun r => (Sum.inr (Sum.inr r) : EL si.es ⊕ (EL so.es ⊕ β))) = some (.inr x) → K e ε' = some r := by
              intro e ε' hk
              cases hq : K e ε' with
              | none => rw [hq] at hk; cases hk
              | some y =>
                rw [hq] at hk
                rcases h2 with ⟨o, rfl, _⟩ | rfl
                · simp at hk
                · simp at hk; rw [hk]
            cases e with
            | normal => simp at hk
            | exit id' =>
              simp only at hk
              split at hk
              · rename_i e
                rw [Nat.eq_of_beq_eq_true e]
                cases hq : so.dec nx ε' with
                | none => rw [hq] at hk; cases hk
                | some o =>
                  rw [hq] at hk
                  rcases h2 with ⟨o', rfl, h2⟩ | rfl
                  · simp at hk
                    subst hk
                    exact ⟨_, Shape.dec_gh hX hq, hQ _ _ h2⟩
                  · simp at hk
              · exact ⟨_, fun _ _ h => h, hQ _ _ (out _ _ hk)⟩
            | _ => exact ⟨_, fun _ _ h => h, hQ _ _ (out _ _ hk)⟩
  | region id ops draw =>
    intro hb β ε K r Q h hQ
    have hb : opsB nt ops.toList = true := hb
    have eo : ops = ops.toList.toArray := by simp
    unfold cev at h
    split at h
    · rename_i i x d hn
      obtain ⟨rfl, o, t, t', k0, el, ho, hgu, hdst, hk⟩ := nilLast_spec hn
      obtain ⟨ft, ε', h1, h2, h3⟩ := rev_sound hC (ops := ops) i 0 [] ε _ r (fun j o' hj => by
        have : ops.toList[j]? = some o' := by rw [el, List.getElem?_append_left (List.getElem?_eq_some_iff.1 hj).1]; exact hj
        simpa using this) h
      have eo : ops = (i ++ [o]).toArray := by rw [← el]
      have hb : opsB nt (i ++ [o]) = true := by rw [← el]; exact hb
      have hb2 := opsB_sound hF hE hG hb
      have hx : opndB nt x = true := by
        have : (operB nt o && dstB nt o) = true := List.all_eq_true.1 hb o (by simp)
        rw [Bool.and_eq_true] at this
        have h0 := this.1
        unfold operB at h0
        rw [ho] at h0
        simp [Op.operands] at h0
        exact h0.1
      rw [eo]
      refine XW.regionN hF hb2.1 hb2.2 ho hgu hdst hx hk ⟨ft, ε', by rw [← eo]; exact h1, h2, fun S w' β' σ u hv => ?_⟩
      split at h3
      · rename_i own k l he
        rw [he] at hv
        obtain ⟨h4, h5⟩ := cmpN_some h3
        obtain ⟨a, cap, e1, _, _, h6⟩ := (show Row S w' k u l from hv.2)
        cases a with
        | none =>
          have hl : l = [] := by
            by_cases hl : l = []
            · exact hl
            · obtain ⟨_, _, h7, _⟩ := h6 hl; cases h7
          exact ⟨none, _, _, e1, hQ _ _ (h5 hl)⟩
        | some p => exact ⟨some p, _, _, e1, hQ _ _ h4⟩
      · rename_i he
        rw [he] at hv
        have e1 : u = .slice none 0 0 := hv
        exact ⟨none, _, _, e1, hQ _ _ h3⟩
      · cases h3
    · rename_i hn
      split at h
      · obtain ⟨ft, ε', h1, h2, h3⟩ := rev_sound hC (ops := ops) ops.toList 0 [] ε _ r (fun j o hj => by simpa using hj) h
        have h4 : K .normal ε' = some r ∧ (draw = true → orderOk ops ft = true) := by
          split at h3
          · exact ⟨h3, fun h => nomatch h⟩
          · split at h3
            · rename_i ho; exact ⟨h3, fun _ => ho⟩
            · cases h3
        cases draw with
        | false => rw [eo]; exact XW.reg hF hE hG hb ⟨ft, ε', by rw [← eo]; exact h1, h2, hQ _ _ h4.1⟩
        | true => rw [eo]; exact XW.drw hF hE hG hm hb ⟨ft, ε', by rw [← eo]; exact h1, h2, by rw [← eo]; exact h4.2 rfl, hQ _ _ h4.1⟩
      · rename_i sh _
        obtain ⟨v, h1, h2⟩ := bd_some h
        obtain ⟨ft, ε', q1, q2, q3⟩ := rev_sound hC (ops := ops) ops.toList 0 [] ε _ v (fun j o hj => by simpa using hj) h1
        have h4 : sh.dec nx ε' = some v ∧ (draw = true → orderOk ops ft = true) := by
          split at q3
          · exact ⟨q3, fun h => nomatch h⟩
          · split at q3
            · rename_i ho; exact ⟨q3, fun _ => ho⟩
            · cases q3
        refine XW.gq ?_
        cases draw with
        | false => rw [eo]; exact XW.reg hF hE hG hb ⟨ft, ε', by rw [← eo]; exact q1, q2, _, Shape.dec_gh hX h4.1, hQ _ _ h2⟩
        | true => rw [eo]; exact XW.drw hF hE hG hm hb ⟨ft, ε', by rw [← eo]; exact q1, q2, by rw [← eo]; exact h4.2 rfl, _, Shape.dec_gh hX h4.1, hQ _ _ h2⟩
  | _ => intro _ β ε K r Q h; cases h
theorem csn : ∀ o ∈ ([] : List Orc), Ctr P G E o := fun _ h => by cases h
theorem csc {o : Orc} {l : List Orc} (h : Ctr P G E o) (hs : ∀ x ∈ l, Ctr P G E x) : ∀ x ∈ o :: l, Ctr P G E x := fun x hx => by
  rcases List.mem_cons.1 hx with rfl | hx
  · exact h
  · exact hs x hx
def okB (nt nx : Nat) (avs : List PV) (xs : List (List PV)) : Bool := lentOk (lnQ nx) avs xs.length && (xs.all (fun cs => cs.all cellOk) && (Nat.ble avs.length nt && (Nat.ble avs.length 1000 && (Nat.beq xs.length (nxB nx) && (Nat.ble (nxB nx) 49 && (Nat.ble (lentL (lnQ nx) avs).length (nxL nx) && xs.all fun cs => Nat.ble cs.length 1000))))))
theorem Ctr.mk (hC : ∀ o ∈ C, Ctr P G E o) (hF : Facts P) (hm : P.follows .mixedOrders = true) (hcl : ∀ w w' : World, E w → (∀ b, b < G → w'.heap[b]? = w.heap[b]?) → E w') {o : Orc} (T : Tab) (fuel : Nat) {fn : Func} {c : Code} (hf : P.funcs[o.f]? = some fn) (hb : fn.body = some c)
    (hB : ((fn.name == "runtime.NumGoroutine") == false && codeB fn.ntmps c) = true) (hok : ∀ v, okB fn.ntmps o.nx (o.args v) (o.exts v) = true) (hel : ∀ v r, (o.back r).map List.length = (o.exts v).map List.length) (h : ∀ v, fev C T o.nx fuel fn o.pat o.ins o.out v = o.p v) : Ctr P G E o := fun v r hr => by
  rw [← h v] at hr
  simp only [Bool.and_eq_true, beq_iff_eq] at hB
  obtain ⟨b1, b2⟩ := hB
  have hv := hok v
  unfold okB at hv
  simp only [Bool.and_eq_true] at hv
  obtain ⟨k1, k2, k3, k4, k5, k6, k8, k7⟩ := hv
  have k5 := Nat.eq_of_beq_eq_true k5
  refine PCalls.mk hF hcl hf b1 hb k1 k2 (Nat.le_of_ble_eq_true k3) (by rw [k5]; exact Nat.le_of_ble_eq_true k6) (fun cs hcs => Nat.le_of_ble_eq_true (List.all_eq_true.1 k7 cs hcs)) (Nat.le_of_ble_eq_true k4) (fun X hE hX hG hR => ?_) (hel v r)
  unfold fev at hr
  rw [hb] at hr
  refine XW.gq (cev_sound hC hF hm hE hG ⟨hX.trans k5, fun q u n hq => Nat.lt_of_lt_of_le (hR q u n hq) (Nat.le_of_ble_eq_true k8)⟩ c b2 _ _ r _ hr fun e ε' hk => ⟨outE o.nx fn.results.toList ε', unf_gh _ _, ?_⟩)
  have fin : ∀ ε', finE fn.ntmps o.nx fn.results.toList (o.exts v).length (lentL (lnQ o.nx) (o.args v)) o.out ε' = some r → retX fn.ntmps fn.results.toList (o.exts v).length (lentL (lnQ o.nx) (o.args v)) (o.res r) (o.gbs r) (o.back r) .ret ε' := by
    intro ε' hk
    unfold finE at hk
    split at hk
    · cases hk
    · rename_i vs hvs
      split at hk
      · cases hk
      · rename_i cs hcs
        split at hk
        · cases hk
        · rename_i qs A B hcl
          split at hk
          · rename_i hn
            rw [Bool.and_eq_true] at hn
            split at hk
            · rename_i rs hrs
              exact ⟨vs, cs, qs, A, B, hvs, hcs, hcl, nodN_B hn.1, hn.2, unQ_wk hrs (Ro.decL_wk hk)⟩
            · cases hk
          · cases hk
  cases e with
  | normal => exact fin _ hk
  | ret => exact fin _ hk
  | _ => cases hk
theorem Ctr.rec {f : FuncId} {pat : List (Option PV)} {ins : List Sh} {nx : Nat} {out : Ro} {B : (PL ins → Option out.V) → PL ins → Option out.V} (h : ∀ slf, Ctr P G E ⟨f, pat, ins, nx, out, slf⟩ → Ctr P G E ⟨f, pat, ins, nx, out, B slf⟩) : ∀ n, Ctr P G E ⟨f, pat, ins, nx, out, recF B n⟩
  | 0 => fun v r hr => by cases hr
  | n + 1 => h _ (Ctr.rec h n)
end
end Go.Px
namespace Go.Proofs.YthjkndcfihodgaaGreatDoor
open Go.RowKit Go.Shelf
def Tryz.laysIndexByte_ren : Go.Shelf.Ren := ⟨fun | 137 => 310 | 217 => 347 | 266 => 370 | n => n, fun | 9 => 9 | 5 => 5 | 3 => 3 | n => n, fun | n => n⟩
theorem Tryz.laysIndexByte : Go.Proofs.Lays.n137 Tryz.prog Tryz.laysIndexByte_ren := {
  mixed := by kernel_rfl
  f137 := Tryz.func310.trans (congrArg some (by kernel_rfl))
  f217 := Tryz.func347.trans (congrArg some (by kernel_rfl))
  f266 := Tryz.func370.trans (congrArg some (by kernel_rfl))
  t3 := Tryz.underlying3
  a3 := Tryz.isAgg3
  z3 := Tryz.sizeOf3
  v3 := Tryz.zeroValue3
  t5 := Tryz.underlying5
  a5 := Tryz.isAgg5
  z5 := Tryz.sizeOf5
  v5 := Tryz.zeroValue5
  t9 := Tryz.underlying9
  a9 := Tryz.isAgg9
  z9 := Tryz.sizeOf9
  v9 := Tryz.zeroValue9 }
def Tryz.laysItoa_ren : Go.Shelf.Ren := ⟨fun | 171 => 194 | 243 => 277 | 246 => 311 | 283 => 348 | 284 => 349 | 285 => 350 | 286 => 351 | 129 => 335 | 317 => 371 | 318 => 372 | 319 => 373 | 320 => 374 | 337 => 381 | 338 => 382 | n => n, fun | 3 => 3 | 9 => 9 | 2 => 2 | 4 => 4 | 171 => 397 | 0 => 0 | 53 => 287 | 37 => 108 | 5 => 5 | 173 => 399 | 212 => 418 | 51 => 284 | 20 => 20 | 213 => 419 | 46 => 207 | 232 => 426 | 233 => 427 | n => n, fun | 17 => 0 | 18 => 2 | 19 => 3 | n => n⟩
theorem Tryz.laysItoa : Go.Proofs.LaysM.n171 Tryz.prog Tryz.laysItoa_ren := {
  mixed := by kernel_rfl
  f129 := Tryz.func335.trans (congrArg some (by kernel_rfl))
  f171 := Tryz.func194.trans (congrArg some (by kernel_rfl))
  f243 := Tryz.func277.trans (congrArg some (by kernel_rfl))
  f246 := Tryz.func311.trans (congrArg some (by kernel_rfl))
  f283 := Tryz.func348.trans (congrArg some (by kernel_rfl))
  f284 := Tryz.func349.trans (congrArg some (by kernel_rfl))
  f285 := Tryz.func350.trans (congrArg some (by kernel_rfl))
  f286 := Tryz.func351.trans (congrArg some (by kernel_rfl))
  f317 := Tryz.func371.trans (congrArg some (by kernel_rfl))
  f318 := Tryz.func372.trans (congrArg some (by kernel_rfl))
  f319 := Tryz.func373.trans (congrArg some (by kernel_rfl))
  f320 := Tryz.func374.trans (congrArg some (by kernel_rfl))
  f337 := Tryz.func381.trans (congrArg some (by kernel_rfl))
  f338 := Tryz.func382.trans (congrArg some (by kernel_rfl))
  t0 := Tryz.underlying0
  a0 := Tryz.isAgg0
  z0 := Tryz.sizeOf0
  v0 := Tryz.zeroValue0
  t2 := Tryz.underlying2
  a2 := Tryz.isAgg2
  z2 := Tryz.sizeOf2
  v2 := Tryz.zeroValue2
  t3 := Tryz.underlying3
  a3 := Tryz.isAgg3
  z3 := Tryz.sizeOf3
  v3 := Tryz.zeroValue3
  t4 := Tryz.underlying4
  a4 := Tryz.isAgg4
  z4 := Tryz.sizeOf4
  v4 := Tryz.zeroValue4
  t5 := Tryz.underlying5
  a5 := Tryz.isAgg5
  z5 := Tryz.sizeOf5
  v5 := Tryz.zeroValue5
  t9 := Tryz.underlying9
  a9 := Tryz.isAgg9
  z9 := Tryz.sizeOf9
  v9 := Tryz.zeroValue9
  t20 := Tryz.underlying20
  a20 := Tryz.isAgg20
  z20 := Tryz.sizeOf20
  v20 := Tryz.zeroValue20
  t37 := Tryz.underlying108
  a37 := Tryz.isAgg108
  z37 := Tryz.sizeOf108
  v37 := Tryz.zeroValue108
  t46 := Tryz.underlying207
  a46 := Tryz.isAgg207
  z46 := Tryz.sizeOf207
  v46 := Tryz.zeroValue207
  t51 := Tryz.underlying284
  a51 := Tryz.isAgg284
  z51 := Tryz.sizeOf284
  v51 := Tryz.zeroValue284
  t53 := Tryz.underlying287
  a53 := Tryz.isAgg287
  z53 := Tryz.sizeOf287
  v53 := Tryz.zeroValue287
  t171 := Tryz.underlying397
  a171 := Tryz.isAgg397
  z171 := Tryz.sizeOf397
  v171 := Tryz.zeroValue397
  t173 := Tryz.underlying399
  a173 := Tryz.isAgg399
  z173 := Tryz.sizeOf399
  v173 := Tryz.zeroValue399
  t212 := Tryz.underlying418
  a212 := Tryz.isAgg418
  z212 := Tryz.sizeOf418
  v212 := Tryz.zeroValue418
  t213 := Tryz.underlying419
  a213 := Tryz.isAgg419
  z213 := Tryz.sizeOf419
  t232 := Tryz.underlying426
  a232 := Tryz.isAgg426
  z232 := Tryz.sizeOf426
  v232 := Tryz.zeroValue426
  t233 := Tryz.underlying427
  a233 := Tryz.isAgg427
  z233 := Tryz.sizeOf427
  v233 := Tryz.zeroValue427
  g17 := by kernel_rfl
  g18 := by kernel_rfl
  g19 := by kernel_rfl
  i0 := by kernel_rfl
  i2 := by kernel_rfl
  i3 := by kernel_rfl
  i4 := by kernel_rfl
  i5 := by kernel_rfl
  i9 := by kernel_rfl
  i20 := by kernel_rfl
  i37 := by kernel_rfl
  i46 := by kernel_rfl
  i51 := by kernel_rfl
  i53 := by kernel_rfl
  i171 := by kernel_rfl
  i173 := by kernel_rfl
  i212 := by kernel_rfl
  i232 := by kernel_rfl
  i233 := by kernel_rfl
  m17 := by kernel_rfl
  m18 := by kernel_rfl
  m19 := by kernel_rfl }
def Tryz.laysSort_ren : Go.Shelf.Ren := ⟨fun | 189 => 251 | 125 => 299 | 257 => 298 | 128 => 334 | 129 => 335 | 294 => 325 | 295 => 326 | 296 => 327 | 297 => 328 | 298 => 329 | 299 => 330 | 216 => 331 | 300 => 332 | 301 => 333 | 328 => 357 | 329 => 358 | 330 => 359 | 331 => 360 | 332 => 361 | 215 => 362 | 343 => 377 | n => n, fun | 28 => 86 | 3 => 3 | 46 => 207 | 0 => 0 | 51 => 284 | 53 => 287 | 4 => 4 | 183 => 380 | 182 => 379 | 131 => 371 | 5 => 5 | 9 => 9 | 218 => 404 | 222 => 408 | 228 => 420 | 229 => 128 | n => n, fun | n => n⟩
theorem Tryz.laysSort : Go.Proofs.Lays.n189 Tryz.prog Tryz.laysSort_ren := {
  mixed := by kernel_rfl
  f125 := Tryz.func299.trans (congrArg some (by kernel_rfl))
  f128 := Tryz.func334.trans (congrArg some (by kernel_rfl))
  f129 := Tryz.func335.trans (congrArg some (by kernel_rfl))
  f189 := Tryz.func251.trans (congrArg some (by kernel_rfl))
  f215 := Tryz.func362.trans (congrArg some (by kernel_rfl))
  f216 := Tryz.func331.trans (congrArg some (by kernel_rfl))
  f257 := Tryz.func298.trans (congrArg some (by kernel_rfl))
  f294 := Tryz.func325.trans (congrArg some (by kernel_rfl))
  f295 := Tryz.func326.trans (congrArg some (by kernel_rfl))
  f296 := Tryz.func327.trans (congrArg some (by kernel_rfl))
  f297 := Tryz.func328.trans (congrArg some (by kernel_rfl))
  f298 := Tryz.func329.trans (congrArg some (by kernel_rfl))
  f299 := Tryz.func330.trans (congrArg some (by kernel_rfl))
  f300 := Tryz.func332.trans (congrArg some (by kernel_rfl))
  f301 := Tryz.func333.trans (congrArg some (by kernel_rfl))
  f328 := Tryz.func357.trans (congrArg some (by kernel_rfl))
  f329 := Tryz.func358.trans (congrArg some (by kernel_rfl))
  f330 := Tryz.func359.trans (congrArg some (by kernel_rfl))
  f331 := Tryz.func360.trans (congrArg some (by kernel_rfl))
  f332 := Tryz.func361.trans (congrArg some (by kernel_rfl))
  f343 := Tryz.func377.trans (congrArg some (by kernel_rfl))
  t0 := Tryz.underlying0
  a0 := Tryz.isAgg0
  z0 := Tryz.sizeOf0
  v0 := Tryz.zeroValue0
  t3 := Tryz.underlying3
  a3 := Tryz.isAgg3
  z3 := Tryz.sizeOf3
  v3 := Tryz.zeroValue3
  t4 := Tryz.underlying4
  a4 := Tryz.isAgg4
  z4 := Tryz.sizeOf4
  v4 := Tryz.zeroValue4
  t5 := Tryz.underlying5
  a5 := Tryz.isAgg5
  z5 := Tryz.sizeOf5
  v5 := Tryz.zeroValue5
  t9 := Tryz.underlying9
  a9 := Tryz.isAgg9
  z9 := Tryz.sizeOf9
  v9 := Tryz.zeroValue9
  t28 := Tryz.underlying86
  a28 := Tryz.isAgg86
  z28 := Tryz.sizeOf86
  v28 := Tryz.zeroValue86
  t46 := Tryz.underlying207
  a46 := Tryz.isAgg207
  z46 := Tryz.sizeOf207
  v46 := Tryz.zeroValue207
  t51 := Tryz.underlying284
  a51 := Tryz.isAgg284
  z51 := Tryz.sizeOf284
  v51 := Tryz.zeroValue284
  t53 := Tryz.underlying287
  a53 := Tryz.isAgg287
  z53 := Tryz.sizeOf287
  v53 := Tryz.zeroValue287
  t131 := Tryz.underlying371
  a131 := Tryz.isAgg371
  z131 := Tryz.sizeOf371
  v131 := Tryz.zeroValue371
  t182 := Tryz.underlying379
  a182 := Tryz.isAgg379
  z182 := Tryz.sizeOf379
  v182 := Tryz.zeroValue379
  t183 := Tryz.underlying380
  a183 := Tryz.isAgg380
  z183 := Tryz.sizeOf380
  v183 := Tryz.zeroValue380
  t218 := Tryz.underlying404
  a218 := Tryz.isAgg404
  z218 := Tryz.sizeOf404
  v218 := Tryz.zeroValue404
  t222 := Tryz.underlying408
  a222 := Tryz.isAgg408
  z222 := Tryz.sizeOf408
  v222 := Tryz.zeroValue408
  t228 := Tryz.underlying420
  a228 := Tryz.isAgg420
  z228 := Tryz.sizeOf420
  v228 := Tryz.zeroValue420
  t229 := Tryz.underlying128
  a229 := Tryz.isAgg128
  z229 := Tryz.sizeOf128
  v229 := Tryz.zeroValue128 }
end Go.Proofs.YthjkndcfihodgaaGreatDoor
namespace Go.Px
open Go.RowKit Go.Proofs Go.Sort
theorem facts : Facts Tryz.prog := Facts.of (by kernel_rfl)
theorem mixed : Tryz.prog.follows .mixedOrders = true := by kernel_rfl
def TabW (w : World) : Prop := Lib.TabIs Tryz.prog w "internal/strconv.uint64pow10" .u64 Lib.pow10Tab
structure Cl (G : Nat) (E : World → Prop) : Prop where
  cl : ∀ w w' : World, E w → (∀ b, b < G → w'.heap[b]? = w.heap[b]?) → E w'
  tab : ∀ w, E w → TabW w
theorem mkc {G : Nat} {E : World → Prop} (hcl : Cl G E) {C : List Orc} (hC : ∀ o ∈ C, Ctr Tryz.prog G E o) {o : Orc} (T : Tab) (fuel : Nat) (fn : Func) {c : Code} (hf : Tryz.prog.funcs[o.f]? = some fn := by kernel_rfl) (hb : fn.body = some c := by rfl)
    (hB : ((fn.name == "runtime.NumGoroutine") == false && codeB fn.ntmps c) = true := by kernel_rfl) (hok : ∀ v, okB fn.ntmps o.nx (o.args v) (o.exts v) = true := by intro _; kernel_rfl) (hel : ∀ v r, (o.back r).map List.length = (o.exts v).map List.length := by intro _ _; kernel_rfl) (h : ∀ v, fev C T o.nx fuel fn o.pat o.ins o.out v = o.p v := by intro _; kernel_rfl) : Ctr Tryz.prog G E o := Ctr.mk hC facts mixed hcl.cl T fuel hf hb hB hok hel h
def CC (o : Nat → Orc) : Prop := ∀ {G : Nat} {E : World → Prop} (_ : Cl G E) (fuel : Nat), Ctr Tryz.prog G E (o fuel)
section
variable {G : Nat} {E : World → Prop}
theorem PCalls.libV {P : Program} {f : FuncId} {fn : Func} {c : Code} (hf : P.funcs[f]? = some fn) (hname : (fn.name == "runtime.NumGoroutine") = false) (hb : fn.body = some c) {vs : List Value} {x : Value} (hx : wfV x)
    (h : ∀ w, E w → Calls P f vs.toArray w fun e w' => e = .returned x ∧ Below w.heap.size w w') : PCalls P G E f (vs.map .v) [] (.v x) [] := by
  refine ⟨rfl, fun w S us locs La Le hG hE hl1 hl2 hnd hF0 hS hargs hext => ?_⟩
  obtain rfl : locs = [] := List.eq_nil_of_length_eq_zero hl1
  obtain rfl : Le = [] := List.eq_nil_of_length_eq_zero hl2
  have hus : us = vs ∧ La = [] := by
    have key : ∀ (vs us : List Value) (L : List Nat), All3 (Own1 S w (extB []) (extS [])) (vs.map .v) us L → us = vs ∧ L = [] := by
      intro vs
      induction vs with
      | nil => intro us L h; cases us with
        | nil => exact ⟨rfl, h⟩
        | cons _ _ => exact h.elim
      | cons v vs ih =>
        intro us L h
        cases us with
        | nil => exact h.elim
        | cons u us =>
          obtain ⟨L1, L2, e, h1, h2⟩ := h
          obtain ⟨q1, q2⟩ := ih us L2 h2
          obtain ⟨p1, p2⟩ : L1 = [] ∧ u = v ∧ wfV v := h1
          exact ⟨by rw [q1, p2.1], by rw [e, p1, q2]; rfl⟩
    exact key vs us La hargs
  obtain ⟨rfl, rfl⟩ := hus
  refine Arrive.of hf hname hb (Calls.mono (h w hE) ?_)
  rintro e w' ⟨rfl, h1, h2, h3, h4, h5⟩
  exact ⟨x, [], [], rfl, rfl, by simp, by simp, ⟨rfl, rfl, hx⟩, fun j p cs L hj => by simp at hj, ⟨h1, h2, h3, h4, fun b hb _ => h5 b hb, fun j b off n hj => by simp at hj⟩⟩
def pG_slices_Sort_int (l : List Int) : Option (List Int) := gd (l.length < 4611686018427387904) (some (l.mergeSort fun x y => decide (x ≤ y)))
def o251 (fuel : Nat) : Orc := ⟨251, [none], [.own .int 99], 101, .one (.own .int 99), fun v => pG_slices_Sort_int v⟩
theorem sort_calls (v r : List Int) (hr : pG_slices_Sort_int v = some r) : PCalls Tryz.prog G E 251 [.row true .int v] [] (.gb (.tup []) [.row true .int r]) [] := by
  unfold pG_slices_Sort_int at hr
  obtain ⟨hlen, hr⟩ := gd_some hr
  cases hr
  refine ⟨rfl, fun w S us locs La Le hG hE hl1 hl2 hnd hF0 hS hargs hext => ?_⟩
  obtain rfl : locs = [] := List.eq_nil_of_length_eq_zero hl1
  obtain rfl : Le = [] := List.eq_nil_of_length_eq_zero hl2
  match us, hargs with
  | [u], ⟨L1, L2, e, h1, h2⟩ =>
  have h2 : L2 = [] := h2
  subst h2
  rw [List.append_nil] at e
  subst e
  have h1 : Own S w .int u v La := h1
  refine Arrive.of (fn := Tryz.f251) (by kernel_rfl) (by kernel_rfl) rfl ?_
  rcases h1 with ⟨rfl, rfl, rfl⟩ | ⟨b, cap, cur, rfl, rfl, hlt, hrow, hcap, hmax, hsz, hcont⟩
  · refine Calls.mono (Any.slices_Sort_int_none Go.Proofs.YthjkndcfihodgaaGreatDoor.Tryz.laysSort none 0 w) ?_
    rintro e w' ⟨rfl, rfl⟩
    refine ⟨.tuple #[], [], [], rfl, rfl, by simp, by simp, ⟨[], [], rfl, ⟨#[], rfl, rfl⟩, [], [], rfl, .inl ⟨rfl, ?_, rfl⟩, rfl⟩, fun j p cs L hj => by simp at hj, ⟨rfl, rfl, rfl, Nat.le_refl _, fun _ _ _ => rfl, fun j b off n hj => by simp at hj⟩⟩
    simp
  · have hbl : b < w.heap.size := hrow.lt
    have hH : Holds (Value.int .i64) w b 0 v.toArray := fun j hj => by
      have hj' : j < v.length := by simpa using hj
      obtain ⟨u, hu, hl⟩ := hcont j v[j] (List.getElem?_eq_getElem hj') 0 (.sc (.int .i64 v[j])) rfl
      have e1 : j * size .int + 0 = j := by show j * 1 + 0 = j; omega
      rw [e1] at hu
      have hlu : u = .int .i64 v[j] := hl.1
      subst hlu
      have hjs : j < cur.size := (Array.getElem?_eq_some_iff.1 hu).1
      rw [Nat.zero_add]
      refine ⟨?_, hrow.frozen hjs⟩
      have hu : cur[j]? = some (.int .i64 v[j]) := hu
      rw [hrow.cell, hu]
      simp [hj']
    refine Calls.mono (Any.slices_Sort_int Go.Proofs.YthjkndcfihodgaaGreatDoor.Tryz.laysSort b 0 cap v w hH hbl hlen) ?_
    rintro e w' ⟨rfl, n, os, rfl⟩
    obtain ⟨fz, hheap, hice⟩ := hrow
    have hnew := heap_sortedI (w := w) (n := n) (os := os) (v.mergeSort fun x y => decide (x ≤ y)).toArray hheap
    have hgr := grownBy_sortedI (w := w) (g := b) (n := n) (os := os) (v.mergeSort fun x y => decide (x ≤ y)).toArray
    obtain ⟨g1, g2, g3, g4, g5⟩ := hgr
    have hml : (v.mergeSort fun x y => decide (x ≤ y)).length = v.length := List.length_mergeSort ..
    have hcs : (putCells (Value.int .i64) 0 (v.mergeSort fun x y => decide (x ≤ y)).toArray cur).size = cur.size := by simp [putCells]
    have hcz : cur.size = cap := by rw [hsz]; show cap * 1 = cap; omega
    refine ⟨.tuple #[], [b], [], rfl, rfl, by simp, fun x hx => ?_, ⟨[], [b], rfl, ⟨#[], rfl, rfl⟩, [b], [], rfl, .inr ⟨b, cap, _, ?_, rfl, by rw [hml]; exact hlt, ⟨fz, hnew, by rw [hcs]; exact hice⟩, by rw [hml]; exact hcap, hmax, by rw [hcs]; exact hsz, ?_⟩, rfl⟩, fun j p cs L hj => by simp at hj, ⟨g1, g2, g3, g4, fun x hx hn => g5 x hx fun e => hn (by cases e; simp), fun j b off n hj => by simp at hj⟩⟩
    · have hx : x = b := by simpa using hx
      subst hx
      exact ⟨.inl (by simp), Nat.lt_of_lt_of_le hbl g4⟩
    · rw [hml]
    · intro i x hx j lf hlf
      have hi : i < v.length := by have := (List.getElem?_eq_some_iff.1 hx).1; rwa [hml] at this
      have hj : j = 0 := by
        have := (List.getElem?_eq_some_iff.1 hlf).1
        rw [leaves_len] at this
        have e : size K.int = 1 := rfl
        omega
      subst hj
      have hlf : lf = .sc (.int .i64 x) := by
        have : (leaves (k := .int) x)[0]? = some (.sc (.int .i64 x)) := rfl
        rw [this] at hlf; exact (Option.some.inj hlf).symm
      subst hlf
      have htk := take_putCellsI cur (v.mergeSort fun x y => decide (x ≤ y)) (by rw [hml, hcz]; exact hcap)
      have e1 : i * size .int + 0 = i := by show i * 1 + 0 = i; omega
      refine ⟨.int .i64 x, ?_, rfl, ?_⟩
      · show (putCells (Value.int .i64) 0 (v.mergeSort fun x y => decide (x ≤ y)).toArray cur)[i * size K.int + 0]? = _
        rw [e1, ← Array.getElem?_toList]
        have h3 : ((putCells (Value.int .i64) 0 (v.mergeSort fun x y => decide (x ≤ y)).toArray cur).toList.take (v.mergeSort fun x y => decide (x ≤ y)).length)[i]? = some (.int .i64 x) := by
          rw [htk, List.getElem?_map, hx]; rfl
        rw [List.getElem?_take_of_lt (by rw [hml]; exact hi)] at h3
        exact h3
      · have hxm : x ∈ v := List.mem_mergeSort.1 (List.mem_of_getElem? hx)
        obtain ⟨m, hm⟩ := List.getElem?_of_mem hxm
        obtain ⟨u, _, hl⟩ := hcont m x hm 0 (.sc (.int .i64 x)) rfl
        exact hl.2
theorem c251 (hcl : Cl G E) (fuel : Nat) : Ctr Tryz.prog G E (o251 fuel) := fun v r hr => sort_calls v r hr
def pG_strings_IndexByte (s : ByteArray) (c : Int) : Option Int := gd (s.size ≤ 9223372036854775807) (some (Lib.indexByte s.data.toList (UInt8.ofNat c.toNat)))
def o310 (fuel : Nat) : Orc := ⟨310, [none, none], [.S, .I .u8], 0, .one (.I .i64), fun v => pG_strings_IndexByte v.1 v.2⟩
theorem indexByte_le (c : UInt8) : ∀ l : List UInt8, -1 ≤ Lib.indexByte l c ∧ Lib.indexByte l c ≤ l.length
  | [] => by unfold Lib.indexByte; simp
  | b :: l => by
    have := indexByte_le c l
    unfold Lib.indexByte
    split
    · simp; omega
    · split
      · simp; omega
      · simp; omega
theorem indexByte_calls (s : ByteArray) (c r : Int) (hr : pG_strings_IndexByte s c = some r) : PCalls Tryz.prog G E 310 [.v (.string s), .v (.int .u8 c)] [] (.v (.int .i64 r)) [] := by
  unfold pG_strings_IndexByte at hr
  obtain ⟨h2, hr⟩ := gd_some hr
  cases hr
  have hl : s.data.toList.length = s.size := Array.length_toList
  have hb := indexByte_le (UInt8.ofNat c.toNat) s.data.toList
  refine PCalls.libV (vs := [.string s, .int .u8 c]) (fn := Tryz.f310) (by kernel_rfl) (by kernel_rfl) rfl ((wrap_iff .i64 _).2 (by simp [loK, hiK]; omega)) fun w hE => ?_
  refine Calls.mono (Any.strings_IndexByte Go.Proofs.YthjkndcfihodgaaGreatDoor.Tryz.laysIndexByte s c w) ?_
  rintro e w' ⟨rfl, rfl⟩
  exact ⟨rfl, Below.refl _ _⟩
theorem c310 (hcl : Cl G E) (fuel : Nat) : Ctr Tryz.prog G E (o310 fuel) := fun v r hr => indexByte_calls v.1 v.2 r hr
def pG_strconv_Itoa (n : Int) : Option ByteArray := gd (0 ≤ n ∧ n ≤ 4294967295) (some ⟨(Lib.decDigits n.toNat).toArray⟩)
def o194 (fuel : Nat) : Orc := ⟨194, [none], [.I .i64], 0, .one .S, fun v => pG_strconv_Itoa v⟩
theorem dec_small {u : Nat} (h : u < 10) : Lib.decDigits u = [UInt8.ofNat (48 + u)] := by rw [Lib.decDigits, dif_pos h]
theorem dec_big {u : Nat} (h : ¬ u < 10) : Lib.decDigits u = Lib.decDigits (u / 10) ++ [UInt8.ofNat (48 + u % 10)] := by rw [Lib.decDigits, dif_neg h]
theorem dec_len : ∀ (k u : Nat), u < 10 ^ (k + 1) → (Lib.decDigits u).length ≤ k + 1
  | 0, u, h => by rw [dec_small (by omega)]; simp
  | k + 1, u, h => by
    by_cases h1 : u < 10
    · rw [dec_small h1]; simp
    · rw [dec_big h1]
      have := dec_len k (u / 10) (by rw [Nat.pow_succ] at h; omega)
      simp; omega
theorem itoa_calls (hcl : Cl G E) (v : Int) (r : ByteArray) (hr : pG_strconv_Itoa v = some r) : PCalls Tryz.prog G E 194 [.v (.int .i64 v)] [] (.v (.string r)) [] := by
  unfold pG_strconv_Itoa at hr
  obtain ⟨⟨h0, h1⟩, hr⟩ := gd_some hr
  cases hr
  have hs : (Lib.decDigits v.toNat).length ≤ 10 := dec_len 9 _ (by omega)
  refine PCalls.libV (vs := [.int .i64 v]) (x := .string ⟨(Lib.decDigits v.toNat).toArray⟩) (fn := Tryz.f194) (by kernel_rfl) (by kernel_rfl) rfl (by show (Lib.decDigits v.toNat).toArray.size ≤ _; simp; omega) fun w hE => ?_
  refine Calls.mono (Any.strconv_Itoa Go.Proofs.YthjkndcfihodgaaGreatDoor.Tryz.laysItoa v (by omega) (by omega) w (hcl.tab w hE)) ?_
  rintro e w' ⟨rfl, k, os, rfl⟩
  refine ⟨by simp [Lib.itoa, show ¬ v < 0 from by omega], ⟨rfl, rfl, rfl, by simp, fun b hb => Sort.heap_grow_old (w.drewN k) os hb⟩⟩
theorem c194 (hcl : Cl G E) (fuel : Nat) : Ctr Tryz.prog G E (o194 fuel) := fun v r hr => itoa_calls hcl v r hr
end
end Go.Px
