/- The small machine over plain values, further: texts Qw, QB, QC, T0, GZ, QL, QP1, QP2, QP3, QP4, QP5, QP6, QP7, QP8, QP9, QP10, QP11, QP12, QR1, QR2, QR3, QR4, QR5, QR6, QT1. -/
import Derived.Test.YtjglknaojfnllaaGreatQC
import Derived.ProofKit
import Derived.Deep.Slices
import Derived.OpenShut
import Derived.Below
import Derived.Test.YtjglknaojfnllaaGreatProg
set_option linter.unusedSimpArgs false
set_option linter.unusedVariables false
set_option linter.constructorNameAsVariable false
namespace Go.Px
open Go.RowKit
/-! ### What the code is worked out to be is what it does -/
theorem leafC_wk {own : Option Nat} {p : PV} {x : LeafI} {lf : Leaf} (h : leafC own p = some x) (hi : InL x lf) : wkS p (cellC own lf) := by
  unfold leafC at h
  split at h
  · cases own with
    | some id => cases h
    | none => cases h; exact .inr (.inr (.inr (.inl ⟨_, lf, rfl, rfl, hi⟩)))
  · cases h; obtain ⟨k, rfl⟩ := hi
    cases own with
    | some id =>
      show wkS .nil (ownR id k [])
      unfold ownR
      split
      · exact .inr (.inr (.inr (.inr (.nil k))))
      · exact .inr (.inl ⟨rfl, true, k, rfl⟩)
    | none => exact .inr (.inl ⟨rfl, false, k, rfl⟩)
  · rename_i k l
    split at h
    case h_2 => cases h
    rename_i hk
    cases h; have e : lf = _ := hi; subst e
    cases own with
    | some id =>
      show wkS (.row true k l) (ownR id k l)
      unfold ownR
      simp only [ownOk] at hk
      split
      · rename_i hd
        rw [hd] at hk
        exact .inr (.inr (.inr (.inr (.flat k l hk))))
      · exact .inl rfl
    | none => exact .inr (.inr (.inl ⟨_, _, rfl, rfl⟩))
  · rename_i k l
    cases h; have e : lf = _ := hi; subst e
    cases own with
    | some id =>
      show wkS (.drow k l) (ownR id k l)
      unfold ownR
      split
      · exact .inl rfl
      · exact .inr (.inr (.inr (.inr (.own k l))))
    | none => exact .inr (.inr (.inr (.inr (.row k l))))
  · cases own with
    | some id => cases h
    | none => cases h; have e : lf = _ := hi; subst e; exact .inl rfl
  · cases h
theorem leafsC_wk {js : List (Nat × Nat)} : ∀ {ps : List PV} {ls : List LeafI} {lfs : List Leaf} {j : Nat}, leafsC js j ps = some ls → All2 InL ls lfs → All2 wkS ps (stoR js j lfs)
  | [], ls, lfs, j, h, hi => by
    cases h
    cases lfs with
    | nil => trivial
    | cons _ _ => exact hi.elim
  | p :: ps, ls, lfs, j, h, hi => by
    unfold leafsC at h
    split at h
    · rename_i a l h1 h2
      cases h
      cases lfs with
      | nil => exact hi.elim
      | cons lf lfs =>
        exact ⟨leafC_wk h1 hi.1, leafsC_wk h2 hi.2⟩
    · cases h
theorem Sh.decC_wk : ∀ {sh : Sh} {p : PV} {x : sh.V}, sh.decC p = some x → wk1 p (sh.encC x) := by
  intro sh p x h
  unfold Sh.decC at h
  split at h
  · rename_i k k' n
    split at h
    · rename_i e; subst e; cases h; exact .inl (.inl rfl)
    · cases h
  · cases h; exact .inl (.inl rfl)
  · cases h; exact .inl (.inl rfl)
  · split at h
    · rename_i y hy
      exact .inl (leafC_wk hy (LeafI.list_spec h))
    · cases h
  · split at h
    · rename_i y hy
      exact .inl (leafC_wk hy (LeafI.list_spec h))
    · cases h
  · split at h
    · rename_i l hl
      exact .inr ⟨_, _, rfl, rfl, leafsC_wk hl (ofLeaves_spec h)⟩
    · cases h
  · split at h
    · rename_i l e1 e2
      cases h
      obtain ⟨rfl, rfl⟩ := castL_some e2
      obtain rfl := Nat.eq_of_beq_eq_true e1
      exact .inl (.inl rfl)
    · cases h
  · cases h
theorem plDecC_wk : ∀ {l : List Sh} {ps : List PV} {x : PL l}, plDecC l ps = some x → All2 wk1 ps (plEncC l x) := by
  intro l
  induction l with
  | nil =>
    intro ps x h
    cases ps with
    | nil => trivial
    | cons _ _ => cases h
  | cons a l ih =>
    intro ps x h
    cases l with
    | nil =>
      match ps, h with
      | [p], h => exact ⟨Sh.decC_wk (sh := a) h, trivial⟩
      | [], h => cases h
      | _ :: _ :: _, h => cases h
    | cons b l =>
      match ps, h with
      | p :: ps, h =>
        unfold plDecC at h
        split at h
        · rename_i x1 y1 h1 h2
          cases h
          exact ⟨Sh.decC_wk h1, ih h2⟩
        · cases h
      | [], h => cases h
theorem Ro.decL_wk {o : Ro} {qs : List PV} {r : o.V} (h : o.decL qs = some r) : All2 wk1 qs (o.encL r) := by
  unfold Ro.decL at h
  split at h
  · exact ⟨Sh.decC_wk h, trivial⟩
  · cases h
  · exact plDecC_wk h
theorem eqC0_spec {p q : PV} (h : eqC0 p q = true) : p = q := by
  unfold eqC0 at h
  split at h
  · simp only [Bool.and_eq_true] at h
    obtain ⟨h1, h2, h3, h4⟩ := h
    rw [Nat.eq_of_beq_eq_true h1, Nat.eq_of_beq_eq_true h2, Nat.eq_of_beq_eq_true h3, Nat.eq_of_beq_eq_true h4]
  · rfl
  · rfl
  · cases h
theorem eqCL_spec : ∀ {l m : List PV}, eqCL l m = true → l = m
  | [], [], _ => rfl
  | p :: ps, q :: qs, h => by
    unfold eqCL at h
    rw [Bool.and_eq_true] at h
    rw [eqC0_spec h.1, eqCL_spec h.2]
  | [], _ :: _, h => by cases h
  | _ :: _, [], h => by cases h
theorem eqC_spec {p q : PV} (h : eqC p q = true) : p = q := by
  unfold eqC at h
  split at h
  · rw [Bool.and_eq_true] at h
    rw [Nat.eq_of_beq_eq_true h.1, eqCL_spec h.2]
  · exact eqC0_spec h
theorem wk1_refl (p : PV) : wk1 p p := .inl (.inl rfl)
theorem joinA_wk : ∀ {pat : List (Option PV)} {args ds zs es : List PV}, splitA pat args = some ds → All2 wk1 (ds ++ zs) es → All2 wk1 args (joinA pat es).1 ∧ All2 wk1 zs (joinA pat es).2
  | [], [], ds, zs, es, h, hw => by cases h; exact ⟨trivial, hw⟩
  | [], _ :: _, _, _, _, h, _ => by cases h
  | none :: ps, [], _, _, _, h, _ => by cases h
  | some c :: ps, [], _, _, _, h, _ => by cases h
  | none :: ps, p :: l, ds, zs, es, h, hw => by
    unfold splitA at h
    split at h
    · rename_i ds' h1
      cases h
      cases es with
      | nil => exact hw.elim
      | cons e es =>
        have := joinA_wk h1 hw.2
        exact ⟨⟨hw.1, this.1⟩, this.2⟩
    · cases h
  | some c :: ps, p :: l, ds, zs, es, h, hw => by
    unfold splitA at h
    split at h
    · rename_i hc
      obtain rfl := eqC_spec hc
      have := joinA_wk h hw
      have e : joinA (some p :: ps) es = (p :: (joinA ps es).1, (joinA ps es).2) := by cases es <;> rfl
      rw [e]
      exact ⟨⟨wk1_refl _, this.1⟩, this.2⟩
    · cases h
theorem isAgg_no {p : PV} (h : isAgg p = false) : ∀ cs, p ≠ .agg cs := fun cs e => by rw [e] at h; cases h
theorem wk1_na {p q : PV} (h : isAgg p = false) (hw : wk1 p q) : wkS p q := by
  rcases hw with h' | ⟨cs, ds, e, _, _⟩
  · exact h'
  · exact absurd e (isAgg_no h cs)
theorem wkS_refl (p : PV) : wkS p p := .inl rfl
theorem All2_refl {R : PV → PV → Prop} (h : ∀ p, R p p) : ∀ {l : List PV}, All2 R l l
  | [] => trivial
  | p :: l => ⟨h p, All2_refl h⟩
theorem wkS_agg {cs : List PV} {q : PV} (h : wkS (.agg cs) q) : q = .agg cs := by
  rcases h with h | ⟨h, _⟩ | ⟨_, _, h, _⟩ | ⟨_, _, h, _⟩ | h
  · exact h.symm
  · cases h
  · cases h
  · cases h
  · cases h
theorem wk1_agg {cs : List PV} {q : PV} (h : wk1 (.agg cs) q) : ∃ ds, q = .agg ds ∧ All2 wkS cs ds := by
  rcases h with h | ⟨cs', ds, e, h, hw⟩
  · exact ⟨cs, wkS_agg h, All2_refl wkS_refl⟩
  · cases e; exact ⟨ds, h, hw⟩
theorem wkS_na {p q : PV} (h : isAgg p = false) (hw : wkS p q) : isAgg q = false := by
  rcases hw with h' | ⟨_, _, _, h'⟩ | ⟨_, _, _, h'⟩ | ⟨_, lf, _, h', _⟩ | h'
  · rw [← h']; exact h
  · rw [h']; rfl
  · rw [h']; rfl
  · rw [h']; cases lf <;> rfl
  · cases h' <;> rfl
theorem xC_na {q : PV} (h : isAgg q = false) : xC q = [q] := by
  cases q <;> first | rfl | cases h
theorem unX_wk {sh : Sh} {cs : List PV} {p q : PV} (h : unX sh cs = some p) (hw : wk1 p q) : All2 wkS cs (xC q) := by
  unfold unX at h
  split at h
  · cases h
    obtain ⟨ds, rfl, hd⟩ := wk1_agg hw
    exact hd
  · split at h
    · cases h
    · rename_i hna
      cases h
      have hna : isAgg p = false := by simpa using hna
      have hs := wk1_na hna hw
      rw [xC_na (wkS_na hna hs)]
      exact ⟨hs, trivial⟩
  · cases h
theorem unXs_wk : ∀ {shs : List Sh} {xs : List (List PV)} {ps qs : List PV}, unXs shs xs = some ps → All2 wk1 ps qs → All2 (All2 wkS) xs (qs.map xC)
  | [], [], ps, qs, h, hw => by
    cases h
    cases qs with
    | nil => trivial
    | cons _ _ => exact hw.elim
  | [], _ :: _, _, _, h, _ => by cases h
  | _ :: _, [], _, _, h, _ => by cases h
  | sh :: l, cs :: xs, ps, qs, h, hw => by
    unfold unXs at h
    split at h
    · rename_i p ps' h1 h2
      cases h
      cases qs with
      | nil => exact hw.elim
      | cons q qs => exact ⟨unX_wk h1 hw.1, unXs_wk h2 hw.2⟩
    · cases h
theorem unR_wk : ∀ {shs : List Sh} {n : Nat} {qs rs es : List PV}, unR shs n qs = some rs → All2 wk1 rs es → All2 wk1 qs (es.take n ++ ((es.drop n).map xC).map .agg)
  | [], n, [], rs, es, h, hw => by
    cases h
    cases es with
    | nil => simp; trivial
    | cons _ _ => exact hw.elim
  | [], _, _ :: _, _, _, h, _ => by cases h
  | _ :: _, 0, [], _, _, h, _ => by cases h
  | _ :: _, _ + 1, [], _, _, h, _ => by cases h
  | sh :: l, n + 1, q :: qs, rs, es, h, hw => by
    unfold unR at h
    split at h
    · rename_i r h1
      cases h
      cases es with
      | nil => exact hw.elim
      | cons e es => exact ⟨hw.1, unR_wk h1 hw.2⟩
    · cases h
  | sh :: l, 0, q :: qs, rs, es, h, hw => by
    unfold unR at h
    split at h
    · rename_i cs
      split at h
      · rename_i p r h1 h2
        cases h
        cases es with
        | nil => exact hw.elim
        | cons e es =>
          have ih := unR_wk h2 hw.2
          exact ⟨.inr ⟨_, _, rfl, rfl, unX_wk h1 hw.1⟩, ih⟩
      · cases h
    · cases h
theorem unR_wk0 {shs : List Sh} {qs rs es : List PV} (h : unR shs 0 qs = some rs) (hw : All2 wk1 rs es) : All2 wk1 qs ((es.map xC).map .agg) := unR_wk (n := 0) h hw
theorem wk1_aggL {bs es : List PV} (h : bs.any isAgg = false) (hw : All2 wk1 bs es) : All2 wkS bs es := by
  induction bs generalizing es with
  | nil => cases es with
    | nil => trivial
    | cons _ _ => exact hw.elim
  | cons b bs ih => cases es with
    | nil => exact hw.elim
    | cons e es =>
      rw [List.any_cons, Bool.or_eq_false_iff] at h
      exact ⟨wk1_na h.1 hw.1, ih h.2 hw.2⟩
theorem unE_wk {ln : Bool} {l : List Sh} {qs rs es : List PV} (h : unE ln l qs = some rs) (hw : All2 wk1 rs es) : All2 wk1 qs (.agg (gbE ln es) :: (exE ln es).map .agg) := by
  match qs, h with
  | .agg bs :: qs1, h =>
    cases ln with
    | true =>
      match qs1, h with
      | [], h =>
        have h : (match bs.any isAgg with | false => some bs | true => none) = some rs := h
        cases hb : bs.any isAgg with
        | true => rw [hb] at h; cases h
        | false =>
          rw [hb] at h
          cases h
          exact ⟨.inr ⟨_, _, rfl, rfl, wk1_aggL hb hw⟩, trivial⟩
      | _ :: _, h => cases h
    | false =>
      match bs, h with
      | [], h => exact ⟨.inr ⟨[], [], rfl, rfl, trivial⟩, unR_wk0 h hw⟩
      | _ :: _, h => cases h
theorem unQ_wk {ln : Bool} : ∀ {shs : List Sh} {n : Nat} {qs rs es : List PV}, unQ ln shs n qs = some rs → All2 wk1 rs es → All2 wk1 qs (es.take n ++ .agg (gbE ln (es.drop n)) :: (exE ln (es.drop n)).map .agg)
  | shs, 0, qs, rs, es, h, hw => by
    have h : unE ln shs qs = some rs := by cases shs <;> exact h
    exact unE_wk h hw
  | [], n + 1, qs, rs, es, h, hw => by cases h
  | _ :: _, n + 1, [], rs, es, h, hw => by cases h
  | _ :: l, n + 1, q :: qs, rs, es, h, hw => by
    unfold unQ at h
    split at h
    · rename_i r h1
      cases h
      cases es with
      | nil => exact hw.elim
      | cons e es => exact ⟨hw.1, unQ_wk h1 hw.2⟩
    · cases h
theorem sigL_spec : ∀ {cs ds : List PV}, sigL cs ds = true → cs.map isOwnR = ds.map isOwnR
  | [], [], _ => rfl
  | c :: cs, d :: ds, h => by
    have h : ((isOwnR c == isOwnR d) && sigL cs ds) = true := h
    rw [Bool.and_eq_true] at h
    rw [List.map_cons, List.map_cons, sigL_spec h.2, eq_of_beq h.1]
  | [], _ :: _, h => by cases h
  | _ :: _, [], h => by cases h
theorem sigE_spec {p q : PV} (h : sigE p q = true) : sig1 p = sig1 q := by
  by_cases ha : ∃ cs, p = .agg cs
  · obtain ⟨cs, rfl⟩ := ha
    by_cases hb : ∃ ds, q = .agg ds
    · obtain ⟨ds, rfl⟩ := hb
      show (true, _) = (true, _)
      rw [sigL_spec h]
    · exfalso
      cases q <;> first | (cases h; done) | exact hb ⟨_, rfl⟩
  · have e2 : sig1 p = (false, [isOwnR p]) := by cases p <;> first | rfl | exact absurd ⟨_, rfl⟩ ha
    have hb : ¬ ∃ ds, q = .agg ds := by
      rintro ⟨ds, rfl⟩
      cases p <;> first | (cases h; done) | exact ha ⟨_, rfl⟩
    have e3 : sig1 q = (false, [isOwnR q]) := by cases q <;> first | rfl | exact absurd ⟨_, rfl⟩ hb
    have h : (isOwnR p == isOwnR q) = true := by
      unfold sigE at h
      split at h
      · exact absurd ⟨_, rfl⟩ ha
      · exact absurd ⟨_, rfl⟩ ha
      · exact absurd ⟨_, rfl⟩ hb
      · exact h
    rw [e2, e3, eq_of_beq h]
theorem sigA_spec : ∀ {cs ds : List PV}, sigA cs ds = true → cs.map sig1 = ds.map sig1
  | [], [], _ => rfl
  | c :: cs, d :: ds, h => by
    have h : (sigE c d && sigA cs ds) = true := h
    rw [Bool.and_eq_true] at h
    rw [List.map_cons, List.map_cons, sigA_spec h.2, sigE_spec h.1]
  | [], _ :: _, h => by cases h
  | _ :: _, [], h => by cases h
theorem oneOr_gb {l : List PV} (h : ∀ p ∈ l, isGb p = false) : isGb (oneOr l) = false := by
  match l, h with
  | [], _ => rfl
  | [p], h => exact h p (by simp)
  | _ :: _ :: _, _ => rfl
theorem encC_gb {sh : Sh} {x : sh.V} : isGb (sh.encC x) = false := by
  cases sh <;> try rfl
  case own k id => show isGb (ownR id k x) = false; unfold ownR; split <;> rfl
theorem plEncC_gb : ∀ {l : List Sh} {x : PL l}, ∀ p ∈ plEncC l x, isGb p = false := by
  intro l
  induction l with
  | nil => intro x p hp; cases hp
  | cons a l ih =>
    intro x p hp
    cases l with
    | nil => rw [List.mem_singleton.1 hp]; exact encC_gb
    | cons b l =>
      rcases List.mem_cons.1 hp with rfl | hp
      · exact encC_gb
      · exact ih p hp
theorem Orc.ret_gb {o : Orc} {r : o.out.V} (h : lnQ o.nx = false) : isGb (o.ret r) = false := by
  unfold Orc.ret
  rw [h]
  refine oneOr_gb fun p hp => ?_
  have hp := List.mem_of_mem_take hp
  obtain ⟨f, pat, ins, nx, out, pf⟩ := o
  cases out with
  | one sh => rw [List.mem_singleton.1 hp]; exact encC_gb
  | tup l => exact plEncC_gb p hp
theorem sigQ_spec {o : Orc} {r : o.out.V} {avs bs : List PV} (h : sigQ o.nx avs bs = true) : isGb (o.ret r) = false ∨ avs.map sig1 = bs.map sig1 := by
  unfold sigQ at h
  split at h
  · exact .inr (sigA_spec h)
  · rename_i hl; exact .inl (Orc.ret_gb hl)
section
variable {P : Program} {G : Nat} {E : World → Prop}
/-- A contract: where the function gives something, the call does. -/
def Ctr (P : Program) (G : Nat) (E : World → Prop) (o : Orc) : Prop := ∀ v r, o.p v = some r → PCalls P G E o.f (o.args v) (o.exts v) (o.ret r) (o.back r)
theorem bd_some {α β : Type} {o : Option α} {f : α → Option β} {r : β} (h : bd o f = some r) : ∃ a, o = some a ∧ f a = some r := Option.bind_eq_some_iff.1 h
theorem orcK_sound {β : Type} {f : FuncId} {args : List PV} {exts : List (List PV)} {K : PV → List (List PV) → Option β} {r : β} : ∀ {C : List Orc}, (∀ o ∈ C, Ctr P G E o) → orcK C f args exts K = some r → ∃ v ys, PCalls P G E f args exts v ys ∧ K v ys = some r
  | [], _, h => by cases h
  | o :: C, hC, h => by
    have ih := orcK_sound (f := f) (args := args) (exts := exts) (r := r) (C := C) (K := K) fun o ho => hC o (List.mem_cons_of_mem _ ho)
    unfold orcK at h
    split at h
    · rename_i hf
      split at h
      · rename_i ds hds
        split at h
        · rename_i xs hxs
          split at h
          · rename_i v hv
            split at h
            · rename_i hsig
              obtain ⟨x, h3, h4⟩ := bd_some h
              obtain rfl := Nat.eq_of_beq_eq_true hf
              obtain ⟨w1, w2⟩ := joinA_wk hds (plDecC_wk hv)
              exact ⟨_, _, (hC o (List.mem_cons_self ..) v x h3).argsX w1 (unXs_wk hxs w2) (sigQ_spec hsig), h4⟩
            · exact ih h
          · exact ih h
        · exact ih h
      · exact ih h
    · exact ih h
theorem br_some {β : Type} {b : Bool} {x y : Option β} {r : β} (h : br b x y = some r) : (b = true ∧ x = some r) ∨ (b = false ∧ y = some r) := by
  unfold br at h
  cases b <;> simp at h
  · exact .inr ⟨rfl, h⟩
  · exact .inl ⟨rfl, h⟩
theorem cmpN_some {α β : Type} {l : List α} {x y : Option β} {r : β} (h : cmpN l x y = some r) : y = some r ∧ (l = [] → x = some r) := by
  unfold cmpN at h
  rcases br_some h with ⟨h1, h2⟩ | ⟨h1, h2⟩
  · split at h2
    · rename_i e; exact ⟨h2, fun _ => e.trans h2⟩
    · cases h2
  · exact ⟨h2, fun e => by subst e; cases h1⟩
theorem spl_spec : ∀ {l i : List Oper} {o : Oper}, spl l = some (i, o) → l = i ++ [o]
  | [], _, _, h => by cases h
  | [o], _, _, h => by cases h; rfl
  | o :: o2 :: l, i, z, h => by
    unfold spl at h
    split at h
    · rename_i i' z' h1; cases h; rw [spl_spec h1]; rfl
    · cases h
theorem nilCmp_spec {o : Oper} {x : Operand} {d : Nat} (h : nilCmp o = some (x, d)) : ∃ t t' k, o.op = .binOp .eql t x (.const (.slice none 0 0)) t' ∧ o.guard = none ∧ o.dst = some d ∧ slK t = some k := by
  unfold nilCmp at h
  split at h
  · rename_i t x' t' d' h1 h2 h3
    split at h
    · rename_i k hk; cases h; exact ⟨t, t', k, h1, h2, h3, hk⟩
    · cases h
  · cases h
theorem nilLast_spec {draw : Bool} {l i : List Oper} {x : Operand} {d : Nat} (h : nilLast draw l = some (i, x, d)) : draw = false ∧ ∃ o t t' k, l = i ++ [o] ∧ o.op = .binOp .eql t x (.const (.slice none 0 0)) t' ∧ o.guard = none ∧ o.dst = some d ∧ slK t = some k := by
  unfold nilLast at h
  split at h
  · rename_i i' o hs
    split at h
    · rename_i x' d' hc
      cases h
      obtain ⟨t, t', k, q⟩ := nilCmp_spec hc
      exact ⟨rfl, o, t, t', k, spl_spec hs, q⟩
    · cases h
  · cases h
theorem jn_some {V β : Type} {o : Option (V ⊕ β)} {f : V → Option β} {r : β} (h : jn o f = some r) : (∃ v, o = some (.inl v) ∧ f v = some r) ∨ o = some (.inr r) := by
  unfold jn at h
  obtain ⟨s, h1, h2⟩ := bd_some h
  cases s with
  | inl v => exact .inl ⟨v, h1, h2⟩
  | inr x => cases h2; exact .inr h1
variable {C : List Orc}
theorem Eff.ev_sound {α β : Type} (hC : ∀ o ∈ C, Ctr P G E o) : ∀ (e : Eff α) (s : Sto) (K : α → Sto → List Nat → List Nat → Option β) (res : β), e.ev C s K = some res → ∃ a s' r w, e.Run (PCalls P G E) s a s' r w ∧ K a s' r w = some res
  | .ret a, s, K, res, h => ⟨a, s, [], [], ⟨rfl, rfl, rfl, rfl⟩, h⟩
  | .fail, _, _, _, h => by cases h
  | .rd id k, s, K, res, h => by
    obtain ⟨a, s', r, w, h1, h2⟩ := Eff.ev_sound hC (k (s id)) s _ res h
    exact ⟨a, s', id :: r, w, ⟨r, rfl, h1⟩, h2⟩
  | .wr id e k, s, K, res, h => by
    obtain ⟨a, s', r, w, h1, h2⟩ := Eff.ev_sound hC k (upd s id e) _ res h
    exact ⟨a, s', r, id :: w, ⟨w, rfl, h1⟩, h2⟩
  | .guard p d k, s, K, res, h => by
    obtain ⟨hp, h⟩ := gd_some h
    obtain ⟨a, s', r, w, h1, h2⟩ := Eff.ev_sound hC k s _ res h
    exact ⟨a, s', r, w, ⟨hp, h1⟩, h2⟩
  | .opt o k, s, K, res, h => by
    obtain ⟨x, hx, h⟩ := bd_some h
    obtain ⟨a, s', r, w, h1, h2⟩ := Eff.ev_sound hC (k x) s _ res h
    exact ⟨a, s', r, w, ⟨x, hx, h1⟩, h2⟩
  | .call f args exts k, s, K, res, h => by
    obtain ⟨v, ys, hv, h⟩ := orcK_sound hC h
    obtain ⟨a, s', r, w, h1, h2⟩ := Eff.ev_sound hC (k v ys) s _ res h
    exact ⟨a, s', r, w, ⟨v, ys, hv, h1⟩, h2⟩
  | .ite b x y, s, K, res, h => by
    rcases br_some h with ⟨hb, h⟩ | ⟨hb, h⟩
    · obtain ⟨a, s', r, w, h1, h2⟩ := Eff.ev_sound hC x s _ res h
      exact ⟨a, s', r, w, .inl ⟨hb, h1⟩, h2⟩
    · obtain ⟨a, s', r, w, h1, h2⟩ := Eff.ev_sound hC y s _ res h
      exact ⟨a, s', r, w, .inr ⟨hb, h1⟩, h2⟩
theorem upd_id {α : Type} {f : Nat → α} {i : Nat} {a : α} (h : f i = a) : upd f i a = f := by
  funext j
  unfold upd
  split
  · rename_i e; rw [e, h]
  · rfl
theorem rev_sound {β : Type} {ops : Array Oper} (hC : ∀ o ∈ C, Ctr P G E o) : ∀ (rest : List Oper) (i : Nat) (kn : List (Nat × Bool)) (ε : Env) (K : List Ft → Env → Option β) (res : β), (∀ j o, rest[j]? = some o → ops[i + j]? = some o) → rev C ops rest i kn ε K = some res →
    ∃ l ε', ORun (PCalls P G E) eop ops l ε ε' ∧ l.map (·.1) = List.range' i rest.length ∧ K l ε' = some res
  | [], i, kn, ε, K, res, _, h => ⟨[], ε, .nil ε, rfl, h⟩
  | o :: rest, i, kn, ε, K, res, hi, h => by
    have h0 : ops[i]? = some o := hi 0 o rfl
    have hi' : ∀ j o', rest[j]? = some o' → ops[i + 1 + j]? = some o' := fun j o' hj => by have := hi (j + 1) o' (by simpa using hj); rw [show i + 1 + j = i + (j + 1) by omega]; exact this
    have step : ∀ t kn', t = ε.t → wantedP ops o ε.t = some true → ((eop o t).ev C ε.s fun v s' r w => rev C ops rest (i + 1) kn' ⟨putE o.dst v t, s'⟩ fun l ε' => K ((i, r, w) :: l) ε') = some res →
        ∃ l ε', ORun (PCalls P G E) eop ops l ε ε' ∧ l.map (·.1) = List.range' i (o :: rest).length ∧ K l ε' = some res := by
      rintro t kn' rfl hw h
      obtain ⟨v, s', r, w, h1, h2⟩ := Eff.ev_sound hC _ _ _ _ h
      obtain ⟨l, ε', h3, h4, h5⟩ := rev_sound hC rest (i + 1) _ _ _ res hi' h2
      exact ⟨_, ε', .cons h0 (.inl ⟨hw, v, s', h1, rfl⟩) h3, by simp [h4, List.range'_succ], h5⟩
    have skip : ∀ t kn', t = ε.t → wantedP ops o ε.t = some false → (rev C ops rest (i + 1) kn' ⟨putE o.dst .un t, ε.s⟩ fun l ε' => K ((i, [], []) :: l) ε') = some res →
        ∃ l ε', ORun (PCalls P G E) eop ops l ε ε' ∧ l.map (·.1) = List.range' i (o :: rest).length ∧ K l ε' = some res := by
      rintro t kn' rfl hw h
      obtain ⟨l, ε', h3, h4, h5⟩ := rev_sound hC rest (i + 1) _ _ _ res hi' h
      exact ⟨_, ε', .cons h0 (.inr ⟨hw, rfl, rfl, rfl⟩) h3, by simp [h4, List.range'_succ], h5⟩
    unfold rev at h
    simp only at h
    split at h
    · rename_i hg
      exact step _ _ rfl (by unfold wantedP; rw [hg]) h
    · rename_i g want hg
      split at h
      · rename_i hd
        exact skip _ _ rfl (by unfold wantedP; rw [hg]; simp only [hd]) h
      · rename_i d hd
        split at h
        · rename_i b hb
          have hw : wantedP ops o ε.t = some (b == want) := by unfold wantedP; rw [hg]; simp only [hd, hb]
          split at h
          · split at h
            · exact step _ _ rfl hw h
            · exact step _ _ rfl hw h
            · exact skip _ _ rfl hw h
            · exact skip _ _ rfl hw h
          · cases want with
            | true =>
              rcases br_some h with ⟨hbt, h⟩ | ⟨hbt, h⟩ <;> subst hbt
              · exact step _ _ (upd_id hb) hw h
              · exact skip _ _ (upd_id hb) hw h
            | false =>
              rcases br_some h with ⟨hbt, h⟩ | ⟨hbt, h⟩ <;> subst hbt
              · exact skip _ _ (upd_id hb) hw h
              · exact step _ _ (upd_id hb) hw h
        · rename_i hb
          exact skip _ _ rfl (by unfold wantedP; rw [hg]; simp only [hd, hb]) h
        · cases h
theorem XW.gq {X : Ctx} {nt : Nat} {c : Code} {ε : Env} {Q : Exit → Env → Prop} (h : XW P X nt c ε fun e ε' => ∃ ε2, Gh X nt ε' ε2 ∧ Q e ε2) : XW P X nt c ε Q := fun a w hg =>
  wp_mono (h a w hg) fun e a' w' ⟨ε', h1, ε2, h2, h3⟩ => ⟨ε2, h2 a' w' h1, h3⟩
theorem nodN_B : ∀ {l : List Nat}, nodN l = true → nodupB l = true
  | [], _ => rfl
  | x :: l, h => by
    simp only [nodN, nodupB, Bool.and_eq_true, Bool.not_eq_true', List.any_eq_false] at h ⊢
    refine ⟨?_, nodN_B h.2⟩
    simp only [List.contains_eq_any_beq, List.any_eq_false]
    intro y hy e
    have := h.1 y hy
    exact this (by rw [beq_iff_eq] at e; rw [e]; exact Nat.beq_refl _)
/-- The body fits the tables: each operation's operands lie within the slots. -/
def codeB (nt : Nat) : Code → Bool
  | .region _ ops _ => opsB nt ops.toList
  | .seq x y => codeB nt x && codeB nt y
  | .cond c x y => opndB nt c && (codeB nt x && codeB nt y)
  | .block _ c => codeB nt c
  | .loop c => codeB nt c
  | _ => true
theorem map_inl {V β : Type} {o : Option V} {v : V} (h : o.map (Sum.inl (β := β)) = some (.inl v)) : o = some v := by
  cases o with
  | none => cases h
  | some x => cases h; rfl
theorem map_inr {V β : Type} {o : Option β} {v : β} (h : o.map (Sum.inr (α := V)) = some (.inr v)) : o = some v := by
  cases o with
  | none => cases h
  | some x => cases h; rfl
theorem cev_sound (hC : ∀ o ∈ C, Ctr P G E o) (hF : Facts P) (hm : P.follows .mixedOrders = true) {T : Tab} {nx fuel : Nat} {X : Ctx} (hE : X.E = E) (hG : X.G = G) (hX : XOk nx X) {nt : Nat} :
    ∀ (c : Code) (hb : codeB nt c = true) {β : Type} (ε : Env) (K : Exit → Env → Option β) (r : β) (Q : Exit → Env → Prop), cev C T nx fuel c ε K = some r → (∀ e ε', K e ε' = some r → Q e ε') → XW P X nt c ε Q := by
  intro c
  induction c with
  | skip => intro _ β ε K r Q h hQ; exact XW.skip (hQ _ _ h)
  | label l => intro _ β ε K r Q h hQ; exact XW.label (hQ _ _ h)
  | exit id => intro _ β ε K r Q h hQ; exact XW.exit (hQ _ _ h)
  | ret => intro _ β ε K r Q h hQ; exact XW.ret (hQ _ _ h)
  | seq x y ihx ihy =>
    intro hb β ε K r Q h hQ
    have hb : (codeB nt x && codeB nt y) = true := hb
    rw [Bool.and_eq_true] at hb
    unfold cev at h
    refine XW.seq ?_
    split at h
    · refine ihx hb.1 ε _ r _ h fun e ε' hk => ?_
      cases e with
      | normal => exact ihy hb.2 ε' K r Q hk hQ
      | _ => exact hQ _ _ hk
    · rename_i sh _
      obtain ⟨v, h1, h2⟩ := bd_some h
      refine ihx hb.1 ε _ v _ h1 fun e ε' hk => ?_
      cases e with
      | normal => exact XW.gh (Shape.dec_gh hX hk) (ihy hb.2 _ K r Q h2 hQ)
      | _ => cases hk
    · rename_i sh _
      rcases jn_some h with ⟨v, h1, h2⟩ | h1
      · refine ihx hb.1 ε _ _ _ h1 fun e ε' hk => ?_
        cases e with
        | normal => exact XW.gh (Shape.dec_gh hX (map_inl hk)) (ihy hb.2 _ K r Q h2 hQ)
        | _ => simp at hk
      · refine ihx hb.1 ε _ _ _ h1 fun e ε' hk => ?_
        cases e with
        | normal => simp at hk
        | _ => exact hQ _ _ (map_inr hk)
  | cond c x y ihx ihy =>
    intro hb β ε K r Q h hQ
    have hb : (opndB nt c && (codeB nt x && codeB nt y)) = true := hb
    rw [Bool.and_eq_true, Bool.and_eq_true] at hb
    unfold cev at h
    split at h
    · rename_i b hc
      refine XW.cond hc (fun d e => ?_) (fun hbt => ?_) (fun hbf => ?_)
      · subst e; simpa [opndB] using hb.1
      · subst hbt
        exact ihx hb.2.1 ε K r Q h hQ
      · subst hbf
        exact ihy hb.2.2 ε K r Q h hQ
    · cases h
  | block id c ih =>
    intro hb β ε K r Q h hQ
    unfold cev at h
    refine XW.block (ih hb ε _ r _ h fun e ε' hk => ?_)
    cases e with
    | exit id' =>
      simp only at hk
      show (if id' = id then Q .normal ε' else Q (.exit id') ε')
      split at hk
      · rename_i e; rw [if_pos (Nat.eq_of_beq_eq_true e)]; exact hQ _ _ hk
      · rename_i e; rw [if_neg (fun e2 => by rw [e2, Nat.beq_refl] at e; cases e)]; exact hQ _ _ hk
    | _ => exact hQ _ _ hk
  | loop c ih =>
    intro hb β ε K r Q h hQ
    unfold cev at h
    split at h
    · cases h
    · rename_i si id so _
      split at h
      · cases h
      · rename_i v hv
        obtain ⟨o, h1, h2⟩ := bd_some h
        refine XW.gq (XW.loop (fun n ε => ∃ v, Gh X nt ε (si.enc v) ∧ loopF _ n v = some o) fuel ⟨v, Shape.dec_gh hX hv, h1⟩ fun n ε ⟨v, hgh, hl⟩ => XW.gh hgh ?_)
        cases n with
        | zero => cases hl
        | succ n =>
          unfold loopF at hl
          split at hl
          · cases hl
          · rename_i v' hb'
            refine ih hb _ _ _ _ hb' fun e ε' hk => ?_
            cases e with
            | normal => exact ⟨n, Nat.lt_succ_self n, v', Shape.dec_gh hX (map_inl hk), hl⟩
            | exit id' =>
              simp only at hk
              split at hk
              · simp at hk
              · cases hk
            | _ => cases hk
          · rename_i o' hb'
            cases hl
            refine ih hb _ _ _ _ hb' fun e ε' hk => ?_
            cases e with
            | normal => simp at hk
            | exit id' =>
              simp only at hk
              split at hk
              · rename_i e; rw [Nat.eq_of_beq_eq_true e]; exact ⟨_, Shape.dec_gh hX (map_inr hk), hQ _ _ h2⟩
              · cases hk
            | _ => cases hk
    · rename_i si id so _
      split at h
      · cases h
      · rename_i v hv
        have key : ∃ x, loopF (fun v => cev C T nx fuel c (β := EL si.es ⊕ (EL so.es ⊕ β)) (si.enc v) fun e ε' => match e with
            | .normal => (si.dec nx ε').map .inl
            | .exit id' => (match Nat.beq id' id with
              | true => (so.dec nx ε').map fun o => .inr (.inl o)
              | false => (K (.exit id') ε').map fun r => .inr (.inr r))
            | e => (K e ε').map fun r => .inr (.inr r)) fuel v = some x ∧ ((∃ o, x = .inl o ∧ K (.exit id) (so.enc o) = some r) ∨ x = .inr r) := by
          rcases jn_some h with ⟨o, q1, q2⟩ | q1
          · exact ⟨_, q1, .inl ⟨o, rfl, q2⟩⟩
          · exact ⟨_, q1, .inr rfl⟩
        obtain ⟨x, h1, h2⟩ := key
        refine XW.gq (XW.loop (fun n ε => ∃ v, Gh X nt ε (si.enc v) ∧ loopF _ n v = some x) fuel ⟨v, Shape.dec_gh hX hv, h1⟩ fun n ε ⟨v, hgh, hl⟩ => XW.gh hgh ?_)
        cases n with
        | zero => cases hl
        | succ n =>
          unfold loopF at hl
          split at hl
          · cases hl
          · rename_i v' hb'
            refine ih hb _ _ _ _ hb' fun e ε' hk => ?_
            cases e with
            | normal => exact ⟨n, Nat.lt_succ_self n, v', Shape.dec_gh hX (map_inl hk), hl⟩
            | exit id' =>
              simp only at hk
              split at hk
              · simp at hk
              · simp at hk
            | _ => simp at hk
          · rename_i o' hb'
            cases hl
            refine ih hb _ _ _ _ hb' fun e ε' hk => ?_
            have out : ∀ e ε', (K e ε').map (fun r => (Sum.inr (Sum.inr r) : EL si.es ⊕ (EL so.es ⊕ β))) = some (.inr x) → K e ε' = some r := by
              intro e ε' hk
              cases hq : K e ε' with
              | none => rw [hq] at hk; cases hk
              | some y =>
                rw [hq] at hk
                rcases h2 with ⟨o, rfl, _⟩ | rfl
                · simp at hk
                · simp at hk; rw [hk]
            cases e with
            | normal => simp at hk
            | exit id' =>
              simp only at hk
              split at hk
              · rename_i e
                rw [Nat.eq_of_beq_eq_true e]
                cases hq : so.dec nx ε' with
                | none => rw [hq] at hk; cases hk
                | some o =>
                  rw [hq] at hk
                  rcases h2 with ⟨o', rfl, h2⟩ | rfl
                  · simp at hk
                    subst hk
                    exact ⟨_, Shape.dec_gh hX hq, hQ _ _ h2⟩
                  · simp at hk
              · exact ⟨_, fun _ _ h => h, hQ _ _ (out _ _ hk)⟩
            | _ => exact ⟨_, fun _ _ h => h, hQ _ _ (out _ _ hk)⟩
  | region id ops draw =>
    intro hb β ε K r Q h hQ
    have hb : opsB nt ops.toList = true := hb
    have eo : ops = ops.toList.toArray := by simp
    unfold cev at h
    split at h
    · rename_i i x d hn
      obtain ⟨rfl, o, t, t', k0, el, ho, hgu, hdst, hk⟩ := nilLast_spec hn
      obtain ⟨ft, ε', h1, h2, h3⟩ := rev_sound hC (ops := ops) i 0 [] ε _ r (fun j o' hj => by
        have : ops.toList[j]? = some o' := by rw [el, List.getElem?_append_left (List.getElem?_eq_some_iff.1 hj).1]; exact hj
        simpa using this) h
      have eo : ops = (i ++ [o]).toArray := by rw [← el]
      have hb : opsB nt (i ++ [o]) = true := by rw [← el]; exact hb
      have hb2 := opsB_sound hF hE hG hb
      have hx : opndB nt x = true := by
        have : (operB nt o && dstB nt o) = true := List.all_eq_true.1 hb o (by simp)
        rw [Bool.and_eq_true] at this
        have h0 := this.1
        unfold operB at h0
        rw [ho] at h0
        simp [Op.operands] at h0
        exact h0.1
      rw [eo]
      refine XW.regionN hF hb2.1 hb2.2 ho hgu hdst hx hk ⟨ft, ε', by rw [← eo]; exact h1, h2, fun S w' β' σ u hv => ?_⟩
      split at h3
      · rename_i own k l he
        rw [he] at hv
        obtain ⟨h4, h5⟩ := cmpN_some h3
        obtain ⟨a, cap, e1, _, _, h6⟩ := (show Row S w' k u l from hv.2)
        cases a with
        | none =>
          have hl : l = [] := by
            by_cases hl : l = []
            · exact hl
            · obtain ⟨_, _, h7, _⟩ := h6 hl; cases h7
          exact ⟨none, _, _, e1, hQ _ _ (h5 hl)⟩
        | some p => exact ⟨some p, _, _, e1, hQ _ _ h4⟩
      · rename_i he
        rw [he] at hv
        have e1 : u = .slice none 0 0 := hv
        exact ⟨none, _, _, e1, hQ _ _ h3⟩
      · cases h3
    · rename_i hn
      split at h
      · obtain ⟨ft, ε', h1, h2, h3⟩ := rev_sound hC (ops := ops) ops.toList 0 [] ε _ r (fun j o hj => by simpa using hj) h
        have h4 : K .normal ε' = some r ∧ (draw = true → orderOk ops ft = true) := by
          split at h3
          · exact ⟨h3, fun h => nomatch h⟩
          · split at h3
            · rename_i ho; exact ⟨h3, fun _ => ho⟩
            · cases h3
        cases draw with
        | false => rw [eo]; exact XW.reg hF hE hG hb ⟨ft, ε', by rw [← eo]; exact h1, h2, hQ _ _ h4.1⟩
        | true => rw [eo]; exact XW.drw hF hE hG hm hb ⟨ft, ε', by rw [← eo]; exact h1, h2, by rw [← eo]; exact h4.2 rfl, hQ _ _ h4.1⟩
      · rename_i sh _
        obtain ⟨v, h1, h2⟩ := bd_some h
        obtain ⟨ft, ε', q1, q2, q3⟩ := rev_sound hC (ops := ops) ops.toList 0 [] ε _ v (fun j o hj => by simpa using hj) h1
        have h4 : sh.dec nx ε' = some v ∧ (draw = true → orderOk ops ft = true) := by
          split at q3
          · exact ⟨q3, fun h => nomatch h⟩
          · split at q3
            · rename_i ho; exact ⟨q3, fun _ => ho⟩
            · cases q3
        refine XW.gq ?_
        cases draw with
        | false => rw [eo]; exact XW.reg hF hE hG hb ⟨ft, ε', by rw [← eo]; exact q1, q2, _, Shape.dec_gh hX h4.1, hQ _ _ h2⟩
        | true => rw [eo]; exact XW.drw hF hE hG hm hb ⟨ft, ε', by rw [← eo]; exact q1, q2, by rw [← eo]; exact h4.2 rfl, _, Shape.dec_gh hX h4.1, hQ _ _ h2⟩
  | _ => intro _ β ε K r Q h; cases h
theorem csn : ∀ o ∈ ([] : List Orc), Ctr P G E o := fun _ h => by cases h
theorem csc {o : Orc} {l : List Orc} (h : Ctr P G E o) (hs : ∀ x ∈ l, Ctr P G E x) : ∀ x ∈ o :: l, Ctr P G E x := fun x hx => by
  rcases List.mem_cons.1 hx with rfl | hx
  · exact h
  · exact hs x hx
/-- What is asked of the arguments and boxes as such: by looking. -/
def okB (nt nx : Nat) (avs : List PV) (xs : List (List PV)) : Bool := lentOk (lnQ nx) avs xs.length && (xs.all (fun cs => cs.all cellOk) && (Nat.ble avs.length nt && (Nat.ble avs.length 1000 && (Nat.beq xs.length (nxB nx) && (Nat.ble (nxB nx) 49 && (Nat.ble (lentL (lnQ nx) avs).length (nxL nx) && xs.all fun cs => Nat.ble cs.length 1000))))))
/-- The contract of a function out of the working out of its body. -/
theorem Ctr.mk (hC : ∀ o ∈ C, Ctr P G E o) (hF : Facts P) (hm : P.follows .mixedOrders = true) (hcl : ∀ w w' : World, E w → (∀ b, b < G → w'.heap[b]? = w.heap[b]?) → E w') {o : Orc} (T : Tab) (fuel : Nat) {fn : Func} {c : Code} (hf : P.funcs[o.f]? = some fn) (hb : fn.body = some c)
    (hB : ((fn.name == "runtime.NumGoroutine") == false && codeB fn.ntmps c) = true) (hok : ∀ v, okB fn.ntmps o.nx (o.args v) (o.exts v) = true) (hel : ∀ v r, (o.back r).map List.length = (o.exts v).map List.length) (h : ∀ v, fev C T o.nx fuel fn o.pat o.ins o.out v = o.p v) : Ctr P G E o := fun v r hr => by
  rw [← h v] at hr
  simp only [Bool.and_eq_true, beq_iff_eq] at hB
  obtain ⟨b1, b2⟩ := hB
  have hv := hok v
  unfold okB at hv
  simp only [Bool.and_eq_true] at hv
  obtain ⟨k1, k2, k3, k4, k5, k6, k8, k7⟩ := hv
  have k5 := Nat.eq_of_beq_eq_true k5
  refine PCalls.mk hF hcl hf b1 hb k1 k2 (Nat.le_of_ble_eq_true k3) (by rw [k5]; exact Nat.le_of_ble_eq_true k6) (fun cs hcs => Nat.le_of_ble_eq_true (List.all_eq_true.1 k7 cs hcs)) (Nat.le_of_ble_eq_true k4) (fun X hE hX hG hR => ?_) (hel v r)
  unfold fev at hr
  rw [hb] at hr
  refine XW.gq (cev_sound hC hF hm hE hG ⟨hX.trans k5, fun q u n hq => Nat.lt_of_lt_of_le (hR q u n hq) (Nat.le_of_ble_eq_true k8)⟩ c b2 _ _ r _ hr fun e ε' hk => ⟨outE o.nx fn.results.toList ε', unf_gh _ _, ?_⟩)
  have fin : ∀ ε', finE fn.ntmps o.nx fn.results.toList (o.exts v).length (lentL (lnQ o.nx) (o.args v)) o.out ε' = some r → retX fn.ntmps fn.results.toList (o.exts v).length (lentL (lnQ o.nx) (o.args v)) (o.res r) (o.gbs r) (o.back r) .ret ε' := by
    intro ε' hk
    unfold finE at hk
    split at hk
    · cases hk
    · rename_i vs hvs
      split at hk
      · cases hk
      · rename_i cs hcs
        split at hk
        · cases hk
        · rename_i qs A B hcl
          split at hk
          · rename_i hn
            rw [Bool.and_eq_true] at hn
            split at hk
            · rename_i rs hrs
              exact ⟨vs, cs, qs, A, B, hvs, hcs, hcl, nodN_B hn.1, hn.2, unQ_wk hrs (Ro.decL_wk hk)⟩
            · cases hk
          · cases hk
  cases e with
  | normal => exact fin _ hk
  | ret => exact fin _ hk
  | _ => cases hk
/-- A function that calls itself. -/
theorem Ctr.rec {f : FuncId} {pat : List (Option PV)} {ins : List Sh} {nx : Nat} {out : Ro} {B : (PL ins → Option out.V) → PL ins → Option out.V} (h : ∀ slf, Ctr P G E ⟨f, pat, ins, nx, out, slf⟩ → Ctr P G E ⟨f, pat, ins, nx, out, B slf⟩) : ∀ n, Ctr P G E ⟨f, pat, ins, nx, out, recF B n⟩
  | 0 => fun v r hr => by cases hr
  | n + 1 => h _ (Ctr.rec h n)
end
end Go.Px
namespace Go.Px
open Go.RowKit Go.Deep
/-! ### From a statement's own reading of its arguments to lists -/
/-- A cell of the kind that a zero names. -/
def shp : Leaf → Leaf → Prop
  | .sc (.int k _), .sc (.int k' _) => k' = k
  | .sc (.string _), .sc (.string _) => True
  | .sc (.bool _), .sc (.bool _) => True
  | .nest k _, .nest k' _ => k' = k
  | _, _ => False
theorem shp_int {k : IntKind} {n : Int} {lf : Leaf} (h : shp (.sc (.int k n)) lf) : ∃ m, lf = .sc (.int k m) := by
  cases lf with
  | sc v => cases v <;> first | exact h.elim | (obtain rfl : _ = _ := h; exact ⟨_, rfl⟩)
  | nest => exact h.elim
theorem shp_str {s : ByteArray} {lf : Leaf} (h : shp (.sc (.string s)) lf) : ∃ m, lf = .sc (.string m) := by
  cases lf with
  | sc v => cases v <;> first | exact ⟨_, rfl⟩ | exact h.elim
  | nest => exact h.elim
theorem shp_bool {s : Bool} {lf : Leaf} (h : shp (.sc (.bool s)) lf) : ∃ m, lf = .sc (.bool m) := by
  cases lf with
  | sc v => cases v <;> first | exact ⟨_, rfl⟩ | exact h.elim
  | nest => exact h.elim
theorem shp_nest {k : K} {l : List (ty k)} {lf : Leaf} (h : shp (.nest k l) lf) : ∃ m, lf = .nest k m := by
  cases lf with
  | sc v => exact h.elim
  | nest k' l' => obtain rfl : k' = k := h; exact ⟨_, rfl⟩
theorem shp_cons {z : Leaf} {zs lfs : List Leaf} (h : All2 shp (z :: zs) lfs) : ∃ l t, lfs = l :: t ∧ shp z l ∧ All2 shp zs t := by
  cases lfs with
  | nil => exact h.elim
  | cons l t => exact ⟨l, t, rfl, h.1, h.2⟩
theorem shp_nil {lfs : List Leaf} (h : All2 shp [] lfs) : lfs = [] := by
  cases lfs with
  | nil => rfl
  | cons => exact h.elim
set_option maxRecDepth 20000 in
theorem leaves_of : ∀ {k : K} {lfs : List Leaf}, All2 shp (leaves (zK k)) lfs → ∃ x, ofLeaves k (lfs.map leafIn) = some x := by
  intro k lfs h
  cases k
  all_goals
    repeat
      obtain ⟨_, _, e0, h0, h'⟩ := shp_cons h
      clear h
      subst e0
      have h := h'
      clear h'
      first
        | (obtain ⟨_, rfl⟩ := shp_int h0; clear h0)
        | (obtain ⟨_, rfl⟩ := shp_str h0; clear h0)
        | (obtain ⟨_, rfl⟩ := shp_bool h0; clear h0)
        | (obtain ⟨_, rfl⟩ := shp_nest h0; clear h0)
    obtain rfl := shp_nil h
    exact ⟨_, rfl⟩
/-- Cells read as leaves of these kinds, all memory being of the world as it is. -/
def RdL (w : World) (zs : List Leaf) (cs : List Value) : Prop := ∃ lfs, All2 shp zs lfs ∧ All2 (LeafV (fun b => b < w.heap.size) w) lfs cs
theorem RdL.app {w : World} : ∀ {z1 z2 : List Leaf} {c1 c2 : List Value}, RdL w z1 c1 → RdL w z2 c2 → RdL w (z1 ++ z2) (c1 ++ c2)
  | z1, z2, c1, c2, ⟨l1, a1, b1⟩, ⟨l2, a2, b2⟩ => ⟨l1 ++ l2, All2.app a1 a2, All2.app b1 b2⟩
theorem RdL.len {w : World} {zs : List Leaf} {cs : List Value} (h : RdL w zs cs) : cs.length = zs.length := by
  obtain ⟨l, a, b⟩ := h
  rw [← b.len, ← a.len]
theorem leafIn_InL {lfs ls : List Leaf} {w : World} {S : Nat → Prop} : ∀ {cs : List Value}, All2 InL (lfs.map leafIn) ls → All2 (LeafV S w) lfs cs → ls = lfs := by
  induction lfs generalizing ls with
  | nil => intro cs h _; cases ls with
    | nil => rfl
    | cons => exact h.elim
  | cons a lfs ih =>
    intro cs h hv
    cases ls with
    | nil => exact h.elim
    | cons b ls =>
      cases cs with
      | nil => exact hv.elim
      | cons c cs =>
        rw [ih h.2 hv.2]
        congr 1
        cases a with
        | sc v => exact h.1 hv.1.2
        | nest k l => exact h.1
/-- An element out of its cells. -/
theorem RdL.elem {w : World} {k : K} {cs : List Value} (h : RdL w (leaves (zK k)) cs) : ∃ x : ty k, All2 (LeafV (fun b => b < w.heap.size) w) (leaves x) cs := by
  obtain ⟨lfs, a, b⟩ := h
  obtain ⟨x, hx⟩ := leaves_of a
  refine ⟨x, ?_⟩
  rw [leafIn_InL (ofLeaves_spec hx) b]
  exact b
def Reads (P : Program) (t : TypeId) (zs : List Leaf) : Prop := ∀ (H : Type) (enc : TypeId × Value → H) (w : World) (base : Nat) (spare : Nat → Bool) (held : Bool) (fuel : Nat) (cs : List Value) (x : DataW H × List MemPlace),
    DataW.trod enc P w base spare held fuel t cs = some x → RdL w zs cs
section
variable {P : Program}
theorem wf_lit {k : IntKind} {n : Int} (h : (Lit.int k n).wf = true) : wfV (.int k n) := by
  refine (wrap_iff k n).2 ?_
  cases k <;> simp [Lit.wf, IntKind.min, IntKind.max, IntKind.signed, IntKind.bits, loK, hiK] at h ⊢ <;> omega
theorem reads_int {t : TypeId} {k : IntKind} (ht : P.underlying t = some (.int k)) : Reads P t [.sc (.int k 0)] := by
  intro H enc w base spare held fuel cs x h
  obtain ⟨n, rfl, _, hw⟩ := DataW.trod_int ht h
  exact ⟨[.sc (.int k n)], ⟨rfl, trivial⟩, ⟨rfl, wf_lit hw⟩, trivial⟩
theorem reads_bool {t : TypeId} (ht : P.underlying t = some .bool) : Reads P t [.sc (.bool false)] := by
  intro H enc w base spare held fuel cs x h
  obtain ⟨b, rfl, _⟩ := DataW.trod_bool ht h
  exact ⟨[.sc (.bool b)], ⟨trivial, trivial⟩, ⟨rfl, trivial⟩, trivial⟩
theorem reads_str {t : TypeId} (ht : P.underlying t = some .string) : Reads P t [.sc (.string ByteArray.empty)] := by
  intro H enc w base spare held fuel cs x h
  obtain ⟨s, rfl, _, hs⟩ := DataW.trod_string ht h
  exact ⟨[.sc (.string s)], ⟨trivial, trivial⟩, ⟨rfl, hs⟩, trivial⟩
theorem cell_block {w : World} {a : Addr} {v : Value} (h : w.cell? a = some v) : a.block < w.heap.size := by
  unfold World.cell? at h
  split at h
  · rename_i e; exact (Array.getElem?_eq_some_iff.1 e).1
  · cases h
theorem reads_slice {k : K} {t : TypeId} (ht : P.underlying t = some (.slice (tid k))) (hC : P.cellsOf (tid k) = size k) (he : Reads P (tid k) (leaves (zK k))) : Reads P t [.nest k []] := by
  intro H enc w base spare held fuel cs x h
  rcases open_slice ht h with ⟨rfl, _⟩ | ⟨⟨b, off, spot⟩, len, cap, m, n, D, Pl, rfl, hb, hl, hm, hmm, hx, hi⟩
  · exact ⟨[.nest k []], ⟨rfl, trivial⟩, Row.nil, trivial⟩
  · have hp := size_pos k
    have hlm : len ≤ m := by rw [hmm]; split <;> omega
    have hspot : 0 < len → spot = none := by
      intro h0
      obtain ⟨cs', hcs, htr⟩ := hi 0 (by omega)
      obtain ⟨_, hlen, hat⟩ := World.cells?_some hcs
      rw [hC] at hat hlen
      have hc := (hat 0 hp).trans (List.getElem?_eq_getElem (show 0 < cs'.length by omega))
      have := World.cell?_spot hc
      simpa [Addr.add] using this
    have H1 : ∀ i : Fin len, ∃ y : ty k, spot = none ∧ b < w.heap.size ∧ ∀ (j : Nat) lf, (leaves y)[j]? = some lf → ∃ u, w.cell? ⟨b, off + (i.1 * size k + j), none⟩ = some u ∧ LeafV (fun b => b < w.heap.size) w lf u := by
      intro i
      obtain ⟨cs', hcs, htr⟩ := hi i.1 (by omega)
      obtain ⟨_, hlen, hat⟩ := World.cells?_some hcs
      rw [hC] at hlen hat
      obtain ⟨y, hy⟩ := (he _ _ _ _ _ _ _ _ _ htr).elem
      have hc0 := (hat 0 hp).trans (List.getElem?_eq_getElem (show 0 < cs'.length by omega))
      have hspot := hspot (Nat.lt_of_le_of_lt (Nat.zero_le _) i.2)
      subst hspot
      have hblk : b < w.heap.size := by
        have := cell_block hc0
        rw [addr_add, addr_add] at this
        exact this
      refine ⟨y, rfl, hblk, fun j lf hlf => ?_⟩
      obtain ⟨u, hu, hv⟩ := hy.get j lf hlf
      have hj : j < size k := by have := (List.getElem?_eq_some_iff.1 hlf).1; rwa [leaves_len] at this
      have hc := (hat j hj).trans hu
      rw [addr_add, addr_add] at hc
      exact ⟨u, by rw [← Nat.add_assoc]; exact hc, hv⟩
    have hm' : len ≤ 9223372036854775807 := Nat.le_trans hl hm
    refine ⟨[.nest k (List.ofFn fun i => (H1 i).choose)], ⟨rfl, trivial⟩, ?_, trivial⟩
    have hlen : (List.ofFn fun i => (H1 i).choose).length = len := by simp
    have := Row.make (S := fun b => b < w.heap.size) (w := w) (k := k) (l := List.ofFn fun i => (H1 i).choose) (a := some ⟨b, off, spot⟩) (cap := cap) (by rw [hlen]; exact hl) (by rw [hlen]; exact hm') fun hne => by
      have h0 : 0 < len := by
        rcases Nat.eq_zero_or_pos len with h0 | h0
        · subst h0; simp at hne
        · exact h0
      obtain ⟨hs, hblk, _⟩ := (H1 ⟨0, h0⟩).choose_spec
      refine ⟨b, off, by rw [hs], hblk, fun i x hx j lf hlf => ?_⟩
      have hi' : i < len := by rw [← hlen]; exact (List.getElem?_eq_some_iff.1 hx).1
      have hx' : x = (H1 ⟨i, hi'⟩).choose := by
        rw [List.getElem?_ofFn] at hx
        simp [hi'] at hx
        exact hx.symm
      subst hx'
      exact (H1 ⟨i, hi'⟩).choose_spec.2.2 j lf hlf
    rw [hlen] at this
    exact this
def sameZ : List Leaf → List Leaf → Bool
  | [], [] => true
  | .sc (.int k _) :: l, .sc (.int k' _) :: m => decide (k' = k) && sameZ l m
  | .sc (.string _) :: l, .sc (.string _) :: m => sameZ l m
  | .sc (.bool _) :: l, .sc (.bool _) :: m => sameZ l m
  | .nest k _ :: l, .nest k' _ :: m => decide (k' = k) && sameZ l m
  | _, _ => false
theorem sameZ_spec : ∀ {l m : List Leaf}, sameZ l m = true → ∀ {lfs : List Leaf}, All2 shp l lfs → All2 shp m lfs
  | [], [], _, lfs, h => h
  | a :: l, b :: m, hs, lfs, h => by
    cases lfs with
    | nil => exact h.elim
    | cons c lfs =>
      unfold sameZ at hs
      split at hs
      · rename_i h1 h2; cases h1
      · rename_i k n l1 k' n' m1 h1 h2
        cases h1; cases h2
        rw [Bool.and_eq_true] at hs
        obtain rfl := of_decide_eq_true hs.1
        obtain ⟨q, rfl⟩ := shp_int h.1
        exact ⟨rfl, sameZ_spec hs.2 h.2⟩
      · rename_i h1 h2
        cases h1; cases h2
        obtain ⟨q, rfl⟩ := shp_str h.1
        exact ⟨trivial, sameZ_spec hs h.2⟩
      · rename_i h1 h2
        cases h1; cases h2
        obtain ⟨q, rfl⟩ := shp_bool h.1
        exact ⟨trivial, sameZ_spec hs h.2⟩
      · rename_i k n l1 k' n' m1 h1 h2
        cases h1; cases h2
        rw [Bool.and_eq_true] at hs
        obtain rfl := of_decide_eq_true hs.1
        obtain ⟨q, rfl⟩ := shp_nest h.1
        exact ⟨rfl, sameZ_spec hs.2 h.2⟩
      · cases hs
  | [], _ :: _, hs, _, _ => by cases hs
  | .sc v :: _, [], hs, _, _ => by cases v <;> simp [sameZ] at hs
  | .nest _ _ :: _, [], hs, _, _ => by cases hs
/-- The kinds of a type's cells, worked out of the program. -/
def fieldsZ (P : Program) (r : TypeId → Option (List Leaf)) : Nat → List Field → Option (List Leaf)
  | _, [] => some []
  | off, f :: fs => match Nat.beq f.offset off, r f.type with
    | true, some z => (match Nat.beq (P.cellsOf f.type) z.length with
      | true => (match fieldsZ P r (off + z.length) fs with
        | some zs => some (z ++ zs)
        | none => none)
      | false => none)
    | _, _ => none
def rdT (P : Program) : Nat → TypeId → Option (List Leaf)
  | 0, _ => none
  | n + 1, t => match P.underlying t with
    | some (.int k) => some [.sc (.int k 0)]
    | some .string => some [.sc (.string ByteArray.empty)]
    | some .bool => some [.sc (.bool false)]
    | some (.slice e) => (match slK t with
      | some k => (match Nat.beq e (tid k), Nat.beq (P.cellsOf (tid k)) (size k), rdT P n (tid k) with
        | true, true, some zs => (match sameZ zs (leaves (zK k)) with
          | true => some [.nest k []]
          | false => none)
        | _, _, _ => none)
      | none => none)
    | some (.struct fs) => (match fieldsZ P (rdT P n) 0 fs.toList with
      | some zs => (match Nat.beq (P.cellsOf t) zs.length with
        | true => some zs
        | false => none)
      | none => none)
    | _ => none
theorem fieldsZ_rd {r : TypeId → Option (List Leaf)} {w : World} {cs : List Value} : ∀ {fs : List Field} {off : Nat} {zs : List Leaf}, fieldsZ P r off fs = some zs → cs.length = off + zs.length →
    (∀ (i : Nat) f z, fs[i]? = some f → r f.type = some z → RdL w z ((cs.drop f.offset).take (P.cellsOf f.type))) → RdL w zs (cs.drop off)
  | [], off, zs, h, hl, _ => by
    cases h
    rw [List.drop_eq_nil_of_le (by simp at hl; omega)]
    exact ⟨[], trivial, trivial⟩
  | f :: fs, off, zs, h, hl, hf => by
    unfold fieldsZ at h
    split at h
    case h_2 => cases h
    rename_i z h1 h2
    split at h
    case h_2 => cases h
    rename_i h3
    split at h
    case h_2 => cases h
    rename_i zs' h4
    cases h
    have h5 := Nat.eq_of_beq_eq_true h1
    have h6 := Nat.eq_of_beq_eq_true h3
    have q1 := hf 0 f z rfl h2
    rw [h5, h6] at q1
    have q2 := fieldsZ_rd (off := off + z.length) h4 (by rw [List.length_append] at hl; omega) fun i f z hi hz => hf (i + 1) f z (by simpa using hi) hz
    have := q1.app q2
    rwa [show (cs.drop off).take z.length ++ cs.drop (off + z.length) = cs.drop off by rw [← List.drop_drop]; exact List.take_append_drop ..] at this
theorem rdT_reads : ∀ {n : Nat} {t : TypeId} {zs : List Leaf}, rdT P n t = some zs → Reads P t zs
  | 0, _, _, h => by cases h
  | n + 1, t, zs, h => by
    unfold rdT at h
    split at h
    · rename_i k ht; cases h; exact reads_int ht
    · rename_i ht; cases h; exact reads_str ht
    · rename_i ht; cases h; exact reads_bool ht
    · rename_i e ht
      split at h
      case h_2 => cases h
      rename_i k hk
      split at h
      case h_2 => cases h
      rename_i zs' h1 h2 h3
      split at h
      case h_2 => cases h
      rename_i h4
      cases h
      have e1 := Nat.eq_of_beq_eq_true h1
      have e2 := Nat.eq_of_beq_eq_true h2
      subst e1
      refine reads_slice ht e2 fun H enc w base spare held fuel cs x hx => ?_
      obtain ⟨l, a, b⟩ := rdT_reads h3 H enc w base spare held fuel cs x hx
      exact ⟨l, sameZ_spec h4 a, b⟩
    · rename_i fs ht
      split at h
      case h_2 => cases h
      rename_i zs' h1
      split at h
      case h_2 => cases h
      rename_i h2
      cases h
      have e2 := Nat.eq_of_beq_eq_true h2
      intro H enc w base spare held fuel cs x hx
      obtain ⟨xs, m, _, _, hC, hl, hf⟩ := DataW.trod_struct ht hx
      have := fieldsZ_rd (P := P) (w := w) (cs := cs) (off := 0) h1 (by rw [hC, e2, Nat.zero_add]) fun i f z hi hz => by
        have g := hf i f (by simpa using hi)
        have hix : i < xs.length := by rw [hl]; simpa using (List.getElem?_eq_some_iff.1 hi).1
        rw [List.getElem?_eq_getElem hix] at g
        exact rdT_reads hz H enc w base spare held m _ _ g
      simpa using this
    · cases h
end
end Go.Px
namespace Go.Px
open Go.RowKit
/-! ### A law's contract, met at arguments that are there -/
section
variable {S : Nat → Prop} {w : World} {β : Nat → Option (Nat × Nat)} {σ : Sto}
theorem own_leaf {lf : Leaf} {u : Value} (h : LeafV S w lf u) : OwnS S w β σ (leafPV lf) u [] := by
  cases lf with
  | sc q => exact ⟨rfl, h⟩
  | nest k l => exact ⟨rfl, rfl, h⟩
theorem own_st {k : K} {x : ty k} {us : List Value} (h : All2 (LeafV S w) (leaves x) us) : Own1 S w β σ ((Sh.st k []).encC x) (.agg us.toArray) [] := by
  refine ⟨us.toArray, rfl, ?_⟩
  have key : ∀ (lfs : List Leaf) (j : Nat) (us : List Value), All2 (LeafV S w) lfs us → All3 (OwnS S w β σ) (stoR [] j lfs) us [] := by
    intro lfs
    induction lfs with
    | nil => intro j us h; cases us with
      | nil => rfl
      | cons => exact h.elim
    | cons a lfs ih => intro j us h; cases us with
      | nil => exact h.elim
      | cons u us => exact ⟨[], [], rfl, own_leaf h.1, ih (j + 1) us h.2⟩
  simpa using key _ 0 us h
theorem own_int {k : IntKind} {n : Int} (h : wfV (.int k n)) : Own1 S w β σ ((Sh.I k).encC n) (.int k n) [] := ⟨rfl, rfl, h⟩
end
theorem law_of {P : Program} {f : FuncId} {fn : Func} {c : Code} (hf : P.funcs[f]? = some fn) (hname : (fn.name == "runtime.NumGoroutine") = false) (hb : fn.body = some c) {args : List PV} {us : List Value} {W : World} (h : PCalls P 0 (fun _ => True) f args [] (.v (.bool true)) []) (ha : All3 (Own1 (fun b => b < W.heap.size) W (extB []) (extS [])) args us []) :
    Calls P f us.toArray W fun e W' => e = .returned (.bool true) ∧ Below W.heap.size W W' := by
  refine Arrive.calls hf hname hb (Arrive.mono (h.2 W (fun b => b < W.heap.size) us [] [] [] (Nat.zero_le _) trivial rfl rfl (by simp) (by simp) (fun b hb => ⟨hb, by simp⟩) ha (fun j p cs L hj => by simp at hj)) ?_)
  rintro e W' ⟨u, Lr, Le', rfl, _, _, _, h5, _, h7⟩
  obtain ⟨_, rfl, _⟩ := h5
  exact ⟨rfl, h7.os, h7.tape, h7.output, h7.size, fun b hb => h7.old b hb (by simp)⟩
end Go.Px
namespace Go.Px
open Go.Proofs
theorem facts : Facts Tryz.prog := Facts.of (by kernel_rfl)
theorem mixed : Tryz.prog.follows .mixedOrders = true := by kernel_rfl
structure Cl (G : Nat) (E : World → Prop) : Prop where
  cl : ∀ w w' : World, E w → (∀ b, b < G → w'.heap[b]? = w.heap[b]?) → E w'
end Go.Px
namespace Go.Px
open Go.Proofs
noncomputable section
def T1005700 : Tab := ⟨[], [], []⟩
def pI_Table_procOf_1 (fuel : Nat) (a1 : IProc) (a2 : Int) : Option (Bool × Int) :=
  some (a1.Pane == a2, a2)
def o1005700 (fuel : Nat) : Orc := ⟨57, [none, some (.ptr 0 0 0 0)], [.st .iProc [], .I .i64], 1, (.tup [.B, .I .i64]), fun v => pI_Table_procOf_1 fuel v.1 v.2⟩
theorem c1005700 {G : Nat} {E : World → Prop} (hcl : Cl G E) (fuel : Nat) : Ctr Tryz.prog G E (o1005700 fuel) := Ctr.mk csn facts mixed hcl.cl T1005700 fuel (fn := Tryz.f57) (by kernel_rfl) rfl (by kernel_rfl) (fun _ => by kernel_rfl) (fun _ _ => by kernel_rfl) (fun _ => by kernel_rfl)
def T1005600 : Tab := ⟨[], [], [(2, true, ⟨[(1, .fn 57 [(0, 0)])], [.bxl 0 [.I .i64], .sl 0 (.row .iProc), .sl 7 (.I .i64), .sl 8 (.I .i64)]⟩, 0, ⟨[], [.bxl 0 [.I .i64]]⟩)]⟩
def pG_slices_IndexFunc_IProc_I_Table_procOf_1_b1 (fuel : Nat) : Int × List IProc × Int × Int → Option ((Int × List IProc × Int × Int) ⊕ (Int ⊕ Int × Int)) := fun (v5, v6, v7, v8) =>
  br (decide (v8 < v7)) (
    gd (0 ≤ v8 ∧ v8 < (↑v6.length : Int)) <|
    bd v6[v8.toNat]? fun x9 =>
    bd (pI_Table_procOf_1 fuel x9 v5) fun (x10, x11) =>
    br x10 (
      some (.inr (.inr (v8, x11)))) <|
    gd (inK IntKind.i64 (v8 + 1)) <|
    some (.inl (x11, v6, v7, v8 + 1))) <|
  some (.inr (.inl v5))
def pG_slices_IndexFunc_IProc_I_Table_procOf_1 (fuel : Nat) (a1 : List IProc) (a2 : Int) : Option (Int × Int) :=
  jn (V := Int) (
    loopF (pG_slices_IndexFunc_IProc_I_Table_procOf_1_b1 fuel) fuel (a2, a1, (↑a1.length : Int), 0)) fun v4 =>
  some (-1, v4)
def o1005600 (fuel : Nat) : Orc := ⟨56, [none, some (.fn 57 [.ptr 0 0 0 0])], [.row .iProc, .I .i64], 1, (.tup [.I .i64, .I .i64]), fun v => pG_slices_IndexFunc_IProc_I_Table_procOf_1 fuel v.1 v.2⟩
theorem c1005600 {G : Nat} {E : World → Prop} (hcl : Cl G E) (fuel : Nat) : Ctr Tryz.prog G E (o1005600 fuel) := Ctr.mk (csc (c1005700 hcl fuel) csn) facts mixed hcl.cl T1005600 fuel (fn := Tryz.f56) (by kernel_rfl) rfl (by kernel_rfl) (fun _ => by kernel_rfl) (fun _ _ => by kernel_rfl) (fun _ => by kernel_rfl)
def T25 : Tab := ⟨[], [], []⟩
def pI_Table_procOf (fuel : Nat) (a1 : ITable) (a2 : Int) : Option Int :=
  bd (pG_slices_IndexFunc_IProc_I_Table_procOf_1 fuel a1.Live a2) fun (x3, x4) =>
  some x3
def o25 (fuel : Nat) : Orc := ⟨25, [none, none], [.st .iTable [], .I .i64], 0, (.one (.I .i64)), fun v => pI_Table_procOf fuel v.1 v.2⟩
theorem c25 {G : Nat} {E : World → Prop} (hcl : Cl G E) (fuel : Nat) : Ctr Tryz.prog G E (o25 fuel) := Ctr.mk (csc (c1005600 hcl fuel) csn) facts mixed hcl.cl T25 fuel (fn := Tryz.f25) (by kernel_rfl) rfl (by kernel_rfl) (fun _ => by kernel_rfl) (fun _ _ => by kernel_rfl) (fun _ => by kernel_rfl)
def T28 : Tab := ⟨[(1, ⟨[], [.sl 6 .B]⟩)], [], []⟩
def pI_within (fuel : Nat) (a1 : Int) (a2 : Int) (a3 : Int) : Option Bool :=
  bd (α := Bool) (
    br (decide (a2 ≤ a1)) (
      some (decide (a1 ≤ a3))) <|
    some false) fun x4 =>
  some x4
def o28 (fuel : Nat) : Orc := ⟨28, [none, none, none], [.I .i64, .I .i64, .I .i64], 0, (.one .B), fun v => pI_within fuel v.1 v.2.1 v.2.2⟩
theorem c28 {G : Nat} {E : World → Prop} (hcl : Cl G E) (fuel : Nat) : Ctr Tryz.prog G E (o28 fuel) := Ctr.mk csn facts mixed hcl.cl T28 fuel (fn := Tryz.f28) (by kernel_rfl) rfl (by kernel_rfl) (fun _ => by kernel_rfl) (fun _ _ => by kernel_rfl) (fun _ => by kernel_rfl)
def T29 : Tab := ⟨[], [], []⟩
def pI_isId (fuel : Nat) (a1 : Int) : Option Bool :=
  bd (pI_within fuel a1 1 1000000) fun x2 =>
  some x2
def o29 (fuel : Nat) : Orc := ⟨29, [none], [.I .i64], 0, (.one .B), fun v => pI_isId fuel v⟩
theorem c29 {G : Nat} {E : World → Prop} (hcl : Cl G E) (fuel : Nat) : Ctr Tryz.prog G E (o29 fuel) := Ctr.mk (csc (c28 hcl fuel) csn) facts mixed hcl.cl T29 fuel (fn := Tryz.f29) (by kernel_rfl) rfl (by kernel_rfl) (fun _ => by kernel_rfl) (fun _ _ => by kernel_rfl) (fun _ => by kernel_rfl)
def T9 : Tab := ⟨[(4, ⟨[(1, .ptr 200 0)], [.sto 200 .iTable [], .sl 6 (.row .iProc), .sl 7 (.I .i64), .sl 8 (.I .i64), .sl 49 .B]⟩)], [], [(2, true, ⟨[(1, .ptr 200 0)], [.sto 200 .iTable [], .sl 6 (.row .iProc), .sl 7 (.I .i64), .sl 8 (.I .i64)]⟩, 0, ⟨[(1, .ptr 200 0)], [.sto 200 .iTable []]⟩)]⟩
def pI_TableOk_b1 (fuel : Nat) : ITable × List IProc × Int × Int → Option ((ITable × List IProc × Int × Int) ⊕ (ITable ⊕ Bool)) := fun (v5, v6, v7, v8) =>
  br (decide (v8 < v7)) (
    gd (0 ≤ v8 ∧ v8 < (↑v6.length : Int)) <|
    bd v6[v8.toNat]? fun x9 =>
    bd (α := ITable × List IProc × Int × Int × Bool) (
      bd (pI_within fuel x9.Pid 1 (IntKind.i64.wrap (v5.Next - 1))) fun x10 =>
      br (!x10) (
        some (v5, v6, v7, v8, true)) <|
      br (decide (0 < v8)) (
        gd (inK IntKind.i64 (v8 - 1)) <|
        gd (0 ≤ v8 - 1 ∧ v8 - 1 < (↑v5.Live.length : Int)) <|
        bd (v5.Live[(v8 - 1).toNat]?) fun x11 =>
        br (decide (x9.Pid ≤ x11.Pid)) (
          some (v5, v6, v7, v8, true)) <|
        bd (pI_isId fuel x9.Pane) fun x12 =>
        br (!x12) (
          some (v5, v6, v7, v8, true)) <|
        bd (pI_Table_procOf fuel v5 x9.Pane) fun x13 =>
        some (v5, v6, v7, v8, x13 != v8)) <|
      bd (pI_isId fuel x9.Pane) fun x14 =>
      br (!x14) (
        some (v5, v6, v7, v8, true)) <|
      bd (pI_Table_procOf fuel v5 x9.Pane) fun x15 =>
      some (v5, v6, v7, v8, x15 != v8)) fun (x16, x17, x18, x19, x20) =>
    br x20 (
      some (.inr (.inr false))) <|
    gd (inK IntKind.i64 (x19 + 1)) <|
    some (.inl (x16, x17, x18, x19 + 1))) <|
  some (.inr (.inl v5))
def pI_TableOk (fuel : Nat) (a1 : ITable) : Option Bool :=
  jn (V := ITable) (
    loopF (pI_TableOk_b1 fuel) fuel (a1, a1.Live, (↑a1.Live.length : Int), 0)) fun v3 =>
  bd (pI_isId fuel v3.Next) fun x4 =>
  some x4
def o9 (fuel : Nat) : Orc := ⟨9, [none], [.st .iTable []], 0, (.one .B), fun v => pI_TableOk fuel v⟩
theorem c9 {G : Nat} {E : World → Prop} (hcl : Cl G E) (fuel : Nat) : Ctr Tryz.prog G E (o9 fuel) := Ctr.mk (csc (c28 hcl fuel) (csc (c29 hcl fuel) (csc (c25 hcl fuel) csn))) facts mixed hcl.cl T9 fuel (fn := Tryz.f9) (by kernel_rfl) rfl (by kernel_rfl) (fun _ => by kernel_rfl) (fun _ _ => by kernel_rfl) (fun _ => by kernel_rfl)
def T52 : Tab := ⟨[], [], []⟩
def pI_isCmd (fuel : Nat) (a1 : ByteArray) : Option Bool :=
  some (decide ((↑a1.size : Int) ≤ 60))
def o52 (fuel : Nat) : Orc := ⟨52, [none], [.S], 0, (.one .B), fun v => pI_isCmd fuel v⟩
theorem c52 {G : Nat} {E : World → Prop} (hcl : Cl G E) (fuel : Nat) : Ctr Tryz.prog G E (o52 fuel) := Ctr.mk csn facts mixed hcl.cl T52 fuel (fn := Tryz.f52) (by kernel_rfl) rfl (by kernel_rfl) (fun _ => by kernel_rfl) (fun _ _ => by kernel_rfl) (fun _ => by kernel_rfl)
def T146 : Tab := ⟨[], [], [(3, true, ⟨[], [.sl 4 (.I .i64), .sl 7 (.row .u8), .sl 8 (.I .i64), .sl 9 (.I .i64)]⟩, 0, ⟨[], [.sl 4 (.I .i64)]⟩)]⟩
def pI_tails_b1 (fuel : Nat) : Int × List UInt8 × Int × Int → Option ((Int × List UInt8 × Int × Int) ⊕ (Int ⊕ Int × Bool)) := fun (v4, v5, v6, v7) =>
  br (decide (v7 < v6)) (
    gd (0 ≤ v7 ∧ v7 < (↑v5.length : Int)) <|
    bd v5[v7.toNat]? fun x8 =>
    gd ((64 : Int) ≠ (0 : Int)) <|
    br (IntKind.u8.wrap ((↑x8.toNat : Int).tdiv (64 : Int)) != (2 : Int)) (
      some (.inr (.inr (0, false)))) <|
    gd (inK IntKind.i64 (64 * v4)) <|
    gd ((64 : Int) ≠ (0 : Int)) <|
    gd (inK IntKind.i64 (64 * v4 + (↑x8.toNat : Int).tmod 64)) <|
    gd (inK IntKind.i64 (v7 + 1)) <|
    some (.inl (64 * v4 + (↑x8.toNat : Int).tmod 64, v5, v6, v7 + 1))) <|
  some (.inr (.inl v4))
def pI_tails (fuel : Nat) (a1 : List UInt8) : Option (Int × Bool) :=
  jn (V := Int) (
    loopF (pI_tails_b1 fuel) fuel (0, a1, (↑a1.length : Int), 0)) fun v3 =>
  some (v3, true)
def o146 (fuel : Nat) : Orc := ⟨146, [none], [.row .u8], 0, (.tup [.I .i64, .B]), fun v => pI_tails fuel v⟩
theorem c146 {G : Nat} {E : World → Prop} (hcl : Cl G E) (fuel : Nat) : Ctr Tryz.prog G E (o146 fuel) := Ctr.mk csn facts mixed hcl.cl T146 fuel (fn := Tryz.f146) (by kernel_rfl) rfl (by kernel_rfl) (fun _ => by kernel_rfl) (fun _ _ => by kernel_rfl) (fun _ => by kernel_rfl)
def T147 : Tab := ⟨[(1, ⟨[], [.sl 2 .B]⟩)], [], []⟩
def pI_Shows (fuel : Nat) (a1 : Int) : Option Bool :=
  bd (α := Bool) (
    bd (pI_within fuel a1 32 126) fun x2 =>
    br x2 (
      some true) <|
    bd (pI_within fuel a1 160 65535) fun x3 =>
    br x3 (
      bd (pI_within fuel a1 55296 57343) fun x4 =>
      some (!x4)) <|
    some false) fun x5 =>
  some x5
def o147 (fuel : Nat) : Orc := ⟨147, [none], [.I .i64], 0, (.one .B), fun v => pI_Shows fuel v⟩
theorem c147 {G : Nat} {E : World → Prop} (hcl : Cl G E) (fuel : Nat) : Ctr Tryz.prog G E (o147 fuel) := Ctr.mk (csc (c28 hcl fuel) csn) facts mixed hcl.cl T147 fuel (fn := Tryz.f147) (by kernel_rfl) rfl (by kernel_rfl) (fun _ => by kernel_rfl) (fun _ _ => by kernel_rfl) (fun _ => by kernel_rfl)
def T113 : Tab := ⟨[(7, ⟨[], [.sl 2 .B]⟩)], [], []⟩
def pI_RuneBegin (fuel : Nat) (a1 : List UInt8) : Option Bool :=
  br ((↑a1.length : Int) == 1) (
    gd ((0 : Int) ≤ (0 : Int) ∧ (0 : Int) < (↑a1.length : Int)) <|
    bd (a1[Int.toNat 0]?) fun x2 =>
    bd (pI_within fuel (↑x2.toNat : Int) 194 239) fun x3 =>
    some x3) <|
  br ((↑a1.length : Int) == 2) (
    gd ((0 : Int) ≤ (1 : Int) ∧ (1 : Int) ≤ (↑a1.length : Int)) <|
    bd (pI_tails fuel (List.drop (Int.toNat 1) a1)) fun (x4, x5) =>
    gd ((0 : Int) ≤ (0 : Int) ∧ (0 : Int) < (↑a1.length : Int)) <|
    bd (a1[Int.toNat 0]?) fun x6 =>
    gd (inK IntKind.i64 ((↑x6.toNat : Int) - 224)) <|
    gd (inK IntKind.i64 (((↑x6.toNat : Int) - 224) * 4096)) <|
    gd (inK IntKind.i64 (x4 * 64)) <|
    gd (inK IntKind.i64 (((↑x6.toNat : Int) - 224) * 4096 + x4 * 64)) <|
    bd (α := Bool) (
      br x5 (
        gd ((0 : Int) ≤ (0 : Int) ∧ (0 : Int) < (↑a1.length : Int)) <|
        bd (a1[Int.toNat 0]?) fun x7 =>
        br (decide (224 ≤ (↑x7.toNat : Int))) (
          br (decide (2048 ≤ ((↑x6.toNat : Int) - 224) * 4096 + x4 * 64)) (
            bd (pI_Shows fuel (((↑x6.toNat : Int) - 224) * 4096 + x4 * 64)) fun x8 =>
            some x8) <|
          some false) <|
        some false) <|
      some false) fun x9 =>
    some x9) <|
  some false
def o113 (fuel : Nat) : Orc := ⟨113, [none], [.row .u8], 0, (.one .B), fun v => pI_RuneBegin fuel v⟩
theorem c113 {G : Nat} {E : World → Prop} (hcl : Cl G E) (fuel : Nat) : Ctr Tryz.prog G E (o113 fuel) := Ctr.mk (csc (c28 hcl fuel) (csc (c146 hcl fuel) (csc (c147 hcl fuel) csn))) facts mixed hcl.cl T113 fuel (fn := Tryz.f113) (by kernel_rfl) rfl (by kernel_rfl) (fun _ => by kernel_rfl) (fun _ _ => by kernel_rfl) (fun _ => by kernel_rfl)
def T149 : Tab := ⟨[], [], []⟩
def pI_areArgs_1 (fuel : Nat) (a1 : Int) : Option Bool :=
  bd (pI_within fuel a1 0 9999) fun x2 =>
  some (!x2)
def o149 (fuel : Nat) : Orc := ⟨149, [none], [.I .i64], 0, (.one .B), fun v => pI_areArgs_1 fuel v⟩
theorem c149 {G : Nat} {E : World → Prop} (hcl : Cl G E) (fuel : Nat) : Ctr Tryz.prog G E (o149 fuel) := Ctr.mk (csc (c28 hcl fuel) csn) facts mixed hcl.cl T149 fuel (fn := Tryz.f149) (by kernel_rfl) rfl (by kernel_rfl) (fun _ => by kernel_rfl) (fun _ _ => by kernel_rfl) (fun _ => by kernel_rfl)
def T1016900 : Tab := ⟨[], [], [(2, true, ⟨[(1, .fn 149 [])], [.sl 0 (.row .int), .sl 7 (.I .i64), .sl 8 (.I .i64)]⟩, 0, ⟨[], []⟩)]⟩
def pG_slices_IndexFunc_int_I_areArgs_1_b1 (fuel : Nat) : List Int × Int × Int → Option ((List Int × Int × Int) ⊕ (Unit ⊕ Int)) := fun (v3, v4, v5) =>
  br (decide (v5 < v4)) (
    gd (0 ≤ v5 ∧ v5 < (↑v3.length : Int)) <|
    bd v3[v5.toNat]? fun x6 =>
    bd (pI_areArgs_1 fuel x6) fun x7 =>
    br x7 (
      some (.inr (.inr v5))) <|
    gd (inK IntKind.i64 (v5 + 1)) <|
    some (.inl (v3, v4, v5 + 1))) <|
  some (.inr (.inl ()))
def pG_slices_IndexFunc_int_I_areArgs_1 (fuel : Nat) (a1 : List Int) : Option Int :=
  jn (V := Unit) (
    loopF (pG_slices_IndexFunc_int_I_areArgs_1_b1 fuel) fuel (a1, (↑a1.length : Int), 0)) fun _ =>
  some (-1)
def o1016900 (fuel : Nat) : Orc := ⟨169, [none, some (.fn 149 [])], [.row .int], 0, (.one (.I .i64)), fun v => pG_slices_IndexFunc_int_I_areArgs_1 fuel v⟩
theorem c1016900 {G : Nat} {E : World → Prop} (hcl : Cl G E) (fuel : Nat) : Ctr Tryz.prog G E (o1016900 fuel) := Ctr.mk (csc (c149 hcl fuel) csn) facts mixed hcl.cl T1016900 fuel (fn := Tryz.f169) (by kernel_rfl) rfl (by kernel_rfl) (fun _ => by kernel_rfl) (fun _ _ => by kernel_rfl) (fun _ => by kernel_rfl)
def T1014800 : Tab := ⟨[], [], []⟩
def pG_slices_ContainsFunc_int_I_areArgs_1 (fuel : Nat) (a1 : List Int) : Option Bool :=
  bd (pG_slices_IndexFunc_int_I_areArgs_1 fuel a1) fun x2 =>
  some (decide (0 ≤ x2))
def o1014800 (fuel : Nat) : Orc := ⟨148, [none, some (.fn 149 [])], [.row .int], 0, (.one .B), fun v => pG_slices_ContainsFunc_int_I_areArgs_1 fuel v⟩
theorem c1014800 {G : Nat} {E : World → Prop} (hcl : Cl G E) (fuel : Nat) : Ctr Tryz.prog G E (o1014800 fuel) := Ctr.mk (csc (c1016900 hcl fuel) csn) facts mixed hcl.cl T1014800 fuel (fn := Tryz.f148) (by kernel_rfl) rfl (by kernel_rfl) (fun _ => by kernel_rfl) (fun _ _ => by kernel_rfl) (fun _ => by kernel_rfl)
def T114 : Tab := ⟨[(1, ⟨[], [.sl 2 .B]⟩)], [], []⟩
def pI_areArgs (fuel : Nat) (a1 : List Int) : Option Bool :=
  bd (α := Bool) (
    br (decide ((↑a1.length : Int) ≤ 8)) (
      bd (pG_slices_ContainsFunc_int_I_areArgs_1 fuel a1) fun x2 =>
      some (!x2)) <|
    some false) fun x3 =>
  some x3
def o114 (fuel : Nat) : Orc := ⟨114, [none], [.row .int], 0, (.one .B), fun v => pI_areArgs fuel v⟩
theorem c114 {G : Nat} {E : World → Prop} (hcl : Cl G E) (fuel : Nat) : Ctr Tryz.prog G E (o114 fuel) := Ctr.mk (csc (c1014800 hcl fuel) csn) facts mixed hcl.cl T114 fuel (fn := Tryz.f114) (by kernel_rfl) rfl (by kernel_rfl) (fun _ => by kernel_rfl) (fun _ _ => by kernel_rfl) (fun _ => by kernel_rfl)
def T81 : Tab := ⟨[(3, ⟨[], [.sl 2 .B]⟩), (5, ⟨[], [.sl 2 .B]⟩), (8, ⟨[], [.sl 2 .B]⟩)], [(8, false, ⟨[(1, .ptr 200 0)], [.sto 200 .iVp [], .sl 44 .B]⟩)], []⟩
def pI_VpOk (fuel : Nat) (a1 : IVp) : Option Bool :=
  br (a1.State == 0) (
    bd (α := Bool) (
      br (!a1.Mark) (
        br ((↑a1.Args.length : Int) == 0) (
          br ((↑a1.Part.length : Int) == 0) (
            some true) <|
          bd (pI_RuneBegin fuel a1.Part) fun x2 =>
          some x2) <|
        some false) <|
      some false) fun x3 =>
    some x3) <|
  br (a1.State == 1) (
    bd (α := Bool) (
      br (!a1.Mark) (
        br ((↑a1.Args.length : Int) == 0) (
          some ((↑a1.Part.length : Int) == 0)) <|
        some false) <|
      some false) fun x4 =>
    some x4) <|
  bd (α := IVp × Bool) (
    br (a1.State == 2) (
      some (a1, a1.State == 2)) <|
    some (a1, a1.State == 3)) fun (x5, x6) =>
  br x6 (
    bd (α := Bool) (
      bd (pI_areArgs fuel x5.Args) fun x7 =>
      br x7 (
        some ((↑x5.Part.length : Int) == 0)) <|
      some false) fun x8 =>
    some x8) <|
  some false
def o81 (fuel : Nat) : Orc := ⟨81, [none], [.st .iVp []], 0, (.one .B), fun v => pI_VpOk fuel v⟩
theorem c81 {G : Nat} {E : World → Prop} (hcl : Cl G E) (fuel : Nat) : Ctr Tryz.prog G E (o81 fuel) := Ctr.mk (csc (c113 hcl fuel) (csc (c114 hcl fuel) csn)) facts mixed hcl.cl T81 fuel (fn := Tryz.f81) (by kernel_rfl) rfl (by kernel_rfl) (fun _ => by kernel_rfl) (fun _ _ => by kernel_rfl) (fun _ => by kernel_rfl)
def T150 : Tab := ⟨[(1, ⟨[], [.sl 4 .B]⟩)], [], []⟩
def pI_isSize (fuel : Nat) (a1 : Int) (a2 : Int) : Option Bool :=
  bd (α := Bool) (
    bd (pI_within fuel a1 1 120) fun x3 =>
    br x3 (
      bd (pI_within fuel a2 1 120) fun x4 =>
      br x4 (
        gd (inK IntKind.i64 (a1 * a2)) <|
        some (decide (a1 * a2 ≤ 4000))) <|
      some false) <|
    some false) fun x5 =>
  some x5
def o150 (fuel : Nat) : Orc := ⟨150, [none, none], [.I .i64, .I .i64], 0, (.one .B), fun v => pI_isSize fuel v.1 v.2⟩
theorem c150 {G : Nat} {E : World → Prop} (hcl : Cl G E) (fuel : Nat) : Ctr Tryz.prog G E (o150 fuel) := Ctr.mk (csc (c28 hcl fuel) csn) facts mixed hcl.cl T150 fuel (fn := Tryz.f150) (by kernel_rfl) rfl (by kernel_rfl) (fun _ => by kernel_rfl) (fun _ _ => by kernel_rfl) (fun _ => by kernel_rfl)
def T117 : Tab := ⟨[(1, ⟨[], [.sl 2 .B]⟩)], [], []⟩
def pI_AttrOk (fuel : Nat) (a1 : IAttr) : Option Bool :=
  bd (α := Bool) (
    bd (pI_within fuel a1.Fg 0 8) fun x2 =>
    br x2 (
      bd (pI_within fuel a1.Bg 0 8) fun x3 =>
      some x3) <|
    some false) fun x4 =>
  some x4
def o117 (fuel : Nat) : Orc := ⟨117, [none], [.st .iAttr []], 0, (.one .B), fun v => pI_AttrOk fuel v⟩
theorem c117 {G : Nat} {E : World → Prop} (hcl : Cl G E) (fuel : Nat) : Ctr Tryz.prog G E (o117 fuel) := Ctr.mk (csc (c28 hcl fuel) csn) facts mixed hcl.cl T117 fuel (fn := Tryz.f117) (by kernel_rfl) rfl (by kernel_rfl) (fun _ => by kernel_rfl) (fun _ _ => by kernel_rfl) (fun _ => by kernel_rfl)
def T172 : Tab := ⟨[(1, ⟨[], [.sl 2 .B]⟩)], [], []⟩
def pI_CellOk (fuel : Nat) (a1 : ICell) : Option Bool :=
  bd (α := Bool) (
    bd (pI_Shows fuel a1.R) fun x2 =>
    br x2 (
      bd (pI_AttrOk fuel a1.A) fun x3 =>
      some x3) <|
    some false) fun x4 =>
  some x4
def o172 (fuel : Nat) : Orc := ⟨172, [none], [.st .iCell []], 0, (.one .B), fun v => pI_CellOk fuel v⟩
theorem c172 {G : Nat} {E : World → Prop} (hcl : Cl G E) (fuel : Nat) : Ctr Tryz.prog G E (o172 fuel) := Ctr.mk (csc (c147 hcl fuel) (csc (c117 hcl fuel) csn)) facts mixed hcl.cl T172 fuel (fn := Tryz.f172) (by kernel_rfl) rfl (by kernel_rfl) (fun _ => by kernel_rfl) (fun _ _ => by kernel_rfl) (fun _ => by kernel_rfl)
def T171 : Tab := ⟨[], [], []⟩
def pI_areCells_1 (fuel : Nat) (a1 : ICell) : Option Bool :=
  bd (pI_CellOk fuel a1) fun x2 =>
  some (!x2)
def o171 (fuel : Nat) : Orc := ⟨171, [none], [.st .iCell []], 0, (.one .B), fun v => pI_areCells_1 fuel v⟩
theorem c171 {G : Nat} {E : World → Prop} (hcl : Cl G E) (fuel : Nat) : Ctr Tryz.prog G E (o171 fuel) := Ctr.mk (csc (c172 hcl fuel) csn) facts mixed hcl.cl T171 fuel (fn := Tryz.f171) (by kernel_rfl) rfl (by kernel_rfl) (fun _ => by kernel_rfl) (fun _ _ => by kernel_rfl) (fun _ => by kernel_rfl)
def T1017700 : Tab := ⟨[], [], [(2, true, ⟨[(1, .fn 171 [])], [.sl 0 (.row .iCell), .sl 7 (.I .i64), .sl 8 (.I .i64)]⟩, 0, ⟨[], []⟩)]⟩
def pG_slices_IndexFunc_ICell_I_areCells_1_b1 (fuel : Nat) : List ICell × Int × Int → Option ((List ICell × Int × Int) ⊕ (Unit ⊕ Int)) := fun (v3, v4, v5) =>
  br (decide (v5 < v4)) (
    gd (0 ≤ v5 ∧ v5 < (↑v3.length : Int)) <|
    bd v3[v5.toNat]? fun x6 =>
    bd (pI_areCells_1 fuel x6) fun x7 =>
    br x7 (
      some (.inr (.inr v5))) <|
    gd (inK IntKind.i64 (v5 + 1)) <|
    some (.inl (v3, v4, v5 + 1))) <|
  some (.inr (.inl ()))
def pG_slices_IndexFunc_ICell_I_areCells_1 (fuel : Nat) (a1 : List ICell) : Option Int :=
  jn (V := Unit) (
    loopF (pG_slices_IndexFunc_ICell_I_areCells_1_b1 fuel) fuel (a1, (↑a1.length : Int), 0)) fun _ =>
  some (-1)
def o1017700 (fuel : Nat) : Orc := ⟨177, [none, some (.fn 171 [])], [.row .iCell], 0, (.one (.I .i64)), fun v => pG_slices_IndexFunc_ICell_I_areCells_1 fuel v⟩
theorem c1017700 {G : Nat} {E : World → Prop} (hcl : Cl G E) (fuel : Nat) : Ctr Tryz.prog G E (o1017700 fuel) := Ctr.mk (csc (c171 hcl fuel) csn) facts mixed hcl.cl T1017700 fuel (fn := Tryz.f177) (by kernel_rfl) rfl (by kernel_rfl) (fun _ => by kernel_rfl) (fun _ _ => by kernel_rfl) (fun _ => by kernel_rfl)
def T1017000 : Tab := ⟨[], [], []⟩
def pG_slices_ContainsFunc_ICell_I_areCells_1 (fuel : Nat) (a1 : List ICell) : Option Bool :=
  bd (pG_slices_IndexFunc_ICell_I_areCells_1 fuel a1) fun x2 =>
  some (decide (0 ≤ x2))
def o1017000 (fuel : Nat) : Orc := ⟨170, [none, some (.fn 171 [])], [.row .iCell], 0, (.one .B), fun v => pG_slices_ContainsFunc_ICell_I_areCells_1 fuel v⟩
theorem c1017000 {G : Nat} {E : World → Prop} (hcl : Cl G E) (fuel : Nat) : Ctr Tryz.prog G E (o1017000 fuel) := Ctr.mk (csc (c1017700 hcl fuel) csn) facts mixed hcl.cl T1017000 fuel (fn := Tryz.f170) (by kernel_rfl) rfl (by kernel_rfl) (fun _ => by kernel_rfl) (fun _ _ => by kernel_rfl) (fun _ => by kernel_rfl)
def T151 : Tab := ⟨[], [], []⟩
def pI_areCells (fuel : Nat) (a1 : List ICell) : Option Bool :=
  bd (pG_slices_ContainsFunc_ICell_I_areCells_1 fuel a1) fun x2 =>
  some (!x2)
def o151 (fuel : Nat) : Orc := ⟨151, [none], [.row .iCell], 0, (.one .B), fun v => pI_areCells fuel v⟩
theorem c151 {G : Nat} {E : World → Prop} (hcl : Cl G E) (fuel : Nat) : Ctr Tryz.prog G E (o151 fuel) := Ctr.mk (csc (c1017000 hcl fuel) csn) facts mixed hcl.cl T151 fuel (fn := Tryz.f151) (by kernel_rfl) rfl (by kernel_rfl) (fun _ => by kernel_rfl) (fun _ _ => by kernel_rfl) (fun _ => by kernel_rfl)
def T115 : Tab := ⟨[(1, ⟨[], [.sl 2 .B]⟩)], [], []⟩
def pI_GridOk (fuel : Nat) (a1 : IGrid) : Option Bool :=
  bd (α := Bool) (
    bd (pI_isSize fuel a1.W a1.H) fun x2 =>
    br x2 (
      gd (inK IntKind.i64 (a1.W * a1.H)) <|
      br ((↑a1.Cells.length : Int) == a1.W * a1.H) (
        bd (pI_areCells fuel a1.Cells) fun x3 =>
        some x3) <|
      some false) <|
    some false) fun x4 =>
  some x4
def o115 (fuel : Nat) : Orc := ⟨115, [none], [.st .iGrid []], 0, (.one .B), fun v => pI_GridOk fuel v⟩
theorem c115 {G : Nat} {E : World → Prop} (hcl : Cl G E) (fuel : Nat) : Ctr Tryz.prog G E (o115 fuel) := Ctr.mk (csc (c150 hcl fuel) (csc (c151 hcl fuel) csn)) facts mixed hcl.cl T115 fuel (fn := Tryz.f115) (by kernel_rfl) rfl (by kernel_rfl) (fun _ => by kernel_rfl) (fun _ _ => by kernel_rfl) (fun _ => by kernel_rfl)
def T116 : Tab := ⟨[(1, ⟨[], [.sl 6 .B]⟩)], [], []⟩
def pI_Grid_has (fuel : Nat) (a1 : IGrid) (a2 : Int) (a3 : Int) : Option Bool :=
  bd (α := Bool) (
    gd (inK IntKind.i64 (a1.W - 1)) <|
    bd (pI_within fuel a2 0 (a1.W - 1)) fun x4 =>
    br x4 (
      gd (inK IntKind.i64 (a1.H - 1)) <|
      bd (pI_within fuel a3 0 (a1.H - 1)) fun x5 =>
      some x5) <|
    some false) fun x6 =>
  some x6
def o116 (fuel : Nat) : Orc := ⟨116, [none, none, none], [.st .iGrid [], .I .i64, .I .i64], 0, (.one .B), fun v => pI_Grid_has fuel v.1 v.2.1 v.2.2⟩
theorem c116 {G : Nat} {E : World → Prop} (hcl : Cl G E) (fuel : Nat) : Ctr Tryz.prog G E (o116 fuel) := Ctr.mk (csc (c28 hcl fuel) csn) facts mixed hcl.cl T116 fuel (fn := Tryz.f116) (by kernel_rfl) rfl (by kernel_rfl) (fun _ => by kernel_rfl) (fun _ _ => by kernel_rfl) (fun _ => by kernel_rfl)
def T118 : Tab := ⟨[(4, ⟨[], [.sl 0 (.row .int), .sl 1 (.I .i64), .sl 2 (.I .i64), .sl 9 (.row .int), .sl 10 (.I .i64), .sl 11 (.I .i64), .sl 33 .B]⟩)], [], [(2, true, ⟨[], [.sl 0 (.row .int), .sl 1 (.I .i64), .sl 2 (.I .i64), .sl 9 (.row .int), .sl 10 (.I .i64), .sl 11 (.I .i64)]⟩, 0, ⟨[], []⟩)]⟩
def pI_isAscending_b1 (fuel : Nat) : List Int × Int × Int × List Int × Int × Int → Option ((List Int × Int × Int × List Int × Int × Int) ⊕ (Unit ⊕ Bool)) := fun (v5, v6, v7, v8, v9, v10) =>
  br (decide (v10 < v9)) (
    gd (0 ≤ v10 ∧ v10 < (↑v8.length : Int)) <|
    bd v8[v10.toNat]? fun x11 =>
    bd (α := List Int × Int × Int × List Int × Int × Int × Bool) (
      bd (pI_within fuel x11 v6 v7) fun x12 =>
      br (!x12) (
        some (v5, v6, v7, v8, v9, v10, true)) <|
      br (decide (0 < v10)) (
        gd (inK IntKind.i64 (v10 - 1)) <|
        gd (0 ≤ v10 - 1 ∧ v10 - 1 < (↑v5.length : Int)) <|
        bd (v5[(v10 - 1).toNat]?) fun x13 =>
        some (v5, v6, v7, v8, v9, v10, decide (x11 ≤ x13))) <|
      some (v5, v6, v7, v8, v9, v10, false)) fun (x14, x15, x16, x17, x18, x19, x20) =>
    br x20 (
      some (.inr (.inr false))) <|
    gd (inK IntKind.i64 (x19 + 1)) <|
    some (.inl (x14, x15, x16, x17, x18, x19 + 1))) <|
  some (.inr (.inl ()))
def pI_isAscending (fuel : Nat) (a1 : List Int) (a2 : Int) (a3 : Int) : Option Bool :=
  jn (V := Unit) (
    loopF (pI_isAscending_b1 fuel) fuel (a1, a2, a3, a1, (↑a1.length : Int), 0)) fun _ =>
  some true
def o118 (fuel : Nat) : Orc := ⟨118, [none, none, none], [.row .int, .I .i64, .I .i64], 0, (.one .B), fun v => pI_isAscending fuel v.1 v.2.1 v.2.2⟩
theorem c118 {G : Nat} {E : World → Prop} (hcl : Cl G E) (fuel : Nat) : Ctr Tryz.prog G E (o118 fuel) := Ctr.mk (csc (c28 hcl fuel) csn) facts mixed hcl.cl T118 fuel (fn := Tryz.f118) (by kernel_rfl) rfl (by kernel_rfl) (fun _ => by kernel_rfl) (fun _ _ => by kernel_rfl) (fun _ => by kernel_rfl)
def T153 : Tab := ⟨[(1, ⟨[], [.sl 2 .B]⟩)], [], []⟩
def pI_backOk_1 (fuel : Nat) (a1 : IRow) : Option Bool :=
  bd (α := Bool) (
    bd (pI_within fuel (↑a1.Cells.length : Int) 1 120) fun x2 =>
    br (!x2) (
      some true) <|
    bd (pI_areCells fuel a1.Cells) fun x3 =>
    some (!x3)) fun x4 =>
  some x4
def o153 (fuel : Nat) : Orc := ⟨153, [none], [.st .iRow []], 0, (.one .B), fun v => pI_backOk_1 fuel v⟩
theorem c153 {G : Nat} {E : World → Prop} (hcl : Cl G E) (fuel : Nat) : Ctr Tryz.prog G E (o153 fuel) := Ctr.mk (csc (c28 hcl fuel) (csc (c151 hcl fuel) csn)) facts mixed hcl.cl T153 fuel (fn := Tryz.f153) (by kernel_rfl) rfl (by kernel_rfl) (fun _ => by kernel_rfl) (fun _ _ => by kernel_rfl) (fun _ => by kernel_rfl)
def T1017300 : Tab := ⟨[], [], [(2, true, ⟨[(1, .fn 153 [])], [.sl 0 (.row .iRow), .sl 7 (.I .i64), .sl 8 (.I .i64)]⟩, 0, ⟨[], []⟩)]⟩
def pG_slices_IndexFunc_IRow_I_backOk_1_b1 (fuel : Nat) : List IRow × Int × Int → Option ((List IRow × Int × Int) ⊕ (Unit ⊕ Int)) := fun (v3, v4, v5) =>
  br (decide (v5 < v4)) (
    gd (0 ≤ v5 ∧ v5 < (↑v3.length : Int)) <|
    bd v3[v5.toNat]? fun x6 =>
    bd (pI_backOk_1 fuel x6) fun x7 =>
    br x7 (
      some (.inr (.inr v5))) <|
    gd (inK IntKind.i64 (v5 + 1)) <|
    some (.inl (v3, v4, v5 + 1))) <|
  some (.inr (.inl ()))
def pG_slices_IndexFunc_IRow_I_backOk_1 (fuel : Nat) (a1 : List IRow) : Option Int :=
  jn (V := Unit) (
    loopF (pG_slices_IndexFunc_IRow_I_backOk_1_b1 fuel) fuel (a1, (↑a1.length : Int), 0)) fun _ =>
  some (-1)
def o1017300 (fuel : Nat) : Orc := ⟨173, [none, some (.fn 153 [])], [.row .iRow], 0, (.one (.I .i64)), fun v => pG_slices_IndexFunc_IRow_I_backOk_1 fuel v⟩
theorem c1017300 {G : Nat} {E : World → Prop} (hcl : Cl G E) (fuel : Nat) : Ctr Tryz.prog G E (o1017300 fuel) := Ctr.mk (csc (c153 hcl fuel) csn) facts mixed hcl.cl T1017300 fuel (fn := Tryz.f173) (by kernel_rfl) rfl (by kernel_rfl) (fun _ => by kernel_rfl) (fun _ _ => by kernel_rfl) (fun _ => by kernel_rfl)
def T1015200 : Tab := ⟨[], [], []⟩
def pG_slices_ContainsFunc_IRow_I_backOk_1 (fuel : Nat) (a1 : List IRow) : Option Bool :=
  bd (pG_slices_IndexFunc_IRow_I_backOk_1 fuel a1) fun x2 =>
  some (decide (0 ≤ x2))
def o1015200 (fuel : Nat) : Orc := ⟨152, [none, some (.fn 153 [])], [.row .iRow], 0, (.one .B), fun v => pG_slices_ContainsFunc_IRow_I_backOk_1 fuel v⟩
theorem c1015200 {G : Nat} {E : World → Prop} (hcl : Cl G E) (fuel : Nat) : Ctr Tryz.prog G E (o1015200 fuel) := Ctr.mk (csc (c1017300 hcl fuel) csn) facts mixed hcl.cl T1015200 fuel (fn := Tryz.f152) (by kernel_rfl) rfl (by kernel_rfl) (fun _ => by kernel_rfl) (fun _ _ => by kernel_rfl) (fun _ => by kernel_rfl)
def T119 : Tab := ⟨[(1, ⟨[], [.sl 4 .B]⟩)], [], []⟩
def pI_backOk (fuel : Nat) (a1 : List IRow) (a2 : Int) : Option Bool :=
  bd (α := Bool) (
    br (decide ((↑a1.length : Int) ≤ a2)) (
      bd (pG_slices_ContainsFunc_IRow_I_backOk_1 fuel a1) fun x3 =>
      some (!x3)) <|
    some false) fun x4 =>
  some x4
def o119 (fuel : Nat) : Orc := ⟨119, [none, none], [.row .iRow, .I .i64], 0, (.one .B), fun v => pI_backOk fuel v.1 v.2⟩
theorem c119 {G : Nat} {E : World → Prop} (hcl : Cl G E) (fuel : Nat) : Ctr Tryz.prog G E (o119 fuel) := Ctr.mk (csc (c1015200 hcl fuel) csn) facts mixed hcl.cl T119 fuel (fn := Tryz.f119) (by kernel_rfl) rfl (by kernel_rfl) (fun _ => by kernel_rfl) (fun _ _ => by kernel_rfl) (fun _ => by kernel_rfl)
def T82 : Tab := ⟨[(4, ⟨[(1, .ptr 200 0)], [.sto 200 .iScr [], .sl 9 (.own .iGrid 1000), .sl 10 (.I .i64), .sl 11 (.I .i64), .sl 31 .B]⟩), (7, ⟨[(1, .ptr 200 0)], [.sto 200 .iScr [], .sl 74 .B]⟩), (9, ⟨[(1, .ptr 200 0)], [.sto 200 .iScr [], .sl 103 .B]⟩), (11, ⟨[], [.sl 2 .B]⟩)], [], [(2, true, ⟨[(1, .ptr 200 0)], [.sto 200 .iScr [], .sl 9 (.own .iGrid 1000), .sl 10 (.I .i64), .sl 11 (.I .i64)]⟩, 0, ⟨[(1, .ptr 200 0)], [.sto 200 .iScr []]⟩)]⟩
def pI_ScrOk_b1 (fuel : Nat) : IScr × List IGrid × Int × Int → Option ((IScr × List IGrid × Int × Int) ⊕ (IScr ⊕ Bool)) := fun (v18, v19, v20, v21) =>
  br (decide (v21 < v20)) (
    gd (0 ≤ v21 ∧ v21 < (↑v19.length : Int)) <|
    bd (v19[0 + v21.toNat]?) fun x22 =>
    bd (α := IScr × List IGrid × Int × Int × Bool) (
      bd (pI_GridOk fuel x22) fun x23 =>
      br (!x23) (
        some (v18, v19, v20, v21, true)) <|
      br (x22.W != v18.W) (
        some (v18, v19, v20, v21, true)) <|
      some (v18, v19, v20, v21, x22.H != v18.H)) fun (x24, x25, x26, x27, x28) =>
    br x28 (
      some (.inr (.inr false))) <|
    gd (inK IntKind.i64 (x27 + 1)) <|
    some (.inl (x24, x25, x26, x27 + 1))) <|
  some (.inr (.inl v18))
def pI_ScrOk (fuel : Nat) (a1 : IScr) : Option Bool :=
  jn (V := IScr) (
    loopF (pI_ScrOk_b1 fuel) fuel (a1, [a1.Main, a1.Alt], (↑2 : Int), 0)) fun v3 =>
  bd (α := IScr × Bool) (
    bd (pI_Grid_has fuel v3.Main v3.X v3.Y) fun x4 =>
    br (!x4) (
      some (v3, true)) <|
    bd (pI_Grid_has fuel v3.Main v3.SaveX v3.SaveY) fun x5 =>
    br (!x5) (
      some (v3, true)) <|
    br v3.Wrap (
      gd (inK IntKind.i64 (v3.W - 1)) <|
      br (v3.X != v3.W - 1) (
        some (v3, true)) <|
      bd (pI_AttrOk fuel v3.A) fun x6 =>
      br (!x6) (
        some (v3, true)) <|
      bd (pI_AttrOk fuel v3.SaveA) fun x7 =>
      some (v3, !x7)) <|
    bd (pI_AttrOk fuel v3.A) fun x8 =>
    br (!x8) (
      some (v3, true)) <|
    bd (pI_AttrOk fuel v3.SaveA) fun x9 =>
    some (v3, !x9)) fun (x10, x11) =>
  br x11 (
    some false) <|
  bd (α := IScr × Bool) (
    br (decide (x10.Top < 0)) (
      some (x10, true)) <|
    br (decide (x10.Bot < x10.Top)) (
      some (x10, true)) <|
    br (decide (x10.H ≤ x10.Bot)) (
      some (x10, true)) <|
    br (x10.Top == x10.Bot) (
      some (x10, x10.H != 1)) <|
    some (x10, false)) fun (x12, x13) =>
  br x13 (
    some false) <|
  bd (α := Bool) (
    gd (inK IntKind.i64 (x12.W - 1)) <|
    bd (pI_isAscending fuel x12.Tabs 0 (x12.W - 1)) fun x14 =>
    br x14 (
      bd (pI_within fuel x12.Limit 0 100) fun x15 =>
      br x15 (
        bd (pI_backOk fuel x12.Back x12.Limit) fun x16 =>
        some x16) <|
      some false) <|
    some false) fun x17 =>
  some x17
def o82 (fuel : Nat) : Orc := ⟨82, [none], [.st .iScr []], 0, (.one .B), fun v => pI_ScrOk fuel v⟩
theorem c82 {G : Nat} {E : World → Prop} (hcl : Cl G E) (fuel : Nat) : Ctr Tryz.prog G E (o82 fuel) := Ctr.mk (csc (c115 hcl fuel) (csc (c116 hcl fuel) (csc (c117 hcl fuel) (csc (c118 hcl fuel) (csc (c28 hcl fuel) (csc (c119 hcl fuel) csn)))))) facts mixed hcl.cl T82 fuel (fn := Tryz.f82) (by kernel_rfl) rfl (by kernel_rfl) (fun _ => by kernel_rfl) (fun _ _ => by kernel_rfl) (fun _ => by kernel_rfl)
def T53 : Tab := ⟨[(1, ⟨[], [.sl 2 .B]⟩)], [], []⟩
def pI_TermOk (fuel : Nat) (a1 : ITerm) : Option Bool :=
  bd (α := Bool) (
    bd (pI_VpOk fuel a1.P) fun x2 =>
    br x2 (
      bd (pI_ScrOk fuel a1.S) fun x3 =>
      some x3) <|
    some false) fun x4 =>
  some x4
def o53 (fuel : Nat) : Orc := ⟨53, [none], [.st .iTerm []], 0, (.one .B), fun v => pI_TermOk fuel v⟩
theorem c53 {G : Nat} {E : World → Prop} (hcl : Cl G E) (fuel : Nat) : Ctr Tryz.prog G E (o53 fuel) := Ctr.mk (csc (c81 hcl fuel) (csc (c82 hcl fuel) csn)) facts mixed hcl.cl T53 fuel (fn := Tryz.f53) (by kernel_rfl) rfl (by kernel_rfl) (fun _ => by kernel_rfl) (fun _ _ => by kernel_rfl) (fun _ => by kernel_rfl)
def T23 : Tab := ⟨[(1, ⟨[(1, .ptr 200 0)], [.sto 200 .iPane [], .sl 24 .B]⟩), (5, ⟨[], [.sl 2 .B]⟩), (7, ⟨[], [.sl 2 .B]⟩), (9, ⟨[], [.sl 2 .B]⟩)], [], []⟩
def pI_PaneOk (fuel : Nat) (a1 : IPane) : Option Bool :=
  bd (α := IPane × Bool) (
    bd (pI_isId fuel a1.Id) fun x2 =>
    br (!x2) (
      some (a1, true)) <|
    bd (pI_isCmd fuel a1.Cmd) fun x3 =>
    br (!x3) (
      some (a1, true)) <|
    bd (pI_isCmd fuel a1.Dir) fun x4 =>
    br (!x4) (
      some (a1, true)) <|
    bd (pI_TermOk fuel a1.Term) fun x5 =>
    some (a1, !x5)) fun (x6, x7) =>
  br x7 (
    some false) <|
  br (x6.Life == 1) (
    bd (α := Bool) (
      bd (pI_isId fuel x6.Pid) fun x8 =>
      br x8 (
        some (x6.Code == 0)) <|
      some false) fun x9 =>
    some x9) <|
  br (x6.Life == 2) (
    bd (α := Bool) (
      bd (pI_within fuel x6.Code 0 255) fun x10 =>
      br x10 (
        some (x6.Pid == 0)) <|
      some false) fun x11 =>
    some x11) <|
  br (x6.Life == 3) (
    bd (α := Bool) (
      br (x6.Code == 0) (
        some (x6.Pid == 0)) <|
      some false) fun x12 =>
    some x12) <|
  some false
def o23 (fuel : Nat) : Orc := ⟨23, [none], [.st .iPane []], 0, (.one .B), fun v => pI_PaneOk fuel v⟩
theorem c23 {G : Nat} {E : World → Prop} (hcl : Cl G E) (fuel : Nat) : Ctr Tryz.prog G E (o23 fuel) := Ctr.mk (csc (c29 hcl fuel) (csc (c52 hcl fuel) (csc (c53 hcl fuel) (csc (c28 hcl fuel) csn)))) facts mixed hcl.cl T23 fuel (fn := Tryz.f23) (by kernel_rfl) rfl (by kernel_rfl) (fun _ => by kernel_rfl) (fun _ _ => by kernel_rfl) (fun _ => by kernel_rfl)
def T54 : Tab := ⟨[], [], []⟩
def pG_slices_Clone_IProc (fuel : Nat) (a1 : List IProc) : Option (List IProc) :=
  cmpN a1 (
    some []) <|
  gd (roomB K.iProc ([] ++ a1).length) <|
  some ([] ++ a1)
def o54 (fuel : Nat) : Orc := ⟨54, [none], [.row .iProc], 0, (.one (.own .iProc 99)), fun v => pG_slices_Clone_IProc fuel v⟩
theorem c54 {G : Nat} {E : World → Prop} (hcl : Cl G E) (fuel : Nat) : Ctr Tryz.prog G E (o54 fuel) := Ctr.mk csn facts mixed hcl.cl T54 fuel (fn := Tryz.f54) (by kernel_rfl) rfl (by kernel_rfl) (fun _ => by kernel_rfl) (fun _ _ => by kernel_rfl) (fun _ => by kernel_rfl)
def T55 : Tab := ⟨[], [], []⟩
def pG_slices_Clone_IAsk (fuel : Nat) (a1 : List IAsk) : Option (List IAsk) :=
  cmpN a1 (
    some []) <|
  gd (roomB K.iAsk ([] ++ a1).length) <|
  some ([] ++ a1)
def o55 (fuel : Nat) : Orc := ⟨55, [none], [.row .iAsk], 0, (.one (.own .iAsk 99)), fun v => pG_slices_Clone_IAsk fuel v⟩
theorem c55 {G : Nat} {E : World → Prop} (hcl : Cl G E) (fuel : Nat) : Ctr Tryz.prog G E (o55 fuel) := Ctr.mk csn facts mixed hcl.cl T55 fuel (fn := Tryz.f55) (by kernel_rfl) rfl (by kernel_rfl) (fun _ => by kernel_rfl) (fun _ _ => by kernel_rfl) (fun _ => by kernel_rfl)
def T24 : Tab := ⟨[], [], []⟩
def pI_copyTable (fuel : Nat) (a1 : ITable) : Option ITable :=
  bd (pG_slices_Clone_IProc fuel a1.Live) fun x2 =>
  bd (pG_slices_Clone_IAsk fuel a1.Asked) fun x3 =>
  some (ITable.mk a1.Next x2 x3)
def o24 (fuel : Nat) : Orc := ⟨24, [none], [.st .iTable []], 0, (.one (.st .iTable [(1, 99), (2, 99)])), fun v => pI_copyTable fuel v⟩
theorem c24 {G : Nat} {E : World → Prop} (hcl : Cl G E) (fuel : Nat) : Ctr Tryz.prog G E (o24 fuel) := Ctr.mk (csc (c54 hcl fuel) (csc (c55 hcl fuel) csn)) facts mixed hcl.cl T24 fuel (fn := Tryz.f24) (by kernel_rfl) rfl (by kernel_rfl) (fun _ => by kernel_rfl) (fun _ _ => by kernel_rfl) (fun _ => by kernel_rfl)
def T6 : Tab := ⟨[(1, ⟨[(2, .ptr 300 0), (3, .ptr 400 0), (4, .ptr 500 0)], [.sto 300 .iTable [], .sto 400 .iPane [], .sto 500 .iTable [(1, 50000001), (2, 50000002)], .sl 15 .B]⟩), (4, ⟨[(2, .ptr 300 0), (3, .ptr 400 0), (4, .ptr 500 0), (6, .ptr 700 0)], [.sto 300 .iTable [], .sto 400 .iPane [], .sto 500 .iTable [(1, 50000001), (2, 50000002)], .sto 700 .iTable [(1, 19000001), (2, 19000002)], .sl 28 .B]⟩)], [], []⟩
def pI_TableAsk (fuel : Nat) (a1 : ITable) (a2 : IPane) : Option (ITable × Int) :=
  bd (α := ITable × IPane × ITable × Bool) (
    bd (pI_TableOk fuel a1) fun x3 =>
    br (!x3) (
      some (a1, a2, ITable.mk 0 [] [], true)) <|
    bd (pI_PaneOk fuel a2) fun x4 =>
    some (a1, a2, ITable.mk 0 [] [], !x4)) fun (x5, x6, x7, x8) =>
  br x8 (
    some (ITable.mk 0 [] [], 0)) <|
  bd (pI_copyTable fuel x5) fun x9 =>
  bd (α := ITable × IPane × ITable × ITable × Bool) (
    bd (pI_Table_procOf fuel x5 x6.Id) fun x10 =>
    br (decide (0 ≤ x10)) (
      some (x5, x6, x7, x9, true)) <|
    some (x5, x6, x7, x9, x5.Next == 1000000)) fun (x11, x12, x13, x14, x15) =>
  br x15 (
    some (x14, 0)) <|
  gd (inK IntKind.i64 (x14.Next + 1)) <|
  gd (roomB K.iProc (x14.Live ++ [IProc.mk x11.Next x12.Id]).length) <|
  gd (roomB K.iAsk (x14.Asked ++ [IAsk.mk x12.Id x12.Cmd x12.Dir x12.Term.S.W x12.Term.S.H x11.Next]).length) <|
  some (ITable.mk (x14.Next + 1) (x14.Live ++ [IProc.mk x11.Next x12.Id]) (x14.Asked ++ [IAsk.mk x12.Id x12.Cmd x12.Dir x12.Term.S.W x12.Term.S.H x11.Next]), x11.Next)
def o6 (fuel : Nat) : Orc := ⟨6, [none, none], [.st .iTable [], .st .iPane []], 0, (.tup [.st .iTable [(1, 99), (2, 99)], .I .i64]), fun v => pI_TableAsk fuel v.1 v.2⟩
theorem c6 {G : Nat} {E : World → Prop} (hcl : Cl G E) (fuel : Nat) : Ctr Tryz.prog G E (o6 fuel) := Ctr.mk (csc (c9 hcl fuel) (csc (c23 hcl fuel) (csc (c24 hcl fuel) (csc (c25 hcl fuel) csn)))) facts mixed hcl.cl T6 fuel (fn := Tryz.f6) (by kernel_rfl) rfl (by kernel_rfl) (fun _ => by kernel_rfl) (fun _ _ => by kernel_rfl) (fun _ => by kernel_rfl)
def T30 : Tab := ⟨[], [], []⟩
def pL_szProcS (fuel : Nat) (a1 : List LProc) (a2 : Int) : Option Int :=
  gd (inK IntKind.i64 (a2 - (↑a1.length : Int))) <|
  br (decide (a2 - (↑a1.length : Int) < 0)) (
    some (-1)) <|
  some (a2 - (↑a1.length : Int))
def o30 (fuel : Nat) : Orc := ⟨30, [none, none], [.row .lProc, .I .i64], 0, (.one (.I .i64)), fun v => pL_szProcS fuel v.1 v.2⟩
theorem c30 {G : Nat} {E : World → Prop} (hcl : Cl G E) (fuel : Nat) : Ctr Tryz.prog G E (o30 fuel) := Ctr.mk csn facts mixed hcl.cl T30 fuel (fn := Tryz.f30) (by kernel_rfl) rfl (by kernel_rfl) (fun _ => by kernel_rfl) (fun _ _ => by kernel_rfl) (fun _ => by kernel_rfl)
def T59 : Tab := ⟨[], [], []⟩
def pL_szAsk (fuel : Nat) (a1 : LAsk) (a2 : Int) : Option Int :=
  gd (inK IntKind.i64 (a2 - (↑a1.Cmd.size : Int))) <|
  br (decide (a2 - (↑a1.Cmd.size : Int) < 0)) (
    some (-1)) <|
  gd (inK IntKind.i64 (a2 - (↑a1.Cmd.size : Int) - (↑a1.Dir.size : Int))) <|
  br (decide (a2 - (↑a1.Cmd.size : Int) - (↑a1.Dir.size : Int) < 0)) (
    some (-1)) <|
  some (a2 - (↑a1.Cmd.size : Int) - (↑a1.Dir.size : Int))
def o59 (fuel : Nat) : Orc := ⟨59, [none, none], [.st .lAsk [], .I .i64], 0, (.one (.I .i64)), fun v => pL_szAsk fuel v.1 v.2⟩
theorem c59 {G : Nat} {E : World → Prop} (hcl : Cl G E) (fuel : Nat) : Ctr Tryz.prog G E (o59 fuel) := Ctr.mk csn facts mixed hcl.cl T59 fuel (fn := Tryz.f59) (by kernel_rfl) rfl (by kernel_rfl) (fun _ => by kernel_rfl) (fun _ _ => by kernel_rfl) (fun _ => by kernel_rfl)
def T31 : Tab := ⟨[], [], [(5, true, ⟨[], [.sl 0 (.row .lAsk), .sl 1 (.I .i64), .sl 5 (.I .i64)]⟩, 0, ⟨[], [.sl 1 (.I .i64)]⟩)]⟩
def pL_szAskS_b1 (fuel : Nat) : List LAsk × Int × Int → Option ((List LAsk × Int × Int) ⊕ (Int ⊕ Int)) := fun (v5, v6, v7) =>
  br (decide (v7 < (↑v5.length : Int))) (
    gd (0 ≤ v7 ∧ v7 < (↑v5.length : Int)) <|
    bd v5[v7.toNat]? fun x8 =>
    bd (pL_szAsk fuel x8 v6) fun x9 =>
    br (decide (x9 < 0)) (
      some (.inr (.inr (-1)))) <|
    some (.inl (v5, x9, IntKind.i64.wrap (v7 + 1)))) <|
  some (.inr (.inl v6))
def pL_szAskS (fuel : Nat) (a1 : List LAsk) (a2 : Int) : Option Int :=
  gd (inK IntKind.i64 (a2 - (↑a1.length : Int))) <|
  br (decide (a2 - (↑a1.length : Int) < 0)) (
    some (-1)) <|
  jn (V := Int) (
    loopF (pL_szAskS_b1 fuel) fuel (a1, a2 - (↑a1.length : Int), 0)) fun v4 =>
  some v4
def o31 (fuel : Nat) : Orc := ⟨31, [none, none], [.row .lAsk, .I .i64], 0, (.one (.I .i64)), fun v => pL_szAskS fuel v.1 v.2⟩
theorem c31 {G : Nat} {E : World → Prop} (hcl : Cl G E) (fuel : Nat) : Ctr Tryz.prog G E (o31 fuel) := Ctr.mk (csc (c59 hcl fuel) csn) facts mixed hcl.cl T31 fuel (fn := Tryz.f31) (by kernel_rfl) rfl (by kernel_rfl) (fun _ => by kernel_rfl) (fun _ _ => by kernel_rfl) (fun _ => by kernel_rfl)
def T10 : Tab := ⟨[], [], []⟩
def pL_szTable (fuel : Nat) (a1 : LTable) (a2 : Int) : Option Int :=
  bd (pL_szProcS fuel a1.Live a2) fun x3 =>
  br (decide (x3 < 0)) (
    some (-1)) <|
  bd (pL_szAskS fuel a1.Asked x3) fun x4 =>
  br (decide (x4 < 0)) (
    some (-1)) <|
  some x4
def o10 (fuel : Nat) : Orc := ⟨10, [none, none], [.st .lTable [], .I .i64], 0, (.one (.I .i64)), fun v => pL_szTable fuel v.1 v.2⟩
theorem c10 {G : Nat} {E : World → Prop} (hcl : Cl G E) (fuel : Nat) : Ctr Tryz.prog G E (o10 fuel) := Ctr.mk (csc (c30 hcl fuel) (csc (c31 hcl fuel) csn)) facts mixed hcl.cl T10 fuel (fn := Tryz.f10) (by kernel_rfl) rfl (by kernel_rfl) (fun _ => by kernel_rfl) (fun _ _ => by kernel_rfl) (fun _ => by kernel_rfl)
def T83 : Tab := ⟨[], [], []⟩
def pL_szIntS (fuel : Nat) (a1 : List Int) (a2 : Int) : Option Int :=
  gd (inK IntKind.i64 (a2 - (↑a1.length : Int))) <|
  br (decide (a2 - (↑a1.length : Int) < 0)) (
    some (-1)) <|
  some (a2 - (↑a1.length : Int))
def o83 (fuel : Nat) : Orc := ⟨83, [none, none], [.row .int, .I .i64], 0, (.one (.I .i64)), fun v => pL_szIntS fuel v.1 v.2⟩
theorem c83 {G : Nat} {E : World → Prop} (hcl : Cl G E) (fuel : Nat) : Ctr Tryz.prog G E (o83 fuel) := Ctr.mk csn facts mixed hcl.cl T83 fuel (fn := Tryz.f83) (by kernel_rfl) rfl (by kernel_rfl) (fun _ => by kernel_rfl) (fun _ _ => by kernel_rfl) (fun _ => by kernel_rfl)
def T84 : Tab := ⟨[], [], []⟩
def pL_szByteS (fuel : Nat) (a1 : List UInt8) (a2 : Int) : Option Int :=
  gd (inK IntKind.i64 (a2 - (↑a1.length : Int))) <|
  br (decide (a2 - (↑a1.length : Int) < 0)) (
    some (-1)) <|
  some (a2 - (↑a1.length : Int))
def o84 (fuel : Nat) : Orc := ⟨84, [none, none], [.row .u8, .I .i64], 0, (.one (.I .i64)), fun v => pL_szByteS fuel v.1 v.2⟩
theorem c84 {G : Nat} {E : World → Prop} (hcl : Cl G E) (fuel : Nat) : Ctr Tryz.prog G E (o84 fuel) := Ctr.mk csn facts mixed hcl.cl T84 fuel (fn := Tryz.f84) (by kernel_rfl) rfl (by kernel_rfl) (fun _ => by kernel_rfl) (fun _ _ => by kernel_rfl) (fun _ => by kernel_rfl)
def T60 : Tab := ⟨[], [], []⟩
def pL_szVp (fuel : Nat) (a1 : LVp) (a2 : Int) : Option Int :=
  bd (pL_szIntS fuel a1.Args a2) fun x3 =>
  br (decide (x3 < 0)) (
    some (-1)) <|
  bd (pL_szByteS fuel a1.Part x3) fun x4 =>
  br (decide (x4 < 0)) (
    some (-1)) <|
  some x4
def o60 (fuel : Nat) : Orc := ⟨60, [none, none], [.st .lVp [], .I .i64], 0, (.one (.I .i64)), fun v => pL_szVp fuel v.1 v.2⟩
theorem c60 {G : Nat} {E : World → Prop} (hcl : Cl G E) (fuel : Nat) : Ctr Tryz.prog G E (o60 fuel) := Ctr.mk (csc (c83 hcl fuel) (csc (c84 hcl fuel) csn)) facts mixed hcl.cl T60 fuel (fn := Tryz.f60) (by kernel_rfl) rfl (by kernel_rfl) (fun _ => by kernel_rfl) (fun _ _ => by kernel_rfl) (fun _ => by kernel_rfl)
def T120 : Tab := ⟨[], [], []⟩
def pL_szCellS (fuel : Nat) (a1 : List LCell) (a2 : Int) : Option Int :=
  gd (inK IntKind.i64 (a2 - (↑a1.length : Int))) <|
  br (decide (a2 - (↑a1.length : Int) < 0)) (
    some (-1)) <|
  some (a2 - (↑a1.length : Int))
def o120 (fuel : Nat) : Orc := ⟨120, [none, none], [.row .lCell, .I .i64], 0, (.one (.I .i64)), fun v => pL_szCellS fuel v.1 v.2⟩
theorem c120 {G : Nat} {E : World → Prop} (hcl : Cl G E) (fuel : Nat) : Ctr Tryz.prog G E (o120 fuel) := Ctr.mk csn facts mixed hcl.cl T120 fuel (fn := Tryz.f120) (by kernel_rfl) rfl (by kernel_rfl) (fun _ => by kernel_rfl) (fun _ _ => by kernel_rfl) (fun _ => by kernel_rfl)
def T85 : Tab := ⟨[], [], []⟩
def pL_szGrid (fuel : Nat) (a1 : LGrid) (a2 : Int) : Option Int :=
  bd (pL_szCellS fuel a1.Cells a2) fun x3 =>
  br (decide (x3 < 0)) (
    some (-1)) <|
  some x3
def o85 (fuel : Nat) : Orc := ⟨85, [none, none], [.st .lGrid [], .I .i64], 0, (.one (.I .i64)), fun v => pL_szGrid fuel v.1 v.2⟩
theorem c85 {G : Nat} {E : World → Prop} (hcl : Cl G E) (fuel : Nat) : Ctr Tryz.prog G E (o85 fuel) := Ctr.mk (csc (c120 hcl fuel) csn) facts mixed hcl.cl T85 fuel (fn := Tryz.f85) (by kernel_rfl) rfl (by kernel_rfl) (fun _ => by kernel_rfl) (fun _ _ => by kernel_rfl) (fun _ => by kernel_rfl)
def T121 : Tab := ⟨[], [], []⟩
def pL_szRow (fuel : Nat) (a1 : LRow) (a2 : Int) : Option Int :=
  bd (pL_szCellS fuel a1.Cells a2) fun x3 =>
  br (decide (x3 < 0)) (
    some (-1)) <|
  some x3
def o121 (fuel : Nat) : Orc := ⟨121, [none, none], [.st .lRow [], .I .i64], 0, (.one (.I .i64)), fun v => pL_szRow fuel v.1 v.2⟩
theorem c121 {G : Nat} {E : World → Prop} (hcl : Cl G E) (fuel : Nat) : Ctr Tryz.prog G E (o121 fuel) := Ctr.mk (csc (c120 hcl fuel) csn) facts mixed hcl.cl T121 fuel (fn := Tryz.f121) (by kernel_rfl) rfl (by kernel_rfl) (fun _ => by kernel_rfl) (fun _ _ => by kernel_rfl) (fun _ => by kernel_rfl)
def T86 : Tab := ⟨[], [], [(5, true, ⟨[], [.sl 0 (.row .lRow), .sl 1 (.I .i64), .sl 5 (.I .i64)]⟩, 0, ⟨[], [.sl 1 (.I .i64)]⟩)]⟩
def pL_szRowS_b1 (fuel : Nat) : List LRow × Int × Int → Option ((List LRow × Int × Int) ⊕ (Int ⊕ Int)) := fun (v5, v6, v7) =>
  br (decide (v7 < (↑v5.length : Int))) (
    gd (0 ≤ v7 ∧ v7 < (↑v5.length : Int)) <|
    bd v5[v7.toNat]? fun x8 =>
    bd (pL_szRow fuel x8 v6) fun x9 =>
    br (decide (x9 < 0)) (
      some (.inr (.inr (-1)))) <|
    some (.inl (v5, x9, IntKind.i64.wrap (v7 + 1)))) <|
  some (.inr (.inl v6))
def pL_szRowS (fuel : Nat) (a1 : List LRow) (a2 : Int) : Option Int :=
  gd (inK IntKind.i64 (a2 - (↑a1.length : Int))) <|
  br (decide (a2 - (↑a1.length : Int) < 0)) (
    some (-1)) <|
  jn (V := Int) (
    loopF (pL_szRowS_b1 fuel) fuel (a1, a2 - (↑a1.length : Int), 0)) fun v4 =>
  some v4
def o86 (fuel : Nat) : Orc := ⟨86, [none, none], [.row .lRow, .I .i64], 0, (.one (.I .i64)), fun v => pL_szRowS fuel v.1 v.2⟩
theorem c86 {G : Nat} {E : World → Prop} (hcl : Cl G E) (fuel : Nat) : Ctr Tryz.prog G E (o86 fuel) := Ctr.mk (csc (c121 hcl fuel) csn) facts mixed hcl.cl T86 fuel (fn := Tryz.f86) (by kernel_rfl) rfl (by kernel_rfl) (fun _ => by kernel_rfl) (fun _ _ => by kernel_rfl) (fun _ => by kernel_rfl)
def T61 : Tab := ⟨[], [], []⟩
def pL_szScr (fuel : Nat) (a1 : LScr) (a2 : Int) : Option Int :=
  bd (pL_szGrid fuel a1.Main a2) fun x3 =>
  br (decide (x3 < 0)) (
    some (-1)) <|
  bd (pL_szGrid fuel a1.Alt x3) fun x4 =>
  br (decide (x4 < 0)) (
    some (-1)) <|
  bd (pL_szIntS fuel a1.Tabs x4) fun x5 =>
  br (decide (x5 < 0)) (
    some (-1)) <|
  bd (pL_szRowS fuel a1.Back x5) fun x6 =>
  br (decide (x6 < 0)) (
    some (-1)) <|
  some x6
def o61 (fuel : Nat) : Orc := ⟨61, [none, none], [.st .lScr [], .I .i64], 0, (.one (.I .i64)), fun v => pL_szScr fuel v.1 v.2⟩
theorem c61 {G : Nat} {E : World → Prop} (hcl : Cl G E) (fuel : Nat) : Ctr Tryz.prog G E (o61 fuel) := Ctr.mk (csc (c85 hcl fuel) (csc (c83 hcl fuel) (csc (c86 hcl fuel) csn))) facts mixed hcl.cl T61 fuel (fn := Tryz.f61) (by kernel_rfl) rfl (by kernel_rfl) (fun _ => by kernel_rfl) (fun _ _ => by kernel_rfl) (fun _ => by kernel_rfl)
def T32 : Tab := ⟨[], [], []⟩
def pL_szTerm (fuel : Nat) (a1 : LTerm) (a2 : Int) : Option Int :=
  bd (pL_szVp fuel a1.P a2) fun x3 =>
  br (decide (x3 < 0)) (
    some (-1)) <|
  bd (pL_szScr fuel a1.S x3) fun x4 =>
  br (decide (x4 < 0)) (
    some (-1)) <|
  some x4
def o32 (fuel : Nat) : Orc := ⟨32, [none, none], [.st .lTerm [], .I .i64], 0, (.one (.I .i64)), fun v => pL_szTerm fuel v.1 v.2⟩
theorem c32 {G : Nat} {E : World → Prop} (hcl : Cl G E) (fuel : Nat) : Ctr Tryz.prog G E (o32 fuel) := Ctr.mk (csc (c60 hcl fuel) (csc (c61 hcl fuel) csn)) facts mixed hcl.cl T32 fuel (fn := Tryz.f32) (by kernel_rfl) rfl (by kernel_rfl) (fun _ => by kernel_rfl) (fun _ _ => by kernel_rfl) (fun _ => by kernel_rfl)
def T11 : Tab := ⟨[], [], []⟩
def pL_szPane (fuel : Nat) (a1 : LPane) (a2 : Int) : Option Int :=
  gd (inK IntKind.i64 (a2 - (↑a1.Cmd.size : Int))) <|
  br (decide (a2 - (↑a1.Cmd.size : Int) < 0)) (
    some (-1)) <|
  gd (inK IntKind.i64 (a2 - (↑a1.Cmd.size : Int) - (↑a1.Dir.size : Int))) <|
  br (decide (a2 - (↑a1.Cmd.size : Int) - (↑a1.Dir.size : Int) < 0)) (
    some (-1)) <|
  bd (pL_szTerm fuel a1.Term (a2 - (↑a1.Cmd.size : Int) - (↑a1.Dir.size : Int))) fun x3 =>
  br (decide (x3 < 0)) (
    some (-1)) <|
  some x3
def o11 (fuel : Nat) : Orc := ⟨11, [none, none], [.st .lPane [], .I .i64], 0, (.one (.I .i64)), fun v => pL_szPane fuel v.1 v.2⟩
theorem c11 {G : Nat} {E : World → Prop} (hcl : Cl G E) (fuel : Nat) : Ctr Tryz.prog G E (o11 fuel) := Ctr.mk (csc (c32 hcl fuel) csn) facts mixed hcl.cl T11 fuel (fn := Tryz.f11) (by kernel_rfl) rfl (by kernel_rfl) (fun _ => by kernel_rfl) (fun _ _ => by kernel_rfl) (fun _ => by kernel_rfl)
def T62 : Tab := ⟨[], [], [(2, true, ⟨[], [.sl 1 (.I .i64), .sl 7 (.row .int), .sl 8 (.I .i64), .sl 9 (.I .i64)]⟩, 0, ⟨[], []⟩)]⟩
def pS_l02HasInt_b1 (fuel : Nat) : Int × List Int × Int × Int → Option ((Int × List Int × Int × Int) ⊕ (Unit ⊕ Bool)) := fun (v4, v5, v6, v7) =>
  br (decide (v7 < v6)) (
    gd (0 ≤ v7 ∧ v7 < (↑v5.length : Int)) <|
    bd v5[v7.toNat]? fun x8 =>
    br (x8 == v4) (
      some (.inr (.inr true))) <|
    gd (inK IntKind.i64 (v7 + 1)) <|
    some (.inl (v4, v5, v6, v7 + 1))) <|
  some (.inr (.inl ()))
def pS_l02HasInt (fuel : Nat) (a1 : List Int) (a2 : Int) : Option Bool :=
  jn (V := Unit) (
    loopF (pS_l02HasInt_b1 fuel) fuel (a2, a1, (↑a1.length : Int), 0)) fun _ =>
  some false
def o62 (fuel : Nat) : Orc := ⟨62, [none, none], [.row .int, .I .i64], 0, (.one .B), fun v => pS_l02HasInt fuel v.1 v.2⟩
theorem c62 {G : Nat} {E : World → Prop} (hcl : Cl G E) (fuel : Nat) : Ctr Tryz.prog G E (o62 fuel) := Ctr.mk csn facts mixed hcl.cl T62 fuel (fn := Tryz.f62) (by kernel_rfl) rfl (by kernel_rfl) (fun _ => by kernel_rfl) (fun _ _ => by kernel_rfl) (fun _ => by kernel_rfl)
def T33 : Tab := ⟨[(5, ⟨[(1, .ptr 200 0), (5, .ptr 600 0)], [.sto 200 .iTable [], .sto 600 .iProc [], .sl 3 (.own .int 700), .sl 8 (.row .iProc), .sl 9 (.I .i64), .sl 10 (.I .i64), .sl 56 .B]⟩), (9, ⟨[], [.sl 2 .B]⟩)], [], [(3, true, ⟨[(1, .ptr 200 0)], [.sto 200 .iTable [], .sl 3 (.own .int 700), .sl 8 (.row .iProc), .sl 9 (.I .i64), .sl 10 (.I .i64)]⟩, 0, ⟨[(1, .ptr 200 0)], [.sto 200 .iTable []]⟩)]⟩
def pS_TableOk_b1 (fuel : Nat) : ITable × List Int × List IProc × Int × Int → Option ((ITable × List Int × List IProc × Int × Int) ⊕ (ITable ⊕ Bool)) := fun (v5, v6, v7, v8, v9) =>
  br (decide (v9 < v8)) (
    gd (0 ≤ v9 ∧ v9 < (↑v7.length : Int)) <|
    bd v7[v9.toNat]? fun x10 =>
    bd (α := ITable × IProc × List Int × List IProc × Int × Int × Bool) (
      br (decide (x10.Pid < 1)) (
        some (v5, x10, v6, v7, v8, v9, true)) <|
      br (decide (v5.Next ≤ x10.Pid)) (
        some (v5, x10, v6, v7, v8, v9, true)) <|
      br (decide (0 < v9)) (
        gd (inK IntKind.i64 (v9 - 1)) <|
        gd (0 ≤ v9 - 1 ∧ v9 - 1 < (↑v5.Live.length : Int)) <|
        bd (v5.Live[(v9 - 1).toNat]?) fun x11 =>
        br (decide (x10.Pid ≤ x11.Pid)) (
          some (v5, x10, v6, v7, v8, v9, true)) <|
        br (decide (x10.Pane < 1)) (
          some (v5, x10, v6, v7, v8, v9, true)) <|
        br (decide (1000000 < x10.Pane)) (
          some (v5, x10, v6, v7, v8, v9, true)) <|
        bd (pS_l02HasInt fuel v6 x10.Pane) fun x12 =>
        some (v5, x10, v6, v7, v8, v9, x12)) <|
      br (decide (x10.Pane < 1)) (
        some (v5, x10, v6, v7, v8, v9, true)) <|
      br (decide (1000000 < x10.Pane)) (
        some (v5, x10, v6, v7, v8, v9, true)) <|
      bd (pS_l02HasInt fuel v6 x10.Pane) fun x13 =>
      some (v5, x10, v6, v7, v8, v9, x13)) fun (x14, x15, x16, x17, x18, x19, x20) =>
    br x20 (
      some (.inr (.inr false))) <|
    gd (roomB K.int (x16 ++ [x15.Pane]).length) <|
    gd (inK IntKind.i64 (x19 + 1)) <|
    some (.inl (x14, x16 ++ [x15.Pane], x17, x18, x19 + 1))) <|
  some (.inr (.inl v5))
def pS_TableOk (fuel : Nat) (a1 : ITable) : Option Bool :=
  jn (V := ITable) (
    loopF (pS_TableOk_b1 fuel) fuel (a1, [], a1.Live, (↑a1.Live.length : Int), 0)) fun v3 =>
  bd (α := Bool) (
    br (decide (1 ≤ v3.Next)) (
      some (decide (v3.Next ≤ 1000000))) <|
    some false) fun x4 =>
  some x4
def o33 (fuel : Nat) : Orc := ⟨33, [none], [.st .iTable []], 0, (.one .B), fun v => pS_TableOk fuel v⟩
theorem c33 {G : Nat} {E : World → Prop} (hcl : Cl G E) (fuel : Nat) : Ctr Tryz.prog G E (o33 fuel) := Ctr.mk (csc (c62 hcl fuel) csn) facts mixed hcl.cl T33 fuel (fn := Tryz.f33) (by kernel_rfl) rfl (by kernel_rfl) (fun _ => by kernel_rfl) (fun _ _ => by kernel_rfl) (fun _ => by kernel_rfl)
def T122 : Tab := ⟨[(1, ⟨[], [.sl 2 .B]⟩)], [], []⟩
def pS_l08Keeps (fuel : Nat) (a1 : Int) : Option Bool :=
  bd (α := Bool) (
    br (a1 == 2) (
      some true) <|
    some (a1 == 3)) fun x2 =>
  some x2
def o122 (fuel : Nat) : Orc := ⟨122, [none], [.I .i64], 0, (.one .B), fun v => pS_l08Keeps fuel v⟩
theorem c122 {G : Nat} {E : World → Prop} (hcl : Cl G E) (fuel : Nat) : Ctr Tryz.prog G E (o122 fuel) := Ctr.mk csn facts mixed hcl.cl T122 fuel (fn := Tryz.f122) (by kernel_rfl) rfl (by kernel_rfl) (fun _ => by kernel_rfl) (fun _ _ => by kernel_rfl) (fun _ => by kernel_rfl)
def T112 : Tab := ⟨[(1, ⟨[], [.sl 2 .B]⟩)], [], []⟩
def pS_Shows (fuel : Nat) (a1 : Int) : Option Bool :=
  bd (α := Bool) (
    br (decide (32 ≤ a1)) (
      br (decide (a1 ≤ 126)) (
        some true) <|
      br (decide (160 ≤ a1)) (
        br (decide (a1 ≤ 65535)) (
          br (decide (a1 < 55296)) (
            some true) <|
          some (decide (57343 < a1))) <|
        some false) <|
      some false) <|
    br (decide (160 ≤ a1)) (
      br (decide (a1 ≤ 65535)) (
        br (decide (a1 < 55296)) (
          some true) <|
        some (decide (57343 < a1))) <|
      some false) <|
    some false) fun x2 =>
  some x2
def o112 (fuel : Nat) : Orc := ⟨112, [none], [.I .i64], 0, (.one .B), fun v => pS_Shows fuel v⟩
theorem c112 {G : Nat} {E : World → Prop} (hcl : Cl G E) (fuel : Nat) : Ctr Tryz.prog G E (o112 fuel) := Ctr.mk csn facts mixed hcl.cl T112 fuel (fn := Tryz.f112) (by kernel_rfl) rfl (by kernel_rfl) (fun _ => by kernel_rfl) (fun _ _ => by kernel_rfl) (fun _ => by kernel_rfl)
def T79 : Tab := ⟨[], [], []⟩
def pS_RuneBytes (fuel : Nat) (a1 : Int) : Option (List UInt8) :=
  bd (pS_Shows fuel a1) fun x2 =>
  br (!x2) (
    some []) <|
  br (decide (a1 < 128)) (
    some ([UInt8.ofNat (IntKind.u8.wrap a1).toNat])) <|
  br (decide (a1 < 2048)) (
    gd ((64 : Int) ≠ (0 : Int)) <|
    gd (inK IntKind.i64 (a1.tdiv 64)) <|
    gd (inK IntKind.i64 (192 + a1.tdiv 64)) <|
    gd ((64 : Int) ≠ (0 : Int)) <|
    gd (inK IntKind.i64 (128 + a1.tmod 64)) <|
    some ([UInt8.ofNat (IntKind.u8.wrap (192 + a1.tdiv 64)).toNat, UInt8.ofNat (IntKind.u8.wrap (128 + a1.tmod 64)).toNat])) <|
  gd ((4096 : Int) ≠ (0 : Int)) <|
  gd (inK IntKind.i64 (a1.tdiv 4096)) <|
  gd (inK IntKind.i64 (224 + a1.tdiv 4096)) <|
  gd ((64 : Int) ≠ (0 : Int)) <|
  gd (inK IntKind.i64 (a1.tdiv 64)) <|
  gd ((64 : Int) ≠ (0 : Int)) <|
  gd (inK IntKind.i64 (128 + (a1.tdiv 64).tmod 64)) <|
  gd ((64 : Int) ≠ (0 : Int)) <|
  gd (inK IntKind.i64 (128 + a1.tmod 64)) <|
  some ([UInt8.ofNat (IntKind.u8.wrap (224 + a1.tdiv 4096)).toNat, UInt8.ofNat (IntKind.u8.wrap (128 + (a1.tdiv 64).tmod 64)).toNat, UInt8.ofNat (IntKind.u8.wrap (128 + a1.tmod 64)).toNat])
def o79 (fuel : Nat) : Orc := ⟨79, [none], [.I .i64], 0, (.one (.own .u8 99)), fun v => pS_RuneBytes fuel v⟩
theorem c79 {G : Nat} {E : World → Prop} (hcl : Cl G E) (fuel : Nat) : Ctr Tryz.prog G E (o79 fuel) := Ctr.mk (csc (c112 hcl fuel) csn) facts mixed hcl.cl T79 fuel (fn := Tryz.f79) (by kernel_rfl) rfl (by kernel_rfl) (fun _ => by kernel_rfl) (fun _ _ => by kernel_rfl) (fun _ => by kernel_rfl)
def T154 : Tab := ⟨[(1, ⟨[], [.sl 0 (.row .u8), .sl 1 (.I .i64), .sl 17 .B]⟩), (4, ⟨[], [.sl 0 (.row .u8), .sl 1 (.I .i64), .sl 6 (.I .i64), .sl 27 .B]⟩), (12, ⟨[], [.sl 0 (.row .u8), .sl 1 (.I .i64), .sl 6 (.I .i64), .sl 7 (.I .i64), .sl 73 .B]⟩)], [], [(8, false, ⟨[], [.sl 0 (.row .u8), .sl 1 (.I .i64), .sl 6 (.I .i64), .sl 7 (.I .i64), .sl 8 (.I .i64)]⟩, 2, ⟨[], [.sl 0 (.row .u8), .sl 1 (.I .i64), .sl 6 (.I .i64), .sl 7 (.I .i64)]⟩), (4, true, ⟨[], [.sl 0 (.row .u8), .sl 1 (.I .i64), .sl 6 (.I .i64)]⟩, 0, ⟨[], []⟩)]⟩
def pS_RuneRead_b2 (fuel : Nat) : List UInt8 × Int × Int × Int × Int → Option ((List UInt8 × Int × Int × Int × Int) ⊕ (List UInt8 × Int × Int × Int)) := fun (v27, v28, v29, v30, v31) =>
  br (decide (v31 < v29)) (
    gd (inK IntKind.i64 (v30 * 64)) <|
    gd (inK IntKind.i64 (v28 + v31)) <|
    gd (0 ≤ v28 + v31 ∧ v28 + v31 < (↑v27.length : Int)) <|
    bd (v27[(v28 + v31).toNat]?) fun x32 =>
    gd (inK IntKind.i64 (v30 * 64 + (↑x32.toNat : Int))) <|
    gd (inK IntKind.i64 (v30 * 64 + (↑x32.toNat : Int) - 128)) <|
    gd (inK IntKind.i64 (v31 + 1)) <|
    some (.inl (v27, v28, v29, v30 * 64 + (↑x32.toNat : Int) - 128, v31 + 1))) <|
  some (.inr (v27, v28, v29, v30))
def pS_RuneRead_b1 (fuel : Nat) : List UInt8 × Int × Int → Option ((List UInt8 × Int × Int) ⊕ (Unit ⊕ Int × Int)) := fun (v7, v8, v9) =>
  bd (α := List UInt8 × Int × Int × Bool) (
    br (decide (v9 ≤ 3)) (
      gd (inK IntKind.i64 ((↑v7.length : Int) - v8)) <|
      some (v7, v8, v9, decide (v9 ≤ (↑v7.length : Int) - v8))) <|
    some (v7, v8, v9, false)) fun (x10, x11, x12, x13) =>
  br x13 (
    gd (0 ≤ x11 ∧ x11 < (↑x10.length : Int)) <|
    bd x10[x11.toNat]? fun x14 =>
    gd (0 ≤ x12 ∧ x12 < (↑4 : Int)) <|
    bd ([0, 0, 192, 224][0 + x12.toNat]?) fun x15 =>
    gd (inK IntKind.i64 ((↑x14.toNat : Int) - x15)) <|
    bd (α := List UInt8 × Int × Int × Int) (
      loopF (pS_RuneRead_b2 fuel) fuel (x10, x11, x12, (↑x14.toNat : Int) - x15, 1)) fun (x17, x18, x19, x20) =>
    bd (pS_RuneBytes fuel x20) fun x21 =>
    bd (α := List UInt8 × Int × Int × Int × Bool) (
      br ((↑x21.length : Int) == x19) (
        gd (inK IntKind.i64 (x18 + x19)) <|
        gd (0 ≤ x18 + x19 ∧ x18 + x19 ≤ (↑x17.length : Int)) <|
        gd (0 ≤ x18 ∧ x18 ≤ (↑(x18 + x19).toNat : Int)) <|
        some (x17, x18, x19, x20, decide (ByteArray.mk x21.toArray = ByteArray.mk (List.drop x18.toNat (List.take (x18 + x19).toNat x17)).toArray))) <|
      some (x17, x18, x19, x20, false)) fun (x22, x23, x24, x25, x26) =>
    br x26 (
      some (.inr (.inr (x25, x24)))) <|
    gd (inK IntKind.i64 (x24 + 1)) <|
    some (.inl (x22, x23, x24 + 1))) <|
  some (.inr (.inl ()))
def pS_RuneRead (fuel : Nat) (a1 : List UInt8) (a2 : Int) : Option (Int × Int) :=
  bd (α := List UInt8 × Int × Bool) (
    br (decide (a2 < 0)) (
      some (a1, a2, true)) <|
    some (a1, a2, decide ((↑a1.length : Int) ≤ a2))) fun (x3, x4, x5) =>
  br x5 (
    some (0, 0)) <|
  jn (V := Unit) (
    loopF (pS_RuneRead_b1 fuel) fuel (x3, x4, 1)) fun _ =>
  some (0, 0)
def o154 (fuel : Nat) : Orc := ⟨154, [none, none], [.row .u8, .I .i64], 0, (.tup [.I .i64, .I .i64]), fun v => pS_RuneRead fuel v.1 v.2⟩
theorem c154 {G : Nat} {E : World → Prop} (hcl : Cl G E) (fuel : Nat) : Ctr Tryz.prog G E (o154 fuel) := Ctr.mk (csc (c79 hcl fuel) csn) facts mixed hcl.cl T154 fuel (fn := Tryz.f154) (by kernel_rfl) rfl (by kernel_rfl) (fun _ => by kernel_rfl) (fun _ _ => by kernel_rfl) (fun _ => by kernel_rfl)
def T123 : Tab := ⟨[(1, ⟨[], [.sl 0 (.row .u8), .sl 17 .B]⟩)], [(5, true, ⟨[], [.sl 0 (.row .u8), .sl 3 (.I .i64)]⟩)], [(4, true, ⟨[], [.sl 0 (.row .u8), .sl 3 (.I .i64)]⟩, 0, ⟨[], []⟩)]⟩
def pS_RuneBegin_b1 (fuel : Nat) : List UInt8 × Int → Option ((List UInt8 × Int) ⊕ (Unit ⊕ Bool)) := fun (v5, v6) =>
  br (decide (v6 < 192)) (
    jn (V := List UInt8 × Int) (
      gd (roomB K.u8 ([] ++ v5).length) <|
      gd (roomB K.u8 ([] ++ v5 ++ [UInt8.ofNat (IntKind.u8.wrap v6).toNat]).length) <|
      bd (pS_RuneRead fuel ([] ++ v5 ++ [UInt8.ofNat (IntKind.u8.wrap v6).toNat]) 0) fun (x7, x8) =>
      br (x8 == (↑([] ++ v5 ++ [UInt8.ofNat (IntKind.u8.wrap v6).toNat]).length : Int)) (
        some (.inr (.inr (.inr true)))) <|
      br ((↑v5.length : Int) == 1) (
        gd (roomB K.u8 ([] ++ ([] ++ v5 ++ [UInt8.ofNat (IntKind.u8.wrap v6).toNat])).length) <|
        gd (roomB K.u8 ([] ++ ([] ++ v5 ++ [UInt8.ofNat (IntKind.u8.wrap v6).toNat]) ++ [UInt8.ofNat (Int.toNat 129)]).length) <|
        bd (pS_RuneRead fuel ([] ++ ([] ++ v5 ++ [UInt8.ofNat (IntKind.u8.wrap v6).toNat]) ++ [UInt8.ofNat (Int.toNat 129)]) 0) fun (x9, x10) =>
        br (x10 == 3) (
          some (.inr (.inr (.inr true)))) <|
        some (.inl (v5, v6))) <|
      some (.inl (v5, v6))) fun (v11, v12) =>
    gd (inK IntKind.i64 (v12 + 1)) <|
    some (.inl (v11, v12 + 1))) <|
  some (.inr (.inl ()))
def pS_RuneBegin (fuel : Nat) (a1 : List UInt8) : Option Bool :=
  bd (α := List UInt8 × Bool) (
    br (decide ((↑a1.length : Int) < 1)) (
      some (a1, true)) <|
    some (a1, decide (2 < (↑a1.length : Int)))) fun (x2, x3) =>
  br x3 (
    some false) <|
  jn (V := Unit) (
    loopF (pS_RuneBegin_b1 fuel) fuel (x2, 128)) fun _ =>
  some false
def o123 (fuel : Nat) : Orc := ⟨123, [none], [.row .u8], 0, (.one .B), fun v => pS_RuneBegin fuel v⟩
theorem c123 {G : Nat} {E : World → Prop} (hcl : Cl G E) (fuel : Nat) : Ctr Tryz.prog G E (o123 fuel) := Ctr.mk (csc (c154 hcl fuel) csn) facts mixed hcl.cl T123 fuel (fn := Tryz.f123) (by kernel_rfl) rfl (by kernel_rfl) (fun _ => by kernel_rfl) (fun _ _ => by kernel_rfl) (fun _ => by kernel_rfl)
def T87 : Tab := ⟨[(1, ⟨[(1, .ptr 200 0)], [.sto 200 .iVp [], .sl 34 .B]⟩), (6, ⟨[(1, .ptr 200 0)], [.sto 200 .iVp [], .sl 36 (.row .int), .sl 37 (.I .i64), .sl 38 (.I .i64), .sl 47 .B]⟩), (9, ⟨[], [.sl 2 .B]⟩)], [], [(4, true, ⟨[(1, .ptr 200 0)], [.sto 200 .iVp [], .sl 36 (.row .int), .sl 37 (.I .i64), .sl 38 (.I .i64)]⟩, 0, ⟨[(1, .ptr 200 0)], [.sto 200 .iVp []]⟩)]⟩
def pS_VpOk_b1 (fuel : Nat) : IVp × List Int × Int × Int → Option ((IVp × List Int × Int × Int) ⊕ (IVp ⊕ Bool)) := fun (v9, v10, v11, v12) =>
  br (decide (v12 < v11)) (
    gd (0 ≤ v12 ∧ v12 < (↑v10.length : Int)) <|
    bd v10[v12.toNat]? fun x13 =>
    bd (α := IVp × List Int × Int × Int × Bool) (
      br (decide (x13 < 0)) (
        some (v9, v10, v11, v12, true)) <|
      some (v9, v10, v11, v12, decide (9999 < x13))) fun (x14, x15, x16, x17, x18) =>
    br x18 (
      some (.inr (.inr false))) <|
    gd (inK IntKind.i64 (x17 + 1)) <|
    some (.inl (x14, x15, x16, x17 + 1))) <|
  some (.inr (.inl v9))
def pS_VpOk (fuel : Nat) (a1 : IVp) : Option Bool :=
  bd (α := IVp × Bool) (
    br (decide (a1.State < 0)) (
      some (a1, true)) <|
    br (decide (3 < a1.State)) (
      some (a1, true)) <|
    br (decide (8 < (↑a1.Args.length : Int))) (
      some (a1, true)) <|
    bd (pS_l08Keeps fuel a1.State) fun x2 =>
    br (!x2) (
      br a1.Mark (
        some (a1, true)) <|
      some (a1, decide (0 < (↑a1.Args.length : Int)))) <|
    some (a1, false)) fun (x3, x4) =>
  br x4 (
    some false) <|
  jn (V := IVp) (
    loopF (pS_VpOk_b1 fuel) fuel (x3, x3.Args, (↑x3.Args.length : Int), 0)) fun v6 =>
  bd (α := Bool) (
    br ((↑v6.Part.length : Int) == 0) (
      some true) <|
    br (v6.State == 0) (
      bd (pS_RuneBegin fuel v6.Part) fun x7 =>
      some x7) <|
    some false) fun x8 =>
  some x8
def o87 (fuel : Nat) : Orc := ⟨87, [none], [.st .iVp []], 0, (.one .B), fun v => pS_VpOk fuel v⟩
theorem c87 {G : Nat} {E : World → Prop} (hcl : Cl G E) (fuel : Nat) : Ctr Tryz.prog G E (o87 fuel) := Ctr.mk (csc (c122 hcl fuel) (csc (c123 hcl fuel) csn)) facts mixed hcl.cl T87 fuel (fn := Tryz.f87) (by kernel_rfl) rfl (by kernel_rfl) (fun _ => by kernel_rfl) (fun _ _ => by kernel_rfl) (fun _ => by kernel_rfl)
def T125 : Tab := ⟨[(1, ⟨[], [.sl 2 .B]⟩)], [], []⟩
def pS_AttrOk (fuel : Nat) (a1 : IAttr) : Option Bool :=
  bd (α := Bool) (
    br (decide (0 ≤ a1.Fg)) (
      br (decide (a1.Fg ≤ 8)) (
        br (decide (0 ≤ a1.Bg)) (
          some (decide (a1.Bg ≤ 8))) <|
        some false) <|
      some false) <|
    some false) fun x2 =>
  some x2
def o125 (fuel : Nat) : Orc := ⟨125, [none], [.st .iAttr []], 0, (.one .B), fun v => pS_AttrOk fuel v⟩
theorem c125 {G : Nat} {E : World → Prop} (hcl : Cl G E) (fuel : Nat) : Ctr Tryz.prog G E (o125 fuel) := Ctr.mk csn facts mixed hcl.cl T125 fuel (fn := Tryz.f125) (by kernel_rfl) rfl (by kernel_rfl) (fun _ => by kernel_rfl) (fun _ _ => by kernel_rfl) (fun _ => by kernel_rfl)
def T155 : Tab := ⟨[(1, ⟨[], [.sl 2 .B]⟩)], [], []⟩
def pS_CellOk (fuel : Nat) (a1 : ICell) : Option Bool :=
  bd (α := Bool) (
    bd (pS_Shows fuel a1.R) fun x2 =>
    br x2 (
      bd (pS_AttrOk fuel a1.A) fun x3 =>
      some x3) <|
    some false) fun x4 =>
  some x4
def o155 (fuel : Nat) : Orc := ⟨155, [none], [.st .iCell []], 0, (.one .B), fun v => pS_CellOk fuel v⟩
theorem c155 {G : Nat} {E : World → Prop} (hcl : Cl G E) (fuel : Nat) : Ctr Tryz.prog G E (o155 fuel) := Ctr.mk (csc (c112 hcl fuel) (csc (c125 hcl fuel) csn)) facts mixed hcl.cl T155 fuel (fn := Tryz.f155) (by kernel_rfl) rfl (by kernel_rfl) (fun _ => by kernel_rfl) (fun _ _ => by kernel_rfl) (fun _ => by kernel_rfl)
def T124 : Tab := ⟨[(1, ⟨[(1, .ptr 200 0)], [.sto 200 .iGrid [], .sl 41 .B]⟩)], [], [(4, true, ⟨[], [.sl 43 (.row .iCell), .sl 44 (.I .i64), .sl 45 (.I .i64)]⟩, 0, ⟨[], []⟩)]⟩
def pS_GridOk_b1 (fuel : Nat) : List ICell × Int × Int → Option ((List ICell × Int × Int) ⊕ (Unit ⊕ Bool)) := fun (v5, v6, v7) =>
  br (decide (v7 < v6)) (
    gd (0 ≤ v7 ∧ v7 < (↑v5.length : Int)) <|
    bd v5[v7.toNat]? fun x8 =>
    bd (pS_CellOk fuel x8) fun x9 =>
    br (!x9) (
      some (.inr (.inr false))) <|
    gd (inK IntKind.i64 (v7 + 1)) <|
    some (.inl (v5, v6, v7 + 1))) <|
  some (.inr (.inl ()))
def pS_GridOk (fuel : Nat) (a1 : IGrid) : Option Bool :=
  bd (α := IGrid × Bool) (
    br (decide (a1.W < 1)) (
      some (a1, true)) <|
    br (decide (120 < a1.W)) (
      some (a1, true)) <|
    br (decide (a1.H < 1)) (
      some (a1, true)) <|
    br (decide (120 < a1.H)) (
      some (a1, true)) <|
    gd (inK IntKind.i64 (a1.W * a1.H)) <|
    br (decide (4000 < a1.W * a1.H)) (
      some (a1, true)) <|
    gd (inK IntKind.i64 (a1.W * a1.H)) <|
    some (a1, (↑a1.Cells.length : Int) != a1.W * a1.H)) fun (x2, x3) =>
  br x3 (
    some false) <|
  jn (V := Unit) (
    loopF (pS_GridOk_b1 fuel) fuel (x2.Cells, (↑x2.Cells.length : Int), 0)) fun _ =>
  some true
def o124 (fuel : Nat) : Orc := ⟨124, [none], [.st .iGrid []], 0, (.one .B), fun v => pS_GridOk fuel v⟩
theorem c124 {G : Nat} {E : World → Prop} (hcl : Cl G E) (fuel : Nat) : Ctr Tryz.prog G E (o124 fuel) := Ctr.mk (csc (c155 hcl fuel) csn) facts mixed hcl.cl T124 fuel (fn := Tryz.f124) (by kernel_rfl) rfl (by kernel_rfl) (fun _ => by kernel_rfl) (fun _ _ => by kernel_rfl) (fun _ => by kernel_rfl)
def T126 : Tab := ⟨[(7, ⟨[], [.sl 2 .B]⟩)], [], [(2, true, ⟨[(1, .ptr 200 0)], [.sto 200 .iRow [], .sl 6 (.row .iCell), .sl 7 (.I .i64), .sl 8 (.I .i64)]⟩, 0, ⟨[(1, .ptr 200 0)], [.sto 200 .iRow []]⟩)]⟩
def pS_l09Row_b1 (fuel : Nat) : IRow × List ICell × Int × Int → Option ((IRow × List ICell × Int × Int) ⊕ (IRow ⊕ Bool)) := fun (v5, v6, v7, v8) =>
  br (decide (v8 < v7)) (
    gd (0 ≤ v8 ∧ v8 < (↑v6.length : Int)) <|
    bd v6[v8.toNat]? fun x9 =>
    bd (pS_CellOk fuel x9) fun x10 =>
    br (!x10) (
      some (.inr (.inr false))) <|
    gd (inK IntKind.i64 (v8 + 1)) <|
    some (.inl (v5, v6, v7, v8 + 1))) <|
  some (.inr (.inl v5))
def pS_l09Row (fuel : Nat) (a1 : IRow) : Option Bool :=
  jn (V := IRow) (
    loopF (pS_l09Row_b1 fuel) fuel (a1, a1.Cells, (↑a1.Cells.length : Int), 0)) fun v3 =>
  bd (α := Bool) (
    br (decide (1 ≤ (↑v3.Cells.length : Int))) (
      some (decide ((↑v3.Cells.length : Int) ≤ 120))) <|
    some false) fun x4 =>
  some x4
def o126 (fuel : Nat) : Orc := ⟨126, [none], [.st .iRow []], 0, (.one .B), fun v => pS_l09Row fuel v⟩
theorem c126 {G : Nat} {E : World → Prop} (hcl : Cl G E) (fuel : Nat) : Ctr Tryz.prog G E (o126 fuel) := Ctr.mk (csc (c155 hcl fuel) csn) facts mixed hcl.cl T126 fuel (fn := Tryz.f126) (by kernel_rfl) rfl (by kernel_rfl) (fun _ => by kernel_rfl) (fun _ _ => by kernel_rfl) (fun _ => by kernel_rfl)
def T88 : Tab := ⟨[(1, ⟨[(1, .ptr 200 0)], [.sto 200 .iScr [], .sl 48 .B]⟩), (3, ⟨[(1, .ptr 200 0)], [.sto 200 .iScr [], .sl 118 .B]⟩), (5, ⟨[(1, .ptr 200 0)], [.sto 200 .iScr [], .sl 165 .B]⟩), (10, ⟨[(1, .ptr 200 0)], [.sto 200 .iScr [], .sl 167 (.row .int), .sl 168 (.I .i64), .sl 169 (.I .i64), .sl 195 .B]⟩)], [], [(8, true, ⟨[(1, .ptr 200 0)], [.sto 200 .iScr [], .sl 167 (.row .int), .sl 168 (.I .i64), .sl 169 (.I .i64)]⟩, 0, ⟨[(1, .ptr 200 0)], [.sto 200 .iScr []]⟩), (14, true, ⟨[], [.sl 198 (.row .iRow), .sl 199 (.I .i64), .sl 200 (.I .i64)]⟩, 2, ⟨[], []⟩)]⟩
def pS_ScrOk_b2 (fuel : Nat) : List IRow × Int × Int → Option ((List IRow × Int × Int) ⊕ (Unit ⊕ Bool)) := fun (v28, v29, v30) =>
  br (decide (v30 < v29)) (
    gd (0 ≤ v30 ∧ v30 < (↑v28.length : Int)) <|
    bd v28[v30.toNat]? fun x31 =>
    bd (pS_l09Row fuel x31) fun x32 =>
    br (!x32) (
      some (.inr (.inr false))) <|
    gd (inK IntKind.i64 (v30 + 1)) <|
    some (.inl (v28, v29, v30 + 1))) <|
  some (.inr (.inl ()))
def pS_ScrOk_b1 (fuel : Nat) : IScr × List Int × Int × Int → Option ((IScr × List Int × Int × Int) ⊕ (IScr ⊕ Bool)) := fun (v17, v18, v19, v20) =>
  br (decide (v20 < v19)) (
    gd (0 ≤ v20 ∧ v20 < (↑v18.length : Int)) <|
    bd v18[v20.toNat]? fun x21 =>
    bd (α := IScr × List Int × Int × Int × Bool) (
      br (decide (x21 < 0)) (
        some (v17, v18, v19, v20, true)) <|
      br (decide (v17.W ≤ x21)) (
        some (v17, v18, v19, v20, true)) <|
      br (decide (0 < v20)) (
        gd (inK IntKind.i64 (v20 - 1)) <|
        gd (0 ≤ v20 - 1 ∧ v20 - 1 < (↑v17.Tabs.length : Int)) <|
        bd (v17.Tabs[(v20 - 1).toNat]?) fun x22 =>
        some (v17, v18, v19, v20, decide (x21 ≤ x22))) <|
      some (v17, v18, v19, v20, false)) fun (x23, x24, x25, x26, x27) =>
    br x27 (
      some (.inr (.inr false))) <|
    gd (inK IntKind.i64 (x26 + 1)) <|
    some (.inl (x23, x24, x25, x26 + 1))) <|
  some (.inr (.inl v17))
def pS_ScrOk (fuel : Nat) (a1 : IScr) : Option Bool :=
  bd (α := IScr × Bool) (
    bd (pS_GridOk fuel a1.Main) fun x2 =>
    br (!x2) (
      some (a1, true)) <|
    bd (pS_GridOk fuel a1.Alt) fun x3 =>
    br (!x3) (
      some (a1, true)) <|
    br (a1.Main.W != a1.W) (
      some (a1, true)) <|
    br (a1.Main.H != a1.H) (
      some (a1, true)) <|
    br (a1.Alt.W != a1.W) (
      some (a1, true)) <|
    some (a1, a1.Alt.H != a1.H)) fun (x4, x5) =>
  br x5 (
    some false) <|
  bd (α := IScr × Bool) (
    br (decide (x4.X < 0)) (
      some (x4, true)) <|
    br (decide (x4.W ≤ x4.X)) (
      some (x4, true)) <|
    br (decide (x4.Y < 0)) (
      some (x4, true)) <|
    br (decide (x4.H ≤ x4.Y)) (
      some (x4, true)) <|
    br x4.Wrap (
      gd (inK IntKind.i64 (x4.W - 1)) <|
      br (x4.X != x4.W - 1) (
        some (x4, true)) <|
      br (decide (x4.SaveX < 0)) (
        some (x4, true)) <|
      br (decide (x4.W ≤ x4.SaveX)) (
        some (x4, true)) <|
      br (decide (x4.SaveY < 0)) (
        some (x4, true)) <|
      br (decide (x4.H ≤ x4.SaveY)) (
        some (x4, true)) <|
      bd (pS_AttrOk fuel x4.A) fun x6 =>
      br (!x6) (
        some (x4, true)) <|
      bd (pS_AttrOk fuel x4.SaveA) fun x7 =>
      some (x4, !x7)) <|
    br (decide (x4.SaveX < 0)) (
      some (x4, true)) <|
    br (decide (x4.W ≤ x4.SaveX)) (
      some (x4, true)) <|
    br (decide (x4.SaveY < 0)) (
      some (x4, true)) <|
    br (decide (x4.H ≤ x4.SaveY)) (
      some (x4, true)) <|
    bd (pS_AttrOk fuel x4.A) fun x8 =>
    br (!x8) (
      some (x4, true)) <|
    bd (pS_AttrOk fuel x4.SaveA) fun x9 =>
    some (x4, !x9)) fun (x10, x11) =>
  br x11 (
    some false) <|
  bd (α := IScr × Bool) (
    br (decide (x10.Top < 0)) (
      some (x10, true)) <|
    br (decide (x10.H ≤ x10.Bot)) (
      some (x10, true)) <|
    br (decide (x10.Bot < x10.Top)) (
      some (x10, true)) <|
    br (x10.Top == x10.Bot) (
      br (x10.H != 1) (
        some (x10, true)) <|
      br (decide (x10.Limit < 0)) (
        some (x10, true)) <|
      br (decide (100 < x10.Limit)) (
        some (x10, true)) <|
      some (x10, decide (x10.Limit < (↑x10.Back.length : Int)))) <|
    br (decide (x10.Limit < 0)) (
      some (x10, true)) <|
    br (decide (100 < x10.Limit)) (
      some (x10, true)) <|
    some (x10, decide (x10.Limit < (↑x10.Back.length : Int)))) fun (x12, x13) =>
  br x13 (
    some false) <|
  jn (V := IScr) (
    loopF (pS_ScrOk_b1 fuel) fuel (x12, x12.Tabs, (↑x12.Tabs.length : Int), 0)) fun v15 =>
  jn (V := Unit) (
    loopF (pS_ScrOk_b2 fuel) fuel (v15.Back, (↑v15.Back.length : Int), 0)) fun _ =>
  some true
def o88 (fuel : Nat) : Orc := ⟨88, [none], [.st .iScr []], 0, (.one .B), fun v => pS_ScrOk fuel v⟩
theorem c88 {G : Nat} {E : World → Prop} (hcl : Cl G E) (fuel : Nat) : Ctr Tryz.prog G E (o88 fuel) := Ctr.mk (csc (c124 hcl fuel) (csc (c125 hcl fuel) (csc (c126 hcl fuel) csn))) facts mixed hcl.cl T88 fuel (fn := Tryz.f88) (by kernel_rfl) rfl (by kernel_rfl) (fun _ => by kernel_rfl) (fun _ _ => by kernel_rfl) (fun _ => by kernel_rfl)
def T63 : Tab := ⟨[(1, ⟨[], [.sl 2 .B]⟩)], [], []⟩
def pS_TermOk (fuel : Nat) (a1 : ITerm) : Option Bool :=
  bd (α := Bool) (
    bd (pS_VpOk fuel a1.P) fun x2 =>
    br x2 (
      bd (pS_ScrOk fuel a1.S) fun x3 =>
      some x3) <|
    some false) fun x4 =>
  some x4
def o63 (fuel : Nat) : Orc := ⟨63, [none], [.st .iTerm []], 0, (.one .B), fun v => pS_TermOk fuel v⟩
theorem c63 {G : Nat} {E : World → Prop} (hcl : Cl G E) (fuel : Nat) : Ctr Tryz.prog G E (o63 fuel) := Ctr.mk (csc (c87 hcl fuel) (csc (c88 hcl fuel) csn)) facts mixed hcl.cl T63 fuel (fn := Tryz.f63) (by kernel_rfl) rfl (by kernel_rfl) (fun _ => by kernel_rfl) (fun _ _ => by kernel_rfl) (fun _ => by kernel_rfl)
def T34 : Tab := ⟨[(1, ⟨[(1, .ptr 200 0)], [.sto 200 .iPane [], .sl 28 .B]⟩), (5, ⟨[], [.sl 2 .B]⟩), (7, ⟨[], [.sl 2 .B]⟩), (9, ⟨[], [.sl 2 .B]⟩)], [], []⟩
def pS_PaneOk (fuel : Nat) (a1 : IPane) : Option Bool :=
  bd (α := IPane × Bool) (
    br (decide (a1.Id < 1)) (
      some (a1, true)) <|
    br (decide (1000000 < a1.Id)) (
      some (a1, true)) <|
    br (decide (60 < (↑a1.Cmd.size : Int))) (
      some (a1, true)) <|
    br (decide (60 < (↑a1.Dir.size : Int))) (
      some (a1, true)) <|
    bd (pS_TermOk fuel a1.Term) fun x2 =>
    some (a1, !x2)) fun (x3, x4) =>
  br x4 (
    some false) <|
  br (x3.Life == 1) (
    bd (α := Bool) (
      br (decide (1 ≤ x3.Pid)) (
        br (decide (x3.Pid ≤ 1000000)) (
          some (x3.Code == 0)) <|
        some false) <|
      some false) fun x5 =>
    some x5) <|
  br (x3.Life == 2) (
    bd (α := Bool) (
      br (x3.Pid == 0) (
        br (decide (0 ≤ x3.Code)) (
          some (decide (x3.Code ≤ 255))) <|
        some false) <|
      some false) fun x6 =>
    some x6) <|
  br (x3.Life == 3) (
    bd (α := Bool) (
      br (x3.Pid == 0) (
        some (x3.Code == 0)) <|
      some false) fun x7 =>
    some x7) <|
  some false
def o34 (fuel : Nat) : Orc := ⟨34, [none], [.st .iPane []], 0, (.one .B), fun v => pS_PaneOk fuel v⟩
theorem c34 {G : Nat} {E : World → Prop} (hcl : Cl G E) (fuel : Nat) : Ctr Tryz.prog G E (o34 fuel) := Ctr.mk (csc (c63 hcl fuel) csn) facts mixed hcl.cl T34 fuel (fn := Tryz.f34) (by kernel_rfl) rfl (by kernel_rfl) (fun _ => by kernel_rfl) (fun _ _ => by kernel_rfl) (fun _ => by kernel_rfl)
def T35 : Tab := ⟨[], [], []⟩
def pS_l21Copy (fuel : Nat) (a1 : ITable) : Option ITable :=
  gd (roomB K.iProc ([] ++ a1.Live).length) <|
  gd (roomB K.iAsk ([] ++ a1.Asked).length) <|
  some (ITable.mk a1.Next ([] ++ a1.Live) ([] ++ a1.Asked))
def o35 (fuel : Nat) : Orc := ⟨35, [none], [.st .iTable []], 0, (.one (.st .iTable [(1, 99), (2, 99)])), fun v => pS_l21Copy fuel v⟩
theorem c35 {G : Nat} {E : World → Prop} (hcl : Cl G E) (fuel : Nat) : Ctr Tryz.prog G E (o35 fuel) := Ctr.mk csn facts mixed hcl.cl T35 fuel (fn := Tryz.f35) (by kernel_rfl) rfl (by kernel_rfl) (fun _ => by kernel_rfl) (fun _ _ => by kernel_rfl) (fun _ => by kernel_rfl)
def T12 : Tab := ⟨[(1, ⟨[(2, .ptr 300 0), (3, .ptr 400 0), (4, .ptr 500 0)], [.sto 300 .iTable [], .sto 400 .iPane [], .sto 500 .iTable [(1, 50000001), (2, 50000002)], .sl 16 .B]⟩)], [], [(5, true, ⟨[(2, .ptr 300 0), (3, .ptr 400 0), (4, .ptr 500 0), (6, .ptr 700 0)], [.sto 300 .iTable [], .sto 400 .iPane [], .sto 500 .iTable [(1, 50000001), (2, 50000002)], .sto 700 .iTable [(1, 20000001), (2, 20000002)], .sl 21 (.row .iProc), .sl 22 (.I .i64), .sl 23 (.I .i64)]⟩, 0, ⟨[(2, .ptr 300 0), (3, .ptr 400 0), (4, .ptr 500 0), (6, .ptr 700 0)], [.sto 300 .iTable [], .sto 400 .iPane [], .sto 500 .iTable [(1, 50000001), (2, 50000002)], .sto 700 .iTable [(1, 20000001), (2, 20000002)]]⟩)]⟩
def pS_TableAsk_b1 (fuel : Nat) : ITable × IPane × ITable × ITable × List IProc × Int × Int → Option ((ITable × IPane × ITable × ITable × List IProc × Int × Int) ⊕ (ITable × IPane × ITable × ITable ⊕ ITable × Int)) := fun (v15, v16, v17, v18, v19, v20, v21) =>
  br (decide (v21 < v20)) (
    gd (0 ≤ v21 ∧ v21 < (↑v19.length : Int)) <|
    bd v19[v21.toNat]? fun x22 =>
    br (x22.Pane == v16.Id) (
      some (.inr (.inr (v18, 0)))) <|
    gd (inK IntKind.i64 (v21 + 1)) <|
    some (.inl (v15, v16, v17, v18, v19, v20, v21 + 1))) <|
  some (.inr (.inl (v15, v16, v17, v18)))
def pS_TableAsk (fuel : Nat) (a1 : ITable) (a2 : IPane) : Option (ITable × Int) :=
  bd (α := ITable × IPane × ITable × Bool) (
    bd (pS_TableOk fuel a1) fun x3 =>
    br (!x3) (
      some (a1, a2, ITable.mk 0 [] [], true)) <|
    bd (pS_PaneOk fuel a2) fun x4 =>
    some (a1, a2, ITable.mk 0 [] [], !x4)) fun (x5, x6, x7, x8) =>
  br x8 (
    some (ITable.mk 0 [] [], 0)) <|
  bd (pS_l21Copy fuel x5) fun x9 =>
  jn (V := ITable × IPane × ITable × ITable) (
    loopF (pS_TableAsk_b1 fuel) fuel (x5, x6, x7, x9, x5.Live, (↑x5.Live.length : Int), 0)) fun (v11, v12, v13, v14) =>
  br (v11.Next == 1000000) (
    some (v14, 0)) <|
  gd (roomB K.iProc (v14.Live ++ [IProc.mk v11.Next v12.Id]).length) <|
  gd (roomB K.iAsk (v14.Asked ++ [IAsk.mk v12.Id v12.Cmd v12.Dir v12.Term.S.W v12.Term.S.H v11.Next]).length) <|
  gd (inK IntKind.i64 (v14.Next + 1)) <|
  some (ITable.mk (v14.Next + 1) (v14.Live ++ [IProc.mk v11.Next v12.Id]) (v14.Asked ++ [IAsk.mk v12.Id v12.Cmd v12.Dir v12.Term.S.W v12.Term.S.H v11.Next]), v11.Next)
def o12 (fuel : Nat) : Orc := ⟨12, [none, none], [.st .iTable [], .st .iPane []], 0, (.tup [.st .iTable [(1, 99), (2, 99)], .I .i64]), fun v => pS_TableAsk fuel v.1 v.2⟩
theorem c12 {G : Nat} {E : World → Prop} (hcl : Cl G E) (fuel : Nat) : Ctr Tryz.prog G E (o12 fuel) := Ctr.mk (csc (c33 hcl fuel) (csc (c34 hcl fuel) (csc (c35 hcl fuel) csn))) facts mixed hcl.cl T12 fuel (fn := Tryz.f12) (by kernel_rfl) rfl (by kernel_rfl) (fun _ => by kernel_rfl) (fun _ _ => by kernel_rfl) (fun _ => by kernel_rfl)
def T64 : Tab := ⟨[], [], []⟩
def pL_toProc (fuel : Nat) (a1 : LProc) : Option IProc :=
  some (IProc.mk a1.Pid a1.Pane)
def o64 (fuel : Nat) : Orc := ⟨64, [none], [.st .lProc []], 0, (.one (.st .iProc [])), fun v => pL_toProc fuel v⟩
theorem c64 {G : Nat} {E : World → Prop} (hcl : Cl G E) (fuel : Nat) : Ctr Tryz.prog G E (o64 fuel) := Ctr.mk csn facts mixed hcl.cl T64 fuel (fn := Tryz.f64) (by kernel_rfl) rfl (by kernel_rfl) (fun _ => by kernel_rfl) (fun _ _ => by kernel_rfl) (fun _ => by kernel_rfl)
def T36 : Tab := ⟨[], [], [(3, false, ⟨[], [.sl 0 (.row .lProc), .sl 3 (.own .iProc 800), .sl 4 (.I .i64)]⟩, 0, ⟨[], [.sl 3 (.own .iProc 800)]⟩)]⟩
def pL_toProcS_b1 (fuel : Nat) : List LProc × List IProc × Int → Option ((List LProc × List IProc × Int) ⊕ (List IProc)) := fun (v4, v5, v6) =>
  br (decide (v6 < (↑v4.length : Int))) (
    gd (0 ≤ v6 ∧ v6 < (↑v4.length : Int)) <|
    bd v4[v6.toNat]? fun x7 =>
    bd (pL_toProc fuel x7) fun x8 =>
    gd (0 ≤ v6 ∧ v6 < (↑v5.length : Int)) <|
    bd (v5[0 + v6.toNat]?) fun x9 =>
    gd (inK IntKind.i64 (v6 + 1)) <|
    some (.inl (v4, v5.set (0 + v6.toNat) x8, v6 + 1))) <|
  some (.inr v5)
def pL_toProcS (fuel : Nat) (a1 : List LProc) : Option (List IProc) :=
  gd (0 ≤ (↑a1.length : Int) ∧ (↑a1.length : Int) ≤ (↑a1.length : Int)) <|
  gd (roomB K.iProc (↑a1.length : Int).toNat) <|
  bd (α := List IProc) (
    loopF (pL_toProcS_b1 fuel) fuel (a1, List.replicate (↑a1.length : Int).toNat (zK K.iProc), 0)) fun x3 =>
  some x3
def o36 (fuel : Nat) : Orc := ⟨36, [none], [.row .lProc], 0, (.one (.own .iProc 99)), fun v => pL_toProcS fuel v⟩
theorem c36 {G : Nat} {E : World → Prop} (hcl : Cl G E) (fuel : Nat) : Ctr Tryz.prog G E (o36 fuel) := Ctr.mk (csc (c64 hcl fuel) csn) facts mixed hcl.cl T36 fuel (fn := Tryz.f36) (by kernel_rfl) rfl (by kernel_rfl) (fun _ => by kernel_rfl) (fun _ _ => by kernel_rfl) (fun _ => by kernel_rfl)
def T65 : Tab := ⟨[], [], []⟩
def pL_toAsk (fuel : Nat) (a1 : LAsk) : Option IAsk :=
  some (IAsk.mk a1.Pane a1.Cmd a1.Dir a1.W a1.H a1.Pid)
def o65 (fuel : Nat) : Orc := ⟨65, [none], [.st .lAsk []], 0, (.one (.st .iAsk [])), fun v => pL_toAsk fuel v⟩
theorem c65 {G : Nat} {E : World → Prop} (hcl : Cl G E) (fuel : Nat) : Ctr Tryz.prog G E (o65 fuel) := Ctr.mk csn facts mixed hcl.cl T65 fuel (fn := Tryz.f65) (by kernel_rfl) rfl (by kernel_rfl) (fun _ => by kernel_rfl) (fun _ _ => by kernel_rfl) (fun _ => by kernel_rfl)
def T37 : Tab := ⟨[], [], [(3, false, ⟨[], [.sl 0 (.row .lAsk), .sl 3 (.own .iAsk 800), .sl 4 (.I .i64)]⟩, 0, ⟨[], [.sl 3 (.own .iAsk 800)]⟩)]⟩
def pL_toAskS_b1 (fuel : Nat) : List LAsk × List IAsk × Int → Option ((List LAsk × List IAsk × Int) ⊕ (List IAsk)) := fun (v4, v5, v6) =>
  br (decide (v6 < (↑v4.length : Int))) (
    gd (0 ≤ v6 ∧ v6 < (↑v4.length : Int)) <|
    bd v4[v6.toNat]? fun x7 =>
    bd (pL_toAsk fuel x7) fun x8 =>
    gd (0 ≤ v6 ∧ v6 < (↑v5.length : Int)) <|
    bd (v5[0 + v6.toNat]?) fun x9 =>
    gd (inK IntKind.i64 (v6 + 1)) <|
    some (.inl (v4, v5.set (0 + v6.toNat) x8, v6 + 1))) <|
  some (.inr v5)
def pL_toAskS (fuel : Nat) (a1 : List LAsk) : Option (List IAsk) :=
  gd (0 ≤ (↑a1.length : Int) ∧ (↑a1.length : Int) ≤ (↑a1.length : Int)) <|
  gd (roomB K.iAsk (↑a1.length : Int).toNat) <|
  bd (α := List IAsk) (
    loopF (pL_toAskS_b1 fuel) fuel (a1, List.replicate (↑a1.length : Int).toNat (zK K.iAsk), 0)) fun x3 =>
  some x3
def o37 (fuel : Nat) : Orc := ⟨37, [none], [.row .lAsk], 0, (.one (.own .iAsk 99)), fun v => pL_toAskS fuel v⟩
theorem c37 {G : Nat} {E : World → Prop} (hcl : Cl G E) (fuel : Nat) : Ctr Tryz.prog G E (o37 fuel) := Ctr.mk (csc (c65 hcl fuel) csn) facts mixed hcl.cl T37 fuel (fn := Tryz.f37) (by kernel_rfl) rfl (by kernel_rfl) (fun _ => by kernel_rfl) (fun _ _ => by kernel_rfl) (fun _ => by kernel_rfl)
def T13 : Tab := ⟨[], [], []⟩
def pL_toTable (fuel : Nat) (a1 : LTable) : Option ITable :=
  bd (pL_toProcS fuel a1.Live) fun x2 =>
  bd (pL_toAskS fuel a1.Asked) fun x3 =>
  some (ITable.mk a1.Next x2 x3)
def o13 (fuel : Nat) : Orc := ⟨13, [none], [.st .lTable []], 0, (.one (.st .iTable [(1, 99), (2, 99)])), fun v => pL_toTable fuel v⟩
theorem c13 {G : Nat} {E : World → Prop} (hcl : Cl G E) (fuel : Nat) : Ctr Tryz.prog G E (o13 fuel) := Ctr.mk (csc (c36 hcl fuel) (csc (c37 hcl fuel) csn)) facts mixed hcl.cl T13 fuel (fn := Tryz.f13) (by kernel_rfl) rfl (by kernel_rfl) (fun _ => by kernel_rfl) (fun _ _ => by kernel_rfl) (fun _ => by kernel_rfl)
def T89 : Tab := ⟨[], [], [(3, false, ⟨[], [.sl 0 (.row .int), .sl 3 (.own .int 800), .sl 4 (.I .i64)]⟩, 0, ⟨[], [.sl 3 (.own .int 800)]⟩)]⟩
def pL_toIntS_b1 (fuel : Nat) : List Int × List Int × Int → Option ((List Int × List Int × Int) ⊕ (List Int)) := fun (v4, v5, v6) =>
  br (decide (v6 < (↑v4.length : Int))) (
    gd (0 ≤ v6 ∧ v6 < (↑v4.length : Int)) <|
    bd v4[v6.toNat]? fun x7 =>
    gd (0 ≤ v6 ∧ v6 < (↑v5.length : Int)) <|
    bd (v5[0 + v6.toNat]?) fun x8 =>
    gd (inK IntKind.i64 (v6 + 1)) <|
    some (.inl (v4, v5.set (0 + v6.toNat) x7, v6 + 1))) <|
  some (.inr v5)
def pL_toIntS (fuel : Nat) (a1 : List Int) : Option (List Int) :=
  gd (0 ≤ (↑a1.length : Int) ∧ (↑a1.length : Int) ≤ (↑a1.length : Int)) <|
  gd (roomB K.int (↑a1.length : Int).toNat) <|
  bd (α := List Int) (
    loopF (pL_toIntS_b1 fuel) fuel (a1, List.replicate (↑a1.length : Int).toNat (zK K.int), 0)) fun x3 =>
  some x3
def o89 (fuel : Nat) : Orc := ⟨89, [none], [.row .int], 0, (.one (.own .int 99)), fun v => pL_toIntS fuel v⟩
theorem c89 {G : Nat} {E : World → Prop} (hcl : Cl G E) (fuel : Nat) : Ctr Tryz.prog G E (o89 fuel) := Ctr.mk csn facts mixed hcl.cl T89 fuel (fn := Tryz.f89) (by kernel_rfl) rfl (by kernel_rfl) (fun _ => by kernel_rfl) (fun _ _ => by kernel_rfl) (fun _ => by kernel_rfl)
def T90 : Tab := ⟨[], [], [(3, false, ⟨[], [.sl 0 (.row .u8), .sl 3 (.own .u8 800), .sl 4 (.I .i64)]⟩, 0, ⟨[], [.sl 3 (.own .u8 800)]⟩)]⟩
def pL_toByteS_b1 (fuel : Nat) : List UInt8 × List UInt8 × Int → Option ((List UInt8 × List UInt8 × Int) ⊕ (List UInt8)) := fun (v4, v5, v6) =>
  br (decide (v6 < (↑v4.length : Int))) (
    gd (0 ≤ v6 ∧ v6 < (↑v4.length : Int)) <|
    bd v4[v6.toNat]? fun x7 =>
    gd (0 ≤ v6 ∧ v6 < (↑v5.length : Int)) <|
    bd (v5[0 + v6.toNat]?) fun x8 =>
    gd (inK IntKind.i64 (v6 + 1)) <|
    some (.inl (v4, v5.set (0 + v6.toNat) (UInt8.ofNat (↑x7.toNat : Int).toNat), v6 + 1))) <|
  some (.inr v5)
def pL_toByteS (fuel : Nat) (a1 : List UInt8) : Option (List UInt8) :=
  gd (0 ≤ (↑a1.length : Int) ∧ (↑a1.length : Int) ≤ (↑a1.length : Int)) <|
  gd (roomB K.u8 (↑a1.length : Int).toNat) <|
  bd (α := List UInt8) (
    loopF (pL_toByteS_b1 fuel) fuel (a1, List.replicate (↑a1.length : Int).toNat (zK K.u8), 0)) fun x3 =>
  some x3
def o90 (fuel : Nat) : Orc := ⟨90, [none], [.row .u8], 0, (.one (.own .u8 99)), fun v => pL_toByteS fuel v⟩
theorem c90 {G : Nat} {E : World → Prop} (hcl : Cl G E) (fuel : Nat) : Ctr Tryz.prog G E (o90 fuel) := Ctr.mk csn facts mixed hcl.cl T90 fuel (fn := Tryz.f90) (by kernel_rfl) rfl (by kernel_rfl) (fun _ => by kernel_rfl) (fun _ _ => by kernel_rfl) (fun _ => by kernel_rfl)
def T66 : Tab := ⟨[], [], []⟩
def pL_toVp (fuel : Nat) (a1 : LVp) : Option IVp :=
  bd (pL_toIntS fuel a1.Args) fun x2 =>
  bd (pL_toByteS fuel a1.Part) fun x3 =>
  some (IVp.mk a1.State a1.Mark x2 x3)
def o66 (fuel : Nat) : Orc := ⟨66, [none], [.st .lVp []], 0, (.one (.st .iVp [(2, 99), (3, 99)])), fun v => pL_toVp fuel v⟩
theorem c66 {G : Nat} {E : World → Prop} (hcl : Cl G E) (fuel : Nat) : Ctr Tryz.prog G E (o66 fuel) := Ctr.mk (csc (c89 hcl fuel) (csc (c90 hcl fuel) csn)) facts mixed hcl.cl T66 fuel (fn := Tryz.f66) (by kernel_rfl) rfl (by kernel_rfl) (fun _ => by kernel_rfl) (fun _ _ => by kernel_rfl) (fun _ => by kernel_rfl)
def T92 : Tab := ⟨[], [], []⟩
def pL_toAttr (fuel : Nat) (a1 : LAttr) : Option IAttr :=
  some (IAttr.mk a1.Fg a1.Bg a1.Bold a1.Under a1.Turn)
def o92 (fuel : Nat) : Orc := ⟨92, [none], [.st .lAttr []], 0, (.one (.st .iAttr [])), fun v => pL_toAttr fuel v⟩
theorem c92 {G : Nat} {E : World → Prop} (hcl : Cl G E) (fuel : Nat) : Ctr Tryz.prog G E (o92 fuel) := Ctr.mk csn facts mixed hcl.cl T92 fuel (fn := Tryz.f92) (by kernel_rfl) rfl (by kernel_rfl) (fun _ => by kernel_rfl) (fun _ _ => by kernel_rfl) (fun _ => by kernel_rfl)
def T156 : Tab := ⟨[], [], []⟩
def pL_toCell (fuel : Nat) (a1 : LCell) : Option ICell :=
  bd (pL_toAttr fuel a1.A) fun x2 =>
  some (ICell.mk a1.R x2)
def o156 (fuel : Nat) : Orc := ⟨156, [none], [.st .lCell []], 0, (.one (.st .iCell [])), fun v => pL_toCell fuel v⟩
theorem c156 {G : Nat} {E : World → Prop} (hcl : Cl G E) (fuel : Nat) : Ctr Tryz.prog G E (o156 fuel) := Ctr.mk (csc (c92 hcl fuel) csn) facts mixed hcl.cl T156 fuel (fn := Tryz.f156) (by kernel_rfl) rfl (by kernel_rfl) (fun _ => by kernel_rfl) (fun _ _ => by kernel_rfl) (fun _ => by kernel_rfl)
def T127 : Tab := ⟨[], [], [(3, false, ⟨[], [.sl 0 (.row .lCell), .sl 3 (.own .iCell 800), .sl 4 (.I .i64)]⟩, 0, ⟨[], [.sl 3 (.own .iCell 800)]⟩)]⟩
def pL_toCellS_b1 (fuel : Nat) : List LCell × List ICell × Int → Option ((List LCell × List ICell × Int) ⊕ (List ICell)) := fun (v4, v5, v6) =>
  br (decide (v6 < (↑v4.length : Int))) (
    gd (0 ≤ v6 ∧ v6 < (↑v4.length : Int)) <|
    bd v4[v6.toNat]? fun x7 =>
    bd (pL_toCell fuel x7) fun x8 =>
    gd (0 ≤ v6 ∧ v6 < (↑v5.length : Int)) <|
    bd (v5[0 + v6.toNat]?) fun x9 =>
    gd (inK IntKind.i64 (v6 + 1)) <|
    some (.inl (v4, v5.set (0 + v6.toNat) x8, v6 + 1))) <|
  some (.inr v5)
def pL_toCellS (fuel : Nat) (a1 : List LCell) : Option (List ICell) :=
  gd (0 ≤ (↑a1.length : Int) ∧ (↑a1.length : Int) ≤ (↑a1.length : Int)) <|
  gd (roomB K.iCell (↑a1.length : Int).toNat) <|
  bd (α := List ICell) (
    loopF (pL_toCellS_b1 fuel) fuel (a1, List.replicate (↑a1.length : Int).toNat (zK K.iCell), 0)) fun x3 =>
  some x3
def o127 (fuel : Nat) : Orc := ⟨127, [none], [.row .lCell], 0, (.one (.own .iCell 99)), fun v => pL_toCellS fuel v⟩
theorem c127 {G : Nat} {E : World → Prop} (hcl : Cl G E) (fuel : Nat) : Ctr Tryz.prog G E (o127 fuel) := Ctr.mk (csc (c156 hcl fuel) csn) facts mixed hcl.cl T127 fuel (fn := Tryz.f127) (by kernel_rfl) rfl (by kernel_rfl) (fun _ => by kernel_rfl) (fun _ _ => by kernel_rfl) (fun _ => by kernel_rfl)
def T91 : Tab := ⟨[], [], []⟩
def pL_toGrid (fuel : Nat) (a1 : LGrid) : Option IGrid :=
  bd (pL_toCellS fuel a1.Cells) fun x2 =>
  some (IGrid.mk a1.W a1.H x2)
def o91 (fuel : Nat) : Orc := ⟨91, [none], [.st .lGrid []], 0, (.one (.st .iGrid [(2, 99)])), fun v => pL_toGrid fuel v⟩
theorem c91 {G : Nat} {E : World → Prop} (hcl : Cl G E) (fuel : Nat) : Ctr Tryz.prog G E (o91 fuel) := Ctr.mk (csc (c127 hcl fuel) csn) facts mixed hcl.cl T91 fuel (fn := Tryz.f91) (by kernel_rfl) rfl (by kernel_rfl) (fun _ => by kernel_rfl) (fun _ _ => by kernel_rfl) (fun _ => by kernel_rfl)
def T128 : Tab := ⟨[], [], []⟩
def pL_toRow (fuel : Nat) (a1 : LRow) : Option IRow :=
  bd (pL_toCellS fuel a1.Cells) fun x2 =>
  some (IRow.mk x2)
def o128 (fuel : Nat) : Orc := ⟨128, [none], [.st .lRow []], 0, (.one (.st .iRow [(0, 99)])), fun v => pL_toRow fuel v⟩
theorem c128 {G : Nat} {E : World → Prop} (hcl : Cl G E) (fuel : Nat) : Ctr Tryz.prog G E (o128 fuel) := Ctr.mk (csc (c127 hcl fuel) csn) facts mixed hcl.cl T128 fuel (fn := Tryz.f128) (by kernel_rfl) rfl (by kernel_rfl) (fun _ => by kernel_rfl) (fun _ _ => by kernel_rfl) (fun _ => by kernel_rfl)
def T93 : Tab := ⟨[], [], [(3, false, ⟨[], [.sl 0 (.row .lRow), .sl 3 (.own .iRow 1000000800), .sl 4 (.I .i64)]⟩, 0, ⟨[], [.sl 3 (.own .iRow 1000000800)]⟩)]⟩
def pL_toRowS_b1 (fuel : Nat) : List LRow × List IRow × Int → Option ((List LRow × List IRow × Int) ⊕ (List IRow)) := fun (v4, v5, v6) =>
  br (decide (v6 < (↑v4.length : Int))) (
    gd (0 ≤ v6 ∧ v6 < (↑v4.length : Int)) <|
    bd v4[v6.toNat]? fun x7 =>
    bd (pL_toRow fuel x7) fun x8 =>
    gd (0 ≤ v6 ∧ v6 < (↑v5.length : Int)) <|
    bd (v5[0 + v6.toNat]?) fun x9 =>
    gd (inK IntKind.i64 (v6 + 1)) <|
    some (.inl (v4, v5.set (0 + v6.toNat) x8, v6 + 1))) <|
  some (.inr v5)
def pL_toRowS (fuel : Nat) (a1 : List LRow) : Option (List IRow) :=
  gd (0 ≤ (↑a1.length : Int) ∧ (↑a1.length : Int) ≤ (↑a1.length : Int)) <|
  gd (roomB K.iRow (↑a1.length : Int).toNat) <|
  bd (α := List IRow) (
    loopF (pL_toRowS_b1 fuel) fuel (a1, List.replicate (↑a1.length : Int).toNat (zK K.iRow), 0)) fun x3 =>
  some x3
def o93 (fuel : Nat) : Orc := ⟨93, [none], [.row .lRow], 0, (.one (.own .iRow 1000000000)), fun v => pL_toRowS fuel v⟩
theorem c93 {G : Nat} {E : World → Prop} (hcl : Cl G E) (fuel : Nat) : Ctr Tryz.prog G E (o93 fuel) := Ctr.mk (csc (c128 hcl fuel) csn) facts mixed hcl.cl T93 fuel (fn := Tryz.f93) (by kernel_rfl) rfl (by kernel_rfl) (fun _ => by kernel_rfl) (fun _ _ => by kernel_rfl) (fun _ => by kernel_rfl)
def T67 : Tab := ⟨[], [], []⟩
def pL_toScr (fuel : Nat) (a1 : LScr) : Option IScr :=
  bd (pL_toGrid fuel a1.Main) fun x2 =>
  bd (pL_toGrid fuel a1.Alt) fun x3 =>
  bd (pL_toAttr fuel a1.A) fun x4 =>
  bd (pL_toAttr fuel a1.SaveA) fun x5 =>
  bd (pL_toIntS fuel a1.Tabs) fun x6 =>
  bd (pL_toRowS fuel a1.Back) fun x7 =>
  some (IScr.mk a1.W a1.H x2 x3 a1.OnAlt a1.X a1.Y a1.Wrap x4 a1.Top a1.Bot a1.NoWrap a1.Hide a1.SaveX a1.SaveY x5 x6 a1.Limit x7)
def o67 (fuel : Nat) : Orc := ⟨67, [none], [.st .lScr []], 0, (.one (.st .iScr [(4, 99), (7, 99), (28, 99), (30, 1000000000)])), fun v => pL_toScr fuel v⟩
theorem c67 {G : Nat} {E : World → Prop} (hcl : Cl G E) (fuel : Nat) : Ctr Tryz.prog G E (o67 fuel) := Ctr.mk (csc (c91 hcl fuel) (csc (c92 hcl fuel) (csc (c89 hcl fuel) (csc (c93 hcl fuel) csn)))) facts mixed hcl.cl T67 fuel (fn := Tryz.f67) (by kernel_rfl) rfl (by kernel_rfl) (fun _ => by kernel_rfl) (fun _ _ => by kernel_rfl) (fun _ => by kernel_rfl)
def T38 : Tab := ⟨[], [], []⟩
def pL_toTerm (fuel : Nat) (a1 : LTerm) : Option ITerm :=
  bd (pL_toVp fuel a1.P) fun x2 =>
  bd (pL_toScr fuel a1.S) fun x3 =>
  some (ITerm.mk x2 x3)
def o38 (fuel : Nat) : Orc := ⟨38, [none], [.st .lTerm []], 0, (.one (.st .iTerm [(2, 99), (3, 99), (8, 99), (11, 99), (32, 99), (34, 1000000000)])), fun v => pL_toTerm fuel v⟩
theorem c38 {G : Nat} {E : World → Prop} (hcl : Cl G E) (fuel : Nat) : Ctr Tryz.prog G E (o38 fuel) := Ctr.mk (csc (c66 hcl fuel) (csc (c67 hcl fuel) csn)) facts mixed hcl.cl T38 fuel (fn := Tryz.f38) (by kernel_rfl) rfl (by kernel_rfl) (fun _ => by kernel_rfl) (fun _ _ => by kernel_rfl) (fun _ => by kernel_rfl)
def T14 : Tab := ⟨[], [], []⟩
def pL_toPane (fuel : Nat) (a1 : LPane) : Option IPane :=
  bd (pL_toTerm fuel a1.Term) fun x2 =>
  some (IPane.mk a1.Id a1.Cmd a1.Dir a1.Life a1.Code a1.Pid x2)
def o14 (fuel : Nat) : Orc := ⟨14, [none], [.st .lPane []], 0, (.one (.st .iPane [(8, 99), (9, 99), (14, 99), (17, 99), (38, 99), (40, 1000000000)])), fun v => pL_toPane fuel v⟩
theorem c14 {G : Nat} {E : World → Prop} (hcl : Cl G E) (fuel : Nat) : Ctr Tryz.prog G E (o14 fuel) := Ctr.mk (csc (c38 hcl fuel) csn) facts mixed hcl.cl T14 fuel (fn := Tryz.f14) (by kernel_rfl) rfl (by kernel_rfl) (fun _ => by kernel_rfl) (fun _ _ => by kernel_rfl) (fun _ => by kernel_rfl)
def T68 : Tab := ⟨[], [], []⟩
def pL_eqProc (fuel : Nat) (a1 : IProc) (a2 : IProc) : Option Bool :=
  br (a1.Pid != a2.Pid) (
    some false) <|
  br (a1.Pane != a2.Pane) (
    some false) <|
  some true
def o68 (fuel : Nat) : Orc := ⟨68, [none, none], [.st .iProc [], .st .iProc []], 0, (.one .B), fun v => pL_eqProc fuel v.1 v.2⟩
theorem c68 {G : Nat} {E : World → Prop} (hcl : Cl G E) (fuel : Nat) : Ctr Tryz.prog G E (o68 fuel) := Ctr.mk csn facts mixed hcl.cl T68 fuel (fn := Tryz.f68) (by kernel_rfl) rfl (by kernel_rfl) (fun _ => by kernel_rfl) (fun _ _ => by kernel_rfl) (fun _ => by kernel_rfl)
def T39 : Tab := ⟨[], [], [(4, true, ⟨[], [.sl 0 (.row .iProc), .sl 1 (.row .iProc), .sl 5 (.I .i64)]⟩, 0, ⟨[], []⟩)]⟩
def pL_eqProcS_b1 (fuel : Nat) : List IProc × List IProc × Int → Option ((List IProc × List IProc × Int) ⊕ (Unit ⊕ Bool)) := fun (v4, v5, v6) =>
  br (decide (v6 < (↑v4.length : Int))) (
    gd (0 ≤ v6 ∧ v6 < (↑v4.length : Int)) <|
    bd v4[v6.toNat]? fun x7 =>
    gd (0 ≤ v6 ∧ v6 < (↑v5.length : Int)) <|
    bd v5[v6.toNat]? fun x8 =>
    bd (pL_eqProc fuel x7 x8) fun x9 =>
    br (!x9) (
      some (.inr (.inr false))) <|
    gd (inK IntKind.i64 (v6 + 1)) <|
    some (.inl (v4, v5, v6 + 1))) <|
  some (.inr (.inl ()))
def pL_eqProcS (fuel : Nat) (a1 : List IProc) (a2 : List IProc) : Option Bool :=
  br ((↑a1.length : Int) != (↑a2.length : Int)) (
    some false) <|
  jn (V := Unit) (
    loopF (pL_eqProcS_b1 fuel) fuel (a1, a2, 0)) fun _ =>
  some true
def o39 (fuel : Nat) : Orc := ⟨39, [none, none], [.row .iProc, .row .iProc], 0, (.one .B), fun v => pL_eqProcS fuel v.1 v.2⟩
theorem c39 {G : Nat} {E : World → Prop} (hcl : Cl G E) (fuel : Nat) : Ctr Tryz.prog G E (o39 fuel) := Ctr.mk (csc (c68 hcl fuel) csn) facts mixed hcl.cl T39 fuel (fn := Tryz.f39) (by kernel_rfl) rfl (by kernel_rfl) (fun _ => by kernel_rfl) (fun _ _ => by kernel_rfl) (fun _ => by kernel_rfl)
def T69 : Tab := ⟨[], [], []⟩
def pL_eqAsk (fuel : Nat) (a1 : IAsk) (a2 : IAsk) : Option Bool :=
  br (a1.Pane != a2.Pane) (
    some false) <|
  br (!decide (a1.Cmd = a2.Cmd)) (
    some false) <|
  br (!decide (a1.Dir = a2.Dir)) (
    some false) <|
  br (a1.W != a2.W) (
    some false) <|
  br (a1.H != a2.H) (
    some false) <|
  br (a1.Pid != a2.Pid) (
    some false) <|
  some true
def o69 (fuel : Nat) : Orc := ⟨69, [none, none], [.st .iAsk [], .st .iAsk []], 0, (.one .B), fun v => pL_eqAsk fuel v.1 v.2⟩
theorem c69 {G : Nat} {E : World → Prop} (hcl : Cl G E) (fuel : Nat) : Ctr Tryz.prog G E (o69 fuel) := Ctr.mk csn facts mixed hcl.cl T69 fuel (fn := Tryz.f69) (by kernel_rfl) rfl (by kernel_rfl) (fun _ => by kernel_rfl) (fun _ _ => by kernel_rfl) (fun _ => by kernel_rfl)
def T40 : Tab := ⟨[], [], [(4, true, ⟨[], [.sl 0 (.row .iAsk), .sl 1 (.row .iAsk), .sl 5 (.I .i64)]⟩, 0, ⟨[], []⟩)]⟩
def pL_eqAskS_b1 (fuel : Nat) : List IAsk × List IAsk × Int → Option ((List IAsk × List IAsk × Int) ⊕ (Unit ⊕ Bool)) := fun (v4, v5, v6) =>
  br (decide (v6 < (↑v4.length : Int))) (
    gd (0 ≤ v6 ∧ v6 < (↑v4.length : Int)) <|
    bd v4[v6.toNat]? fun x7 =>
    gd (0 ≤ v6 ∧ v6 < (↑v5.length : Int)) <|
    bd v5[v6.toNat]? fun x8 =>
    bd (pL_eqAsk fuel x7 x8) fun x9 =>
    br (!x9) (
      some (.inr (.inr false))) <|
    gd (inK IntKind.i64 (v6 + 1)) <|
    some (.inl (v4, v5, v6 + 1))) <|
  some (.inr (.inl ()))
def pL_eqAskS (fuel : Nat) (a1 : List IAsk) (a2 : List IAsk) : Option Bool :=
  br ((↑a1.length : Int) != (↑a2.length : Int)) (
    some false) <|
  jn (V := Unit) (
    loopF (pL_eqAskS_b1 fuel) fuel (a1, a2, 0)) fun _ =>
  some true
def o40 (fuel : Nat) : Orc := ⟨40, [none, none], [.row .iAsk, .row .iAsk], 0, (.one .B), fun v => pL_eqAskS fuel v.1 v.2⟩
theorem c40 {G : Nat} {E : World → Prop} (hcl : Cl G E) (fuel : Nat) : Ctr Tryz.prog G E (o40 fuel) := Ctr.mk (csc (c69 hcl fuel) csn) facts mixed hcl.cl T40 fuel (fn := Tryz.f40) (by kernel_rfl) rfl (by kernel_rfl) (fun _ => by kernel_rfl) (fun _ _ => by kernel_rfl) (fun _ => by kernel_rfl)
def T15 : Tab := ⟨[], [], []⟩
def pL_eqTable (fuel : Nat) (a1 : ITable) (a2 : ITable) : Option Bool :=
  br (a1.Next != a2.Next) (
    some false) <|
  bd (pL_eqProcS fuel a1.Live a2.Live) fun x3 =>
  br (!x3) (
    some false) <|
  bd (pL_eqAskS fuel a1.Asked a2.Asked) fun x4 =>
  br (!x4) (
    some false) <|
  some true
def o15 (fuel : Nat) : Orc := ⟨15, [none, none], [.st .iTable [], .st .iTable []], 0, (.one .B), fun v => pL_eqTable fuel v.1 v.2⟩
theorem c15 {G : Nat} {E : World → Prop} (hcl : Cl G E) (fuel : Nat) : Ctr Tryz.prog G E (o15 fuel) := Ctr.mk (csc (c39 hcl fuel) (csc (c40 hcl fuel) csn)) facts mixed hcl.cl T15 fuel (fn := Tryz.f15) (by kernel_rfl) rfl (by kernel_rfl) (fun _ => by kernel_rfl) (fun _ _ => by kernel_rfl) (fun _ => by kernel_rfl)
def T94 : Tab := ⟨[], [], [(4, true, ⟨[], [.sl 0 (.row .int), .sl 1 (.row .int), .sl 5 (.I .i64)]⟩, 0, ⟨[], []⟩)]⟩
def pL_eqIntS_b1 (fuel : Nat) : List Int × List Int × Int → Option ((List Int × List Int × Int) ⊕ (Unit ⊕ Bool)) := fun (v4, v5, v6) =>
  br (decide (v6 < (↑v4.length : Int))) (
    gd (0 ≤ v6 ∧ v6 < (↑v4.length : Int)) <|
    bd v4[v6.toNat]? fun x7 =>
    gd (0 ≤ v6 ∧ v6 < (↑v5.length : Int)) <|
    bd v5[v6.toNat]? fun x8 =>
    br (x7 != x8) (
      some (.inr (.inr false))) <|
    gd (inK IntKind.i64 (v6 + 1)) <|
    some (.inl (v4, v5, v6 + 1))) <|
  some (.inr (.inl ()))
def pL_eqIntS (fuel : Nat) (a1 : List Int) (a2 : List Int) : Option Bool :=
  br ((↑a1.length : Int) != (↑a2.length : Int)) (
    some false) <|
  jn (V := Unit) (
    loopF (pL_eqIntS_b1 fuel) fuel (a1, a2, 0)) fun _ =>
  some true
def o94 (fuel : Nat) : Orc := ⟨94, [none, none], [.row .int, .row .int], 0, (.one .B), fun v => pL_eqIntS fuel v.1 v.2⟩
theorem c94 {G : Nat} {E : World → Prop} (hcl : Cl G E) (fuel : Nat) : Ctr Tryz.prog G E (o94 fuel) := Ctr.mk csn facts mixed hcl.cl T94 fuel (fn := Tryz.f94) (by kernel_rfl) rfl (by kernel_rfl) (fun _ => by kernel_rfl) (fun _ _ => by kernel_rfl) (fun _ => by kernel_rfl)
def T95 : Tab := ⟨[], [], [(4, true, ⟨[], [.sl 0 (.row .u8), .sl 1 (.row .u8), .sl 5 (.I .i64)]⟩, 0, ⟨[], []⟩)]⟩
def pL_eqByteS_b1 (fuel : Nat) : List UInt8 × List UInt8 × Int → Option ((List UInt8 × List UInt8 × Int) ⊕ (Unit ⊕ Bool)) := fun (v4, v5, v6) =>
  br (decide (v6 < (↑v4.length : Int))) (
    gd (0 ≤ v6 ∧ v6 < (↑v4.length : Int)) <|
    bd v4[v6.toNat]? fun x7 =>
    gd (0 ≤ v6 ∧ v6 < (↑v5.length : Int)) <|
    bd v5[v6.toNat]? fun x8 =>
    br ((↑x7.toNat : Int) != (↑x8.toNat : Int)) (
      some (.inr (.inr false))) <|
    gd (inK IntKind.i64 (v6 + 1)) <|
    some (.inl (v4, v5, v6 + 1))) <|
  some (.inr (.inl ()))
def pL_eqByteS (fuel : Nat) (a1 : List UInt8) (a2 : List UInt8) : Option Bool :=
  br ((↑a1.length : Int) != (↑a2.length : Int)) (
    some false) <|
  jn (V := Unit) (
    loopF (pL_eqByteS_b1 fuel) fuel (a1, a2, 0)) fun _ =>
  some true
def o95 (fuel : Nat) : Orc := ⟨95, [none, none], [.row .u8, .row .u8], 0, (.one .B), fun v => pL_eqByteS fuel v.1 v.2⟩
theorem c95 {G : Nat} {E : World → Prop} (hcl : Cl G E) (fuel : Nat) : Ctr Tryz.prog G E (o95 fuel) := Ctr.mk csn facts mixed hcl.cl T95 fuel (fn := Tryz.f95) (by kernel_rfl) rfl (by kernel_rfl) (fun _ => by kernel_rfl) (fun _ _ => by kernel_rfl) (fun _ => by kernel_rfl)
def T70 : Tab := ⟨[], [], []⟩
def pL_eqVp (fuel : Nat) (a1 : IVp) (a2 : IVp) : Option Bool :=
  br (a1.State != a2.State) (
    some false) <|
  br (!a1.Mark == a2.Mark) (
    some false) <|
  bd (pL_eqIntS fuel a1.Args a2.Args) fun x3 =>
  br (!x3) (
    some false) <|
  bd (pL_eqByteS fuel a1.Part a2.Part) fun x4 =>
  br (!x4) (
    some false) <|
  some true
def o70 (fuel : Nat) : Orc := ⟨70, [none, none], [.st .iVp [], .st .iVp []], 0, (.one .B), fun v => pL_eqVp fuel v.1 v.2⟩
theorem c70 {G : Nat} {E : World → Prop} (hcl : Cl G E) (fuel : Nat) : Ctr Tryz.prog G E (o70 fuel) := Ctr.mk (csc (c94 hcl fuel) (csc (c95 hcl fuel) csn)) facts mixed hcl.cl T70 fuel (fn := Tryz.f70) (by kernel_rfl) rfl (by kernel_rfl) (fun _ => by kernel_rfl) (fun _ _ => by kernel_rfl) (fun _ => by kernel_rfl)
def T97 : Tab := ⟨[], [], []⟩
def pL_eqAttr (fuel : Nat) (a1 : IAttr) (a2 : IAttr) : Option Bool :=
  br (a1.Fg != a2.Fg) (
    some false) <|
  br (a1.Bg != a2.Bg) (
    some false) <|
  br (!a1.Bold == a2.Bold) (
    some false) <|
  br (!a1.Under == a2.Under) (
    some false) <|
  br (!a1.Turn == a2.Turn) (
    some false) <|
  some true
def o97 (fuel : Nat) : Orc := ⟨97, [none, none], [.st .iAttr [], .st .iAttr []], 0, (.one .B), fun v => pL_eqAttr fuel v.1 v.2⟩
theorem c97 {G : Nat} {E : World → Prop} (hcl : Cl G E) (fuel : Nat) : Ctr Tryz.prog G E (o97 fuel) := Ctr.mk csn facts mixed hcl.cl T97 fuel (fn := Tryz.f97) (by kernel_rfl) rfl (by kernel_rfl) (fun _ => by kernel_rfl) (fun _ _ => by kernel_rfl) (fun _ => by kernel_rfl)
def T157 : Tab := ⟨[], [], []⟩
def pL_eqCell (fuel : Nat) (a1 : ICell) (a2 : ICell) : Option Bool :=
  br (a1.R != a2.R) (
    some false) <|
  bd (pL_eqAttr fuel a1.A a2.A) fun x3 =>
  br (!x3) (
    some false) <|
  some true
def o157 (fuel : Nat) : Orc := ⟨157, [none, none], [.st .iCell [], .st .iCell []], 0, (.one .B), fun v => pL_eqCell fuel v.1 v.2⟩
theorem c157 {G : Nat} {E : World → Prop} (hcl : Cl G E) (fuel : Nat) : Ctr Tryz.prog G E (o157 fuel) := Ctr.mk (csc (c97 hcl fuel) csn) facts mixed hcl.cl T157 fuel (fn := Tryz.f157) (by kernel_rfl) rfl (by kernel_rfl) (fun _ => by kernel_rfl) (fun _ _ => by kernel_rfl) (fun _ => by kernel_rfl)
def T129 : Tab := ⟨[], [], [(4, true, ⟨[], [.sl 0 (.row .iCell), .sl 1 (.row .iCell), .sl 5 (.I .i64)]⟩, 0, ⟨[], []⟩)]⟩
def pL_eqCellS_b1 (fuel : Nat) : List ICell × List ICell × Int → Option ((List ICell × List ICell × Int) ⊕ (Unit ⊕ Bool)) := fun (v4, v5, v6) =>
  br (decide (v6 < (↑v4.length : Int))) (
    gd (0 ≤ v6 ∧ v6 < (↑v4.length : Int)) <|
    bd v4[v6.toNat]? fun x7 =>
    gd (0 ≤ v6 ∧ v6 < (↑v5.length : Int)) <|
    bd v5[v6.toNat]? fun x8 =>
    bd (pL_eqCell fuel x7 x8) fun x9 =>
    br (!x9) (
      some (.inr (.inr false))) <|
    gd (inK IntKind.i64 (v6 + 1)) <|
    some (.inl (v4, v5, v6 + 1))) <|
  some (.inr (.inl ()))
def pL_eqCellS (fuel : Nat) (a1 : List ICell) (a2 : List ICell) : Option Bool :=
  br ((↑a1.length : Int) != (↑a2.length : Int)) (
    some false) <|
  jn (V := Unit) (
    loopF (pL_eqCellS_b1 fuel) fuel (a1, a2, 0)) fun _ =>
  some true
def o129 (fuel : Nat) : Orc := ⟨129, [none, none], [.row .iCell, .row .iCell], 0, (.one .B), fun v => pL_eqCellS fuel v.1 v.2⟩
theorem c129 {G : Nat} {E : World → Prop} (hcl : Cl G E) (fuel : Nat) : Ctr Tryz.prog G E (o129 fuel) := Ctr.mk (csc (c157 hcl fuel) csn) facts mixed hcl.cl T129 fuel (fn := Tryz.f129) (by kernel_rfl) rfl (by kernel_rfl) (fun _ => by kernel_rfl) (fun _ _ => by kernel_rfl) (fun _ => by kernel_rfl)
def T96 : Tab := ⟨[], [], []⟩
def pL_eqGrid (fuel : Nat) (a1 : IGrid) (a2 : IGrid) : Option Bool :=
  br (a1.W != a2.W) (
    some false) <|
  br (a1.H != a2.H) (
    some false) <|
  bd (pL_eqCellS fuel a1.Cells a2.Cells) fun x3 =>
  br (!x3) (
    some false) <|
  some true
def o96 (fuel : Nat) : Orc := ⟨96, [none, none], [.st .iGrid [], .st .iGrid []], 0, (.one .B), fun v => pL_eqGrid fuel v.1 v.2⟩
theorem c96 {G : Nat} {E : World → Prop} (hcl : Cl G E) (fuel : Nat) : Ctr Tryz.prog G E (o96 fuel) := Ctr.mk (csc (c129 hcl fuel) csn) facts mixed hcl.cl T96 fuel (fn := Tryz.f96) (by kernel_rfl) rfl (by kernel_rfl) (fun _ => by kernel_rfl) (fun _ _ => by kernel_rfl) (fun _ => by kernel_rfl)
def T130 : Tab := ⟨[], [], []⟩
def pL_eqRow (fuel : Nat) (a1 : IRow) (a2 : IRow) : Option Bool :=
  bd (pL_eqCellS fuel a1.Cells a2.Cells) fun x3 =>
  br (!x3) (
    some false) <|
  some true
def o130 (fuel : Nat) : Orc := ⟨130, [none, none], [.st .iRow [], .st .iRow []], 0, (.one .B), fun v => pL_eqRow fuel v.1 v.2⟩
theorem c130 {G : Nat} {E : World → Prop} (hcl : Cl G E) (fuel : Nat) : Ctr Tryz.prog G E (o130 fuel) := Ctr.mk (csc (c129 hcl fuel) csn) facts mixed hcl.cl T130 fuel (fn := Tryz.f130) (by kernel_rfl) rfl (by kernel_rfl) (fun _ => by kernel_rfl) (fun _ _ => by kernel_rfl) (fun _ => by kernel_rfl)
def T98 : Tab := ⟨[], [], [(4, true, ⟨[], [.sl 0 (.row .iRow), .sl 1 (.row .iRow), .sl 5 (.I .i64)]⟩, 0, ⟨[], []⟩)]⟩
def pL_eqRowS_b1 (fuel : Nat) : List IRow × List IRow × Int → Option ((List IRow × List IRow × Int) ⊕ (Unit ⊕ Bool)) := fun (v4, v5, v6) =>
  br (decide (v6 < (↑v4.length : Int))) (
    gd (0 ≤ v6 ∧ v6 < (↑v4.length : Int)) <|
    bd v4[v6.toNat]? fun x7 =>
    gd (0 ≤ v6 ∧ v6 < (↑v5.length : Int)) <|
    bd v5[v6.toNat]? fun x8 =>
    bd (pL_eqRow fuel x7 x8) fun x9 =>
    br (!x9) (
      some (.inr (.inr false))) <|
    gd (inK IntKind.i64 (v6 + 1)) <|
    some (.inl (v4, v5, v6 + 1))) <|
  some (.inr (.inl ()))
def pL_eqRowS (fuel : Nat) (a1 : List IRow) (a2 : List IRow) : Option Bool :=
  br ((↑a1.length : Int) != (↑a2.length : Int)) (
    some false) <|
  jn (V := Unit) (
    loopF (pL_eqRowS_b1 fuel) fuel (a1, a2, 0)) fun _ =>
  some true
def o98 (fuel : Nat) : Orc := ⟨98, [none, none], [.row .iRow, .row .iRow], 0, (.one .B), fun v => pL_eqRowS fuel v.1 v.2⟩
theorem c98 {G : Nat} {E : World → Prop} (hcl : Cl G E) (fuel : Nat) : Ctr Tryz.prog G E (o98 fuel) := Ctr.mk (csc (c130 hcl fuel) csn) facts mixed hcl.cl T98 fuel (fn := Tryz.f98) (by kernel_rfl) rfl (by kernel_rfl) (fun _ => by kernel_rfl) (fun _ _ => by kernel_rfl) (fun _ => by kernel_rfl)
def T71 : Tab := ⟨[], [], []⟩
def pL_eqScr (fuel : Nat) (a1 : IScr) (a2 : IScr) : Option Bool :=
  br (a1.W != a2.W) (
    some false) <|
  br (a1.H != a2.H) (
    some false) <|
  bd (pL_eqGrid fuel a1.Main a2.Main) fun x3 =>
  br (!x3) (
    some false) <|
  bd (pL_eqGrid fuel a1.Alt a2.Alt) fun x4 =>
  br (!x4) (
    some false) <|
  br (!a1.OnAlt == a2.OnAlt) (
    some false) <|
  br (a1.X != a2.X) (
    some false) <|
  br (a1.Y != a2.Y) (
    some false) <|
  br (!a1.Wrap == a2.Wrap) (
    some false) <|
  bd (pL_eqAttr fuel a1.A a2.A) fun x5 =>
  br (!x5) (
    some false) <|
  br (a1.Top != a2.Top) (
    some false) <|
  br (a1.Bot != a2.Bot) (
    some false) <|
  br (!a1.NoWrap == a2.NoWrap) (
    some false) <|
  br (!a1.Hide == a2.Hide) (
    some false) <|
  br (a1.SaveX != a2.SaveX) (
    some false) <|
  br (a1.SaveY != a2.SaveY) (
    some false) <|
  bd (pL_eqAttr fuel a1.SaveA a2.SaveA) fun x6 =>
  br (!x6) (
    some false) <|
  bd (pL_eqIntS fuel a1.Tabs a2.Tabs) fun x7 =>
  br (!x7) (
    some false) <|
  br (a1.Limit != a2.Limit) (
    some false) <|
  bd (pL_eqRowS fuel a1.Back a2.Back) fun x8 =>
  br (!x8) (
    some false) <|
  some true
def o71 (fuel : Nat) : Orc := ⟨71, [none, none], [.st .iScr [], .st .iScr []], 0, (.one .B), fun v => pL_eqScr fuel v.1 v.2⟩
theorem c71 {G : Nat} {E : World → Prop} (hcl : Cl G E) (fuel : Nat) : Ctr Tryz.prog G E (o71 fuel) := Ctr.mk (csc (c96 hcl fuel) (csc (c97 hcl fuel) (csc (c94 hcl fuel) (csc (c98 hcl fuel) csn)))) facts mixed hcl.cl T71 fuel (fn := Tryz.f71) (by kernel_rfl) rfl (by kernel_rfl) (fun _ => by kernel_rfl) (fun _ _ => by kernel_rfl) (fun _ => by kernel_rfl)
def T41 : Tab := ⟨[], [], []⟩
def pL_eqTerm (fuel : Nat) (a1 : ITerm) (a2 : ITerm) : Option Bool :=
  bd (pL_eqVp fuel a1.P a2.P) fun x3 =>
  br (!x3) (
    some false) <|
  bd (pL_eqScr fuel a1.S a2.S) fun x4 =>
  br (!x4) (
    some false) <|
  some true
def o41 (fuel : Nat) : Orc := ⟨41, [none, none], [.st .iTerm [], .st .iTerm []], 0, (.one .B), fun v => pL_eqTerm fuel v.1 v.2⟩
theorem c41 {G : Nat} {E : World → Prop} (hcl : Cl G E) (fuel : Nat) : Ctr Tryz.prog G E (o41 fuel) := Ctr.mk (csc (c70 hcl fuel) (csc (c71 hcl fuel) csn)) facts mixed hcl.cl T41 fuel (fn := Tryz.f41) (by kernel_rfl) rfl (by kernel_rfl) (fun _ => by kernel_rfl) (fun _ _ => by kernel_rfl) (fun _ => by kernel_rfl)
def T16 : Tab := ⟨[], [], []⟩
def pL_eqPane (fuel : Nat) (a1 : IPane) (a2 : IPane) : Option Bool :=
  br (a1.Id != a2.Id) (
    some false) <|
  br (!decide (a1.Cmd = a2.Cmd)) (
    some false) <|
  br (!decide (a1.Dir = a2.Dir)) (
    some false) <|
  br (a1.Life != a2.Life) (
    some false) <|
  br (a1.Code != a2.Code) (
    some false) <|
  br (a1.Pid != a2.Pid) (
    some false) <|
  bd (pL_eqTerm fuel a1.Term a2.Term) fun x3 =>
  br (!x3) (
    some false) <|
  some true
def o16 (fuel : Nat) : Orc := ⟨16, [none, none], [.st .iPane [], .st .iPane []], 0, (.one .B), fun v => pL_eqPane fuel v.1 v.2⟩
theorem c16 {G : Nat} {E : World → Prop} (hcl : Cl G E) (fuel : Nat) : Ctr Tryz.prog G E (o16 fuel) := Ctr.mk (csc (c41 hcl fuel) csn) facts mixed hcl.cl T16 fuel (fn := Tryz.f16) (by kernel_rfl) rfl (by kernel_rfl) (fun _ => by kernel_rfl) (fun _ _ => by kernel_rfl) (fun _ => by kernel_rfl)
def T42 : Tab := ⟨[], [], [(2, false, ⟨[], [.sl 0 (.own .iProc 50), .sl 1 (.I .i64), .sl 5 (.I .i64)]⟩, 0, ⟨[], [.sl 1 (.I .i64), .rw 50 .iProc]⟩)]⟩
def pL_markProcS_b1 (fuel : Nat) : List IProc × Int × Int → Option ((List IProc × Int × Int) ⊕ (Int × List IProc)) := fun (v6, v7, v8) =>
  br (decide (v8 < (↑v6.length : Int))) (
    gd (0 ≤ v8 ∧ v8 < (↑v6.length : Int)) <|
    bd (v6[0 + v8.toNat]?) fun x9 =>
    gd (inK IntKind.i64 (v7 + 1)) <|
    gd (0 ≤ v8 ∧ v8 < (↑v6.length : Int)) <|
    bd ((v6.set (0 + v8.toNat) (IProc.mk v7 x9.Pane))[0 + v8.toNat]?) fun x10 =>
    gd (inK IntKind.i64 (v7 + 1 + 1)) <|
    gd (inK IntKind.i64 (v8 + 1)) <|
    some (.inl ((v6.set (0 + v8.toNat) (IProc.mk v7 x9.Pane)).set (0 + v8.toNat) (IProc.mk x10.Pid (v7 + 1)), v7 + 1 + 1, v8 + 1))) <|
  some (.inr (v7, v6))
def pL_markProcS (fuel : Nat) (a1 : List IProc) (a2 : Int) : Option (Int × List IProc) :=
  bd (α := Int × List IProc) (
    loopF (pL_markProcS_b1 fuel) fuel (a1, a2, 0)) fun (x4, x5) =>
  some (x4, x5)
def o42 (fuel : Nat) : Orc := ⟨42, [none, none], [.own .iProc 99, .I .i64], 101, (.tup [.I .i64, .own .iProc 99]), fun v => pL_markProcS fuel v.1 v.2⟩
theorem c42 {G : Nat} {E : World → Prop} (hcl : Cl G E) (fuel : Nat) : Ctr Tryz.prog G E (o42 fuel) := Ctr.mk csn facts mixed hcl.cl T42 fuel (fn := Tryz.f42) (by kernel_rfl) rfl (by kernel_rfl) (fun _ => by kernel_rfl) (fun _ _ => by kernel_rfl) (fun _ => by kernel_rfl)
def T72 : Tab := ⟨[], [], [(4, false, ⟨[], [.sl 0 (.I .i64), .sl 3 .S]⟩, 0, ⟨[], [.sl 3 .S]⟩)]⟩
def pL_markText_b1 (fuel : Nat) : Int × ByteArray → Option ((Int × ByteArray) ⊕ ByteArray) := fun (v4, v5) =>
  br (decide (0 < v4)) (
    gd ((10 : Int) ≠ (0 : Int)) <|
    gd (inK IntKind.i64 (48 + v4.tmod 10)) <|
    gd ((ByteArray.mk #[UInt8.ofNat (IntKind.u8.wrap (48 + v4.tmod 10)).toNat]).size + v5.size ≤ 9223372036854775807) <|
    gd ((10 : Int) ≠ (0 : Int)) <|
    gd (inK IntKind.i64 (v4.tdiv 10)) <|
    some (.inl (v4.tdiv 10, ByteArray.mk #[UInt8.ofNat (IntKind.u8.wrap (48 + v4.tmod 10)).toNat] ++ v5))) <|
  some (.inr v5)
def pL_markText (fuel : Nat) (a1 : Int) : Option ByteArray :=
  br (decide (a1 ≤ 0)) (
    some (ByteArray.mk #[109, 48])) <|
  bd (α := ByteArray) (
    loopF (pL_markText_b1 fuel) fuel (a1, ByteArray.mk #[])) fun x3 =>
  gd ((ByteArray.mk #[109]).size + x3.size ≤ 9223372036854775807) <|
  some (ByteArray.mk #[109] ++ x3)
def o72 (fuel : Nat) : Orc := ⟨72, [none], [.I .i64], 0, (.one .S), fun v => pL_markText fuel v⟩
theorem c72 {G : Nat} {E : World → Prop} (hcl : Cl G E) (fuel : Nat) : Ctr Tryz.prog G E (o72 fuel) := Ctr.mk csn facts mixed hcl.cl T72 fuel (fn := Tryz.f72) (by kernel_rfl) rfl (by kernel_rfl) (fun _ => by kernel_rfl) (fun _ _ => by kernel_rfl) (fun _ => by kernel_rfl)
def T43 : Tab := ⟨[], [], [(2, false, ⟨[], [.sl 0 (.own .iAsk 50), .sl 1 (.I .i64), .sl 5 (.I .i64)]⟩, 0, ⟨[], [.sl 1 (.I .i64), .rw 50 .iAsk]⟩)]⟩
def pL_markAskS_b1 (fuel : Nat) : List IAsk × Int × Int → Option ((List IAsk × Int × Int) ⊕ (Int × List IAsk)) := fun (v6, v7, v8) =>
  br (decide (v8 < (↑v6.length : Int))) (
    gd (0 ≤ v8 ∧ v8 < (↑v6.length : Int)) <|
    bd (v6[0 + v8.toNat]?) fun x9 =>
    gd (inK IntKind.i64 (v7 + 1)) <|
    bd (pL_markText fuel (v7 + 1)) fun x10 =>
    gd (0 ≤ v8 ∧ v8 < (↑v6.length : Int)) <|
    bd ((v6.set (0 + v8.toNat) (IAsk.mk v7 x9.Cmd x9.Dir x9.W x9.H x9.Pid))[0 + v8.toNat]?) fun x11 =>
    gd (inK IntKind.i64 (v7 + 1 + 1)) <|
    bd (pL_markText fuel (v7 + 1 + 1)) fun x12 =>
    gd (0 ≤ v8 ∧ v8 < (↑v6.length : Int)) <|
    bd (((v6.set (0 + v8.toNat) (IAsk.mk v7 x9.Cmd x9.Dir x9.W x9.H x9.Pid)).set (0 + v8.toNat) (IAsk.mk x11.Pane x10 x11.Dir x11.W x11.H x11.Pid))[0 + v8.toNat]?) fun x13 =>
    gd (inK IntKind.i64 (v7 + 1 + 1 + 1)) <|
    gd (0 ≤ v8 ∧ v8 < (↑v6.length : Int)) <|
    bd ((((v6.set (0 + v8.toNat) (IAsk.mk v7 x9.Cmd x9.Dir x9.W x9.H x9.Pid)).set (0 + v8.toNat) (IAsk.mk x11.Pane x10 x11.Dir x11.W x11.H x11.Pid)).set (0 + v8.toNat) (IAsk.mk x13.Pane x13.Cmd x12 x13.W x13.H x13.Pid))[0 + v8.toNat]?) fun x14 =>
    gd (inK IntKind.i64 (v7 + 1 + 1 + 1 + 1)) <|
    gd (0 ≤ v8 ∧ v8 < (↑v6.length : Int)) <|
    bd (((((v6.set (0 + v8.toNat) (IAsk.mk v7 x9.Cmd x9.Dir x9.W x9.H x9.Pid)).set (0 + v8.toNat) (IAsk.mk x11.Pane x10 x11.Dir x11.W x11.H x11.Pid)).set (0 + v8.toNat) (IAsk.mk x13.Pane x13.Cmd x12 x13.W x13.H x13.Pid)).set (0 + v8.toNat) (IAsk.mk x14.Pane x14.Cmd x14.Dir (v7 + 1 + 1 + 1) x14.H x14.Pid))[0 + v8.toNat]?) fun x15 =>
    gd (inK IntKind.i64 (v7 + 1 + 1 + 1 + 1 + 1)) <|
    gd (0 ≤ v8 ∧ v8 < (↑v6.length : Int)) <|
    bd ((((((v6.set (0 + v8.toNat) (IAsk.mk v7 x9.Cmd x9.Dir x9.W x9.H x9.Pid)).set (0 + v8.toNat) (IAsk.mk x11.Pane x10 x11.Dir x11.W x11.H x11.Pid)).set (0 + v8.toNat) (IAsk.mk x13.Pane x13.Cmd x12 x13.W x13.H x13.Pid)).set (0 + v8.toNat) (IAsk.mk x14.Pane x14.Cmd x14.Dir (v7 + 1 + 1 + 1) x14.H x14.Pid)).set (0 + v8.toNat) (IAsk.mk x15.Pane x15.Cmd x15.Dir x15.W (v7 + 1 + 1 + 1 + 1) x15.Pid))[0 + v8.toNat]?) fun x16 =>
    gd (inK IntKind.i64 (v7 + 1 + 1 + 1 + 1 + 1 + 1)) <|
    gd (inK IntKind.i64 (v8 + 1)) <|
    some (.inl ((((((v6.set (0 + v8.toNat) (IAsk.mk v7 x9.Cmd x9.Dir x9.W x9.H x9.Pid)).set (0 + v8.toNat) (IAsk.mk x11.Pane x10 x11.Dir x11.W x11.H x11.Pid)).set (0 + v8.toNat) (IAsk.mk x13.Pane x13.Cmd x12 x13.W x13.H x13.Pid)).set (0 + v8.toNat) (IAsk.mk x14.Pane x14.Cmd x14.Dir (v7 + 1 + 1 + 1) x14.H x14.Pid)).set (0 + v8.toNat) (IAsk.mk x15.Pane x15.Cmd x15.Dir x15.W (v7 + 1 + 1 + 1 + 1) x15.Pid)).set (0 + v8.toNat) (IAsk.mk x16.Pane x16.Cmd x16.Dir x16.W x16.H (v7 + 1 + 1 + 1 + 1 + 1)), v7 + 1 + 1 + 1 + 1 + 1 + 1, v8 + 1))) <|
  some (.inr (v7, v6))
def pL_markAskS (fuel : Nat) (a1 : List IAsk) (a2 : Int) : Option (Int × List IAsk) :=
  bd (α := Int × List IAsk) (
    loopF (pL_markAskS_b1 fuel) fuel (a1, a2, 0)) fun (x4, x5) =>
  some (x4, x5)
def o43 (fuel : Nat) : Orc := ⟨43, [none, none], [.own .iAsk 99, .I .i64], 101, (.tup [.I .i64, .own .iAsk 99]), fun v => pL_markAskS fuel v.1 v.2⟩
theorem c43 {G : Nat} {E : World → Prop} (hcl : Cl G E) (fuel : Nat) : Ctr Tryz.prog G E (o43 fuel) := Ctr.mk (csc (c72 hcl fuel) csn) facts mixed hcl.cl T43 fuel (fn := Tryz.f43) (by kernel_rfl) rfl (by kernel_rfl) (fun _ => by kernel_rfl) (fun _ _ => by kernel_rfl) (fun _ => by kernel_rfl)
def T17 : Tab := ⟨[], [], []⟩
def pL_markTable (fuel : Nat) (a1 : ITable) (a2 : Int) : Option (Int × List IProc × List IAsk) :=
  bd (pL_markProcS fuel a1.Live a2) fun (x3, x4) =>
  bd (pL_markAskS fuel a1.Asked x3) fun (x5, x6) =>
  some (x5, x4, x6)
def o17 (fuel : Nat) : Orc := ⟨17, [none, none], [.st .iTable [(1, 99), (2, 99)], .I .i64], 102, (.tup [.I .i64, .own .iProc 99, .own .iAsk 99]), fun v => pL_markTable fuel v.1 v.2⟩
theorem c17 {G : Nat} {E : World → Prop} (hcl : Cl G E) (fuel : Nat) : Ctr Tryz.prog G E (o17 fuel) := Ctr.mk (csc (c42 hcl fuel) (csc (c43 hcl fuel) csn)) facts mixed hcl.cl T17 fuel (fn := Tryz.f17) (by kernel_rfl) rfl (by kernel_rfl) (fun _ => by kernel_rfl) (fun _ _ => by kernel_rfl) (fun _ => by kernel_rfl)
def T99 : Tab := ⟨[], [], [(2, false, ⟨[], [.sl 0 (.own .int 50), .sl 1 (.I .i64), .sl 5 (.I .i64)]⟩, 0, ⟨[], [.sl 1 (.I .i64), .rw 50 .int]⟩)]⟩
def pL_markIntS_b1 (fuel : Nat) : List Int × Int × Int → Option ((List Int × Int × Int) ⊕ (Int × List Int)) := fun (v6, v7, v8) =>
  br (decide (v8 < (↑v6.length : Int))) (
    gd (0 ≤ v8 ∧ v8 < (↑v6.length : Int)) <|
    bd (v6[0 + v8.toNat]?) fun x9 =>
    gd (inK IntKind.i64 (v8 + 1)) <|
    some (.inl (v6.set (0 + v8.toNat) v7, IntKind.i64.wrap (v7 + 1), v8 + 1))) <|
  some (.inr (v7, v6))
def pL_markIntS (fuel : Nat) (a1 : List Int) (a2 : Int) : Option (Int × List Int) :=
  bd (α := Int × List Int) (
    loopF (pL_markIntS_b1 fuel) fuel (a1, a2, 0)) fun (x4, x5) =>
  some (x4, x5)
def o99 (fuel : Nat) : Orc := ⟨99, [none, none], [.own .int 99, .I .i64], 101, (.tup [.I .i64, .own .int 99]), fun v => pL_markIntS fuel v.1 v.2⟩
theorem c99 {G : Nat} {E : World → Prop} (hcl : Cl G E) (fuel : Nat) : Ctr Tryz.prog G E (o99 fuel) := Ctr.mk csn facts mixed hcl.cl T99 fuel (fn := Tryz.f99) (by kernel_rfl) rfl (by kernel_rfl) (fun _ => by kernel_rfl) (fun _ _ => by kernel_rfl) (fun _ => by kernel_rfl)
def T100 : Tab := ⟨[], [], [(2, false, ⟨[], [.sl 0 (.own .u8 50), .sl 1 (.I .i64), .sl 5 (.I .i64)]⟩, 0, ⟨[], [.sl 1 (.I .i64), .rw 50 .u8]⟩)]⟩
def pL_markByteS_b1 (fuel : Nat) : List UInt8 × Int × Int → Option ((List UInt8 × Int × Int) ⊕ (Int × List UInt8)) := fun (v6, v7, v8) =>
  br (decide (v8 < (↑v6.length : Int))) (
    gd (0 ≤ v8 ∧ v8 < (↑v6.length : Int)) <|
    bd (v6[0 + v8.toNat]?) fun x9 =>
    gd (inK IntKind.i64 (v7 + 1)) <|
    gd (inK IntKind.i64 (v8 + 1)) <|
    some (.inl (v6.set (0 + v8.toNat) (UInt8.ofNat (IntKind.u8.wrap v7).toNat), v7 + 1, v8 + 1))) <|
  some (.inr (v7, v6))
def pL_markByteS (fuel : Nat) (a1 : List UInt8) (a2 : Int) : Option (Int × List UInt8) :=
  bd (α := Int × List UInt8) (
    loopF (pL_markByteS_b1 fuel) fuel (a1, a2, 0)) fun (x4, x5) =>
  some (x4, x5)
def o100 (fuel : Nat) : Orc := ⟨100, [none, none], [.own .u8 99, .I .i64], 101, (.tup [.I .i64, .own .u8 99]), fun v => pL_markByteS fuel v.1 v.2⟩
theorem c100 {G : Nat} {E : World → Prop} (hcl : Cl G E) (fuel : Nat) : Ctr Tryz.prog G E (o100 fuel) := Ctr.mk csn facts mixed hcl.cl T100 fuel (fn := Tryz.f100) (by kernel_rfl) rfl (by kernel_rfl) (fun _ => by kernel_rfl) (fun _ _ => by kernel_rfl) (fun _ => by kernel_rfl)
def T73 : Tab := ⟨[], [], []⟩
def pL_markVp (fuel : Nat) (a1 : IVp) (a2 : Int) : Option (Int × List Int × List UInt8) :=
  bd (pL_markIntS fuel a1.Args a2) fun (x3, x4) =>
  bd (pL_markByteS fuel a1.Part x3) fun (x5, x6) =>
  some (x5, x4, x6)
def o73 (fuel : Nat) : Orc := ⟨73, [none, none], [.st .iVp [(2, 99), (3, 99)], .I .i64], 102, (.tup [.I .i64, .own .int 99, .own .u8 99]), fun v => pL_markVp fuel v.1 v.2⟩
theorem c73 {G : Nat} {E : World → Prop} (hcl : Cl G E) (fuel : Nat) : Ctr Tryz.prog G E (o73 fuel) := Ctr.mk (csc (c99 hcl fuel) (csc (c100 hcl fuel) csn)) facts mixed hcl.cl T73 fuel (fn := Tryz.f73) (by kernel_rfl) rfl (by kernel_rfl) (fun _ => by kernel_rfl) (fun _ _ => by kernel_rfl) (fun _ => by kernel_rfl)
def T131 : Tab := ⟨[], [], [(2, false, ⟨[], [.sl 0 (.own .iCell 50), .sl 1 (.I .i64), .sl 5 (.I .i64)]⟩, 0, ⟨[], [.sl 1 (.I .i64), .rw 50 .iCell]⟩)]⟩
def pL_markCellS_b1 (fuel : Nat) : List ICell × Int × Int → Option ((List ICell × Int × Int) ⊕ (Int × List ICell)) := fun (v6, v7, v8) =>
  br (decide (v8 < (↑v6.length : Int))) (
    gd (0 ≤ v8 ∧ v8 < (↑v6.length : Int)) <|
    bd (v6[0 + v8.toNat]?) fun x9 =>
    gd (inK IntKind.i64 (v7 + 1)) <|
    gd (0 ≤ v8 ∧ v8 < (↑v6.length : Int)) <|
    bd ((v6.set (0 + v8.toNat) (ICell.mk v7 x9.A))[0 + v8.toNat]?) fun x10 =>
    gd (inK IntKind.i64 (v7 + 1 + 1)) <|
    gd (0 ≤ v8 ∧ v8 < (↑v6.length : Int)) <|
    bd (((v6.set (0 + v8.toNat) (ICell.mk v7 x9.A)).set (0 + v8.toNat) (ICell.mk x10.R (IAttr.mk (v7 + 1) x10.A.Bg x10.A.Bold x10.A.Under x10.A.Turn)))[0 + v8.toNat]?) fun x11 =>
    gd (inK IntKind.i64 (v7 + 1 + 1 + 1)) <|
    gd ((3 : Int) ≠ (0 : Int)) <|
    gd (0 ≤ v8 ∧ v8 < (↑v6.length : Int)) <|
    bd ((((v6.set (0 + v8.toNat) (ICell.mk v7 x9.A)).set (0 + v8.toNat) (ICell.mk x10.R (IAttr.mk (v7 + 1) x10.A.Bg x10.A.Bold x10.A.Under x10.A.Turn))).set (0 + v8.toNat) (ICell.mk x11.R (IAttr.mk x11.A.Fg (v7 + 1 + 1) x11.A.Bold x11.A.Under x11.A.Turn)))[0 + v8.toNat]?) fun x12 =>
    gd (inK IntKind.i64 (v7 + 1 + 1 + 1 + 1)) <|
    gd ((3 : Int) ≠ (0 : Int)) <|
    gd (0 ≤ v8 ∧ v8 < (↑v6.length : Int)) <|
    bd (((((v6.set ((0 : Nat) + v8.toNat) (ICell.mk v7 x9.A)).set ((0 : Nat) + v8.toNat) (ICell.mk x10.R (IAttr.mk (v7 + (1 : Int)) x10.A.Bg x10.A.Bold x10.A.Under x10.A.Turn))).set ((0 : Nat) + v8.toNat) (ICell.mk x11.R (IAttr.mk x11.A.Fg (v7 + (1 : Int) + (1 : Int)) x11.A.Bold x11.A.Under x11.A.Turn))).set ((0 : Nat) + v8.toNat) (ICell.mk x12.R (IAttr.mk x12.A.Fg x12.A.Bg ((v7 + (1 : Int) + (1 : Int) + (1 : Int)).tmod (3 : Int) == (0 : Int)) x12.A.Under x12.A.Turn)))[(0 : Nat) + v8.toNat]?) fun x13 =>
    gd (inK IntKind.i64 (v7 + 1 + 1 + 1 + 1 + 1)) <|
    gd ((3 : Int) ≠ (0 : Int)) <|
    gd (0 ≤ v8 ∧ v8 < (↑v6.length : Int)) <|
    bd ((((((v6.set ((0 : Nat) + v8.toNat) (ICell.mk v7 x9.A)).set ((0 : Nat) + v8.toNat) (ICell.mk x10.R (IAttr.mk (v7 + (1 : Int)) x10.A.Bg x10.A.Bold x10.A.Under x10.A.Turn))).set ((0 : Nat) + v8.toNat) (ICell.mk x11.R (IAttr.mk x11.A.Fg (v7 + (1 : Int) + (1 : Int)) x11.A.Bold x11.A.Under x11.A.Turn))).set ((0 : Nat) + v8.toNat) (ICell.mk x12.R (IAttr.mk x12.A.Fg x12.A.Bg ((v7 + (1 : Int) + (1 : Int) + (1 : Int)).tmod (3 : Int) == (0 : Int)) x12.A.Under x12.A.Turn))).set ((0 : Nat) + v8.toNat) (ICell.mk x13.R (IAttr.mk x13.A.Fg x13.A.Bg x13.A.Bold ((v7 + (1 : Int) + (1 : Int) + (1 : Int) + (1 : Int)).tmod (3 : Int) == (0 : Int)) x13.A.Turn)))[(0 : Nat) + v8.toNat]?) fun x14 =>
    gd (inK IntKind.i64 (v7 + 1 + 1 + 1 + 1 + 1 + 1)) <|
    gd (inK IntKind.i64 (v8 + 1)) <|
    some (.inl ((((((v6.set ((0 : Nat) + v8.toNat) (ICell.mk v7 x9.A)).set ((0 : Nat) + v8.toNat) (ICell.mk x10.R (IAttr.mk (v7 + (1 : Int)) x10.A.Bg x10.A.Bold x10.A.Under x10.A.Turn))).set ((0 : Nat) + v8.toNat) (ICell.mk x11.R (IAttr.mk x11.A.Fg (v7 + (1 : Int) + (1 : Int)) x11.A.Bold x11.A.Under x11.A.Turn))).set ((0 : Nat) + v8.toNat) (ICell.mk x12.R (IAttr.mk x12.A.Fg x12.A.Bg ((v7 + (1 : Int) + (1 : Int) + (1 : Int)).tmod (3 : Int) == (0 : Int)) x12.A.Under x12.A.Turn))).set ((0 : Nat) + v8.toNat) (ICell.mk x13.R (IAttr.mk x13.A.Fg x13.A.Bg x13.A.Bold ((v7 + (1 : Int) + (1 : Int) + (1 : Int) + (1 : Int)).tmod (3 : Int) == (0 : Int)) x13.A.Turn))).set ((0 : Nat) + v8.toNat) (ICell.mk x14.R (IAttr.mk x14.A.Fg x14.A.Bg x14.A.Bold x14.A.Under ((v7 + (1 : Int) + (1 : Int) + (1 : Int) + (1 : Int) + (1 : Int)).tmod (3 : Int) == (0 : Int)))), v7 + (1 : Int) + (1 : Int) + (1 : Int) + (1 : Int) + (1 : Int) + (1 : Int), v8 + (1 : Int)))) <|
  some (.inr (v7, v6))
def pL_markCellS (fuel : Nat) (a1 : List ICell) (a2 : Int) : Option (Int × List ICell) :=
  bd (α := Int × List ICell) (
    loopF (pL_markCellS_b1 fuel) fuel (a1, a2, 0)) fun (x4, x5) =>
  some (x4, x5)
def o131 (fuel : Nat) : Orc := ⟨131, [none, none], [.own .iCell 99, .I .i64], 101, (.tup [.I .i64, .own .iCell 99]), fun v => pL_markCellS fuel v.1 v.2⟩
theorem c131 {G : Nat} {E : World → Prop} (hcl : Cl G E) (fuel : Nat) : Ctr Tryz.prog G E (o131 fuel) := Ctr.mk csn facts mixed hcl.cl T131 fuel (fn := Tryz.f131) (by kernel_rfl) rfl (by kernel_rfl) (fun _ => by kernel_rfl) (fun _ _ => by kernel_rfl) (fun _ => by kernel_rfl)
def T101 : Tab := ⟨[], [], []⟩
def pL_markGrid (fuel : Nat) (a1 : IGrid) (a2 : Int) : Option (Int × List ICell) :=
  bd (pL_markCellS fuel a1.Cells a2) fun (x3, x4) =>
  some (x3, x4)
def o101 (fuel : Nat) : Orc := ⟨101, [none, none], [.st .iGrid [(2, 99)], .I .i64], 101, (.tup [.I .i64, .own .iCell 99]), fun v => pL_markGrid fuel v.1 v.2⟩
theorem c101 {G : Nat} {E : World → Prop} (hcl : Cl G E) (fuel : Nat) : Ctr Tryz.prog G E (o101 fuel) := Ctr.mk (csc (c131 hcl fuel) csn) facts mixed hcl.cl T101 fuel (fn := Tryz.f101) (by kernel_rfl) rfl (by kernel_rfl) (fun _ => by kernel_rfl) (fun _ _ => by kernel_rfl) (fun _ => by kernel_rfl)
def T102 : Tab := ⟨[], [], [(2, false, ⟨[], [.sl 0 (.own .iRow 50), .sl 1 (.I .i64), .sl 5 (.I .i64)]⟩, 0, ⟨[], [.sl 1 (.I .i64), .rw 50 .iRow]⟩)]⟩
def pL_markRowS_b1 (fuel : Nat) : List IRow × Int × Int → Option ((List IRow × Int × Int) ⊕ (Int × List IRow)) := fun (v6, v7, v8) =>
  br (decide (v8 < (↑v6.length : Int))) (
    gd (0 ≤ v8 ∧ v8 < (↑v6.length : Int)) <|
    bd (v6[0 + v8.toNat]?) fun x9 =>
    bd (v6[0 + v8.toNat]?) fun x10 =>
    bd (pL_markCellS fuel x10.Cells v7) fun (x11, x12) =>
    gd (inK IntKind.i64 (v8 + 1)) <|
    some (.inl (v6.set (0 + v8.toNat) (IRow.mk x12), x11, v8 + 1))) <|
  some (.inr (v7, v6))
def pL_markRowS (fuel : Nat) (a1 : List IRow) (a2 : Int) : Option (Int × List IRow) :=
  bd (α := Int × List IRow) (
    loopF (pL_markRowS_b1 fuel) fuel (a1, a2, 0)) fun (x4, x5) =>
  some (x4, x5)
def o102 (fuel : Nat) : Orc := ⟨102, [none, none], [.own .iRow 1000000000, .I .i64], 101, (.tup [.I .i64, .own .iRow 1000000000]), fun v => pL_markRowS fuel v.1 v.2⟩
theorem c102 {G : Nat} {E : World → Prop} (hcl : Cl G E) (fuel : Nat) : Ctr Tryz.prog G E (o102 fuel) := Ctr.mk (csc (c131 hcl fuel) csn) facts mixed hcl.cl T102 fuel (fn := Tryz.f102) (by kernel_rfl) rfl (by kernel_rfl) (fun _ => by kernel_rfl) (fun _ _ => by kernel_rfl) (fun _ => by kernel_rfl)
def T74 : Tab := ⟨[], [], []⟩
def pL_markScr (fuel : Nat) (a1 : IScr) (a2 : Int) : Option (Int × List ICell × List ICell × List Int × List IRow) :=
  bd (pL_markGrid fuel a1.Main a2) fun (x3, x4) =>
  bd (pL_markGrid fuel a1.Alt x3) fun (x5, x6) =>
  bd (pL_markIntS fuel a1.Tabs x5) fun (x7, x8) =>
  bd (pL_markRowS fuel a1.Back x7) fun (x9, x10) =>
  some (x9, x4, x6, x8, x10)
def o74 (fuel : Nat) : Orc := ⟨74, [none, none], [.st .iScr [(4, 99), (7, 99), (28, 99), (30, 1000000000)], .I .i64], 104, (.tup [.I .i64, .own .iCell 99, .own .iCell 99, .own .int 99, .own .iRow 1000000000]), fun v => pL_markScr fuel v.1 v.2⟩
theorem c74 {G : Nat} {E : World → Prop} (hcl : Cl G E) (fuel : Nat) : Ctr Tryz.prog G E (o74 fuel) := Ctr.mk (csc (c101 hcl fuel) (csc (c99 hcl fuel) (csc (c102 hcl fuel) csn))) facts mixed hcl.cl T74 fuel (fn := Tryz.f74) (by kernel_rfl) rfl (by kernel_rfl) (fun _ => by kernel_rfl) (fun _ _ => by kernel_rfl) (fun _ => by kernel_rfl)
def T44 : Tab := ⟨[], [], []⟩
def pL_markTerm (fuel : Nat) (a1 : ITerm) (a2 : Int) : Option (Int × List Int × List UInt8 × List ICell × List ICell × List Int × List IRow) :=
  bd (pL_markVp fuel a1.P a2) fun (x3, x4, x5) =>
  bd (pL_markScr fuel a1.S x3) fun (x6, x7, x8, x9, x10) =>
  some (x6, x4, x5, x7, x8, x9, x10)
def o44 (fuel : Nat) : Orc := ⟨44, [none, none], [.st .iTerm [(2, 99), (3, 99), (8, 99), (11, 99), (32, 99), (34, 1000000000)], .I .i64], 106, (.tup [.I .i64, .own .int 99, .own .u8 99, .own .iCell 99, .own .iCell 99, .own .int 99, .own .iRow 1000000000]), fun v => pL_markTerm fuel v.1 v.2⟩
theorem c44 {G : Nat} {E : World → Prop} (hcl : Cl G E) (fuel : Nat) : Ctr Tryz.prog G E (o44 fuel) := Ctr.mk (csc (c73 hcl fuel) (csc (c74 hcl fuel) csn)) facts mixed hcl.cl T44 fuel (fn := Tryz.f44) (by kernel_rfl) rfl (by kernel_rfl) (fun _ => by kernel_rfl) (fun _ _ => by kernel_rfl) (fun _ => by kernel_rfl)
def T18 : Tab := ⟨[], [], []⟩
def pL_markPane (fuel : Nat) (a1 : IPane) (a2 : Int) : Option (Int × List Int × List UInt8 × List ICell × List ICell × List Int × List IRow) :=
  bd (pL_markTerm fuel a1.Term a2) fun (x3, x4, x5, x6, x7, x8, x9) =>
  some (x3, x4, x5, x6, x7, x8, x9)
def o18 (fuel : Nat) : Orc := ⟨18, [none, none], [.st .iPane [(8, 99), (9, 99), (14, 99), (17, 99), (38, 99), (40, 1000000000)], .I .i64], 106, (.tup [.I .i64, .own .int 99, .own .u8 99, .own .iCell 99, .own .iCell 99, .own .int 99, .own .iRow 1000000000]), fun v => pL_markPane fuel v.1 v.2⟩
theorem c18 {G : Nat} {E : World → Prop} (hcl : Cl G E) (fuel : Nat) : Ctr Tryz.prog G E (o18 fuel) := Ctr.mk (csc (c44 hcl fuel) csn) facts mixed hcl.cl T18 fuel (fn := Tryz.f18) (by kernel_rfl) rfl (by kernel_rfl) (fun _ => by kernel_rfl) (fun _ _ => by kernel_rfl) (fun _ => by kernel_rfl)
def T45 : Tab := ⟨[], [], [(2, true, ⟨[], [.sl 0 (.row .iProc), .sl 1 (.I .i64), .sl 5 (.I .i64)]⟩, 0, ⟨[], [.sl 1 (.I .i64)]⟩)]⟩
def pL_heldProcS_b1 (fuel : Nat) : List IProc × Int × Int → Option ((List IProc × Int × Int) ⊕ (Int ⊕ Int)) := fun (v5, v6, v7) =>
  br (decide (v7 < (↑v5.length : Int))) (
    gd (0 ≤ v7 ∧ v7 < (↑v5.length : Int)) <|
    bd v5[v7.toNat]? fun x8 =>
    br (x8.Pid != v6) (
      some (.inr (.inr (-1)))) <|
    gd (inK IntKind.i64 (v6 + 1)) <|
    gd (0 ≤ v7 ∧ v7 < (↑v5.length : Int)) <|
    bd v5[v7.toNat]? fun x9 =>
    br (x9.Pane != v6 + 1) (
      some (.inr (.inr (-1)))) <|
    gd (inK IntKind.i64 (v6 + 1 + 1)) <|
    gd (inK IntKind.i64 (v7 + 1)) <|
    some (.inl (v5, v6 + 1 + 1, v7 + 1))) <|
  some (.inr (.inl v6))
def pL_heldProcS (fuel : Nat) (a1 : List IProc) (a2 : Int) : Option Int :=
  jn (V := Int) (
    loopF (pL_heldProcS_b1 fuel) fuel (a1, a2, 0)) fun v4 =>
  some v4
def o45 (fuel : Nat) : Orc := ⟨45, [none, none], [.row .iProc, .I .i64], 0, (.one (.I .i64)), fun v => pL_heldProcS fuel v.1 v.2⟩
theorem c45 {G : Nat} {E : World → Prop} (hcl : Cl G E) (fuel : Nat) : Ctr Tryz.prog G E (o45 fuel) := Ctr.mk csn facts mixed hcl.cl T45 fuel (fn := Tryz.f45) (by kernel_rfl) rfl (by kernel_rfl) (fun _ => by kernel_rfl) (fun _ _ => by kernel_rfl) (fun _ => by kernel_rfl)
def T46 : Tab := ⟨[], [], [(2, true, ⟨[], [.sl 0 (.row .iAsk), .sl 1 (.I .i64), .sl 5 (.I .i64)]⟩, 0, ⟨[], [.sl 1 (.I .i64)]⟩)]⟩
def pL_heldAskS_b1 (fuel : Nat) : List IAsk × Int × Int → Option ((List IAsk × Int × Int) ⊕ (Int ⊕ Int)) := fun (v5, v6, v7) =>
  br (decide (v7 < (↑v5.length : Int))) (
    gd (0 ≤ v7 ∧ v7 < (↑v5.length : Int)) <|
    bd v5[v7.toNat]? fun x8 =>
    br (x8.Pane != v6) (
      some (.inr (.inr (-1)))) <|
    gd (inK IntKind.i64 (v6 + 1)) <|
    gd (0 ≤ v7 ∧ v7 < (↑v5.length : Int)) <|
    bd v5[v7.toNat]? fun x9 =>
    bd (pL_markText fuel (v6 + 1)) fun x10 =>
    br (!decide (x9.Cmd = x10)) (
      some (.inr (.inr (-1)))) <|
    gd (inK IntKind.i64 (v6 + 1 + 1)) <|
    gd (0 ≤ v7 ∧ v7 < (↑v5.length : Int)) <|
    bd v5[v7.toNat]? fun x11 =>
    bd (pL_markText fuel (v6 + 1 + 1)) fun x12 =>
    br (!decide (x11.Dir = x12)) (
      some (.inr (.inr (-1)))) <|
    gd (inK IntKind.i64 (v6 + 1 + 1 + 1)) <|
    gd (0 ≤ v7 ∧ v7 < (↑v5.length : Int)) <|
    bd v5[v7.toNat]? fun x13 =>
    br (x13.W != v6 + 1 + 1 + 1) (
      some (.inr (.inr (-1)))) <|
    gd (inK IntKind.i64 (v6 + 1 + 1 + 1 + 1)) <|
    gd (0 ≤ v7 ∧ v7 < (↑v5.length : Int)) <|
    bd v5[v7.toNat]? fun x14 =>
    br (x14.H != v6 + 1 + 1 + 1 + 1) (
      some (.inr (.inr (-1)))) <|
    gd (inK IntKind.i64 (v6 + 1 + 1 + 1 + 1 + 1)) <|
    gd (0 ≤ v7 ∧ v7 < (↑v5.length : Int)) <|
    bd v5[v7.toNat]? fun x15 =>
    br (x15.Pid != v6 + 1 + 1 + 1 + 1 + 1) (
      some (.inr (.inr (-1)))) <|
    gd (inK IntKind.i64 (v6 + 1 + 1 + 1 + 1 + 1 + 1)) <|
    gd (inK IntKind.i64 (v7 + 1)) <|
    some (.inl (v5, v6 + 1 + 1 + 1 + 1 + 1 + 1, v7 + 1))) <|
  some (.inr (.inl v6))
def pL_heldAskS (fuel : Nat) (a1 : List IAsk) (a2 : Int) : Option Int :=
  jn (V := Int) (
    loopF (pL_heldAskS_b1 fuel) fuel (a1, a2, 0)) fun v4 =>
  some v4
def o46 (fuel : Nat) : Orc := ⟨46, [none, none], [.row .iAsk, .I .i64], 0, (.one (.I .i64)), fun v => pL_heldAskS fuel v.1 v.2⟩
theorem c46 {G : Nat} {E : World → Prop} (hcl : Cl G E) (fuel : Nat) : Ctr Tryz.prog G E (o46 fuel) := Ctr.mk (csc (c72 hcl fuel) csn) facts mixed hcl.cl T46 fuel (fn := Tryz.f46) (by kernel_rfl) rfl (by kernel_rfl) (fun _ => by kernel_rfl) (fun _ _ => by kernel_rfl) (fun _ => by kernel_rfl)
def T19 : Tab := ⟨[], [], []⟩
def pL_heldTable (fuel : Nat) (a1 : ITable) (a2 : Int) : Option Int :=
  bd (pL_heldProcS fuel a1.Live a2) fun x3 =>
  br (decide (x3 < 0)) (
    some (-1)) <|
  bd (pL_heldAskS fuel a1.Asked x3) fun x4 =>
  br (decide (x4 < 0)) (
    some (-1)) <|
  some x4
def o19 (fuel : Nat) : Orc := ⟨19, [none, none], [.st .iTable [], .I .i64], 0, (.one (.I .i64)), fun v => pL_heldTable fuel v.1 v.2⟩
theorem c19 {G : Nat} {E : World → Prop} (hcl : Cl G E) (fuel : Nat) : Ctr Tryz.prog G E (o19 fuel) := Ctr.mk (csc (c45 hcl fuel) (csc (c46 hcl fuel) csn)) facts mixed hcl.cl T19 fuel (fn := Tryz.f19) (by kernel_rfl) rfl (by kernel_rfl) (fun _ => by kernel_rfl) (fun _ _ => by kernel_rfl) (fun _ => by kernel_rfl)
def T4 : Tab := ⟨[(12, ⟨[(2, .ptr 300 0), (3, .ptr 400 0), (6, .ptr 700 0), (8, .ptr 900 0), (9, .ptr 1000 0), (10, .ptr 1100 0)], [.sto 300 .lTable [], .sto 400 .lPane [], .sto 700 .iTable [(1, 33000001), (2, 33000002)], .sto 900 .iTable [(1, 37000001), (2, 37000002)], .sto 1000 .iPane [(8, 39000008), (9, 39000009), (14, 39000014), (17, 39000017), (38, 39000038), (40, 1039000040)], .sto 1100 .iTable [(1, 43000001), (2, 43000002)], .sl 7 (.I .i64), .sl 11 (.I .i64), .sl 53 .B]⟩), (21, ⟨[(2, .ptr 300 0), (3, .ptr 400 0), (6, .ptr 700 0), (10, .ptr 1100 0)], [.sto 300 .lTable [], .sto 400 .lPane [], .sto 700 .iTable [(1, 33000001), (2, 33000002)], .sto 1100 .iTable [(1, 43000001), (2, 43000002)], .sl 7 (.I .i64), .sl 82 .B]⟩), (32, ⟨[(10, .ptr 1100 0)], [.sto 1100 .iTable [(1, 43000001), (2, 43000002)], .sl 13 (.I .i64), .sl 110 .B]⟩)], [], []⟩
def pL_FnExactTableAsk (fuel : Nat) (a1 : LTable) (a2 : LPane) : Option Bool :=
  bd (pL_szTable fuel a1 1048576) fun x3 =>
  br (decide (x3 < 0)) (
    some true) <|
  bd (pL_szPane fuel a2 x3) fun x4 =>
  br (decide (x4 < 0)) (
    some true) <|
  bd (pL_toTable fuel a1) fun x5 =>
  bd (pL_toPane fuel a2) fun x6 =>
  bd (pS_TableAsk fuel x5 x6) fun (x7, x8) =>
  bd (pL_toTable fuel a1) fun x9 =>
  bd (pL_toPane fuel a2) fun x10 =>
  bd (pI_TableAsk fuel x9 x10) fun (x11, x12) =>
  bd (α := LTable × LPane × ITable × ITable × IPane × ITable × Int × Int × Bool) (
    bd (pL_eqTable fuel x11 x7) fun x13 =>
    br (!x13) (
      some (a1, a2, x7, x9, x10, x11, x8, x12, true)) <|
    some (a1, a2, x7, x9, x10, x11, x8, x12, x12 != x8)) fun (x14, x15, x16, x17, x18, x19, x20, x21, x22) =>
  br x22 (
    some false) <|
  bd (pL_toTable fuel x14) fun x23 =>
  bd (pL_eqTable fuel x17 x23) fun x24 =>
  br (!x24) (
    some false) <|
  bd (pL_toPane fuel x15) fun x25 =>
  bd (pL_eqPane fuel x18 x25) fun x26 =>
  br (!x26) (
    some false) <|
  bd (pL_markTable fuel x17 1) fun (x27, x28, x29) =>
  bd (pL_markPane fuel x18 x27) fun (x30, x31, x32, x33, x34, x35, x36) =>
  bd (α := LTable × LPane × ITable × ITable × Int × Bool) (
    br (decide (x30 < 0)) (
      some (x14, x15, x16, x19, x20, true)) <|
    bd (pL_eqTable fuel x19 x16) fun x37 =>
    br (!x37) (
      some (x14, x15, x16, x19, x20, true)) <|
    some (x14, x15, x16, x19, x20, x21 != x20)) fun (x38, x39, x40, x41, x42, x43) =>
  br x43 (
    some false) <|
  bd (pL_markTable fuel x41 1) fun (x44, x45, x46) =>
  bd (pL_heldTable fuel (ITable.mk x41.Next x45 x46) 1) fun x47 =>
  br (decide (x47 < 0)) (
    some false) <|
  br (x47 != x44) (
    some false) <|
  bd (pL_toTable fuel x38) fun x48 =>
  bd (pL_toPane fuel x39) fun x49 =>
  bd (pI_TableAsk fuel x48 x49) fun (x50, x51) =>
  bd (α := ITable × Int × Bool) (
    bd (pL_eqTable fuel x50 x40) fun x52 =>
    br (!x52) (
      some (ITable.mk x41.Next x45 x46, x44, true)) <|
    some (ITable.mk x41.Next x45 x46, x44, x51 != x42)) fun (x53, x54, x55) =>
  br x55 (
    some false) <|
  bd (pL_heldTable fuel x53 1) fun x56 =>
  br (decide (x56 < 0)) (
    some false) <|
  br (x56 != x54) (
    some false) <|
  some true
def o4 (fuel : Nat) : Orc := ⟨4, [none, none], [.st .lTable [], .st .lPane []], 0, (.one .B), fun v => pL_FnExactTableAsk fuel v.1 v.2⟩
theorem c4 {G : Nat} {E : World → Prop} (hcl : Cl G E) (fuel : Nat) : Ctr Tryz.prog G E (o4 fuel) := Ctr.mk (csc (c10 hcl fuel) (csc (c11 hcl fuel) (csc (c13 hcl fuel) (csc (c14 hcl fuel) (csc (c12 hcl fuel) (csc (c6 hcl fuel) (csc (c15 hcl fuel) (csc (c16 hcl fuel) (csc (c17 hcl fuel) (csc (c18 hcl fuel) (csc (c19 hcl fuel) csn))))))))))) facts mixed hcl.cl T4 fuel (fn := Tryz.f4) (by kernel_rfl) rfl (by kernel_rfl) (fun _ => by kernel_rfl) (fun _ _ => by kernel_rfl) (fun _ => by kernel_rfl)
end
end Go.Px
namespace Go.Px
/-! ### Working with printed functions -/
@[simp] theorem bd_s {α β : Type} (a : α) (f : α → Option β) : bd (some a) f = f a := rfl
@[simp] theorem bd_n {α β : Type} (f : α → Option β) : bd (none : Option α) f = none := rfl
@[simp] theorem br_t {α : Type} (x y : α) : br true x y = x := rfl
@[simp] theorem br_f {α : Type} (x y : α) : br false x y = y := rfl
@[simp] theorem jn_l {V β : Type} (v : V) (f : V → Option β) : jn (some (.inl v)) f = f v := rfl
@[simp] theorem jn_r {V β : Type} (r : β) (f : V → Option β) : jn (some (.inr r)) f = some r := rfl
theorem bd_br {α β : Type} (b : Bool) (x y : Option α) (f : α → Option β) : bd (br b x y) f = br b (bd x f) (bd y f) := by cases b <;> rfl
theorem jn_br {V β : Type} (b : Bool) (x y : Option (V ⊕ β)) (f : V → Option β) : jn (br b x y) f = br b (jn x f) (jn y f) := by cases b <;> rfl
theorem br_ss {α : Type} (b : Bool) (x y : α) : br b (some x) (some y) = some (br b x y) := by cases b <;> rfl
theorem br_pp {α β : Type} (b : Bool) (a : α) (x y : β) : br b (a, x) (a, y) = (a, br b x y) := by cases b <;> rfl
theorem gd_t {β : Type} {p : Prop} [Decidable p] (h : p) (x : Option β) : gd p x = x := if_pos h
theorem br_if {α : Type} (b : Bool) (x y : α) : br b x y = if b then x else y := by cases b <;> rfl
theorem loopF_drop {V O α : Type} {B : V → Option (V ⊕ O)} {f : Nat → V} {l : List α} {q : α → Bool} {R E : O} (h : ∀ i x, l[i]? = some x → B (f i) = if q x then some (.inr R) else some (.inl (f (i + 1)))) (he : B (f l.length) = some (.inr E)) :
    ∀ (n fuel i : Nat), l.length - i = n → i ≤ l.length → n < fuel → loopF B fuel (f i) = some (if (l.drop i).any q then R else E)
  | n, 0, i, _, _, hf => by omega
  | 0, fuel + 1, i, hn, hi, _ => by
    obtain rfl : i = l.length := by omega
    unfold loopF
    rw [he]
    simp
  | n + 1, fuel + 1, i, hn, hi, hf => by
    have hlt : i < l.length := by omega
    have hx : l[i]? = some l[i] := List.getElem?_eq_getElem hlt
    unfold loopF
    rw [h i _ hx, List.drop_eq_getElem_cons hlt, List.any_cons]
    by_cases hq : q l[i] = true
    · simp [hq]
    · simp only [hq, if_false, Bool.false_eq_true, Bool.false_or]
      exact loopF_drop h he n fuel (i + 1) (by omega) (by omega) (by omega)
/-- A loop over a list that leaves at the first element of a kind. -/
theorem loopF_any {V O α : Type} {B : V → Option (V ⊕ O)} (f : Nat → V) (l : List α) (q : α → Bool) (R E : O) {fuel : Nat} {v : V} (hv : v = f 0) (h : ∀ i x, l[i]? = some x → B (f i) = if q x then some (.inr R) else some (.inl (f (i + 1)))) (he : B (f l.length) = some (.inr E)) (hf : l.length < fuel) : loopF B fuel v = some (if l.any q then R else E) := by
  subst hv
  have := loopF_drop h he l.length fuel 0 rfl (Nat.zero_le _) hf
  rwa [List.drop_zero] at this
/-- The same where what comes out names the place. -/
theorem loopF_find {V O α : Type} {B : V → Option (V ⊕ O)} (f : Nat → V) (l : List α) (q : α → Bool) (R : Nat → O) (E : O) {fuel : Nat} {v : V} (hv : v = f 0) (h : ∀ i x, l[i]? = some x → B (f i) = if q x then some (.inr (R i)) else some (.inl (f (i + 1)))) (he : B (f l.length) = some (.inr E)) (hf : l.length < fuel) :
    (∃ (i : Nat) (x : α), l[i]? = some x ∧ q x = true ∧ (∀ (j : Nat) y, j < i → l[j]? = some y → q y = false) ∧ loopF B fuel v = some (R i)) ∨ ((∀ x ∈ l, q x = false) ∧ loopF B fuel v = some E) := by
  subst hv
  have key : ∀ (n fuel i : Nat), l.length - i = n → i ≤ l.length → n < fuel → (∀ (j : Nat) y, j < i → l[j]? = some y → q y = false) →
      (∃ (i' : Nat) (x : α), l[i']? = some x ∧ q x = true ∧ (∀ (j : Nat) y, j < i' → l[j]? = some y → q y = false) ∧ loopF B fuel (f i) = some (R i')) ∨ ((∀ (j : Nat) y, l[j]? = some y → q y = false) ∧ loopF B fuel (f i) = some E) := by
    intro n
    induction n with
    | zero =>
      intro fuel i hn hi hf hq
      cases fuel with
      | zero => omega
      | succ fuel =>
        obtain rfl : i = l.length := by omega
        refine .inr ⟨fun j y hj => hq j y (List.getElem?_eq_some_iff.1 hj).1 hj, ?_⟩
        unfold loopF; rw [he]
    | succ n ih =>
      intro fuel i hn hi hf hq
      cases fuel with
      | zero => omega
      | succ fuel =>
        have hlt : i < l.length := by omega
        have hx : l[i]? = some l[i] := List.getElem?_eq_getElem hlt
        by_cases hqx : q l[i] = true
        · refine .inl ⟨i, _, hx, hqx, hq, ?_⟩
          unfold loopF; rw [h i _ hx, hqx]; rfl
        · have hqx : q l[i] = false := by simpa using hqx
          have hstep : loopF B (fuel + 1) (f i) = loopF B fuel (f (i + 1)) := by
            conv => lhs; unfold loopF
            rw [h i _ hx, hqx]; rfl
          rw [hstep]
          refine ih fuel (i + 1) (by omega) (by omega) (by omega) fun j y hj hy => ?_
          rcases Nat.lt_succ_iff_lt_or_eq.1 hj with h1 | h1
          · exact hq j y h1 hy
          · subst h1; rw [hx] at hy; cases hy; exact hqx
  rcases key l.length fuel 0 rfl (Nat.zero_le _) hf (fun j y hj => by omega) with h1 | ⟨h1, h2⟩
  · exact .inl h1
  · exact .inr ⟨fun x hx => by obtain ⟨j, hj⟩ := List.getElem?_of_mem hx; exact h1 j x hj, h2⟩
/-- The kind may name the place as well. -/
theorem loopF_anyI {V O α : Type} {B : V → Option (V ⊕ O)} (f : Nat → V) (l : List α) (q : Nat → α → Bool) (R E : O) {fuel : Nat} {v : V} (hv : v = f 0) (h : ∀ i x, l[i]? = some x → B (f i) = if q i x then some (.inr R) else some (.inl (f (i + 1)))) (he : B (f l.length) = some (.inr E)) (hf : l.length < fuel) :
    loopF B fuel v = some (if l.zipIdx.any (fun p => q p.2 p.1) then R else E) := by
  have hl : l.zipIdx.length = l.length := List.length_zipIdx
  refine loopF_any f l.zipIdx (fun p => q p.2 p.1) R E hv (fun i p hp => ?_) (by rw [hl]; exact he) (by rw [hl]; exact hf)
  rw [List.getElem?_zipIdx] at hp
  cases hx : l[i]? with
  | none => rw [hx] at hp; cases hp
  | some x => rw [hx] at hp; simp at hp; subst hp; exact h i x hx
end Go.Px
namespace Go.Px
/-! ### The checks of values, in both readings -/
theorem inK64 {v : Int} (h1 : -9223372036854775808 ≤ v) (h2 : v ≤ 9223372036854775807) : inK .i64 v := by
  show (if (true && decide (v % 18446744073709551616 ≥ 9223372036854775808)) = true then v % 18446744073709551616 - 18446744073709551616 else v % 18446744073709551616) = v
  simp only [Bool.true_and, decide_eq_true_eq]
  split <;> omega
def I64' (v : Int) : Prop := -9223372036854775808 ≤ v ∧ v ≤ 9223372036854775807
@[simp] theorem pI_within_eq (fuel : Nat) (a b c : Int) : pI_within fuel a b c = some (decide (b ≤ a) && decide (a ≤ c)) := by
  unfold pI_within
  by_cases h : b ≤ a <;> simp [h]
@[simp] theorem pI_isId_eq (fuel : Nat) (a : Int) : pI_isId fuel a = some (decide (1 ≤ a) && decide (a ≤ 1000000)) := by
  unfold pI_isId; simp
@[simp] theorem pI_isCmd_eq (fuel : Nat) (a : ByteArray) : pI_isCmd fuel a = some (decide ((↑a.size : Int) ≤ 60)) := rfl
def showsB (a : Int) : Bool := (decide (32 ≤ a) && decide (a ≤ 126)) || (decide (160 ≤ a) && decide (a ≤ 65535) && !(decide (55296 ≤ a) && decide (a ≤ 57343)))
@[simp] theorem pI_Shows_eq (fuel : Nat) (a : Int) : pI_Shows fuel a = some (showsB a) := by
  unfold pI_Shows showsB
  simp only [pI_within_eq, bd_s, br_if]
  cases decide (32 ≤ a) && decide (a ≤ 126) <;> cases decide (160 ≤ a) && decide (a ≤ 65535) <;> simp
@[simp] theorem pS_Shows_eq (fuel : Nat) (a : Int) : pS_Shows fuel a = some (showsB a) := by
  unfold pS_Shows showsB
  by_cases h1 : 32 ≤ a <;> by_cases h2 : a ≤ 126 <;> by_cases h3 : 160 ≤ a <;> by_cases h4 : a ≤ 65535 <;> by_cases h5 : a < 55296 <;> simp [h1, h2, h3, h4, h5] <;> (try simp [show ¬ 55296 ≤ a by omega]) <;> (try simp [show 55296 ≤ a by omega]) <;> (try (by_cases h6 : a ≤ 57343 <;> simp [h6] <;> omega)) <;> (try omega)
def attrOkB (x : IAttr) : Bool := (decide (0 ≤ x.Fg) && decide (x.Fg ≤ 8)) && (decide (0 ≤ x.Bg) && decide (x.Bg ≤ 8))
@[simp] theorem pI_AttrOk_eq (fuel : Nat) (x : IAttr) : pI_AttrOk fuel x = some (attrOkB x) := by
  unfold pI_AttrOk attrOkB
  simp only [pI_within_eq, bd_s]
  cases decide (0 ≤ x.Fg) && decide (x.Fg ≤ 8) <;> simp
@[simp] theorem pS_AttrOk_eq (fuel : Nat) (x : IAttr) : pS_AttrOk fuel x = some (attrOkB x) := by
  unfold pS_AttrOk attrOkB
  cases decide (0 ≤ x.Fg) <;> cases decide (x.Fg ≤ 8) <;> cases decide (0 ≤ x.Bg) <;> simp
def cellOkB (x : ICell) : Bool := showsB x.R && attrOkB x.A
@[simp] theorem pI_CellOk_eq (fuel : Nat) (x : ICell) : pI_CellOk fuel x = some (cellOkB x) := by
  unfold pI_CellOk cellOkB
  simp only [pI_Shows_eq, bd_s]
  cases showsB x.R <;> simp
@[simp] theorem pS_CellOk_eq (fuel : Nat) (x : ICell) : pS_CellOk fuel x = some (cellOkB x) := by
  unfold pS_CellOk cellOkB
  simp only [pS_Shows_eq, bd_s]
  cases showsB x.R <;> simp
/-- The round of a loop by index. -/
theorem idx_facts {α : Type} {l : List α} {i : Nat} {x : α} (h : l[i]? = some x) (hl : l.length ≤ 9223372036854775807) : decide ((i : Int) < (l.length : Int)) = true ∧ ((0 : Int) ≤ i ∧ (i : Int) < (l.length : Int)) ∧ l[(i : Int).toNat]? = some x ∧ inK .i64 ((i + 1 : Nat) : Int) ∧ ((i : Int) + 1 = ((i + 1 : Nat) : Int)) := by
  have hi := (List.getElem?_eq_some_iff.1 h).1
  exact ⟨by simp; omega, ⟨by omega, by omega⟩, by simpa using h, inK64 (by omega) (by omega), by simp⟩
theorem areCells_loop (fuel : Nat) (l : List ICell) (hl : l.length ≤ 9223372036854775807) (hf : l.length < fuel) : ∃ n : Int, pG_slices_IndexFunc_ICell_I_areCells_1 fuel l = some n ∧ (decide (0 ≤ n) = l.any fun x => !cellOkB x) := by
  unfold pG_slices_IndexFunc_ICell_I_areCells_1
  rcases loopF_find (B := pG_slices_IndexFunc_ICell_I_areCells_1_b1 fuel) (fun i => (l, (l.length : Int), (i : Int))) l (fun x => !cellOkB x) (fun i => .inr (i : Int)) (.inl ()) (fuel := fuel) (v := (l, (l.length : Int), 0)) rfl (fun i x hx => by
    obtain ⟨h1, h2, h3, h4, h5⟩ := idx_facts hx hl
    unfold pG_slices_IndexFunc_ICell_I_areCells_1_b1 pI_areCells_1
    simp only [h1, br_t, gd_t h2, h3, bd_s, pI_CellOk_eq, h5, gd_t h4]
    cases cellOkB x <;> rfl) (by
    unfold pG_slices_IndexFunc_ICell_I_areCells_1_b1
    simp) hf with ⟨i, x, h1, h2, _, h3⟩ | ⟨h1, h2⟩
  · refine ⟨i, by rw [h3]; rfl, ?_⟩
    have : (l.any fun x => !cellOkB x) = true := List.any_eq_true.2 ⟨x, List.mem_of_getElem? h1, h2⟩
    rw [this]; simp
  · refine ⟨-1, by rw [h2]; rfl, ?_⟩
    have : (l.any fun x => !cellOkB x) = false := List.any_eq_false.2 fun x hx => by rw [h1 x hx]; simp
    rw [this]; rfl
theorem pI_areCells_eq {fuel : Nat} {l : List ICell} (hl : l.length ≤ 9223372036854775807) (hf : l.length < fuel) : pI_areCells fuel l = some (l.all cellOkB) := by
  obtain ⟨n, h1, h2⟩ := areCells_loop fuel l hl hf
  unfold pI_areCells pG_slices_ContainsFunc_ICell_I_areCells_1
  simp only [h1, bd_s, h2]
  rw [List.all_eq_not_any_not]
end Go.Px
namespace Go.Px
theorem mul_small {a b : Int} (h1 : 1 ≤ a) (h2 : a ≤ 120) (h3 : 1 ≤ b) (h4 : b ≤ 120) : 0 ≤ a * b ∧ a * b ≤ 14400 := by
  constructor
  · exact Int.mul_nonneg (by omega) (by omega)
  · calc a * b ≤ 120 * b := Int.mul_le_mul_of_nonneg_right h2 (by omega)
      _ ≤ 14400 := by omega
def isSizeB (w h : Int) : Bool := ((decide (1 ≤ w) && decide (w ≤ 120)) && (decide (1 ≤ h) && decide (h ≤ 120))) && decide (w * h ≤ 4000)
theorem isSizeB_true {w h : Int} : isSizeB w h = true ↔ 1 ≤ w ∧ w ≤ 120 ∧ 1 ≤ h ∧ h ≤ 120 ∧ w * h ≤ 4000 := by
  unfold isSizeB; simp [and_assoc]
@[simp] theorem pI_isSize_eq (fuel : Nat) (w h : Int) : pI_isSize fuel w h = some (isSizeB w h) := by
  unfold pI_isSize isSizeB
  simp only [pI_within_eq, bd_s]
  by_cases h1 : 1 ≤ w <;> by_cases h2 : w ≤ 120 <;> by_cases h3 : 1 ≤ h <;> by_cases h4 : h ≤ 120 <;> simp [h1, h2, h3, h4]
  have := mul_small h1 h2 h3 h4
  rw [gd_t (inK64 (by omega) (by omega))]
  rfl
def gridOkB (x : IGrid) : Bool := isSizeB x.W x.H && (((x.Cells.length : Int) == x.W * x.H) && x.Cells.all cellOkB)
theorem pI_GridOk_eq {fuel : Nat} {x : IGrid} (hl : x.Cells.length ≤ 9223372036854775807) (hf : x.Cells.length < fuel) : pI_GridOk fuel x = some (gridOkB x) := by
  unfold pI_GridOk gridOkB
  simp only [pI_isSize_eq, bd_s, pI_areCells_eq hl hf]
  cases hs : isSizeB x.W x.H with
  | false => simp
  | true =>
    obtain ⟨h1, h2, h3, h4, _⟩ := isSizeB_true.1 hs
    have := mul_small h1 h2 h3 h4
    rw [br_t, gd_t (inK64 (by omega) (by omega))]
    cases ((x.Cells.length : Int) == x.W * x.H) <;> simp
theorem pS_GridOk_loop {fuel : Nat} {l : List ICell} (hl : l.length ≤ 9223372036854775807) (hf : l.length < fuel) : loopF (pS_GridOk_b1 fuel) fuel (l, (l.length : Int), 0) = some (if l.all cellOkB then .inl () else .inr false) := by
  refine (loopF_any (B := pS_GridOk_b1 fuel) (fun i => (l, (l.length : Int), (i : Int))) l (fun x => !cellOkB x) (.inr false) (.inl ()) (v := (l, (l.length : Int), 0)) rfl (fun i x hx => by
    obtain ⟨h1, h2, h3, h4, h5⟩ := idx_facts hx hl
    unfold pS_GridOk_b1
    simp only [h1, br_t, gd_t h2, h3, bd_s, pS_CellOk_eq, h5, gd_t h4]
    cases cellOkB x <;> rfl) (by
    unfold pS_GridOk_b1
    simp) hf).trans ?_
  rw [List.all_eq_not_any_not]
  cases l.any fun x => !cellOkB x <;> rfl
theorem pS_GridOk_eq {fuel : Nat} {x : IGrid} (hl : x.Cells.length ≤ 9223372036854775807) (hf : x.Cells.length < fuel) : pS_GridOk fuel x = some (gridOkB x) := by
  unfold pS_GridOk gridOkB isSizeB
  by_cases h1 : x.W < 1
  · simp [h1, show ¬ 1 ≤ x.W by omega]
  by_cases h2 : 120 < x.W
  · simp [h1, h2, show ¬ x.W ≤ 120 by omega]
  by_cases h3 : x.H < 1
  · simp [h1, h2, h3, show ¬ 1 ≤ x.H by omega]
  by_cases h4 : 120 < x.H
  · simp [h1, h2, h3, h4, show ¬ x.H ≤ 120 by omega]
  have := mul_small (show 1 ≤ x.W by omega) (show x.W ≤ 120 by omega) (show 1 ≤ x.H by omega) (show x.H ≤ 120 by omega)
  have hk : inK .i64 (x.W * x.H) := inK64 (by omega) (by omega)
  by_cases h5 : 4000 < x.W * x.H
  · simp [h1, h2, h3, h4, h5, gd_t hk, show ¬ x.W * x.H ≤ 4000 by omega]
  by_cases h6 : (x.Cells.length : Int) = x.W * x.H
  · simp only [h1, h2, h3, h4, h5, decide_false, br_f, gd_t hk, bd_s, h6, bne_self_eq_false]
    rw [← h6, pS_GridOk_loop hl hf]
    generalize x.Cells.all cellOkB = c
    simp [show 1 ≤ x.W by omega, show x.W ≤ 120 by omega, show 1 ≤ x.H by omega, show x.H ≤ 120 by omega, show x.W * x.H ≤ 4000 by omega, h6]
    cases c <;> rfl
  · have hb : ((x.Cells.length : Int) != x.W * x.H) = true := by simp [h6]
    simp [h1, h2, h3, h4, h5, h6, hb, gd_t hk, show 1 ≤ x.W by omega, show x.W ≤ 120 by omega, show 1 ≤ x.H by omega, show x.H ≤ 120 by omega, show x.W * x.H ≤ 4000 by omega]
theorem pI_Grid_has_eq {fuel : Nat} {g : IGrid} {x y : Int} (hg : isSizeB g.W g.H = true) : pI_Grid_has fuel g x y = some ((decide (0 ≤ x) && decide (x ≤ g.W - 1)) && (decide (0 ≤ y) && decide (y ≤ g.H - 1))) := by
  obtain ⟨h1, h2, h3, h4, _⟩ := isSizeB_true.1 hg
  unfold pI_Grid_has
  rw [gd_t (inK64 (by omega) (by omega))]
  simp only [pI_within_eq, bd_s, gd_t (inK64 (v := g.H - 1) (by omega) (by omega))]
  cases (decide (0 ≤ x) && decide (x ≤ g.W - 1)) <;> simp
end Go.Px
namespace Go.Px
/-- Not within, or not above the one ahead. -/
def ascQ (l : List Int) (lo hi : Int) (i : Nat) (x : Int) : Bool := !(decide (lo ≤ x) && decide (x ≤ hi)) || (match i with
  | 0 => false
  | j + 1 => match l[j]? with
    | some y => decide (x ≤ y)
    | none => false)
def ascB (l : List Int) (lo hi : Int) : Bool := !(l.zipIdx.any fun p => ascQ l lo hi p.2 p.1)
theorem prev_facts {α : Type} {l : List α} {j : Nat} {x : α} (h : l[j + 1]? = some x) (hl : l.length ≤ 9223372036854775807) : ∃ y, l[j]? = some y ∧ decide ((0 : Int) < ((j + 1 : Nat) : Int)) = true ∧ inK .i64 (((j + 1 : Nat) : Int) - 1) ∧ ((0 : Int) ≤ ((j + 1 : Nat) : Int) - 1 ∧ ((j + 1 : Nat) : Int) - 1 < (l.length : Int)) ∧ l[(((j + 1 : Nat) : Int) - 1).toNat]? = some y := by
  have hi := (List.getElem?_eq_some_iff.1 h).1
  have e : (((j + 1 : Nat) : Int) - 1).toNat = j := by omega
  exact ⟨l[j]'(by omega), List.getElem?_eq_getElem (by omega), decide_eq_true (by omega), inK64 (by omega) (by omega), ⟨by omega, by omega⟩, by rw [e]; exact List.getElem?_eq_getElem (by omega)⟩
theorem pI_isAscending_eq {fuel : Nat} {l : List Int} {lo hi : Int} (hl : l.length ≤ 9223372036854775807) (hf : l.length < fuel) : pI_isAscending fuel l lo hi = some (ascB l lo hi) := by
  have h := loopF_anyI (B := pI_isAscending_b1 fuel) (fun i => (l, lo, hi, l, (l.length : Int), (i : Int))) l (ascQ l lo hi) (.inr false) (.inl ()) (v := (l, lo, hi, l, (l.length : Int), 0)) rfl (fun i x hx => by
    obtain ⟨h1, h2, h3, h4, h5⟩ := idx_facts hx hl
    unfold pI_isAscending_b1 ascQ
    simp only [h1, br_t, gd_t h2, h3, bd_s, pI_within_eq]
    cases hw : (decide (lo ≤ x) && decide (x ≤ hi)) with
    | false => simp
    | true =>
      cases i with
      | zero => simp only [Bool.not_true, br_f]; simp [gd_t (inK64 (v := 1) (by omega) (by omega))]
      | succ j =>
        obtain ⟨y, p1, p2, p3, p4, p5⟩ := prev_facts hx hl
        simp only [Bool.not_true, br_f, p2, br_t, gd_t p3, gd_t p4, p5, bd_s, p1, Bool.false_or, h5, gd_t h4]
        cases decide (x ≤ y) <;> rfl) (by
    unfold pI_isAscending_b1
    simp) hf
  unfold pI_isAscending ascB
  rw [h]
  cases l.zipIdx.any fun p => ascQ l lo hi p.2 p.1 <;> rfl
def rowOkB (x : IRow) : Bool := (decide (1 ≤ (x.Cells.length : Int)) && decide ((x.Cells.length : Int) ≤ 120)) && x.Cells.all cellOkB
theorem pI_backOk_1_eq {fuel : Nat} {x : IRow} (hl : x.Cells.length ≤ 9223372036854775807) (hf : x.Cells.length < fuel) : pI_backOk_1 fuel x = some (!rowOkB x) := by
  unfold pI_backOk_1 rowOkB
  simp only [pI_within_eq, bd_s, pI_areCells_eq hl hf]
  cases (decide (1 ≤ (x.Cells.length : Int)) && decide ((x.Cells.length : Int) ≤ 120)) <;> simp
theorem backOk_loop (fuel : Nat) (l : List IRow) (hl : l.length ≤ 9223372036854775807) (hf : l.length < fuel) (hr : ∀ x ∈ l, x.Cells.length ≤ 9223372036854775807 ∧ x.Cells.length < fuel) : ∃ n : Int, pG_slices_IndexFunc_IRow_I_backOk_1 fuel l = some n ∧ (decide (0 ≤ n) = l.any fun x => !rowOkB x) := by
  unfold pG_slices_IndexFunc_IRow_I_backOk_1
  rcases loopF_find (B := pG_slices_IndexFunc_IRow_I_backOk_1_b1 fuel) (fun i => (l, (l.length : Int), (i : Int))) l (fun x => !rowOkB x) (fun i => .inr (i : Int)) (.inl ()) (fuel := fuel) (v := (l, (l.length : Int), 0)) rfl (fun i x hx => by
    obtain ⟨h1, h2, h3, h4, h5⟩ := idx_facts hx hl
    obtain ⟨r1, r2⟩ := hr x (List.mem_of_getElem? hx)
    unfold pG_slices_IndexFunc_IRow_I_backOk_1_b1
    simp only [h1, br_t, gd_t h2, h3, bd_s, pI_backOk_1_eq r1 r2, h5, gd_t h4]
    cases rowOkB x <;> rfl) (by
    unfold pG_slices_IndexFunc_IRow_I_backOk_1_b1
    simp) hf with ⟨i, x, h1, h2, _, h3⟩ | ⟨h1, h2⟩
  · refine ⟨i, by rw [h3]; rfl, ?_⟩
    have : (l.any fun x => !rowOkB x) = true := List.any_eq_true.2 ⟨x, List.mem_of_getElem? h1, h2⟩
    rw [this]; simp
  · refine ⟨-1, by rw [h2]; rfl, ?_⟩
    have : (l.any fun x => !rowOkB x) = false := List.any_eq_false.2 fun x hx => by rw [h1 x hx]; simp
    rw [this]; rfl
theorem pI_backOk_eq {fuel : Nat} {l : List IRow} {n : Int} (hl : l.length ≤ 9223372036854775807) (hf : l.length < fuel) (hr : ∀ x ∈ l, x.Cells.length ≤ 9223372036854775807 ∧ x.Cells.length < fuel) : pI_backOk fuel l n = some (decide ((l.length : Int) ≤ n) && l.all rowOkB) := by
  obtain ⟨m, h1, h2⟩ := backOk_loop fuel l hl hf hr
  unfold pI_backOk pG_slices_ContainsFunc_IRow_I_backOk_1
  simp only [h1, bd_s, h2]
  rw [List.all_eq_not_any_not]
  cases decide ((l.length : Int) ≤ n) <;> simp
theorem pS_l09Row_eq {fuel : Nat} {x : IRow} (hl : x.Cells.length ≤ 9223372036854775807) (hf : x.Cells.length < fuel) : pS_l09Row fuel x = some (rowOkB x) := by
  have h := loopF_any (B := pS_l09Row_b1 fuel) (fun i => (x, x.Cells, (x.Cells.length : Int), (i : Int))) x.Cells (fun c => !cellOkB c) (.inr false) (.inl x) (v := (x, x.Cells, (x.Cells.length : Int), 0)) rfl (fun i c hx => by
    obtain ⟨h1, h2, h3, h4, h5⟩ := idx_facts hx hl
    unfold pS_l09Row_b1
    simp only [h1, br_t, gd_t h2, h3, bd_s, pS_CellOk_eq, h5, gd_t h4]
    cases cellOkB c <;> rfl) (by
    unfold pS_l09Row_b1
    simp) hf
  unfold pS_l09Row rowOkB
  rw [h, List.all_eq_not_any_not]
  cases (x.Cells.any fun c => !cellOkB c) <;> by_cases h1 : 1 ≤ (x.Cells.length : Int) <;> simp [h1]
theorem pS_back_loop {fuel : Nat} {l : List IRow} (hl : l.length ≤ 9223372036854775807) (hf : l.length < fuel) (hr : ∀ x ∈ l, x.Cells.length ≤ 9223372036854775807 ∧ x.Cells.length < fuel) : loopF (pS_ScrOk_b2 fuel) fuel (l, (l.length : Int), 0) = some (if l.all rowOkB then .inl () else .inr false) := by
  refine (loopF_any (B := pS_ScrOk_b2 fuel) (fun i => (l, (l.length : Int), (i : Int))) l (fun x => !rowOkB x) (.inr false) (.inl ()) (v := (l, (l.length : Int), 0)) rfl (fun i x hx => by
    obtain ⟨h1, h2, h3, h4, h5⟩ := idx_facts hx hl
    obtain ⟨r1, r2⟩ := hr x (List.mem_of_getElem? hx)
    unfold pS_ScrOk_b2
    simp only [h1, br_t, gd_t h2, h3, bd_s, pS_l09Row_eq r1 r2, h5, gd_t h4]
    cases rowOkB x <;> rfl) (by
    unfold pS_ScrOk_b2
    simp) hf).trans ?_
  rw [List.all_eq_not_any_not]
  cases l.any fun x => !rowOkB x <;> rfl
theorem pS_tabs_loop {fuel : Nat} {s : IScr} (hl : s.Tabs.length ≤ 9223372036854775807) (hf : s.Tabs.length < fuel) : loopF (pS_ScrOk_b1 fuel) fuel (s, s.Tabs, (s.Tabs.length : Int), 0) = some (if ascB s.Tabs 0 (s.W - 1) then .inl s else .inr false) := by
  have h := loopF_anyI (B := pS_ScrOk_b1 fuel) (fun i => (s, s.Tabs, (s.Tabs.length : Int), (i : Int))) s.Tabs (ascQ s.Tabs 0 (s.W - 1)) (.inr false) (.inl s) (v := (s, s.Tabs, (s.Tabs.length : Int), 0)) rfl (fun i x hx => by
    obtain ⟨h1, h2, h3, h4, h5⟩ := idx_facts hx hl
    unfold pS_ScrOk_b1 ascQ
    simp only [h1, br_t, gd_t h2, h3, bd_s]
    by_cases w1 : x < 0
    · simp [w1, show ¬ 0 ≤ x by omega]
    by_cases w2 : s.W ≤ x
    · simp [w1, w2, show ¬ x ≤ s.W - 1 by omega]
    have w3 : (decide (0 ≤ x) && decide (x ≤ s.W - 1)) = true := by simp; omega
    cases i with
    | zero => simp only [w1, w2, w3, decide_false, br_f]; simp [gd_t (inK64 (v := 1) (by omega) (by omega))]
    | succ j =>
      obtain ⟨y, p1, p2, p3, p4, p5⟩ := prev_facts hx hl
      simp only [w1, w2, w3, decide_false, br_f, p2, br_t, gd_t p3, gd_t p4, p5, bd_s, p1, Bool.not_true, Bool.false_or, h5, gd_t h4]
      cases decide (x ≤ y) <;> rfl) (by
    unfold pS_ScrOk_b1
    simp) hf
  rw [h]
  unfold ascB
  cases s.Tabs.zipIdx.any fun p => ascQ s.Tabs 0 (s.W - 1) p.2 p.1 <;> rfl
end Go.Px
namespace Go.Px
def hasB (w h x y : Int) : Bool := (decide (0 ≤ x) && decide (x ≤ w - 1)) && (decide (0 ≤ y) && decide (y ≤ h - 1))
def gridsB (s : IScr) : Bool := [s.Main, s.Alt].all fun g => gridOkB g && ((g.W == s.W) && (g.H == s.H))
def scrRestB (s : IScr) : Bool :=
  hasB s.W s.H s.X s.Y && (hasB s.W s.H s.SaveX s.SaveY && ((!s.Wrap || s.X == s.W - 1) && (attrOkB s.A && (attrOkB s.SaveA && (decide (0 ≤ s.Top) && (decide (s.Top ≤ s.Bot) && (decide (s.Bot < s.H) && ((!(s.Top == s.Bot) || s.H == 1) &&
  (ascB s.Tabs 0 (s.W - 1) && ((decide (0 ≤ s.Limit) && decide (s.Limit ≤ 100)) && (decide ((s.Back.length : Int) ≤ s.Limit) && s.Back.all rowOkB)))))))))))
def scrOkB (s : IScr) : Bool := gridsB s && scrRestB s
/-- The lists are no longer than a loop may be long. -/
structure ScrF (fuel : Nat) (s : IScr) : Prop where
  m : s.Main.Cells.length ≤ 9223372036854775807 ∧ s.Main.Cells.length < fuel
  a : s.Alt.Cells.length ≤ 9223372036854775807 ∧ s.Alt.Cells.length < fuel
  t : s.Tabs.length ≤ 9223372036854775807 ∧ s.Tabs.length < fuel
  b : s.Back.length ≤ 9223372036854775807 ∧ s.Back.length < fuel
  r : ∀ x ∈ s.Back, x.Cells.length ≤ 9223372036854775807 ∧ x.Cells.length < fuel
  f : 2 < fuel
theorem pI_grids_loop {fuel : Nat} {s : IScr} (hf : ScrF fuel s) : loopF (pI_ScrOk_b1 fuel) fuel (s, [s.Main, s.Alt], ((2 : Nat) : Int), 0) = some (if gridsB s then .inl s else .inr false) := by
  have h := loopF_any (B := pI_ScrOk_b1 fuel) (fun i => (s, [s.Main, s.Alt], ((2 : Nat) : Int), (i : Int))) [s.Main, s.Alt] (fun g => !(gridOkB g && ((g.W == s.W) && (g.H == s.H)))) (.inr false) (.inl s) (v := (s, [s.Main, s.Alt], ((2 : Nat) : Int), 0)) rfl (fun i g hx => by
    obtain ⟨h1, h2, h3, h4, h5⟩ := idx_facts hx (by simp)
    have h1 : decide ((i : Int) < ((2 : Nat) : Int)) = true := h1
    have h3 : [s.Main, s.Alt][0 + (i : Int).toNat]? = some g := by rw [Nat.zero_add]; exact h3
    have hg : pI_GridOk fuel g = some (gridOkB g) := by
      have hm := List.mem_of_getElem? hx
      simp at hm
      rcases hm with rfl | rfl
      · exact pI_GridOk_eq hf.m.1 hf.m.2
      · exact pI_GridOk_eq hf.a.1 hf.a.2
    unfold pI_ScrOk_b1
    simp only [h1, br_t, gd_t h2, h3, bd_s, hg]
    cases gridOkB g
    · simp
    · cases hw : (g.W == s.W)
      · simp [bne, hw]
      · cases hh : (g.H == s.H)
        · simp [bne, hw, hh]
        · simp only [bne, hw, hh, Bool.not_true, br_f, bd_s, h5, gd_t h4]; rfl) (by
    unfold pI_ScrOk_b1
    simp) hf.f
  rw [h]
  unfold gridsB
  rw [List.all_eq_not_any_not]
  cases ([s.Main, s.Alt].any fun g => !(gridOkB g && ((g.W == s.W) && (g.H == s.H)))) <;> rfl
theorem gridsB_size {s : IScr} (h : gridsB s = true) : isSizeB s.W s.H = true ∧ s.Main.W = s.W ∧ s.Main.H = s.H ∧ s.Alt.W = s.W ∧ s.Alt.H = s.H ∧ gridOkB s.Main = true ∧ gridOkB s.Alt = true := by
  unfold gridsB at h
  simp at h
  obtain ⟨⟨h1, h2, h3⟩, h4, h5, h6⟩ := h
  refine ⟨?_, h2, h3, h5, h6, h1, h4⟩
  unfold gridOkB at h1
  rw [Bool.and_eq_true] at h1
  rw [← h2, ← h3]; exact h1.1
theorem pI_ScrOk_eq {fuel : Nat} {s : IScr} (hf : ScrF fuel s) : pI_ScrOk fuel s = some (scrOkB s) := by
  unfold pI_ScrOk scrOkB
  have := pI_grids_loop hf
  rw [show ((↑2 : Int)) = ((2 : Nat) : Int) from rfl] at *
  rw [this]
  cases hg : gridsB s with
  | false => rfl
  | true =>
    obtain ⟨z, e1, e2, e3, e4, g1, g2⟩ := gridsB_size hg
    obtain ⟨z1, z2, z3, z4, _⟩ := isSizeB_true.1 z
    have zm : isSizeB s.Main.W s.Main.H = true := by rw [e1, e2]; exact z
    have k1 : inK .i64 (s.W - 1) := inK64 (by omega) (by omega)
    simp only [if_true, jn_l, pI_Grid_has_eq zm, e1, e2, bd_s, pI_AttrOk_eq, gd_t k1, pI_isAscending_eq hf.t.1 hf.t.2, pI_within_eq, pI_backOk_eq hf.b.1 hf.b.2 hf.r, Bool.true_and, br_ss, br_pp]
    unfold scrRestB
    rw [show ((decide (0 ≤ s.X) && decide (s.X ≤ s.W - 1)) && (decide (0 ≤ s.Y) && decide (s.Y ≤ s.H - 1))) = hasB s.W s.H s.X s.Y from rfl, show ((decide (0 ≤ s.SaveX) && decide (s.SaveX ≤ s.W - 1)) && (decide (0 ≤ s.SaveY) && decide (s.SaveY ≤ s.H - 1))) = hasB s.W s.H s.SaveX s.SaveY from rfl]
    generalize hasB s.W s.H s.X s.Y = p1
    generalize hasB s.W s.H s.SaveX s.SaveY = p2
    generalize attrOkB s.A = p4
    generalize attrOkB s.SaveA = p5
    generalize ascB s.Tabs 0 (s.W - 1) = p10
    generalize (decide ((s.Back.length : Int) ≤ s.Limit) && s.Back.all rowOkB) = p12
    generalize (decide (0 ≤ s.Limit) && decide (s.Limit ≤ 100)) = p11
    simp only [bne]
    generalize (s.X == s.W - 1) = p3
    generalize (s.H == 1) = p9
    generalize (s.Top == s.Bot) = p13
    cases p1; · simp
    cases p2; · simp
    have q6 : decide (s.Top < 0) = !decide (0 ≤ s.Top) := by by_cases h : 0 ≤ s.Top <;> simp [h] <;> omega
    have q7 : decide (s.Bot < s.Top) = !decide (s.Top ≤ s.Bot) := by by_cases h : s.Top ≤ s.Bot <;> simp [h] <;> omega
    have q8 : decide (s.H ≤ s.Bot) = !decide (s.Bot < s.H) := by by_cases h : s.Bot < s.H <;> simp [h] <;> omega
    rw [q6, q7, q8]
    generalize decide (0 ≤ s.Top) = p6
    generalize decide (s.Top ≤ s.Bot) = p7
    generalize decide (s.Bot < s.H) = p8
    generalize s.Wrap = wr
    cases wr <;> cases p3 <;> cases p4 <;> cases p5 <;> cases p6 <;> cases p7 <;> cases p8 <;> cases p13 <;> cases p9 <;> cases p10 <;> cases p11 <;> rfl
end Go.Px
namespace Go.Px
theorem pS_ScrOk_eq {fuel : Nat} {s : IScr} (hf : ScrF fuel s) : pS_ScrOk fuel s = some (scrOkB s) := by
  unfold pS_ScrOk scrOkB
  simp only [pS_GridOk_eq hf.m.1 hf.m.2, pS_GridOk_eq hf.a.1 hf.a.2, bd_s, br_ss, br_pp]
  have hx : (br (!gridOkB s.Main) true (br (!gridOkB s.Alt) true (br (s.Main.W != s.W) true (br (s.Main.H != s.H) true (br (s.Alt.W != s.W) true (s.Alt.H != s.H)))))) = !gridsB s := by
    unfold gridsB
    simp only [List.all_cons, List.all_nil, bne]
    cases gridOkB s.Main <;> cases gridOkB s.Alt <;> cases (s.Main.W == s.W) <;> cases (s.Main.H == s.H) <;> cases (s.Alt.W == s.W) <;> cases (s.Alt.H == s.H) <;> rfl
  rw [hx]
  cases hg : gridsB s with
  | false => rfl
  | true =>
    obtain ⟨z, -⟩ := gridsB_size hg
    obtain ⟨z1, z2, z3, z4, _⟩ := isSizeB_true.1 z
    have k1 : inK .i64 (s.W - 1) := inK64 (by omega) (by omega)
    simp only [Bool.not_true, br_f, gd_t k1, pS_AttrOk_eq, bd_s, br_ss, br_pp, pS_tabs_loop hf.t.1 hf.t.2, Bool.true_and]
    unfold scrRestB hasB
    have n1 : ∀ x : Int, decide (x < 0) = !decide (0 ≤ x) := fun x => by by_cases h : 0 ≤ x <;> simp [h] <;> omega
    have n2 : ∀ x : Int, decide (s.W ≤ x) = !decide (x ≤ s.W - 1) := fun x => by by_cases h : x ≤ s.W - 1 <;> simp [h] <;> omega
    have n3 : ∀ x : Int, decide (s.H ≤ x) = !decide (x ≤ s.H - 1) := fun x => by by_cases h : x ≤ s.H - 1 <;> simp [h] <;> omega
    have n4 : decide (s.Bot < s.Top) = !decide (s.Top ≤ s.Bot) := by by_cases h : s.Top ≤ s.Bot <;> simp [h] <;> omega
    have n5 : decide (s.Bot < s.H) = decide (s.Bot ≤ s.H - 1) := by by_cases h : s.Bot < s.H <;> simp [h] <;> omega
    have n6 : decide (100 < s.Limit) = !decide (s.Limit ≤ 100) := by by_cases h : s.Limit ≤ 100 <;> simp [h] <;> omega
    have n7 : decide (s.Limit < (s.Back.length : Int)) = !decide ((s.Back.length : Int) ≤ s.Limit) := by by_cases h : (s.Back.length : Int) ≤ s.Limit <;> simp [h] <;> omega
    simp only [n1, n2, n3, n4, n5, n6, n7, bne]
    generalize decide (0 ≤ s.X) = a1
    generalize decide (s.X ≤ s.W - 1) = a2
    generalize decide (0 ≤ s.Y) = a3
    generalize decide (s.Y ≤ s.H - 1) = a4
    generalize decide (0 ≤ s.SaveX) = a5
    generalize decide (s.SaveX ≤ s.W - 1) = a6
    generalize decide (0 ≤ s.SaveY) = a7
    generalize decide (s.SaveY ≤ s.H - 1) = a8
    generalize attrOkB s.A = b1
    generalize attrOkB s.SaveA = b2
    generalize (s.X == s.W - 1) = b3
    generalize (s.H == 1) = b4
    generalize (s.Top == s.Bot) = b5
    generalize decide (0 ≤ s.Top) = b6
    generalize decide (s.Top ≤ s.Bot) = b7
    generalize decide (s.Bot ≤ s.H - 1) = b8
    generalize decide (0 ≤ s.Limit) = b9
    generalize decide (s.Limit ≤ 100) = c1
    generalize decide ((s.Back.length : Int) ≤ s.Limit) = c2
    generalize ascB s.Tabs 0 (s.W - 1) = c3
    have e1 : (br (!a1) true (br (!a2) true (br (!a3) true (br (!a4) true (br s.Wrap (br (!b3) true (br (!a5) true (br (!a6) true (br (!a7) true (br (!a8) true (br (!b1) true (!b2))))))) (br (!a5) true (br (!a6) true (br (!a7) true (br (!a8) true (br (!b1) true (!b2)))))))))))
        = !(((a1 && a2) && (a3 && a4)) && (((a5 && a6) && (a7 && a8)) && ((!s.Wrap || b3) && (b1 && b2)))) := by
      generalize s.Wrap = w
      cases a1 <;> cases a2 <;> cases a3 <;> cases a4 <;> try rfl
      cases w <;> cases b3 <;> cases a5 <;> cases a6 <;> cases a7 <;> cases a8 <;> cases b1 <;> rfl
    rw [e1]
    generalize ((!s.Wrap || b3)) = w
    have e2 : (((a1 && a2) && (a3 && a4)) && (((a5 && a6) && (a7 && a8)) && (w && (b1 && (b2 && (b6 && (b7 && (b8 && ((!b5 || b4) && (c3 && ((b9 && c1) && (c2 && s.Back.all rowOkB)))))))))))) = ((((a1 && a2) && (a3 && a4)) && (((a5 && a6) && (a7 && a8)) && (w && (b1 && b2)))) && ((b6 && (b7 && (b8 && ((!b5 || b4) && (b9 && (c1 && c2)))))) && (c3 && s.Back.all rowOkB))) := by
      simp only [Bool.and_assoc]
      cases c3 <;> cases b9 <;> cases c1 <;> cases c2 <;> simp
    rw [e2]
    generalize (((a1 && a2) && (a3 && a4)) && (((a5 && a6) && (a7 && a8)) && (w && (b1 && b2)))) = m
    cases m; · rfl
    simp only [Bool.not_true, br_f, bd_s, br_ss, br_pp]
    have e3 : (br (!b6) true (br (!b8) true (br (!b7) true (br b5 (br (!b4) true (br (!b9) true (br (!c1) true (!c2)))) (br (!b9) true (br (!c1) true (!c2))))))) = !(b6 && (b7 && (b8 && ((!b5 || b4) && (b9 && (c1 && c2)))))) := by
      cases b6 <;> cases b8 <;> cases b7 <;> cases b5 <;> cases b4 <;> cases b9 <;> cases c1 <;> rfl
    rw [e3]
    generalize (b6 && (b7 && (b8 && ((!b5 || b4) && (b9 && (c1 && c2)))))) = m2
    cases m2; · rfl
    simp only [Bool.not_true, br_f, bd_s]
    cases c3; · rfl
    simp only [if_true, jn_l, pS_back_loop hf.b.1 hf.b.2 hf.r]
    cases s.Back.all rowOkB <;> rfl
end Go.Px
namespace Go.Px
theorem cmpN_eq {α β : Type} {l : List α} {x y : Option β} {r : β} (hy : y = some r) (hx : l = [] → x = some r) : cmpN l x y = some r := by
  unfold cmpN
  cases l with
  | nil => rw [hx rfl, hy]; simp
  | cons a l => simp [hy]
theorem clone_IProc {fuel : Nat} {l : List IProc} (h : roomB K.iProc l.length) : pG_slices_Clone_IProc fuel l = some l := by
  unfold pG_slices_Clone_IProc
  refine cmpN_eq (by rw [List.nil_append, gd_t h]) fun e => by rw [e]
theorem clone_IAsk {fuel : Nat} {l : List IAsk} (h : roomB K.iAsk l.length) : pG_slices_Clone_IAsk fuel l = some l := by
  unfold pG_slices_Clone_IAsk
  refine cmpN_eq (by rw [List.nil_append, gd_t h]) fun e => by rw [e]
theorem copyTable_I {fuel : Nat} {t : ITable} (h1 : roomB K.iProc t.Live.length) (h2 : roomB K.iAsk t.Asked.length) : pI_copyTable fuel t = some t := by
  unfold pI_copyTable
  rw [clone_IProc h1, bd_s, clone_IAsk h2, bd_s]
theorem copyTable_S {fuel : Nat} {t : ITable} (h1 : roomB K.iProc t.Live.length) (h2 : roomB K.iAsk t.Asked.length) : pS_l21Copy fuel t = some t := by
  unfold pS_l21Copy
  rw [List.nil_append, List.nil_append, gd_t h1, gd_t h2]
end Go.Px
namespace Go.Px
/-- Where the first of a pane lies: its place, or -1. -/
theorem procOf_eq {fuel : Nat} {t : ITable} {n : Int} (hl : t.Live.length ≤ 9223372036854775807) (hf : t.Live.length < fuel) :
    (∃ (i : Nat) (x : IProc), t.Live[i]? = some x ∧ (x.Pane == n) = true ∧ (∀ (j : Nat) y, j < i → t.Live[j]? = some y → (y.Pane == n) = false) ∧ pI_Table_procOf fuel t n = some (i : Int)) ∨ ((∀ x ∈ t.Live, (x.Pane == n) = false) ∧ pI_Table_procOf fuel t n = some (-1)) := by
  unfold pI_Table_procOf pG_slices_IndexFunc_IProc_I_Table_procOf_1
  rcases loopF_find (B := pG_slices_IndexFunc_IProc_I_Table_procOf_1_b1 fuel) (fun i => (n, t.Live, (t.Live.length : Int), (i : Int))) t.Live (fun x => x.Pane == n) (fun i => .inr ((i : Int), n)) (.inl n) (fuel := fuel) (v := (n, t.Live, (t.Live.length : Int), 0)) rfl (fun i x hx => by
    obtain ⟨h1, h2, h3, h4, h5⟩ := idx_facts hx hl
    unfold pG_slices_IndexFunc_IProc_I_Table_procOf_1_b1 pI_Table_procOf_1
    simp only [h1, br_t, gd_t h2, h3, bd_s, h5, gd_t h4]
    cases x.Pane == n <;> rfl) (by
    unfold pG_slices_IndexFunc_IProc_I_Table_procOf_1_b1
    simp) hf with ⟨i, x, h1, h2, h4, h3⟩ | ⟨h1, h2⟩
  · exact .inl ⟨i, x, h1, h2, h4, by rw [h3]; rfl⟩
  · exact .inr ⟨h1, by rw [h2]; rfl⟩
theorem hasInt_eq {fuel : Nat} {l : List Int} {n : Int} (hl : l.length ≤ 9223372036854775807) (hf : l.length < fuel) : pS_l02HasInt fuel l n = some (l.any fun x => x == n) := by
  have h := loopF_any (B := pS_l02HasInt_b1 fuel) (fun i => (n, l, (l.length : Int), (i : Int))) l (fun x => x == n) (.inr true) (.inl ()) (v := (n, l, (l.length : Int), 0)) rfl (fun i x hx => by
    obtain ⟨h1, h2, h3, h4, h5⟩ := idx_facts hx hl
    unfold pS_l02HasInt_b1
    simp only [h1, br_t, gd_t h2, h3, bd_s, h5, gd_t h4]
    cases x == n <;> rfl) (by
    unfold pS_l02HasInt_b1
    simp) hf
  unfold pS_l02HasInt
  rw [h]
  cases l.any fun x => x == n <;> rfl
end Go.Px
namespace Go.Px
/-! ### The parser's arguments -/
def argB (x : Int) : Bool := decide (0 ≤ x) && decide (x ≤ 9999)
theorem areArgs_loop (fuel : Nat) (l : List Int) (hl : l.length ≤ 9223372036854775807) (hf : l.length < fuel) : ∃ n : Int, pG_slices_IndexFunc_int_I_areArgs_1 fuel l = some n ∧ (decide (0 ≤ n) = l.any fun x => !argB x) := by
  unfold pG_slices_IndexFunc_int_I_areArgs_1
  rcases loopF_find (B := pG_slices_IndexFunc_int_I_areArgs_1_b1 fuel) (fun i => (l, (l.length : Int), (i : Int))) l (fun x => !argB x) (fun i => .inr (i : Int)) (.inl ()) (fuel := fuel) (v := (l, (l.length : Int), 0)) rfl (fun i x hx => by
    obtain ⟨h1, h2, h3, h4, h5⟩ := idx_facts hx hl
    unfold pG_slices_IndexFunc_int_I_areArgs_1_b1 pI_areArgs_1 argB
    simp only [h1, br_t, gd_t h2, h3, bd_s, pI_within_eq, h5, gd_t h4]
    cases (decide (0 ≤ x) && decide (x ≤ 9999)) <;> rfl) (by
    unfold pG_slices_IndexFunc_int_I_areArgs_1_b1
    simp) hf with ⟨i, x, h1, h2, _, h3⟩ | ⟨h1, h2⟩
  · refine ⟨i, by rw [h3]; rfl, ?_⟩
    have : (l.any fun x => !argB x) = true := List.any_eq_true.2 ⟨x, List.mem_of_getElem? h1, h2⟩
    rw [this]; simp
  · refine ⟨-1, by rw [h2]; rfl, ?_⟩
    have : (l.any fun x => !argB x) = false := List.any_eq_false.2 fun x hx => by rw [h1 x hx]; simp
    rw [this]; rfl
theorem pI_areArgs_eq {fuel : Nat} {l : List Int} (hl : l.length ≤ 9223372036854775807) (hf : l.length < fuel) : pI_areArgs fuel l = some (decide ((l.length : Int) ≤ 8) && l.all argB) := by
  obtain ⟨n, h1, h2⟩ := areArgs_loop fuel l hl hf
  unfold pI_areArgs pG_slices_ContainsFunc_int_I_areArgs_1
  simp only [h1, bd_s, h2]
  rw [List.all_eq_not_any_not]
  cases decide ((l.length : Int) ≤ 8) <;> simp
theorem pS_args_loop {fuel : Nat} {s : IVp} (hl : s.Args.length ≤ 9223372036854775807) (hf : s.Args.length < fuel) : loopF (pS_VpOk_b1 fuel) fuel (s, s.Args, (s.Args.length : Int), 0) = some (if s.Args.all argB then .inl s else .inr false) := by
  refine (loopF_any (B := pS_VpOk_b1 fuel) (fun i => (s, s.Args, (s.Args.length : Int), (i : Int))) s.Args (fun x => !argB x) (.inr false) (.inl s) (v := (s, s.Args, (s.Args.length : Int), 0)) rfl (fun i x hx => by
    obtain ⟨h1, h2, h3, h4, h5⟩ := idx_facts hx hl
    unfold pS_VpOk_b1 argB
    simp only [h1, br_t, gd_t h2, h3, bd_s, br_ss, br_pp]
    by_cases w1 : x < 0
    · simp [w1, show ¬ 0 ≤ x by omega]
    by_cases w2 : 9999 < x
    · simp [w1, w2, show ¬ x ≤ 9999 by omega]
    simp only [w1, w2, decide_false, br_f, h5, gd_t h4]
    simp [show 0 ≤ x by omega, show x ≤ 9999 by omega]) (by
    unfold pS_VpOk_b1
    simp) hf).trans ?_
  rw [List.all_eq_not_any_not]
  cases s.Args.any fun x => !argB x <;> rfl
end Go.Px
namespace Go.Px
/-- The parser's check; b: whether the part is the beginning of a rune. -/
def vpOkB (s : IVp) (b : Bool) : Bool :=
  if s.State = 0 then !s.Mark && (((s.Args.length : Int) == 0) && (((s.Part.length : Int) == 0) || b))
  else if s.State = 1 then !s.Mark && (((s.Args.length : Int) == 0) && ((s.Part.length : Int) == 0))
  else if s.State = 2 ∨ s.State = 3 then (decide ((s.Args.length : Int) ≤ 8) && s.Args.all argB) && ((s.Part.length : Int) == 0)
  else false
theorem pI_VpOk_eq {fuel : Nat} {s : IVp} {b : Bool} (hl : s.Args.length ≤ 9223372036854775807) (hf : s.Args.length < fuel) (hb : pI_RuneBegin fuel s.Part = some b) : pI_VpOk fuel s = some (vpOkB s b) := by
  unfold pI_VpOk vpOkB
  simp only [hb, pI_areArgs_eq hl hf, bd_s, br_ss, br_pp]
  by_cases h0 : s.State = 0
  · simp only [h0, if_true]
    cases s.Mark <;> cases ((s.Args.length : Int) == 0) <;> cases ((s.Part.length : Int) == 0) <;> cases b <;> rfl
  by_cases h1 : s.State = 1
  · simp only [h1]
    cases s.Mark <;> cases ((s.Args.length : Int) == 0) <;> cases ((s.Part.length : Int) == 0) <;> rfl
  by_cases h2 : s.State = 2
  · simp only [h2]
    generalize (decide ((s.Args.length : Int) ≤ 8) && s.Args.all argB) = c
    cases c <;> cases ((s.Part.length : Int) == 0) <;> rfl
  by_cases h3 : s.State = 3
  · simp only [h3]
    generalize (decide ((s.Args.length : Int) ≤ 8) && s.Args.all argB) = c
    cases c <;> cases ((s.Part.length : Int) == 0) <;> rfl
  · have e0 : (s.State == 0) = false := by simp [h0]
    have e1 : (s.State == 1) = false := by simp [h1]
    have e2 : (s.State == 2) = false := by simp [h2]
    have e3 : (s.State == 3) = false := by simp [h3]
    simp [e0, e1, e2, e3, h0, h1, h2, h3]
end Go.Px
namespace Go.Px
theorem pS_VpOk_eq {fuel : Nat} {s : IVp} {b : Bool} (hl : s.Args.length ≤ 9223372036854775807) (hf : s.Args.length < fuel) (hb : pS_RuneBegin fuel s.Part = some b) : pS_VpOk fuel s = some (vpOkB s b) := by
  unfold pS_VpOk vpOkB pS_l08Keeps
  simp only [hb, bd_s, br_ss, br_pp]
  by_cases a0 : s.State < 0
  · simp [a0, show ¬ s.State = 0 by omega, show ¬ s.State = 1 by omega, show ¬ s.State = 2 by omega, show ¬ s.State = 3 by omega]
  by_cases a3 : 3 < s.State
  · simp [a0, a3, show ¬ s.State = 0 by omega, show ¬ s.State = 1 by omega, show ¬ s.State = 2 by omega, show ¬ s.State = 3 by omega]
  have hn : decide (0 < (s.Args.length : Int)) = !((s.Args.length : Int) == 0) := by
    cases hs : s.Args <;> simp
    omega
  have h8 : decide (8 < (s.Args.length : Int)) = !decide ((s.Args.length : Int) ≤ 8) := by by_cases h : (s.Args.length : Int) ≤ 8 <;> simp [h] <;> omega
  rw [hn, h8]
  have he : ((s.Args.length : Int) == 0) = true → s.Args.all argB = true ∧ decide ((s.Args.length : Int) ≤ 8) = true := fun h => by
    have : s.Args = [] := by
      cases hs : s.Args with
      | nil => rfl
      | cons a l => rw [hs] at h; simp at h; omega
    rw [this]; simp
  have hc : s.State = 0 ∨ s.State = 1 ∨ s.State = 2 ∨ s.State = 3 := by omega
  simp only [a0, a3, decide_false, br_f, br_ss, br_pp, bd_s, pS_args_loop hl hf]
  cases hL : ((s.Args.length : Int) == 0) with
  | true =>
    obtain ⟨e1, e2⟩ := he hL
    rw [e1, e2]
    rcases hc with h | h | h | h <;> simp only [h] <;> cases s.Mark <;> cases hp : ((s.Part.length : Int) == 0) <;> cases b <;> simp [pS_args_loop hl hf, e1, h, hp, hb]
  | false =>
    rcases hc with h | h | h | h <;> simp only [h] <;> cases s.Mark <;> cases hp : ((s.Part.length : Int) == 0) <;> cases hz : decide ((s.Args.length : Int) ≤ 8) <;> cases hy : s.Args.all argB <;> simp [pS_args_loop hl hf, hy, h, hp, hb]
end Go.Px
namespace Go.Px
def termOkB (x : ITerm) (b : Bool) : Bool := vpOkB x.P b && scrOkB x.S
theorem pI_TermOk_eq {fuel : Nat} {x : ITerm} {b : Bool} (hl : x.P.Args.length ≤ 9223372036854775807) (hf : x.P.Args.length < fuel) (hs : ScrF fuel x.S) (hb : pI_RuneBegin fuel x.P.Part = some b) : pI_TermOk fuel x = some (termOkB x b) := by
  unfold pI_TermOk termOkB
  rw [pI_VpOk_eq hl hf hb, bd_s, pI_ScrOk_eq hs, bd_s]
  cases vpOkB x.P b <;> rfl
theorem pS_TermOk_eq {fuel : Nat} {x : ITerm} {b : Bool} (hl : x.P.Args.length ≤ 9223372036854775807) (hf : x.P.Args.length < fuel) (hs : ScrF fuel x.S) (hb : pS_RuneBegin fuel x.P.Part = some b) : pS_TermOk fuel x = some (termOkB x b) := by
  unfold pS_TermOk termOkB
  rw [pS_VpOk_eq hl hf hb, bd_s, pS_ScrOk_eq hs, bd_s]
  cases vpOkB x.P b <;> rfl
end Go.Px
namespace Go.Px
def lifeB (x : IPane) : Bool :=
  if x.Life = 1 then (decide (1 ≤ x.Pid) && decide (x.Pid ≤ 1000000)) && (x.Code == 0)
  else if x.Life = 2 then (x.Pid == 0) && (decide (0 ≤ x.Code) && decide (x.Code ≤ 255))
  else if x.Life = 3 then (x.Pid == 0) && (x.Code == 0) else false
def paneOkB (x : IPane) (b : Bool) : Bool := (decide (1 ≤ x.Id) && decide (x.Id ≤ 1000000)) && (decide ((x.Cmd.size : Int) ≤ 60) && (decide ((x.Dir.size : Int) ≤ 60) && (termOkB x.Term b && lifeB x)))
theorem pI_PaneOk_eq {fuel : Nat} {x : IPane} {b : Bool} (ht : pI_TermOk fuel x.Term = some (termOkB x.Term b)) : pI_PaneOk fuel x = some (paneOkB x b) := by
  unfold pI_PaneOk paneOkB lifeB
  simp only [pI_isId_eq, pI_isCmd_eq, ht, bd_s, br_ss, br_pp, pI_within_eq]
  cases (decide (1 ≤ x.Id) && decide (x.Id ≤ 1000000)) <;> cases decide ((x.Cmd.size : Int) ≤ 60) <;> cases decide ((x.Dir.size : Int) ≤ 60) <;> cases termOkB x.Term b <;> try rfl
  by_cases h1 : x.Life = 1
  · simp only [h1]
    cases (decide (1 ≤ x.Pid) && decide (x.Pid ≤ 1000000)) <;> rfl
  by_cases h2 : x.Life = 2
  · simp only [h2]
    cases (decide (0 ≤ x.Code) && decide (x.Code ≤ 255)) <;> cases (x.Pid == 0) <;> rfl
  by_cases h3 : x.Life = 3
  · simp only [h3]
    cases (x.Code == 0) <;> cases (x.Pid == 0) <;> rfl
  · have e1 : (x.Life == 1) = false := by simp [h1]
    have e2 : (x.Life == 2) = false := by simp [h2]
    have e3 : (x.Life == 3) = false := by simp [h3]
    simp [e1, e2, e3, h1, h2, h3]
theorem pS_PaneOk_eq {fuel : Nat} {x : IPane} {b : Bool} (ht : pS_TermOk fuel x.Term = some (termOkB x.Term b)) : pS_PaneOk fuel x = some (paneOkB x b) := by
  unfold pS_PaneOk paneOkB lifeB
  have n1 : decide (x.Id < 1) = !decide (1 ≤ x.Id) := by by_cases h : 1 ≤ x.Id <;> simp [h] <;> omega
  have n2 : decide (1000000 < x.Id) = !decide (x.Id ≤ 1000000) := by by_cases h : x.Id ≤ 1000000 <;> simp [h] <;> omega
  have n3 : decide (60 < (x.Cmd.size : Int)) = !decide ((x.Cmd.size : Int) ≤ 60) := by by_cases h : (x.Cmd.size : Int) ≤ 60 <;> simp [h] <;> omega
  have n4 : decide (60 < (x.Dir.size : Int)) = !decide ((x.Dir.size : Int) ≤ 60) := by by_cases h : (x.Dir.size : Int) ≤ 60 <;> simp [h] <;> omega
  simp only [n1, n2, n3, n4, ht, bd_s, br_ss, br_pp]
  cases decide (1 ≤ x.Id) <;> cases decide (x.Id ≤ 1000000) <;> cases decide ((x.Cmd.size : Int) ≤ 60) <;> cases decide ((x.Dir.size : Int) ≤ 60) <;> cases termOkB x.Term b <;> try rfl
  by_cases h1 : x.Life = 1
  · simp only [h1]
    cases decide (1 ≤ x.Pid) <;> cases decide (x.Pid ≤ 1000000) <;> rfl
  by_cases h2 : x.Life = 2
  · simp only [h2]
    cases decide (0 ≤ x.Code) <;> cases decide (x.Code ≤ 255) <;> cases (x.Pid == 0) <;> rfl
  by_cases h3 : x.Life = 3
  · simp only [h3]
    cases (x.Code == 0) <;> cases (x.Pid == 0) <;> rfl
  · have e1 : (x.Life == 1) = false := by simp [h1]
    have e2 : (x.Life == 2) = false := by simp [h2]
    have e3 : (x.Life == 3) = false := by simp [h3]
    simp [e1, e2, e3, h1, h2, h3]
end Go.Px
namespace Go.Px
/-! ### Runes and their bytes -/
def runeBytes (r : Int) : List UInt8 :=
  if showsB r then (if r < 128 then [UInt8.ofNat r.toNat] else if r < 2048 then [UInt8.ofNat (192 + r / 64).toNat, UInt8.ofNat (128 + r % 64).toNat]
    else [UInt8.ofNat (224 + r / 4096).toNat, UInt8.ofNat (128 + r / 64 % 64).toNat, UInt8.ofNat (128 + r % 64).toNat]) else []
theorem showsB_iff (r : Int) : showsB r = true ↔ (32 ≤ r ∧ r ≤ 126) ∨ (160 ≤ r ∧ r ≤ 65535 ∧ (r < 55296 ∨ 57343 < r)) := by
  unfold showsB
  simp only [Bool.or_eq_true, Bool.and_eq_true, decide_eq_true_eq, Bool.not_eq_true', Bool.and_eq_false_iff, decide_eq_false_iff_not]
  omega
theorem u8wrap {v : Int} (h1 : 0 ≤ v) (h2 : v ≤ 255) : IntKind.u8.wrap v = v := by
  show v % 256 = v
  omega
theorem pS_RuneBytes_eq (fuel : Nat) (r : Int) : pS_RuneBytes fuel r = some (runeBytes r) := by
  unfold pS_RuneBytes runeBytes
  simp only [pS_Shows_eq, bd_s]
  cases hs : showsB r with
  | false => rfl
  | true =>
    have h := (showsB_iff r).1 hs
    have e1 : r.tdiv 64 = r / 64 := Int.tdiv_eq_ediv_of_nonneg (by omega)
    have e2 : r.tmod 64 = r % 64 := Int.tmod_eq_emod_of_nonneg (by omega)
    have e3 : r.tdiv 4096 = r / 4096 := Int.tdiv_eq_ediv_of_nonneg (by omega)
    have e4 : (r / 64).tmod 64 = r / 64 % 64 := Int.tmod_eq_emod_of_nonneg (by omega)
    simp only [Bool.not_true, br_f, if_true, e1, e2, e3, e4]
    by_cases h1 : r < 128
    · rw [decide_eq_true h1, br_t, if_pos h1, u8wrap (by omega) (by omega)]
    rw [decide_eq_false h1, br_f, if_neg h1]
    by_cases h2 : r < 2048
    · rw [decide_eq_true h2, br_t, if_pos h2, gd_t (by omega), gd_t (inK64 (by omega) (by omega)), gd_t (inK64 (by omega) (by omega)), gd_t (by omega), gd_t (inK64 (by omega) (by omega)), u8wrap (by omega) (by omega), u8wrap (by omega) (by omega)]
    rw [decide_eq_false h2, br_f, if_neg h2, gd_t (by omega), gd_t (inK64 (by omega) (by omega)), gd_t (inK64 (by omega) (by omega)), gd_t (by omega), gd_t (inK64 (by omega) (by omega)), gd_t (by omega), gd_t (inK64 (by omega) (by omega)), gd_t (by omega), gd_t (inK64 (by omega) (by omega)), u8wrap (by omega) (by omega), u8wrap (by omega) (by omega), u8wrap (by omega) (by omega)]
/-- The rune at the head of some bytes, and its size: the sizes one after the other. -/
def run1 (x : UInt8) : Int := x.toNat
def run2 (x y : UInt8) : Int := (x.toNat - 192) * 64 + y.toNat - 128
def run3 (x y z : UInt8) : Int := (((x.toNat : Int) - 224) * 64 + y.toNat - 128) * 64 + z.toNat - 128
def runeRead : List UInt8 → Int × Int
  | [] => (0, 0)
  | x :: t => if runeBytes (run1 x) = [x] then (run1 x, 1) else match t with
    | [] => (0, 0)
    | y :: t => if runeBytes (run2 x y) = [x, y] then (run2 x y, 2) else match t with
      | [] => (0, 0)
      | z :: _ => if runeBytes (run3 x y z) = [x, y, z] then (run3 x y z, 3) else (0, 0)
theorem u8_lt (x : UInt8) : (x.toNat : Int) < 256 := by
  have := x.toNat_lt
  omega
theorem ofNat_eq {n : Nat} {x : UInt8} (h : n < 256) : UInt8.ofNat n = x ↔ n = x.toNat := by
  constructor
  · rintro rfl
    exact (UInt8.toNat_ofNat_of_lt' h).symm
  · rintro rfl
    exact UInt8.ofNat_toNat
theorem run1_iff (x : UInt8) : runeBytes (run1 x) = [x] ↔ 32 ≤ x.toNat ∧ x.toNat ≤ 126 := by
  have hx := u8_lt x
  unfold runeBytes run1
  cases hs : showsB x.toNat with
  | false =>
    have := (not_congr (showsB_iff x.toNat)).1 (by rw [hs]; simp)
    simp
    omega
  | true =>
    have := (showsB_iff x.toNat).1 hs
    by_cases h1 : (x.toNat : Int) < 128
    · simp [h1]; omega
    · simp [h1]
      split <;> simp <;> omega
theorem run2_iff (x y : UInt8) : runeBytes (run2 x y) = [x, y] ↔ 194 ≤ x.toNat ∧ x.toNat ≤ 223 ∧ 128 ≤ y.toNat ∧ y.toNat ≤ 191 ∧ (x.toNat = 194 → 160 ≤ y.toNat) := by
  have hx := u8_lt x
  have hy := u8_lt y
  unfold runeBytes run2
  generalize hr : (x.toNat - 192 : Int) * 64 + y.toNat - 128 = r
  cases hs : showsB r with
  | false =>
    have := (not_congr (showsB_iff r)).1 (by rw [hs]; simp)
    simp
    omega
  | true =>
    have := (showsB_iff r).1 hs
    by_cases h1 : r < 128
    · simp [h1]; omega
    by_cases h2 : r < 2048
    · simp only [h1, h2, if_true, if_false, List.cons.injEq, and_true]
      rw [ofNat_eq (by omega), ofNat_eq (by omega)]
      omega
    · simp [h1, h2]; omega
theorem run3_iff (x y z : UInt8) : runeBytes (run3 x y z) = [x, y, z] ↔ 224 ≤ x.toNat ∧ x.toNat ≤ 239 ∧ 128 ≤ y.toNat ∧ y.toNat ≤ 191 ∧ 128 ≤ z.toNat ∧ z.toNat ≤ 191 ∧ (x.toNat = 224 → 160 ≤ y.toNat) ∧ (x.toNat = 237 → y.toNat < 160) := by
  have hx := u8_lt x
  have hy := u8_lt y
  have hz := u8_lt z
  unfold runeBytes run3
  generalize hr : (((x.toNat : Int) - 224) * 64 + y.toNat - 128) * 64 + z.toNat - 128 = r
  cases hs : showsB r with
  | false =>
    have := (not_congr (showsB_iff r)).1 (by rw [hs]; simp)
    simp
    omega
  | true =>
    have := (showsB_iff r).1 hs
    by_cases h1 : r < 128
    · simp [h1]; omega
    by_cases h2 : r < 2048
    · simp [h1, h2]; omega
    · simp only [h1, h2, if_true, if_false, List.cons.injEq, and_true]
      rw [ofNat_eq (by omega), ofNat_eq (by omega), ofNat_eq (by omega)]
      omega
end Go.Px
namespace Go.Px
theorem inK_i64 {v : Int} (h1 : -9223372036854775808 ≤ v) (h2 : v ≤ 9223372036854775807) : inK .i64 v := (wrap_iff .i64 v).2 ⟨h1, h2⟩
theorem gd_i64 {β : Type} {v : Int} {x : Option β} (h1 : -9223372036854775808 ≤ v) (h2 : v ≤ 9223372036854775807) : gd (inK .i64 v) x = x := gd_t (inK_i64 h1 h2) x
theorem gd_ix {β : Type} {a b : Int} {x : Option β} (h1 : 0 ≤ a) (h2 : a < b) : gd (0 ≤ a ∧ a < b) x = x := gd_t ⟨h1, h2⟩ x
theorem gd_ixe {β : Type} {a b : Int} {x : Option β} (h1 : 0 ≤ a) (h2 : a ≤ b) : gd (0 ≤ a ∧ a ≤ b) x = x := gd_t ⟨h1, h2⟩ x
theorem ba_eq {a b : List UInt8} : (ByteArray.mk a.toArray = ByteArray.mk b.toArray) ↔ a = b := by
  constructor
  · intro h
    have := congrArg (fun x => x.data.toList) h
    simpa using this
  · rintro rfl; rfl
/-- The inner loop: the bytes behind the first. -/
theorem rr_inner1 (F : Nat) (l : List UInt8) (r : Int) : loopF (pS_RuneRead_b2 F) (F + 1) (l, 0, 1, r, 1) = some (l, 0, 1, r) := by
  simp [loopF, pS_RuneRead_b2, br]
theorem rr_step (F : Nat) (l : List UInt8) (n r i : Int) (y : UInt8) (hi : 0 ≤ i) (hin : i < n) (hn : n ≤ 3) (hy : l[i.toNat]? = some y) (h1 : -100000 ≤ r) (h2 : r ≤ 100000) : pS_RuneRead_b2 F (l, 0, n, r, i) = some (.inl (l, 0, n, r * 64 + y.toNat - 128, i + 1)) := by
  have hy8 := u8_lt y
  have hl := (List.getElem?_eq_some_iff.1 hy).1
  unfold pS_RuneRead_b2
  simp only [Int.zero_add, decide_eq_true hin, br_t, hy, bd_s]
  rw [gd_i64 (by omega) (by omega), gd_i64 (by omega) (by omega), gd_ix (by omega) (by omega), gd_i64 (by omega) (by omega), gd_i64 (by omega) (by omega), gd_i64 (by omega) (by omega)]
theorem rr_end (F : Nat) (l : List UInt8) (n r : Int) : pS_RuneRead_b2 F (l, 0, n, r, n) = some (.inr (l, 0, n, r)) := by
  simp [pS_RuneRead_b2, br]
theorem rr_inner2 (F : Nat) (x y : UInt8) (t : List UInt8) {r : Int} (h1 : -1000 ≤ r) (h2 : r ≤ 1000) : loopF (pS_RuneRead_b2 F) (F + 2) (x :: y :: t, 0, 2, r, 1) = some (x :: y :: t, 0, 2, r * 64 + y.toNat - 128) := by
  rw [loopF, rr_step F _ 2 r 1 y (by omega) (by omega) (by omega) rfl (by omega) (by omega)]
  simp only [loopF]
  rw [show (1 : Int) + 1 = 2 from rfl, rr_end]
theorem rr_inner3 (F : Nat) (x y z : UInt8) (t : List UInt8) {r : Int} (h1 : -1000 ≤ r) (h2 : r ≤ 1000) : loopF (pS_RuneRead_b2 F) (F + 3) (x :: y :: z :: t, 0, 3, r, 1) = some (x :: y :: z :: t, 0, 3, (r * 64 + y.toNat - 128) * 64 + z.toNat - 128) := by
  have hy8 := u8_lt y
  rw [loopF, rr_step F _ 3 r 1 y (by omega) (by omega) (by omega) rfl (by omega) (by omega)]
  simp only [loopF]
  rw [show (1 : Int) + 1 = 2 from rfl, rr_step F _ 3 _ 2 z (by omega) (by omega) (by omega) rfl (by omega) (by omega)]
  simp only
  rw [show (2 : Int) + 1 = 3 from rfl, rr_end]
/-- The outer loop: are the first n bytes some rune's? -/
theorem rr_outer (F : Nat) (l : List UInt8) (n : Nat) (x : UInt8) (b r : Int) (h1 : 1 ≤ n) (h3 : n ≤ 3) (hn : n ≤ l.length) (hl : l.length ≤ 1000) (hx : l[0]? = some x) (hb : ([0, 0, 192, 224] : List Int)[n]? = some b) (hin : loopF (pS_RuneRead_b2 F) F (l, 0, (n : Int), (x.toNat : Int) - b, 1) = some (l, 0, (n : Int), r)) :
    pS_RuneRead_b1 F (l, 0, (n : Int)) = if runeBytes r = l.take n then some (.inr (.inr (r, (n : Int)))) else some (.inl (l, 0, (n : Int) + 1)) := by
  have hx8 := u8_lt x
  have hbb : 0 ≤ b ∧ b ≤ 224 := by
    match n, hb with
    | 1, hb => have e : some (0 : Int) = some b := hb; cases e; omega
    | 2, hb => have e : some (192 : Int) = some b := hb; cases e; omega
    | 3, hb => have e : some (224 : Int) = some b := hb; cases e; omega
    | 0, _ => omega
    | n + 4, _ => omega
  unfold pS_RuneRead_b1
  simp only [decide_eq_true (show (n : Int) ≤ 3 by omega), br_t]
  rw [gd_i64 (by omega) (by omega)]
  simp only [bd_s, decide_eq_true (show (n : Int) ≤ (l.length : Int) - 0 by omega), br_t]
  rw [gd_ix (by omega) (by omega)]
  rw [show ((0 : Int).toNat) = 0 from rfl, hx]
  simp only [bd_s]
  rw [gd_ix (by omega) (by show (n : Int) < ((4 : Nat) : Int); omega), show (0 + (n : Int).toNat) = n by omega, hb]
  simp only [bd_s]
  rw [gd_i64 (by omega) (by omega), hin]
  simp only [bd_s, pS_RuneBytes_eq]
  by_cases hlen : (runeBytes r).length = n
  · have e : ((runeBytes r).length : Int) == (n : Int) := by simp [hlen]
    simp only [e, br_t]
    rw [gd_i64 (by omega) (by omega), gd_ixe (by omega) (by omega), gd_ixe (by omega) (by simp)]
    simp only [bd_s, show (0 + (n : Int)).toNat = n by omega, show ((0 : Int).toNat) = 0 from rfl, List.drop_zero, ba_eq]
    by_cases he : runeBytes r = l.take n
    · simp only [he, decide_true, br_t, if_true]
    · simp only [he, decide_false, br_f, if_false]
      rw [gd_i64 (by omega) (by omega)]
  · have e : (((runeBytes r).length : Int) == (n : Int)) = false := by simp; omega
    have he : runeBytes r ≠ l.take n := fun e => hlen (by rw [e, List.length_take]; omega)
    simp only [e, br_f, bd_s, he, if_false]
    rw [gd_i64 (by omega) (by omega)]
end Go.Px
namespace Go.Px
theorem rr_stop (F : Nat) (l : List UInt8) (n : Nat) (hn : l.length < n) (h4 : n ≤ 4) : pS_RuneRead_b1 F (l, 0, (n : Int)) = some (.inr (.inl ())) := by
  unfold pS_RuneRead_b1
  by_cases h : n ≤ 3
  · simp only [decide_eq_true (show (n : Int) ≤ 3 by omega), br_t]
    rw [gd_i64 (by omega) (by omega)]
    simp only [bd_s, decide_eq_false (show ¬ (n : Int) ≤ (l.length : Int) - 0 by omega), br_f]
  · simp only [decide_eq_false (show ¬ (n : Int) ≤ 3 by omega), br_f, bd_s]
theorem rr_outer' (F : Nat) (l : List UInt8) (n : Nat) (x : UInt8) (b r : Int) (h1 : 1 ≤ n) (h3 : n ≤ 3) (hn : n ≤ l.length) (hl : l.length ≤ 1000) (hx : l[0]? = some x) (hb : ([0, 0, 192, 224] : List Int)[n]? = some b) (hin : loopF (pS_RuneRead_b2 F) F (l, 0, (n : Int), (x.toNat : Int) - b, 1) = some (l, 0, (n : Int), r)) :
    (runeBytes r = l.take n → pS_RuneRead_b1 F (l, 0, (n : Int)) = some (.inr (.inr (r, (n : Int))))) ∧ (runeBytes r ≠ l.take n → pS_RuneRead_b1 F (l, 0, (n : Int)) = some (.inl (l, 0, (n : Int) + 1))) := by
  have h := rr_outer F l n x b r h1 h3 hn hl hx hb hin
  exact ⟨fun e => by rw [h, if_pos e], fun e => by rw [h, if_neg e]⟩
theorem rr_one (F : Nat) (x : UInt8) (t : List UInt8) (hl : t.length ≤ 100) : (runeBytes (run1 x) = [x] → pS_RuneRead_b1 (F + 3) (x :: t, 0, 1) = some (.inr (.inr (run1 x, 1)))) ∧ (runeBytes (run1 x) ≠ [x] → pS_RuneRead_b1 (F + 3) (x :: t, 0, 1) = some (.inl (x :: t, 0, 2))) :=
  rr_outer' (F + 3) (x :: t) 1 x 0 (run1 x) (by omega) (by omega) (by simp) (by simp; omega) rfl rfl (by
    rw [show ((x.toNat : Int) - 0) = run1 x by unfold run1; omega]
    exact rr_inner1 (F + 2) (x :: t) (run1 x))
theorem rr_two (F : Nat) (x y : UInt8) (t : List UInt8) (hl : t.length ≤ 100) : (runeBytes (run2 x y) = [x, y] → pS_RuneRead_b1 (F + 3) (x :: y :: t, 0, 2) = some (.inr (.inr (run2 x y, 2)))) ∧ (runeBytes (run2 x y) ≠ [x, y] → pS_RuneRead_b1 (F + 3) (x :: y :: t, 0, 2) = some (.inl (x :: y :: t, 0, 3))) := by
  have hx := u8_lt x
  exact rr_outer' (F + 3) (x :: y :: t) 2 x 192 (run2 x y) (by omega) (by omega) (by simp) (by simp; omega) rfl rfl (rr_inner2 (F + 1) x y t (by omega) (by omega))
theorem rr_three (F : Nat) (x y z : UInt8) (t : List UInt8) (hl : t.length ≤ 100) : (runeBytes (run3 x y z) = [x, y, z] → pS_RuneRead_b1 (F + 3) (x :: y :: z :: t, 0, 3) = some (.inr (.inr (run3 x y z, 3)))) ∧ (runeBytes (run3 x y z) ≠ [x, y, z] → pS_RuneRead_b1 (F + 3) (x :: y :: z :: t, 0, 3) = some (.inl (x :: y :: z :: t, 0, 4))) := by
  have hx := u8_lt x
  exact rr_outer' (F + 3) (x :: y :: z :: t) 3 x 224 (run3 x y z) (by omega) (by omega) (by simp) (by simp; omega) rfl rfl (rr_inner3 F x y z t (by omega) (by omega))
theorem pS_RuneRead_eq (F : Nat) (l : List UInt8) (h1 : 1 ≤ l.length) (h3 : l.length ≤ 100) : pS_RuneRead (F + 5) l 0 = some (runeRead l) := by
  unfold pS_RuneRead
  simp only [decide_eq_false (show ¬ (0 : Int) < 0 by omega), br_f, bd_s, decide_eq_false (show ¬ (l.length : Int) ≤ 0 by omega)]
  match l, h1 with
  | x :: t, _ =>
    have ht : t.length ≤ 100 := by simp at h3; omega
    rw [loopF]
    by_cases c1 : runeBytes (run1 x) = [x]
    · rw [(rr_one (F + 2) x t ht).1 c1, show runeRead (x :: t) = (run1 x, 1) by simp only [runeRead]; exact if_pos c1]; rfl
    rw [(rr_one (F + 2) x t ht).2 c1]
    simp only
    match t, ht with
    | [], _ =>
      rw [loopF, show (2 : Int) = ((2 : Nat) : Int) from rfl, rr_stop _ _ 2 (by simp) (by omega), show runeRead [x] = (0, 0) by simp only [runeRead]; exact if_neg c1]
      rfl
    | y :: t, ht =>
      have ht' : t.length ≤ 100 := by simp at ht; omega
      rw [loopF]
      by_cases c2 : runeBytes (run2 x y) = [x, y]
      · rw [(rr_two (F + 2) x y t ht').1 c2, show runeRead (x :: y :: t) = (run2 x y, 2) by simp only [runeRead]; rw [if_neg c1]; exact if_pos c2]; rfl
      rw [(rr_two (F + 2) x y t ht').2 c2]
      simp only
      match t, ht' with
      | [], _ =>
        rw [loopF, show (3 : Int) = ((3 : Nat) : Int) from rfl, rr_stop _ _ 3 (by simp) (by omega), show runeRead [x, y] = (0, 0) by simp only [runeRead]; rw [if_neg c1]; exact if_neg c2]
        rfl
      | z :: t, ht' =>
        have ht'' : t.length ≤ 100 := by simp at ht'; omega
        rw [loopF]
        by_cases c3 : runeBytes (run3 x y z) = [x, y, z]
        · rw [(rr_three (F + 2) x y z t ht'').1 c3, show runeRead (x :: y :: z :: t) = (run3 x y z, 3) by simp only [runeRead]; rw [if_neg c1, if_neg c2]; exact if_pos c3]; rfl
        rw [(rr_three (F + 2) x y z t ht'').2 c3, show runeRead (x :: y :: z :: t) = (0, 0) by simp only [runeRead]; rw [if_neg c1, if_neg c2]; exact if_neg c3]
        simp only
        have : pS_RuneRead_b1 (F + 5) (x :: y :: z :: t, 0, 4) = some (.inr (.inl ())) := by
          unfold pS_RuneRead_b1
          simp only [decide_eq_false (show ¬ (4 : Int) ≤ 3 by omega), br_f, bd_s]
        rw [loopF, this]
        rfl
end Go.Px
namespace Go.Px
theorem read2_iff (x b : UInt8) : (runeRead [x, b]).2 = 2 ↔ 194 ≤ x.toNat ∧ x.toNat ≤ 223 ∧ 128 ≤ b.toNat ∧ b.toNat ≤ 191 ∧ (x.toNat = 194 → 160 ≤ b.toNat) := by
  simp only [runeRead]
  by_cases c1 : runeBytes (run1 x) = [x]
  · rw [if_pos c1]
    have := (run1_iff x).1 c1
    constructor
    · intro h; simp at h
    · omega
  rw [if_neg c1]
  by_cases c2 : runeBytes (run2 x b) = [x, b]
  · rw [if_pos c2]
    have := (run2_iff x b).1 c2
    exact ⟨fun _ => this, fun _ => rfl⟩
  · rw [if_neg c2]
    have := (not_congr (run2_iff x b)).1 c2
    constructor
    · intro h; simp at h
    · intro h; exact absurd h this
theorem read3_iff (x y z : UInt8) : (runeRead [x, y, z]).2 = 3 ↔ 224 ≤ x.toNat ∧ x.toNat ≤ 239 ∧ 128 ≤ y.toNat ∧ y.toNat ≤ 191 ∧ 128 ≤ z.toNat ∧ z.toNat ≤ 191 ∧ (x.toNat = 224 → 160 ≤ y.toNat) ∧ (x.toNat = 237 → y.toNat < 160) := by
  simp only [runeRead]
  by_cases c1 : runeBytes (run1 x) = [x]
  · rw [if_pos c1]
    have := (run1_iff x).1 c1
    constructor
    · intro h; simp at h
    · omega
  rw [if_neg c1]
  by_cases c2 : runeBytes (run2 x y) = [x, y]
  · rw [if_pos c2]
    have := (run2_iff x y).1 c2
    constructor
    · intro h; simp at h
    · omega
  rw [if_neg c2]
  by_cases c3 : runeBytes (run3 x y z) = [x, y, z]
  · rw [if_pos c3]
    have := (run3_iff x y z).1 c3
    exact ⟨fun _ => this, fun _ => rfl⟩
  · rw [if_neg c3]
    have := (not_congr (run3_iff x y z)).1 c3
    constructor
    · intro h; simp at h
    · intro h; exact absurd h this
/-- How a rune's bytes may begin. -/
def runeBeginB : List UInt8 → Bool
  | [x] => decide (194 ≤ x.toNat ∧ x.toNat ≤ 239)
  | [x, y] => decide (224 ≤ x.toNat ∧ x.toNat ≤ 239 ∧ 128 ≤ y.toNat ∧ y.toNat ≤ 191 ∧ (x.toNat = 224 → 160 ≤ y.toNat) ∧ (x.toNat = 237 → y.toNat < 160))
  | _ => false
def byteN (i : Nat) : UInt8 := UInt8.ofNat (IntKind.u8.wrap ((128 + i : Nat) : Int)).toNat
theorem byteN_nat {i : Nat} (h : i < 64) : (byteN i).toNat = 128 + i := by
  unfold byteN
  rw [u8wrap (by omega) (by omega), Int.toNat_natCast]
  exact UInt8.toNat_ofNat_of_lt' (show 128 + i < 256 by omega)
theorem room_small {n : Nat} (h : n ≤ 1000) : roomB K.u8 n := by
  refine ⟨by omega, ?_⟩
  show n * byt K.u8 ≤ _
  have : byt K.u8 = 1 := rfl
  rw [this]; omega
end Go.Px
namespace Go.Px
/-- One round: is the list with this byte behind it a rune's bytes, or part of them? -/
def hitB (l : List UInt8) (b : UInt8) : Bool := decide ((runeRead (l ++ [b])).2 = ((l ++ [b]).length : Int)) || (decide (l.length = 1) && decide ((runeRead (l ++ [b] ++ [UInt8.ofNat (Int.toNat 129)])).2 = 3))
theorem rb_step (F : Nat) (l : List UInt8) (i : Nat) (hl : l.length = 1 ∨ l.length = 2) (hi : i < 64) : pS_RuneBegin_b1 (F + 5) (l, ((128 + i : Nat) : Int)) = if hitB l (byteN i) then some (.inr (.inr true)) else some (.inl (l, ((128 + (i + 1) : Nat) : Int))) := by
  have hl3 : l.length ≤ 2 := by omega
  unfold pS_RuneBegin_b1
  simp only [decide_eq_true (show ((128 + i : Nat) : Int) < 192 by omega), br_t, List.nil_append]
  rw [gd_t (room_small (by omega)), gd_t (room_small (by rw [List.length_append]; simp; omega))]
  rw [show UInt8.ofNat (IntKind.u8.wrap ((128 + i : Nat) : Int)).toNat = byteN i from rfl]
  rw [pS_RuneRead_eq F (l ++ [byteN i]) (by simp) (by simp; omega)]
  simp only [bd_s]
  unfold hitB
  by_cases c1 : (runeRead (l ++ [byteN i])).2 = ((l ++ [byteN i]).length : Int)
  · simp only [show ((runeRead (l ++ [byteN i])).2 == ((l ++ [byteN i]).length : Int)) = true by simpa using c1, br_t, jn_r, decide_eq_true c1, Bool.true_or, if_true]
  simp only [show ((runeRead (l ++ [byteN i])).2 == ((l ++ [byteN i]).length : Int)) = false by simpa using c1, br_f, decide_eq_false c1, Bool.false_or]
  by_cases c2 : l.length = 1
  · simp only [show ((l.length : Int) == 1) = true by simp [c2], br_t, decide_eq_true c2, Bool.true_and]
    rw [gd_t (room_small (by simp; omega)), gd_t (room_small (by simp; omega)), pS_RuneRead_eq F _ (by simp) (by simp; omega)]
    simp only [bd_s]
    by_cases c3 : (runeRead (l ++ [byteN i] ++ [UInt8.ofNat (Int.toNat 129)])).2 = 3
    · simp only [show ((runeRead (l ++ [byteN i] ++ [UInt8.ofNat (Int.toNat 129)])).2 == 3) = true by simpa using c3, br_t, jn_r, decide_eq_true c3, if_true]
    · simp only [show ((runeRead (l ++ [byteN i] ++ [UInt8.ofNat (Int.toNat 129)])).2 == 3) = false by simpa using c3, br_f, jn_l, decide_eq_false c3, Bool.false_eq_true, if_false]
      rw [gd_i64 (by omega) (by omega)]
      rfl
  · simp only [show ((l.length : Int) == 1) = false by simp; omega, br_f, jn_l, decide_eq_false c2, Bool.false_and, Bool.false_eq_true, if_false]
    rw [gd_i64 (by omega) (by omega)]
    rfl
theorem pS_RuneBegin_len (F : Nat) (l : List UInt8) (hl : l.length = 1 ∨ l.length = 2) : pS_RuneBegin (F + 70) l = some ((List.range 64).any fun i => hitB l (byteN i)) := by
  unfold pS_RuneBegin
  simp only [decide_eq_false (show ¬ (l.length : Int) < 1 by omega), br_f, bd_s, decide_eq_false (show ¬ (2 : Int) < (l.length : Int) by omega)]
  have := loopF_any (B := pS_RuneBegin_b1 (F + 70)) (fun i => (l, ((128 + i : Nat) : Int))) (List.range 64) (fun i => hitB l (byteN i)) (.inr true) (.inl ()) (fuel := F + 70) (v := (l, 128)) rfl (fun i x hx => by
    have hi := (List.getElem?_eq_some_iff.1 hx).1
    have hxi : x = i := by
      rw [List.getElem?_range (by simpa using hi)] at hx; cases hx; rfl
    subst hxi
    exact rb_step (F + 65) l x hl (by simpa using hi)) (by
      rw [List.length_range]
      unfold pS_RuneBegin_b1
      simp only [decide_eq_false (show ¬ ((128 + 64 : Nat) : Int) < 192 by omega), br_f]) (by rw [List.length_range]; omega)
  rw [this]
  cases (List.range 64).any fun i => hitB l (byteN i) <;> rfl
theorem pS_RuneBegin_eq (F : Nat) (l : List UInt8) : pS_RuneBegin (F + 70) l = some (runeBeginB l) := by
  match l with
  | [] => rfl
  | [x] =>
    rw [pS_RuneBegin_len F [x] (.inl rfl)]
    congr 1
    rw [Bool.eq_iff_iff, List.any_eq_true]
    have h129 : (UInt8.ofNat (Int.toNat 129)).toNat = 129 := rfl
    simp only [hitB, runeBeginB, Bool.or_eq_true, Bool.and_eq_true, decide_eq_true_eq, List.mem_range]
    constructor
    · rintro ⟨i, hi, h | ⟨_, h⟩⟩
      · have := (read2_iff x (byteN i)).1 h
        omega
      · have := (read3_iff x (byteN i) _).1 h
        omega
    · intro h
      by_cases h1 : x.toNat ≤ 223
      · refine ⟨32, by omega, .inl ?_⟩
        have hb := byteN_nat (i := 32) (by omega)
        exact (read2_iff x (byteN 32)).2 ⟨by omega, by omega, by omega, by omega, by omega⟩
      · by_cases h2 : x.toNat = 237
        · refine ⟨0, by omega, .inr ⟨rfl, ?_⟩⟩
          have hb := byteN_nat (i := 0) (by omega)
          exact (read3_iff x (byteN 0) _).2 ⟨by omega, by omega, by omega, by omega, by omega, by omega, by omega, by omega⟩
        · refine ⟨32, by omega, .inr ⟨rfl, ?_⟩⟩
          have hb := byteN_nat (i := 32) (by omega)
          exact (read3_iff x (byteN 32) _).2 ⟨by omega, by omega, by omega, by omega, by omega, by omega, by omega, by omega⟩
  | [x, y] =>
    rw [pS_RuneBegin_len F [x, y] (.inr rfl)]
    congr 1
    rw [Bool.eq_iff_iff, List.any_eq_true]
    simp only [hitB, runeBeginB, Bool.or_eq_true, Bool.and_eq_true, decide_eq_true_eq, List.mem_range]
    constructor
    · rintro ⟨i, hi, h | ⟨h, _⟩⟩
      · have := (read3_iff x y (byteN i)).1 h
        omega
      · simp at h
    · intro h
      refine ⟨0, by omega, .inl ?_⟩
      have hb := byteN_nat (i := 0) (by omega)
      exact (read3_iff x y (byteN 0)).2 ⟨by omega, by omega, by omega, by omega, by omega, by omega, by omega, by omega⟩
  | x :: y :: z :: t =>
    unfold pS_RuneBegin
    simp only [decide_eq_false (show ¬ ((x :: y :: z :: t).length : Int) < 1 by simp; omega), br_f, bd_s, decide_eq_true (show (2 : Int) < ((x :: y :: z :: t).length : Int) by simp; omega), br_t]
    rfl
end Go.Px
namespace Go.Px
theorem pI_tails_one (F : Nat) (y : UInt8) : pI_tails (F + 2) [y] = some (if 128 ≤ y.toNat ∧ y.toNat ≤ 191 then ((y.toNat : Int) - 128, true) else (0, false)) := by
  have hy := u8_lt y
  unfold pI_tails
  rw [loopF]
  have e0 : pI_tails_b1 (F + 2) (0, [y], (([y] : List UInt8).length : Int), 0) = if 128 ≤ y.toNat ∧ y.toNat ≤ 191 then some (.inl ((y.toNat : Int) - 128, [y], 1, 1)) else some (.inr (.inr (0, false))) := by
    unfold pI_tails_b1
    simp only [decide_eq_true (show (0 : Int) < (([y] : List UInt8).length : Int) by simp), br_t]
    rw [gd_ix (by omega) (by simp)]
    simp only [show ((0 : Int).toNat) = 0 from rfl, List.getElem?_cons_zero, bd_s]
    rw [gd_t (by omega)]
    have hd : (y.toNat : Int).tdiv 64 = (y.toNat : Int) / 64 := Int.tdiv_eq_ediv_of_nonneg (by omega)
    have hm : (y.toNat : Int).tmod 64 = (y.toNat : Int) % 64 := Int.tmod_eq_emod_of_nonneg (by omega)
    rw [hd, hm, u8wrap (by omega) (by omega)]
    by_cases h : 128 ≤ y.toNat ∧ y.toNat ≤ 191
    · rw [if_pos h]
      have h2 : ((y.toNat : Int) / 64 != 2) = false := by
        have : (y.toNat : Int) / 64 = 2 := by omega
        rw [this]; rfl
      simp only [h2, br_f]
      rw [gd_i64 (by omega) (by omega), gd_t (by omega), gd_i64 (by omega) (by omega), gd_i64 (by omega) (by omega)]
      have : 64 * 0 + (y.toNat : Int) % 64 = (y.toNat : Int) - 128 := by omega
      rw [this]
      rfl
    · rw [if_neg h]
      have h2 : ((y.toNat : Int) / 64 != 2) = true := by
        have : (y.toNat : Int) / 64 ≠ 2 := by omega
        simpa using this
      simp only [h2, br_t]
  rw [e0]
  by_cases h : 128 ≤ y.toNat ∧ y.toNat ≤ 191
  · simp only [if_pos h]
    rw [loopF]
    unfold pI_tails_b1
    simp only [decide_eq_false (show ¬ (1 : Int) < 1 by omega), br_f, jn_l]
  · simp only [if_neg h, jn_r]
theorem pI_RuneBegin_eq (F : Nat) (l : List UInt8) : pI_RuneBegin (F + 2) l = some (runeBeginB l) := by
  match l with
  | [] => rfl
  | [x] =>
    unfold pI_RuneBegin
    simp only [show (((([x] : List UInt8).length : Nat) : Int) == 1) = true from rfl, br_t]
    rw [gd_ix (by omega) (by simp)]
    simp only [show ((0 : Int).toNat) = 0 from rfl, List.getElem?_cons_zero, bd_s, pI_within_eq, runeBeginB]
    congr 1
    rw [Bool.eq_iff_iff]
    simp only [Bool.and_eq_true, decide_eq_true_eq]
    omega
  | [x, y] =>
    have hx := u8_lt x
    have hy := u8_lt y
    unfold pI_RuneBegin
    simp only [show (((([x, y] : List UInt8).length : Nat) : Int) == 1) = false from rfl, show (((([x, y] : List UInt8).length : Nat) : Int) == 2) = true from rfl, br_t, br_f]
    rw [gd_ixe (by omega) (by simp)]
    simp only [show List.drop (Int.toNat 1) [x, y] = [y] from rfl, pI_tails_one, bd_s]
    rw [gd_ix (by omega) (by simp)]
    simp only [show ((0 : Int).toNat) = 0 from rfl, List.getElem?_cons_zero, bd_s, runeBeginB]
    by_cases h : 128 ≤ y.toNat ∧ y.toNat ≤ 191
    · simp only [if_pos h]
      rw [gd_i64 (by omega) (by omega), gd_i64 (by omega) (by omega), gd_i64 (by omega) (by omega), gd_i64 (by omega) (by omega)]
      simp only [br_t]
      rw [gd_ix (by omega) (by simp)]
      simp only [bd_s, pI_Shows_eq, bd_br, br_ss]
      by_cases h1 : 224 ≤ (x.toNat : Int)
      · by_cases h2 : 2048 ≤ ((x.toNat : Int) - 224) * 4096 + ((y.toNat : Int) - 128) * 64
        · simp only [decide_eq_true h1, decide_eq_true h2, br_t]
          congr 1
          rw [Bool.eq_iff_iff, showsB_iff]
          simp only [decide_eq_true_eq]
          omega
        · simp only [decide_eq_true h1, decide_eq_false h2, br_t, br_f]
          congr 1
          rw [Bool.eq_iff_iff]
          simp only [decide_eq_true_eq, Bool.false_eq_true, false_iff]
          omega
      · simp only [decide_eq_false h1, br_f]
        congr 1
        rw [Bool.eq_iff_iff]
        simp only [decide_eq_true_eq, Bool.false_eq_true, false_iff]
        omega
    · simp only [if_neg h]
      rw [gd_i64 (by omega) (by omega), gd_i64 (by omega) (by omega), gd_i64 (by omega) (by omega), gd_i64 (by omega) (by omega)]
      simp only [br_f, bd_s]
      congr 1
      rw [Bool.eq_iff_iff]
      simp only [decide_eq_true_eq, Bool.false_eq_true, false_iff]
      omega
  | x :: y :: z :: t =>
    unfold pI_RuneBegin
    have e1 : (((x :: y :: z :: t).length : Int) == 1) = false := by simp; omega
    have e2 : (((x :: y :: z :: t).length : Int) == 2) = false := by simp; omega
    simp only [e1, e2, br_f]
    rfl
end Go.Px
namespace Go.Px
/-! ### TableOk in both readings -/
def isIdB (n : Int) : Bool := decide (1 ≤ n) && decide (n ≤ 1000000)
def prevB (t : ITable) (i : Nat) (x : IProc) : Bool := match i with
  | 0 => false
  | i + 1 => match t.Live[i]? with
    | some y => decide (x.Pid ≤ y.Pid)
    | none => false
def seenB (t : ITable) (i : Nat) (x : IProc) : Bool := (t.Live.take i).any fun y => y.Pane == x.Pane
def badI (t : ITable) (i : Nat) (x : IProc) : Bool := !(decide (1 ≤ x.Pid) && decide (x.Pid ≤ IntKind.i64.wrap (t.Next - 1))) || (prevB t i x || (!isIdB x.Pane || seenB t i x))
def badT (t : ITable) (i : Nat) (x : IProc) : Bool := !(decide (1 ≤ x.Pid) && decide (x.Pid < t.Next)) || (prevB t i x || (!isIdB x.Pane || seenB t i x))
theorem procOf_at {fuel : Nat} {t : ITable} {i : Nat} {x : IProc} (hl : t.Live.length ≤ 9223372036854775807) (hf : t.Live.length < fuel) (hx : t.Live[i]? = some x) : ∃ k, pI_Table_procOf fuel t x.Pane = some k ∧ (k != (i : Int)) = seenB t i x := by
  rcases procOf_eq (n := x.Pane) hl hf with ⟨j, y, h1, h2, h3, h4⟩ | ⟨h1, _⟩
  · refine ⟨j, h4, ?_⟩
    have hij : j ≤ i := by
      rcases Nat.lt_or_ge i j with h | h
      · have := h3 i x h hx
        simp at this
      · exact h
    by_cases e : j = i
    · subst e
      have : seenB t j x = false := by
        unfold seenB
        rw [List.any_eq_false]
        intro z hz
        obtain ⟨m, hm⟩ := List.getElem?_of_mem hz
        rw [List.getElem?_take] at hm
        split at hm
        · rename_i hlt
          have := h3 m z hlt hm
          simpa using this
        · cases hm
      rw [this]
      simp
    · have : seenB t i x = true := by
        unfold seenB
        rw [List.any_eq_true]
        refine ⟨y, ?_, h2⟩
        exact List.mem_of_getElem? (i := j) (by rw [List.getElem?_take, if_pos (by omega)]; exact h1)
      rw [this]
      simp
      omega
  · have := h1 x (List.mem_of_getElem? hx)
    simp at this
theorem pI_TableOk_step {fuel : Nat} {t : ITable} (hl : t.Live.length ≤ 9223372036854775807) (hf : t.Live.length < fuel) {i : Nat} {x : IProc} (hx : t.Live[i]? = some x) :
    pI_TableOk_b1 fuel (t, t.Live, (t.Live.length : Int), (i : Int)) = if badI t i x then some (.inr (.inr false)) else some (.inl (t, t.Live, (t.Live.length : Int), ((i + 1 : Nat) : Int))) := by
  obtain ⟨h1, h2, h3, h4, h5⟩ := idx_facts hx hl
  obtain ⟨k, hk, hk2⟩ := procOf_at hl hf hx
  unfold pI_TableOk_b1
  simp only [h1, br_t, gd_t h2, h3, bd_s, pI_within_eq, pI_isId_eq, hk]
  unfold badI
  have hfin : ∀ c : Bool, (br c (some (.inr (.inr false))) (gd (inK IntKind.i64 ((i : Int) + 1)) (some (.inl (t, t.Live, (t.Live.length : Int), (i : Int) + 1)))) : Option ((ITable × List IProc × Int × Int) ⊕ (ITable ⊕ Bool))) = if c then some (.inr (.inr false)) else some (.inl (t, t.Live, (t.Live.length : Int), ((i + 1 : Nat) : Int))) := by
    intro c
    rw [h5, gd_t h4]
    cases c <;> rfl
  cases hp : (decide (1 ≤ x.Pid) && decide (x.Pid ≤ IntKind.i64.wrap (t.Next - 1))) with
  | false => simp only [Bool.not_false, br_t, bd_s, Bool.true_or, if_true]
  | true =>
    simp only [Bool.not_true, br_f, Bool.false_or]
    cases i with
    | zero =>
      simp only [show decide ((0 : Int) < ((0 : Nat) : Int)) = false from rfl, br_f, prevB, Bool.false_or]
      have e : (isIdB x.Pane) = (decide (1 ≤ x.Pane) && decide (x.Pane ≤ 1000000)) := rfl
      rw [← e]
      cases isIdB x.Pane with
      | false => simp only [Bool.not_false, br_t, bd_s, Bool.true_or, if_true]
      | true =>
        simp only [Bool.not_true, br_f, bd_s, Bool.false_or, hk2]
        exact hfin _
    | succ i =>
      have hi0 : i < t.Live.length := by have := (List.getElem?_eq_some_iff.1 hx).1; omega
      simp only [decide_eq_true (show (0 : Int) < ((i + 1 : Nat) : Int) by omega), br_t]
      rw [gd_i64 (by omega) (by omega), gd_ix (by omega) (by omega), show (((i + 1 : Nat) : Int) - 1).toNat = i by omega, List.getElem?_eq_getElem hi0]
      have e0 : prevB t (i + 1) x = decide (x.Pid ≤ t.Live[i].Pid) := by simp [prevB, hi0]
      simp only [bd_s, e0]
      cases decide (x.Pid ≤ t.Live[i].Pid) with
      | true => simp only [br_t, bd_s, Bool.true_or, if_true]
      | false =>
        simp only [br_f, Bool.false_or]
        have e : (isIdB x.Pane) = (decide (1 ≤ x.Pane) && decide (x.Pane ≤ 1000000)) := rfl
        rw [← e]
        cases isIdB x.Pane with
        | false => simp only [Bool.not_false, br_t, bd_s, Bool.true_or, if_true]
        | true =>
          simp only [Bool.not_true, br_f, bd_s, Bool.false_or, hk2]
          exact hfin _
theorem pI_TableOk_any {fuel : Nat} {t : ITable} (hl : t.Live.length ≤ 9223372036854775807) (hf : t.Live.length < fuel) : pI_TableOk fuel t = some (!(t.Live.zipIdx.any fun p => badI t p.2 p.1) && isIdB t.Next) := by
  unfold pI_TableOk
  have := loopF_anyI (B := pI_TableOk_b1 fuel) (fun i => (t, t.Live, (t.Live.length : Int), (i : Int))) t.Live (badI t) (.inr false) (.inl t) (fuel := fuel) (v := (t, t.Live, (t.Live.length : Int), 0)) rfl (fun i x hx => pI_TableOk_step hl hf hx) (by
    unfold pI_TableOk_b1
    simp) hf
  rw [this]
  cases t.Live.zipIdx.any fun p => badI t p.2 p.1 with
  | true => rfl
  | false => simp only [jn_l, Bool.false_eq_true, if_false, pI_isId_eq, bd_s, Bool.not_false, Bool.true_and]; rfl
end Go.Px
