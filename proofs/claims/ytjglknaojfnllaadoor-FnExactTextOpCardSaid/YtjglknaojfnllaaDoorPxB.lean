/- Calls, contracts over pure values, maps, loops and joins of printed functions; each step of a region. -/
import Derived.Test.YtjglknaojfnllaaDoorPxA
import Derived.Laws.Tables
import Derived.Great.BuildSlice
import Derived.Great.FillDense
import Derived.Laws.MakeOwn
import Derived.Lib.ConvBytes
import Derived.Laws.BytesString
import Derived.WideMake
import Derived.Maps.RangeRun
set_option linter.unusedSimpArgs false
set_option linter.unusedVariables false
namespace Go.Px
open Go.RowKit
/-- What a value is for whoever gets it: owned rows, settled lists; which numbers go with it. -/
def closeS (s : Sto) : PV → Option (PV × List Nat × List Nat)
  | .v x => some (.v x, [], [])
  | .nil => some (.nil, [], [])
  | .row false k l => some (.row false k l, [], [])
  | .eptr k l i j => some (.eptr k l i j, [], [])
  | .ref id ver off n full => match s id with
    | ⟨v, some (.rowb k l)⟩ => if v = ver then
        if (full && n == l.length) = true then some (.row true k l, [id], []) else some (.row false k ((l.drop off).take n), [], [id])
      else none
    | _ => none
  | .ptr id ver _ j => match s id with
    | ⟨v, some (.objb o)⟩ => if v = ver ∧ j = 0 then some (.obj o, [id], []) else none
    | _ => none
  | .un => some (.dead, [], [])
  | .dead => some (.dead, [], [])
  | _ => none
def closeL (s : Sto) : List PV → Option (List PV × List Nat × List Nat)
  | [] => some ([], [], [])
  | p :: ps => match closeS s p, closeL s ps with
    | some (q, a, b), some (qs, c, d) => some (q :: qs, a ++ c, b ++ d)
    | _, _ => none
def close1 (s : Sto) : PV → Option (PV × List Nat × List Nat)
  | .agg cs => match closeL s cs with
    | some (qs, a, b) => some (.agg qs, a, b)
    | none => none
  | p => closeS s p
def close1L (s : Sto) : List PV → Option (List PV × List Nat × List Nat)
  | [] => some ([], [], [])
  | p :: ps => match close1 s p, close1L s ps with
    | some (q, a, b), some (qs, c, d) => some (q :: qs, a ++ c, b ++ d)
    | _, _ => none
section
variable {P : Program} {PC : Con} {X : Ctx} {nt : Nat} {Q : Exit → Act → World → Prop} {ε : Env} {a : Act} {w : World} {o : Oper} {v : PV} {s' : Sto} {r wr : List Nat}
/-- A value closed: what it owns are the blocks of its numbers. -/
theorem closeS_spec {β : Nat → Option (Nat × Nat)} {N : Nat → List Nat} {tm : Array Value} {S' : Nat → Prop} {β' : Nat → Option (Nat × Nat)} {σ' : Sto} (h : St X ε w tm β N) (hF : ∀ b, Fz X w N ε.s b → S' b) {p q : PV} {u : Value} {A B : List Nat} (hv : ValS (Fz X w N ε.s) w β ε.s p u) (hc : closeS ε.s p = some (q, A, B))
    (hB : ∀ id ∈ B, ∀ b ∈ N id, S' b) : (∀ id ∈ A, ∃ blk, (ε.s id).blk = some blk) ∧ OwnS S' w β' σ' q u (A.map N).flatten := by
  unfold closeS at hc
  split at hc
  · cases hc; exact ⟨by simp, rfl, hv⟩
  · cases hc; exact ⟨by simp, rfl, hv⟩
  · cases hc; exact ⟨by simp, rfl, rfl, hv.2.mono hF fun b o u _ hu => hu⟩
  · cases hc
    obtain ⟨b, off, h1, h2, h3⟩ := hv
    exact ⟨by simp, rfl, b, off, h1, h2, h3.mono hF fun b o u _ hu => hu⟩
  · rename_i id ver off n full
    have hv0 : RefC w β ε.s id ver off n full u := hv
    obtain ⟨_, _, k3⟩ := hv
    split at hc
    · rename_i v k l hs
      split at hc
      · rename_i hver
        subst hver
        obtain ⟨e1, e2⟩ := k3 k l hs
        split at hc
        · rename_i hfull
          simp only [Bool.and_eq_true, beq_iff_eq] at hfull
          obtain ⟨hf, hn⟩ := hfull
          cases hc
          refine ⟨fun i hi => by have hi2 := List.mem_singleton.1 hi; subst hi2; exact ⟨_, by rw [hs]⟩, ?_⟩
          have hblk := h.blk id _ (by rw [hs])
          show Own S' w k u l _
          simp only [List.map_cons, List.map_nil, List.flatten_cons, List.flatten_nil, List.append_nil]
          rcases e2 with ⟨e2, e3⟩ | ⟨b, c, o2, e2, e3, e4, e5, e6⟩
          · rcases hblk with ⟨_, f1, f2⟩ | ⟨b, cap, cur, q, _⟩
            · exact .inl ⟨e3, f1, f2⟩
            · rw [e2] at q; cases q
          · rcases hblk with ⟨e, _⟩ | ⟨b', cap, cur, q1, q2, q3⟩
            · rw [e2] at e; cases e
            · rw [e2] at q1; cases q1
              obtain ⟨f1, f2, f3⟩ := e6 hf
              have ho2 : o2 = 0 := by have h9 := e5 (.inr hf); rw [f1, Nat.zero_mul] at h9; exact h9
              subst ho2
              have hcap : c = cap := by
                obtain ⟨fz, hh, _⟩ := q3.2.1
                have h12 := f3 cur _ fz hh
                have h7 := q3.2.2.2.2.1
                rw [h12] at h7
                exact Nat.eq_of_mul_eq_mul_right (size_pos _) h7
              subst hcap
              exact .inr ⟨b, c, cur, by rw [e4, hn], q2, q3.mono rfl hF fun _ _ _ _ h => h⟩
        · cases hc
          exact ⟨by simp, rfl, rfl, RefC.view h hv0 hs hF (hB id (by simp))⟩
      · cases hc
    · cases hc
  · rename_i id ver i0 j
    obtain ⟨_, _, k3⟩ := hv
    split at hc
    · rename_i v o hs
      split at hc
      · rename_i hver
        obtain ⟨rfl, rfl⟩ := hver
        cases hc
        obtain ⟨b, off, e1, e2⟩ := k3 _ hs
        obtain ⟨rfl, e3⟩ := e2 rfl
        obtain ⟨b', f1, f2, f3⟩ := h.blk id _ (by rw [hs])
        rw [e1] at f1; cases f1
        refine ⟨fun i hi => by have hi2 := List.mem_singleton.1 hi; subst hi2; exact ⟨_, by rw [hs]⟩, b, e3, ?_, f3⟩
        simp only [List.map_cons, List.map_nil, List.flatten_cons, List.flatten_nil, List.append_nil, f2]
      · cases hc
    · cases hc
  · cases hc; exact ⟨by simp, rfl, trivial⟩
  · cases hc; exact ⟨by simp, rfl, trivial⟩
  · cases hc
end
open Go.RowKit
def cellsAt (ag : Bool) (cs : List PV) (j n : Nat) : Option PV := if j + n ≤ cs.length then (if ag then some (.agg ((cs.drop j).take n)) else match (cs.drop j).take n with
  | [c] => some c
  | _ => none) else none
def res1 (nt : Nat) (ε : Env) : ResultVar → Option PV
  | .tmp t => if t < nt then some (ε.t t) else none
  | .cell p t => if p < nt then (match tyB t, ε.t p with
    | some (ag, n), .ptr id ver _ j => match ε.s id with
      | ⟨v, some (.box cs)⟩ => if v = ver then cellsAt ag cs j n else none
      | _ => none
    | _, _ => none) else none
def resL (nt : Nat) (ε : Env) : List ResultVar → Option (List PV)
  | [] => some []
  | x :: xs => match res1 nt ε x, resL nt ε xs with
    | some v, some vs => some (v :: vs)
    | _, _ => none
def oneOr (qs : List PV) : PV := match qs with
  | [q] => q
  | _ => .tup qs
def nodupB : List Nat → Bool
  | [] => true
  | x :: xs => !xs.contains x && nodupB xs
/-- The end of a function's body: what it returns. -/
def retP (nt : Nat) (rs : List ResultVar) (r : PV) : Exit → Env → Prop
  | .normal, ε | .ret, ε => ∃ vs qs A B, resL nt ε rs = some vs ∧ close1L ε.s vs = some (qs, A, B) ∧ r = oneOr qs ∧ nodupB A = true ∧ disjL A B = true
  | _, _ => False
def initE (args : List PV) : Env := ⟨fun i => (args[i]?).getD .un, fun _ => ⟨0, none⟩⟩
def noOwnS : PV → Bool
  | .row true _ _ | .ref .. | .ptr .. | .obj _ => false
  | .fn _ caps => caps.isEmpty
  | _ => true
def noOwn : PV → Bool
  | .agg cs => cs.all noOwnS
  | p => noOwnS p
section
variable {P : Program} {PC : Con} {X : Ctx} {nt : Nat} {Q : Exit → Act → World → Prop} {ε : Env} {a : Act} {w : World} {o : Oper} {v : PV} {s' : Sto} {r wr : List Nat}
theorem nodupB_spec : ∀ {l : List Nat}, nodupB l = true → l.Nodup
  | [], _ => List.nodup_nil
  | x :: xs, h => by
    simp only [nodupB, Bool.and_eq_true, Bool.not_eq_true', List.contains_eq_mem, decide_eq_false_iff_not] at h
    exact List.nodup_cons.2 ⟨h.1, nodupB_spec h.2⟩
theorem closeL_spec {β : Nat → Option (Nat × Nat)} {N : Nat → List Nat} {tm : Array Value} {S' : Nat → Prop} {β' : Nat → Option (Nat × Nat)} {σ' : Sto} (h : St X ε w tm β N) (hF : ∀ b, Fz X w N ε.s b → S' b) :
    ∀ {ps qs : List PV} {us : List Value} {A B : List Nat}, All2 (ValS (Fz X w N ε.s) w β ε.s) ps us → closeL ε.s ps = some (qs, A, B) → (∀ id ∈ B, ∀ b ∈ N id, S' b) → (∀ id ∈ A, ∃ blk, (ε.s id).blk = some blk) ∧ All3 (OwnS S' w β' σ') qs us (A.map N).flatten
  | [], qs, [], A, B, _, hc, _ => by cases hc; exact ⟨by simp, rfl⟩
  | p :: ps, qs, u :: us, A, B, ⟨h1, h2⟩, hc, hB => by
    unfold closeL at hc
    split at hc
    · rename_i q a b qs' c d e1 e2
      cases hc
      obtain ⟨k1, k2⟩ := closeS_spec (β' := β') (σ' := σ') h hF h1 e1 (fun id hid => hB id (List.mem_append.2 (.inl hid)))
      obtain ⟨k3, k4⟩ := closeL_spec (β' := β') (σ' := σ') h hF h2 e2 (fun id hid => hB id (List.mem_append.2 (.inr hid)))
      refine ⟨fun id hid => (List.mem_append.1 hid).elim (k1 id) (k3 id), _, _, ?_, k2, k4⟩
      rw [List.map_append, List.flatten_append]
    · cases hc
  | [], _, _ :: _, _, _, h, _, _ => h.elim
  | _ :: _, _, [], _, _, h, _, _ => h.elim
theorem close1_spec {β : Nat → Option (Nat × Nat)} {N : Nat → List Nat} {tm : Array Value} {S' : Nat → Prop} {β' : Nat → Option (Nat × Nat)} {σ' : Sto} (h : St X ε w tm β N) (hF : ∀ b, Fz X w N ε.s b → S' b) {p q : PV} {u : Value} {A B : List Nat} (hv : ValC (Fz X w N ε.s) w β ε.s p u) (hc : close1 ε.s p = some (q, A, B))
    (hB : ∀ id ∈ B, ∀ b ∈ N id, S' b) : (∀ id ∈ A, ∃ blk, (ε.s id).blk = some blk) ∧ Own1 S' w β' σ' q u (A.map N).flatten := by
  by_cases ha : ∃ cs, p = .agg cs
  · obtain ⟨cs, rfl⟩ := ha
    obtain ⟨us, rfl, hv⟩ := hv
    unfold close1 at hc
    split at hc
    · rename_i cs' e
      cases e
      split at hc
      · rename_i qs a b e
        cases hc
        obtain ⟨k1, k2⟩ := closeL_spec (β' := β') (σ' := σ') h hF hv e hB
        exact ⟨k1, us, rfl, k2⟩
      · cases hc
    · rename_i hne; exact absurd rfl (hne cs)
  · have hc' : closeS ε.s p = some (q, A, B) := by
      unfold close1 at hc
      split at hc
      · exact absurd ⟨_, rfl⟩ ha
      · exact hc
    have hnt : ∀ vs, p ≠ .tup vs := by rintro vs rfl; cases hc'
    obtain ⟨k1, k2⟩ := closeS_spec (β' := β') (σ' := σ') h hF (hv.vs (fun cs e => ha ⟨cs, e⟩) hnt) hc' hB
    refine ⟨k1, ?_⟩
    have hqa : ∀ cs, q ≠ .agg cs := by
      rintro cs rfl
      unfold closeS at hc'
      repeat (split at hc' <;> try cases hc')
    cases q <;> first | exact k2 | exact absurd rfl (hqa _)
theorem close1L_spec {β : Nat → Option (Nat × Nat)} {N : Nat → List Nat} {tm : Array Value} {S' : Nat → Prop} {β' : Nat → Option (Nat × Nat)} {σ' : Sto} (h : St X ε w tm β N) (hF : ∀ b, Fz X w N ε.s b → S' b) :
    ∀ {ps qs : List PV} {us : List Value} {A B : List Nat}, All2 (ValC (Fz X w N ε.s) w β ε.s) ps us → close1L ε.s ps = some (qs, A, B) → (∀ id ∈ B, ∀ b ∈ N id, S' b) → (∀ id ∈ A, ∃ blk, (ε.s id).blk = some blk) ∧ All3 (Own1 S' w β' σ') qs us (A.map N).flatten
  | [], qs, [], A, B, _, hc, _ => by cases hc; exact ⟨by simp, rfl⟩
  | p :: ps, qs, u :: us, A, B, ⟨h1, h2⟩, hc, hB => by
    unfold close1L at hc
    split at hc
    · rename_i q a b qs' c d e1 e2
      cases hc
      obtain ⟨k1, k2⟩ := close1_spec (β' := β') (σ' := σ') h hF h1 e1 (fun id hid => hB id (List.mem_append.2 (.inl hid)))
      obtain ⟨k3, k4⟩ := close1L_spec (β' := β') (σ' := σ') h hF h2 e2 (fun id hid => hB id (List.mem_append.2 (.inr hid)))
      refine ⟨fun id hid => (List.mem_append.1 hid).elim (k1 id) (k3 id), _, _, ?_, k2, k4⟩
      rw [List.map_append, List.flatten_append]
    · cases hc
  | [], _, _ :: _, _, _, h, _, _ => h.elim
  | _ :: _, _, [], _, _, h, _, _ => h.elim
/-- The blocks of several numbers: each once. -/
theorem St.nodups {β : Nat → Option (Nat × Nat)} {N : Nat → List Nat} {tm : Array Value} (h : St X ε w tm β N) : ∀ {A : List Nat}, A.Nodup → (∀ id ∈ A, ∃ blk, (ε.s id).blk = some blk) → (A.map N).flatten.Nodup
  | [], _, _ => by simp
  | x :: xs, hn, hl => by
    obtain ⟨h1, h2⟩ := List.nodup_cons.1 hn
    obtain ⟨b, hb⟩ := hl x (by simp)
    simp only [List.map_cons, List.flatten_cons, List.nodup_append]
    refine ⟨h.nodup x b hb, h.nodups h2 fun id hid => hl id (by simp [hid]), fun y hy z hz e => ?_⟩
    subst e
    obtain ⟨q, hq, hz⟩ := List.mem_flatten.1 hz
    obtain ⟨id, hid, rfl⟩ := List.mem_map.1 hq
    obtain ⟨b', hb'⟩ := hl id (by simp [hid])
    exact h.disj x id b b' hb hb' (fun e => h1 (e ▸ hid)) y hy hz
end
open Go.RowKit
section
variable {P : Program} {PC : Con} {X : Ctx} {nt : Nat} {Q : Exit → Act → World → Prop} {ε : Env} {a : Act} {w : World} {o : Oper} {v : PV} {s' : Sto} {r wr : List Nat}
def LiveL (s : Sto) (B : List Nat) : Prop := ∀ id ∈ B, ∃ blk, (s id).blk = some blk
theorem LiveL.nil {s : Sto} : LiveL s [] := by simp [LiveL]
theorem LiveL.app {s : Sto} {A B : List Nat} (h1 : LiveL s A) (h2 : LiveL s B) : LiveL s (A ++ B) := fun id hid => (List.mem_append.1 hid).elim (h1 id) (h2 id)
theorem closeS_live {s : Sto} {p q : PV} {A B : List Nat} (hc : closeS s p = some (q, A, B)) : LiveL s A ∧ LiveL s B := by
  unfold closeS at hc
  split at hc
  case h_5 =>
    split at hc
    · rename_i hs
      have hl : LiveL s [_] := fun id hid => by have e := List.mem_singleton.1 hid; subst e; exact ⟨_, by rw [hs]⟩
      split at hc
      · split at hc
        · cases hc; exact ⟨hl, LiveL.nil⟩
        · cases hc; exact ⟨LiveL.nil, hl⟩
      · cases hc
    · cases hc
  case h_6 =>
    split at hc
    · rename_i hs
      have hl : LiveL s [_] := fun id hid => by have e := List.mem_singleton.1 hid; subst e; exact ⟨_, by rw [hs]⟩
      split at hc
      · cases hc; exact ⟨hl, LiveL.nil⟩
      · cases hc
    · cases hc
  all_goals first | (cases hc; exact ⟨LiveL.nil, LiveL.nil⟩) | cases hc
theorem closeL_live {s : Sto} : ∀ {ps qs : List PV} {A B : List Nat}, closeL s ps = some (qs, A, B) → LiveL s A ∧ LiveL s B
  | [], _, _, _, hc => by cases hc; exact ⟨LiveL.nil, LiveL.nil⟩
  | p :: ps, _, _, _, hc => by
    unfold closeL at hc
    split at hc
    · rename_i e1 e2
      cases hc
      obtain ⟨k1, k2⟩ := closeS_live e1
      obtain ⟨k3, k4⟩ := closeL_live e2
      exact ⟨k1.app k3, k2.app k4⟩
    · cases hc
theorem close1_live {s : Sto} {p q : PV} {A B : List Nat} (hc : close1 s p = some (q, A, B)) : LiveL s A ∧ LiveL s B := by
  unfold close1 at hc
  split at hc
  · split at hc
    · rename_i e; cases hc; exact closeL_live e
    · cases hc
  · exact closeS_live hc
theorem close1L_live {s : Sto} : ∀ {ps qs : List PV} {A B : List Nat}, close1L s ps = some (qs, A, B) → LiveL s A ∧ LiveL s B
  | [], _, _, _, hc => by cases hc; exact ⟨LiveL.nil, LiveL.nil⟩
  | p :: ps, _, _, _, hc => by
    unfold close1L at hc
    split at hc
    · rename_i e1 e2
      cases hc
      obtain ⟨k1, k2⟩ := close1_live e1
      obtain ⟨k3, k4⟩ := close1L_live e2
      exact ⟨k1.app k3, k2.app k4⟩
    · cases hc
/-- What a result variable holds at the end. -/
theorem res1_run (hF : Facts P) {β : Nat → Option (Nat × Nat)} {N : Nat → List Nat} (hst : St X ε w a.tmps β N) (hs : a.tmps.size = nt) {x : ResultVar} {v : PV} (h : res1 nt ε x = some v) :
    ∃ u, ((match x with | .tmp t => pure (a.tmps.getD t undef) | .cell p t => do loadVar t (← asAddr (a.tmps.getD p undef)) : Sem Value)).run P w = .ok u w ∧ ValC (Fz X w N ε.s) w β ε.s v u := by
  cases x with
  | tmp t =>
    simp only [res1] at h
    split at h
    · rename_i hlt
      cases h
      have hlt' : t < a.tmps.size := by rw [hs]; exact hlt
      exact ⟨a.tmps[t], by simp [Array.getD, hlt', Sem.run_pure], hst.tmp t _ (by simp [hlt'])⟩
    · cases h
  | cell p t =>
    simp only [res1] at h
    split at h
    case isFalse => cases h
    rename_i hlt
    have hlt' : p < a.tmps.size := by rw [hs]; exact hlt
    have hv := hst.tmp p a.tmps[p] (by simp [hlt'])
    split at h
    case h_2 => cases h
    rename_i ag n id ver i j ht he
    rw [he] at hv
    obtain ⟨_, _, k3⟩ := hv
    split at h
    case h_2 => cases h
    rename_i v2 cs hid
    split at h
    case isFalse => cases h
    rename_i hver
    subst hver
    obtain ⟨b, off, hβ, hp⟩ := k3 _ hid
    obtain ⟨b', off', hβ', hc⟩ := blk_cells_box (hst.blk id _ (by rw [hid]))
    rw [hβ] at hβ'; cases hβ'
    have hr : (rangeV ag cs j n).Run (fun _ _ _ _ _ => False) ε.s v ε.s [] [] := by
      unfold cellsAt at h
      unfold rangeV mkVal
      split at h
      · rename_i hlen
        rw [if_pos hlen]
        cases ag with
        | true => cases h; exact ⟨rfl, rfl, rfl, rfl⟩
        | false =>
          simp only [Bool.false_eq_true, if_false] at h ⊢
          split at h
          · rename_i c hcs; cases h; rw [hcs]; exact ⟨rfl, rfl, rfl, rfl⟩
          · cases h
      · cases h
    obtain ⟨_, u, hrun, hvv⟩ := rangeV_run hF ht hr hc
    refine ⟨u, ?_, hvv⟩
    have : a.tmps.getD p undef = .pointer (some ⟨b, off + j, none⟩) := by simp [Array.getD, hlt']; exact hp
    simp only [this, asAddr, Sem.run_bind, Sem.run_pure, Result.andThen_ok, hrun]
def resS (tmps : Array Value) : ResultVar → Sem Value
  | .tmp t => pure (tmps.getD t undef)
  | .cell p t => do loadVar t (← asAddr (tmps.getD p undef))
theorem resL_run (hF : Facts P) {β : Nat → Option (Nat × Nat)} {N : Nat → List Nat} (hst : St X ε w a.tmps β N) (hs : a.tmps.size = nt) : ∀ {rs : List ResultVar} {vs : List PV}, resL nt ε rs = some vs →
    ∃ us : List Value, (rs.mapM (resS a.tmps)).run P w = Result.ok us w ∧ All2 (ValC (Fz X w N ε.s) w β ε.s) vs us
  | [], _, h => by cases h; exact ⟨[], by simp [Sem.run_pure], trivial⟩
  | x :: xs, _, h => by
    unfold resL at h
    split at h
    · rename_i v vs h1 h2
      cases h
      obtain ⟨u, hu, hv⟩ := res1_run hF hst hs h1
      obtain ⟨us, hus, hall⟩ := resL_run hF hst hs h2
      refine ⟨u :: us, ?_, hv, hall⟩
      have hu' : (resS a.tmps x).run P w = .ok u w := by cases x <;> exact hu
      rw [List.mapM_cons]
      simp only [Sem.run_bind, hu', Result.andThen_ok, hus, Sem.run_pure]
    · cases h
def oneVal (us : List Value) : Value := match us with
  | [u] => u
  | _ => .tuple us.toArray
theorem results_run {fn : Func} {us : List Value} (h : (fn.results.toList.mapM (resS a.tmps)).run P w = Result.ok us w) : (results fn a.tmps).run P w = Result.ok (oneVal us) w := by
  have e : results fn a.tmps = (do let vs ← fn.results.mapM (resS a.tmps); pure (if h : vs.size = 1 then vs[0] else .tuple vs)) := by
    unfold results
    congr 1
  rw [e]
  have e2 : fn.results.mapM (resS a.tmps) = List.toArray <$> fn.results.toList.mapM (resS a.tmps) := by
    rw [← List.mapM_toArray]
  rw [e2]
  simp only [Sem.run_bind, map_eq_pure_bind, h, Result.andThen_ok, Sem.run_pure]
  match us with
  | [] => rfl
  | [u] => rfl
  | u :: u2 :: us => simp [oneVal]
end
open Go.RowKit
/-! ### A result said in a weaker form -/
def wkS (p q : PV) : Prop := p = q ∨ (p = .nil ∧ ∃ o k, q = .row o k []) ∨ ∃ k l, p = .row true k l ∧ q = .row false k l
def wk1 (p q : PV) : Prop := wkS p q ∨ ∃ cs ds, p = .agg cs ∧ q = .agg ds ∧ All2 wkS cs ds
def wkV (p q : PV) : Prop := wk1 p q ∨ ∃ cs ds, p = .tup cs ∧ q = .tup ds ∧ All2 wk1 cs ds
/-- R says of p what it says of q, over fewer blocks. -/
def Wk (w : World) (S1 : Nat → Prop) (u : Value) (L : List Nat) (R : (Nat → Prop) → List Nat → Prop) : Prop :=
  ∃ L' : List Nat, L'.Sublist L ∧ ∀ S2 : Nat → Prop, (∀ b, S1 b → S2 b) → (∀ b ∈ L, b ∉ L' → S2 b) → R S2 L'
section
variable {w : World} {β : Nat → Option (Nat × Nat)} {σ : Sto}
theorem OwnS.up {S1 S2 : Nat → Prop} {p : PV} {u : Value} {L : List Nat} (h : OwnS S1 w β σ p u L) (hS : ∀ b, S1 b → S2 b) : OwnS S2 w β σ p u L := by
  have T : Tr S1 S2 w w β β σ σ := ⟨fun h => h.mono hS fun _ _ _ _ h => h, fun h => h, fun h => h⟩
  cases p with
  | row own k l => cases own with
    | true => exact Own.mono h (fun _ _ => rfl) hS fun _ _ _ _ h => h
    | false => exact ⟨h.1, T.vs h.2⟩
  | v x => exact ⟨h.1, T.vs (p := .v x) h.2⟩
  | nil => exact ⟨h.1, T.vs (p := .nil) h.2⟩
  | ref a b c d e => exact ⟨h.1, T.vs (p := .ref a b c d e) h.2⟩
  | ptr a b c d => exact ⟨h.1, T.vs (p := .ptr a b c d) h.2⟩
  | eptr k l i j => exact ⟨h.1, T.vs (p := .eptr k l i j) h.2⟩
  | agg cs => exact ⟨h.1, T.vs (p := .agg cs) h.2⟩
  | tup cs => exact ⟨h.1, T.vs (p := .tup cs) h.2⟩
  | fn f caps => exact ⟨h.1, T.vs (p := .fn f caps) h.2⟩
  | un => exact ⟨h.1, T.vs (p := .un) h.2⟩
  | obj o => exact h
  | dead => exact ⟨h.1, trivial⟩
theorem wkS_own {S1 : Nat → Prop} {p q : PV} {u : Value} {L : List Nat} (h : wkS p q) (ho : OwnS S1 w β σ p u L) : Wk w S1 u L fun S L => OwnS S w β σ q u L := by
  rcases h with rfl | ⟨rfl, o, k, rfl⟩ | ⟨k, l, rfl, rfl⟩
  · exact ⟨L, List.Sublist.refl _, fun S2 hS _ => ho.up hS⟩
  · obtain ⟨rfl, e⟩ := ho
    have e : u = .slice none 0 0 := e
    subst e
    refine ⟨[], List.Sublist.refl _, fun S2 hS _ => ?_⟩
    cases o with
    | true => exact .inl ⟨rfl, rfl, rfl⟩
    | false => exact ⟨rfl, rfl, Row.nil⟩
  · exact ⟨[], List.nil_sublist _, fun S2 hS hL => ⟨rfl, rfl, Own.row ho hS fun b hb => hL b hb (by simp)⟩⟩
theorem All3.wk {wk : PV → PV → Prop} {R : (Nat → Prop) → PV → Value → List Nat → Prop} {S1 : Nat → Prop} (hwk : ∀ p q u L, L.Nodup → wk p q → R S1 p u L → Wk w S1 u L fun S L => R S q u L) : ∀ {ps qs : List PV} {us : List Value} {L : List Nat}, L.Nodup → All2 wk ps qs → All3 (R S1) ps us L → Wk w S1 undef L fun S L => All3 (R S) qs us L
  | [], [], [], L, _, _, h => ⟨[], List.nil_sublist _, fun _ _ _ => rfl⟩
  | p :: ps, q :: qs, u :: us, L, hn, ⟨h1, h2⟩, ⟨L1, L2, e, h3, h4⟩ => by
    subst e
    obtain ⟨n1, n2, n3⟩ := List.nodup_append.1 hn
    obtain ⟨L1', s1, k1⟩ := hwk _ _ _ _ n1 h1 h3
    obtain ⟨L2', s2, k2⟩ := All3.wk hwk n2 h2 h4
    refine ⟨L1' ++ L2', s1.append s2, fun S2 hS hL => ⟨L1', L2', rfl, k1 S2 hS fun b hb hb' => hL b (by simp [hb]) ?_, k2 S2 hS fun b hb hb' => hL b (by simp [hb]) ?_⟩⟩
    · intro hm
      rcases List.mem_append.1 hm with hm | hm
      · exact hb' hm
      · exact n3 b hb b (s2.mem hm) rfl
    · intro hm
      rcases List.mem_append.1 hm with hm | hm
      · exact n3 b (s1.mem hm) b hb rfl
      · exact hb' hm
  | [], _ :: _, _, _, _, h, _ => h.elim
  | _ :: _, [], _, _, _, h, _ => h.elim
  | [], [], _ :: _, _, _, _, h => h.elim
  | _ :: _, _ :: _, [], _, _, _, h => h.elim
theorem wkS_own1 {S : Nat → Prop} {p q : PV} {u : Value} {L : List Nat} (h : wkS p q) : (Own1 S w β σ p u L → p = q ∨ OwnS S w β σ p u L) ∧ (OwnS S w β σ q u L → p = q ∨ Own1 S w β σ q u L) := by
  rcases h with rfl | ⟨rfl, o, k, rfl⟩ | ⟨k, l, rfl, rfl⟩
  · exact ⟨fun _ => .inl rfl, fun _ => .inl rfl⟩
  · exact ⟨fun h => .inr h, fun h => .inr h⟩
  · exact ⟨fun h => .inr h, fun h => .inr h⟩
theorem Own1.up {S1 S2 : Nat → Prop} {p : PV} {u : Value} {L : List Nat} (h : Own1 S1 w β σ p u L) (hS : ∀ b, S1 b → S2 b) : Own1 S2 w β σ p u L := by
  by_cases ha : ∃ cs, p = .agg cs
  · obtain ⟨cs, rfl⟩ := ha
    obtain ⟨us, e, h⟩ := h
    exact ⟨us, e, All3.mono (fun a b L' _ h => OwnS.up h hS) h⟩
  · have h' : OwnS S1 w β σ p u L := by cases p <;> first | exact h | exact absurd ⟨_, rfl⟩ ha
    have := OwnS.up h' hS
    cases p <;> first | exact this | exact absurd ⟨_, rfl⟩ ha
theorem wk1_own {S1 : Nat → Prop} {p q : PV} {u : Value} {L : List Nat} (hn : L.Nodup) (h : wk1 p q) (ho : Own1 S1 w β σ p u L) : Wk w S1 u L fun S L => Own1 S w β σ q u L := by
  rcases h with h | ⟨cs, ds, rfl, rfl, h⟩
  · rcases (wkS_own1 (w := w) (β := β) (σ := σ) h).1 ho with rfl | ho'
    · exact ⟨L, List.Sublist.refl _, fun S2 hS _ => ho.up hS⟩
    · obtain ⟨L', s, k⟩ := wkS_own h ho'
      refine ⟨L', s, fun S2 hS hL => ?_⟩
      rcases (wkS_own1 (w := w) (β := β) (σ := σ) h).2 (k S2 hS hL) with rfl | h2
      · have h3 := k S2 hS hL
        by_cases ha : ∃ cs, p = .agg cs
        · obtain ⟨cs, rfl⟩ := ha
          exact h3.2.elim
        · cases p <;> first | exact h3 | exact absurd ⟨_, rfl⟩ ha
      · exact h2
  · obtain ⟨us, rfl, ho⟩ := ho
    obtain ⟨L', s, k⟩ := All3.wk (R := fun S p u L => OwnS S w β σ p u L) (fun p q u L _ h ho => wkS_own h ho) hn h ho
    exact ⟨L', s, fun S2 hS hL => ⟨us, rfl, k S2 hS hL⟩⟩
theorem OwnV.up {S1 S2 : Nat → Prop} {p : PV} {u : Value} {L : List Nat} (h : OwnV S1 w β σ p u L) (hS : ∀ b, S1 b → S2 b) : OwnV S2 w β σ p u L := by
  by_cases ha : ∃ cs, p = .tup cs
  · obtain ⟨cs, rfl⟩ := ha
    obtain ⟨us, e, h⟩ := h
    exact ⟨us, e, All3.mono (fun a b L' _ h => Own1.up h hS) h⟩
  · have h' : Own1 S1 w β σ p u L := by cases p <;> first | exact h | exact absurd ⟨_, rfl⟩ ha
    have := Own1.up h' hS
    cases p <;> first | exact this | exact absurd ⟨_, rfl⟩ ha
theorem wkV_own {S1 : Nat → Prop} {p q : PV} {u : Value} {L : List Nat} (hn : L.Nodup) (h : wkV p q) (ho : OwnV S1 w β σ p u L) : Wk w S1 u L fun S L => OwnV S w β σ q u L := by
  rcases h with h | ⟨cs, ds, rfl, rfl, h⟩
  · by_cases hpq : p = q
    · subst hpq
      exact ⟨L, List.Sublist.refl _, fun S2 hS _ => ho.up hS⟩
    · have hp : ∀ cs, p ≠ .tup cs := by
        rintro cs rfl
        rcases h with (h | ⟨h, _⟩ | ⟨_, _, h, _⟩) | ⟨_, _, h, _⟩
        · exact hpq h
        · cases h
        · cases h
        · cases h
      have hq : ∀ cs, q ≠ .tup cs := by
        rintro cs rfl
        rcases h with (h | ⟨_, _, _, h⟩ | ⟨_, _, _, h⟩) | ⟨_, _, _, h, _⟩
        · exact hpq h
        · cases h
        · cases h
        · cases h
      have ho' : Own1 S1 w β σ p u L := by cases p <;> first | exact ho | exact absurd rfl (hp _)
      obtain ⟨L', s, k⟩ := wk1_own hn h ho'
      refine ⟨L', s, fun S2 hS hL => ?_⟩
      have h2 := k S2 hS hL
      cases q <;> first | exact h2 | exact absurd rfl (hq _)
  · obtain ⟨us, rfl, ho⟩ := ho
    obtain ⟨L', s, k⟩ := All3.wk (R := fun S p u L => Own1 S w β σ p u L) (fun p q u L hn h ho => wk1_own hn h ho) hn h ho
    exact ⟨L', s, fun S2 hS hL => ⟨us, rfl, k S2 hS hL⟩⟩
end
theorem Arrive.mono {P : Program} {f : FuncId} {xs : Array Value} {w : World} {R R' : Ending → World → Prop} (h : Arrive P f xs w R) (hr : ∀ e w', R e w' → R' e w') : Arrive P f xs w R' := by
  unfold Arrive at h ⊢
  split at h
  · exact hr _ _ h
  · exact Calls.mono h hr
  · exact h.elim
open Go.RowKit
section
variable {P : Program} {PC : Con} {X : Ctx} {nt : Nat} {Q : Exit → Act → World → Prop} {ε : Env} {a : Act} {w : World} {o : Oper} {v : PV} {s' : Sto} {r wr : List Nat}
theorem own_frozenS {S S' : Nat → Prop} {w : World} {β β' : Nat → Option (Nat × Nat)} {σ σ' : Sto} {p : PV} {u : Value} {L : List Nat} (hp : noOwnS p = true) (h : OwnS S w β σ p u L) (hS : ∀ b, S b → S' b) : L = [] ∧ ValS S' w β' σ' p u := by
  cases p with
  | row own k l =>
    cases own with
    | true => cases hp
    | false => obtain ⟨rfl, _, h⟩ := h; exact ⟨rfl, rfl, h.mono hS fun _ _ _ _ h => h⟩
  | v x => exact h
  | nil => exact h
  | ref => cases hp
  | ptr => cases hp
  | eptr k l i j => obtain ⟨rfl, b, off, h1, h2, h3⟩ := h; exact ⟨rfl, b, off, h1, h2, h3.mono hS fun _ _ _ _ h => h⟩
  | agg cs => exact ⟨h.1, h.2⟩
  | tup vs => exact ⟨h.1, h.2⟩
  | fn f caps =>
    obtain ⟨rfl, us, h1, h2⟩ := h
    have : caps = [] := by cases caps <;> simp_all [noOwnS]
    subst this
    refine ⟨rfl, us, h1, ?_⟩
    cases hu : us.toList with
    | nil => trivial
    | cons x xs => rw [hu] at h2; exact h2.elim
  | un => exact h
  | obj o => cases hp
  | dead => exact h
theorem own_frozen {S S' : Nat → Prop} {w : World} {β β' : Nat → Option (Nat × Nat)} {σ σ' : Sto} {p : PV} {u : Value} {L : List Nat} (hp : noOwn p = true) (h : Own1 S w β σ p u L) (hS : ∀ b, S b → S' b) : L = [] ∧ Val1 S' w β' σ' p u := by
  by_cases ha : ∃ cs, p = .agg cs
  · obtain ⟨cs, rfl⟩ := ha
    obtain ⟨us, rfl, h⟩ := h
    have : ∀ {cs : List PV} {us : List Value} {L : List Nat}, cs.all noOwnS = true → All3 (OwnS S w β σ) cs us L → L = [] ∧ All2 (ValS S' w β' σ') cs us := by
      intro cs
      induction cs with
      | nil => intro us L _ h; cases us with
        | nil => exact ⟨h, trivial⟩
        | cons => exact h.elim
      | cons c cs ih => intro us L hall h; cases us with
        | nil => exact h.elim
        | cons u us =>
          simp only [List.all_cons, Bool.and_eq_true] at hall
          obtain ⟨L1, L2, rfl, h1, h2⟩ := h
          obtain ⟨rfl, k1⟩ := own_frozenS (β' := β') (σ' := σ') hall.1 h1 hS
          obtain ⟨rfl, k2⟩ := ih hall.2 h2
          exact ⟨rfl, k1, k2⟩
    obtain ⟨h1, h2⟩ := this hp h
    exact ⟨h1, us, rfl, h2⟩
  · have e1 : Own1 S w β σ p u L = OwnS S w β σ p u L := by cases p <;> first | rfl | exact absurd ⟨_, rfl⟩ ha
    have e2 : noOwn p = noOwnS p := by cases p <;> first | rfl | exact absurd ⟨_, rfl⟩ ha
    rw [e1] at h
    rw [e2] at hp
    obtain ⟨h1, h2⟩ := own_frozenS (β' := β') (σ' := σ') hp h hS
    refine ⟨h1, ?_⟩
    cases p <;> first | exact h2 | exact absurd ⟨_, rfl⟩ ha
theorem args_frozen {S S' : Nat → Prop} {w : World} {β β' : Nat → Option (Nat × Nat)} {σ σ' : Sto} : ∀ {ps : List PV} {us : List Value} {L : List Nat}, ps.all noOwn = true → All3 (Own1 S w β σ) ps us L → (∀ b, S b → S' b) → L = [] ∧ All2 (Val1 S' w β' σ') ps us
  | [], [], L, _, h, _ => ⟨h, trivial⟩
  | p :: ps, u :: us, L, hall, ⟨L1, L2, e, h1, h2⟩, hS => by
    subst e
    simp only [List.all_cons, Bool.and_eq_true] at hall
    obtain ⟨rfl, k1⟩ := own_frozen (β' := β') (σ' := σ') hall.1 h1 hS
    obtain ⟨rfl, k2⟩ := args_frozen (β' := β') (σ' := σ') hall.2 h2 hS
    exact ⟨rfl, k1, k2⟩
  | [], _ :: _, _, _, h, _ => h.elim
  | _ :: _, [], _, _, h, _ => h.elim
theorem val1_valC {S : Nat → Prop} {w : World} {β : Nat → Option (Nat × Nat)} {σ : Sto} {p : PV} {u : Value} (h : Val1 S w β σ p u) : ValC S w β σ p u := by
  cases p <;> first | exact h | exact h.elim
/-- The end of a function's body: what it returns, said in a weaker form. -/
def retW (nt : Nat) (rs : List ResultVar) (r : PV) (e : Exit) (ε : Env) : Prop := ∃ r0, wkV r0 r ∧ retP nt rs r0 e ε
/-- A function without boxes from outside: its contract out of the walk of its body. -/
theorem PCalls.pure (hF : Facts P) {G : Nat} {E : World → Prop} (hcl : ∀ w w' : World, E w → (∀ b, b < G → w'.heap[b]? = w.heap[b]?) → E w') {f : FuncId} {fn : Func} {c : Code} (hf : P.funcs[f]? = some fn) (hname : (fn.name == "runtime.NumGoroutine") = false) (hb : fn.body = some c) {args : List PV} {r : PV} (hown : args.all noOwn = true) (hlen : args.length ≤ fn.ntmps)
    (h : ∀ X : Ctx, X.E = E → X.ext = [] → X.G = G → XW P X fn.ntmps c (initE args) (retW fn.ntmps fn.results.toList r)) : PCalls P G E f args [] r [] := by
  refine ⟨rfl, fun w S us locs La Le hG hE hl1 hl2 hnd hF0 hS hargs hext => ?_⟩
  obtain rfl : locs = [] := List.eq_nil_of_length_eq_zero hl1
  obtain rfl : Le = [] := List.eq_nil_of_length_eq_zero hl2
  let X : Ctx := { w0 := w, F := [], ext := [], lens := [], E := E, S := S, few := by simp, G := G, hG := by simp, hw := hG, cl := hcl }
  obtain ⟨rfl, hall⟩ := args_frozen (β' := fun _ => none) (σ' := fun _ => ⟨0, none⟩) (S' := Fz X w (fun _ => []) (fun _ => ⟨0, none⟩)) hown hargs (fun b hb => ⟨(hS b hb).1, (by rintro ⟨id, blk, h1, _⟩; cases h1), .inl hb⟩)
  have hul : us.length = args.length := hall.len.symm
  have hst : St X (initE args) w (us.toArray ++ Array.replicate (fn.ntmps - us.toArray.size) undef) (fun _ => none) (fun _ => []) := by
    refine ⟨fun t u hu => ?_, fun id b hb => (by cases hb), fun id b hb => (by cases hb), fun id b hb => (by cases hb), fun id id' b b' hb => (by cases hb), fun id b hb => (by cases hb), fun j p hp => (by cases hp), ?_, hE, fun b hb => hb⟩
    · show ValC _ _ _ _ ((args[t]?).getD .un) u
      by_cases ht : t < args.length
      · rw [Array.getElem?_append_left (by simp; omega)] at hu
        obtain ⟨u', hu', hv⟩ := hall.get t args[t] (by simp [ht])
        have hu2 : us[t]? = some u := by simpa using hu
        rw [hu2] at hu'; cases hu'
        simp only [List.getElem?_eq_getElem ht, Option.getD_some]
        exact val1_valC hv
      · rw [Array.getElem?_append_right (by simp; omega)] at hu
        rw [List.getElem?_eq_none (by omega)]
        have hu2 := (Array.mem_of_getElem? hu)
        exact (Array.mem_replicate.1 hu2).2
    · exact ⟨rfl, rfl, rfl, Nat.le_refl _, fun _ _ _ => rfl, fun j b off n hj => by cases hj⟩
  refine Arrive.of hf hname hb (calls_of_wp hf hb (wp_mono (h X rfl rfl rfl _ w ⟨by simp; omega, rfl, _, _, hst⟩) fun e a' w' hq => ?_))
  obtain ⟨ε', ⟨hs', hd', β, N, hst'⟩, hret⟩ := hq
  cases e
  case exit => exact (hret.elim fun _ h => h.2.elim)
  case goto => exact (hret.elim fun _ h => h.2.elim)
  case panic => exact (hret.elim fun _ h => h.2.elim)
  case outgrown => exact (hret.elim fun _ h => h.2.elim)
  all_goals
    obtain ⟨r0, hwk, hret⟩ := hret
    obtain ⟨vs, qs, A, B, h1, h2, rfl, h4, h5⟩ := hret
    obtain ⟨us', hus, hall'⟩ := resL_run hF hst' hs' h1
    refine ⟨hd', _, results_run hus, ?_⟩
    obtain ⟨lA, lB⟩ := close1L_live h2
    have hA := nodupB_spec h4
    have hdis : ∀ id ∈ A, id ∉ B := fun id h1 h2 => by
      have := List.all_eq_true.1 h5 id h1
      simp [h2] at this
    have hnF : ∀ b, b < w'.heap.size → (∀ id ∈ A, b ∉ N id) → b ∉ (A.map N).flatten := fun b _ h hm => by
      obtain ⟨q, hq, hb⟩ := List.mem_flatten.1 hm
      obtain ⟨id, hid, rfl⟩ := List.mem_map.1 hq
      exact h id hid hb
    obtain ⟨k1, k2⟩ := close1L_spec (S' := fun b => (S b ∨ b ∈ ([] : List Nat) ++ ([] : List (List Nat)).flatten ∨ w.heap.size ≤ b) ∧ b < w'.heap.size ∧ b ∉ ([] : List (Nat × Nat)).map (·.1) ++ (A.map N).flatten ++ ([] : List (List Nat)).flatten) (β' := extB []) (σ' := extS []) hst'
      (fun b hb => ⟨by simpa [X] using hb.2.2, hb.1, by
        simp only [List.map_nil, List.nil_append, List.flatten_nil, List.append_nil]
        exact hnF b hb.1 fun id hid hm => hb.2.1 (by obtain ⟨blk, hbk⟩ := lA id hid; exact ⟨id, blk, hbk, hm⟩)⟩) hall' h2
      (fun id hid b hb => by
        obtain ⟨blk, hbk⟩ := lB id hid
        refine ⟨(hst'.new id blk hbk b hb).elim (fun h => absurd h (by simp [X])) fun h => .inr (.inr h), hst'.lt id blk hbk b hb, ?_⟩
        simp only [List.map_nil, List.nil_append, List.flatten_nil, List.append_nil]
        exact hnF b (hst'.lt id blk hbk b hb) fun id2 hid2 hm => by
          obtain ⟨blk2, hbk2⟩ := lA id2 hid2
          exact hst'.disj id2 id _ _ hbk2 hbk (fun e => hdis id2 hid2 (e ▸ hid)) b hm hb)
    have hone : ∀ {qs : List PV} {us : List Value} {L : List Nat} {S : Nat → Prop} {β : Nat → Option (Nat × Nat)} {σ : Sto}, All3 (Own1 S w' β σ) qs us L → OwnV S w' β σ (oneOr qs) (oneVal us) L := by
      intro qs us L S β σ h
      match qs, us, h with
      | [], [], h => exact ⟨#[], rfl, h⟩
      | [q], [u], ⟨L1, L2, e, h1, h2⟩ =>
        have : L2 = [] := h2
        subst this
        rw [List.append_nil] at e
        subst e
        show OwnV _ _ _ _ q u L
        cases q <;> first | exact h1 | exact h1.2.elim
      | q1 :: q2 :: qs, u1 :: u2 :: us, h => exact ⟨(u1 :: u2 :: us).toArray, rfl, by simpa using h⟩
      | [], _ :: _, h => exact h.elim
      | _ :: _, [], h => exact h.elim
      | [_], _ :: _ :: _, ⟨_, _, _, _, h⟩ => exact h.elim
      | _ :: _ :: _, [_], ⟨_, _, _, _, h⟩ => exact h.elim
    have hnd2 := hst'.nodups hA lA
    have hnew2 : ∀ b ∈ (A.map N).flatten, w.heap.size ≤ b ∧ b < w'.heap.size := fun b hb => by
      obtain ⟨q, hq, hb⟩ := List.mem_flatten.1 hb
      obtain ⟨id, hid, rfl⟩ := List.mem_map.1 hq
      obtain ⟨blk, hbk⟩ := lA id hid
      refine ⟨?_, hst'.lt id blk hbk b hb⟩
      rcases hst'.new id blk hbk b hb with h | h
      · cases h
      · exact h
    obtain ⟨L', hsub, hk⟩ := wkV_own hnd2 hwk (hone k2)
    refine ⟨_, L', [], rfl, rfl, ?_, fun b hb => ?_, ?_, fun j p cs L hj => by simp at hj, ?_⟩
    · simpa using hsub.nodup hnd2
    · simp only [List.flatten_nil, List.append_nil] at hb
      have := hnew2 b (hsub.mem hb)
      exact ⟨.inr this.1, this.2⟩
    · refine hk _ (fun b hb => ⟨hb.1, hb.2.1, fun hm => hb.2.2 ?_⟩) fun b hb hb' => ⟨.inr (.inr (hnew2 b hb).1), (hnew2 b hb).2, by simpa using hb'⟩
      simp only [List.map_nil, List.nil_append, List.flatten_nil, List.append_nil] at hm ⊢
      exact hsub.mem hm
    · obtain ⟨f1, f2, f3, f4, f5, _⟩ := hst'.frm
      exact ⟨f1, f2, f3, f4, fun b hb _ => f5 b hb (by simp [X]), fun j b off n hj => by simp at hj⟩
end
open Go.RowKit
section
variable {P : Program} {PC : Con} {X : Ctx} {nt : Nat} {Q : Exit → Act → World → Prop} {ε : Env} {a : Act} {w : World} {o : Oper} {v : PV} {s' : Sto} {r wr : List Nat}
/-- A number takes over a row that nobody else holds. -/
theorem StS.open {S : Nat → Prop} {tm : Array Value} {β : Nat → Option (Nat × Nat)} {N : Nat → List Nat} (h : StS X S ε w tm β N) {id ver : Nat} (hid : ∀ p, X.ext[id]? ≠ some p) (hver : (ε.s id).ver < ver) {k : K} {u : Value} {l : List (ty k)} {L : List Nat} (ho : Own S w k u l L)
    (hS : ∀ x ∈ L, ¬ S x) (hnew : ∀ x ∈ L, x ∈ X.F ∨ X.w0.heap.size ≤ x) (hdj : ∀ id b, (ε.s id).blk = some b → ∀ x ∈ L, x ∉ N id) :
    ∃ p, StS X S ⟨ε.t, upd ε.s id ⟨ver, some (.rowb k l)⟩⟩ w tm (upd β id p) (upd N id L) ∧ Tr S S w w β (upd β id p) ε.s (upd ε.s id ⟨ver, some (.rowb k l)⟩) ∧ ValS S w (upd β id p) (upd ε.s id ⟨ver, some (.rowb k l)⟩) (.ref id ver 0 l.length true) u := by
  have hlt := ho.lt
  have hnd := ho.nodup
  obtain ⟨p, hp⟩ : ∃ p : Option (Nat × Nat), (p = none ∧ l = [] ∧ L = [] ∧ u = .slice none 0 0) ∨ ∃ b cap cur, p = some (b, 0) ∧ u = .slice (some ⟨b, 0, none⟩) l.length cap ∧ L = [b] ∧ OwnAt S w b l cap cur := by
    rcases ho with ⟨h1, h2, h3⟩ | ⟨g, cap, cur, h1, h2, h3⟩
    · exact ⟨none, .inl ⟨rfl, h2, h3, h1⟩⟩
    · exact ⟨some (g, 0), .inr ⟨g, cap, cur, rfl, h1, h2, h3⟩⟩
  refine ⟨p, ?_⟩
  have T : Tr S S w w β (upd β id p) ε.s (upd ε.s id ⟨ver, some (.rowb k l)⟩) := by
    refine ⟨fun h => h, fun {i v o n f u} hr => ?_, fun {i v i' j' u} hr => ?_⟩
    · obtain ⟨k1, k2, k3⟩ := hr
      by_cases hi : i = id
      · subst hi
        refine ⟨by rw [upd_same]; exact Nat.le_of_lt (Nat.lt_of_le_of_lt k1 hver), k2, fun k l e => ?_⟩
        rw [upd_same] at e; cases e; omega
      · refine ⟨by rw [upd_ne _ _ hi]; exact k1, k2, fun k l e => ?_⟩
        rw [upd_ne _ _ hi] at e
        rw [upd_ne _ _ hi]
        exact k3 k l e
    · obtain ⟨k1, k2, k3⟩ := hr
      by_cases hi : i = id
      · subst hi
        refine ⟨by rw [upd_same]; exact Nat.le_of_lt (Nat.lt_of_le_of_lt k1 hver), k2, fun blk e => ?_⟩
        rw [upd_same] at e; cases e; omega
      · refine ⟨by rw [upd_ne _ _ hi]; exact k1, k2, fun blk e => ?_⟩
        rw [upd_ne _ _ hi] at e
        rw [upd_ne _ _ hi]
        exact k3 blk e
  refine ⟨⟨fun t u hu => T.vc (h.tmp t u hu), fun i b hb => ?_, fun i b hb => ?_, fun i b hb => ?_, fun i i' b b' hb hb' hne => ?_, fun i b hb => ?_, fun j q hj => ?_, h.frm, h.env, fun b hb => ?_⟩, T, ?_⟩
  · by_cases hi : i = id
    · subst hi
      simp only [upd_same] at hb
      cases hb
      rw [upd_same]
      rcases hp with ⟨h1, h2, h3, h4⟩ | ⟨b, cap, cur, h1, h2, h3, h4⟩
      · exact .inl ⟨by rw [upd_same]; exact h1, h2, h3⟩
      · exact .inr ⟨b, cap, cur, by rw [upd_same]; exact h1, h3, h4⟩
    · simp only [upd_ne _ _ hi] at hb
      rw [upd_ne _ _ hi]
      exact T.blk (upd_ne _ _ hi) (fun _ _ => rfl) (h.blk i b hb)
  · by_cases hi : i = id
    · subst hi; rw [upd_same]; exact hlt
    · simp only [upd_ne _ _ hi] at hb; rw [upd_ne _ _ hi]; exact h.lt i b hb
  · by_cases hi : i = id
    · subst hi; rw [upd_same]; exact hnd
    · simp only [upd_ne _ _ hi] at hb; rw [upd_ne _ _ hi]; exact h.nodup i b hb
  · by_cases hi : i = id
    · subst hi
      have hi' : i' ≠ i := fun e => hne e.symm
      simp only [upd_ne _ _ hi'] at hb'
      rw [upd_same, upd_ne _ _ hi']
      exact hdj i' b' hb'
    · by_cases hi' : i' = id
      · subst hi'
        simp only [upd_ne _ _ hi] at hb
        rw [upd_same, upd_ne _ _ hi]
        exact fun x hx hx' => hdj i b hb x hx' hx
      · simp only [upd_ne _ _ hi] at hb
        simp only [upd_ne _ _ hi'] at hb'
        rw [upd_ne _ _ hi, upd_ne _ _ hi']
        exact h.disj i i' b b' hb hb' hne
  · by_cases hi : i = id
    · subst hi; rw [upd_same]; exact hnew
    · simp only [upd_ne _ _ hi] at hb; rw [upd_ne _ _ hi]; exact h.new i b hb
  · have hi : j ≠ id := fun e => hid q (e ▸ hj)
    simp only [upd_ne _ _ hi]
    exact h.ext j q hj
  · obtain ⟨h1, h2, h2'⟩ := h.fz b hb
    refine ⟨h1, ?_, h2'⟩
    rintro ⟨i, blk, h3, h4⟩
    by_cases hi : i = id
    · subst hi; rw [upd_same] at h4; exact hS b h4 hb
    · simp only [upd_ne _ _ hi] at h3; rw [upd_ne _ _ hi] at h4; exact h2 ⟨i, blk, h3, h4⟩
  · refine ⟨by rw [upd_same]; exact Nat.le_refl _, ?_, fun k2 l2 e => ?_⟩
    · rcases hp with ⟨h1, h2, h3, h4⟩ | ⟨b, cap, cur, h1, h2, h3, h4⟩
      · exact ⟨_, _, _, h4⟩
      · exact ⟨_, _, _, h2⟩
    · rw [upd_same] at e
      cases e
      refine ⟨by omega, ?_⟩
      rw [upd_same]
      rcases hp with ⟨h1, h2, h3, h4⟩ | ⟨b, cap, cur, h1, h2, h3, h4⟩
      · exact .inl ⟨h1, h4⟩
      · refine .inr ⟨b, cap, 0, h1, h4.2.2.1, h2, fun _ => by rw [Nat.zero_mul], fun _ => ⟨rfl, rfl, fun c2 E2 fz2 hc2 => ?_⟩⟩
        obtain ⟨fz, hh, _⟩ := h4.2.1
        rw [hh] at hc2
        cases hc2
        exact h4.2.2.2.2.1
theorem StS.openO {S : Nat → Prop} {tm : Array Value} {β : Nat → Option (Nat × Nat)} {N : Nat → List Nat} (h : StS X S ε w tm β N) {id ver : Nat} (hid : ∀ p, X.ext[id]? ≠ some p) (hver : (ε.s id).ver < ver) {o : Obj} {u : Value} {b0 : Nat} (hu0 : u = objV o b0) (hb0 : w.heap[b0]? = some o)
    (hS : ∀ x ∈ [b0], ¬ S x) (hnew : ∀ x ∈ [b0], x ∈ X.F ∨ X.w0.heap.size ≤ x) (hdj : ∀ id b, (ε.s id).blk = some b → ∀ x ∈ [b0], x ∉ N id) :
    StS X S ⟨ε.t, upd ε.s id ⟨ver, some (.objb o)⟩⟩ w tm (upd β id (some (b0, 0))) (upd N id [b0]) ∧ Tr S S w w β (upd β id (some (b0, 0))) ε.s (upd ε.s id ⟨ver, some (.objb o)⟩) ∧ ValS S w (upd β id (some (b0, 0))) (upd ε.s id ⟨ver, some (.objb o)⟩) (.ptr id ver 0 0) u := by
  have hlt : ∀ x ∈ [b0], x < w.heap.size := fun x hx => by have e := List.mem_singleton.1 hx; subst e; exact (Array.getElem?_eq_some_iff.1 hb0).1
  have hnd : [b0].Nodup := by simp
  have T : Tr S S w w β (upd β id (some (b0, 0))) ε.s (upd ε.s id ⟨ver, some (.objb o)⟩) := by
    refine ⟨fun h => h, fun {i v o n f u} hr => ?_, fun {i v i' j' u} hr => ?_⟩
    · obtain ⟨k1, k2, k3⟩ := hr
      by_cases hi : i = id
      · subst hi
        refine ⟨by rw [upd_same]; exact Nat.le_of_lt (Nat.lt_of_le_of_lt k1 hver), k2, fun k l e => ?_⟩
        rw [upd_same] at e; cases e
      · refine ⟨by rw [upd_ne _ _ hi]; exact k1, k2, fun k l e => ?_⟩
        rw [upd_ne _ _ hi] at e
        rw [upd_ne _ _ hi]
        exact k3 k l e
    · obtain ⟨k1, k2, k3⟩ := hr
      by_cases hi : i = id
      · subst hi
        refine ⟨by rw [upd_same]; exact Nat.le_of_lt (Nat.lt_of_le_of_lt k1 hver), k2, fun blk e => ?_⟩
        rw [upd_same] at e; cases e; omega
      · refine ⟨by rw [upd_ne _ _ hi]; exact k1, k2, fun blk e => ?_⟩
        rw [upd_ne _ _ hi] at e
        rw [upd_ne _ _ hi]
        exact k3 blk e
  refine ⟨⟨fun t u hu => T.vc (h.tmp t u hu), fun i b hb => ?_, fun i b hb => ?_, fun i b hb => ?_, fun i i' b b' hb hb' hne => ?_, fun i b hb => ?_, fun j q hj => ?_, h.frm, h.env, fun b hb => ?_⟩, T, ?_⟩
  · by_cases hi : i = id
    · subst hi
      simp only [upd_same] at hb
      cases hb
      rw [upd_same]
      exact ⟨b0, by rw [upd_same], rfl, hb0⟩
    · simp only [upd_ne _ _ hi] at hb
      rw [upd_ne _ _ hi]
      exact T.blk (upd_ne _ _ hi) (fun _ _ => rfl) (h.blk i b hb)
  · by_cases hi : i = id
    · subst hi; rw [upd_same]; exact hlt
    · simp only [upd_ne _ _ hi] at hb; rw [upd_ne _ _ hi]; exact h.lt i b hb
  · by_cases hi : i = id
    · subst hi; rw [upd_same]; exact hnd
    · simp only [upd_ne _ _ hi] at hb; rw [upd_ne _ _ hi]; exact h.nodup i b hb
  · by_cases hi : i = id
    · subst hi
      have hi' : i' ≠ i := fun e => hne e.symm
      simp only [upd_ne _ _ hi'] at hb'
      rw [upd_same, upd_ne _ _ hi']
      exact hdj i' b' hb'
    · by_cases hi' : i' = id
      · subst hi'
        simp only [upd_ne _ _ hi] at hb
        rw [upd_same, upd_ne _ _ hi]
        exact fun x hx hx' => hdj i b hb x hx' hx
      · simp only [upd_ne _ _ hi] at hb
        simp only [upd_ne _ _ hi'] at hb'
        rw [upd_ne _ _ hi, upd_ne _ _ hi']
        exact h.disj i i' b b' hb hb' hne
  · by_cases hi : i = id
    · subst hi; rw [upd_same]; exact hnew
    · simp only [upd_ne _ _ hi] at hb; rw [upd_ne _ _ hi]; exact h.new i b hb
  · have hi : j ≠ id := fun e => hid q (e ▸ hj)
    simp only [upd_ne _ _ hi]
    exact h.ext j q hj
  · obtain ⟨h1, h2, h2'⟩ := h.fz b hb
    refine ⟨h1, ?_, h2'⟩
    rintro ⟨i, blk, h3, h4⟩
    by_cases hi : i = id
    · subst hi; rw [upd_same] at h4; exact hS b h4 hb
    · simp only [upd_ne _ _ hi] at h3; rw [upd_ne _ _ hi] at h4; exact h2 ⟨i, blk, h3, h4⟩
  · refine ⟨by rw [upd_same]; exact Nat.le_refl _, ?_, fun blk e => ?_⟩
    · subst hu0
      cases o <;> first | exact .inl ⟨_, rfl⟩ | exact .inr ⟨_, rfl⟩
    · rw [upd_same] at e
      cases e
      exact ⟨b0, 0, by rw [upd_same], fun _ => ⟨rfl, hu0⟩⟩
/-- The frozen may be more. -/
theorem StS.wide {S S' : Nat → Prop} {tm : Array Value} {β : Nat → Option (Nat × Nat)} {N : Nat → List Nat} (h : StS X S ε w tm β N) (hS : ∀ b, S b → S' b) (hf : ∀ b, S' b → Fz X w N ε.s b) : StS X S' ε w tm β N ∧ Tr S S' w w β β ε.s ε.s := by
  have T : Tr S S' w w β β ε.s ε.s := ⟨fun h => h.mono hS fun _ _ _ _ h => h, fun h => h, fun h => h⟩
  exact ⟨⟨fun t u hu => T.vc (h.tmp t u hu), fun i b hb => T.blk rfl (fun _ _ => rfl) (h.blk i b hb), h.lt, h.nodup, h.disj, h.new, h.ext, h.frm, h.env, hf⟩, T⟩
/-- A world behind a call that has turned nothing of what was there. -/
theorem StS.after {S : Nat → Prop} {w' : World} {tm : Array Value} {β : Nat → Option (Nat × Nat)} {N : Nat → List Nat} (h : StS X S ε w tm β N) (ho : w'.os = w.os) (ht : w'.tape = w.tape) (hu : w'.output = w.output) (hz : w.heap.size ≤ w'.heap.size) (hsame : ∀ b, b < w.heap.size → w'.heap[b]? = w.heap[b]?) :
    StS X S ε w' tm β N ∧ Tr S S w w' β β ε.s ε.s := by
  have T : Tr S S w w' β β ε.s ε.s := by
    refine ⟨fun hr => hr.mono (fun _ h => h) fun b o u hb hu => cell_same (hsame b (h.fz b hb).1) hu, fun {id ver off n full u} hr => ?_, fun h => h⟩
    obtain ⟨k1, k2, k3⟩ := hr
    refine ⟨k1, k2, fun k l e => ?_⟩
    obtain ⟨e1, e2⟩ := k3 k l e
    refine ⟨e1, ?_⟩
    rcases e2 with e2 | ⟨b, c, o, e2, e3, e4, e5, e6⟩
    · exact .inl e2
    · refine .inr ⟨b, c, o, e2, e3, e4, e5, fun hf => ?_⟩
      obtain ⟨f1, f2, f3⟩ := e6 hf
      refine ⟨f1, f2, fun cur E fz hh => f3 cur E fz ?_⟩
      have hblk := h.blk id _ (by rw [e])
      have hb : b ∈ N id := by
        rcases hblk with ⟨q, _⟩ | ⟨b', cap, cur, q, q2, _⟩
        · rw [e2] at q; cases q
        · rw [e2] at q; cases q; rw [q2]; simp
      rw [← hsame b (h.lt id _ (by rw [e]) b hb)]; exact hh
  refine ⟨⟨fun t u hu => T.vc (h.tmp t u hu), fun i b hb => T.blk rfl (fun x hx => hsame x (h.lt i b hb x hx)) (h.blk i b hb), fun i b hb x hx => Nat.lt_of_lt_of_le (h.lt i b hb x hx) hz, h.nodup, h.disj, h.new, h.ext, h.frm.grow ho ht hu hz hsame, ?_, fun b hb => ?_⟩, T⟩
  · exact X.cl w w' h.env fun b hb => hsame b (by have := X.hw; have := h.frm.size; omega)
  · obtain ⟨h1, h2⟩ := h.fz b hb
    exact ⟨Nat.lt_of_lt_of_le h1 hz, h2⟩
end
open Go.RowKit
/-! ### A call of a function that takes no boxes -/
/-- What goes in: a view is read as the list that it shows (true: a view was among them). -/
def peekS : PV → Eff (PV × Bool)
  | .v x => .ret (.v x, false)
  | .nil => .ret (.nil, false)
  | .row false k l => .ret (.row false k l, false)
  | .eptr k l i j => .ret (.eptr k l i j, false)
  | .fn f [] => .ret (.fn f [], false)
  | .dead => .ret (.dead, false)
  | .ref id ver off n _ => live id ver fun
    | .rowb k l => .ret (.row false k ((l.drop off).take n), true)
    | .box _ => .fail
    | .objb _ => .fail
    | .iterb _ _ _ _ _ => .fail
  | _ => .fail
def peekL : List PV → Eff (List PV × Bool)
  | [] => .ret ([], false)
  | p :: ps => (peekS p).bind fun a => (peekL ps).bind fun b => .ret (a.1 :: b.1, a.2 || b.2)
def peek1 : PV → Eff (PV × Bool)
  | .agg cs => (peekL cs).bind fun a => .ret (.agg a.1, a.2)
  | p => peekS p
def peekA : List PV → Eff (List PV × Bool)
  | [] => .ret ([], false)
  | p :: ps => (peek1 p).bind fun a => (peekA ps).bind fun b => .ret (a.1 :: b.1, a.2 || b.2)
def openS (id : Nat) : PV → Eff PV
  | .row true k l => newBlk id (.rowb k l) fun ver => .ret (.ref id ver 0 l.length true)
  | .obj o => newBlk id (.objb o) fun ver => .ret (.ptr id ver 0 0)
  | .v x => .ret (.v x)
  | .nil => .ret .nil
  | .row false k l => .ret (.row false k l)
  | .eptr k l i j => .ret (.eptr k l i j)
  | .fn f [] => .ret (.fn f [])
  | .dead => .ret .dead
  | _ => .fail
def openL (id : Nat) : List PV → Eff (List PV)
  | [] => .ret []
  | p :: ps => (openS id p).bind fun q => (openL (id + 1) ps).bind fun qs => .ret (q :: qs)
def open1 (id : Nat) : PV → Eff PV
  | .agg cs => (openL id cs).bind fun qs => .ret (.agg qs)
  | p => openS id p
def open1L (id : Nat) : List PV → Eff (List PV)
  | [] => .ret []
  | p :: ps => (open1 id p).bind fun q => (open1L (id + 1000) ps).bind fun qs => .ret (q :: qs)
def openR (id : Nat) : PV → Eff PV
  | .tup vs => (open1L id vs).bind fun qs => .ret (.tup qs)
  | p => open1 id p
def cellsR : PV → List PV
  | .tup vs => vs.flatMap cellsP
  | p => cellsP p
def isOwn : PV → Bool | .row true _ _ => true | .obj _ => true | _ => false
def letS : PV → PV | .row _ k l => .row false k l | .obj _ => .dead | p => p
def let1 : PV → PV | .agg cs => .agg (cs.map letS) | p => letS p
def letR : PV → PV | .tup vs => .tup (vs.map let1) | p => let1 p
def fzS : PV → Bool
  | .row false _ _ => true | .row true k _ => !flat k | .eptr .. => true | .fn _ cs => !cs.isEmpty | _ => false
def fz1 : PV → Bool
  | .agg cs => cs.any fzS
  | p => fzS p
def fzR : PV → Bool
  | .tup vs => vs.any fz1
  | p => fz1 p
def resId (o : Oper) : Nat := match o.dst with
  | some d => 1000000 * (d + 1)
  | none => 1000000
def eCall (o : Oper) (f : FuncId) (args : List PV) : Eff PV :=
  (peekA args).bind fun a => .call f a.1 [] fun r _ =>
    if (a.2 && fzR r) = true then .fail
    else if (cellsR r).any isOwn = true then .or (openR (resId o) r) (openR (resId o) (letR r)) else openR (resId o) r
section
variable {P : Program} {PC : Con} {X : Ctx} {nt : Nat} {Q : Exit → Act → World → Prop} {ε : Env} {a : Act} {w : World} {o : Oper} {v : PV} {s' : Sto} {r wr : List Nat}
theorem own_none {S : Nat → Prop} {w : World} {β : Nat → Option (Nat × Nat)} {σ : Sto} {p : PV} {u : Value} (hp : isOwn p = false) (h : ValS S w β σ p u) : OwnS S w β σ p u [] := by
  cases p with
  | row own k l => cases own with
    | true => cases hp
    | false => exact ⟨rfl, h⟩
  | obj o => cases hp
  | _ => exact ⟨rfl, h⟩
theorem peekS_spec {β : Nat → Option (Nat × Nat)} {N : Nat → List Nat} {tm : Array Value} (h : St X ε w tm β N) {p q : PV} {pk : Bool} {u : Value} {S' : Nat → Prop} {β' : Nat → Option (Nat × Nat)} {σ' : Sto} (hv : ValS (Fz X w N ε.s) w β ε.s p u) (hr : (peekS p).Run PC ε.s (q, pk) s' r wr)
    (hF : ∀ b, Fz X w N ε.s b → S' b) (hpk : pk = true → ∀ b, b < w.heap.size → S' b) : s' = ε.s ∧ ValS S' w β' σ' q u ∧ isOwn q = false := by
  unfold peekS at hr
  split at hr
  · obtain ⟨e, rfl, -, -⟩ := hr; cases e; exact ⟨rfl, hv, rfl⟩
  · obtain ⟨e, rfl, -, -⟩ := hr; cases e; exact ⟨rfl, hv, rfl⟩
  · obtain ⟨e, rfl, -, -⟩ := hr; cases e; exact ⟨rfl, ⟨rfl, hv.2.mono hF fun _ _ _ _ h => h⟩, rfl⟩
  · obtain ⟨e, rfl, -, -⟩ := hr; cases e
    obtain ⟨b, off, h1, h2, h3⟩ := hv
    exact ⟨rfl, ⟨b, off, h1, h2, h3.mono hF fun _ _ _ _ h => h⟩, rfl⟩
  · obtain ⟨e, rfl, -, -⟩ := hr; cases e
    obtain ⟨us, h1, h2⟩ := hv
    refine ⟨rfl, ⟨us, h1, ?_⟩, rfl⟩
    cases hu : us.toList with
    | nil => trivial
    | cons x xs => rw [hu] at h2; exact h2.elim
  · obtain ⟨e, rfl, -, -⟩ := hr; cases e; exact ⟨rfl, trivial, rfl⟩
  · rename_i id ver off n full
    have hv0 : RefC w β ε.s id ver off n full u := hv
    obtain ⟨blk, r', hb, rfl, hr⟩ := live_run hr
    cases blk with
    | box cs => exact hr.elim
    | objb o => exact hr.elim
    | iterb => exact hr.elim
    | rowb k l =>
      obtain ⟨e, rfl, -, -⟩ := hr
      cases e
      have hall := hpk rfl
      exact ⟨rfl, ⟨rfl, RefC.view h hv0 hb hF fun b hbN => hall b (h.lt id _ (by rw [hb]) b hbN)⟩, rfl⟩
  · exact hr.elim
theorem peekL_spec {β : Nat → Option (Nat × Nat)} {N : Nat → List Nat} {tm : Array Value} (h : St X ε w tm β N) {S' : Nat → Prop} {β' : Nat → Option (Nat × Nat)} {σ' : Sto} (hF : ∀ b, Fz X w N ε.s b → S' b) :
    ∀ {ps qs : List PV} {pk : Bool} {us : List Value} {s' : Sto} {r wr : List Nat}, All2 (ValS (Fz X w N ε.s) w β ε.s) ps us → (peekL ps).Run PC ε.s (qs, pk) s' r wr → (pk = true → ∀ b, b < w.heap.size → S' b) → s' = ε.s ∧ All3 (OwnS S' w β' σ') qs us []
  | [], qs, pk, [], s', r, wr, _, hr, _ => by obtain ⟨e, rfl, -, -⟩ := hr; cases e; exact ⟨rfl, rfl⟩
  | p :: ps, qs, pk, u :: us, s', r, wr, ⟨h1, h2⟩, hr, hpk => by
    obtain ⟨a1, s1, r1, w1, r2, w2, k1, k2⟩ := bind_run hr
    obtain ⟨a2, s2, r3, w3, r4, w4, k3, k4⟩ := bind_run k2
    obtain ⟨e, e2, -, -⟩ := k4
    cases e
    subst e2
    obtain ⟨q, p1⟩ := a1
    obtain ⟨qs', p2⟩ := a2
    obtain ⟨rfl, m1, m2⟩ := peekS_spec (S' := S') (β' := β') (σ' := σ') h h1 k1 hF (fun e => hpk (by simp [e]))
    obtain ⟨rfl, m3⟩ := peekL_spec (S' := S') (β' := β') (σ' := σ') h hF h2 k3 (fun e => hpk (by simp [e]))
    exact ⟨rfl, [], [], rfl, own_none m2 m1, m3⟩
  | [], _, _, _ :: _, _, _, _, h, _, _ => h.elim
  | _ :: _, _, _, [], _, _, _, h, _, _ => h.elim
theorem peek1_spec {β : Nat → Option (Nat × Nat)} {N : Nat → List Nat} {tm : Array Value} (h : St X ε w tm β N) {S' : Nat → Prop} {β' : Nat → Option (Nat × Nat)} {σ' : Sto} (hF : ∀ b, Fz X w N ε.s b → S' b)
    {p q : PV} {pk : Bool} {u : Value} (hv : ValC (Fz X w N ε.s) w β ε.s p u) (hr : (peek1 p).Run PC ε.s (q, pk) s' r wr) (hpk : pk = true → ∀ b, b < w.heap.size → S' b) : s' = ε.s ∧ Own1 S' w β' σ' q u [] := by
  by_cases ha : ∃ cs, p = .agg cs
  · obtain ⟨cs, rfl⟩ := ha
    obtain ⟨us, rfl, hv⟩ := hv
    obtain ⟨a1, s1, r1, w1, r2, w2, k1, k2⟩ := bind_run hr
    obtain ⟨e, e2, -, -⟩ := k2
    cases e
    subst e2
    obtain ⟨rfl, m⟩ := peekL_spec (S' := S') (β' := β') (σ' := σ') h hF hv k1 hpk
    exact ⟨rfl, us, rfl, m⟩
  · have hr' : (peekS p).Run PC ε.s (q, pk) s' r wr := by
      cases p <;> first | exact hr | exact absurd ⟨_, rfl⟩ ha
    have hnt : ∀ vs, p ≠ .tup vs := by rintro vs rfl; exact hr'.elim
    obtain ⟨rfl, m1, m2⟩ := peekS_spec (S' := S') (β' := β') (σ' := σ') h (hv.vs (fun cs e => ha ⟨cs, e⟩) hnt) hr' hF hpk
    refine ⟨rfl, ?_⟩
    have hqa : ∀ cs, q ≠ .agg cs := by rintro cs rfl; exact m1.elim
    have := own_none m2 m1
    cases q <;> first | exact this | exact absurd rfl (hqa _)
theorem peekA_spec {β : Nat → Option (Nat × Nat)} {N : Nat → List Nat} {tm : Array Value} (h : St X ε w tm β N) {S' : Nat → Prop} {β' : Nat → Option (Nat × Nat)} {σ' : Sto} (hF : ∀ b, Fz X w N ε.s b → S' b) :
    ∀ {ps qs : List PV} {pk : Bool} {us : List Value} {s' : Sto} {r wr : List Nat}, All2 (ValC (Fz X w N ε.s) w β ε.s) ps us → (peekA ps).Run PC ε.s (qs, pk) s' r wr → (pk = true → ∀ b, b < w.heap.size → S' b) → s' = ε.s ∧ All3 (Own1 S' w β' σ') qs us []
  | [], qs, pk, [], s', r, wr, _, hr, _ => by obtain ⟨e, rfl, -, -⟩ := hr; cases e; exact ⟨rfl, rfl⟩
  | p :: ps, qs, pk, u :: us, s', r, wr, ⟨h1, h2⟩, hr, hpk => by
    obtain ⟨a1, s1, r1, w1, r2, w2, k1, k2⟩ := bind_run hr
    obtain ⟨a2, s2, r3, w3, r4, w4, k3, k4⟩ := bind_run k2
    obtain ⟨e, e2, -, -⟩ := k4
    cases e
    subst e2
    obtain ⟨q, p1⟩ := a1
    obtain ⟨qs', p2⟩ := a2
    obtain ⟨rfl, m1⟩ := peek1_spec (S' := S') (β' := β') (σ' := σ') h hF h1 k1 (fun e => hpk (by simp [e]))
    obtain ⟨rfl, m3⟩ := peekA_spec (S' := S') (β' := β') (σ' := σ') h hF h2 k3 (fun e => hpk (by simp [e]))
    exact ⟨rfl, [], [], rfl, m1, m3⟩
  | [], _, _, _ :: _, _, _, _, h, _, _ => h.elim
  | _ :: _, _, _, [], _, _, _, h, _, _ => h.elim
end
open Go.RowKit
section
variable {P : Program} {PC : Con} {X : Ctx} {nt : Nat} {Q : Exit → Act → World → Prop} {ε : Env} {a : Act} {w : World} {o : Oper} {v : PV} {t : Nat → PV} {s s' : Sto} {r wr : List Nat}
/-- Blocks that wait to be taken over. -/
structure Pend (X : Ctx) (S : Nat → Prop) (s : Sto) (N : Nat → List Nat) (L : List Nat) : Prop where
  nd : L.Nodup
  ns : ∀ x ∈ L, ¬ S x
  new : ∀ x ∈ L, x ∈ X.F ∨ X.w0.heap.size ≤ x
  dj : ∀ id b, (s id).blk = some b → ∀ x ∈ L, x ∉ N id
theorem Pend.left {S : Nat → Prop} {N : Nat → List Nat} {L1 L2 : List Nat} (h : Pend X S s N (L1 ++ L2)) : Pend X S s N L1 :=
  ⟨(List.nodup_append.1 h.nd).1, fun x hx => h.ns x (by simp [hx]), fun x hx => h.new x (by simp [hx]), fun id b hb x hx => h.dj id b hb x (by simp [hx])⟩
/-- What is held behind an opening: what was held, and blocks of the list. -/
def Held (s : Sto) (N : Nat → List Nat) (s' : Sto) (N' : Nat → List Nat) (L : List Nat) : Prop := ∀ id b, (s' id).blk = some b → ∀ x ∈ N' id, x ∈ L ∨ ∃ b', (s id).blk = some b' ∧ x ∈ N id
theorem Held.refl {N : Nat → List Nat} {L : List Nat} : Held s N s N L := fun id b hb x hx => .inr ⟨b, hb, hx⟩
theorem Held.app {s1 s2 s3 : Sto} {N1 N2 N3 : Nat → List Nat} {L1 L2 : List Nat} (h1 : Held s1 N1 s2 N2 L1) (h2 : Held s2 N2 s3 N3 L2) : Held s1 N1 s3 N3 (L1 ++ L2) := fun id b hb x hx => by
  rcases h2 id b hb x hx with h | ⟨b', hb', hx'⟩
  · exact .inl (List.mem_append.2 (.inr h))
  · rcases h1 id b' hb' x hx' with h | h
    · exact .inl (List.mem_append.2 (.inl h))
    · exact .inr h
theorem Pend.right {S : Nat → Prop} {N N' : Nat → List Nat} {L1 L2 : List Nat} (h : Pend X S s N (L1 ++ L2)) (hh : Held s N s' N' L1) : Pend X S s' N' L2 :=
  ⟨(List.nodup_append.1 h.nd).2.1, fun x hx => h.ns x (by simp [hx]), fun x hx => h.new x (by simp [hx]), fun id b hb x hx hxn => by
    rcases hh id b hb x hxn with h1 | ⟨b', hb', h1⟩
    · exact (List.nodup_append.1 h.nd).2.2 x h1 x hx rfl
    · exact h.dj id b' hb' x (by simp [hx]) h1⟩
theorem Tr.trans {S1 S2 S3 : Nat → Prop} {w1 w2 w3 : World} {β1 β2 β3 : Nat → Option (Nat × Nat)} {σ1 σ2 σ3 : Sto} (h1 : Tr S1 S2 w1 w2 β1 β2 σ1 σ2) (h2 : Tr S2 S3 w2 w3 β2 β3 σ2 σ3) : Tr S1 S3 w1 w3 β1 β3 σ1 σ3 :=
  ⟨fun h => h2.row (h1.row h), fun h => h2.ref (h1.ref h), fun h => h2.ptr (h1.ptr h)⟩
theorem Tr.refl {S : Nat → Prop} {w : World} {β : Nat → Option (Nat × Nat)} {σ : Sto} : Tr S S w w β β σ σ := ⟨fun h => h, fun h => h, fun h => h⟩
theorem ValS.plain {S S' : Nat → Prop} {w : World} {β β' : Nat → Option (Nat × Nat)} {σ σ' : Sto} {p : PV} {u : Value} (hp : noOwnS p = true) (h : ValS S w β σ p u) (hS : ∀ b, S b → S' b) : ValS S' w β' σ' p u := by
  have h0 : OwnS S w β σ p u [] := by
    cases p with
    | row own k l => cases own with
      | true => cases hp
      | false => exact ⟨rfl, h⟩
    | obj o => cases hp
    | _ => exact ⟨rfl, h⟩
  exact (own_frozenS hp h0 hS).2
theorem openS_spec {S : Nat → Prop} {tm : Array Value} {β β0 : Nat → Option (Nat × Nat)} {σ0 : Sto} {N : Nat → List Nat} (h : StS X S ⟨t, s⟩ w tm β N) {id : Nat} (hid : 99 ≤ id) {p q : PV} {u : Value} {L : List Nat} (ho : OwnS S w β0 σ0 p u L) (hp : Pend X S s N L) (hr : (openS id p).Run PC s q s' r wr) :
    ∃ β' N', StS X S ⟨t, s'⟩ w tm β' N' ∧ Tr S S w w β β' s s' ∧ ValS S w β' s' q u ∧ Held s N s' N' L := by
  have hx : ∀ p, X.ext[id]? ≠ some p := fun p e => by
    have := (List.getElem?_eq_some_iff.1 e).1
    have := X.few
    omega
  unfold openS at hr
  split at hr
  · rename_i k l
    obtain ⟨r', wr', hr⟩ := newBlk_run hr
    obtain ⟨rfl, rfl, -, -⟩ : q = _ ∧ s' = _ ∧ r' = [] ∧ wr' = [] := hr
    obtain ⟨pl, h1, h2, h3⟩ := StS.open (ε := ⟨t, s⟩) h hx (Nat.lt_succ_self _) ho hp.ns hp.new hp.dj
    refine ⟨_, _, h1, h2, h3, fun i b hb x hx => ?_⟩
    by_cases hi : i = id
    · subst hi; rw [upd_same] at hx; exact .inl hx
    · rw [upd_ne _ _ hi] at hx hb; exact .inr ⟨b, hb, hx⟩
  · rename_i o
    obtain ⟨r', wr', hr⟩ := newBlk_run hr
    obtain ⟨rfl, rfl, -, -⟩ : q = _ ∧ s' = _ ∧ r' = [] ∧ wr' = [] := hr
    obtain ⟨b0, e1, rfl, e2⟩ := ho
    obtain ⟨h1, h2, h3⟩ := StS.openO (ε := ⟨t, s⟩) h hx (Nat.lt_succ_self _) e1 e2 hp.ns hp.new hp.dj
    refine ⟨_, _, h1, h2, h3, fun i b hb x hx => ?_⟩
    by_cases hi : i = id
    · subst hi; rw [upd_same] at hx; exact .inl hx
    · rw [upd_ne _ _ hi] at hx hb; exact .inr ⟨b, hb, hx⟩
  · obtain ⟨rfl, rfl, -, -⟩ : q = _ ∧ s' = _ ∧ r = [] ∧ wr = [] := hr; exact ⟨β, N, h, Tr.refl, ho.2, Held.refl⟩
  · obtain ⟨rfl, rfl, -, -⟩ : q = _ ∧ s' = _ ∧ r = [] ∧ wr = [] := hr; exact ⟨β, N, h, Tr.refl, ho.2, Held.refl⟩
  · obtain ⟨rfl, rfl, -, -⟩ : q = _ ∧ s' = _ ∧ r = [] ∧ wr = [] := hr; exact ⟨β, N, h, Tr.refl, ho.2, Held.refl⟩
  · obtain ⟨rfl, rfl, -, -⟩ : q = _ ∧ s' = _ ∧ r = [] ∧ wr = [] := hr; exact ⟨β, N, h, Tr.refl, ho.2, Held.refl⟩
  · obtain ⟨rfl, rfl, -, -⟩ : q = _ ∧ s' = _ ∧ r = [] ∧ wr = [] := hr; exact ⟨β, N, h, Tr.refl, ValS.plain rfl ho.2 (fun _ h => h), Held.refl⟩
  · obtain ⟨rfl, rfl, -, -⟩ : q = _ ∧ s' = _ ∧ r = [] ∧ wr = [] := hr; exact ⟨β, N, h, Tr.refl, trivial, Held.refl⟩
  · exact hr.elim
theorem openL_spec {S : Nat → Prop} {tm : Array Value} {β0 : Nat → Option (Nat × Nat)} {σ0 : Sto} : ∀ {ps qs : List PV} {us : List Value} {id : Nat} {L : List Nat} {β : Nat → Option (Nat × Nat)} {N : Nat → List Nat} {s s' : Sto} {r wr : List Nat}, StS X S ⟨t, s⟩ w tm β N → 99 ≤ id → All3 (OwnS S w β0 σ0) ps us L → Pend X S s N L → (openL id ps).Run PC s qs s' r wr →
    ∃ β' N', StS X S ⟨t, s'⟩ w tm β' N' ∧ Tr S S w w β β' s s' ∧ All2 (ValS S w β' s') qs us ∧ Held s N s' N' L
  | [], qs, [], id, L, β, N, s, s', r, wr, h, _, ho, hp, hr => by
    obtain ⟨rfl, rfl, -, -⟩ := hr
    exact ⟨β, N, h, Tr.refl, trivial, Held.refl⟩
  | p :: ps, qs, u :: us, id, L, β, N, s, s', r, wr, h, hid, ho, hp, hr => by
    obtain ⟨L1, L2, rfl, h1, h2⟩ := ho
    obtain ⟨a1, s1, r1, w1, r2, w2, k1, k2⟩ := bind_run hr
    obtain ⟨a2, s2, r3, w3, r4, w4, k3, k4⟩ := bind_run k2
    obtain ⟨e, e2, -, -⟩ := k4
    subst e e2
    obtain ⟨β1, N1, m1, m2, m3, m4⟩ := openS_spec h hid h1 hp.left k1
    obtain ⟨β2, N2, m5, m6, m7, m8⟩ := openL_spec m1 (by omega) h2 (hp.right m4) k3
    exact ⟨β2, N2, m5, m2.trans m6, ⟨m6.vs m3, m7⟩, m4.app m8⟩
  | [], _, _ :: _, _, _, _, _, _, _, _, _, _, _, h, _, _ => h.elim
  | _ :: _, _, [], _, _, _, _, _, _, _, _, _, _, h, _, _ => h.elim
theorem openS_noAgg {id : Nat} {p q : PV} (hr : (openS id p).Run PC s q s' r wr) : (∀ cs, q ≠ .agg cs) ∧ ∀ cs, q ≠ .tup cs := by
  unfold openS at hr
  split at hr
  · obtain ⟨r', wr', hr⟩ := newBlk_run hr
    obtain ⟨rfl, -, -, -⟩ := hr
    exact ⟨by simp, by simp⟩
  · obtain ⟨r', wr', hr⟩ := newBlk_run hr
    obtain ⟨rfl, -, -, -⟩ := hr
    exact ⟨by simp, by simp⟩
  all_goals first | exact hr.elim | (obtain ⟨rfl, -, -, -⟩ := hr; exact ⟨by simp, by simp⟩)
theorem open1_spec {S : Nat → Prop} {tm : Array Value} {β β0 : Nat → Option (Nat × Nat)} {σ0 : Sto} {N : Nat → List Nat} (h : StS X S ⟨t, s⟩ w tm β N) {id : Nat} (hid : 99 ≤ id) {p q : PV} {u : Value} {L : List Nat} (ho : Own1 S w β0 σ0 p u L) (hp : Pend X S s N L) (hr : (open1 id p).Run PC s q s' r wr) :
    ∃ β' N', StS X S ⟨t, s'⟩ w tm β' N' ∧ Tr S S w w β β' s s' ∧ Val1 S w β' s' q u ∧ Held s N s' N' L := by
  by_cases ha : ∃ cs, p = .agg cs
  · obtain ⟨cs, rfl⟩ := ha
    obtain ⟨us, rfl, ho⟩ := ho
    obtain ⟨a1, s1, r1, w1, r2, w2, k1, k2⟩ := bind_run hr
    obtain ⟨e, e2, -, -⟩ := k2
    subst e e2
    obtain ⟨β1, N1, m1, m2, m3, m4⟩ := openL_spec h hid ho hp k1
    exact ⟨β1, N1, m1, m2, ⟨us, rfl, m3⟩, m4⟩
  · have ho' : OwnS S w β0 σ0 p u L := by cases p <;> first | exact ho | exact absurd ⟨_, rfl⟩ ha
    have hr' : (openS id p).Run PC s q s' r wr := by cases p <;> first | exact hr | exact absurd ⟨_, rfl⟩ ha
    obtain ⟨β1, N1, m1, m2, m3, m4⟩ := openS_spec h hid ho' hp hr'
    have hq := (openS_noAgg hr').1
    exact ⟨β1, N1, m1, m2, by cases q <;> first | exact m3 | exact absurd rfl (hq _), m4⟩
theorem open1_noTup {id : Nat} {p q : PV} (hr : (open1 id p).Run PC s q s' r wr) : ∀ cs, q ≠ .tup cs := by
  by_cases ha : ∃ cs, p = .agg cs
  · obtain ⟨cs, rfl⟩ := ha
    obtain ⟨a1, s1, r1, w1, r2, w2, k1, k2⟩ := bind_run hr
    obtain ⟨e, -, -, -⟩ := k2
    subst e
    simp
  · have hr' : (openS id p).Run PC s q s' r wr := by cases p <;> first | exact hr | exact absurd ⟨_, rfl⟩ ha
    exact (openS_noAgg hr').2
theorem open1L_spec {S : Nat → Prop} {tm : Array Value} {β0 : Nat → Option (Nat × Nat)} {σ0 : Sto} : ∀ {ps qs : List PV} {us : List Value} {id : Nat} {L : List Nat} {β : Nat → Option (Nat × Nat)} {N : Nat → List Nat} {s s' : Sto} {r wr : List Nat}, StS X S ⟨t, s⟩ w tm β N → 99 ≤ id → All3 (Own1 S w β0 σ0) ps us L → Pend X S s N L → (open1L id ps).Run PC s qs s' r wr →
    ∃ β' N', StS X S ⟨t, s'⟩ w tm β' N' ∧ Tr S S w w β β' s s' ∧ All2 (Val1 S w β' s') qs us ∧ Held s N s' N' L
  | [], qs, [], id, L, β, N, s, s', r, wr, h, _, ho, hp, hr => by
    obtain ⟨rfl, rfl, -, -⟩ := hr
    exact ⟨β, N, h, Tr.refl, trivial, Held.refl⟩
  | p :: ps, qs, u :: us, id, L, β, N, s, s', r, wr, h, hid, ho, hp, hr => by
    obtain ⟨L1, L2, rfl, h1, h2⟩ := ho
    obtain ⟨a1, s1, r1, w1, r2, w2, k1, k2⟩ := bind_run hr
    obtain ⟨a2, s2, r3, w3, r4, w4, k3, k4⟩ := bind_run k2
    obtain ⟨e, e2, -, -⟩ := k4
    subst e e2
    obtain ⟨β1, N1, m1, m2, m3, m4⟩ := open1_spec h hid h1 hp.left k1
    obtain ⟨β2, N2, m5, m6, m7, m8⟩ := open1L_spec m1 (by omega) h2 (hp.right m4) k3
    exact ⟨β2, N2, m5, m2.trans m6, ⟨m6.v1 m3, m7⟩, m4.app m8⟩
  | [], _, _ :: _, _, _, _, _, _, _, _, _, _, _, h, _, _ => h.elim
  | _ :: _, _, [], _, _, _, _, _, _, _, _, _, _, h, _, _ => h.elim
theorem openR_spec {S : Nat → Prop} {tm : Array Value} {β β0 : Nat → Option (Nat × Nat)} {σ0 : Sto} {N : Nat → List Nat} (h : StS X S ⟨t, s⟩ w tm β N) {id : Nat} (hid : 99 ≤ id) {p q : PV} {u : Value} {L : List Nat} (ho : OwnV S w β0 σ0 p u L) (hp : Pend X S s N L) (hr : (openR id p).Run PC s q s' r wr) :
    ∃ β' N', StS X S ⟨t, s'⟩ w tm β' N' ∧ Tr S S w w β β' s s' ∧ ValC S w β' s' q u ∧ Held s N s' N' L := by
  by_cases ha : ∃ cs, p = .tup cs
  · obtain ⟨cs, rfl⟩ := ha
    obtain ⟨us, rfl, ho⟩ := ho
    obtain ⟨a1, s1, r1, w1, r2, w2, k1, k2⟩ := bind_run hr
    obtain ⟨e, e2, -, -⟩ := k2
    subst e e2
    obtain ⟨β1, N1, m1, m2, m3, m4⟩ := open1L_spec h hid ho hp k1
    exact ⟨β1, N1, m1, m2, ⟨us, rfl, m3⟩, m4⟩
  · have ho' : Own1 S w β0 σ0 p u L := by cases p <;> first | exact ho | exact absurd ⟨_, rfl⟩ ha
    have hr' : (open1 id p).Run PC s q s' r wr := by cases p <;> first | exact hr | exact absurd ⟨_, rfl⟩ ha
    obtain ⟨β1, N1, m1, m2, m3, m4⟩ := open1_spec h hid ho' hp hr'
    have hq := open1_noTup hr'
    exact ⟨β1, N1, m1, m2, by cases q <;> first | exact m3 | exact absurd rfl (hq _), m4⟩
end
open Go.RowKit
section
variable {P : Program} {PC : Con} {X : Ctx} {nt : Nat} {Q : Exit → Act → World → Prop} {ε : Env} {a : Act} {w : World} {o : Oper} {v : PV} {t : Nat → PV} {s s' : Sto} {r wr : List Nat}
theorem letS_own {S S' : Nat → Prop} {β : Nat → Option (Nat × Nat)} {σ : Sto} {p : PV} {u : Value} {L : List Nat} (h : OwnS S w β σ p u L) (hS : ∀ b, S b → S' b) (hL : ∀ b ∈ L, S' b) : OwnS S' w β σ (letS p) u [] := by
  have T : Tr S S' w w β β σ σ := ⟨fun h => h.mono hS fun _ _ _ _ h => h, fun h => h, fun h => h⟩
  cases p with
  | row own k l => cases own with
    | true => exact ⟨rfl, rfl, Own.row h hS hL⟩
    | false => exact ⟨rfl, T.vs h.2⟩
  | v x => exact ⟨rfl, T.vs (p := .v x) h.2⟩
  | nil => exact ⟨rfl, T.vs (p := .nil) h.2⟩
  | ref a b c d e => exact ⟨rfl, T.vs (p := .ref a b c d e) h.2⟩
  | ptr a b c d => exact ⟨rfl, T.vs (p := .ptr a b c d) h.2⟩
  | eptr k l i j => exact ⟨rfl, T.vs (p := .eptr k l i j) h.2⟩
  | agg cs => exact ⟨rfl, T.vs (p := .agg cs) h.2⟩
  | tup cs => exact ⟨rfl, T.vs (p := .tup cs) h.2⟩
  | fn f caps => exact ⟨rfl, T.vs (p := .fn f caps) h.2⟩
  | un => exact ⟨rfl, T.vs (p := .un) h.2⟩
  | obj o => exact ⟨rfl, trivial⟩
  | dead => exact ⟨rfl, trivial⟩
theorem All3.map0 {R R' : PV → Value → List Nat → Prop} (g : PV → PV) : ∀ {ps : List PV} {us : List Value} {L : List Nat}, (∀ p u L', (∀ x ∈ L', x ∈ L) → R p u L' → R' (g p) u []) → All3 R ps us L → All3 R' (ps.map g) us []
  | [], [], _, _, _ => rfl
  | p :: ps, u :: us, L, hr, ⟨L1, L2, e, h1, h2⟩ => by
    subst e
    exact ⟨[], [], rfl, hr _ _ _ (fun x hx => by simp [hx]) h1, All3.map0 g (fun a b L' hL h => hr a b L' (fun x hx => by simp [hL x hx]) h) h2⟩
  | [], _ :: _, _, _, h => h.elim
  | _ :: _, [], _, _, h => h.elim
theorem let1_own {S S' : Nat → Prop} {β : Nat → Option (Nat × Nat)} {σ : Sto} {p : PV} {u : Value} {L : List Nat} (h : Own1 S w β σ p u L) (hS : ∀ b, S b → S' b) (hL : ∀ b ∈ L, S' b) : Own1 S' w β σ (let1 p) u [] := by
  by_cases ha : ∃ cs, p = .agg cs
  · obtain ⟨cs, rfl⟩ := ha
    obtain ⟨us, rfl, h⟩ := h
    exact ⟨us, rfl, All3.map0 letS (fun p u L' hL' h => letS_own h hS fun b hb => hL b (hL' b hb)) h⟩
  · have h' : OwnS S w β σ p u L := by cases p <;> first | exact h | exact absurd ⟨_, rfl⟩ ha
    have := letS_own h' hS hL
    cases p <;> first | exact this | exact absurd ⟨_, rfl⟩ ha
theorem letR_own {S S' : Nat → Prop} {β : Nat → Option (Nat × Nat)} {σ : Sto} {p : PV} {u : Value} {L : List Nat} (h : OwnV S w β σ p u L) (hS : ∀ b, S b → S' b) (hL : ∀ b ∈ L, S' b) : OwnV S' w β σ (letR p) u [] := by
  by_cases ha : ∃ cs, p = .tup cs
  · obtain ⟨cs, rfl⟩ := ha
    obtain ⟨us, rfl, h⟩ := h
    exact ⟨us, rfl, All3.map0 let1 (fun p u L' hL' h => let1_own h hS fun b hb => hL b (hL' b hb)) h⟩
  · have h' : Own1 S w β σ p u L := by cases p <;> first | exact h | exact absurd ⟨_, rfl⟩ ha
    have := let1_own h' hS hL
    cases p <;> first | exact this | exact absurd ⟨_, rfl⟩ ha
/-- A value without settled rows says the same of any settled memory. -/
theorem Cont.flat {S S' : Nat → Prop} {k : K} (hk : flat k = true) {l : List (ty k)} {f : Nat → Option Value} (h : Cont S w l f) : Cont S' w l f := fun i x hx j lf hlf => by
  obtain ⟨u, hu, hv⟩ := h i x hx j lf hlf
  obtain ⟨q, rfl⟩ := flat_sc hk x lf (List.mem_of_getElem? hlf)
  exact ⟨u, hu, hv⟩
theorem Own.flat {S S' : Nat → Prop} {k : K} (hk : flat k = true) {u : Value} {l : List (ty k)} {L : List Nat} (h : Own S w k u l L) : Own S' w k u l L := by
  rcases h with h | ⟨g, cap, cur, h1, h2, h3, h4, h5, h6, h7, h8⟩
  · exact .inl h
  · exact .inr ⟨g, cap, cur, h1, h2, h3, h4, h5, h6, h7, h8.flat hk⟩
def isFz : PV → Bool | .row false _ _ => true | .row true k _ => !flat k | .eptr .. => true | _ => false
theorem noFzS {S S' : Nat → Prop} {β : Nat → Option (Nat × Nat)} {σ : Sto} {p : PV} {u : Value} {L : List Nat} (hp : isFz p = false) (hcap : ∀ f cs, p = .fn f cs → cs = []) (h : OwnS S w β σ p u L) : OwnS S' w β σ p u L := by
  cases p with
  | row own k l => cases own with
    | true => exact Own.flat (by simpa [isFz] using hp) h
    | false => cases hp
  | eptr => cases hp
  | fn f caps =>
    obtain rfl := hcap f caps rfl
    obtain ⟨e, us, h1, h2⟩ := h
    refine ⟨e, us, h1, ?_⟩
    cases hu : us.toList with
    | nil => trivial
    | cons x xs => rw [hu] at h2; exact h2.elim
  | _ => exact h
theorem All3.imp {R R' : PV → Value → List Nat → Prop} {B : PV → Bool} (h : ∀ p u L, B p = false → R p u L → R' p u L) : ∀ {ps : List PV} {us : List Value} {L : List Nat}, ps.any B = false → All3 R ps us L → All3 R' ps us L
  | [], [], _, _, h => h
  | p :: ps, u :: us, L, hb, ⟨L1, L2, e, h1, h2⟩ => by
    simp only [List.any_cons, Bool.or_eq_false_iff] at hb
    exact ⟨L1, L2, e, h _ _ _ hb.1 h1, All3.imp h hb.2 h2⟩
  | [], _ :: _, _, _, h => h.elim
  | _ :: _, [], _, _, h => h.elim
theorem fzS_spec {S S' : Nat → Prop} {β : Nat → Option (Nat × Nat)} {σ : Sto} {p : PV} {u : Value} {L : List Nat} (hp : fzS p = false) (h : OwnS S w β σ p u L) : OwnS S' w β σ p u L := by
  refine noFzS ?_ ?_ h
  · cases p <;> first | rfl | skip
    · rename_i own k l; cases own <;> first | exact hp | rfl
    · exact hp
  · rintro f cs rfl
    cases cs <;> first | rfl | cases hp
theorem fz1_spec {S S' : Nat → Prop} {β : Nat → Option (Nat × Nat)} {σ : Sto} {p : PV} {u : Value} {L : List Nat} (hp : fz1 p = false) (h : Own1 S w β σ p u L) : Own1 S' w β σ p u L := by
  by_cases ha : ∃ cs, p = .agg cs
  · obtain ⟨cs, rfl⟩ := ha
    obtain ⟨us, e, h⟩ := h
    exact ⟨us, e, All3.imp (B := fzS) (fun p u L hb h => fzS_spec hb h) hp h⟩
  · have h' : OwnS S w β σ p u L := by cases p <;> first | exact h | exact absurd ⟨_, rfl⟩ ha
    have hp' : fzS p = false := by cases p <;> first | exact hp | exact absurd ⟨_, rfl⟩ ha
    have := fzS_spec (S' := S') hp' h'
    cases p <;> first | exact this | exact absurd ⟨_, rfl⟩ ha
theorem fzR_spec {S S' : Nat → Prop} {β : Nat → Option (Nat × Nat)} {σ : Sto} {p : PV} {u : Value} {L : List Nat} (hp : fzR p = false) (h : OwnV S w β σ p u L) : OwnV S' w β σ p u L := by
  by_cases ha : ∃ cs, p = .tup cs
  · obtain ⟨cs, rfl⟩ := ha
    obtain ⟨us, e, h⟩ := h
    exact ⟨us, e, All3.imp (B := fz1) (fun p u L hb h => fz1_spec hb h) hp h⟩
  · have h' : Own1 S w β σ p u L := by cases p <;> first | exact h | exact absurd ⟨_, rfl⟩ ha
    have hp' : fz1 p = false := by cases p <;> first | exact hp | exact absurd ⟨_, rfl⟩ ha
    have := fz1_spec (S' := S') hp' h'
    cases p <;> first | exact this | exact absurd ⟨_, rfl⟩ ha
end
open Go.RowKit
section
variable {P : Program} {PC : Con} {X : Ctx} {nt : Nat} {Q : Exit → Act → World → Prop} {ε : Env} {a : Act} {w : World} {o : Oper} {v : PV} {t : Nat → PV} {s s' : Sto} {r wr : List Nat}
theorem All2.map_args {S : Nat → Prop} {β : Nat → Option (Nat × Nat)} {σ : Sto} {f : Operand → PV} {g : Operand → Value} : ∀ {xs : List Operand}, (∀ x ∈ xs, ValC S w β σ (f x) (g x)) → All2 (ValC S w β σ) (xs.map f) (xs.map g)
  | [], _ => trivial
  | x :: xs, h => ⟨h x (by simp), All2.map_args fun y hy => h y (by simp [hy])⟩
theorem StS.close {S : Nat → Prop} {tm : Array Value} {β : Nat → Option (Nat × Nat)} {N : Nat → List Nat} (h : StS X S ε w tm β N) : St X ε w tm β N ∧ Tr S (Fz X w N ε.s) w w β β ε.s ε.s := h.wide h.fz fun _ h => h
/-- A nil slice as an argument: an empty list of its kind. -/
def kAt (t : TypeId) (j : Nat) : Option K := match zeroT t with
  | some zs => match zs[j]? with
    | some (.nest k _) => some k
    | _ => none
  | none => none
def nilS (k : Option K) (p : PV) : PV := match p with
  | .nil => match k with
    | some k => .row false k []
    | none => .nil
  | p => p
def nilL (t : TypeId) : Nat → List PV → List PV
  | _, [] => []
  | j, p :: ps => nilS (kAt t j) p :: nilL t (j + 1) ps
def nil1 (t : TypeId) (p : PV) : PV := match p with
  | .agg cs => .agg (nilL t 0 cs)
  | p => nilS (kAt t 0) p
def nilA : List PV → List TypeId → List PV
  | p :: ps, t :: ts => nil1 t p :: nilA ps ts
  | ps, _ => ps
theorem nilS_val {S : Nat → Prop} {β : Nat → Option (Nat × Nat)} {σ : Sto} {k : Option K} {p : PV} {u : Value} (h : ValS S w β σ p u) : ValS S w β σ (nilS k p) u := by
  unfold nilS
  split
  · split
    · have e : u = .slice none 0 0 := h
      subst e
      exact ⟨rfl, Row.nil⟩
    · exact h
  · exact h
theorem nilL_val {S : Nat → Prop} {β : Nat → Option (Nat × Nat)} {σ : Sto} {t : TypeId} : ∀ {ps : List PV} {us : List Value} {j : Nat}, All2 (ValS S w β σ) ps us → All2 (ValS S w β σ) (nilL t j ps) us
  | [], [], _, _ => trivial
  | p :: ps, u :: us, j, ⟨h1, h2⟩ => ⟨nilS_val h1, nilL_val h2⟩
  | [], _ :: _, _, h => h.elim
  | _ :: _, [], _, h => h.elim
theorem nil1_val {S : Nat → Prop} {β : Nat → Option (Nat × Nat)} {σ : Sto} {t : TypeId} {p : PV} {u : Value} (h : ValC S w β σ p u) : ValC S w β σ (nil1 t p) u := by
  unfold nil1
  split
  · obtain ⟨us, e, h⟩ := h
    exact ⟨us, e, nilL_val h⟩
  · rename_i p hne
    unfold nilS
    split
    · split
      · have e : u = .slice none 0 0 := h
        subst e
        exact ⟨rfl, Row.nil⟩
      · exact h
    · exact h
theorem nilA_val {S : Nat → Prop} {β : Nat → Option (Nat × Nat)} {σ : Sto} : ∀ {ps : List PV} {us : List Value} {ts : List TypeId}, All2 (ValC S w β σ) ps us → All2 (ValC S w β σ) (nilA ps ts) us
  | [], [], _, _ => by cases ‹List TypeId› <;> trivial
  | p :: ps, u :: us, t :: ts, ⟨h1, h2⟩ => ⟨nil1_val h1, nilA_val h2⟩
  | p :: ps, u :: us, [], h => h
  | [], _ :: _, _, h => h.elim
  | _ :: _, [], _, h => h.elim
theorem eCall_sound {G : Nat} {E : World → Prop} (hE : X.E = E) (hG : X.G = G) {f : FuncId} {as : Array Operand} {ats : Array TypeId} (ho : o.op = .call { callee := .value (.func f), args := as, argTypes := ats }) {ps : List PV} (hg : Good X nt ε a w) (hps : ∀ β N, St X ε w a.tmps β N → All2 (ValC (Fz X w N ε.s) w β ε.s) ps (as.toList.map a.eval))
    (h : (eCall o f ps).Run (PCalls P G E) ε.s v s' r wr) : o.wp P a w (fun a' w' => Good X nt ⟨putE o.dst v ε.t, s'⟩ a' w') Q := by
  obtain ⟨hs, hd, β, N, hst⟩ := id hg
  have hargs := hps β N hst
  unfold eCall at h
  obtain ⟨⟨qs, pk⟩, s1, r1, w1, r2, w2, k1, k2⟩ := bind_run h
  obtain ⟨r0, x0, hPC, k2⟩ := k2
  let S1 : Nat → Prop := fun b => b < w.heap.size ∧ (pk = true ∨ Fz X w N ε.s b)
  obtain ⟨rfl, hin⟩ := peekA_spec (S' := S1) (β' := extB []) (σ' := extS []) hst (fun b hb => ⟨hb.1, .inr hb⟩) hargs k1 (fun e b hb => ⟨hb, .inl e⟩)
  obtain ⟨hlen, hPC⟩ := hPC
  obtain rfl : x0 = [] := by simpa using hlen
  have hcall := hPC w S1 (as.toList.map a.eval) [] [] [] (by rw [← hG]; exact Nat.le_trans X.hw hst.frm.size) (by rw [← hE]; exact hst.env) rfl rfl (by simp) (by simp) (fun b hb => ⟨hb.1, by simp⟩) hin (fun j p cs L hj => by simp at hj)
  have key : ∀ u w', (∃ (Lr : List Nat) (Le' : List (List Nat)), Le'.length = 0 ∧ (([] : List (Nat × Nat)).map (·.1) ++ Lr ++ Le'.flatten).Nodup ∧
      (∀ b ∈ Lr ++ Le'.flatten, (b ∈ ([] : List Nat) ++ ([] : List (List Nat)).flatten ∨ w.heap.size ≤ b) ∧ b < w'.heap.size) ∧
      OwnV (fun b => (S1 b ∨ b ∈ ([] : List Nat) ++ ([] : List (List Nat)).flatten ∨ w.heap.size ≤ b) ∧ b < w'.heap.size ∧ b ∉ ([] : List (Nat × Nat)).map (·.1) ++ Lr ++ Le'.flatten) w' (extB []) (extS []) r0 u Lr ∧
      Stay w w' (([] : List (Nat × Nat)).map (·.1) ++ [] ++ ([] : List (List Nat)).flatten) [] (([] : List (List PV)).map List.length)) → Good X nt ⟨putE o.dst v ε.t, s'⟩ (a.put o.dst u) w' := by
    rintro u w' ⟨Lr, Le', hl, hnd, hLr, hown, hstay⟩
    obtain rfl := List.eq_nil_of_length_eq_zero hl
    simp only [List.map_nil, List.nil_append, List.flatten_nil, List.append_nil, List.not_mem_nil, false_or] at hnd hLr hown hstay
    have hsame : ∀ b, b < w.heap.size → w'.heap[b]? = w.heap[b]? := fun b hb => hstay.old b hb (by simp)
    obtain ⟨hst1, -⟩ := StS.after hst hstay.os hstay.tape hstay.output hstay.size hsame
    have hwide : ∀ b, (Fz X w N ε.s b ∨ w.heap.size ≤ b) ∧ b < w'.heap.size → Fz X w' N ε.s b := by
      rintro b ⟨hb | hb, hlt⟩
      · exact ⟨hlt, hb.2⟩
      · refine ⟨hlt, ?_, .inr (.inr (Nat.le_trans hst.frm.size hb))⟩
        rintro ⟨id, blk, h1, h2⟩
        have := hst.lt id blk h1 b h2
        omega
    have fin : ∀ (S : Nat → Prop) (p : PV) (L : List Nat), OwnV S w' (extB []) (extS []) p u L → (∀ b, Fz X w N ε.s b → S b) → (∀ b, S b → (Fz X w N ε.s b ∨ w.heap.size ≤ b) ∧ b < w'.heap.size) → L.Nodup → (∀ x ∈ L, ¬ S x) → (∀ x ∈ L, w.heap.size ≤ x) →
        ∀ {r wr : List Nat}, (openR (resId o) p).Run (PCalls P G E) ε.s v s' r wr → Good X nt ⟨putE o.dst v ε.t, s'⟩ (a.put o.dst u) w' := by
      intro S p L hop hS1 hS2 hnd hns hnew r wr hr
      obtain ⟨hst2, -⟩ := StS.wide hst1 hS1 fun b hb => hwide b (hS2 b hb)
      obtain ⟨β', N', hst3, -, hv, -⟩ := openR_spec (t := ε.t) (s := ε.s) hst2 (by unfold resId; split <;> omega) hop ⟨hnd, hns, fun x hx => .inr (Nat.le_trans hst.frm.size (hnew x hx)), fun id b hb x hx hxn => by
        have := hst.lt id b hb x hxn
        have := hnew x hx
        omega⟩ hr
      obtain ⟨hst4, T⟩ := hst3.close
      exact Good.put hs hd hst4 (T.vc hv)
    simp only at k2
    split at k2
    · exact k2.elim
    · rename_i hfz
      have hown2 : OwnV (fun b => (Fz X w N ε.s b ∨ w.heap.size ≤ b) ∧ b < w'.heap.size ∧ b ∉ Lr) w' (extB []) (extS []) r0 u Lr := by
        by_cases hpk : pk = true
        · have hfz2 : fzR r0 = false := by cases hq : fzR r0 with
            | false => rfl
            | true => simp [hpk, hq] at hfz
          exact fzR_spec hfz2 hown
        · refine cast ?_ hown
          congr 1
          funext b
          simp only [S1, hpk, false_or, Bool.false_eq_true]
          exact propext ⟨fun ⟨h1, h2⟩ => ⟨h1.imp (fun h => h.2) (fun h => h), h2⟩, fun ⟨h1, h2⟩ => ⟨h1.imp (fun h => ⟨h.1, h⟩) (fun h => h), h2⟩⟩
      have hSL : ∀ b, Fz X w N ε.s b → b < w'.heap.size ∧ b ∉ Lr := fun b hb => ⟨Nat.lt_of_lt_of_le hb.1 hstay.size, fun hm => by have := (hLr b hm).1; have := hb.1; omega⟩
      have direct : ∀ {r wr : List Nat}, (openR (resId o) r0).Run (PCalls P G E) ε.s v s' r wr → Good X nt ⟨putE o.dst v ε.t, s'⟩ (a.put o.dst u) w' := fun hr =>
        fin _ r0 Lr hown2 (fun b hb => ⟨.inl hb, hSL b hb⟩) (fun b hb => ⟨hb.1, hb.2.1⟩) hnd (fun x hx h => h.2.2 hx) (fun x hx => (hLr x hx).1) hr
      split at k2
      · rcases k2 with k2 | k2
        · exact direct k2
        · refine fin (fun b => (Fz X w N ε.s b ∨ w.heap.size ≤ b) ∧ b < w'.heap.size) (letR r0) [] (letR_own hown2 (fun b hb => ⟨hb.1, hb.2.1⟩) fun b hb => ⟨.inr (hLr b hb).1, (hLr b hb).2⟩) (fun b hb => ⟨.inl hb, (hSL b hb).1⟩) (fun b hb => hb) List.nodup_nil (by simp) (by simp) k2
      · exact direct k2
  have hexec : execOp a.eval o = callFunc f (as.map a.eval) := by
    have ef : a.eval (.func f) = .func (.func f) #[] #[] := rfl
    unfold execOp
    simp [ho, resolve, Deferred.ofValue, invoke, ef]
  have hxs : (as.toList.map a.eval).toArray = as.map a.eval := by
    apply Array.ext'
    simp
  rw [hxs] at hcall
  unfold Oper.wp
  rw [hexec]
  unfold Arrive at hcall
  split at hcall
  · rename_i u w' hrun
    rw [hrun]
    obtain ⟨u', Lr, Le', e, h1, h2, h3, h4, h5, h6⟩ := hcall
    cases e
    exact key _ _ ⟨Lr, Le', h1, h2, h3, h4, h6⟩
  · rename_i f' ys w' hrun
    rw [hrun]
    rw [Oper.upon_enter]
    refine Calls.mono hcall fun e w'' hR => ?_
    obtain ⟨u', Lr, Le', rfl, h1, h2, h3, h4, h5, h6⟩ := hR
    exact key _ _ ⟨Lr, Le', h1, h2, h3, h4, h6⟩
  · exact hcall.elim
end
open Go.RowKit
def zeroPV : Leaf → PV
  | .sc v => .v v
  | .nest _ _ => .nil
def eAlloc (o : Oper) (t : TypeId) : Eff PV := match zeroT t with
  | some zs => newBlk (site o) (.box (zs.map zeroPV)) fun ver => .ret (.ptr (site o) ver 0 0)
  | none => .fail
def fillP (t : TypeId) : List PV → List (Nat × PV) → Option (List PV)
  | cs, [] => some cs
  | cs, (i, v) :: rest => match fldT t i with
    | some (off, _, m) => if (cellsP v).length = m ∧ (cellsP v).all storable = true ∧ off + m ≤ cs.length then fillP t (splice cs off (cellsP v)) rest else none
    | none => none
def eBuild (t : TypeId) (parts : List (Nat × PV)) : Eff PV := match tyB t, zeroT t with
  | some (true, _), some zs => match fillP t (zs.map zeroPV) parts with
    | some cs => .ret (.agg cs)
    | none => .fail
  | _, _ => .fail
section
variable {P : Program} {PC : Con} {X : Ctx} {nt : Nat} {Q : Exit → Act → World → Prop} {ε : Env} {a : Act} {w : World} {o : Oper} {v : PV} {s' : Sto} {r wr : List Nat}
theorem zero_val {S : Nat → Prop} {β : Nat → Option (Nat × Nat)} {σ : Sto} {zs : List Leaf} {cells : Array Value} (h : ZeroC zs cells) : All2 (ValS S w β σ) (zs.map zeroPV) cells.toList ∧ ∀ u ∈ cells.toList, u.oneCell' = true := by
  obtain ⟨hl, hc⟩ := h
  have key : ∀ (lf : Leaf) (u : Value), ZeroL lf u → ValS S w β σ (zeroPV lf) u ∧ u.oneCell' = true := by
    intro lf u hz
    cases lf with
    | sc q => obtain ⟨rfl, hw⟩ := hz; exact ⟨⟨rfl, hw⟩, by cases u <;> simp_all [wfV, Value.oneCell']⟩
    | nest k l => obtain ⟨rfl, _⟩ := hz; exact ⟨rfl, rfl⟩
  refine ⟨All2.of (by simp [hl]) fun i p u hp hu => ?_, fun u hu => ?_⟩
  · rw [List.getElem?_map] at hp
    cases hz : zs[i]? with
    | none => simp [hz] at hp
    | some lf =>
      simp only [hz, Option.map_some, Option.some.injEq] at hp
      subst hp
      obtain ⟨u', hu', hv⟩ := hc i lf hz
      have : u = u' := by
        have h2 : cells[i]? = some u := by simpa using hu
        rw [hu'] at h2; exact (Option.some.inj h2).symm
      subst this
      exact (key lf u hv).1
  · obtain ⟨i, hi, rfl⟩ := List.mem_iff_getElem.1 hu
    have hi2 : i < zs.length := by rw [← hl]; simpa using hi
    obtain ⟨u', hu', hv⟩ := hc i zs[i] (by simp [hi2])
    have h2 : cells[i]? = some cells.toList[i] := by simp
    rw [hu'] at h2
    rw [← Option.some.inj h2]
    exact (key _ _ hv).2
theorem eAlloc_sound (hF : Facts P) {t : TypeId} (ho : o.op = .alloc t) (hg : Good X nt ε a w) (h : (eAlloc o t).Run PC ε.s v s' r wr) :
    o.wp P a w (fun a' w' => Good X nt ⟨putE o.dst v ε.t, s'⟩ a' w') Q := by
  obtain ⟨hs, hd, β, N, hst⟩ := id hg
  unfold eAlloc at h
  split at h
  case h_2 => exact h.elim
  rename_i zs hz
  obtain ⟨i, z, q1, q2, q3⟩ := hF.zero t zs hz
  obtain ⟨r', wr', h⟩ := newBlk_run h
  obtain ⟨rfl, rfl, -, -⟩ : v = _ ∧ s' = _ ∧ r' = [] ∧ wr' = [] := h
  obtain ⟨hall, hone⟩ := zero_val (S := Fz X w N ε.s) (β := β) (σ := ε.s) (w := w) q3
  have hnb := new_box hst (site o) (site_ge o) hall hone t
  refine sound_st hs hd ?_ hnb ?_ (u := .pointer (some ⟨w.heap.size, 0, none⟩))
  · unfold execOp
    simp [ho, Instr.alloc, zeroValue, typeInfo, q1, q2, newVar, newRow]
  · refine ⟨by show _ ≤ (upd ε.s _ _ _).ver; rw [upd_same]; exact Nat.le_refl _, .inl ⟨_, rfl⟩, fun blk e => ?_⟩
    rw [upd_same] at e
    cases e
    exact ⟨w.heap.size, 0, by rw [upd_same], rfl⟩
theorem All2.splice {R : PV → Value → Prop} {cs ps : List PV} {us vs : List Value} {j : Nat} (h1 : All2 R cs us) (h2 : All2 R ps vs) (hj : j + ps.length ≤ cs.length) : All2 R (Go.Px.splice cs j ps) (Go.Px.splice us j vs) := by
  have l1 := h1.len
  have l2 := h2.len
  refine All2.of (by rw [splice_length hj, splice_length (by omega)]; exact l1) fun i p u hp hu => ?_
  by_cases hin : j ≤ i ∧ i < j + ps.length
  · obtain ⟨m, rfl⟩ : ∃ m, i = j + m := ⟨i - j, by omega⟩
    rw [splice_in hj (by omega)] at hp
    rw [splice_in (by omega) (by omega)] at hu
    obtain ⟨u', hu', hv⟩ := h2.get m p hp
    rw [hu] at hu'; cases hu'; exact hv
  · rw [splice_out hj (by omega)] at hp
    rw [splice_out (by omega) (by omega)] at hu
    obtain ⟨u', hu', hv⟩ := h1.get i p hp
    rw [hu] at hu'; cases hu'; exact hv
theorem fold_splice (off : Nat) (l : List Value) (cs : Array Value) (h : off + l.length ≤ cs.size) : ((l.toArray.zipIdx).foldl (fun cs (x : Value × Nat) => cs.setIfInBounds (off + x.2) x.1) cs) = (splice cs.toList off l).toArray := by
  have e : (l.toArray.zipIdx).foldl (fun cs (x : Value × Nat) => cs.setIfInBounds (off + x.2) x.1) cs = (l.zipIdx 0).foldl (fun cs (x : Value × Nat) => cs.setIfInBounds (off + x.2) x.1) cs := by
    rw [← Array.foldl_toList]
    simp
  rw [e]
  obtain ⟨h1, h2⟩ := Go.Great.foldl_set off l 0 cs
  apply Array.ext_getElem?
  intro i
  rw [h2 i]
  simp only [List.getElem?_toArray]
  by_cases hin : off ≤ i ∧ i < off + l.length
  · obtain ⟨m, rfl⟩ : ∃ m, i = off + m := ⟨i - off, by omega⟩
    rw [if_pos (by omega), splice_in (by simpa using h) (by omega)]
    congr 1; omega
  · rw [if_neg (by omega), splice_out (by simpa using h) (by omega)]
    simp
theorem fill_run (hF : Facts P) {t : TypeId} {places : List (Nat × Nat)} (hp : ∀ i off ag n, fldT t i = some (off, ag, n) → places[i]? = some (off, n)) {S : Nat → Prop} {β : Nat → Option (Nat × Nat)} {σ : Sto} : ∀ (parts : List (Nat × PV)) (vals : List (Nat × Value)) (cs qs : List PV) (us : List Value),
    All2 (fun p q => p.1 = q.1 ∧ ValC S w β σ p.2 q.2) parts vals → All2 (ValS S w β σ) cs us → fillP t cs parts = some qs → ∃ us', Instr.fill (places.toArray[·]?) us.toArray vals = some us'.toArray ∧ All2 (ValS S w β σ) qs us'
  | [], [], cs, qs, us, _, hc, h => by cases h; exact ⟨us, rfl, hc⟩
  | (i, v) :: parts, (i', u) :: vals, cs, qs, us, ⟨⟨e, hv⟩, ht⟩, hc, h => by
    simp only at e hv
    subst e
    unfold fillP at h
    split at h
    case h_2 => cases h
    rename_i off ag m hf
    split at h
    case isFalse => cases h
    rename_i hcond
    obtain ⟨c1, c2, c3⟩ := hcond
    obtain ⟨xs, hx, hall, _⟩ := cellsP_val hv c2
    have hl := hall.len
    have hcl := hc.len
    obtain ⟨us', h1, h2⟩ := fill_run hF hp parts vals _ qs _ ht (All2.splice hc hall (by omega)) h
    refine ⟨us', ?_, h2⟩
    have hpl : (places.toArray)[i]? = some (off, m) := by simpa using hp i off ag m hf
    rw [Instr.fill]
    simp only [hpl, hx, List.size_toArray]
    rw [if_neg (by simp; omega)]
    rw [fold_splice off xs us.toArray (by simp; omega)]
    exact h1
  | [], _ :: _, _, _, _, h, _, _ => h.elim
  | _ :: _, [], _, _, _, h, _, _ => h.elim
theorem eBuild_sound (hF : Facts P) {t : TypeId} {parts : Array (Nat × Operand)} (ho : o.op = .build t parts) (hx : (parts.toList.map (·.2)).all (opndB nt) = true) (hg : Good X nt ε a w) (h : (eBuild t (parts.toList.map fun x => (x.1, opd ε.t x.2))).Run PC ε.s v s' r wr) :
    o.wp P a w (fun a' w' => Good X nt ⟨putE o.dst v ε.t, s'⟩ a' w') Q := by
  obtain ⟨hs, hd, β, N, hst⟩ := id hg
  unfold eBuild at h
  split at h
  case h_2 => exact h.elim
  rename_i n zs ht hz
  split at h
  case h_2 => exact h.elim
  rename_i cs hfill
  obtain ⟨rfl, rfl, -, -⟩ : v = _ ∧ s' = _ ∧ r = [] ∧ wr = [] := h
  obtain ⟨it, fs, z, places, zs', q0, q1, q2, q3, q4, q5, q6⟩ := hF.bld t n ht
  rw [hz] at q0; cases q0
  obtain ⟨hall, _⟩ := zero_val (S := Fz X w N ε.s) (β := β) (σ := ε.s) (w := w) q4
  have hparts : ∀ (l : List (Nat × Operand)), (∀ x ∈ l, opndB nt x.2 = true) → All2 (fun (p : Nat × PV) (q : Nat × Value) => p.1 = q.1 ∧ ValC (Fz X w N ε.s) w β ε.s p.2 q.2) (l.map fun x => (x.1, opd ε.t x.2)) (l.map fun x => (x.1, a.eval x.2)) := by
    intro l
    induction l with
    | nil => intro _; trivial
    | cons x l ih => intro hl; exact ⟨⟨rfl, hst.opd hs (hl x (by simp))⟩, ih fun y hy => hl y (by simp [hy])⟩
  obtain ⟨us', h1, h2⟩ := fill_run hF q6 _ _ _ _ _ (hparts parts.toList fun x hxm => List.all_eq_true.1 hx x.2 (List.mem_map.2 ⟨x, hxm, rfl⟩)) hall hfill
  refine sound_val hs hd hst (u := .agg us'.toArray) ?_ ⟨us'.toArray, rfl, h2⟩
  unfold execOp
  have hb : P.built t (parts.map fun x => (x.1, a.eval x.2)).toList = some us'.toArray := by
    unfold Program.built
    simp only [q1, q2, q3, q5]
    simpa using h1
  simp only [ho, Sem.run_bind, run_build w t _ _ hb, Result.andThen_ok, Sem.run_pure]
end
open Go.RowKit
def eMakeSlice (o : Oper) (t : TypeId) (l c : PV) : Eff PV := match slK t, l, c with
  | some k, .v (.int _ l), .v (.int _ c) => if 0 ≤ l ∧ l ≤ c then .guard (roomB k c.toNat) (newBlk (site o) (.rowb k (List.replicate l.toNat (zK k))) fun ver => .ret (.ref (site o) ver 0 l.toNat true)) else .fail
  | _, _, _ => .fail
/-- The elements of a slice literal, part by part. -/
def setsE (k : K) : List (ty k) → List (Nat × PV) → Eff (List (ty k))
  | l, [] => .ret l
  | l, (i, v) :: rest => match l[i]? with
    | none => .fail
    | some x => (settles (cellsP v)).bind fun a => if a.length = size k then match ofLeaves k a with
      | some y => setsE k (l.set i y) rest
      | none => .fail
      else .fail
def eBuildSlice (o : Oper) (t : TypeId) (n : Nat) (parts : List (Nat × PV)) : Eff PV := match slK t with
  | some k => if n = 0 then (match parts with
      | [] => newBlk (site o) (.rowb k []) fun ver => .ret (.ref (site o) ver 0 0 true)
      | _ :: _ => .fail) else if n * size k ≤ 16777216 then (setsE k (List.replicate n (zK k)) parts).bind fun l => newBlk (site o) (.rowb k l) fun ver => .ret (.ref (site o) ver 0 l.length true) else .fail
  | none => .fail
section
variable {P : Program} {PC : Con} {X : Ctx} {nt : Nat} {Q : Exit → Act → World → Prop} {ε : Env} {a : Act} {w : World} {o : Oper} {v : PV} {s' : Sto} {r wr : List Nat}
theorem eUn_sound {op : UnOp} {t : TypeId} {x : Operand} (ho : o.op = .unOp op t x) (hx : opndB nt x = true) (hg : Good X nt ε a w) (h : (eUn op (opd ε.t x)).Run PC ε.s v s' r wr) :
    o.wp P a w (fun a' w' => Good X nt ⟨putE o.dst v ε.t, s'⟩ a' w') Q := by
  obtain ⟨hs, hd, β, N, hst⟩ := id hg
  have hv := hst.opd hs hx
  have ex : ∀ (u q : Value), a.eval x = u → (Op.unary op u).run P w = .ok q w → (execOp a.eval o).run P w = .ok (.value q) w := by
    intro u q he hrun
    unfold execOp
    simp only [ho, he, Sem.run_bind, Sem.run_pure, Result.andThen_ok, hrun]
  unfold eUn at h
  split at h
  case h_4 => exact h.elim
  case h_1 =>
    rename_i b he
    rw [he] at hv
    obtain ⟨rfl, rfl, -, -⟩ : v = _ ∧ s' = _ ∧ r = [] ∧ wr = [] := h
    exact sound_val hs hd hst (ex _ (.bool !b) hv.1 (by simp [Op.unary])) ⟨rfl, trivial⟩
  case h_2 =>
    rename_i k n he
    rw [he] at hv
    obtain ⟨rfl, rfl, -, -⟩ : v = _ ∧ s' = _ ∧ r = [] ∧ wr = [] := h
    exact sound_val hs hd hst (ex _ (.int k (k.wrap (0 - n))) hv.1 (by simp [Op.unary, Op.intArith])) ⟨rfl, wf_wrap _ _⟩
  case h_3 =>
    rename_i k n he
    rw [he] at hv
    obtain ⟨rfl, rfl, -, -⟩ : v = _ ∧ s' = _ ∧ r = [] ∧ wr = [] := h
    exact sound_val hs hd hst (ex _ _ hv.1 (by simp [Op.unary, Op.intBits])) ⟨rfl, wf_wrap _ _⟩
theorem madeCells_get {z : Array Value} {n m : Nat} (hm : m < n) (hz : 0 < z.size) : (madeCells z n)[m]? = z[m % z.size]? := by
  have hlt : m % z.size < z.size := Nat.mod_lt _ hz
  unfold madeCells
  simp [hm, hlt]
theorem made_cont {S : Nat → Prop} {k : K} {z : Array Value} {n c : Nat} (hz : ZeroC (leaves (zK k)) z) (hn : n ≤ c) : Cont S w (List.replicate n (zK k)) (fun o => (madeCells z (c * size k))[o]?) := by
  intro i x hx j lf hlf
  obtain ⟨hi, rfl⟩ : i < n ∧ x = zK k := by
    have hi := (List.getElem?_eq_some_iff.1 hx).1
    simp at hi
    refine ⟨hi, ?_⟩
    rw [List.getElem?_replicate, if_pos hi] at hx
    exact (Option.some.inj hx).symm
  have hj : j < size k := by have := (List.getElem?_eq_some_iff.1 hlf).1; rwa [leaves_len] at this
  have hzs : z.size = size k := by rw [hz.1, leaves_len]
  obtain ⟨u, hu, hl⟩ := hz.2 j lf hlf
  refine ⟨u, ?_, ?_⟩
  · show (madeCells z (c * size k))[i * size k + j]? = some u
    rw [madeCells_get (mul_lt_add (by omega) hj) (by rw [hzs]; exact size_pos k), hzs, Nat.mul_comm i, Nat.mul_add_mod, Nat.mod_eq_of_lt hj]
    exact hu
  · cases lf with
    | sc q => exact hl
    | nest k' l' => obtain ⟨rfl, rfl⟩ := hl; exact Row.nil
/-- A new row. -/
theorem new_row {β : Nat → Option (Nat × Nat)} {N : Nat → List Nat} {tm : Array Value} (h : St X ε w tm β N) (id : Nat) (hid : 99 ≤ id) {k : K} {l : List (ty k)} {cur : Array Value} {cap : Nat} (h1 : l.length ≤ 9223372036854775807) (h2 : l.length ≤ cap) (h3 : cap ≤ maxLen) (h4 : cur.size = cap * size k) (h5 : Cont (Fz X w N ε.s) w l (fun o => cur[o]?)) :
    St X ⟨ε.t, upd ε.s id ⟨(ε.s id).ver + 1, some (.rowb k l)⟩⟩ (w.alloc (.cells cur (tid k))) tm (upd β id (some (w.heap.size, 0))) (upd N id [w.heap.size]) ∧
    ValC (Fz X (w.alloc (.cells cur (tid k))) (upd N id [w.heap.size]) (upd ε.s id ⟨(ε.s id).ver + 1, some (.rowb k l)⟩)) (w.alloc (.cells cur (tid k))) (upd β id (some (w.heap.size, 0))) (upd ε.s id ⟨(ε.s id).ver + 1, some (.rowb k l)⟩) (.ref id ((ε.s id).ver + 1) 0 l.length true) (.slice (some ⟨w.heap.size, 0, none⟩) l.length cap) := by
  have hheap := heap_alloc_new w (.cells cur (tid k))
  refine ⟨(new_blk (w' := w.alloc (.cells cur (tid k))) h id hid (.rowb k l) (some (w.heap.size, 0)) [w.heap.size] rfl rfl rfl (by simp) (fun b hb => Below.heap_alloc w _ b hb) (by simp) (by simp) fun T => ?_).2, ?_⟩
  · refine .inr ⟨w.heap.size, cap, cur, by rw [upd_same], rfl, h1, RowAt.of hheap, h2, h3, h4, fun i x hx j lf hlf => ?_⟩
    obtain ⟨u, hu, hv⟩ := h5 i x hx j lf hlf
    refine ⟨u, hu, ?_⟩
    cases lf with
    | sc q => exact hv
    | nest k' l' => exact T.row hv
  · refine ⟨by show _ ≤ (upd ε.s _ _ _).ver; rw [upd_same]; exact Nat.le_refl _, ⟨_, _, _, rfl⟩, fun k2 l2 e => ?_⟩
    rw [upd_same] at e
    cases e
    refine ⟨by omega, .inr ⟨w.heap.size, cap, 0, by rw [upd_same], h2, rfl, fun _ => by rw [Nat.zero_mul], fun _ => ⟨rfl, rfl, fun c2 E2 fz2 hc2 => ?_⟩⟩⟩
    rw [hheap] at hc2
    cases hc2
    exact h4
theorem new_rowW {w' : World} {β : Nat → Option (Nat × Nat)} {N : Nat → List Nat} {tm : Array Value} (h : St X ε w tm β N) (id : Nat) (hid : 99 ≤ id) {k : K} {l : List (ty k)} {cur : Array Value} {cap : Nat} {fz : Nat × Nat} (ho : w'.os = w.os) (ht : w'.tape = w.tape) (hu : w'.output = w.output) (hz : w.heap.size < w'.heap.size)
    (hsame : ∀ b, b < w.heap.size → w'.heap[b]? = w.heap[b]?) (hheap : w'.heap[w.heap.size]? = some (.cells cur (tid k) fz)) (hice : NoIce cur.size fz) (h1 : l.length ≤ 9223372036854775807) (h2 : l.length ≤ cap) (h3 : cap ≤ maxLen) (h4 : cur.size = cap * size k) (h5 : Cont (Fz X w N ε.s) w l (fun o => cur[o]?)) :
    St X ⟨ε.t, upd ε.s id ⟨(ε.s id).ver + 1, some (.rowb k l)⟩⟩ w' tm (upd β id (some (w.heap.size, 0))) (upd N id [w.heap.size]) ∧
    ValC (Fz X w' (upd N id [w.heap.size]) (upd ε.s id ⟨(ε.s id).ver + 1, some (.rowb k l)⟩)) w' (upd β id (some (w.heap.size, 0))) (upd ε.s id ⟨(ε.s id).ver + 1, some (.rowb k l)⟩) (.ref id ((ε.s id).ver + 1) 0 l.length true) (.slice (some ⟨w.heap.size, 0, none⟩) l.length cap) := by
  refine ⟨(new_blk (w' := w') h id hid (.rowb k l) (some (w.heap.size, 0)) [w.heap.size] ho ht hu (Nat.le_of_lt hz) hsame (by simpa using hz) (by simp) fun T => ?_).2, ?_⟩
  · refine .inr ⟨w.heap.size, cap, cur, by rw [upd_same], rfl, h1, ⟨fz, hheap, hice⟩, h2, h3, h4, fun i x hx j lf hlf => ?_⟩
    obtain ⟨u, hu, hv⟩ := h5 i x hx j lf hlf
    refine ⟨u, hu, ?_⟩
    cases lf with
    | sc q => exact hv
    | nest k' l' => exact T.row hv
  · refine ⟨by show _ ≤ (upd ε.s _ _ _).ver; rw [upd_same]; exact Nat.le_refl _, ⟨_, _, _, rfl⟩, fun k2 l2 e => ?_⟩
    rw [upd_same] at e
    cases e
    refine ⟨by omega, .inr ⟨w.heap.size, cap, 0, by rw [upd_same], h2, rfl, fun _ => by rw [Nat.zero_mul], fun _ => ⟨rfl, rfl, fun c2 E2 fz2 hc2 => ?_⟩⟩⟩
    rw [hheap] at hc2
    cases hc2
    exact h4
theorem eMakeSlice_sound (hF : Facts P) {t : TypeId} {x y : Operand} (ho : o.op = .makeSlice t x y) (hx : opndB nt x = true) (hy : opndB nt y = true) (hg : Good X nt ε a w) (h : (eMakeSlice o t (opd ε.t x) (opd ε.t y)).Run PC ε.s v s' r wr) :
    o.wp P a w (fun a' w' => Good X nt ⟨putE o.dst v ε.t, s'⟩ a' w') Q := by
  obtain ⟨hs, hd, β, N, hst⟩ := id hg
  have hv := hst.opd hs hx
  have hvy := hst.opd hs hy
  unfold eMakeSlice at h
  split at h
  case h_2 => exact h.elim
  rename_i k kl l kc c ht he hey
  rw [he] at hv
  rw [hey] at hvy
  split at h
  case isFalse => exact h.elim
  rename_i hlc
  obtain ⟨⟨g1, g2⟩, h⟩ := h
  obtain ⟨r', wr', h⟩ := newBlk_run h
  obtain ⟨rfl, rfl, -, -⟩ : v = _ ∧ s' = _ ∧ r' = [] ∧ wr' = [] := h
  obtain ⟨i, z, q1, q2, q3, q4, q5, q6⟩ := hF.el k
  have hrun := run_make (P := P) w t (tid k) i z (hF.sl t k ht) q1 q2 kl kc l c hlc.1 hlc.2 (by
    rw [q4]
    have : ((c.toNat * byt k : Nat) : Int) ≤ 140737488355328 := by omega
    rw [Int.natCast_mul] at this
    have h2 : ((c.toNat : Nat) : Int) = c := by omega
    rw [h2, Int.mul_comm] at this
    omega) (by omega)
  have hnr := new_row (l := List.replicate l.toNat (zK k)) (cur := madeCells z.cells (c.toNat * size k)) (cap := c.toNat) hst (site o) (site_ge o) (by simp; omega) (by simp; omega) (by unfold maxLen; omega) (by rw [size_madeCells]) (made_cont q6 (by omega))
  simp only [List.length_replicate] at hnr
  rw [q3] at hrun
  refine sound_st hs hd ?_ hnr.1 hnr.2
  unfold execOp
  simp only [ho, hv.1, hvy.1, Sem.run_bind, Sem.run_pure, Result.andThen_ok, hrun]
theorem settle_stor {p : PV} {q : LeafI} {s s' : Sto} {r wr : List Nat} (hr : (settle p).Run PC s q s' r wr) : storable p = true := by
  unfold settle at hr
  split at hr <;> first | rfl | exact hr.elim
theorem settles_stor : ∀ {ps : List PV} {qs : List LeafI} {s s' : Sto} {r wr : List Nat}, (settles ps).Run PC s qs s' r wr → ps.all storable = true ∧ qs.length = ps.length
  | [], qs, s, s', r, wr, hr => by obtain ⟨rfl, -, -, -⟩ := hr; exact ⟨rfl, rfl⟩
  | p :: ps, qs, s, s', r, wr, hr => by
    obtain ⟨a1, s1, r1, w1, r2, w2, k1, k2⟩ := bind_run hr
    obtain ⟨a2, s2, r3, w3, r4, w4, k3, k4⟩ := bind_run k2
    obtain ⟨e, e2, -, -⟩ := k4
    subst e
    obtain ⟨h1, h2⟩ := settles_stor k3
    exact ⟨by simp [settle_stor k1]; simpa using h1, by simp [h2]⟩
theorem cont_set {S : Nat → Prop} {k : K} {l : List (ty k)} {us xs : List Value} {i : Nat} {x y : ty k} {ls : List LeafI} (h : Cont S w l (fun o => us[o]?)) (hl : us.length = l.length * size k) (hx : l[i]? = some x) (hv : All2 (LI S w) ls xs) (hls : ls.length = size k) (hy : ofLeaves k ls = some y) :
    Cont S w (l.set i y) (fun o => (splice us (i * size k) xs)[o]?) := by
  have hxl := hv.len
  have hi : i < l.length := (List.getElem?_eq_some_iff.1 hx).1
  have hfit : i * size k + xs.length ≤ us.length := by
    have : (i + 1) * size k ≤ l.length * size k := Nat.mul_le_mul_right _ (by omega)
    rw [Nat.add_mul] at this; omega
  intro i' x' hx' j' lf hlf
  have hj' : j' < size k := by have := (List.getElem?_eq_some_iff.1 hlf).1; rwa [leaves_len] at this
  show ∃ u, (splice us (i * size k) xs)[i' * size k + j']? = some u ∧ _
  by_cases hii : i' = i
  · subst hii
    rw [List.getElem?_set_self (by omega)] at hx'
    cases hx'
    obtain ⟨lf', hlf', hI⟩ := (ofLeaves_spec hy).get j' ls[j'] (by simp [show j' < ls.length by omega])
    rw [hlf] at hlf'; cases hlf'
    obtain ⟨u, hu, hli⟩ := hv.get j' ls[j'] (by simp [show j' < ls.length by omega])
    exact ⟨u, by rw [splice_in hfit (by omega)]; exact hu, hli.leaf hI⟩
  · rw [List.getElem?_set_ne (Ne.symm hii)] at hx'
    obtain ⟨u, h9, h10⟩ := h i' x' hx' j' lf hlf
    refine ⟨u, ?_, h10⟩
    rw [splice_out hfit ?_]
    · exact h9
    · rcases Nat.lt_or_ge i' i with h11 | h11
      · left
        have : (i' + 1) * size k ≤ i * size k := Nat.mul_le_mul_right _ h11
        rw [Nat.add_mul] at this; omega
      · right
        have : (i + 1) * size k ≤ i' * size k := Nat.mul_le_mul_right _ (by omega)
        rw [Nat.add_mul] at this; omega
theorem setsE_run {t : Nat → PV} {tm : Array Value} {β : Nat → Option (Nat × Nat)} {N : Nat → List Nat} {k : K} : ∀ (parts : List (Nat × PV)) (vals : List (Nat × Value)) (l l' : List (ty k)) (us : List Value) (s s' : Sto) (r wr : List Nat), St X ⟨t, s⟩ w tm β N →
    All2 (fun p q => p.1 = q.1 ∧ ValC (Fz X w N s) w β s p.2 q.2) parts vals → Cont (Fz X w N s) w l (fun o => us[o]?) → us.length = l.length * size k → (setsE k l parts).Run PC s l' s' r wr →
    ∃ us' : List Value, Instr.fill (fun i => some (i * size k, size k)) us.toArray vals = some us'.toArray ∧ St X ⟨t, s'⟩ w tm β N ∧ Cont (Fz X w N s') w l' (fun o => us'[o]?) ∧ us'.length = l'.length * size k ∧ l'.length = l.length
  | [], [], l, l', us, s, s', r, wr, h, _, hc, hl, hr => by
    obtain ⟨rfl, rfl, -, -⟩ := hr
    exact ⟨us, rfl, h, hc, hl, rfl⟩
  | (i, v) :: parts, (i', u) :: vals, l, l', us, s, s', r, wr, h, ⟨⟨e, hv⟩, ht⟩, hc, hl, hr => by
    simp only at e hv
    subst e
    unfold setsE at hr
    split at hr
    case h_1 => exact hr.elim
    rename_i x hx
    obtain ⟨ls, s1, r1, w1, r2, w2, k1, hr⟩ := bind_run hr
    split at hr
    case isFalse => exact hr.elim
    rename_i hls
    split at hr
    case h_2 => exact hr.elim
    rename_i y hy
    obtain ⟨p1, p2⟩ := settles_stor k1
    obtain ⟨xs, hxs, hall, _⟩ := cellsP_val hv p1
    obtain ⟨m1, m2, m3, _⟩ := settles_spec h hall k1
    have hxl := m3.len
    have hi : i < l.length := (List.getElem?_eq_some_iff.1 hx).1
    have hfit : i * size k + xs.length ≤ us.length := by
      have : (i + 1) * size k ≤ l.length * size k := Nat.mul_le_mul_right _ (by omega)
      rw [Nat.add_mul] at this; omega
    have hc1 : Cont (Fz X w N s1) w l (fun o => us[o]?) := fun i2 x2 hx2 j2 lf2 hlf2 => by
      obtain ⟨u2, hu2, hv2⟩ := hc i2 x2 hx2 j2 lf2 hlf2
      refine ⟨u2, hu2, ?_⟩
      cases lf2 with
      | sc q => exact hv2
      | nest k2 l2 => exact m2.row hv2
    obtain ⟨us', q1, q2, q3, q4, q5⟩ := setsE_run parts vals (l.set i y) l' (splice us (i * size k) xs) s1 s' r2 w2 m1 (ht.mono fun a b hab => ⟨hab.1, m2.vc hab.2⟩) (cont_set hc1 hl hx m3 hls hy) (by rw [splice_length hfit]; simpa using hl) hr
    refine ⟨us', ?_, q2, q3, q4, by simpa using q5⟩
    rw [Instr.fill]
    simp only [hxs, List.size_toArray]
    rw [if_neg (by simp; omega)]
    rw [fold_splice (i * size k) xs us.toArray (by simpa using hfit)]
    exact q1
  | [], _ :: _, _, _, _, _, _, _, _, _, h, _, _, _ => h.elim
  | _ :: _, [], _, _, _, _, _, _, _, _, h, _, _, _ => h.elim
theorem eBuildSlice_sound (hF : Facts P) {t : TypeId} {n : Nat} {parts : Array (Nat × Operand)} (ho : o.op = .buildSlice t n parts) (hx : (parts.toList.map (·.2)).all (opndB nt) = true) (hg : Good X nt ε a w) (h : (eBuildSlice o t n (parts.toList.map fun x => (x.1, opd ε.t x.2))).Run PC ε.s v s' r wr) :
    o.wp P a w (fun a' w' => Good X nt ⟨putE o.dst v ε.t, s'⟩ a' w') Q := by
  obtain ⟨hs, hd, β, N, hst⟩ := id hg
  unfold eBuildSlice at h
  split at h
  case h_2 => exact h.elim
  rename_i k hk
  obtain ⟨i, z, q1, q2, q3, q4, q5, q6⟩ := hF.el k
  split at h
  case isTrue hn0 =>
    subst hn0
    split at h
    case h_2 => exact h.elim
    rename_i hp
    obtain rfl : parts = #[] := by
      apply Array.ext'
      simpa using hp
    obtain ⟨r', wr', h⟩ := newBlk_run h
    obtain ⟨rfl, rfl, -, -⟩ : v = _ ∧ s' = _ ∧ r' = [] ∧ wr' = [] := h
    obtain ⟨nr1, nr2⟩ := new_row (ε := ⟨ε.t, ε.s⟩) (k := k) (l := []) (cur := #[]) (cap := 0) hst (site o) (site_ge o) (by simp) (by simp) (by unfold maxLen; omega) (by simp) (fun i x hx => by simp at hx)
    refine sound_st hs hd (u := .slice (some ⟨w.heap.size, 0, none⟩) 0 0) ?_ nr1 nr2
    have hrun : (Instr.buildSlice t 0 #[]).run P w = .ok (.slice (some ⟨w.heap.size, 0, none⟩) 0 0) (w.alloc (.cells #[] (tid k))) := by
      have e0 : Array.range 0 = #[] := rfl
      simp [Instr.buildSlice, run_underlying (hF.sl t k hk), sizeOf, typeInfo, q1, Instr.fill, newRow, e0]
    unfold execOp
    simp only [ho, Sem.run_bind, Array.map_empty, hrun, Result.andThen_ok, Sem.run_pure]
  rename_i hn0
  split at h
  case isFalse => exact h.elim
  rename_i hn
  obtain ⟨l, s1, r1, w1, r2, w2, k1, h⟩ := bind_run h
  obtain ⟨r', wr', h⟩ := newBlk_run h
  obtain ⟨rfl, rfl, -, -⟩ : v = _ ∧ s' = _ ∧ r' = [] ∧ wr' = [] := h
  have hparts : ∀ (l : List (Nat × Operand)), (∀ x ∈ l, opndB nt x.2 = true) → All2 (fun (p : Nat × PV) (q : Nat × Value) => p.1 = q.1 ∧ ValC (Fz X w N ε.s) w β ε.s p.2 q.2) (l.map fun x => (x.1, opd ε.t x.2)) (l.map fun x => (x.1, a.eval x.2)) := by
    intro l
    induction l with
    | nil => intro _; trivial
    | cons x l ih => intro hl; exact ⟨⟨rfl, hst.opd hs (hl x (by simp))⟩, ih fun y hy => hl y (by simp [hy])⟩
  obtain ⟨us', p1, p2, p3, p4, p5⟩ := setsE_run (t := ε.t) _ _ _ _ (madeCells z.cells (n * size k)).toList _ _ _ _ hst (hparts parts.toList fun x hxm => List.all_eq_true.1 hx x.2 (List.mem_map.2 ⟨x, hxm, rfl⟩)) (by have := made_cont (w := w) (S := Fz X w N ε.s) (n := n) (c := n) q6 (Nat.le_refl _); simpa using this) (by simp [size_madeCells]) k1
  simp only [List.length_replicate] at p5
  have hsz := size_pos k
  have hnle : n ≤ n * size k := Nat.le_mul_of_pos_right _ hsz
  obtain ⟨nr1, nr2⟩ := new_row (ε := ⟨ε.t, s1⟩) (l := l) (cur := us'.toArray) (cap := n) p2 (site o) (site_ge o) (by omega) (by omega) (by unfold maxLen; omega) (by simp [p4, p5]) (by simpa using p3)
  refine sound_st hs hd (u := .slice (some ⟨w.heap.size, 0, none⟩) l.length n) ?_ nr1 nr2
  have hrun := run_buildSlice (P := P) w t (tid k) n (parts.map fun x => (x.1, a.eval x.2)) us'.toArray i z (hF.sl t k hk) q1 q2 (by rw [q3]; omega) (by rw [q3]; have := Nat.mul_pos (by omega : 0 < n) hsz; omega) (by rw [q3, Array.toList_map]; rw [Array.toArray_toList] at p1; exact p1)
  unfold execOp
  simp only [ho, Sem.run_bind, hrun, Result.andThen_ok, Sem.run_pure, p5]
end
open Go.RowKit
def eToBytes (o : Oper) (src dst : TypeId) (x : PV) : Eff PV := match cvT src dst, x with
  | some .toBytes, .v (.string s) => newBlk (site o) (.rowb .u8 s.data.toList) fun ver => .ret (.ref (site o) ver 0 s.data.toList.length true)
  | _, _ => .fail
def eToStr (src dst : TypeId) (x : PV) : Eff PV := match cvT src dst with
  | some .toStr => (elemsE .u8 x).bind fun l => .ret (.v (.string ⟨l.toArray⟩))
  | _ => .fail
section
variable {P : Program} {PC : Con} {X : Ctx} {nt : Nat} {Q : Exit → Act → World → Prop} {ε : Env} {a : Act} {w : World} {o : Oper} {v : PV} {s' : Sto} {r wr : List Nat}
theorem eField_sound (hF : Facts P) {t : TypeId} {x : Operand} {i : Nat} (ho : o.op = .field t x i) (hx : opndB nt x = true) (hg : Good X nt ε a w) (h : (eField t i (opd ε.t x)).Run PC ε.s v s' r wr) :
    o.wp P a w (fun a' w' => Good X nt ⟨putE o.dst v ε.t, s'⟩ a' w') Q := by
  obtain ⟨hs, hd, β, N, hst⟩ := id hg
  have hv := hst.opd hs hx
  unfold eField at h
  split at h
  case h_2 => exact h.elim
  rename_i off ag n hf
  split at h
  case h_2 => exact h.elim
  rename_i cs he
  rw [he] at hv
  obtain ⟨us, hu, hall⟩ := hv
  obtain ⟨hn, fs, f, q1, q2, q3, q4, q5, q6⟩ := hF.fld t i off ag n hf
  unfold rangeV at h
  split at h
  case isFalse => exact h.elim
  rename_i hlen
  have hul : cs.length = us.size := by simpa using hall.len
  have hex : ∀ q, (part f.type us off).run P w = .ok q w → (execOp a.eval o).run P w = .ok (.value q) w := by
    intro q hq
    unfold execOp
    simp only [ho, hu, Instr.field, run_underlying q1, q2, q3, asAgg, Sem.run_bind, Sem.run_pure, Result.andThen_ok, hq]
  cases hq : P.info? f.type with
  | none => simp [hq] at q5
  | some inf =>
  have hsz : inf.size = n := by simpa [hq] using q5
  unfold mkVal at h
  cases ag with
  | true =>
    obtain ⟨rfl, rfl, -, -⟩ : v = _ ∧ s' = _ ∧ r = [] ∧ wr = [] := h
    refine sound_val hs hd hst (hex (.agg (us.extract off (off + n))) ?_) ⟨_, rfl, ?_⟩
    · simp [part, q4 w, sizeOf, typeInfo, hq, hsz]
    · refine All2.of (by simp only [List.length_take, List.length_drop, Array.toList_extract, List.extract_eq_take_drop, Array.length_toList]; omega) fun j p u hp hu2 => ?_
      rw [List.getElem?_take] at hp
      split at hp
      · rename_i hj
        rw [List.getElem?_drop] at hp
        obtain ⟨u', hu', hv'⟩ := hall.get _ p hp
        have h2 : us[off + j]? = some u := by
          simp only [Array.toList_extract, List.extract_eq_take_drop, Nat.add_sub_cancel_left] at hu2
          rw [List.getElem?_take, if_pos hj, List.getElem?_drop] at hu2
          simpa using hu2
        have h3 : us[off + j]? = some u' := by simpa using hu'
        rw [h2] at h3; cases h3
        exact hv'
      · cases hp
  | false =>
    obtain rfl := q6 rfl
    simp only [Bool.false_eq_true, if_false] at h
    split at h
    · rename_i c hcs
      obtain ⟨rfl, rfl, -, -⟩ : v = _ ∧ s' = _ ∧ r = [] ∧ wr = [] := h
      have hc : cs[off]? = some v := by
        have : ((cs.drop off).take 1)[0]? = some v := by rw [hcs]; rfl
        rw [List.getElem?_take, if_pos (by omega), List.getElem?_drop] at this
        exact this
      obtain ⟨u', hu', hv'⟩ := hall.get _ _ hc
      have h3 : us[off]? = some u' := by simpa using hu'
      refine sound_val hs hd hst (hex u' ?_) ?_
      · simp [part, q4 w, h3]
      · cases v <;> first | exact hv' | exact hv'.elim
    · exact h.elim
theorem eMin_sound {b : Bool} {xs : Array Operand} {ats : Array TypeId} (ho : o.op = .call { callee := .builtin (if b then .max else .min), args := xs, argTypes := ats }) (hx : xs.toList.all (opndB nt) = true) (hg : Good X nt ε a w) (h : (eMin b (xs.toList.map (opd ε.t))).Run PC ε.s v s' r wr) :
    o.wp P a w (fun a' w' => Good X nt ⟨putE o.dst v ε.t, s'⟩ a' w') Q := by
  obtain ⟨hs, hd, β, N, hst⟩ := id hg
  unfold eMin at h
  split at h
  case h_2 => exact h.elim
  rename_i k p k' q he
  split at h
  case isFalse => exact h.elim
  rename_i hk
  subst hk
  have hargs : All2 (ValC (Fz X w N ε.s) w β ε.s) (xs.toList.map (opd ε.t)) (xs.toList.map a.eval) := All2.map_args fun x hxm => hst.opd hs (List.all_eq_true.1 hx x hxm)
  rw [he] at hargs
  obtain ⟨rfl, rfl, -, -⟩ : v = _ ∧ s' = _ ∧ r = [] ∧ wr = [] := h
  match hm : xs.toList.map a.eval, hargs with
  | [u1, u2], ⟨h1, h2, _⟩ =>
    obtain ⟨rfl, hw1⟩ := h1
    obtain ⟨rfl, hw2⟩ := h2
    have hmap : xs.map a.eval = #[.int k p, .int k q] := by
      apply Array.ext'
      simpa using hm
    refine sound_val hs hd hst (u := .int k (if b then (if p < q then q else p) else (if q < p then q else p))) ?_ ⟨rfl, ?_⟩
    · unfold execOp
      cases b with
      | true =>
        have hrun : (Builtin.max_ ats o.type #[.int k p, .int k q]).run P w = .ok (.int k (if p < q then q else p)) w := by simp [Builtin.max_, Builtin.max2, List.foldlM]
        simp only [ho, if_true, resolve, invoke, builtin, hmap, Sem.run_bind, Sem.run_pure, Result.andThen_ok, hrun]
      | false =>
        have hrun : (Builtin.min_ ats o.type #[.int k p, .int k q]).run P w = .ok (.int k (if q < p then q else p)) w := by simp [Builtin.min_, Builtin.min2, List.foldlM]
        simp only [ho, if_false, Bool.false_eq_true, resolve, invoke, builtin, hmap, Sem.run_bind, Sem.run_pure, Result.andThen_ok, hrun]
    · cases b <;> simp only [Bool.false_eq_true, if_false, if_true] <;> split <;> assumption
theorem eToBytes_sound (hF : Facts P) {src dst : TypeId} {x : Operand} (ho : o.op = .convert src dst x) (hx : opndB nt x = true) (hg : Good X nt ε a w) (h : (eToBytes o src dst (opd ε.t x)).Run PC ε.s v s' r wr) :
    o.wp P a w (fun a' w' => Good X nt ⟨putE o.dst v ε.t, s'⟩ a' w') Q := by
  obtain ⟨hs, hd, β, N, hst⟩ := id hg
  have hv := hst.opd hs hx
  unfold eToBytes at h
  split at h
  case h_2 => exact h.elim
  rename_i s hcv he
  rw [he] at hv
  obtain ⟨r', wr', h⟩ := newBlk_run h
  obtain ⟨rfl, rfl, -, -⟩ : v = _ ∧ s' = _ ∧ r' = [] ∧ wr' = [] := h
  obtain ⟨⟨d, hsrc⟩, hdst, hel⟩ := hF.cvB _ _ hcv
  have hrun := Go.Lib.run_convert_string_bytes (P := P) w src dst (tid .u8) s hsrc hdst hel
  have hsz : s.data.toList.length = s.size := Array.length_toList
  have hwf : s.size ≤ 9223372036854775807 := hv.2
  have hge := grownCap_ge w s.size 0 (tid .u8)
  have hnew := Go.Lib.bytesWorld_at_new w (tid .u8) s
  have hcs : (Go.Lib.bytesCells w (tid .u8) s).size = grownCap w s.size 0 (tid .u8) * size .u8 := by
    show _ = grownCap w s.size 0 (tid .u8) * 1
    have : s.data.size = s.size := rfl
    simp [Go.Lib.bytesCells, this]; omega
  have hnr := new_rowW (l := s.data.toList) (k := .u8) (cur := Go.Lib.bytesCells w (tid .u8) s) (cap := grownCap w s.size 0 (tid .u8)) hst (site o) (site_ge o) (w' := Go.Lib.bytesWorld w (tid .u8) s) rfl rfl rfl
    (by rw [Go.Lib.bytesWorld_size]; omega) (fun b hb => Go.Lib.bytesWorld_at_old w (tid .u8) s b hb) hnew (.inr (Nat.le_refl _)) (by omega) (by omega) (grownCap_le_maxLen _ _ _ _ (by unfold maxLen; exact hwf)) hcs
    (fun i x hx j lf hlf => by
      have hj : j < size .u8 := by have := (List.getElem?_eq_some_iff.1 hlf).1; rwa [leaves_len] at this
      have hj0 : j = 0 := by have h1 : size .u8 = 1 := rfl; omega
      subst hj0
      have e : lf = .sc (.int .u8 x.toNat) := by
        have : (leaves (k := .u8) x)[0]? = some (.sc (.int .u8 x.toNat)) := rfl
        rw [this] at hlf; exact (Option.some.inj hlf).symm
      subst e
      refine ⟨.int .u8 x.toNat, ?_, rfl, ?_⟩
      · show (Go.Lib.bytesCells w (tid .u8) s)[i * 1 + 0]? = _
        have hx2 : s.data[i]? = some x := by simpa using hx
        have hlt : i < s.data.size := (Array.getElem?_eq_some_iff.1 hx2).1
        unfold Go.Lib.bytesCells
        rw [Array.getElem?_append_left (by simpa using hlt), Nat.mul_one, Nat.add_zero, Array.getElem?_map, hx2]
        rfl
      · refine (wrap_iff .u8 _).2 ?_
        have := x.toNat_lt
        simp [loK, hiK]; omega)
  refine sound_st hs hd ?_ hnr.1 hnr.2
  have hrun' : (convert src dst (.string s)).run P w = .ok (.slice (some ⟨w.heap.size, 0, none⟩) s.data.toList.length (grownCap w s.size 0 (tid .u8))) (Go.Lib.bytesWorld w (tid .u8) s) := by rw [hsz]; exact hrun
  unfold execOp
  simp only [ho, hv.1, Sem.run_bind, Sem.run_pure, Result.andThen_ok, hrun']
theorem eToStr_sound (hF : Facts P) {src dst : TypeId} {x : Operand} (ho : o.op = .convert src dst x) (hx : opndB nt x = true) (hg : Good X nt ε a w) (h : (eToStr src dst (opd ε.t x)).Run PC ε.s v s' r wr) :
    o.wp P a w (fun a' w' => Good X nt ⟨putE o.dst v ε.t, s'⟩ a' w') Q := by
  obtain ⟨hs, hd, β, N, hst⟩ := id hg
  have hv := hst.opd hs hx
  unfold eToStr at h
  split at h
  case h_2 => exact h.elim
  rename_i hcv
  obtain ⟨hsrc, hdst, hel⟩ := hF.cvS _ _ hcv
  obtain ⟨l, s1, r1, w1, r2, w2, h1, h⟩ := bind_run h
  obtain ⟨rfl, rfl, -, -⟩ : v = _ ∧ s' = _ ∧ r2 = [] ∧ w2 = [] := h
  obtain ⟨rfl, pa, c, xs, he, hfc, hnews⟩ := elemsE_run hst hv h1
  have hxs : xs = (l.map fun b => (b.toNat : Int)).map (Value.int .u8) := by
    apply List.ext_getElem?
    intro i
    rw [List.getElem?_map, List.getElem?_map]
    have hl1 : xs.length = l.length := by have := hfc.1; rw [show size .u8 = 1 from rfl, Nat.mul_one] at this; exact this
    by_cases hi : i < l.length
    · obtain ⟨u, hu, hq⟩ := hfc.2 i l[i] (by simp [hi]) 0 (.sc (.int .u8 l[i].toNat)) rfl
      obtain ⟨rfl, _⟩ := hq
      have hu2 : xs[i]? = some (.int .u8 l[i].toNat) := by
        have h3 : i * size .u8 + 0 = i := by rw [show size .u8 = 1 from rfl]; omega
        simp only [h3] at hu; exact hu
      rw [hu2]
      simp [hi]
    · rw [List.getElem?_eq_none (by omega), List.getElem?_eq_none (by omega)]; rfl
  have hfold : ∀ (l : List UInt8) (s : ByteArray), (l.map fun b => (b.toNat : Int)).foldl (fun r n => r.push (UInt8.ofNat n.toNat)) s = ⟨s.data ++ l.toArray⟩ := by
    intro l
    induction l with
    | nil => intro s; simp
    | cons b l ih =>
      intro s
      simp only [List.map_cons, List.foldl_cons, ih]
      congr 1
      simp [ByteArray.push]
  have hlen : l.length ≤ 9223372036854775807 := by
    rcases pa with _ | _
    · by_cases hne : l = []
      · rw [hne]; simp
      · obtain ⟨b, off, e, _⟩ := hnews hne; cases e
    · exact elemsE_len hst hv h1
  refine sound_val hs hd hst (u := .string ⟨l.toArray⟩) ?_ ⟨rfl, by show (ByteArray.mk l.toArray).size ≤ _; simpa [ByteArray.size] using hlen⟩
  have hrun : (convert src dst (.slice pa l.length c)).run P w = .ok (.string ⟨l.toArray⟩) w := by
    rw [run_convert_bytes_string w src dst (tid .u8) pa l.length c hsrc hel hdst]
    cases pa with
    | none =>
      have hne : l = [] := by
        by_cases hne : l = []
        · exact hne
        · obtain ⟨b, off, e, _⟩ := hnews hne; cases e
      subst hne
      simp [Conv.bytesToString]
      rfl
    | some ad =>
      have hload : (loadCells ad l.length).run P w = .ok ((l.map fun b => (b.toNat : Int)).map (Value.int .u8)).toArray w := by
        have hl1 : xs.length = l.length := by rw [hxs]; simp
        rw [← hxs, ← hl1]
        refine run_loadCells_list (P := P) w ad xs fun j u hu => ?_
        have hne : l ≠ [] := by
          intro e
          rw [e] at hl1
          have : xs = [] := List.eq_nil_of_length_eq_zero hl1
          rw [this] at hu; simp at hu
        obtain ⟨b, off, e, h2⟩ := hnews hne
        cases e
        rw [addr_add]
        exact h2 j u hu
      rw [run_bytesToString w ad l.length c _ hload, hfold]
      simp
  unfold execOp
  simp only [ho, he, Sem.run_bind, Sem.run_pure, Result.andThen_ok, hrun]
end
open Go.RowKit
/-! ### Maps: literals and look-ups -/
def keyB : MK → Value → Bool
  | .s, .string _ => true
  | .i, .int .i64 _ => true
  | .b, .bool _ => true
  | _, _ => false
theorem keyB_spec {m : MK} {v : Value} (h : keyB m v = true) : MapKept.IsKey m.td v := by
  unfold keyB at h
  split at h
  · trivial
  · rfl
  · trivial
  · cases h
def eMakeMap (o : Oper) : Eff PV := newBlk (site o) (.objb (.map #[] 0)) fun ver => .ret (.ptr (site o) ver 0 0)
def eInsert (t : TypeId) (m k v : PV) : Eff PV := match mapT t, m, k, v with
  | some (mk, _), .ptr id ver _ 0, .v kv, .v vv => if keyB mk kv = true then live id ver fun
      | .objb (.map es cl) => .guard (Instr.findNow mk.td kv es.toList 0 = some none) (.wr id ⟨ver, some (.objb (.map (es.push { key := kv, val := vv, born := cl }) (cl + 1)))⟩ (.ret .un))
      | _ => .fail
    else .fail
  | _, _, _, _ => .fail
def eLookup (t : TypeId) (m k : PV) : Eff PV := match mapT t, m, k with
  | some (mk, z), .ptr id ver _ 0, .v kv => if keyB mk kv = true then live id ver fun
      | .objb (.map es _) => match Instr.findNow mk.td kv es.toList 0 with
        | some (some (_, x)) => .guard (wfV x) (.ret (.v x))
        | some none => .ret (.v z)
        | none => .fail
      | _ => .fail
    else .fail
  | _, _, _ => .fail
def eRange (o : Oper) (t : TypeId) (m : PV) : Eff PV := match mapT t, m with
  | some _, .ptr id ver _ 0 => live id ver fun
      | .objb (.map _ cl) => newBlk (site o) (.iterb id ver cl #[] cl) fun v => .ret (.ptr (site o) v 0 0)
      | _ => .fail
  | _, _ => .fail
def eEntry (x : PV) : Eff PV := match x with
  | .ptr id ver _ 0 => live id ver fun
      | .iterb mid mver _ seen stepped => live mid mver fun
        | .objb (.map es cl) => match seen.back? with
          | some stamp => match es.find? (·.born == stamp) with
            | some e => .guard (cl = stepped ∧ wfV e.key ∧ wfV e.val) (.ret (.tup [.v e.key, .v e.val]))
            | none => .fail
          | none => .fail
        | _ => .fail
      | _ => .fail
  | _ => .fail
section
variable {P : Program} {PC : Con} {X : Ctx} {nt : Nat} {Q : Exit → Act → World → Prop} {ε : Env} {a : Act} {w : World} {o : Oper} {v : PV} {s' : Sto} {r wr : List Nat}
/-- The object of a number turns. -/
theorem turn_obj {β : Nat → Option (Nat × Nat)} {N : Nat → List Nat} {tm : Array Value} (h : St X ε w tm β N) {id ver b : Nat} {ob ob' : Obj} (hid : ε.s id = ⟨ver, some (.objb ob)⟩) (hβ : β id = some (b, 0)) (hv : objV ob' b = objV ob b) {w' : World} (hw : w' = { w with heap := w.heap.setIfInBounds b ob' }) :
    St X ⟨ε.t, upd ε.s id ⟨ver, some (.objb ob')⟩⟩ w' tm β N := by
  have hblk0 : (ε.s id).blk = some (.objb ob) := by rw [hid]
  obtain ⟨b', q1, q2, q3⟩ := h.blk id _ hblk0
  rw [hβ] at q1; cases q1
  have hlt : b < w.heap.size := (Array.getElem?_eq_some_iff.1 q3).1
  have hsz : w'.heap.size = w.heap.size := by rw [hw]; simp
  have hnew : w'.heap[b]? = some ob' := by rw [hw]; simp [hlt]
  have hold : ∀ x, x ≠ b → w'.heap[x]? = w.heap[x]? := fun x hx => by rw [hw]; show (w.heap.setIfInBounds b ob')[x]? = _; rw [Array.getElem?_setIfInBounds_ne (Ne.symm hx)]
  have hsame : ∀ x, x < w.heap.size → x ∉ N id → w'.heap[x]? = w.heap[x]? := fun x _ hx => hold x (fun e => hx (by rw [q2, e]; simp))
  refine (St.step (ε := ε) h (upd ε.s id ⟨ver, some (.objb ob')⟩) (· = id) (by rw [hsz]; exact Nat.le_refl _) (fun x hx hc => hsame x hx (hc id _ rfl hblk0)) (fun i hi => ⟨upd_ne _ _ hi, rfl, rfl⟩) ?_ ?_ ?_ ?_ ?_ ?_ ?_ ?_ ?_).2
  · rintro i rfl v o n f u ⟨k1, k2, k3⟩
    refine ⟨by rw [upd_same]; rw [hid] at k1; exact k1, k2, fun k l e => ?_⟩
    rw [upd_same] at e
    cases e
  · rintro i rfl v i' j' u ⟨k1, k2, k3⟩
    refine ⟨by rw [upd_same]; rw [hid] at k1; exact k1, k2, fun blk e => ?_⟩
    rw [upd_same] at e
    cases e
    obtain ⟨b2, off, e1, e2⟩ := k3 _ hid
    rw [hβ] at e1; cases e1
    exact ⟨b, 0, hβ, fun hj => ⟨rfl, by rw [(e2 hj).2, hv]⟩⟩
  · rintro i blk rfl hbk T
    rw [upd_same] at hbk
    cases hbk
    exact ⟨b, hβ, q2, hnew⟩
  · rintro i blk rfl hbk x hx
    exact .inl ⟨i, _, rfl, hblk0, hx⟩
  · rintro i blk rfl hbk
    exact h.nodup i _ hblk0
  · rintro i i' b1 b2 rfl rfl _ _ hne
    exact absurd rfl hne
  · rintro i p hp rfl
    obtain ⟨e1, cs', e2, e3⟩ := h.ext i p hp
    rw [hblk0] at e2
    cases e2
  · refine Frm.turn h id _ hblk0 (by rw [hw]) (by rw [hw]) (by rw [hw]) (by rw [hsz]; exact Nat.le_refl _) hsame fun i b2 off2 n hi hn hm => ?_
    have hm' : b2 = b := by rw [q2] at hm; simpa using hm
    subst hm'
    obtain ⟨e1, cs', e2, e3⟩ := h.ext i _ hi
    by_cases hne : i = id
    · subst hne; rw [hblk0] at e2; cases e2
    · obtain ⟨b3, off3, _, _, p1, p2, _⟩ := h.blk i _ e2
      rw [e1] at p1
      cases p1
      exact absurd hm (h.disj i id _ _ e2 hblk0 hne b2 (by rw [p2]; simp))
  · exact X.cl _ _ h.env fun x hx => hold x (by
      rintro rfl
      have := h.new id _ hblk0 x (by rw [q2]; simp)
      rcases this with h1 | h1
      · have := X.hG x h1; omega
      · have := X.hw; omega)
theorem eMakeMap_sound {t : TypeId} (ho : o.op = .makeMap t none) (hg : Good X nt ε a w) (h : (eMakeMap o).Run PC ε.s v s' r wr) : o.wp P a w (fun a' w' => Good X nt ⟨putE o.dst v ε.t, s'⟩ a' w') Q := by
  obtain ⟨hs, hd, β, N, hst⟩ := id hg
  obtain ⟨r', wr', h⟩ := newBlk_run h
  obtain ⟨rfl, rfl, -, -⟩ : v = _ ∧ s' = _ ∧ r' = [] ∧ wr' = [] := h
  have hheap := heap_alloc_new w (Obj.map #[] 0)
  refine sound_st (u := .map (some w.heap.size)) hs hd ?_ (new_blk (w' := w.alloc (.map #[] 0)) hst (site o) (site_ge o) (.objb (.map #[] 0)) (some (w.heap.size, 0)) [w.heap.size] rfl rfl rfl (by simp) (fun b hb => Below.heap_alloc w _ b hb) (by simp) (by simp) fun T => ⟨_, by rw [upd_same], rfl, hheap⟩).2 ?_
  · unfold execOp
    simp only [ho]
    simp [Instr.makeMap, Option.map]
  · refine ⟨by show _ ≤ (upd ε.s _ _ _).ver; rw [upd_same]; exact Nat.le_refl _, .inr ⟨_, rfl⟩, fun blk e => ?_⟩
    rw [upd_same] at e
    cases e
    exact ⟨w.heap.size, 0, by rw [upd_same], fun _ => ⟨rfl, rfl⟩⟩
theorem eInsert_sound (hF : Facts P) {t : TypeId} {x y z : Operand} (ho : o.op = .insert t x y z) (hx : opndB nt x = true) (hy : opndB nt y = true) (hz : opndB nt z = true) (hg : Good X nt ε a w) (h : (eInsert t (opd ε.t x) (opd ε.t y) (opd ε.t z)).Run PC ε.s v s' r wr) : o.wp P a w (fun a' w' => Good X nt ⟨putE o.dst v ε.t, s'⟩ a' w') Q := by
  obtain ⟨hs, hd, β, N, hst⟩ := id hg
  have hv := hst.opd hs hx
  have hvy := hst.opd hs hy
  have hvz := hst.opd hs hz
  unfold eInsert at h
  split at h
  case h_2 => exact h.elim
  rename_i mk z0 id ver i0 kv vv e1 e2 e3 e4
  rw [e2] at hv; rw [e3] at hvy; rw [e4] at hvz
  split at h
  case isFalse => exact h.elim
  rename_i hk
  obtain ⟨_, _, k3⟩ := hv
  obtain ⟨blk, r', hb, er, h2⟩ := live_run h
  subst er
  clear h
  have h := h2
  clear h2
  try simp only at h
  split at h
  case h_2 => exact h.elim
  rename_i es cl
  obtain ⟨hf, w2, -, rfl, rfl, -, -⟩ := h
  obtain ⟨b, off, hβ, q⟩ := k3 _ hb
  obtain ⟨q0, q'⟩ := q rfl
  subst q0
  clear q
  obtain ⟨b', f1, f2, f3⟩ := hst.blk id _ (by rw [hb])
  rw [hβ] at f1; cases f1
  obtain ⟨kt, et, m1, m2, m3⟩ := (hF.mp t mk z0 e1).2
  have hc : (Instr.checkKey false 10000 kt kv).run P w = .ok () w := MapKept.run_checkKey (k := kv) m2 (keyB_spec hk) false 9999
  refine sound_skip hs hd ?_ (turn_obj hst hb hβ (ob' := .map (es.push { key := kv, val := vv, born := cl }) (cl + 1)) rfl rfl)
  have q : a.eval x = .map (some b) := q'
  have ey : a.eval y = kv := hvy.1
  have ez : a.eval z = vv := hvz.1
  unfold execOp
  simp only [ho, q, ey, ez]
  simp [Instr.mapUpdate, run_underlying m1, MapKept.run_getObj_map f3, hc, MapKept.run_findKey m2 hf, MapKept.run_setObj_map _ f3, Result.andThen]
theorem eLookup_sound (hF : Facts P) {t : TypeId} {x y : Operand} (ho : o.op = .lookup t x y false) (hx : opndB nt x = true) (hy : opndB nt y = true) (hg : Good X nt ε a w) (h : (eLookup t (opd ε.t x) (opd ε.t y)).Run PC ε.s v s' r wr) : o.wp P a w (fun a' w' => Good X nt ⟨putE o.dst v ε.t, s'⟩ a' w') Q := by
  obtain ⟨hs, hd, β, N, hst⟩ := id hg
  have hv := hst.opd hs hx
  have hvy := hst.opd hs hy
  unfold eLookup at h
  split at h
  case h_2 => exact h.elim
  rename_i mk z0 id ver i0 kv e1 e2 e3
  rw [e2] at hv; rw [e3] at hvy
  split at h
  case isFalse => exact h.elim
  rename_i hk
  obtain ⟨_, _, k3⟩ := hv
  obtain ⟨blk, r', hb, er, h2⟩ := live_run h
  subst er
  clear h
  have h := h2
  clear h2
  try simp only at h
  split at h
  case h_2 => exact h.elim
  rename_i es cl
  obtain ⟨b, off, hβ, q⟩ := k3 _ hb
  obtain ⟨q0, q'⟩ := q rfl
  subst q0
  clear q
  obtain ⟨b', f1, f2, f3⟩ := hst.blk id _ (by rw [hb])
  rw [hβ] at f1; cases f1
  obtain ⟨hz0, kt, et, m1, m2, m3⟩ := hF.mp t mk z0 e1
  have hc : (Instr.checkKey es.isEmpty 10000 kt kv).run P w = .ok () w := MapKept.run_checkKey (k := kv) m2 (keyB_spec hk) _ 9999
  have q : a.eval x = .map (some b) := q'
  have ey : a.eval y = kv := hvy.1
  split at h
  · rename_i i vv hf
    obtain ⟨hw, rfl, rfl, -, -⟩ := h
    refine sound_val hs hd hst (u := vv) ?_ ⟨rfl, hw⟩
    unfold execOp
    simp only [ho, q, ey]
    simp [Instr.lookup, run_underlying m1, MapKept.run_getObj_map f3, hc, MapKept.run_findKey m2 hf, Result.andThen]
  · rename_i hf
    obtain ⟨rfl, rfl, -, -⟩ : v = _ ∧ s' = _ ∧ r' = [] ∧ wr = [] := h
    refine sound_val hs hd hst (u := z0) ?_ ⟨rfl, hz0⟩
    unfold execOp
    simp only [ho, q, ey]
    simp [Instr.lookup, run_underlying m1, MapKept.run_getObj_map f3, hc, MapKept.run_findKey m2 hf, Result.andThen, m3]
  · exact h.elim
theorem eRange_sound (hF : Facts P) {t : TypeId} {x : Operand} (ho : o.op = .range t x) (hx : opndB nt x = true) (hg : Good X nt ε a w) (h : (eRange o t (opd ε.t x)).Run PC ε.s v s' r wr) : o.wp P a w (fun a' w' => Good X nt ⟨putE o.dst v ε.t, s'⟩ a' w') Q := by
  obtain ⟨hs, hd, β, N, hst⟩ := id hg
  have hv := hst.opd hs hx
  unfold eRange at h
  split at h
  case h_2 => exact h.elim
  rename_i mz id ver i0 e1 e2
  obtain ⟨mk, z⟩ := mz
  rw [e2] at hv
  have hv0 : PtrC β ε.s id ver i0 0 (a.eval x) := hv
  obtain ⟨k1, _, k3⟩ := hv
  obtain ⟨blk, r', hb, er, h2⟩ := live_run h
  subst er
  clear h
  have h := h2
  clear h2
  split at h
  case h_2 => exact h.elim
  rename_i es cl
  obtain ⟨r2, wr2, h⟩ := newBlk_run h
  obtain ⟨rfl, rfl, -, -⟩ : v = _ ∧ s' = _ ∧ r2 = [] ∧ wr2 = [] := h
  obtain ⟨b, off, hβ, q⟩ := k3 _ hb
  obtain ⟨q0, q'⟩ := q rfl
  subst q0
  have q' : a.eval x = .map (some b) := q'
  obtain ⟨b', f1, f2, f3⟩ := hst.blk id _ (by rw [hb])
  rw [hβ] at f1; cases f1
  obtain ⟨hz0, kt, et, m1, m2, m3⟩ := hF.mp t mk z e1
  have hheap := heap_alloc_new w (Obj.mapIter (some b) cl #[] cl)
  have hp : PtrC β ε.s id ver 0 0 (.map (some b)) := ⟨k1, .inr ⟨_, rfl⟩, fun blk hb2 => by
    rw [hb] at hb2; cases hb2
    exact ⟨b, 0, hβ, fun _ => ⟨rfl, rfl⟩⟩⟩
  refine sound_st (u := .pointer (some ⟨w.heap.size, 0, none⟩)) hs hd ?_ (new_blk (w' := w.alloc (.mapIter (some b) cl #[] cl)) hst (site o) (site_ge o) (.iterb id ver cl #[] cl) (some (w.heap.size, 0)) [w.heap.size] rfl rfl rfl (by simp) (fun b hb => Below.heap_alloc w _ b hb) (by simp) (by simp) fun T => ⟨_, b, by rw [upd_same], rfl, hheap, T.ptr hp⟩).2 ?_
  · unfold execOp
    simp only [ho, q']
    simp [Instr.range, run_underlying m1, MapKept.run_getObj_map f3, Result.andThen]
  · refine ⟨by show _ ≤ (upd ε.s _ _ _).ver; rw [upd_same]; exact Nat.le_refl _, .inl ⟨_, rfl⟩, fun blk e => ?_⟩
    rw [upd_same] at e
    cases e
    exact ⟨w.heap.size, 0, by rw [upd_same], fun _ => ⟨rfl, rfl⟩⟩
theorem eEntry_sound {x : Operand} (ho : o.op = .entry x) (hx : opndB nt x = true) (hg : Good X nt ε a w) (h : (eEntry (opd ε.t x)).Run PC ε.s v s' r wr) : o.wp P a w (fun a' w' => Good X nt ⟨putE o.dst v ε.t, s'⟩ a' w') Q := by
  obtain ⟨hs, hd, β, N, hst⟩ := id hg
  have hv := hst.opd hs hx
  unfold eEntry at h
  split at h
  case h_2 => exact h.elim
  rename_i id ver i0 e2
  rw [e2] at hv
  obtain ⟨k1, _, k3⟩ := hv
  obtain ⟨blk, r', hb, er, h2⟩ := live_run h
  subst er
  clear h
  have h := h2
  clear h2
  split at h
  case h_2 => exact h.elim
  rename_i mid mver since seen stepped
  obtain ⟨blk2, r2, hb2, er, h2⟩ := live_run h
  subst er
  clear h
  have h := h2
  clear h2
  split at h
  case h_2 => exact h.elim
  rename_i es cl
  split at h
  case h_2 => exact h.elim
  rename_i stamp hst1
  split at h
  case h_2 => exact h.elim
  rename_i e he
  obtain ⟨⟨hcl, hwk, hwv⟩, rfl, rfl, -, -⟩ := h
  subst hcl
  obtain ⟨b, off, hβ, q⟩ := k3 _ hb
  obtain ⟨q0, q'⟩ := q rfl
  subst q0
  obtain ⟨b', m, f1, f2, f3, f4⟩ := hst.blk id _ (by rw [hb])
  rw [hβ] at f1; cases f1
  obtain ⟨bm, off2, g1, g2⟩ := f4.2.2 _ hb2
  have g3 : (Value.map (some m)) = .map (some bm) := (g2 rfl).2
  cases g3
  obtain ⟨q0, -⟩ := g2 rfl
  subst q0
  obtain ⟨bm', i1, i2, i3⟩ := hst.blk mid _ (by rw [hb2])
  rw [g1] at i1; cases i1
  refine sound_val hs hd hst (u := .tuple #[e.key, e.val]) ?_ ⟨_, rfl, ⟨rfl, hwk⟩, ⟨rfl, hwv⟩, trivial⟩
  unfold execOp
  simp only [ho, q']
  simp only [Instr.entry, getObj, Sem.run_bind, Sem.run, f3, i3, Result.andThen, hst1, bne_self_eq_false, Bool.false_eq_true, if_false, he]
  rfl
end
open Go.RowKit
/-- A call of a function by its name, or of a builtin. -/
def eCalls (o : Oper) (ρ : Operand → PV) (c : Call) : Eff PV := match c.callee with
  | .value (.func f) => .or (eCall o f (nilA (c.args.toList.map ρ) c.argTypes.toList)) (eCall o f (c.args.toList.map ρ))
  | .builtin .len => match c.args.toList, c.argTypes.toList with
    | [x], [t] => eLen t (ρ x)
    | _, _ => .fail
  | .builtin .append => match c.args.toList, c.argTypes.toList with
    | [x, y], [t, t'] => if t' = t then eAppend o t (ρ x) (ρ y) else .fail
    | _, _ => .fail
  | .builtin .min => eMin false (c.args.toList.map ρ)
  | .builtin .max => eMin true (c.args.toList.map ρ)
  | _ => .fail
def eConv (o : Oper) (s d : TypeId) (x : PV) : Eff PV := match cvT s d with
  | some .toBytes => eToBytes o s d x
  | some .toStr => eToStr s d x
  | some (.int _) => eConvI s d x
  | none => .fail
/-- What an operation does, its operands read by ρ. -/
def eopR (o : Oper) (ρ : Operand → PV) : Eff PV := match o.op with
  | .move x | .assign x => .ret (ρ x)
  | .pick c x y => ePick (ρ c) (ρ x) (ρ y)
  | .alloc t => eAlloc o t
  | .box _ x => eBox o (ρ x)
  | .build t parts => eBuild t (parts.toList.map fun x => (x.1, ρ x.2))
  | .buildSlice t n parts => eBuildSlice o t n (parts.toList.map fun x => (x.1, ρ x.2))
  | .load t x => eLoad t (ρ x)
  | .store t x y => eStore t (ρ x) (ρ y)
  | .nilCheck x => eNil (ρ x)
  | .binOp op t x y _ => eBin op t (ρ x) (ρ y)
  | .unOp op _ x => eUn op (ρ x)
  | .convert s d x => eConv o s d (ρ x)
  | .makeSlice t l c => eMakeSlice o t (ρ l) (ρ c)
  | .slice t x lo hi none => eSlice t (ρ x) (lo.map ρ) (hi.map ρ)
  | .fieldAddr t x i => eFieldAddr t i (ρ x)
  | .field t x i => eField t i (ρ x)
  | .indexAddr t x y => eIndexAddr t (ρ x) (ρ y)
  | .index t x y => eIndex t (ρ x) (ρ y)
  | .extract x i => eExtract (ρ x) i
  | .call c => eCalls o ρ c
  | .makeMap _ none => eMakeMap o
  | .insert t m k v => eInsert t (ρ m) (ρ k) (ρ v)
  | .lookup t m k false => eLookup t (ρ m) (ρ k)
  | .range t m => eRange o t (ρ m)
  | .entry x => eEntry (ρ x)
  | _ => .fail
def eop (o : Oper) (t : Nat → PV) : Eff PV := eopR o (opd t)
/-- An operation's operands lie within the slots. -/
def operB (nt : Nat) (o : Oper) : Bool := o.op.operands.toList.all (opndB nt)
theorem eopR_congr (o : Oper) {ρ ρ' : Operand → PV} (h : ∀ x ∈ o.op.operands, ρ' x = ρ x) : eopR o ρ' = eopR o ρ := by
  unfold eopR
  have hm : ∀ (l : List (Nat × Operand)), (∀ x ∈ l.map (·.2), ρ' x = ρ x) → (l.map fun x => (x.1, ρ' x.2)) = l.map fun x => (x.1, ρ x.2) := by
    intro l hl
    apply List.map_congr_left
    intro x hx
    rw [hl x.2 (List.mem_map.2 ⟨x, hx, rfl⟩)]
  cases hop : o.op <;> rw [hop] at h <;> simp only [Op.operands] at h <;> try rfl
  case build t parts => simp only; rw [hm parts.toList (by simpa using h)]
  case buildSlice t n parts => simp only; rw [hm parts.toList (by simpa using h)]
  case slice t x lo hi mx =>
    cases mx with
    | some m => rfl
    | none =>
      simp only
      rw [h x (by simp)]
      congr 1
      · cases lo with
        | none => rfl
        | some y => simp only [Option.map_some]; rw [h y (by simp)]
      · cases hi with
        | none => rfl
        | some y => simp only [Option.map_some]; rw [h y (by simp)]
  case call c =>
    simp only
    obtain ⟨callee, args, ats⟩ := c
    have ha : ∀ x ∈ args.toList, ρ' x = ρ x := fun x hx => h x (by cases callee <;> simp [Call.operands, Array.mem_def, hx])
    have hmap : args.toList.map ρ' = args.toList.map ρ := List.map_congr_left ha
    unfold eCalls
    simp only [hmap]
    split <;> try rfl
    · split
      · rename_i x t e1 e2
        rw [ha x (by rw [e1]; simp)]
      · rfl
    · split
      · rename_i x y t t' e1 e2
        rw [ha x (by rw [e1]; simp), ha y (by rw [e1]; simp)]
      · rfl
  case makeMap t rsv => cases rsv <;> rfl
  case lookup t m k ok => cases ok with
    | true => rfl
    | false => simp only; simp only [List.mem_toArray, Array.mem_def, List.mem_cons, List.not_mem_nil, or_false, forall_eq_or_imp, forall_eq] at h; simp only [h]
  all_goals simp only; simp only [List.mem_toArray, Array.mem_def, List.mem_cons, List.not_mem_nil, or_false, forall_eq_or_imp, forall_eq] at h; simp only [h]
theorem eop_looks {ops : Array Oper} : Looks eop ops := fun o t t' h => eopR_congr o fun x hx => by
  cases x with
  | tmp d =>
    show t' d = t d
    exact h d (List.mem_append_left _ (List.mem_filterMap.2 ⟨.tmp d, by simpa using hx, rfl⟩))
  | const v => rfl
  | func f => rfl
  | global g => rfl
theorem eop_sound {P : Program} (hF : Facts P) {X : Ctx} {G : Nat} {E : World → Prop} (hE : X.E = E) (hG : X.G = G) {nt : Nat} {o : Oper} (hb : operB nt o = true) : OpSound P (PCalls P G E) eop X nt o := by
  intro ε a w v s' r wr Q hg h
  unfold eop eopR at h
  unfold operB at hb
  cases hop : o.op <;> simp only [hop] at h <;> rw [hop] at hb <;> simp only [Op.operands] at hb <;> try exact h.elim
  case move x => exact eMove_sound (.inl hop) (by simpa using hb) hg h
  case assign x => exact eMove_sound (.inr hop) (by simpa using hb) hg h
  case pick c x y =>
    simp only [List.all_cons, List.all_nil, Bool.and_eq_true, and_true] at hb
    exact ePick_sound hop hb.1 hb.2.1 hb.2.2 hg h
  case alloc t => exact eAlloc_sound hF hop hg h
  case makeMap t rsv => cases rsv with
    | none => exact eMakeMap_sound hop hg h
    | some _ => exact h.elim
  case insert t m k v =>
    simp only [List.all_cons, List.all_nil, Bool.and_eq_true, and_true] at hb
    exact eInsert_sound hF hop hb.1 hb.2.1 hb.2.2 hg h
  case lookup t m k ok => cases ok with
    | false =>
      simp only [List.all_cons, List.all_nil, Bool.and_eq_true, and_true] at hb
      exact eLookup_sound hF hop hb.1 hb.2 hg h
    | true => exact h.elim
  case range t m => exact eRange_sound hF hop (by simpa using hb) hg h
  case entry x => exact eEntry_sound hop (by simpa using hb) hg h
  case box t x => exact eBox_sound hF hop (by simpa using hb) hg h
  case build t parts => exact eBuild_sound hF hop (by simpa using hb) hg h
  case buildSlice t n parts => exact eBuildSlice_sound hF hop (by simpa using hb) hg h
  case load t x => exact eLoad_sound hF hop (by simpa using hb) hg h
  case store t x y =>
    simp only [List.all_cons, List.all_nil, Bool.and_eq_true, and_true] at hb
    exact eStore_sound hF hop hb.1 hb.2 hg h
  case nilCheck x => exact eNil_sound hop (by simpa using hb) hg h
  case binOp op t x y t' =>
    simp only [List.all_cons, List.all_nil, Bool.and_eq_true, and_true] at hb
    exact eBin_sound hF hop hb.1 hb.2 hg h
  case unOp op t x => exact eUn_sound hop (by simpa using hb) hg h
  case convert s d x =>
    unfold eConv at h
    split at h
    · exact eToBytes_sound hF hop (by simpa using hb) hg h
    · exact eToStr_sound hF hop (by simpa using hb) hg h
    · exact eConvI_sound hF hop (by simpa using hb) hg h
    · exact h.elim
  case makeSlice t l c =>
    simp only [List.all_cons, List.all_nil, Bool.and_eq_true, and_true] at hb
    exact eMakeSlice_sound hF hop hb.1 hb.2 hg h
  case slice t x lo hi mx =>
    cases mx with
    | some m => exact h.elim
    | none =>
      have hall := fun y hy => List.all_eq_true.1 hb y hy
      exact eSlice_sound hF hop (hall x (by simp)) (fun y e => hall y (by simp [e])) (fun y e => hall y (by simp [e])) hg h
  case fieldAddr t x i => exact eFieldAddr_sound hF hop (by simpa using hb) hg h
  case field t x i => exact eField_sound hF hop (by simpa using hb) hg h
  case indexAddr t x y =>
    simp only [List.all_cons, List.all_nil, Bool.and_eq_true, and_true] at hb
    exact eIndexAddr_sound hF hop hb.1 hb.2 hg h
  case index t x y =>
    simp only [List.all_cons, List.all_nil, Bool.and_eq_true, and_true] at hb
    exact eIndex_sound hF hop hb.1 hb.2 hg h
  case extract x i => exact eExtract_sound hop (by simpa using hb) hg h
  case call c =>
    obtain ⟨callee, args, ats⟩ := c
    have ha : args.toList.all (opndB nt) = true := List.all_eq_true.2 fun y hy => List.all_eq_true.1 hb y (by cases callee <;> simp [Call.operands, hy])
    unfold eCalls at h
    split at h
    · rename_i f e
      simp only at e
      subst e
      rcases h with h | h
      · exact eCall_sound hE hG hop hg (fun β N hst => nilA_val (All2.map_args fun x hxm => hst.opd hg.1 (List.all_eq_true.1 ha x hxm))) h
      · exact eCall_sound hE hG hop hg (fun β N hst => All2.map_args fun x hxm => hst.opd hg.1 (List.all_eq_true.1 ha x hxm)) h
    · rename_i e
      simp only at e
      subst e
      split at h
      · rename_i x t e1 e2
        simp only at e1 e2
        obtain rfl : args = #[x] := by apply Array.ext'; simpa using e1
        obtain rfl : ats = #[t] := by apply Array.ext'; simpa using e2
        exact eLen_sound hF hop (by simpa using ha) hg h
      · exact h.elim
    · rename_i e
      simp only at e
      subst e
      split at h
      · rename_i x y t t' e1 e2
        simp only at e1 e2
        split at h
        · rename_i e3
          subst e3
          obtain rfl : args = #[x, y] := by apply Array.ext'; simpa using e1
          obtain rfl : ats = #[t', t'] := by apply Array.ext'; simpa using e2
          simp only [List.all_cons, List.all_nil, Bool.and_eq_true, and_true] at ha
          exact eAppend_sound hF hop ha.1 ha.2 hg h
        · exact h.elim
      · exact h.elim
    · rename_i e
      simp only at e
      subst e
      exact eMin_sound (b := false) hop ha hg h
    · rename_i e
      simp only at e
      subst e
      exact eMin_sound (b := true) hop ha hg h
    · exact h.elim
open Go.RowKit
/-! ### The tables fit the program: by Bool -/
def structB (P : Program) (t : TypeId) : Option (Array Field) := match P.underlying t with
  | some (.struct fs) => some fs
  | _ => none
theorem structB_spec {P : Program} {t : TypeId} {fs : Array Field} (h : structB P t = some fs) : P.underlying t = some (.struct fs) := by
  unfold structB at h
  split at h
  · rename_i e; cases h; exact e
  · cases h
def szB (P : Program) (t : TypeId) (n : Nat) : Bool := match P.info? t with
  | some i => i.size == n
  | none => false
theorem szB_spec {P : Program} {t : TypeId} {n : Nat} (h : szB P t n = true) : (P.info? t).map (·.size) = some n := by
  unfold szB at h
  split at h
  · rename_i i e; rw [e]; simpa using h
  · cases h
def slB (P : Program) (t e : TypeId) : Bool := match P.underlying t with
  | some (.slice e') => e' == e
  | _ => false
theorem slB_spec {P : Program} {t e : TypeId} (h : slB P t e = true) : P.underlying t = some (.slice e) := by
  unfold slB at h
  split at h
  · rename_i e' he; rw [he]; simp at h; rw [h]
  · cases h
def strB (P : Program) (t : TypeId) : Bool := match P.underlying t with
  | some .string => true
  | _ => false
theorem strB_spec {P : Program} {t : TypeId} (h : strB P t = true) : P.underlying t = some .string := by
  unfold strB at h
  split at h
  · rename_i he; exact he
  · cases h
def boolB (P : Program) (t : TypeId) : Bool := match P.underlying t with
  | some .bool => true
  | _ => false
theorem boolB_spec {P : Program} {t : TypeId} (h : boolB P t = true) : P.underlying t = some .bool := by
  unfold boolB at h
  split at h
  · rename_i he; exact he
  · cases h
def intB (P : Program) (t : TypeId) (k : IntKind) : Bool := match P.underlying t with
  | some (.int k') => k' == k
  | _ => false
theorem intB_spec {P : Program} {t : TypeId} {k : IntKind} (h : intB P t k = true) : P.underlying t = some (.int k) := by
  unfold intB at h
  split at h
  · rename_i k' he; rw [he]; simp at h; rw [h]
  · cases h
def sameV : Value → Value → Bool
  | .int k n, .int k' n' => k == k' && n == n'
  | .string a, .string b => a.data.toList == b.data.toList
  | .bool a, .bool b => a == b
  | .pointer none, .pointer none => true
  | .nilFunc, .nilFunc => true
  | _, _ => false
theorem sameV_spec {u v : Value} (h : sameV u v = true) : u = v := by
  unfold sameV at h
  split at h <;> simp_all
  rename_i a b
  exact ByteArray.ext h
def zeroLB : Leaf → Value → Bool
  | .sc q, u => sameV u q && wfB q
  | .nest _ l, .slice none 0 0 => l.isEmpty
  | _, _ => false
theorem zeroLB_spec {lf : Leaf} {u : Value} (h : zeroLB lf u = true) : ZeroL lf u := by
  unfold zeroLB at h
  split at h
  · simp only [Bool.and_eq_true] at h; exact ⟨sameV_spec h.1, wfB_spec h.2⟩
  · exact ⟨rfl, by simpa using h⟩
  · cases h
def zeroCB : List Leaf → List Value → Bool
  | [], [] => true
  | a :: as, b :: bs => zeroLB a b && zeroCB as bs
  | _, _ => false
theorem zeroCB_spec : ∀ {zs : List Leaf} {us : List Value}, zeroCB zs us = true → us.length = zs.length ∧ ∀ (j : Nat) lf, zs[j]? = some lf → ∃ u, us[j]? = some u ∧ ZeroL lf u
  | [], [], _ => ⟨rfl, fun j lf h => by simp at h⟩
  | a :: as, b :: bs, h => by
    simp only [zeroCB, Bool.and_eq_true] at h
    obtain ⟨h1, h2⟩ := zeroCB_spec h.2
    refine ⟨by simp [h1], fun j lf hj => ?_⟩
    cases j with
    | zero => cases hj; exact ⟨b, rfl, zeroLB_spec h.1⟩
    | succ j => exact h2 j lf hj
  | [], _ :: _, h => by cases h
  | _ :: _, [], h => by cases h
theorem zeroC_of {zs : List Leaf} {z : Value} (h : zeroCB zs z.cells.toList = true) : ZeroC zs z.cells := by
  obtain ⟨h1, h2⟩ := zeroCB_spec h
  exact ⟨by simpa using h1, fun j lf hj => by simpa using h2 j lf hj⟩
def zeroB (P : Program) (t : TypeId) (zs : List Leaf) : Bool := match P.info? t with
  | some i => match i.zero with
    | some z => zeroCB zs z.cells.toList
    | none => false
  | none => false
theorem zeroB_spec {P : Program} {t : TypeId} {zs : List Leaf} (h : zeroB P t zs = true) : ∃ i z, P.info? t = some i ∧ i.zero = some z ∧ ZeroC zs z.cells := by
  unfold zeroB at h
  split at h
  · split at h
    · rename_i i e _ z e2; exact ⟨i, z, e, e2, zeroC_of h⟩
    · cases h
  · cases h
def elB (P : Program) (k : K) : Bool := match P.info? (tid k) with
  | some i => match i.zero with
    | some z => i.size == size k && (i.bytes == byt k && zeroCB (leaves (zK k)) z.cells.toList)
    | none => false
  | none => false
def aggOf (P : Program) (t : TypeId) : Option Bool := match P.underlying t with
  | some (.struct _) | some (.array _ _) => some true
  | some _ => some false
  | none => none
theorem aggOf_spec {P : Program} {t : TypeId} {b : Bool} (h : aggOf P t = some b) (w : World) : (isAgg t).run P w = .ok b w := by
  unfold aggOf at h
  unfold isAgg
  split at h
  · rename_i fs e; cases h; simp [run_underlying e]
  · rename_i n e0 e; cases h; simp [run_underlying e]
  · rename_i d h1 h2 e
    cases h
    simp only [Sem.run_bind, run_underlying e, Result.andThen_ok]
    cases d <;> first | simp | exact absurd e (h1 _) | exact absurd e (h2 _ _)
  · cases h
def fld1B (P : Program) (f : Field) (x : Nat × Bool × Nat) : Bool := x.2.2 != 0 && (f.offset == x.1 && (aggOf P f.type == some x.2.1 && (szB P f.type x.2.2 && (x.2.1 || x.2.2 == 1))))
def fldsB (P : Program) : List Field → List (Nat × Bool × Nat) → Bool
  | [], [] => true
  | f :: fs, x :: xs => fld1B P f x && fldsB P fs xs
  | _, _ => false
theorem fldsB_spec {P : Program} : ∀ {fs : List Field} {xs : List (Nat × Bool × Nat)}, fldsB P fs xs = true → ∀ (i : Nat) x, xs[i]? = some x → ∃ f, fs[i]? = some f ∧ fld1B P f x = true
  | [], [], _, i, x, hx => by simp at hx
  | f :: fs, y :: xs, h, i, x, hx => by
    simp only [fldsB, Bool.and_eq_true] at h
    cases i with
    | zero => cases hx; exact ⟨f, rfl, h.1⟩
    | succ i => exact fldsB_spec h.2 i x hx
  | [], _ :: _, h, _, _, _ => by cases h
  | _ :: _, [], h, _, _, _ => by cases h
theorem fldsB_places {P : Program} : ∀ {fs : List Field} {xs : List (Nat × Bool × Nat)}, fldsB P fs xs = true → fs.mapM (fun f => (P.info? f.type).map fun i => (f.offset, i.size)) = some (xs.map fun x => (x.1, x.2.2))
  | [], [], _ => rfl
  | f :: fs, y :: xs, h => by
    simp only [fldsB, Bool.and_eq_true] at h
    obtain ⟨h1, h2⟩ := h
    unfold fld1B at h1
    simp only [Bool.and_eq_true, beq_iff_eq] at h1
    obtain ⟨_, e1, _, e2, _⟩ := h1
    have e3 := szB_spec e2
    cases hi : P.info? f.type with
    | none => simp [hi] at e3
    | some i =>
      have e4 : i.size = y.2.2 := by simpa [hi] using e3
      simp [List.mapM_cons, hi, fldsB_places h2, e1, e4]
  | [], _ :: _, h => by cases h
  | _ :: _, [], h => by cases h
def strctB (P : Program) (t : TypeId) (xs : List (Nat × Bool × Nat)) : Bool := match structB P t with
  | some fs => fldsB P fs.toList xs && (match zeroT t with | some zs => zeroB P t zs | none => false)
  | none => false
def cv1B (P : Program) (s t : TypeId) : Cv → Bool
  | .int k => (P.underlying s).isSome && intB P t k
  | .toBytes => (P.underlying s).isSome && (slB P t (tid .u8) && intB P (tid .u8) .u8)
  | .toStr => slB P s (tid .u8) && (strB P t && intB P (tid .u8) .u8)
def mapB (P : Program) (t : TypeId) (m : MK) (z : Value) : Bool := match P.underlying t with
  | some (.map kt et) => (match P.underlying kt, m with
      | some .string, .s => true
      | some (.int .i64), .i => true
      | some .bool, .b => true
      | _, _ => false) && (match P.info? et, z with
      | some i, .int .i64 n => (match i.zero with | some (.int .i64 n') => n == 0 && n' == 0 | _ => false)
      | some i, .string s => (match i.zero with | some (.string s') => s.size == 0 && s'.size == 0 | _ => false)
      | some i, .bool b => (match i.zero with | some (.bool b') => b == false && b' == false | _ => false)
      | _, _ => false)
  | _ => false
theorem ba_empty {s : ByteArray} (h : s.size = 0) : s = ByteArray.empty := by
  apply ByteArray.ext
  exact Array.eq_empty_of_size_eq_zero h
theorem mapB_spec {P : Program} {t : TypeId} {m : MK} {z : Value} (h : mapB P t m z = true) : wfV z ∧ ∃ kt et, P.underlying t = some (.map kt et) ∧ P.underlying kt = some m.td ∧ ∀ w, (zeroValue et).run P w = .ok z w := by
  unfold mapB at h
  split at h
  case h_2 => cases h
  rename_i kt et e
  simp only [Bool.and_eq_true] at h
  obtain ⟨h1, h2⟩ := h
  have hk : P.underlying kt = some m.td := by
    split at h1
    · rename_i e1; rw [e1]; rfl
    · rename_i e1; rw [e1]; rfl
    · rename_i e1; rw [e1]; rfl
    · cases h1
  have key : wfV z ∧ ∀ w, (zeroValue et).run P w = .ok z w := by
    split at h2
    · rename_i i n e2
      split at h2
      · rename_i n' e3
        simp only [Bool.and_eq_true, beq_iff_eq] at h2
        obtain ⟨rfl, rfl⟩ := h2
        exact ⟨rfl, fun w => by simp [zeroValue, typeInfo, e2, e3]⟩
      · cases h2
    · rename_i i s e2
      split at h2
      · rename_i s' e3
        simp only [Bool.and_eq_true, beq_iff_eq] at h2
        obtain ⟨h3, h4⟩ := h2
        have := ba_empty h3
        have := ba_empty h4
        subst_vars
        exact ⟨by show _ ≤ _; rw [h3]; omega, fun w => by simp [zeroValue, typeInfo, e2, e3]⟩
      · cases h2
    · rename_i i b e2
      split at h2
      · rename_i b' e3
        simp only [Bool.and_eq_true, beq_iff_eq] at h2
        obtain ⟨rfl, rfl⟩ := h2
        exact ⟨trivial, fun w => by simp [zeroValue, typeInfo, e2, e3]⟩
      · cases h2
    · cases h2
  exact ⟨key.1, kt, et, e, hk, key.2⟩
def factsB (P : Program) : Bool :=
  tyL.all (fun x => match x.2 with | (true, n) => (structB P x.1).isSome && (szB P x.1 n && (look x.1 fldL).isSome) | (false, n) => n == 1 && (aggOf P x.1 == some false && szB P x.1 1)) &&
  (slL.all (fun x => slB P x.1 (tid x.2)) && (allK.all (elB P) && (fldL.all (fun x => strctB P x.1 x.2) && (strL.all (strB P) && (boolL.all (boolB P) && (zeroTL.all (fun x => zeroB P x.1 x.2) && (cvL.all (fun x => cv1B P x.1 x.2.1 x.2.2) && mapL.all (fun x => mapB P x.1 x.2.1 x.2.2))))))))
theorem fldT_mem {t : TypeId} {i : Nat} {x : Nat × Bool × Nat} (h : fldT t i = some x) : ∃ l, (t, l) ∈ fldL ∧ look t fldL = some l ∧ l[i]? = some x := by
  unfold fldT at h
  split at h
  · rename_i l e; exact ⟨l, look_mem e, e, h⟩
  · cases h
theorem Facts.of {P : Program} (h : factsB P = true) : Facts P := by
  unfold factsB at h
  simp only [Bool.and_eq_true, List.all_eq_true] at h
  obtain ⟨hty, hsl, hel, hfl, hstr, hbool, hz, hcv, hmp⟩ := h
  have strct : ∀ {t : TypeId} {l : List (Nat × Bool × Nat)}, (t, l) ∈ fldL → ∃ fs, P.underlying t = some (.struct fs) ∧ fldsB P fs.toList l = true ∧ ∃ zs, zeroT t = some zs ∧ zeroB P t zs = true := by
    intro t l hm
    have := hfl _ hm
    unfold strctB at this
    split at this
    · rename_i fs e
      simp only [Bool.and_eq_true] at this
      refine ⟨fs, structB_spec e, this.1, ?_⟩
      have h2 := this.2
      split at h2
      · rename_i zs ez; exact ⟨zs, ez, h2⟩
      · cases h2
    · cases this
  refine ⟨fun t n ht => ?_, fun t k ht => slB_spec (hsl _ (look_mem ht)), fun k => ?_, fun t i off ag n hf => ?_, fun t ht => strB_spec (hstr t (by simpa [isStrT] using ht)), fun t ht => boolB_spec (hbool t (by simpa [isBoolT] using ht)), fun s t k hc => ?_, fun t zs ht => zeroB_spec (hz _ (look_mem ht)), fun t n ht => ?_, fun s t hc => ?_, fun s t hc => ?_, fun t m z ht => mapB_spec (hmp _ (look_mem ht)), fun t n ht => ?_⟩
  · have := hty _ (look_mem ht)
    simp only [Bool.and_eq_true] at this
    cases hs : structB P t with
    | none => rw [hs] at this; simp at this
    | some fs => exact ⟨⟨fs, structB_spec hs⟩, szB_spec this.2.1⟩
  · have := hel k (mem_allK k)
    unfold elB at this
    split at this
    · split at this
      · rename_i i e _ z e2
        simp only [Bool.and_eq_true, beq_iff_eq] at this
        have hzc := zeroC_of this.2.2
        exact ⟨i, z, e, e2, this.1, this.2.1, by rw [hzc.1, leaves_len], hzc⟩
      · cases this
    · cases this
  · obtain ⟨l, hm, _, hx⟩ := fldT_mem hf
    obtain ⟨fs, h1, h2, _⟩ := strct hm
    obtain ⟨f, h3, h4⟩ := fldsB_spec h2 i _ hx
    unfold fld1B at h4
    simp only [Bool.and_eq_true, beq_iff_eq, bne_iff_ne, ne_eq, Bool.or_eq_true] at h4
    obtain ⟨g1, g2, g3, g4, g5⟩ := h4
    exact ⟨g1, fs, f, h1, by simpa using h3, g2, aggOf_spec g3, szB_spec g4, fun e => by subst e; simpa using g5⟩
  · have := hcv _ (look2_mem hc)
    simp only [cv1B, Bool.and_eq_true] at this
    exact ⟨Option.isSome_iff_exists.1 this.1, intB_spec this.2⟩
  · have := hty _ (look_mem ht)
    simp only [Bool.and_eq_true] at this
    obtain ⟨l, hl⟩ := Option.isSome_iff_exists.1 this.2.2
    obtain ⟨fs, h1, h2, zs, h3, h4⟩ := strct (look_mem hl)
    obtain ⟨it, z, h5, h6, h7⟩ := zeroB_spec h4
    refine ⟨it, fs, z, _, zs, h3, h5, h1, h6, h7, fldsB_places h2, fun i off ag n hf => ?_⟩
    obtain ⟨l', _, hl', hx⟩ := fldT_mem hf
    rw [hl] at hl'; cases hl'
    rw [List.getElem?_map, hx]; rfl
  · have := hcv _ (look2_mem hc)
    simp only [cv1B, Bool.and_eq_true] at this
    exact ⟨Option.isSome_iff_exists.1 this.1, slB_spec this.2.1, intB_spec this.2.2⟩
  · have := hcv _ (look2_mem hc)
    simp only [cv1B, Bool.and_eq_true] at this
    exact ⟨slB_spec this.1, strB_spec this.2.1, intB_spec this.2.2⟩
  · have := hty _ (look_mem ht)
    simp only [Bool.and_eq_true, beq_iff_eq] at this
    exact ⟨this.1, aggOf_spec this.2.1, szB_spec this.2.2⟩
open Go.RowKit
theorem Eff.wp_mono {PC : Con} {α : Type} : ∀ (E : Eff α) (s : Sto) {K K' : α → Sto → List Nat → List Nat → Prop}, (∀ a s r w, K a s r w → K' a s r w) → E.wp PC s K → E.wp PC s K'
  | .ret a, s, K, K', hk, h => hk _ _ _ _ h
  | .fail, _, _, _, _, h => h
  | .rd id k, s, K, K', hk, h => Eff.wp_mono (k (s id)) s (fun _ _ _ _ => hk _ _ _ _) h
  | .wr id e k, s, K, K', hk, h => Eff.wp_mono k _ (fun _ _ _ _ => hk _ _ _ _) h
  | .guard p k, s, K, K', hk, h => ⟨h.1, Eff.wp_mono k s hk h.2⟩
  | .call f args exts k, s, K, K', hk, h => by
    obtain ⟨v, x, h0, h⟩ := h
    exact ⟨v, x, h0, Eff.wp_mono (k v x) s hk h⟩
  | .or a b, s, K, K', hk, h => h.imp (Eff.wp_mono a s hk) (Eff.wp_mono b s hk)
theorem ROps.mono {PC : Con} {ep : Oper → (Nat → PV) → Eff PV} {ops : Array Oper} : ∀ (rest : List Oper) (i : Nat) (ε : Env) (K K' : List Ft → Env → Prop), (∀ l ε, K l ε → K' l ε) → ROps PC ep ops rest i ε K → ROps PC ep ops rest i ε K'
  | [], _, _, _, _, hk, h => hk _ _ h
  | o :: rest, i, ε, K, K', hk, h => by
    unfold ROps at h ⊢
    split at h
    · rename_i hw
      exact Eff.wp_mono _ _ (fun v s r w h => ROps.mono rest _ _ _ _ (fun _ _ => hk _ _) h) h
    · rename_i hw
      exact ROps.mono rest _ _ _ _ (fun _ _ => hk _ _) h
    · exact h.elim
def dstB (nt : Nat) (o : Oper) : Bool := match o.dst with
  | some d => d < nt
  | none => true
def opsB (nt : Nat) (l : List Oper) : Bool := l.all fun o => operB nt o && dstB nt o
section
variable {P : Program} {X : Ctx} {nt : Nat} {Q : Exit → Env → Prop} {ε : Env} {G : Nat} {E : World → Prop}
theorem opsB_sound (hF : Facts P) (hE : X.E = E) (hG : X.G = G) {l : List Oper} (hb : opsB nt l = true) : (∀ o ∈ l, OpSound P (PCalls P G E) eop X nt o) ∧ ∀ o ∈ l, ∀ d, o.dst = some d → d < nt := by
  have h := List.all_eq_true.1 hb
  refine ⟨fun o ho => ?_, fun o ho d hd => ?_⟩
  · have := h o ho
    simp only [Bool.and_eq_true] at this
    exact eop_sound hF hE hG this.1
  · have := h o ho
    simp only [Bool.and_eq_true] at this
    have h2 := this.2
    unfold dstB at h2
    rw [hd] at h2
    simpa using h2
theorem XW.reg {id : Nat} {l : List Oper} (hF : Facts P) (hE : X.E = E) (hG : X.G = G) (hb : opsB nt l = true) (h : ROps (PCalls P G E) eop l.toArray l 0 ε fun _ ε' => Q .normal ε') : XW P X nt (.region id l.toArray false) ε Q :=
  let h2 := opsB_sound hF hE hG hb
  XW.region h2.1 h2.2 h
theorem XW.drw {id : Nat} {l : List Oper} (hF : Facts P) (hE : X.E = E) (hG : X.G = G) (hm : P.follows .mixedOrders = true) (hb : opsB nt l = true) (h : ROps (PCalls P G E) eop l.toArray l 0 ε fun ft ε' => orderOk l.toArray ft = true ∧ Q .normal ε') : XW P X nt (.region id l.toArray true) ε Q :=
  let h2 := opsB_sound hF hE hG hb
  XW.draw hm eop_looks h2.1 h2.2 h
theorem XW.sreg {id : Nat} {l : List Oper} {y : Code} (hF : Facts P) (hE : X.E = E) (hG : X.G = G) (ε2 : Env) (hb : opsB nt l = true) (h : ROps (PCalls P G E) eop l.toArray l 0 ε fun _ ε' => ε' = ε2) (hq : XW P X nt y ε2 Q) : XW P X nt (.seq (.region id l.toArray false) y) ε Q := by
  refine XW.seq (XW.reg hF hE hG hb ?_)
  have key : ∀ (rest : List Oper) (i : Nat) (ε : Env) (K K' : List Ft → Env → Prop), (∀ l ε, K l ε → K' l ε) → ROps (PCalls P G E) eop l.toArray rest i ε K → ROps (PCalls P G E) eop l.toArray rest i ε K' := ROps.mono
  exact key l 0 ε _ _ (fun _ ε' e => by subst e; exact hq) h
theorem XW.reg1 {id : Nat} {l : List Oper} (hF : Facts P) (hE : X.E = E) (hG : X.G = G) (ε2 : Env) (hb : opsB nt l = true) (h : ROps (PCalls P G E) eop l.toArray l 0 ε fun _ ε' => ε' = ε2) (hq : Q .normal ε2) : XW P X nt (.region id l.toArray false) ε Q :=
  XW.reg hF hE hG hb (ROps.mono l 0 ε _ _ (fun _ ε' e => by subst e; exact hq) h)
end
open Go.RowKit
section
variable {P : Program} {X : Ctx} {nt : Nat} {Q : Exit → Env → Prop} {ε : Env} {c : Code}
/-- What a slot holds is well formed. -/
theorem XW.wf {x : Value} (t : Nat) (ht : t < nt) (hx : ε.t t = .v x) (h : wfV x → XW P X nt c ε Q) : XW P X nt c ε Q := fun a w hg => by
  obtain ⟨hs, hd, β, N, hst⟩ := id hg
  have hlt : t < a.tmps.size := by rw [hs]; exact ht
  have hv := hst.tmp t a.tmps[t] (by simp [hlt])
  rw [hx] at hv
  exact h hv.2 a w hg
theorem XW.len {k : K} {l : List (ty k)} (t : Nat) (ht : t < nt) (hx : ε.t t = .row false k l) (h : l.length ≤ 9223372036854775807 → XW P X nt c ε Q) : XW P X nt c ε Q := fun a w hg => by
  obtain ⟨hs, hd, β, N, hst⟩ := id hg
  have hlt : t < a.tmps.size := by rw [hs]; exact ht
  have hv := hst.tmp t a.tmps[t] (by simp [hlt])
  rw [hx] at hv
  obtain ⟨_, p, cap, _, _, h2, _⟩ := hv
  exact h h2 a w hg
theorem XW.cnd {d : Nat} {x y : Code} (b : Bool) (hc : ε.t d = .v (.bool b)) (hn : d < nt) (ht : b = true → XW P X nt x ε Q) (hf : b = false → XW P X nt y ε Q) : XW P X nt (.cond (.tmp d) x y) ε Q :=
  XW.cond (c := .tmp d) hc (fun e h => by cases h; exact hn) ht hf
end
open Go.RowKit
theorem PCalls.weaken {P : Program} {G : Nat} {E : World → Prop} {f : FuncId} {args : List PV} {r r' : PV} (h : PCalls P G E f args [] r []) (hw : wkV r r') : PCalls P G E f args [] r' [] := by
  refine ⟨rfl, fun w S us locs La Le hG hE hl1 hl2 hnd hF0 hS hargs hext => ?_⟩
  refine Arrive.mono (h.2 w S us locs La Le hG hE hl1 hl2 hnd hF0 hS hargs hext) fun e w' hR => ?_
  obtain ⟨u, Lr, Le', he, h1, h2, h3, h4, h5, h6⟩ := hR
  obtain rfl : locs = [] := List.eq_nil_of_length_eq_zero hl1
  obtain rfl : Le' = [] := List.eq_nil_of_length_eq_zero h1
  simp only [List.map_nil, List.nil_append, List.flatten_nil, List.append_nil] at h2 h3 h4
  obtain ⟨L', s, k⟩ := wkV_own h2 hw h4
  refine ⟨u, L', [], he, h1, ?_, ?_, ?_, fun j p cs L hj => by simp at hj, h6⟩
  · simpa using s.nodup h2
  · simp only [List.flatten_nil, List.append_nil]
    exact fun b hb => by simpa using h3 b (s.mem hb)
  · simp only [List.map_nil, List.nil_append, List.flatten_nil, List.append_nil]
    refine k _ (fun b hb => ⟨hb.1, hb.2.1, fun hm => hb.2.2 (s.mem hm)⟩) fun b hb hb' => ⟨?_, (h3 b hb).2, hb'⟩
    exact (h3 b hb).1.elim (fun h => .inr (.inl h)) fun h => .inr (.inr h)
open Go.RowKit
section
variable {P : Program} {X : Ctx} {nt : Nat} {Q : Exit → Env → Prop} {ε : Env} {c : Code} {a : Act} {w : World}
/-- Another word for what a slot holds. -/
theorem St.slot {β : Nat → Option (Nat × Nat)} {N : Nat → List Nat} {tm : Array Value} (h : St X ε w tm β N) (t : Nat) (p : PV) (hp : ∀ u, tm[t]? = some u → ValC (Fz X w N ε.s) w β ε.s p u) : St X ⟨upd ε.t t p, ε.s⟩ w tm β N := by
  refine ⟨fun i u hu => ?_, h.blk, h.lt, h.nodup, h.disj, h.new, h.ext, h.frm, h.env, h.fz⟩
  show ValC _ _ _ _ (upd ε.t t p i) u
  by_cases hi : i = t
  · subst hi; rw [upd_same]; exact hp u hu
  · rw [upd_ne _ _ hi]; exact h.tmp i u hu
def Gh (X : Ctx) (nt : Nat) (ε ε2 : Env) : Prop := ∀ a w, Good X nt ε a w → Good X nt ε2 a w
theorem XW.gh {ε2 : Env} (h : Gh X nt ε ε2) (hq : XW P X nt c ε2 Q) : XW P X nt c ε Q := fun a w hg => hq a w (h a w hg)
/-- A nil slice is a view of an empty row without a block. -/
theorem Gh.nilRef (t id : Nat) (k : K) (hid : 99 ≤ id) (ht : ε.t t = .nil) : Gh X nt ε ⟨upd ε.t t (.ref id ((ε.s id).ver + 1) 0 0 true), upd ε.s id ⟨(ε.s id).ver + 1, some (.rowb k [])⟩⟩ := fun a w hg => by
  obtain ⟨hs, hd, β, N, hst⟩ := hg
  obtain ⟨T, hst'⟩ := new_blk (w' := w) hst id hid (.rowb k []) none [] rfl rfl rfl (Nat.le_refl _) (fun _ _ => rfl) (by simp) (by simp) (fun T => .inl ⟨by rw [upd_same], rfl, rfl⟩)
  refine ⟨hs, hd, _, _, St.slot hst' t _ fun u hu => ?_⟩
  have hv := hst.tmp t u hu
  rw [ht] at hv
  have e : u = .slice none 0 0 := hv
  subst e
  refine ⟨by show _ ≤ (upd ε.s _ _ _).ver; rw [upd_same]; exact Nat.le_refl _, ⟨_, _, _, rfl⟩, fun k2 l2 e => ?_⟩
  have e : upd ε.s id ⟨(ε.s id).ver + 1, some (.rowb k [])⟩ id = ⟨(ε.s id).ver + 1, some (.rowb k2 l2)⟩ := e
  rw [upd_same] at e
  cases e
  exact ⟨by simp, .inl ⟨by rw [upd_same], rfl⟩⟩
/-- A nil slice is an empty list. -/
theorem Gh.nilRow (t : Nat) (k : K) (ht : ε.t t = .nil) : Gh X nt ε ⟨upd ε.t t (.row false k []), ε.s⟩ := fun a w hg => by
  obtain ⟨hs, hd, β, N, hst⟩ := hg
  refine ⟨hs, hd, β, N, St.slot hst t _ fun u hu => ?_⟩
  have hv := hst.tmp t u hu
  rw [ht] at hv
  have e : u = .slice none 0 0 := hv
  subst e
  exact ⟨rfl, Row.nil⟩
/-- A view is let go: from then on a settled list. -/
theorem Gh.settle {id ver off n : Nat} {full : Bool} {k : K} {l : List (ty k)} (t : Nat) (ht : ε.t t = .ref id ver off n full) (hid : ε.s id = ⟨ver, some (.rowb k l)⟩) : Gh X nt ε ⟨upd ε.t t (.row false k ((l.drop off).take n)), upd ε.s id ⟨ver, none⟩⟩ := fun a w hg => by
  obtain ⟨hs, hd, β, N, hst⟩ := hg
  obtain ⟨T, hst'⟩ := hst.drop hid
  refine ⟨hs, hd, β, N, St.slot hst' t _ fun u hu => ?_⟩
  have hv := hst.tmp t u hu
  rw [ht] at hv
  have hbk : (ε.s id).blk = some (.rowb k l) := by rw [hid]
  refine ⟨rfl, RefC.view hst hv hid (fun b hb => ?_) fun b hbN => ?_⟩
  · exact ⟨hb.1, fun ⟨i, blk, h1, h3⟩ => hb.2.1 ⟨i, blk, (by
      by_cases hi : i = id
      · subst hi
        have h1 : (upd ε.s i ⟨ver, none⟩ i).blk = some blk := h1
        rw [upd_same] at h1; cases h1
      · have h1 : (upd ε.s id ⟨ver, none⟩ i).blk = some blk := h1
        rw [upd_ne _ _ hi] at h1; exact h1), h3⟩, hb.2.2⟩
  · refine ⟨hst.lt id _ hbk b hbN, fun ⟨i, blk, h1, h3⟩ => ?_, .inr (hst.new id _ hbk b hbN)⟩
    by_cases hi : i = id
    · subst hi
      have h1 : (upd ε.s i ⟨ver, none⟩ i).blk = some blk := h1
      rw [upd_same] at h1; cases h1
    · have h1 : (upd ε.s id ⟨ver, none⟩ i).blk = some blk := h1
      rw [upd_ne _ _ hi] at h1; exact hst.disj i id _ _ h1 hbk hi b h3 hbN
/-- Nobody looks at a slot any more. -/
theorem Gh.forget (t : Nat) : Gh X nt ε ⟨upd ε.t t .dead, ε.s⟩ := fun a w hg => by
  obtain ⟨hs, hd, β, N, hst⟩ := hg
  exact ⟨hs, hd, β, N, St.slot hst t _ fun u hu => trivial⟩
/-- The bounds of a row in the store. -/
theorem XW.rlen {id ver : Nat} {k : K} {l : List (ty k)} (hid : ε.s id = ⟨ver, some (.rowb k l)⟩) (h : l.length ≤ 9223372036854775807 → XW P X nt c ε Q) : XW P X nt c ε Q := fun a w hg => by
  have hg0 := hg
  obtain ⟨hs, hd, β, N, hst⟩ := hg0
  refine h ?_ a w hg
  rcases hst.blk id _ (by rw [hid]) with ⟨_, e, _⟩ | ⟨b, cap, cur, _, _, h0, _⟩
  · rw [e]; simp
  · exact h0
end
open Go.RowKit
/-! ### Pieces of the printed functions -/
/-- The least and the greatest number of a kind. -/
def inK (k : IntKind) (v : Int) : Prop := k.wrap v = v
instance (k : IntKind) (v : Int) : Decidable (inK k v) := inferInstanceAs (Decidable (k.wrap v = v))
def ck {α : Type} (k : IntKind) (v : Int) (f : Int → Option α) : Option α := if inK k v then f v else none
theorem ck_some {α : Type} {k : IntKind} {v : Int} {f : Int → Option α} {r : α} (h : ck k v f = some r) : k.wrap v = v ∧ f v = some r := by
  unfold ck at h
  split at h
  · rename_i hi; exact ⟨hi, h⟩
  · cases h
def ix {α β : Type} (l : List α) (i : Int) (f : α → Option β) : Option β := if 0 ≤ i then match l[i.toNat]? with
  | some x => f x
  | none => none
  else none
theorem ix_some {α β : Type} {l : List α} {i : Int} {f : α → Option β} {r : β} (h : ix l i f = some r) : 0 ≤ i ∧ i < l.length ∧ ∃ x, l[i.toNat]? = some x ∧ f x = some r := by
  unfold ix at h
  split at h
  · rename_i h0
    split at h
    · rename_i x hx
      have := (List.getElem?_eq_some_iff.1 hx).1
      exact ⟨h0, by omega, x, hx, h⟩
    · cases h
  · cases h
def ixS {β : Type} (s : ByteArray) (i : Int) (f : UInt8 → Option β) : Option β := if 0 ≤ i then match s[i.toNat]? with
  | some x => f x
  | none => none
  else none
theorem ixS_some {β : Type} {s : ByteArray} {i : Int} {f : UInt8 → Option β} {r : β} (h : ixS s i f = some r) : 0 ≤ i ∧ ∃ x, s[i.toNat]? = some x ∧ f x = some r := by
  unfold ixS at h
  split at h
  · rename_i h0
    split at h
    · rename_i x hx
      exact ⟨h0, x, hx, h⟩
    · cases h
  · cases h
def gd {β : Type} (p : Prop) [Decidable p] (x : Option β) : Option β := if p then x else none
theorem gd_some {β : Type} {p : Prop} [Decidable p] {x : Option β} {r : β} (h : gd p x = some r) : p ∧ x = some r := by
  unfold gd at h
  split at h
  · rename_i hp; exact ⟨hp, h⟩
  · cases h
theorem gdK_some {β : Type} {k : IntKind} {v : Int} {x : Option β} {r : β} (h : gd (inK k v) x = some r) : k.wrap v = v ∧ x = some r := gd_some h
theorem ite_t {α : Type} {b : Bool} (hb : b = true) {x y z : α} (h : (if b then x else y) = z) : x = z := by rw [if_pos hb] at h; exact h
theorem ite_f {α : Type} {b : Bool} (hb : b = false) {x y z : α} (h : (if b then x else y) = z) : y = z := by rw [if_neg (by rw [hb]; decide)] at h; exact h
theorem bind_some' {α β : Type} {x : Option α} {f : α → Option β} {r : β} (h : x.bind f = some r) : ∃ a, x = some a ∧ f a = some r := Option.bind_eq_some_iff.1 h
section
variable {P : Program} {X : Ctx} {nt : Nat} {Q : Exit → Env → Prop} {ε : Env}
/-- Code, then more of which only I is known. -/
theorem XW.join {x y : Code} (I : Env → Prop) (hx : XW P X nt x ε (thenE I Q)) (hy : ∀ ε', I ε' → XW P X nt y ε' Q) : XW P X nt (.seq x y) ε Q :=
  XW.seq (XW.mono hx fun e ε' h => by
    cases e with
    | normal => exact hy ε' h
    | _ => exact h)
/-- Once more through the loop, by rounds left. -/
theorem XW.rounds {c : Code} (I : Nat → Env → Prop) (n : Nat) (h0 : I n ε) (hz : ∀ ε, ¬ I 0 ε) (hr : ∀ n ε, I (n + 1) ε → XW P X nt c ε (thenE (fun ε' => I n ε') Q)) : XW P X nt (.loop c) ε Q :=
  XW.loop I n h0 fun m ε hi => by
    cases m with
    | zero => exact absurd hi (hz ε)
    | succ m =>
      refine XW.mono (hr m ε hi) fun e ε' h => ?_
      cases e with
      | normal => exact ⟨m, Nat.lt_succ_self m, h⟩
      | _ => exact h
end
open Go.RowKit
/-! ### Loops and joins of printed functions -/
/-- A loop by rounds: the body says with what to go on, or what comes out. -/
def loopF {V O : Type} (B : V → Option (V ⊕ O)) : Nat → V → Option O
  | 0, _ => none
  | n + 1, v => match B v with
    | none => none
    | some (.inl v') => loopF B n v'
    | some (.inr o) => some o
def stepF {V O : Type} (B : V → Option (V ⊕ O)) (n : Nat) (o : O) : V ⊕ O → Prop
  | .inl v => loopF B n v = some o
  | .inr x => x = o
theorem loopF_succ {V O : Type} {B : V → Option (V ⊕ O)} {n : Nat} {v : V} {o : O} (h : loopF B (n + 1) v = some o) : ∃ s, B v = some s ∧ stepF B n o s := by
  unfold loopF at h
  split at h
  · cases h
  · rename_i v' hb; exact ⟨_, hb, h⟩
  · rename_i x hb; cases h; exact ⟨_, hb, rfl⟩
theorem loopF_next {V O : Type} {B : V → Option (V ⊕ O)} {n : Nat} {o : O} {v : V} (h : stepF B n o (.inl v)) : loopF B n v = some o := h
theorem loopF_done {V O : Type} {B : V → Option (V ⊕ O)} {n : Nat} {o x : O} (h : stepF B n o (.inr x)) : x = o := h
/-- A loop's answer with other words for its rounds. -/
theorem loopF_of {V O : Type} {B : V → Option (V ⊕ O)} {v : V} {n : Nat} {o : O} (s : V ⊕ O) (hb : B v = some s) (h : stepF B n o s) : loopF B (n + 1) v = some o := by
  unfold loopF
  rw [hb]
  cases s with
  | inl v' => exact h
  | inr x => have h : x = o := h; rw [h]
section
variable {P : Program} {X : Ctx} {nt : Nat} {Q : Exit → Env → Prop} {ε : Env} {G : Nat} {E : World → Prop}
theorem bqtt : (true == true) = true := rfl
theorem bqtf : (true == false) = false := rfl
theorem bqft : (false == true) = false := rfl
theorem bqff : (false == false) = true := rfl
theorem rep0 {α : Type} (x : α) : List.replicate 0 x = [] := rfl
theorem rep1 {α : Type} (x : α) : List.replicate 1 x = [x] := rfl
theorem rep2 {α : Type} (x : α) : List.replicate 2 x = [x, x] := rfl
theorem rep3 {α : Type} (x : α) : List.replicate 3 x = [x, x, x] := rfl
theorem rep4 {α : Type} (x : α) : List.replicate 4 x = [x, x, x, x] := rfl
theorem rep5 {α : Type} (x : α) : List.replicate 5 x = [x, x, x, x, x] := rfl
theorem rep6 {α : Type} (x : α) : List.replicate 6 x = [x, x, x, x, x, x] := rfl
theorem rep7 {α : Type} (x : α) : List.replicate 7 x = [x, x, x, x, x, x, x] := rfl
theorem rep8 {α : Type} (x : α) : List.replicate 8 x = [x, x, x, x, x, x, x, x] := rfl
theorem rep9 {α : Type} (x : α) : List.replicate 9 x = [x, x, x, x, x, x, x, x, x] := rfl
theorem rep10 {α : Type} (x : α) : List.replicate 10 x = [x, x, x, x, x, x, x, x, x, x] := rfl
theorem rep11 {α : Type} (x : α) : List.replicate 11 x = [x, x, x, x, x, x, x, x, x, x, x] := rfl
theorem rep12 {α : Type} (x : α) : List.replicate 12 x = [x, x, x, x, x, x, x, x, x, x, x, x] := rfl
theorem rep13 {α : Type} (x : α) : List.replicate 13 x = [x, x, x, x, x, x, x, x, x, x, x, x, x] := rfl
theorem rep14 {α : Type} (x : α) : List.replicate 14 x = [x, x, x, x, x, x, x, x, x, x, x, x, x, x] := rfl
theorem rep15 {α : Type} (x : α) : List.replicate 15 x = [x, x, x, x, x, x, x, x, x, x, x, x, x, x, x] := rfl
theorem rep16 {α : Type} (x : α) : List.replicate 16 x = [x, x, x, x, x, x, x, x, x, x, x, x, x, x, x, x] := rfl
theorem rep17 {α : Type} (x : α) : List.replicate 17 x = [x, x, x, x, x, x, x, x, x, x, x, x, x, x, x, x, x] := rfl
theorem rep18 {α : Type} (x : α) : List.replicate 18 x = [x, x, x, x, x, x, x, x, x, x, x, x, x, x, x, x, x, x] := rfl
theorem rep19 {α : Type} (x : α) : List.replicate 19 x = [x, x, x, x, x, x, x, x, x, x, x, x, x, x, x, x, x, x, x] := rfl
theorem rep20 {α : Type} (x : α) : List.replicate 20 x = [x, x, x, x, x, x, x, x, x, x, x, x, x, x, x, x, x, x, x, x] := rfl
theorem rep21 {α : Type} (x : α) : List.replicate 21 x = [x, x, x, x, x, x, x, x, x, x, x, x, x, x, x, x, x, x, x, x, x] := rfl
theorem rep22 {α : Type} (x : α) : List.replicate 22 x = [x, x, x, x, x, x, x, x, x, x, x, x, x, x, x, x, x, x, x, x, x, x] := rfl
theorem rep23 {α : Type} (x : α) : List.replicate 23 x = [x, x, x, x, x, x, x, x, x, x, x, x, x, x, x, x, x, x, x, x, x, x, x] := rfl
theorem rep24 {α : Type} (x : α) : List.replicate 24 x = [x, x, x, x, x, x, x, x, x, x, x, x, x, x, x, x, x, x, x, x, x, x, x, x] := rfl
theorem rep25 {α : Type} (x : α) : List.replicate 25 x = [x, x, x, x, x, x, x, x, x, x, x, x, x, x, x, x, x, x, x, x, x, x, x, x, x] := rfl
theorem rep26 {α : Type} (x : α) : List.replicate 26 x = [x, x, x, x, x, x, x, x, x, x, x, x, x, x, x, x, x, x, x, x, x, x, x, x, x, x] := rfl
theorem rep27 {α : Type} (x : α) : List.replicate 27 x = [x, x, x, x, x, x, x, x, x, x, x, x, x, x, x, x, x, x, x, x, x, x, x, x, x, x, x] := rfl
theorem rep28 {α : Type} (x : α) : List.replicate 28 x = [x, x, x, x, x, x, x, x, x, x, x, x, x, x, x, x, x, x, x, x, x, x, x, x, x, x, x, x] := rfl
theorem rep29 {α : Type} (x : α) : List.replicate 29 x = [x, x, x, x, x, x, x, x, x, x, x, x, x, x, x, x, x, x, x, x, x, x, x, x, x, x, x, x, x] := rfl
theorem rep30 {α : Type} (x : α) : List.replicate 30 x = [x, x, x, x, x, x, x, x, x, x, x, x, x, x, x, x, x, x, x, x, x, x, x, x, x, x, x, x, x, x] := rfl
theorem rep31 {α : Type} (x : α) : List.replicate 31 x = [x, x, x, x, x, x, x, x, x, x, x, x, x, x, x, x, x, x, x, x, x, x, x, x, x, x, x, x, x, x, x] := rfl
theorem rep32 {α : Type} (x : α) : List.replicate 32 x = [x, x, x, x, x, x, x, x, x, x, x, x, x, x, x, x, x, x, x, x, x, x, x, x, x, x, x, x, x, x, x, x] := rfl
theorem u8of (x : UInt8) : UInt8.ofNat ((x.toNat : Int)).toNat = x := by rw [Int.toNat_natCast]; exact UInt8.ofNat_toNat
def noQ : Exit → Env → Prop := fun _ _ => False
/-- I holds, once some ghost steps are taken. -/
def GI (X : Ctx) (nt : Nat) (I : Env → Prop) (ε : Env) : Prop := ∀ a w, Good X nt ε a w → ∃ ε', Good X nt ε' a w ∧ I ε'
theorem GI.of {I : Env → Prop} (h : I ε) : GI X nt I ε := fun a w hg => ⟨ε, hg, h⟩
theorem GI.gh {I : Env → Prop} {ε2 : Env} (h : Gh X nt ε ε2) (hq : GI X nt I ε2) : GI X nt I ε := fun a w hg => hq a w (h a w hg)
theorem XW.join2 {x y : Code} (I : Env → Prop) (hy : ∀ ε', I ε' → XW P X nt y ε' Q) (hx : XW P X nt x ε (thenE (fun ε' => GI X nt I ε') Q)) : XW P X nt (.seq x y) ε Q :=
  XW.seq (XW.mono hx fun e ε' h => by
    cases e with
    | normal => exact fun a w hg => by obtain ⟨ε2, h1, h2⟩ := h a w hg; exact hy ε2 h2 a w h1
    | _ => exact h)
/-- Code of which only I is known at its end. -/
theorem XW.post {x : Code} (I : Env → Prop) (hy : ∀ ε', I ε' → Q .normal ε') (hx : XW P X nt x ε (thenE (fun ε' => I ε') Q)) : XW P X nt x ε Q :=
  XW.mono hx fun e ε' h => by
    cases e with
    | normal => exact hy ε' h
    | _ => exact h
theorem XW.postG {x : Code} (I : Env → Prop) (hy : ∀ ε', I ε' → Q .normal ε') (hx : XW P X nt x ε (thenE (fun ε' => GI X nt I ε') Q)) : XW P X nt x ε Q := fun a w hg =>
  wp_mono (hx a w hg) fun e a' w' ⟨ε', h1, h2⟩ => by
    cases e with
    | normal => obtain ⟨ε2, h3, h4⟩ := h2 a' w' h1; exact ⟨ε2, h3, hy _ h4⟩
    | _ => exact ⟨ε', h1, h2⟩
theorem ref_n {p : PV} {id ver off n m : Nat} {full : Bool} (h : p = .ref id ver off n full) (e : n = m) : p = .ref id ver off m full := by rw [h, e]
theorem retW.mk {rs : List ResultVar} {r r0 : PV} {vs qs : List PV} {A B : List Nat} (h1 : resL nt ε rs = some vs) (h2 : close1L ε.s vs = some (qs, A, B)) (h3 : r0 = oneOr qs) (h4 : nodupB A = true) (h5 : disjL A B = true) (hw : wkV r0 r) : retW nt rs r .ret ε := ⟨r0, hw, vs, qs, A, B, h1, h2, h3, h4, h5⟩
theorem XW.ghost {c : Code} {I : Env → Prop} (h : GI X nt I ε) (hq : ∀ ε', I ε' → XW P X nt c ε' Q) : XW P X nt c ε Q := fun a w hg => by
  obtain ⟨ε', h2, h3⟩ := h a w hg
  exact hq ε' h3 a w h2
theorem XW.roundsG {c : Code} (I : Nat → Env → Prop) (n : Nat) (h0 : GI X nt (I n) ε) (hz : ∀ ε, ¬ I 0 ε) (hr : ∀ n ε, I (n + 1) ε → XW P X nt c ε (thenE (fun ε' => GI X nt (I n) ε') Q)) : XW P X nt (.loop c) ε Q :=
  XW.ghost h0 fun ε' hi => fun a w hg => wp_loop_ghost (fun n a w => ∃ ε, Good X nt ε a w ∧ I n ε) n ⟨ε', hg, hi⟩ fun n a w ⟨ε, hg, hi⟩ => by
    cases n with
    | zero => exact absurd hi (hz ε)
    | succ n =>
      refine wp_mono (hr n ε hi a w hg) fun e a' w' ⟨ε', h1, h2⟩ => ?_
      cases e with
      | normal =>
        obtain ⟨ε2, h4, h5⟩ := h2 a' w' h1
        exact ⟨n, Nat.lt_succ_self n, ε2, h4, h5⟩
      | _ => exact ⟨ε', h1, h2⟩
theorem XW.sdrw {id : Nat} {l : List Oper} {y : Code} (hF : Facts P) (hE : X.E = E) (hG : X.G = G) (hm : P.follows .mixedOrders = true) (ε2 : Env) (ft : List Ft) (hb : opsB nt l = true) (h : ROps (PCalls P G E) eop l.toArray l 0 ε fun ft' ε' => ft' = ft ∧ ε' = ε2) (ho : orderOk l.toArray ft = true) (hq : XW P X nt y ε2 Q) : XW P X nt (.seq (.region id l.toArray true) y) ε Q :=
  XW.seq (XW.drw hF hE hG hm hb (ROps.mono l 0 ε _ _ (fun _ ε' e => by obtain ⟨rfl, rfl⟩ := e; exact ⟨ho, hq⟩) h))
theorem XW.drw1 {id : Nat} {l : List Oper} (hF : Facts P) (hE : X.E = E) (hG : X.G = G) (hm : P.follows .mixedOrders = true) (ε2 : Env) (ft : List Ft) (hb : opsB nt l = true) (h : ROps (PCalls P G E) eop l.toArray l 0 ε fun ft' ε' => ft' = ft ∧ ε' = ε2) (ho : orderOk l.toArray ft = true) (hq : Q .normal ε2) : XW P X nt (.region id l.toArray true) ε Q :=
  XW.drw hF hE hG hm hb (ROps.mono l 0 ε _ _ (fun _ ε' e => by obtain ⟨rfl, rfl⟩ := e; exact ⟨ho, hq⟩) h)
end
open Go.RowKit
/-! ### Single steps of a region -/
def Sd (v : PV) (s : Sto) (r w : List Nat) : PV → Sto → List Nat → List Nat → Prop := fun v' s' r' w' => v' = v ∧ s' = s ∧ r' = r ∧ w' = w
theorem bind_wp {PC : Con} {α β : Type} : ∀ {e : Eff α} {f : α → Eff β} {s : Sto} {K : β → Sto → List Nat → List Nat → Prop}, e.wp PC s (fun a s' r w => (f a).wp PC s' fun b s2 r2 w2 => K b s2 (r ++ r2) (w ++ w2)) → (e.bind f).wp PC s K
  | .ret a, f, s, K, h => h
  | .fail, _, _, _, h => h
  | .rd id k, f, s, K, h => bind_wp (e := k (s id)) h
  | .wr id e k, f, s, K, h => bind_wp (e := k) h
  | .guard p k, f, s, K, h => ⟨h.1, bind_wp h.2⟩
  | .call g args exts k, f, s, K, h => by
    obtain ⟨v, x, h0, h⟩ := h
    exact ⟨v, x, h0, bind_wp h⟩
  | .or a b, f, s, K, h => h.imp bind_wp bind_wp
section
variable {PC : Con} {ep : Oper → (Nat → PV) → Eff PV} {ops : Array Oper} {o : Oper} {rest : List Oper} {i d : Nat} {t : Nat → PV} {s s' : Sto} {v : PV} {r w : List Nat} {K : List Ft → Env → Prop}
theorem ROps.e {ε : Env} (h : K [] ε) : ROps PC ep ops [] i ε K := h
theorem ROps.ps (hd : o.dst = some d) (hw : wantedP ops o t = some true) (he : (ep o t).wp PC s (Sd v s' r w)) (h : ROps PC ep ops rest (i + 1) ⟨upd t d v, s'⟩ fun l ε' => K ((i, r, w) :: l) ε') : ROps PC ep ops (o :: rest) i ⟨t, s⟩ K := by
  unfold ROps
  rw [show ({ t := t, s := s } : Env).t = t from rfl, hw]
  refine Eff.wp_mono _ _ ?_ he
  rintro _ _ _ _ ⟨rfl, rfl, rfl, rfl⟩
  rw [hd]; exact h
theorem ROps.pn (hd : o.dst = none) (hw : wantedP ops o t = some true) (he : (ep o t).wp PC s (Sd v s' r w)) (h : ROps PC ep ops rest (i + 1) ⟨t, s'⟩ fun l ε' => K ((i, r, w) :: l) ε') : ROps PC ep ops (o :: rest) i ⟨t, s⟩ K := by
  unfold ROps
  rw [show ({ t := t, s := s } : Env).t = t from rfl, hw]
  refine Eff.wp_mono _ _ ?_ he
  rintro _ _ _ _ ⟨rfl, rfl, rfl, rfl⟩
  rw [hd]; exact h
theorem ROps.pr (hd : o.dst = some d) (hw : wantedP ops o t = some true) (he : ep o t = .ret v) (h : ROps PC ep ops rest (i + 1) ⟨upd t d v, s⟩ fun l ε' => K ((i, [], []) :: l) ε') : ROps PC ep ops (o :: rest) i ⟨t, s⟩ K :=
  ROps.ps hd hw (by rw [he]; exact ⟨rfl, rfl, rfl, rfl⟩) h
theorem ROps.pk (hd : o.dst = some d) (hw : wantedP ops o t = some false) (h : ROps PC ep ops rest (i + 1) ⟨upd t d .un, s⟩ fun l ε' => K ((i, [], []) :: l) ε') : ROps PC ep ops (o :: rest) i ⟨t, s⟩ K := by
  unfold ROps
  rw [show ({ t := t, s := s } : Env).t = t from rfl, hw, hd]
  exact h
theorem ROps.pkn (hd : o.dst = none) (hw : wantedP ops o t = some false) (h : ROps PC ep ops rest (i + 1) ⟨t, s⟩ fun l ε' => K ((i, [], []) :: l) ε') : ROps PC ep ops (o :: rest) i ⟨t, s⟩ K := by
  unfold ROps
  rw [show ({ t := t, s := s } : Env).t = t from rfl, hw, hd]
  exact h
/-- A guard whose Bool is known. -/
theorem wtt {g : Nat} {e : Bool} (hg : o.guard = some (g, true)) (hd : (ops[g]?).bind (·.dst) = some d) (ht : t d = .v (.bool e)) (he : e = true) : wantedP ops o t = some true := by
  subst he
  unfold wantedP
  simp only [hg, hd, ht]; rfl
theorem wtf {g : Nat} {e : Bool} (hg : o.guard = some (g, false)) (hd : (ops[g]?).bind (·.dst) = some d) (ht : t d = .v (.bool e)) (he : e = true) : wantedP ops o t = some false := by
  subst he
  unfold wantedP
  simp only [hg, hd, ht]; rfl
theorem wft {g : Nat} {e : Bool} (hg : o.guard = some (g, true)) (hd : (ops[g]?).bind (·.dst) = some d) (ht : t d = .v (.bool e)) (he : e = false) : wantedP ops o t = some false := by
  subst he
  unfold wantedP
  simp only [hg, hd, ht]; rfl
theorem wff {g : Nat} {e : Bool} (hg : o.guard = some (g, false)) (hd : (ops[g]?).bind (·.dst) = some d) (ht : t d = .v (.bool e)) (he : e = false) : wantedP ops o t = some true := by
  subst he
  unfold wantedP
  simp only [hg, hd, ht]; rfl
end
section
variable {PC : Con} {o : Oper} {t : TypeId} {s s' : Sto} {v v2 x : PV} {id ver off n j i : Nat} {full ag : Bool} {k : K} {l l2 : List (ty k)} {ik ik2 : IntKind} {a b c : Int} {r : List Nat}
theorem w_ret (h : PV) : (Eff.ret h).wp PC s (Sd h s [] []) := ⟨rfl, rfl, rfl, rfl⟩
theorem w_live {f : Blk → Eff PV} {b : Blk} (hs : s id = ⟨ver, some b⟩) (hf : f b = .ret v) : (live id ver f).wp PC s (Sd v s [id] []) := by
  unfold live
  simp only [Eff.wp, hs, if_true, hf]
  exact ⟨rfl, rfl, rfl, rfl⟩
theorem w_new {b : Blk} {f : Nat → Eff PV} (hf : f ((s id).ver + 1) = .ret v) : (newBlk id b f).wp PC s (Sd v (upd s id ⟨(s id).ver + 1, some b⟩) [id] [id]) := by
  unfold newBlk
  simp only [Eff.wp, hf]
  exact ⟨rfl, rfl, rfl, rfl⟩
theorem w_wr (h : ik.wrap a = c) : (Eff.ret (.v (.int ik (ik.wrap a)))).wp PC s (Sd (.v (.int ik c)) s [] []) := by rw [h]; exact ⟨rfl, rfl, rfl, rfl⟩
theorem w_quo {z1 : PV} (ez1 : z1 = .v (.int ik a)) {z2 : PV} (ez2 : z2 = .v (.int ik b)) (hb : b ≠ 0) (h : ik.wrap (a.tdiv b) = c) : (eBin .quo t z1 z2).wp PC s (Sd (.v (.int ik c)) s [] []) := by
  subst ez1 ez2
  simp only [eBin, intOp, if_true, if_neg hb, optE, h]; exact ⟨rfl, rfl, rfl, rfl⟩
theorem w_quou {z1 : PV} (ez1 : z1 = .v (.int ik a)) {z2 : PV} (ez2 : z2 = .v (.int ik b)) (hb : b ≠ 0) : (eBin .quo t z1 z2).wp PC s (Sd (.v (.int ik (ik.wrap (a.tdiv b)))) s [] []) := by
  subst ez1 ez2
  simp only [eBin, intOp, if_true, if_neg hb, optE]; exact ⟨rfl, rfl, rfl, rfl⟩
theorem w_rem {z1 : PV} (ez1 : z1 = .v (.int ik a)) {z2 : PV} (ez2 : z2 = .v (.int ik b)) (hb : b ≠ 0) : (eBin .rem t z1 z2).wp PC s (Sd (.v (.int ik (a.tmod b))) s [] []) := by
  subst ez1 ez2
  simp only [eBin, intOp, if_true, if_neg hb, optE]; exact ⟨rfl, rfl, rfl, rfl⟩
theorem w_shl {z1 : PV} (ez1 : z1 = .v (.int ik a)) {z2 : PV} (ez2 : z2 = .v (.int ik2 b)) (hb : ¬ b < 0) : (eBin .shl t z1 z2).wp PC s (Sd (.v (.int ik (ik.wrap (a * 2 ^ (min b.toNat ik.bits))))) s [] []) := by
  subst ez1 ez2
  simp only [eBin, shOp, if_neg hb, optE]; exact ⟨rfl, rfl, rfl, rfl⟩
theorem w_shr {z1 : PV} (ez1 : z1 = .v (.int ik a)) {z2 : PV} (ez2 : z2 = .v (.int ik2 b)) (hb : ¬ b < 0) : (eBin .shr t z1 z2).wp PC s (Sd (.v (.int ik (a.fdiv (2 ^ (min b.toNat ik.bits))))) s [] []) := by
  subst ez1 ez2
  simp only [eBin, shOp, if_neg hb, optE]; exact ⟨rfl, rfl, rfl, rfl⟩
theorem w_sadd {p q : ByteArray} {z1 : PV} (ez1 : z1 = .v (.string p)) {z2 : PV} (ez2 : z2 = .v (.string q)) (h : p.size + q.size ≤ 9223372036854775807) : (eBin .add t z1 z2).wp PC s (Sd (.v (.string (p ++ q))) s [] []) := by
  subst ez1 ez2
  simp only [eBin, strOp, if_pos h, optE]; exact ⟨rfl, rfl, rfl, rfl⟩
theorem w_pt {e : Bool} {z1 : PV} (ez1 : z1 = .v (.bool e)) (h : e = true) : (ePick z1 x v).wp PC s (Sd x s [] []) := by subst ez1; subst h; exact ⟨rfl, rfl, rfl, rfl⟩
theorem w_pf {e : Bool} {z1 : PV} (ez1 : z1 = .v (.bool e)) (h : e = false) : (ePick z1 x v).wp PC s (Sd v s [] []) := by subst ez1; subst h; exact ⟨rfl, rfl, rfl, rfl⟩
theorem w_pb {e p q : Bool} {z1 : PV} (ez1 : z1 = .v (.bool e)) {z2 : PV} (ez2 : z2 = .v (.bool p)) {z3 : PV} (ez3 : z3 = .v (.bool q)) : (ePick z1 z2 z3).wp PC s (Sd (.v (.bool (if e then p else q))) s [] []) := by subst ez1 ez2 ez3; cases e <;> exact ⟨rfl, rfl, rfl, rfl⟩
theorem w_pi {e : Bool} {z1 : PV} (ez1 : z1 = .v (.bool e)) {z2 : PV} (ez2 : z2 = .v (.int ik a)) {z3 : PV} (ez3 : z3 = .v (.int ik b)) : (ePick z1 z2 z3).wp PC s (Sd (.v (.int ik (if e then a else b))) s [] []) := by subst ez1 ez2 ez3; cases e <;> exact ⟨rfl, rfl, rfl, rfl⟩
theorem w_ps {e : Bool} {p q : ByteArray} {z1 : PV} (ez1 : z1 = .v (.bool e)) {z2 : PV} (ez2 : z2 = .v (.string p)) {z3 : PV} (ez3 : z3 = .v (.string q)) : (ePick z1 z2 z3).wp PC s (Sd (.v (.string (if e then p else q))) s [] []) := by subst ez1 ez2 ez3; cases e <;> exact ⟨rfl, rfl, rfl, rfl⟩
theorem w_ixr {z1 : PV} (ez1 : z1 = .row false k l) {z2 : PV} (ez2 : z2 = .v (.int ik a)) (hk : slK t = some k) (h : 0 ≤ a ∧ a < l.length) : (eIndexAddr t z1 z2).wp PC s (Sd (.eptr k l a.toNat 0) s [] []) := by
  subst ez1 ez2
  simp only [eIndexAddr, if_pos (And.intro hk h)]; exact ⟨rfl, rfl, rfl, rfl⟩
theorem w_ixf {z1 : PV} (ez1 : z1 = .ref id ver off n full) {z2 : PV} (ez2 : z2 = .v (.int ik a)) (hs : s id = ⟨ver, some (.rowb k l)⟩) (hk : slK t = some k) (h : 0 ≤ a ∧ a < n) : (eIndexAddr t z1 z2).wp PC s (Sd (.ptr id ver (off + a.toNat) 0) s [id] []) := by
  subst ez1 ez2
  exact w_live hs (by simp only [if_pos (And.intro hk h)])
theorem w_ixf0 {z1 : PV} (ez1 : z1 = .ref id ver 0 n full) {z2 : PV} (ez2 : z2 = .v (.int ik a)) (hs : s id = ⟨ver, some (.rowb k l)⟩) (hk : slK t = some k) (h : 0 ≤ a ∧ a < n) : (eIndexAddr t z1 z2).wp PC s (Sd (.ptr id ver a.toNat 0) s [id] []) := by
  subst ez1 ez2
  exact w_live hs (by simp only [if_pos (And.intro hk h), Nat.zero_add])
theorem w_ixs {p : ByteArray} {c : UInt8} {z1 : PV} (ez1 : z1 = .v (.string p)) {z2 : PV} (ez2 : z2 = .v (.int ik a)) (ht : isStrT t = true) (h0 : 0 ≤ a) (h : p[a.toNat]? = some c) : (eIndex t z1 z2).wp PC s (Sd (.v (.int .u8 c.toNat)) s [] []) := by
  subst ez1 ez2
  simp only [eIndex, if_pos (And.intro ht h0), h]; exact ⟨rfl, rfl, rfl, rfl⟩
theorem b_l {m : Nat} (h : 0 ≤ a ∧ a ≤ (m : Int)) : boundsE m (some (.v (.int ik a))) none = some (a.toNat, m) := by
  simp only [boundsE, boundE, if_pos h]
theorem b_h {m : Nat} (h : 0 ≤ a ∧ a ≤ (m : Int)) : boundsE m none (some (.v (.int ik a))) = some (0, a.toNat) := by
  simp only [boundsE, boundE, if_pos h]
theorem b_lh {m : Nat} (h : 0 ≤ b ∧ b ≤ (m : Int)) (h2 : 0 ≤ a ∧ a ≤ (b.toNat : Int)) : boundsE m (some (.v (.int ik a))) (some (.v (.int ik2 b))) = some (a.toNat, b.toNat) := by
  simp only [boundsE, boundE, if_pos h, if_pos h2]
theorem w_sls {p : ByteArray} {lo hi : Option PV} {m q : Nat} {z1 : PV} (ez1 : z1 = .v (.string p)) (ht : isStrT t = true) (hb : boundsE p.size lo hi = some (m, q)) : (eSlice t z1 lo hi).wp PC s (Sd (.v (.string (p.extract m q))) s [] []) := by
  subst ez1
  simp only [eSlice, if_pos ht, hb]; exact ⟨rfl, rfl, rfl, rfl⟩
theorem w_slr {lo hi : Option PV} {m q : Nat} {z1 : PV} (ez1 : z1 = .row false k l) (hk : slK t = some k) (hb : boundsE l.length lo hi = some (m, q)) : (eSlice t z1 lo hi).wp PC s (Sd (.row false k ((l.take q).drop m)) s [] []) := by
  subst ez1
  simp only [eSlice, if_pos hk, hb]; exact ⟨rfl, rfl, rfl, rfl⟩
theorem w_slf {lo hi : Option PV} {m q : Nat} {z1 : PV} (ez1 : z1 = .ref id ver off n full) (hs : s id = ⟨ver, some (.rowb k l)⟩) (hk : slK t = some k) (hb : boundsE n lo hi = some (m, q)) : (eSlice t z1 lo hi).wp PC s (Sd (.ref id ver (off + m) (q - m) (full && lo.isNone && hi.isNone)) s [id] []) := by
  subst ez1
  exact w_live hs (by simp only [if_pos hk, hb])
theorem w_slf0 {lo hi : Option PV} {m q : Nat} {z1 : PV} (ez1 : z1 = .ref id ver 0 n full) (hs : s id = ⟨ver, some (.rowb k l)⟩) (hk : slK t = some k) (hb : boundsE n lo hi = some (m, q)) : (eSlice t z1 lo hi).wp PC s (Sd (.ref id ver m (q - m) (full && lo.isNone && hi.isNone)) s [id] []) := by
  subst ez1
  exact w_live hs (by simp only [if_pos hk, hb, Nat.zero_add])
theorem w_lde {z : ty k} {m : Nat} {z1 : PV} (ez1 : z1 = .eptr k l i j) (hz : l[i]? = some z) (ht : tyB t = some (ag, m)) (hr : rangeV ag ((leaves z).map leafPV) j m = .ret v) : (eLoad t z1).wp PC s (Sd v s [] []) := by
  subst ez1
  simp only [eLoad, ht, hz, hr]; exact ⟨rfl, rfl, rfl, rfl⟩
theorem w_ldr {z : ty k} {m : Nat} {z1 : PV} (ez1 : z1 = .ptr id ver i j) (hs : s id = ⟨ver, some (.rowb k l)⟩) (hz : l[i]? = some z) (ht : tyB t = some (ag, m)) (hr : rangeV ag ((leaves z).map leafPV) j m = .ret v) : (eLoad t z1).wp PC s (Sd v s [id] []) := by
  subst ez1
  unfold eLoad
  simp only [ht]
  exact w_live hs (by simp only [hz, hr])
theorem w_stb {m : Nat} {cs : List PV} {z1 : PV} (ez1 : z1 = .ptr id ver i j) (ht : tyB t = some (ag, m)) (hc : (cellsP x).length = m ∧ (cellsP x).all storable = true) (hs : s id = ⟨ver, some (.box cs)⟩) (hj : j + m ≤ cs.length) : (eStore t z1 x).wp PC s (Sd .un (upd s id ⟨ver, some (.box (splice cs j (cellsP x)))⟩) [id] [id]) := by
  subst ez1
  unfold eStore
  simp only [ht, if_pos hc]
  unfold live
  simp only [Eff.wp, hs, if_true, if_pos hj]
  exact ⟨rfl, rfl, rfl, rfl⟩
theorem w_str {z1 : PV} (ez1 : z1 = .ptr id ver i j) {m : Nat} {la : List LeafI} {z y : ty k} (ht : tyB t = some (ag, m)) (hc : (cellsP x).length = m ∧ (cellsP x).all storable = true) (hs : s id = ⟨ver, some (.rowb k l)⟩) (ha : settles (cellsP x) = .ret la) (hz : l[i]? = some z) (hj : j + m ≤ size k) (hy : ofLeaves k (splice ((leaves z).map leafIn) j la) = some y) :
    (eStore t z1 x).wp PC s (Sd .un (upd s id ⟨ver, some (.rowb k (l.set i y))⟩) [id, id] [id]) := by
  subst ez1
  unfold eStore
  simp only [ht, if_pos hc]
  unfold live
  simp only [Eff.wp, hs, if_true, ha, Eff.bind, hz, if_pos hj, hy]
  exact ⟨rfl, rfl, rfl, rfl⟩
/-- The elements of a slice value. -/
def El (PC : Con) (s : Sto) (k : K) (x : PV) (l : List (ty k)) (r : List Nat) : Prop := (elemsE k x).wp PC s fun l' s' r' w' => l' = l ∧ s' = s ∧ r' = r ∧ w' = []
theorem el_nil : El PC s k .nil [] [] := ⟨rfl, rfl, rfl, rfl⟩
theorem el_row : El PC s k (.row false k l) l [] := by
  unfold El elemsE
  simp only [castL_self]; exact ⟨rfl, rfl, rfl, rfl⟩
theorem el_ref (hs : s id = ⟨ver, some (.rowb k l)⟩) : El PC s k (.ref id ver off n full) ((l.drop off).take n) [id] := by
  unfold El elemsE live
  simp [Eff.wp, hs, castL_self]
theorem el_full (hs : s id = ⟨ver, some (.rowb k l)⟩) (hn : n = l.length) : El PC s k (.ref id ver 0 n full) l [id] := by
  have := el_ref (PC := PC) (off := 0) (n := n) (full := full) hs
  subst hn
  simpa using this
theorem w_apn {z1 : PV} (ez1 : z1 = .nil) (hk : slK t = some k) (he : El PC s k x l2 r) (hr : roomB k l2.length) : (eAppend o t z1 x).wp PC s (Sd (.ref (site o) ((s (site o)).ver + 1) 0 l2.length true) (upd s (site o) ⟨(s (site o)).ver + 1, some (.rowb k l2)⟩) (r ++ [site o]) [site o]) := by
  subst ez1
  unfold eAppend
  simp only [hk]
  refine bind_wp (Eff.wp_mono _ _ ?_ he)
  rintro _ _ _ _ ⟨rfl, rfl, rfl, rfl⟩
  exact ⟨hr, rfl, rfl, rfl, rfl⟩
theorem w_ap {z1 : PV} (ez1 : z1 = .ref id ver off n true) (hk : slK t = some k) (he : El PC s k x l2 r) (hs : s id = ⟨ver, some (.rowb k l)⟩) (hn : n = l.length) (hr : roomB k (l ++ l2).length) : (eAppend o t z1 x).wp PC s (Sd (.ref id (ver + 1) 0 (l ++ l2).length true) (upd s id ⟨ver + 1, some (.rowb k (l ++ l2))⟩) (r ++ [id]) [id]) := by
  subst ez1
  unfold eAppend
  simp only [hk]
  refine bind_wp (Eff.wp_mono _ _ ?_ he)
  rintro _ _ _ _ ⟨rfl, rfl, rfl, rfl⟩
  unfold live
  simp only [Eff.wp, hs, if_true, castL_self, hn, Bool.true_and, beq_self_eq_true]
  exact ⟨hr, rfl, rfl, rfl, rfl⟩
theorem w_mk {z1 : PV} (ez1 : z1 = .v (.int ik a)) {z2 : PV} (ez2 : z2 = .v (.int ik2 b)) (hk : slK t = some k) (h : 0 ≤ a ∧ a ≤ b) (hr : roomB k b.toNat) : (eMakeSlice o t z1 z2).wp PC s (Sd (.ref (site o) ((s (site o)).ver + 1) 0 a.toNat true) (upd s (site o) ⟨(s (site o)).ver + 1, some (.rowb k (List.replicate a.toNat (zK k)))⟩) [site o] [site o]) := by
  subst ez1 ez2
  simp only [eMakeSlice, hk, if_pos h]
  exact ⟨hr, rfl, rfl, rfl, rfl⟩
theorem w_bs {m : Nat} {parts : List (Nat × PV)} (l : List (ty k)) (hk : slK t = some k) (hm : (m == 0) = false) (hz : m * size k ≤ 16777216) (he : setsE k (List.replicate m (zK k)) parts = .ret l) : (eBuildSlice o t m parts).wp PC s (Sd (.ref (site o) ((s (site o)).ver + 1) 0 l.length true) (upd s (site o) ⟨(s (site o)).ver + 1, some (.rowb k l)⟩) [site o] [site o]) := by
  have hm : m ≠ 0 := by simpa using hm
  simp only [eBuildSlice, hk, if_neg hm, if_pos hz, he, Eff.bind]
  exact ⟨rfl, rfl, rfl, rfl⟩
theorem w_bs0 {m : Nat} {ps : List (Nat × PV)} (hm : m = 0) (hp : ps = []) (hk : slK t = some k) : (eBuildSlice o t m ps).wp PC s (Sd (.ref (site o) ((s (site o)).ver + 1) 0 0 true) (upd s (site o) ⟨(s (site o)).ver + 1, some (.rowb k [])⟩) [site o] [site o]) := by
  subst hm hp
  simp only [eBuildSlice, hk, if_true]
  exact ⟨rfl, rfl, rfl, rfl⟩
theorem w_tos {sd dd : TypeId} {l : List (ty .u8)} (hc : cvT sd dd = some .toStr) (he : El PC s .u8 x l r) : (eConv o sd dd x).wp PC s (Sd (.v (.string ⟨l.toArray⟩)) s r []) := by
  unfold eConv
  simp only [hc, eToStr]
  refine bind_wp (Eff.wp_mono _ _ ?_ he)
  rintro _ _ _ _ ⟨rfl, rfl, rfl, rfl⟩
  exact ⟨rfl, rfl, List.append_nil _, rfl⟩
/-! Calls -/
def Pk (PC : Con) (s : Sto) (p q : PV) (b : Bool) (r : List Nat) : Prop := (peekS p).wp PC s fun a s' r' w' => a = (q, b) ∧ s' = s ∧ r' = r ∧ w' = []
def PkL (PC : Con) (s : Sto) (p q : List PV) (b : Bool) (r : List Nat) : Prop := (peekL p).wp PC s fun a s' r' w' => a = (q, b) ∧ s' = s ∧ r' = r ∧ w' = []
def Pk1 (PC : Con) (s : Sto) (p q : PV) (b : Bool) (r : List Nat) : Prop := (peek1 p).wp PC s fun a s' r' w' => a = (q, b) ∧ s' = s ∧ r' = r ∧ w' = []
def PkA (PC : Con) (s : Sto) (p q : List PV) (b : Bool) (r : List Nat) : Prop := (peekA p).wp PC s fun a s' r' w' => a = (q, b) ∧ s' = s ∧ r' = r ∧ w' = []
theorem pk_full (hs : s id = ⟨ver, some (.rowb k l)⟩) (hn : n = l.length) : Pk PC s (.ref id ver 0 n full) (.row false k l) true [id] := by
  unfold Pk peekS live
  subst hn
  simp [Eff.wp, hs]
theorem pk_ref (hs : s id = ⟨ver, some (.rowb k l)⟩) : Pk PC s (.ref id ver off n full) (.row false k ((l.drop off).take n)) true [id] := by
  unfold Pk peekS live
  simp [Eff.wp, hs]
theorem pk_s {p q : PV} (h : peekS p = .ret (q, false)) : Pk PC s p q false [] := by unfold Pk; rw [h]; exact ⟨rfl, rfl, rfl, rfl⟩
theorem pkL_nil : PkL PC s [] [] false [] := ⟨rfl, rfl, rfl, rfl⟩
theorem pkL_cons {p q : PV} {ps qs : List PV} {b1 b2 : Bool} {r1 r2 : List Nat} (h1 : Pk PC s p q b1 r1) (h2 : PkL PC s ps qs b2 r2) : PkL PC s (p :: ps) (q :: qs) (b1 || b2) (r1 ++ r2) := by
  refine bind_wp (Eff.wp_mono _ _ ?_ h1)
  rintro _ _ _ _ ⟨rfl, rfl, rfl, rfl⟩
  refine bind_wp (Eff.wp_mono _ _ ?_ h2)
  rintro _ _ _ _ ⟨rfl, rfl, rfl, rfl⟩
  exact ⟨rfl, rfl, by simp, rfl⟩
theorem pk1_s {q : PV} {b : Bool} {id ver off n : Nat} {full : Bool} (h : Pk PC s (.ref id ver off n full) q b r) : Pk1 PC s (.ref id ver off n full) q b r := h
theorem pk1_r {p q : PV} (h : peek1 p = .ret (q, false)) : Pk1 PC s p q false [] := by unfold Pk1; rw [h]; exact ⟨rfl, rfl, rfl, rfl⟩
theorem pk1_agg {cs qs : List PV} {b : Bool} (h : PkL PC s cs qs b r) : Pk1 PC s (.agg cs) (.agg qs) b r := by
  refine bind_wp (Eff.wp_mono _ _ ?_ h)
  rintro _ _ _ _ ⟨rfl, rfl, rfl, rfl⟩
  exact ⟨rfl, rfl, by simp, rfl⟩
theorem pkA_nil : PkA PC s [] [] false [] := ⟨rfl, rfl, rfl, rfl⟩
theorem pkA_r {ps qs : List PV} (h : peekA ps = .ret (qs, false)) : PkA PC s ps qs false [] := by unfold PkA; rw [h]; exact ⟨rfl, rfl, rfl, rfl⟩
theorem pkA_cons {p q : PV} {ps qs : List PV} {b1 b2 : Bool} {r1 r2 : List Nat} (h1 : Pk1 PC s p q b1 r1) (h2 : PkA PC s ps qs b2 r2) : PkA PC s (p :: ps) (q :: qs) (b1 || b2) (r1 ++ r2) := by
  refine bind_wp (Eff.wp_mono _ _ ?_ h1)
  rintro _ _ _ _ ⟨rfl, rfl, rfl, rfl⟩
  refine bind_wp (Eff.wp_mono _ _ ?_ h2)
  rintro _ _ _ _ ⟨rfl, rfl, rfl, rfl⟩
  exact ⟨rfl, rfl, by simp, rfl⟩
theorem w_call {f : FuncId} {ps qs : List PV} {pk : Bool} (hp : PkA PC s ps qs pk r) (hc : PC f qs [] v []) (h1 : (pk && fzR v) = false) (h2 : (cellsR v).any isOwn = false) (h3 : openR (resId o) v = .ret v2) : (eCall o f ps).wp PC s (Sd v2 s r []) := by
  refine bind_wp (Eff.wp_mono _ _ ?_ hp)
  rintro _ _ _ _ ⟨rfl, rfl, rfl, rfl⟩
  refine ⟨v, [], hc, ?_⟩
  simp only [h1, h2, Bool.false_eq_true, if_false, h3]
  exact ⟨rfl, rfl, by simp, rfl⟩
/-- What a call gives is opened: its rows are held from then on. -/
def Op (PC : Con) (s : Sto) (e : Eff PV) (v : PV) (s' : Sto) (r w : List Nat) : Prop := e.wp PC s (Sd v s' r w)
theorem w_callo {f : FuncId} {ps qs : List PV} {pk : Bool} {r2 w2 : List Nat} (hp : PkA PC s ps qs pk r) (hc : PC f qs [] v []) (h1 : (pk && fzR v) = false) (h2 : (cellsR v).any isOwn = true) (h3 : (openR (resId o) v).wp PC s (Sd v2 s' r2 w2)) : (eCall o f ps).wp PC s (Sd v2 s' (r ++ r2) w2) := by
  refine bind_wp (Eff.wp_mono _ _ ?_ hp)
  rintro _ _ _ _ ⟨rfl, rfl, rfl, rfl⟩
  refine ⟨v, [], hc, ?_⟩
  simp only [h1, h2, Bool.false_eq_true, if_false, if_true]
  refine .inl (Eff.wp_mono _ _ ?_ h3)
  rintro _ _ _ _ ⟨rfl, rfl, rfl, rfl⟩
  exact ⟨rfl, rfl, rfl, rfl⟩
theorem sd_rfl {r w : List Nat} : Sd v s r w v s r w := ⟨rfl, rfl, rfl, rfl⟩
theorem op_row {id : Nat} : (openR id (.row true k l)).wp PC s (Sd (.ref id ((s id).ver + 1) 0 l.length true) (upd s id ⟨(s id).ver + 1, some (.rowb k l)⟩) [id] [id]) := ⟨rfl, rfl, rfl, rfl⟩
/-! What goes out -/
theorem cl_ref (hs : s id = ⟨ver, some (.rowb k l)⟩) (hn : n = l.length) : closeS s (.ref id ver off n true) = some (.row true k l, [id], []) := by
  simp only [closeS, hs, if_true, hn, Bool.true_and, beq_self_eq_true]
theorem cl_part (hs : s id = ⟨ver, some (.rowb k l)⟩) : closeS s (.ref id ver off n false) = some (.row false k ((l.drop off).take n), [], [id]) := by
  simp only [closeS, hs, if_true, Bool.false_and, Bool.false_eq_true, if_false]
theorem clL_cons {p q : PV} {ps qs : List PV} {A B C D : List Nat} (h1 : closeS s p = some (q, A, B)) (h2 : closeL s ps = some (qs, C, D)) : closeL s (p :: ps) = some (q :: qs, A ++ C, B ++ D) := by
  simp only [closeL, h1, h2]
theorem cl1_agg {cs qs : List PV} {A B : List Nat} (h : closeL s cs = some (qs, A, B)) : close1 s (.agg cs) = some (.agg qs, A, B) := by simp only [close1, h]
theorem cl1_ref {q : PV} {A B : List Nat} (h : closeS s (.ref id ver off n full) = some (q, A, B)) : close1 s (.ref id ver off n full) = some (q, A, B) := h
theorem cl1L_cons {p q : PV} {ps qs : List PV} {A B C D : List Nat} (h1 : close1 s p = some (q, A, B)) (h2 : close1L s ps = some (qs, C, D)) : close1L s (p :: ps) = some (q :: qs, A ++ C, B ++ D) := by
  simp only [close1L, h1, h2]
end
/-! The same, from the operation on -/
section
variable {PC : Con} {o : Oper} {t : TypeId} {s s' : Sto} {v v2 : PV} {id ver off n j i : Nat} {full ag : Bool} {k : K} {l l2 : List (ty k)} {ik ik2 : IntKind} {a b c : Int} {r : List Nat} {tt : Nat → PV} {x1 x2 x3 : Operand} {fl : TypeId}
theorem o_quo (ho : o.op = .binOp .quo t x1 x2 fl) (ez1 : opd tt x1 = .v (.int ik a)) (ez2 : opd tt x2 = .v (.int ik b)) (hb : b ≠ 0) (h : ik.wrap (a.tdiv b) = c) : (eop o tt).wp PC s (Sd (.v (.int ik c)) s [] []) := by
  have e : eop o tt = eBin .quo t (opd tt x1) (opd tt x2) := by simp only [eop, eopR, ho]
  rw [e]; exact w_quo ez1 ez2 hb h
theorem o_quou (ho : o.op = .binOp .quo t x1 x2 fl) (ez1 : opd tt x1 = .v (.int ik a)) (ez2 : opd tt x2 = .v (.int ik b)) (hb : b ≠ 0) : (eop o tt).wp PC s (Sd (.v (.int ik (ik.wrap (a.tdiv b)))) s [] []) := by
  have e : eop o tt = eBin .quo t (opd tt x1) (opd tt x2) := by simp only [eop, eopR, ho]
  rw [e]; exact w_quou ez1 ez2 hb
theorem o_rem (ho : o.op = .binOp .rem t x1 x2 fl) (ez1 : opd tt x1 = .v (.int ik a)) (ez2 : opd tt x2 = .v (.int ik b)) (hb : b ≠ 0) : (eop o tt).wp PC s (Sd (.v (.int ik (a.tmod b))) s [] []) := by
  have e : eop o tt = eBin .rem t (opd tt x1) (opd tt x2) := by simp only [eop, eopR, ho]
  rw [e]; exact w_rem ez1 ez2 hb
theorem o_shl (ho : o.op = .binOp .shl t x1 x2 fl) (ez1 : opd tt x1 = .v (.int ik a)) (ez2 : opd tt x2 = .v (.int ik2 b)) (hb : ¬ b < 0) : (eop o tt).wp PC s (Sd (.v (.int ik (ik.wrap (a * 2 ^ (min b.toNat ik.bits))))) s [] []) := by
  have e : eop o tt = eBin .shl t (opd tt x1) (opd tt x2) := by simp only [eop, eopR, ho]
  rw [e]; exact w_shl ez1 ez2 hb
theorem o_shr (ho : o.op = .binOp .shr t x1 x2 fl) (ez1 : opd tt x1 = .v (.int ik a)) (ez2 : opd tt x2 = .v (.int ik2 b)) (hb : ¬ b < 0) : (eop o tt).wp PC s (Sd (.v (.int ik (a.fdiv (2 ^ (min b.toNat ik.bits))))) s [] []) := by
  have e : eop o tt = eBin .shr t (opd tt x1) (opd tt x2) := by simp only [eop, eopR, ho]
  rw [e]; exact w_shr ez1 ez2 hb
theorem o_sadd (ho : o.op = .binOp .add t x1 x2 fl) {p q : ByteArray} (ez1 : opd tt x1 = .v (.string p)) (ez2 : opd tt x2 = .v (.string q)) (h : p.size + q.size ≤ 9223372036854775807) : (eop o tt).wp PC s (Sd (.v (.string (p ++ q))) s [] []) := by
  have e : eop o tt = eBin .add t (opd tt x1) (opd tt x2) := by simp only [eop, eopR, ho]
  rw [e]; exact w_sadd ez1 ez2 h
theorem o_ixr (ho : o.op = .indexAddr t x1 x2) (ez1 : opd tt x1 = .row false k l) (ez2 : opd tt x2 = .v (.int ik a)) (hk : slK t = some k) (h : 0 ≤ a ∧ a < l.length) : (eop o tt).wp PC s (Sd (.eptr k l a.toNat 0) s [] []) := by
  have e : eop o tt = eIndexAddr t (opd tt x1) (opd tt x2) := by simp only [eop, eopR, ho]
  rw [e]; exact w_ixr ez1 ez2 hk h
theorem o_ixf (ho : o.op = .indexAddr t x1 x2) (ez1 : opd tt x1 = .ref id ver off n full) (ez2 : opd tt x2 = .v (.int ik a)) (hs : s id = ⟨ver, some (.rowb k l)⟩) (hk : slK t = some k) (h : 0 ≤ a ∧ a < n) : (eop o tt).wp PC s (Sd (.ptr id ver (off + a.toNat) 0) s [id] []) := by
  have e : eop o tt = eIndexAddr t (opd tt x1) (opd tt x2) := by simp only [eop, eopR, ho]
  rw [e]; exact w_ixf ez1 ez2 hs hk h
theorem o_ixf0 (ho : o.op = .indexAddr t x1 x2) (ez1 : opd tt x1 = .ref id ver 0 n full) (ez2 : opd tt x2 = .v (.int ik a)) (hs : s id = ⟨ver, some (.rowb k l)⟩) (hk : slK t = some k) (h : 0 ≤ a ∧ a < n) : (eop o tt).wp PC s (Sd (.ptr id ver a.toNat 0) s [id] []) := by
  have e : eop o tt = eIndexAddr t (opd tt x1) (opd tt x2) := by simp only [eop, eopR, ho]
  rw [e]; exact w_ixf0 ez1 ez2 hs hk h
theorem o_ixs (ho : o.op = .index t x1 x2) {p : ByteArray} {c : UInt8} (ez1 : opd tt x1 = .v (.string p)) (ez2 : opd tt x2 = .v (.int ik a)) (ht : isStrT t = true) (h0 : 0 ≤ a) (h : p[a.toNat]? = some c) : (eop o tt).wp PC s (Sd (.v (.int .u8 c.toNat)) s [] []) := by
  have e : eop o tt = eIndex t (opd tt x1) (opd tt x2) := by simp only [eop, eopR, ho]
  rw [e]; exact w_ixs ez1 ez2 ht h0 h
theorem o_lde (ho : o.op = .load t x1) {z : ty k} {m : Nat} (ez1 : opd tt x1 = .eptr k l i j) (hz : l[i]? = some z) (ht : tyB t = some (ag, m)) (hr : rangeV ag ((leaves z).map leafPV) j m = .ret v) : (eop o tt).wp PC s (Sd v s [] []) := by
  have e : eop o tt = eLoad t (opd tt x1) := by simp only [eop, eopR, ho]
  rw [e]; exact w_lde ez1 hz ht hr
theorem o_ldr (ho : o.op = .load t x1) {z : ty k} {m : Nat} (ez1 : opd tt x1 = .ptr id ver i j) (hs : s id = ⟨ver, some (.rowb k l)⟩) (hz : l[i]? = some z) (ht : tyB t = some (ag, m)) (hr : rangeV ag ((leaves z).map leafPV) j m = .ret v) : (eop o tt).wp PC s (Sd v s [id] []) := by
  have e : eop o tt = eLoad t (opd tt x1) := by simp only [eop, eopR, ho]
  rw [e]; exact w_ldr ez1 hs hz ht hr
theorem o_mk (ho : o.op = .makeSlice t x1 x2) (ez1 : opd tt x1 = .v (.int ik a)) (ez2 : opd tt x2 = .v (.int ik2 b)) (hk : slK t = some k) (h : 0 ≤ a ∧ a ≤ b) (hr : roomB k b.toNat) : (eop o tt).wp PC s (Sd (.ref (site o) ((s (site o)).ver + 1) 0 a.toNat true) (upd s (site o) ⟨(s (site o)).ver + 1, some (.rowb k (List.replicate a.toNat (zK k)))⟩) [site o] [site o]) := by
  have e : eop o tt = eMakeSlice o t (opd tt x1) (opd tt x2) := by simp only [eop, eopR, ho]
  rw [e]; exact w_mk ez1 ez2 hk h hr
theorem o_pt {e : Bool} (ho : o.op = .pick x1 x2 x3) (e1 : opd tt x1 = .v (.bool e)) (h : e = true) : (eop o tt).wp PC s (Sd (opd tt x2) s [] []) := by
  have e : eop o tt = ePick (opd tt x1) (opd tt x2) (opd tt x3) := by simp only [eop, eopR, ho]
  rw [e]; exact w_pt e1 h
theorem o_pf {e : Bool} (ho : o.op = .pick x1 x2 x3) (e1 : opd tt x1 = .v (.bool e)) (h : e = false) : (eop o tt).wp PC s (Sd (opd tt x3) s [] []) := by
  have e : eop o tt = ePick (opd tt x1) (opd tt x2) (opd tt x3) := by simp only [eop, eopR, ho]
  rw [e]; exact w_pf e1 h
theorem o_pb {e p q : Bool} (ho : o.op = .pick x1 x2 x3) (e1 : opd tt x1 = .v (.bool e)) (e2 : opd tt x2 = .v (.bool p)) (e3 : opd tt x3 = .v (.bool q)) : (eop o tt).wp PC s (Sd (.v (.bool (if e then p else q))) s [] []) := by
  have e : eop o tt = ePick (opd tt x1) (opd tt x2) (opd tt x3) := by simp only [eop, eopR, ho]
  rw [e]; exact w_pb e1 e2 e3
theorem o_pi {e : Bool} (ho : o.op = .pick x1 x2 x3) (e1 : opd tt x1 = .v (.bool e)) (e2 : opd tt x2 = .v (.int ik a)) (e3 : opd tt x3 = .v (.int ik b)) : (eop o tt).wp PC s (Sd (.v (.int ik (if e then a else b))) s [] []) := by
  have e : eop o tt = ePick (opd tt x1) (opd tt x2) (opd tt x3) := by simp only [eop, eopR, ho]
  rw [e]; exact w_pi e1 e2 e3
theorem o_psx {e : Bool} {p q : ByteArray} (ho : o.op = .pick x1 x2 x3) (e1 : opd tt x1 = .v (.bool e)) (e2 : opd tt x2 = .v (.string p)) (e3 : opd tt x3 = .v (.string q)) : (eop o tt).wp PC s (Sd (.v (.string (if e then p else q))) s [] []) := by
  have e : eop o tt = ePick (opd tt x1) (opd tt x2) (opd tt x3) := by simp only [eop, eopR, ho]
  rw [e]; exact w_ps e1 e2 e3
theorem o_sls {lo hi : Option Operand} {p : ByteArray} {m q : Nat} (ho : o.op = .slice t x1 lo hi none) (e1 : opd tt x1 = .v (.string p)) (ht : isStrT t = true) (hb : boundsE p.size (lo.map (opd tt)) (hi.map (opd tt)) = some (m, q)) : (eop o tt).wp PC s (Sd (.v (.string (p.extract m q))) s [] []) := by
  have e : eop o tt = eSlice t (opd tt x1) (lo.map (opd tt)) (hi.map (opd tt)) := by simp only [eop, eopR, ho]
  rw [e]; exact w_sls e1 ht hb
theorem o_slr {lo hi : Option Operand} {m q : Nat} (ho : o.op = .slice t x1 lo hi none) (e1 : opd tt x1 = .row false k l) (hk : slK t = some k) (hb : boundsE l.length (lo.map (opd tt)) (hi.map (opd tt)) = some (m, q)) : (eop o tt).wp PC s (Sd (.row false k ((l.take q).drop m)) s [] []) := by
  have e : eop o tt = eSlice t (opd tt x1) (lo.map (opd tt)) (hi.map (opd tt)) := by simp only [eop, eopR, ho]
  rw [e]; exact w_slr e1 hk hb
theorem o_slf {lo hi : Option Operand} {m q : Nat} (ho : o.op = .slice t x1 lo hi none) (e1 : opd tt x1 = .ref id ver off n full) (hs : s id = ⟨ver, some (.rowb k l)⟩) (hk : slK t = some k) (hb : boundsE n (lo.map (opd tt)) (hi.map (opd tt)) = some (m, q)) : (eop o tt).wp PC s (Sd (.ref id ver (off + m) (q - m) (full && (lo.map (opd tt)).isNone && (hi.map (opd tt)).isNone)) s [id] []) := by
  have e : eop o tt = eSlice t (opd tt x1) (lo.map (opd tt)) (hi.map (opd tt)) := by simp only [eop, eopR, ho]
  rw [e]; exact w_slf e1 hs hk hb
theorem o_slf0 {lo hi : Option Operand} {m q : Nat} (ho : o.op = .slice t x1 lo hi none) (e1 : opd tt x1 = .ref id ver 0 n full) (hs : s id = ⟨ver, some (.rowb k l)⟩) (hk : slK t = some k) (hb : boundsE n (lo.map (opd tt)) (hi.map (opd tt)) = some (m, q)) : (eop o tt).wp PC s (Sd (.ref id ver m (q - m) (full && (lo.map (opd tt)).isNone && (hi.map (opd tt)).isNone)) s [id] []) := by
  have e : eop o tt = eSlice t (opd tt x1) (lo.map (opd tt)) (hi.map (opd tt)) := by simp only [eop, eopR, ho]
  rw [e]; exact w_slf0 e1 hs hk hb
theorem o_stb {m : Nat} {cs : List PV} (ho : o.op = .store t x1 x2) (e1 : opd tt x1 = .ptr id ver i j) (ht : tyB t = some (ag, m)) (hc : (cellsP (opd tt x2)).length = m ∧ (cellsP (opd tt x2)).all storable = true) (hs : s id = ⟨ver, some (.box cs)⟩) (hj : j + m ≤ cs.length) : (eop o tt).wp PC s (Sd .un (upd s id ⟨ver, some (.box (splice cs j (cellsP (opd tt x2))))⟩) [id] [id]) := by
  have e : eop o tt = eStore t (opd tt x1) (opd tt x2) := by simp only [eop, eopR, ho]
  rw [e]; exact w_stb e1 ht hc hs hj
theorem o_str {m : Nat} {la : List LeafI} {z y : ty k} (ho : o.op = .store t x1 x2) (e1 : opd tt x1 = .ptr id ver i j) (ht : tyB t = some (ag, m)) (hc : (cellsP (opd tt x2)).length = m ∧ (cellsP (opd tt x2)).all storable = true) (hs : s id = ⟨ver, some (.rowb k l)⟩) (ha : settles (cellsP (opd tt x2)) = .ret la) (hz : l[i]? = some z) (hj : j + m ≤ size k) (hy : ofLeaves k (splice ((leaves z).map leafIn) j la) = some y) :
    (eop o tt).wp PC s (Sd .un (upd s id ⟨ver, some (.rowb k (l.set i y))⟩) [id, id] [id]) := by
  have e : eop o tt = eStore t (opd tt x1) (opd tt x2) := by simp only [eop, eopR, ho]
  rw [e]; exact w_str e1 ht hc hs ha hz hj hy
theorem o_bs {m : Nat} {parts : Array (Nat × Operand)} (l : List (ty k)) (ho : o.op = .buildSlice t m parts) (hk : slK t = some k) (hm : (m == 0) = false) (hz : m * size k ≤ 16777216) (he : setsE k (List.replicate m (zK k)) (parts.toList.map fun x => (x.1, opd tt x.2)) = .ret l) : (eop o tt).wp PC s (Sd (.ref (site o) ((s (site o)).ver + 1) 0 l.length true) (upd s (site o) ⟨(s (site o)).ver + 1, some (.rowb k l)⟩) [site o] [site o]) := by
  have e : eop o tt = eBuildSlice o t m (parts.toList.map fun x => (x.1, opd tt x.2)) := by simp only [eop, eopR, ho]
  rw [e]; exact w_bs l hk hm hz he
theorem o_bs0 (ho : o.op = .buildSlice t 0 #[]) (hk : slK t = some k) : (eop o tt).wp PC s (Sd (.ref (site o) ((s (site o)).ver + 1) 0 0 true) (upd s (site o) ⟨(s (site o)).ver + 1, some (.rowb k [])⟩) [site o] [site o]) := by
  have e : eop o tt = eBuildSlice o t 0 [] := by simp only [eop, eopR, ho]; rfl
  rw [e]; exact w_bs0 rfl rfl hk
theorem o_tos {sd dd : TypeId} {l : List (ty .u8)} (ho : o.op = .convert sd dd x1) (hc : cvT sd dd = some .toStr) (he : El PC s .u8 (opd tt x1) l r) : (eop o tt).wp PC s (Sd (.v (.string ⟨l.toArray⟩)) s r []) := by
  have e : eop o tt = eConv o sd dd (opd tt x1) := by simp only [eop, eopR, ho]
  rw [e]; exact w_tos hc he
theorem o_apn {cl : Call} (ho : o.op = .call cl) (hb : cl.callee = .builtin .append) (ha : cl.args.toList = [x1, x2]) (hty : cl.argTypes.toList = [t, t]) (e1 : opd tt x1 = .nil) (hk : slK t = some k) (he : El PC s k (opd tt x2) l2 r) (hr : roomB k l2.length) : (eop o tt).wp PC s (Sd (.ref (site o) ((s (site o)).ver + 1) 0 l2.length true) (upd s (site o) ⟨(s (site o)).ver + 1, some (.rowb k l2)⟩) (r ++ [site o]) [site o]) := by
  have e : eop o tt = eAppend o t (opd tt x1) (opd tt x2) := by simp only [eop, eopR, ho, eCalls, hb, ha, hty, if_true]
  rw [e]; exact w_apn e1 hk he hr
theorem o_ap {cl : Call} (ho : o.op = .call cl) (hb : cl.callee = .builtin .append) (ha : cl.args.toList = [x1, x2]) (hty : cl.argTypes.toList = [t, t]) (e1 : opd tt x1 = .ref id ver off n true) (hk : slK t = some k) (he : El PC s k (opd tt x2) l2 r) (hs : s id = ⟨ver, some (.rowb k l)⟩) (hn : n = l.length) (hr : roomB k (l ++ l2).length) : (eop o tt).wp PC s (Sd (.ref id (ver + 1) 0 (l ++ l2).length true) (upd s id ⟨ver + 1, some (.rowb k (l ++ l2))⟩) (r ++ [id]) [id]) := by
  have e : eop o tt = eAppend o t (opd tt x1) (opd tt x2) := by simp only [eop, eopR, ho, eCalls, hb, ha, hty, if_true]
  rw [e]; exact w_ap e1 hk he hs hn hr
theorem o_call {cl : Call} {f : FuncId} {as : List PV} {qs : List PV} {pk : Bool} (ho : o.op = .call cl) (hb : cl.callee = .value (.func f)) (ha : nilA (cl.args.toList.map (opd tt)) cl.argTypes.toList = as) (hp : PkA PC s as qs pk r) (hc : PC f qs [] v []) (h1 : (pk && fzR v) = false) (h2 : (cellsR v).any isOwn = false) (h3 : openR (resId o) v = .ret v2) : (eop o tt).wp PC s (Sd v2 s r []) := by
  have e : eop o tt = .or (eCall o f as) (eCall o f (cl.args.toList.map (opd tt))) := by simp only [eop, eopR, ho, eCalls, hb, ha]
  rw [e]; exact .inl <| w_call hp hc h1 h2 h3
theorem o_callo {cl : Call} {f : FuncId} {as : List PV} {qs : List PV} {pk : Bool} {r2 w2 : List Nat} (ho : o.op = .call cl) (hb : cl.callee = .value (.func f)) (ha : nilA (cl.args.toList.map (opd tt)) cl.argTypes.toList = as) (hp : PkA PC s as qs pk r) (hc : PC f qs [] v []) (h1 : (pk && fzR v) = false) (h2 : (cellsR v).any isOwn = true) (h3 : (openR (resId o) v).wp PC s (Sd v2 s' r2 w2)) : (eop o tt).wp PC s (Sd v2 s' (r ++ r2) w2) := by
  have e : eop o tt = .or (eCall o f as) (eCall o f (cl.args.toList.map (opd tt))) := by simp only [eop, eopR, ho, eCalls, hb, ha]
  rw [e]; exact .inl <| w_callo hp hc h1 h2 h3
theorem o_calln {cl : Call} {f : FuncId} {as : List PV} {qs : List PV} {pk : Bool} (ho : o.op = .call cl) (hb : cl.callee = .value (.func f)) (ha : cl.args.toList.map (opd tt) = as) (hp : PkA PC s as qs pk r) (hc : PC f qs [] v []) (h1 : (pk && fzR v) = false) (h2 : (cellsR v).any isOwn = false) (h3 : openR (resId o) v = .ret v2) : (eop o tt).wp PC s (Sd v2 s r []) := by
  have e : eop o tt = .or (eCall o f (nilA (cl.args.toList.map (opd tt)) cl.argTypes.toList)) (eCall o f as) := by simp only [eop, eopR, ho, eCalls, hb, ha]
  rw [e]; exact .inr <| w_call hp hc h1 h2 h3
theorem o_callon {cl : Call} {f : FuncId} {as : List PV} {qs : List PV} {pk : Bool} {r2 w2 : List Nat} (ho : o.op = .call cl) (hb : cl.callee = .value (.func f)) (ha : cl.args.toList.map (opd tt) = as) (hp : PkA PC s as qs pk r) (hc : PC f qs [] v []) (h1 : (pk && fzR v) = false) (h2 : (cellsR v).any isOwn = true) (h3 : (openR (resId o) v).wp PC s (Sd v2 s' r2 w2)) : (eop o tt).wp PC s (Sd v2 s' (r ++ r2) w2) := by
  have e : eop o tt = .or (eCall o f (nilA (cl.args.toList.map (opd tt)) cl.argTypes.toList)) (eCall o f as) := by simp only [eop, eopR, ho, eCalls, hb, ha]
  rw [e]; exact .inr <| w_callo hp hc h1 h2 h3
end
section
variable {P : Program} {X : Ctx} {nt : Nat} {Q : Exit → Env → Prop} {c : Code} {t : Nat → PV} {s : Sto} {I : Env → Prop}
theorem upd_self {α : Type} {f : Nat → α} {i : Nat} {a : α} (h : f i = a) : upd f i a = f := by
  funext j
  unfold upd
  split
  · rename_i e; rw [e, h]
  · rfl
theorem XW.st (d : Nat) {v : PV} (h : t d = v) (hq : XW P X nt c ⟨upd t d v, s⟩ Q) : XW P X nt c ⟨t, s⟩ Q := by rw [upd_self h] at hq; exact hq
theorem XW.ss (d : Nat) {e : Ent} (h : s d = e) (hq : XW P X nt c ⟨t, upd s d e⟩ Q) : XW P X nt c ⟨t, s⟩ Q := by rw [upd_self h] at hq; exact hq
end
open Go.RowKit
section
variable {P : Program} {X : Ctx} {nt : Nat} {Q : Exit → Env → Prop} {ε : Env} {c : Code} {a : Act} {w : World}
theorem RefC.settled {β : Nat → Option (Nat × Nat)} {N : Nat → List Nat} {tm : Array Value} (hst : St X ε w tm β N) {id ver off n : Nat} {full : Bool} {u : Value} {k : K} {l : List (ty k)} (hv : RefC w β ε.s id ver off n full u) (hid : ε.s id = ⟨ver, some (.rowb k l)⟩) : Row (Fz X w N (upd ε.s id ⟨ver, none⟩)) w k u ((l.drop off).take n) := by
  have hbk : (ε.s id).blk = some (.rowb k l) := by rw [hid]
  refine RefC.view hst hv hid (fun b hb => ?_) fun b hbN => ?_
  · exact ⟨hb.1, fun ⟨i, blk, h1, h3⟩ => hb.2.1 ⟨i, blk, (by
      by_cases hi : i = id
      · subst hi
        have h1 : (upd ε.s i ⟨ver, none⟩ i).blk = some blk := h1
        rw [upd_same] at h1; cases h1
      · have h1 : (upd ε.s id ⟨ver, none⟩ i).blk = some blk := h1
        rw [upd_ne _ _ hi] at h1; exact h1), h3⟩, hb.2.2⟩
  · refine ⟨hst.lt id _ hbk b hbN, fun ⟨i, blk, h1, h3⟩ => ?_, .inr (hst.new id _ hbk b hbN)⟩
    by_cases hi : i = id
    · subst hi
      have h1 : (upd ε.s i ⟨ver, none⟩ i).blk = some blk := h1
      rw [upd_same] at h1; cases h1
    · have h1 : (upd ε.s id ⟨ver, none⟩ i).blk = some blk := h1
      rw [upd_ne _ _ hi] at h1; exact hst.disj i id _ _ h1 hbk hi b h3 hbN
/-- Another word for what a box's cell holds. -/
theorem St.cell {β : Nat → Option (Nat × Nat)} {N : Nat → List Nat} {tm : Array Value} (h : St X ε w tm β N) {id ver j : Nat} {cs : List PV} {p p' : PV} (hid : ε.s id = ⟨ver, some (.box cs)⟩) (hj : cs[j]? = some p)
    (hp : ∀ b off cur E u, β id = some (b, off) → RowAt w b cur E → cur[off + j]? = some u → ValS (Fz X w N ε.s) w β ε.s p' u) : St X ⟨ε.t, upd ε.s id ⟨ver, some (.box (cs.set j p'))⟩⟩ w tm β N := by
  have hblk0 : (ε.s id).blk = some (.box cs) := by rw [hid]
  refine (St.step (ε := ε) (w' := w) h (upd ε.s id ⟨ver, some (.box (cs.set j p'))⟩) (· = id) (Nat.le_refl _) (fun x hx hc => rfl) (fun i hi => ⟨upd_ne _ _ hi, rfl, rfl⟩) ?_ ?_ ?_ ?_ ?_ ?_ ?_ h.frm h.env).2
  · rintro i rfl v o n f u ⟨k1, k2, k3⟩
    refine ⟨by rw [upd_same]; rw [hid] at k1; exact k1, k2, fun k l e => ?_⟩
    rw [upd_same] at e
    cases e
  · rintro i rfl v i' j' u ⟨k1, k2, k3⟩
    refine ⟨by rw [upd_same]; rw [hid] at k1; exact k1, k2, fun blk e => ?_⟩
    rw [upd_same] at e
    cases e
    exact k3 _ hid
  · rintro i blk rfl hbk T
    rw [upd_same] at hbk
    cases hbk
    obtain ⟨b, off, cur, E, q1, q2, q3, q4, q5⟩ := h.blk i _ hblk0
    refine ⟨b, off, cur, E, q1, q2, q3, by rw [List.length_set]; exact q4, fun m p2 hp2 => ?_⟩
    rw [List.getElem?_set] at hp2
    split at hp2
    · rename_i hjm
      subst hjm
      obtain ⟨u, hu, ho, hvu⟩ := q5 j p hj
      split at hp2
      · cases hp2; exact ⟨u, hu, ho, T.vs (hp b off cur E u q1 q3 hu)⟩
      · cases hp2
    · obtain ⟨u, hu, ho, hvu⟩ := q5 m p2 hp2
      exact ⟨u, hu, ho, T.vs hvu⟩
  · rintro i blk rfl hbk x hx
    exact .inl ⟨i, _, rfl, hblk0, hx⟩
  · rintro i blk rfl hbk
    exact h.nodup i _ hblk0
  · rintro i i' b1 b2 rfl rfl _ _ hne
    exact absurd rfl hne
  · rintro i q hq rfl
    obtain ⟨e1, cs', e2, e3⟩ := h.ext i q hq
    rw [hblk0] at e2
    cases e2
    exact ⟨e1, _, by rw [upd_same], by rw [List.length_set]; exact e3⟩
theorem box_cell {β : Nat → Option (Nat × Nat)} {N : Nat → List Nat} {tm : Array Value} (h : St X ε w tm β N) {id ver j : Nat} {cs : List PV} {p : PV} (hid : ε.s id = ⟨ver, some (.box cs)⟩) (hj : cs[j]? = some p) {b off : Nat} {cur : Array Value} {E : TypeId} {u : Value} (hb : β id = some (b, off)) (hr : RowAt w b cur E) (hu : cur[off + j]? = some u) : ValS (Fz X w N ε.s) w β ε.s p u := by
  obtain ⟨b', off', cur', E', q1, q2, q3, q4, q5⟩ := h.blk id _ (by rw [hid])
  rw [hb] at q1; cases q1
  obtain ⟨u', hu', ho, hv⟩ := q5 j p hj
  have ec : cur' = cur := by
    obtain ⟨f1, g1, _⟩ := q3
    obtain ⟨f2, g2, _⟩ := hr
    rw [g1] at g2; cases g2; rfl
  subst ec
  rw [hu] at hu'; cases hu'
  exact hv
/-- A nil slice in a box is an empty list. -/
theorem Gh.cellNil {id ver : Nat} {cs : List PV} (j : Nat) (k : K) (hid : ε.s id = ⟨ver, some (.box cs)⟩) (hj : cs[j]? = some .nil) : Gh X nt ε ⟨ε.t, upd ε.s id ⟨ver, some (.box (cs.set j (.row false k [])))⟩⟩ := fun a w hg => by
  obtain ⟨hs, hd, β, N, hst⟩ := hg
  refine ⟨hs, hd, β, N, hst.cell hid hj fun b off cur E u hb hr hu => ?_⟩
  have hv := box_cell hst hid hj hb hr hu
  have e : u = .slice none 0 0 := hv
  subst e
  exact ⟨rfl, Row.nil⟩
/-- A view in a box is let go: from then on a settled list. -/
theorem Gh.cellSettle {id ver bid bver off n : Nat} {full : Bool} {k : K} {l : List (ty k)} {cs : List PV} (j : Nat) (hb : ε.s bid = ⟨bver, some (.box cs)⟩) (hj : cs[j]? = some (.ref id ver off n full)) (hid : ε.s id = ⟨ver, some (.rowb k l)⟩) : Gh X nt ε ⟨ε.t, upd (upd ε.s id ⟨ver, none⟩) bid ⟨bver, some (.box (cs.set j (.row false k ((l.drop off).take n))))⟩⟩ := fun a w hg => by
  obtain ⟨hs, hd, β, N, hst⟩ := hg
  obtain ⟨T, hst'⟩ := hst.drop hid
  have hne : bid ≠ id := by rintro rfl; rw [hb] at hid; cases hid
  have hb' : (⟨ε.t, upd ε.s id ⟨ver, none⟩⟩ : Env).s bid = ⟨bver, some (.box cs)⟩ := by
    show upd ε.s id _ bid = _
    rw [upd_ne _ _ hne]; exact hb
  refine ⟨hs, hd, β, N, hst'.cell hb' hj fun b off2 cur E u h1 h2 h3 => ?_⟩
  exact ⟨rfl, RefC.settled hst (box_cell hst hb hj h1 h2 h3) hid⟩
theorem All2.set {α β : Type} {R : α → β → Prop} {a' : α} : ∀ {as : List α} {bs : List β} {j : Nat}, All2 R as bs → (∀ b, bs[j]? = some b → R a' b) → All2 R (as.set j a') bs
  | [], [], _, _, _ => trivial
  | a :: as, b :: bs, 0, ⟨_, h2⟩, h => ⟨h b rfl, h2⟩
  | a :: as, b :: bs, j + 1, ⟨h1, h2⟩, h => ⟨h1, All2.set h2 fun b hb => h b (by simpa using hb)⟩
/-- A nil slice in a struct is an empty list. -/
theorem Gh.aggNil {cs : List PV} (t j : Nat) (k : K) (ht : ε.t t = .agg cs) (hj : cs[j]? = some .nil) : Gh X nt ε ⟨upd ε.t t (.agg (cs.set j (.row false k []))), ε.s⟩ := fun a w hg => by
  obtain ⟨hs, hd, β, N, hst⟩ := hg
  refine ⟨hs, hd, β, N, St.slot hst t _ fun u hu => ?_⟩
  have hv := hst.tmp t u hu
  rw [ht] at hv
  obtain ⟨us, e, h⟩ := hv
  refine ⟨us, e, All2.set h fun b hb => ?_⟩
  obtain ⟨b', hb', hv⟩ := h.get j _ hj
  rw [hb] at hb'; cases hb'
  have e : b = .slice none 0 0 := hv
  subst e
  exact ⟨rfl, Row.nil⟩
/-- A view in a struct is let go. -/
theorem Gh.aggSettle {cs : List PV} {id ver off n : Nat} {full : Bool} {k : K} {l : List (ty k)} (t j : Nat) (ht : ε.t t = .agg cs) (hj : cs[j]? = some (.ref id ver off n full)) (hid : ε.s id = ⟨ver, some (.rowb k l)⟩) : Gh X nt ε ⟨upd ε.t t (.agg (cs.set j (.row false k ((l.drop off).take n)))), upd ε.s id ⟨ver, none⟩⟩ := fun a w hg => by
  obtain ⟨hs, hd, β, N, hst⟩ := hg
  obtain ⟨T, hst'⟩ := hst.drop hid
  refine ⟨hs, hd, β, N, St.slot hst' t _ fun u hu => ?_⟩
  have hv := hst.tmp t u hu
  have hv' := hst'.tmp t u hu
  have hv' : ValC (Fz X w N (upd ε.s id ⟨ver, none⟩)) w β (upd ε.s id ⟨ver, none⟩) (ε.t t) u := hv'
  rw [ht] at hv hv'
  obtain ⟨us, e, h⟩ := hv
  obtain ⟨us', e', h'⟩ := hv'
  rw [e] at e'; cases e'
  refine ⟨us, e, All2.set h' fun b hb => ?_⟩
  obtain ⟨b', hb', hv⟩ := h.get j _ hj
  rw [hb] at hb'; cases hb'
  exact ⟨rfl, RefC.settled hst hv hid⟩
end
section
variable {PC : Con} {o : Oper} {t : TypeId} {s s' : Sto} {tt : Nat → PV} {x1 : Operand}
theorem o_box (ho : o.op = .box t x1) (hs : (cellsP (opd tt x1)).all storable = true) : (eop o tt).wp PC s (Sd (.ptr (site o) ((s (site o)).ver + 1) 0 0) (upd s (site o) ⟨(s (site o)).ver + 1, some (.box (cellsP (opd tt x1)))⟩) [site o] [site o]) := by
  have e : eop o tt = eBox o (opd tt x1) := by simp only [eop, eopR, ho]
  rw [e]; unfold eBox; rw [if_pos hs]; exact w_new rfl
theorem o_alloc {zs : List Leaf} (ho : o.op = .alloc t) (hz : zeroT t = some zs) : (eop o tt).wp PC s (Sd (.ptr (site o) ((s (site o)).ver + 1) 0 0) (upd s (site o) ⟨(s (site o)).ver + 1, some (.box (zs.map zeroPV))⟩) [site o] [site o]) := by
  have e : eop o tt = eAlloc o t := by simp only [eop, eopR, ho]
  rw [e]; unfold eAlloc; simp only [hz]; exact w_new rfl
theorem o_tob {sd dd : TypeId} {p : ByteArray} (ho : o.op = .convert sd dd x1) (hc : cvT sd dd = some .toBytes) (e1 : opd tt x1 = .v (.string p)) : (eop o tt).wp PC s (Sd (.ref (site o) ((s (site o)).ver + 1) 0 p.data.toList.length true) (upd s (site o) ⟨(s (site o)).ver + 1, some (.rowb .u8 p.data.toList)⟩) [site o] [site o]) := by
  have e : eop o tt = eConv o sd dd (.v (.string p)) := by simp only [eop, eopR, ho, e1]
  rw [e]; unfold eConv; simp only [hc]; unfold eToBytes; simp only [hc]; exact w_new rfl
theorem rL_cons {nt : Nat} {ε : Env} {x : ResultVar} {xs : List ResultVar} {v : PV} {vs : List PV} (h1 : res1 nt ε x = some v) (h2 : resL nt ε xs = some vs) : resL nt ε (x :: xs) = some (v :: vs) := by simp only [resL, h1, h2]
theorem r1_cell {nt : Nat} {ε : Env} {p : Nat} {t : TypeId} {ag : Bool} {n id ver i j : Nat} {cs : List PV} {v : PV} (hp : p < nt) (ht : tyB t = some (ag, n)) (h1 : ε.t p = .ptr id ver i j) (h2 : ε.s id = ⟨ver, some (.box cs)⟩) (h3 : cellsAt ag cs j n = some v) : res1 nt ε (.cell p t) = some v := by
  simp only [res1, if_pos hp, ht, h1, h2, if_true, h3]
end
open Go.RowKit
/-! ### Maps in printed functions -/
/-- What a map literal holds under a key. -/
def mget {κ ν : Type} [DecidableEq κ] (z : ν) : List (κ × ν) → κ → ν
  | [], _ => z
  | (a, v) :: l, k => if k = a then v else mget z l k
theorem ba_beq (a b : ByteArray) : (a == b) = decide (a = b) := by
  cases a; cases b
  show ByteArray.beq _ _ = _
  unfold ByteArray.beq
  rw [Bool.eq_iff_iff]
  simp
section
variable {PC : Con} {o : Oper} {t : TypeId} {s s' : Sto} {tt : Nat → PV} {x1 x2 x3 : Operand} {id ver i cl : Nat} {mk : MK} {z kv vv : Value} {es : Array MapEntry}
theorem o_mkm (ho : o.op = .makeMap t none) : (eop o tt).wp PC s (Sd (.ptr (site o) ((s (site o)).ver + 1) 0 0) (upd s (site o) ⟨(s (site o)).ver + 1, some (.objb (.map #[] 0))⟩) [site o] [site o]) := by
  have e : eop o tt = eMakeMap o := by simp only [eop, eopR, ho]
  rw [e]; exact w_new rfl
theorem o_ins (ho : o.op = .insert t x1 x2 x3) (hm : mapT t = some (mk, z)) (e1 : opd tt x1 = .ptr id ver i 0) (e2 : opd tt x2 = .v kv) (e3 : opd tt x3 = .v vv) (hk : keyB mk kv = true) (hs : s id = ⟨ver, some (.objb (.map es cl))⟩) (hf : Instr.findNow mk.td kv es.toList 0 = some none) :
    (eop o tt).wp PC s (Sd .un (upd s id ⟨ver, some (.objb (.map (es.push { key := kv, val := vv, born := cl }) (cl + 1)))⟩) [id] [id]) := by
  have e : eop o tt = eInsert t (opd tt x1) (opd tt x2) (opd tt x3) := by simp only [eop, eopR, ho]
  rw [e]; unfold eInsert; simp only [hm, e1, e2, e3, if_pos hk]
  unfold live
  simp only [Eff.wp, hs, if_true]
  exact ⟨hf, rfl, rfl, rfl, rfl⟩
theorem find_SI {k : ByteArray} : ∀ {es : List MapEntry} {l : List (ByteArray × Int)} {j : Nat}, es.map (fun e => (e.key, e.val)) = l.map (fun p => (Value.string p.1, Value.int .i64 p.2)) → (Instr.findNow .string (.string k) es j = some none ∧ mget 0 l k = 0) ∨ ∃ i p, p ∈ l ∧ Instr.findNow .string (.string k) es j = some (some (i, .int .i64 p.2)) ∧ mget 0 l k = p.2
  | [], [], j, _ => .inl ⟨rfl, rfl⟩
  | e :: es, p :: l, j, h => by
    simp only [List.map_cons, List.cons.injEq, Prod.mk.injEq] at h
    obtain ⟨⟨h1, h2⟩, h3⟩ := h
    unfold Instr.findNow mget
    rw [h1]
    simp only [Instr.sameNow]
    by_cases hk : k = p.1
    · subst hk
      right
      refine ⟨j, p, by simp, ?_, by simp⟩
      simp [h2, ba_beq]
    · have hb : (k == p.1) = false := by rw [ba_beq]; simpa using hk
      simp only [hb, if_neg hk]
      rcases find_SI (j := j + 1) h3 with h | ⟨i, q, hq, h⟩
      · exact .inl h
      · exact .inr ⟨i, q, List.mem_cons_of_mem _ hq, h⟩
  | [], _ :: _, _, h => by simp at h
  | _ :: _, [], _, h => by simp at h
theorem find_IS {k : Int} : ∀ {es : List MapEntry} {l : List (Int × ByteArray)} {j : Nat}, es.map (fun e => (e.key, e.val)) = l.map (fun p => (Value.int .i64 p.1, Value.string p.2)) → (Instr.findNow (.int .i64) (.int .i64 k) es j = some none ∧ mget ByteArray.empty l k = ByteArray.empty) ∨ ∃ i p, p ∈ l ∧ Instr.findNow (.int .i64) (.int .i64 k) es j = some (some (i, .string p.2)) ∧ mget ByteArray.empty l k = p.2
  | [], [], j, _ => .inl ⟨rfl, rfl⟩
  | e :: es, p :: l, j, h => by
    simp only [List.map_cons, List.cons.injEq, Prod.mk.injEq] at h
    obtain ⟨⟨h1, h2⟩, h3⟩ := h
    unfold Instr.findNow mget
    rw [h1]
    simp only [Instr.sameNow, if_true]
    by_cases hk : k = p.1
    · subst hk
      right
      refine ⟨j, p, by simp, ?_, by simp⟩
      simp [h2]
    · have hb : (k == p.1) = false := by simpa using hk
      simp only [hb, if_neg hk]
      rcases find_IS (j := j + 1) h3 with h | ⟨i, q, hq, h⟩
      · exact .inl h
      · exact .inr ⟨i, q, List.mem_cons_of_mem _ hq, h⟩
  | [], _ :: _, _, h => by simp at h
  | _ :: _, [], _, h => by simp at h
theorem o_lkSI {k : ByteArray} (l : List (ByteArray × Int)) (ho : o.op = .lookup t x1 x2 false) (hm : mapT t = some (.s, .int .i64 0)) (e1 : opd tt x1 = .ptr id ver i 0) (e2 : opd tt x2 = .v (.string k)) (hs : s id = ⟨ver, some (.objb (.map es cl))⟩)
    (hl : es.toList.map (fun e => (e.key, e.val)) = l.map (fun p => (Value.string p.1, Value.int .i64 p.2))) (hw : (l.all fun p => IntKind.i64.wrap p.2 == p.2) = true) : (eop o tt).wp PC s (Sd (.v (.int .i64 (mget 0 l k))) s [id] []) := by
  have e : eop o tt = eLookup t (opd tt x1) (opd tt x2) := by simp only [eop, eopR, ho]
  rw [e]; unfold eLookup; simp only [hm, e1, e2, keyB, if_true]
  unfold live
  simp only [Eff.wp, hs, if_true]
  rcases find_SI (k := k) (j := 0) hl with ⟨h1, h2⟩ | ⟨j, p, hp, h1, h2⟩
  · have h1 : Instr.findNow MK.s.td (.string k) es.toList 0 = some none := h1
    rw [h1, h2]; exact ⟨rfl, rfl, rfl, rfl⟩
  · have h1 : Instr.findNow MK.s.td (.string k) es.toList 0 = some (some (j, .int .i64 p.2)) := h1
    rw [h1, h2]
    exact ⟨by have := List.all_eq_true.1 hw p hp; exact eq_of_beq this, rfl, rfl, rfl, rfl⟩
theorem o_lkIS {k : Int} (l : List (Int × ByteArray)) (ho : o.op = .lookup t x1 x2 false) (hm : mapT t = some (.i, .string ByteArray.empty)) (e1 : opd tt x1 = .ptr id ver i 0) (e2 : opd tt x2 = .v (.int .i64 k)) (hs : s id = ⟨ver, some (.objb (.map es cl))⟩)
    (hl : es.toList.map (fun e => (e.key, e.val)) = l.map (fun p => (Value.int .i64 p.1, Value.string p.2))) (hw : (l.all fun p => decide (p.2.size ≤ 9223372036854775807)) = true) : (eop o tt).wp PC s (Sd (.v (.string (mget ByteArray.empty l k))) s [id] []) := by
  have e : eop o tt = eLookup t (opd tt x1) (opd tt x2) := by simp only [eop, eopR, ho]
  rw [e]; unfold eLookup; simp only [hm, e1, e2, keyB, if_true]
  unfold live
  simp only [Eff.wp, hs, if_true]
  rcases find_IS (k := k) (j := 0) hl with ⟨h1, h2⟩ | ⟨j, p, hp, h1, h2⟩
  · have h1 : Instr.findNow MK.i.td (.int .i64 k) es.toList 0 = some none := h1
    rw [h1, h2]; exact ⟨rfl, rfl, rfl, rfl⟩
  · have h1 : Instr.findNow MK.i.td (.int .i64 k) es.toList 0 = some (some (j, .string p.2)) := h1
    rw [h1, h2]
    exact ⟨by have := List.all_eq_true.1 hw p hp; show p.2.size ≤ _; exact of_decide_eq_true this, rfl, rfl, rfl, rfl⟩
theorem cl_obj {ob : Obj} {i : Nat} (hs : s id = ⟨ver, some (.objb ob)⟩) : closeS s (.ptr id ver i 0) = some (.obj ob, [id], []) := by
  simp only [closeS, hs, and_self, if_true]
theorem cl1_ptr {q : PV} {A B : List Nat} {i j : Nat} (h : closeS s (.ptr id ver i j) = some (q, A, B)) : close1 s (.ptr id ver i j) = some (q, A, B) := h
end
open Go.RowKit
/-! ### Contracts of other makes, as contracts over pure values -/
/-- What a call leaves: nothing that was there has turned, and what comes out owns new blocks. -/
def LibR (w : World) (S : Nat → Prop) (r : PV) (e : Ending) (w' : World) : Prop := ∃ u L, e = .returned u ∧ Below w.heap.size w w' ∧ L.Nodup ∧ (∀ b ∈ L, w.heap.size ≤ b ∧ b < w'.heap.size) ∧
  OwnV (fun b => (S b ∨ w.heap.size ≤ b) ∧ b < w'.heap.size ∧ b ∉ L) w' (fun _ => none) (fun _ => ⟨0, none⟩) r u L
theorem PCalls.lib {P : Program} {G : Nat} {E : World → Prop} {f : FuncId} {fn : Func} {c : Code} (hf : P.funcs[f]? = some fn) (hname : (fn.name == "runtime.NumGoroutine") = false) (hb : fn.body = some c) {args : List PV} {r : PV} (hown : args.all noOwn = true)
    (h : ∀ (w : World) (S : Nat → Prop) (us : List Value), E w → (∀ b, S b → b < w.heap.size) → All2 (Val1 S w (fun _ => none) (fun _ => ⟨0, none⟩)) args us → Calls P f us.toArray w (LibR w S r)) : PCalls P G E f args [] r [] := by
  refine ⟨rfl, fun w S us locs La Le hG hE hl1 hl2 hnd hF0 hS hargs hext => ?_⟩
  obtain rfl : locs = [] := List.eq_nil_of_length_eq_zero hl1
  obtain rfl : Le = [] := List.eq_nil_of_length_eq_zero hl2
  obtain ⟨rfl, hall⟩ := args_frozen (β' := fun _ => none) (σ' := fun _ => ⟨0, none⟩) (S' := S) hown hargs (fun b hb => hb)
  refine Arrive.of hf hname hb (Calls.mono (h w S us hE (fun b hb => (hS b hb).1) hall) ?_)
  rintro e w' ⟨u, L, rfl, hbl, hn, hL, ho⟩
  refine ⟨u, L, [], rfl, rfl, by simpa using hn, ?_, ?_, fun j p cs L hj => by simp at hj, ?_⟩
  · simp only [List.flatten_nil, List.append_nil]
    exact fun b hb => ⟨.inr (hL b hb).1, (hL b hb).2⟩
  · simp only [List.map_nil, List.nil_append, List.flatten_nil, List.append_nil]
    refine OwnV.up ho fun b hb => ⟨?_, hb.2⟩
    rcases hb.1 with h | h
    · exact .inl h
    · exact .inr (.inr h)
  · obtain ⟨h1, h2, h3, h4, h5⟩ := hbl
    exact ⟨h1, h2, h3, h4, fun b hb _ => h5 b hb, fun j b off n hj => by simp at hj⟩
theorem LibR.v {w : World} {S : Nat → Prop} {x : Value} {e : Ending} {w' : World} (he : e = .returned x) (hb : Below w.heap.size w w') (hx : wfV x) : LibR w S (.v x) e w' :=
  ⟨x, [], he, hb, List.nodup_nil, by simp, rfl, rfl, hx⟩
/-- A new list of cells, as what comes out. -/
theorem LibR.own {w w' : World} {S : Nat → Prop} {k : K} {l : List (ty k)} {e : Ending} {u : Value} {L : List Nat} (he : e = .returned u) (hb : Below w.heap.size w w') (ho : Own (fun b => (S b ∨ w.heap.size ≤ b) ∧ b < w'.heap.size ∧ b ∉ L) w' k u l L) (hL : ∀ b ∈ L, w.heap.size ≤ b ∧ b < w'.heap.size) : LibR w S (.row true k l) e w' :=
  ⟨u, L, he, hb, ho.nodup, hL, ho⟩
/-- What a string argument is. -/
theorem arg_v {S : Nat → Prop} {w : World} {x : Value} {u : Value} (h : Val1 S w (fun _ => none) (fun _ => ⟨0, none⟩) (.v x) u) : u = x ∧ wfV x := h
open Go.RowKit
section
variable {P : Program} {PC : Con} {X : Ctx} {nt : Nat} {Q : Exit → Act → World → Prop} {ε : Env} {a : Act} {w : World} {o : Oper} {v : PV} {s' : Sto} {r wr : List Nat}
/-- An iterator goes on. -/
theorem turn_iter {β : Nat → Option (Nat × Nat)} {N : Nat → List Nat} {tm : Array Value} (h : St X ε w tm β N) {id ver b m mid mver since c0 c1 : Nat} {seen seen' : Array Nat} (hid : ε.s id = ⟨ver, some (.iterb mid mver since seen c0)⟩) (hβ : β id = some (b, 0)) (hm0 : w.heap[b]? = some (.mapIter (some m) since seen c0)) {w' : World} (hw : w' = { w with heap := w.heap.setIfInBounds b (.mapIter (some m) since seen' c1) }) :
    St X ⟨ε.t, upd ε.s id ⟨ver, some (.iterb mid mver since seen' c1)⟩⟩ w' tm β N := by
  have hblk0 : (ε.s id).blk = some (.iterb mid mver since seen c0) := by rw [hid]
  obtain ⟨b', m', q1, q2, q3, q4⟩ := h.blk id _ hblk0
  rw [hβ] at q1; cases q1
  rw [hm0] at q3; cases q3
  have hlt : b < w.heap.size := (Array.getElem?_eq_some_iff.1 hm0).1
  have hsz : w'.heap.size = w.heap.size := by rw [hw]; simp
  have hnew : w'.heap[b]? = some (.mapIter (some m) since seen' c1) := by rw [hw]; simp [hlt]
  have hold : ∀ x, x ≠ b → w'.heap[x]? = w.heap[x]? := fun x hx => by rw [hw]; show (w.heap.setIfInBounds b (.mapIter (some m) since seen' c1))[x]? = _; rw [Array.getElem?_setIfInBounds_ne (Ne.symm hx)]
  have hsame : ∀ x, x < w.heap.size → x ∉ N id → w'.heap[x]? = w.heap[x]? := fun x _ hx => hold x (fun e => hx (by rw [q2, e]; simp))
  refine (St.step (ε := ε) h (upd ε.s id ⟨ver, some (.iterb mid mver since seen' c1)⟩) (· = id) (by rw [hsz]; exact Nat.le_refl _) (fun x hx hc => hsame x hx (hc id _ rfl hblk0)) (fun i hi => ⟨upd_ne _ _ hi, rfl, rfl⟩) ?_ ?_ ?_ ?_ ?_ ?_ ?_ ?_ ?_).2
  · rintro i rfl v o n f u ⟨k1, k2, k3⟩
    refine ⟨by rw [upd_same]; rw [hid] at k1; exact k1, k2, fun k l e => ?_⟩
    rw [upd_same] at e
    cases e
  · rintro i rfl v i' j' u ⟨k1, k2, k3⟩
    refine ⟨by rw [upd_same]; rw [hid] at k1; exact k1, k2, fun blk e => ?_⟩
    rw [upd_same] at e
    cases e
    obtain ⟨b2, off, e1, e2⟩ := k3 _ hid
    rw [hβ] at e1; cases e1
    exact ⟨b, 0, hβ, fun hj => ⟨rfl, (e2 hj).2⟩⟩
  · rintro i blk rfl hbk T
    rw [upd_same] at hbk
    cases hbk
    exact ⟨b, m, hβ, q2, hnew, T.ptr q4⟩
  · rintro i blk rfl hbk x hx
    exact .inl ⟨i, _, rfl, hblk0, hx⟩
  · rintro i blk rfl hbk
    exact h.nodup i _ hblk0
  · rintro i i' b1 b2 rfl rfl _ _ hne
    exact absurd rfl hne
  · rintro i p hp rfl
    obtain ⟨e1, cs', e2, e3⟩ := h.ext i p hp
    rw [hblk0] at e2
    cases e2
  · refine Frm.turn h id _ hblk0 (by rw [hw]) (by rw [hw]) (by rw [hw]) (by rw [hsz]; exact Nat.le_refl _) hsame fun i b2 off2 n hi hn hm => ?_
    have hm' : b2 = b := by rw [q2] at hm; simpa using hm
    subst hm'
    obtain ⟨e1, cs', e2, e3⟩ := h.ext i _ hi
    by_cases hne : i = id
    · subst hne; rw [hblk0] at e2; cases e2
    · obtain ⟨b3, off3, _, _, p1, p2, _⟩ := h.blk i _ e2
      rw [e1] at p1
      cases p1
      exact absurd hm (h.disj i id _ _ e2 hblk0 hne b2 (by rw [p2]; simp))
  · exact X.cl _ _ h.env fun x hx => hold x (by
      rintro rfl
      have := h.new id _ hblk0 x (by rw [q2]; simp)
      rcases this with h1 | h1
      · have := X.hG x h1; omega
      · have := X.hw; omega)
end
section
variable {P : Program} {X : Ctx} {nt : Nat} {Q : Exit → Env → Prop} {G : Nat} {E : World → Prop}
/-- A step of a map's iterator, at the head of a region: it is over, or any entry that is left comes. -/
theorem XW.nextR {rid d iid iver i0 mid mver since c0 cl : Nat} {seen : Array Nat} {es : Array MapEntry} {x : Operand} {o : Oper} {l : List Oper} {t : Nat → PV} {s : Sto} (hF : Facts P) (hE : X.E = E) (hG : X.G = G) (hb : opsB nt (o :: l) = true) (ho : o.op = .next x false) (hgd : o.guard = none) (hd : o.dst = some d)
    (hx : opd t x = .ptr iid iver i0 0) (hi : s iid = ⟨iver, some (.iterb mid mver since seen c0)⟩) (hm : s mid = ⟨mver, some (.objb (.map es cl))⟩) (hold : ∀ e ∈ es.toList, e.born < since) (hsc : since ≤ c0) (hwf : ∀ e ∈ es.toList, wfV e.key ∧ wfV e.val)
    (hdone : (leftOf es seen).size = 0 → ROps (PCalls P G E) eop (o :: l).toArray l 1 ⟨upd t d (.tup [.v (.bool false)]), s⟩ fun _ ε' => Q .normal ε')
    (hnext : ∀ e ∈ (leftOf es seen).toList, ROps (PCalls P G E) eop (o :: l).toArray l 1 ⟨upd t d (.tup [.v (.bool true), .v e.key, .v e.val]), upd s iid ⟨iver, some (.iterb mid mver since (seen.push e.born) cl)⟩⟩ fun _ ε' => Q .normal ε') :
    XW P X nt (.region rid (o :: l).toArray false) ⟨t, s⟩ Q := fun a w hg => by
  obtain ⟨hop, hdst⟩ := opsB_sound (P := P) (X := X) (E := E) hF hE hG hb
  have hop' : ∀ (i : Nat) (o2 : Oper), (o :: l).toArray[i]? = some o2 → OpSound P (PCalls P G E) eop X nt o2 := fun i o2 h => hop o2 (List.mem_of_getElem? (by simpa using h))
  have hd' : ∀ (i : Nat) (o2 : Oper), (o :: l).toArray[i]? = some o2 → ∀ d, o2.dst = some d → d < nt := fun i o2 h => hdst o2 (List.mem_of_getElem? (by simpa using h))
  have rest : ∀ (ε : Env) (a : Act) (w : World), Good X nt ε a w → ROps (PCalls P G E) eop (o :: l).toArray l 1 ε (fun _ ε' => Q .normal ε') → wpOps P (o :: l).toArray (fun e a' w' => ∃ ε', Good X nt ε' a' w' ∧ Q e ε') (List.range' 1 l.length) a w := by
    intro ε a w hg h
    obtain ⟨ft, ε', h1, h2, h3⟩ := ROps.run (ops := (o :: l).toArray) l 1 ε _ (fun j o2 hj => by rw [Nat.add_comm]; simpa using hj) h
    have := wpOps_run (Q0 := fun e a' w' => ∃ ε', Good X nt ε' a' w' ∧ Q e ε') hop' hd' h1 (fun a w hg => ⟨ε', hg, h3⟩) a w hg
    rw [h2] at this
    exact this
  refine wp_region ?_
  have hr : List.range (o :: l).toArray.size = 0 :: List.range' 1 l.length := by
    rw [List.range_eq_range']
    simp [List.range'_succ]
  rw [hr, wpOps_cons]
  unfold Go.wpOp
  have h0 : (o :: l).toArray[0]? = some o := by simp
  simp only [h0]
  have hw0 : Region.wanted o (yielded (o :: l).toArray a.tmps) = true := by simp [Region.wanted, hgd]
  rw [if_pos hw0]
  left
  obtain ⟨hs, hdf, β, N, hst⟩ := id hg
  have hxo : opndB nt x = true := by
    have h1 := List.all_eq_true.1 hb o (by simp)
    simp only [Bool.and_eq_true] at h1
    have h2 := h1.1
    unfold operB at h2
    rw [ho] at h2
    simpa [Op.operands] using h2
  have hv := hst.opd hs hxo
  have hv : ValC (Fz X w N s) w β s (opd t x) (a.eval x) := hv
  rw [hx] at hv
  obtain ⟨k1, _, k3⟩ := hv
  obtain ⟨b, off, hβ, q⟩ := k3 _ hi
  obtain ⟨q0, q'⟩ := q rfl
  subst q0
  have q' : a.eval x = .pointer (some ⟨b, 0, none⟩) := q'
  have hiE : (⟨t, s⟩ : Env).s iid = ⟨iver, some (.iterb mid mver since seen c0)⟩ := hi
  have hmE : (⟨t, s⟩ : Env).s mid = ⟨mver, some (.objb (.map es cl))⟩ := hm
  obtain ⟨b', m, f1, f2, f3, f4⟩ := hst.blk iid _ (by rw [hiE])
  rw [hβ] at f1; cases f1
  obtain ⟨bm, off2, g1, g2⟩ := f4.2.2 _ hmE
  have g3 : (Value.map (some m)) = .map (some bm) := (g2 rfl).2
  cases g3
  obtain ⟨q0, -⟩ := g2 rfl
  subst q0
  obtain ⟨bm', i1, i2, i3⟩ := hst.blk mid _ (by rw [hmE])
  rw [g1] at i1; cases i1
  unfold Oper.wp
  have hexec : ∀ (u : Value) (w' : World), (Instr.next (.pointer (some ⟨b, 0, none⟩)) false o.type).run P w = .ok u w' → (execOp a.eval o).run P w = .ok (.value u) w' := by
    intro u w' h
    unfold execOp
    simp only [ho, q', Sem.run_bind, h, Result.andThen_ok]
    rfl
  rcases run_next_at w o.type b m since c0 seen es cl f3 i3 hold hsc with ⟨h1, h2⟩ | ⟨e, he, w1, hw1, h2⟩
  · rw [hexec _ _ h2, Oper.upon_value, hd]
    exact rest _ _ _ (Good.put (ε := ⟨t, s⟩) (σ := s) (v := .tup [.v (.bool false)]) (dst := some d) hs hdf hst ⟨_, rfl, ⟨rfl, trivial⟩, trivial⟩) (hdone h1)
  · rw [hexec _ _ h2, Oper.upon_value, hd]
    have hst1 : St X ⟨t, s⟩ w1 a.tmps β N := by
      rcases hw1 with rfl | rfl
      · exact hst
      · exact hst.drew rfl rfl rfl rfl (X.cl _ _ hst.env fun _ _ => rfl)
    have f3' : w1.heap[b]? = some (.mapIter (some m) since seen c0) := by rcases hw1 with rfl | rfl <;> exact f3
    have hst2 := turn_iter (seen' := seen.push e.born) (c1 := cl) hst1 hiE hβ f3' (w' := ChangeMaps.setBlock w1 b (.mapIter (some m) since (seen.push e.born) cl)) rfl
    have hee : e ∈ es.toList := by
      have : e ∈ leftOf es seen := by simpa using he
      unfold leftOf at this
      simpa using (Array.mem_filter.1 this).1
    exact rest _ _ _ (Good.put (ε := ⟨t, s⟩) (v := .tup [.v (.bool true), .v e.key, .v e.val]) (dst := some d) hs hdf hst2 ⟨_, rfl, ⟨rfl, trivial⟩, ⟨rfl, (hwf e hee).1⟩, ⟨rfl, (hwf e hee).2⟩, trivial⟩) (hnext e he)
end
open Go.RowKit
/-! ### A range over a map literal -/
def esIS : List (Int × ByteArray) → Nat → List MapEntry
  | [], _ => []
  | (k, v) :: l, j => { key := .int .i64 k, val := .string v, born := j } :: esIS l (j + 1)
theorem esIS_mem : ∀ {l : List (Int × ByteArray)} {j : Nat} {e : MapEntry}, e ∈ esIS l j → ∃ k v i, e = { key := .int .i64 k, val := .string v, born := i } ∧ (k, v) ∈ l ∧ j ≤ i ∧ i < j + l.length ∧ (esIS l j).find? (·.born == i) = some e
  | [], _, _, h => by simp [esIS] at h
  | (k, v) :: l, j, e, h => by
    simp only [esIS, List.mem_cons] at h
    rcases h with rfl | h
    · exact ⟨k, v, j, rfl, by simp, Nat.le_refl _, by simp, by simp [esIS]⟩
    · obtain ⟨k', v', i, e1, e2, e3, e4, e5⟩ := esIS_mem h
      refine ⟨k', v', i, e1, by simp [e2], by omega, by simp; omega, ?_⟩
      have : (j == i) = false := by simp; omega
      simp [esIS, List.find?_cons, this, e5]
theorem esIS_hold {l : List (Int × ByteArray)} : ∀ e ∈ (⟨esIS l 0⟩ : Array MapEntry).toList, e.born < l.length := fun e he => by
  obtain ⟨k, v, i, rfl, -, -, h, -⟩ := esIS_mem (show e ∈ esIS l 0 from he)
  simpa using h
theorem esIS_find {l : List (Int × ByteArray)} {e : MapEntry} (he : e ∈ (⟨esIS l 0⟩ : Array MapEntry).toList) : ∃ k v i, e = { key := .int .i64 k, val := .string v, born := i } ∧ (k, v) ∈ l ∧ (⟨esIS l 0⟩ : Array MapEntry).find? (·.born == i) = some e := by
  obtain ⟨k, v, i, h1, h2, -, -, h3⟩ := esIS_mem (show e ∈ esIS l 0 from he)
  exact ⟨k, v, i, h1, h2, by rw [← Array.find?_toList]; exact h3⟩
theorem esIS_uniq {l : List (Int × ByteArray)} : ∀ e ∈ (⟨esIS l 0⟩ : Array MapEntry).toList, ∀ e' ∈ (⟨esIS l 0⟩ : Array MapEntry).toList, e.born = e'.born → e = e' := fun e he e' he' hb => by
  obtain ⟨k, v, i, h1, -, h3⟩ := esIS_find he
  obtain ⟨k', v', i', h1', -, h3'⟩ := esIS_find he'
  have : i = i' := by rw [h1, h1'] at hb; exact hb
  subst this
  rw [h3] at h3'
  exact Option.some.inj h3'
theorem esIS_of : ∀ {l : List (Int × ByteArray)} {j : Nat} {k : Int} {v : ByteArray}, (k, v) ∈ l → ∃ i, ({ key := .int .i64 k, val := .string v, born := i } : MapEntry) ∈ esIS l j
  | (k', v') :: l, j, k, v, h => by
    rcases List.mem_cons.1 h with e | h
    · cases e; exact ⟨j, by simp [esIS]⟩
    · obtain ⟨i, hi⟩ := esIS_of (j := j + 1) h
      exact ⟨i, by simp [esIS, hi]⟩
theorem esIS_wf {l : List (Int × ByteArray)} (h : (l.all fun p => IntKind.i64.wrap p.1 == p.1 && decide (p.2.size ≤ 9223372036854775807)) = true) : ∀ e ∈ (⟨esIS l 0⟩ : Array MapEntry).toList, wfV e.key ∧ wfV e.val := fun e he => by
  obtain ⟨k, v, i, rfl, hm, -⟩ := esIS_find he
  have := List.all_eq_true.1 h _ hm
  simp only [Bool.and_eq_true, beq_iff_eq, decide_eq_true_eq] at this
  exact ⟨this.1, this.2⟩
theorem left_zero {es : Array MapEntry} {seen : Array Nat} (h : (leftOf es seen).size = 0) {e : MapEntry} (he : e ∈ es.toList) : seen.contains e.born = true := by
  have h0 : leftOf es seen = #[] := Array.eq_empty_of_size_eq_zero h
  by_cases hc : seen.contains e.born = true
  · exact hc
  · exfalso
    have : e ∈ leftOf es seen := by
      unfold leftOf
      exact Array.mem_filter.2 ⟨by simpa using he, by simpa using hc⟩
    rw [h0] at this
    simp at this
/-- Every entry goes on, or one of them says what comes out: the order is no matter. -/
def mrange {κ ν O : Type} (B : κ → ν → Option (Unit ⊕ O)) : List (κ × ν) → Option (Option O)
  | [] => some none
  | (k, v) :: l => match B k v, mrange B l with
    | some (.inl _), some o => some o
    | some (.inr o), some none => some (some o)
    | _, _ => none
theorem mrange_spec {κ ν O : Type} {B : κ → ν → Option (Unit ⊕ O)} : ∀ {l : List (κ × ν)} {oo : Option O}, mrange B l = some oo →
    (∀ k v, (k, v) ∈ l → B k v = some (.inl ()) ∨ ∃ o, B k v = some (.inr o) ∧ oo = some o) ∧ ((∀ k v, (k, v) ∈ l → B k v = some (.inl ())) → oo = none)
  | [], oo, h => by cases h; exact ⟨fun k v h => by simp at h, fun _ => rfl⟩
  | (k, v) :: l, oo, h => by
    unfold mrange at h
    split at h
    · rename_i u o h1 h2
      cases h
      obtain ⟨h3, h4⟩ := mrange_spec h2
      refine ⟨fun k' v' hm => ?_, fun ha => h4 fun k' v' hm => ha k' v' (List.mem_cons_of_mem _ hm)⟩
      rcases List.mem_cons.1 hm with e | hm
      · cases e; exact .inl h1
      · exact h3 k' v' hm
    · rename_i o h1 h2
      cases h
      obtain ⟨h3, h4⟩ := mrange_spec h2
      refine ⟨fun k' v' hm => ?_, fun ha => ?_⟩
      · rcases List.mem_cons.1 hm with e | hm
        · cases e; exact .inr ⟨o, h1, rfl⟩
        · rcases h3 k' v' hm with h | ⟨o', h, e⟩
          · exact .inl h
          · cases e
      · have := ha k v (by simp)
        rw [h1] at this; cases this
    · cases h
theorem left_push {es : Array MapEntry} {seen : Array Nat} {e : MapEntry} (h : e ∈ (leftOf es seen).toList) : (leftOf es (seen.push e.born)).size < (leftOf es seen).size := by
  have e1 : leftOf es (seen.push e.born) = (leftOf es seen).filter fun x => !(x.born == e.born) := by
    unfold leftOf
    rw [Array.filter_filter]
    congr 1
    funext x
    simp only [Array.contains_push]
    cases hx : seen.contains x.born <;> cases hy : (x.born == e.born) <;> simp_all
  rw [e1]
  have hm : e ∈ leftOf es seen := by simpa using h
  have h2 : ((leftOf es seen).toList.filter fun x => !(x.born == e.born)).length < (leftOf es seen).toList.length := List.length_filter_lt_length_iff_exists.2 ⟨e, h, by simp⟩
  have e2 : ((leftOf es seen).filter fun x => !(x.born == e.born)).size = ((leftOf es seen).toList.filter fun x => !(x.born == e.born)).length := by rw [← Array.toList_filter, Array.length_toList]
  rw [e2]
  simpa using h2
section
variable {P : Program} {X : Ctx} {nt : Nat} {Q : Exit → Env → Prop} {ε : Env}
theorem XW.mapLoop {c : Code} (es : Array MapEntry) (Inv : Array Nat → Env → Prop) (Bs : MapEntry → Prop) (h0 : GI X nt (Inv #[]) ε)
    (hr : ∀ seen ε, Inv seen ε → (∀ e ∈ es.toList, seen.contains e.born = true → Bs e) → XW P X nt c ε (thenE (fun ε' => ∃ e ∈ (leftOf es seen).toList, Bs e ∧ GI X nt (Inv (seen.push e.born)) ε') Q)) (hu : ∀ e ∈ es.toList, ∀ e' ∈ es.toList, e.born = e'.born → e = e') : XW P X nt (.loop c) ε Q := by
  refine XW.roundsG (fun n ε => ∃ seen, (leftOf es seen).size + 1 ≤ n ∧ (∀ e ∈ es.toList, seen.contains e.born = true → Bs e) ∧ Inv seen ε) ((leftOf es #[]).size + 1) ?_ ?_ ?_
  · exact fun a w hg => by
      obtain ⟨ε', h1, h2⟩ := h0 a w hg
      exact ⟨ε', h1, #[], Nat.le_refl _, fun e _ h => by simp at h, h2⟩
  · rintro ε ⟨seen, h, _⟩
    omega
  · rintro n ε ⟨seen, hn, hb, hi⟩
    refine XW.mono (hr seen ε hi hb) fun ex ε' h => ?_
    cases ex with
    | normal =>
      obtain ⟨e, he, hbe, hg⟩ := h
      have hee : e ∈ es.toList := by
        have : e ∈ leftOf es seen := by simpa using he
        unfold leftOf at this
        simpa using (Array.mem_filter.1 this).1
      exact fun a w hgd => by
        obtain ⟨ε2, h1, h2⟩ := hg a w hgd
        refine ⟨ε2, h1, seen.push e.born, by have := left_push he; omega, fun e' he' hc => ?_, h2⟩
        rw [Array.contains_push] at hc
        rcases Bool.or_eq_true _ _ ▸ hc with hc | hc
        · exact hb e' he' (by simpa using hc)
        · rw [hu e' he' e hee (by simpa using hc)]; exact hbe
    | _ => exact h
end
section
variable {PC : Con} {o : Oper} {t : TypeId} {s s' : Sto} {tt : Nat → PV} {x1 : Operand} {id ver i cl mid mver since st stamp : Nat} {es : Array MapEntry} {seen : Array Nat} {e : MapEntry} {z : MK × Value}
theorem o_range (ho : o.op = .range t x1) (hm : mapT t = some z) (e1 : opd tt x1 = .ptr id ver i 0) (hs : s id = ⟨ver, some (.objb (.map es cl))⟩) : (eop o tt).wp PC s (Sd (.ptr (site o) ((s (site o)).ver + 1) 0 0) (upd s (site o) ⟨(s (site o)).ver + 1, some (.iterb id ver cl #[] cl)⟩) [id, site o] [site o]) := by
  have e : eop o tt = eRange o t (opd tt x1) := by simp only [eop, eopR, ho]
  rw [e]; unfold eRange; simp only [hm, e1]
  unfold live newBlk
  simp only [Eff.wp, hs, if_true]
  exact ⟨rfl, rfl, rfl, rfl⟩
theorem o_entry (ho : o.op = .entry x1) (e1 : opd tt x1 = .ptr id ver i 0) (hs : s id = ⟨ver, some (.iterb mid mver since seen st)⟩) (hm : s mid = ⟨mver, some (.objb (.map es cl))⟩) (hb : seen.back? = some stamp) (hf : es.find? (·.born == stamp) = some e) (hc : cl = st) (hw : wfV e.key ∧ wfV e.val) :
    (eop o tt).wp PC s (Sd (.tup [.v e.key, .v e.val]) s [id, mid] []) := by
  have e : eop o tt = eEntry (opd tt x1) := by simp only [eop, eopR, ho]
  rw [e]; unfold eEntry; simp only [e1]
  unfold live
  simp only [Eff.wp, hs, if_true, hm, hb, hf]
  exact ⟨⟨hc, hw.1, hw.2⟩, rfl, rfl, rfl, rfl⟩
end
end Go.Px
