/- A drawn statement that makes a map literal of four entries and calls one function beside it: by states (the operations done), not by orders. The operations 6, 7, 9, 10 have been taken. -/
import Derived.Test.YtjglknaojfnllaaDoorBase
import Derived.Test.YtjglknaojfnllaaDoorMaps1
import Derived.Deep.RegionHeld
set_option linter.unusedSimpArgs false
set_option linter.unusedVariables false
namespace Go.Mux
open Go.RowKit
structure St where
  b0 : Bool
  b1 : Bool
  b2 : Bool
  b3 : Bool
  b4 : Bool
  b5 : Bool
  b6 : Bool
  b7 : Bool
deriving DecidableEq
def St.ls (s : St) : Array Bool := #[s.b0, s.b1, s.b2, s.b3, s.b4, s.b6, true, true, s.b7, true, true, s.b5, false, false, false]
def St.next (s : St) : List (Nat × St) :=
  (if s.b0 then [] else [(0, { s with b0 := true })]) ++ ((if s.b0 && !s.b1 then [(1, { s with b1 := true })] else []) ++ ((if s.b0 && !s.b2 then [(2, { s with b2 := true })] else []) ++
  ((if s.b0 && !s.b3 then [(3, { s with b3 := true })] else []) ++ ((if s.b0 && !s.b4 then [(4, { s with b4 := true })] else []) ++
  ((if s.b0 && s.b1 && s.b2 && s.b3 && s.b4 && !s.b6 then [(5, { s with b6 := true })] else []) ++ ((if s.b6 && !s.b7 then [(8, { s with b7 := true })] else []) ++ (if s.b5 then [] else [(11, { s with b5 := true })])))))))
def St.rank (s : St) : Nat := (if s.b0 then 0 else 1) + (if s.b1 then 0 else 1) + (if s.b2 then 0 else 1) + (if s.b3 then 0 else 1) + (if s.b4 then 0 else 1) + (if s.b5 then 0 else 1) + (if s.b6 then 0 else 1) + (if s.b7 then 0 else 1)
def St.ok (s : St) : Bool := (s.b0 || !(s.b1 || s.b2 || s.b3 || s.b4)) && (((s.b0 && s.b1 && s.b2 && s.b3 && s.b4) || !s.b6) && (s.b6 || !s.b7))
def St.all : List St := [false, true].flatMap fun a => [false, true].flatMap fun b => [false, true].flatMap fun c => [false, true].flatMap fun d => [false, true].flatMap fun e => [false, true].flatMap fun f => [false, true].flatMap fun g => [false, true].map fun h => ⟨a, b, c, d, e, f, g, h⟩
theorem St.mem_all (s : St) : s ∈ St.all := by
  obtain ⟨a, b, c, d, e, f, g, h⟩ := s
  unfold St.all
  simp only [List.mem_flatMap, List.mem_map]
  exact ⟨a, by cases a <;> decide, b, by cases b <;> decide, c, by cases c <;> decide, d, by cases d <;> decide, e, by cases e <;> decide, f, by cases f <;> decide, g, by cases g <;> decide, h, by cases h <;> decide, rfl⟩
def St.chk (md : Region.Mode) (ops : Array Oper) (s : St) : Bool :=
  !s.ok || (s.rank == 0 || (Region.ready md ops s.ls == s.next.map (·.1) && (!s.next.isEmpty && s.next.all fun p => (s.ls.setIfInBounds p.1 true == p.2.ls && (p.2.rank + 1 == s.rank && p.2.ok)))))
theorem St.rank_zero {s : St} (h : s.rank = 0) : s = ⟨true, true, true, true, true, true, true, true⟩ := by
  obtain ⟨a, b, c, d, e, f, g, k⟩ := s
  unfold St.rank at h
  dsimp only at h
  cases a
  · simp at h
  cases b
  · simp at h
  cases c
  · simp at h
  cases d
  · simp at h
  cases e
  · simp at h
  cases f
  · simp at h
  cases g
  · simp at h
  cases k
  · simp at h
  rfl
section
variable {P : Program} {md : Region.Mode} {ops : Array Oper} {Q : Exit → Act → World → Prop} {S : World → Prop}
theorem wpAnyH_states (Inv : St → Act → World → Prop) (f0 : Nat) (hchk : St.all.all (St.chk md ops) = true)
    (hstep : ∀ s, s.ok = true → ∀ p ∈ s.next, ∀ a w, Inv s a w → wpOp P ops Q p.1 (fun a' w' => S w' ∧ Inv p.2 a' w') a w)
    (hend : ∀ a w, Inv ⟨true, true, true, true, true, true, true, true⟩ a w → wpAnyH P md ops Q S f0 (St.ls ⟨true, true, true, true, true, true, true, true⟩) a w) :
    ∀ (k : Nat) (s : St) (a : Act) (w : World), s.ok = true → s.rank = k → Inv s a w → wpAnyH P md ops Q S (f0 + k) s.ls a w
  | 0, s, a, w, _, hk, hi => by
    have e := St.rank_zero hk
    subst e
    exact hend a w hi
  | k + 1, s, a, w, ho, hk, hi => by
    have hc := List.all_eq_true.1 hchk s s.mem_all
    unfold St.chk at hc
    rw [ho, hk] at hc
    simp only [Bool.not_true, Bool.false_or, Bool.or_eq_true, Bool.and_eq_true, beq_iff_eq, List.all_eq_true] at hc
    rcases hc with hc | ⟨h1, h2, h3⟩
    · omega
    refine ⟨fun h0 => ?_, fun i hi' => ?_⟩
    · rw [h1] at h0
      have : s.next = [] := by simpa using h0
      rw [this] at h2
      simp at h2
    · rw [h1] at hi'
      obtain ⟨p, hp, rfl⟩ := List.mem_map.1 hi'
      obtain ⟨e, hk', ho'⟩ := h3 p hp
      refine wpOp_mono (fun a' w' h => ⟨h.1, ?_⟩) (hstep s ho p hp a w hi)
      rw [e]
      exact wpAnyH_states Inv f0 hchk hstep hend k p.2 a' w' ho' (by omega) h.2
theorem wpAnyH_mapcall (Inv : Act → St → Act → World → Prop) (f0 : Nat) {fuel : Nat} {listed : Array Bool} {a0 : Act} {w0 : World} (hl : listed = St.ls ⟨false, false, false, false, false, false, false, false⟩) (hf : fuel = f0 + 8) (hchk : St.all.all (St.chk md ops) = true)
    (hmake : ∀ b5 a w, Inv a0 ⟨false, false, false, false, false, b5, false, false⟩ a w → wpOp P ops Q 0 (fun a' w' => S w' ∧ Inv a0 ⟨true, false, false, false, false, b5, false, false⟩ a' w') a w)
    (h1 : ∀ b2 b3 b4 b5 a w, Inv a0 ⟨true, false, b2, b3, b4, b5, false, false⟩ a w → wpOp P ops Q 1 (fun a' w' => S w' ∧ Inv a0 ⟨true, true, b2, b3, b4, b5, false, false⟩ a' w') a w)
    (h2 : ∀ b1 b3 b4 b5 a w, Inv a0 ⟨true, b1, false, b3, b4, b5, false, false⟩ a w → wpOp P ops Q 2 (fun a' w' => S w' ∧ Inv a0 ⟨true, b1, true, b3, b4, b5, false, false⟩ a' w') a w)
    (h3 : ∀ b1 b2 b4 b5 a w, Inv a0 ⟨true, b1, b2, false, b4, b5, false, false⟩ a w → wpOp P ops Q 3 (fun a' w' => S w' ∧ Inv a0 ⟨true, b1, b2, true, b4, b5, false, false⟩ a' w') a w)
    (h4 : ∀ b1 b2 b3 b5 a w, Inv a0 ⟨true, b1, b2, b3, false, b5, false, false⟩ a w → wpOp P ops Q 4 (fun a' w' => S w' ∧ Inv a0 ⟨true, b1, b2, b3, true, b5, false, false⟩ a' w') a w)
    (hmove : ∀ b5 a w, Inv a0 ⟨true, true, true, true, true, b5, false, false⟩ a w → wpOp P ops Q 5 (fun a' w' => S w' ∧ Inv a0 ⟨true, true, true, true, true, b5, true, false⟩ a' w') a w)
    (hlook : ∀ b5 a w, Inv a0 ⟨true, true, true, true, true, b5, true, false⟩ a w → wpOp P ops Q 8 (fun a' w' => S w' ∧ Inv a0 ⟨true, true, true, true, true, b5, true, true⟩ a' w') a w)
    (hcall : ∀ b0 b1 b2 b3 b4 b6 b7 a w, Inv a0 ⟨b0, b1, b2, b3, b4, false, b6, b7⟩ a w → wpOp P ops Q 11 (fun a' w' => S w' ∧ Inv a0 ⟨b0, b1, b2, b3, b4, true, b6, b7⟩ a' w') a w)
    (hend : ∀ a w, Inv a0 ⟨true, true, true, true, true, true, true, true⟩ a w → wpAnyH P md ops Q S f0 (St.ls ⟨true, true, true, true, true, true, true, true⟩) a w)
    (hinit : Inv a0 ⟨false, false, false, false, false, false, false, false⟩ a0 w0) : wpAnyH P md ops Q S fuel listed a0 w0 := by
  subst hl hf
  refine wpAnyH_states (Inv a0) f0 hchk ?_ hend 8 _ a0 w0 rfl rfl hinit
  rintro ⟨b0, b1, b2, b3, b4, b5, b6, b7⟩ ho p hp a w hi
  unfold St.next at hp
  unfold St.ok at ho
  simp only [List.mem_append] at hp
  dsimp only at ho hp
  rcases hp with hp | hp | hp | hp | hp | hp | hp | hp
  · cases b0
    · cases b1 <;> cases b2 <;> cases b3 <;> cases b4 <;> cases b6 <;> cases b7 <;> first | (simp at ho; done) | skip
      simp at hp
      subst hp
      exact hmake b5 a w hi
    · simp at hp
  · cases b0 <;> cases b1 <;> simp at hp
    cases b6 <;> cases b7 <;> simp at ho
    subst hp
    exact h1 _ _ _ _ a w hi
  · cases b0 <;> cases b2 <;> simp at hp
    cases b6 <;> cases b7 <;> simp at ho
    subst hp
    exact h2 _ _ _ _ a w hi
  · cases b0 <;> cases b3 <;> simp at hp
    cases b6 <;> cases b7 <;> simp at ho
    subst hp
    exact h3 _ _ _ _ a w hi
  · cases b0 <;> cases b4 <;> simp at hp
    cases b6 <;> cases b7 <;> simp at ho
    subst hp
    exact h4 _ _ _ _ a w hi
  · cases b0 <;> cases b1 <;> cases b2 <;> cases b3 <;> cases b4 <;> cases b6 <;> simp at hp
    cases b7 <;> simp at ho
    subst hp
    exact hmove _ a w hi
  · cases b6 <;> cases b7 <;> simp at hp
    cases b0 <;> cases b1 <;> cases b2 <;> cases b3 <;> cases b4 <;> simp at ho
    subst hp
    exact hlook _ a w hi
  · cases b5 <;> simp at hp
    subst hp
    exact hcall _ _ _ _ _ _ _ a w hi
end
/-- What a look-up of k finds: v if it has been put in, nothing else. -/
def Look (es : Array MapEntry) (k : Int) (b : Bool) (v : Value) : Prop := (b = true → ∃ i, Instr.findNow (.int .i64) (.int .i64 k) es.toList 0 = some (some (i, v))) ∧ (b = false → Instr.findNow (.int .i64) (.int .i64 k) es.toList 0 = some none)
theorem findNow_snoc (k n : Int) (v : Value) (ck : Nat) : ∀ (l : List MapEntry) (i : Nat),
    (∀ r, Instr.findNow (.int .i64) (.int .i64 k) l i = some (some r) → Instr.findNow (.int .i64) (.int .i64 k) (l ++ [{ key := .int .i64 n, val := v, born := ck }]) i = some (some r)) ∧
    (Instr.findNow (.int .i64) (.int .i64 k) l i = some none → Instr.findNow (.int .i64) (.int .i64 k) (l ++ [{ key := .int .i64 n, val := v, born := ck }]) i = if k = n then some (some (i + l.length, v)) else some none) := by
  intro l
  induction l with
  | nil =>
    intro i
    refine ⟨fun r h => by simp [Instr.findNow] at h, fun _ => ?_⟩
    by_cases e : k = n
    · subst e; simp [Instr.findNow, Instr.sameNow]
    · have : (k == n) = false := by simpa using e
      simp [Instr.findNow, Instr.sameNow, e, this]
  | cons x l ih =>
    intro i
    obtain ⟨ih1, ih2⟩ := ih (i + 1)
    rw [List.cons_append]
    unfold Instr.findNow
    cases Instr.sameNow (.int .i64) (.int .i64 k) x.key with
    | none => exact ⟨fun r h => by simp at h, fun h => by simp at h⟩
    | some b =>
      cases b
      · refine ⟨fun r h => ih1 r h, fun h => ?_⟩
        rw [List.length_cons, show i + (l.length + 1) = i + 1 + l.length by omega]
        exact ih2 h
      · exact ⟨fun r h => h, fun h => by simp at h⟩
theorem Look.same {es : Array MapEntry} {k : Int} {v : Value} (ck : Nat) (h : Look es k false v) : Look (es.push { key := .int .i64 k, val := v, born := ck }) k true v := by
  refine ⟨fun _ => ⟨0 + es.toList.length, ?_⟩, fun h => (by cases h)⟩
  rw [Array.toList_push, (findNow_snoc k k v ck es.toList 0).2 (h.2 rfl), if_pos rfl]
theorem Look.other {es : Array MapEntry} {k n : Int} {b : Bool} {v u : Value} (ck : Nat) (hn : k ≠ n) (h : Look es k b v) : Look (es.push { key := .int .i64 n, val := u, born := ck }) k b v := by
  refine ⟨fun hb => ?_, fun hb => ?_⟩
  · obtain ⟨i, hi⟩ := h.1 hb
    exact ⟨i, by rw [Array.toList_push]; exact (findNow_snoc k n u ck es.toList 0).1 _ hi⟩
  · rw [Array.toList_push, (findNow_snoc k n u ck es.toList 0).2 (h.2 hb), if_neg hn]
theorem Look.none (k : Int) (v : Value) : Look #[] k false v := ⟨fun h => (by cases h), fun _ => rfl⟩
end Go.Mux
