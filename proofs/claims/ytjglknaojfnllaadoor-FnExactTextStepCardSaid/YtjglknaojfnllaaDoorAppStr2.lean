/- append(b, x...) of bytes onto a byte slice of the call's own that is not nil; either may be empty. -/
import Derived.Test.YtjglknaojfnllaaDoorAppStr
set_option linter.unusedSimpArgs false
set_option linter.unusedVariables false
namespace Go.Mux
open Go.RowKit Go.Lib
section
variable {P : Program}
theorem Rows.bytes {w : World} {l : List UInt8} {rows : List (List Value)} {fps : List (List Nat)} (h : Rows w l rows fps) : rows.flatten = l.map fun b => Value.int .u8 b.toNat := by
  obtain ⟨hrl, hfl, hel⟩ := h
  have e : rows = l.map fun b => [Value.int .u8 b.toNat] := by
    apply List.ext_getElem?
    intro i
    rw [List.getElem?_map]
    by_cases hi : i < l.length
    · have h1 : l[i]? = some l[i] := by simp [hi]
      have h2 : rows[i]? = some (rows[i]'(by omega)) := List.getElem?_eq_getElem (by omega)
      have h3 : fps[i]? = some (fps[i]'(by omega)) := List.getElem?_eq_getElem (by omega)
      have h4 := (hel i _ _ _ h1 h2 h3).1
      rw [h2, h1, h4]
      rfl
    · rw [List.getElem?_eq_none (by omega), List.getElem?_eq_none (by omega)]
      rfl
  rw [e, bytesRows]
theorem oper_append_bytes_any {o : Oper} {a : Act} {w : World} {K : Act → World → Prop} {Q : Exit → Act → World → Prop} (sl x : Operand) (t : TypeId)
    (ho : o.op = .call { callee := .builtin .append, args := #[sl, x], argTypes := #[t, t] })
    (ht : P.underlying t = some (.slice (Rep.tid UInt8))) (hi : (P.info? (Rep.tid UInt8)).map (fun i => (i.zero, i.size, i.bytes)) = some (some (.int .u8 0), 1, 1))
    (ad : Addr) (n cap : Nat) (l : List UInt8) (hs : a.eval sl = .slice (some ad) n cap) (hv : OwnB w ad n cap l) (xa : Option Addr) (xn xc : Nat) (l2 : List UInt8) (hx : a.eval x = .slice xa xn xc) (hr2 : RepS w (.slice xa xn xc) l2) (hbytes : l.length + l2.length ≤ 140737488355328)
    (h : ∀ a' n' c' w', OwnB w' a' n' c' (l ++ l2) → w.grownBy w' (some ad.block) → (a'.block = ad.block ∨ a'.block = w.heap.size) → K (a.put o.dst (.slice (some a') n' c')) w') :
    Oper.wp P o a w K Q := by
  obtain ⟨rows, fps, hR, hf, hC⟩ := RepS.rows (by decide) hr2
  have hxn : xn = l2.length := by obtain ⟨_, _, e, _⟩ := hr2; injection e
  subst hxn
  have hv0 := hv
  obtain ⟨rfl, hl, hown⟩ := hv
  obtain ⟨i, hi', hz, hsize, hby⟩ := info_parts hi
  have hob : (Value.slice (some ad) l.length cap).ownBlock = some ad.block := rfl
  have key : ∀ v' w', OwnsRow w' (Rep.tid UInt8) 1 v' (l.length + l2.length) ((l.map fun b => Value.int .u8 b.toNat) ++ rows.flatten) → w.grownBy w' (Value.slice (some ad) l.length cap).ownBlock →
      (v'.ownBlock = (Value.slice (some ad) l.length cap).ownBlock ∨ v'.ownBlock = some w.heap.size) → K (a.put o.dst v') w' := by
    intro v' w' hown' hg hat
    have ho2 := hown'
    rcases hown'.2 with ⟨rfl, _⟩ | ⟨g, cap', cur, rfl, _⟩
    · rcases hat with e | e <;> cases e
    · refine h ⟨g, 0, none⟩ _ _ w' ⟨by rw [List.length_append], by rw [List.length_append]; omega, ?_⟩ (by rw [hob] at hg; exact hg) ?_
      · rw [List.map_append, ← hR.bytes]
        exact ho2
      · rcases hat with e | e
        · rw [hob] at e; injection e with e; exact .inl e
        · injection e with e; exact .inr e
  by_cases hys : l2 = []
  · subst hys
    have hrows : rows = [] := List.eq_nil_of_length_eq_zero hR.1
    subst hrows
    cases xa with
    | none =>
      have hrun : (Builtin.append_ #[t, t] o.type #[.slice (some ad) l.length cap, .slice none 0 xc]).run P w = .ok (.slice (some ad) l.length cap) w := by
        rcases hown.2 with ⟨hn, _⟩ | ⟨g, cap', cur, hv, _, _, hnc, _⟩
        · cases hn
        · cases hv
          simp [Builtin.append_, run_underlying ht, sizeOf, typeInfo, hi', Builtin.lenOf, Builtin.firstCells, hnc, storeCells]
      unfold Oper.wp execOp
      simp only [ho, resolve, invoke, builtin, Sem.run_bind, Sem.run_pure, Result.andThen_ok, List.map_toArray, List.map_cons, List.map_nil, hs, hx, List.length_nil, hrun]
      exact (key _ w (by simpa using hown) (World.grownBy.refl w _) (.inl rfl))
    | some xad =>
      obtain ⟨v', w', hrun, h2, h3, h5⟩ := run_append_row (P := P) w t o.type (Rep.tid UInt8) i (.int .u8 0) 1 1 ht hi' hz hsize hby rfl (by decide) (.slice (some ad) l.length cap) l.length _ hown xad 0 xc [] (by simp) (by simp) (by simp) (by simp only [maxLen]; omega) (by simpa using hbytes)
      unfold Oper.wp execOp
      simp only [ho, resolve, invoke, builtin, Sem.run_bind, Sem.run_pure, Result.andThen_ok, List.map_toArray, List.map_cons, List.map_nil, hs, hx, List.length_nil, hrun]
      exact (key v' w' (by simpa using h2) h3 h5)
  · obtain ⟨b, off, rfl, hcell⟩ := hC hys
    obtain ⟨v', w', hrun, h2, h3, h5⟩ := run_append_row (P := P) w t o.type (Rep.tid UInt8) i (.int .u8 0) 1 1 ht hi' hz hsize hby rfl (by decide) (.slice (some ad) l.length cap) l.length _ hown ⟨b, off, none⟩ l2.length xc rows.flatten hR.length_flatten (fun j u hu => by rw [addr_add]; exact hcell j u hu) hR.one_cell (by simp only [maxLen]; omega) (by simpa using hbytes)
    unfold Oper.wp execOp
    simp only [ho, resolve, invoke, builtin, Sem.run_bind, Sem.run_pure, Result.andThen_ok, List.map_toArray, List.map_cons, List.map_nil, hs, hx, hrun]
    exact (key v' w' h2 h3 h5)
theorem wpList_append_bytes_any {ops : Array Oper} {rest : List Oper} {o : Oper} {a : Act} {w : World} {Q : Exit → Act → World → Prop} (hw : Region.wanted o (yielded ops a.tmps) = true) (sl x : Operand) (t : TypeId)
    (ho : o.op = .call { callee := .builtin .append, args := #[sl, x], argTypes := #[t, t] })
    (ht : P.underlying t = some (.slice (Rep.tid UInt8))) (hi : (P.info? (Rep.tid UInt8)).map (fun i => (i.zero, i.size, i.bytes)) = some (some (.int .u8 0), 1, 1))
    (ad : Addr) (n cap : Nat) (l : List UInt8) (hs : a.eval sl = .slice (some ad) n cap) (hv : OwnB w ad n cap l) (xa : Option Addr) (xn xc : Nat) (l2 : List UInt8) (hx : a.eval x = .slice xa xn xc) (hr2 : RepS w (.slice xa xn xc) l2) (hbytes : l.length + l2.length ≤ 140737488355328)
    (h : ∀ a' n' c' w', OwnB w' a' n' c' (l ++ l2) → w.grownBy w' (some ad.block) → (a'.block = ad.block ∨ a'.block = w.heap.size) → wpList P ops Q rest (a.put o.dst (.slice (some a') n' c')) w') :
    wpList P ops Q (o :: rest) a w := by
  refine wpList_step fun K hK => ?_
  rw [if_pos hw]
  exact oper_append_bytes_any sl x t ho ht hi ad n cap l hs hv xa xn xc l2 hx hr2 hbytes fun a' n' c' w' h1 h2 h3 => hK _ _ (h a' n' c' w' h1 h2 h3)
end
end Go.Mux
