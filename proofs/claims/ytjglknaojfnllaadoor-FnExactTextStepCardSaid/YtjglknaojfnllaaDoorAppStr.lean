/- append(b, s...) of a string onto a byte slice of the call's own. -/
import Derived.Test.YtjglknaojfnllaaDoorConv
import Derived.Lib.AppendStr
import Derived.Test.YtjglknaojfnllaaDoorClone
set_option linter.unusedSimpArgs false
set_option linter.unusedVariables false
namespace Go.Mux
open Go.RowKit Go.Lib
section
variable {P : Program}
theorem run_append_row_str (w : World) (t u ty e : TypeId) (i : TypeInfo) (ht : P.underlying t = some (.slice e)) (hu : P.underlying u = some .string) (hi : P.info? e = some i) (hz : i.zero = some (.int .u8 0))
    (hsize : i.size = 1) (hby : i.bytes = 1) (g0 : Addr) (n cap0 : Nat) (xs : List Value) (hown : OwnsRow w e 1 (.slice (some g0) n cap0) n xs) (s : ByteArray)
    (h63 : n + s.size ≤ maxLen) (hbytes : n + s.size ≤ 140737488355328) :
    ∃ a' c' w', (Builtin.append_ #[t, u] ty #[.slice (some g0) n cap0, .string s]).run P w = .ok (.slice (some a') (n + s.size) c') w' ∧ OwnsRow w' e 1 (.slice (some a') (n + s.size) c') (n + s.size) (xs ++ strCells s) ∧ w.grownBy w' (some g0.block) ∧ (a'.block = g0.block ∨ a'.block = w.heap.size) := by
  rcases hown.2 with ⟨hv, _⟩ | ⟨g, cap, cur, hv, hbg, hg, hnc, hcm, hcs, htake⟩
  · cases hv
  injection hv with ha _ hc
  injection ha with ha
  subst ha hc
  have hxl : xs.length = n := by simpa using hown.1
  have hlen : (xs ++ strCells s).length = (n + s.size) * 1 := by rw [List.length_append, hxl, strCells_length, Nat.mul_one]
  by_cases hroom : n + s.size ≤ cap0
  · have hcs' : cur.size = cap0 := by simpa using hcs
    have hf := run_firstCells_string (P := P) w 1 s
    have hst := run_storeCells_row P g n e (strCells s) 0 cur w hg (by rw [strCells_length]; omega) (strCells_oneCell s)
    simp only [Nat.add_zero, strCells_length] at hst
    have hr : (Builtin.append_ #[t, u] ty #[.slice (some ⟨g, 0, none⟩) n cap0, .string s]).run P w =
        .ok (.slice (some ⟨g, 0, none⟩) (n + s.size) cap0) (w.setRow g (cur.toList.take n ++ strCells s ++ cur.toList.drop (n + s.size)).toArray) := by
      simp [Builtin.append_, run_underlying ht, run_underlying hu, sizeOf, typeInfo, hi, hsize, Builtin.lenOf, hroom, hf, Addr.add_lit, hst]
    have hss : (cur.toList.take n ++ strCells s ++ cur.toList.drop (n + s.size)).toArray.size = cur.size := by
      simp only [List.size_toArray, List.length_append, List.length_take, List.length_drop, Array.length_toList, strCells_length]
      omega
    refine ⟨_, _, _, hr, ⟨hlen, .inr ⟨g, cap0, _, rfl, hbg, hg.setRow hss, by omega, hcm, by rw [hss, hcs], ?_⟩⟩, ⟨rfl, rfl, rfl, by simp, fun k _ hk => setRow_other w g k _ (fun e => hk (by simp [e]))⟩, .inl rfl⟩
    have ht' : cur.toList.take n = xs := by simpa using htake
    rw [ht', ← hlen]
    exact List.take_left
  · have holds : ∀ j u, xs[j]? = some u → w.cell? ((⟨g, 0, none⟩ : Addr).add j) = some u := hown.cells (g := g) rfl
    have hr := run_append_grow_string (P := P) w t u ty e i (.int .u8 0) ht hu hi hz ⟨g, 0, none⟩ n cap0 xs (by rw [hsize]; simpa using hxl) holds s (by omega) (by simp only [maxLen] at h63; omega) (by rw [hby]; exact growslice_fits (by omega) (by omega))
    have hge := grownCap_ge w (n + s.size) cap0 e
    have hcm2 : grownCap w (n + s.size) cap0 e ≤ maxLen := grownCap_le_maxLen w (n + s.size) cap0 e h63
    refine ⟨_, _, _, hr, ⟨hlen, .inr ⟨w.heap.size, _, _, rfl, Nat.zero_le _, RowAt.of (heap_alloc_new w.drew _), hge, hcm2, ?_, ?_⟩⟩, ⟨rfl, rfl, rfl, by simp, fun k hk _ => heap_alloc_old w.drew _ hk⟩, .inr rfl⟩
    · have hz1 : (Value.int IntKind.u8 0).cells.size = 1 := rfl
      simp only [Array.size_append, List.size_toArray, size_zeroCells, hz1, hxl, strCells_length]
      omega
    · simp only [Array.toList_append, List.append_assoc]
      rw [← List.append_assoc, ← hlen]
      exact List.take_left
/-- A byte slice of the call's own, its block g. -/
def OwnB (w : World) (a : Addr) (n cap : Nat) (l : List UInt8) : Prop := n = l.length ∧ l.length ≤ 9223372036854775807 ∧ OwnsRow w (Rep.tid UInt8) 1 (.slice (some a) n cap) n (l.map fun b => Value.int .u8 b.toNat)
theorem bytesRows (l : List UInt8) : (l.map fun b => [Value.int .u8 b.toNat]).flatten = l.map fun b => Value.int .u8 b.toNat := flatten_one _ _
theorem OwnB.ownS {w : World} {a : Addr} {n cap : Nat} {l : List UInt8} (h : OwnB w a n cap l) : OwnS w (.slice (some a) n cap) l [a.block] := by
  obtain ⟨rfl, h1, h2⟩ := h
  refine ⟨l.map fun b => [Value.int .u8 b.toNat], List.replicate l.length [], by rw [bytesRows]; exact h2, h1, by simp, by simp, ?_, by simp [Value.ownBlock]⟩
  intro i x r f hx hr hf
  rw [List.getElem?_map, hx] at hr
  cases hr
  rw [List.getElem?_replicate] at hf
  split at hf
  · cases hf
    exact ⟨rfl, rfl⟩
  · cases hf
theorem OwnB.of {w : World} {a : Addr} {n cap : Nat} {l : List UInt8} {fp : List Nat} (h : OwnS w (.slice (some a) n cap) l fp) : OwnB w a n cap l := by
  have hn : n = l.length := by obtain ⟨_, _, e, _⟩ := h.repS; injection e
  obtain ⟨rows, fps, ho, hl, hrl, hfl, hel, rfl⟩ := h
  refine ⟨hn, hl, ?_⟩
  have e : rows = l.map fun b => [Value.int .u8 b.toNat] := by
    apply List.ext_getElem?
    intro i
    rw [List.getElem?_map]
    by_cases hi : i < l.length
    · have h1 : l[i]? = some l[i] := by simp [hi]
      have h2 : rows[i]? = some (rows[i]'(by omega)) := List.getElem?_eq_getElem (by omega)
      have h3 : fps[i]? = some (fps[i]'(by omega)) := List.getElem?_eq_getElem (by omega)
      have h4 := (hel i _ _ _ h1 h2 h3).1
      rw [h2, h1, h4]
      rfl
    · rw [List.getElem?_eq_none (by omega), List.getElem?_eq_none (by omega)]
      rfl
  rw [hn, ← bytesRows, ← e]
  rw [hn] at ho
  exact ho
theorem wpList_append_str {ops : Array Oper} {rest : List Oper} {o : Oper} {a : Act} {w : World} {Q : Exit → Act → World → Prop} (hw : Region.wanted o (yielded ops a.tmps) = true) (sl x : Operand) (t u : TypeId)
    (ho : o.op = .call { callee := .builtin .append, args := #[sl, x], argTypes := #[t, u] })
    (ht : P.underlying t = some (.slice (Rep.tid UInt8))) (hu : P.underlying u = some .string) (hi : (P.info? (Rep.tid UInt8)).map (fun i => (i.zero, i.size, i.bytes)) = some (some (.int .u8 0), 1, 1))
    (ad : Addr) (n cap : Nat) (l : List UInt8) (hs : a.eval sl = .slice (some ad) n cap) (hv : OwnB w ad n cap l) (s : ByteArray) (hx : a.eval x = .string s) (hbytes : l.length + s.size ≤ 140737488355328)
    (h : ∀ a' n' c' w', OwnB w' a' n' c' (l ++ s.data.toList) → w.grownBy w' (some ad.block) → (a'.block = ad.block ∨ a'.block = w.heap.size) → wpList P ops Q rest (a.put o.dst (.slice (some a') n' c')) w') :
    wpList P ops Q (o :: rest) a w := by
  obtain ⟨i, hi', hz, hsize, hby⟩ := info_parts hi
  obtain ⟨rfl, hl, hown⟩ := hv
  refine wpList_step fun K hK => ?_
  rw [if_pos hw]
  obtain ⟨a', c', w', hr, h2, h3, h4⟩ := run_append_row_str (P := P) w t u o.type (Rep.tid UInt8) i ht hu hi' hz hsize hby ad l.length cap _ hown s (by simp only [maxLen]; omega) hbytes
  unfold Oper.wp execOp
  simp only [ho, resolve, invoke, builtin, Sem.run_bind, Sem.run_pure, Result.andThen_ok, List.map_toArray, List.map_cons, List.map_nil, hs, hx, hr]
  have hsl : s.data.toList.length = s.size := Array.length_toList
  refine hK _ _ (h a' _ c' w' ⟨by rw [List.length_append, hsl], by rw [List.length_append, hsl]; omega, ?_⟩ h3 h4)
  rw [List.map_append]
  exact h2
theorem OwnB.grow {w w' : World} {a : Addr} {n cap : Nat} {l : List UInt8} (h : OwnB w a n cap l) (hb : Below w.heap.size w w') : OwnB w' a n cap l := OwnB.of (h.ownS.grow hb)
theorem OwnB.lt {w : World} {a : Addr} {n cap : Nat} {l : List UInt8} (h : OwnB w a n cap l) : a.block < w.heap.size := h.ownS.lt a.block (by simp)
theorem wpList_append_bytes {ops : Array Oper} {rest : List Oper} {o : Oper} {a : Act} {w : World} {Q : Exit → Act → World → Prop} (hw : Region.wanted o (yielded ops a.tmps) = true) (sl x : Operand) (t : TypeId)
    (ho : o.op = .call { callee := .builtin .append, args := #[sl, x], argTypes := #[t, t] })
    (ht : P.underlying t = some (.slice (Rep.tid UInt8))) (hi : (P.info? (Rep.tid UInt8)).map (fun i => (i.zero, i.size, i.bytes)) = some (some (.int .u8 0), 1, 1))
    (ad : Addr) (n cap : Nat) (l : List UInt8) (hs : a.eval sl = .slice (some ad) n cap) (hv : OwnB w ad n cap l) (h0 : 0 < l.length) (xa : Option Addr) (xn xc : Nat) (l2 : List UInt8) (hx : a.eval x = .slice xa xn xc) (hr2 : RepS w (.slice xa xn xc) l2) (hbytes : l.length + l2.length ≤ 140737488355328)
    (h : ∀ a' n' c' w', OwnB w' a' n' c' (l ++ l2) → w.grownBy w' (some ad.block) → (a'.block = ad.block ∨ a'.block = w.heap.size) → wpList P ops Q rest (a.put o.dst (.slice (some a') n' c')) w') :
    wpList P ops Q (o :: rest) a w := by
  obtain ⟨rows, fps, hR, hf, hC⟩ := RepS.rows (by decide) hr2
  have hxn : xn = l2.length := by obtain ⟨_, _, e, _⟩ := hr2; injection e
  refine wpList_append_rep (α := UInt8) hw sl x t ho (Rep.tid UInt8) (.int .u8 0) 1 ht hi rfl rfl (by decide) _ l [ad.block] hs hv.ownS xa xn xc hx l2 hxn rows fps hR (by rw [hf]; simp) hC (fun _ => .inr trivial) (by omega) (by omega) ?_
  intro v' w' fp' HO' HN' HF' HG HOB
  obtain ⟨a', n', c', rfl⟩ := HO'.repS.shape
  cases a' with
  | none =>
    obtain ⟨rows0, fps0, ho0, _⟩ := HO'
    rcases ho0.2 with ⟨_, e⟩ | ⟨g, cap0, cur, e, _⟩
    · rw [List.length_append] at e; omega
    · cases e
  | some a' =>
    refine h a' n' c' w' (OwnB.of HO') HG ?_
    have hm : a'.block ∈ fp' := by
      obtain ⟨rows0, fps0, _, _, _, _, _, rfl⟩ := HO'
      simp [Value.ownBlock]
    rcases HF' _ hm with e | e | e
    · left; simpa using e
    · rw [hf] at e; simp at e
    · right; exact e
end
end Go.Mux
