/- Map literals with texts for keys: an entry put in, a look-up, as equations at one map in memory; the kinds of steps by their words. -/
import Derived.Test.YtjglknaojfnllaaDoorTxtP
import Derived.WideMake
set_option linter.unusedSimpArgs false
set_option linter.unusedVariables false
namespace Go.Mux
open Go.RowKit
section
variable {P : Program}
theorem map_insert_str {t kt et : TypeId} (hm : P.underlying t = some (.map kt et)) (hk : P.underlying kt = some .string) (w : World) (r : Nat) (es : Array MapEntry) (clock : Nat) (k : ByteArray) (v : Value)
    (hb : w.heap[r]? = some (.map es clock)) (hf : Instr.findNow .string (.string k) es.toList 0 = some none) :
    ∃ w', (Instr.mapUpdate t (.map (some r)) (.string k) v).run P w = .ok () w' ∧ w'.heap[r]? = some (.map (es.push { key := .string k, val := v, born := clock }) (clock + 1)) ∧ Below r w w' ∧ w'.heap.size = w.heap.size := by
  have hc : (Instr.checkKey false 10000 kt (.string k)).run P w = .ok () w := MapKept.run_checkKey (k := .string k) hk (by simp [MapKept.IsKey]) false 9999
  have hr : r < w.heap.size := (Array.getElem?_eq_some_iff.1 hb).1
  refine ⟨{ w with heap := w.heap.setIfInBounds r (.map (es.push { key := .string k, val := v, born := clock }) (clock + 1)) }, ?_, by simp [hr], ⟨rfl, rfl, rfl, by simp, fun b hb => ?_⟩, by simp⟩
  · simp [Instr.mapUpdate, run_underlying hm, MapKept.run_getObj_map hb, hc, MapKept.run_findKey hk hf, MapKept.run_setObj_map _ hb, Result.andThen]
  · show (w.heap.setIfInBounds r _)[b]? = _
    rw [Array.getElem?_setIfInBounds_ne (by omega)]
theorem map_lookup_str {t kt et : TypeId} (hm : P.underlying t = some (.map kt et)) (hk : P.underlying kt = some .string) (w : World) (r : Nat) (es : Array MapEntry) (clock : Nat) (k : ByteArray) (i : Nat) (v : Value)
    (hb : w.heap[r]? = some (.map es clock)) (hf : Instr.findNow .string (.string k) es.toList 0 = some (some (i, v))) :
    (Instr.lookup t (.map (some r)) (.string k) false).run P w = .ok v w := by
  have hc : (Instr.checkKey es.isEmpty 10000 kt (.string k)).run P w = .ok () w := MapKept.run_checkKey (k := .string k) hk (by simp [MapKept.IsKey]) _ 9999
  simp [Instr.lookup, run_underlying hm, MapKept.run_getObj_map hb, hc, MapKept.run_findKey hk hf, Result.andThen]
theorem map_lookup_none {t kt et : TypeId} (hm : P.underlying t = some (.map kt et)) (hk : P.underlying kt = some .string) (w : World) (r : Nat) (es : Array MapEntry) (clock : Nat) (k : ByteArray) (v : Value)
    (hb : w.heap[r]? = some (.map es clock)) (hf : Instr.findNow .string (.string k) es.toList 0 = some none) (hz : (zeroValue et).run P w = .ok v w) :
    (Instr.lookup t (.map (some r)) (.string k) false).run P w = .ok v w := by
  have hc : (Instr.checkKey es.isEmpty 10000 kt (.string k)).run P w = .ok () w := MapKept.run_checkKey (k := .string k) hk (by simp [MapKept.IsKey]) _ 9999
  simp [Instr.lookup, run_underlying hm, MapKept.run_getObj_map hb, hc, MapKept.run_findKey hk hf, Result.andThen, hz]
end
/-- The words of steps and their kinds, as they come to lie in the map. -/
def kindEs : Array MapEntry := #[{ key := .string ⟨#[115, 116, 97, 114, 116]⟩, val := .int .i64 1, born := 0 }, { key := .string ⟨#[115, 121, 110, 99]⟩, val := .int .i64 2, born := 1 }, { key := .string ⟨#[112, 97, 99, 107]⟩, val := .int .i64 3, born := 2 }, { key := .string ⟨#[99, 114, 97, 115, 104]⟩, val := .int .i64 4, born := 3 }, { key := .string ⟨#[112, 111, 119, 101, 114]⟩, val := .int .i64 5, born := 4 }, { key := .string ⟨#[108, 105, 110, 101]⟩, val := .int .i64 6, born := 5 }, { key := .string ⟨#[111, 117, 116]⟩, val := .int .i64 7, born := 6 }, { key := .string ⟨#[101, 110, 100]⟩, val := .int .i64 8, born := 7 }]
theorem kind_find (k : ByteArray) : (∃ i, Instr.findNow .string (.string k) kindEs.toList 0 = some (some (i, .int .i64 (kindOf k)))) ∨ (Instr.findNow .string (.string k) kindEs.toList 0 = some none ∧ kindOf k = 0) := by
  by_cases h1 : k = ⟨#[115, 116, 97, 114, 116]⟩
  · subst h1; exact .inl ⟨0, by unfold kindOf; rfl⟩
  by_cases h2 : k = ⟨#[115, 121, 110, 99]⟩
  · subst h2; exact .inl ⟨1, by unfold kindOf; rfl⟩
  by_cases h3 : k = ⟨#[112, 97, 99, 107]⟩
  · subst h3; exact .inl ⟨2, by unfold kindOf; rfl⟩
  by_cases h4 : k = ⟨#[99, 114, 97, 115, 104]⟩
  · subst h4; exact .inl ⟨3, by unfold kindOf; rfl⟩
  by_cases h5 : k = ⟨#[112, 111, 119, 101, 114]⟩
  · subst h5; exact .inl ⟨4, by unfold kindOf; rfl⟩
  by_cases h6 : k = ⟨#[108, 105, 110, 101]⟩
  · subst h6; exact .inl ⟨5, by unfold kindOf; rfl⟩
  by_cases h7 : k = ⟨#[111, 117, 116]⟩
  · subst h7; exact .inl ⟨6, by unfold kindOf; rfl⟩
  by_cases h8 : k = ⟨#[101, 110, 100]⟩
  · subst h8; exact .inl ⟨7, by unfold kindOf; rfl⟩
  refine .inr ⟨?_, by unfold kindOf; rw [if_neg h1, if_neg h2, if_neg h3, if_neg h4, if_neg h5, if_neg h6, if_neg h7, if_neg h8]⟩
  rcases MapKept.findNow_spec (d := .string) (k := .string k) (by simp [MapKept.IsKey]) kindEs.toList 0 (by simp [kindEs, MapKept.IsKey]) with h | ⟨j, e, -, hj, he⟩
  · exact h.1
  · have hm := List.mem_of_getElem? hj
    simp only [kindEs, List.mem_cons, List.not_mem_nil, or_false] at hm
    exfalso
    rcases hm with rfl | rfl | rfl | rfl | rfl | rfl | rfl | rfl <;> injection he with he
    · exact h1 he.symm
    · exact h2 he.symm
    · exact h3 he.symm
    · exact h4 he.symm
    · exact h5 he.symm
    · exact h6 he.symm
    · exact h7 he.symm
    · exact h8 he.symm
theorem kind_lookup {P : Program} {t kt et : TypeId} (hm : P.underlying t = some (.map kt et)) (hk : P.underlying kt = some .string) (w : World) (r ck : Nat) (k : ByteArray) (hb : w.heap[r]? = some (.map kindEs ck)) (hz : (zeroValue et).run P w = .ok (.int .i64 0) w) :
    (Instr.lookup t (.map (some r)) (.string k) false).run P w = .ok (.int .i64 (kindOf k)) w := by
  rcases kind_find k with ⟨i, h⟩ | ⟨h, h0⟩
  · exact map_lookup_str hm hk w r kindEs ck k i _ hb h
  · rw [h0]; exact map_lookup_none hm hk w r kindEs ck k _ hb h hz
end Go.Mux
