/- What an argument of a law reads as: from the row's own reading to 'Rep'. -/
import Derived.Test.YtaobgfneeijpmaaProg
import Derived.Test.YtaobgfneeijpmaaData
import Derived.ProofKit
import Derived.Deep.Slices
import Derived.OpenShut
set_option linter.unusedSimpArgs false
set_option linter.unusedVariables false
namespace Go.Mux
open Go.RowKit Go.Deep

/-- What is of type t in the row's reading reads as a datum of type α. -/
def ReadsAs (P : Program) (α : Type) [Rep α] (t : TypeId) : Prop :=
  ∀ (H : Type) (enc : TypeId × Value → H) (w : World) (base : Nat) (spare : Nat → Bool) (held : Bool) (fuel : Nat) (cs : List Value) (x : DataW H × List MemPlace),
    DataW.trod enc P w base spare held fuel t cs = some x → ∃ y : α, Rep.rep w cs y

theorem wf_I64 {n : Int} (h : (Lit.int .i64 n).wf = true) : I64 n := by
  have := bounds_i64 h
  exact this

theorem read_int {P : Program} {t : TypeId} (ht : P.underlying t = some (.int .i64)) : ReadsAs P Int t := by
  intro H enc w base spare held fuel cs x h
  obtain ⟨n, rfl, _, hw⟩ := DataW.trod_int ht h
  exact ⟨n, rfl, wf_I64 hw⟩
theorem read_bool {P : Program} {t : TypeId} (ht : P.underlying t = some .bool) : ReadsAs P Bool t := by
  intro H enc w base spare held fuel cs x h
  obtain ⟨b, rfl, _⟩ := DataW.trod_bool ht h
  exact ⟨b, rfl⟩
theorem read_string {P : Program} {t : TypeId} (ht : P.underlying t = some .string) : ReadsAs P ByteArray t := by
  intro H enc w base spare held fuel cs x h
  obtain ⟨s, rfl, _, hs⟩ := DataW.trod_string ht h
  exact ⟨s, rfl, hs⟩
theorem read_byte {P : Program} {t : TypeId} (ht : P.underlying t = some (.int .u8)) : ReadsAs P UInt8 t := by
  intro H enc w base spare held fuel cs x h
  obtain ⟨n, rfl, _, hw⟩ := DataW.trod_int ht h
  have hb := bounds_u8 hw
  refine ⟨UInt8.ofNat n.toNat, ?_⟩
  have e : (UInt8.ofNat n.toNat).toNat = n.toNat := by rw [UInt8.toNat_ofNat']; omega
  show [Value.int .u8 n] = [Value.int .u8 _]
  rw [e]
  congr
  omega

theorem read_slice {P : Program} {α : Type} [Rep α] {t e : TypeId} (ht : P.underlying t = some (.slice e)) (hC : P.cellsOf e = Rep.size α) (hp : 0 < Rep.size α) (he : ReadsAs P α e) : ReadsAs P (List α) t := by
  intro H enc w base spare held fuel cs x h
  rcases open_slice ht h with ⟨rfl, _⟩ | ⟨⟨b, off, spot⟩, len, cap, m, n, D, Pl, rfl, hb, hl, hm, hmm, hx, hi⟩
  · exact ⟨[], _, rfl, RepS.nilSlice _ _ _⟩
  · have hlm : len ≤ m := by rw [hmm]; split <;> omega
    have hspot : 0 < len → spot = none := by
      intro h0
      obtain ⟨cs', hcs, htr⟩ := hi 0 (by omega)
      obtain ⟨_, hlen, hat⟩ := World.cells?_some hcs
      rw [hC] at hat hlen
      have hc := (hat 0 hp).trans (List.getElem?_eq_getElem (show 0 < cs'.length by omega))
      have := World.cell?_spot hc
      simpa [Addr.add] using this
    have H1 : ∀ i : Fin len, ∃ (y : α) (r : List Value), Rep.rep w r y ∧ ∀ (j : Nat) u, r[j]? = some u → w.cell? ⟨b, off + i.1 * Rep.size α + j, none⟩ = some u := by
      intro i
      obtain ⟨cs', hcs, htr⟩ := hi i.1 (by omega)
      obtain ⟨y, hy⟩ := he _ _ _ _ _ _ _ _ _ htr
      obtain ⟨_, hlen, hat⟩ := World.cells?_some hcs
      rw [hC] at hlen hat
      obtain rfl := hspot (Nat.lt_of_le_of_lt (Nat.zero_le _) i.2)
      refine ⟨y, cs', hy, fun j u hu => ?_⟩
      have hj : j < Rep.size α := by
        have : j < cs'.length := by rw [List.getElem?_eq_some_iff] at hu; exact hu.1
        omega
      have hc := (hat j hj).trans hu
      rw [addr_add, addr_add] at hc
      exact hc
    have hm' : len ≤ 9223372036854775807 := by
      exact Nat.le_trans hl hm
    refine ⟨List.ofFn fun i => (H1 i).choose, _, rfl, some ⟨b, off, spot⟩, cap, by simp, ⟨by simpa using hm', by simpa using hl⟩, fun hne => ?_⟩
    have h0 : 0 < len := by
      rcases Nat.eq_zero_or_pos len with h0 | h0
      · subst h0; simp at hne
      · exact h0
    obtain rfl := hspot h0
    refine ⟨b, off, rfl, fun i y hy => ?_⟩
    have hi' : i < len := by
      have : i < (List.ofFn fun i => (H1 i).choose).length := by rw [List.getElem?_eq_some_iff] at hy; exact hy.1
      simpa using this
    have hy' : y = (H1 ⟨i, hi'⟩).choose := by
      rw [List.getElem?_ofFn] at hy
      simp [hi'] at hy
      exact hy.symm
    rw [hy']
    exact (H1 ⟨i, hi'⟩).choose_spec

theorem rep_cons {α β : Type} [Rep α] [Rep β] {w : World} {cs : List Value} {a : α} {b : β} {o o' s : Nat} (ho : o' = o + s) (h1 : Rep.rep w ((cs.drop o).take s) a) (h2 : Rep.rep w (cs.drop o') b) : Rep.rep w (cs.drop o) (a, b) :=
  ⟨_, _, (by rw [ho, ← List.drop_drop]; exact (List.take_append_drop s _).symm), h1, h2⟩
theorem rep_last {α : Type} [Rep α] {w : World} {cs : List Value} {a : α} {o s : Nat} (h : cs.length = o + s) (h1 : Rep.rep w ((cs.drop o).take s) a) : Rep.rep w (cs.drop o) a := by
  rw [List.take_of_length_le (by simp; omega)] at h1
  exact h1
end Go.Mux
namespace Go.Proofs.Ytaobgfneeijpmaa
open Go.RowKit Go.Mux
theorem read_int' : ReadsAs Try.prog Int 3 := read_int Try.underlying3
theorem read_bool' : ReadsAs Try.prog Bool 4 := read_bool Try.underlying4
theorem read_string' : ReadsAs Try.prog ByteArray 9 := read_string Try.underlying9
theorem read_byte' : ReadsAs Try.prog UInt8 5 := read_byte Try.underlying5
theorem read_ByteS : ReadsAs Try.prog (List UInt8) 22 := read_slice Try.underlying22 (by kernel_rfl) (of_decide_eq_true (by kernel_rfl)) read_byte'
theorem read_IntS : ReadsAs Try.prog (List Int) 28 := read_slice Try.underlying28 (by kernel_rfl) (of_decide_eq_true (by kernel_rfl)) read_int'
set_option maxRecDepth 100000 in
theorem read_Attr : ReadsAs Try.prog DAttr 45 := by
  intro H enc w base spare held fuel cs x h
  obtain ⟨xs, n, _, _, hC, hl, hf⟩ := DataW.trod_struct Try.underlying45 h
  have hC' : Try.prog.cellsOf 45 = 5 := by kernel_rfl
  rw [hC'] at hC
  have c0 : Try.prog.cellsOf 3 = 1 := by kernel_rfl
  have g0 := hf 0 _ rfl
  change DataW.trod enc Try.prog w base spare held n 3 ((cs.drop 0).take (Try.prog.cellsOf 3)) = _ at g0
  rw [c0] at g0
  rw [List.getElem?_eq_getElem (show 0 < xs.length by rw [hl]; decide)] at g0
  obtain ⟨y0, r0⟩ := read_int' _ _ _ _ _ _ _ _ _ g0
  have c1 : Try.prog.cellsOf 3 = 1 := by kernel_rfl
  have g1 := hf 1 _ rfl
  change DataW.trod enc Try.prog w base spare held n 3 ((cs.drop 1).take (Try.prog.cellsOf 3)) = _ at g1
  rw [c1] at g1
  rw [List.getElem?_eq_getElem (show 1 < xs.length by rw [hl]; decide)] at g1
  obtain ⟨y1, r1⟩ := read_int' _ _ _ _ _ _ _ _ _ g1
  have c2 : Try.prog.cellsOf 4 = 1 := by kernel_rfl
  have g2 := hf 2 _ rfl
  change DataW.trod enc Try.prog w base spare held n 4 ((cs.drop 2).take (Try.prog.cellsOf 4)) = _ at g2
  rw [c2] at g2
  rw [List.getElem?_eq_getElem (show 2 < xs.length by rw [hl]; decide)] at g2
  obtain ⟨y2, r2⟩ := read_bool' _ _ _ _ _ _ _ _ _ g2
  have c3 : Try.prog.cellsOf 4 = 1 := by kernel_rfl
  have g3 := hf 3 _ rfl
  change DataW.trod enc Try.prog w base spare held n 4 ((cs.drop 3).take (Try.prog.cellsOf 4)) = _ at g3
  rw [c3] at g3
  rw [List.getElem?_eq_getElem (show 3 < xs.length by rw [hl]; decide)] at g3
  obtain ⟨y3, r3⟩ := read_bool' _ _ _ _ _ _ _ _ _ g3
  have c4 : Try.prog.cellsOf 4 = 1 := by kernel_rfl
  have g4 := hf 4 _ rfl
  change DataW.trod enc Try.prog w base spare held n 4 ((cs.drop 4).take (Try.prog.cellsOf 4)) = _ at g4
  rw [c4] at g4
  rw [List.getElem?_eq_getElem (show 4 < xs.length by rw [hl]; decide)] at g4
  obtain ⟨y4, r4⟩ := read_bool' _ _ _ _ _ _ _ _ _ g4
  exact ⟨⟨y0, y1, y2, y3, y4⟩, (show Rep.rep w (cs.drop 0) _ from (rep_cons rfl r0 (rep_cons rfl r1 (rep_cons rfl r2 (rep_cons rfl r3 (rep_last (by omega) r4))))))⟩
set_option maxRecDepth 100000 in
theorem read_Cell : ReadsAs Try.prog DCell 124 := by
  intro H enc w base spare held fuel cs x h
  obtain ⟨xs, n, _, _, hC, hl, hf⟩ := DataW.trod_struct Try.underlying124 h
  have hC' : Try.prog.cellsOf 124 = 6 := by kernel_rfl
  rw [hC'] at hC
  have c0 : Try.prog.cellsOf 3 = 1 := by kernel_rfl
  have g0 := hf 0 _ rfl
  change DataW.trod enc Try.prog w base spare held n 3 ((cs.drop 0).take (Try.prog.cellsOf 3)) = _ at g0
  rw [c0] at g0
  rw [List.getElem?_eq_getElem (show 0 < xs.length by rw [hl]; decide)] at g0
  obtain ⟨y0, r0⟩ := read_int' _ _ _ _ _ _ _ _ _ g0
  have c1 : Try.prog.cellsOf 45 = 5 := by kernel_rfl
  have g1 := hf 1 _ rfl
  change DataW.trod enc Try.prog w base spare held n 45 ((cs.drop 1).take (Try.prog.cellsOf 45)) = _ at g1
  rw [c1] at g1
  rw [List.getElem?_eq_getElem (show 1 < xs.length by rw [hl]; decide)] at g1
  obtain ⟨y1, r1⟩ := read_Attr _ _ _ _ _ _ _ _ _ g1
  exact ⟨⟨y0, y1⟩, (show Rep.rep w (cs.drop 0) _ from (rep_cons rfl r0 (rep_last (by omega) r1)))⟩
theorem read_CellS : ReadsAs Try.prog (List DCell) 42 := read_slice Try.underlying42 (by kernel_rfl) (of_decide_eq_true (by kernel_rfl)) read_Cell
set_option maxRecDepth 100000 in
theorem read_Grid : ReadsAs Try.prog DGrid 44 := by
  intro H enc w base spare held fuel cs x h
  obtain ⟨xs, n, _, _, hC, hl, hf⟩ := DataW.trod_struct Try.underlying44 h
  have hC' : Try.prog.cellsOf 44 = 3 := by kernel_rfl
  rw [hC'] at hC
  have c0 : Try.prog.cellsOf 3 = 1 := by kernel_rfl
  have g0 := hf 0 _ rfl
  change DataW.trod enc Try.prog w base spare held n 3 ((cs.drop 0).take (Try.prog.cellsOf 3)) = _ at g0
  rw [c0] at g0
  rw [List.getElem?_eq_getElem (show 0 < xs.length by rw [hl]; decide)] at g0
  obtain ⟨y0, r0⟩ := read_int' _ _ _ _ _ _ _ _ _ g0
  have c1 : Try.prog.cellsOf 3 = 1 := by kernel_rfl
  have g1 := hf 1 _ rfl
  change DataW.trod enc Try.prog w base spare held n 3 ((cs.drop 1).take (Try.prog.cellsOf 3)) = _ at g1
  rw [c1] at g1
  rw [List.getElem?_eq_getElem (show 1 < xs.length by rw [hl]; decide)] at g1
  obtain ⟨y1, r1⟩ := read_int' _ _ _ _ _ _ _ _ _ g1
  have c2 : Try.prog.cellsOf 42 = 1 := by kernel_rfl
  have g2 := hf 2 _ rfl
  change DataW.trod enc Try.prog w base spare held n 42 ((cs.drop 2).take (Try.prog.cellsOf 42)) = _ at g2
  rw [c2] at g2
  rw [List.getElem?_eq_getElem (show 2 < xs.length by rw [hl]; decide)] at g2
  obtain ⟨y2, r2⟩ := read_CellS _ _ _ _ _ _ _ _ _ g2
  exact ⟨⟨y0, y1, y2⟩, (show Rep.rep w (cs.drop 0) _ from (rep_cons rfl r0 (rep_cons rfl r1 (rep_last (by omega) r2))))⟩
set_option maxRecDepth 100000 in
theorem read_Row : ReadsAs Try.prog DRow 107 := by
  intro H enc w base spare held fuel cs x h
  obtain ⟨xs, n, _, _, hC, hl, hf⟩ := DataW.trod_struct Try.underlying107 h
  have hC' : Try.prog.cellsOf 107 = 1 := by kernel_rfl
  rw [hC'] at hC
  have c0 : Try.prog.cellsOf 42 = 1 := by kernel_rfl
  have g0 := hf 0 _ rfl
  change DataW.trod enc Try.prog w base spare held n 42 ((cs.drop 0).take (Try.prog.cellsOf 42)) = _ at g0
  rw [c0] at g0
  rw [List.getElem?_eq_getElem (show 0 < xs.length by rw [hl]; decide)] at g0
  obtain ⟨y0, r0⟩ := read_CellS _ _ _ _ _ _ _ _ _ g0
  exact ⟨⟨y0⟩, (show Rep.rep w (cs.drop 0) _ from (rep_last (by omega) r0))⟩
theorem read_RowS : ReadsAs Try.prog (List DRow) 46 := read_slice Try.underlying46 (by kernel_rfl) (of_decide_eq_true (by kernel_rfl)) read_Row
set_option maxRecDepth 100000 in
theorem read_Scr : ReadsAs Try.prog DScr 48 := by
  intro H enc w base spare held fuel cs x h
  obtain ⟨xs, n, _, _, hC, hl, hf⟩ := DataW.trod_struct Try.underlying48 h
  have hC' : Try.prog.cellsOf 48 = 31 := by kernel_rfl
  rw [hC'] at hC
  have c0 : Try.prog.cellsOf 3 = 1 := by kernel_rfl
  have g0 := hf 0 _ rfl
  change DataW.trod enc Try.prog w base spare held n 3 ((cs.drop 0).take (Try.prog.cellsOf 3)) = _ at g0
  rw [c0] at g0
  rw [List.getElem?_eq_getElem (show 0 < xs.length by rw [hl]; decide)] at g0
  obtain ⟨y0, r0⟩ := read_int' _ _ _ _ _ _ _ _ _ g0
  have c1 : Try.prog.cellsOf 3 = 1 := by kernel_rfl
  have g1 := hf 1 _ rfl
  change DataW.trod enc Try.prog w base spare held n 3 ((cs.drop 1).take (Try.prog.cellsOf 3)) = _ at g1
  rw [c1] at g1
  rw [List.getElem?_eq_getElem (show 1 < xs.length by rw [hl]; decide)] at g1
  obtain ⟨y1, r1⟩ := read_int' _ _ _ _ _ _ _ _ _ g1
  have c2 : Try.prog.cellsOf 44 = 3 := by kernel_rfl
  have g2 := hf 2 _ rfl
  change DataW.trod enc Try.prog w base spare held n 44 ((cs.drop 2).take (Try.prog.cellsOf 44)) = _ at g2
  rw [c2] at g2
  rw [List.getElem?_eq_getElem (show 2 < xs.length by rw [hl]; decide)] at g2
  obtain ⟨y2, r2⟩ := read_Grid _ _ _ _ _ _ _ _ _ g2
  have c3 : Try.prog.cellsOf 44 = 3 := by kernel_rfl
  have g3 := hf 3 _ rfl
  change DataW.trod enc Try.prog w base spare held n 44 ((cs.drop 5).take (Try.prog.cellsOf 44)) = _ at g3
  rw [c3] at g3
  rw [List.getElem?_eq_getElem (show 3 < xs.length by rw [hl]; decide)] at g3
  obtain ⟨y3, r3⟩ := read_Grid _ _ _ _ _ _ _ _ _ g3
  have c4 : Try.prog.cellsOf 4 = 1 := by kernel_rfl
  have g4 := hf 4 _ rfl
  change DataW.trod enc Try.prog w base spare held n 4 ((cs.drop 8).take (Try.prog.cellsOf 4)) = _ at g4
  rw [c4] at g4
  rw [List.getElem?_eq_getElem (show 4 < xs.length by rw [hl]; decide)] at g4
  obtain ⟨y4, r4⟩ := read_bool' _ _ _ _ _ _ _ _ _ g4
  have c5 : Try.prog.cellsOf 3 = 1 := by kernel_rfl
  have g5 := hf 5 _ rfl
  change DataW.trod enc Try.prog w base spare held n 3 ((cs.drop 9).take (Try.prog.cellsOf 3)) = _ at g5
  rw [c5] at g5
  rw [List.getElem?_eq_getElem (show 5 < xs.length by rw [hl]; decide)] at g5
  obtain ⟨y5, r5⟩ := read_int' _ _ _ _ _ _ _ _ _ g5
  have c6 : Try.prog.cellsOf 3 = 1 := by kernel_rfl
  have g6 := hf 6 _ rfl
  change DataW.trod enc Try.prog w base spare held n 3 ((cs.drop 10).take (Try.prog.cellsOf 3)) = _ at g6
  rw [c6] at g6
  rw [List.getElem?_eq_getElem (show 6 < xs.length by rw [hl]; decide)] at g6
  obtain ⟨y6, r6⟩ := read_int' _ _ _ _ _ _ _ _ _ g6
  have c7 : Try.prog.cellsOf 4 = 1 := by kernel_rfl
  have g7 := hf 7 _ rfl
  change DataW.trod enc Try.prog w base spare held n 4 ((cs.drop 11).take (Try.prog.cellsOf 4)) = _ at g7
  rw [c7] at g7
  rw [List.getElem?_eq_getElem (show 7 < xs.length by rw [hl]; decide)] at g7
  obtain ⟨y7, r7⟩ := read_bool' _ _ _ _ _ _ _ _ _ g7
  have c8 : Try.prog.cellsOf 45 = 5 := by kernel_rfl
  have g8 := hf 8 _ rfl
  change DataW.trod enc Try.prog w base spare held n 45 ((cs.drop 12).take (Try.prog.cellsOf 45)) = _ at g8
  rw [c8] at g8
  rw [List.getElem?_eq_getElem (show 8 < xs.length by rw [hl]; decide)] at g8
  obtain ⟨y8, r8⟩ := read_Attr _ _ _ _ _ _ _ _ _ g8
  have c9 : Try.prog.cellsOf 3 = 1 := by kernel_rfl
  have g9 := hf 9 _ rfl
  change DataW.trod enc Try.prog w base spare held n 3 ((cs.drop 17).take (Try.prog.cellsOf 3)) = _ at g9
  rw [c9] at g9
  rw [List.getElem?_eq_getElem (show 9 < xs.length by rw [hl]; decide)] at g9
  obtain ⟨y9, r9⟩ := read_int' _ _ _ _ _ _ _ _ _ g9
  have c10 : Try.prog.cellsOf 3 = 1 := by kernel_rfl
  have g10 := hf 10 _ rfl
  change DataW.trod enc Try.prog w base spare held n 3 ((cs.drop 18).take (Try.prog.cellsOf 3)) = _ at g10
  rw [c10] at g10
  rw [List.getElem?_eq_getElem (show 10 < xs.length by rw [hl]; decide)] at g10
  obtain ⟨y10, r10⟩ := read_int' _ _ _ _ _ _ _ _ _ g10
  have c11 : Try.prog.cellsOf 4 = 1 := by kernel_rfl
  have g11 := hf 11 _ rfl
  change DataW.trod enc Try.prog w base spare held n 4 ((cs.drop 19).take (Try.prog.cellsOf 4)) = _ at g11
  rw [c11] at g11
  rw [List.getElem?_eq_getElem (show 11 < xs.length by rw [hl]; decide)] at g11
  obtain ⟨y11, r11⟩ := read_bool' _ _ _ _ _ _ _ _ _ g11
  have c12 : Try.prog.cellsOf 4 = 1 := by kernel_rfl
  have g12 := hf 12 _ rfl
  change DataW.trod enc Try.prog w base spare held n 4 ((cs.drop 20).take (Try.prog.cellsOf 4)) = _ at g12
  rw [c12] at g12
  rw [List.getElem?_eq_getElem (show 12 < xs.length by rw [hl]; decide)] at g12
  obtain ⟨y12, r12⟩ := read_bool' _ _ _ _ _ _ _ _ _ g12
  have c13 : Try.prog.cellsOf 3 = 1 := by kernel_rfl
  have g13 := hf 13 _ rfl
  change DataW.trod enc Try.prog w base spare held n 3 ((cs.drop 21).take (Try.prog.cellsOf 3)) = _ at g13
  rw [c13] at g13
  rw [List.getElem?_eq_getElem (show 13 < xs.length by rw [hl]; decide)] at g13
  obtain ⟨y13, r13⟩ := read_int' _ _ _ _ _ _ _ _ _ g13
  have c14 : Try.prog.cellsOf 3 = 1 := by kernel_rfl
  have g14 := hf 14 _ rfl
  change DataW.trod enc Try.prog w base spare held n 3 ((cs.drop 22).take (Try.prog.cellsOf 3)) = _ at g14
  rw [c14] at g14
  rw [List.getElem?_eq_getElem (show 14 < xs.length by rw [hl]; decide)] at g14
  obtain ⟨y14, r14⟩ := read_int' _ _ _ _ _ _ _ _ _ g14
  have c15 : Try.prog.cellsOf 45 = 5 := by kernel_rfl
  have g15 := hf 15 _ rfl
  change DataW.trod enc Try.prog w base spare held n 45 ((cs.drop 23).take (Try.prog.cellsOf 45)) = _ at g15
  rw [c15] at g15
  rw [List.getElem?_eq_getElem (show 15 < xs.length by rw [hl]; decide)] at g15
  obtain ⟨y15, r15⟩ := read_Attr _ _ _ _ _ _ _ _ _ g15
  have c16 : Try.prog.cellsOf 28 = 1 := by kernel_rfl
  have g16 := hf 16 _ rfl
  change DataW.trod enc Try.prog w base spare held n 28 ((cs.drop 28).take (Try.prog.cellsOf 28)) = _ at g16
  rw [c16] at g16
  rw [List.getElem?_eq_getElem (show 16 < xs.length by rw [hl]; decide)] at g16
  obtain ⟨y16, r16⟩ := read_IntS _ _ _ _ _ _ _ _ _ g16
  have c17 : Try.prog.cellsOf 3 = 1 := by kernel_rfl
  have g17 := hf 17 _ rfl
  change DataW.trod enc Try.prog w base spare held n 3 ((cs.drop 29).take (Try.prog.cellsOf 3)) = _ at g17
  rw [c17] at g17
  rw [List.getElem?_eq_getElem (show 17 < xs.length by rw [hl]; decide)] at g17
  obtain ⟨y17, r17⟩ := read_int' _ _ _ _ _ _ _ _ _ g17
  have c18 : Try.prog.cellsOf 46 = 1 := by kernel_rfl
  have g18 := hf 18 _ rfl
  change DataW.trod enc Try.prog w base spare held n 46 ((cs.drop 30).take (Try.prog.cellsOf 46)) = _ at g18
  rw [c18] at g18
  rw [List.getElem?_eq_getElem (show 18 < xs.length by rw [hl]; decide)] at g18
  obtain ⟨y18, r18⟩ := read_RowS _ _ _ _ _ _ _ _ _ g18
  exact ⟨⟨y0, y1, y2, y3, y4, y5, y6, y7, y8, y9, y10, y11, y12, y13, y14, y15, y16, y17, y18⟩, (show Rep.rep w (cs.drop 0) _ from (rep_cons rfl r0 (rep_cons rfl r1 (rep_cons rfl r2 (rep_cons rfl r3 (rep_cons rfl r4 (rep_cons rfl r5 (rep_cons rfl r6 (rep_cons rfl r7 (rep_cons rfl r8 (rep_cons rfl r9 (rep_cons rfl r10 (rep_cons rfl r11 (rep_cons rfl r12 (rep_cons rfl r13 (rep_cons rfl r14 (rep_cons rfl r15 (rep_cons rfl r16 (rep_cons rfl r17 (rep_last (by omega) r18))))))))))))))))))))⟩
end Go.Proofs.Ytaobgfneeijpmaa
