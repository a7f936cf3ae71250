/- A text's parts between blanks: the reference's walk. -/
import Derived.Test.YtjglknaojfnllaaDoorFnWord
import Derived.Test.YtjglknaojfnllaaDoorFlatApp
set_option linter.unusedSimpArgs false
set_option linter.unusedVariables false
namespace Go.Mux
open Go.RowKit
def partsL : List UInt8 → List UInt8 → List (List UInt8)
  | cur, [] => [cur]
  | cur, b :: l => if b = 32 then cur :: partsL [] l else partsL (cur ++ [b]) l
def partsOf (s : ByteArray) : List ByteArray := (partsL [] s.data.toList).map fun l => ⟨l.toArray⟩
theorem partsL_len (l : List UInt8) : ∀ cur, (partsL cur l).length = 1 + l.count 32 := by
  induction l with
  | nil => intro cur; simp [partsL]
  | cons b l ih =>
    intro cur
    unfold partsL
    split
    · next h => subst h; rw [List.length_cons, ih]; simp; omega
    · next h => rw [ih, List.count_cons_of_ne h]
theorem partsOf_len (s : ByteArray) : (partsOf s).length = 1 + s.data.toList.count 32 := by unfold partsOf; rw [List.length_map, partsL_len]
theorem partsOf_many (s : ByteArray) : decide (1 < (partsOf s).length) = hasByte s 32 := by
  rw [partsOf_len, Bool.eq_iff_iff]
  unfold hasByte
  simp only [decide_eq_true_eq]
  rw [← List.count_pos_iff]
  omega
theorem extract_data (s : ByteArray) {f k : Nat} (h1 : f ≤ k) (h2 : k ≤ s.size) : (s.extract f k).data.toList = (s.data.toList.take k).drop f := by
  rw [ByteArray.data_extract, Array.toList_extract]
  simp [List.extract_eq_take_drop, List.drop_take]
end Go.Mux
namespace Go.Proofs.YtjglknaojfnllaaDoor
open Go.RowKit Go.Mux
set_option maxRecDepth 100000 in
set_option maxHeartbeats 2000000 in
theorem spec_Parts (w : World) (s : ByteArray) (hs : s.size ≤ 1048576) : Calls Tryd.prog 15 #[.string s] w (Gives w fun r w' => FreshS w.heap.size w' r (partsOf s)) := by
  have info_str : (Tryd.prog.info? 9).map (fun i => (i.zero, i.size, i.bytes)) = some (some (.string ByteArray.empty), 1, 16) := by kernel_rfl
  have INFO := Lib.hid info_str
  clear info_str
  have HO := Lib.hid (show FreshS (α := ByteArray) w.heap.size (w.alloc (Obj.cells #[] 9)) (.slice (some ⟨w.heap.size, 0, none⟩) 0 0) [] from ⟨[w.heap.size], OwnS.empty rfl (heap_alloc_new w _), by simp, by simp⟩)
  have hdl := data_len s
  go_enter Tryd.func15, Tryd.ntmps15
  go_wp2_with fail
  go_loopw [3, 4, 5] (fun o fs ks wr => ∃ (f k : Nat) (done : List ByteArray), f ≤ k ∧ k ≤ s.size ∧ fs = .int .i64 (f : Int) ∧ ks = .int .i64 (k : Int) ∧ done.length ≤ k ∧ Hid (FreshS w.heap.size wr o done) ∧ Hid (partsL [] s.data.toList = done.map (·.data.toList) ++ partsL ((s.data.toList.take k).drop f) (s.data.toList.drop k)) ∧ Hid (Below w.heap.size w wr)) (fun _ _ ks _ => s.size - (intOf ks).toNat)
  case atStart => exact ⟨0, 0, [], by omega, by omega, rfl, rfl, by simp, HO.out, by show _ = _; simp, bel_alloc (Below.refl _ _) _⟩
  case round =>
    obtain ⟨f, k, done, hfk, hk, rfl, rfl, hdn, HF, HE, HB⟩ := hrel
    clear HO
    by_cases hlt : k < s.size
    · have d1 : decide ((k : Int) < (s.size : Int)) = true := decide_eq_true (by omega)
      have k0 : (0 : Int) ≤ (k : Int) := by omega
      have k1 : (k : Int) < (s.size : Int) := by omega
      have f0 : (0 : Int) ≤ (f : Int) := by omega
      have f1 : (f : Int) ≤ (k : Int) := by omega
      have k2 : (k : Int) ≤ (s.size : Int) := by omega
      have HAT := Lib.hid (byte_get s hlt)
      obtain ⟨x, hx⟩ : ∃ x, s[k]'hlt = x := ⟨_, rfl⟩
      rw [hx] at HAT
      have HD := Lib.hid (show s.data.toList.drop k = x :: s.data.toList.drop (k + 1) from by
        have h := HAT.out
        rw [List.getElem?_eq_getElem (by omega)] at h
        rw [List.drop_eq_getElem_cons (by omega), Option.some.inj h])
      have HTK := Lib.hid (show (s.data.toList.take (k + 1)).drop f = (s.data.toList.take k).drop f ++ [x] from by
        rw [List.take_add_one, HAT.out, List.drop_append_of_le_length (by rw [List.length_take]; omega)]; rfl)
      by_cases hsp : x = 32
      · have d3 : ((x.toNat : Int) == 32) = true := by rw [hsp]; rfl
        have HE2 := Lib.hid (show partsL [] s.data.toList = (done ++ [s.extract f k]).map (·.data.toList) ++ partsL ((s.data.toList.take (k + 1)).drop (k + 1)) (s.data.toList.drop (k + 1)) from by
          rw [HE.out, HD.out, partsL, if_pos hsp, List.map_append, List.map_cons, List.map_nil, extract_data s hfk hk, List.append_assoc]
          simp)
        have hez : (s.extract f k).size ≤ 9223372036854775807 := by
          have h := data_len (s.extract f k)
          rw [extract_data s hfk hk, List.length_drop, List.length_take] at h
          omega
        clear hsp
        have HL := Lib.hid (show FreshS wr.heap.size (wr.alloc (.cells #[.string (s.extract f k)] 9)) (.slice (some ⟨wr.heap.size, 0, none⟩) 1 1) [s.extract f k] from freshS_lit rfl wr [_] [_] _ rfl rfl (by simp) (fun i u v hu hv w => by
          match i, hu, hv with
          | 0, hu, hv => cases hu; cases hv; exact ⟨rfl, hez⟩))
        have hz1 := HB.out.size
        go_wp2_with (at_builtin; refine wpList_append_flat (α := ByteArray) rfl _ _ 37 rfl 9 (.string ByteArray.empty) 16 Tryd.underlying37 INFO.out rfl rfl (by decide) w.heap.size (by simp; omega) _ _ rfl (HF.out.grow (bel_alloc (Below.refl _ _) _)) _ [s.extract f k] rfl HL.out.repS (by simp; omega) (by simp; omega) ?_; intro v9 W9 hF9 hb9; have HF9 := Lib.hid hF9; have HB9 := Lib.hid ((bel_alloc HB.out (.cells #[.string (s.extract f k)] 9)).trans hb9); clear hF9 hb9)
        go_roundw
        case rel => exact ⟨k + 1, k + 1, done ++ [s.extract f k], by omega, by omega, by go_num, by go_num, by simp; omega, HF9.out, HE2.out, HB9.out⟩
        case measure => simp [intOf]; omega
      · have d3 : ((x.toNat : Int) == 32) = false := by
          simp
          intro e
          exact hsp (UInt8.toNat_inj.1 (by show _ = 32; omega))
        have HE2 := Lib.hid (show partsL [] s.data.toList = done.map (·.data.toList) ++ partsL ((s.data.toList.take (k + 1)).drop f) (s.data.toList.drop (k + 1)) from by
          rw [HE.out, HD.out, partsL, if_neg hsp, HTK.out])
        clear hsp
        go_wp2_with fail
        go_roundw
        case rel => exact ⟨f, k + 1, done, by omega, by omega, rfl, by go_num, by omega, HF.out, HE2.out, HB.out⟩
        case measure => simp [intOf]; omega
    · have d1 : decide ((k : Int) < (s.size : Int)) = false := decide_eq_false (by omega)
      obtain rfl : k = s.size := by omega
      have f0 : (0 : Int) ≤ (f : Int) := by omega
      have f1 : (f : Int) ≤ (s.size : Int) := by omega
      have HE2 := Lib.hid (show partsOf s = done ++ [s.extract f s.size] from by
        have hx : ∀ l : List UInt8, (⟨l.toArray⟩ : ByteArray).data.toList = l := fun l => by simp
        have h : (partsOf s).map (·.data.toList) = (done ++ [s.extract f s.size]).map (·.data.toList) := by
          have e1 : (partsOf s).map (·.data.toList) = partsL [] s.data.toList := by unfold partsOf; rw [List.map_map]; simp [Function.comp_def]
          rw [e1, HE.out, List.map_append, List.map_cons, List.map_nil, extract_data s hfk (Nat.le_refl _), List.drop_of_length_le (Nat.le_of_eq hdl), partsL]
        have hj : ∀ (a b : List ByteArray), a.map (·.data.toList) = b.map (·.data.toList) → a = b := by
          intro a
          induction a with
          | nil => intro b h; cases b with | nil => rfl | cons _ _ => simp at h
          | cons x a ih =>
            intro b h
            cases b with
            | nil => simp at h
            | cons y b =>
              simp only [List.map_cons, List.cons.injEq] at h
              rw [Go.WideShapes.bytes_inj h.1, ih b h.2]
        exact hj _ _ h)
      have hez : (s.extract f s.size).size ≤ 9223372036854775807 := by
        have h := data_len (s.extract f s.size)
        rw [extract_data s hfk (Nat.le_refl _), List.length_drop, List.length_take] at h
        omega
      have HL := Lib.hid (show FreshS wr.heap.size (wr.alloc (.cells #[.string (s.extract f s.size)] 9)) (.slice (some ⟨wr.heap.size, 0, none⟩) 1 1) [s.extract f s.size] from freshS_lit rfl wr [_] [_] _ rfl rfl (by simp) (fun i u v hu hv w => by
        match i, hu, hv with
        | 0, hu, hv => cases hu; cases hv; exact ⟨rfl, hez⟩))
      have hz1 := HB.out.size
      go_wp2_with (at_builtin; refine wpList_append_flat (α := ByteArray) rfl _ _ 37 rfl 9 (.string ByteArray.empty) 16 Tryd.underlying37 INFO.out rfl rfl (by decide) w.heap.size (by simp; omega) _ _ rfl (HF.out.grow (bel_alloc (Below.refl _ _) _)) _ [s.extract f s.size] rfl HL.out.repS (by simp; omega) (by simp; omega) ?_; intro v9 W9 hF9 hb9; have HF9 := Lib.hid hF9; have HB9 := Lib.hid ((bel_alloc HB.out (.cells #[.string (s.extract f s.size)] 9)).trans hb9); clear hF9 hb9)
      go_ret
      exact ⟨_, rfl, by rw [HE2.out]; exact HF9.out, HB9.out⟩
end Go.Proofs.YtjglknaojfnllaaDoor
