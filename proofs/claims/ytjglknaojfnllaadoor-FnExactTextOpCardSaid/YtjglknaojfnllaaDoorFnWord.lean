/- Names and words: which bytes a text may hold, the program's and the reference's walk. -/
import Derived.Test.YtjglknaojfnllaaDoorStrs
import Derived.Shelf.Small.Strs
set_option linter.unusedSimpArgs false
set_option linter.unusedVariables false
namespace Go.Mux
open Go.RowKit
def byteOk (b : UInt8) : Bool := (decide (97 ≤ b.toNat) && decide (b.toNat ≤ 122)) || (decide (48 ≤ b.toNat) && decide (b.toNat ≤ 57))
@[irreducible] def plainOk (s : ByteArray) (most : Int) (more : ByteArray) : Bool := (s.data.toList.all fun b => byteOk b || hasByte more b) && withinB (s.size : Int) 1 most
@[irreducible] def wordOk (s : ByteArray) : Bool := plainOk s 12 ⟨#[]⟩
theorem plainOk_bad {s : ByteArray} {most : Int} {more : ByteArray} {k : Nat} {b : UInt8} (h : s.data.toList[k]? = some b) (hb : (byteOk b || hasByte more b) = false) : plainOk s most more = false := by
  unfold plainOk
  rw [show (s.data.toList.all fun b => byteOk b || hasByte more b) = false from List.all_eq_false.2 ⟨b, List.mem_of_getElem? h, by rw [hb]; simp⟩]
  rfl
theorem plainOk_all {s : ByteArray} {most : Int} {more : ByteArray} (h : (s.data.toList.all fun b => byteOk b || hasByte more b) = true) : plainOk s most more = withinB (s.size : Int) 1 most := by
  unfold plainOk
  rw [h, Bool.true_and]
theorem hasByte_nil (b : UInt8) : hasByte ⟨#[]⟩ b = false := by unfold hasByte; simp
theorem byte_get (s : ByteArray) {k : Nat} (h : k < s.size) : s.data.toList[k]? = some (s[k]'h) := by simp [ByteArray.getElem_eq_getElem_data, show k < s.data.size from h]
theorem data_len (s : ByteArray) : s.data.toList.length = s.size := Array.length_toList
end Go.Mux
namespace Go.Proofs.YtjglknaojfnllaaDoor
open Go.RowKit Go.Mux Go.Shelf
def Tryd.laysIndexByte_ren : Go.Shelf.Ren := ⟨fun | 137 => 60 | 217 => 81 | 266 => 95 | n => n, fun | 9 => 9 | 5 => 5 | 3 => 3 | n => n, fun | n => n⟩
theorem Tryd.laysIndexByte : Go.Proofs.Lays.n137 Tryd.prog Tryd.laysIndexByte_ren := {
  mixed := by kernel_rfl
  f137 := Tryd.func60.trans (congrArg some (by kernel_rfl))
  f217 := Tryd.func81.trans (congrArg some (by kernel_rfl))
  f266 := Tryd.func95.trans (congrArg some (by kernel_rfl))
  t3 := Tryd.underlying3
  a3 := Tryd.isAgg3
  z3 := Tryd.sizeOf3
  v3 := Tryd.zeroValue3
  t5 := Tryd.underlying5
  a5 := Tryd.isAgg5
  z5 := Tryd.sizeOf5
  v5 := Tryd.zeroValue5
  t9 := Tryd.underlying9
  a9 := Tryd.isAgg9
  z9 := Tryd.sizeOf9
  v9 := Tryd.zeroValue9 }
theorem strings_indexByte (w : World) (s : ByteArray) (c : UInt8) : Calls Tryd.prog 60 #[.string s, .int .u8 c.toNat] w (Pure w (.int .i64 (Lib.indexByte s.data.toList c))) := by
  refine (Any.strings_IndexByte Tryd.laysIndexByte s (c.toNat : Int) w).mono ?_
  rintro e w' ⟨rfl, rfl⟩
  exact ⟨by simp, rfl⟩
set_option maxHeartbeats 2000000 in
theorem impl_isPlain (w : World) (s : ByteArray) (most : Int) (more : ByteArray) (hs : s.size ≤ 9223372036854775807) : Calls Tryd.prog 89 #[.string s, .int .i64 most, .string more] w (Pure w (.bool (plainOk s most more))) := by
  go_enter Tryd.func89, Tryd.ntmps89
  go_wp2_with fail
  go_loopw [11] (fun i wr => ∃ k : Nat, k ≤ s.size ∧ i = .int .i64 (k : Int) ∧ Hid (((s.data.toList.take k).all fun b => byteOk b || hasByte more b) = true) ∧ wr = w) (fun i _ => s.size - (intOf i).toNat)
  case atStart => exact ⟨0, Nat.zero_le _, rfl, by show _ = true; simp, rfl⟩
  case round =>
    obtain ⟨k, hk, rfl, HN, rfl⟩ := hrel
    by_cases hlt : k < s.size
    · have d1 : decide ((k : Int) < (s.size : Int)) = true := decide_eq_true (by omega)
      have k0 : (0 : Int) ≤ (k : Int) := by omega
      have k1 : (k : Int) < (s.size : Int) := by omega
      have HAT := Lib.hid (byte_get s hlt)
      obtain ⟨x, hx⟩ : ∃ x, s[k]'hlt = x := ⟨_, rfl⟩
      rw [hx] at HAT
      have HTK := Lib.hid (show s.data.toList.take (k + 1) = s.data.toList.take k ++ [x] from by rw [List.take_add_one, HAT.out]; rfl)
      have hix := hasByte_index more x
      cases hok : (byteOk x || hasByte more x)
      · have HOK := Lib.hid hok
        have HF := Lib.hid (plainOk_bad (most := most) HAT.out HOK.out)
        cases hm : hasByte more x
        all_goals
          rw [hm] at hix
          by_cases a1 : 97 ≤ x.toNat <;> by_cases a2 : x.toNat ≤ 122 <;> by_cases a3 : 48 ≤ x.toNat <;> by_cases a4 : x.toNat ≤ 57
          all_goals
            first
            | omega
            | (exfalso; simp [byteOk, a1, a2, a3, a4, hm] at hok; done)
            | (have A1 : decide ((97 : Int) ≤ (x.toNat : Int)) = decide (97 ≤ x.toNat) := by rw [Bool.eq_iff_iff]; simp; omega
               have A2 : decide ((x.toNat : Int) ≤ 122) = decide (x.toNat ≤ 122) := by rw [Bool.eq_iff_iff]; simp; omega
               have A3 : decide ((48 : Int) ≤ (x.toNat : Int)) = decide (48 ≤ x.toNat) := by rw [Bool.eq_iff_iff]; simp; omega
               have A4 : decide ((x.toNat : Int) ≤ 57) = decide (x.toNat ≤ 57) := by rw [Bool.eq_iff_iff]; simp; omega
               simp only [a1, a2, a3, a4, decide_true, decide_false] at A1 A2 A3 A4
               clear hm hok
               go_wp2_with (go_at_call 60; refine (strings_indexByte _ more x).mono ?_; rintro e w' ⟨rfl, rfl⟩)
               go_ret
               exact pure_ret HF.out.symm)
      · have HOK := Lib.hid hok
        cases hm : hasByte more x
        all_goals
          rw [hm] at hix
          by_cases a1 : 97 ≤ x.toNat <;> by_cases a2 : x.toNat ≤ 122 <;> by_cases a3 : 48 ≤ x.toNat <;> by_cases a4 : x.toNat ≤ 57
          all_goals
            first
            | omega
            | (exfalso; simp [byteOk, a1, a2, a3, a4, hm] at hok; done)
            | (have A1 : decide ((97 : Int) ≤ (x.toNat : Int)) = decide (97 ≤ x.toNat) := by rw [Bool.eq_iff_iff]; simp; omega
               have A2 : decide ((x.toNat : Int) ≤ 122) = decide (x.toNat ≤ 122) := by rw [Bool.eq_iff_iff]; simp; omega
               have A3 : decide ((48 : Int) ≤ (x.toNat : Int)) = decide (48 ≤ x.toNat) := by rw [Bool.eq_iff_iff]; simp; omega
               have A4 : decide ((x.toNat : Int) ≤ 57) = decide (x.toNat ≤ 57) := by rw [Bool.eq_iff_iff]; simp; omega
               simp only [a1, a2, a3, a4, decide_true, decide_false] at A1 A2 A3 A4
               clear hm hok
               go_wp2_with (go_at_call 60; refine (strings_indexByte _ more x).mono ?_; rintro e w' ⟨rfl, rfl⟩)
               go_roundw
               case rel => exact ⟨k + 1, by omega, by go_num, by show _ = true; rw [HTK.out, List.all_append, HN.out]; simpa using HOK.out, by first | rfl | trivial⟩
               case measure => simp [intOf]; omega)
    · have d1 : decide ((k : Int) < (s.size : Int)) = false := decide_eq_false (by omega)
      obtain rfl : k = s.size := by omega
      have hl := data_len s
      have HF := Lib.hid (plainOk_all (most := most) (by have h := HN.out; rwa [List.take_of_length_le (by omega)] at h))
      go_wp2_with (go_at_call 76; refine (impl_within _ _ _ _).mono ?_; rintro e w' ⟨rfl, rfl⟩)
      go_ret
      exact pure_ret HF.out.symm
theorem impl_WordOk (w : World) (s : ByteArray) (hs : s.size ≤ 9223372036854775807) : Calls Tryd.prog 73 #[.string s] w (Pure w (.bool (wordOk s))) := by
  go_enter Tryd.func73, Tryd.ntmps73
  go_wp2_with (go_at_call 89; refine (impl_isPlain _ _ _ _ hs).mono ?_; rintro e w' ⟨rfl, rfl⟩)
  go_ret
  exact pure_ret (by unfold wordOk; rfl)
set_option maxHeartbeats 2000000 in
theorem spec_WordOk (w : World) (s : ByteArray) (hs : s.size ≤ 9223372036854775807) : Calls Tryd.prog 71 #[.string s] w (Pure w (.bool (wordOk s))) := by
  go_enter Tryd.func71, Tryd.ntmps71
  go_wp2_with fail
  go_loopw [3] (fun i wr => ∃ k : Nat, k ≤ s.size ∧ i = .int .i64 (k : Int) ∧ Hid (((s.data.toList.take k).all fun b => byteOk b || hasByte ⟨#[]⟩ b) = true) ∧ wr = w) (fun i _ => s.size - (intOf i).toNat)
  case atStart => exact ⟨0, Nat.zero_le _, rfl, by show _ = true; simp, rfl⟩
  case round =>
    obtain ⟨k, hk, rfl, HN, rfl⟩ := hrel
    by_cases hlt : k < s.size
    · have d1 : decide ((k : Int) < (s.size : Int)) = true := decide_eq_true (by omega)
      have k0 : (0 : Int) ≤ (k : Int) := by omega
      have k1 : (k : Int) < (s.size : Int) := by omega
      have HAT := Lib.hid (byte_get s hlt)
      obtain ⟨x, hx⟩ : ∃ x, s[k]'hlt = x := ⟨_, rfl⟩
      rw [hx] at HAT
      have HTK := Lib.hid (show s.data.toList.take (k + 1) = s.data.toList.take k ++ [x] from by rw [List.take_add_one, HAT.out]; rfl)
      cases hok : (byteOk x || hasByte ⟨#[]⟩ x)
      · have HOK := Lib.hid hok
        have HF := Lib.hid (plainOk_bad (most := 12) HAT.out HOK.out)
        rw [hasByte_nil, Bool.or_false] at hok
        by_cases a1 : x.toNat < 97 <;> by_cases a2 : 122 < x.toNat <;> by_cases a3 : x.toNat < 48 <;> by_cases a4 : 57 < x.toNat
        all_goals
          first
          | omega
          | (exfalso; unfold byteOk at hok; simp at hok; omega)
          | (have A1 : decide ((x.toNat : Int) < 97) = decide (x.toNat < 97) := by rw [Bool.eq_iff_iff]; simp; omega
             have A2 : decide (122 < (x.toNat : Int)) = decide (122 < x.toNat) := by rw [Bool.eq_iff_iff]; simp; omega
             have A3 : decide ((x.toNat : Int) < 48) = decide (x.toNat < 48) := by rw [Bool.eq_iff_iff]; simp; omega
             have A4 : decide (57 < (x.toNat : Int)) = decide (57 < x.toNat) := by rw [Bool.eq_iff_iff]; simp; omega
             simp only [a1, a2, a3, a4, decide_true, decide_false] at A1 A2 A3 A4
             clear hok
             go_wp2_with fail
             go_ret
             exact pure_ret (by unfold wordOk; exact HF.out.symm))
      · have HOK := Lib.hid hok
        rw [hasByte_nil, Bool.or_false] at hok
        by_cases a1 : x.toNat < 97 <;> by_cases a2 : 122 < x.toNat <;> by_cases a3 : x.toNat < 48 <;> by_cases a4 : 57 < x.toNat
        all_goals
          first
          | omega
          | (exfalso; unfold byteOk at hok; simp at hok; omega)
          | (have A1 : decide ((x.toNat : Int) < 97) = decide (x.toNat < 97) := by rw [Bool.eq_iff_iff]; simp; omega
             have A2 : decide (122 < (x.toNat : Int)) = decide (122 < x.toNat) := by rw [Bool.eq_iff_iff]; simp; omega
             have A3 : decide ((x.toNat : Int) < 48) = decide (x.toNat < 48) := by rw [Bool.eq_iff_iff]; simp; omega
             have A4 : decide (57 < (x.toNat : Int)) = decide (57 < x.toNat) := by rw [Bool.eq_iff_iff]; simp; omega
             simp only [a1, a2, a3, a4, decide_true, decide_false] at A1 A2 A3 A4
             clear hok
             go_wp2_with fail
             go_roundw
             case rel => exact ⟨k + 1, by omega, by go_num, by show _ = true; rw [HTK.out, List.all_append, HN.out]; simpa using HOK.out, by first | rfl | trivial⟩
             case measure => simp [intOf]; omega)
    · have d1 : decide ((k : Int) < (s.size : Int)) = false := decide_eq_false (by omega)
      obtain rfl : k = s.size := by omega
      have hl := data_len s
      have HF := Lib.hid (plainOk_all (most := 12) (by have h := HN.out; rwa [List.take_of_length_le (by omega)] at h))
      by_cases b1 : 1 ≤ s.size
      · have e1 : decide ((1 : Int) ≤ (s.size : Int)) = true := decide_eq_true (by omega)
        have e2 : decide (1 ≤ s.size) = true := decide_eq_true b1
        have HW := Lib.hid (show wordOk s = decide ((s.size : Int) ≤ 12) from by unfold wordOk; rw [HF.out]; unfold withinB; simp [b1] <;> omega)
        go_wp2_with fail
        go_ret
        exact pure_ret (by rw [HW.out])
      · have e1 : decide ((1 : Int) ≤ (s.size : Int)) = false := decide_eq_false (by omega)
        have e2 : decide (1 ≤ s.size) = false := decide_eq_false b1
        have HW := Lib.hid (show wordOk s = false from by unfold wordOk; rw [HF.out]; unfold withinB; simp [b1] <;> omega)
        go_wp2_with fail
        go_ret
        exact pure_ret (by rw [HW.out])
end Go.Proofs.YtjglknaojfnllaaDoor
