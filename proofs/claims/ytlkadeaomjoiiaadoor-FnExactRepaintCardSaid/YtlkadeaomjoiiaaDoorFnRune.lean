/- The walks of RuneBytes, the program's and the reference's. -/
import Derived.Test.YtlkadeaomjoiiaaDoorFnBase
import Derived.Test.YtlkadeaomjoiiaaDoorConv
set_option linter.unusedSimpArgs false
set_option linter.unusedVariables false
namespace Go.Mux
open Go.RowKit
@[irreducible] def runeBytes (r : Int) : List UInt8 :=
  if showsB r then
    (if r < 128 then [UInt8.ofNat r.toNat] else if r < 2048 then [UInt8.ofNat (192 + r.toNat / 64), UInt8.ofNat (128 + r.toNat % 64)] else [UInt8.ofNat (224 + r.toNat / 4096), UInt8.ofNat (128 + r.toNat / 64 % 64), UInt8.ofNat (128 + r.toNat % 64)])
  else []
theorem runeBytes_len (r : Int) : (runeBytes r).length ≤ 3 := by
  unfold runeBytes
  split
  · split
    · simp
    · split <;> simp
  · simp
theorem showsB_range {r : Int} (h : showsB r = true) : 32 ≤ r ∧ r ≤ 65535 := by
  unfold showsB withinB at h
  simp only [Bool.or_eq_true, Bool.and_eq_true, decide_eq_true_eq] at h
  omega
/-- A literal of bytes. -/
theorem freshS_lit (w : World) (t : TypeId) (ht : t = Rep.tid UInt8) (l : List UInt8) (n : Nat) (hn : n = l.length) (hl : l.length ≤ 1048576) :
    FreshS w.heap.size (w.alloc (.cells (l.map fun b => Value.int .u8 b.toNat).toArray t)) (.slice (some ⟨w.heap.size, 0, none⟩) n n) l := by
  subst ht hn
  have hfl : (l.map fun b => [Value.int .u8 b.toNat]).flatten = l.map fun b => Value.int .u8 b.toNat := flatten_one _ _
  refine ⟨[w.heap.size], ⟨l.map fun b => [Value.int .u8 b.toNat], List.replicate l.length [], ⟨?_, .inr ⟨w.heap.size, l.length, _, rfl, Nat.zero_le _, RowAt.of (heap_alloc_new w _), Nat.le_refl _, by simp only [maxLen]; omega, ?_, ?_⟩⟩, by omega, by simp, by simp, ?_, ?_⟩, by simp, by simp⟩
  · rw [hfl]; simp [Rep.size]
  · simp [Rep.size]
  · rw [hfl]
    simp only [show Rep.size UInt8 = 1 from rfl, Nat.mul_one]
    rw [List.take_of_length_le (by simp)]
  · intro i x r f hx hr hf
    rw [List.getElem?_map, hx] at hr
    cases hr
    rw [List.getElem?_replicate] at hf
    split at hf
    · cases hf
      exact ⟨rfl, rfl⟩
    · cases hf
  · simp [Value.ownBlock]
theorem u8_int {n : Nat} (h : n < 256) : (n : Int) = ((UInt8.ofNat n).toNat : Int) := by
  rw [UInt8.toNat_ofNat']
  omega
end Go.Mux
namespace Go.Proofs.YtlkadeaomjoiiaaDoor
open Go.RowKit Go.Mux
set_option maxHeartbeats 1000000 in
theorem impl_RuneBytes (w : World) (r : Int) : Calls Tryd.prog 72 #[.int .i64 r] w (Gives w fun v w' => FreshS w.heap.size w' v (runeBytes r)) := by
  cases hs : showsB r
  · have HS := Lib.hid hs
    clear hs
    go_enter Tryd.func72, Tryd.ntmps72
    go_wp2_with (go_at_call 102; refine (impl_Shows _ _).mono ?_; rintro e w' ⟨rfl, rfl⟩; rw [HS.out])
    go_ret
    exact ⟨_, rfl, ⟨[], (by rw [show runeBytes r = [] by unfold runeBytes; simp [HS.out]]; exact ⟨[], [], ⟨by simp, .inl ⟨rfl, rfl⟩⟩, by simp, rfl, rfl, by simp, by simp [Value.ownBlock]⟩), by simp, by simp⟩, Below.refl _ _⟩
  · obtain ⟨h1, h2⟩ := showsB_range hs
    obtain ⟨n, rfl⟩ : ∃ n : Nat, r = n := ⟨r.toNat, by omega⟩
    have HS := Lib.hid hs
    clear hs
    by_cases c1 : n < 128
    · have d1 : decide ((n : Int) < 128) = true := decide_eq_true (by omega)
      have e : runeBytes (n : Int) = [UInt8.ofNat n] := by unfold runeBytes; rw [if_pos HS.out, if_pos (by omega)]; rfl
      have HF := Lib.hid (freshS_lit w 5 rfl [UInt8.ofNat n] 1 rfl (by simp))
      have HE := Lib.hid (u8_int (show n < 256 by omega))
      have HEE := Lib.hid e
      clear e
      go_enter Tryd.func72, Tryd.ntmps72
      go_wp2_with (go_at_call 102; refine (impl_Shows _ _).mono ?_; rintro e w' ⟨rfl, rfl⟩; rw [HS.out])
      go_ret
      refine ⟨_, rfl, ?_, bel_alloc (Below.refl _ _) _⟩
      rw [HEE.out]
      have h := HF.out
      simp only [List.map_cons, List.map_nil, ← HE.out] at h
      exact h
    · have d1 : decide ((n : Int) < 128) = false := decide_eq_false (by omega)
      by_cases c2 : n < 2048
      · have d2 : decide ((n : Int) < 2048) = true := decide_eq_true (by omega)
        have e : runeBytes (n : Int) = [UInt8.ofNat (192 + n / 64), UInt8.ofNat (128 + n % 64)] := by unfold runeBytes; rw [if_pos HS.out, if_neg (by omega), if_pos (by omega)]; rfl
        have HF := Lib.hid (freshS_lit w 5 rfl [UInt8.ofNat (192 + n / 64), UInt8.ofNat (128 + n % 64)] 2 rfl (by simp))
        have HE1 := Lib.hid (u8_int (show 192 + n / 64 < 256 by omega))
        have HE2 := Lib.hid (u8_int (show 128 + n % 64 < 256 by omega))
        have HEE := Lib.hid e
        clear e
        go_enter Tryd.func72, Tryd.ntmps72
        go_wp2_with (go_at_call 102; refine (impl_Shows _ _).mono ?_; rintro e w' ⟨rfl, rfl⟩; rw [HS.out])
        go_ret
        refine ⟨_, rfl, ?_, bel_alloc (Below.refl _ _) _⟩
        rw [HEE.out]
        have h := HF.out
        simp only [List.map_cons, List.map_nil, ← HE1.out, ← HE2.out] at h
        exact h
      · have d2 : decide ((n : Int) < 2048) = false := decide_eq_false (by omega)
        have e : runeBytes (n : Int) = [UInt8.ofNat (224 + n / 4096), UInt8.ofNat (128 + n / 64 % 64), UInt8.ofNat (128 + n % 64)] := by unfold runeBytes; rw [if_pos HS.out, if_neg (by omega), if_neg (by omega)]; rfl
        have HF := Lib.hid (freshS_lit w 5 rfl [UInt8.ofNat (224 + n / 4096), UInt8.ofNat (128 + n / 64 % 64), UInt8.ofNat (128 + n % 64)] 3 rfl (by simp))
        have HE1 := Lib.hid (u8_int (show 224 + n / 4096 < 256 by omega))
        have HE2 := Lib.hid (u8_int (show 128 + n / 64 % 64 < 256 by omega))
        have HE3 := Lib.hid (u8_int (show 128 + n % 64 < 256 by omega))
        have HEE := Lib.hid e
        clear e
        go_enter Tryd.func72, Tryd.ntmps72
        go_wp2_with (go_at_call 102; refine (impl_Shows _ _).mono ?_; rintro e w' ⟨rfl, rfl⟩; rw [HS.out])
        go_ret
        refine ⟨_, rfl, ?_, bel_alloc (Below.refl _ _) _⟩
        rw [HEE.out]
        have h := HF.out
        simp only [List.map_cons, List.map_nil, ← HE1.out, ← HE2.out, ← HE3.out] at h
        exact h
set_option maxHeartbeats 1000000 in
theorem spec_RuneBytes (w : World) (r : Int) : Calls Tryd.prog 66 #[.int .i64 r] w (Gives w fun v w' => FreshS w.heap.size w' v (runeBytes r)) := by
  cases hs : showsB r
  · have HS := Lib.hid hs
    clear hs
    go_enter Tryd.func66, Tryd.ntmps66
    go_wp2_with (go_at_call 97; refine (spec_Shows _ _).mono ?_; rintro e w' ⟨rfl, rfl⟩; rw [HS.out])
    go_ret
    exact ⟨_, rfl, ⟨[], (by rw [show runeBytes r = [] by unfold runeBytes; simp [HS.out]]; exact ⟨[], [], ⟨by simp, .inl ⟨rfl, rfl⟩⟩, by simp, rfl, rfl, by simp, by simp [Value.ownBlock]⟩), by simp, by simp⟩, Below.refl _ _⟩
  · obtain ⟨h1, h2⟩ := showsB_range hs
    obtain ⟨n, rfl⟩ : ∃ n : Nat, r = n := ⟨r.toNat, by omega⟩
    have HS := Lib.hid hs
    clear hs
    by_cases c1 : n < 128
    · have d1 : decide ((n : Int) < 128) = true := decide_eq_true (by omega)
      have e : runeBytes (n : Int) = [UInt8.ofNat n] := by unfold runeBytes; rw [if_pos HS.out, if_pos (by omega)]; rfl
      have HF := Lib.hid (freshS_lit w 5 rfl [UInt8.ofNat n] 1 rfl (by simp))
      have HE := Lib.hid (u8_int (show n < 256 by omega))
      have HEE := Lib.hid e
      clear e
      go_enter Tryd.func66, Tryd.ntmps66
      go_wp2_with (go_at_call 97; refine (spec_Shows _ _).mono ?_; rintro e w' ⟨rfl, rfl⟩; rw [HS.out])
      go_ret
      refine ⟨_, rfl, ?_, bel_alloc (Below.refl _ _) _⟩
      rw [HEE.out]
      have h := HF.out
      simp only [List.map_cons, List.map_nil, ← HE.out] at h
      exact h
    · have d1 : decide ((n : Int) < 128) = false := decide_eq_false (by omega)
      by_cases c2 : n < 2048
      · have d2 : decide ((n : Int) < 2048) = true := decide_eq_true (by omega)
        have e : runeBytes (n : Int) = [UInt8.ofNat (192 + n / 64), UInt8.ofNat (128 + n % 64)] := by unfold runeBytes; rw [if_pos HS.out, if_neg (by omega), if_pos (by omega)]; rfl
        have HF := Lib.hid (freshS_lit w 5 rfl [UInt8.ofNat (192 + n / 64), UInt8.ofNat (128 + n % 64)] 2 rfl (by simp))
        have HE1 := Lib.hid (u8_int (show 192 + n / 64 < 256 by omega))
        have HE2 := Lib.hid (u8_int (show 128 + n % 64 < 256 by omega))
        have HEE := Lib.hid e
        clear e
        go_enter Tryd.func66, Tryd.ntmps66
        go_wp2_with (go_at_call 97; refine (spec_Shows _ _).mono ?_; rintro e w' ⟨rfl, rfl⟩; rw [HS.out])
        go_ret
        refine ⟨_, rfl, ?_, bel_alloc (Below.refl _ _) _⟩
        rw [HEE.out]
        have h := HF.out
        simp only [List.map_cons, List.map_nil, ← HE1.out, ← HE2.out] at h
        exact h
      · have d2 : decide ((n : Int) < 2048) = false := decide_eq_false (by omega)
        have e : runeBytes (n : Int) = [UInt8.ofNat (224 + n / 4096), UInt8.ofNat (128 + n / 64 % 64), UInt8.ofNat (128 + n % 64)] := by unfold runeBytes; rw [if_pos HS.out, if_neg (by omega), if_neg (by omega)]; rfl
        have HF := Lib.hid (freshS_lit w 5 rfl [UInt8.ofNat (224 + n / 4096), UInt8.ofNat (128 + n / 64 % 64), UInt8.ofNat (128 + n % 64)] 3 rfl (by simp))
        have HE1 := Lib.hid (u8_int (show 224 + n / 4096 < 256 by omega))
        have HE2 := Lib.hid (u8_int (show 128 + n / 64 % 64 < 256 by omega))
        have HE3 := Lib.hid (u8_int (show 128 + n % 64 < 256 by omega))
        have HEE := Lib.hid e
        clear e
        go_enter Tryd.func66, Tryd.ntmps66
        go_wp2_with (go_at_call 97; refine (spec_Shows _ _).mono ?_; rintro e w' ⟨rfl, rfl⟩; rw [HS.out])
        go_ret
        refine ⟨_, rfl, ?_, bel_alloc (Below.refl _ _) _⟩
        rw [HEE.out]
        have h := HF.out
        simp only [List.map_cons, List.map_nil, ← HE1.out, ← HE2.out, ← HE3.out] at h
        exact h
end Go.Proofs.YtlkadeaomjoiiaaDoor
