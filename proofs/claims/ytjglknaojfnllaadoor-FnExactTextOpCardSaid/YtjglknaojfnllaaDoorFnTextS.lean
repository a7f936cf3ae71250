/- The reference's walks on words of a line: l18Word, l18Num, l18Rest, l23Unhex. -/
import Derived.Test.YtjglknaojfnllaaDoorTxtW
import Derived.Test.YtjglknaojfnllaaDoorFnTextNum
namespace Go.Mux
open Go.RowKit
theorem wordAt_some {l : List ByteArray} {i : Nat} {s : ByteArray} (h : l[i]? = some s) : wordAt l i = s := by unfold wordAt; rw [h]; rfl
theorem wordAt_none {l : List ByteArray} {i : Nat} (h : l.length ≤ i) : wordAt l i = ByteArray.empty := by unfold wordAt; rw [List.getElem?_eq_none h]; rfl
end Go.Mux
namespace Go.Proofs.YtjglknaojfnllaaDoor
open Go.RowKit Go.Mux
set_option maxHeartbeats 400000 in
theorem spec_l18Word (w0 w : World) (v : Value) (l : List ByteArray) (i : Nat) (h : RepS w0 v l) (hb : Below w0.heap.size w0 w) : Calls Tryd.prog 17 #[v, .int .i64 (i : Int)] w (Pure w (.string (wordAt l i))) := by
  obtain ⟨a, cap, rfl, hl, -, hc⟩ := strs_open h
  have HC := Lib.hid hc
  have HB := Lib.hid hb
  clear h hc hb
  by_cases hlt : i < l.length
  · have d1 : decide ((i : Int) < (l.length : Int)) = true := decide_eq_true (by omega)
    obtain ⟨b, off, rfl, hcell⟩ := HC.out (by intro e; rw [e] at hlt; simp at hlt)
    obtain ⟨s, hs⟩ : ∃ s, l[i]? = some s := ⟨l[i], by simp [hlt]⟩
    have k0 := hcell i s hs
    have kc : w.cell? ⟨b, off + i, none⟩ = some (.string s) := (HB.out.cell (p := ⟨b, off + i, none⟩) (World.block_lt_of_cell? w0 _ k0)).trans k0
    have HW := Lib.hid (wordAt_some hs)
    have i0 : (0 : Int) ≤ (i : Int) := by omega
    have i1 : (i : Int) < (l.length : Int) := by omega
    clear hcell k0 hs
    go_enter Tryd.func17, Tryd.ntmps17
    go_wp2_with fail
    go_ret
    exact ⟨by rw [HW.out]; rfl, rfl⟩
  · have d1 : decide ((i : Int) < (l.length : Int)) = false := decide_eq_false (by omega)
    have HW := Lib.hid (wordAt_none (l := l) (i := i) (by omega))
    go_enter Tryd.func17, Tryd.ntmps17
    go_wp2_with fail
    go_ret
    exact ⟨by rw [HW.out]; rfl, rfl⟩
theorem spec_l18Num (w : World) (s : ByteArray) : Calls Tryd.prog 16 #[.string s] w (Gives w fun r _ => r = .int .i64 (textNum s).1) := by
  go_enter Tryd.func16, Tryd.ntmps16
  go_wp2_with fail
  refine (spec_TextNum w s).mono ?_
  rintro e W1 ⟨_, rfl, rfl, hb⟩
  have HB := Lib.hid hb
  clear hb
  go_wp2_with fail
  go_ret
  exact ⟨_, rfl, rfl, HB.out⟩
set_option maxRecDepth 100000 in
set_option maxHeartbeats 1000000 in
theorem spec_l18Rest (w : World) (s : ByteArray) (n : Nat) (hs : s.size ≤ 1048576) (h1 : 1 ≤ n) (hn : n ≤ 100) : Calls Tryd.prog 18 #[.string s, .int .i64 (n : Int)] w (Pure w (.string (restOf s n))) := by
  have hdl : s.data.toList.length = s.size := Array.length_toList
  go_enter Tryd.func18, Tryd.ntmps18
  go_wp2_with fail
  go_loopw [1, 5] (fun nv iv wr => ∃ (k m : Nat), k ≤ s.size ∧ 1 ≤ m ∧ m ≤ 100 ∧ nv = .int .i64 (m : Int) ∧ iv = .int .i64 (k : Int) ∧ Hid (restL n s.data.toList = restL m (s.data.toList.drop k)) ∧ wr = w) (fun _ iv _ => s.size - (intOf iv).toNat)
  case atStart => exact ⟨0, n, Nat.zero_le _, h1, hn, rfl, rfl, by show _ = _; simp, rfl⟩
  case round =>
    obtain ⟨k, m, hk, hm1, hm2, rfl, rfl, HE, rfl⟩ := hrel
    by_cases hlt : k < s.size
    · have d3 : decide ((k : Int) < (s.size : Int)) = true := decide_eq_true (by omega)
      have k0 : (0 : Int) ≤ (k : Int) := by omega
      have k1 : (k : Int) < (s.size : Int) := by omega
      have HAT := Lib.hid (byte_get s hlt)
      obtain ⟨x, hx⟩ : ∃ x, s[k]'hlt = x := ⟨_, rfl⟩
      rw [hx] at HAT
      have HD := Lib.hid (show s.data.toList.drop k = x :: s.data.toList.drop (k + 1) from by
        have h := HAT.out
        rw [List.getElem?_eq_getElem (by omega)] at h
        rw [List.drop_eq_getElem_cons (by omega), Option.some.inj h])
      by_cases hsp : x = 32
      · have d4 : ((x.toNat : Int) == 32) = true := by rw [hsp]; rfl
        have HX := Lib.hid hsp
        clear hsp
        by_cases hm : m = 1
        · have d5 : ((m : Int) - 1 == 0) = true := by rw [hm]; rfl
          have w1 : IntKind.i64.wrap ((m : Int) - 1) = (m : Int) - 1 := by rw [IntKind.wrap_i64]; omega
          have w2 : IntKind.i64.wrap ((k : Int) + 1) = ((k + 1 : Nat) : Int) := by rw [IntKind.wrap_i64]; omega
          have k2 : ((k + 1 : Nat) : Int) ≤ (s.size : Int) := by omega
          have k3 : (0 : Int) ≤ ((k + 1 : Nat) : Int) := by omega
          have HR := Lib.hid (show restOf s n = s.extract (k + 1) s.size from by
            have e1 : restL n s.data.toList = s.data.toList.drop (k + 1) := by rw [HE.out, HD.out, restL, if_pos HX.out, if_pos hm]
            have e2 : (s.extract (k + 1) s.size).data.toList = s.data.toList.drop (k + 1) := by rw [extract_data s (by omega) (Nat.le_refl _), ← hdl, List.take_length]
            unfold restOf
            rw [e1, ← e2])
          have d6 : decide ((m : Int) = 1) = true := decide_eq_true (by omega)
          have d7 : decide ((m : Int) - 1 = 0) = true := decide_eq_true (by omega)
          clear hm
          go_wp2_with fail
          go_ret
          exact ⟨by rw [HR.out]; rfl, rfl⟩
        · have d5 : ((m : Int) - 1 == 0) = false := by simp; omega
          have d7 : decide ((m : Int) - 1 = 0) = false := decide_eq_false (by omega)
          have w1 : IntKind.i64.wrap ((m : Int) - 1) = (m : Int) - 1 := by rw [IntKind.wrap_i64]; omega
          have HE2 := Lib.hid (show restL n s.data.toList = restL (m - 1) (s.data.toList.drop (k + 1)) from by rw [HE.out, HD.out, restL, if_pos HX.out, if_neg hm])
          have e3 : ((m - 1 : Nat) : Int) = (m : Int) - 1 := by omega
          have E3 := Lib.hid e3
          clear e3
          go_wp2_with fail
          go_roundw
          case rel => exact ⟨k + 1, m - 1, by omega, by omega, by omega, by rw [E3.out], by go_num, HE2.out, (by first | rfl | trivial)⟩
          case measure => simp [intOf]; omega
      · have d4 : ((x.toNat : Int) == 32) = false := by
          simp
          intro e
          exact hsp (UInt8.toNat_inj.1 (by show _ = 32; omega))
        have HE2 := Lib.hid (show restL n s.data.toList = restL m (s.data.toList.drop (k + 1)) from by rw [HE.out, HD.out, restL, if_neg hsp])
        clear hsp
        go_wp2_with fail
        go_roundw
        case rel => exact ⟨k + 1, m, by omega, hm1, hm2, rfl, by go_num, HE2.out, (by first | rfl | trivial)⟩
        case measure => simp [intOf]; omega
    · have d3 : decide ((k : Int) < (s.size : Int)) = false := decide_eq_false (by omega)
      have HR := Lib.hid (show restOf s n = ByteArray.empty from by
        have e1 : restL n s.data.toList = [] := by rw [HE.out, List.drop_of_length_le (by omega)]; rfl
        unfold restOf
        rw [e1]
        rfl)
      go_wp2_with fail
      go_ret
      exact ⟨by rw [HR.out]; rfl, rfl⟩
end Go.Proofs.YtjglknaojfnllaaDoor
