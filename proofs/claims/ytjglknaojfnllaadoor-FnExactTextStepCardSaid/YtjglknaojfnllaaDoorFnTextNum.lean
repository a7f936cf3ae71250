/- What the library reads of its own: tables, errors, a bound. The walks of TextNum, the program's and the reference's. -/
import Derived.Test.YtjglknaojfnllaaDoorTxtN
import Derived.Test.YtjglknaojfnllaaDoorFnWord
import Derived.Shelf.Strconv.ErrVarAll
import Derived.Shelf.Strings.Split
import Derived.Shelf.Strings.Cut
set_option linter.unusedSimpArgs false
set_option linter.unusedVariables false
namespace Go.Mux
open Go.RowKit
theorem var_below {P : Program} {w w' : World} {n : String} {v : Array Value} (h : w.var? P n = some v) (hb : Below w.heap.size w w') : w'.var? P n = some v := by
  cases hg : P.globalNamed n with
  | none => unfold World.var? at h; rw [hg] at h; cases h
  | some g => exact Go.Joins.var_stays hg h hb (Nat.le_refl _)
theorem str_beq (a b : ByteArray) : (a.toList == b.toList) = decide (a = b) := by
  rw [Bool.eq_iff_iff, beq_iff_eq, decide_eq_true_eq]
  constructor
  · intro h
    have ha := ByteArray.toList_eq a
    have hb := ByteArray.toList_eq b
    rw [h] at ha
    exact ByteArray.ext (Array.ext' (ha.symm.trans hb))
  · intro h; rw [h]
/-- The library's own variables. -/
structure Env (P : Program) (g : Nat) (w : World) : Prop where
  tab : Tab P w
  syn : ∃ tp p, w.var? P "strconv.ErrSyntax" = some #[.iface tp p]
  rng : ∃ tp p, w.var? P "strconv.ErrRange" = some #[.iface tp p]
  max : ∃ m, w.cell? ⟨g, 0, none⟩ = some (.int .i64 m)
theorem Env.mono {P : Program} {g : Nat} {w w' : World} (h : Env P g w) (hb : Below w.heap.size w w') : Env P g w' := by
  obtain ⟨h1, ⟨tp, p, h2⟩, ⟨tp', p', h3⟩, ⟨m, h4⟩⟩ := h
  exact ⟨h1.mono hb, ⟨tp, p, var_below h2 hb⟩, ⟨tp', p', var_below h3 hb⟩, ⟨m, (hb.cell (p := ⟨g, 0, none⟩) (World.block_lt_of_cell? w _ h4)).trans h4⟩⟩
end Go.Mux
namespace Go.Proofs.YtjglknaojfnllaaDoor
open Go.RowKit Go.Mux Go.Shelf
abbrev ENV (w : World) : Prop := Env Tryd.prog 0 w
shelf_lay LaysC.n172 Nm 172 at Tryd as Tryd.laysAtoi
theorem strconv_atoi (w : World) (s : ByteArray) (hs : s.size ≤ 1048576) (he : ENV w) : Calls Tryd.prog 80 #[.string s] w (Gives w fun r _ => (∃ v, Lib.atoiAll s.data.toList = .ok v ∧ r = .tuple #[.int .i64 v, .nilIface]) ∨ ((∀ v, Lib.atoiAll s.data.toList ≠ .ok v) ∧ ∃ v t p, r = .tuple #[.int .i64 v, .iface t p])) := by
  cases h : Lib.atoiAll s.data.toList with
  | ok v =>
    refine (Any.strconv_Atoi_ok Tryd.laysAtoi s (by omega) v h w).mono ?_
    rintro e w' ⟨rfl, hw⟩
    refine ⟨_, rfl, .inl ⟨v, rfl, rfl⟩, ?_⟩
    rcases hw with rfl | ⟨t, rfl⟩
    · exact Below.refl _ _
    · exact Lib.bytesWorld_below _ _ _
  | «syntax» =>
    obtain ⟨tp, p, hv⟩ := he.syn
    refine (Any.strconv_Atoi_syntax_var Tryd.laysAtoi s (by omega) h tp p w hv).mono ?_
    rintro e w' ⟨N, rfl, -, -, hb⟩
    exact ⟨_, rfl, .inr ⟨(fun v e => by cases e), _, _, _, rfl⟩, hb⟩
  | range =>
    obtain ⟨tp, p, hv⟩ := he.rng
    refine (Any.strconv_Atoi_range_var Tryd.laysAtoi s (by omega) h tp p w hv).mono ?_
    rintro e w' ⟨N, rfl, -, -, hb⟩
    exact ⟨_, rfl, .inr ⟨(fun v e => by cases e), _, _, _, rfl⟩, hb⟩
set_option maxHeartbeats 400000 in
theorem impl_TextNum (w : World) (s : ByteArray) (hs : s.size ≤ 1048576) (he : ENV w) : Calls Tryd.prog 59 #[.string s] w (Gives w fun r _ => r = .tuple #[.int .i64 (textNum s).1, .bool (textNum s).2]) := by
  have HE := Lib.hid he
  clear he
  go_enter Tryd.func59, Tryd.ntmps59
  go_wp2_with fail
  refine (strconv_atoi w s hs HE.out).mono ?_
  rintro e W1 ⟨_, rfl, hr, hb⟩
  have HB := Lib.hid hb
  clear hb
  rcases hr with ⟨v, hv, rfl⟩ | ⟨hv, v, t, p, rfl⟩
  · have HV := Lib.hid hv
    clear hv
    go_wp2_with fail
    refine (impl_NumText _ v (HE.out.mono HB.out).tab).mono ?_
    rintro e W2 ⟨_, rfl, rfl, hb⟩
    have HB2 := Lib.hid (bel_next HB.out hb)
    clear hb
    have HT := Lib.hid (textNum_atoi HV.out)
    by_cases hq : numText v = s
    · have d1 : ((numText v).toList == s.toList) = true := by rw [str_beq]; exact decide_eq_true hq
      have HQ := Lib.hid hq
      clear hq
      go_wp2_with fail
      exact bodyPost_ret (v := .tuple #[.int .i64 v, .bool true]) (by simp [results, Tryd.results59, go_sem]) rfl ⟨_, rfl, (by rw [HT.out, if_pos HQ.out]), HB2.out⟩
    · have d1 : ((numText v).toList == s.toList) = false := by rw [str_beq]; exact decide_eq_false hq
      have HQ := Lib.hid hq
      clear hq
      go_wp2_with fail
      exact bodyPost_ret (v := .tuple #[.int .i64 0, .bool false]) (by simp [results, Tryd.results59, go_sem]) rfl ⟨_, rfl, (by rw [HT.out, if_neg HQ.out]), HB2.out⟩
  · have HT := Lib.hid (textNum_atoi_no hv)
    clear hv
    go_wp2_with fail
    exact bodyPost_ret (v := .tuple #[.int .i64 0, .bool false]) (by simp [results, Tryd.results59, go_sem]) rfl ⟨_, rfl, (by rw [HT.out]), HB.out⟩
set_option maxRecDepth 100000 in
set_option maxHeartbeats 1000000 in
theorem spec_TextNum (w : World) (s : ByteArray) : Calls Tryd.prog 34 #[.string s] w (Gives w fun r _ => r = .tuple #[.int .i64 (textNum s).1, .bool (textNum s).2]) := by
  have hdl : s.data.toList.length = s.size := Array.length_toList
  by_cases h1 : s.size < 1
  · have d1 : decide ((s.size : Int) < 1) = true := decide_eq_true (by omega)
    have HN := Lib.hid (textNum_no (s := s) fun n hn e => by
      have h2 : (numText n).data.toList.length = s.size := by rw [e]; exact hdl
      rw [numText_of hn] at h2
      have h3 := List.length_pos_iff.2 (dec_ne n.toNat)
      have h4 : (Lib.decDigits n.toNat).length = s.size := h2
      omega)
    clear h1
    go_enter Tryd.func34, Tryd.ntmps34
    go_wp2_with fail
    exact bodyPost_ret (v := .tuple #[.int .i64 0, .bool false]) (by simp [results, Tryd.results34, go_sem]) rfl ⟨_, rfl, (by rw [HN.out]), Below.refl _ _⟩
  have d1 : decide ((s.size : Int) < 1) = false := decide_eq_false (by omega)
  by_cases h10 : 10 < s.size
  · have d2 : decide ((10 : Int) < (s.size : Int)) = true := decide_eq_true (by omega)
    have HN := Lib.hid (textNum_no (s := s) fun n hn e => by
      have := numText_size n
      rw [e] at this
      omega)
    clear h1 h10
    go_enter Tryd.func34, Tryd.ntmps34
    go_wp2_with fail
    exact bodyPost_ret (v := .tuple #[.int .i64 0, .bool false]) (by simp [results, Tryd.results34, go_sem]) rfl ⟨_, rfl, (by rw [HN.out]), Below.refl _ _⟩
  have d2 : decide ((10 : Int) < (s.size : Int)) = false := decide_eq_false (by omega)
  go_enter Tryd.func34, Tryd.ntmps34
  go_wp2_with fail
  go_loopw [4, 5] (fun nv iv wr => ∃ (k v : Nat), k ≤ s.size ∧ nv = .int .i64 (v : Int) ∧ iv = .int .i64 (k : Int) ∧ Hid (Lib.decFrom 0 (s.data.toList.take k) = some v) ∧ Hid (v < 10 ^ k) ∧ wr = w) (fun _ iv _ => s.size - (intOf iv).toNat)
  case atStart => exact ⟨0, 0, Nat.zero_le _, rfl, rfl, by show _ = _; simp [Lib.decFrom], by show _ < _; decide, rfl⟩
  case round =>
    obtain ⟨k, v, hk, rfl, rfl, HV, HB, rfl⟩ := hrel
    have h1010 : v ≤ 10000000000 := by
      have := HB.out
      have h2 : (10 : Nat) ^ k ≤ 10 ^ 10 := Nat.pow_le_pow_right (by decide) (by omega)
      have h3 : (10 : Nat) ^ 10 = 10000000000 := by decide
      omega
    by_cases hlt : k < s.size
    · have d3 : decide ((k : Int) < (s.size : Int)) = true := decide_eq_true (by omega)
      have k0 : (0 : Int) ≤ (k : Int) := by omega
      have k1 : (k : Int) < (s.size : Int) := by omega
      have HAT := Lib.hid (byte_get s hlt)
      obtain ⟨x, hx⟩ : ∃ x, s[k]'hlt = x := ⟨_, rfl⟩
      rw [hx] at HAT
      have hxt := x.toNat_lt
      have HNO := Lib.hid (show (¬ (48 ≤ x.toNat ∧ x.toNat ≤ 57)) → textNum s = (0, false) from fun hno => textNum_no fun n hn e => by
        have e2 : s.data.toList = Lib.decDigits n.toNat := by rw [← e, numText_of hn]
        have hd := decFrom_digits n.toNat n.toNat (Nat.le_refl _)
        rw [← e2] at hd
        obtain ⟨d, hd2⟩ := Lib.digit_of_decFrom _ _ _ hd k x HAT.out
        unfold Lib.digitVal at hd2
        rw [if_neg hno] at hd2
        cases hd2)
      by_cases hlo : x.toNat < 48
      · have d4 : decide ((x.toNat : Int) < 48) = true := decide_eq_true (by omega)
        go_wp2_with fail
        exact bodyPost_ret (v := .tuple #[.int .i64 0, .bool false]) (by simp [results, Tryd.results34, go_sem]) rfl ⟨_, rfl, (by rw [HNO.out (by omega)]), Below.refl _ _⟩
      · have d4 : decide ((x.toNat : Int) < 48) = false := decide_eq_false (by omega)
        by_cases hhi : 57 < x.toNat
        · have d5 : decide ((57 : Int) < (x.toNat : Int)) = true := decide_eq_true (by omega)
          go_wp2_with fail
          exact bodyPost_ret (v := .tuple #[.int .i64 0, .bool false]) (by simp [results, Tryd.results34, go_sem]) rfl ⟨_, rfl, (by rw [HNO.out (by omega)]), Below.refl _ _⟩
        · have d5 : decide ((57 : Int) < (x.toNat : Int)) = false := decide_eq_false (by omega)
          have w1 : IntKind.i64.wrap ((v : Int) * 10) = (v : Int) * 10 := by rw [IntKind.wrap_i64]; omega
          have w2 : IntKind.u8.wrap ((x.toNat : Int) - 48) = (x.toNat : Int) - 48 := by rw [IntKind.wrap_u8]; omega
          have w3 : IntKind.i64.wrap ((x.toNat : Int) - 48) = (x.toNat : Int) - 48 := by rw [IntKind.wrap_i64]; omega
          have w4 : IntKind.i64.wrap ((v : Int) * 10 + ((x.toNat : Int) - 48)) = (v : Int) * 10 + ((x.toNat : Int) - 48) := by rw [IntKind.wrap_i64]; omega
          have HV2 := Lib.hid (Lib.decFrom_take s.data.toList k 0 v x (x.toNat - 48) HV.out HAT.out (by unfold Lib.digitVal; rw [if_pos (by omega)]))
          have HB2 := Lib.hid (show v * 10 + (x.toNat - 48) < 10 ^ (k + 1) by have h5 : (v + 1) * 10 ≤ 10 ^ k * 10 := Nat.mul_le_mul_right 10 HB.out; have h6 : 10 ^ (k + 1) = 10 ^ k * 10 := Nat.pow_succ 10 k; rw [h6]; omega)
          go_wp2_with fail
          go_roundw
          case rel => exact ⟨k + 1, v * 10 + (x.toNat - 48), by omega, by go_num, by go_num, HV2.out, HB2.out, (by first | rfl | trivial)⟩
          case measure => simp [intOf]; omega
    · have d3 : decide ((k : Int) < (s.size : Int)) = false := decide_eq_false (by omega)
      obtain rfl : k = s.size := by omega
      have HDN := Lib.hid (show Lib.decNat s.data.toList = some v from by
        have h := HV.out
        rw [← hdl, List.take_length] at h
        unfold Lib.decNat
        have : s.data.toList.isEmpty = false := by cases hq : s.data.toList with | nil => rw [hq] at hdl; simp at hdl; omega | cons _ _ => rfl
        rw [this]
        exact h)
      go_wp2_with fail
      refine (spec_NumText _ (v : Int)).mono ?_
      rintro e W2 ⟨_, rfl, rfl, hb⟩
      have HB2 := Lib.hid hb
      clear hb
      by_cases hq : numText (v : Int) = s
      · have d4 : ((numText (v : Int)).toList == s.toList) = true := by rw [str_beq]; exact decide_eq_true hq
        have HT := Lib.hid (show textNum s = ((v : Int), true) from by
          refine textNum_yes ?_ hq
          cases hn : isNumB (v : Int)
          · exfalso
            have : (numText (v : Int)).size = s.size := by rw [hq]
            unfold numText at this
            rw [hn] at this
            have : (0 : Nat) = s.size := this
            omega
          · rfl)
        have HQ := Lib.hid hq
        clear hq
        go_wp2_with fail
        exact bodyPost_ret (v := .tuple #[.int .i64 (v : Int), .bool true]) (by simp [results, Tryd.results34, go_sem]) rfl ⟨_, rfl, (by rw [HT.out]), HB2.out⟩
      · have d4 : ((numText (v : Int)).toList == s.toList) = false := by rw [str_beq]; exact decide_eq_false hq
        have HT := Lib.hid (show textNum s = (0, false) from by
          unfold textNum
          rw [HDN.out]
          simp only
          rw [if_neg fun hh => hq hh.2])
        have HQ := Lib.hid hq
        clear hq
        go_wp2_with fail
        exact bodyPost_ret (v := .tuple #[.int .i64 0, .bool false]) (by simp [results, Tryd.results34, go_sem]) rfl ⟨_, rfl, (by rw [HT.out]), HB2.out⟩
end Go.Proofs.YtjglknaojfnllaaDoor
