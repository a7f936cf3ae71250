/- What the library reads of its own: tables, errors, a bound. The walks of TextNum, the program's and the reference's. -/
import Derived.Test.YtjglknaojfnllaaDoorTxtN
import Derived.Test.YtjglknaojfnllaaDoorFnWord
import Derived.Shelf.Strconv.ErrVarAll
import Derived.Shelf.Strings.Split
import Derived.Shelf.Strings.Cut
set_option linter.unusedSimpArgs false
set_option linter.unusedVariables false
namespace Go.Mux
open Go.RowKit
theorem var_below {P : Program} {w w' : World} {n : String} {v : Array Value} (h : w.var? P n = some v) (hb : Below w.heap.size w w') : w'.var? P n = some v := by
  cases hg : P.globalNamed n with
  | none => unfold World.var? at h; rw [hg] at h; cases h
  | some g => exact Go.Joins.var_stays hg h hb (Nat.le_refl _)
theorem str_beq (a b : ByteArray) : (a.toList == b.toList) = decide (a = b) := by
  rw [Bool.eq_iff_iff, beq_iff_eq, decide_eq_true_eq]
  constructor
  · intro h
    have ha := ByteArray.toList_eq a
    have hb := ByteArray.toList_eq b
    rw [h] at ha
    exact ByteArray.ext (Array.ext' (ha.symm.trans hb))
  · intro h; rw [h]
/-- The library's own variables. -/
structure Env (P : Program) (g : Nat) (w : World) : Prop where
  tab : Tab P w
  syn : ∃ tp p, w.var? P "strconv.ErrSyntax" = some #[.iface tp p]
  rng : ∃ tp p, w.var? P "strconv.ErrRange" = some #[.iface tp p]
  max : ∃ m, w.cell? ⟨g, 0, none⟩ = some (.int .i64 m)
theorem Env.mono {P : Program} {g : Nat} {w w' : World} (h : Env P g w) (hb : Below w.heap.size w w') : Env P g w' := by
  obtain ⟨h1, ⟨tp, p, h2⟩, ⟨tp', p', h3⟩, ⟨m, h4⟩⟩ := h
  exact ⟨h1.mono hb, ⟨tp, p, var_below h2 hb⟩, ⟨tp', p', var_below h3 hb⟩, ⟨m, (hb.cell (p := ⟨g, 0, none⟩) (World.block_lt_of_cell? w _ h4)).trans h4⟩⟩
end Go.Mux
namespace Go.Proofs.YtjglknaojfnllaaDoor
open Go.RowKit Go.Mux Go.Shelf
abbrev ENV (w : World) : Prop := Env Tryd.prog 0 w
def Tryd.laysAtoi_ren : Go.Shelf.Ren := ⟨fun | 172 => 80 | 244 => 93 | 245 => 94 | 247 => 103 | 279 => 104 | 280 => 105 | 281 => 106 | 282 => 107 | 287 => 113 | 316 => 114 | 171 => 65 | 205 => 115 | 321 => 121 | 322 => 122 | 243 => 84 | 246 => 96 | 283 => 108 | 284 => 109 | 285 => 110 | 286 => 111 | 129 => 117 | 317 => 116 | 318 => 118 | 319 => 119 | 320 => 120 | 337 => 123 | 338 => 124 | n => n, fun | 9 => 9 | 3 => 3 | 75 => 84 | 76 => 85 | 4 => 4 | 5 => 5 | 167 => 109 | 37 => 22 | 0 => 0 | 85 => 110 | 2 => 2 | 168 => 112 | 53 => 116 | 175 => 121 | 46 => 76 | 210 => 124 | 127 => 95 | 145 => 137 | 143 => 135 | 21 => 21 | 171 => 115 | 173 => 119 | 212 => 127 | 51 => 106 | 20 => 20 | 213 => 128 | 232 => 139 | 233 => 140 | 80 => 87 | n => n, fun | 15 => 1 | 16 => 2 | 17 => 3 | 18 => 6 | 19 => 7 | n => n⟩
theorem Tryd.laysAtoi : Go.Proofs.LaysC.n172 Tryd.prog Tryd.laysAtoi_ren := {
  mixed := by kernel_rfl
  f129 := Tryd.func117.trans (congrArg some (by kernel_rfl))
  f171 := Tryd.func65.trans (congrArg some (by kernel_rfl))
  f172 := Tryd.func80.trans (congrArg some (by kernel_rfl))
  f205 := Tryd.func115.trans (congrArg some (by kernel_rfl))
  f243 := Tryd.func84.trans (congrArg some (by kernel_rfl))
  f244 := Tryd.func93.trans (congrArg some (by kernel_rfl))
  f245 := Tryd.func94.trans (congrArg some (by kernel_rfl))
  f246 := Tryd.func96.trans (congrArg some (by kernel_rfl))
  f247 := Tryd.func103.trans (congrArg some (by kernel_rfl))
  f279 := Tryd.func104.trans (congrArg some (by kernel_rfl))
  f280 := Tryd.func105.trans (congrArg some (by kernel_rfl))
  f281 := Tryd.func106.trans (congrArg some (by kernel_rfl))
  f282 := Tryd.func107.trans (congrArg some (by kernel_rfl))
  f283 := Tryd.func108.trans (congrArg some (by kernel_rfl))
  f284 := Tryd.func109.trans (congrArg some (by kernel_rfl))
  f285 := Tryd.func110.trans (congrArg some (by kernel_rfl))
  f286 := Tryd.func111.trans (congrArg some (by kernel_rfl))
  f287 := Tryd.func113.trans (congrArg some (by kernel_rfl))
  f316 := Tryd.func114.trans (congrArg some (by kernel_rfl))
  f317 := Tryd.func116.trans (congrArg some (by kernel_rfl))
  f318 := Tryd.func118.trans (congrArg some (by kernel_rfl))
  f319 := Tryd.func119.trans (congrArg some (by kernel_rfl))
  f320 := Tryd.func120.trans (congrArg some (by kernel_rfl))
  f321 := Tryd.func121.trans (congrArg some (by kernel_rfl))
  f322 := Tryd.func122.trans (congrArg some (by kernel_rfl))
  f337 := Tryd.func123.trans (congrArg some (by kernel_rfl))
  f338 := Tryd.func124.trans (congrArg some (by kernel_rfl))
  t0 := Tryd.underlying0
  a0 := Tryd.isAgg0
  z0 := Tryd.sizeOf0
  v0 := Tryd.zeroValue0
  t2 := Tryd.underlying2
  a2 := Tryd.isAgg2
  z2 := Tryd.sizeOf2
  v2 := Tryd.zeroValue2
  t3 := Tryd.underlying3
  a3 := Tryd.isAgg3
  z3 := Tryd.sizeOf3
  v3 := Tryd.zeroValue3
  t4 := Tryd.underlying4
  a4 := Tryd.isAgg4
  z4 := Tryd.sizeOf4
  v4 := Tryd.zeroValue4
  t5 := Tryd.underlying5
  a5 := Tryd.isAgg5
  z5 := Tryd.sizeOf5
  v5 := Tryd.zeroValue5
  t9 := Tryd.underlying9
  a9 := Tryd.isAgg9
  z9 := Tryd.sizeOf9
  v9 := Tryd.zeroValue9
  t20 := Tryd.underlying20
  a20 := Tryd.isAgg20
  z20 := Tryd.sizeOf20
  v20 := Tryd.zeroValue20
  t21 := Tryd.underlying21
  a21 := Tryd.isAgg21
  z21 := Tryd.sizeOf21
  v21 := Tryd.zeroValue21
  t37 := Tryd.underlying22
  a37 := Tryd.isAgg22
  z37 := Tryd.sizeOf22
  v37 := Tryd.zeroValue22
  t46 := Tryd.underlying76
  a46 := Tryd.isAgg76
  z46 := Tryd.sizeOf76
  v46 := Tryd.zeroValue76
  t51 := Tryd.underlying106
  a51 := Tryd.isAgg106
  z51 := Tryd.sizeOf106
  v51 := Tryd.zeroValue106
  t53 := Tryd.underlying116
  a53 := Tryd.isAgg116
  z53 := Tryd.sizeOf116
  v53 := Tryd.zeroValue116
  t75 := Tryd.underlying84
  a75 := Tryd.isAgg84
  z75 := Tryd.sizeOf84
  v75 := Tryd.zeroValue84
  t76 := Tryd.underlying85
  a76 := Tryd.isAgg85
  z76 := Tryd.sizeOf85
  v76 := Tryd.zeroValue85
  t85 := Tryd.underlying110
  a85 := Tryd.isAgg110
  z85 := Tryd.sizeOf110
  v85 := Tryd.zeroValue110
  t127 := Tryd.underlying95
  a127 := Tryd.isAgg95
  z127 := Tryd.sizeOf95
  v127 := Tryd.zeroValue95
  t143 := Tryd.underlying135
  a143 := Tryd.isAgg135
  z143 := Tryd.sizeOf135
  v143 := Tryd.zeroValue135
  t145 := Tryd.underlying137
  a145 := Tryd.isAgg137
  z145 := Tryd.sizeOf137
  v145 := Tryd.zeroValue137
  t167 := Tryd.underlying109
  a167 := Tryd.isAgg109
  z167 := Tryd.sizeOf109
  v167 := Tryd.zeroValue109
  t168 := Tryd.underlying112
  a168 := Tryd.isAgg112
  z168 := Tryd.sizeOf112
  v168 := Tryd.zeroValue112
  t171 := Tryd.underlying115
  a171 := Tryd.isAgg115
  z171 := Tryd.sizeOf115
  v171 := Tryd.zeroValue115
  t173 := Tryd.underlying119
  a173 := Tryd.isAgg119
  z173 := Tryd.sizeOf119
  v173 := Tryd.zeroValue119
  t175 := Tryd.underlying121
  a175 := Tryd.isAgg121
  z175 := Tryd.sizeOf121
  v175 := Tryd.zeroValue121
  t210 := Tryd.underlying124
  a210 := Tryd.isAgg124
  z210 := Tryd.sizeOf124
  v210 := Tryd.zeroValue124
  t212 := Tryd.underlying127
  a212 := Tryd.isAgg127
  z212 := Tryd.sizeOf127
  v212 := Tryd.zeroValue127
  t213 := Tryd.underlying128
  a213 := Tryd.isAgg128
  z213 := Tryd.sizeOf128
  t232 := Tryd.underlying139
  a232 := Tryd.isAgg139
  z232 := Tryd.sizeOf139
  v232 := Tryd.zeroValue139
  t233 := Tryd.underlying140
  a233 := Tryd.isAgg140
  z233 := Tryd.sizeOf140
  v233 := Tryd.zeroValue140
  g15 := by kernel_rfl
  g16 := by kernel_rfl
  g17 := by kernel_rfl
  g18 := by kernel_rfl
  g19 := by kernel_rfl
  t80 := Tryd.underlying87
  a80 := Tryd.isAgg87
  z80 := Tryd.sizeOf87
  v80 := Tryd.zeroValue87
  i0 := by kernel_rfl
  i2 := by kernel_rfl
  i3 := by kernel_rfl
  i4 := by kernel_rfl
  i5 := by kernel_rfl
  i9 := by kernel_rfl
  i20 := by kernel_rfl
  i21 := by kernel_rfl
  i37 := by kernel_rfl
  i46 := by kernel_rfl
  i51 := by kernel_rfl
  i53 := by kernel_rfl
  i75 := by kernel_rfl
  i76 := by kernel_rfl
  i80 := by kernel_rfl
  i85 := by kernel_rfl
  i127 := by kernel_rfl
  i143 := by kernel_rfl
  i145 := by kernel_rfl
  i167 := by kernel_rfl
  i168 := by kernel_rfl
  i171 := by kernel_rfl
  i173 := by kernel_rfl
  i175 := by kernel_rfl
  i210 := by kernel_rfl
  i212 := by kernel_rfl
  i232 := by kernel_rfl
  i233 := by kernel_rfl
  m15 := by kernel_rfl
  m16 := by kernel_rfl
  m17 := by kernel_rfl
  m18 := by kernel_rfl
  m19 := by kernel_rfl
  c0 := by kernel_rfl
  c2 := by kernel_rfl
  c3 := by kernel_rfl
  c4 := by kernel_rfl
  c5 := by kernel_rfl
  c9 := by kernel_rfl
  c20 := by kernel_rfl
  c21 := by kernel_rfl
  c37 := by kernel_rfl
  c46 := by kernel_rfl
  c51 := by kernel_rfl
  c53 := by kernel_rfl
  c75 := by kernel_rfl
  c76 := by kernel_rfl
  c80 := by kernel_rfl
  c85 := by kernel_rfl
  c127 := by kernel_rfl
  c143 := by kernel_rfl
  c145 := by kernel_rfl
  c167 := by kernel_rfl
  c168 := by kernel_rfl
  c171 := by kernel_rfl
  c173 := by kernel_rfl
  c175 := by kernel_rfl
  c210 := by kernel_rfl
  c212 := by kernel_rfl
  c213 := by kernel_rfl
  c232 := by kernel_rfl
  c233 := by kernel_rfl }
theorem strconv_atoi (w : World) (s : ByteArray) (hs : s.size ≤ 1048576) (he : ENV w) : Calls Tryd.prog 80 #[.string s] w (Gives w fun r _ => (∃ v, Lib.atoiAll s.data.toList = .ok v ∧ r = .tuple #[.int .i64 v, .nilIface]) ∨ ((∀ v, Lib.atoiAll s.data.toList ≠ .ok v) ∧ ∃ v t p, r = .tuple #[.int .i64 v, .iface t p])) := by
  rcases h : Lib.atoiAll s.data.toList with v | _ | _
  · refine (Any.strconv_Atoi_ok Tryd.laysAtoi s (by omega) v h w).mono ?_
    rintro e w' ⟨rfl, hw⟩
    refine ⟨_, rfl, .inl ⟨v, rfl, rfl⟩, ?_⟩
    rcases hw with rfl | ⟨t, rfl⟩
    · exact Below.refl _ _
    · exact Lib.bytesWorld_below _ _ _
  · obtain ⟨tp, p, hv⟩ := he.syn
    refine (Any.strconv_Atoi_syntax_var Tryd.laysAtoi s (by omega) h tp p w hv).mono ?_
    rintro e w' ⟨N, rfl, -, -, hb⟩
    exact ⟨_, rfl, .inr ⟨(fun v e => by cases e), _, _, _, rfl⟩, hb⟩
  · obtain ⟨tp, p, hv⟩ := he.rng
    refine (Any.strconv_Atoi_range_var Tryd.laysAtoi s (by omega) h tp p w hv).mono ?_
    rintro e w' ⟨N, rfl, -, -, hb⟩
    exact ⟨_, rfl, .inr ⟨(fun v e => by cases e), _, _, _, rfl⟩, hb⟩
set_option maxHeartbeats 400000 in
theorem impl_TextNum (w : World) (s : ByteArray) (hs : s.size ≤ 1048576) (he : ENV w) : Calls Tryd.prog 59 #[.string s] w (Gives w fun r _ => r = .tuple #[.int .i64 (textNum s).1, .bool (textNum s).2]) := by
  have HE := Lib.hid he
  clear he
  go_enter Tryd.func59, Tryd.ntmps59
  go_wp2_with fail
  refine (strconv_atoi w s hs HE.out).mono ?_
  rintro e W1 ⟨_, rfl, hr, hb⟩
  have HB := Lib.hid hb
  clear hb
  rcases hr with ⟨v, hv, rfl⟩ | ⟨hv, v, t, p, rfl⟩
  · have HV := Lib.hid hv
    clear hv
    go_wp2_with fail
    refine (impl_NumText _ v (HE.out.mono HB.out).tab).mono ?_
    rintro e W2 ⟨_, rfl, rfl, hb⟩
    have HB2 := Lib.hid (bel_next HB.out hb)
    clear hb
    have HT := Lib.hid (textNum_atoi HV.out)
    by_cases hq : numText v = s
    · have d1 : ((numText v).toList == s.toList) = true := by rw [str_beq]; exact decide_eq_true hq
      have HQ := Lib.hid hq
      clear hq
      go_wp2_with fail
      exact bodyPost_ret (v := .tuple #[.int .i64 v, .bool true]) (by simp [results, Tryd.results59, go_sem]) rfl ⟨_, rfl, (by rw [HT.out, if_pos HQ.out]), HB2.out⟩
    · have d1 : ((numText v).toList == s.toList) = false := by rw [str_beq]; exact decide_eq_false hq
      have HQ := Lib.hid hq
      clear hq
      go_wp2_with fail
      exact bodyPost_ret (v := .tuple #[.int .i64 0, .bool false]) (by simp [results, Tryd.results59, go_sem]) rfl ⟨_, rfl, (by rw [HT.out, if_neg HQ.out]), HB2.out⟩
  · have HT := Lib.hid (textNum_atoi_no hv)
    clear hv
    go_wp2_with fail
    exact bodyPost_ret (v := .tuple #[.int .i64 0, .bool false]) (by simp [results, Tryd.results59, go_sem]) rfl ⟨_, rfl, (by rw [HT.out]), HB.out⟩
set_option maxRecDepth 100000 in
set_option maxHeartbeats 1000000 in
theorem spec_TextNum (w : World) (s : ByteArray) : Calls Tryd.prog 34 #[.string s] w (Gives w fun r _ => r = .tuple #[.int .i64 (textNum s).1, .bool (textNum s).2]) := by
  have hdl : s.data.toList.length = s.size := Array.length_toList
  by_cases h1 : s.size < 1
  · have d1 : decide ((s.size : Int) < 1) = true := decide_eq_true (by omega)
    have HN := Lib.hid (textNum_no (s := s) fun n hn e => by
      have h2 : (numText n).data.toList.length = s.size := by rw [e]; exact hdl
      rw [numText_of hn] at h2
      have h3 := List.length_pos_iff.2 (dec_ne n.toNat)
      have h4 : (Lib.decDigits n.toNat).length = s.size := h2
      omega)
    clear h1
    go_enter Tryd.func34, Tryd.ntmps34
    go_wp2_with fail
    exact bodyPost_ret (v := .tuple #[.int .i64 0, .bool false]) (by simp [results, Tryd.results34, go_sem]) rfl ⟨_, rfl, (by rw [HN.out]), Below.refl _ _⟩
  have d1 : decide ((s.size : Int) < 1) = false := decide_eq_false (by omega)
  by_cases h10 : 10 < s.size
  · have d2 : decide ((10 : Int) < (s.size : Int)) = true := decide_eq_true (by omega)
    have HN := Lib.hid (textNum_no (s := s) fun n hn e => by
      have := numText_size n
      rw [e] at this
      omega)
    clear h1 h10
    go_enter Tryd.func34, Tryd.ntmps34
    go_wp2_with fail
    exact bodyPost_ret (v := .tuple #[.int .i64 0, .bool false]) (by simp [results, Tryd.results34, go_sem]) rfl ⟨_, rfl, (by rw [HN.out]), Below.refl _ _⟩
  have d2 : decide ((10 : Int) < (s.size : Int)) = false := decide_eq_false (by omega)
  go_enter Tryd.func34, Tryd.ntmps34
  go_wp2_with fail
  go_loopw [4, 5] (fun nv iv wr => ∃ (k v : Nat), k ≤ s.size ∧ nv = .int .i64 (v : Int) ∧ iv = .int .i64 (k : Int) ∧ Hid (Lib.decFrom 0 (s.data.toList.take k) = some v) ∧ Hid (v < 10 ^ k) ∧ wr = w) (fun _ iv _ => s.size - (intOf iv).toNat)
  case atStart => exact ⟨0, 0, Nat.zero_le _, rfl, rfl, by show _ = _; simp [Lib.decFrom], by show _ < _; decide, rfl⟩
  case round =>
    obtain ⟨k, v, hk, rfl, rfl, HV, HB, rfl⟩ := hrel
    have h1010 : v ≤ 10000000000 := by
      have := HB.out
      have h2 : (10 : Nat) ^ k ≤ 10 ^ 10 := Nat.pow_le_pow_right (by decide) (by omega)
      have h3 : (10 : Nat) ^ 10 = 10000000000 := by decide
      omega
    by_cases hlt : k < s.size
    · have d3 : decide ((k : Int) < (s.size : Int)) = true := decide_eq_true (by omega)
      have k0 : (0 : Int) ≤ (k : Int) := by omega
      have k1 : (k : Int) < (s.size : Int) := by omega
      have HAT := Lib.hid (byte_get s hlt)
      obtain ⟨x, hx⟩ : ∃ x, s[k]'hlt = x := ⟨_, rfl⟩
      rw [hx] at HAT
      have hxt := x.toNat_lt
      have HNO := Lib.hid (show (¬ (48 ≤ x.toNat ∧ x.toNat ≤ 57)) → textNum s = (0, false) from fun hno => textNum_no fun n hn e => by
        have e2 : s.data.toList = Lib.decDigits n.toNat := by rw [← e, numText_of hn]
        have hd := decFrom_digits n.toNat n.toNat (Nat.le_refl _)
        rw [← e2] at hd
        obtain ⟨d, hd2⟩ := Lib.digit_of_decFrom _ _ _ hd k x HAT.out
        unfold Lib.digitVal at hd2
        rw [if_neg hno] at hd2
        cases hd2)
      by_cases hlo : x.toNat < 48
      · have d4 : decide ((x.toNat : Int) < 48) = true := decide_eq_true (by omega)
        go_wp2_with fail
        exact bodyPost_ret (v := .tuple #[.int .i64 0, .bool false]) (by simp [results, Tryd.results34, go_sem]) rfl ⟨_, rfl, (by rw [HNO.out (by omega)]), Below.refl _ _⟩
      · have d4 : decide ((x.toNat : Int) < 48) = false := decide_eq_false (by omega)
        by_cases hhi : 57 < x.toNat
        · have d5 : decide ((57 : Int) < (x.toNat : Int)) = true := decide_eq_true (by omega)
          go_wp2_with fail
          exact bodyPost_ret (v := .tuple #[.int .i64 0, .bool false]) (by simp [results, Tryd.results34, go_sem]) rfl ⟨_, rfl, (by rw [HNO.out (by omega)]), Below.refl _ _⟩
        · have d5 : decide ((57 : Int) < (x.toNat : Int)) = false := decide_eq_false (by omega)
          have w1 : IntKind.i64.wrap ((v : Int) * 10) = (v : Int) * 10 := by rw [IntKind.wrap_i64]; omega
          have w2 : IntKind.u8.wrap ((x.toNat : Int) - 48) = (x.toNat : Int) - 48 := by rw [IntKind.wrap_u8]; omega
          have w3 : IntKind.i64.wrap ((x.toNat : Int) - 48) = (x.toNat : Int) - 48 := by rw [IntKind.wrap_i64]; omega
          have w4 : IntKind.i64.wrap ((v : Int) * 10 + ((x.toNat : Int) - 48)) = (v : Int) * 10 + ((x.toNat : Int) - 48) := by rw [IntKind.wrap_i64]; omega
          have HV2 := Lib.hid (Lib.decFrom_take s.data.toList k 0 v x (x.toNat - 48) HV.out HAT.out (by unfold Lib.digitVal; rw [if_pos (by omega)]))
          have HB2 := Lib.hid (show v * 10 + (x.toNat - 48) < 10 ^ (k + 1) by have h5 : (v + 1) * 10 ≤ 10 ^ k * 10 := Nat.mul_le_mul_right 10 HB.out; have h6 : 10 ^ (k + 1) = 10 ^ k * 10 := Nat.pow_succ 10 k; rw [h6]; omega)
          go_wp2_with fail
          go_roundw
          case rel => exact ⟨k + 1, v * 10 + (x.toNat - 48), by omega, by go_num, by go_num, HV2.out, HB2.out, (by first | rfl | trivial)⟩
          case measure => simp [intOf]; omega
    · have d3 : decide ((k : Int) < (s.size : Int)) = false := decide_eq_false (by omega)
      obtain rfl : k = s.size := by omega
      have HDN := Lib.hid (show Lib.decNat s.data.toList = some v from by
        have h := HV.out
        rw [← hdl, List.take_length] at h
        unfold Lib.decNat
        have : s.data.toList.isEmpty = false := by cases hq : s.data.toList with | nil => rw [hq] at hdl; simp at hdl; omega | cons _ _ => rfl
        rw [this]
        exact h)
      go_wp2_with fail
      refine (spec_NumText _ (v : Int)).mono ?_
      rintro e W2 ⟨_, rfl, rfl, hb⟩
      have HB2 := Lib.hid hb
      clear hb
      by_cases hq : numText (v : Int) = s
      · have d4 : ((numText (v : Int)).toList == s.toList) = true := by rw [str_beq]; exact decide_eq_true hq
        have HT := Lib.hid (show textNum s = ((v : Int), true) from by
          refine textNum_yes ?_ hq
          cases hn : isNumB (v : Int)
          · exfalso
            have : (numText (v : Int)).size = s.size := by rw [hq]
            unfold numText at this
            rw [hn] at this
            have : (0 : Nat) = s.size := this
            omega
          · rfl)
        have HQ := Lib.hid hq
        clear hq
        go_wp2_with fail
        exact bodyPost_ret (v := .tuple #[.int .i64 (v : Int), .bool true]) (by simp [results, Tryd.results34, go_sem]) rfl ⟨_, rfl, (by rw [HT.out]), HB2.out⟩
      · have d4 : ((numText (v : Int)).toList == s.toList) = false := by rw [str_beq]; exact decide_eq_false hq
        have HT := Lib.hid (show textNum s = (0, false) from by
          unfold textNum
          rw [HDN.out]
          simp only
          rw [if_neg fun hh => hq hh.2])
        have HQ := Lib.hid hq
        clear hq
        go_wp2_with fail
        exact bodyPost_ret (v := .tuple #[.int .i64 0, .bool false]) (by simp [results, Tryd.results34, go_sem]) rfl ⟨_, rfl, (by rw [HT.out]), HB2.out⟩
end Go.Proofs.YtjglknaojfnllaaDoor
