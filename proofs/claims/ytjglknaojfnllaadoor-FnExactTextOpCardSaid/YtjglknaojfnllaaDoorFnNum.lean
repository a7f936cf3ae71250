/- The walks of NumText, the program's and the reference's: a number's decimal numeral. -/
import Derived.Test.YtjglknaojfnllaaDoorFnBase
import Derived.Shelf.Strconv.Itoa3
import Derived.Ground.NamesProg
import Derived.Lib.SmallJoins
import Derived.Deep.RegionHeld3
import Derived.Laws.IdiomStrings
import Derived.Laws.BitsLemmas
set_option linter.unusedSimpArgs false
set_option linter.unusedVariables false
namespace Go.Mux
open Go.RowKit
@[irreducible] def isNumB (n : Int) : Bool := withinB n 0 4294967295
@[irreducible] def numText (n : Int) : ByteArray := if isNumB n then ⟨(Lib.decDigits n.toNat).toArray⟩ else ByteArray.empty
/-- The library's table of powers of ten stands as it is laid. -/
def Tab (P : Program) (w : World) : Prop := Lib.TabIs P w "internal/strconv.uint64pow10" .u64 Lib.pow10Tab
theorem Tab.mono {P : Program} {w w' : World} (h : Tab P w) (hb : Below w.heap.size w w') : Tab P w' := by
  cases hg : P.globalNamed "internal/strconv.uint64pow10" with
  | none => unfold Tab Lib.TabIs World.var? at h; rw [hg] at h; cases h
  | some g => exact Go.Joins.tab_stays hg h hb (Nat.le_refl _)
theorem below_grow (w : World) (k : Nat) (os : Array Obj) : Below w.heap.size w (Sort.grow (w.drewN k) os) := ⟨rfl, rfl, rfl, by simp, fun b hb => Sort.heap_grow_old (w.drewN k) os hb⟩
theorem dec_small {u : Nat} (h : u < 10) : Lib.decDigits u = [UInt8.ofNat (48 + u)] := by rw [Lib.decDigits, dif_pos h]
theorem dec_big {u : Nat} (h : ¬ u < 10) : Lib.decDigits u = Lib.decDigits (u / 10) ++ [UInt8.ofNat (48 + u % 10)] := by rw [Lib.decDigits, dif_neg h]
theorem dec_len : ∀ (k u : Nat), u < 10 ^ (k + 1) → (Lib.decDigits u).length ≤ k + 1
  | 0, u, h => by rw [dec_small (by omega)]; simp
  | k + 1, u, h => by
    by_cases h1 : u < 10
    · rw [dec_small h1]; simp
    · rw [dec_big h1]
      have := dec_len k (u / 10) (by rw [Nat.pow_succ] at h; omega)
      simp; omega
theorem numText_size (n : Int) : (numText n).size ≤ 10 := by
  unfold numText
  split
  · rename_i h
    unfold isNumB at h
    have := withinB_true.1 h
    exact dec_len 9 n.toNat (by omega)
  · exact Nat.zero_le _
end Go.Mux
namespace Go.Proofs.YtjglknaojfnllaaDoor
open Go.RowKit Go.Mux Go.Shelf
def Tryd.laysItoa_ren : Go.Shelf.Ren := ⟨fun | 171 => 65 | 243 => 84 | 246 => 96 | 283 => 108 | 284 => 109 | 285 => 110 | 286 => 111 | 129 => 117 | 317 => 116 | 318 => 118 | 319 => 119 | 320 => 120 | 337 => 123 | 338 => 124 | n => n, fun | 3 => 3 | 9 => 9 | 2 => 2 | 4 => 4 | 171 => 115 | 0 => 0 | 53 => 116 | 37 => 22 | 5 => 5 | 173 => 119 | 212 => 127 | 51 => 106 | 20 => 20 | 213 => 128 | 46 => 76 | 232 => 139 | 233 => 140 | n => n, fun | 17 => 3 | 18 => 6 | 19 => 7 | n => n⟩
theorem Tryd.laysItoa : Go.Proofs.LaysM.n171 Tryd.prog Tryd.laysItoa_ren := {
  mixed := by kernel_rfl
  f129 := Tryd.func117.trans (congrArg some (by kernel_rfl))
  f171 := Tryd.func65.trans (congrArg some (by kernel_rfl))
  f243 := Tryd.func84.trans (congrArg some (by kernel_rfl))
  f246 := Tryd.func96.trans (congrArg some (by kernel_rfl))
  f283 := Tryd.func108.trans (congrArg some (by kernel_rfl))
  f284 := Tryd.func109.trans (congrArg some (by kernel_rfl))
  f285 := Tryd.func110.trans (congrArg some (by kernel_rfl))
  f286 := Tryd.func111.trans (congrArg some (by kernel_rfl))
  f317 := Tryd.func116.trans (congrArg some (by kernel_rfl))
  f318 := Tryd.func118.trans (congrArg some (by kernel_rfl))
  f319 := Tryd.func119.trans (congrArg some (by kernel_rfl))
  f320 := Tryd.func120.trans (congrArg some (by kernel_rfl))
  f337 := Tryd.func123.trans (congrArg some (by kernel_rfl))
  f338 := Tryd.func124.trans (congrArg some (by kernel_rfl))
  t0 := Tryd.underlying0
  a0 := Tryd.isAgg0
  z0 := Tryd.sizeOf0
  v0 := Tryd.zeroValue0
  t2 := Tryd.underlying2
  a2 := Tryd.isAgg2
  z2 := Tryd.sizeOf2
  v2 := Tryd.zeroValue2
  t3 := Tryd.underlying3
  a3 := Tryd.isAgg3
  z3 := Tryd.sizeOf3
  v3 := Tryd.zeroValue3
  t4 := Tryd.underlying4
  a4 := Tryd.isAgg4
  z4 := Tryd.sizeOf4
  v4 := Tryd.zeroValue4
  t5 := Tryd.underlying5
  a5 := Tryd.isAgg5
  z5 := Tryd.sizeOf5
  v5 := Tryd.zeroValue5
  t9 := Tryd.underlying9
  a9 := Tryd.isAgg9
  z9 := Tryd.sizeOf9
  v9 := Tryd.zeroValue9
  t20 := Tryd.underlying20
  a20 := Tryd.isAgg20
  z20 := Tryd.sizeOf20
  v20 := Tryd.zeroValue20
  t37 := Tryd.underlying22
  a37 := Tryd.isAgg22
  z37 := Tryd.sizeOf22
  v37 := Tryd.zeroValue22
  t46 := Tryd.underlying76
  a46 := Tryd.isAgg76
  z46 := Tryd.sizeOf76
  v46 := Tryd.zeroValue76
  t51 := Tryd.underlying106
  a51 := Tryd.isAgg106
  z51 := Tryd.sizeOf106
  v51 := Tryd.zeroValue106
  t53 := Tryd.underlying116
  a53 := Tryd.isAgg116
  z53 := Tryd.sizeOf116
  v53 := Tryd.zeroValue116
  t171 := Tryd.underlying115
  a171 := Tryd.isAgg115
  z171 := Tryd.sizeOf115
  v171 := Tryd.zeroValue115
  t173 := Tryd.underlying119
  a173 := Tryd.isAgg119
  z173 := Tryd.sizeOf119
  v173 := Tryd.zeroValue119
  t212 := Tryd.underlying127
  a212 := Tryd.isAgg127
  z212 := Tryd.sizeOf127
  v212 := Tryd.zeroValue127
  t213 := Tryd.underlying128
  a213 := Tryd.isAgg128
  z213 := Tryd.sizeOf128
  t232 := Tryd.underlying139
  a232 := Tryd.isAgg139
  z232 := Tryd.sizeOf139
  v232 := Tryd.zeroValue139
  t233 := Tryd.underlying140
  a233 := Tryd.isAgg140
  z233 := Tryd.sizeOf140
  v233 := Tryd.zeroValue140
  g17 := by kernel_rfl
  g18 := by kernel_rfl
  g19 := by kernel_rfl
  i0 := by kernel_rfl
  i2 := by kernel_rfl
  i3 := by kernel_rfl
  i4 := by kernel_rfl
  i5 := by kernel_rfl
  i9 := by kernel_rfl
  i20 := by kernel_rfl
  i37 := by kernel_rfl
  i46 := by kernel_rfl
  i51 := by kernel_rfl
  i53 := by kernel_rfl
  i171 := by kernel_rfl
  i173 := by kernel_rfl
  i212 := by kernel_rfl
  i232 := by kernel_rfl
  i233 := by kernel_rfl
  m17 := by kernel_rfl
  m18 := by kernel_rfl
  m19 := by kernel_rfl }
set_option maxHeartbeats 400000 in
theorem impl_NumText (w : World) (n : Int) (ht : Tab Tryd.prog w) : Calls Tryd.prog 46 #[.int .i64 n] w (Gives w fun r _ => r = .string (numText n)) := by
  cases h1 : withinB n 0 4294967295
  · go_enter Tryd.func46, Tryd.ntmps46
    go_wp2_with (first | (go_at_call 76; refine (impl_within _ _ _ _).mono ?_; rintro e w' ⟨rfl, rfl⟩) | go_in)
    go_ret
    exact ⟨_, rfl, by unfold numText isNumB; simp [h1]; rfl, Below.refl _ _⟩
  · have hn := withinB_true.1 h1
    go_enter Tryd.func46, Tryd.ntmps46
    go_wp2_with (first | (go_at_call 76; refine (impl_within _ _ _ _).mono ?_; rintro e w' ⟨rfl, rfl⟩) | (go_at_call 65; refine (Any.strconv_Itoa Tryd.laysItoa n (by omega) (by omega) _ ht).mono ?_; rintro e w' ⟨rfl, k, os, rfl⟩) | go_in)
    go_ret
    exact ⟨_, rfl, by unfold numText isNumB; simp [h1, Lib.itoa, show ¬ n < 0 from by omega], below_grow _ _ _⟩
set_option maxHeartbeats 400000 in
theorem spec_l01Num (w : World) (n : Int) : Calls Tryd.prog 38 #[.int .i64 n] w (Pure w (.bool (isNumB n))) := by
  go_enter Tryd.func38, Tryd.ntmps38
  go_wp2
  all_goals go_ret
  all_goals exact pure_ret (by rw [Bool.eq_iff_iff]; simp [isNumB, withinB, *] <;> omega)
theorem dig_bytes (w : World) (d : UInt8) (x : Int) (hx : x = (d.toNat : Int)) : (convert 22 9 (.slice (some ⟨w.heap.size, 0, none⟩) 1 1)).run Tryd.prog (w.alloc (.cells #[.int .u8 x] 5)) = .ok (.string ⟨#[d]⟩) (w.alloc (.cells #[.int .u8 x] 5)) := by
  subst hx
  refine run_convert_bytes_back _ 22 9 5 ⟨w.heap.size, 0, none⟩ 1 [d] Tryd.underlying22 Tryd.underlying5 Tryd.underlying9 ?_
  intro j hj
  obtain rfl : j = 0 := by simpa using hj
  have h0 := cell_of_row (w.alloc (.cells #[.int .u8 (d.toNat : Int)] 5)) w.heap.size 0 _ 5 (0, 0) (heap_alloc_new w _)
  simp only [List.getElem_cons_zero]
  simp only [Addr.add, if_true]
  exact h0
theorem dig_at (W : World) (g : Nat) (d : UInt8) (x : Int) (hx : x = (d.toNat : Int)) (hc : W.cell? ⟨g, 0, none⟩ = some (.int .u8 x)) : (convert 22 9 (.slice (some ⟨g, 0, none⟩) 1 1)).run Tryd.prog W = .ok (.string ⟨#[d]⟩) W := by
  subst hx
  refine run_convert_bytes_back _ 22 9 5 ⟨g, 0, none⟩ 1 [d] Tryd.underlying22 Tryd.underlying5 Tryd.underlying9 ?_
  intro j hj
  obtain rfl : j = 0 := by simpa using hj
  simp only [List.getElem_cons_zero]
  simp only [Addr.add, if_true]
  exact hc
theorem dig_val {n : Nat} (h : n < 10) : ((UInt8.ofNat (48 + n)).toNat : Int) = 48 + (n : Int) := by
  rw [UInt8.toNat_ofNat']
  omega
set_option maxHeartbeats 1000000 in
theorem spec_NumText_small (n : Nat) (w : World) (h10 : n < 10) : Calls Tryd.prog 39 #[.int .i64 n] w (Gives w fun r _ => r = .string ⟨(Lib.decDigits n).toArray⟩) := by
  have hB : isNumB (n : Int) = true := by unfold isNumB; exact withinB_true.2 ⟨by omega, by omega⟩
  have d10 : decide ((n : Int) < 10) = true := decide_eq_true (by omega)
  obtain ⟨d, hd⟩ : ∃ d : UInt8, d = UInt8.ofNat (48 + n) := ⟨_, rfl⟩
  have HDD := Lib.hid hd
  have hcv := dig_bytes w d (48 + (n : Int)) (by rw [hd]; exact (dig_val h10).symm)
  clear hd
  go_enter Tryd.func39, Tryd.ntmps39
  go_wp2_with (go_at_call 38; refine (spec_l01Num _ _).mono ?_; rintro e w' ⟨rfl, rfl⟩; rw [hB])
  go_ret
  exact ⟨_, rfl, (by show _ = _; rw [dec_small h10, ← HDD.out]; rfl), bel_alloc (Below.refl _ _) _⟩
set_option maxRecDepth 100000 in
set_option maxHeartbeats 1000000 in
theorem spec_NumText_rec : ∀ (f n : Nat) (w : World), n ≤ f → n ≤ 4294967295 → Calls Tryd.prog 39 #[.int .i64 n] w (Gives w fun r _ => r = .string ⟨(Lib.decDigits n).toArray⟩) := by
  intro f
  induction f with
  | zero =>
    intro n w hf hn
    exact spec_NumText_small n w (by omega)
  | succ f ih =>
    intro n w hf hn
    have hB : isNumB (n : Int) = true := by unfold isNumB; exact withinB_true.2 ⟨by omega, by omega⟩
    by_cases h10 : n < 10
    · exact spec_NumText_small n w h10
    · have d10 : decide ((n : Int) < 10) = false := decide_eq_false (by omega)
      obtain ⟨d, hd⟩ : ∃ d : UInt8, d = UInt8.ofNat (48 + n % 10) := ⟨_, rfl⟩
      have HDD := Lib.hid hd
      have hx : IntKind.u8.wrap (IntKind.i64.wrap (48 + (n : Int).tmod 10)) = (d.toNat : Int) := by
        rw [hd, dig_val (Nat.mod_lt n (by omega)), Int.tmod_eq_emod_of_nonneg (by omega), IntKind.wrap_i64, IntKind.wrap_u8]; omega
      have hcv := fun w => dig_bytes w d (IntKind.u8.wrap (IntKind.i64.wrap (48 + (n : Int).tmod 10))) hx
      have hcv2 : ∀ w : World, (convert 22 9 (.slice (some ⟨w.heap.size, 0, none⟩) 1 1)).run Tryd.prog ((w.alloc (.cells #[.int .u8 (IntKind.u8.wrap (IntKind.i64.wrap (48 + (n : Int).tmod 10)))] 5)).drew) = .ok (.string ⟨#[d]⟩) ((w.alloc (.cells #[.int .u8 (IntKind.u8.wrap (IntKind.i64.wrap (48 + (n : Int).tmod 10)))] 5)).drew) := fun w => dig_at _ w.heap.size d _ hx (by simp)
      have HX := Lib.hid hx
      clear hx
      have hq : IntKind.i64.wrap ((n : Int) / 10) = (n : Int) / 10 := by rw [IntKind.wrap_i64]; omega
      have hm0 : (0 : Int) ≤ (n : Int) % 10 := by omega
      have hm1 : (n : Int) % 10 < 10 := by omega
      have hm3 : IntKind.i64.wrap ((n : Int) % 10) = (n : Int) % 10 := by rw [IntKind.wrap_i64]; omega
      have hm4 : IntKind.i64.wrap (48 + (n : Int) % 10) = 48 + (n : Int) % 10 := by rw [IntKind.wrap_i64]; omega
      have hsz : (⟨(Lib.decDigits (n / 10)).toArray⟩ : ByteArray).size ≤ 10 := by
        show (Lib.decDigits (n / 10)).toArray.size ≤ 10
        have := dec_len 9 (n / 10) (by omega)
        simpa using this
      obtain ⟨b, hb⟩ : ∃ b : ByteArray, b = ⟨(Lib.decDigits (n / 10)).toArray⟩ := ⟨_, rfl⟩
      rw [← hb] at hsz
      have HBB := Lib.hid hb
      have HIH := Lib.hid (show ∀ w, Calls Tryd.prog 39 #[.int .i64 ((n : Int) / 10)] w (Gives w fun r _ => r = .string ⟨(Lib.decDigits (n / 10)).toArray⟩) from fun w => by
        have := ih (n / 10) w (by omega) (by omega)
        rw [show ((n / 10 : Nat) : Int) = (n : Int) / 10 by omega] at this
        exact this)
      clear hd hb ih
      go_enter Tryd.func39, Tryd.ntmps39
      go_wp2_with (go_at_call 38; refine (spec_l01Num _ _).mono ?_; rintro e w' ⟨rfl, rfl⟩; rw [hB])
      go_region_with
        (first
          | (go_at_call 39; refine (HIH.out _).mono ?_; rintro e W1 ⟨_, rfl, rfl, hb⟩; rw [← HBB.out]; have HB1 := Lib.hid hb; (first | (refine (fun hcw => ?m) (dig_at W1 w.heap.size d _ HX.out (Eq.trans (hb.cell (p := ⟨w.heap.size, 0, none⟩) ?h1) ?h2)); (case h1 => simp); (case h2 => simp)) | skip); clear hb))
      all_goals (go_wp2_with fail)
      all_goals go_ret
      all_goals refine ⟨_, rfl, (by show _ = _; rw [dec_big h10, HBB.out, HDD.out]; simp; first | rfl | skip), ?_⟩
      all_goals first | exact bel_alloc (bel_next (Below.drew (Below.refl _ _)) HB1.out) _ | exact bel_alloc HB1.out _ | exact bel_next (Below.drew (bel_alloc (Below.refl _ _) _)) HB1.out | exact bel_next (bel_alloc (Below.refl _ _) _) HB1.out
theorem spec_NumText (w : World) (n : Int) : Calls Tryd.prog 39 #[.int .i64 n] w (Gives w fun r _ => r = .string (numText n)) := by
  cases hB : isNumB n
  · go_enter Tryd.func39, Tryd.ntmps39
    go_wp2_with (go_at_call 38; refine (spec_l01Num _ _).mono ?_; rintro e w' ⟨rfl, rfl⟩; rw [hB])
    go_ret
    exact ⟨_, rfl, by unfold numText; simp [hB]; rfl, Below.refl _ _⟩
  · have hn : 0 ≤ n ∧ n ≤ 4294967295 := by
      have h := hB
      unfold isNumB at h
      exact withinB_true.1 h
    obtain ⟨k, rfl⟩ : ∃ k : Nat, n = k := ⟨n.toNat, by omega⟩
    have e : numText (k : Int) = ⟨(Lib.decDigits k).toArray⟩ := by unfold numText; simp [hB]
    rw [e]
    exact spec_NumText_rec k k w (Nat.le_refl _) (by omega)
end Go.Proofs.YtjglknaojfnllaaDoor
