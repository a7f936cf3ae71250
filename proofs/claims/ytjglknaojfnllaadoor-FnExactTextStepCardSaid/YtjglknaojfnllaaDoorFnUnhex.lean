/- Bytes read from digits of base 16: the reference's walk and the program's. -/
import Derived.Test.YtjglknaojfnllaaDoorFnTextS
import Derived.Laws.Bits128
import Derived.Test.YtjglknaojfnllaaDoorChain
import Derived.BigQuiet
set_option linter.unusedSimpArgs false
set_option linter.unusedVariables false
namespace Go.Mux
open Go.RowKit
theorem i64_and255 (n : Int) (h0 : 0 ≤ n) (h1 : n ≤ 255) : bits .and .i64 n 255 = n := by
  have hb : (BitVec.ofInt 64 n).toNat = n.toNat := by
    rw [BitVec.toNat_ofInt]
    omega
  have h2 : (BitVec.ofInt 64 (255 : Int)).toNat = 255 := by decide
  have h : bits .and .i64 n 255 = IntKind.i64.wrap ((BitVec.ofInt 64 n &&& BitVec.ofInt 64 (255 : Int)).toNat : Int) := rfl
  rw [h, BitVec.toNat_and, hb, h2, show (255 : Nat) = 2 ^ 8 - 1 from rfl, Nat.and_two_pow_sub_one_eq_mod, IntKind.wrap_i64]
  omega
theorem digit_back {c : UInt8} {d : Nat} (h : digitOf c = some d) : d < 16 ∧ hexDig d = c := by
  have hc := c.toNat_lt
  unfold digitOf at h
  split at h
  · next hr =>
    cases h
    refine ⟨by omega, ?_⟩
    unfold hexDig
    rw [if_pos (by omega)]
    refine UInt8.toNat_inj.1 ?_
    rw [UInt8.toNat_ofNat']
    omega
  · split at h
    · next hr =>
      cases h
      refine ⟨by omega, ?_⟩
      unfold hexDig
      rw [if_neg (by omega)]
      refine UInt8.toNat_inj.1 ?_
      rw [UInt8.toNat_ofNat']
      omega
    · cases h
theorem digit_none {c : UInt8} (h : ∀ d, d < 16 → hexDig d ≠ c) : digitOf c = none := by
  cases hd : digitOf c with
  | none => rfl
  | some d => exact absurd (digit_back hd).2 (h d (digit_back hd).1)
theorem drop_two {l : List UInt8} {k : Nat} {a b : UInt8} (ha : l[k]? = some a) (hb : l[k + 1]? = some b) : l.drop k = a :: b :: l.drop (k + 2) := by
  obtain ⟨h1, rfl⟩ := List.getElem?_eq_some_iff.1 ha
  obtain ⟨h2, rfl⟩ := List.getElem?_eq_some_iff.1 hb
  rw [List.drop_eq_getElem_cons h1, List.drop_eq_getElem_cons h2]
theorem unhexS_len : ∀ l : List UInt8, 2 * (unhexS l).length ≤ l.length
  | [] => by simp [unhexS]
  | [_] => by simp [unhexS]
  | _ :: _ :: l => by
    have := unhexS_len l
    simp only [unhexS, List.length_cons]
    omega
theorem unhexI_len : ∀ l : List UInt8, 2 * (unhexI l).length ≤ l.length
  | [] => by simp [unhexI]
  | [_] => by simp [unhexI]
  | a :: b :: l => by
    have := unhexI_len l
    unfold unhexI
    split
    · simp only [List.length_cons]; omega
    · simp
theorem bel_drew0 (w : World) : Below w.heap.size w w.drew := ⟨rfl, rfl, rfl, Nat.le_refl _, fun _ _ => rfl⟩
theorem val16 (o : Option Nat) (c : UInt8) (h : digitOf c = o) : o.getD 0 < 16 := by
  cases o with
  | none => decide
  | some d => exact (digit_back h).1
end Go.Mux
namespace Go.Proofs.YtjglknaojfnllaaDoor
open Go.RowKit Go.Mux
set_option maxRecDepth 100000 in
set_option maxHeartbeats 1000000 in
theorem spec_l23Unhex (w : World) (s : ByteArray) (hs : s.size ≤ 1048576) : Calls Tryd.prog 19 #[.string s] w (Gives w fun r w' => FreshS w.heap.size w' r (unhexS s.data.toList)) := by
  have hdl : s.data.toList.length = s.size := Array.length_toList
  have HO := Lib.hid (show OwnB (w.alloc (Obj.cells #[] 5)) ⟨w.heap.size, 0, none⟩ 0 0 [] from OwnB.of (OwnS.empty rfl (heap_alloc_new w _)))
  go_enter Tryd.func19, Tryd.ntmps19
  go_wp2_with fail
  go_loopw [3, 4, 5] (fun o hv iv wr => ∃ (j k : Nat) (h : Int) (a : Addr) (n c : Nat) (done : List UInt8), k ≤ s.size ∧ iv = .int .i64 (k : Int) ∧ hv = .int .i64 h ∧ o = .slice (some a) n c ∧ w.heap.size ≤ a.block ∧ (k = 2 * j ∧ h = 0 ∨ k = 2 * j + 1 ∧ Hid (∃ x, s.data.toList[2 * j]? = some x ∧ h = (((digitOf x).getD 0 : Nat) : Int))) ∧ done.length ≤ j ∧ Hid (OwnB wr a n c done) ∧ Hid (unhexS s.data.toList = done ++ unhexS (s.data.toList.drop (2 * j))) ∧ Hid (Below w.heap.size w wr)) (fun _ _ iv _ => s.size - (intOf iv).toNat)
  case atStart => exact ⟨0, 0, 0, _, _, _, [], Nat.zero_le _, rfl, rfl, rfl, Nat.le_refl _, .inl ⟨rfl, rfl⟩, by simp, HO.out, by show _ = _; simp, bel_alloc (Below.refl _ _) _⟩
  case round =>
    obtain ⟨j, k, h, a, n, c, done, hk, rfl, rfl, rfl, hab, hpar, hdn, HW, HE, HB⟩ := hrel
    clear HO
    by_cases hlt : k < s.size
    · have d1 : decide ((k : Int) < (s.size : Int)) = true := decide_eq_true (by omega)
      have k0 : (0 : Int) ≤ (k : Int) := by omega
      have k1 : (k : Int) < (s.size : Int) := by omega
      have HAT := Lib.hid (byte_get s hlt)
      obtain ⟨x, hx⟩ : ∃ x, s[k]'hlt = x := ⟨_, rfl⟩
      rw [hx] at HAT
      obtain ⟨wo, rfl⟩ : ∃ W, W = wr := ⟨_, rfl⟩
      go_wp2_with fail
      go_loopw [6] (fun dv wq => ∃ d : Nat, d ≤ 16 ∧ dv = .int .i64 (d : Int) ∧ Hid (∀ e, e < d → hexDig e ≠ x) ∧ Hid (Below wo.heap.size wo wq)) (fun dv _ => 16 - (intOf dv).toNat)
      case atStart => exact ⟨0, by omega, rfl, (by show ∀ e, _ → _; intro e he; omega), Below.refl _ _⟩
      case round =>
        obtain ⟨d, hd, rfl, HN, HQ⟩ := hrel
        by_cases hd16 : d < 16
        · have e0 : decide ((d : Int) < 16) = true := decide_eq_true (by omega)
          by_cases hm : hexDig d = x
          · have e1 : (((hexDig d).toNat : Int) == (x.toNat : Int)) = true := by rw [hm]; simp
            have e2 : decide (((hexDig d).toNat : Int) = (x.toNat : Int)) = true := by rw [hm]; simp
            have HDV := Lib.hid (show (digitOf x).getD 0 = d % 16 from by rw [← hm, digit_dig hd16, Nat.mod_eq_of_lt hd16]; rfl)
            clear hm
            go_wp2_with fail
            refine wp_region_chain 9 (fun _ => True) (by kernel_rfl) trivial (fun hHeld => ?_)
            have hbq : Below wo.heap.size wo wr.drew := HQ.out.trans ((bel_drew0 wr).mono HQ.out.size)
            obtain ⟨wx, hwx⟩ : ∃ W, W = wr.drew := ⟨_, rfl⟩
            rw [← hwx] at hbq ⊢
            clear hwx
            (refine wpChain_take (i := 0) (v := ?_) rfl rfl rfl (by kernel_rfl) (by kernel_rfl) (by kernel_rfl) (by kernel_rfl) (fun _ _ _ h => h) (.inl ⟨by rfl, ?_⟩) hHeld ?_; rotate_left; (focus (intro wq hwq; go_simp; (try with_reducible rfl))); (try simp only [Act.put, List.getElem_toArray, List.getElem_cons_succ, List.getElem_cons_zero, List.setIfInBounds_toArray, List.set_cons_zero, List.set_cons_succ]))
            (refine wpChain_take (i := 1) (v := ?_) rfl rfl rfl (by kernel_rfl) (by kernel_rfl) (by kernel_rfl) (by kernel_rfl) (fun _ _ _ h => h) (.inl ⟨by rfl, ?_⟩) hHeld ?_; rotate_left; (focus (intro wq hwq; go_simp; (try with_reducible rfl))); (try simp only [Act.put, List.getElem_toArray, List.getElem_cons_succ, List.getElem_cons_zero, List.setIfInBounds_toArray, List.set_cons_zero, List.set_cons_succ]))
            (refine wpChain_take (i := 2) (v := ?_) rfl rfl rfl (by kernel_rfl) (by kernel_rfl) (by kernel_rfl) (by kernel_rfl) (fun _ _ _ h => h) (.inl ⟨by rfl, ?_⟩) hHeld ?_; rotate_left; (focus (intro wq hwq; go_simp; (try with_reducible rfl))); (try simp only [Act.put, List.getElem_toArray, List.getElem_cons_succ, List.getElem_cons_zero, List.setIfInBounds_toArray, List.set_cons_zero, List.set_cons_succ]))
            (refine wpChain_take (i := 3) (v := ?_) rfl rfl rfl (by kernel_rfl) (by kernel_rfl) (by kernel_rfl) (by kernel_rfl) (fun _ _ _ h => h) (.inl ⟨by rfl, ?_⟩) hHeld ?_; rotate_left; (focus (intro wq hwq; go_simp; (try with_reducible rfl))); (try simp only [Act.put, List.getElem_toArray, List.getElem_cons_succ, List.getElem_cons_zero, List.setIfInBounds_toArray, List.set_cons_zero, List.set_cons_succ]))
            (refine wpChain_take (i := 5) (v := ?_) rfl rfl rfl (by kernel_rfl) (by kernel_rfl) (by kernel_rfl) (by kernel_rfl) (fun _ _ _ h => h) (.inl ⟨by rfl, ?_⟩) hHeld ?_; rotate_left; (focus (intro wq hwq; go_simp; (try with_reducible rfl))); (try simp only [Act.put, List.getElem_toArray, List.getElem_cons_succ, List.getElem_cons_zero, List.setIfInBounds_toArray, List.set_cons_zero, List.set_cons_succ]))
            (refine wpChain_take (i := 6) (v := ?_) rfl rfl rfl (by kernel_rfl) (by kernel_rfl) (by kernel_rfl) (by kernel_rfl) (fun _ _ _ h => h) (.inl ⟨by rfl, ?_⟩) hHeld ?_; rotate_left; (focus (intro wq hwq; go_simp; (try with_reducible rfl))); (try simp only [Act.put, List.getElem_toArray, List.getElem_cons_succ, List.getElem_cons_zero, List.setIfInBounds_toArray, List.set_cons_zero, List.set_cons_succ]))
            (refine wpChain_take (i := 7) (v := ?_) rfl rfl rfl (by kernel_rfl) (by kernel_rfl) (by kernel_rfl) (by kernel_rfl) (fun _ _ _ h => h) (.inl ⟨by rfl, ?_⟩) hHeld ?_; rotate_left; (focus (intro wq hwq; go_simp; (try with_reducible rfl))); (try simp only [Act.put, List.getElem_toArray, List.getElem_cons_succ, List.getElem_cons_zero, List.setIfInBounds_toArray, List.set_cons_zero, List.set_cons_succ]))
            refine wpChain_step (i := 4) rfl (by kernel_rfl) (fun K hK => ?_)
            go_simp
            refine (spec_l23Digit _ _ d rfl (by omega)).mono ?_
            rintro e w' ⟨rfl, rfl⟩
            refine hK.out _ _ trivial ?_
            clear hK K
            (try simp only [Act.put, List.getElem_toArray, List.getElem_cons_succ, List.getElem_cons_zero, List.setIfInBounds_toArray, List.set_cons_zero, List.set_cons_succ])
            (refine wpChain_take (i := 8) (v := ?_) rfl rfl rfl (by kernel_rfl) (by kernel_rfl) (by kernel_rfl) (by kernel_rfl) (fun _ _ _ h => h) (.inl ⟨by rfl, ?_⟩) hHeld ?_; rotate_left; (focus (intro wq hwq; go_simp; (try with_reducible rfl))); (try simp only [Act.put, List.getElem_toArray, List.getElem_cons_succ, List.getElem_cons_zero, List.setIfInBounds_toArray, List.set_cons_zero, List.set_cons_succ]))
            refine wpChain_step (i := 9) rfl (by kernel_rfl) (fun K hK => ?_)
            go_simp
            refine hK.out _ _ trivial ?_
            clear hK K
            (try simp only [Act.put, List.getElem_toArray, List.getElem_cons_succ, List.getElem_cons_zero, List.setIfInBounds_toArray, List.set_cons_zero, List.set_cons_succ])
            refine wpChain_end (by kernel_rfl) ?_
            have HWQ := Lib.hid (HW.out.grow hbq)
            have HBQ := Lib.hid (bel_next HB.out hbq)
            clear hbq
            obtain ⟨dv, hdv⟩ : ∃ dv : Nat, dv = (digitOf x).getD 0 := ⟨_, rfl⟩
            have hm2 : (d : Int).tmod 16 = (dv : Int) := by rw [hdv, HDV.out, Int.tmod_eq_emod_of_nonneg (by omega)]; omega
            have hdl16 : dv < 16 := by rw [hdv]; exact val16 _ x rfl
            have HDD := Lib.hid hdv
            clear hdv
            rcases hpar with ⟨hk2, hh⟩ | ⟨hk2, hh⟩
            · have hp2 : (k : Int).tmod 2 = 0 := by rw [Int.tmod_eq_emod_of_nonneg (by omega)]; omega
              have v1 : IntKind.i64.wrap (h * 16) = h * 16 := by rw [IntKind.wrap_i64]; omega
              have v2 : IntKind.i64.wrap (h * 16 + (dv : Int)) = h * 16 + (dv : Int) := by rw [IntKind.wrap_i64]; omega
              have HX := Lib.hid (show ∃ y, s.data.toList[2 * j]? = some y ∧ h * 16 + (dv : Int) = (((digitOf y).getD 0 : Nat) : Int) from ⟨x, by rw [← hk2]; exact HAT.out, by rw [HDD.out]; omega⟩)
              have HK := Lib.hid hk2
              clear hk2 hh
              go_wp2_with fail
              go_roundw
              case rel => exact ⟨j, k + 1, _, a, n, c, done, by omega, by go_num, rfl, rfl, hab, .inr ⟨by rw [HK.out], HX.out⟩, hdn, HWQ.out, HE.out, HBQ.out⟩
              case measure => simp [intOf]; omega
            · obtain ⟨y, hy, hhv⟩ := hh.out
              obtain ⟨hv, hhv2⟩ : ∃ hv : Nat, hv = (digitOf y).getD 0 := ⟨_, rfl⟩
              have hv16 : hv < 16 := by rw [hhv2]; exact val16 _ y rfl
              have hh2 : h = (hv : Int) := by rw [hhv, hhv2]
              have hp2 : (k : Int).tmod 2 = 1 := by rw [Int.tmod_eq_emod_of_nonneg (by omega)]; omega
              obtain ⟨b, hb⟩ : ∃ b : UInt8, b = UInt8.ofNat (16 * (digitOf y).getD 0 + (digitOf x).getD 0) := ⟨_, rfl⟩
              have hbn : b.toNat = 16 * hv + dv := by rw [hb, UInt8.toNat_ofNat', ← hhv2, ← HDD.out]; omega
              have v1 : IntKind.i64.wrap (h * 16) = h * 16 := by rw [IntKind.wrap_i64]; omega
              have v2 : IntKind.i64.wrap (h * 16 + (dv : Int)) = h * 16 + (dv : Int) := by rw [IntKind.wrap_i64]; omega
              have v3 : bits .and .i64 (h * 16 + (dv : Int)) 255 = (b.toNat : Int) := by rw [i64_and255 _ (by omega) (by omega)]; omega
              have v4 : IntKind.u8.wrap (b.toNat : Int) = (b.toNat : Int) := by have := b.toNat_lt; rw [IntKind.wrap_u8]; omega
              have HE2 := Lib.hid (show unhexS s.data.toList = (done ++ [b]) ++ unhexS (s.data.toList.drop (2 * (j + 1))) from by
                rw [HE.out, drop_two hy (by rw [← hk2]; exact HAT.out), unhexS, ← hb, List.append_assoc]
                rfl)
              have hsum : done.length + [b].length ≤ 140737488355328 := by simp; omega
              have HK := Lib.hid hk2
              clear hk2 hh hy hhv hhv2 hh2 hb hbn
              obtain ⟨W1, hW1⟩ : ∃ W1, W1 = wx.alloc (Obj.cells #[Value.int IntKind.u8 (b.toNat : Nat)] 5) := ⟨_, rfl⟩
              have HB1 := Lib.hid (show Below wx.heap.size wx W1 from by rw [hW1]; exact bel_alloc (Below.refl _ _) _)
              have HW1 := Lib.hid (HWQ.out.grow HB1.out)
              have HP1 := Lib.hid (show RepS W1 (.slice (some ⟨wx.heap.size, 0, none⟩) 1 1) [b] from by
                refine bytes_rep (b := wx.heap.size) (off := 0) [_] (by simp) (by simp) fun i u hu => ?_
                rw [hW1]
                match i, hu with
                | 0, hu => simp only [List.getElem?_cons_zero, Option.some.injEq] at hu; subst hu; simp)
              have hz1 := HB1.out.size
              go_wp2_with (at_builtin; rw [← hW1]; refine wpList_append_bytes_any rfl _ _ 22 rfl Tryd.underlying22 info_u8 a n c _ rfl HW1.out _ _ _ [b] rfl HP1.out hsum ?_; intro a8 n8 c8 W8 HO8 hg8 hat8; have HW8 := Lib.hid HO8; have HB8 := Lib.hid ((bel_next HBQ.out HB1.out).grown hg8 (bel_next HBQ.out HB1.out).size (fun j hj => by cases hj; exact hab)); have ha8 : w.heap.size ≤ a8.block := (by rcases hat8 with e | e; (rw [e]; exact hab); (rw [e]; exact (bel_next HBQ.out HB1.out).size)); clear HO8 hg8 hat8 hW1)
              go_roundw
              case rel => exact ⟨j + 1, k + 1, 0, a8, n8, c8, done ++ [b], by omega, by go_num, rfl, rfl, ha8, .inl ⟨by have := HK.out; omega, rfl⟩, by simp; omega, HW8.out, HE2.out, HB8.out⟩
              case measure => simp [intOf]; omega
          · have e1 : (((hexDig d).toNat : Int) == (x.toNat : Int)) = false := by
              rw [beq_eq_false_iff_ne]
              intro e
              exact hm (UInt8.toNat_inj.1 (by omega))
            have e2 : decide (((hexDig d).toNat : Int) = (x.toNat : Int)) = false := decide_eq_false (fun e => hm (UInt8.toNat_inj.1 (by omega)))
            have HN2 := Lib.hid (show ∀ e, e < d + 1 → hexDig e ≠ x from fun e he => by
              by_cases h : e = d
              · rw [h]; exact hm
              · exact HN.out e (by omega))
            clear hm
            go_wp2_with fail
            refine wp_region_chain 9 (fun _ => True) (by kernel_rfl) trivial (fun hHeld => ?_)
            have hbq : Below wo.heap.size wo wr.drew := HQ.out.trans ((bel_drew0 wr).mono HQ.out.size)
            obtain ⟨wx, hwx⟩ : ∃ W, W = wr.drew := ⟨_, rfl⟩
            rw [← hwx] at hbq ⊢
            clear hwx
            (refine wpChain_take (i := 0) (v := ?_) rfl rfl rfl (by kernel_rfl) (by kernel_rfl) (by kernel_rfl) (by kernel_rfl) (fun _ _ _ h => h) (.inl ⟨by rfl, ?_⟩) hHeld ?_; rotate_left; (focus (intro wq hwq; go_simp; (try with_reducible rfl))); (try simp only [Act.put, List.getElem_toArray, List.getElem_cons_succ, List.getElem_cons_zero, List.setIfInBounds_toArray, List.set_cons_zero, List.set_cons_succ]))
            (refine wpChain_take (i := 1) (v := ?_) rfl rfl rfl (by kernel_rfl) (by kernel_rfl) (by kernel_rfl) (by kernel_rfl) (fun _ _ _ h => h) (.inl ⟨by rfl, ?_⟩) hHeld ?_; rotate_left; (focus (intro wq hwq; go_simp; (try with_reducible rfl))); (try simp only [Act.put, List.getElem_toArray, List.getElem_cons_succ, List.getElem_cons_zero, List.setIfInBounds_toArray, List.set_cons_zero, List.set_cons_succ]))
            (refine wpChain_take (i := 2) (v := ?_) rfl rfl rfl (by kernel_rfl) (by kernel_rfl) (by kernel_rfl) (by kernel_rfl) (fun _ _ _ h => h) (.inl ⟨by rfl, ?_⟩) hHeld ?_; rotate_left; (focus (intro wq hwq; go_simp; (try with_reducible rfl))); (try simp only [Act.put, List.getElem_toArray, List.getElem_cons_succ, List.getElem_cons_zero, List.setIfInBounds_toArray, List.set_cons_zero, List.set_cons_succ]))
            (refine wpChain_take (i := 3) (v := ?_) rfl rfl rfl (by kernel_rfl) (by kernel_rfl) (by kernel_rfl) (by kernel_rfl) (fun _ _ _ h => h) (.inl ⟨by rfl, ?_⟩) hHeld ?_; rotate_left; (focus (intro wq hwq; go_simp; (try with_reducible rfl))); (try simp only [Act.put, List.getElem_toArray, List.getElem_cons_succ, List.getElem_cons_zero, List.setIfInBounds_toArray, List.set_cons_zero, List.set_cons_succ]))
            (refine wpChain_take (i := 5) (v := ?_) rfl rfl rfl (by kernel_rfl) (by kernel_rfl) (by kernel_rfl) (by kernel_rfl) (fun _ _ _ h => h) (.inl ⟨by rfl, ?_⟩) hHeld ?_; rotate_left; (focus (intro wq hwq; go_simp; (try with_reducible rfl))); (try simp only [Act.put, List.getElem_toArray, List.getElem_cons_succ, List.getElem_cons_zero, List.setIfInBounds_toArray, List.set_cons_zero, List.set_cons_succ]))
            (refine wpChain_take (i := 6) (v := ?_) rfl rfl rfl (by kernel_rfl) (by kernel_rfl) (by kernel_rfl) (by kernel_rfl) (fun _ _ _ h => h) (.inl ⟨by rfl, ?_⟩) hHeld ?_; rotate_left; (focus (intro wq hwq; go_simp; (try with_reducible rfl))); (try simp only [Act.put, List.getElem_toArray, List.getElem_cons_succ, List.getElem_cons_zero, List.setIfInBounds_toArray, List.set_cons_zero, List.set_cons_succ]))
            (refine wpChain_take (i := 7) (v := ?_) rfl rfl rfl (by kernel_rfl) (by kernel_rfl) (by kernel_rfl) (by kernel_rfl) (fun _ _ _ h => h) (.inl ⟨by rfl, ?_⟩) hHeld ?_; rotate_left; (focus (intro wq hwq; go_simp; (try with_reducible rfl))); (try simp only [Act.put, List.getElem_toArray, List.getElem_cons_succ, List.getElem_cons_zero, List.setIfInBounds_toArray, List.set_cons_zero, List.set_cons_succ]))
            refine wpChain_step (i := 4) rfl (by kernel_rfl) (fun K hK => ?_)
            go_simp
            refine (spec_l23Digit _ _ d rfl (by omega)).mono ?_
            rintro e w' ⟨rfl, rfl⟩
            refine hK.out _ _ trivial ?_
            clear hK K
            (try simp only [Act.put, List.getElem_toArray, List.getElem_cons_succ, List.getElem_cons_zero, List.setIfInBounds_toArray, List.set_cons_zero, List.set_cons_succ])
            (refine wpChain_take (i := 8) (v := ?_) rfl rfl rfl (by kernel_rfl) (by kernel_rfl) (by kernel_rfl) (by kernel_rfl) (fun _ _ _ h => h) (.inl ⟨by rfl, ?_⟩) hHeld ?_; rotate_left; (focus (intro wq hwq; go_simp; (try with_reducible rfl))); (try simp only [Act.put, List.getElem_toArray, List.getElem_cons_succ, List.getElem_cons_zero, List.setIfInBounds_toArray, List.set_cons_zero, List.set_cons_succ]))
            refine wpChain_step (i := 9) rfl (by kernel_rfl) (fun K hK => ?_)
            go_simp
            refine hK.out _ _ trivial ?_
            clear hK K
            (try simp only [Act.put, List.getElem_toArray, List.getElem_cons_succ, List.getElem_cons_zero, List.setIfInBounds_toArray, List.set_cons_zero, List.set_cons_succ])
            refine wpChain_end (by kernel_rfl) ?_
            go_wp2_with fail
            go_roundw
            case rel => exact ⟨d + 1, by omega, by go_num, HN2.out, hbq⟩
            case measure => simp [intOf]; omega
        · have e0 : decide ((d : Int) < 16) = false := decide_eq_false (by omega)
          have HDV := Lib.hid (show (digitOf x).getD 0 = d % 16 from by rw [show d = 16 by omega] at HN ⊢; rw [digit_none HN.out]; rfl)
          go_wp2_with fail
          go_quiet (fail)
          obtain ⟨wx, hwx⟩ : ∃ wx, wx = wr.drewN nq := ⟨_, rfl⟩
          have hbq : Below wo.heap.size wo wx := by rw [hwx]; exact below_drewN HQ.out _
          rw [← hwx]
          clear hwx
          have HWQ := Lib.hid (HW.out.grow hbq)
          have HBQ := Lib.hid (bel_next HB.out hbq)
          clear hbq
          obtain ⟨dv, hdv⟩ : ∃ dv : Nat, dv = (digitOf x).getD 0 := ⟨_, rfl⟩
          have hm2 : (d : Int).tmod 16 = (dv : Int) := by rw [hdv, HDV.out, Int.tmod_eq_emod_of_nonneg (by omega)]; omega
          have hdl16 : dv < 16 := by rw [hdv]; exact val16 _ x rfl
          have HDD := Lib.hid hdv
          clear hdv
          rcases hpar with ⟨hk2, hh⟩ | ⟨hk2, hh⟩
          · have hp2 : (k : Int).tmod 2 = 0 := by rw [Int.tmod_eq_emod_of_nonneg (by omega)]; omega
            have v1 : IntKind.i64.wrap (h * 16) = h * 16 := by rw [IntKind.wrap_i64]; omega
            have v2 : IntKind.i64.wrap (h * 16 + (dv : Int)) = h * 16 + (dv : Int) := by rw [IntKind.wrap_i64]; omega
            have HX := Lib.hid (show ∃ y, s.data.toList[2 * j]? = some y ∧ h * 16 + (dv : Int) = (((digitOf y).getD 0 : Nat) : Int) from ⟨x, by rw [← hk2]; exact HAT.out, by rw [HDD.out]; omega⟩)
            have HK := Lib.hid hk2
            clear hk2 hh
            go_wp2_with fail
            go_roundw
            case rel => exact ⟨j, k + 1, _, a, n, c, done, by omega, by go_num, rfl, rfl, hab, .inr ⟨by rw [HK.out], HX.out⟩, hdn, HWQ.out, HE.out, HBQ.out⟩
            case measure => simp [intOf]; omega
          · obtain ⟨y, hy, hhv⟩ := hh.out
            obtain ⟨hv, hhv2⟩ : ∃ hv : Nat, hv = (digitOf y).getD 0 := ⟨_, rfl⟩
            have hv16 : hv < 16 := by rw [hhv2]; exact val16 _ y rfl
            have hh2 : h = (hv : Int) := by rw [hhv, hhv2]
            have hp2 : (k : Int).tmod 2 = 1 := by rw [Int.tmod_eq_emod_of_nonneg (by omega)]; omega
            obtain ⟨b, hb⟩ : ∃ b : UInt8, b = UInt8.ofNat (16 * (digitOf y).getD 0 + (digitOf x).getD 0) := ⟨_, rfl⟩
            have hbn : b.toNat = 16 * hv + dv := by rw [hb, UInt8.toNat_ofNat', ← hhv2, ← HDD.out]; omega
            have v1 : IntKind.i64.wrap (h * 16) = h * 16 := by rw [IntKind.wrap_i64]; omega
            have v2 : IntKind.i64.wrap (h * 16 + (dv : Int)) = h * 16 + (dv : Int) := by rw [IntKind.wrap_i64]; omega
            have v3 : bits .and .i64 (h * 16 + (dv : Int)) 255 = (b.toNat : Int) := by rw [i64_and255 _ (by omega) (by omega)]; omega
            have v4 : IntKind.u8.wrap (b.toNat : Int) = (b.toNat : Int) := by have := b.toNat_lt; rw [IntKind.wrap_u8]; omega
            have HE2 := Lib.hid (show unhexS s.data.toList = (done ++ [b]) ++ unhexS (s.data.toList.drop (2 * (j + 1))) from by
              rw [HE.out, drop_two hy (by rw [← hk2]; exact HAT.out), unhexS, ← hb, List.append_assoc]
              rfl)
            have hsum : done.length + [b].length ≤ 140737488355328 := by simp; omega
            have HK := Lib.hid hk2
            clear hk2 hh hy hhv hhv2 hh2 hb hbn
            obtain ⟨W1, hW1⟩ : ∃ W1, W1 = wx.alloc (Obj.cells #[Value.int IntKind.u8 (b.toNat : Nat)] 5) := ⟨_, rfl⟩
            have HB1 := Lib.hid (show Below wx.heap.size wx W1 from by rw [hW1]; exact bel_alloc (Below.refl _ _) _)
            have HW1 := Lib.hid (HWQ.out.grow HB1.out)
            have HP1 := Lib.hid (show RepS W1 (.slice (some ⟨wx.heap.size, 0, none⟩) 1 1) [b] from by
              refine bytes_rep (b := wx.heap.size) (off := 0) [_] (by simp) (by simp) fun i u hu => ?_
              rw [hW1]
              match i, hu with
              | 0, hu => simp only [List.getElem?_cons_zero, Option.some.injEq] at hu; subst hu; simp)
            have hz1 := HB1.out.size
            go_wp2_with (at_builtin; rw [← hW1]; refine wpList_append_bytes_any rfl _ _ 22 rfl Tryd.underlying22 info_u8 a n c _ rfl HW1.out _ _ _ [b] rfl HP1.out hsum ?_; intro a8 n8 c8 W8 HO8 hg8 hat8; have HW8 := Lib.hid HO8; have HB8 := Lib.hid ((bel_next HBQ.out HB1.out).grown hg8 (bel_next HBQ.out HB1.out).size (fun j hj => by cases hj; exact hab)); have ha8 : w.heap.size ≤ a8.block := (by rcases hat8 with e | e; (rw [e]; exact hab); (rw [e]; exact (bel_next HBQ.out HB1.out).size)); clear HO8 hg8 hat8 hW1)
            go_roundw
            case rel => exact ⟨j + 1, k + 1, 0, a8, n8, c8, done ++ [b], by omega, by go_num, rfl, rfl, ha8, .inl ⟨by have := HK.out; omega, rfl⟩, by simp; omega, HW8.out, HE2.out, HB8.out⟩
            case measure => simp [intOf]; omega
    · have d1 : decide ((k : Int) < (s.size : Int)) = false := decide_eq_false (by omega)
      have HR := Lib.hid (show unhexS s.data.toList = done from by
        rw [HE.out]
        have : unhexS (s.data.toList.drop (2 * j)) = [] := by
          have h1 : (s.data.toList.drop (2 * j)).length ≤ 1 := by rw [List.length_drop, hdl]; rcases hpar with ⟨h, _⟩ | ⟨h, _⟩ <;> omega
          cases hq : s.data.toList.drop (2 * j) with
          | nil => rfl
          | cons u t =>
            cases t with
            | nil => rfl
            | cons _ _ => rw [hq] at h1; simp at h1
        rw [this, List.append_nil])
      go_wp2_with fail
      go_ret
      exact ⟨_, rfl, by rw [HR.out]; exact ⟨[a.block], HW.out.ownS, by simp, by simpa using hab⟩, HB.out⟩
end Go.Proofs.YtjglknaojfnllaaDoor
