/- Bytes read from digits of base 16: the program's walk. -/
import Derived.Test.YtjglknaojfnllaaDoorFnUnhex
set_option linter.unusedSimpArgs false
set_option linter.unusedVariables false
namespace Go.Mux
open Go.RowKit
def hexDigs : ByteArray := ⟨#[48, 49, 50, 51, 52, 53, 54, 55, 56, 57, 97, 98, 99, 100, 101, 102]⟩
@[irreducible] def digI (c : UInt8) : Int := match digitOf c with | some d => (d : Int) | none => -1
set_option maxRecDepth 100000 in
theorem hex_index_fin : ∀ n, n < 256 → Lib.indexByte hexDigs.data.toList (UInt8.ofNat n) = digI (UInt8.ofNat n) := by
  unfold digI digitOf
  decide
theorem hex_index (c : UInt8) : Lib.indexByte hexDigs.data.toList c = digI c := by
  have := hex_index_fin c.toNat c.toNat_lt
  rwa [UInt8.ofNat_toNat] at this
end Go.Mux
namespace Go.Mux
open Go.RowKit
theorem digI_some {c : UInt8} {d : Nat} (h : digitOf c = some d) : digI c = (d : Int) := by unfold digI; rw [h]
theorem digI_none {c : UInt8} (h : digitOf c = none) : digI c = -1 := by unfold digI; rw [h]
end Go.Mux
namespace Go.Proofs.YtjglknaojfnllaaDoor
open Go.RowKit Go.Mux
set_option maxRecDepth 100000 in
set_option maxHeartbeats 1000000 in
theorem impl_bytesOf (w : World) (s : ByteArray) (hs : s.size ≤ 1048576) : Calls Tryd.prog 44 #[.string s] w (Gives w fun r w' => FreshS w.heap.size w' r (unhexI s.data.toList)) := by
  have hdl : s.data.toList.length = s.size := Array.length_toList
  have HO := Lib.hid (show OwnB (w.alloc (Obj.cells #[] 5)) ⟨w.heap.size, 0, none⟩ 0 0 [] from OwnB.of (OwnS.empty rfl (heap_alloc_new w _)))
  go_enter Tryd.func44, Tryd.ntmps44
  go_wp2_with fail
  go_loopw [3, 4] (fun o iv wr => ∃ (k : Nat) (a : Addr) (n c : Nat) (done : List UInt8), k ≤ s.size ∧ iv = .int .i64 (k : Int) ∧ o = .slice (some a) n c ∧ w.heap.size ≤ a.block ∧ done.length ≤ k ∧ Hid (OwnB wr a n c done) ∧ Hid (unhexI s.data.toList = done ++ unhexI (s.data.toList.drop k)) ∧ Hid (Below w.heap.size w wr)) (fun _ iv _ => s.size - (intOf iv).toNat)
  case atStart => exact ⟨0, _, _, _, [], Nat.zero_le _, rfl, rfl, Nat.le_refl _, by simp, HO.out, by show _ = _; simp, bel_alloc (Below.refl _ _) _⟩
  case round =>
    obtain ⟨k, a, n, c, done, hk, rfl, rfl, hab, hdn, HW, HE, HB⟩ := hrel
    clear HO
    have v0 : IntKind.i64.wrap ((k : Int) + 1) = (k : Int) + 1 := by rw [IntKind.wrap_i64]; omega
    by_cases hlt : k + 1 < s.size
    · have d1 : decide ((k : Int) + 1 < (s.size : Int)) = true := decide_eq_true (by omega)
      have hlt0 : k < s.size := by omega
      have k0 : (0 : Int) ≤ (k : Int) := by omega
      have k1 : (k : Int) < (s.size : Int) := by omega
      have k2 : (0 : Int) ≤ (k : Int) + 1 := by omega
      have k3 : (k : Int) + 1 < (s.size : Int) := by omega
      have HAT := Lib.hid (byte_get s hlt0)
      have HAT2 := Lib.hid (byte_get s hlt)
      obtain ⟨x, hx⟩ : ∃ x, s[k]'hlt0 = x := ⟨_, rfl⟩
      obtain ⟨y, hy⟩ : ∃ y, s[k + 1]'hlt = y := ⟨_, rfl⟩
      have hy2 : ∀ h : ((k : Int) + 1).toNat < s.size, s[((k : Int) + 1).toNat]'h = y := fun h => by
        rw [← hy]
        congr 1
      rw [hx] at HAT
      rw [hy] at HAT2
      go_wp2_with fail
      refine wp_region_chain 10 (fun _ => True) (by kernel_rfl) trivial (fun hHeld => ?_)
      have hbq : Below wr.heap.size wr wr.drew := bel_drew0 wr
      obtain ⟨wx, hwx⟩ : ∃ W, W = wr.drew := ⟨_, rfl⟩
      rw [← hwx] at hbq ⊢
      have HWQ := Lib.hid (HW.out.grow hbq)
      have HBQ := Lib.hid (bel_next HB.out hbq)
      clear hwx hbq
      (refine wpChain_take (i := 0) (v := ?_) rfl rfl rfl (by kernel_rfl) (by kernel_rfl) (by kernel_rfl) (by kernel_rfl) (fun _ _ _ h => h) (.inl ⟨by rfl, ?_⟩) hHeld ?_; rotate_left; (focus (intro wq hwq; go_simp; (try with_reducible rfl))); (try simp only [Act.put, List.getElem_toArray, List.getElem_cons_succ, List.getElem_cons_zero, List.setIfInBounds_toArray, List.set_cons_zero, List.set_cons_succ]))
      (refine wpChain_take (i := 1) (v := ?_) rfl rfl rfl (by kernel_rfl) (by kernel_rfl) (by kernel_rfl) (by kernel_rfl) (fun _ _ _ h => h) (.inl ⟨by rfl, ?_⟩) hHeld ?_; rotate_left; (focus (intro wq hwq; go_simp; (try with_reducible rfl))); (try simp only [Act.put, List.getElem_toArray, List.getElem_cons_succ, List.getElem_cons_zero, List.setIfInBounds_toArray, List.set_cons_zero, List.set_cons_succ]))
      (refine wpChain_take (i := 2) (v := ?_) rfl rfl rfl (by kernel_rfl) (by kernel_rfl) (by kernel_rfl) (by kernel_rfl) (fun _ _ _ h => h) (.inl ⟨by rfl, ?_⟩) hHeld ?_; rotate_left; (focus (intro wq hwq; go_simp; (try with_reducible rfl))); (try simp only [Act.put, List.getElem_toArray, List.getElem_cons_succ, List.getElem_cons_zero, List.setIfInBounds_toArray, List.set_cons_zero, List.set_cons_succ]))
      (refine wpChain_take (i := 4) (v := ?_) rfl rfl rfl (by kernel_rfl) (by kernel_rfl) (by kernel_rfl) (by kernel_rfl) (fun _ _ _ h => h) (.inl ⟨by rfl, ?_⟩) hHeld ?_; rotate_left; (focus (intro wq hwq; go_simp; (try with_reducible rfl))); (try simp only [Act.put, List.getElem_toArray, List.getElem_cons_succ, List.getElem_cons_zero, List.setIfInBounds_toArray, List.set_cons_zero, List.set_cons_succ]))
      (refine wpChain_take (i := 5) (v := ?_) rfl rfl rfl (by kernel_rfl) (by kernel_rfl) (by kernel_rfl) (by kernel_rfl) (fun _ _ _ h => h) (.inl ⟨by rfl, ?_⟩) hHeld ?_; rotate_left; (focus (intro wq hwq; go_simp; (try with_reducible rfl))); (try simp only [Act.put, List.getElem_toArray, List.getElem_cons_succ, List.getElem_cons_zero, List.setIfInBounds_toArray, List.set_cons_zero, List.set_cons_succ]))
      (refine wpChain_take (i := 6) (v := ?_) rfl rfl rfl (by kernel_rfl) (by kernel_rfl) (by kernel_rfl) (by kernel_rfl) (fun _ _ _ h => h) (.inl ⟨by rfl, ?_⟩) hHeld ?_; rotate_left; (focus (intro wq hwq; go_simp; (try with_reducible rfl))); (try simp only [Act.put, List.getElem_toArray, List.getElem_cons_succ, List.getElem_cons_zero, List.setIfInBounds_toArray, List.set_cons_zero, List.set_cons_succ]))
      (refine wpChain_take (i := 7) (v := ?_) rfl rfl rfl (by kernel_rfl) (by kernel_rfl) (by kernel_rfl) (by kernel_rfl) (fun _ _ _ h => h) (.inl ⟨by rfl, ?_⟩) hHeld ?_; rotate_left; (focus (intro wq hwq; go_simp; (try with_reducible rfl))); (try simp only [Act.put, List.getElem_toArray, List.getElem_cons_succ, List.getElem_cons_zero, List.setIfInBounds_toArray, List.set_cons_zero, List.set_cons_succ]))
      refine wpChain_step (i := 3) rfl (by kernel_rfl) (fun K hK => ?_)
      go_simp
      refine (strings_indexByte _ hexDigs x).mono ?_
      rintro e w' ⟨rfl, rfl⟩
      rw [hex_index]
      refine hK.out _ _ trivial ?_
      clear hK K
      (try simp only [Act.put, List.getElem_toArray, List.getElem_cons_succ, List.getElem_cons_zero, List.setIfInBounds_toArray, List.set_cons_zero, List.set_cons_succ])
      refine wpChain_step (i := 8) rfl (by kernel_rfl) (fun K hK => ?_)
      go_simp
      refine (strings_indexByte _ hexDigs y).mono ?_
      rintro e w' ⟨rfl, rfl⟩
      rw [hex_index]
      refine hK.out _ _ trivial ?_
      clear hK K
      (try simp only [Act.put, List.getElem_toArray, List.getElem_cons_succ, List.getElem_cons_zero, List.setIfInBounds_toArray, List.set_cons_zero, List.set_cons_succ])
      refine wpChain_step (i := 9) rfl (by kernel_rfl) (fun K hK => ?_)
      go_simp
      refine hK.out _ _ trivial ?_
      clear hK K
      (try simp only [Act.put, List.getElem_toArray, List.getElem_cons_succ, List.getElem_cons_zero, List.setIfInBounds_toArray, List.set_cons_zero, List.set_cons_succ])
      refine wpChain_step (i := 10) rfl (by kernel_rfl) (fun K hK => ?_)
      go_simp
      refine hK.out _ _ trivial ?_
      clear hK K
      (try simp only [Act.put, List.getElem_toArray, List.getElem_cons_succ, List.getElem_cons_zero, List.setIfInBounds_toArray, List.set_cons_zero, List.set_cons_succ])
      refine wpChain_end (by kernel_rfl) ?_
      have HNO := Lib.hid (show (digitOf x = none ∨ digitOf y = none) → unhexI s.data.toList = done from fun h => by
        rw [HE.out, drop_two HAT.out HAT2.out, unhexI]
        rcases h with h | h
        · rw [h]; simp
        · rw [h]; cases digitOf x <;> simp)
      cases hdx : digitOf x with
      | none =>
        have e1 : decide (digI x < 0) = true := by rw [digI_none hdx]; decide
        have HR := Lib.hid (HNO.out (.inl hdx))
        clear hdx
        go_wp2_with fail
        go_ret
        exact ⟨_, rfl, by rw [HR.out]; exact ⟨[a.block], HWQ.out.ownS, by simp, by simpa using hab⟩, HBQ.out⟩
      | some p =>
        have e1 : decide (digI x < 0) = false := by rw [digI_some hdx]; exact decide_eq_false (by omega)
        cases hdy : digitOf y with
        | none =>
          have e2 : decide (digI y < 0) = true := by rw [digI_none hdy]; decide
          have HR := Lib.hid (HNO.out (.inr hdy))
          clear hdx hdy
          go_wp2_with fail
          go_ret
          exact ⟨_, rfl, by rw [HR.out]; exact ⟨[a.block], HWQ.out.ownS, by simp, by simpa using hab⟩, HBQ.out⟩
        | some q =>
          have e2 : decide (digI y < 0) = false := by rw [digI_some hdy]; exact decide_eq_false (by omega)
          have hp := (digit_back hdx).1
          have hq := (digit_back hdy).1
          obtain ⟨b, hb⟩ : ∃ b : UInt8, b = UInt8.ofNat (16 * p + q) := ⟨_, rfl⟩
          have hbn : b.toNat = 16 * p + q := by rw [hb, UInt8.toNat_ofNat']; omega
          have ex : digI x = (p : Int) := digI_some hdx
          have ey : digI y = (q : Int) := digI_some hdy
          have HE2 := Lib.hid (show unhexI s.data.toList = (done ++ [b]) ++ unhexI (s.data.toList.drop (k + 2)) from by
            rw [HE.out, drop_two HAT.out HAT2.out, unhexI, hdx, hdy]
            simp only
            rw [← hb, List.append_assoc]
            rfl)
          have e3 : decide ((p : Int) < 0) = false := decide_eq_false (by omega)
          have e4 : decide ((q : Int) < 0) = false := decide_eq_false (by omega)
          have hbi : (p : Int) * 16 + (q : Int) = (b.toNat : Int) := by rw [hbn]; omega
          have hsum : done.length + [b].length ≤ 140737488355328 := by simp; omega
          obtain ⟨W1, hW1⟩ : ∃ W1, W1 = wx.alloc (Obj.cells #[Value.int IntKind.u8 ((p : Int) * 16 + (q : Int))] 5) := ⟨_, rfl⟩
          have HB1 := Lib.hid (show Below wx.heap.size wx W1 from by rw [hW1]; exact bel_alloc (Below.refl _ _) _)
          have HW1 := Lib.hid (HWQ.out.grow HB1.out)
          have HP1 := Lib.hid (show RepS W1 (.slice (some ⟨wx.heap.size, 0, none⟩) 1 1) [b] from by
            refine bytes_rep (b := wx.heap.size) (off := 0) [_] (by simp) (by simp) fun i u hu => ?_
            rw [hW1, hbi]
            match i, hu with
            | 0, hu => simp only [List.getElem?_cons_zero, Option.some.injEq] at hu; subst hu; simp)
          have hz1 := HB1.out.size
          clear hb hbn hbi hdx hdy
          go_wp2_with (at_builtin; rw [← hW1]; refine wpList_append_bytes_any rfl _ _ 22 rfl Tryd.underlying22 info_u8 a n c _ rfl HW1.out _ _ _ [b] rfl HP1.out hsum ?_; intro a8 n8 c8 W8 HO8 hg8 hat8; have HW8 := Lib.hid HO8; have HB8 := Lib.hid ((bel_next HBQ.out HB1.out).grown hg8 (bel_next HBQ.out HB1.out).size (fun j hj => by cases hj; exact hab)); have ha8 : w.heap.size ≤ a8.block := (by rcases hat8 with e | e; (rw [e]; exact hab); (rw [e]; exact (bel_next HBQ.out HB1.out).size)); clear HO8 hg8 hat8 hW1)
          go_roundw
          case rel => exact ⟨k + 2, a8, n8, c8, done ++ [b], by omega, by go_num, rfl, ha8, by simp; omega, HW8.out, HE2.out, HB8.out⟩
          case measure => simp [intOf]; omega
    · have d1 : decide ((k : Int) + 1 < (s.size : Int)) = false := decide_eq_false (by omega)
      have HR := Lib.hid (show unhexI s.data.toList = done from by
        rw [HE.out]
        have : unhexI (s.data.toList.drop k) = [] := by
          have h1 : (s.data.toList.drop k).length ≤ 1 := by rw [List.length_drop, hdl]; omega
          cases hq : s.data.toList.drop k with
          | nil => rfl
          | cons u t =>
            cases t with
            | nil => rfl
            | cons _ _ => rw [hq] at h1; simp at h1
        rw [this, List.append_nil])
      go_wp2_with fail
      go_ret
      exact ⟨_, rfl, by rw [HR.out]; exact ⟨[a.block], HW.out.ownS, by simp, by simpa using hab⟩, HB.out⟩
end Go.Proofs.YtjglknaojfnllaaDoor
