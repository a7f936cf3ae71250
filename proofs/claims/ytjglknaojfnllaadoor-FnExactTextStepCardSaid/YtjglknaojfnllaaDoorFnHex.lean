/- Bytes as digits of base 16, the program's and the reference's walk. -/
import Derived.Test.YtjglknaojfnllaaDoorStrs
import Derived.Test.YtjglknaojfnllaaDoorAppStr2
import Derived.Deep.RegionHeld
import Derived.Laws.BitsLemmas
set_option linter.unusedSimpArgs false
set_option linter.unusedVariables false
namespace Go.Mux
open Go.RowKit
@[irreducible] def hexDig (d : Nat) : UInt8 := if d < 10 then UInt8.ofNat (48 + d) else UInt8.ofNat (87 + d)
def hexL : List UInt8 → List UInt8
  | [] => []
  | b :: l => hexDig (b.toNat / 16) :: hexDig (b.toNat % 16) :: hexL l
theorem hexL_append (l m : List UInt8) : hexL (l ++ m) = hexL l ++ hexL m := by
  induction l with
  | nil => rfl
  | cons b l ih => simp [hexL, ih]
theorem hexL_length (l : List UInt8) : (hexL l).length = 2 * l.length := by
  induction l with
  | nil => rfl
  | cons b l ih => simp [hexL, ih]; omega
theorem hex_at_fin : ∀ n : Fin 16, (ByteArray.mk #[48, 49, 50, 51, 52, 53, 54, 55, 56, 57, 97, 98, 99, 100, 101, 102]).get n.val n.isLt = if n.val < 10 then UInt8.ofNat (48 + n.val) else UInt8.ofNat (87 + n.val) := by decide
theorem hex_at (n i : Nat) (h : i < (ByteArray.mk #[48, 49, 50, 51, 52, 53, 54, 55, 56, 57, 97, 98, 99, 100, 101, 102]).size) (e : i = n) : (ByteArray.mk #[48, 49, 50, 51, 52, 53, 54, 55, 56, 57, 97, 98, 99, 100, 101, 102])[i]'h = hexDig n := by
  subst e
  unfold hexDig
  exact hex_at_fin ⟨i, h⟩
theorem bytes_rep {w : World} {b off cap : Nat} (l : List UInt8) (h0 : l.length ≤ 9223372036854775807) (h1 : l.length ≤ cap) (h : ∀ (i : Nat) x, l[i]? = some x → w.cell? ⟨b, off + i, none⟩ = some (.int .u8 x.toNat)) : RepS w (.slice (some ⟨b, off, none⟩) l.length cap) l := by
  refine ⟨_, cap, rfl, ⟨h0, h1⟩, fun _ => ⟨b, off, rfl, fun i x hx => ⟨[.int .u8 x.toNat], rfl, fun j u hu => ?_⟩⟩⟩
  match j, hu with
  | 0, hu =>
    simp only [List.getElem?_cons_zero, Option.some.injEq] at hu
    subst hu
    simpa [Rep.size] using h i x hx
def hexT (l : List UInt8) : ByteArray := ⟨(hexL l).toArray⟩
end Go.Mux
namespace Go.Proofs.YtjglknaojfnllaaDoor
open Go.RowKit Go.Mux
theorem conv_bytes_str {w : World} {a : Addr} {n c : Nat} {l : List UInt8} (h : RepS w (.slice (some a) n c) l) : (convert 22 9 (.slice (some a) n c)).run Tryd.prog w = .ok (.string ⟨l.toArray⟩) w := by
  obtain ⟨a', cap, e, hl, hc⟩ := bytes_open h
  cases e
  refine run_convert_bytes_back w 22 9 5 a _ l Tryd.underlying22 Tryd.underlying5 Tryd.underlying9 ?_
  intro j hj
  have hne : l ≠ [] := by intro e; rw [e] at hj; simp at hj
  obtain ⟨b, off, ha, hcell⟩ := hc hne
  cases ha
  have := hcell j l[j] (by simp [hj])
  rw [addr_add]
  exact this
set_option maxRecDepth 100000 in
set_option maxHeartbeats 1000000 in
theorem impl_hexOf (w : World) (v : Value) (l : List UInt8) (h : RepS w v l) (hsz : l.length ≤ 1048576) : Calls Tryd.prog 48 #[v] w (Gives w fun r _ => r = .string (hexT l)) := by
  obtain ⟨a0, cap, rfl, hl, hc⟩ := bytes_open h
  have HC := Lib.hid hc
  clear h hc
  have HO := Lib.hid (show OwnB (w.alloc (Obj.cells #[] 5)) ⟨w.heap.size, 0, none⟩ 0 0 [] from OwnB.of (OwnS.empty rfl (heap_alloc_new w _)))
  go_enter Tryd.func48, Tryd.ntmps48
  go_wp2_with fail
  go_loopw [3, 9] (fun o xs wr => ∃ (k : Nat) (a : Addr) (n c : Nat), k ≤ l.length ∧ xs = .int .i64 (k : Int) ∧ o = .slice (some a) n c ∧ w.heap.size ≤ a.block ∧ Hid (OwnB wr a n c (hexL (l.take k))) ∧ Hid (Below w.heap.size w wr)) (fun _ xs _ => l.length - (intOf xs).toNat)
  case atStart => exact ⟨0, _, _, _, by omega, rfl, rfl, Nat.le_refl _, by show OwnB _ _ _ _ _; simpa [hexL] using HO.out, bel_alloc (Below.refl _ _) _⟩
  case round =>
    obtain ⟨k, a, n, c, hk, rfl, rfl, hab, HW, HB⟩ := hrel
    by_cases hlt : k < l.length
    · have d1 : decide ((k : Int) < (l.length : Int)) = true := decide_eq_true (by omega)
      have d2 : decide (k < l.length) = true := decide_eq_true hlt
      have hne : l ≠ [] := by intro e; rw [e] at hlt; simp at hlt
      obtain ⟨b, off, rfl, hc⟩ := HC.out hne
      obtain ⟨x, hx⟩ : ∃ x, l[k]? = some x := ⟨l[k], by simp [hlt]⟩
      have c1 := hc k x hx
      rw [← HB.out.cell (p := ⟨b, off + k, none⟩) (World.block_lt_of_cell? w _ c1)] at c1
      have k0 : (0 : Int) ≤ (k : Int) := by omega
      have k1 : (k : Int) < (l.length : Int) := by omega
      have HT := Lib.hid (show hexL (l.take (k + 1)) = hexL (l.take k) ++ [hexDig (x.toNat / 16), hexDig (x.toNat % 16)] from by rw [List.take_add_one, hx, hexL_append]; rfl)
      have hsum : (hexL (l.take k)).length + [hexDig (x.toNat / 16), hexDig (x.toNat % 16)].length ≤ 140737488355328 := by rw [hexL_length, List.length_take]; simp; omega
      have hx8 := x.toNat_lt
      have j0 : (0 : Int) ≤ (x.toNat : Int) / 16 := by omega
      have j1 : (x.toNat : Int) / 16 < 16 := by omega
      have j2 : x.toNat / 16 < 16 := by omega
      have j3 : (x.toNat : Int) % 16 < 16 := by omega
      have j4 : x.toNat % 16 < 16 := by omega
      have j5 : (0 : Int) ≤ (x.toNat : Int) % 16 := by omega
      have h15 : bits .and .u8 (x.toNat : Int) 15 = (x.toNat : Int) % 16 := u8_and15 _ (by omega) (by omega)
      clear hc hne
      go_wp2_with fail
      refine wp_region_held_drew (S := fun _ => True) (by kernel_rfl) trivial (fun hHeld => ?_)
      refine wpAnyH_take (i := 0) (v := .slice (some a) n c) rfl (by kernel_rfl) (by kernel_rfl) (by kernel_rfl) (fun _ _ _ h => h) (.inl ⟨by rfl, fun _ _ => rfl⟩) hHeld ?_
      simp only [Act.put, List.setIfInBounds_toArray, List.set_cons_zero, List.set_cons_succ]
      refine wpAnyH_take (i := 1) (v := .int .u8 x.toNat) rfl (by kernel_rfl) (by kernel_rfl) (by kernel_rfl) (fun _ _ _ h => h) (.inl ⟨by rfl, fun _ _ => rfl⟩) hHeld ?_
      simp only [Act.put, List.setIfInBounds_toArray, List.set_cons_zero, List.set_cons_succ]
      refine wpAnyH_take (i := 2) (v := .int .u8 ((x.toNat : Int) / 16)) rfl (by kernel_rfl) (by kernel_rfl) (by kernel_rfl) (fun _ _ _ h => h) (.inl ⟨by rfl, fun _ _ => (by simp [execOp, go_sem])⟩) hHeld ?_
      simp only [Act.put, List.setIfInBounds_toArray, List.set_cons_zero, List.set_cons_succ]
      refine wpAnyH_take (i := 3) (v := .int .u8 ((hexDig (x.toNat / 16)).toNat : Nat)) rfl (by kernel_rfl) (by kernel_rfl) (by kernel_rfl) (fun _ _ _ h => h) (.inl ⟨by rfl, fun _ _ => (by simp [execOp, go_sem, j0, j1]; exact congrArg (fun u : UInt8 => (u.toNat : Int)) (hex_at _ _ _ (by omega)))⟩) hHeld ?_
      simp only [Act.put, List.setIfInBounds_toArray, List.set_cons_zero, List.set_cons_succ]
      refine wpAnyH_take (i := 4) (v := .int .u8 x.toNat) rfl (by kernel_rfl) (by kernel_rfl) (by kernel_rfl) (fun _ _ _ h => h) (.inl ⟨by rfl, fun _ _ => rfl⟩) hHeld ?_
      simp only [Act.put, List.setIfInBounds_toArray, List.set_cons_zero, List.set_cons_succ]
      refine wpAnyH_take (i := 5) (v := .int .u8 ((x.toNat : Int) % 16)) rfl (by kernel_rfl) (by kernel_rfl) (by kernel_rfl) (fun _ _ _ h => h) (.inl ⟨by rfl, fun _ _ => (by simp [execOp, go_sem, h15])⟩) hHeld ?_
      simp only [Act.put, List.setIfInBounds_toArray, List.set_cons_zero, List.set_cons_succ]
      refine wpAnyH_take (i := 6) (v := .int .u8 ((hexDig (x.toNat % 16)).toNat : Nat)) rfl (by kernel_rfl) (by kernel_rfl) (by kernel_rfl) (fun _ _ _ h => h) (.inl ⟨by rfl, fun _ _ => (by simp [execOp, go_sem, j3, j5]; exact congrArg (fun u : UInt8 => (u.toNat : Int)) (hex_at _ _ _ (by omega)))⟩) hHeld ?_
      simp only [Act.put, List.setIfInBounds_toArray, List.set_cons_zero, List.set_cons_succ]
      refine wpAnyH_ready (rs := [7]) (by kernel_rfl) (by simp) ?_
      refine AllReadyH.cons rfl (fun K hK => ?_) AllReadyH.nil
      go_simp
      obtain ⟨W1, hW1⟩ : ∃ W1, W1 = (wr.alloc (Obj.cells #[Value.int IntKind.u8 ((hexDig (x.toNat / 16)).toNat : Nat), Value.int IntKind.u8 ((hexDig (x.toNat % 16)).toNat : Nat)] 5)).drew := ⟨_, rfl⟩
      rw [← hW1]
      have HB1 := Lib.hid (show Below wr.heap.size wr W1 from by rw [hW1]; exact (bel_alloc (Below.refl _ _) _).drew)
      have HW1 := Lib.hid (HW.out.grow HB1.out)
      have HP1 := Lib.hid (show RepS W1 (.slice (some ⟨wr.heap.size, 0, none⟩) 2 2) [hexDig (x.toNat / 16), hexDig (x.toNat % 16)] from by
        refine bytes_rep (b := wr.heap.size) (off := 0) [_, _] (by simp) (by simp) fun i u hu => ?_
        rw [hW1]
        match i, hu with
        | 0, hu => simp only [List.getElem?_cons_zero, Option.some.injEq] at hu; subst hu; simp
        | 1, hu => simp only [List.getElem?_cons_succ, List.getElem?_cons_zero, Option.some.injEq] at hu; subst hu; simp)
      have hz1 := HB1.out.size
      clear hW1
      refine hK.out _ _ trivial (fun hHeld => ?_)
      clear hK K
      (try simp only [Act.put, List.setIfInBounds_toArray, List.set_cons_zero, List.set_cons_succ])
      refine wpAnyH_ready (rs := [8]) (by kernel_rfl) (by simp) ?_
      refine AllReadyH.cons rfl (fun K hK => ?_) AllReadyH.nil
      rw [if_pos (show Region.wanted _ _ = true from by rfl)]
      refine oper_append_bytes_any _ _ 22 rfl Tryd.underlying22 info_u8 a n c _ rfl HW1.out _ _ _ [hexDig (x.toNat / 16), hexDig (x.toNat % 16)] rfl HP1.out hsum ?_
      intro a8 n8 c8 W8 HO8 hg8 hat8
      have HW8 := Lib.hid HO8
      have HB8 := Lib.hid ((bel_next HB.out HB1.out).grown hg8 (bel_next HB.out HB1.out).size (fun j hj => by cases hj; exact hab))
      have ha8 : w.heap.size ≤ a8.block := (by rcases hat8 with e | e; (rw [e]; exact hab); (rw [e]; exact (bel_next HB.out HB1.out).size))
      clear HO8 hg8 hat8
      refine hK.out _ _ trivial (fun hHeld => ?_)
      clear hK K
      (try simp only [Act.put, List.setIfInBounds_toArray, List.set_cons_zero, List.set_cons_succ])
      refine wpAnyH_take (i := 9) (v := .slice (some a8) n8 c8) rfl (by kernel_rfl) (by kernel_rfl) (by kernel_rfl) (fun _ _ _ h => h) (.inl ⟨by rfl, fun _ _ => rfl⟩) hHeld ?_
      simp only [Act.put, List.setIfInBounds_toArray, List.set_cons_zero, List.set_cons_succ]
      refine wpAnyH_done (by kernel_rfl) ?_ _
      go_wp2_with fail
      go_roundw
      case rel => exact ⟨k + 1, a8, n8, c8, by omega, by go_num, rfl, ha8, by show OwnB _ _ _ _ _; rw [HT.out]; exact HW8.out, HB8.out⟩
      case measure => simp [intOf]; omega
    · have d1 : decide ((k : Int) < (l.length : Int)) = false := decide_eq_false (by omega)
      have d2 : decide (k < l.length) = false := decide_eq_false hlt
      obtain rfl : k = l.length := by omega
      rw [List.take_length] at HW
      have hn : n = (hexL l).length := HW.out.1
      have hcv : (convert 22 9 (.slice (some a) (hexL l).length c)).run Tryd.prog wr = .ok (.string (hexT l)) wr := by
        have h := conv_bytes_str HW.out.ownS.repS
        rw [hn] at h
        exact h
      subst hn
      go_wp2_with fail
      go_ret
      exact ⟨_, rfl, rfl, HB.out⟩
set_option maxHeartbeats 400000 in
theorem spec_l23Digit (w : World) (n : Int) (d : Nat) (e : n = d) (hd : d < 16) : Calls Tryd.prog 35 #[.int .i64 n] w (Pure w (.int .u8 ((hexDig d).toNat : Nat))) := by
  subst e
  have hv : ((hexDig d).toNat : Int) = if d < 10 then 48 + (d : Int) else 87 + (d : Int) := by
    unfold hexDig
    split
    · rw [UInt8.toNat_ofNat']; omega
    · rw [UInt8.toNat_ofNat']; omega
  by_cases h10 : d < 10
  · have d1 : decide ((d : Int) < 10) = true := decide_eq_true (by omega)
    have d2 : decide (d < 10) = true := decide_eq_true h10
    have hw1 : IntKind.i64.wrap (48 + (d : Int)) = 48 + (d : Int) := by rw [IntKind.wrap_i64]; omega
    have hw2 : IntKind.u8.wrap (48 + (d : Int)) = 48 + (d : Int) := by rw [IntKind.wrap_u8]; omega
    have HV := Lib.hid hv
    clear hv
    go_enter Tryd.func35, Tryd.ntmps35
    go_wp2
    go_ret
    refine ⟨?_, rfl⟩
    rw [HV.out, if_pos h10]
    rfl
  · have d1 : decide ((d : Int) < 10) = false := decide_eq_false (by omega)
    have d2 : decide (d < 10) = false := decide_eq_false h10
    have hw1 : IntKind.i64.wrap (97 + (d : Int)) = 97 + (d : Int) := by rw [IntKind.wrap_i64]; omega
    have hw3 : IntKind.i64.wrap (97 + (d : Int) - 10) = 87 + (d : Int) := by rw [IntKind.wrap_i64]; omega
    have hw2 : IntKind.u8.wrap (87 + (d : Int)) = 87 + (d : Int) := by rw [IntKind.wrap_u8]; omega
    have HV := Lib.hid hv
    clear hv
    go_enter Tryd.func35, Tryd.ntmps35
    go_wp2
    go_ret
    refine ⟨?_, rfl⟩
    rw [HV.out, if_neg h10]
    rfl
set_option maxRecDepth 100000 in
set_option maxHeartbeats 1000000 in
theorem spec_l23Hex (w : World) (v : Value) (l : List UInt8) (h : RepS w v l) (hsz : l.length ≤ 1048576) : Calls Tryd.prog 41 #[v] w (Gives w fun r _ => r = .string (hexT l)) := by
  obtain ⟨a0, cap, rfl, hl, hc⟩ := bytes_open h
  have HC := Lib.hid hc
  clear h hc
  have HO := Lib.hid (show OwnB (w.alloc (Obj.cells #[] 5)) ⟨w.heap.size, 0, none⟩ 0 0 [] from OwnB.of (OwnS.empty rfl (heap_alloc_new w _)))
  go_enter Tryd.func41, Tryd.ntmps41
  go_wp2_with fail
  go_loopw [3, 9] (fun o xs wr => ∃ (k : Nat) (a : Addr) (n c : Nat), k ≤ l.length ∧ xs = .int .i64 (k : Int) ∧ o = .slice (some a) n c ∧ w.heap.size ≤ a.block ∧ Hid (OwnB wr a n c (hexL (l.take k))) ∧ Hid (Below w.heap.size w wr)) (fun _ xs _ => l.length - (intOf xs).toNat)
  case atStart => exact ⟨0, _, _, _, by omega, rfl, rfl, Nat.le_refl _, by show OwnB _ _ _ _ _; simpa [hexL] using HO.out, bel_alloc (Below.refl _ _) _⟩
  case round =>
    obtain ⟨k, a, n, c, hk, rfl, rfl, hab, HW, HB⟩ := hrel
    by_cases hlt : k < l.length
    · have d1 : decide ((k : Int) < (l.length : Int)) = true := decide_eq_true (by omega)
      have d2 : decide (k < l.length) = true := decide_eq_true hlt
      have hne : l ≠ [] := by intro e; rw [e] at hlt; simp at hlt
      obtain ⟨b, off, rfl, hc⟩ := HC.out hne
      obtain ⟨x, hx⟩ : ∃ x, l[k]? = some x := ⟨l[k], by simp [hlt]⟩
      have c1 := hc k x hx
      rw [← HB.out.cell (p := ⟨b, off + k, none⟩) (World.block_lt_of_cell? w _ c1)] at c1
      have k0 : (0 : Int) ≤ (k : Int) := by omega
      have k1 : (k : Int) < (l.length : Int) := by omega
      have HT := Lib.hid (show hexL (l.take (k + 1)) = hexL (l.take k) ++ [hexDig (x.toNat / 16), hexDig (x.toNat % 16)] from by rw [List.take_add_one, hx, hexL_append]; rfl)
      have hsum : (hexL (l.take k)).length + [hexDig (x.toNat / 16), hexDig (x.toNat % 16)].length ≤ 140737488355328 := by rw [hexL_length, List.length_take]; simp; omega
      have hx8 := x.toNat_lt
      have hm1 : (x.toNat : Int).tmod 16 = (x.toNat : Int) % 16 := Int.tmod_eq_emod_of_nonneg (by omega)
      have hm2 : (x.toNat : Int).tdiv 16 = (x.toNat : Int) / 16 := Int.tdiv_eq_ediv_of_nonneg (by omega)
      have hw1 : IntKind.i64.wrap ((x.toNat : Int) / 16) = (x.toNat : Int) / 16 := by rw [IntKind.wrap_i64]; omega
      have hw2 : IntKind.i64.wrap ((x.toNat : Int) % 16) = (x.toNat : Int) % 16 := by rw [IntKind.wrap_i64]; omega
      clear hc hne
      go_wp2_with fail
      refine (spec_l23Digit _ _ (x.toNat / 16) (by omega) (by omega)).mono ?_
      rintro e w' ⟨rfl, rfl⟩
      go_wp2_with fail
      refine (spec_l23Digit _ _ (x.toNat % 16) (by omega) (by omega)).mono ?_
      rintro e w' ⟨rfl, rfl⟩
      obtain ⟨W1, hW1⟩ : ∃ W1, W1 = wr.alloc (Obj.cells #[Value.int IntKind.u8 ((hexDig (x.toNat / 16)).toNat : Nat), Value.int IntKind.u8 ((hexDig (x.toNat % 16)).toNat : Nat)] 5) := ⟨_, rfl⟩
      have HB1 := Lib.hid (show Below wr.heap.size wr W1 from by rw [hW1]; exact bel_alloc (Below.refl _ _) _)
      have HW1 := Lib.hid (HW.out.grow HB1.out)
      have HP1 := Lib.hid (show RepS W1 (.slice (some ⟨wr.heap.size, 0, none⟩) 2 2) [hexDig (x.toNat / 16), hexDig (x.toNat % 16)] from by
        refine bytes_rep (b := wr.heap.size) (off := 0) [_, _] (by simp) (by simp) fun i u hu => ?_
        rw [hW1]
        match i, hu with
        | 0, hu => simp only [List.getElem?_cons_zero, Option.some.injEq] at hu; subst hu; simp
        | 1, hu => simp only [List.getElem?_cons_succ, List.getElem?_cons_zero, Option.some.injEq] at hu; subst hu; simp)
      have hz1 := HB1.out.size
      go_wp2_with (at_builtin; rw [← hW1]; refine wpList_append_bytes_any rfl _ _ 22 rfl Tryd.underlying22 info_u8 a n c _ rfl HW1.out _ _ _ [hexDig (x.toNat / 16), hexDig (x.toNat % 16)] rfl HP1.out hsum ?_; intro a8 n8 c8 W8 HO8 hg8 hat8; have HW8 := Lib.hid HO8; have HB8 := Lib.hid ((bel_next HB.out HB1.out).grown hg8 (bel_next HB.out HB1.out).size (fun j hj => by cases hj; exact hab)); have ha8 : w.heap.size ≤ a8.block := (by rcases hat8 with e | e; (rw [e]; exact hab); (rw [e]; exact (bel_next HB.out HB1.out).size)); clear HO8 hg8 hat8 hW1)
      go_roundw
      case rel => exact ⟨k + 1, a8, n8, c8, by omega, by go_num, rfl, ha8, by show OwnB _ _ _ _ _; rw [HT.out]; exact HW8.out, HB8.out⟩
      case measure => simp [intOf]; omega
    · have d1 : decide ((k : Int) < (l.length : Int)) = false := decide_eq_false (by omega)
      have d2 : decide (k < l.length) = false := decide_eq_false hlt
      obtain rfl : k = l.length := by omega
      rw [List.take_length] at HW
      have hn : n = (hexL l).length := HW.out.1
      have hcv : (convert 22 9 (.slice (some a) (hexL l).length c)).run Tryd.prog wr = .ok (.string (hexT l)) wr := by
        have h := conv_bytes_str HW.out.ownS.repS
        rw [hn] at h
        exact h
      subst hn
      go_wp2_with fail
      go_ret
      exact ⟨_, rfl, rfl, HB.out⟩
end Go.Proofs.YtjglknaojfnllaaDoor
