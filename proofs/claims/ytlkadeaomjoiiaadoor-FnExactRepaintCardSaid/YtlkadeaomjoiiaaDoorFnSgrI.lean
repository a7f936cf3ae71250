/- The walk of the program's SgrText. -/
import Derived.Test.YtlkadeaomjoiiaaDoorFnSgr
set_option linter.unusedSimpArgs false
set_option linter.unusedVariables false
namespace Go.Proofs.YtlkadeaomjoiiaaDoor
open Go.RowKit Go.Mux
set_option maxRecDepth 100000 in
set_option maxHeartbeats 4000000 in
theorem impl_SgrText (w : World) (cs : List Value) (x : DAttr) (h : Rep.rep w cs x) (ht : Tab Tryd.prog w) : Calls Tryd.prog 71 #[.agg cs.toArray] w (Gives w fun r _ => r = .string (sgrText x)) := by
  have HP := Lib.hid h
  have HT := Lib.hid ht
  clear ht
  obtain rfl := DAttr.shape h
  clear h
  cases hA : attrOkB x
  · have HA := Lib.hid hA
    clear hA
    go_enter Tryd.func71, Tryd.ntmps71
    go_wp2_with (go_at_call 101; refine (impl_AttrOk _ [_, _, _, _, _] x (Rep.mono HP.out (by repeat (first | (with_reducible exact Below.refl _ _) | (with_reducible assumption) | (with_reducible refine bel_alloc ?_ _) | ((with_reducible refine bel_set ?_ ?_ _); rotate_left; (focus first | (simp; done) | (simp; omega))))))).mono ?_; rintro e W1 ⟨_, rfl, rfl, hb⟩; rw [HA.out]; have HB1 := Lib.hid (bel_next (show Below w.heap.size w _ from (by repeat (first | (with_reducible exact Below.refl _ _) | (with_reducible assumption) | (with_reducible refine bel_alloc ?_ _) | ((with_reducible refine bel_set ?_ ?_ _); rotate_left; (focus first | (simp; done) | (simp; omega)))))) hb); clear hb)
    go_ret
    exact ⟨_, rfl, (by show _ = _; unfold sgrText; simp [HA.out]; rfl), HB1.out⟩
  · obtain ⟨hf, hg⟩ := attrOk_at hA
    have HE := Lib.hid (sgrText_eq hA)
    have HA := Lib.hid hA
    clear hA
    have hz1 := numText_size (x.Fg + 29)
    have hz2 := numText_size (x.Bg + 39)
    have hw1 : IntKind.i64.wrap (x.Fg + 29) = x.Fg + 29 := by rw [IntKind.wrap_i64]; omega
    have hw2 : IntKind.i64.wrap (x.Bg + 39) = x.Bg + 39 := by rw [IntKind.wrap_i64]; omega
    have hs0 := sgrFold_size x 0
    have hs1 := sgrFold_size x 1
    have hs2 := sgrFold_size x 2
    have hs3 := sgrFold_size x 3
    have hs4 := sgrFold_size x 4
    have hs5 := sgrFold_size x 5
    go_enter Tryd.func71, Tryd.ntmps71
    go_wp2_with fail
    refine (impl_AttrOk _ [_, _, _, _, _] x (Rep.mono HP.out (by repeat (first | (with_reducible exact Below.refl _ _) | (with_reducible assumption) | (with_reducible refine bel_alloc ?_ _) | ((with_reducible refine bel_set ?_ ?_ _); rotate_left; (focus first | (simp; done) | (simp; omega))))))).mono ?_
    rintro e W1 ⟨_, rfl, rfl, hb⟩
    rw [HA.out]
    have HB1 := Lib.hid (bel_next (show Below w.heap.size w _ from (by repeat (first | (with_reducible exact Below.refl _ _) | (with_reducible assumption) | (with_reducible refine bel_alloc ?_ _) | ((with_reducible refine bel_set ?_ ?_ _); rotate_left; (focus first | (simp; done) | (simp; omega)))))) hb)
    have hlt : w.heap.size < W1.heap.size := (by have := hb.size; simp at this; omega)
    obtain ⟨bo, hbo⟩ : ∃ b, b = x.Bold := ⟨_, rfl⟩
    obtain ⟨un, hun⟩ : ∃ b, b = x.Under := ⟨_, rfl⟩
    obtain ⟨tu, htu⟩ : ∃ b, b = x.Turn := ⟨_, rfl⟩
    obtain ⟨fg, hfg⟩ : ∃ b, b = x.Fg := ⟨_, rfl⟩
    obtain ⟨bg, hbg⟩ : ∃ b, b = x.Bg := ⟨_, rfl⟩
    have HB_bo := Lib.hid hbo
    have HB_un := Lib.hid hun
    have HB_tu := Lib.hid htu
    have HB_fg := Lib.hid hfg
    have HB_bg := Lib.hid hbg
    rw [← hfg] at hf hz1 hw1
    rw [← hbg] at hg hz2 hw2
    have c0 : W1.cell? ⟨w.heap.size, 0, none⟩ = some (.int .i64 fg) := by rw [hfg]; exact (hb.cell (p := ⟨w.heap.size, 0, none⟩) (by simp)).trans (by simp)
    have c1 : W1.cell? ⟨w.heap.size, 1, none⟩ = some (.int .i64 bg) := by rw [hbg]; exact (hb.cell (p := ⟨w.heap.size, 1, none⟩) (by simp)).trans (by simp)
    have c2 : W1.cell? ⟨w.heap.size, 2, none⟩ = some (.bool bo) := by rw [hbo]; exact (hb.cell (p := ⟨w.heap.size, 2, none⟩) (by simp)).trans (by simp)
    have c3 : W1.cell? ⟨w.heap.size, 3, none⟩ = some (.bool un) := by rw [hun]; exact (hb.cell (p := ⟨w.heap.size, 3, none⟩) (by simp)).trans (by simp)
    have c4 : W1.cell? ⟨w.heap.size, 4, none⟩ = some (.bool tu) := by rw [htu]; exact (hb.cell (p := ⟨w.heap.size, 4, none⟩) (by simp)).trans (by simp)
    clear hb hbo hun htu hfg hbg
    have HT1 := Lib.hid (HT.out.mono HB1.out)
    have tok0 : True := trivial
    have hz3 : (9223372036854775807 < 1 + (numText (fg + 29)).size) = False := eq_false (by omega)
    have hz4 : (9223372036854775807 < 1 + (numText (bg + 39)).size) = False := eq_false (by omega)
    go_upto_region 4 with fail
    go_region_held3 (fun w' => w'.cell? ⟨w.heap.size, 0, none⟩ = some (.int .i64 fg) ∧ w'.cell? ⟨w.heap.size, 1, none⟩ = some (.int .i64 bg) ∧ w'.cell? ⟨w.heap.size, 2, none⟩ = some (.bool bo) ∧ w'.cell? ⟨w.heap.size, 3, none⟩ = some (.bool un) ∧ w'.cell? ⟨w.heap.size, 4, none⟩ = some (.bool tu)) ((first | (with_reducible exact ⟨kC0, kC1, kC2, kC3, kC4⟩) | (with_reducible exact ⟨kB0, kB1, kB2, kB3, kB4⟩) | (with_reducible exact ⟨c0, c1, c2, c3, c4⟩) | go_keep))
      (first
        | (go_at_call 52; have _t := tok0; refine (impl_NumText _ _ (HT1.out.mono (Below.drew (Below.refl _ _)))).mono ?_; rintro e W2 ⟨_, rfl, rfl, hb⟩; have kB0 : W2.cell? ⟨w.heap.size, 0, none⟩ = some (.int .i64 fg) := cell_step hb c0; have kB1 : W2.cell? ⟨w.heap.size, 1, none⟩ = some (.int .i64 bg) := cell_step hb c1; have kB2 : W2.cell? ⟨w.heap.size, 2, none⟩ = some (.bool bo) := cell_step hb c2; have kB3 : W2.cell? ⟨w.heap.size, 3, none⟩ = some (.bool un) := cell_step hb c3; have kB4 : W2.cell? ⟨w.heap.size, 4, none⟩ = some (.bool tu) := cell_step hb c4; have HB2 := Lib.hid (bel_next (Below.drew HB1.out) hb); have HT2 := Lib.hid (HT1.out.mono (bel_next (Below.drew (Below.refl _ _)) hb)); have tok1 : True := trivial; clear hb tok0)
        | (go_at_call 52; have _t := tok1; refine (impl_NumText _ _ HT2.out).mono ?_; rintro e W3 ⟨_, rfl, rfl, hb⟩; have kC0 := cell_step hb kB0; have kC1 := cell_step hb kB1; have kC2 := cell_step hb kB2; have kC3 := cell_step hb kB3; have kC4 := cell_step hb kB4; have HB3 := Lib.hid (bel_next HB2.out hb); clear hb tok1))
    clear c0 c1 c2 c3 c4 kB0 kB1 kB2 kB3 kB4 kC0 kC1 kC2 kC3 kC4
    have HF := Lib.hid hf
    have HG := Lib.hid hg
    have HC : Hid (∀ (k : Nat) (p : Bool × ByteArray), (sgrParts x)[k]? = some p → (W3.alloc (.cells #[.bool bo, .string ⟨#[59, 49]⟩, .bool un, .string ⟨#[59, 52]⟩, .bool tu, .string ⟨#[59, 55]⟩, .bool (fg != 0), .string ((⟨#[59]⟩ : ByteArray) ++ numText (fg + 29)), .bool (bg != 0), .string ((⟨#[59]⟩ : ByteArray) ++ numText (bg + 39))] 127)).cell? ⟨W3.heap.size, k * 2, none⟩ = some (.bool p.1) ∧ (W3.alloc (.cells #[.bool bo, .string ⟨#[59, 49]⟩, .bool un, .string ⟨#[59, 52]⟩, .bool tu, .string ⟨#[59, 55]⟩, .bool (fg != 0), .string ((⟨#[59]⟩ : ByteArray) ++ numText (fg + 29)), .bool (bg != 0), .string ((⟨#[59]⟩ : ByteArray) ++ numText (bg + 39))] 127)).cell? ⟨W3.heap.size, k * 2 + 1, none⟩ = some (.string p.2)) := by
      intro k p hp
      have e1 : decide (0 < x.Fg) = (fg != 0) := by rw [← HB_fg.out, Bool.eq_iff_iff]; simp; omega
      have e2 : decide (0 < x.Bg) = (bg != 0) := by rw [← HB_bg.out, Bool.eq_iff_iff]; simp; omega
      unfold sgrParts at hp
      rw [e1, e2, ← HB_bo.out, ← HB_un.out, ← HB_tu.out, ← HB_fg.out, ← HB_bg.out] at hp
      match k, hp with
      | 0, hp => cases hp; simp
      | 1, hp => cases hp; simp
      | 2, hp => cases hp; simp
      | 3, hp => cases hp; simp
      | 4, hp => cases hp; simp
      | k + 5, hp => simp at hp
    go_wp2_with fail
    go_loopw [3, 38] (fun s i wr => ∃ k : Nat, k ≤ 5 ∧ i = .int .i64 k ∧ s = .string (sgrFold x k) ∧ Hid (Below (W3.heap.size + 1) (W3.alloc (.cells #[.bool bo, .string ⟨#[59, 49]⟩, .bool un, .string ⟨#[59, 52]⟩, .bool tu, .string ⟨#[59, 55]⟩, .bool (fg != 0), .string ((⟨#[59]⟩ : ByteArray) ++ numText (fg + 29)), .bool (bg != 0), .string ((⟨#[59]⟩ : ByteArray) ++ numText (bg + 39))] 127)) wr)) (fun _ i _ => 5 - (intOf i).toNat)
    case atStart => exact ⟨0, Nat.zero_le _, rfl, by rw [sgr0], Below.refl _ _⟩
    case round =>
      obtain ⟨k, hk, rfl, rfl, HBL⟩ := hrel
      have HBW := Lib.hid (show Below w.heap.size w wr from (bel_alloc HB3.out _).trans (HBL.out.mono (by have := HB3.out.size; omega)))
      have hsk := sgrFold_size x k
      have hzw := HBL.out.size
      simp only [World.size_alloc] at hzw
      by_cases hlt : k < 5
      · obtain ⟨p, hp⟩ : ∃ p, (sgrParts x)[k]? = some p := by
          have hl : (sgrParts x).length = 5 := by unfold sgrParts; rfl
          exact ⟨(sgrParts x)[k]'(by omega), by simp [show k < (sgrParts x).length by omega]⟩
        obtain ⟨b, t⟩ := p
        have htz := sgrParts_size hp
        simp only at htz
        have e0 : wr.cell? ⟨W3.heap.size, k * 2, none⟩ = some (.bool b) := (HBL.out.cell (p := ⟨W3.heap.size, k * 2, none⟩) (by simp)).trans (HC.out k _ hp).1
        have e1 : wr.cell? ⟨W3.heap.size, k * 2 + 1, none⟩ = some (.string t) := (HBL.out.cell (p := ⟨W3.heap.size, k * 2 + 1, none⟩) (by simp)).trans (HC.out k _ hp).2
        have HPP := Lib.hid (sgrFold_succ hp)
        clear hp
        cases b
        all_goals
          go_wp2_with fail
          go_roundw
          case rel => exact ⟨k + 1, by omega, by go_num, (by rw [HPP.out]; first | rw [sgrAdd_yes] | rw [sgrAdd_no]), (HBL.out.trans (by simpa using (bel_alloc (Below.refl wr.heap.size wr) _).mono hzw))⟩
          case measure => simp [intOf]; omega
      · obtain rfl : k = 5 := by omega
        go_wp2_with fail
        go_ret
        exact ⟨_, rfl, (by show _ = _; rw [HE.out]; rfl), HBW.out⟩
end Go.Proofs.YtlkadeaomjoiiaaDoor
