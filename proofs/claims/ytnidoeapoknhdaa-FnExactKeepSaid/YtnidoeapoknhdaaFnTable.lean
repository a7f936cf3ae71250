/- The walks of the functions that test the process table, the program's and the reference's. -/
import Derived.Test.YtnidoeapoknhdaaFnGrid
import Derived.Deep.QuietTactic
import Derived.BigQuiet
import Derived.Deep.RegionHeld3
set_option linter.unusedSimpArgs false
set_option linter.unusedVariables false
namespace Go.Mux
open Go.RowKit
@[irreducible] def paneIsB (n : Int) (p : DProc) : Bool := p.Pane == n
@[irreducible] def pidIsB (n : Int) (p : DProc) : Bool := p.Pid == n
def procOfI (l : List DProc) (n : Int) : Int := idxOf (paneIsB n) l
def procAtI (l : List DProc) (n : Int) : Int := idxOf (pidIsB n) l
@[irreducible] def hasInt (l : List Int) (n : Int) : Bool := l.any (fun x => x == n)
theorem hasInt_yes {l : List Int} {n x : Int} {k : Nat} (hx : l[k]? = some x) (h : (x == n) = true) : hasInt l n = true := by
  unfold hasInt; rw [List.any_eq_true]; exact ⟨x, List.mem_of_getElem? hx, h⟩
theorem hasInt_no {l : List Int} {n : Int} (h : ∀ x ∈ l, (x == n) = false) : hasInt l n = false := by
  unfold hasInt; rw [List.any_eq_false]; exact fun x hx => by rw [h x hx]; simp
theorem DProc.own {w : World} {x : DProc} {cs : List Value} (h : Rep.rep w cs x) : cs = [.int .i64 x.Pid, .int .i64 x.Pane] := DProc.shape h
end Go.Mux
namespace Go.Proofs.Ytnidoeapoknhdaa
open Go.RowKit Go.Mux
set_option maxHeartbeats 400000 in
theorem impl_procOf_1 (w : World) (cs : List Value) (x : DProc) (g : Addr) (n : Int) (h : Rep.rep w cs x) (hg : w.cell? g = some (.int .i64 n)) : Calls Try.prog 79 #[.agg cs.toArray, .pointer (some g)] w (Says w (paneIsB n x)) := by
  obtain rfl := DProc.shape h
  clear h
  have hg2 := fun o => (World.cell?_alloc_lt w o g (World.block_lt_of_cell? w g hg)).trans hg
  go_enter Try.func79, Try.ntmps79
  go_wp2
  go_ret
  exact says_ret (by unfold paneIsB; first | rfl | simp) (by repeat (first | (with_reducible exact Below.refl _ _) | (with_reducible assumption) | (with_reducible refine bel_alloc ?_ _) | ((with_reducible refine bel_set ?_ ?_ _); rotate_left; (focus first | (simp; done) | (simp; omega)))))
set_option maxHeartbeats 400000 in
theorem idx_procOf (w : World) (v : Value) (l : List DProc) (g : Addr) (p : DProc → Bool) (h : RepS w v l)
    (hf : ∀ w' cs x, Below w.heap.size w w' → Rep.rep w' cs x → Calls Try.prog 79 #[.agg cs.toArray, .pointer (some g)] w' (Says w' (p x))) :
    Calls Try.prog 78 #[v, .func (Fn.func 79) #[] #[.pointer (some g)]] w (Gives w fun r _ => r = .int .i64 (idxOf p l)) := by
  obtain ⟨a, cap, rfl, hl, hc⟩ := h
  have HC := Lib.hid hc
  have HF := Lib.hid hf
  clear hc hf
  go_enter Try.func78, Try.ntmps78
  go_wp2_with fail
  go_loopw [8] (fun i wr => ∃ k : Nat, k ≤ l.length ∧ i = .int .i64 k ∧ Hid (∀ x ∈ l.take k, p x = false) ∧ Below w.heap.size w wr) (fun i _ => l.length - (intOf i).toNat)
  case atStart => exact ⟨0, Nat.zero_le _, rfl, by show ∀ x ∈ _, _; simp, Below.refl _ _⟩
  case round =>
    obtain ⟨k, hk, rfl, HN, hB0⟩ := hrel
    by_cases hlt : k < l.length
    · have hne : l ≠ [] := by intro e; rw [e] at hlt; simp at hlt
      obtain ⟨b, off, rfl, hc⟩ := HC.out hne
      obtain ⟨x, hx⟩ : ∃ x, l[k]? = some x := ⟨l[k], by simp [hlt]⟩
      obtain ⟨rr, hrep, hcell⟩ := hc k x hx
      have HI := Lib.hid (show (Try.prog.info? 85).map (·.size) = some rr.length by rw [Rep.len hrep]; exact size_implProc)
      have HL := Lib.hid (show ∀ (j : Nat) u, rr[j]? = some u → wr.cell? ⟨b, off + k * 2 + j, none⟩ = some u from fun j u hu => (hB0.cell (p := ⟨b, _, none⟩) (World.block_lt_of_cell? w _ (hcell j u hu))).trans (hcell j u hu))
      have HR := Lib.hid hrep
      have HX := Lib.hid hx
      obtain rfl := DProc.shape hrep
      clear hc hcell hrep hne hx
      have HB := Lib.hid hB0
      clear hB0
      cases hp : p x
      · have HP := Lib.hid hp
        clear hp
        go_wp2_with (first | (with_reducible (show wpList _ _ _ (Oper.mk _ (Op.load 85 _) _ _ _ _ :: _) _ _); refine wpList_load_agg rfl 85 _ rfl b _ rfl _ _ HL.out Try.underlying85 HI.out ?_) | (go_at_call 79; refine (HF.out _ _ x HB.out (Rep.mono HR.out HB.out)).mono ?_; rintro e W1 ⟨_, rfl, rfl, hb⟩; rw [HP.out]; have HB1 := Lib.hid (bel_next HB.out hb); clear hb))
        go_roundw
        case rel => exact ⟨k + 1, by omega, by go_num, not_yet HN.out HX.out HP.out, HB1.out⟩
        case measure => simp [intOf]; omega
      · have HP := Lib.hid hp
        clear hp
        go_wp2_with (first | (with_reducible (show wpList _ _ _ (Oper.mk _ (Op.load 85 _) _ _ _ _ :: _) _ _); refine wpList_load_agg rfl 85 _ rfl b _ rfl _ _ HL.out Try.underlying85 HI.out ?_) | (go_at_call 79; refine (HF.out _ _ x HB.out (Rep.mono HR.out HB.out)).mono ?_; rintro e W1 ⟨_, rfl, rfl, hb⟩; rw [HP.out]; have HB1 := Lib.hid (bel_next HB.out hb); clear hb))
        go_ret
        exact ⟨_, rfl, int_eq (idxOf_found HN.out HX.out HP.out).symm, HB1.out⟩
    · obtain rfl : k = l.length := by omega
      go_wp2_with fail
      go_ret
      rw [List.take_length] at HN
      exact ⟨_, rfl, int_eq (idxOf_none HN.out).symm, hB0⟩
set_option maxHeartbeats 400000 in
theorem impl_Table_procOf (w : World) (cs : List Value) (x : DTable) (n : Int) (h : Rep.rep w cs x) : Calls Try.prog 50 #[.agg cs.toArray, .int .i64 n] w (Gives w fun r _ => r = .int .i64 (procOfI x.Live n)) := by
  obtain ⟨v0, v1, rfl, h0, h1, h2⟩ := DTable.rep_iff.1 h
  have HR := Lib.hid h1
  clear h h0 h1 h2
  go_enter Try.func50, Try.ntmps50
  go_wp2_with fail
  refine (idx_procOf _ _ x.Live _ (paneIsB n) (HR.out.mono (by repeat (first | (with_reducible exact Below.refl _ _) | (with_reducible assumption) | (with_reducible refine bel_alloc ?_ _) | ((with_reducible refine bel_set ?_ ?_ _); rotate_left; (focus first | (simp; done) | (simp; omega)))))) (fun w' cs y hb hr => impl_procOf_1 w' cs y _ n hr ((hb.cell (p := ⟨_, _, none⟩) (by simp)).trans (by simp)))).mono ?_
  rintro e W1 ⟨_, rfl, rfl, hb⟩
  have HB := Lib.hid (bel_next (show Below w.heap.size w _ from (by repeat (first | (with_reducible exact Below.refl _ _) | (with_reducible assumption) | (with_reducible refine bel_alloc ?_ _) | ((with_reducible refine bel_set ?_ ?_ _); rotate_left; (focus first | (simp; done) | (simp; omega)))))) hb)
  clear hb
  go_wp2_with fail
  go_ret
  exact ⟨_, rfl, rfl, HB.out⟩
set_option maxHeartbeats 400000 in
theorem impl_procAt_1 (w : World) (cs : List Value) (x : DProc) (g : Addr) (n : Int) (h : Rep.rep w cs x) (hg : w.cell? g = some (.int .i64 n)) : Calls Try.prog 85 #[.agg cs.toArray, .pointer (some g)] w (Says w (pidIsB n x)) := by
  obtain rfl := DProc.shape h
  clear h
  have hg2 := fun o => (World.cell?_alloc_lt w o g (World.block_lt_of_cell? w g hg)).trans hg
  go_enter Try.func85, Try.ntmps85
  go_wp2
  go_ret
  exact says_ret (by unfold pidIsB; first | rfl | simp) (by repeat (first | (with_reducible exact Below.refl _ _) | (with_reducible assumption) | (with_reducible refine bel_alloc ?_ _) | ((with_reducible refine bel_set ?_ ?_ _); rotate_left; (focus first | (simp; done) | (simp; omega)))))
set_option maxHeartbeats 400000 in
theorem idx_procAt (w : World) (v : Value) (l : List DProc) (g : Addr) (p : DProc → Bool) (h : RepS w v l)
    (hf : ∀ w' cs x, Below w.heap.size w w' → Rep.rep w' cs x → Calls Try.prog 85 #[.agg cs.toArray, .pointer (some g)] w' (Says w' (p x))) :
    Calls Try.prog 78 #[v, .func (Fn.func 85) #[] #[.pointer (some g)]] w (Gives w fun r _ => r = .int .i64 (idxOf p l)) := by
  obtain ⟨a, cap, rfl, hl, hc⟩ := h
  have HC := Lib.hid hc
  have HF := Lib.hid hf
  clear hc hf
  go_enter Try.func78, Try.ntmps78
  go_wp2_with fail
  go_loopw [8] (fun i wr => ∃ k : Nat, k ≤ l.length ∧ i = .int .i64 k ∧ Hid (∀ x ∈ l.take k, p x = false) ∧ Below w.heap.size w wr) (fun i _ => l.length - (intOf i).toNat)
  case atStart => exact ⟨0, Nat.zero_le _, rfl, by show ∀ x ∈ _, _; simp, Below.refl _ _⟩
  case round =>
    obtain ⟨k, hk, rfl, HN, hB0⟩ := hrel
    by_cases hlt : k < l.length
    · have hne : l ≠ [] := by intro e; rw [e] at hlt; simp at hlt
      obtain ⟨b, off, rfl, hc⟩ := HC.out hne
      obtain ⟨x, hx⟩ : ∃ x, l[k]? = some x := ⟨l[k], by simp [hlt]⟩
      obtain ⟨rr, hrep, hcell⟩ := hc k x hx
      have HI := Lib.hid (show (Try.prog.info? 85).map (·.size) = some rr.length by rw [Rep.len hrep]; exact size_implProc)
      have HL := Lib.hid (show ∀ (j : Nat) u, rr[j]? = some u → wr.cell? ⟨b, off + k * 2 + j, none⟩ = some u from fun j u hu => (hB0.cell (p := ⟨b, _, none⟩) (World.block_lt_of_cell? w _ (hcell j u hu))).trans (hcell j u hu))
      have HR := Lib.hid hrep
      have HX := Lib.hid hx
      obtain rfl := DProc.shape hrep
      clear hc hcell hrep hne hx
      have HB := Lib.hid hB0
      clear hB0
      cases hp : p x
      · have HP := Lib.hid hp
        clear hp
        go_wp2_with (first | (with_reducible (show wpList _ _ _ (Oper.mk _ (Op.load 85 _) _ _ _ _ :: _) _ _); refine wpList_load_agg rfl 85 _ rfl b _ rfl _ _ HL.out Try.underlying85 HI.out ?_) | (go_at_call 85; refine (HF.out _ _ x HB.out (Rep.mono HR.out HB.out)).mono ?_; rintro e W1 ⟨_, rfl, rfl, hb⟩; rw [HP.out]; have HB1 := Lib.hid (bel_next HB.out hb); clear hb))
        go_roundw
        case rel => exact ⟨k + 1, by omega, by go_num, not_yet HN.out HX.out HP.out, HB1.out⟩
        case measure => simp [intOf]; omega
      · have HP := Lib.hid hp
        clear hp
        go_wp2_with (first | (with_reducible (show wpList _ _ _ (Oper.mk _ (Op.load 85 _) _ _ _ _ :: _) _ _); refine wpList_load_agg rfl 85 _ rfl b _ rfl _ _ HL.out Try.underlying85 HI.out ?_) | (go_at_call 85; refine (HF.out _ _ x HB.out (Rep.mono HR.out HB.out)).mono ?_; rintro e W1 ⟨_, rfl, rfl, hb⟩; rw [HP.out]; have HB1 := Lib.hid (bel_next HB.out hb); clear hb))
        go_ret
        exact ⟨_, rfl, int_eq (idxOf_found HN.out HX.out HP.out).symm, HB1.out⟩
    · obtain rfl : k = l.length := by omega
      go_wp2_with fail
      go_ret
      rw [List.take_length] at HN
      exact ⟨_, rfl, int_eq (idxOf_none HN.out).symm, hB0⟩
set_option maxHeartbeats 400000 in
theorem impl_Table_procAt (w : World) (cs : List Value) (x : DTable) (n : Int) (h : Rep.rep w cs x) : Calls Try.prog 64 #[.agg cs.toArray, .int .i64 n] w (Gives w fun r _ => r = .int .i64 (procAtI x.Live n)) := by
  obtain ⟨v0, v1, rfl, h0, h1, h2⟩ := DTable.rep_iff.1 h
  have HR := Lib.hid h1
  clear h h0 h1 h2
  go_enter Try.func64, Try.ntmps64
  go_wp2_with fail
  refine (idx_procAt _ _ x.Live _ (pidIsB n) (HR.out.mono (by repeat (first | (with_reducible exact Below.refl _ _) | (with_reducible assumption) | (with_reducible refine bel_alloc ?_ _) | ((with_reducible refine bel_set ?_ ?_ _); rotate_left; (focus first | (simp; done) | (simp; omega)))))) (fun w' cs y hb hr => impl_procAt_1 w' cs y _ n hr ((hb.cell (p := ⟨_, _, none⟩) (by simp)).trans (by simp)))).mono ?_
  rintro e W1 ⟨_, rfl, rfl, hb⟩
  have HB := Lib.hid (bel_next (show Below w.heap.size w _ from (by repeat (first | (with_reducible exact Below.refl _ _) | (with_reducible assumption) | (with_reducible refine bel_alloc ?_ _) | ((with_reducible refine bel_set ?_ ?_ _); rotate_left; (focus first | (simp; done) | (simp; omega)))))) hb)
  clear hb
  go_wp2_with fail
  go_ret
  exact ⟨_, rfl, rfl, HB.out⟩
theorem ints_open {w : World} {v : Value} {l : List Int} (h : RepS w v l) :
    ∃ a cap, v = .slice a l.length cap ∧ l.length ≤ 9223372036854775807 ∧
      (l ≠ [] → ∃ b off, a = some ⟨b, off, none⟩ ∧ ∀ (i : Nat) x, l[i]? = some x → w.cell? ⟨b, off + i, none⟩ = some (.int .i64 x)) := by
  obtain ⟨a, cap, hv, hl, h⟩ := h
  refine ⟨a, cap, hv, hl.1, fun hne => ?_⟩
  obtain ⟨b, off, ha, hr⟩ := h hne
  refine ⟨b, off, ha, fun i x hx => ?_⟩
  obtain ⟨r, hrep, hc⟩ := hr i x hx
  have e : r = [.int .i64 x] := hrep.1
  have := hc 0 (.int .i64 x) (by rw [e]; rfl)
  simpa [Rep.size] using this
set_option maxHeartbeats 400000 in
theorem spec_HasInt (w : World) (v : Value) (l : List Int) (n : Int) (h : RepS w v l) : Calls Try.prog 45 #[v, .int .i64 n] w (Pure w (.bool (hasInt l n))) := by
  obtain ⟨a, cap, rfl, hl, hc⟩ := ints_open h
  have HC := Lib.hid hc
  clear hc h
  go_enter Try.func45, Try.ntmps45
  go_wp2_with fail
  go_loop [9] (fun i => ∃ k : Nat, k ≤ l.length ∧ i = .int .i64 k ∧ Hid (∀ x ∈ l.take k, (x == n) = false)) (fun i => l.length - (intOf i).toNat)
  case atStart => exact ⟨0, Nat.zero_le _, rfl, by show ∀ x ∈ _, _; simp⟩
  case round =>
    obtain ⟨k, hk, rfl, HN⟩ := hrel
    by_cases hlt : k < l.length
    · have hne : l ≠ [] := by intro e; rw [e] at hlt; simp at hlt
      obtain ⟨b, off, rfl, hc⟩ := HC.out hne
      have hx : l[k]? = some l[k] := by simp [hlt]
      have c1 := hc k l[k] hx
      generalize l[k] = x at hx c1
      have HX := Lib.hid hx
      clear hc hx hne
      cases hq : (x == n)
      · have HQ := Lib.hid hq
        go_wp2_with fail
        go_round
        case rel => exact ⟨k + 1, by omega, by go_num, not_yet (p := fun x => x == n) HN.out HX.out HQ.out⟩
        case measure => simp [intOf]; omega
      · go_wp2_with fail
        go_ret
        exact pure_ret (hasInt_yes HX.out hq).symm
    · obtain rfl : k = l.length := by omega
      go_wp2_with fail
      go_ret
      rw [List.take_length] at HN
      exact pure_ret (hasInt_no HN.out).symm
end Go.Proofs.Ytnidoeapoknhdaa
