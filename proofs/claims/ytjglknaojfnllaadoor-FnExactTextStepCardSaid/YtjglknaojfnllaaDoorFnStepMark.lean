/- A step that was read is marked, its cuts being a stretch of a block. -/
import Derived.Test.YtjglknaojfnllaaDoorFnTextStepI
import Derived.Test.YtjglknaojfnllaaDoorLawMark
set_option linter.unusedSimpArgs false
set_option linter.unusedVariables false
namespace Go.Mux
open Go.RowKit
def seqI (k : Int) (n : Nat) : List Int := (List.range n).map fun (i : Nat) => k + i
theorem seqI_len (k : Int) (n : Nat) : (seqI k n).length = n := by simp [seqI]
theorem seqI_at {k : Int} {n i : Nat} {x : Int} (h : (seqI k n)[i]? = some x) : i < n ∧ x = k + i := by
  unfold seqI at h
  rw [List.getElem?_map] at h
  by_cases hi : i < n
  · rw [List.getElem?_range hi] at h; simp at h; exact ⟨hi, h.symm⟩
  · rw [List.getElem?_eq_none (by simp; omega)] at h; simp at h
theorem seqI_succ (k : Int) (n : Nat) : seqI k (n + 1) = seqI k n ++ [k + n] := by simp [seqI, List.range_succ]
theorem seqI_hold (k : Int) (n : Nat) : HoldL IntHold (seqI k n) k (k + n) := by
  induction n with
  | zero => show _ = _; simp
  | succ n ih => rw [seqI_succ]; exact ih.snoc ⟨rfl, by omega⟩
/-- A row some of whose places hold marks. -/
def MarkRow (W : World) (g off n : Nat) (k : Int) (j : Nat) : Prop := ∃ A : Array Value, RowAt W g A 3 ∧ off + n ≤ A.size ∧ ∀ i, i < j → A[off + i]? = some (.int .i64 (k + i))
theorem putAt_get {A : Array Value} {o i : Nat} {v : Value} (h : o + 1 ≤ A.size) : (putAt A o [v])[i]? = if i = o then some v else A[i]? := by
  unfold putAt
  rw [List.getElem?_toArray]
  by_cases h1 : i < o
  · rw [if_neg (by omega), List.append_assoc, List.getElem?_append_left (by simp; omega), List.getElem?_take_of_lt h1]; simp
  · by_cases h2 : i = o
    · subst h2
      rw [if_pos rfl, List.append_assoc, List.getElem?_append_right (by simp only [List.length_take, Array.length_toList]; omega), List.getElem?_append_left (by simp; omega)]
      have e : i - (List.take i A.toList).length = 0 := by simp only [List.length_take, Array.length_toList]; omega
      rw [e]; rfl
    · rw [if_neg h2, List.getElem?_append_right (by simp; omega), List.getElem?_drop]
      have e : o + [v].length + (i - (List.take o A.toList ++ [v]).length) = i := by simp; omega
      rw [e]; simp
theorem MarkRow.start {W : World} {g : Nat} {pre l post : List Int} (h : W.heap[g]? = some (.cells ((((pre ++ l) ++ post).map (Value.int .i64 ·)).toArray) 3 (0, 0))) (k : Int) : MarkRow W g pre.length l.length k 0 :=
  ⟨_, RowAt.of h, by simp, fun i hi => by omega⟩
theorem MarkRow.next {g off n j : Nat} {k : Int} {A : Array Value} {W1 : World} (h1 : off + n ≤ A.size) (h2 : ∀ i, i < j → A[off + i]? = some (.int .i64 (k + i))) (hj : j < n) (h3 : RowAt W1 g (putAt A (off + j) [.int .i64 (k + j)]) 3) : MarkRow W1 g off n k (j + 1) := by
  refine ⟨_, h3, by rw [size_putAt (by simp; omega)]; exact h1, fun i hi => ?_⟩
  rw [putAt_get (by omega)]
  by_cases e : i = j
  · subst e; rw [if_pos rfl]
  · rw [if_neg (by omega)]; exact h2 i (by omega)
theorem MarkRow.repS {W : World} {g off n : Nat} {k : Int} (h : MarkRow W g off n k n) (h0 : 1 ≤ k) (h1 : k + n ≤ 1099511627776) : RepS W (.slice (some ⟨g, off, none⟩) n n) (seqI k n) := by
  obtain ⟨A, ⟨fz, hr, _⟩, hs, hc⟩ := h
  refine ⟨_, n, by rw [seqI_len], ⟨by rw [seqI_len]; omega, by rw [seqI_len]; exact Nat.le_refl _⟩, fun _ => ⟨g, off, rfl, fun i x hx => ?_⟩⟩
  obtain ⟨hi, rfl⟩ := seqI_at hx
  refine ⟨[.int .i64 (k + i)], ⟨rfl, ⟨by omega, by omega⟩⟩, fun j u hu => ?_⟩
  match j, hu with
  | 0, hu =>
    simp only [List.getElem?_cons_zero, Option.some.injEq] at hu
    subst hu
    show W.cell? ⟨g, off + i * 1 + 0, none⟩ = _
    rw [Nat.mul_one, Nat.add_zero, cell_of_row W g _ A _ fz hr]
    exact hc i hi
end Go.Mux
namespace Go.Proofs.YtjglknaojfnllaaDoor
open Go.RowKit Go.Mux
set_option maxRecDepth 100000 in
set_option maxHeartbeats 4000000 in
theorem markIntS_row (w : World) (g off n : Nat) (k : Int) (h : MarkRow w g off n k 0) (h0 : 1 ≤ k) (h1 : k + n ≤ 1099511627776) :
    Calls Tryd.prog 26 #[.slice (some ⟨g, off, none⟩) n n, .int .i64 k] w fun e w' => e = .returned (.int .i64 (k + n)) ∧ MarkRow w' g off n k n ∧ MarkedOn [g] w w' := by
  have HM := Lib.hid h
  have HW := Lib.hid h1
  clear h h1
  go_enter Tryd.func26, Tryd.ntmps26
  go_wp2
  go_loopw [1, 5] (fun kv i wr => ∃ (j : Nat), j ≤ n ∧ i = .int .i64 j ∧ kv = .int .i64 (k + j) ∧ Hid (MarkRow wr g off n k j ∧ MarkedOn [g] w wr)) (fun _ i _ => n - (intOf i).toNat)
  case atStart => exact ⟨0, Nat.zero_le _, rfl, by simp, ⟨HM.out, MarkedOn.refl _ _⟩⟩
  case round =>
    obtain ⟨j, hj, rfl, rfl, HI⟩ := hrel
    by_cases hlt : j < n
    · have hW := HW.out
      have hq1 : k + j + 1 ≤ 1099511627776 := by omega
      have hq0 : 1 ≤ k + j := by omega
      have hn2 : n ≤ 1099511627776 := by omega
      clear hW
      obtain ⟨A, hA1, hA2, hA3⟩ := HI.out.1
      have HA2 := Lib.hid hA2
      have HA3 := Lib.hid hA3
      have HR0 := Lib.hid hA1
      have HF := Lib.hid (show off + j + 1 ≤ A.size by omega)
      clear hA1 hA2 hA3
      obtain ⟨q, hq⟩ : ∃ q, q = k + (j : Int) := ⟨_, rfl⟩
      rw [← hq] at hq1 hq0 ⊢
      have HQ := Lib.hid hq
      clear hq
      go_wp2_with (first | ((with_reducible (show wpList _ _ _ (Oper.mk _ (Op.store 3 _ _) _ _ _ _ :: _) _ _)); have _t := HR0; refine wpList_store_in rfl 3 _ _ rfl g (off + j) rfl (.int .i64 q) rfl [.int .i64 q] rfl _ _ HR0.out HF.out (by simp [Value.oneCell']) size_int' ?_; intro W1 hW; have HR1 := Lib.hid (show RowAt W1 g (putAt A (off + j) [.int .i64 q]) 3 from by subst hW; exact HR0.out.setRow (size_putAt (by have := HF.out; simp; omega))); have HM1 := Lib.hid (HI.out.2.trans (MarkedOn.row (by simp) hW)); clear hW HR0))
      go_roundw
      case rel => exact ⟨j + 1, by omega, by go_num, by rw [HQ.out]; go_num, ⟨MarkRow.next HA2.out HA3.out hlt (by rw [← HQ.out]; exact HR1.out), HM1.out⟩⟩
      case measure => simp [intOf]; omega
    · obtain rfl : j = n := by omega
      go_wp2
      go_ret
      exact ⟨rfl, HI.out.1, HI.out.2⟩
end Go.Proofs.YtjglknaojfnllaaDoor
namespace Go.Mux
open Go.RowKit
theorem own_nil {α : Type} [Rep α] {w : World} {l : List α} {fp : List Nat} (h : OwnS w (.slice none 0 0) l fp) : fp = [] := by
  obtain ⟨rows, fps, ho, hl, hrl, hfl, hel, hfp⟩ := h
  rcases ho.2 with ⟨hv, hn⟩ | ⟨g, cap, cur, hv, _⟩
  · have : fps = [] := List.eq_nil_of_length_eq_zero (by omega)
    subst this
    rw [hfp]; rfl
  · cases hv
def DataIn (lo hi : Nat) (W : World) (v : Value) (l : List UInt8) (fp : List Nat) : Prop := OwnS W v l fp ∧ fp.Nodup ∧ ∀ b ∈ fp, lo ≤ b ∧ b < hi
def CutsIn (lo hi : Nat) (W : World) (v : Value) (l : List Int) : Prop :=
  (v = .slice none 0 0 ∧ l = []) ∨ ∃ (g : Nat) (pre post : List Int), v = .slice (some ⟨g, pre.length, none⟩) l.length l.length ∧ (lo ≤ g ∧ g < hi) ∧ l.length ≤ 1048576 ∧ W.heap[g]? = some (.cells ((((pre ++ l) ++ post).map (Value.int .i64 ·)).toArray) 3 (0, 0))
/-- A step that was read, in blocks from lo on, below hi. -/
def StepIn (lo hi : Nat) (W : World) (cs : List Value) (x : DStep) : Prop :=
  ∃ vd vc fp, cs = [.int .i64 x.Kind, .int .i64 x.A, .int .i64 x.B, .string x.Text, vd, vc] ∧ DataIn lo hi W vd x.Data fp ∧ CutsIn lo hi W vc x.Cuts ∧ (vd = .slice none 0 0 ∨ vc = .slice none 0 0)
theorem StepAt.in_ {lo : Nat} {W : World} {cs : List Value} {x : DStep} (h : StepAt lo W cs x) : StepIn lo W.heap.size W cs x := by
  obtain ⟨vd, vc, rfl, ⟨fp, ho, hn, hf⟩, hc, hv⟩ := h
  refine ⟨vd, vc, fp, rfl, ⟨ho, hn, fun b hb => ⟨hf b hb, ho.lt b hb⟩⟩, ?_, hv⟩
  rcases hc with h1 | ⟨g, pre, post, h1, h2, h3, h4⟩
  · exact .inl h1
  · exact .inr ⟨g, pre, post, h1, ⟨h2, (Array.getElem?_eq_some_iff.1 h4).1⟩, h3, h4⟩
theorem DataIn.keep {lo hi : Nat} {W W1 : World} {v : Value} {l : List UInt8} {fp : List Nat} (h : DataIn lo hi W v l fp) (hk : ∀ b, b < W.heap.size → b < hi → W1.heap[b]? = W.heap[b]?) : DataIn lo hi W1 v l fp :=
  ⟨h.1.mono fun b hb => hk b (h.1.lt b hb) (h.2.2 b hb).2, h.2⟩
theorem CutsIn.keep {lo hi : Nat} {W W1 : World} {v : Value} {l : List Int} (h : CutsIn lo hi W v l) (hk : ∀ b, b < W.heap.size → b < hi → W1.heap[b]? = W.heap[b]?) : CutsIn lo hi W1 v l := by
  rcases h with h1 | ⟨g, pre, post, h1, h2, h3, h4⟩
  · exact .inl h1
  · exact .inr ⟨g, pre, post, h1, h2, h3, (hk g (Array.getElem?_eq_some_iff.1 h4).1 h2.2).trans h4⟩
theorem StepIn.keep {lo hi : Nat} {W W1 : World} {cs : List Value} {x : DStep} (h : StepIn lo hi W cs x) (hk : ∀ b, b < W.heap.size → b < hi → W1.heap[b]? = W.heap[b]?) : StepIn lo hi W1 cs x := by
  obtain ⟨vd, vc, fp, rfl, hd, hc, hv⟩ := h
  exact ⟨vd, vc, fp, rfl, hd.keep hk, hc.keep hk, hv⟩
theorem StepIn.step {lo hi : Nat} {W W1 : World} {cs : List Value} {x : DStep} (hb : Below W.heap.size W W1) (h : StepIn lo hi W cs x) : StepIn lo hi W1 cs x := h.keep fun b h1 _ => hb.block b h1
theorem StepIn.at_ {lo hi : Nat} {W : World} {cs : List Value} {x : DStep} (h : StepIn lo hi W cs x) : StepAt lo W cs x := by
  obtain ⟨vd, vc, fp, rfl, hd, hc, hv⟩ := h
  refine ⟨vd, vc, rfl, ⟨fp, hd.1, hd.2.1, fun b hb => (hd.2.2 b hb).1⟩, ?_, hv⟩
  rcases hc with h1 | ⟨g, pre, post, h1, h2, h3, h4⟩
  · exact .inl h1
  · exact .inr ⟨g, pre, post, h1, h2.1, h3, h4⟩
end Go.Mux
namespace Go.Proofs.YtjglknaojfnllaaDoor
open Go.RowKit Go.Mux
/-- The data of a step that was read is marked. -/
theorem mark_data (w : World) (lo hi : Nat) (v vc : Value) (l : List UInt8) (lc : List Int) (fp : List Nat) (k : Int) (h : DataIn lo hi w v l fp) (hc : CutsIn lo hi w vc lc) (hv : v = .slice none 0 0 ∨ vc = .slice none 0 0) (h0 : 1 ≤ k) (h1 : k + (l.length : Nat) ≤ 1099511627776) :
    Calls Tryd.prog 25 #[v, .int .i64 k] w fun e w' => ∃ k' y, e = .returned (.int .i64 k') ∧ k ≤ k' ∧ k' ≤ k + l.length ∧ DataIn lo hi w' v y fp ∧ HoldL ByteHold y k k' ∧ CutsIn lo hi w' vc lc ∧ MarkedOn fp w w' := by
  obtain ⟨ho, hn, hf⟩ := h
  refine (markByteS_any w v l k fp ho hn h0 h1).mono ?_
  rintro e w' ⟨k', y, rfl, hk1, hk2, hoy, hh, hm⟩
  have hoy := own_slice hoy
  refine ⟨k', y, rfl, hk1, hk2, ⟨hoy, hn, hf⟩, hh, ?_, hm⟩
  rcases hc with ⟨rfl, rfl⟩ | ⟨g, pre, post, rfl, hg, hl, hr⟩
  · exact .inl ⟨rfl, rfl⟩
  · rcases hv with rfl | hv
    · have hfp : fp = [] := own_nil ho
      subst hfp
      exact .inr ⟨g, pre, post, rfl, hg, hl, (hm.block g (Array.getElem?_eq_some_iff.1 hr).1 (by simp)).trans hr⟩
    · cases hv
/-- The cuts of a step that was read are marked. -/
theorem mark_cuts (w : World) (lo hi : Nat) (v vc : Value) (y : List UInt8) (fp : List Nat) (lc : List Int) (k : Int) (h : DataIn lo hi w v y fp) (hc : CutsIn lo hi w vc lc) (hv : v = .slice none 0 0 ∨ vc = .slice none 0 0) (h0 : 1 ≤ k) (h1 : k + (lc.length : Nat) ≤ 1099511627776) :
    Calls Tryd.prog 26 #[vc, .int .i64 k] w fun e w' => ∃ k' z fq, e = .returned (.int .i64 k') ∧ k ≤ k' ∧ k' ≤ k + lc.length ∧ RepS w' v y ∧ RepS w' vc z ∧ HoldL IntHold z k k' ∧ MarkedOn fq w w' ∧ (∀ b ∈ fq, lo ≤ b ∧ b < hi) := by
  rcases hc with ⟨rfl, rfl⟩ | ⟨g, pre, post, rfl, hg, hl, hr⟩
  · obtain ⟨fq, ho, hn, hf⟩ := nil_freshB (α := Int) lo w
    refine (markIntS_any w _ [] k fq ho hn h0 h1).mono ?_
    rintro e w' ⟨k', z, rfl, hk1, hk2, hoy, hh, hm⟩
    have hfq : fq = [] := own_nil ho
    subst hfq
    exact ⟨k', z, [], rfl, hk1, hk2, (h.1.mono fun b hb => hm.block b (h.1.lt b hb) (by simp)).repS, (own_slice hoy).repS, hh, hm, by simp⟩
  · rcases hv with rfl | hv
    · refine (markIntS_row w g pre.length lc.length k (MarkRow.start hr k) h0 h1).mono ?_
      rintro e w' ⟨rfl, hrow, hm⟩
      have hfp : fp = [] := own_nil h.1
      subst hfp
      exact ⟨_, _, [g], rfl, by omega, Int.le_refl _, (h.1.mono fun b hb => by simp at hb).repS, hrow.repS h0 h1, seqI_hold _ _, hm, fun b hb => by simp at hb; subst hb; exact hg⟩
    · cases hv
set_option maxRecDepth 100000 in
set_option maxHeartbeats 2000000 in
/-- A step that was read is marked. -/
theorem mark_step (w : World) (lo hi n : Nat) (cs : List Value) (x : DStep) (h : StepIn lo hi w cs x) (hs : Small x n) (hn : n ≤ 1048576) (hhi : hi ≤ w.heap.size) :
    Calls Tryd.prog 8 #[.agg cs.toArray, .int .i64 1] w fun e w' => ∃ k' y fp, e = .returned (.int .i64 k') ∧ 1 ≤ k' ∧ k' ≤ 1099511627776 ∧ Rep.rep w' cs y ∧ DStep.HoldV y 1 k' ∧ MarkedOn fp w w' ∧ (∀ b ∈ fp, lo ≤ b ∧ b < hi) := by
  have HSM := Lib.hid hs
  obtain ⟨vd, vc, fp, rfl, hd, hc, hv⟩ := h
  obtain ⟨va4, vn4, vc4, rfl⟩ := hd.1.repS.shape
  obtain ⟨va5, vn5, vc5, rfl⟩ : ∃ a n c, vc = .slice a n c := by rcases hc with ⟨rfl, _⟩ | ⟨_, _, _, rfl, _⟩ <;> exact ⟨_, _, _, rfl⟩
  have HV := Lib.hid hv
  have HD := Lib.hid (hd.keep (W1 := w.alloc (.cells #[.int .i64 x.Kind, .int .i64 x.A, .int .i64 x.B, .string x.Text, .slice va4 vn4 vc4, .slice va5 vn5 vc5] 25)) fun b h1 _ => (bel_alloc (Below.refl _ _) _).block b h1)
  have HC := Lib.hid (hc.keep (W1 := w.alloc (.cells #[.int .i64 x.Kind, .int .i64 x.A, .int .i64 x.B, .string x.Text, .slice va4 vn4 vc4, .slice va5 vn5 vc5] 25)) fun b h1 _ => (bel_alloc (Below.refl _ _) _).block b h1)
  have HH := Lib.hid hhi
  have HL := Lib.hid (show (1 : Int) + (x.Data.length + x.Cuts.length : Nat) ≤ 1099511627776 from by have := hs.one; omega)
  have HF := Lib.hid hd.2.2
  have HX0 := Lib.hid (show w.heap.size ∉ fp from fun e => by have := hd.2.2 _ e; omega)
  clear hd hc hv hs hhi
  go_enter Tryd.func8, Tryd.ntmps8
  go_wp2_with fail
  refine (mark_data _ lo hi _ _ x.Data x.Cuts fp 1 HD.out HC.out HV.out (by omega) (by have := HL.out; omega)).mono ?_
  rintro e W0 ⟨q0, y4, rfl, hk0, hl0, hd, hh, hc, hm⟩
  have hcb0 : ∀ o, W0.cell? ⟨w.heap.size, o, none⟩ = _ := fun o => World.cell?_of_block (a := ⟨w.heap.size, o, none⟩) (hm.block w.heap.size (by simp) HX0.out)
  have HM := Lib.hid ((MarkedOn.of_below (bel_alloc (Below.refl w.heap.size w) _)).trans hm)
  have HZ := Lib.hid (show w.heap.size < W0.heap.size from by have := hm.size; simp at this; omega)
  replace HD := Lib.hid hd
  replace HC := Lib.hid hc
  have HK0 := Lib.hid hh
  clear hd hh hm hc
  go_wp2_with fail
  refine (mark_cuts _ lo hi _ _ y4 fp x.Cuts q0 HD.out HC.out HV.out (by omega) (by have := HL.out; omega)).mono ?_
  rintro e W1 ⟨q1, y5, fq, rfl, hk1, hl1, hrd, hrc, hh, hm, hfq⟩
  have hcb1 : ∀ o, W1.cell? ⟨w.heap.size, o, none⟩ = _ := fun o => World.cell?_of_block (a := ⟨w.heap.size, o, none⟩) (hm.block w.heap.size HZ.out (fun e => by have := hfq _ e; have := HH.out; omega))
  have HRD := Lib.hid hrd
  have HRC := Lib.hid hrc
  have HK1 := Lib.hid hh
  have HMM := Lib.hid ((HM.out.mono (fp' := fp ++ fq) (fun b hb => by simp [hb])).trans (hm.mono (fp' := fp ++ fq) (fun b hb => by simp [hb])))
  have HFQ := Lib.hid hfq
  clear hrd hrc hh hm hfq
  go_wp2_with fail
  go_ret
  have hk := HSM.out.kind
  have ha := HSM.out.a
  have hb := HSM.out.b
  have ht := HSM.out.text
  refine ⟨q1, ⟨x.Kind, x.A, x.B, x.Text, y4, y5⟩, fp ++ fq, rfl, by omega, by have := HL.out; omega, ?_, ⟨q0, HK0.out, HK1.out⟩, HMM.out, fun b hb => (List.mem_append.1 hb).elim (HF.out b) (HFQ.out b)⟩
  exact DStep.rep_iff.2 ⟨_, _, rfl, ⟨by show _ ≤ x.Kind; omega, by show x.Kind ≤ _; omega⟩, ⟨by show _ ≤ x.A; omega, by show x.A ≤ _; omega⟩, ⟨by show _ ≤ x.B; omega, by show x.B ≤ _; omega⟩, by show x.Text.size ≤ _; omega, HRD.out, HRC.out⟩
end Go.Proofs.YtjglknaojfnllaaDoor
