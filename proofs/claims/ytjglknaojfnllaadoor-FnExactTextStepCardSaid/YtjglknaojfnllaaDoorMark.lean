/- The walks of the laws' marking functions over slices. -/
import Derived.Test.YtjglknaojfnllaaDoorMark0
set_option linter.unusedSimpArgs false
set_option linter.unusedVariables false
namespace Go.Mux
open Go.RowKit
def ByteHold (x : UInt8) (k k' : Int) : Prop := (x.toNat : Int) = (k) % 256 ∧ k' = k + 1
theorem ByteHold_le (x : UInt8) (k k' : Int) (h : ByteHold x k k') : k ≤ k' := by
  obtain ⟨h0, e⟩ := h
  omega
def IntHold (x : Int) (k k' : Int) : Prop := x = k ∧ k' = k + 1
theorem IntHold_le (x : Int) (k k' : Int) (h : IntHold x k k') : k ≤ k' := by
  obtain ⟨h0, e⟩ := h
  omega
def StrHold (x : ByteArray) (k k' : Int) : Prop := x = markT (k) ∧ k' = k + 1
theorem StrHold_le (x : ByteArray) (k k' : Int) (h : StrHold x k k') : k ≤ k' := by
  obtain ⟨h0, e⟩ := h
  omega
theorem own_grow {α : Type} [Rep α] {w w' : World} {cs : List Value} {x : α} {f : List Nat} (h : Rep.own w cs x f) (hb : Below w.heap.size w w') : Rep.own w' cs x f := Rep.ownMono h fun b hbf => hb.block b (Rep.ownLt h b hbf)
theorem own_apart {α : Type} [Rep α] {w w' : World} {cs : List Value} {x : α} {f fq : List Nat} (h : Rep.own w cs x f) (hm : MarkedOn fq w w') (hd : ∀ b ∈ f, b ∉ fq) : Rep.own w' cs x f := Rep.ownMono h fun b hbf => hm.block b (Rep.ownLt h b hbf) (hd b hbf)
theorem own_slice {α : Type} [Rep α] {w : World} {v : Value} {l : List α} {f : List Nat} (h : Rep.own w [v] l f) : OwnS w v l f := by
  obtain ⟨v', e, h⟩ := h
  cases e
  exact h
theorem sum_one {α : Type} (l : List α) : (l.map (fun _ => 1)).sum = l.length := by
  induction l with
  | nil => rfl
  | cons x l ih => simp only [List.map_cons, List.sum_cons, ih, List.length_cons]; omega
theorem byte_mark {k : Int} (h : 0 ≤ k) : ((UInt8.ofNat (k % 256).toNat).toNat : Int) = k % 256 := by
  rw [UInt8.toNat_ofNat']
  omega
def DOp.Hold (x : DOp) (k k' : Int) : Prop := ∃ q0 : Int, x.Kind = k ∧ x.A = k + 1 ∧ x.B = k + 1 + 1 ∧ x.C = k + 1 + 1 + 1 ∧ x.Name = markT (k + 1 + 1 + 1 + 1) ∧ x.Text = markT (k + 1 + 1 + 1 + 1 + 1) ∧ x.Dir = markT (k + 1 + 1 + 1 + 1 + 1 + 1) ∧ HoldL ByteHold x.Data (k + 1 + 1 + 1 + 1 + 1 + 1 + 1) q0 ∧ k' = q0
def DOp.wt (x : DOp) : Nat := 7 + x.Data.length
theorem DOp.Hold_le (x : DOp) (k k' : Int) (h : DOp.Hold x k k') : k ≤ k' := by
  obtain ⟨q0, h0, h1, h2, h3, h4, h5, h6, h7, e⟩ := h
  have l0 := HoldL.le ByteHold_le h7
  omega
def DStep.Hold (x : DStep) (k k' : Int) : Prop := ∃ q0 q1 : Int, x.Kind = k ∧ x.A = k + 1 ∧ x.B = k + 1 + 1 ∧ x.Text = markT (k + 1 + 1 + 1) ∧ HoldL ByteHold x.Data (k + 1 + 1 + 1 + 1) q0 ∧ HoldL IntHold x.Cuts (q0) q1 ∧ k' = q1
def DStep.wt (x : DStep) : Nat := 4 + x.Data.length + x.Cuts.length
theorem DStep.Hold_le (x : DStep) (k k' : Int) (h : DStep.Hold x k k') : k ≤ k' := by
  obtain ⟨q0, q1, h0, h1, h2, h3, h4, h5, e⟩ := h
  have l0 := HoldL.le ByteHold_le h4
  have l1 := HoldL.le IntHold_le h5
  omega
def DOp.HoldV (x : DOp) (k k' : Int) : Prop := HoldL ByteHold x.Data k k'
def DOp.wtV (x : DOp) : Nat := x.Data.length
theorem DOp.HoldV_le (x : DOp) (k k' : Int) (h : DOp.HoldV x k k') : k ≤ k' := by
  have h0 := h
  have l0 := HoldL.le ByteHold_le h0
  omega
def DStep.HoldV (x : DStep) (k k' : Int) : Prop := ∃ q0 : Int, HoldL ByteHold x.Data k q0 ∧ HoldL IntHold x.Cuts q0 k'
def DStep.wtV (x : DStep) : Nat := x.Data.length + x.Cuts.length
theorem DStep.HoldV_le (x : DStep) (k k' : Int) (h : DStep.HoldV x k k') : k ≤ k' := by
  obtain ⟨q0, h0, h1⟩ := h
  have l0 := HoldL.le ByteHold_le h0
  have l1 := HoldL.le IntHold_le h1
  omega
end Go.Mux
namespace Go.Proofs.YtjglknaojfnllaaDoor
open Go.RowKit Go.Mux
set_option maxRecDepth 100000 in
set_option maxHeartbeats 4000000 in
theorem markByteS_any (w : World) (v : Value) (l : List UInt8) (k : Int) (fp : List Nat) (h : OwnS w v l fp) (hn : fp.Nodup) (h0 : 1 ≤ k) (h1 : k + (l.length : Nat) ≤ 1099511627776) :
    Calls Tryd.prog 25 #[v, .int .i64 k] w (MarkOut (HoldL ByteHold) [v] fp k (l.length) w) := by
  obtain ⟨a, cap, rfl, hl, -⟩ := h.repS
  have HN := Lib.hid hn
  have HO := Lib.hid h
  have HW := Lib.hid h1
  clear hn h h1
  go_enter Tryd.func25, Tryd.ntmps25
  go_wp2
  go_loopw [1, 5] (fun kv i wr => ∃ (j : Nat) (q : Int) (M : List UInt8), j ≤ l.length ∧ i = .int .i64 j ∧ kv = .int .i64 q ∧ Hid (MarkInv ByteHold (fun _ => 1) w (.slice a l.length cap) l k fp wr j q M)) (fun _ i _ => l.length - (intOf i).toNat)
  case atStart => exact ⟨0, k, l, Nat.zero_le _, rfl, rfl, MarkInv.start HO.out⟩
  case round =>
    obtain ⟨j, q, M, hj, rfl, rfl, HI⟩ := hrel
    by_cases hlt : j < l.length
    · obtain ⟨x, hx⟩ : ∃ x, l[j]? = some x := ⟨l[j], by simp [hlt]⟩
      have hb := MarkInv.bound HI.out hx h0 (B := 1099511627776) (by rw [sum_one]; exact HW.out)
      skip
      obtain ⟨hb1, hb2⟩ := hb
      have HX := Lib.hid hx
      have hxL := MarkInv.at_ HI.out hx
      clear hx
      obtain ⟨g, A, f, r, rfl, hg, ho, hfn, hfs, hgf, hgn, hA, hcl, hclose⟩ := HI.out.1.openAt HN.out hxL
      clear hxL
      obtain ⟨rfl, rfl⟩ := ho
      have HCL := Lib.hid hclose
      clear hclose
      have HGF := Lib.hid hgf
      have HFS := Lib.hid (show ∀ b ∈ g :: [], b ∈ fp from fun b hb => by
        rcases List.mem_cons.1 hb with h | h
        · rw [h]; exact hgf
        · exact hfs b h)
      have HR0 := Lib.hid (show Rowing wr g A 5 (j) 1 [] from Rowing.start hg (by rw [show j * Rep.size UInt8 = j from Nat.mul_one j] at hA; exact hA))
      have HM0 := Lib.hid (MarkedOn.refl (g :: []) wr)
      clear hg hA hcl hgn hgf hfs hfn
      go_wp2_with (first | ((with_reducible (show wpList _ _ _ (Oper.mk _ (Op.store 5 _ _) _ _ _ _ :: _) _ _)); have _t := HR0; refine wpList_store_in rfl 5 _ _ rfl g (j) rfl (.int .u8 ((q) % 256)) rfl [.int .u8 ((q) % 256)] rfl _ _ HR0.out.1 (HR0.out.fit (by simp) rfl) (by simp [Value.oneCell']) size_byte' ?_; intro W1 hW; have HR1 := Lib.hid (HR0.out.store (by simp) rfl hW); have HM1 := Lib.hid (HM0.out.trans (MarkedOn.row (by simp) hW)); clear hW HR0 HM0))
      go_roundw
      case rel => exact ⟨j + 1, q + 1, M.set j (UInt8.ofNat ((q) % 256).toNat), by omega, by go_num, rfl, MarkInv.next HI.out HX.out (HCL.out W1 (UInt8.ofNat ((q) % 256).toNat) [.int .u8 ((q) % 256)] ⟨by show [Value.int .u8 ((q) % 256)] = [Value.int .u8 _]; rw [byte_mark (by omega)], rfl⟩ (by rw [show j * Rep.size UInt8 = j from Nat.mul_one j]; exact HR1.out.1) (fun b hb h1 h2 => HM1.out.block b (HI.out.1.lt b hb) (by simp only [List.mem_cons, not_or]; exact ⟨h1, h2⟩))) (show ByteHold _ q _ from ⟨(byte_mark (by omega)), rfl⟩) (HM1.out.mono HFS.out) (by omega) (by show _ ≤ _; omega)⟩
      case measure => simp [intOf]; omega
    · obtain rfl : j = l.length := by omega
      go_wp2
      go_ret
      exact by have hf := MarkInv.finish HI.out; rwa [sum_one] at hf
set_option maxRecDepth 100000 in
set_option maxHeartbeats 4000000 in
theorem markIntS_any (w : World) (v : Value) (l : List Int) (k : Int) (fp : List Nat) (h : OwnS w v l fp) (hn : fp.Nodup) (h0 : 1 ≤ k) (h1 : k + (l.length : Nat) ≤ 1099511627776) :
    Calls Tryd.prog 26 #[v, .int .i64 k] w (MarkOut (HoldL IntHold) [v] fp k (l.length) w) := by
  obtain ⟨a, cap, rfl, hl, -⟩ := h.repS
  have HN := Lib.hid hn
  have HO := Lib.hid h
  have HW := Lib.hid h1
  clear hn h h1
  go_enter Tryd.func26, Tryd.ntmps26
  go_wp2
  go_loopw [1, 5] (fun kv i wr => ∃ (j : Nat) (q : Int) (M : List Int), j ≤ l.length ∧ i = .int .i64 j ∧ kv = .int .i64 q ∧ Hid (MarkInv IntHold (fun _ => 1) w (.slice a l.length cap) l k fp wr j q M)) (fun _ i _ => l.length - (intOf i).toNat)
  case atStart => exact ⟨0, k, l, Nat.zero_le _, rfl, rfl, MarkInv.start HO.out⟩
  case round =>
    obtain ⟨j, q, M, hj, rfl, rfl, HI⟩ := hrel
    by_cases hlt : j < l.length
    · obtain ⟨x, hx⟩ : ∃ x, l[j]? = some x := ⟨l[j], by simp [hlt]⟩
      have hb := MarkInv.bound HI.out hx h0 (B := 1099511627776) (by rw [sum_one]; exact HW.out)
      skip
      obtain ⟨hb1, hb2⟩ := hb
      have HX := Lib.hid hx
      have hxL := MarkInv.at_ HI.out hx
      clear hx
      obtain ⟨g, A, f, r, rfl, hg, ho, hfn, hfs, hgf, hgn, hA, hcl, hclose⟩ := HI.out.1.openAt HN.out hxL
      clear hxL
      obtain ⟨⟨rfl, hi0⟩, rfl⟩ := ho
      have HCL := Lib.hid hclose
      clear hclose
      have HGF := Lib.hid hgf
      have HFS := Lib.hid (show ∀ b ∈ g :: [], b ∈ fp from fun b hb => by
        rcases List.mem_cons.1 hb with h | h
        · rw [h]; exact hgf
        · exact hfs b h)
      have HR0 := Lib.hid (show Rowing wr g A 3 (j) 1 [] from Rowing.start hg (by rw [show j * Rep.size Int = j from Nat.mul_one j] at hA; exact hA))
      have HM0 := Lib.hid (MarkedOn.refl (g :: []) wr)
      clear hg hA hcl hgn hgf hfs hfn
      go_wp2_with (first | ((with_reducible (show wpList _ _ _ (Oper.mk _ (Op.store 3 _ _) _ _ _ _ :: _) _ _)); have _t := HR0; refine wpList_store_in rfl 3 _ _ rfl g (j) rfl (.int .i64 (q)) rfl [.int .i64 (q)] rfl _ _ HR0.out.1 (HR0.out.fit (by simp) rfl) (by simp [Value.oneCell']) size_int' ?_; intro W1 hW; have HR1 := Lib.hid (HR0.out.store (by simp) rfl hW); have HM1 := Lib.hid (HM0.out.trans (MarkedOn.row (by simp) hW)); clear hW HR0 HM0))
      go_roundw
      case rel => exact ⟨j + 1, q + 1, M.set j (q), by omega, by go_num, rfl, MarkInv.next HI.out HX.out (HCL.out W1 (q) _ ⟨⟨rfl, (show I64 (q) from ⟨by omega, by omega⟩)⟩, rfl⟩ (by rw [show j * Rep.size Int = j from Nat.mul_one j]; exact HR1.out.1) (fun b hb h1 h2 => HM1.out.block b (HI.out.1.lt b hb) (by simp only [List.mem_cons, not_or]; exact ⟨h1, h2⟩))) (show IntHold _ q _ from ⟨rfl, rfl⟩) (HM1.out.mono HFS.out) (by omega) (by show _ ≤ _; omega)⟩
      case measure => simp [intOf]; omega
    · obtain rfl : j = l.length := by omega
      go_wp2
      go_ret
      exact by have hf := MarkInv.finish HI.out; rwa [sum_one] at hf
set_option maxRecDepth 100000 in
set_option maxHeartbeats 2000000 in
theorem markOp_any (w : World) (cs : List Value) (x : DOp) (k : Int) (fp : List Nat) (h : Rep.own w cs x fp) (hn : fp.Nodup) (h0 : 1 ≤ k) (h1 : k + (x.wtV : Nat) ≤ 1099511627776) :
    Calls Tryd.prog 13 #[.agg cs.toArray, .int .i64 k] w (MarkOut DOp.HoldV cs fp k x.wtV w) := by
  unfold DOp.wtV at h1
  obtain ⟨c0, d0, f0, e0, rfl, o0, ⟨c1, d1, f1, e1, rfl, o1, ⟨c2, d2, f2, e2, rfl, o2, ⟨c3, d3, f3, e3, rfl, o3, ⟨c4, d4, f4, e4, rfl, o4, ⟨c5, d5, f5, e5, rfl, o5, ⟨c6, d6, f6, e6, rfl, o6, o7, rfl⟩, rfl⟩, rfl⟩, rfl⟩, rfl⟩, rfl⟩, rfl⟩ := h
  obtain ⟨⟨rfl, i0⟩, rfl⟩ := o0
  obtain ⟨⟨rfl, i1⟩, rfl⟩ := o1
  obtain ⟨⟨rfl, i2⟩, rfl⟩ := o2
  obtain ⟨⟨rfl, i3⟩, rfl⟩ := o3
  obtain ⟨⟨rfl, i4⟩, rfl⟩ := o4
  obtain ⟨⟨rfl, i5⟩, rfl⟩ := o5
  obtain ⟨⟨rfl, i6⟩, rfl⟩ := o6
  obtain ⟨v7, rfl, o7'⟩ := o7
  obtain ⟨va7, vn7, vc7, rfl⟩ := o7'.repS.shape
  have O7 := Lib.hid (show Rep.own w [_] x.Data e6 from ⟨_, rfl, o7'⟩)
  clear o7'
  (try simp only [List.nil_append, List.append_nil] at hn)
  (try simp only [List.nil_append, List.cons_append, List.append_nil])
  have hn0 := hn
  have HU0 := Lib.hid (show e6.Nodup from hn0)
  have HS0 := Lib.hid (show ∀ b ∈ e6, b ∈ e6 from fun b hb => by simp [hb])
  have HX0 := Lib.hid (show w.heap.size ∉ e6 from fun e => Nat.lt_irrefl _ (Rep.ownLt O7.out _ e))
  clear hn0 hn
  go_enter Tryd.func13, Tryd.ntmps13
  go_wp2_with fail
  refine (markByteS_any _ _ x.Data (k) e6 (own_slice (own_grow O7.out (bel_alloc (Below.refl w.heap.size w) _))) HU0.out (by omega) (by omega)).mono ?_
  rintro e W0 ⟨q0, y7, rfl, hk0, hl0, ho, hh, hm⟩
  have hcb0 : ∀ o, W0.cell? ⟨w.heap.size, o, none⟩ = _ := fun o => World.cell?_of_block (a := ⟨w.heap.size, o, none⟩) (hm.block w.heap.size (by simp) HX0.out)
  have HM := Lib.hid ((MarkedOn.of_below (bel_alloc (Below.refl w.heap.size w) _)).trans (hm.mono HS0.out))
  have HZ := Lib.hid (show w.heap.size < W0.heap.size from by have := hm.size; simp at this; omega)
  replace O7 := Lib.hid ho
  have HK0 := Lib.hid hh
  clear ho hh hm
  go_wp2_with fail
  go_ret
  have HF := (show Rep.own W0 _ (⟨x.Kind, x.A, x.B, x.C, x.Name, x.Text, x.Dir, y7⟩ : DOp) _ from ⟨[_], _, [], _, rfl, ⟨⟨rfl, i0⟩, rfl⟩, ⟨[_], _, [], _, rfl, ⟨⟨rfl, i1⟩, rfl⟩, ⟨[_], _, [], _, rfl, ⟨⟨rfl, i2⟩, rfl⟩, ⟨[_], _, [], _, rfl, ⟨⟨rfl, i3⟩, rfl⟩, ⟨[_], _, [], _, rfl, ⟨⟨rfl, i4⟩, rfl⟩, ⟨[_], _, [], _, rfl, ⟨⟨rfl, i5⟩, rfl⟩, ⟨[_], _, [], _, rfl, ⟨⟨rfl, i6⟩, rfl⟩, O7.out, rfl⟩, rfl⟩, rfl⟩, rfl⟩, rfl⟩, rfl⟩, rfl⟩)
  (try simp only [List.nil_append, List.append_nil, List.cons_append] at HF)
  exact ⟨q0, ⟨x.Kind, x.A, x.B, x.C, x.Name, x.Text, x.Dir, y7⟩, rfl, by omega, by unfold DOp.wtV; omega, HF, HK0.out, HM.out⟩
set_option maxRecDepth 100000 in
set_option maxHeartbeats 2000000 in
theorem markStep_any (w : World) (cs : List Value) (x : DStep) (k : Int) (fp : List Nat) (h : Rep.own w cs x fp) (hn : fp.Nodup) (h0 : 1 ≤ k) (h1 : k + (x.wtV : Nat) ≤ 1099511627776) :
    Calls Tryd.prog 8 #[.agg cs.toArray, .int .i64 k] w (MarkOut DStep.HoldV cs fp k x.wtV w) := by
  unfold DStep.wtV at h1
  obtain ⟨c0, d0, f0, e0, rfl, o0, ⟨c1, d1, f1, e1, rfl, o1, ⟨c2, d2, f2, e2, rfl, o2, ⟨c3, d3, f3, e3, rfl, o3, ⟨c4, d4, f4, e4, rfl, o4, o5, rfl⟩, rfl⟩, rfl⟩, rfl⟩, rfl⟩ := h
  obtain ⟨⟨rfl, i0⟩, rfl⟩ := o0
  obtain ⟨⟨rfl, i1⟩, rfl⟩ := o1
  obtain ⟨⟨rfl, i2⟩, rfl⟩ := o2
  obtain ⟨⟨rfl, i3⟩, rfl⟩ := o3
  obtain ⟨v4, rfl, o4'⟩ := o4
  obtain ⟨va4, vn4, vc4, rfl⟩ := o4'.repS.shape
  have O4 := Lib.hid (show Rep.own w [_] x.Data f4 from ⟨_, rfl, o4'⟩)
  clear o4'
  obtain ⟨v5, rfl, o5'⟩ := o5
  obtain ⟨va5, vn5, vc5, rfl⟩ := o5'.repS.shape
  have O5 := Lib.hid (show Rep.own w [_] x.Cuts e4 from ⟨_, rfl, o5'⟩)
  clear o5'
  (try simp only [List.nil_append, List.append_nil] at hn)
  (try simp only [List.nil_append, List.cons_append, List.append_nil])
  have hn0 := hn
  have hn1 := (List.nodup_append.1 hn0).2.1
  have HU0 := Lib.hid (show f4.Nodup from (List.nodup_append.1 hn0).1)
  have HS0 := Lib.hid (show ∀ b ∈ f4, b ∈ (f4 ++ e4) from fun b hb => by simp [hb])
  have HX0 := Lib.hid (show w.heap.size ∉ f4 from fun e => Nat.lt_irrefl _ (Rep.ownLt O4.out _ e))
  have HD0_1 := Lib.hid (show ∀ b ∈ f4, b ∉ e4 from fun b hb hb2 => (List.nodup_append.1 hn0).2.2 b hb b (by simp [hb2]) rfl)
  have HD1_0 := Lib.hid (show ∀ b ∈ e4, b ∉ f4 from fun b hb hb2 => HD0_1.out b hb2 hb)
  have HU1 := Lib.hid (show e4.Nodup from hn1)
  have HS1 := Lib.hid (show ∀ b ∈ e4, b ∈ (f4 ++ e4) from fun b hb => by simp [hb])
  have HX1 := Lib.hid (show w.heap.size ∉ e4 from fun e => Nat.lt_irrefl _ (Rep.ownLt O5.out _ e))
  clear hn0 hn1 hn
  go_enter Tryd.func8, Tryd.ntmps8
  go_wp2_with fail
  refine (markByteS_any _ _ x.Data (k) f4 (own_slice (own_grow O4.out (bel_alloc (Below.refl w.heap.size w) _))) HU0.out (by omega) (by omega)).mono ?_
  rintro e W0 ⟨q0, y4, rfl, hk0, hl0, ho, hh, hm⟩
  replace O5 := Lib.hid (own_apart (own_grow O5.out (bel_alloc (Below.refl w.heap.size w) _)) hm HD1_0.out)
  have hcb0 : ∀ o, W0.cell? ⟨w.heap.size, o, none⟩ = _ := fun o => World.cell?_of_block (a := ⟨w.heap.size, o, none⟩) (hm.block w.heap.size (by simp) HX0.out)
  have HM := Lib.hid ((MarkedOn.of_below (bel_alloc (Below.refl w.heap.size w) _)).trans (hm.mono HS0.out))
  have HZ := Lib.hid (show w.heap.size < W0.heap.size from by have := hm.size; simp at this; omega)
  replace O4 := Lib.hid ho
  have HK0 := Lib.hid hh
  clear ho hh hm
  go_wp2_with fail
  refine (markIntS_any _ _ x.Cuts (q0) e4 (own_slice O5.out) HU1.out (by omega) (by omega)).mono ?_
  rintro e W1 ⟨q1, y5, rfl, hk1, hl1, ho, hh, hm⟩
  replace O4 := Lib.hid (own_apart O4.out hm HD0_1.out)
  have hcb1 : ∀ o, W1.cell? ⟨w.heap.size, o, none⟩ = _ := fun o => World.cell?_of_block (a := ⟨w.heap.size, o, none⟩) (hm.block w.heap.size HZ.out HX1.out)
  replace HM := Lib.hid (HM.out.trans (hm.mono HS1.out))
  replace HZ := Lib.hid (Nat.lt_of_lt_of_le HZ.out hm.size)
  replace O5 := Lib.hid ho
  have HK1 := Lib.hid hh
  clear ho hh hm
  go_wp2_with fail
  go_ret
  have HF := (show Rep.own W1 _ (⟨x.Kind, x.A, x.B, x.Text, y4, y5⟩ : DStep) _ from ⟨[_], _, [], _, rfl, ⟨⟨rfl, i0⟩, rfl⟩, ⟨[_], _, [], _, rfl, ⟨⟨rfl, i1⟩, rfl⟩, ⟨[_], _, [], _, rfl, ⟨⟨rfl, i2⟩, rfl⟩, ⟨[_], _, [], _, rfl, ⟨⟨rfl, i3⟩, rfl⟩, ⟨[_], _, f4, _, rfl, O4.out, O5.out, rfl⟩, rfl⟩, rfl⟩, rfl⟩, rfl⟩)
  (try simp only [List.nil_append, List.append_nil, List.cons_append] at HF)
  exact ⟨q1, ⟨x.Kind, x.A, x.B, x.Text, y4, y5⟩, rfl, by omega, by unfold DStep.wtV; omega, HF, ⟨q0, HK0.out, HK1.out⟩, HM.out⟩
end Go.Proofs.YtjglknaojfnllaaDoor
