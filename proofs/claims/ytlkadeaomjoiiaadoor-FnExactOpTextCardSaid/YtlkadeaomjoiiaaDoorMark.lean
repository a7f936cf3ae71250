/- The walks of the laws' marking functions over slices. -/
import Derived.Test.YtlkadeaomjoiiaaDoorMark0
set_option linter.unusedSimpArgs false
set_option linter.unusedVariables false
namespace Go.Mux
open Go.RowKit
def ByteHold (x : UInt8) (k k' : Int) : Prop := (x.toNat : Int) = (k) % 256 ∧ k' = k + 1
theorem ByteHold_le (x : UInt8) (k k' : Int) (h : ByteHold x k k') : k ≤ k' := by
  obtain ⟨h0, e⟩ := h
  omega
def IntHold (x : Int) (k k' : Int) : Prop := x = k ∧ k' = k + 1
theorem IntHold_le (x : Int) (k k' : Int) (h : IntHold x k k') : k ≤ k' := by
  obtain ⟨h0, e⟩ := h
  omega
def StrHold (x : ByteArray) (k k' : Int) : Prop := x = markT (k) ∧ k' = k + 1
theorem StrHold_le (x : ByteArray) (k k' : Int) (h : StrHold x k k') : k ≤ k' := by
  obtain ⟨h0, e⟩ := h
  omega
theorem own_grow {α : Type} [Rep α] {w w' : World} {cs : List Value} {x : α} {f : List Nat} (h : Rep.own w cs x f) (hb : Below w.heap.size w w') : Rep.own w' cs x f := Rep.ownMono h fun b hbf => hb.block b (Rep.ownLt h b hbf)
theorem own_apart {α : Type} [Rep α] {w w' : World} {cs : List Value} {x : α} {f fq : List Nat} (h : Rep.own w cs x f) (hm : MarkedOn fq w w') (hd : ∀ b ∈ f, b ∉ fq) : Rep.own w' cs x f := Rep.ownMono h fun b hbf => hm.block b (Rep.ownLt h b hbf) (hd b hbf)
theorem own_slice {α : Type} [Rep α] {w : World} {v : Value} {l : List α} {f : List Nat} (h : Rep.own w [v] l f) : OwnS w v l f := by
  obtain ⟨v', e, h⟩ := h
  cases e
  exact h
theorem sum_one {α : Type} (l : List α) : (l.map (fun _ => 1)).sum = l.length := by
  induction l with
  | nil => rfl
  | cons x l ih => simp only [List.map_cons, List.sum_cons, ih, List.length_cons]; omega
theorem byte_mark {k : Int} (h : 0 ≤ k) : ((UInt8.ofNat (k % 256).toNat).toNat : Int) = k % 256 := by
  rw [UInt8.toNat_ofNat']
  omega
def DAttr.Hold (x : DAttr) (k k' : Int) : Prop := x.Fg = k ∧ x.Bg = k + 1 ∧ x.Bold = ((k + 1 + 1) % 3 == 0) ∧ x.Under = ((k + 1 + 1 + 1) % 3 == 0) ∧ x.Turn = ((k + 1 + 1 + 1 + 1) % 3 == 0) ∧ k' = k + 1 + 1 + 1 + 1 + 1
def DAttr.wt (x : DAttr) : Nat := 5
theorem DAttr.Hold_le (x : DAttr) (k k' : Int) (h : DAttr.Hold x k k') : k ≤ k' := by
  obtain ⟨h0, h1, h2, h3, h4, e⟩ := h
  omega
def DCell.Hold (x : DCell) (k k' : Int) : Prop := x.R = k ∧ x.A.Fg = k + 1 ∧ x.A.Bg = k + 1 + 1 ∧ x.A.Bold = ((k + 1 + 1 + 1) % 3 == 0) ∧ x.A.Under = ((k + 1 + 1 + 1 + 1) % 3 == 0) ∧ x.A.Turn = ((k + 1 + 1 + 1 + 1 + 1) % 3 == 0) ∧ k' = k + 1 + 1 + 1 + 1 + 1 + 1
def DCell.wt (x : DCell) : Nat := 6
theorem DCell.Hold_le (x : DCell) (k k' : Int) (h : DCell.Hold x k k') : k ≤ k' := by
  obtain ⟨h0, h1, h2, h3, h4, h5, e⟩ := h
  omega
def DGrid.Hold (x : DGrid) (k k' : Int) : Prop := ∃ q0 : Int, x.W = k ∧ x.H = k + 1 ∧ HoldL DCell.Hold x.Cells (k + 1 + 1) q0 ∧ k' = q0
def DGrid.wt (x : DGrid) : Nat := 2 + (x.Cells.map DCell.wt).sum
theorem DGrid.Hold_le (x : DGrid) (k k' : Int) (h : DGrid.Hold x k k') : k ≤ k' := by
  obtain ⟨q0, h0, h1, h2, e⟩ := h
  have l0 := HoldL.le DCell.Hold_le h2
  omega
def DOp.Hold (x : DOp) (k k' : Int) : Prop := ∃ q0 : Int, x.Kind = k ∧ x.A = k + 1 ∧ x.B = k + 1 + 1 ∧ x.C = k + 1 + 1 + 1 ∧ x.Name = markT (k + 1 + 1 + 1 + 1) ∧ x.Text = markT (k + 1 + 1 + 1 + 1 + 1) ∧ x.Dir = markT (k + 1 + 1 + 1 + 1 + 1 + 1) ∧ HoldL ByteHold x.Data (k + 1 + 1 + 1 + 1 + 1 + 1 + 1) q0 ∧ k' = q0
def DOp.wt (x : DOp) : Nat := 7 + x.Data.length
theorem DOp.Hold_le (x : DOp) (k k' : Int) (h : DOp.Hold x k k') : k ≤ k' := by
  obtain ⟨q0, h0, h1, h2, h3, h4, h5, h6, h7, e⟩ := h
  have l0 := HoldL.le ByteHold_le h7
  omega
def DView.Hold (x : DView) (k k' : Int) : Prop := ∃ q0 : Int, x.Grid.W = k ∧ x.Grid.H = k + 1 ∧ HoldL DCell.Hold x.Grid.Cells (k + 1 + 1) q0 ∧ x.X = q0 ∧ x.Y = q0 + 1 ∧ x.Hide = ((q0 + 1 + 1) % 3 == 0) ∧ k' = q0 + 1 + 1 + 1
def DView.wt (x : DView) : Nat := 5 + (x.Grid.Cells.map DCell.wt).sum
theorem DView.Hold_le (x : DView) (k k' : Int) (h : DView.Hold x k k') : k ≤ k' := by
  obtain ⟨q0, h0, h1, h2, h3, h4, h5, e⟩ := h
  have l0 := HoldL.le DCell.Hold_le h2
  omega
def DStep.Hold (x : DStep) (k k' : Int) : Prop := ∃ q0 q1 : Int, x.Kind = k ∧ x.A = k + 1 ∧ x.B = k + 1 + 1 ∧ x.Text = markT (k + 1 + 1 + 1) ∧ HoldL ByteHold x.Data (k + 1 + 1 + 1 + 1) q0 ∧ HoldL IntHold x.Cuts (q0) q1 ∧ k' = q1
def DStep.wt (x : DStep) : Nat := 4 + x.Data.length + x.Cuts.length
theorem DStep.Hold_le (x : DStep) (k k' : Int) (h : DStep.Hold x k k') : k ≤ k' := by
  obtain ⟨q0, q1, h0, h1, h2, h3, h4, h5, e⟩ := h
  have l0 := HoldL.le ByteHold_le h4
  have l1 := HoldL.le IntHold_le h5
  omega
def DGrid.HoldV (x : DGrid) (k k' : Int) : Prop := HoldL DCell.Hold x.Cells k k'
def DGrid.wtV (x : DGrid) : Nat := (x.Cells.map DCell.wt).sum
theorem DGrid.HoldV_le (x : DGrid) (k k' : Int) (h : DGrid.HoldV x k k') : k ≤ k' := by
  have h0 := h
  have l0 := HoldL.le DCell.Hold_le h0
  omega
def DOp.HoldV (x : DOp) (k k' : Int) : Prop := HoldL ByteHold x.Data k k'
def DOp.wtV (x : DOp) : Nat := x.Data.length
theorem DOp.HoldV_le (x : DOp) (k k' : Int) (h : DOp.HoldV x k k') : k ≤ k' := by
  have h0 := h
  have l0 := HoldL.le ByteHold_le h0
  omega
def DView.HoldV (x : DView) (k k' : Int) : Prop := DGrid.HoldV x.Grid k k'
def DView.wtV (x : DView) : Nat := x.Grid.wtV
theorem DView.HoldV_le (x : DView) (k k' : Int) (h : DView.HoldV x k k') : k ≤ k' := by
  have h0 := h
  have l0 := DGrid.HoldV_le _ _ _ h0
  omega
def DStep.HoldV (x : DStep) (k k' : Int) : Prop := ∃ q0 : Int, HoldL ByteHold x.Data k q0 ∧ HoldL IntHold x.Cuts q0 k'
def DStep.wtV (x : DStep) : Nat := x.Data.length + x.Cuts.length
theorem DStep.HoldV_le (x : DStep) (k k' : Int) (h : DStep.HoldV x k k') : k ≤ k' := by
  obtain ⟨q0, h0, h1⟩ := h
  have l0 := HoldL.le ByteHold_le h0
  have l1 := HoldL.le IntHold_le h1
  omega
end Go.Mux
namespace Go.Proofs.YtlkadeaomjoiiaaDoor
open Go.RowKit Go.Mux
set_option maxRecDepth 100000 in
set_option maxHeartbeats 4000000 in
theorem markByteS_any (w : World) (v : Value) (l : List UInt8) (k : Int) (fp : List Nat) (h : OwnS w v l fp) (hn : fp.Nodup) (h0 : 1 ≤ k) (h1 : k + (l.length : Nat) ≤ 1099511627776) :
    Calls Tryd.prog 14 #[v, .int .i64 k] w (MarkOut (HoldL ByteHold) [v] fp k (l.length) w) := by
  obtain ⟨a, cap, rfl, hl, -⟩ := h.repS
  have HN := Lib.hid hn
  have HO := Lib.hid h
  have HW := Lib.hid h1
  clear hn h h1
  go_enter Tryd.func14, Tryd.ntmps14
  go_wp2
  go_loopw [1, 5] (fun kv i wr => ∃ (j : Nat) (q : Int) (M : List UInt8), j ≤ l.length ∧ i = .int .i64 j ∧ kv = .int .i64 q ∧ Hid (MarkInv ByteHold (fun _ => 1) w (.slice a l.length cap) l k fp wr j q M)) (fun _ i _ => l.length - (intOf i).toNat)
  case atStart => exact ⟨0, k, l, Nat.zero_le _, rfl, rfl, MarkInv.start HO.out⟩
  case round =>
    obtain ⟨j, q, M, hj, rfl, rfl, HI⟩ := hrel
    by_cases hlt : j < l.length
    · obtain ⟨x, hx⟩ : ∃ x, l[j]? = some x := ⟨l[j], by simp [hlt]⟩
      have hb := MarkInv.bound HI.out hx h0 (B := 1099511627776) (by rw [sum_one]; exact HW.out)
      skip
      obtain ⟨hb1, hb2⟩ := hb
      have HX := Lib.hid hx
      have hxL := MarkInv.at_ HI.out hx
      clear hx
      obtain ⟨g, A, f, r, rfl, hg, ho, hfn, hfs, hgf, hgn, hA, hcl, hclose⟩ := HI.out.1.openAt HN.out hxL
      clear hxL
      obtain ⟨rfl, rfl⟩ := ho
      have HCL := Lib.hid hclose
      clear hclose
      have HGF := Lib.hid hgf
      have HFS := Lib.hid (show ∀ b ∈ g :: [], b ∈ fp from fun b hb => by
        rcases List.mem_cons.1 hb with h | h
        · rw [h]; exact hgf
        · exact hfs b h)
      have HR0 := Lib.hid (show Rowing wr g A 5 (j) 1 [] from Rowing.start hg (by rw [show j * Rep.size UInt8 = j from Nat.mul_one j] at hA; exact hA))
      have HM0 := Lib.hid (MarkedOn.refl (g :: []) wr)
      clear hg hA hcl hgn hgf hfs hfn
      go_wp2_with (first | ((with_reducible (show wpList _ _ _ (Oper.mk _ (Op.store 5 _ _) _ _ _ _ :: _) _ _)); have _t := HR0; refine wpList_store_in rfl 5 _ _ rfl g (j) rfl (.int .u8 ((q) % 256)) rfl [.int .u8 ((q) % 256)] rfl _ _ HR0.out.1 (HR0.out.fit (by simp) rfl) (by simp [Value.oneCell']) size_byte' ?_; intro W1 hW; have HR1 := Lib.hid (HR0.out.store (by simp) rfl hW); have HM1 := Lib.hid (HM0.out.trans (MarkedOn.row (by simp) hW)); clear hW HR0 HM0))
      go_roundw
      case rel => exact ⟨j + 1, q + 1, M.set j (UInt8.ofNat ((q) % 256).toNat), by omega, by go_num, rfl, MarkInv.next HI.out HX.out (HCL.out W1 (UInt8.ofNat ((q) % 256).toNat) [.int .u8 ((q) % 256)] ⟨by show [Value.int .u8 ((q) % 256)] = [Value.int .u8 _]; rw [byte_mark (by omega)], rfl⟩ (by rw [show j * Rep.size UInt8 = j from Nat.mul_one j]; exact HR1.out.1) (fun b hb h1 h2 => HM1.out.block b (HI.out.1.lt b hb) (by simp only [List.mem_cons, not_or]; exact ⟨h1, h2⟩))) (show ByteHold _ q _ from ⟨(byte_mark (by omega)), rfl⟩) (HM1.out.mono HFS.out) (by omega) (by show _ ≤ _; omega)⟩
      case measure => simp [intOf]; omega
    · obtain rfl : j = l.length := by omega
      go_wp2
      go_ret
      exact by have hf := MarkInv.finish HI.out; rwa [sum_one] at hf
set_option maxRecDepth 100000 in
set_option maxHeartbeats 4000000 in
theorem markCellS_any (w : World) (v : Value) (l : List DCell) (k : Int) (fp : List Nat) (h : OwnS w v l fp) (hn : fp.Nodup) (h0 : 1 ≤ k) (h1 : k + ((l.map DCell.wt).sum : Nat) ≤ 1099511627776) :
    Calls Tryd.prog 74 #[v, .int .i64 k] w (MarkOut (HoldL DCell.Hold) [v] fp k ((l.map DCell.wt).sum) w) := by
  obtain ⟨a, cap, rfl, hl, -⟩ := h.repS
  have HN := Lib.hid hn
  have HO := Lib.hid h
  have HW := Lib.hid h1
  clear hn h h1
  go_enter Tryd.func74, Tryd.ntmps74
  go_wp2
  go_loopw [1, 5] (fun kv i wr => ∃ (j : Nat) (q : Int) (M : List DCell), j ≤ l.length ∧ i = .int .i64 j ∧ kv = .int .i64 q ∧ Hid (MarkInv DCell.Hold DCell.wt w (.slice a l.length cap) l k fp wr j q M)) (fun _ i _ => l.length - (intOf i).toNat)
  case atStart => exact ⟨0, k, l, Nat.zero_le _, rfl, rfl, MarkInv.start HO.out⟩
  case round =>
    obtain ⟨j, q, M, hj, rfl, rfl, HI⟩ := hrel
    by_cases hlt : j < l.length
    · obtain ⟨x, hx⟩ : ∃ x, l[j]? = some x := ⟨l[j], by simp [hlt]⟩
      have hb := MarkInv.bound HI.out hx h0 (B := 1099511627776) HW.out
      unfold DCell.wt at hb
      obtain ⟨hb1, hb2⟩ := hb
      have HX := Lib.hid hx
      have hxL := MarkInv.at_ HI.out hx
      clear hx
      obtain ⟨g, A, f, r, rfl, hg, ho, hfn, hfs, hgf, hgn, hA, hcl, hclose⟩ := HI.out.1.openAt HN.out hxL
      clear hxL
      obtain ⟨rfl, hi0, hi1, hi2, rfl⟩ := DCell.own_iff.1 ho
      clear ho
      have HCL := Lib.hid hclose
      clear hclose
      have HGF := Lib.hid hgf
      have HFS := Lib.hid (show ∀ b ∈ g :: [], b ∈ fp from fun b hb => by
        rcases List.mem_cons.1 hb with h | h
        · rw [h]; exact hgf
        · exact hfs b h)
      have HR0 := Lib.hid (show Rowing wr g A 66 (j * 6) 6 [] from Rowing.start hg hA)
      have HM0 := Lib.hid (MarkedOn.refl (g :: []) wr)
      clear hg hA hcl hgn hgf hfs hfn
      go_wp2_with (first | ((with_reducible (show wpList _ _ _ (Oper.mk _ (Op.store 3 _ _) _ _ _ _ :: _) _ _)); have _t := HR0; refine wpList_store_in rfl 3 _ _ rfl g (j * 6) rfl (.int .i64 (q)) rfl [.int .i64 (q)] rfl _ _ HR0.out.1 (HR0.out.fit (by simp) rfl) (by simp [Value.oneCell']) size_int' ?_; intro W1 hW; have HR1 := Lib.hid (HR0.out.store (by simp) rfl hW); have HM1 := Lib.hid (HM0.out.trans (MarkedOn.row (by simp) hW)); clear hW HR0 HM0) | ((with_reducible (show wpList _ _ _ (Oper.mk _ (Op.store 3 _ _) _ _ _ _ :: _) _ _)); have _t := HR1; refine wpList_store_in rfl 3 _ _ rfl g (j * 6 + 1) rfl (.int .i64 (q + 1)) rfl [.int .i64 (q + 1)] rfl _ _ HR1.out.1 (HR1.out.fit (by simp) rfl) (by simp [Value.oneCell']) size_int' ?_; intro W2 hW; have HR2 := Lib.hid (HR1.out.store (by simp) rfl hW); have HM2 := Lib.hid (HM1.out.trans (MarkedOn.row (by simp) hW)); clear hW HR1 HM1) | ((with_reducible (show wpList _ _ _ (Oper.mk _ (Op.store 3 _ _) _ _ _ _ :: _) _ _)); have _t := HR2; refine wpList_store_in rfl 3 _ _ rfl g (j * 6 + 2) rfl (.int .i64 (q + 1 + 1)) rfl [.int .i64 (q + 1 + 1)] rfl _ _ HR2.out.1 (HR2.out.fit (by simp) rfl) (by simp [Value.oneCell']) size_int' ?_; intro W3 hW; have HR3 := Lib.hid (HR2.out.store (by simp) rfl hW); have HM3 := Lib.hid (HM2.out.trans (MarkedOn.row (by simp) hW)); clear hW HR2 HM2) | ((with_reducible (show wpList _ _ _ (Oper.mk _ (Op.store 4 _ _) _ _ _ _ :: _) _ _)); have _t := HR3; refine wpList_store_in rfl 4 _ _ rfl g (j * 6 + 3) rfl (.bool ((q + 1 + 1 + 1) % 3 == 0)) rfl [.bool ((q + 1 + 1 + 1) % 3 == 0)] rfl _ _ HR3.out.1 (HR3.out.fit (by simp) rfl) (by simp [Value.oneCell']) size_bool' ?_; intro W4 hW; have HR4 := Lib.hid (HR3.out.store (by simp) rfl hW); have HM4 := Lib.hid (HM3.out.trans (MarkedOn.row (by simp) hW)); clear hW HR3 HM3) | ((with_reducible (show wpList _ _ _ (Oper.mk _ (Op.store 4 _ _) _ _ _ _ :: _) _ _)); have _t := HR4; refine wpList_store_in rfl 4 _ _ rfl g (j * 6 + 4) rfl (.bool ((q + 1 + 1 + 1 + 1) % 3 == 0)) rfl [.bool ((q + 1 + 1 + 1 + 1) % 3 == 0)] rfl _ _ HR4.out.1 (HR4.out.fit (by simp) rfl) (by simp [Value.oneCell']) size_bool' ?_; intro W5 hW; have HR5 := Lib.hid (HR4.out.store (by simp) rfl hW); have HM5 := Lib.hid (HM4.out.trans (MarkedOn.row (by simp) hW)); clear hW HR4 HM4) | ((with_reducible (show wpList _ _ _ (Oper.mk _ (Op.store 4 _ _) _ _ _ _ :: _) _ _)); have _t := HR5; refine wpList_store_in rfl 4 _ _ rfl g (j * 6 + 5) rfl (.bool ((q + 1 + 1 + 1 + 1 + 1) % 3 == 0)) rfl [.bool ((q + 1 + 1 + 1 + 1 + 1) % 3 == 0)] rfl _ _ HR5.out.1 (HR5.out.fit (by simp) rfl) (by simp [Value.oneCell']) size_bool' ?_; intro W6 hW; have HR6 := Lib.hid (HR5.out.store (by simp) rfl hW); have HM6 := Lib.hid (HM5.out.trans (MarkedOn.row (by simp) hW)); clear hW HR5 HM5))
      go_roundw
      case rel => exact ⟨j + 1, q + 1 + 1 + 1 + 1 + 1 + 1, M.set j ⟨(q), ⟨(q + 1), (q + 1 + 1), ((q + 1 + 1 + 1) % 3 == 0), ((q + 1 + 1 + 1 + 1) % 3 == 0), ((q + 1 + 1 + 1 + 1 + 1) % 3 == 0)⟩⟩, by omega, by go_num, rfl, MarkInv.next HI.out HX.out (HCL.out W6 ⟨(q), ⟨(q + 1), (q + 1 + 1), ((q + 1 + 1 + 1) % 3 == 0), ((q + 1 + 1 + 1 + 1) % 3 == 0), ((q + 1 + 1 + 1 + 1 + 1) % 3 == 0)⟩⟩ _ (DCell.own_iff.2 ⟨rfl, (show I64 (q) from ⟨by omega, by omega⟩), (show I64 (q + 1) from ⟨by omega, by omega⟩), (show I64 (q + 1 + 1) from ⟨by omega, by omega⟩), rfl⟩) HR6.out.1 (fun b hb h1 h2 => HM6.out.block b (HI.out.1.lt b hb) (by simp only [List.mem_cons, not_or]; exact ⟨h1, h2⟩))) (show DCell.Hold _ q _ from ⟨rfl, rfl, rfl, rfl, rfl, rfl, rfl⟩) (HM6.out.mono HFS.out) (by omega) (by unfold DCell.wt; omega)⟩
      case measure => simp [intOf]; omega
    · obtain rfl : j = l.length := by omega
      go_wp2
      go_ret
      exact MarkInv.finish HI.out
set_option maxRecDepth 100000 in
set_option maxHeartbeats 2000000 in
theorem markGrid_any (w : World) (cs : List Value) (x : DGrid) (k : Int) (fp : List Nat) (h : Rep.own w cs x fp) (hn : fp.Nodup) (h0 : 1 ≤ k) (h1 : k + (x.wtV : Nat) ≤ 1099511627776) :
    Calls Tryd.prog 40 #[.agg cs.toArray, .int .i64 k] w (MarkOut DGrid.HoldV cs fp k x.wtV w) := by
  unfold DGrid.wtV at h1
  obtain ⟨c0, d0, f0, e0, rfl, o0, ⟨c1, d1, f1, e1, rfl, o1, o2, rfl⟩, rfl⟩ := h
  obtain ⟨⟨rfl, i0⟩, rfl⟩ := o0
  obtain ⟨⟨rfl, i1⟩, rfl⟩ := o1
  obtain ⟨v2, rfl, o2'⟩ := o2
  obtain ⟨va2, vn2, vc2, rfl⟩ := o2'.repS.shape
  have O2 := Lib.hid (show Rep.own w [_] x.Cells e1 from ⟨_, rfl, o2'⟩)
  clear o2'
  (try simp only [List.nil_append, List.append_nil] at hn)
  (try simp only [List.nil_append, List.cons_append, List.append_nil])
  have hn0 := hn
  have HU0 := Lib.hid (show e1.Nodup from hn0)
  have HS0 := Lib.hid (show ∀ b ∈ e1, b ∈ e1 from fun b hb => by simp [hb])
  have HX0 := Lib.hid (show w.heap.size ∉ e1 from fun e => Nat.lt_irrefl _ (Rep.ownLt O2.out _ e))
  clear hn0 hn
  go_enter Tryd.func40, Tryd.ntmps40
  go_wp2_with fail
  refine (markCellS_any _ _ x.Cells (k) e1 (own_slice (own_grow O2.out (bel_alloc (Below.refl w.heap.size w) _))) HU0.out (by omega) (by omega)).mono ?_
  rintro e W0 ⟨q0, y2, rfl, hk0, hl0, ho, hh, hm⟩
  have hcb0 : ∀ o, W0.cell? ⟨w.heap.size, o, none⟩ = _ := fun o => World.cell?_of_block (a := ⟨w.heap.size, o, none⟩) (hm.block w.heap.size (by simp) HX0.out)
  have HM := Lib.hid ((MarkedOn.of_below (bel_alloc (Below.refl w.heap.size w) _)).trans (hm.mono HS0.out))
  have HZ := Lib.hid (show w.heap.size < W0.heap.size from by have := hm.size; simp at this; omega)
  replace O2 := Lib.hid ho
  have HK0 := Lib.hid hh
  clear ho hh hm
  go_wp2_with fail
  go_ret
  have HF := (show Rep.own W0 _ (⟨x.W, x.H, y2⟩ : DGrid) _ from ⟨[_], _, [], _, rfl, ⟨⟨rfl, i0⟩, rfl⟩, ⟨[_], _, [], _, rfl, ⟨⟨rfl, i1⟩, rfl⟩, O2.out, rfl⟩, rfl⟩)
  (try simp only [List.nil_append, List.append_nil, List.cons_append] at HF)
  exact ⟨q0, ⟨x.W, x.H, y2⟩, rfl, by omega, by unfold DGrid.wtV; omega, HF, HK0.out, HM.out⟩
set_option maxRecDepth 100000 in
set_option maxHeartbeats 2000000 in
theorem markView_any (w : World) (cs : List Value) (x : DView) (k : Int) (fp : List Nat) (h : Rep.own w cs x fp) (hn : fp.Nodup) (h0 : 1 ≤ k) (h1 : k + (x.wtV : Nat) ≤ 1099511627776) :
    Calls Tryd.prog 13 #[.agg cs.toArray, .int .i64 k] w (MarkOut DView.HoldV cs fp k x.wtV w) := by
  unfold DView.wtV at h1
  obtain ⟨c0, d0, f0, e0, rfl, o0, ⟨c1, d1, f1, e1, rfl, o1, ⟨c2, d2, f2, e2, rfl, o2, o3, rfl⟩, rfl⟩, rfl⟩ := h
  obtain ⟨s0a0, s0n0, s0c0, rfl⟩ := DGrid.shape (Rep.ownRep o0)
  have O0 := Lib.hid o0
  clear o0
  obtain ⟨⟨rfl, i1⟩, rfl⟩ := o1
  obtain ⟨⟨rfl, i2⟩, rfl⟩ := o2
  obtain ⟨rfl, rfl⟩ := o3
  (try simp only [List.nil_append, List.append_nil] at hn)
  (try simp only [List.nil_append, List.cons_append, List.append_nil])
  have hn0 := hn
  have HU0 := Lib.hid (show f0.Nodup from hn0)
  have HS0 := Lib.hid (show ∀ b ∈ f0, b ∈ f0 from fun b hb => by simp [hb])
  have HX0 := Lib.hid (show w.heap.size ∉ f0 from fun e => Nat.lt_irrefl _ (Rep.ownLt O0.out _ e))
  clear hn0 hn
  go_enter Tryd.func13, Tryd.ntmps13
  go_wp2_with fail
  refine (markGrid_any _ [_, _, _] x.Grid (k) f0 (own_grow O0.out (bel_alloc (Below.refl w.heap.size w) _)) HU0.out (by omega) (by omega)).mono ?_
  rintro e W0 ⟨q0, y0, rfl, hk0, hl0, ho, hh, hm⟩
  have hcb0 : ∀ o, W0.cell? ⟨w.heap.size, o, none⟩ = _ := fun o => World.cell?_of_block (a := ⟨w.heap.size, o, none⟩) (hm.block w.heap.size (by simp) HX0.out)
  have HM := Lib.hid ((MarkedOn.of_below (bel_alloc (Below.refl w.heap.size w) _)).trans (hm.mono HS0.out))
  have HZ := Lib.hid (show w.heap.size < W0.heap.size from by have := hm.size; simp at this; omega)
  replace O0 := Lib.hid ho
  have HK0 := Lib.hid hh
  clear ho hh hm
  go_wp2_with fail
  go_ret
  have HF := (show Rep.own W0 _ (⟨y0, x.X, x.Y, x.Hide⟩ : DView) _ from ⟨[_, _, _], _, f0, _, rfl, O0.out, ⟨[_], _, [], _, rfl, ⟨⟨rfl, i1⟩, rfl⟩, ⟨[_], _, [], _, rfl, ⟨⟨rfl, i2⟩, rfl⟩, ⟨rfl, rfl⟩, rfl⟩, rfl⟩, rfl⟩)
  (try simp only [List.nil_append, List.append_nil, List.cons_append] at HF)
  exact ⟨q0, ⟨y0, x.X, x.Y, x.Hide⟩, rfl, by omega, by unfold DView.wtV; omega, HF, HK0.out, HM.out⟩
end Go.Proofs.YtlkadeaomjoiiaaDoor
