/- The walks of the laws' marking functions over slices. -/
import Derived.Test.YtaobgfneeijpmaaMark0
set_option linter.unusedSimpArgs false
set_option linter.unusedVariables false
namespace Go.Mux
open Go.RowKit
def ByteHold (x : UInt8) (k k' : Int) : Prop := (x.toNat : Int) = (k) % 256 ∧ k' = k + 1
theorem ByteHold_le (x : UInt8) (k k' : Int) (h : ByteHold x k k') : k ≤ k' := by
  obtain ⟨h0, e⟩ := h
  omega
def IntHold (x : Int) (k k' : Int) : Prop := x = k ∧ k' = k + 1
theorem IntHold_le (x : Int) (k k' : Int) (h : IntHold x k k') : k ≤ k' := by
  obtain ⟨h0, e⟩ := h
  omega
def StrHold (x : ByteArray) (k k' : Int) : Prop := x = markT (k) ∧ k' = k + 1
theorem StrHold_le (x : ByteArray) (k k' : Int) (h : StrHold x k k') : k ≤ k' := by
  obtain ⟨h0, e⟩ := h
  omega
theorem own_grow {α : Type} [Rep α] {w w' : World} {cs : List Value} {x : α} {f : List Nat} (h : Rep.own w cs x f) (hb : Below w.heap.size w w') : Rep.own w' cs x f := Rep.ownMono h fun b hbf => hb.block b (Rep.ownLt h b hbf)
theorem own_apart {α : Type} [Rep α] {w w' : World} {cs : List Value} {x : α} {f fq : List Nat} (h : Rep.own w cs x f) (hm : MarkedOn fq w w') (hd : ∀ b ∈ f, b ∉ fq) : Rep.own w' cs x f := Rep.ownMono h fun b hbf => hm.block b (Rep.ownLt h b hbf) (hd b hbf)
theorem own_slice {α : Type} [Rep α] {w : World} {v : Value} {l : List α} {f : List Nat} (h : Rep.own w [v] l f) : OwnS w v l f := by
  obtain ⟨v', e, h⟩ := h
  cases e
  exact h
theorem sum_one {α : Type} (l : List α) : (l.map (fun _ => 1)).sum = l.length := by
  induction l with
  | nil => rfl
  | cons x l ih => simp only [List.map_cons, List.sum_cons, ih, List.length_cons]; omega
theorem byte_mark {k : Int} (h : 0 ≤ k) : ((UInt8.ofNat (k % 256).toNat).toNat : Int) = k % 256 := by
  rw [UInt8.toNat_ofNat']
  omega
def DAttr.Hold (x : DAttr) (k k' : Int) : Prop := x.Fg = k ∧ x.Bg = k + 1 ∧ x.Bold = ((k + 1 + 1) % 3 == 0) ∧ x.Under = ((k + 1 + 1 + 1) % 3 == 0) ∧ x.Turn = ((k + 1 + 1 + 1 + 1) % 3 == 0) ∧ k' = k + 1 + 1 + 1 + 1 + 1
def DAttr.wt (x : DAttr) : Nat := 5
theorem DAttr.Hold_le (x : DAttr) (k k' : Int) (h : DAttr.Hold x k k') : k ≤ k' := by
  obtain ⟨h0, h1, h2, h3, h4, e⟩ := h
  omega
def DCell.Hold (x : DCell) (k k' : Int) : Prop := x.R = k ∧ x.A.Fg = k + 1 ∧ x.A.Bg = k + 1 + 1 ∧ x.A.Bold = ((k + 1 + 1 + 1) % 3 == 0) ∧ x.A.Under = ((k + 1 + 1 + 1 + 1) % 3 == 0) ∧ x.A.Turn = ((k + 1 + 1 + 1 + 1 + 1) % 3 == 0) ∧ k' = k + 1 + 1 + 1 + 1 + 1 + 1
def DCell.wt (x : DCell) : Nat := 6
theorem DCell.Hold_le (x : DCell) (k k' : Int) (h : DCell.Hold x k k') : k ≤ k' := by
  obtain ⟨h0, h1, h2, h3, h4, h5, e⟩ := h
  omega
def DGrid.Hold (x : DGrid) (k k' : Int) : Prop := ∃ q0 : Int, x.W = k ∧ x.H = k + 1 ∧ HoldL DCell.Hold x.Cells (k + 1 + 1) q0 ∧ k' = q0
def DGrid.wt (x : DGrid) : Nat := 2 + (x.Cells.map DCell.wt).sum
theorem DGrid.Hold_le (x : DGrid) (k k' : Int) (h : DGrid.Hold x k k') : k ≤ k' := by
  obtain ⟨q0, h0, h1, h2, e⟩ := h
  have l0 := HoldL.le DCell.Hold_le h2
  omega
def DRow.Hold (x : DRow) (k k' : Int) : Prop := ∃ q0 : Int, HoldL DCell.Hold x.Cells (k) q0 ∧ k' = q0
def DRow.wt (x : DRow) : Nat := 0 + (x.Cells.map DCell.wt).sum
theorem DRow.Hold_le (x : DRow) (k k' : Int) (h : DRow.Hold x k k') : k ≤ k' := by
  obtain ⟨q0, h0, e⟩ := h
  have l0 := HoldL.le DCell.Hold_le h0
  omega
def DScr.Hold (x : DScr) (k k' : Int) : Prop := ∃ q0 q1 q2 q3 : Int, x.W = k ∧ x.H = k + 1 ∧ x.Main.W = k + 1 + 1 ∧ x.Main.H = k + 1 + 1 + 1 ∧ HoldL DCell.Hold x.Main.Cells (k + 1 + 1 + 1 + 1) q0 ∧ x.Alt.W = q0 ∧ x.Alt.H = q0 + 1 ∧ HoldL DCell.Hold x.Alt.Cells (q0 + 1 + 1) q1 ∧ x.OnAlt = ((q1) % 3 == 0) ∧ x.X = q1 + 1 ∧ x.Y = q1 + 1 + 1 ∧ x.Wrap = ((q1 + 1 + 1 + 1) % 3 == 0) ∧ x.A.Fg = q1 + 1 + 1 + 1 + 1 ∧ x.A.Bg = q1 + 1 + 1 + 1 + 1 + 1 ∧ x.A.Bold = ((q1 + 1 + 1 + 1 + 1 + 1 + 1) % 3 == 0) ∧ x.A.Under = ((q1 + 1 + 1 + 1 + 1 + 1 + 1 + 1) % 3 == 0) ∧ x.A.Turn = ((q1 + 1 + 1 + 1 + 1 + 1 + 1 + 1 + 1) % 3 == 0) ∧ x.Top = q1 + 1 + 1 + 1 + 1 + 1 + 1 + 1 + 1 + 1 ∧ x.Bot = q1 + 1 + 1 + 1 + 1 + 1 + 1 + 1 + 1 + 1 + 1 ∧ x.NoWrap = ((q1 + 1 + 1 + 1 + 1 + 1 + 1 + 1 + 1 + 1 + 1 + 1) % 3 == 0) ∧ x.Hide = ((q1 + 1 + 1 + 1 + 1 + 1 + 1 + 1 + 1 + 1 + 1 + 1 + 1) % 3 == 0) ∧ x.SaveX = q1 + 1 + 1 + 1 + 1 + 1 + 1 + 1 + 1 + 1 + 1 + 1 + 1 + 1 ∧ x.SaveY = q1 + 1 + 1 + 1 + 1 + 1 + 1 + 1 + 1 + 1 + 1 + 1 + 1 + 1 + 1 ∧ x.SaveA.Fg = q1 + 1 + 1 + 1 + 1 + 1 + 1 + 1 + 1 + 1 + 1 + 1 + 1 + 1 + 1 + 1 ∧ x.SaveA.Bg = q1 + 1 + 1 + 1 + 1 + 1 + 1 + 1 + 1 + 1 + 1 + 1 + 1 + 1 + 1 + 1 + 1 ∧ x.SaveA.Bold = ((q1 + 1 + 1 + 1 + 1 + 1 + 1 + 1 + 1 + 1 + 1 + 1 + 1 + 1 + 1 + 1 + 1 + 1) % 3 == 0) ∧ x.SaveA.Under = ((q1 + 1 + 1 + 1 + 1 + 1 + 1 + 1 + 1 + 1 + 1 + 1 + 1 + 1 + 1 + 1 + 1 + 1 + 1) % 3 == 0) ∧ x.SaveA.Turn = ((q1 + 1 + 1 + 1 + 1 + 1 + 1 + 1 + 1 + 1 + 1 + 1 + 1 + 1 + 1 + 1 + 1 + 1 + 1 + 1) % 3 == 0) ∧ HoldL IntHold x.Tabs (q1 + 1 + 1 + 1 + 1 + 1 + 1 + 1 + 1 + 1 + 1 + 1 + 1 + 1 + 1 + 1 + 1 + 1 + 1 + 1 + 1) q2 ∧ x.Limit = q2 ∧ HoldL DRow.Hold x.Back (q2 + 1) q3 ∧ k' = q3
def DScr.wt (x : DScr) : Nat := 27 + (x.Main.Cells.map DCell.wt).sum + (x.Alt.Cells.map DCell.wt).sum + x.Tabs.length + (x.Back.map DRow.wt).sum
theorem DScr.Hold_le (x : DScr) (k k' : Int) (h : DScr.Hold x k k') : k ≤ k' := by
  obtain ⟨q0, q1, q2, q3, h0, h1, h2, h3, h4, h5, h6, h7, h8, h9, h10, h11, h12, h13, h14, h15, h16, h17, h18, h19, h20, h21, h22, h23, h24, h25, h26, h27, h28, h29, h30, e⟩ := h
  have l0 := HoldL.le DCell.Hold_le h4
  have l1 := HoldL.le DCell.Hold_le h7
  have l2 := HoldL.le IntHold_le h28
  have l3 := HoldL.le DRow.Hold_le h30
  omega
def DGrid.HoldV (x : DGrid) (k k' : Int) : Prop := HoldL DCell.Hold x.Cells k k'
def DGrid.wtV (x : DGrid) : Nat := (x.Cells.map DCell.wt).sum
theorem DGrid.HoldV_le (x : DGrid) (k k' : Int) (h : DGrid.HoldV x k k') : k ≤ k' := by
  have h0 := h
  have l0 := HoldL.le DCell.Hold_le h0
  omega
def DRow.HoldV (x : DRow) (k k' : Int) : Prop := HoldL DCell.Hold x.Cells k k'
def DRow.wtV (x : DRow) : Nat := (x.Cells.map DCell.wt).sum
theorem DRow.HoldV_le (x : DRow) (k k' : Int) (h : DRow.HoldV x k k') : k ≤ k' := by
  have h0 := h
  have l0 := HoldL.le DCell.Hold_le h0
  omega
def DScr.HoldV (x : DScr) (k k' : Int) : Prop := ∃ q0 q1 q2 : Int, DGrid.HoldV x.Main k q0 ∧ DGrid.HoldV x.Alt q0 q1 ∧ HoldL IntHold x.Tabs q1 q2 ∧ HoldL DRow.Hold x.Back q2 k'
def DScr.wtV (x : DScr) : Nat := x.Main.wtV + x.Alt.wtV + x.Tabs.length + (x.Back.map DRow.wt).sum
theorem DScr.HoldV_le (x : DScr) (k k' : Int) (h : DScr.HoldV x k k') : k ≤ k' := by
  obtain ⟨q0, q1, q2, h0, h1, h2, h3⟩ := h
  have l0 := DGrid.HoldV_le _ _ _ h0
  have l1 := DGrid.HoldV_le _ _ _ h1
  have l2 := HoldL.le IntHold_le h2
  have l3 := HoldL.le DRow.Hold_le h3
  omega
end Go.Mux
namespace Go.Proofs.Ytaobgfneeijpmaa
open Go.RowKit Go.Mux
set_option maxRecDepth 100000 in
set_option maxHeartbeats 4000000 in
theorem markIntS_any (w : World) (v : Value) (l : List Int) (k : Int) (fp : List Nat) (h : OwnS w v l fp) (hn : fp.Nodup) (h0 : 1 ≤ k) (h1 : k + (l.length : Nat) ≤ 1099511627776) :
    Calls Try.prog 46 #[v, .int .i64 k] w (MarkOut (HoldL IntHold) [v] fp k (l.length) w) := by
  obtain ⟨a, cap, rfl, hl, -⟩ := h.repS
  have HN := Lib.hid hn
  have HO := Lib.hid h
  have HW := Lib.hid h1
  clear hn h h1
  go_enter Try.func46, Try.ntmps46
  go_wp2
  go_loopw [1, 5] (fun kv i wr => ∃ (j : Nat) (q : Int) (M : List Int), j ≤ l.length ∧ i = .int .i64 j ∧ kv = .int .i64 q ∧ Hid (MarkInv IntHold (fun _ => 1) w (.slice a l.length cap) l k fp wr j q M)) (fun _ i _ => l.length - (intOf i).toNat)
  case atStart => exact ⟨0, k, l, Nat.zero_le _, rfl, rfl, MarkInv.start HO.out⟩
  case round =>
    obtain ⟨j, q, M, hj, rfl, rfl, HI⟩ := hrel
    by_cases hlt : j < l.length
    · obtain ⟨x, hx⟩ : ∃ x, l[j]? = some x := ⟨l[j], by simp [hlt]⟩
      have hb := MarkInv.bound HI.out hx h0 (B := 1099511627776) (by rw [sum_one]; exact HW.out)
      skip
      obtain ⟨hb1, hb2⟩ := hb
      have HX := Lib.hid hx
      have hxL := MarkInv.at_ HI.out hx
      clear hx
      obtain ⟨g, A, f, r, rfl, hg, ho, hfn, hfs, hgf, hgn, hA, hcl, hclose⟩ := HI.out.1.openAt HN.out hxL
      clear hxL
      obtain ⟨⟨rfl, hi0⟩, rfl⟩ := ho
      have HCL := Lib.hid hclose
      clear hclose
      have HGF := Lib.hid hgf
      have HFS := Lib.hid (show ∀ b ∈ g :: [], b ∈ fp from fun b hb => by
        rcases List.mem_cons.1 hb with h | h
        · rw [h]; exact hgf
        · exact hfs b h)
      have HR0 := Lib.hid (show Rowing wr g A 3 (j) 1 [] from Rowing.start hg (by rw [show j * Rep.size Int = j from Nat.mul_one j] at hA; exact hA))
      have HM0 := Lib.hid (MarkedOn.refl (g :: []) wr)
      clear hg hA hcl hgn hgf hfs hfn
      go_wp2_with (first | ((with_reducible (show wpList _ _ _ (Oper.mk _ (Op.store 3 _ _) _ _ _ _ :: _) _ _)); have _t := HR0; refine wpList_store_in rfl 3 _ _ rfl g (j) rfl (.int .i64 (q)) rfl [.int .i64 (q)] rfl _ _ HR0.out.1 (HR0.out.fit (by simp) rfl) (by simp [Value.oneCell']) size_int' ?_; intro W1 hW; have HR1 := Lib.hid (HR0.out.store (by simp) rfl hW); have HM1 := Lib.hid (HM0.out.trans (MarkedOn.row (by simp) hW)); clear hW HR0 HM0))
      go_roundw
      case rel => exact ⟨j + 1, q + 1, M.set j (q), by omega, by go_num, rfl, MarkInv.next HI.out HX.out (HCL.out W1 (q) _ ⟨⟨rfl, (show I64 (q) from ⟨by omega, by omega⟩)⟩, rfl⟩ (by rw [show j * Rep.size Int = j from Nat.mul_one j]; exact HR1.out.1) (fun b hb h1 h2 => HM1.out.block b (HI.out.1.lt b hb) (by simp only [List.mem_cons, not_or]; exact ⟨h1, h2⟩))) (show IntHold _ q _ from ⟨rfl, rfl⟩) (HM1.out.mono HFS.out) (by omega) (by show _ ≤ _; omega)⟩
      case measure => simp [intOf]; omega
    · obtain rfl : j = l.length := by omega
      go_wp2
      go_ret
      exact by have hf := MarkInv.finish HI.out; rwa [sum_one] at hf
set_option maxRecDepth 100000 in
set_option maxHeartbeats 4000000 in
theorem markCellS_any (w : World) (v : Value) (l : List DCell) (k : Int) (fp : List Nat) (h : OwnS w v l fp) (hn : fp.Nodup) (h0 : 1 ≤ k) (h1 : k + ((l.map DCell.wt).sum : Nat) ≤ 1099511627776) :
    Calls Try.prog 48 #[v, .int .i64 k] w (MarkOut (HoldL DCell.Hold) [v] fp k ((l.map DCell.wt).sum) w) := by
  obtain ⟨a, cap, rfl, hl, -⟩ := h.repS
  have HN := Lib.hid hn
  have HO := Lib.hid h
  have HW := Lib.hid h1
  clear hn h h1
  go_enter Try.func48, Try.ntmps48
  go_wp2
  go_loopw [1, 5] (fun kv i wr => ∃ (j : Nat) (q : Int) (M : List DCell), j ≤ l.length ∧ i = .int .i64 j ∧ kv = .int .i64 q ∧ Hid (MarkInv DCell.Hold DCell.wt w (.slice a l.length cap) l k fp wr j q M)) (fun _ i _ => l.length - (intOf i).toNat)
  case atStart => exact ⟨0, k, l, Nat.zero_le _, rfl, rfl, MarkInv.start HO.out⟩
  case round =>
    obtain ⟨j, q, M, hj, rfl, rfl, HI⟩ := hrel
    by_cases hlt : j < l.length
    · obtain ⟨x, hx⟩ : ∃ x, l[j]? = some x := ⟨l[j], by simp [hlt]⟩
      have hb := MarkInv.bound HI.out hx h0 (B := 1099511627776) HW.out
      unfold DCell.wt at hb
      obtain ⟨hb1, hb2⟩ := hb
      have HX := Lib.hid hx
      have hxL := MarkInv.at_ HI.out hx
      clear hx
      obtain ⟨g, A, f, r, rfl, hg, ho, hfn, hfs, hgf, hgn, hA, hcl, hclose⟩ := HI.out.1.openAt HN.out hxL
      clear hxL
      obtain ⟨rfl, hi0, hi1, hi2, rfl⟩ := DCell.own_iff.1 ho
      clear ho
      have HCL := Lib.hid hclose
      clear hclose
      have HGF := Lib.hid hgf
      have HFS := Lib.hid (show ∀ b ∈ g :: [], b ∈ fp from fun b hb => by
        rcases List.mem_cons.1 hb with h | h
        · rw [h]; exact hgf
        · exact hfs b h)
      have HR0 := Lib.hid (show Rowing wr g A 37 (j * 6) 6 [] from Rowing.start hg hA)
      have HM0 := Lib.hid (MarkedOn.refl (g :: []) wr)
      clear hg hA hcl hgn hgf hfs hfn
      go_wp2_with (first | ((with_reducible (show wpList _ _ _ (Oper.mk _ (Op.store 3 _ _) _ _ _ _ :: _) _ _)); have _t := HR0; refine wpList_store_in rfl 3 _ _ rfl g (j * 6) rfl (.int .i64 (q)) rfl [.int .i64 (q)] rfl _ _ HR0.out.1 (HR0.out.fit (by simp) rfl) (by simp [Value.oneCell']) size_int' ?_; intro W1 hW; have HR1 := Lib.hid (HR0.out.store (by simp) rfl hW); have HM1 := Lib.hid (HM0.out.trans (MarkedOn.row (by simp) hW)); clear hW HR0 HM0) | ((with_reducible (show wpList _ _ _ (Oper.mk _ (Op.store 3 _ _) _ _ _ _ :: _) _ _)); have _t := HR1; refine wpList_store_in rfl 3 _ _ rfl g (j * 6 + 1) rfl (.int .i64 (q + 1)) rfl [.int .i64 (q + 1)] rfl _ _ HR1.out.1 (HR1.out.fit (by simp) rfl) (by simp [Value.oneCell']) size_int' ?_; intro W2 hW; have HR2 := Lib.hid (HR1.out.store (by simp) rfl hW); have HM2 := Lib.hid (HM1.out.trans (MarkedOn.row (by simp) hW)); clear hW HR1 HM1) | ((with_reducible (show wpList _ _ _ (Oper.mk _ (Op.store 3 _ _) _ _ _ _ :: _) _ _)); have _t := HR2; refine wpList_store_in rfl 3 _ _ rfl g (j * 6 + 2) rfl (.int .i64 (q + 1 + 1)) rfl [.int .i64 (q + 1 + 1)] rfl _ _ HR2.out.1 (HR2.out.fit (by simp) rfl) (by simp [Value.oneCell']) size_int' ?_; intro W3 hW; have HR3 := Lib.hid (HR2.out.store (by simp) rfl hW); have HM3 := Lib.hid (HM2.out.trans (MarkedOn.row (by simp) hW)); clear hW HR2 HM2) | ((with_reducible (show wpList _ _ _ (Oper.mk _ (Op.store 4 _ _) _ _ _ _ :: _) _ _)); have _t := HR3; refine wpList_store_in rfl 4 _ _ rfl g (j * 6 + 3) rfl (.bool ((q + 1 + 1 + 1) % 3 == 0)) rfl [.bool ((q + 1 + 1 + 1) % 3 == 0)] rfl _ _ HR3.out.1 (HR3.out.fit (by simp) rfl) (by simp [Value.oneCell']) size_bool' ?_; intro W4 hW; have HR4 := Lib.hid (HR3.out.store (by simp) rfl hW); have HM4 := Lib.hid (HM3.out.trans (MarkedOn.row (by simp) hW)); clear hW HR3 HM3) | ((with_reducible (show wpList _ _ _ (Oper.mk _ (Op.store 4 _ _) _ _ _ _ :: _) _ _)); have _t := HR4; refine wpList_store_in rfl 4 _ _ rfl g (j * 6 + 4) rfl (.bool ((q + 1 + 1 + 1 + 1) % 3 == 0)) rfl [.bool ((q + 1 + 1 + 1 + 1) % 3 == 0)] rfl _ _ HR4.out.1 (HR4.out.fit (by simp) rfl) (by simp [Value.oneCell']) size_bool' ?_; intro W5 hW; have HR5 := Lib.hid (HR4.out.store (by simp) rfl hW); have HM5 := Lib.hid (HM4.out.trans (MarkedOn.row (by simp) hW)); clear hW HR4 HM4) | ((with_reducible (show wpList _ _ _ (Oper.mk _ (Op.store 4 _ _) _ _ _ _ :: _) _ _)); have _t := HR5; refine wpList_store_in rfl 4 _ _ rfl g (j * 6 + 5) rfl (.bool ((q + 1 + 1 + 1 + 1 + 1) % 3 == 0)) rfl [.bool ((q + 1 + 1 + 1 + 1 + 1) % 3 == 0)] rfl _ _ HR5.out.1 (HR5.out.fit (by simp) rfl) (by simp [Value.oneCell']) size_bool' ?_; intro W6 hW; have HR6 := Lib.hid (HR5.out.store (by simp) rfl hW); have HM6 := Lib.hid (HM5.out.trans (MarkedOn.row (by simp) hW)); clear hW HR5 HM5))
      go_roundw
      case rel => exact ⟨j + 1, q + 1 + 1 + 1 + 1 + 1 + 1, M.set j ⟨(q), ⟨(q + 1), (q + 1 + 1), ((q + 1 + 1 + 1) % 3 == 0), ((q + 1 + 1 + 1 + 1) % 3 == 0), ((q + 1 + 1 + 1 + 1 + 1) % 3 == 0)⟩⟩, by omega, by go_num, rfl, MarkInv.next HI.out HX.out (HCL.out W6 ⟨(q), ⟨(q + 1), (q + 1 + 1), ((q + 1 + 1 + 1) % 3 == 0), ((q + 1 + 1 + 1 + 1) % 3 == 0), ((q + 1 + 1 + 1 + 1 + 1) % 3 == 0)⟩⟩ _ (DCell.own_iff.2 ⟨rfl, (show I64 (q) from ⟨by omega, by omega⟩), (show I64 (q + 1) from ⟨by omega, by omega⟩), (show I64 (q + 1 + 1) from ⟨by omega, by omega⟩), rfl⟩) HR6.out.1 (fun b hb h1 h2 => HM6.out.block b (HI.out.1.lt b hb) (by simp only [List.mem_cons, not_or]; exact ⟨h1, h2⟩))) (show DCell.Hold _ q _ from ⟨rfl, rfl, rfl, rfl, rfl, rfl, rfl⟩) (HM6.out.mono HFS.out) (by omega) (by unfold DCell.wt; omega)⟩
      case measure => simp [intOf]; omega
    · obtain rfl : j = l.length := by omega
      go_wp2
      go_ret
      exact MarkInv.finish HI.out
set_option maxRecDepth 100000 in
set_option maxHeartbeats 4000000 in
theorem markRowS_any (w : World) (v : Value) (l : List DRow) (k : Int) (fp : List Nat) (h : OwnS w v l fp) (hn : fp.Nodup) (h0 : 1 ≤ k) (h1 : k + ((l.map DRow.wt).sum : Nat) ≤ 1099511627776) :
    Calls Try.prog 47 #[v, .int .i64 k] w (MarkOut (HoldL DRow.Hold) [v] fp k ((l.map DRow.wt).sum) w) := by
  obtain ⟨a, cap, rfl, hl, -⟩ := h.repS
  have HN := Lib.hid hn
  have HO := Lib.hid h
  have HW := Lib.hid h1
  clear hn h h1
  go_enter Try.func47, Try.ntmps47
  go_wp2
  go_loopw [1, 5] (fun kv i wr => ∃ (j : Nat) (q : Int) (M : List DRow), j ≤ l.length ∧ i = .int .i64 j ∧ kv = .int .i64 q ∧ Hid (MarkInv DRow.Hold DRow.wt w (.slice a l.length cap) l k fp wr j q M)) (fun _ i _ => l.length - (intOf i).toNat)
  case atStart => exact ⟨0, k, l, Nat.zero_le _, rfl, rfl, MarkInv.start HO.out⟩
  case round =>
    obtain ⟨j, q, M, hj, rfl, rfl, HI⟩ := hrel
    by_cases hlt : j < l.length
    · obtain ⟨x, hx⟩ : ∃ x, l[j]? = some x := ⟨l[j], by simp [hlt]⟩
      have hb := MarkInv.bound HI.out hx h0 (B := 1099511627776) HW.out
      unfold DRow.wt at hb
      obtain ⟨hb1, hb2⟩ := hb
      have HX := Lib.hid hx
      have hxL := MarkInv.at_ HI.out hx
      clear hx
      obtain ⟨g, A, f, r, rfl, hg, ho, hfn, hfs, hgf, hgn, hA, hcl, hclose⟩ := HI.out.1.openAt HN.out hxL
      clear hxL
      obtain ⟨v0, rfl, hi0⟩ := DRow.own_iff.1 ho
      clear ho
      have HO0 := Lib.hid hi0
      clear hi0
      have HCL := Lib.hid hclose
      clear hclose
      have HA0 := Lib.hid (show A[j + 0]? = some v0 from by have hz := hcl 0 _ rfl; rwa [show j * Rep.size DRow = j from Nat.mul_one j] at hz)
      have HG0 := Lib.hid (show ∀ b ∈ f, b ∉ [g] from fun b hb e => hgn (by rw [List.mem_singleton] at e; rw [← e]; exact hb))
      have HS0 := Lib.hid (show ∀ b ∈ f, b ∈ g :: f from fun b hb => by simp [hb])
      have HH0 := Lib.hid (show g ∉ f from fun e => hgn (by simp [e]))
      have HU0 := Lib.hid (show f.Nodup from hfn)
      have HGF := Lib.hid hgf
      have HFS := Lib.hid (show ∀ b ∈ g :: f, b ∈ fp from fun b hb => by
        rcases List.mem_cons.1 hb with h | h
        · rw [h]; exact hgf
        · exact hfs b h)
      have HR0 := Lib.hid (show Rowing wr g A 39 (j) 1 [] from Rowing.start hg (by rw [show j * Rep.size DRow = j from Nat.mul_one j] at hA; exact hA))
      have HM0 := Lib.hid (MarkedOn.refl (g :: f) wr)
      have hq0 := HR0.out.cell (c := 0) (by simp) (by decide) HA0.out
      simp only [Nat.add_zero] at hq0
      clear hg hA hcl hgn hgf hfs hfn
      go_wp2_with (first | (go_at_call 48; have _t := HR0; refine (markCellS_any _ v0 x.Cells (q) f HO0.out HU0.out (by omega) (by omega)).mono ?_; rintro e W1 ⟨q0, y0, rfl, hk0, hl0, ⟨_, hvv, ho⟩, hh, hm⟩; obtain rfl := (List.cons.inj hvv).1; clear hvv; have HR1 := Lib.hid ((HR0.out.step (hm.block g HR0.out.lt HH0.out)).keep HA0.out); have HM1 := Lib.hid (HM0.out.trans (hm.mono HS0.out)); replace HO0 := Lib.hid ho; have HK0 := Lib.hid hh; clear HR0 HM0 hm ho hh))
      go_roundw
      case rel => exact ⟨j + 1, q0, M.set j ⟨y0⟩, by omega, by go_num, rfl, MarkInv.next HI.out HX.out (HCL.out W1 ⟨y0⟩ _ (DRow.own_iff.2 ⟨v0, rfl, HO0.out⟩) (by rw [show j * Rep.size DRow = j from Nat.mul_one j]; exact HR1.out.1) (fun b hb h1 h2 => HM1.out.block b (HI.out.1.lt b hb) (by simp only [List.mem_cons, not_or]; exact ⟨h1, h2⟩))) (show DRow.Hold _ q _ from ⟨q0, HK0.out, rfl⟩) (HM1.out.mono HFS.out) (by omega) (by unfold DRow.wt; omega)⟩
      case measure => simp [intOf]; omega
    · obtain rfl : j = l.length := by omega
      go_wp2
      go_ret
      exact MarkInv.finish HI.out
set_option maxRecDepth 100000 in
set_option maxHeartbeats 2000000 in
theorem markGrid_any (w : World) (cs : List Value) (x : DGrid) (k : Int) (fp : List Nat) (h : Rep.own w cs x fp) (hn : fp.Nodup) (h0 : 1 ≤ k) (h1 : k + (x.wtV : Nat) ≤ 1099511627776) :
    Calls Try.prog 17 #[.agg cs.toArray, .int .i64 k] w (MarkOut DGrid.HoldV cs fp k x.wtV w) := by
  unfold DGrid.wtV at h1
  obtain ⟨c0, d0, f0, e0, rfl, o0, ⟨c1, d1, f1, e1, rfl, o1, o2, rfl⟩, rfl⟩ := h
  obtain ⟨⟨rfl, i0⟩, rfl⟩ := o0
  obtain ⟨⟨rfl, i1⟩, rfl⟩ := o1
  obtain ⟨v2, rfl, o2'⟩ := o2
  obtain ⟨va2, vn2, vc2, rfl⟩ := o2'.repS.shape
  have O2 := Lib.hid (show Rep.own w [_] x.Cells e1 from ⟨_, rfl, o2'⟩)
  clear o2'
  (try simp only [List.nil_append, List.append_nil] at hn)
  (try simp only [List.nil_append, List.cons_append, List.append_nil])
  have hn0 := hn
  have HU0 := Lib.hid (show e1.Nodup from hn0)
  have HS0 := Lib.hid (show ∀ b ∈ e1, b ∈ e1 from fun b hb => by simp [hb])
  have HX0 := Lib.hid (show w.heap.size ∉ e1 from fun e => Nat.lt_irrefl _ (Rep.ownLt O2.out _ e))
  clear hn0 hn
  go_enter Try.func17, Try.ntmps17
  go_wp2_with fail
  refine (markCellS_any _ _ x.Cells (k) e1 (own_slice (own_grow O2.out (bel_alloc (Below.refl w.heap.size w) _))) HU0.out (by omega) (by omega)).mono ?_
  rintro e W0 ⟨q0, y2, rfl, hk0, hl0, ho, hh, hm⟩
  have hcb0 : ∀ o, W0.cell? ⟨w.heap.size, o, none⟩ = _ := fun o => World.cell?_of_block (a := ⟨w.heap.size, o, none⟩) (hm.block w.heap.size (by simp) HX0.out)
  have HM := Lib.hid ((MarkedOn.of_below (bel_alloc (Below.refl w.heap.size w) _)).trans (hm.mono HS0.out))
  have HZ := Lib.hid (show w.heap.size < W0.heap.size from by have := hm.size; simp at this; omega)
  replace O2 := Lib.hid ho
  have HK0 := Lib.hid hh
  clear ho hh hm
  go_wp2_with fail
  go_ret
  have HF := (show Rep.own W0 _ (⟨x.W, x.H, y2⟩ : DGrid) _ from ⟨[_], _, [], _, rfl, ⟨⟨rfl, i0⟩, rfl⟩, ⟨[_], _, [], _, rfl, ⟨⟨rfl, i1⟩, rfl⟩, O2.out, rfl⟩, rfl⟩)
  (try simp only [List.nil_append, List.append_nil, List.cons_append] at HF)
  exact ⟨q0, ⟨x.W, x.H, y2⟩, rfl, by omega, by unfold DGrid.wtV; omega, HF, HK0.out, HM.out⟩
set_option maxRecDepth 100000 in
set_option maxHeartbeats 2000000 in
theorem markScr_any (w : World) (cs : List Value) (x : DScr) (k : Int) (fp : List Nat) (h : Rep.own w cs x fp) (hn : fp.Nodup) (h0 : 1 ≤ k) (h1 : k + (x.wtV : Nat) ≤ 1099511627776) :
    Calls Try.prog 16 #[.agg cs.toArray, .int .i64 k] w (MarkOut DScr.HoldV cs fp k x.wtV w) := by
  unfold DScr.wtV at h1
  obtain ⟨c0, d0, f0, e0, rfl, o0, ⟨c1, d1, f1, e1, rfl, o1, ⟨c2, d2, f2, e2, rfl, o2, ⟨c3, d3, f3, e3, rfl, o3, ⟨c4, d4, f4, e4, rfl, o4, ⟨c5, d5, f5, e5, rfl, o5, ⟨c6, d6, f6, e6, rfl, o6, ⟨c7, d7, f7, e7, rfl, o7, ⟨c8, d8, f8, e8, rfl, o8, ⟨c9, d9, f9, e9, rfl, o9, ⟨c10, d10, f10, e10, rfl, o10, ⟨c11, d11, f11, e11, rfl, o11, ⟨c12, d12, f12, e12, rfl, o12, ⟨c13, d13, f13, e13, rfl, o13, ⟨c14, d14, f14, e14, rfl, o14, ⟨c15, d15, f15, e15, rfl, o15, ⟨c16, d16, f16, e16, rfl, o16, ⟨c17, d17, f17, e17, rfl, o17, o18, rfl⟩, rfl⟩, rfl⟩, rfl⟩, rfl⟩, rfl⟩, rfl⟩, rfl⟩, rfl⟩, rfl⟩, rfl⟩, rfl⟩, rfl⟩, rfl⟩, rfl⟩, rfl⟩, rfl⟩, rfl⟩ := h
  obtain ⟨⟨rfl, i0⟩, rfl⟩ := o0
  obtain ⟨⟨rfl, i1⟩, rfl⟩ := o1
  obtain ⟨s2a0, s2n0, s2c0, rfl⟩ := DGrid.shape (Rep.ownRep o2)
  have O2 := Lib.hid o2
  clear o2
  obtain ⟨s3a0, s3n0, s3c0, rfl⟩ := DGrid.shape (Rep.ownRep o3)
  have O3 := Lib.hid o3
  clear o3
  obtain ⟨rfl, rfl⟩ := o4
  obtain ⟨⟨rfl, i5⟩, rfl⟩ := o5
  obtain ⟨⟨rfl, i6⟩, rfl⟩ := o6
  obtain ⟨rfl, rfl⟩ := o7
  obtain rfl := DAttr.shape (Rep.ownRep o8)
  have O8 := Lib.hid o8
  clear o8
  obtain ⟨⟨rfl, i9⟩, rfl⟩ := o9
  obtain ⟨⟨rfl, i10⟩, rfl⟩ := o10
  obtain ⟨rfl, rfl⟩ := o11
  obtain ⟨rfl, rfl⟩ := o12
  obtain ⟨⟨rfl, i13⟩, rfl⟩ := o13
  obtain ⟨⟨rfl, i14⟩, rfl⟩ := o14
  obtain rfl := DAttr.shape (Rep.ownRep o15)
  have O15 := Lib.hid o15
  clear o15
  obtain ⟨v16, rfl, o16'⟩ := o16
  obtain ⟨va16, vn16, vc16, rfl⟩ := o16'.repS.shape
  have O16 := Lib.hid (show Rep.own w [_] x.Tabs f16 from ⟨_, rfl, o16'⟩)
  clear o16'
  obtain ⟨⟨rfl, i17⟩, rfl⟩ := o17
  obtain ⟨v18, rfl, o18'⟩ := o18
  obtain ⟨va18, vn18, vc18, rfl⟩ := o18'.repS.shape
  have O18 := Lib.hid (show Rep.own w [_] x.Back e17 from ⟨_, rfl, o18'⟩)
  clear o18'
  (try simp only [List.nil_append, List.append_nil] at hn)
  (try simp only [List.nil_append, List.cons_append, List.append_nil])
  have hn0 := hn
  have hn1 := (List.nodup_append.1 hn0).2.1
  have hn2 := (List.nodup_append.1 hn1).2.1
  have hn3 := (List.nodup_append.1 hn2).2.1
  have hn4 := (List.nodup_append.1 hn3).2.1
  have hn5 := (List.nodup_append.1 hn4).2.1
  have HU0 := Lib.hid (show f2.Nodup from (List.nodup_append.1 hn0).1)
  have HS0 := Lib.hid (show ∀ b ∈ f2, b ∈ (f2 ++ (f3 ++ (f8 ++ (f15 ++ (f16 ++ e17))))) from fun b hb => by simp [hb])
  have HX0 := Lib.hid (show w.heap.size ∉ f2 from fun e => Nat.lt_irrefl _ (Rep.ownLt O2.out _ e))
  have HD0_1 := Lib.hid (show ∀ b ∈ f2, b ∉ f3 from fun b hb hb2 => (List.nodup_append.1 hn0).2.2 b hb b (by simp [hb2]) rfl)
  have HD1_0 := Lib.hid (show ∀ b ∈ f3, b ∉ f2 from fun b hb hb2 => HD0_1.out b hb2 hb)
  have HD0_2 := Lib.hid (show ∀ b ∈ f2, b ∉ f8 from fun b hb hb2 => (List.nodup_append.1 hn0).2.2 b hb b (by simp [hb2]) rfl)
  have HD2_0 := Lib.hid (show ∀ b ∈ f8, b ∉ f2 from fun b hb hb2 => HD0_2.out b hb2 hb)
  have HD0_3 := Lib.hid (show ∀ b ∈ f2, b ∉ f15 from fun b hb hb2 => (List.nodup_append.1 hn0).2.2 b hb b (by simp [hb2]) rfl)
  have HD3_0 := Lib.hid (show ∀ b ∈ f15, b ∉ f2 from fun b hb hb2 => HD0_3.out b hb2 hb)
  have HD0_4 := Lib.hid (show ∀ b ∈ f2, b ∉ f16 from fun b hb hb2 => (List.nodup_append.1 hn0).2.2 b hb b (by simp [hb2]) rfl)
  have HD4_0 := Lib.hid (show ∀ b ∈ f16, b ∉ f2 from fun b hb hb2 => HD0_4.out b hb2 hb)
  have HD0_5 := Lib.hid (show ∀ b ∈ f2, b ∉ e17 from fun b hb hb2 => (List.nodup_append.1 hn0).2.2 b hb b (by simp [hb2]) rfl)
  have HD5_0 := Lib.hid (show ∀ b ∈ e17, b ∉ f2 from fun b hb hb2 => HD0_5.out b hb2 hb)
  have HU1 := Lib.hid (show f3.Nodup from (List.nodup_append.1 hn1).1)
  have HS1 := Lib.hid (show ∀ b ∈ f3, b ∈ (f2 ++ (f3 ++ (f8 ++ (f15 ++ (f16 ++ e17))))) from fun b hb => by simp [hb])
  have HX1 := Lib.hid (show w.heap.size ∉ f3 from fun e => Nat.lt_irrefl _ (Rep.ownLt O3.out _ e))
  have HD1_2 := Lib.hid (show ∀ b ∈ f3, b ∉ f8 from fun b hb hb2 => (List.nodup_append.1 hn1).2.2 b hb b (by simp [hb2]) rfl)
  have HD2_1 := Lib.hid (show ∀ b ∈ f8, b ∉ f3 from fun b hb hb2 => HD1_2.out b hb2 hb)
  have HD1_3 := Lib.hid (show ∀ b ∈ f3, b ∉ f15 from fun b hb hb2 => (List.nodup_append.1 hn1).2.2 b hb b (by simp [hb2]) rfl)
  have HD3_1 := Lib.hid (show ∀ b ∈ f15, b ∉ f3 from fun b hb hb2 => HD1_3.out b hb2 hb)
  have HD1_4 := Lib.hid (show ∀ b ∈ f3, b ∉ f16 from fun b hb hb2 => (List.nodup_append.1 hn1).2.2 b hb b (by simp [hb2]) rfl)
  have HD4_1 := Lib.hid (show ∀ b ∈ f16, b ∉ f3 from fun b hb hb2 => HD1_4.out b hb2 hb)
  have HD1_5 := Lib.hid (show ∀ b ∈ f3, b ∉ e17 from fun b hb hb2 => (List.nodup_append.1 hn1).2.2 b hb b (by simp [hb2]) rfl)
  have HD5_1 := Lib.hid (show ∀ b ∈ e17, b ∉ f3 from fun b hb hb2 => HD1_5.out b hb2 hb)
  have HU2 := Lib.hid (show f8.Nodup from (List.nodup_append.1 hn2).1)
  have HS2 := Lib.hid (show ∀ b ∈ f8, b ∈ (f2 ++ (f3 ++ (f8 ++ (f15 ++ (f16 ++ e17))))) from fun b hb => by simp [hb])
  have HX2 := Lib.hid (show w.heap.size ∉ f8 from fun e => Nat.lt_irrefl _ (Rep.ownLt O8.out _ e))
  have HD2_3 := Lib.hid (show ∀ b ∈ f8, b ∉ f15 from fun b hb hb2 => (List.nodup_append.1 hn2).2.2 b hb b (by simp [hb2]) rfl)
  have HD3_2 := Lib.hid (show ∀ b ∈ f15, b ∉ f8 from fun b hb hb2 => HD2_3.out b hb2 hb)
  have HD2_4 := Lib.hid (show ∀ b ∈ f8, b ∉ f16 from fun b hb hb2 => (List.nodup_append.1 hn2).2.2 b hb b (by simp [hb2]) rfl)
  have HD4_2 := Lib.hid (show ∀ b ∈ f16, b ∉ f8 from fun b hb hb2 => HD2_4.out b hb2 hb)
  have HD2_5 := Lib.hid (show ∀ b ∈ f8, b ∉ e17 from fun b hb hb2 => (List.nodup_append.1 hn2).2.2 b hb b (by simp [hb2]) rfl)
  have HD5_2 := Lib.hid (show ∀ b ∈ e17, b ∉ f8 from fun b hb hb2 => HD2_5.out b hb2 hb)
  have HU3 := Lib.hid (show f15.Nodup from (List.nodup_append.1 hn3).1)
  have HS3 := Lib.hid (show ∀ b ∈ f15, b ∈ (f2 ++ (f3 ++ (f8 ++ (f15 ++ (f16 ++ e17))))) from fun b hb => by simp [hb])
  have HX3 := Lib.hid (show w.heap.size ∉ f15 from fun e => Nat.lt_irrefl _ (Rep.ownLt O15.out _ e))
  have HD3_4 := Lib.hid (show ∀ b ∈ f15, b ∉ f16 from fun b hb hb2 => (List.nodup_append.1 hn3).2.2 b hb b (by simp [hb2]) rfl)
  have HD4_3 := Lib.hid (show ∀ b ∈ f16, b ∉ f15 from fun b hb hb2 => HD3_4.out b hb2 hb)
  have HD3_5 := Lib.hid (show ∀ b ∈ f15, b ∉ e17 from fun b hb hb2 => (List.nodup_append.1 hn3).2.2 b hb b (by simp [hb2]) rfl)
  have HD5_3 := Lib.hid (show ∀ b ∈ e17, b ∉ f15 from fun b hb hb2 => HD3_5.out b hb2 hb)
  have HU4 := Lib.hid (show f16.Nodup from (List.nodup_append.1 hn4).1)
  have HS4 := Lib.hid (show ∀ b ∈ f16, b ∈ (f2 ++ (f3 ++ (f8 ++ (f15 ++ (f16 ++ e17))))) from fun b hb => by simp [hb])
  have HX4 := Lib.hid (show w.heap.size ∉ f16 from fun e => Nat.lt_irrefl _ (Rep.ownLt O16.out _ e))
  have HD4_5 := Lib.hid (show ∀ b ∈ f16, b ∉ e17 from fun b hb hb2 => (List.nodup_append.1 hn4).2.2 b hb b (by simp [hb2]) rfl)
  have HD5_4 := Lib.hid (show ∀ b ∈ e17, b ∉ f16 from fun b hb hb2 => HD4_5.out b hb2 hb)
  have HU5 := Lib.hid (show e17.Nodup from hn5)
  have HS5 := Lib.hid (show ∀ b ∈ e17, b ∈ (f2 ++ (f3 ++ (f8 ++ (f15 ++ (f16 ++ e17))))) from fun b hb => by simp [hb])
  have HX5 := Lib.hid (show w.heap.size ∉ e17 from fun e => Nat.lt_irrefl _ (Rep.ownLt O18.out _ e))
  clear hn0 hn1 hn2 hn3 hn4 hn5 hn
  go_enter Try.func16, Try.ntmps16
  go_wp2_with fail
  refine (markGrid_any _ [_, _, _] x.Main (k) f2 (own_grow O2.out (bel_alloc (Below.refl w.heap.size w) _)) HU0.out (by omega) (by omega)).mono ?_
  rintro e W0 ⟨q0, y2, rfl, hk0, hl0, ho, hh, hm⟩
  replace O3 := Lib.hid (own_apart (own_grow O3.out (bel_alloc (Below.refl w.heap.size w) _)) hm HD1_0.out)
  replace O8 := Lib.hid (own_apart (own_grow O8.out (bel_alloc (Below.refl w.heap.size w) _)) hm HD2_0.out)
  replace O15 := Lib.hid (own_apart (own_grow O15.out (bel_alloc (Below.refl w.heap.size w) _)) hm HD3_0.out)
  replace O16 := Lib.hid (own_apart (own_grow O16.out (bel_alloc (Below.refl w.heap.size w) _)) hm HD4_0.out)
  replace O18 := Lib.hid (own_apart (own_grow O18.out (bel_alloc (Below.refl w.heap.size w) _)) hm HD5_0.out)
  have hcb0 : ∀ o, W0.cell? ⟨w.heap.size, o, none⟩ = _ := fun o => World.cell?_of_block (a := ⟨w.heap.size, o, none⟩) (hm.block w.heap.size (by simp) HX0.out)
  have HM := Lib.hid ((MarkedOn.of_below (bel_alloc (Below.refl w.heap.size w) _)).trans (hm.mono HS0.out))
  have HZ := Lib.hid (show w.heap.size < W0.heap.size from by have := hm.size; simp at this; omega)
  replace O2 := Lib.hid ho
  have HK0 := Lib.hid hh
  clear ho hh hm
  go_wp2_with fail
  refine (markGrid_any _ [_, _, _] x.Alt (q0) f3 O3.out HU1.out (by omega) (by omega)).mono ?_
  rintro e W1 ⟨q1, y3, rfl, hk1, hl1, ho, hh, hm⟩
  replace O2 := Lib.hid (own_apart O2.out hm HD0_1.out)
  replace O8 := Lib.hid (own_apart O8.out hm HD2_1.out)
  replace O15 := Lib.hid (own_apart O15.out hm HD3_1.out)
  replace O16 := Lib.hid (own_apart O16.out hm HD4_1.out)
  replace O18 := Lib.hid (own_apart O18.out hm HD5_1.out)
  have hcb1 : ∀ o, W1.cell? ⟨w.heap.size, o, none⟩ = _ := fun o => World.cell?_of_block (a := ⟨w.heap.size, o, none⟩) (hm.block w.heap.size HZ.out HX1.out)
  replace HM := Lib.hid (HM.out.trans (hm.mono HS1.out))
  replace HZ := Lib.hid (Nat.lt_of_lt_of_le HZ.out hm.size)
  replace O3 := Lib.hid ho
  have HK1 := Lib.hid hh
  clear ho hh hm
  go_wp2_with fail
  refine (markIntS_any _ _ x.Tabs (q1) f16 (own_slice O16.out) HU4.out (by omega) (by omega)).mono ?_
  rintro e W4 ⟨q2, y16, rfl, hk2, hl2, ho, hh, hm⟩
  replace O2 := Lib.hid (own_apart O2.out hm HD0_4.out)
  replace O3 := Lib.hid (own_apart O3.out hm HD1_4.out)
  replace O8 := Lib.hid (own_apart O8.out hm HD2_4.out)
  replace O15 := Lib.hid (own_apart O15.out hm HD3_4.out)
  replace O18 := Lib.hid (own_apart O18.out hm HD5_4.out)
  have hcb4 : ∀ o, W4.cell? ⟨w.heap.size, o, none⟩ = _ := fun o => World.cell?_of_block (a := ⟨w.heap.size, o, none⟩) (hm.block w.heap.size HZ.out HX4.out)
  replace HM := Lib.hid (HM.out.trans (hm.mono HS4.out))
  replace HZ := Lib.hid (Nat.lt_of_lt_of_le HZ.out hm.size)
  replace O16 := Lib.hid ho
  have HK2 := Lib.hid hh
  clear ho hh hm
  go_wp2_with fail
  refine (markRowS_any _ _ x.Back (q2) e17 (own_slice O18.out) HU5.out (by omega) (by omega)).mono ?_
  rintro e W5 ⟨q3, y18, rfl, hk3, hl3, ho, hh, hm⟩
  replace O2 := Lib.hid (own_apart O2.out hm HD0_5.out)
  replace O3 := Lib.hid (own_apart O3.out hm HD1_5.out)
  replace O8 := Lib.hid (own_apart O8.out hm HD2_5.out)
  replace O15 := Lib.hid (own_apart O15.out hm HD3_5.out)
  replace O16 := Lib.hid (own_apart O16.out hm HD4_5.out)
  have hcb5 : ∀ o, W5.cell? ⟨w.heap.size, o, none⟩ = _ := fun o => World.cell?_of_block (a := ⟨w.heap.size, o, none⟩) (hm.block w.heap.size HZ.out HX5.out)
  replace HM := Lib.hid (HM.out.trans (hm.mono HS5.out))
  replace HZ := Lib.hid (Nat.lt_of_lt_of_le HZ.out hm.size)
  replace O18 := Lib.hid ho
  have HK3 := Lib.hid hh
  clear ho hh hm
  go_wp2_with fail
  go_ret
  have HF := (show Rep.own W5 _ (⟨x.W, x.H, y2, y3, x.OnAlt, x.X, x.Y, x.Wrap, x.A, x.Top, x.Bot, x.NoWrap, x.Hide, x.SaveX, x.SaveY, x.SaveA, y16, x.Limit, y18⟩ : DScr) _ from ⟨[_], _, [], _, rfl, ⟨⟨rfl, i0⟩, rfl⟩, ⟨[_], _, [], _, rfl, ⟨⟨rfl, i1⟩, rfl⟩, ⟨[_, _, _], _, f2, _, rfl, O2.out, ⟨[_, _, _], _, f3, _, rfl, O3.out, ⟨[_], _, [], _, rfl, ⟨rfl, rfl⟩, ⟨[_], _, [], _, rfl, ⟨⟨rfl, i5⟩, rfl⟩, ⟨[_], _, [], _, rfl, ⟨⟨rfl, i6⟩, rfl⟩, ⟨[_], _, [], _, rfl, ⟨rfl, rfl⟩, ⟨[_, _, _, _, _], _, f8, _, rfl, O8.out, ⟨[_], _, [], _, rfl, ⟨⟨rfl, i9⟩, rfl⟩, ⟨[_], _, [], _, rfl, ⟨⟨rfl, i10⟩, rfl⟩, ⟨[_], _, [], _, rfl, ⟨rfl, rfl⟩, ⟨[_], _, [], _, rfl, ⟨rfl, rfl⟩, ⟨[_], _, [], _, rfl, ⟨⟨rfl, i13⟩, rfl⟩, ⟨[_], _, [], _, rfl, ⟨⟨rfl, i14⟩, rfl⟩, ⟨[_, _, _, _, _], _, f15, _, rfl, O15.out, ⟨[_], _, f16, _, rfl, O16.out, ⟨[_], _, [], _, rfl, ⟨⟨rfl, i17⟩, rfl⟩, O18.out, rfl⟩, rfl⟩, rfl⟩, rfl⟩, rfl⟩, rfl⟩, rfl⟩, rfl⟩, rfl⟩, rfl⟩, rfl⟩, rfl⟩, rfl⟩, rfl⟩, rfl⟩, rfl⟩, rfl⟩, rfl⟩)
  (try simp only [List.nil_append, List.append_nil, List.cons_append] at HF)
  exact ⟨q3, ⟨x.W, x.H, y2, y3, x.OnAlt, x.X, x.Y, x.Wrap, x.A, x.Top, x.Bot, x.NoWrap, x.Hide, x.SaveX, x.SaveY, x.SaveA, y16, x.Limit, y18⟩, rfl, by omega, by unfold DScr.wtV; omega, HF, ⟨q0, q1, q2, HK0.out, HK1.out, HK2.out, HK3.out⟩, HM.out⟩
end Go.Proofs.Ytaobgfneeijpmaa
