/- TextOp of the reference and of the program say the same, for every line. -/
import Derived.Test.YtjglknaojfnllaaDoorPxT
set_option linter.unusedSimpArgs false
set_option linter.unusedVariables false
namespace Go.Px
open Go.RowKit
/-! ### The reference's TextOp, in plain Lean -/
def toI (x : Mux.DOp) : IOp := ⟨x.Kind, x.A, x.B, x.C, x.Name, x.Text, x.Dir, x.Data⟩
def fin (x : Mux.DOp × Bool) : IOp × Bool := (toI x.1, x.2)
theorem s_empty (s : ByteArray) : decide (s = (⟨#[]⟩ : ByteArray)) = decide (s.toList = []) := by
  rw [decide_eq_decide]
  constructor
  · rintro rfl; exact Mux.empty_toList
  · intro h
    have := ByteArray.toList_eq s
    rw [h] at this
    exact ByteArray.ext (Array.ext' this.symm)
theorem gd_pos {β : Type} {p : Prop} [Decidable p] (h : p) (x : Option β) : gd p x = x := by unfold gd; rw [if_pos h]
theorem j10 (fuel : Nat) (s : ByteArray) (x : Mux.DOp) (hd : x.Data = []) (hb : x.bulk ≤ 1048576) : p10_j10 fuel s x.Kind x.A x.B x.C x.Name x.Text x.Dir = some (fin (Mux.textOp x s)) := by
  have hx : dop (⟨x.Kind, x.A, x.B, x.C, x.Name, x.Text, x.Dir, []⟩ : IOp) = x := by
    unfold dop; cases x; simp_all
  have hl : loptext (⟨x.Kind, x.A, x.B, x.C, x.Name, x.Text, x.Dir, []⟩ : IOp) = some (Mux.opText x) := by
    unfold loptext
    rw [hx, gd_pos hb]
  unfold p10_j10
  rw [s_empty]
  by_cases h : s.toList = []
  · rw [Mux.textOp_no (.inl h), h]; rfl
  · by_cases h2 : Mux.opText x = s
    · rw [Mux.textOp_yes h h2]
      simp only [decide_eq_false h, hl, h2]
      simp only [Bool.false_eq_true, if_false, Option.bind_some, decide_true, Bool.not_true]
      unfold fin toI
      simp only [hd]
    · rw [Mux.textOp_no (.inr h2)]
      simp only [decide_eq_false h, hl, Bool.false_eq_true, if_false, Option.bind_some, decide_eq_false h2, Bool.not_false, if_true]
      rfl
theorem j9 (fuel : Nat) (s w : ByteArray) (k a b c : Int) (nm tx : ByteArray) : p10_j9 fuel s w k a b c nm tx = p10_j10 fuel s k a b c nm tx (Mux.dirOf w) := by
  unfold p10_j9 Mux.dirOf
  by_cases h : w = (⟨#[45]⟩ : ByteArray)
  · simp only [h, decide_true, Bool.not_true, Bool.false_eq_true, if_false, if_true]
  · simp only [h, decide_false, Bool.not_false, if_true, if_false]
theorem j9x (fuel : Nat) (s w : ByteArray) (x : Mux.DOp) (k a b c : Int) (nm tx : ByteArray) (hx : x = { Kind := k, A := a, B := b, C := c, Name := nm, Text := tx, Dir := Mux.dirOf w, Data := [] }) (hb : x.bulk ≤ 1048576) : p10_j9 fuel s w k a b c nm tx = some (fin (Mux.textOp x s)) := by
  rw [j9]
  have := j10 fuel s x (by rw [hx]) hb
  rw [← this, hx]
theorem dirOf_size (d : ByteArray) : (Mux.dirOf d).size ≤ d.size := by
  unfold Mux.dirOf
  split
  · exact Nat.zero_le _
  · exact Nat.le_refl _
theorem dirOf_empty : Mux.dirOf (⟨#[]⟩ : ByteArray) = ByteArray.empty := by unfold Mux.dirOf; rfl
theorem bulk_new (k : Int) (s : ByteArray) (hs : s.size ≤ 1048576) : (Mux.opNew k s).bulk ≤ 1048576 := by
  have h1 := Mux.words_size3 s
  have h2 := dirOf_size (Mux.wordAt (Mux.partsOf s) 2)
  unfold Mux.DOp.bulk Mux.opNew
  show _ + _ + _ + 0 ≤ _
  simp only
  omega
theorem bulk_split (s : ByteArray) (hs : s.size ≤ 1048576) : (Mux.opSplit s).bulk ≤ 1048576 := by
  have h1 := Mux.words_size4 s
  have h2 := dirOf_size (Mux.wordAt (Mux.partsOf s) 3)
  unfold Mux.DOp.bulk Mux.opSplit
  show 0 + _ + _ + 0 ≤ _
  simp only
  omega
theorem bulk_name (s : ByteArray) (hs : s.size ≤ 1048576) : (Mux.opName s).bulk ≤ 1048576 := by
  have h1 := Mux.words_size3 s
  unfold Mux.DOp.bulk Mux.opName
  show _ + 0 + 0 + 0 ≤ _
  simp only
  omega
theorem bulk_nums (k a b c : Int) : (({ Kind := k, A := a, B := b, C := c, Name := ByteArray.empty, Text := ByteArray.empty, Dir := ByteArray.empty, Data := [] } : Mux.DOp)).bulk ≤ 1048576 := by
  unfold Mux.DOp.bulk
  show 0 + 0 + 0 + 0 ≤ _
  omega
theorem loop5 (w : ByteArray) (h : w = ⟨#[107, 105, 108, 108]⟩ ∨ w = ⟨#[115, 101, 108, 101, 99, 116]⟩ ∨ w = ⟨#[114, 101, 115, 116, 97, 114, 116]⟩ ∨ w = ⟨#[122, 111, 111, 109]⟩) : loopF (p10_b5 10 w) 10 (0, 0) = some (Mux.opKind w) := by
  unfold Mux.opKind
  rcases h with rfl | rfl | rfl | rfl <;> rfl
theorem loop7 (W : List ByteArray) : loopF (p10_b7 10 W) 10 (0, 0) = some (Mux.sideOf (Mux.wordAt W 2)) := by
  have hw : lword W 2 = some (Mux.wordAt W 2) := rfl
  have st : ∀ (i : Nat) (b n : Int), ([76, 82, 85, 68] : List Int)[i]? = some n → p10_b7 10 W ((i : Int), b) = some (.inl (((i + 1 : Nat) : Int), if Mux.sideT n = Mux.wordAt W 2 then n else b)) := by
    intro i b n hi
    have hlt : i < 4 := by have := (List.getElem?_eq_some_iff.1 hi).1; simpa using this
    have hk : inK .i64 ((i : Int) + 1) := by show IntKind.i64.wrap _ = _; rw [IntKind.wrap_i64]; omega
    unfold p10_b7
    simp only
    rw [if_pos (by simp; omega), gd_pos (by simp; omega)]
    have hi2 : ([76, 82, 85, 68] : List (ty .int))[((i : Int)).toNat]? = some n := hi
    rw [hi2]
    simp only [Option.bind_some, hw, lside]
    unfold p10_j8
    by_cases h : Mux.sideT n = Mux.wordAt W 2
    · simp only [h, decide_true, if_true, gd_pos hk]; rfl
    · simp only [h, decide_false, if_false, Bool.false_eq_true, gd_pos hk]; rfl
  have e4 : ∀ b, p10_b7 10 W (4, b) = some (.inr b) := fun b => rfl
  have h0 := st 0 0 76 rfl
  have h1 := fun b => st 1 b 82 rfl
  have h2 := fun b => st 2 b 85 rfl
  have h3 := fun b => st 3 b 68 rfl
  have z0 : ((0 : Nat) : Int) = 0 := rfl
  refine loopF_of _ h0 (loopF_of _ (h1 _) (loopF_of _ (h2 _) (loopF_of _ (h3 _) (loopF_of _ (e4 _) ?_))))
  show _ = Mux.sideOf _
  unfold Mux.sideT Mux.sideOf
  generalize Mux.wordAt W 2 = w
  by_cases k1 : w = ⟨#[108, 101, 102, 116]⟩
  · subst k1; rfl
  · by_cases k2 : w = ⟨#[114, 105, 103, 104, 116]⟩
    · subst k2; rfl
    · by_cases k3 : w = ⟨#[117, 112]⟩
      · subst k3; rfl
      · by_cases k4 : w = ⟨#[100, 111, 119, 110]⟩
        · subst k4; rfl
        · simp [Ne.symm k1, Ne.symm k2, Ne.symm k3, Ne.symm k4, k1, k2, k3, k4]
/-- What the reference reads, by the first word. -/
theorem j1_new (s : ByteArray) (hs : s.size ≤ 1048576) (k : Int) (hk : k = 1 ∨ k = 2) : p10_j2 10 (Mux.partsOf s) s (Mux.wordAt (Mux.partsOf s) 1) (Mux.restOf s 3) k = some (fin (Mux.textOp (Mux.opNew k s) s)) := by
  unfold p10_j2
  have hw : lword (Mux.partsOf s) 2 = some (Mux.wordAt (Mux.partsOf s) 2) := rfl
  rw [hw, Option.bind_some]
  exact j9x _ _ _ _ _ _ _ _ _ _ rfl (bulk_new k s hs)
theorem j1_split (s : ByteArray) (hs : s.size ≤ 1048576) : p10_j3 10 (Mux.partsOf s) s (Mux.numAt (Mux.partsOf s) 1) (Mux.restOf s 4) (Mux.belowOf (Mux.wordAt (Mux.partsOf s) 2)) = some (fin (Mux.textOp (Mux.opSplit s) s)) := by
  unfold p10_j3
  have hw : lword (Mux.partsOf s) 3 = some (Mux.wordAt (Mux.partsOf s) 3) := rfl
  rw [hw, Option.bind_some]
  exact j9x _ _ _ _ _ _ _ _ _ _ rfl (bulk_split s hs)
theorem lword_at (W : List ByteArray) (n : Nat) : lword W (n : Int) = some (Mux.wordAt W n) := by
  unfold lword
  rw [gd_pos (by omega), Int.toNat_natCast]
theorem p10_eq (s : ByteArray) (hs : s.size ≤ 1048576) : p10 10 s = some (fin (Mux.textOp (Mux.readOpS s) s)) := by
  have hp : lparts s = some (Mux.partsOf s) := by unfold lparts; rw [gd_pos hs]
  have hlen : 0 < (Mux.partsOf s).length := by rw [Mux.partsOf_len]; omega
  have h0 : (Mux.partsOf s)[(0 : Int).toNat]? = some (Mux.wordAt (Mux.partsOf s) 0) := by
    show (Mux.partsOf s)[0]? = _
    unfold Mux.wordAt
    rw [List.getElem?_eq_getElem hlen]; rfl
  have w1 : lword (Mux.partsOf s) 1 = some (Mux.wordAt (Mux.partsOf s) 1) := rfl
  have w2 : lword (Mux.partsOf s) 2 = some (Mux.wordAt (Mux.partsOf s) 2) := rfl
  have w3 : lword (Mux.partsOf s) 3 = some (Mux.wordAt (Mux.partsOf s) 3) := rfl
  have r3 : lrest s 3 = some (Mux.restOf s 3) := by unfold lrest; rw [gd_pos ⟨hs, by decide, by decide⟩]; rfl
  have r4 : lrest s 4 = some (Mux.restOf s 4) := by unfold lrest; rw [gd_pos ⟨hs, by decide, by decide⟩]; rfl
  have nn : ∀ i, lnum (Mux.wordAt (Mux.partsOf s) i) = some (Mux.numAt (Mux.partsOf s) i) := fun i => rfl
  have l7 := loop7 (Mux.partsOf s)
  unfold p10
  rw [hp, Option.bind_some, gd_pos ⟨by decide, by omega⟩, h0, Option.bind_some]
  have hj4 : ∀ k : Int, Mux.opKind (Mux.wordAt (Mux.partsOf s) 0) = k → (k = 4 ∨ k = 7 ∨ k = 14 ∨ k = 8) → loopF (p10_b5 10 (Mux.wordAt (Mux.partsOf s) 0)) 10 (0, 0) = some k → p10_j4 10 (Mux.partsOf s) (Mux.wordAt (Mux.partsOf s) 0) s true = some (fin (Mux.textOp (Mux.readOpS s) s)) := by
    intro k hk hk4 hl
    unfold p10_j4
    rw [if_pos rfl, w1, Option.bind_some, nn, Option.bind_some, hl, Option.bind_some]
    refine j9x _ _ _ _ _ _ _ _ _ _ ?_ ?_
    · rw [dirOf_empty]
      unfold Mux.readOpS
      simp only [hk]
      rcases hk4 with rfl | rfl | rfl | rfl <;> rfl
    · unfold Mux.readOpS
      simp only [hk]
      rcases hk4 with rfl | rfl | rfl | rfl <;> exact bulk_nums _ _ _ _
  generalize hw0 : Mux.wordAt (Mux.partsOf s) 0 = w at *
  by_cases k1 : w = ⟨#[110, 101, 119]⟩
  · have hk : Mux.opKind w = 1 := by rw [k1]; unfold Mux.opKind; rfl
    rw [decide_eq_true k1, if_pos rfl]
    unfold p10_j1
    rw [if_pos rfl, w1, Option.bind_some, r3, Option.bind_some, if_neg (by rw [k1]; decide), j1_new s hs 1 (.inl rfl)]
    unfold Mux.readOpS
    simp only [hw0, hk]
    rfl
  rw [decide_eq_false k1, if_neg (by decide)]
  by_cases k2 : w = ⟨#[119, 105, 110, 100, 111, 119]⟩
  · have hk : Mux.opKind w = 2 := by rw [k2]; unfold Mux.opKind; rfl
    rw [decide_eq_true k2]
    unfold p10_j1
    rw [if_pos rfl, w1, Option.bind_some, r3, Option.bind_some, if_pos (by rw [k2]; decide), j1_new s hs 2 (.inr rfl)]
    unfold Mux.readOpS
    simp only [hw0, hk]
    rfl
  rw [decide_eq_false k2]
  unfold p10_j1
  rw [if_neg (by decide)]
  by_cases k3 : w = ⟨#[115, 112, 108, 105, 116]⟩
  · have hk : Mux.opKind w = 3 := by rw [k3]; unfold Mux.opKind; rfl
    rw [if_pos (by rw [k3]; decide), w1, Option.bind_some, nn, Option.bind_some, r4, Option.bind_some, w2, Option.bind_some]
    have hread : Mux.readOpS s = Mux.opSplit s := by
      unfold Mux.readOpS
      simp only [hw0, hk]
      rfl
    rw [hread, ← j1_split s hs]
    unfold Mux.belowOf
    by_cases kb : Mux.wordAt (Mux.partsOf s) 2 = ⟨#[98, 101, 108, 111, 119]⟩
    · rw [if_pos (decide_eq_true kb), if_pos kb]
    · rw [if_neg (by rw [decide_eq_false kb]; decide), if_neg kb]
  rw [if_neg (by rw [decide_eq_false k3]; decide)]
  by_cases k4 : w = ⟨#[107, 105, 108, 108]⟩
  · have hk : Mux.opKind w = 4 := by rw [k4]; unfold Mux.opKind; rfl
    rw [if_pos (decide_eq_true k4), decide_eq_true k4]
    exact hj4 4 hk (.inl rfl) (by rw [← hk]; exact loop5 w (.inl k4))
  rw [if_neg (by rw [decide_eq_false k4]; decide)]
  by_cases k5 : w = ⟨#[115, 101, 108, 101, 99, 116]⟩
  · have hk : Mux.opKind w = 7 := by rw [k5]; unfold Mux.opKind; rfl
    rw [if_pos (decide_eq_true k5), decide_eq_true k5]
    exact hj4 7 hk (.inr (.inl rfl)) (by rw [← hk]; exact loop5 w (.inr (.inl k5)))
  rw [if_neg (by rw [decide_eq_false k5]; decide)]
  by_cases k6 : w = ⟨#[114, 101, 115, 116, 97, 114, 116]⟩
  · have hk : Mux.opKind w = 14 := by rw [k6]; unfold Mux.opKind; rfl
    rw [if_pos (decide_eq_true k6), decide_eq_true k6]
    exact hj4 14 hk (.inr (.inr (.inl rfl))) (by rw [← hk]; exact loop5 w (.inr (.inr (.inl k6))))
  rw [if_neg (by rw [decide_eq_false k6]; decide)]
  by_cases k7 : w = ⟨#[122, 111, 111, 109]⟩
  · have hk : Mux.opKind w = 8 := by rw [k7]; unfold Mux.opKind; rfl
    rw [decide_eq_true k7]
    exact hj4 8 hk (.inr (.inr (.inr rfl))) (by rw [← hk]; exact loop5 w (.inr (.inr (.inr k7))))
  rw [decide_eq_false k7]
  unfold p10_j4
  rw [if_neg (by decide)]
  by_cases k8 : w = ⟨#[115, 119, 97, 112]⟩
  · have hk : Mux.opKind w = 9 := by rw [k8]; unfold Mux.opKind; rfl
    rw [if_pos (decide_eq_true k8), w1, Option.bind_some, nn, Option.bind_some, w2, Option.bind_some, nn, Option.bind_some]
    have hread : Mux.readOpS s = Mux.opTwo 9 s := by
      unfold Mux.readOpS
      simp only [hw0, hk]
      rfl
    rw [hread]
    exact j9x _ _ _ _ _ _ _ _ _ _ (by rw [dirOf_empty]; rfl) (bulk_nums _ _ _ _)
  rw [if_neg (by rw [decide_eq_false k8]; decide)]
  by_cases k9 : w = ⟨#[103, 114, 111, 119]⟩
  · have hk : Mux.opKind w = 10 := by rw [k9]; unfold Mux.opKind; rfl
    rw [if_pos (decide_eq_true k9), w1, Option.bind_some, nn, Option.bind_some, w3, Option.bind_some, nn, Option.bind_some, l7, Option.bind_some]
    have hread : Mux.readOpS s = Mux.opGrow s := by
      unfold Mux.readOpS
      simp only [hw0, hk]
      rfl
    rw [hread]
    exact j9x _ _ _ _ _ _ _ _ _ _ (by rw [dirOf_empty]; rfl) (bulk_nums _ _ _ _)
  rw [if_neg (by rw [decide_eq_false k9]; decide)]
  by_cases k10 : w = ⟨#[110, 97, 109, 101]⟩
  · have hk : Mux.opKind w = 11 := by rw [k10]; unfold Mux.opKind; rfl
    rw [if_pos (decide_eq_true k10), w1, Option.bind_some, nn, Option.bind_some, w2, Option.bind_some]
    have hread : Mux.readOpS s = Mux.opName s := by
      unfold Mux.readOpS
      simp only [hw0, hk]
      rfl
    rw [hread]
    exact j9x _ _ _ _ _ _ _ _ _ _ (by rw [dirOf_empty]; rfl) (bulk_name s hs)
  rw [if_neg (by rw [decide_eq_false k10]; decide)]
  by_cases k11 : w = ⟨#[115, 105, 122, 101]⟩
  · have hk : Mux.opKind w = 12 := by rw [k11]; unfold Mux.opKind; rfl
    rw [if_pos (decide_eq_true k11), w1, Option.bind_some, nn, Option.bind_some, w2, Option.bind_some, nn, Option.bind_some]
    have hread : Mux.readOpS s = Mux.opTwo 12 s := by
      unfold Mux.readOpS
      simp only [hw0, hk]
      rfl
    rw [hread]
    exact j9x _ _ _ _ _ _ _ _ _ _ (by rw [dirOf_empty]; rfl) (bulk_nums _ _ _ _)
  rw [if_neg (by rw [decide_eq_false k11]; decide)]
  have hk : Mux.opKind w = 0 := by
    unfold Mux.opKind
    rw [if_neg k1, if_neg k2, if_neg k3, if_neg k4, if_neg k5, if_neg k6, if_neg k7, if_neg k8, if_neg k9, if_neg k10, if_neg k11]
  have hread : Mux.readOpS s = Mux.zeroOp := by
    unfold Mux.readOpS
    simp only [hw0, hk]
    rfl
  rw [hread]
  exact j9x _ _ _ _ _ _ _ _ _ _ (by rw [dirOf_empty]; rfl) (bulk_nums _ _ _ _)
open Go.RowKit
/-! ### The program's TextOp, in plain Lean -/
theorem kind_map (w : ByteArray) : mget (0 : Int) [((⟨#[110, 101, 119]⟩ : ByteArray), 1), ((⟨#[119, 105, 110, 100, 111, 119]⟩ : ByteArray), 2), ((⟨#[115, 112, 108, 105, 116]⟩ : ByteArray), 3), ((⟨#[107, 105, 108, 108]⟩ : ByteArray), 4), ((⟨#[115, 101, 108, 101, 99, 116]⟩ : ByteArray), 7), ((⟨#[114, 101, 115, 116, 97, 114, 116]⟩ : ByteArray), 14), ((⟨#[122, 111, 111, 109]⟩ : ByteArray), 8), ((⟨#[115, 119, 97, 112]⟩ : ByteArray), 9), ((⟨#[103, 114, 111, 119]⟩ : ByteArray), 10), ((⟨#[110, 97, 109, 101]⟩ : ByteArray), 11), ((⟨#[115, 105, 122, 101]⟩ : ByteArray), 12)] w = Mux.opKind w := by
  unfold Mux.opKind
  simp only [mget]
theorem word_drop (W : List ByteArray) (n i : Nat) : Mux.wordAt (W.drop n) i = Mux.wordAt W (n + i) := by
  unfold Mux.wordAt
  rw [List.getElem?_drop]
theorem word_get {W : List ByteArray} {i : Nat} (h : i < W.length) : W[i]? = some (Mux.wordAt W i) := by
  unfold Mux.wordAt
  rw [List.getElem?_eq_getElem h]; rfl
theorem nums3 (W : List ByteArray) : Mux.numsOf 3 (W.drop 1) = [Mux.numAt W 1, Mux.numAt W 2, Mux.numAt W 3] := by
  unfold Mux.numsOf Mux.numAt
  have e : List.range 3 = [0, 1, 2] := rfl
  rw [e]
  simp only [List.map_cons, List.map_nil, word_drop]
/-- withProgram. -/
theorem p51n_eq (fuel : Nat) (s : ByteArray) (hs : s.size ≤ 1048576) (n : Nat) (k a b c : Int) (nm : ByteArray) : p51n fuel ⟨k, a, b, c, nm, ByteArray.empty, ByteArray.empty, []⟩ ((Mux.partsOf s).drop (n + 1)) = some ⟨k, a, b, c, nm, Mux.restOf s (n + 2), Mux.dirOf (Mux.wordAt (Mux.partsOf s) (n + 1)), []⟩ := by
  have hr := Mux.rest_join (n + 1) s
  have hrs := rest_size s (n + 2)
  have hp := Mux.partsOf_len s
  have hc : s.data.toList.count 32 ≤ s.data.toList.length := List.count_le_length
  have hdl : s.data.toList.length = s.size := Array.length_toList
  have hl : ((Mux.partsOf s).drop (n + 1)).length = (Mux.partsOf s).length - (n + 1) := List.length_drop
  have j2 : ∀ d, p51n_j2 fuel ((Mux.partsOf s).drop (n + 1)) ⟨k, a, b, c, nm, ByteArray.empty, ByteArray.empty, []⟩ d = some ⟨k, a, b, c, nm, Mux.restOf s (n + 2), d, []⟩ := by
    intro d
    unfold p51n_j2 p51n_j3
    by_cases h : (Mux.partsOf s).length ≤ n + 2
    · rw [if_neg (by simp only [decide_eq_true_eq, hl]; omega), hr, if_pos h]
    · have e1 : (((Mux.partsOf s).drop (n + 1)).take ((Mux.partsOf s).drop (n + 1)).length).drop ((1 : Int).toNat) = (Mux.partsOf s).drop (n + 2) := by
        rw [List.take_length]
        show List.drop 1 _ = _
        rw [List.drop_drop]
      have e2 : Mux.joinT ((Mux.partsOf s).drop (n + 2)) (⟨#[32]⟩ : ByteArray) = Mux.restOf s (n + 2) := by rw [hr, if_neg h]; rfl
      rw [if_pos (by simp only [decide_eq_true_eq, hl]; omega), gd_pos (by rw [hl]; omega), e1]
      unfold ljoin
      rw [e2, gd_pos ⟨by rw [List.length_drop]; omega, by omega⟩]
      rfl
  unfold p51n
  by_cases h : (Mux.partsOf s).length ≤ n + 1
  · have hw : Mux.wordAt (Mux.partsOf s) (n + 1) = ByteArray.empty := Mux.wordAt_short h
    rw [if_neg (by simp only [decide_eq_true_eq, hl]; omega)]
    simp only [Option.bind_some, Bool.false_eq_true, if_false]
    rw [j2, hw]
    have : Mux.dirOf ByteArray.empty = ByteArray.empty := by unfold Mux.dirOf; rfl
    rw [this]
  · have hg : ((Mux.partsOf s).drop (n + 1))[(0 : Int).toNat]? = some (Mux.wordAt (Mux.partsOf s) (n + 1)) := by
      show ((Mux.partsOf s).drop (n + 1))[0]? = _
      rw [List.getElem?_drop]
      exact word_get (by omega)
    rw [if_pos (by simp only [decide_eq_true_eq, hl]; omega), gd_pos (by rw [hl]; omega), hg]
    simp only [Option.bind_some]
    unfold Mux.dirOf
    by_cases hd : Mux.wordAt (Mux.partsOf s) (n + 1) = (⟨#[45]⟩ : ByteArray)
    · simp only [hd, decide_true, Bool.not_true, Bool.false_eq_true, if_false, if_true]
      exact j2 _
    · simp only [hd, decide_false, Bool.not_false, if_true, if_false]
      rw [gd_pos (by rw [hl]; omega)]
      exact j2 _
theorem m2_eq (fuel : Nat) (W : List ByteArray) (k : Int) (v w : ByteArray) (hw : Mux.opKind w = 10) : p31_m2 fuel W [Mux.numAt W 1, Mux.numAt W 2, Mux.numAt W 3] w k v = some (if 2 < W.length ∧ Mux.wordAt W 2 = v then .inr ⟨10, Mux.numAt W 1, k, Mux.numAt W 3, ByteArray.empty, ByteArray.empty, ByteArray.empty, []⟩ else .inl ()) := by
  unfold p31_m2
  rw [kind_map, hw]
  have e1 : (W.take W.length).drop ((1 : Int).toNat) = W.drop 1 := by rw [List.take_length]; rfl
  have hl : (W.drop 1).length = W.length - 1 := List.length_drop
  rw [e1]
  by_cases h : 2 < W.length
  · have hg : (W.drop 1)[(1 : Int).toNat]? = some (Mux.wordAt W 2) := by
      show (W.drop 1)[1]? = _
      rw [List.getElem?_drop]
      exact word_get h
    rw [if_pos (by simp only [decide_eq_true_eq, hl]; omega), gd_pos (by rw [hl]; omega), hg]
    simp only [Option.bind_some]
    by_cases hv : Mux.wordAt W 2 = v
    · rw [if_pos (by simp [hv]), if_pos ⟨h, hv⟩]
      rfl
    · rw [if_neg (by simp [hv]), if_neg (fun hh => hv hh.2)]
  · rw [if_neg (by simp only [decide_eq_true_eq, hl]; omega), if_neg (fun hh => h hh.1)]
    simp
theorem grow_eq (fuel : Nat) (W : List ByteArray) (w : ByteArray) (hw : Mux.opKind w = 10) : mrange (p31_m2 fuel W [Mux.numAt W 1, Mux.numAt W 2, Mux.numAt W 3] w) [((76 : Int), (⟨#[108, 101, 102, 116]⟩ : ByteArray)), ((82 : Int), (⟨#[114, 105, 103, 104, 116]⟩ : ByteArray)), ((85 : Int), (⟨#[117, 112]⟩ : ByteArray)), ((68 : Int), (⟨#[100, 111, 119, 110]⟩ : ByteArray))] =
    some (if Mux.sideOf (Mux.wordAt W 2) = 0 then none else some ⟨10, Mux.numAt W 1, Mux.sideOf (Mux.wordAt W 2), Mux.numAt W 3, ByteArray.empty, ByteArray.empty, ByteArray.empty, []⟩) := by
  simp only [mrange, m2_eq _ _ _ _ _ hw]
  by_cases h : 2 < W.length
  · unfold Mux.sideOf
    generalize Mux.wordAt W 2 = x
    by_cases k1 : x = ⟨#[108, 101, 102, 116]⟩
    · subst k1; simp [h]
    · by_cases k2 : x = ⟨#[114, 105, 103, 104, 116]⟩
      · subst k2; simp [h]
      · by_cases k3 : x = ⟨#[117, 112]⟩
        · subst k3; simp [h]
        · by_cases k4 : x = ⟨#[100, 111, 119, 110]⟩
          · subst k4; simp [h]
          · simp [h, k1, k2, k3, k4]
  · have hx : Mux.wordAt W 2 = ByteArray.empty := Mux.wordAt_short (by omega)
    have hs : Mux.sideOf ByteArray.empty = 0 := by unfold Mux.sideOf; rfl
    rw [hx, hs]
    simp [h]
theorem p31_eq (fuel : Nat) (s : ByteArray) (hs : s.size ≤ 1048576) : p31 fuel (Mux.partsOf s) = some (toI (Mux.readOpI s)) := by
  have hlen : 0 < (Mux.partsOf s).length := by rw [Mux.partsOf_len]; omega
  have e1 : ((Mux.partsOf s).take (Mux.partsOf s).length).drop ((1 : Int).toNat) = (Mux.partsOf s).drop 1 := by rw [List.take_length]; rfl
  have h0 : (Mux.partsOf s)[(0 : Int).toNat]? = some (Mux.wordAt (Mux.partsOf s) 0) := word_get hlen
  have hn : lnumbers ((Mux.partsOf s).drop 1) 3 = some [Mux.numAt (Mux.partsOf s) 1, Mux.numAt (Mux.partsOf s) 2, Mux.numAt (Mux.partsOf s) 3] := by
    unfold lnumbers
    rw [gd_pos ⟨by decide, by decide, List.all_eq_true.2 fun p hp => decide_eq_true (by have := Mux.parts_size (List.mem_of_mem_drop hp); omega)⟩]
    show some (Mux.numsOf 3 _) = _
    rw [nums3]
  have hl : ((Mux.partsOf s).drop 1).length = (Mux.partsOf s).length - 1 := List.length_drop
  have hg : ∀ i : Nat, i + 1 < (Mux.partsOf s).length → ((Mux.partsOf s).drop 1)[i]? = some (Mux.wordAt (Mux.partsOf s) (i + 1)) := fun i hi => by
    rw [List.getElem?_drop, Nat.add_comm]; exact word_get (by omega)
  have hd : ∀ n : Nat, (((Mux.partsOf s).drop 1).take ((Mux.partsOf s).drop 1).length).drop n = (Mux.partsOf s).drop (n + 1) := fun n => by
    rw [List.take_length, List.drop_drop, Nat.add_comm]
  unfold p31
  rw [gd_pos ⟨by decide, by omega⟩, e1, hn, Option.bind_some, gd_pos ⟨by decide, by omega⟩, h0, Option.bind_some, kind_map]
  have hsel : ∀ (f : Bool → Option IOp) (k a b : Int), (if (k == a) = true then f (k == a) else f (k == b)) = f (decide (k = a ∨ k = b)) := fun f k a b => by
    by_cases h1 : k = a
    · subst h1; simp
    · by_cases h2 : k = b
      · subst h2; simp [h1]
      · have e1 : (k == a) = false := by simpa using h1
        have e2 : (k == b) = false := by simpa using h2
        have e3 : decide (k = a ∨ k = b) = false := decide_eq_false (fun h => h.elim h1 h2)
        rw [e1, e2, e3]; simp
  have j5 : p31_j5 fuel = some (toI Mux.zeroOp) := rfl
  rw [hsel]
  unfold p31_j1
  simp only [e1, kind_map, hd]
  obtain ⟨k, hk⟩ : ∃ k, k = Mux.opKind (Mux.wordAt (Mux.partsOf s) 0) := ⟨_, rfl⟩
  unfold Mux.readOpI
  simp only
  rw [← hk]
  by_cases k1 : k = 1 ∨ k = 2
  · rw [if_pos (decide_eq_true k1), if_pos k1]
    by_cases h : 1 < (Mux.partsOf s).length
    · rw [if_pos (by simp only [decide_eq_true_eq, hl]; omega), gd_pos (by rw [hl]; omega), show ((Mux.partsOf s).drop 1)[(0 : Int).toNat]? = some (Mux.wordAt (Mux.partsOf s) 1) from hg 0 h, Option.bind_some, gd_pos (by rw [hl]; omega), if_pos h]
      have := p51n_eq fuel s hs 1 k 0 0 0 (Mux.wordAt (Mux.partsOf s) 1)
      have e : ((1 : Int).toNat + 1) = 1 + 1 := rfl
      rw [e, this]
      rfl
    · rw [if_neg (by simp only [decide_eq_true_eq, hl]; omega), if_neg h, j5]
  rw [if_neg (by simpa using k1), if_neg k1]
  by_cases k2 : k = 3
  · rw [if_pos (by simp [k2]), if_pos k2]
    by_cases h : 2 < (Mux.partsOf s).length
    · rw [if_pos (by simp only [decide_eq_true_eq, hl]; omega), gd_pos (by simp), if_pos h]
      have e0 : ([Mux.numAt (Mux.partsOf s) 1, Mux.numAt (Mux.partsOf s) 2, Mux.numAt (Mux.partsOf s) 3])[(0 : Int).toNat]? = some (Mux.numAt (Mux.partsOf s) 1) := rfl
      have e2 : ((Mux.partsOf s).drop 1)[(1 : Int).toNat]? = some (Mux.wordAt (Mux.partsOf s) 2) := hg 1 h
      rw [e0, Option.bind_some, gd_pos (by rw [hl]; omega), e2, Option.bind_some]
      have e3 : p52 fuel (decide (Mux.wordAt (Mux.partsOf s) 2 = (⟨#[98, 101, 108, 111, 119]⟩ : ByteArray))) 1 = some (Mux.belowOf (Mux.wordAt (Mux.partsOf s) 2)) := by
        unfold p52 Mux.belowOf
        by_cases hb : Mux.wordAt (Mux.partsOf s) 2 = (⟨#[98, 101, 108, 111, 119]⟩ : ByteArray)
        · rw [if_pos (decide_eq_true hb), if_pos hb]
        · rw [if_neg (by rw [decide_eq_false hb]; decide), if_neg hb]
      rw [e3, Option.bind_some, gd_pos (by rw [hl]; omega)]
      have := p51n_eq fuel s hs 2 k (Mux.numAt (Mux.partsOf s) 1) (Mux.belowOf (Mux.wordAt (Mux.partsOf s) 2)) 0 ByteArray.empty
      have e : ((2 : Int).toNat + 1) = 2 + 1 := rfl
      rw [e, this]
      subst k2
      rfl
    · rw [if_neg (by simp only [decide_eq_true_eq, hl]; omega), if_neg h, j5]
  rw [if_neg (by simpa using k2), if_neg k2]
  by_cases k3 : k = 10
  · rw [if_pos (by simp [k3]), if_pos k3]
    have hp53 : p53 fuel = some () := rfl
    rw [hp53, Option.bind_some, grow_eq fuel (Mux.partsOf s) _ (by rw [← hk, k3]), Option.bind_some]
    by_cases h : Mux.sideOf (Mux.wordAt (Mux.partsOf s) 2) = 0
    · rw [if_pos h, if_pos h]; exact j5
    · rw [if_neg h, if_neg h]; rfl
  rw [if_neg (by simpa using k3), if_neg k3]
  by_cases k4 : k = 11
  · rw [if_pos (by simp [k4]), if_pos k4]
    by_cases h : 2 < (Mux.partsOf s).length
    · have e0 : ([Mux.numAt (Mux.partsOf s) 1, Mux.numAt (Mux.partsOf s) 2, Mux.numAt (Mux.partsOf s) 3])[(0 : Int).toNat]? = some (Mux.numAt (Mux.partsOf s) 1) := rfl
      have e2 : ((Mux.partsOf s).drop 1)[(1 : Int).toNat]? = some (Mux.wordAt (Mux.partsOf s) 2) := hg 1 h
      rw [if_pos (by simp only [decide_eq_true_eq, hl]; omega), gd_pos (by simp), e0, Option.bind_some, gd_pos (by rw [hl]; omega), e2, Option.bind_some, if_pos h]
      subst k4
      rfl
    · rw [if_neg (by simp only [decide_eq_true_eq, hl]; omega), if_neg h, j5]
  rw [if_neg (by simpa using k4), if_neg k4]
  rw [hsel (fun b => p31_j4 fuel _ _ b)]
  unfold p31_j4
  simp only [kind_map, ← hk]
  have e0 : ([Mux.numAt (Mux.partsOf s) 1, Mux.numAt (Mux.partsOf s) 2, Mux.numAt (Mux.partsOf s) 3])[(0 : Int).toNat]? = some (Mux.numAt (Mux.partsOf s) 1) := rfl
  have e2 : ([Mux.numAt (Mux.partsOf s) 1, Mux.numAt (Mux.partsOf s) 2, Mux.numAt (Mux.partsOf s) 3])[(1 : Int).toNat]? = some (Mux.numAt (Mux.partsOf s) 2) := rfl
  by_cases k5 : k = 9 ∨ k = 12
  · rw [if_pos (decide_eq_true k5), if_pos k5, gd_pos (by simp), e0, Option.bind_some, gd_pos (by simp), e2, Option.bind_some]
    rfl
  · rw [if_neg (by simpa using k5), if_neg k5, gd_pos (by simp), e0, Option.bind_some]
    rfl
theorem bulkI (s : ByteArray) (hs : s.size ≤ 1048576) : (Mux.readOpI s).bulk ≤ 1048576 := by
  unfold Mux.readOpI
  simp only
  split
  · split
    · exact bulk_new _ s hs
    · exact bulk_nums 0 0 0 0
  split
  · split
    · exact bulk_split s hs
    · exact bulk_nums 0 0 0 0
  split
  · split
    · exact bulk_nums 0 0 0 0
    · exact bulk_nums _ _ _ _
  split
  · split
    · exact bulk_name s hs
    · exact bulk_nums 0 0 0 0
  split
  · exact bulk_nums _ _ _ _
  · exact bulk_nums _ _ _ _
theorem dataI (s : ByteArray) : (Mux.readOpI s).Data = [] := by
  unfold Mux.readOpI
  simp only
  split
  · split <;> rfl
  split
  · split <;> rfl
  split
  · split <;> rfl
  split
  · split <;> rfl
  split <;> rfl
theorem p11_eq (fuel : Nat) (s : ByteArray) (hs : s.size ≤ 1048576) : p11 fuel s = some (fin (Mux.textOp (Mux.readOpI s) s)) := by
  have hp : lparts s = some (Mux.partsOf s) := by unfold lparts; rw [gd_pos hs]
  have hx : dop (toI (Mux.readOpI s)) = Mux.readOpI s := by
    unfold dop toI; rfl
  have hl2 : loptext (⟨(toI (Mux.readOpI s)).Kind, (toI (Mux.readOpI s)).A, (toI (Mux.readOpI s)).B, (toI (Mux.readOpI s)).C, (toI (Mux.readOpI s)).Name, (toI (Mux.readOpI s)).Text, (toI (Mux.readOpI s)).Dir, []⟩ : IOp) = some (Mux.opText (Mux.readOpI s)) := by
    have e : (⟨(toI (Mux.readOpI s)).Kind, (toI (Mux.readOpI s)).A, (toI (Mux.readOpI s)).B, (toI (Mux.readOpI s)).C, (toI (Mux.readOpI s)).Name, (toI (Mux.readOpI s)).Text, (toI (Mux.readOpI s)).Dir, []⟩ : IOp) = toI (Mux.readOpI s) := by
      have := dataI s
      unfold toI; rw [this]
    rw [e]
    unfold loptext
    rw [hx, gd_pos (bulkI s hs)]
  unfold p11
  rw [hp, Option.bind_some, p31_eq fuel s hs, Option.bind_some, s_empty]
  by_cases h : s.toList = []
  · rw [Mux.textOp_no (.inl h), h]; rfl
  · by_cases h2 : Mux.opText (Mux.readOpI s) = s
    · rw [Mux.textOp_yes h h2]
      have hl : loptext (⟨(toI (Mux.readOpI s)).Kind, (toI (Mux.readOpI s)).A, (toI (Mux.readOpI s)).B, (toI (Mux.readOpI s)).C, (toI (Mux.readOpI s)).Name, (toI (Mux.readOpI s)).Text, (toI (Mux.readOpI s)).Dir, []⟩ : IOp) = some (Mux.opText (Mux.readOpI s)) := hl2
      simp only [decide_eq_false h, hl, h2, Bool.false_eq_true, if_false, Option.bind_some, decide_true, Bool.not_true]
      have := dataI s
      unfold fin toI
      simp only [this]
    · rw [Mux.textOp_no (.inr h2)]
      have hl : loptext (⟨(toI (Mux.readOpI s)).Kind, (toI (Mux.readOpI s)).A, (toI (Mux.readOpI s)).B, (toI (Mux.readOpI s)).C, (toI (Mux.readOpI s)).Name, (toI (Mux.readOpI s)).Text, (toI (Mux.readOpI s)).Dir, []⟩ : IOp) = some (Mux.opText (Mux.readOpI s)) := hl2
      simp only [decide_eq_false h, hl, Bool.false_eq_true, if_false, Option.bind_some, decide_eq_false h2, Bool.not_false, if_true]
      rfl
theorem same_op (s : ByteArray) (hs : s.size ≤ 1048576) : ∃ x : IOp × Bool, x.1.Data = [] ∧ p10 10 s = some x ∧ p11 10 s = some x := by
  refine ⟨fin (Mux.textOp (Mux.readOpI s) s), ?_, ?_, p11_eq 10 s hs⟩
  · unfold Mux.textOp
    split
    · rfl
    · exact dataI s
  · rw [p10_eq s hs, Mux.textOp_same]
open Go.RowKit Go.Proofs
/-! ### The law of TextOp -/
theorem p23_nil : p23 10 [] [] = some true := rfl
theorem p25_nil (k : Int) : p25 10 [] k = some k := rfl
theorem p27_nil (k : Int) : p27 10 [] k = some k := rfl
theorem p12_same (k a b c : Int) (n t d : ByteArray) : p12 10 ⟨k, a, b, c, n, t, d, []⟩ ⟨k, a, b, c, n, t, d, []⟩ = some true := by
  unfold p12
  simp [p23_nil]
theorem p13_nil (k a b c : Int) (n t d : ByteArray) (m : Int) : p13 10 ⟨k, a, b, c, n, t, d, []⟩ m = some m := rfl
theorem p14_nil (k a b c : Int) (n t d : ByteArray) : p14 10 ⟨k, a, b, c, n, t, d, []⟩ 1 = some 1 := rfl
theorem p4_true (s : ByteArray) : p4 10 s = some true := by
  unfold p4
  by_cases h : s.size ≤ 1048576
  · rw [if_neg (by simp only [decide_eq_true_eq]; omega)]
    obtain ⟨x, hd, h1, h2⟩ := same_op s h
    simp only [h1, h2, Option.bind_some, p12_same, p13_nil, p14_nil]
    simp
  · rw [if_pos (by simp only [decide_eq_true_eq]; omega)]
/-- What the law's function answers, whatever lies in memory. -/
theorem law_pc {G : Nat} {E : World → Prop} (hcl : Cl G E) (s : ByteArray) : PCalls Tryd.prog G E 4 [.v (.string s)] [] (.v (.bool true)) [] := c4 hcl (p4_true s)
/-- The library's variables lie below: they stay where nothing below turns. -/
theorem env_stays {w w' : World} (he : ENV w) (h : ∀ b, b < w.heap.size → w'.heap[b]? = w.heap[b]?) : ENV w' := by
  have hz : w.heap.size ≤ w'.heap.size := by
    rcases Nat.eq_zero_or_pos w.heap.size with h0 | h0
    · omega
    · have h1 := h (w.heap.size - 1) (by omega)
      have h2 : w.heap[w.heap.size - 1]? = some (w.heap[w.heap.size - 1]'(by omega)) := Array.getElem?_eq_getElem _
      rw [h2] at h1
      have := (Array.getElem?_eq_some_iff.1 h1).1
      omega
  have hb : Below w.heap.size w { w' with os := w.os, tape := w.tape, output := w.output } := ⟨rfl, rfl, rfl, hz, h⟩
  have h2 := Mux.Env.mono he hb
  exact ⟨h2.tab, h2.syn, h2.rng, h2.max⟩
set_option maxRecDepth 100000 in
theorem law_TextOp (w : World) (s : ByteArray) (hs : s.size ≤ 9223372036854775807) (he : ENV w) : Calls Tryd.prog 4 #[.string s] w fun e w' => e = .returned (.bool true) ∧ Below w.heap.size w w' := by
  have hcl : Cl w.heap.size (fun w' => ∀ b, b < w.heap.size → w'.heap[b]? = w.heap[b]?) := ⟨fun w1 w2 h1 hh b hb => (hh b hb).trans (h1 b hb), fun w' h => env_stays he h⟩
  have h := (law_pc hcl s).2 w (fun _ => False) [.string s] [] [] [] (Nat.le_refl _) (fun _ _ => rfl) rfl rfl (by simp) (by simp) (fun b hb => hb.elim) ⟨[], [], rfl, ⟨rfl, rfl, hs⟩, rfl⟩ (fun j p cs L hj => by simp at hj)
  refine (Arrive.calls (f := 4) (fn := Tryd.f4) (by kernel_rfl) (by kernel_rfl) rfl h).mono ?_
  rintro e w' ⟨u, Lr, Le', rfl, h1, h2, h3, h4, h5, h6⟩
  obtain ⟨-, e, -⟩ := h4
  subst e
  refine ⟨rfl, h6.os, h6.tape, h6.output, h6.size, fun b hb => h6.old b hb (by simp)⟩
end Go.Px
