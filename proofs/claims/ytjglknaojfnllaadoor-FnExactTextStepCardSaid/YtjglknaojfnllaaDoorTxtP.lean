/- Lines and their words, in plain Lean: words between blanks, what stands behind the first blanks, bytes read from digits of base 16; a step's line. -/
import Derived.Test.YtjglknaojfnllaaDoorTxtN
import Derived.Test.YtjglknaojfnllaaDoorFnParts
import Derived.Test.YtjglknaojfnllaaDoorFnNums
import Derived.Lib.SplitLaws
set_option linter.unusedSimpArgs false
set_option linter.unusedVariables false
namespace Go.Mux
open Go.RowKit
/-! ### Words -/
/-- What stands behind the first n blanks. -/
def restL : Nat → List UInt8 → List UInt8
  | _, [] => []
  | n, b :: l => if b = 32 then (if n = 1 then l else restL (n - 1) l) else restL n l
@[irreducible] def restOf (s : ByteArray) (n : Nat) : ByteArray := ⟨(restL n s.data.toList).toArray⟩
/-- A word of a line, empty where there is none. -/
@[irreducible] def wordAt (l : List ByteArray) (i : Nat) : ByteArray := l[i]?.getD ByteArray.empty
theorem partsL_plain (l : List UInt8) : ∀ cur, (32 : UInt8) ∉ l → partsL cur l = [cur ++ l] := by
  induction l with
  | nil => intro cur _; simp [partsL]
  | cons b l ih =>
    intro cur h
    simp only [List.mem_cons, not_or] at h
    unfold partsL
    rw [if_neg (Ne.symm h.1), ih _ h.2]
    simp
theorem partsL_cut (a b : List UInt8) : ∀ cur, (32 : UInt8) ∉ a → partsL cur (a ++ 32 :: b) = (cur ++ a) :: partsL [] b := by
  induction a with
  | nil => intro cur _; simp [partsL]
  | cons c a ih =>
    intro cur h
    simp only [List.mem_cons, not_or] at h
    rw [List.cons_append, partsL, if_neg (Ne.symm h.1), ih _ h.2]
    simp
theorem restL_plain (l : List UInt8) : ∀ n, (32 : UInt8) ∉ l → restL n l = [] := by
  induction l with
  | nil => intro n _; rfl
  | cons b l ih =>
    intro n h
    simp only [List.mem_cons, not_or] at h
    rw [restL, if_neg (Ne.symm h.1), ih _ h.2]
theorem restL_cut (a b : List UInt8) : (32 : UInt8) ∉ a → restL 1 (a ++ 32 :: b) = b := by
  induction a with
  | nil => intro _; simp [restL]
  | cons c a ih =>
    intro h
    simp only [List.mem_cons, not_or] at h
    rw [List.cons_append, restL, if_neg (Ne.symm h.1), ih h.2]
/-- A line's first blank. -/
theorem line_cases (l : List UInt8) : (32 : UInt8) ∉ l ∨ ∃ a b, l = a ++ 32 :: b ∧ (32 : UInt8) ∉ a := by
  induction l with
  | nil => exact .inl (by simp)
  | cons c l ih =>
    by_cases hc : c = 32
    · exact .inr ⟨[], l, by simp [hc], by simp⟩
    · rcases ih with h | ⟨a, b, h1, h2⟩
      · exact .inl (by simp only [List.mem_cons, not_or]; exact ⟨Ne.symm hc, h⟩)
      · exact .inr ⟨c :: a, b, by simp [h1], by simp only [List.mem_cons, not_or]; exact ⟨Ne.symm hc, h2⟩⟩
theorem mk_list (l : List UInt8) : (ByteArray.mk l.toArray).data.toList = l := rfl
/-- The words behind the first. -/
theorem words_rest (s : ByteArray) : (∃ w, partsOf s = w :: partsOf (restOf s 1)) ∨ (partsOf s = [s] ∧ restOf s 1 = ByteArray.empty) := by
  rcases line_cases s.data.toList with h | ⟨a, b, h1, h2⟩
  · refine .inr ⟨?_, ?_⟩
    · unfold partsOf
      rw [partsL_plain _ _ h]
      rfl
    · unfold restOf
      rw [restL_plain _ _ h]
      rfl
  · refine .inl ⟨⟨a.toArray⟩, ?_⟩
    unfold partsOf restOf
    rw [h1, partsL_cut _ _ _ h2, mk_list, restL_cut _ _ h2]
    rfl
theorem parts_empty : partsOf ByteArray.empty = [ByteArray.empty] := rfl
theorem wordAt_rest (s : ByteArray) (i : Nat) : wordAt (partsOf s) (i + 1) = (partsOf (restOf s 1))[i]?.getD ByteArray.empty := by
  unfold wordAt
  rcases words_rest s with ⟨w, h⟩ | ⟨h1, h2⟩
  · rw [h]; rfl
  · rw [h1, h2, parts_empty]
    cases i <;> rfl
theorem drop_rest (s : ByteArray) : (partsOf s).drop 2 = (partsOf (restOf s 1)).drop 1 := by
  rcases words_rest s with ⟨w, h⟩ | ⟨h1, h2⟩
  · rw [h]; rfl
  · rw [h1, h2, parts_empty]; rfl
/-! ### Bytes out of digits -/
@[irreducible] def digitOf (c : UInt8) : Option Nat := if 48 ≤ c.toNat ∧ c.toNat ≤ 57 then some (c.toNat - 48) else if 97 ≤ c.toNat ∧ c.toNat ≤ 102 then some (c.toNat - 87) else none
def unhexI : List UInt8 → List UInt8
  | a :: b :: l => match digitOf a, digitOf b with
    | some x, some y => UInt8.ofNat (16 * x + y) :: unhexI l
    | _, _ => []
  | _ => []
def unhexS : List UInt8 → List UInt8
  | a :: b :: l => UInt8.ofNat (16 * (digitOf a).getD 0 + (digitOf b).getD 0) :: unhexS l
  | _ => []
theorem digit_dig_fin : ∀ d : Fin 16, digitOf (hexDig d.val) = some d.val := by
  unfold digitOf hexDig
  decide
theorem digit_dig {d : Nat} (h : d < 16) : digitOf (hexDig d) = some d := digit_dig_fin ⟨d, h⟩
theorem hex_pair (b : UInt8) : UInt8.ofNat (16 * (b.toNat / 16) + b.toNat % 16) = b := by
  rw [Nat.div_add_mod]
  simp
theorem unhexI_hex : ∀ l : List UInt8, unhexI (hexL l) = l
  | [] => rfl
  | b :: l => by
    have hb := b.toNat_lt
    rw [hexL, unhexI, digit_dig (by omega), digit_dig (by omega)]
    simp only
    rw [hex_pair, unhexI_hex l]
theorem unhexS_hex : ∀ l : List UInt8, unhexS (hexL l) = l
  | [] => rfl
  | b :: l => by
    have hb := b.toNat_lt
    rw [hexL, unhexS, digit_dig (by omega), digit_dig (by omega)]
    simp only [Option.getD_some]
    rw [hex_pair, unhexS_hex l]
/-! ### Steps -/
@[irreducible] def kindOf (w : ByteArray) : Int :=
  if w = ⟨#[115, 116, 97, 114, 116]⟩ then 1 else if w = ⟨#[115, 121, 110, 99]⟩ then 2 else if w = ⟨#[112, 97, 99, 107]⟩ then 3 else if w = ⟨#[99, 114, 97, 115, 104]⟩ then 4
  else if w = ⟨#[112, 111, 119, 101, 114]⟩ then 5 else if w = ⟨#[108, 105, 110, 101]⟩ then 6 else if w = ⟨#[111, 117, 116]⟩ then 7 else if w = ⟨#[101, 110, 100]⟩ then 8 else 0
def numAt (l : List ByteArray) (i : Nat) : Int := (textNum (wordAt l i)).1
def zeroStep : DStep := { Kind := 0, A := 0, B := 0, Text := ByteArray.empty, Data := [], Cuts := [] }
def readStep (dec : List UInt8 → List UInt8) (s : ByteArray) : DStep :=
  let W := partsOf s
  if kindOf (wordAt W 0) = 4 then { zeroStep with Kind := 4, A := numAt W 1, Cuts := (W.drop 2).map fun w => (textNum w).1 }
  else if kindOf (wordAt W 0) = 5 then { zeroStep with Kind := 5, A := numAt W 1, B := if wordAt W 2 = ⟨#[110, 111, 110, 101]⟩ then -1 else numAt W 2 }
  else if kindOf (wordAt W 0) = 6 then { zeroStep with Kind := 6, Text := restOf s 1 }
  else if kindOf (wordAt W 0) = 7 then { zeroStep with Kind := 7, A := numAt W 1, Data := dec (wordAt W 2).data.toList }
  else if kindOf (wordAt W 0) = 8 then { zeroStep with Kind := 8, A := numAt W 1, B := numAt W 2 }
  else { zeroStep with Kind := kindOf (wordAt W 0) }
@[irreducible] def textStep (dec : List UInt8 → List UInt8) (s : ByteArray) : DStep × Bool := if s.toList = [] ∨ stepText (readStep dec s) ≠ s then (zeroStep, false) else (readStep dec s, true)
theorem hexDig_ne (d : Fin 16) : hexDig d.val ≠ 32 := by
  revert d
  unfold hexDig
  decide
theorem hexL_ne (l : List UInt8) : (32 : UInt8) ∉ hexL l := by
  induction l with
  | nil => simp [hexL]
  | cons b l ih =>
    have hb := b.toNat_lt
    simp only [hexL, List.mem_cons, not_or]
    exact ⟨Ne.symm (hexDig_ne ⟨b.toNat / 16, by omega⟩), Ne.symm (hexDig_ne ⟨b.toNat % 16, by omega⟩), ih⟩
theorem dec_blank : ∀ (k n : Nat), n ≤ k → (32 : UInt8) ∉ Lib.decDigits n
  | k, n, hk => by
    have hd : ∀ d : Fin 10, UInt8.ofNat (48 + d.val) ≠ 32 := by decide
    by_cases h : n < 10
    · rw [dec_small h]
      simp only [List.mem_singleton]
      exact Ne.symm (hd ⟨n, h⟩)
    · rw [dec_big h]
      match k, hk with
      | 0, hk => omega
      | k + 1, hk =>
        simp only [List.mem_append, List.mem_singleton, not_or]
        exact ⟨dec_blank k (n / 10) (by omega), Ne.symm (hd ⟨n % 10, by omega⟩)⟩
theorem numText_blank (n : Int) : (32 : UInt8) ∉ (numText n).data.toList := by
  unfold numText
  split
  · exact dec_blank _ _ (Nat.le_refl _)
  · show (32 : UInt8) ∉ ([] : List UInt8)
    simp
theorem out_parts (a : Int) (d : List UInt8) : wordAt (partsOf ((((⟨#[111, 117, 116, 32]⟩ : ByteArray) ++ numText a) ++ ⟨#[32]⟩) ++ hexT d)) 2 = hexT d := by
  have e : ((((⟨#[111, 117, 116, 32]⟩ : ByteArray) ++ numText a) ++ ⟨#[32]⟩) ++ hexT d).data.toList = [111, 117, 116] ++ 32 :: ((numText a).data.toList ++ 32 :: hexL d) := by
    simp [ByteArray.toList_data_append, hexT]
  unfold wordAt partsOf
  rw [e, partsL_cut _ _ _ (by decide), partsL_cut _ _ _ (numText_blank a), partsL_plain _ _ (hexL_ne d)]
  rfl
theorem empty_toList : ByteArray.empty.toList = [] := by
  rw [ByteArray.toList_eq]; rfl
theorem read_same {dec dec' : List UInt8 → List UInt8} (hd : ∀ l, dec (hexL l) = l) (hd' : ∀ l, dec' (hexL l) = l) {s : ByteArray} (hs : ¬ s.toList = []) (h : stepText (readStep dec s) = s) : readStep dec' s = readStep dec s := by
  have hne : ∀ k : Int, ¬ kindOf (wordAt (partsOf s) 0) = 7 → readStep dec' s = readStep dec s := fun _ hk => by
    unfold readStep
    simp only [hk, if_false]
  by_cases hk : kindOf (wordAt (partsOf s) 0) = 7
  · have h4 : ∀ dd, readStep dd s = { zeroStep with Kind := 7, A := numAt (partsOf s) 1, Data := dd (wordAt (partsOf s) 2).data.toList } := fun dd => by
      unfold readStep
      simp only [hk]
      rfl
    have hx := h4 dec
    rw [h4 dec', hx]
    rw [hx] at h
    unfold stepText at h
    split at h
    · simp only at h
      have h2 := out_parts (numAt (partsOf s) 1) (dec (wordAt (partsOf s) 2).data.toList)
      have h3 : (((⟨#[111, 117, 116, 32]⟩ : ByteArray) ++ numText (numAt (partsOf s) 1)) ++ ⟨#[32]⟩) ++ hexT (dec (wordAt (partsOf s) 2).data.toList) = s := h
      rw [h3] at h2
      have h5 : (wordAt (partsOf s) 2).data.toList = hexL (dec (wordAt (partsOf s) 2).data.toList) := by
        conv => lhs; rw [h2]
        rfl
      have h6 : dec' (wordAt (partsOf s) 2).data.toList = dec (wordAt (partsOf s) 2).data.toList := by
        rw [h5, hd', hd]
      rw [h6]
    · refine absurd ?_ hs
      rw [← h]
      exact empty_toList
  · exact hne 0 hk
theorem textStep_same (s : ByteArray) : textStep unhexI s = textStep unhexS s := by
  unfold textStep
  by_cases hs : s.toList = []
  · rw [if_pos (.inl hs), if_pos (.inl hs)]
  · by_cases h1 : stepText (readStep unhexI s) = s
    · have e := read_same unhexI_hex unhexS_hex hs h1
      rw [if_neg (fun h => h.elim hs (fun h => h h1)), e, if_neg (fun h => h.elim hs (fun h => h h1))]
    · by_cases h2 : stepText (readStep unhexS s) = s
      · have e := read_same unhexS_hex unhexI_hex hs h2
        exact absurd (by rw [e]; exact h2) h1
      · rw [if_pos (.inr h1), if_pos (.inr h2)]
end Go.Mux
