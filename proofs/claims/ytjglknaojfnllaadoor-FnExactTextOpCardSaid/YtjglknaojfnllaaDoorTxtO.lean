/- Operations' lines, in plain Lean: what is read from a line, in the program's way and in the reference's; both count alike. -/
import Derived.Test.YtjglknaojfnllaaDoorFnOpTextB
import Derived.Test.YtjglknaojfnllaaDoorTxtW
set_option linter.unusedSimpArgs false
namespace Go.Mux
open Go.RowKit
theorem restL_succ (l : List UInt8) : ∀ n, restL (n + 2) l = restL (n + 1) (restL 1 l) := by
  induction l with
  | nil => intro n; rfl
  | cons b l ih =>
    intro n
    by_cases h : b = 32
    · simp only [restL, h, if_true]
      rw [if_neg (by omega)]
      rfl
    · simp only [restL, h, if_false]
      exact ih n
theorem restOf_succ (s : ByteArray) (n : Nat) : restOf s (n + 2) = restOf (restOf s 1) (n + 1) := by
  unfold restOf
  rw [mk_list, restL_succ]
theorem words_size (s : ByteArray) : (wordAt (partsOf s) 0).size + (restOf s 1).size ≤ s.size := by
  rcases line_cases s.data.toList with h | ⟨a, b, h1, h2⟩
  · have e1 : partsOf s = [s] := by unfold partsOf; rw [partsL_plain _ _ h]; rfl
    have e2 : restOf s 1 = ByteArray.empty := by unfold restOf; rw [restL_plain _ _ h]; rfl
    rw [e1, e2]
    unfold wordAt
    exact Nat.le_refl _
  · have e1 : partsOf s = ⟨a.toArray⟩ :: partsOf ⟨b.toArray⟩ := by unfold partsOf; rw [h1, partsL_cut _ _ _ h2, mk_list]; rfl
    have e2 : restOf s 1 = ⟨b.toArray⟩ := by unfold restOf; rw [h1, restL_cut _ _ h2]
    have e3 : s.size = a.length + (b.length + 1) := by
      have : s.data.toList.length = s.size := Array.length_toList
      rw [← this, h1]; simp
    rw [e1, e2, e3]
    unfold wordAt
    show a.length + b.length ≤ _
    omega
theorem wordAt_succ (s : ByteArray) (i : Nat) : wordAt (partsOf s) (i + 1) = wordAt (partsOf (restOf s 1)) i := by rw [wordAt_rest]; unfold wordAt; rfl
theorem words_size3 (s : ByteArray) : (wordAt (partsOf s) 1).size + (wordAt (partsOf s) 2).size + (restOf s 3).size ≤ s.size := by
  have h0 := words_size s
  have h1 := words_size (restOf s 1)
  have h2 := words_size (restOf (restOf s 1) 1)
  have e1 : wordAt (partsOf s) 1 = wordAt (partsOf (restOf s 1)) 0 := wordAt_succ s 0
  have e2 : wordAt (partsOf s) 2 = wordAt (partsOf (restOf (restOf s 1) 1)) 0 := (wordAt_succ s 1).trans (wordAt_succ _ 0)
  have e3 : restOf s 3 = restOf (restOf (restOf s 1) 1) 1 := (restOf_succ s 1).trans (restOf_succ (restOf s 1) 0)
  rw [e1, e2, e3]
  omega
theorem words_size4 (s : ByteArray) : (wordAt (partsOf s) 3).size + (restOf s 4).size ≤ s.size := by
  have h0 := words_size s
  have h1 := words_size3 (restOf s 1)
  have e1 : wordAt (partsOf s) 3 = wordAt (partsOf (restOf s 1)) 2 := wordAt_succ s 2
  have e3 : restOf s 4 = restOf (restOf s 1) 3 := restOf_succ s 2
  rw [e1, e3]
  omega
theorem joinT_one (a : ByteArray) : joinT [a] bl = a := by
  refine Go.WideShapes.bytes_inj ?_
  unfold joinT bl
  simp [Lib.join_one]
theorem joinT_cons (a b : ByteArray) (l : List ByteArray) : joinT (a :: b :: l) bl = (a ++ bl) ++ joinT (b :: l) bl := by
  refine Go.WideShapes.bytes_inj ?_
  unfold joinT bl
  simp [Lib.join_cons, Lib.joinTail, ByteArray.toList_data_append]
/-- Words, joined again. -/
theorem join_parts : ∀ (n : Nat) (s : ByteArray), s.size ≤ n → joinT (partsOf s) bl = s := by
  intro n
  induction n with
  | zero =>
    intro s h
    have : s = ByteArray.empty := Go.WideShapes.bytes_inj (by
      have h2 : s.data.toList.length = s.size := Array.length_toList
      rw [List.eq_nil_of_length_eq_zero (by omega : s.data.toList.length = 0)]; rfl)
    rw [this, parts_empty, joinT_one]
  | succ n ih =>
    intro s h
    rcases line_cases s.data.toList with h1 | ⟨a, b, h1, h2⟩
    · have e1 : partsOf s = [s] := by unfold partsOf; rw [partsL_plain _ _ h1]; rfl
      rw [e1, joinT_one]
    · have e1 : partsOf s = ⟨a.toArray⟩ :: partsOf ⟨b.toArray⟩ := by unfold partsOf; rw [h1, partsL_cut _ _ _ h2, mk_list]; rfl
      have e3 : s.size = a.length + (b.length + 1) := by
        have : s.data.toList.length = s.size := Array.length_toList
        rw [← this, h1]; simp
      have e4 := ih ⟨b.toArray⟩ (by show b.length ≤ n; omega)
      have hne : partsOf (⟨b.toArray⟩ : ByteArray) ≠ [] := by
        intro e
        have := partsOf_len (⟨b.toArray⟩ : ByteArray)
        rw [e] at this; simp at this; omega
      obtain ⟨p, l, hp⟩ := List.exists_cons_of_ne_nil hne
      rw [e1, hp, joinT_cons, ← hp, e4]
      refine Go.WideShapes.bytes_inj ?_
      rw [h1]
      simp [bl, ByteArray.toList_data_append]
theorem drop_succ (s : ByteArray) (n : Nat) : (partsOf s).drop (n + 2) = (partsOf (restOf s 1)).drop (n + 1) := by
  rcases words_rest s with ⟨w, h⟩ | ⟨h1, h2⟩
  · rw [h]; rfl
  · rw [h1, h2, parts_empty]; simp
/-- What stands behind the first n blanks: the words from there on, joined again. -/
theorem rest_join : ∀ (n : Nat) (s : ByteArray), restOf s (n + 1) = if (partsOf s).length ≤ n + 1 then ByteArray.empty else joinT ((partsOf s).drop (n + 1)) bl := by
  intro n
  induction n with
  | zero =>
    intro s
    rcases words_rest s with ⟨w, h⟩ | ⟨h1, h2⟩
    · have hp := partsOf_len (restOf s 1)
      rw [if_neg (by rw [h, List.length_cons]; omega), h]
      exact (join_parts _ _ (Nat.le_refl _)).symm
    · rw [h1, h2, if_pos (by simp)]
  | succ n ih =>
    intro s
    rw [restOf_succ, ih, drop_succ]
    rcases words_rest s with ⟨w, h⟩ | ⟨h1, h2⟩
    · by_cases hl : (partsOf (restOf s 1)).length ≤ n + 1
      · rw [if_pos hl, if_pos (by rw [h, List.length_cons]; omega)]
      · rw [if_neg hl, if_neg (by rw [h, List.length_cons]; omega)]
    · rw [h1, h2, parts_empty, if_pos (by simp), if_pos (by simp)]
theorem joinT_blanks : ∀ l : List ByteArray, l.length ≤ (joinT l bl).data.toList.count 32 + 1
  | [] => by simp
  | [a] => by simp
  | a :: b :: l => by
    have ih := joinT_blanks (b :: l)
    rw [joinT_cons, ByteArray.toList_data_append, ByteArray.toList_data_append, List.count_append, List.count_append]
    have e : bl.data.toList.count 32 = 1 := by decide
    rw [e]
    simp only [List.length_cons] at ih ⊢
    omega
/-! ### Operations -/
@[irreducible] def opKind (w : ByteArray) : Int :=
  if w = ⟨#[110, 101, 119]⟩ then 1 else if w = ⟨#[119, 105, 110, 100, 111, 119]⟩ then 2 else if w = ⟨#[115, 112, 108, 105, 116]⟩ then 3 else if w = ⟨#[107, 105, 108, 108]⟩ then 4
  else if w = ⟨#[115, 101, 108, 101, 99, 116]⟩ then 7 else if w = ⟨#[114, 101, 115, 116, 97, 114, 116]⟩ then 14 else if w = ⟨#[122, 111, 111, 109]⟩ then 8 else if w = ⟨#[115, 119, 97, 112]⟩ then 9
  else if w = ⟨#[103, 114, 111, 119]⟩ then 10 else if w = ⟨#[110, 97, 109, 101]⟩ then 11 else if w = ⟨#[115, 105, 122, 101]⟩ then 12 else 0
def zeroOp : DOp := { Kind := 0, A := 0, B := 0, C := 0, Name := ByteArray.empty, Text := ByteArray.empty, Dir := ByteArray.empty, Data := [] }
@[irreducible] def dirOf (d : ByteArray) : ByteArray := if d = ⟨#[45]⟩ then ByteArray.empty else d
@[irreducible] def sideOf (w : ByteArray) : Int := if w = ⟨#[108, 101, 102, 116]⟩ then 76 else if w = ⟨#[114, 105, 103, 104, 116]⟩ then 82 else if w = ⟨#[117, 112]⟩ then 85 else if w = ⟨#[100, 111, 119, 110]⟩ then 68 else 0
@[irreducible] def belowOf (w : ByteArray) : Int := if w = ⟨#[98, 101, 108, 111, 119]⟩ then 1 else 0
def opNew (k : Int) (s : ByteArray) : DOp := { zeroOp with Kind := k, Name := wordAt (partsOf s) 1, Text := restOf s 3, Dir := dirOf (wordAt (partsOf s) 2) }
def opSplit (s : ByteArray) : DOp := { zeroOp with Kind := 3, A := numAt (partsOf s) 1, B := belowOf (wordAt (partsOf s) 2), Text := restOf s 4, Dir := dirOf (wordAt (partsOf s) 3) }
def opGrow (s : ByteArray) : DOp := { zeroOp with Kind := 10, A := numAt (partsOf s) 1, B := sideOf (wordAt (partsOf s) 2), C := numAt (partsOf s) 3 }
def opName (s : ByteArray) : DOp := { zeroOp with Kind := 11, A := numAt (partsOf s) 1, Name := wordAt (partsOf s) 2 }
def opOne (k : Int) (s : ByteArray) : DOp := { zeroOp with Kind := k, A := numAt (partsOf s) 1 }
def opTwo (k : Int) (s : ByteArray) : DOp := { zeroOp with Kind := k, A := numAt (partsOf s) 1, B := numAt (partsOf s) 2 }
def readOpS (s : ByteArray) : DOp :=
  let k := opKind (wordAt (partsOf s) 0)
  if k = 1 ∨ k = 2 then opNew k s else if k = 3 then opSplit s else if k = 10 then opGrow s else if k = 11 then opName s
  else if k = 9 ∨ k = 12 then opTwo k s else if k = 0 then zeroOp else opOne k s
def readOpI (s : ByteArray) : DOp :=
  let k := opKind (wordAt (partsOf s) 0)
  if k = 1 ∨ k = 2 then (if 1 < (partsOf s).length then opNew k s else zeroOp)
  else if k = 3 then (if 2 < (partsOf s).length then opSplit s else zeroOp)
  else if k = 10 then (if sideOf (wordAt (partsOf s) 2) = 0 then zeroOp else opGrow s)
  else if k = 11 then (if 2 < (partsOf s).length then opName s else zeroOp)
  else if k = 9 ∨ k = 12 then opTwo k s else opOne k s
@[irreducible] def textOp (x : DOp) (s : ByteArray) : DOp × Bool := if s.toList = [] ∨ opText x ≠ s then (zeroOp, false) else (x, true)
theorem wordAt_short {l : List ByteArray} {i : Nat} (h : l.length ≤ i) : wordAt l i = ByteArray.empty := by unfold wordAt; rw [List.getElem?_eq_none h]; rfl
theorem wordOk_none : wordOk ByteArray.empty = false := by
  unfold wordOk
  rw [plainOk_all (by rfl)]
  unfold withinB
  decide
theorem opText_bad {x : DOp} (h : opOkB x = false) : opText x = ⟨#[]⟩ := opText_no (by rw [h]; rfl)
theorem not_text {x : DOp} {s : ByteArray} (h : opText x = ⟨#[]⟩) (hs : ¬ s.toList = []) : opText x ≠ s := by
  rw [h]; intro e; rw [← e] at hs; exact hs empty_toList
theorem textOp_no {x : DOp} {s : ByteArray} (h : s.toList = [] ∨ opText x ≠ s) : textOp x s = (zeroOp, false) := by unfold textOp; rw [if_pos h]
theorem textOp_yes {x : DOp} {s : ByteArray} (h : ¬ s.toList = []) (h2 : opText x = s) : textOp x s = (x, true) := by
  unfold textOp
  rw [if_neg (fun hh => hh.elim h (fun h3 => h3 h2))]
theorem zero_bad : opOkB zeroOp = false := rfl
theorem opOkB_new {x : DOp} (h : x.Kind = 1 ∨ x.Kind = 2) (hn : x.Name = ByteArray.empty) : opOkB x = false := by
  unfold opOkB
  rw [if_pos h, hn, wordOk_none]
  rfl
theorem opOkB_grow {x : DOp} (h : x.Kind = 10) (hn : x.B = 0) : opOkB x = false := by
  unfold opOkB
  rw [h, hn]
  simp only [show ¬ ((10 : Int) = 1 ∨ (10 : Int) = 2) by decide, if_false]
  have e : sideB 0 = false := by unfold sideB; decide
  simp [e]
theorem opOkB_name {x : DOp} (h : x.Kind = 11) (hn : x.Name = ByteArray.empty) : opOkB x = false := by
  unfold opOkB
  rw [h, hn, wordOk_none]
  simp
theorem opOkB_one {x : DOp} (h : x.Kind = 0) : opOkB x = false := by
  unfold opOkB
  rw [h]
  simp
theorem split_long {s : ByteArray} (hs : ¬ s.toList = []) (h : opText (opSplit s) = s) : 2 < (partsOf s).length := by
  have hy : (opOkB (opSplit s) && (hasLine (opSplit s) && (!hasDir (opSplit s) || dirOk (opSplit s).Dir))) = true := by
    rw [← Bool.not_eq_false]
    intro e
    exact not_text (opText_no e) hs h
  rw [opText_yes hy] at h
  have hb := joinT_blanks (headW (opSplit s) ++ tailW (opSplit s))
  rw [h] at hb
  have e1 : headW (opSplit s) = [⟨#[115, 112, 108, 105, 116]⟩, numText (opSplit s).A, if (opSplit s).B = 1 then ⟨#[98, 101, 108, 111, 119]⟩ else ⟨#[98, 101, 115, 105, 100, 101]⟩] := rfl
  have e2 : 1 ≤ (tailW (opSplit s)).length := by
    unfold tailW
    rw [show hasDir (opSplit s) = true from rfl, if_pos rfl, List.length_cons]
    omega
  rw [e1, List.length_append] at hb
  simp only [List.length_cons, List.length_nil] at hb
  rw [partsOf_len]
  omega
theorem textOp_same (s : ByteArray) : textOp (readOpI s) s = textOp (readOpS s) s := by
  by_cases hs : s.toList = []
  · rw [textOp_no (.inl hs), textOp_no (.inl hs)]
  · have bad : ∀ x y : DOp, opText x ≠ s → opText y ≠ s → textOp x s = textOp y s := fun x y h1 h2 => by rw [textOp_no (.inr h1), textOp_no (.inr h2)]
    have nz : opText zeroOp ≠ s := not_text (opText_bad zero_bad) hs
    unfold readOpI readOpS
    simp only
    obtain ⟨k, hk⟩ : ∃ k, k = opKind (wordAt (partsOf s) 0) := ⟨_, rfl⟩
    rw [← hk]
    clear hk
    by_cases h1 : k = 1 ∨ k = 2
    · rw [if_pos h1, if_pos h1]
      by_cases h : 1 < (partsOf s).length
      · rw [if_pos h]
      · rw [if_neg h]
        exact bad _ _ nz (not_text (opText_bad (opOkB_new h1 (wordAt_short (by omega)))) hs)
    · rw [if_neg h1, if_neg h1]
      by_cases h2 : k = 3
      · rw [if_pos h2, if_pos h2]
        by_cases h : 2 < (partsOf s).length
        · rw [if_pos h]
        · rw [if_neg h]
          exact bad _ _ nz (fun e => h (split_long hs e))
      · rw [if_neg h2, if_neg h2]
        by_cases h3 : k = 10
        · rw [if_pos h3, if_pos h3]
          by_cases h : sideOf (wordAt (partsOf s) 2) = 0
          · rw [if_pos h]
            exact bad _ _ nz (not_text (opText_bad (opOkB_grow rfl h)) hs)
          · rw [if_neg h]
        · rw [if_neg h3, if_neg h3]
          by_cases h4 : k = 11
          · rw [if_pos h4, if_pos h4]
            by_cases h : 2 < (partsOf s).length
            · rw [if_pos h]
            · rw [if_neg h]
              exact bad _ _ nz (not_text (opText_bad (opOkB_name rfl (wordAt_short (by omega)))) hs)
          · rw [if_neg h4, if_neg h4]
            by_cases h5 : k = 9 ∨ k = 12
            · rw [if_pos h5, if_pos h5]
            · rw [if_neg h5, if_neg h5]
              by_cases h6 : k = 0
              · rw [if_pos h6]
                exact bad _ _ (not_text (opText_bad (opOkB_one h6)) hs) nz
              · rw [if_neg h6]
end Go.Mux
