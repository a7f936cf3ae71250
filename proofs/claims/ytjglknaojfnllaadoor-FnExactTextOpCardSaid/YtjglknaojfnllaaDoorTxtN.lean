/- Numbers read back from their numerals, in plain Lean. -/
import Derived.Test.YtjglknaojfnllaaDoorFnNum
import Derived.Lib.AtoiTie
set_option linter.unusedSimpArgs false
set_option linter.unusedVariables false
namespace Go.Mux
open Go.RowKit
/-! ### Numbers -/
theorem decFrom_snoc (l : List UInt8) (b : UInt8) (d : Nat) (hd : Lib.digitVal b = some d) : ∀ acc n, Lib.decFrom acc l = some n → Lib.decFrom acc (l ++ [b]) = some (n * 10 + d) := by
  induction l with
  | nil => intro acc n h; simp only [Lib.decFrom, Option.some.injEq] at h; subst h; simp [Lib.decFrom, hd]
  | cons a t ih =>
    intro acc n h
    simp only [List.cons_append, Lib.decFrom] at h ⊢
    cases ha : Lib.digitVal a with
    | none => rw [ha] at h; cases h
    | some e => rw [ha] at h; exact ih _ _ h
theorem digit_val : ∀ d : Fin 10, Lib.digitVal (UInt8.ofNat (48 + d.val)) = some d.val := by decide
theorem dec_ne (n : Nat) : Lib.decDigits n ≠ [] := by
  by_cases h : n < 10
  · rw [dec_small h]; simp
  · rw [dec_big h]; simp
theorem decFrom_digits : ∀ (k n : Nat), n ≤ k → Lib.decFrom 0 (Lib.decDigits n) = some n
  | k, n, hk => by
    by_cases h : n < 10
    · rw [dec_small h]
      have hv : Lib.digitVal (UInt8.ofNat (48 + n)) = some n := digit_val ⟨n, h⟩
      unfold Lib.decFrom
      rw [hv]
      show Lib.decFrom (0 * 10 + n) [] = some n
      rw [Nat.zero_mul, Nat.zero_add]
      rfl
    · rw [dec_big h]
      match k, hk with
      | 0, hk => omega
      | k + 1, hk =>
        have h1 := decFrom_digits k (n / 10) (by omega)
        have h2 := decFrom_snoc _ _ _ (digit_val ⟨n % 10, by omega⟩) 0 _ h1
        rw [h2]
        show some (n / 10 * 10 + n % 10) = some n
        rw [Nat.div_add_mod' n 10]
theorem decNat_digits (n : Nat) : Lib.decNat (Lib.decDigits n) = some n := by
  unfold Lib.decNat
  have : (Lib.decDigits n).isEmpty = false := by cases h : Lib.decDigits n with | nil => exact absurd h (dec_ne n) | cons _ _ => rfl
  rw [this]
  exact decFrom_digits n n (Nat.le_refl _)
/-- The number that a text tells, if it is that number's numeral. -/
@[irreducible] def textNum (s : ByteArray) : Int × Bool := match Lib.decNat s.data.toList with
  | some n => if isNumB (n : Int) = true ∧ numText (n : Int) = s then ((n : Int), true) else (0, false)
  | none => (0, false)
theorem numText_of {n : Int} (h : isNumB n = true) : numText n = ⟨(Lib.decDigits n.toNat).toArray⟩ := by unfold numText; rw [if_pos h]
theorem isNum_pos {n : Int} (h : isNumB n = true) : 0 ≤ n ∧ n ≤ 4294967295 := by unfold isNumB at h; exact withinB_true.1 h
theorem textNum_yes {n : Int} {s : ByteArray} (h : isNumB n = true) (e : numText n = s) : textNum s = (n, true) := by
  have e2 : s.data.toList = Lib.decDigits n.toNat := by rw [← e, numText_of h]
  unfold textNum
  rw [e2, decNat_digits]
  have h0 := isNum_pos h
  have e3 : ((n.toNat : Nat) : Int) = n := by omega
  simp only [e3]
  rw [if_pos ⟨h, e⟩]
theorem textNum_no {s : ByteArray} (h : ∀ n : Int, isNumB n = true → numText n ≠ s) : textNum s = (0, false) := by
  unfold textNum
  split
  · next n _ => rw [if_neg fun hh => h _ hh.1 hh.2]
  · rfl
theorem textNum_cases (s : ByteArray) : (∃ n : Int, isNumB n = true ∧ numText n = s ∧ textNum s = (n, true)) ∨ ((∀ n : Int, isNumB n = true → numText n ≠ s) ∧ textNum s = (0, false)) := by
  by_cases h : ∃ n : Int, isNumB n = true ∧ numText n = s
  · obtain ⟨n, h1, h2⟩ := h
    exact .inl ⟨n, h1, h2, textNum_yes h1 h2⟩
  · exact .inr ⟨fun n h1 h2 => h ⟨n, h1, h2⟩, textNum_no fun n h1 h2 => h ⟨n, h1, h2⟩⟩
theorem atoi_num {n : Int} (h : isNumB n = true) : Lib.atoiAll (numText n).data.toList = .ok n := by
  have h0 := isNum_pos h
  have hs := numText_size n
  have hl : (numText n).data.toList.length ≤ 18 := by
    have : (numText n).data.toList.length = (numText n).size := Array.length_toList
    omega
  rw [Lib.atoiAll_short _ hl]
  have : Lib.atoi (numText n).data.toList = some n := by
    rw [numText_of h]
    show Lib.atoi (Lib.decDigits n.toNat) = some n
    have hd := decNat_digits n.toNat
    have hdig := decFrom_digits n.toNat n.toNat (Nat.le_refl _)
    cases hq : Lib.decDigits n.toNat with
    | nil => exact absurd hq (dec_ne _)
    | cons b r =>
      rw [hq] at hd hdig
      have hb : ∃ d, Lib.digitVal b = some d := Lib.digit_of_decFrom _ _ _ hdig 0 b rfl
      obtain ⟨d, hb⟩ := hb
      unfold Lib.digitVal at hb
      have hr : 48 ≤ b.toNat ∧ b.toNat ≤ 57 := by
        by_cases hh : 48 ≤ b.toNat ∧ b.toNat ≤ 57
        · exact hh
        · rw [if_neg hh] at hb; cases hb
      unfold Lib.atoi
      have n1 : (b == 45) = false := by
        rw [beq_eq_false_iff_ne]; intro e; rw [e] at hr; exact absurd hr.1 (by decide)
      have n2 : (b == 43) = false := by
        rw [beq_eq_false_iff_ne]; intro e; rw [e] at hr; exact absurd hr.1 (by decide)
      simp only [n1, n2, hd]
      show some (((n.toNat : Nat)) : Int) = some n
      congr 1
      omega
  rw [this]
  rfl
/-- What the program makes of Atoi's answer. -/
theorem textNum_atoi {s : ByteArray} {v : Int} (h : Lib.atoiAll s.data.toList = .ok v) : textNum s = if numText v = s then (v, true) else (0, false) := by
  rcases textNum_cases s with ⟨n, h1, h2, h3⟩ | ⟨h1, h2⟩
  · have := atoi_num h1
    rw [h2, h] at this
    cases this
    rw [h3, if_pos h2]
  · rw [h2]
    split
    · next e =>
      by_cases hv : isNumB v = true
      · exact absurd e (h1 v hv)
      · have he : s = ByteArray.empty := by rw [← e]; unfold numText; rw [if_neg hv]
        rw [he] at h
        cases (show Lib.atoiAll [] = _ from h)
    · rfl
theorem textNum_atoi_no {s : ByteArray} (h : ∀ v, Lib.atoiAll s.data.toList ≠ .ok v) : textNum s = (0, false) :=
  textNum_no fun n h1 h2 => h n (by rw [← h2]; exact atoi_num h1)
end Go.Mux
