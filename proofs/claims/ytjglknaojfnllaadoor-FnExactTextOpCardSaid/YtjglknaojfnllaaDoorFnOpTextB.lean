/- What OpText writes, in plain words; small functions. -/
import Derived.Test.YtjglknaojfnllaaDoorFnOpOkS
import Derived.Test.YtjglknaojfnllaaDoorFnParts
set_option linter.unusedSimpArgs false
set_option linter.unusedVariables false
namespace Go.Mux
open Go.RowKit
def bl : ByteArray := ⟨#[32]⟩
@[irreducible] def dirOk (s : ByteArray) : Bool := !(decide (s.toList = [45]) || hasByte s 32)
@[irreducible] def dirT (s : ByteArray) : ByteArray := if s.toList = [] then ⟨#[45]⟩ else s
@[irreducible] def sideT (n : Int) : ByteArray := if n = 76 then ⟨#[108, 101, 102, 116]⟩ else if n = 82 then ⟨#[114, 105, 103, 104, 116]⟩ else if n = 85 then ⟨#[117, 112]⟩ else ⟨#[100, 111, 119, 110]⟩
/-- The words of an operation that is in order, ahead of Dir and Text. -/
def headW (x : DOp) : List ByteArray :=
  if x.Kind = 1 then [⟨#[110, 101, 119]⟩, x.Name]
  else if x.Kind = 2 then [⟨#[119, 105, 110, 100, 111, 119]⟩, x.Name]
  else if x.Kind = 3 then [⟨#[115, 112, 108, 105, 116]⟩, numText x.A, if x.B = 1 then ⟨#[98, 101, 108, 111, 119]⟩ else ⟨#[98, 101, 115, 105, 100, 101]⟩]
  else if x.Kind = 4 then [⟨#[107, 105, 108, 108]⟩, numText x.A]
  else if x.Kind = 7 then [⟨#[115, 101, 108, 101, 99, 116]⟩, numText x.A]
  else if x.Kind = 14 then [⟨#[114, 101, 115, 116, 97, 114, 116]⟩, numText x.A]
  else if x.Kind = 8 then [⟨#[122, 111, 111, 109]⟩, numText x.A]
  else if x.Kind = 9 then [⟨#[115, 119, 97, 112]⟩, numText x.A, numText x.B]
  else if x.Kind = 10 then [⟨#[103, 114, 111, 119]⟩, numText x.A, sideT x.B, numText x.C]
  else if x.Kind = 11 then [⟨#[110, 97, 109, 101]⟩, numText x.A, x.Name]
  else if x.Kind = 12 then [⟨#[115, 105, 122, 101]⟩, numText x.A, numText x.B]
  else []
def hasLine (x : DOp) : Bool := !(decide (x.Kind = 5) || (decide (x.Kind = 6) || decide (x.Kind = 13)))
def hasDir (x : DOp) : Bool := decide (x.Kind = 1 ∨ x.Kind = 2 ∨ x.Kind = 3)
def tailW (x : DOp) : List ByteArray := if hasDir x then dirT x.Dir :: (if x.Text.toList = [] then [] else [x.Text]) else []
@[irreducible] def opText (x : DOp) : ByteArray := if opOkB x && (hasLine x && (!hasDir x || dirOk x.Dir)) then joinT (headW x ++ tailW x) bl else ⟨#[]⟩
theorem joinT2 (a b : ByteArray) : joinT [a, b] bl = (a ++ bl) ++ b := by
  refine Go.WideShapes.bytes_inj ?_
  unfold joinT bl
  simp [Lib.join_cons, Lib.joinTail, ByteArray.toList_data_append]
theorem joinT_snoc (l : List ByteArray) (hl : l ≠ []) (b : ByteArray) : joinT (l ++ [b]) bl = (joinT l bl ++ bl) ++ b := by
  refine Go.WideShapes.bytes_inj ?_
  obtain ⟨a, l, rfl⟩ := List.exists_cons_of_ne_nil hl
  unfold joinT bl
  simp [Lib.join_cons, Lib.joinTail, ByteArray.toList_data_append]
theorem joinT3 (a b c : ByteArray) : joinT [a, b, c] bl = ((((a ++ bl) ++ b) ++ bl) ++ c) := by rw [show [a, b, c] = [a, b] ++ [c] from rfl, joinT_snoc _ (by simp), joinT2]
theorem joinT4 (a b c d : ByteArray) : joinT [a, b, c, d] bl = ((((((a ++ bl) ++ b) ++ bl) ++ c) ++ bl) ++ d) := by rw [show [a, b, c, d] = [a, b, c] ++ [d] from rfl, joinT_snoc _ (by simp), joinT3]
theorem joinT5 (a b c d e : ByteArray) : joinT [a, b, c, d, e] bl = ((((((((a ++ bl) ++ b) ++ bl) ++ c) ++ bl) ++ d) ++ bl) ++ e) := by rw [show [a, b, c, d, e] = [a, b, c, d] ++ [e] from rfl, joinT_snoc _ (by simp), joinT4]
theorem opText_no {x : DOp} (h : (opOkB x && (hasLine x && (!hasDir x || dirOk x.Dir))) = false) : opText x = ⟨#[]⟩ := by unfold opText; simp [h]
theorem opText_yes {x : DOp} (h : (opOkB x && (hasLine x && (!hasDir x || dirOk x.Dir))) = true) : opText x = joinT (headW x ++ tailW x) bl := by unfold opText; rw [if_pos h]
theorem eq_dash {s : ByteArray} (h : s.toList = [45]) : s = ⟨#[45]⟩ := Go.WideShapes.bytes_inj (by rw [← ByteArray.toList_eq, h])
theorem eq_none {s : ByteArray} (h : s.toList = []) : s = ⟨#[]⟩ := Go.WideShapes.bytes_inj (by rw [← ByteArray.toList_eq, h])
end Go.Mux
namespace Go.Proofs.YtjglknaojfnllaaDoor
open Go.RowKit Go.Mux
theorem spec_l18Side (w : World) (n : Int) : Calls Tryd.prog 29 #[.int .i64 n] w (Pure w (.string (sideT n))) := by
  by_cases h1 : n = 76
  · subst h1
    go_enter Tryd.func29, Tryd.ntmps29
    go_wp2
    go_ret
    exact ⟨by unfold sideT; simp, rfl⟩
  have e1 : (n == 76) = false := by simpa using h1
  have f1 : decide (n = 76) = false := decide_eq_false h1
  by_cases h2 : n = 82
  · subst h2
    go_enter Tryd.func29, Tryd.ntmps29
    go_wp2
    go_ret
    exact ⟨by unfold sideT; simp, rfl⟩
  have e2 : (n == 82) = false := by simpa using h2
  have f2 : decide (n = 82) = false := decide_eq_false h2
  by_cases h3 : n = 85
  · subst h3
    go_enter Tryd.func29, Tryd.ntmps29
    go_wp2
    go_ret
    exact ⟨by unfold sideT; simp, rfl⟩
  have e3 : (n == 85) = false := by simpa using h3
  have f3 : decide (n = 85) = false := decide_eq_false h3
  go_enter Tryd.func29, Tryd.ntmps29
  go_wp2
  go_ret
  exact ⟨by unfold sideT; simp [h1, h2, h3], rfl⟩
set_option maxHeartbeats 1000000 in
theorem spec_l18Dir (w : World) (s : ByteArray) (hs : s.size ≤ 1048576) : Calls Tryd.prog 49 #[.string s] w (Gives w fun r _ => r = .string (cond (dirOk s) (dirT s) ⟨#[]⟩)) := by
  by_cases h1 : s.toList = [45]
  · have e1 : (s.toList == [45]) = true := by simpa using h1
    have f1 : decide (s.toList = [45]) = true := decide_eq_true h1
    have HN := Lib.hid (show dirOk s = false by unfold dirOk; simp [h1])
    go_enter Tryd.func49, Tryd.ntmps49
    go_wp2_with fail
    go_ret
    exact ⟨_, rfl, by rw [HN.out] <;> rfl, Below.refl _ _⟩
  have e1 : (s.toList == [45]) = false := by simpa using h1
  have f1 : decide (s.toList = [45]) = false := decide_eq_false h1
  have HM := partsOf_many s
  cases hb : hasByte s 32
  rotate_left
  · rw [hb] at HM
    have HN := Lib.hid (show dirOk s = false by unfold dirOk; simp [hb])
    have hm : 1 < (partsOf s).length := by simpa using HM
    clear h1 hb
    have m1 : decide ((1 : Int) < ((partsOf s).length : Int)) = true := decide_eq_true (by omega)
    go_enter Tryd.func49, Tryd.ntmps49
    go_wp2_with (go_at_call 15; refine (spec_Parts _ s hs).mono ?_; rintro e W1 ⟨v1, rfl, hF, hb1⟩; obtain ⟨va, vn, vc, rfl⟩ := hF.repS.shape; have hvn : vn = (partsOf s).length := (by obtain ⟨_, _, e, _⟩ := hF.repS; injection e); subst hvn; have HB1 := Lib.hid hb1; clear hb1 hF)
    go_ret
    exact ⟨_, rfl, by rw [HN.out] <;> rfl, HB1.out⟩
  · rw [hb] at HM
    have HN := Lib.hid (show dirOk s = true by unfold dirOk; simp [hb, h1])
    have hm : ¬ 1 < (partsOf s).length := by simpa using HM
    have m1 : decide ((1 : Int) < ((partsOf s).length : Int)) = false := decide_eq_false (by omega)
    clear h1 hb
    by_cases h2 : s.toList = []
    · have e2 : (s.toList == []) = true := by simpa using h2
      have f2 : decide (s.toList = []) = true := decide_eq_true h2
      have HD := Lib.hid (show dirT s = ⟨#[45]⟩ by unfold dirT; rw [if_pos h2])
      go_enter Tryd.func49, Tryd.ntmps49
      go_wp2_with (go_at_call 15; refine (spec_Parts _ s hs).mono ?_; rintro e W1 ⟨v1, rfl, hF, hb1⟩; obtain ⟨va, vn, vc, rfl⟩ := hF.repS.shape; have hvn : vn = (partsOf s).length := (by obtain ⟨_, _, e, _⟩ := hF.repS; injection e); subst hvn; have HB1 := Lib.hid hb1; clear hb1 hF)
      go_ret
      exact ⟨_, rfl, by rw [HN.out, HD.out] <;> rfl, HB1.out⟩
    · have e2 : (s.toList == []) = false := by simpa using h2
      have f2 : decide (s.toList = []) = false := decide_eq_false h2
      have HD := Lib.hid (show dirT s = s by unfold dirT; rw [if_neg h2])
      go_enter Tryd.func49, Tryd.ntmps49
      go_wp2_with (go_at_call 15; refine (spec_Parts _ s hs).mono ?_; rintro e W1 ⟨v1, rfl, hF, hb1⟩; obtain ⟨va, vn, vc, rfl⟩ := hF.repS.shape; have hvn : vn = (partsOf s).length := (by obtain ⟨_, _, e, _⟩ := hF.repS; injection e); subst hvn; have HB1 := Lib.hid hb1; clear hb1 hF)
      go_ret
      exact ⟨_, rfl, by rw [HN.out, HD.out] <;> rfl, HB1.out⟩
theorem impl_dirText (w : World) (s : ByteArray) : Calls Tryd.prog 57 #[.string s] w (Pure w (.tuple #[.string (dirT s), .bool (dirOk s)])) := by
  by_cases h2 : s.toList = []
  · have e2 : (s.toList == []) = true := by simpa using h2
    have f2 : decide (s.toList = []) = true := decide_eq_true h2
    have HD := Lib.hid (show dirT s = ⟨#[45]⟩ by unfold dirT; rw [if_pos h2])
    have HN := Lib.hid (show dirOk s = true by have e := eq_none h2; subst e; unfold dirOk; rw [hasByte_nil, h2]; simp)
    go_enter Tryd.func57, Tryd.ntmps57
    go_wp2_with fail
    exact bodyPost_ret (v := .tuple #[.string ⟨#[45]⟩, .bool true]) (by simp [results, Tryd.results57, go_sem]) rfl ⟨by rw [HD.out, HN.out], rfl⟩
  have e2 : (s.toList == []) = false := by simpa using h2
  have f2 : decide (s.toList = []) = false := decide_eq_false h2
  have HD := Lib.hid (show dirT s = s by unfold dirT; rw [if_neg h2])
  by_cases h1 : s.toList = [45]
  · have n1 : (s.toList != [45]) = false := by simpa using h1
    have e1 : (s.toList == [45]) = true := by simpa using h1
    have f1 : decide (s.toList = [45]) = true := decide_eq_true h1
    have HN := Lib.hid (show dirOk s = false by unfold dirOk; simp [h1])
    go_enter Tryd.func57, Tryd.ntmps57
    go_wp2_with fail
    exact bodyPost_ret (v := .tuple #[.string s, .bool false]) (by simp [results, Tryd.results57, go_sem]) rfl ⟨by rw [HD.out, HN.out], rfl⟩
  · have n1 : (s.toList != [45]) = true := by simpa using h1
    have e1 : (s.toList == [45]) = false := by simpa using h1
    have f1 : decide (s.toList = [45]) = false := decide_eq_false h1
    have HN := Lib.hid (show dirOk s = !hasByte s 32 by unfold dirOk; simp [h1])
    go_enter Tryd.func57, Tryd.ntmps57
    go_wp2_with (go_at_call 64; refine (strings_contains _ _ 32).mono ?_; rintro e w' ⟨rfl, rfl⟩)
    exact bodyPost_ret (v := .tuple #[.string s, .bool (!hasByte s 32)]) (by simp [results, Tryd.results57, go_sem]) rfl ⟨by rw [HD.out, HN.out], rfl⟩
end Go.Proofs.YtjglknaojfnllaaDoor
