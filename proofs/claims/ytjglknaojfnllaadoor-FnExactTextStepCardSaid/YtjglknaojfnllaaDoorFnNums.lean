/- A word and numbers behind it: what the steps' texts are made of; the reference's walk. -/
import Derived.Test.YtjglknaojfnllaaDoorStrs
import Derived.Test.YtjglknaojfnllaaDoorFlatApp
import Derived.Test.YtjglknaojfnllaaDoorFnIsStep
import Derived.Test.YtjglknaojfnllaaDoorFnHex
set_option linter.unusedSimpArgs false
set_option linter.unusedVariables false
namespace Go.Mux
open Go.RowKit
def numsT : ByteArray → List Int → ByteArray
  | word, [] => word
  | word, n :: l => numsT ((word ++ ⟨#[32]⟩) ++ numText n) l
theorem numsT_append (l m : List Int) : ∀ word : ByteArray, numsT word (l ++ m) = numsT (numsT word l) m := by
  induction l with
  | nil => intro word; rfl
  | cons n l ih => intro word; rw [List.cons_append, numsT, ih, numsT]
theorem numsT_size (l : List Int) : ∀ word : ByteArray, (numsT word l).size ≤ word.size + 11 * l.length := by
  induction l with
  | nil => intro word; simp [numsT]
  | cons n l ih =>
    intro word
    have h1 := ih ((word ++ ⟨#[32]⟩) ++ numText n)
    have h2 := numText_size n
    have h3 : ((word ++ (⟨#[32]⟩ : ByteArray)) ++ numText n).size = word.size + 1 + (numText n).size := by
      rw [ByteArray.size_append, ByteArray.size_append]; rfl
    rw [numsT, List.length_cons]
    omega
theorem numsT_data (l : List Int) : ∀ word : ByteArray, (numsT word l).data.toList = word.data.toList ++ Lib.joinTail [32] (l.map fun n => (numText n).data.toList) := by
  induction l with
  | nil => intro word; simp [numsT, Lib.joinTail]
  | cons n l ih =>
    intro word
    rw [numsT, ih]
    simp [Lib.joinTail, ByteArray.toList_data_append]
theorem joinT_nums (word : ByteArray) (l : List Int) : joinT (word :: l.map numText) ⟨#[32]⟩ = numsT word l := by
  have h : (joinT (word :: l.map numText) ⟨#[32]⟩).data.toList = (numsT word l).data.toList := by
    rw [numsT_data]
    unfold joinT
    rw [List.map_cons, Lib.join_cons]
    simp [Function.comp_def]
  exact Go.WideShapes.bytes_inj h
@[irreducible] def numsB (s : ByteArray) (l : List Int) : ByteArray := if l.all isNumB then numsT s l else ByteArray.empty
theorem numsB_yes {s : ByteArray} {l : List Int} (h : l.all isNumB = true) : numsB s l = numsT s l := by unfold numsB; rw [if_pos h]
theorem numsB_no {s : ByteArray} {l : List Int} (h : l.all isNumB = false) : numsB s l = ByteArray.empty := by unfold numsB; simp [h]
def stepText (x : DStep) : ByteArray :=
  if stepOk x then
    if x.Kind = 1 then ⟨#[115, 116, 97, 114, 116]⟩
    else if x.Kind = 2 then ⟨#[115, 121, 110, 99]⟩
    else if x.Kind = 3 then ⟨#[112, 97, 99, 107]⟩
    else if x.Kind = 4 then numsT ⟨#[99, 114, 97, 115, 104]⟩ (x.A :: x.Cuts)
    else if x.Kind = 5 then (if x.B = -1 then (((⟨#[112, 111, 119, 101, 114, 32]⟩ : ByteArray) ++ numText x.A) ++ ⟨#[32, 110, 111, 110, 101]⟩) else numsT ⟨#[112, 111, 119, 101, 114]⟩ [x.A, x.B])
    else if x.Kind = 6 then (⟨#[108, 105, 110, 101, 32]⟩ : ByteArray) ++ x.Text
    else if x.Kind = 7 then (((⟨#[111, 117, 116, 32]⟩ : ByteArray) ++ numText x.A) ++ ⟨#[32]⟩) ++ hexT x.Data
    else numsT ⟨#[101, 110, 100]⟩ [x.A, x.B]
  else ByteArray.empty
end Go.Mux
namespace Go.Proofs.YtjglknaojfnllaaDoor
open Go.RowKit Go.Mux
set_option maxRecDepth 100000 in
set_option maxHeartbeats 1000000 in
theorem spec_l23Nums (w : World) (s : ByteArray) (v : Value) (l : List Int) (h : RepS w v l) (hsz : l.length ≤ 1048577) (hs : s.size ≤ 100) : Calls Tryd.prog 37 #[.string s, v] w (Gives w fun r _ => r = .string (numsB s l)) := by
  obtain ⟨a0, cap, rfl, hl, hc⟩ := ints_open h
  have HC := Lib.hid hc
  clear h hc
  go_enter Tryd.func37, Tryd.ntmps37
  go_wp2_with fail
  go_loopw [0, 9] (fun o xs wr => ∃ (k : Nat), k ≤ l.length ∧ xs = .int .i64 (k : Int) ∧ o = .string (numsT s (l.take k)) ∧ Hid ((l.take k).all isNumB = true) ∧ Hid (Below w.heap.size w wr)) (fun _ xs _ => l.length - (intOf xs).toNat)
  case atStart => exact ⟨0, by omega, rfl, rfl, by show _ = true; simp, Below.refl _ _⟩
  case round =>
    obtain ⟨k, hk, rfl, rfl, HA, HB⟩ := hrel
    by_cases hlt : k < l.length
    · have d1 : decide ((k : Int) < (l.length : Int)) = true := decide_eq_true (by omega)
      have d2 : decide (k < l.length) = true := decide_eq_true hlt
      have hne : l ≠ [] := by intro e; rw [e] at hlt; simp at hlt
      obtain ⟨b, off, rfl, hc⟩ := HC.out hne
      obtain ⟨x, hx⟩ : ∃ x, l[k]? = some x := ⟨l[k], by simp [hlt]⟩
      have c1 := (hc k x hx).1
      rw [← HB.out.cell (p := ⟨b, off + k, none⟩) (World.block_lt_of_cell? w _ c1)] at c1
      have k0 : (0 : Int) ≤ (k : Int) := by omega
      have k1 : (k : Int) < (l.length : Int) := by omega
      have htk : l.take (k + 1) = l.take k ++ [x] := by rw [List.take_add_one, hx]; rfl
      have HT := Lib.hid htk
      have HX := Lib.hid hx
      clear hc hne htk hx
      cases hN : isNumB x
      · have HN := Lib.hid hN
        have HF := Lib.hid (show l.all isNumB = false from by
          rw [List.all_eq_false]
          exact ⟨x, List.mem_of_getElem? HX.out, by rw [HN.out]; simp⟩)
        clear hN
        go_wp2_with (go_at_call 38; refine (spec_l01Num _ _).mono ?_; rintro e w' ⟨rfl, rfl⟩; rw [HN.out])
        go_ret
        exact ⟨_, rfl, by show _ = Value.string _; rw [numsB_no HF.out]; rfl, HB.out⟩
      · have HN := Lib.hid hN
        have hz := numText_size x
        have hz2 := numsT_size (l.take k) s
        have hz3 : (l.take k).length ≤ 1048577 := by rw [List.length_take]; omega
        have hz4 : (numsT s (l.take k)).size ≤ 20000000 := by omega
        obtain ⟨acc, hacc⟩ : ∃ acc, acc = numsT s (l.take k) := ⟨_, rfl⟩
        have HACC := Lib.hid hacc
        rw [← hacc] at hz4 ⊢
        clear hN hz2 hz3 hacc
        go_wp2_with (first | (go_at_call 38; refine (spec_l01Num _ _).mono ?_; rintro e w' ⟨rfl, rfl⟩; rw [HN.out]) | (go_at_call 39; refine (spec_NumText _ _).mono ?_; rintro e W1 ⟨_, rfl, rfl, hb⟩; have HB1 := Lib.hid (bel_next HB.out hb); clear hb))
        go_roundw
        case rel => exact ⟨k + 1, by omega, by go_num, by rw [HT.out, numsT_append, ← HACC.out]; rfl, by show _ = true; rw [HT.out, List.all_append, HA.out]; simp [HN.out], HB1.out⟩
        case measure => simp [intOf]; omega
    · have d1 : decide ((k : Int) < (l.length : Int)) = false := decide_eq_false (by omega)
      have d2 : decide (k < l.length) = false := decide_eq_false hlt
      obtain rfl : k = l.length := by omega
      rw [List.take_length] at HA ⊢
      go_wp2_with fail
      go_ret
      exact ⟨_, rfl, by show _ = Value.string _; rw [numsB_yes HA.out]; rfl, HB.out⟩
end Go.Proofs.YtjglknaojfnllaaDoor
