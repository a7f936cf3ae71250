/- The library's and the program's contracts that TextOp leans on, over pure values. -/
import Derived.Test.YtjglknaojfnllaaDoorPxB
import Derived.Test.YtjglknaojfnllaaDoorProg
import Derived.Test.YtjglknaojfnllaaDoorFnTextNum
import Derived.Test.YtjglknaojfnllaaDoorFnSplit
import Derived.Test.YtjglknaojfnllaaDoorFnTextS
import Derived.Test.YtjglknaojfnllaaDoorFnNumbers
import Derived.Test.YtjglknaojfnllaaDoorFnOpLaws
import Derived.Test.YtjglknaojfnllaaDoorTxtO
set_option linter.unusedSimpArgs false
set_option linter.unusedVariables false
namespace Go.Px
open Go.Proofs
theorem facts : Facts Tryd.prog := Facts.of (by kernel_rfl)
theorem mixed : Tryd.prog.follows .mixedOrders = true := by kernel_rfl
open Go.RowKit
/-! ### Between the two ways to say what lies in memory -/
theorem row_str {S : Nat → Prop} {w : World} {u : Value} {l : List ByteArray} (h : Row S w .str u l) : Mux.RepS w u l := by
  obtain ⟨a, cap, rfl, h1, h2, h3⟩ := h.open
  refine ⟨a, cap, rfl, ⟨h2, h1⟩, fun hne => ?_⟩
  obtain ⟨b, off, rfl, _, hc⟩ := h3 hne
  refine ⟨b, off, rfl, fun i x hx => ⟨[.string x], ?_, fun j u hu => ?_⟩⟩
  · obtain ⟨u, hu, hv⟩ := hc i x hx 0 (.sc (.string x)) rfl
    exact ⟨rfl, hv.2⟩
  · obtain ⟨u', hu', hv⟩ := hc i x hx 0 (.sc (.string x)) rfl
    match j, hu with
    | 0, hu =>
      cases hu
      have e : u' = .string x := hv.1
      subst e
      show w.cell? ⟨b, off + i * 1 + 0, none⟩ = _
      have hu' : w.cell? ⟨b, off + (i * 1 + 0), none⟩ = _ := hu'
      rw [Nat.add_assoc]; exact hu'
    | j + 1, hu => simp at hu
theorem row_u8 {S : Nat → Prop} {w : World} {u : Value} {l : List UInt8} (h : Row S w .u8 u l) : Mux.RepS w u l := by
  obtain ⟨a, cap, rfl, h1, h2, h3⟩ := h.open
  refine ⟨a, cap, rfl, ⟨h2, h1⟩, fun hne => ?_⟩
  obtain ⟨b, off, rfl, _, hc⟩ := h3 hne
  refine ⟨b, off, rfl, fun i x hx => ⟨[.int .u8 x.toNat], rfl, fun j u hu => ?_⟩⟩
  obtain ⟨u', hu', hv⟩ := hc i x hx 0 (.sc (.int .u8 x.toNat)) rfl
  match j, hu with
  | 0, hu =>
    cases hu
    have e : u' = .int .u8 x.toNat := hv.1
    subst e
    show w.cell? ⟨b, off + i * 1 + 0, none⟩ = _
    have hu' : w.cell? ⟨b, off + (i * 1 + 0), none⟩ = _ := hu'
    rw [Nat.add_assoc]; exact hu'
  | j + 1, hu => simp at hu
theorem own_str {w w' : World} {v : Value} {l : List ByteArray} (h : Mux.FreshS w.heap.size w' v l) : ∃ L, (∀ S, Own S w' .str v l L) ∧ ∀ b ∈ L, w.heap.size ≤ b ∧ b < w'.heap.size := by
  obtain ⟨fp, ⟨rows, fps, ⟨hlen, hrow⟩, hl, hr, hf, hel, rfl⟩, hn, hge⟩ := h
  rcases hrow with ⟨rfl, hn0⟩ | ⟨g, cap, cur, rfl, _, ⟨fz, hat, hice⟩, hcap, hmax, hsz, htake⟩
  · exact ⟨[], fun S => .inl ⟨rfl, List.eq_nil_of_length_eq_zero hn0, rfl⟩, by simp⟩
  · have hrows : rows = l.map fun x => [Value.string x] := by
      apply List.ext_getElem?
      intro i
      rw [List.getElem?_map]
      cases hx : l[i]? with
      | none => rw [List.getElem?_eq_none (by rw [hr]; exact List.getElem?_eq_none_iff.1 hx)]; rfl
      | some x =>
        have hi := (List.getElem?_eq_some_iff.1 hx).1
        obtain ⟨r, hr2⟩ : ∃ r, rows[i]? = some r := ⟨rows[i], by simp [hr, hi]⟩
        obtain ⟨f, hf2⟩ : ∃ f, fps[i]? = some f := ⟨fps[i], by simp [hf, hi]⟩
        have := hel i x r f hx hr2 hf2
        rw [hr2, this.1.1]; rfl
    have hflat : rows.flatten = l.map Value.string := by
      rw [hrows]
      have key : ∀ l : List ByteArray, (l.map fun x => [Value.string x]).flatten = l.map Value.string := fun l => by induction l <;> simp_all
      exact key l
    refine ⟨[g], fun S => .inr ⟨g, cap, cur, rfl, rfl, hl, ⟨fz, hat, hice⟩, hcap, hmax, hsz, fun i x hx j lf hlf => ?_⟩, fun b hb => ?_⟩
    · have hi := (List.getElem?_eq_some_iff.1 hx).1
      have hsize : x.size ≤ 9223372036854775807 := by
        obtain ⟨r, hr2⟩ : ∃ r, rows[i]? = some r := ⟨rows[i], by simp [hr, hi]⟩
        obtain ⟨f, hf2⟩ : ∃ f, fps[i]? = some f := ⟨fps[i], by simp [hf, hi]⟩
        exact (hel i x r f hx hr2 hf2).1.2
      match j, hlf with
      | 0, hlf =>
        cases hlf
        refine ⟨.string x, ?_, rfl, hsize⟩
        show cur[i * 1 + 0]? = _
        have h1 : (cur.toList.take (l.length * 1))[i]? = some (Value.string x) := by
          have e : (cur.toList.take (l.length * 1)) = rows.flatten := htake
          rw [e, hflat, List.getElem?_map, hx]; rfl
        rw [List.getElem?_take, if_pos (by omega)] at h1
        simpa using h1
      | j + 1, hlf => simp [leaves] at hlf
    · have e := List.mem_singleton.1 hb
      subst e
      exact ⟨hge b (by simp [Value.ownBlock]), (Array.getElem?_eq_some_iff.1 hat).1⟩
open Go.RowKit Go.Proofs
abbrev ENV := Go.Proofs.YtjglknaojfnllaaDoor.ENV
/-- What holds of the library's variables, in blocks below G. -/
structure Cl (G : Nat) (E : World → Prop) : Prop where
  cl : ∀ w w' : World, E w → (∀ b, b < G → w'.heap[b]? = w.heap[b]?) → E w'
  env : ∀ w, E w → ENV w
theorem num_bounds (s : ByteArray) : 0 ≤ (Mux.textNum s).1 ∧ (Mux.textNum s).1 ≤ 4294967295 := by
  rcases Mux.textNum_cases s with ⟨n, h1, _, h3⟩ | ⟨_, h3⟩
  · rw [h3]
    have := Mux.isNum_pos h1
    exact this
  · rw [h3]; exact ⟨Int.le_refl _, by decide⟩
theorem num_wf (s : ByteArray) : wfV (.int .i64 (Mux.textNum s).1) := by
  have := num_bounds s
  show IntKind.i64.wrap _ = _
  rw [IntKind.wrap_i64]; omega
theorem restL_len : ∀ (l : List UInt8) (n : Nat), (Mux.restL n l).length ≤ l.length
  | [], n => by cases n <;> simp [Mux.restL]
  | b :: l, n => by
    have h1 := restL_len l n
    have h2 := restL_len l (n - 1)
    unfold Mux.restL
    split
    · split <;> simp <;> omega
    · simp; omega
theorem rest_size (s : ByteArray) (n : Nat) : (Mux.restOf s n).size ≤ s.size := by
  unfold Mux.restOf
  have h := restL_len s.data.toList n
  have h2 : s.data.toList.length = s.size := Array.length_toList
  show (Mux.restL n s.data.toList).length ≤ _
  omega
theorem nums_len (n : Nat) (l : List ByteArray) : (Mux.numsOf n l).length = n := by unfold Mux.numsOf; simp
theorem nums_wf {n : Nat} {l : List ByteArray} {x : Int} (h : x ∈ Mux.numsOf n l) : wfV (.int .i64 x) := by
  unfold Mux.numsOf at h
  obtain ⟨i, _, rfl⟩ := List.mem_map.1 h
  exact num_wf _
theorem dirT_size (s : ByteArray) : (Mux.dirT s).size ≤ s.size + 1 := by
  unfold Mux.dirT
  split
  · show 1 ≤ _; omega
  · omega
theorem opText_wf {x : Mux.DOp} (h : x.bulk ≤ 1048576) : (Mux.opText x).size ≤ 9223372036854775807 := by
  unfold Mux.DOp.bulk at h
  unfold Mux.opText
  split
  · have h1 := Mux.headW_len x
    have h3 : (Mux.tailW x).length ≤ 2 := by unfold Mux.tailW; split <;> (try split) <;> simp
    have h2 := Mux.joinT_size (Mux.headW x ++ Mux.tailW x) 1048577 (fun b hb => by
      rcases List.mem_append.1 hb with hb | hb
      · exact Mux.headW_size (by omega) (by omega) b hb
      · unfold Mux.tailW at hb
        split at hb
        · rcases List.mem_cons.1 hb with rfl | hb
          · have := dirT_size x.Dir; omega
          · split at hb
            · simp at hb
            · have e := List.mem_singleton.1 hb; subst e; omega
        · simp at hb)
    rw [List.length_append] at h2
    have h4 : ((Mux.headW x).length + (Mux.tailW x).length) * (1048577 + 1) ≤ 6 * (1048577 + 1) := Nat.mul_le_mul_right _ (by omega)
    omega
  · exact Nat.zero_le _
theorem two {A B : Prop} (h : A ∧ B ∧ True) : A ∧ B := ⟨h.1, h.2.1⟩
theorem i64_of {n : Int} (h : wfV (.int .i64 n)) : Mux.I64 n := by
  have h : IntKind.i64.wrap n = n := h
  rw [IntKind.wrap_i64] at h
  unfold Mux.I64
  omega
theorem wf_i64 {n : Int} (h1 : -9223372036854775808 ≤ n) (h2 : n ≤ 9223372036854775807) : wfV (.int .i64 n) := by
  show IntKind.i64.wrap n = n
  rw [IntKind.wrap_i64]
  omega
theorem word_wf {S : Nat → Prop} {w : World} {u : Value} {l : List ByteArray} (h : Row S w .str u l) (n : Nat) : (Mux.wordAt l n).size ≤ 9223372036854775807 := by
  unfold Mux.wordAt
  cases hx : l[n]? with
  | none => exact Nat.zero_le _
  | some x =>
    obtain ⟨a, cap, rfl, h1, h2, h3⟩ := h.open
    obtain ⟨b, off, rfl, _, hc⟩ := h3 (by rintro rfl; simp at hx)
    obtain ⟨u, hu, hv⟩ := hc n x hx 0 (.sc (.string x)) rfl
    exact hv.2
section
variable {G : Nat} {E : World → Prop}
/-! Words -/
def lparts (s : ByteArray) : Option (List ByteArray) := gd (s.size ≤ 1048576) (some (Mux.partsOf s))
theorem cPartsS (hcl : Cl G E) {s : ByteArray} {r : List ByteArray} (h : lparts s = some r) : PCalls Tryd.prog G E 15 [.v (.string s)] [] (.row true .str r) [] := by
  obtain ⟨hs, h⟩ := gd_some h
  cases h
  refine PCalls.lib (fn := Tryd.f15) (by kernel_rfl) (by kernel_rfl) rfl rfl fun w S us hE hS ha => ?_
  match us, ha with
  | [u], ⟨⟨e, _⟩, _⟩ =>
    subst e
    refine (Go.Proofs.YtjglknaojfnllaaDoor.spec_Parts w s hs).mono ?_
    rintro e w' ⟨v, rfl, hF, hb⟩
    obtain ⟨L, h1, h2⟩ := own_str hF
    exact LibR.own rfl hb (h1 _) h2
theorem cPartsI (hcl : Cl G E) {s : ByteArray} {r : List ByteArray} (h : lparts s = some r) : PCalls Tryd.prog G E 32 [.v (.string s)] [] (.row true .str r) [] := by
  obtain ⟨hs, h⟩ := gd_some h
  cases h
  refine PCalls.lib (fn := Tryd.f32) (by kernel_rfl) (by kernel_rfl) rfl rfl fun w S us hE hS ha => ?_
  match us, ha with
  | [u], ⟨⟨e, _⟩, _⟩ =>
    subst e
    refine (Go.Proofs.YtjglknaojfnllaaDoor.impl_Parts w s hs (hcl.env w hE)).mono ?_
    rintro e w' ⟨v, rfl, hF, hb⟩
    obtain ⟨L, h1, h2⟩ := own_str hF
    exact LibR.own rfl hb (h1 _) h2
def lnum (s : ByteArray) : Option Int := some (Mux.textNum s).1
def lword (l : List ByteArray) (i : Int) : Option ByteArray := gd (0 ≤ i) (some (Mux.wordAt l i.toNat))
def lrest (s : ByteArray) (n : Int) : Option ByteArray := gd (s.size ≤ 1048576 ∧ 1 ≤ n ∧ n ≤ 100) (some (Mux.restOf s n.toNat))
def lside (n : Int) : Option ByteArray := some (Mux.sideT n)
def dop (x : IOp) : Mux.DOp := { Kind := x.Kind, A := x.A, B := x.B, C := x.C, Name := x.Name, Text := x.Text, Dir := x.Dir, Data := x.Data }
def loptext (x : IOp) : Option ByteArray := gd ((dop x).bulk ≤ 1048576) (some (Mux.opText (dop x)))
def ljoin (l : List ByteArray) (sep : ByteArray) : Option ByteArray := gd (l.length ≤ 140737488355328 ∧ (Mux.joinT l sep).size ≤ 140737488355328) (some (Mux.joinT l sep))
def lnumbers (l : List ByteArray) (many : Int) : Option (List Int) := gd (0 ≤ many ∧ many ≤ 1048577 ∧ l.all (fun s => decide (s.size ≤ 1048576)) = true) (some (Mux.numsOf many.toNat l))
theorem wf_of_size {s : ByteArray} (h : s.size ≤ 9223372036854775807) : wfV (.string s) := h
theorem cNum (hcl : Cl G E) {s : ByteArray} {r : Int} (h : lnum s = some r) : PCalls Tryd.prog G E 16 [.v (.string s)] [] (.v (.int .i64 r)) [] := by
  cases h
  refine PCalls.lib (fn := Tryd.f16) (by kernel_rfl) (by kernel_rfl) rfl rfl fun w S us hE hS ha => ?_
  match us, ha with
  | [u], ⟨⟨e, _⟩, _⟩ =>
    subst e
    refine (Go.Proofs.YtjglknaojfnllaaDoor.spec_l18Num w s).mono ?_
    rintro e w' ⟨v, rfl, rfl, hb⟩
    exact LibR.v rfl hb (num_wf s)
theorem cWord (hcl : Cl G E) {l : List ByteArray} {i : Int} {r : ByteArray} (h : lword l i = some r) : PCalls Tryd.prog G E 17 [.row false .str l, .v (.int .i64 i)] [] (.v (.string r)) [] := by
  obtain ⟨hi, h⟩ := gd_some h
  cases h
  obtain ⟨n, rfl⟩ := Int.eq_ofNat_of_zero_le hi
  refine PCalls.lib (fn := Tryd.f17) (by kernel_rfl) (by kernel_rfl) rfl rfl fun w S us hE hS ha => ?_
  match us, ha with
  | [u, u2], ⟨⟨_, hrow⟩, ⟨e, _⟩, _⟩ =>
    subst e
    refine (Go.Proofs.YtjglknaojfnllaaDoor.spec_l18Word w w u l n (row_str hrow) (Below.refl _ _)).mono ?_
    rintro e w' ⟨rfl, rfl⟩
    refine LibR.v rfl (Below.refl _ _) ?_
    show (Mux.wordAt l (n : Int).toNat).size ≤ _
    rw [Int.toNat_natCast]
    exact word_wf hrow n
theorem cRest (hcl : Cl G E) {s : ByteArray} {n : Int} {r : ByteArray} (h : lrest s n = some r) : PCalls Tryd.prog G E 18 [.v (.string s), .v (.int .i64 n)] [] (.v (.string r)) [] := by
  obtain ⟨⟨hs, h1, h2⟩, h⟩ := gd_some h
  cases h
  obtain ⟨n, rfl⟩ := Int.eq_ofNat_of_zero_le (by omega : 0 ≤ n)
  refine PCalls.lib (fn := Tryd.f18) (by kernel_rfl) (by kernel_rfl) rfl rfl fun w S us hE hS ha => ?_
  match us, ha with
  | [u, u2], ⟨⟨e1, _⟩, ⟨e2, _⟩, _⟩ =>
    subst e1 e2
    refine (Go.Proofs.YtjglknaojfnllaaDoor.spec_l18Rest w s n hs (by omega) (by omega)).mono ?_
    rintro e w' ⟨rfl, rfl⟩
    refine LibR.v rfl (Below.refl _ _) ?_
    show (Mux.restOf s (n : Int).toNat).size ≤ _
    rw [Int.toNat_natCast]
    have := rest_size s n
    omega
theorem cSide (hcl : Cl G E) {n : Int} {r : ByteArray} (h : lside n = some r) : PCalls Tryd.prog G E 29 [.v (.int .i64 n)] [] (.v (.string r)) [] := by
  cases h
  refine PCalls.lib (fn := Tryd.f29) (by kernel_rfl) (by kernel_rfl) rfl rfl fun w S us hE hS ha => ?_
  match us, ha with
  | [u], ⟨⟨e, _⟩, _⟩ =>
    subst e
    refine (Go.Proofs.YtjglknaojfnllaaDoor.spec_l18Side w n).mono ?_
    rintro e w' ⟨rfl, rfl⟩
    refine LibR.v rfl (Below.refl _ _) ?_
    show (Mux.sideT n).size ≤ _
    unfold Mux.sideT
    split <;> (try split) <;> (try split) <;> decide
theorem op_rep {S : Nat → Prop} {w : World} {x : IOp} {u : Value} (h : Val1 S w (fun _ => none) (fun _ => ⟨0, none⟩) (.agg [.v (.int .i64 x.Kind), .v (.int .i64 x.A), .v (.int .i64 x.B), .v (.int .i64 x.C), .v (.string x.Name), .v (.string x.Text), .v (.string x.Dir), .row false .u8 x.Data]) u) : ∃ cs : List Value, u = .agg cs.toArray ∧ Mux.Rep.rep w cs (dop x) := by
  obtain ⟨us, rfl, h⟩ := h
  refine ⟨us.toList, by simp, ?_⟩
  generalize us.toList = cs at h
  match cs, h with
  | [c0, c1, c2, c3, c4, c5, c6, c7], ⟨⟨e0, h0⟩, ⟨e1, h1⟩, ⟨e2, h2⟩, ⟨e3, h3⟩, ⟨e4, h4⟩, ⟨e5, h5⟩, ⟨e6, h6⟩, ⟨_, h7⟩, _⟩ =>
    subst e0 e1 e2 e3 e4 e5 e6
    exact Mux.DOp.rep_iff.2 ⟨c7, rfl, i64_of h0, i64_of h1, i64_of h2, i64_of h3, h4, h5, h6, row_u8 h7⟩
theorem cOpTextS (hcl : Cl G E) {x : IOp} {r : ByteArray} (h : loptext x = some r) : PCalls Tryd.prog G E 30 [.agg [.v (.int .i64 x.Kind), .v (.int .i64 x.A), .v (.int .i64 x.B), .v (.int .i64 x.C), .v (.string x.Name), .v (.string x.Text), .v (.string x.Dir), .row false .u8 x.Data]] [] (.v (.string r)) [] := by
  obtain ⟨hb0, h⟩ := gd_some h
  cases h
  refine PCalls.lib (fn := Tryd.f30) (by kernel_rfl) (by kernel_rfl) rfl rfl fun w S us hE hS ha => ?_
  match us, ha with
  | [u], ⟨h1, _⟩ =>
    obtain ⟨cs, rfl, hrep⟩ := op_rep h1
    refine (Go.Proofs.YtjglknaojfnllaaDoor.spec_OpText w cs (dop x) hrep hb0).mono ?_
    rintro e w' ⟨v, rfl, rfl, hb⟩
    exact LibR.v rfl hb (opText_wf hb0)
theorem cOpTextI (hcl : Cl G E) {x : IOp} {r : ByteArray} (h : loptext x = some r) : PCalls Tryd.prog G E 33 [.agg [.v (.int .i64 x.Kind), .v (.int .i64 x.A), .v (.int .i64 x.B), .v (.int .i64 x.C), .v (.string x.Name), .v (.string x.Text), .v (.string x.Dir), .row false .u8 x.Data]] [] (.v (.string r)) [] := by
  obtain ⟨hb0, h⟩ := gd_some h
  cases h
  refine PCalls.lib (fn := Tryd.f33) (by kernel_rfl) (by kernel_rfl) rfl rfl fun w S us hE hS ha => ?_
  match us, ha with
  | [u], ⟨h1, _⟩ =>
    obtain ⟨cs, rfl, hrep⟩ := op_rep h1
    refine (Go.Proofs.YtjglknaojfnllaaDoor.impl_OpText w cs (dop x) hrep (hcl.env w hE).tab hb0).mono ?_
    rintro e w' ⟨v, rfl, rfl, hb⟩
    exact LibR.v rfl hb (opText_wf hb0)
theorem cNumbers (hcl : Cl G E) {l : List ByteArray} {n : Int} {r : List Int} (h : lnumbers l n = some r) : PCalls Tryd.prog G E 43 [.row false .str l, .v (.int .i64 n)] [] (.row true .int r) [] := by
  obtain ⟨⟨h1, h2, h3⟩, h⟩ := gd_some h
  cases h
  obtain ⟨n, rfl⟩ := Int.eq_ofNat_of_zero_le h1
  refine PCalls.lib (fn := Tryd.f43) (by kernel_rfl) (by kernel_rfl) rfl rfl fun w S us hE hS ha => ?_
  match us, ha with
  | [u, u2], ⟨⟨_, hrow⟩, ⟨e, _⟩, _⟩ =>
    subst e
    refine (Go.Proofs.YtjglknaojfnllaaDoor.impl_numbersOf w u l n (row_str hrow) (by omega) (fun s hs => of_decide_eq_true (List.all_eq_true.1 h3 s hs)) (hcl.env w hE)).mono ?_
    rintro e w' ⟨v, rfl, ⟨g, rfl, hg, hheap⟩, hb⟩
    rw [Int.toNat_natCast]
    have hlt : g < w'.heap.size := (Array.getElem?_eq_some_iff.1 hheap).1
    have hlen : (Mux.numsOf n l).length = n := nums_len n l
    refine LibR.own (L := [g]) rfl hb (.inr ⟨g, n, ((Mux.numsOf n l).map (Value.int .i64 ·)).toArray, by rw [hlen], rfl, by rw [hlen]; omega, ⟨_, hheap, .inl rfl⟩, by rw [hlen]; omega, by unfold maxLen; omega, by simp [hlen, size], fun i x hx j lf hlf => ?_⟩) fun b hb => by have e := List.mem_singleton.1 hb; subst e; exact ⟨hg, hlt⟩
    match j, hlf with
    | 0, hlf =>
      cases hlf
      refine ⟨.int .i64 x, ?_, rfl, nums_wf (List.mem_of_getElem? hx)⟩
      show (((Mux.numsOf n l).map (Value.int .i64 ·)).toArray)[i * 1 + 0]? = _
      simp [hx]
    | j + 1, hlf => simp [leaves] at hlf
theorem cJoin (hcl : Cl G E) {l : List ByteArray} {s : ByteArray} {r : ByteArray} (h : ljoin l s = some r) : PCalls Tryd.prog G E 47 [.row false .str l, .v (.string s)] [] (.v (.string r)) [] := by
  obtain ⟨⟨h1, h2⟩, h⟩ := gd_some h
  cases h
  refine PCalls.lib (fn := Tryd.f47) (by kernel_rfl) (by kernel_rfl) rfl rfl fun w S us hE hS ha => ?_
  match us, ha with
  | [u, u2], ⟨⟨_, hrow⟩, ⟨e, _⟩, _⟩ =>
    subst e
    refine (Go.Proofs.YtjglknaojfnllaaDoor.strings_join w u l s (row_str hrow) h1 h2).mono ?_
    rintro e w' ⟨v, rfl, rfl, hb⟩
    exact LibR.v rfl hb (by show _ ≤ _; omega)
end
end Go.Px
