/- TextOp of the reference and of the program: pure functions, and that the code does what they say. -/
import Derived.Test.YtjglknaojfnllaaDoorPxB
import Derived.Test.YtjglknaojfnllaaDoorPxL
set_option linter.unusedSimpArgs false
set_option linter.unusedVariables false
namespace Go.Px
open Go.Proofs
def p10_j10 (fuel : Nat) (a0 : ByteArray) (b600_9_0 : Int) (b600_9_1 : Int) (b600_9_2 : Int) (b600_9_3 : Int) (b600_9_4 : ByteArray) (b600_9_5 : ByteArray) (b600_10_6 : ByteArray) : Option (IOp × Bool) :=
  Option.bind (α := Bool) (
    if decide (a0 = (⟨#[]⟩ : ByteArray)) then (
      some (true)
    ) else (
      (loptext (⟨b600_9_0, b600_9_1, b600_9_2, b600_9_3, b600_9_4, b600_9_5, b600_10_6, []⟩)).bind fun r181 =>
      some (!decide (r181 = a0))
    )
  ) fun v133_11 =>
  if v133_11 then (
    some (⟨0, 0, 0, 0, ByteArray.empty, ByteArray.empty, ByteArray.empty, []⟩, false)
  ) else (
    some (⟨b600_9_0, b600_9_1, b600_9_2, b600_9_3, b600_9_4, b600_9_5, b600_10_6, []⟩, true)
  )
def p10_j9 (fuel : Nat) (a0 : ByteArray) (v6_9 : ByteArray) (b600_9_0 : Int) (b600_9_1 : Int) (b600_9_2 : Int) (b600_9_3 : Int) (b600_9_4 : ByteArray) (b600_9_5 : ByteArray) : Option (IOp × Bool) :=
  if !decide (v6_9 = (⟨#[45]⟩ : ByteArray)) then (
    p10_j10 fuel a0 b600_9_0 b600_9_1 b600_9_2 b600_9_3 b600_9_4 b600_9_5 v6_9
  ) else (
    p10_j10 fuel a0 b600_9_0 b600_9_1 b600_9_2 b600_9_3 b600_9_4 b600_9_5 ByteArray.empty
  )
def p10_j2 (fuel : Nat) (r1 : List ByteArray) (a0 : ByteArray) (r190 : ByteArray) (r192 : ByteArray) (b600_2_0 : Int) : Option (IOp × Bool) :=
  (lword r1 2).bind fun r195 =>
  p10_j9 fuel a0 r195 b600_2_0 0 0 0 r190 r192
def p10_j3 (fuel : Nat) (r1 : List ByteArray) (a0 : ByteArray) (r201 : Int) (r203 : ByteArray) (b600_3_2 : Int) : Option (IOp × Bool) :=
  (lword r1 3).bind fun r208 =>
  p10_j9 fuel a0 r208 3 r201 b600_3_2 0 ByteArray.empty r203
def p10_j6 (fuel : Nat) (v57_5 : Int) (b600_6_0 : Int) : Option ((Int × Int) ⊕ (Int)) :=
  gd (inK .i64 (v57_5 + 1)) <|
  some (.inl ((v57_5 + 1), b600_6_0))
def p10_b5 (fuel : Nat) (x186 : ByteArray) : Int × Int → Option ((Int × Int) ⊕ (Int)) := fun (v57_5, b600_5_0) =>
  if decide (v57_5 < ((4 : Nat) : Int)) then (
    gd (0 ≤ v57_5 ∧ v57_5 < (([(⟨#[107, 105, 108, 108]⟩ : ByteArray), (⟨#[115, 101, 108, 101, 99, 116]⟩ : ByteArray), (⟨#[114, 101, 115, 116, 97, 114, 116]⟩ : ByteArray), (⟨#[122, 111, 111, 109]⟩ : ByteArray)] : List (ty .str)).length : Nat)) <|
    (([(⟨#[107, 105, 108, 108]⟩ : ByteArray), (⟨#[115, 101, 108, 101, 99, 116]⟩ : ByteArray), (⟨#[114, 101, 115, 116, 97, 114, 116]⟩ : ByteArray), (⟨#[122, 111, 111, 109]⟩ : ByteArray)] : List (ty .str))[v57_5.toNat]?).bind fun x263 =>
    if decide (x263 = x186) then (
      gd (0 ≤ v57_5 ∧ v57_5 < (4 : Nat)) <|
      (([4, 7, 14, 8] : List (ty .int))[v57_5.toNat]?).bind fun x267 =>
      p10_j6 fuel v57_5 x267
    ) else (
      p10_j6 fuel v57_5 b600_5_0
    )
  ) else (
    some (.inr b600_5_0)
  )
def p10_j8 (fuel : Nat) (v93_7 : Int) (b600_8_2 : Int) : Option ((Int × Int) ⊕ (Int)) :=
  gd (inK .i64 (v93_7 + 1)) <|
  some (.inl ((v93_7 + 1), b600_8_2))
def p10_b7 (fuel : Nat) (r1 : List ByteArray) : Int × Int → Option ((Int × Int) ⊕ (Int)) := fun (v93_7, b600_7_2) =>
  if decide (v93_7 < ((4 : Nat) : Int)) then (
    gd (0 ≤ v93_7 ∧ v93_7 < (([76, 82, 85, 68] : List (ty .int)).length : Nat)) <|
    (([76, 82, 85, 68] : List (ty .int))[v93_7.toNat]?).bind fun x334 =>
    (lside x334).bind fun r336 =>
    (lword r1 2).bind fun r338 =>
    if decide (r336 = r338) then (
      p10_j8 fuel v93_7 x334
    ) else (
      p10_j8 fuel v93_7 b600_7_2
    )
  ) else (
    some (.inr b600_7_2)
  )
def p10_j4 (fuel : Nat) (r1 : List ByteArray) (x186 : ByteArray) (a0 : ByteArray) (v46_4 : Bool) : Option (IOp × Bool) :=
  if v46_4 then (
    (lword r1 1).bind fun r217 =>
    (lnum r217).bind fun r219 =>
    (loopF (p10_b5 fuel x186) fuel (0, 0)).bind fun oo5 =>
    match oo5 with
    | b600_5x_0 => 
      p10_j9 fuel a0 (⟨#[]⟩ : ByteArray) b600_5x_0 r219 0 0 ByteArray.empty ByteArray.empty
  ) else (
    if decide (x186 = (⟨#[115, 119, 97, 112]⟩ : ByteArray)) then (
      (lword r1 1).bind fun r270 =>
      (lnum r270).bind fun r272 =>
      (lword r1 2).bind fun r274 =>
      (lnum r274).bind fun r276 =>
      p10_j9 fuel a0 (⟨#[]⟩ : ByteArray) 9 r272 r276 0 ByteArray.empty ByteArray.empty
    ) else (
      if decide (x186 = (⟨#[103, 114, 111, 119]⟩ : ByteArray)) then (
        (lword r1 1).bind fun r279 =>
        (lnum r279).bind fun r281 =>
        (lword r1 3).bind fun r283 =>
        (lnum r283).bind fun r285 =>
        (loopF (p10_b7 fuel r1) fuel (0, 0)).bind fun oo7 =>
        match oo7 with
        | b600_7x_2 => 
          p10_j9 fuel a0 (⟨#[]⟩ : ByteArray) 10 r281 b600_7x_2 r285 ByteArray.empty ByteArray.empty
      ) else (
        if decide (x186 = (⟨#[110, 97, 109, 101]⟩ : ByteArray)) then (
          (lword r1 1).bind fun r342 =>
          (lnum r342).bind fun r344 =>
          (lword r1 2).bind fun r346 =>
          p10_j9 fuel a0 (⟨#[]⟩ : ByteArray) 11 r344 0 0 r346 ByteArray.empty
        ) else (
          if decide (x186 = (⟨#[115, 105, 122, 101]⟩ : ByteArray)) then (
            (lword r1 1).bind fun r349 =>
            (lnum r349).bind fun r351 =>
            (lword r1 2).bind fun r353 =>
            (lnum r353).bind fun r355 =>
            p10_j9 fuel a0 (⟨#[]⟩ : ByteArray) 12 r351 r355 0 ByteArray.empty ByteArray.empty
          ) else (
            p10_j9 fuel a0 (⟨#[]⟩ : ByteArray) 0 0 0 0 ByteArray.empty ByteArray.empty
          )
        )
      )
    )
  )
def p10_j1 (fuel : Nat) (r1 : List ByteArray) (a0 : ByteArray) (x186 : ByteArray) (v17_1 : Bool) : Option (IOp × Bool) :=
  if v17_1 then (
    (lword r1 1).bind fun r190 =>
    (lrest a0 3).bind fun r192 =>
    if decide (x186 = (⟨#[119, 105, 110, 100, 111, 119]⟩ : ByteArray)) then (
      p10_j2 fuel r1 a0 r190 r192 2
    ) else (
      p10_j2 fuel r1 a0 r190 r192 1
    )
  ) else (
    if decide (x186 = (⟨#[115, 112, 108, 105, 116]⟩ : ByteArray)) then (
      (lword r1 1).bind fun r199 =>
      (lnum r199).bind fun r201 =>
      (lrest a0 4).bind fun r203 =>
      (lword r1 2).bind fun r210 =>
      if decide (r210 = (⟨#[98, 101, 108, 111, 119]⟩ : ByteArray)) then (
        p10_j3 fuel r1 a0 r201 r203 1
      ) else (
        p10_j3 fuel r1 a0 r201 r203 0
      )
    ) else (
      if decide (x186 = (⟨#[107, 105, 108, 108]⟩ : ByteArray)) then (
        p10_j4 fuel r1 x186 a0 (decide (x186 = (⟨#[107, 105, 108, 108]⟩ : ByteArray)))
      ) else (
        if decide (x186 = (⟨#[115, 101, 108, 101, 99, 116]⟩ : ByteArray)) then (
          p10_j4 fuel r1 x186 a0 (decide (x186 = (⟨#[115, 101, 108, 101, 99, 116]⟩ : ByteArray)))
        ) else (
          if decide (x186 = (⟨#[114, 101, 115, 116, 97, 114, 116]⟩ : ByteArray)) then (
            p10_j4 fuel r1 x186 a0 (decide (x186 = (⟨#[114, 101, 115, 116, 97, 114, 116]⟩ : ByteArray)))
          ) else (
            p10_j4 fuel r1 x186 a0 (decide (x186 = (⟨#[122, 111, 111, 109]⟩ : ByteArray)))
          )
        )
      )
    )
  )
def p10 (fuel : Nat) (a0 : ByteArray) : Option (IOp × Bool) :=
  (lparts a0).bind fun r1 =>
  gd (0 ≤ (0 : Int) ∧ (0 : Int) < (r1.length : Nat)) <|
  (r1[(0 : Int).toNat]?).bind fun x186 =>
  if decide (x186 = (⟨#[110, 101, 119]⟩ : ByteArray)) then (
    p10_j1 fuel r1 a0 x186 (decide (x186 = (⟨#[110, 101, 119]⟩ : ByteArray)))
  ) else (
    p10_j1 fuel r1 a0 x186 (decide (x186 = (⟨#[119, 105, 110, 100, 111, 119]⟩ : ByteArray)))
  )
set_option maxHeartbeats 4000000 in
theorem c10 {G : Nat} {E : World → Prop} (hcl : Cl G E) {fuel : Nat} {a0 : ByteArray} {r : IOp × Bool} (h : p10 fuel a0 = some r) : PCalls Tryd.prog G E 10 [.v (.string a0)] [] (.tup [.agg [.v (.int .i64 r.1.Kind), .v (.int .i64 r.1.A), .v (.int .i64 r.1.B), .v (.int .i64 r.1.C), .v (.string r.1.Name), .v (.string r.1.Text), .v (.string r.1.Dir), .nil], .v (.bool r.2)]) [] := by
  refine PCalls.pure facts hcl.cl (fn := Tryd.f10) (by kernel_rfl) (by kernel_rfl) rfl rfl (by show 1 ≤ 136; decide) fun X hE hX hG => ?_
  unfold p10 at h
  refine XW.seq (XW.reg facts hE hG (by kernel_rfl) ?_)
  refine ROps.ps rfl rfl (o_alloc rfl rfl) ?_
  refine ROps.pr rfl rfl rfl ?_
  refine ROps.e ?_
  obtain ⟨r1, h2, h⟩ := bind_some' h
  refine XW.seq (XW.reg facts hE hG (by kernel_rfl) ?_)
  refine ROps.pr rfl rfl rfl ?_
  refine ROps.ps rfl rfl (o_callo rfl rfl rfl (pkA_r rfl) (cPartsS hcl h2) rfl rfl op_row) ?_
  refine ROps.pr rfl rfl rfl ?_
  refine ROps.e ?_
  refine XW.seq (XW.reg facts hE hG (by kernel_rfl) ?_)
  refine ROps.pr rfl rfl rfl ?_
  refine ROps.ps rfl rfl (o_alloc rfl rfl) ?_
  refine ROps.pn rfl rfl (o_stb rfl rfl rfl ⟨rfl, rfl⟩ rfl (Nat.le_of_ble_eq_true rfl)) ?_
  refine ROps.e ?_
  refine XW.seq (XW.reg facts hE hG (by kernel_rfl) ?_)
  refine ROps.pr rfl rfl rfl ?_
  refine ROps.e ?_
  refine XW.join2 (fun ε => ∃ (v6_9 : ByteArray) (b600_9_0 : Int) (b600_9_1 : Int) (b600_9_2 : Int) (b600_9_3 : Int) (b600_9_4 : ByteArray) (b600_9_5 : ByteArray) (w300 : Nat) (w600 : Nat), p10_j9 fuel a0 v6_9 b600_9_0 b600_9_1 b600_9_2 b600_9_3 b600_9_4 b600_9_5 = some r ∧ ε.t 0 = .v (.string a0) ∧ ε.t 2 = .ptr 300 w300 0 0 ∧ ε.t 5 = .ptr 600 w600 0 0 ∧ ε.t 6 = .v (.string v6_9) ∧ ε.s 300 = ⟨w300, some (.box [.v (.int .i64 0), .v (.int .i64 0), .v (.int .i64 0), .v (.int .i64 0), .v (.string ByteArray.empty), .v (.string ByteArray.empty), .v (.string ByteArray.empty), .nil])⟩ ∧ ε.s 600 = ⟨w600, some (.box [.v (.int .i64 b600_9_0), .v (.int .i64 b600_9_1), .v (.int .i64 b600_9_2), .v (.int .i64 b600_9_3), .v (.string b600_9_4), .v (.string b600_9_5), .v (.string ByteArray.empty), .nil])⟩) (fun ε hI => ?_) ?_
  · clear h
    obtain ⟨tt, ss⟩ := ε
    obtain ⟨v6_9, b600_9_0, b600_9_1, b600_9_2, b600_9_3, b600_9_4, b600_9_5, w300, w600, h, e0, e2, e5, e6, f300, f600⟩ := hI
    refine XW.st 0 (by exact e0) <| XW.st 2 (by exact e2) <| XW.st 5 (by exact e5) <| XW.st 6 (by exact e6) <| XW.ss 300 (by exact f300) <| XW.ss 600 (by exact f600) <| ?_
    unfold p10_j9 at h
    refine XW.join2 (fun ε => ∃ (b600_10_6 : ByteArray) (w300 : Nat) (w600 : Nat), p10_j10 fuel a0 b600_9_0 b600_9_1 b600_9_2 b600_9_3 b600_9_4 b600_9_5 b600_10_6 = some r ∧ ε.t 0 = .v (.string a0) ∧ ε.t 2 = .ptr 300 w300 0 0 ∧ ε.t 5 = .ptr 600 w600 0 0 ∧ ε.s 300 = ⟨w300, some (.box [.v (.int .i64 0), .v (.int .i64 0), .v (.int .i64 0), .v (.int .i64 0), .v (.string ByteArray.empty), .v (.string ByteArray.empty), .v (.string ByteArray.empty), .nil])⟩ ∧ ε.s 600 = ⟨w600, some (.box [.v (.int .i64 b600_9_0), .v (.int .i64 b600_9_1), .v (.int .i64 b600_9_2), .v (.int .i64 b600_9_3), .v (.string b600_9_4), .v (.string b600_9_5), .v (.string b600_10_6), .nil])⟩) (fun ε hI => ?_) ?_
    · clear h
      obtain ⟨tt, ss⟩ := ε
      obtain ⟨b600_10_6, w300, w600, h, e0, e2, e5, f300, f600⟩ := hI
      refine XW.st 0 (by exact e0) <| XW.st 2 (by exact e2) <| XW.st 5 (by exact e5) <| XW.ss 300 (by exact f300) <| XW.ss 600 (by exact f600) <| ?_
      unfold p10_j10 at h
      refine XW.seq ?_
      obtain ⟨v133_11, hg, h⟩ := bind_some' h
      refine XW.join2 (fun ε => ∃ (w300 : Nat) (w600 : Nat), ε.t 2 = .ptr 300 w300 0 0 ∧ ε.t 5 = .ptr 600 w600 0 0 ∧ ε.t 133 = .v (.bool v133_11) ∧ ε.s 300 = ⟨w300, some (.box [.v (.int .i64 0), .v (.int .i64 0), .v (.int .i64 0), .v (.int .i64 0), .v (.string ByteArray.empty), .v (.string ByteArray.empty), .v (.string ByteArray.empty), .nil])⟩ ∧ ε.s 600 = ⟨w600, some (.box [.v (.int .i64 b600_9_0), .v (.int .i64 b600_9_1), .v (.int .i64 b600_9_2), .v (.int .i64 b600_9_3), .v (.string b600_9_4), .v (.string b600_9_5), .v (.string b600_10_6), .nil])⟩) (fun ε hI => ?_) ?_
      · obtain ⟨tt, ss⟩ := ε
        obtain ⟨w300, w600, e2, e5, e133, f300, f600⟩ := hI
        refine XW.st 2 (by exact e2) <| XW.st 5 (by exact e5) <| XW.st 133 (by exact e133) <| XW.ss 300 (by exact f300) <| XW.ss 600 (by exact f600) <| ?_
        refine XW.cnd (v133_11) rfl (by show 133 < 136; decide) (fun hb183 => ?_) (fun hb183 => ?_)
        · replace h := ite_t hb183 h
          refine XW.seq (XW.reg facts hE hG (by kernel_rfl) ?_)
          refine ROps.pr rfl rfl rfl ?_
          refine ROps.pn rfl rfl (o_stb rfl rfl rfl ⟨rfl, rfl⟩ rfl (Nat.le_of_ble_eq_true rfl)) ?_
          refine ROps.pr rfl rfl rfl ?_
          refine ROps.e ?_
          refine XW.ret ?_
          cases h
          refine retW.mk (by exact (rL_cons (r1_cell (by decide) rfl rfl rfl rfl) (rL_cons rfl rfl))) (by exact rfl) (by exact rfl) (by rfl) (by rfl) ?_
          exact .inl (.inl (.inl rfl))
        · replace h := ite_f hb183 h
          refine XW.skip ?_
          refine XW.seq (XW.reg facts hE hG (by kernel_rfl) ?_)
          refine ROps.ps rfl rfl (w_live rfl rfl) ?_
          refine ROps.pn rfl rfl (o_stb rfl rfl rfl ⟨rfl, rfl⟩ rfl (Nat.le_of_ble_eq_true rfl)) ?_
          refine ROps.pr rfl rfl rfl ?_
          refine ROps.e ?_
          refine XW.ret ?_
          cases h
          refine retW.mk (by exact (rL_cons (r1_cell (by decide) rfl rfl rfl rfl) (rL_cons rfl rfl))) (by exact rfl) (by exact rfl) (by rfl) (by rfl) ?_
          exact .inl (.inl (.inl rfl))
      · rcases Bool.eq_false_or_eq_true (decide (a0 = (⟨#[]⟩ : ByteArray))) with hb180 | hb180
        · replace hg := ite_t hb180 hg
          cases hg
          refine XW.reg facts hE hG (by kernel_rfl) ?_
          refine ROps.pr rfl rfl rfl ?_
          refine ROps.pr rfl rfl rfl ?_
          refine ROps.pr rfl rfl rfl ?_
          refine ROps.pk rfl (wtf rfl rfl rfl hb180) ?_
          refine ROps.pk rfl (wtf rfl rfl rfl hb180) ?_
          refine ROps.pk rfl (wtf rfl rfl rfl hb180) ?_
          refine ROps.pk rfl (wtf rfl rfl rfl hb180) ?_
          refine ROps.ps rfl rfl (o_pt rfl rfl hb180) ?_
          refine ROps.e ?_
          exact GI.of ⟨_, _, rfl, rfl, rfl, rfl, rfl⟩
        · replace hg := ite_f hb180 hg
          obtain ⟨r181, h182, hg⟩ := bind_some' hg
          cases hg
          refine XW.reg facts hE hG (by kernel_rfl) ?_
          refine ROps.pr rfl rfl rfl ?_
          refine ROps.pr rfl rfl rfl ?_
          refine ROps.pr rfl rfl rfl ?_
          refine ROps.ps rfl (wff rfl rfl rfl hb180) (w_live rfl rfl) ?_
          refine ROps.ps rfl (wff rfl rfl rfl hb180) (o_call rfl rfl rfl (pkA_r rfl) (cOpTextS hcl h182) rfl rfl rfl) ?_
          refine ROps.pr rfl (wff rfl rfl rfl hb180) rfl ?_
          refine ROps.pr rfl (wff rfl rfl rfl hb180) rfl ?_
          refine ROps.ps rfl rfl (o_pf rfl rfl hb180) ?_
          refine ROps.e ?_
          exact GI.of ⟨_, _, rfl, rfl, rfl, rfl, rfl⟩
    · refine XW.seq (XW.reg facts hE hG (by kernel_rfl) ?_)
      refine ROps.pr rfl rfl rfl ?_
      refine ROps.pr rfl rfl rfl ?_
      refine ROps.e ?_
      refine XW.cnd (!decide (v6_9 = (⟨#[45]⟩ : ByteArray))) rfl (by show 123 < 136; decide) (fun hb184 => ?_) (fun hb184 => ?_)
      · replace h := ite_t hb184 h
        refine XW.reg facts hE hG (by kernel_rfl) ?_
        refine ROps.pr rfl rfl rfl ?_
        refine ROps.ps rfl rfl (w_live rfl rfl) ?_
        refine ROps.pn rfl rfl (o_stb rfl rfl rfl ⟨rfl, rfl⟩ rfl (Nat.le_of_ble_eq_true rfl)) ?_
        refine ROps.e ?_
        exact GI.of ⟨_, _, _, h, rfl, rfl, rfl, rfl, rfl⟩
      · replace h := ite_f hb184 h
        refine XW.skip ?_
        exact GI.of ⟨_, _, _, h, rfl, rfl, rfl, rfl, rfl⟩
  · obtain ⟨h185, h⟩ := gd_some h
    obtain ⟨x186, h187, h⟩ := bind_some' h
    refine XW.seq (XW.reg facts hE hG (by kernel_rfl) ?_)
    refine ROps.pr rfl rfl rfl ?_
    refine ROps.ps rfl rfl (o_ixf0 rfl rfl rfl rfl rfl h185) ?_
    refine ROps.ps rfl rfl (o_ldr rfl rfl rfl h187 rfl rfl) ?_
    refine ROps.e ?_
    refine XW.block ?_
    refine XW.join2 (fun ε => ∃ (v17_1 : Bool) (w300 : Nat) (w600 : Nat) (w13000000 : Nat), p10_j1 fuel r1 a0 x186 v17_1 = some r ∧ ε.t 0 = .v (.string a0) ∧ ε.t 2 = .ptr 300 w300 0 0 ∧ ε.t 4 = .ref 13000000 w13000000 0 r1.length true ∧ ε.t 5 = .ptr 600 w600 0 0 ∧ ε.t 6 = .v (.string (⟨#[]⟩ : ByteArray)) ∧ ε.t 16 = .v (.string x186) ∧ ε.t 17 = .v (.bool v17_1) ∧ ε.s 300 = ⟨w300, some (.box [.v (.int .i64 0), .v (.int .i64 0), .v (.int .i64 0), .v (.int .i64 0), .v (.string ByteArray.empty), .v (.string ByteArray.empty), .v (.string ByteArray.empty), .nil])⟩ ∧ ε.s 600 = ⟨w600, some (.box [.v (.int .i64 0), .v (.int .i64 0), .v (.int .i64 0), .v (.int .i64 0), .v (.string ByteArray.empty), .v (.string ByteArray.empty), .v (.string ByteArray.empty), .nil])⟩ ∧ ε.s 13000000 = ⟨w13000000, some (.rowb .str r1)⟩) (fun ε hI => ?_) ?_
    · clear h
      obtain ⟨tt, ss⟩ := ε
      obtain ⟨v17_1, w300, w600, w13000000, h, e0, e2, e4, e5, e6, e16, e17, f300, f600, f13000000⟩ := hI
      refine XW.st 0 (by exact e0) <| XW.st 2 (by exact e2) <| XW.st 4 (by exact e4) <| XW.st 5 (by exact e5) <| XW.st 6 (by exact e6) <| XW.st 16 (by exact e16) <| XW.st 17 (by exact e17) <| XW.ss 300 (by exact f300) <| XW.ss 600 (by exact f600) <| XW.ss 13000000 (by exact f13000000) <| ?_
      unfold p10_j1 at h
      refine XW.cnd (v17_1) rfl (by show 17 < 136; decide) (fun hb189 => ?_) (fun hb189 => ?_)
      · replace h := ite_t hb189 h
        obtain ⟨r190, h191, h⟩ := bind_some' h
        obtain ⟨r192, h193, h⟩ := bind_some' h
        refine XW.seq (XW.reg facts hE hG (by kernel_rfl) ?_)
        refine ROps.pr rfl rfl rfl ?_
        refine ROps.ps rfl rfl (o_call rfl rfl rfl (pkA_cons (pk1_s (pk_full rfl rfl)) (pkA_cons (pk1_r rfl) pkA_nil)) (cWord hcl h191) rfl rfl rfl) ?_
        refine ROps.pr rfl rfl rfl ?_
        refine ROps.ps rfl rfl (o_call rfl rfl rfl (pkA_r rfl) (cRest hcl h193) rfl rfl rfl) ?_
        refine ROps.pr rfl rfl rfl ?_
        refine ROps.pn rfl rfl (o_stb rfl rfl rfl ⟨rfl, rfl⟩ rfl (Nat.le_of_ble_eq_true rfl)) ?_
        refine ROps.e ?_
        refine XW.join2 (fun ε => ∃ (b600_2_0 : Int) (w300 : Nat) (w600 : Nat) (w13000000 : Nat), p10_j2 fuel r1 a0 r190 r192 b600_2_0 = some r ∧ ε.t 0 = .v (.string a0) ∧ ε.t 2 = .ptr 300 w300 0 0 ∧ ε.t 4 = .ref 13000000 w13000000 0 r1.length true ∧ ε.t 5 = .ptr 600 w600 0 0 ∧ ε.s 300 = ⟨w300, some (.box [.v (.int .i64 0), .v (.int .i64 0), .v (.int .i64 0), .v (.int .i64 0), .v (.string ByteArray.empty), .v (.string ByteArray.empty), .v (.string ByteArray.empty), .nil])⟩ ∧ ε.s 600 = ⟨w600, some (.box [.v (.int .i64 b600_2_0), .v (.int .i64 0), .v (.int .i64 0), .v (.int .i64 0), .v (.string r190), .v (.string r192), .v (.string ByteArray.empty), .nil])⟩ ∧ ε.s 13000000 = ⟨w13000000, some (.rowb .str r1)⟩) (fun ε hI => ?_) ?_
        · clear h
          obtain ⟨tt, ss⟩ := ε
          obtain ⟨b600_2_0, w300, w600, w13000000, h, e0, e2, e4, e5, f300, f600, f13000000⟩ := hI
          refine XW.st 0 (by exact e0) <| XW.st 2 (by exact e2) <| XW.st 4 (by exact e4) <| XW.st 5 (by exact e5) <| XW.ss 300 (by exact f300) <| XW.ss 600 (by exact f600) <| XW.ss 13000000 (by exact f13000000) <| ?_
          unfold p10_j2 at h
          obtain ⟨r195, h196, h⟩ := bind_some' h
          refine XW.reg facts hE hG (by kernel_rfl) ?_
          refine ROps.pr rfl rfl rfl ?_
          refine ROps.ps rfl rfl (o_call rfl rfl rfl (pkA_cons (pk1_s (pk_full rfl rfl)) (pkA_cons (pk1_r rfl) pkA_nil)) (cWord hcl h196) rfl rfl rfl) ?_
          refine ROps.pr rfl rfl rfl ?_
          refine ROps.e ?_
          exact GI.of ⟨_, _, _, _, _, _, _, _, _, h, rfl, rfl, rfl, rfl, rfl, rfl⟩
        · refine XW.seq (XW.reg facts hE hG (by kernel_rfl) ?_)
          refine ROps.pr rfl rfl rfl ?_
          refine ROps.ps rfl rfl (o_ixf0 rfl rfl rfl rfl rfl h185) ?_
          refine ROps.ps rfl rfl (o_ldr rfl rfl rfl h187 rfl rfl) ?_
          refine ROps.pr rfl rfl rfl ?_
          refine ROps.e ?_
          refine XW.cnd (decide (x186 = (⟨#[119, 105, 110, 100, 111, 119]⟩ : ByteArray))) rfl (by show 28 < 136; decide) (fun hb197 => ?_) (fun hb197 => ?_)
          · replace h := ite_t hb197 h
            refine XW.reg facts hE hG (by kernel_rfl) ?_
            refine ROps.ps rfl rfl (w_live rfl rfl) ?_
            refine ROps.pn rfl rfl (o_stb rfl rfl rfl ⟨rfl, rfl⟩ rfl (Nat.le_of_ble_eq_true rfl)) ?_
            refine ROps.e ?_
            exact GI.of ⟨_, _, _, _, h, rfl, rfl, (ref_n rfl rfl), rfl, rfl, rfl, rfl⟩
          · replace h := ite_f hb197 h
            refine XW.skip ?_
            exact GI.of ⟨_, _, _, _, h, rfl, rfl, (ref_n rfl rfl), rfl, rfl, rfl, rfl⟩
      · replace h := ite_f hb189 h
        refine XW.seq (XW.reg facts hE hG (by kernel_rfl) ?_)
        refine ROps.pr rfl rfl rfl ?_
        refine ROps.pr rfl rfl rfl ?_
        refine ROps.e ?_
        refine XW.cnd (decide (x186 = (⟨#[115, 112, 108, 105, 116]⟩ : ByteArray))) rfl (by show 32 < 136; decide) (fun hb198 => ?_) (fun hb198 => ?_)
        · replace h := ite_t hb198 h
          obtain ⟨r199, h200, h⟩ := bind_some' h
          obtain ⟨r201, h202, h⟩ := bind_some' h
          obtain ⟨r203, h204, h⟩ := bind_some' h
          refine XW.seq (XW.reg facts hE hG (by kernel_rfl) ?_)
          refine ROps.pr rfl rfl rfl ?_
          refine ROps.ps rfl rfl (o_call rfl rfl rfl (pkA_cons (pk1_s (pk_full rfl rfl)) (pkA_cons (pk1_r rfl) pkA_nil)) (cWord hcl h200) rfl rfl rfl) ?_
          refine ROps.ps rfl rfl (o_call rfl rfl rfl (pkA_r rfl) (cNum hcl h202) rfl rfl rfl) ?_
          refine ROps.pr rfl rfl rfl ?_
          refine ROps.ps rfl rfl (o_call rfl rfl rfl (pkA_r rfl) (cRest hcl h204) rfl rfl rfl) ?_
          refine ROps.pr rfl rfl rfl ?_
          refine ROps.pn rfl rfl (o_stb rfl rfl rfl ⟨rfl, rfl⟩ rfl (Nat.le_of_ble_eq_true rfl)) ?_
          refine ROps.e ?_
          refine XW.join2 (fun ε => ∃ (b600_3_2 : Int) (w300 : Nat) (w600 : Nat) (w13000000 : Nat), p10_j3 fuel r1 a0 r201 r203 b600_3_2 = some r ∧ ε.t 0 = .v (.string a0) ∧ ε.t 2 = .ptr 300 w300 0 0 ∧ ε.t 4 = .ref 13000000 w13000000 0 r1.length true ∧ ε.t 5 = .ptr 600 w600 0 0 ∧ ε.s 300 = ⟨w300, some (.box [.v (.int .i64 0), .v (.int .i64 0), .v (.int .i64 0), .v (.int .i64 0), .v (.string ByteArray.empty), .v (.string ByteArray.empty), .v (.string ByteArray.empty), .nil])⟩ ∧ ε.s 600 = ⟨w600, some (.box [.v (.int .i64 3), .v (.int .i64 r201), .v (.int .i64 b600_3_2), .v (.int .i64 0), .v (.string ByteArray.empty), .v (.string r203), .v (.string ByteArray.empty), .nil])⟩ ∧ ε.s 13000000 = ⟨w13000000, some (.rowb .str r1)⟩) (fun ε hI => ?_) ?_
          · clear h
            obtain ⟨tt, ss⟩ := ε
            obtain ⟨b600_3_2, w300, w600, w13000000, h, e0, e2, e4, e5, f300, f600, f13000000⟩ := hI
            refine XW.st 0 (by exact e0) <| XW.st 2 (by exact e2) <| XW.st 4 (by exact e4) <| XW.st 5 (by exact e5) <| XW.ss 300 (by exact f300) <| XW.ss 600 (by exact f600) <| XW.ss 13000000 (by exact f13000000) <| ?_
            unfold p10_j3 at h
            obtain ⟨r208, h209, h⟩ := bind_some' h
            refine XW.reg facts hE hG (by kernel_rfl) ?_
            refine ROps.pr rfl rfl rfl ?_
            refine ROps.ps rfl rfl (o_call rfl rfl rfl (pkA_cons (pk1_s (pk_full rfl rfl)) (pkA_cons (pk1_r rfl) pkA_nil)) (cWord hcl h209) rfl rfl rfl) ?_
            refine ROps.pr rfl rfl rfl ?_
            refine ROps.e ?_
            exact GI.of ⟨_, _, _, _, _, _, _, _, _, h, rfl, rfl, rfl, rfl, rfl, rfl⟩
          · obtain ⟨r210, h211, h⟩ := bind_some' h
            refine XW.seq (XW.reg facts hE hG (by kernel_rfl) ?_)
            refine ROps.pr rfl rfl rfl ?_
            refine ROps.ps rfl rfl (o_call rfl rfl rfl (pkA_cons (pk1_s (pk_full rfl rfl)) (pkA_cons (pk1_r rfl) pkA_nil)) (cWord hcl h211) rfl rfl rfl) ?_
            refine ROps.pr rfl rfl rfl ?_
            refine ROps.e ?_
            refine XW.cnd (decide (r210 = (⟨#[98, 101, 108, 111, 119]⟩ : ByteArray))) rfl (by show 42 < 136; decide) (fun hb212 => ?_) (fun hb212 => ?_)
            · replace h := ite_t hb212 h
              refine XW.reg facts hE hG (by kernel_rfl) ?_
              refine ROps.ps rfl rfl (w_live rfl rfl) ?_
              refine ROps.pn rfl rfl (o_stb rfl rfl rfl ⟨rfl, rfl⟩ rfl (Nat.le_of_ble_eq_true rfl)) ?_
              refine ROps.e ?_
              exact GI.of ⟨_, _, _, _, h, rfl, rfl, (ref_n rfl rfl), rfl, rfl, rfl, rfl⟩
            · replace h := ite_f hb212 h
              refine XW.skip ?_
              exact GI.of ⟨_, _, _, _, h, rfl, rfl, (ref_n rfl rfl), rfl, rfl, rfl, rfl⟩
        · replace h := ite_f hb198 h
          refine XW.join2 (fun ε => ∃ (v46_4 : Bool) (w300 : Nat) (w600 : Nat) (w13000000 : Nat), p10_j4 fuel r1 x186 a0 v46_4 = some r ∧ ε.t 0 = .v (.string a0) ∧ ε.t 2 = .ptr 300 w300 0 0 ∧ ε.t 4 = .ref 13000000 w13000000 0 r1.length true ∧ ε.t 5 = .ptr 600 w600 0 0 ∧ ε.t 6 = .v (.string (⟨#[]⟩ : ByteArray)) ∧ ε.t 16 = .v (.string x186) ∧ ε.t 46 = .v (.bool v46_4) ∧ ε.s 300 = ⟨w300, some (.box [.v (.int .i64 0), .v (.int .i64 0), .v (.int .i64 0), .v (.int .i64 0), .v (.string ByteArray.empty), .v (.string ByteArray.empty), .v (.string ByteArray.empty), .nil])⟩ ∧ ε.s 600 = ⟨w600, some (.box [.v (.int .i64 0), .v (.int .i64 0), .v (.int .i64 0), .v (.int .i64 0), .v (.string ByteArray.empty), .v (.string ByteArray.empty), .v (.string ByteArray.empty), .nil])⟩ ∧ ε.s 13000000 = ⟨w13000000, some (.rowb .str r1)⟩) (fun ε hI => ?_) ?_
          · clear h
            obtain ⟨tt, ss⟩ := ε
            obtain ⟨v46_4, w300, w600, w13000000, h, e0, e2, e4, e5, e6, e16, e46, f300, f600, f13000000⟩ := hI
            refine XW.st 0 (by exact e0) <| XW.st 2 (by exact e2) <| XW.st 4 (by exact e4) <| XW.st 5 (by exact e5) <| XW.st 6 (by exact e6) <| XW.st 16 (by exact e16) <| XW.st 46 (by exact e46) <| XW.ss 300 (by exact f300) <| XW.ss 600 (by exact f600) <| XW.ss 13000000 (by exact f13000000) <| ?_
            unfold p10_j4 at h
            refine XW.cnd (v46_4) rfl (by show 46 < 136; decide) (fun hb216 => ?_) (fun hb216 => ?_)
            · replace h := ite_t hb216 h
              obtain ⟨r217, h218, h⟩ := bind_some' h
              obtain ⟨r219, h220, h⟩ := bind_some' h
              refine XW.seq (XW.reg facts hE hG (by kernel_rfl) ?_)
              refine ROps.pr rfl rfl rfl ?_
              refine ROps.ps rfl rfl (o_call rfl rfl rfl (pkA_cons (pk1_s (pk_full rfl rfl)) (pkA_cons (pk1_r rfl) pkA_nil)) (cWord hcl h218) rfl rfl rfl) ?_
              refine ROps.ps rfl rfl (o_call rfl rfl rfl (pkA_r rfl) (cNum hcl h220) rfl rfl rfl) ?_
              refine ROps.ps rfl rfl (w_live rfl rfl) ?_
              refine ROps.pn rfl rfl (o_stb rfl rfl rfl ⟨rfl, rfl⟩ rfl (Nat.le_of_ble_eq_true rfl)) ?_
              refine ROps.e ?_
              refine XW.seq (XW.reg facts hE hG (by kernel_rfl) ?_)
              refine ROps.ps rfl rfl (o_bs ([(⟨#[107, 105, 108, 108]⟩ : ByteArray), (⟨#[115, 101, 108, 101, 99, 116]⟩ : ByteArray), (⟨#[114, 101, 115, 116, 97, 114, 116]⟩ : ByteArray), (⟨#[122, 111, 111, 109]⟩ : ByteArray)] : List (ty .str)) rfl rfl rfl (by decide) rfl) ?_
              refine ROps.ps rfl rfl (w_live rfl rfl) ?_
              refine ROps.pr rfl rfl rfl ?_
              refine ROps.e ?_
              refine XW.block ?_
              obtain ⟨oo5, hl, ho5⟩ := bind_some' h
              clear h
              refine XW.roundsG (fun n => fun ε => ∃ (v57_5 : Int) (b600_5_0 : Int) (w300 : Nat) (w600 : Nat) (w5600 : Nat) (w13000000 : Nat), loopF (p10_b5 fuel x186) n (v57_5, b600_5_0) = some oo5 ∧ ε.t 0 = .v (.string a0) ∧ ε.t 2 = .ptr 300 w300 0 0 ∧ ε.t 4 = .ref 13000000 w13000000 0 r1.length true ∧ ε.t 5 = .ptr 600 w600 0 0 ∧ ε.t 6 = .v (.string (⟨#[]⟩ : ByteArray)) ∧ ε.t 55 = .ref 5600 w5600 0 (([(⟨#[107, 105, 108, 108]⟩ : ByteArray), (⟨#[115, 101, 108, 101, 99, 116]⟩ : ByteArray), (⟨#[114, 101, 115, 116, 97, 114, 116]⟩ : ByteArray), (⟨#[122, 111, 111, 109]⟩ : ByteArray)] : List (ty .str)).length) true ∧ ε.t 56 = .v (.int .i64 ((4 : Nat) : Int)) ∧ ε.t 57 = .v (.int .i64 v57_5) ∧ ε.s 300 = ⟨w300, some (.box [.v (.int .i64 0), .v (.int .i64 0), .v (.int .i64 0), .v (.int .i64 0), .v (.string ByteArray.empty), .v (.string ByteArray.empty), .v (.string ByteArray.empty), .nil])⟩ ∧ ε.s 600 = ⟨w600, some (.box [.v (.int .i64 b600_5_0), .v (.int .i64 r219), .v (.int .i64 0), .v (.int .i64 0), .v (.string ByteArray.empty), .v (.string ByteArray.empty), .v (.string ByteArray.empty), .nil])⟩ ∧ ε.s 5600 = ⟨w5600, some (.rowb .str ([(⟨#[107, 105, 108, 108]⟩ : ByteArray), (⟨#[115, 101, 108, 101, 99, 116]⟩ : ByteArray), (⟨#[114, 101, 115, 116, 97, 114, 116]⟩ : ByteArray), (⟨#[122, 111, 111, 109]⟩ : ByteArray)] : List (ty .str)))⟩ ∧ ε.s 13000000 = ⟨w13000000, some (.rowb .str r1)⟩) fuel ?_ (fun ε hI => ?_) (fun n ε hI => ?_)
              · exact GI.of ⟨_, _, _, _, _, _, hl, rfl, rfl, (ref_n rfl rfl), rfl, rfl, (ref_n rfl rfl), rfl, rfl, rfl, rfl, rfl, rfl⟩
              · obtain ⟨tt, ss⟩ := ε
                obtain ⟨v57_5, b600_5_0, w300, w600, w5600, w13000000, hl, e0, e2, e4, e5, e6, e55, e56, e57, f300, f600, f5600, f13000000⟩ := hI
                cases hl
              · clear hl
                obtain ⟨tt, ss⟩ := ε
                obtain ⟨v57_5, b600_5_0, w300, w600, w5600, w13000000, hl, e0, e2, e4, e5, e6, e55, e56, e57, f300, f600, f5600, f13000000⟩ := hI
                refine XW.st 0 (by exact e0) <| XW.st 2 (by exact e2) <| XW.st 4 (by exact e4) <| XW.st 5 (by exact e5) <| XW.st 6 (by exact e6) <| XW.st 55 (by exact e55) <| XW.st 56 (by exact e56) <| XW.st 57 (by exact e57) <| XW.ss 300 (by exact f300) <| XW.ss 600 (by exact f600) <| XW.ss 5600 (by exact f5600) <| XW.ss 13000000 (by exact f13000000) <| ?_
                obtain ⟨sv5, h, hs5⟩ := loopF_succ hl
                clear hl
                unfold p10_b5 at h
                try dsimp only at h
                refine XW.seq (XW.reg facts hE hG (by kernel_rfl) ?_)
                refine ROps.pr rfl rfl rfl ?_
                refine ROps.e ?_
                refine XW.seq ?_
                refine XW.cnd (decide (v57_5 < ((4 : Nat) : Int))) rfl (by show 58 < 136; decide) (fun hb253 => ?_) (fun hb253 => ?_)
                · replace h := ite_t hb253 h
                  refine XW.skip ?_
                  refine XW.join2 (fun ε => ∃ (b600_6_0 : Int) (w300 : Nat) (w600 : Nat) (w5600 : Nat) (w13000000 : Nat), p10_j6 fuel v57_5 b600_6_0 = some sv5 ∧ ε.t 0 = .v (.string a0) ∧ ε.t 2 = .ptr 300 w300 0 0 ∧ ε.t 4 = .ref 13000000 w13000000 0 r1.length true ∧ ε.t 5 = .ptr 600 w600 0 0 ∧ ε.t 6 = .v (.string (⟨#[]⟩ : ByteArray)) ∧ ε.t 55 = .ref 5600 w5600 0 (([(⟨#[107, 105, 108, 108]⟩ : ByteArray), (⟨#[115, 101, 108, 101, 99, 116]⟩ : ByteArray), (⟨#[114, 101, 115, 116, 97, 114, 116]⟩ : ByteArray), (⟨#[122, 111, 111, 109]⟩ : ByteArray)] : List (ty .str)).length) true ∧ ε.t 56 = .v (.int .i64 ((4 : Nat) : Int)) ∧ ε.t 57 = .v (.int .i64 v57_5) ∧ ε.s 300 = ⟨w300, some (.box [.v (.int .i64 0), .v (.int .i64 0), .v (.int .i64 0), .v (.int .i64 0), .v (.string ByteArray.empty), .v (.string ByteArray.empty), .v (.string ByteArray.empty), .nil])⟩ ∧ ε.s 600 = ⟨w600, some (.box [.v (.int .i64 b600_6_0), .v (.int .i64 r219), .v (.int .i64 0), .v (.int .i64 0), .v (.string ByteArray.empty), .v (.string ByteArray.empty), .v (.string ByteArray.empty), .nil])⟩ ∧ ε.s 5600 = ⟨w5600, some (.rowb .str ([(⟨#[107, 105, 108, 108]⟩ : ByteArray), (⟨#[115, 101, 108, 101, 99, 116]⟩ : ByteArray), (⟨#[114, 101, 115, 116, 97, 114, 116]⟩ : ByteArray), (⟨#[122, 111, 111, 109]⟩ : ByteArray)] : List (ty .str)))⟩ ∧ ε.s 13000000 = ⟨w13000000, some (.rowb .str r1)⟩) (fun ε hI => ?_) ?_
                  · clear h
                    obtain ⟨tt, ss⟩ := ε
                    obtain ⟨b600_6_0, w300, w600, w5600, w13000000, h, e0, e2, e4, e5, e6, e55, e56, e57, f300, f600, f5600, f13000000⟩ := hI
                    refine XW.st 0 (by exact e0) <| XW.st 2 (by exact e2) <| XW.st 4 (by exact e4) <| XW.st 5 (by exact e5) <| XW.st 6 (by exact e6) <| XW.st 55 (by exact e55) <| XW.st 56 (by exact e56) <| XW.st 57 (by exact e57) <| XW.ss 300 (by exact f300) <| XW.ss 600 (by exact f600) <| XW.ss 5600 (by exact f5600) <| XW.ss 13000000 (by exact f13000000) <| ?_
                    unfold p10_j6 at h
                    obtain ⟨h261, h⟩ := gdK_some h
                    refine XW.reg facts hE hG (by kernel_rfl) ?_
                    refine ROps.ps rfl rfl (w_wr h261) ?_
                    refine ROps.pr rfl rfl rfl ?_
                    refine ROps.e ?_
                    cases h
                    replace hs5 := loopF_next hs5
                    exact GI.of ⟨_, _, _, _, _, _, hs5, rfl, rfl, (ref_n rfl rfl), rfl, rfl, (ref_n rfl rfl), rfl, rfl, rfl, rfl, rfl, rfl⟩
                  · refine XW.block ?_
                    obtain ⟨h262, h⟩ := gd_some h
                    obtain ⟨x263, h264, h⟩ := bind_some' h
                    refine XW.seq (XW.reg facts hE hG (by kernel_rfl) ?_)
                    refine ROps.pr rfl rfl rfl ?_
                    refine ROps.ps rfl rfl (o_ixf0 rfl rfl rfl rfl rfl h262) ?_
                    refine ROps.ps rfl rfl (o_ldr rfl rfl rfl h264 rfl rfl) ?_
                    refine ROps.pr rfl rfl rfl ?_
                    refine ROps.pr rfl rfl rfl ?_
                    refine ROps.e ?_
                    refine XW.seq (XW.reg facts hE hG (by kernel_rfl) ?_)
                    refine ROps.pr rfl rfl rfl ?_
                    refine ROps.pr rfl rfl rfl ?_
                    refine ROps.ps rfl rfl (o_ixf0 rfl rfl rfl rfl rfl h185) ?_
                    refine ROps.ps rfl rfl (o_ldr rfl rfl rfl h187 rfl rfl) ?_
                    refine ROps.pr rfl rfl rfl ?_
                    refine ROps.e ?_
                    refine XW.cnd (decide (x263 = x186)) rfl (by show 66 < 136; decide) (fun hb265 => ?_) (fun hb265 => ?_)
                    · replace h := ite_t hb265 h
                      obtain ⟨h266, h⟩ := gd_some h
                      obtain ⟨x267, h268, h⟩ := bind_some' h
                      refine XW.reg facts hE hG (by kernel_rfl) ?_
                      refine ROps.ps rfl rfl (o_bs ([4, 7, 14, 8] : List (ty .int)) rfl rfl rfl (by decide) rfl) ?_
                      refine ROps.pr rfl rfl rfl ?_
                      refine ROps.ps rfl rfl (o_ixf0 rfl rfl rfl rfl rfl h266) ?_
                      refine ROps.ps rfl rfl (o_ldr rfl rfl rfl h268 rfl rfl) ?_
                      refine ROps.ps rfl rfl (w_live rfl rfl) ?_
                      refine ROps.pn rfl rfl (o_stb rfl rfl rfl ⟨rfl, rfl⟩ rfl (Nat.le_of_ble_eq_true rfl)) ?_
                      refine ROps.e ?_
                      exact GI.of ⟨_, _, _, _, _, h, rfl, rfl, (ref_n rfl rfl), rfl, rfl, (ref_n rfl rfl), rfl, rfl, rfl, rfl, rfl, rfl⟩
                    · replace h := ite_f hb265 h
                      refine XW.skip ?_
                      exact GI.of ⟨_, _, _, _, _, h, rfl, rfl, (ref_n rfl rfl), rfl, rfl, (ref_n rfl rfl), rfl, rfl, rfl, rfl, rfl, rfl⟩
                · replace h := ite_f hb253 h
                  refine XW.exit ?_
                  cases h
                  replace hs5 := loopF_done hs5
                  subst hs5
                  replace h : p10_j9 fuel a0 (⟨#[]⟩ : ByteArray) b600_5_0 r219 0 0 ByteArray.empty ByteArray.empty = some r := ho5
                  exact GI.of ⟨_, _, _, _, _, _, _, _, _, h, rfl, rfl, rfl, rfl, rfl, rfl⟩
            · replace h := ite_f hb216 h
              refine XW.seq (XW.reg facts hE hG (by kernel_rfl) ?_)
              refine ROps.pr rfl rfl rfl ?_
              refine ROps.pr rfl rfl rfl ?_
              refine ROps.e ?_
              refine XW.cnd (decide (x186 = (⟨#[115, 119, 97, 112]⟩ : ByteArray))) rfl (by show 73 < 136; decide) (fun hb269 => ?_) (fun hb269 => ?_)
              · replace h := ite_t hb269 h
                obtain ⟨r270, h271, h⟩ := bind_some' h
                obtain ⟨r272, h273, h⟩ := bind_some' h
                obtain ⟨r274, h275, h⟩ := bind_some' h
                obtain ⟨r276, h277, h⟩ := bind_some' h
                refine XW.reg facts hE hG (by kernel_rfl) ?_
                refine ROps.pr rfl rfl rfl ?_
                refine ROps.ps rfl rfl (o_call rfl rfl rfl (pkA_cons (pk1_s (pk_full rfl rfl)) (pkA_cons (pk1_r rfl) pkA_nil)) (cWord hcl h271) rfl rfl rfl) ?_
                refine ROps.ps rfl rfl (o_call rfl rfl rfl (pkA_r rfl) (cNum hcl h273) rfl rfl rfl) ?_
                refine ROps.pr rfl rfl rfl ?_
                refine ROps.ps rfl rfl (o_call rfl rfl rfl (pkA_cons (pk1_s (pk_full rfl rfl)) (pkA_cons (pk1_r rfl) pkA_nil)) (cWord hcl h275) rfl rfl rfl) ?_
                refine ROps.ps rfl rfl (o_call rfl rfl rfl (pkA_r rfl) (cNum hcl h277) rfl rfl rfl) ?_
                refine ROps.pr rfl rfl rfl ?_
                refine ROps.pn rfl rfl (o_stb rfl rfl rfl ⟨rfl, rfl⟩ rfl (Nat.le_of_ble_eq_true rfl)) ?_
                refine ROps.e ?_
                exact GI.of ⟨_, _, _, _, _, _, _, _, _, h, rfl, rfl, rfl, rfl, rfl, rfl⟩
              · replace h := ite_f hb269 h
                refine XW.seq (XW.reg facts hE hG (by kernel_rfl) ?_)
                refine ROps.pr rfl rfl rfl ?_
                refine ROps.pr rfl rfl rfl ?_
                refine ROps.e ?_
                refine XW.cnd (decide (x186 = (⟨#[103, 114, 111, 119]⟩ : ByteArray))) rfl (by show 82 < 136; decide) (fun hb278 => ?_) (fun hb278 => ?_)
                · replace h := ite_t hb278 h
                  obtain ⟨r279, h280, h⟩ := bind_some' h
                  obtain ⟨r281, h282, h⟩ := bind_some' h
                  obtain ⟨r283, h284, h⟩ := bind_some' h
                  obtain ⟨r285, h286, h⟩ := bind_some' h
                  refine XW.seq (XW.reg facts hE hG (by kernel_rfl) ?_)
                  refine ROps.pr rfl rfl rfl ?_
                  refine ROps.ps rfl rfl (o_call rfl rfl rfl (pkA_cons (pk1_s (pk_full rfl rfl)) (pkA_cons (pk1_r rfl) pkA_nil)) (cWord hcl h280) rfl rfl rfl) ?_
                  refine ROps.ps rfl rfl (o_call rfl rfl rfl (pkA_r rfl) (cNum hcl h282) rfl rfl rfl) ?_
                  refine ROps.pr rfl rfl rfl ?_
                  refine ROps.ps rfl rfl (o_call rfl rfl rfl (pkA_cons (pk1_s (pk_full rfl rfl)) (pkA_cons (pk1_r rfl) pkA_nil)) (cWord hcl h284) rfl rfl rfl) ?_
                  refine ROps.ps rfl rfl (o_call rfl rfl rfl (pkA_r rfl) (cNum hcl h286) rfl rfl rfl) ?_
                  refine ROps.pr rfl rfl rfl ?_
                  refine ROps.pn rfl rfl (o_stb rfl rfl rfl ⟨rfl, rfl⟩ rfl (Nat.le_of_ble_eq_true rfl)) ?_
                  refine ROps.e ?_
                  refine XW.seq (XW.reg facts hE hG (by kernel_rfl) ?_)
                  refine ROps.ps rfl rfl (o_bs ([76, 82, 85, 68] : List (ty .int)) rfl rfl rfl (by decide) rfl) ?_
                  refine ROps.ps rfl rfl (w_live rfl rfl) ?_
                  refine ROps.pr rfl rfl rfl ?_
                  refine ROps.e ?_
                  refine XW.block ?_
                  obtain ⟨oo7, hl, ho7⟩ := bind_some' h
                  clear h
                  refine XW.roundsG (fun n => fun ε => ∃ (v93_7 : Int) (b600_7_2 : Int) (w300 : Nat) (w600 : Nat) (w9200 : Nat) (w13000000 : Nat), loopF (p10_b7 fuel r1) n (v93_7, b600_7_2) = some oo7 ∧ ε.t 0 = .v (.string a0) ∧ ε.t 2 = .ptr 300 w300 0 0 ∧ ε.t 4 = .ref 13000000 w13000000 0 r1.length true ∧ ε.t 5 = .ptr 600 w600 0 0 ∧ ε.t 6 = .v (.string (⟨#[]⟩ : ByteArray)) ∧ ε.t 91 = .ref 9200 w9200 0 (([76, 82, 85, 68] : List (ty .int)).length) true ∧ ε.t 92 = .v (.int .i64 ((4 : Nat) : Int)) ∧ ε.t 93 = .v (.int .i64 v93_7) ∧ ε.s 300 = ⟨w300, some (.box [.v (.int .i64 0), .v (.int .i64 0), .v (.int .i64 0), .v (.int .i64 0), .v (.string ByteArray.empty), .v (.string ByteArray.empty), .v (.string ByteArray.empty), .nil])⟩ ∧ ε.s 600 = ⟨w600, some (.box [.v (.int .i64 10), .v (.int .i64 r281), .v (.int .i64 b600_7_2), .v (.int .i64 r285), .v (.string ByteArray.empty), .v (.string ByteArray.empty), .v (.string ByteArray.empty), .nil])⟩ ∧ ε.s 9200 = ⟨w9200, some (.rowb .int ([76, 82, 85, 68] : List (ty .int)))⟩ ∧ ε.s 13000000 = ⟨w13000000, some (.rowb .str r1)⟩) fuel ?_ (fun ε hI => ?_) (fun n ε hI => ?_)
                  · exact GI.of ⟨_, _, _, _, _, _, hl, rfl, rfl, (ref_n rfl rfl), rfl, rfl, (ref_n rfl rfl), rfl, rfl, rfl, rfl, rfl, rfl⟩
                  · obtain ⟨tt, ss⟩ := ε
                    obtain ⟨v93_7, b600_7_2, w300, w600, w9200, w13000000, hl, e0, e2, e4, e5, e6, e91, e92, e93, f300, f600, f9200, f13000000⟩ := hI
                    cases hl
                  · clear hl
                    obtain ⟨tt, ss⟩ := ε
                    obtain ⟨v93_7, b600_7_2, w300, w600, w9200, w13000000, hl, e0, e2, e4, e5, e6, e91, e92, e93, f300, f600, f9200, f13000000⟩ := hI
                    refine XW.st 0 (by exact e0) <| XW.st 2 (by exact e2) <| XW.st 4 (by exact e4) <| XW.st 5 (by exact e5) <| XW.st 6 (by exact e6) <| XW.st 91 (by exact e91) <| XW.st 92 (by exact e92) <| XW.st 93 (by exact e93) <| XW.ss 300 (by exact f300) <| XW.ss 600 (by exact f600) <| XW.ss 9200 (by exact f9200) <| XW.ss 13000000 (by exact f13000000) <| ?_
                    obtain ⟨sv7, h, hs7⟩ := loopF_succ hl
                    clear hl
                    unfold p10_b7 at h
                    try dsimp only at h
                    refine XW.seq (XW.reg facts hE hG (by kernel_rfl) ?_)
                    refine ROps.pr rfl rfl rfl ?_
                    refine ROps.e ?_
                    refine XW.seq ?_
                    refine XW.cnd (decide (v93_7 < ((4 : Nat) : Int))) rfl (by show 94 < 136; decide) (fun hb323 => ?_) (fun hb323 => ?_)
                    · replace h := ite_t hb323 h
                      refine XW.skip ?_
                      refine XW.join2 (fun ε => ∃ (b600_8_2 : Int) (w300 : Nat) (w600 : Nat) (w9200 : Nat) (w13000000 : Nat), p10_j8 fuel v93_7 b600_8_2 = some sv7 ∧ ε.t 0 = .v (.string a0) ∧ ε.t 2 = .ptr 300 w300 0 0 ∧ ε.t 4 = .ref 13000000 w13000000 0 r1.length true ∧ ε.t 5 = .ptr 600 w600 0 0 ∧ ε.t 6 = .v (.string (⟨#[]⟩ : ByteArray)) ∧ ε.t 91 = .ref 9200 w9200 0 (([76, 82, 85, 68] : List (ty .int)).length) true ∧ ε.t 92 = .v (.int .i64 ((4 : Nat) : Int)) ∧ ε.t 93 = .v (.int .i64 v93_7) ∧ ε.s 300 = ⟨w300, some (.box [.v (.int .i64 0), .v (.int .i64 0), .v (.int .i64 0), .v (.int .i64 0), .v (.string ByteArray.empty), .v (.string ByteArray.empty), .v (.string ByteArray.empty), .nil])⟩ ∧ ε.s 600 = ⟨w600, some (.box [.v (.int .i64 10), .v (.int .i64 r281), .v (.int .i64 b600_8_2), .v (.int .i64 r285), .v (.string ByteArray.empty), .v (.string ByteArray.empty), .v (.string ByteArray.empty), .nil])⟩ ∧ ε.s 9200 = ⟨w9200, some (.rowb .int ([76, 82, 85, 68] : List (ty .int)))⟩ ∧ ε.s 13000000 = ⟨w13000000, some (.rowb .str r1)⟩) (fun ε hI => ?_) ?_
                      · clear h
                        obtain ⟨tt, ss⟩ := ε
                        obtain ⟨b600_8_2, w300, w600, w9200, w13000000, h, e0, e2, e4, e5, e6, e91, e92, e93, f300, f600, f9200, f13000000⟩ := hI
                        refine XW.st 0 (by exact e0) <| XW.st 2 (by exact e2) <| XW.st 4 (by exact e4) <| XW.st 5 (by exact e5) <| XW.st 6 (by exact e6) <| XW.st 91 (by exact e91) <| XW.st 92 (by exact e92) <| XW.st 93 (by exact e93) <| XW.ss 300 (by exact f300) <| XW.ss 600 (by exact f600) <| XW.ss 9200 (by exact f9200) <| XW.ss 13000000 (by exact f13000000) <| ?_
                        unfold p10_j8 at h
                        obtain ⟨h332, h⟩ := gdK_some h
                        refine XW.reg facts hE hG (by kernel_rfl) ?_
                        refine ROps.ps rfl rfl (w_wr h332) ?_
                        refine ROps.pr rfl rfl rfl ?_
                        refine ROps.e ?_
                        cases h
                        replace hs7 := loopF_next hs7
                        exact GI.of ⟨_, _, _, _, _, _, hs7, rfl, rfl, (ref_n rfl rfl), rfl, rfl, (ref_n rfl rfl), rfl, rfl, rfl, rfl, rfl, rfl⟩
                      · refine XW.block ?_
                        obtain ⟨h333, h⟩ := gd_some h
                        obtain ⟨x334, h335, h⟩ := bind_some' h
                        refine XW.seq (XW.reg facts hE hG (by kernel_rfl) ?_)
                        refine ROps.ps rfl rfl (o_ixf0 rfl rfl rfl rfl rfl h333) ?_
                        refine ROps.ps rfl rfl (o_ldr rfl rfl rfl h335 rfl rfl) ?_
                        refine ROps.pr rfl rfl rfl ?_
                        refine ROps.e ?_
                        obtain ⟨r336, h337, h⟩ := bind_some' h
                        obtain ⟨r338, h339, h⟩ := bind_some' h
                        refine XW.seq (XW.reg facts hE hG (by kernel_rfl) ?_)
                        refine ROps.pr rfl rfl rfl ?_
                        refine ROps.ps rfl rfl (o_call rfl rfl rfl (pkA_r rfl) (cSide hcl h337) rfl rfl rfl) ?_
                        refine ROps.pr rfl rfl rfl ?_
                        refine ROps.ps rfl rfl (o_call rfl rfl rfl (pkA_cons (pk1_s (pk_full rfl rfl)) (pkA_cons (pk1_r rfl) pkA_nil)) (cWord hcl h339) rfl rfl rfl) ?_
                        refine ROps.pr rfl rfl rfl ?_
                        refine ROps.e ?_
                        refine XW.cnd (decide (r336 = r338)) rfl (by show 101 < 136; decide) (fun hb340 => ?_) (fun hb340 => ?_)
                        · replace h := ite_t hb340 h
                          refine XW.reg facts hE hG (by kernel_rfl) ?_
                          refine ROps.pr rfl rfl rfl ?_
                          refine ROps.ps rfl rfl (w_live rfl rfl) ?_
                          refine ROps.pn rfl rfl (o_stb rfl rfl rfl ⟨rfl, rfl⟩ rfl (Nat.le_of_ble_eq_true rfl)) ?_
                          refine ROps.e ?_
                          exact GI.of ⟨_, _, _, _, _, h, rfl, rfl, (ref_n rfl rfl), rfl, rfl, (ref_n rfl rfl), rfl, rfl, rfl, rfl, rfl, rfl⟩
                        · replace h := ite_f hb340 h
                          refine XW.skip ?_
                          exact GI.of ⟨_, _, _, _, _, h, rfl, rfl, (ref_n rfl rfl), rfl, rfl, (ref_n rfl rfl), rfl, rfl, rfl, rfl, rfl, rfl⟩
                    · replace h := ite_f hb323 h
                      refine XW.exit ?_
                      cases h
                      replace hs7 := loopF_done hs7
                      subst hs7
                      replace h : p10_j9 fuel a0 (⟨#[]⟩ : ByteArray) 10 r281 b600_7_2 r285 ByteArray.empty ByteArray.empty = some r := ho7
                      exact GI.of ⟨_, _, _, _, _, _, _, _, _, h, rfl, rfl, rfl, rfl, rfl, rfl⟩
                · replace h := ite_f hb278 h
                  refine XW.seq (XW.reg facts hE hG (by kernel_rfl) ?_)
                  refine ROps.pr rfl rfl rfl ?_
                  refine ROps.pr rfl rfl rfl ?_
                  refine ROps.e ?_
                  refine XW.cnd (decide (x186 = (⟨#[110, 97, 109, 101]⟩ : ByteArray))) rfl (by show 105 < 136; decide) (fun hb341 => ?_) (fun hb341 => ?_)
                  · replace h := ite_t hb341 h
                    obtain ⟨r342, h343, h⟩ := bind_some' h
                    obtain ⟨r344, h345, h⟩ := bind_some' h
                    obtain ⟨r346, h347, h⟩ := bind_some' h
                    refine XW.reg facts hE hG (by kernel_rfl) ?_
                    refine ROps.pr rfl rfl rfl ?_
                    refine ROps.ps rfl rfl (o_call rfl rfl rfl (pkA_cons (pk1_s (pk_full rfl rfl)) (pkA_cons (pk1_r rfl) pkA_nil)) (cWord hcl h343) rfl rfl rfl) ?_
                    refine ROps.ps rfl rfl (o_call rfl rfl rfl (pkA_r rfl) (cNum hcl h345) rfl rfl rfl) ?_
                    refine ROps.pr rfl rfl rfl ?_
                    refine ROps.ps rfl rfl (o_call rfl rfl rfl (pkA_cons (pk1_s (pk_full rfl rfl)) (pkA_cons (pk1_r rfl) pkA_nil)) (cWord hcl h347) rfl rfl rfl) ?_
                    refine ROps.pr rfl rfl rfl ?_
                    refine ROps.pn rfl rfl (o_stb rfl rfl rfl ⟨rfl, rfl⟩ rfl (Nat.le_of_ble_eq_true rfl)) ?_
                    refine ROps.e ?_
                    exact GI.of ⟨_, _, _, _, _, _, _, _, _, h, rfl, rfl, rfl, rfl, rfl, rfl⟩
                  · replace h := ite_f hb341 h
                    refine XW.seq (XW.reg facts hE hG (by kernel_rfl) ?_)
                    refine ROps.pr rfl rfl rfl ?_
                    refine ROps.pr rfl rfl rfl ?_
                    refine ROps.e ?_
                    refine XW.cnd (decide (x186 = (⟨#[115, 105, 122, 101]⟩ : ByteArray))) rfl (by show 113 < 136; decide) (fun hb348 => ?_) (fun hb348 => ?_)
                    · replace h := ite_t hb348 h
                      obtain ⟨r349, h350, h⟩ := bind_some' h
                      obtain ⟨r351, h352, h⟩ := bind_some' h
                      obtain ⟨r353, h354, h⟩ := bind_some' h
                      obtain ⟨r355, h356, h⟩ := bind_some' h
                      refine XW.reg facts hE hG (by kernel_rfl) ?_
                      refine ROps.pr rfl rfl rfl ?_
                      refine ROps.ps rfl rfl (o_call rfl rfl rfl (pkA_cons (pk1_s (pk_full rfl rfl)) (pkA_cons (pk1_r rfl) pkA_nil)) (cWord hcl h350) rfl rfl rfl) ?_
                      refine ROps.ps rfl rfl (o_call rfl rfl rfl (pkA_r rfl) (cNum hcl h352) rfl rfl rfl) ?_
                      refine ROps.pr rfl rfl rfl ?_
                      refine ROps.ps rfl rfl (o_call rfl rfl rfl (pkA_cons (pk1_s (pk_full rfl rfl)) (pkA_cons (pk1_r rfl) pkA_nil)) (cWord hcl h354) rfl rfl rfl) ?_
                      refine ROps.ps rfl rfl (o_call rfl rfl rfl (pkA_r rfl) (cNum hcl h356) rfl rfl rfl) ?_
                      refine ROps.pr rfl rfl rfl ?_
                      refine ROps.pn rfl rfl (o_stb rfl rfl rfl ⟨rfl, rfl⟩ rfl (Nat.le_of_ble_eq_true rfl)) ?_
                      refine ROps.e ?_
                      exact GI.of ⟨_, _, _, _, _, _, _, _, _, h, rfl, rfl, rfl, rfl, rfl, rfl⟩
                    · replace h := ite_f hb348 h
                      refine XW.skip ?_
                      exact GI.of ⟨_, _, _, _, _, _, _, _, _, h, rfl, rfl, rfl, rfl, rfl, rfl⟩
          · refine XW.seq (XW.reg facts hE hG (by kernel_rfl) ?_)
            refine ROps.pr rfl rfl rfl ?_
            refine ROps.pr rfl rfl rfl ?_
            refine ROps.e ?_
            refine XW.cnd (decide (x186 = (⟨#[107, 105, 108, 108]⟩ : ByteArray))) rfl (by show 46 < 136; decide) (fun hb357 => ?_) (fun hb357 => ?_)
            · replace h := ite_t hb357 h
              refine XW.skip ?_
              exact GI.of ⟨_, _, _, _, h, rfl, rfl, (ref_n rfl rfl), rfl, rfl, rfl, rfl, rfl, rfl, rfl⟩
            · replace h := ite_f hb357 h
              refine XW.seq (XW.reg facts hE hG (by kernel_rfl) ?_)
              refine ROps.pr rfl rfl rfl ?_
              refine ROps.pr rfl rfl rfl ?_
              refine ROps.e ?_
              refine XW.cnd (decide (x186 = (⟨#[115, 101, 108, 101, 99, 116]⟩ : ByteArray))) rfl (by show 46 < 136; decide) (fun hb358 => ?_) (fun hb358 => ?_)
              · replace h := ite_t hb358 h
                refine XW.skip ?_
                exact GI.of ⟨_, _, _, _, h, rfl, rfl, (ref_n rfl rfl), rfl, rfl, rfl, rfl, rfl, rfl, rfl⟩
              · replace h := ite_f hb358 h
                refine XW.seq (XW.reg facts hE hG (by kernel_rfl) ?_)
                refine ROps.pr rfl rfl rfl ?_
                refine ROps.pr rfl rfl rfl ?_
                refine ROps.e ?_
                refine XW.cnd (decide (x186 = (⟨#[114, 101, 115, 116, 97, 114, 116]⟩ : ByteArray))) rfl (by show 46 < 136; decide) (fun hb359 => ?_) (fun hb359 => ?_)
                · replace h := ite_t hb359 h
                  refine XW.skip ?_
                  exact GI.of ⟨_, _, _, _, h, rfl, rfl, (ref_n rfl rfl), rfl, rfl, rfl, rfl, rfl, rfl, rfl⟩
                · replace h := ite_f hb359 h
                  refine XW.reg facts hE hG (by kernel_rfl) ?_
                  refine ROps.pr rfl rfl rfl ?_
                  refine ROps.pr rfl rfl rfl ?_
                  refine ROps.e ?_
                  exact GI.of ⟨_, _, _, _, h, rfl, rfl, (ref_n rfl rfl), rfl, rfl, rfl, rfl, rfl, rfl, rfl⟩
    · refine XW.seq (XW.reg facts hE hG (by kernel_rfl) ?_)
      refine ROps.pr rfl rfl rfl ?_
      refine ROps.pr rfl rfl rfl ?_
      refine ROps.e ?_
      refine XW.cnd (decide (x186 = (⟨#[110, 101, 119]⟩ : ByteArray))) rfl (by show 17 < 136; decide) (fun hb360 => ?_) (fun hb360 => ?_)
      · replace h := ite_t hb360 h
        refine XW.skip ?_
        exact GI.of ⟨_, _, _, _, h, rfl, rfl, (ref_n rfl rfl), rfl, rfl, rfl, rfl, rfl, rfl, rfl⟩
      · replace h := ite_f hb360 h
        refine XW.reg facts hE hG (by kernel_rfl) ?_
        refine ROps.pr rfl rfl rfl ?_
        refine ROps.pr rfl rfl rfl ?_
        refine ROps.e ?_
        exact GI.of ⟨_, _, _, _, h, rfl, rfl, (ref_n rfl rfl), rfl, rfl, rfl, rfl, rfl, rfl, rfl⟩
def p52 (fuel : Nat) (a0 : Bool) (a1 : Int) : Option (Int) :=
  if a0 then (
    some (a1)
  ) else (
    some (0)
  )
set_option maxHeartbeats 4000000 in
theorem c52 {G : Nat} {E : World → Prop} (hcl : Cl G E) {fuel : Nat} {a0 : Bool} {a1 : Int} {r : Int} (h : p52 fuel a0 a1 = some r) : PCalls Tryd.prog G E 52 [.v (.bool a0), .v (.int .i64 a1)] [] (.v (.int .i64 r)) [] := by
  refine PCalls.pure facts hcl.cl (fn := Tryd.f52) (by kernel_rfl) (by kernel_rfl) rfl rfl (by show 2 ≤ 7; decide) fun X hE hX hG => ?_
  unfold p52 at h
  refine XW.seq (XW.reg facts hE hG (by kernel_rfl) ?_)
  refine ROps.pr rfl rfl rfl ?_
  refine ROps.e ?_
  refine XW.seq ?_
  refine XW.seq (XW.reg facts hE hG (by kernel_rfl) ?_)
  refine ROps.pr rfl rfl rfl ?_
  refine ROps.e ?_
  refine XW.cnd (a0) rfl (by show 5 < 7; decide) (fun hb1 => ?_) (fun hb1 => ?_)
  · replace h := ite_t hb1 h
    refine XW.seq (XW.reg facts hE hG (by kernel_rfl) ?_)
    refine ROps.pr rfl rfl rfl ?_
    refine ROps.pr rfl rfl rfl ?_
    refine ROps.e ?_
    refine XW.ret ?_
    cases h
    refine retW.mk (by exact rfl) (by exact rfl) (by exact rfl) (by rfl) (by rfl) ?_
    exact .inl (.inl (.inl rfl))
  · replace h := ite_f hb1 h
    refine XW.skip ?_
    refine XW.seq (XW.reg facts hE hG (by kernel_rfl) ?_)
    refine ROps.pr rfl rfl rfl ?_
    refine ROps.e ?_
    refine XW.ret ?_
    cases h
    refine retW.mk (by exact rfl) (by exact rfl) (by exact rfl) (by rfl) (by rfl) ?_
    exact .inl (.inl (.inl rfl))
def p53 (fuel : Nat)  : Option (Unit) :=
  some ()
set_option maxHeartbeats 4000000 in
theorem c53 {G : Nat} {E : World → Prop} (hcl : Cl G E) {fuel : Nat}  {r : Unit} (h : p53 fuel  = some r) : PCalls Tryd.prog G E 53 [] [] (.obj (.map #[{ key := .int .i64 76, val := .string (⟨#[108, 101, 102, 116]⟩ : ByteArray), born := 0 }, { key := .int .i64 82, val := .string (⟨#[114, 105, 103, 104, 116]⟩ : ByteArray), born := 1 }, { key := .int .i64 85, val := .string (⟨#[117, 112]⟩ : ByteArray), born := 2 }, { key := .int .i64 68, val := .string (⟨#[100, 111, 119, 110]⟩ : ByteArray), born := 3 }] 4)) [] := by
  refine PCalls.pure facts hcl.cl (fn := Tryd.f53) (by kernel_rfl) (by kernel_rfl) rfl rfl (by show 0 ≤ 3; decide) fun X hE hX hG => ?_
  unfold p53 at h
  refine XW.seq (XW.reg facts hE hG (by kernel_rfl) ?_)
  refine ROps.pr rfl rfl rfl ?_
  refine ROps.e ?_
  refine XW.seq (XW.reg facts hE hG (by kernel_rfl) ?_)
  refine ROps.ps rfl rfl (o_mkm rfl) ?_
  refine ROps.pn rfl rfl (o_ins rfl rfl rfl rfl rfl rfl rfl (by kernel_rfl)) ?_
  refine ROps.pn rfl rfl (o_ins rfl rfl rfl rfl rfl rfl rfl (by kernel_rfl)) ?_
  refine ROps.pn rfl rfl (o_ins rfl rfl rfl rfl rfl rfl rfl (by kernel_rfl)) ?_
  refine ROps.pn rfl rfl (o_ins rfl rfl rfl rfl rfl rfl rfl (by kernel_rfl)) ?_
  refine ROps.pr rfl rfl rfl ?_
  refine ROps.pr rfl rfl rfl ?_
  refine ROps.e ?_
  refine XW.ret ?_
  cases h
  refine retW.mk (by exact rfl) (by exact (cl1L_cons (cl1_ptr (cl_obj rfl)) rfl)) (by exact rfl) (by rfl) (by rfl) ?_
  exact .inl (.inl (.inl rfl))
def p51n_j3 (fuel : Nat) (a0 : IOp) (b300_2_6 : ByteArray) (b300_3_5 : ByteArray) : Option (IOp) :=
  some (⟨a0.Kind, a0.A, a0.B, a0.C, a0.Name, b300_3_5, b300_2_6, []⟩)
def p51n_j2 (fuel : Nat) (a1 : List ByteArray) (a0 : IOp) (b300_2_6 : ByteArray) : Option (IOp) :=
  if decide (1 < ((a1.length : Nat) : Int)) then (
    gd (0 ≤ (1 : Int) ∧ (1 : Int) ≤ (a1.length : Nat)) <|
    (ljoin ((a1.take a1.length).drop ((1 : Int).toNat)) (⟨#[32]⟩ : ByteArray)).bind fun r15 =>
    p51n_j3 fuel a0 b300_2_6 r15
  ) else (
    p51n_j3 fuel a0 b300_2_6 a0.Text
  )
def p51n (fuel : Nat) (a0 : IOp) (a1 : List ByteArray) : Option (IOp) :=
  Option.bind (α := Bool) (
    if decide (0 < ((a1.length : Nat) : Int)) then (
      gd (0 ≤ (0 : Int) ∧ (0 : Int) < a1.length) <|
      (a1[(0 : Int).toNat]?).bind fun x19 =>
      some (!decide (x19 = (⟨#[45]⟩ : ByteArray)))
    ) else (
      some (false)
    )
  ) fun v13_1 =>
  if v13_1 then (
    gd (0 ≤ (0 : Int) ∧ (0 : Int) < a1.length) <|
    (a1[(0 : Int).toNat]?).bind fun x23 =>
    p51n_j2 fuel a1 a0 x23
  ) else (
    p51n_j2 fuel a1 a0 a0.Dir
  )
set_option maxHeartbeats 4000000 in
theorem c51n {G : Nat} {E : World → Prop} (hcl : Cl G E) {fuel : Nat} {a0 : IOp} {a1 : List ByteArray} {r : IOp} (h : p51n fuel a0 a1 = some r) : PCalls Tryd.prog G E 51 [.agg [.v (.int .i64 a0.Kind), .v (.int .i64 a0.A), .v (.int .i64 a0.B), .v (.int .i64 a0.C), .v (.string a0.Name), .v (.string a0.Text), .v (.string a0.Dir), .nil], .row false .str a1] [] (.agg [.v (.int .i64 r.Kind), .v (.int .i64 r.A), .v (.int .i64 r.B), .v (.int .i64 r.C), .v (.string r.Name), .v (.string r.Text), .v (.string r.Dir), .nil]) [] := by
  refine PCalls.pure facts hcl.cl (fn := Tryd.f51) (by kernel_rfl) (by kernel_rfl) rfl rfl (by show 2 ≤ 26; decide) fun X hE hX hG => ?_
  unfold p51n at h
  refine XW.seq (XW.reg facts hE hG (by kernel_rfl) ?_)
  refine ROps.ps rfl rfl (o_box rfl rfl) ?_
  refine ROps.ps rfl rfl (o_alloc rfl rfl) ?_
  refine ROps.e ?_
  refine XW.join2 (fun ε => ∃ (b300_2_6 : ByteArray) (w300 : Nat) (w500 : Nat), p51n_j2 fuel a1 a0 b300_2_6 = some r ∧ ε.t 1 = .row false .str a1 ∧ ε.t 2 = .ptr 300 w300 0 0 ∧ ε.t 4 = .ptr 500 w500 0 0 ∧ ε.s 300 = ⟨w300, some (.box [.v (.int .i64 a0.Kind), .v (.int .i64 a0.A), .v (.int .i64 a0.B), .v (.int .i64 a0.C), .v (.string a0.Name), .v (.string a0.Text), .v (.string b300_2_6), .nil])⟩ ∧ ε.s 500 = ⟨w500, some (.box [.v (.int .i64 0), .v (.int .i64 0), .v (.int .i64 0), .v (.int .i64 0), .v (.string ByteArray.empty), .v (.string ByteArray.empty), .v (.string ByteArray.empty), .nil])⟩) (fun ε hI => ?_) ?_
  · clear h
    obtain ⟨tt, ss⟩ := ε
    obtain ⟨b300_2_6, w300, w500, h, e1, e2, e4, f300, f500⟩ := hI
    refine XW.st 1 (by exact e1) <| XW.st 2 (by exact e2) <| XW.st 4 (by exact e4) <| XW.ss 300 (by exact f300) <| XW.ss 500 (by exact f500) <| ?_
    unfold p51n_j2 at h
    refine XW.join2 (fun ε => ∃ (b300_3_5 : ByteArray) (w300 : Nat) (w500 : Nat), p51n_j3 fuel a0 b300_2_6 b300_3_5 = some r ∧ ε.t 2 = .ptr 300 w300 0 0 ∧ ε.t 4 = .ptr 500 w500 0 0 ∧ ε.s 300 = ⟨w300, some (.box [.v (.int .i64 a0.Kind), .v (.int .i64 a0.A), .v (.int .i64 a0.B), .v (.int .i64 a0.C), .v (.string a0.Name), .v (.string b300_3_5), .v (.string b300_2_6), .nil])⟩ ∧ ε.s 500 = ⟨w500, some (.box [.v (.int .i64 0), .v (.int .i64 0), .v (.int .i64 0), .v (.int .i64 0), .v (.string ByteArray.empty), .v (.string ByteArray.empty), .v (.string ByteArray.empty), .nil])⟩) (fun ε hI => ?_) ?_
    · clear h
      obtain ⟨tt, ss⟩ := ε
      obtain ⟨b300_3_5, w300, w500, h, e2, e4, f300, f500⟩ := hI
      refine XW.st 2 (by exact e2) <| XW.st 4 (by exact e4) <| XW.ss 300 (by exact f300) <| XW.ss 500 (by exact f500) <| ?_
      unfold p51n_j3 at h
      refine XW.seq (XW.reg facts hE hG (by kernel_rfl) ?_)
      refine ROps.ps rfl rfl (w_live rfl rfl) ?_
      refine ROps.pn rfl rfl (o_stb rfl rfl rfl ⟨rfl, rfl⟩ rfl (Nat.le_of_ble_eq_true rfl)) ?_
      refine ROps.e ?_
      refine XW.ret ?_
      cases h
      refine retW.mk (by exact (rL_cons (r1_cell (by decide) rfl rfl rfl rfl) rfl)) (by exact rfl) (by exact rfl) (by rfl) (by rfl) ?_
      exact .inl (.inl (.inl rfl))
    · refine XW.seq (XW.reg facts hE hG (by kernel_rfl) ?_)
      refine ROps.pr rfl rfl rfl ?_
      refine ROps.pr rfl rfl rfl ?_
      refine ROps.pr rfl rfl rfl ?_
      refine ROps.e ?_
      refine XW.cnd (decide (1 < ((a1.length : Nat) : Int))) rfl (by show 20 < 26; decide) (fun hb13 => ?_) (fun hb13 => ?_)
      · replace h := ite_t hb13 h
        obtain ⟨h14, h⟩ := gd_some h
        obtain ⟨r15, h16, h⟩ := bind_some' h
        refine XW.reg facts hE hG (by kernel_rfl) ?_
        refine ROps.pr rfl rfl rfl ?_
        refine ROps.ps rfl rfl (o_slr rfl rfl rfl (b_l h14)) ?_
        refine ROps.ps rfl rfl (o_call rfl rfl rfl (pkA_r rfl) (cJoin hcl h16) rfl rfl rfl) ?_
        refine ROps.ps rfl rfl (w_live rfl rfl) ?_
        refine ROps.pn rfl rfl (o_stb rfl rfl rfl ⟨rfl, rfl⟩ rfl (Nat.le_of_ble_eq_true rfl)) ?_
        refine ROps.e ?_
        exact GI.of ⟨_, _, _, h, rfl, rfl, rfl, rfl⟩
      · replace h := ite_f hb13 h
        refine XW.skip ?_
        exact GI.of ⟨_, _, _, h, rfl, rfl, rfl, rfl⟩
  · obtain ⟨v13_1, hg, h⟩ := bind_some' h
    refine XW.join2 (fun ε => ∃ (w300 : Nat) (w500 : Nat), ε.t 1 = .row false .str a1 ∧ ε.t 2 = .ptr 300 w300 0 0 ∧ ε.t 4 = .ptr 500 w500 0 0 ∧ ε.t 13 = .v (.bool v13_1) ∧ ε.s 300 = ⟨w300, some (.box [.v (.int .i64 a0.Kind), .v (.int .i64 a0.A), .v (.int .i64 a0.B), .v (.int .i64 a0.C), .v (.string a0.Name), .v (.string a0.Text), .v (.string a0.Dir), .nil])⟩ ∧ ε.s 500 = ⟨w500, some (.box [.v (.int .i64 0), .v (.int .i64 0), .v (.int .i64 0), .v (.int .i64 0), .v (.string ByteArray.empty), .v (.string ByteArray.empty), .v (.string ByteArray.empty), .nil])⟩) (fun ε hI => ?_) ?_
    · obtain ⟨tt, ss⟩ := ε
      obtain ⟨w300, w500, e1, e2, e4, e13, f300, f500⟩ := hI
      refine XW.st 1 (by exact e1) <| XW.st 2 (by exact e2) <| XW.st 4 (by exact e4) <| XW.st 13 (by exact e13) <| XW.ss 300 (by exact f300) <| XW.ss 500 (by exact f500) <| ?_
      refine XW.cnd (v13_1) rfl (by show 13 < 26; decide) (fun hb21 => ?_) (fun hb21 => ?_)
      · replace h := ite_t hb21 h
        obtain ⟨h22, h⟩ := gd_some h
        obtain ⟨x23, h24, h⟩ := bind_some' h
        refine XW.reg facts hE hG (by kernel_rfl) ?_
        refine ROps.pr rfl rfl rfl ?_
        refine ROps.ps rfl rfl (o_ixr rfl rfl rfl rfl h22) ?_
        refine ROps.ps rfl rfl (o_lde rfl rfl h24 rfl rfl) ?_
        refine ROps.ps rfl rfl (w_live rfl rfl) ?_
        refine ROps.pn rfl rfl (o_stb rfl rfl rfl ⟨rfl, rfl⟩ rfl (Nat.le_of_ble_eq_true rfl)) ?_
        refine ROps.e ?_
        exact GI.of ⟨_, _, _, h, rfl, rfl, rfl, rfl, rfl⟩
      · replace h := ite_f hb21 h
        refine XW.skip ?_
        exact GI.of ⟨_, _, _, h, rfl, rfl, rfl, rfl, rfl⟩
    · rcases Bool.eq_false_or_eq_true (decide (0 < ((a1.length : Nat) : Int))) with hb17 | hb17
      · replace hg := ite_t hb17 hg
        obtain ⟨h18, hg⟩ := gd_some hg
        obtain ⟨x19, h20, hg⟩ := bind_some' hg
        cases hg
        refine XW.reg facts hE hG (by kernel_rfl) ?_
        refine ROps.pr rfl rfl rfl ?_
        refine ROps.pr rfl rfl rfl ?_
        refine ROps.pr rfl rfl rfl ?_
        refine ROps.pr rfl rfl rfl ?_
        refine ROps.pr rfl (wtt rfl rfl rfl hb17) rfl ?_
        refine ROps.ps rfl (wtt rfl rfl rfl hb17) (o_ixr rfl rfl rfl rfl h18) ?_
        refine ROps.ps rfl (wtt rfl rfl rfl hb17) (o_lde rfl rfl h20 rfl rfl) ?_
        refine ROps.pr rfl (wtt rfl rfl rfl hb17) rfl ?_
        refine ROps.ps rfl rfl (o_pt rfl rfl hb17) ?_
        refine ROps.e ?_
        exact GI.of ⟨_, _, rfl, rfl, rfl, rfl, rfl, rfl⟩
      · replace hg := ite_f hb17 hg
        cases hg
        refine XW.reg facts hE hG (by kernel_rfl) ?_
        refine ROps.pr rfl rfl rfl ?_
        refine ROps.pr rfl rfl rfl ?_
        refine ROps.pr rfl rfl rfl ?_
        refine ROps.pr rfl rfl rfl ?_
        refine ROps.pk rfl (wft rfl rfl rfl hb17) ?_
        refine ROps.pk rfl (wft rfl rfl rfl hb17) ?_
        refine ROps.pk rfl (wft rfl rfl rfl hb17) ?_
        refine ROps.pk rfl (wft rfl rfl rfl hb17) ?_
        refine ROps.ps rfl rfl (o_pf rfl rfl hb17) ?_
        refine ROps.e ?_
        exact GI.of ⟨_, _, rfl, rfl, rfl, rfl, rfl, rfl⟩
def p31_j5 (fuel : Nat) : Option (IOp) :=
  some (⟨0, 0, 0, 0, ByteArray.empty, ByteArray.empty, ByteArray.empty, []⟩)
def p31_m2 (fuel : Nat) (a0 : List ByteArray) (r2 : List Int) (x65 : ByteArray) (mk2 : Int) (mv2 : ByteArray) : Option ((Unit) ⊕ (IOp)) :=
  Option.bind (α := Bool) (
    if decide (1 < ((((a0.take a0.length).drop ((1 : Int).toNat)).length : Nat) : Int)) then (
      gd (0 ≤ (1 : Int) ∧ (1 : Int) < ((a0.take a0.length).drop ((1 : Int).toNat)).length) <|
      (((a0.take a0.length).drop ((1 : Int).toNat))[(1 : Int).toNat]?).bind fun x94 =>
      some (decide (x94 = mv2))
    ) else (
      some (false)
    )
  ) fun v74_3 =>
  if v74_3 then (
    gd (0 ≤ (0 : Int) ∧ (0 : Int) < (r2.length : Nat)) <|
    (r2[(0 : Int).toNat]?).bind fun x98 =>
    gd (0 ≤ (2 : Int) ∧ (2 : Int) < (r2.length : Nat)) <|
    (r2[(2 : Int).toNat]?).bind fun x101 =>
    some (.inr (⟨(mget (0 : Int) [((⟨#[110, 101, 119]⟩ : ByteArray), 1), ((⟨#[119, 105, 110, 100, 111, 119]⟩ : ByteArray), 2), ((⟨#[115, 112, 108, 105, 116]⟩ : ByteArray), 3), ((⟨#[107, 105, 108, 108]⟩ : ByteArray), 4), ((⟨#[115, 101, 108, 101, 99, 116]⟩ : ByteArray), 7), ((⟨#[114, 101, 115, 116, 97, 114, 116]⟩ : ByteArray), 14), ((⟨#[122, 111, 111, 109]⟩ : ByteArray), 8), ((⟨#[115, 119, 97, 112]⟩ : ByteArray), 9), ((⟨#[103, 114, 111, 119]⟩ : ByteArray), 10), ((⟨#[110, 97, 109, 101]⟩ : ByteArray), 11), ((⟨#[115, 105, 122, 101]⟩ : ByteArray), 12)] x65), x98, mk2, x101, ByteArray.empty, ByteArray.empty, ByteArray.empty, []⟩))
  ) else (
    some (.inl ())
  )
def p31_j4 (fuel : Nat) (r2 : List Int) (x65 : ByteArray) (v97_4 : Bool) : Option (IOp) :=
  if v97_4 then (
    gd (0 ≤ (0 : Int) ∧ (0 : Int) < (r2.length : Nat)) <|
    (r2[(0 : Int).toNat]?).bind fun x114 =>
    gd (0 ≤ (1 : Int) ∧ (1 : Int) < (r2.length : Nat)) <|
    (r2[(1 : Int).toNat]?).bind fun x117 =>
    some (⟨(mget (0 : Int) [((⟨#[110, 101, 119]⟩ : ByteArray), 1), ((⟨#[119, 105, 110, 100, 111, 119]⟩ : ByteArray), 2), ((⟨#[115, 112, 108, 105, 116]⟩ : ByteArray), 3), ((⟨#[107, 105, 108, 108]⟩ : ByteArray), 4), ((⟨#[115, 101, 108, 101, 99, 116]⟩ : ByteArray), 7), ((⟨#[114, 101, 115, 116, 97, 114, 116]⟩ : ByteArray), 14), ((⟨#[122, 111, 111, 109]⟩ : ByteArray), 8), ((⟨#[115, 119, 97, 112]⟩ : ByteArray), 9), ((⟨#[103, 114, 111, 119]⟩ : ByteArray), 10), ((⟨#[110, 97, 109, 101]⟩ : ByteArray), 11), ((⟨#[115, 105, 122, 101]⟩ : ByteArray), 12)] x65), x114, x117, 0, ByteArray.empty, ByteArray.empty, ByteArray.empty, []⟩)
  ) else (
    gd (0 ≤ (0 : Int) ∧ (0 : Int) < (r2.length : Nat)) <|
    (r2[(0 : Int).toNat]?).bind fun x120 =>
    some (⟨(mget (0 : Int) [((⟨#[110, 101, 119]⟩ : ByteArray), 1), ((⟨#[119, 105, 110, 100, 111, 119]⟩ : ByteArray), 2), ((⟨#[115, 112, 108, 105, 116]⟩ : ByteArray), 3), ((⟨#[107, 105, 108, 108]⟩ : ByteArray), 4), ((⟨#[115, 101, 108, 101, 99, 116]⟩ : ByteArray), 7), ((⟨#[114, 101, 115, 116, 97, 114, 116]⟩ : ByteArray), 14), ((⟨#[122, 111, 111, 109]⟩ : ByteArray), 8), ((⟨#[115, 119, 97, 112]⟩ : ByteArray), 9), ((⟨#[103, 114, 111, 119]⟩ : ByteArray), 10), ((⟨#[110, 97, 109, 101]⟩ : ByteArray), 11), ((⟨#[115, 105, 122, 101]⟩ : ByteArray), 12)] x65), x120, 0, 0, ByteArray.empty, ByteArray.empty, ByteArray.empty, []⟩)
  )
def p31_j1 (fuel : Nat) (a0 : List ByteArray) (x65 : ByteArray) (r2 : List Int) (v24_1 : Bool) : Option (IOp) :=
  if v24_1 then (
    if decide (0 < ((((a0.take a0.length).drop ((1 : Int).toNat)).length : Nat) : Int)) then (
      gd (0 ≤ (0 : Int) ∧ (0 : Int) < ((a0.take a0.length).drop ((1 : Int).toNat)).length) <|
      (((a0.take a0.length).drop ((1 : Int).toNat))[(0 : Int).toNat]?).bind fun x71 =>
      gd (0 ≤ (1 : Int) ∧ (1 : Int) ≤ (((a0.take a0.length).drop ((1 : Int).toNat)).length : Nat)) <|
      (p51n fuel (⟨(mget (0 : Int) [((⟨#[110, 101, 119]⟩ : ByteArray), 1), ((⟨#[119, 105, 110, 100, 111, 119]⟩ : ByteArray), 2), ((⟨#[115, 112, 108, 105, 116]⟩ : ByteArray), 3), ((⟨#[107, 105, 108, 108]⟩ : ByteArray), 4), ((⟨#[115, 101, 108, 101, 99, 116]⟩ : ByteArray), 7), ((⟨#[114, 101, 115, 116, 97, 114, 116]⟩ : ByteArray), 14), ((⟨#[122, 111, 111, 109]⟩ : ByteArray), 8), ((⟨#[115, 119, 97, 112]⟩ : ByteArray), 9), ((⟨#[103, 114, 111, 119]⟩ : ByteArray), 10), ((⟨#[110, 97, 109, 101]⟩ : ByteArray), 11), ((⟨#[115, 105, 122, 101]⟩ : ByteArray), 12)] x65), 0, 0, 0, x71, ByteArray.empty, ByteArray.empty, []⟩) ((((a0.take a0.length).drop ((1 : Int).toNat)).take (((a0.take a0.length).drop ((1 : Int).toNat)).length)).drop ((1 : Int).toNat))).bind fun r74 =>
      some (⟨r74.Kind, r74.A, r74.B, r74.C, r74.Name, r74.Text, r74.Dir, []⟩)
    ) else (
      p31_j5 fuel
    )
  ) else (
    if ((mget (0 : Int) [((⟨#[110, 101, 119]⟩ : ByteArray), 1), ((⟨#[119, 105, 110, 100, 111, 119]⟩ : ByteArray), 2), ((⟨#[115, 112, 108, 105, 116]⟩ : ByteArray), 3), ((⟨#[107, 105, 108, 108]⟩ : ByteArray), 4), ((⟨#[115, 101, 108, 101, 99, 116]⟩ : ByteArray), 7), ((⟨#[114, 101, 115, 116, 97, 114, 116]⟩ : ByteArray), 14), ((⟨#[122, 111, 111, 109]⟩ : ByteArray), 8), ((⟨#[115, 119, 97, 112]⟩ : ByteArray), 9), ((⟨#[103, 114, 111, 119]⟩ : ByteArray), 10), ((⟨#[110, 97, 109, 101]⟩ : ByteArray), 11), ((⟨#[115, 105, 122, 101]⟩ : ByteArray), 12)] x65) == 3) then (
      if decide (1 < ((((a0.take a0.length).drop ((1 : Int).toNat)).length : Nat) : Int)) then (
        gd (0 ≤ (0 : Int) ∧ (0 : Int) < (r2.length : Nat)) <|
        (r2[(0 : Int).toNat]?).bind fun x79 =>
        gd (0 ≤ (1 : Int) ∧ (1 : Int) < ((a0.take a0.length).drop ((1 : Int).toNat)).length) <|
        (((a0.take a0.length).drop ((1 : Int).toNat))[(1 : Int).toNat]?).bind fun x82 =>
        (p52 fuel (decide (x82 = (⟨#[98, 101, 108, 111, 119]⟩ : ByteArray))) 1).bind fun r84 =>
        gd (0 ≤ (2 : Int) ∧ (2 : Int) ≤ (((a0.take a0.length).drop ((1 : Int).toNat)).length : Nat)) <|
        (p51n fuel (⟨(mget (0 : Int) [((⟨#[110, 101, 119]⟩ : ByteArray), 1), ((⟨#[119, 105, 110, 100, 111, 119]⟩ : ByteArray), 2), ((⟨#[115, 112, 108, 105, 116]⟩ : ByteArray), 3), ((⟨#[107, 105, 108, 108]⟩ : ByteArray), 4), ((⟨#[115, 101, 108, 101, 99, 116]⟩ : ByteArray), 7), ((⟨#[114, 101, 115, 116, 97, 114, 116]⟩ : ByteArray), 14), ((⟨#[122, 111, 111, 109]⟩ : ByteArray), 8), ((⟨#[115, 119, 97, 112]⟩ : ByteArray), 9), ((⟨#[103, 114, 111, 119]⟩ : ByteArray), 10), ((⟨#[110, 97, 109, 101]⟩ : ByteArray), 11), ((⟨#[115, 105, 122, 101]⟩ : ByteArray), 12)] x65), x79, r84, 0, ByteArray.empty, ByteArray.empty, ByteArray.empty, []⟩) ((((a0.take a0.length).drop ((1 : Int).toNat)).take (((a0.take a0.length).drop ((1 : Int).toNat)).length)).drop ((2 : Int).toNat))).bind fun r87 =>
        some (⟨r87.Kind, r87.A, r87.B, r87.C, r87.Name, r87.Text, r87.Dir, []⟩)
      ) else (
        p31_j5 fuel
      )
    ) else (
      if ((mget (0 : Int) [((⟨#[110, 101, 119]⟩ : ByteArray), 1), ((⟨#[119, 105, 110, 100, 111, 119]⟩ : ByteArray), 2), ((⟨#[115, 112, 108, 105, 116]⟩ : ByteArray), 3), ((⟨#[107, 105, 108, 108]⟩ : ByteArray), 4), ((⟨#[115, 101, 108, 101, 99, 116]⟩ : ByteArray), 7), ((⟨#[114, 101, 115, 116, 97, 114, 116]⟩ : ByteArray), 14), ((⟨#[122, 111, 111, 109]⟩ : ByteArray), 8), ((⟨#[115, 119, 97, 112]⟩ : ByteArray), 9), ((⟨#[103, 114, 111, 119]⟩ : ByteArray), 10), ((⟨#[110, 97, 109, 101]⟩ : ByteArray), 11), ((⟨#[115, 105, 122, 101]⟩ : ByteArray), 12)] x65) == 10) then (
        (p53 fuel).bind fun r90 =>
        (mrange (p31_m2 fuel a0 r2 x65) [((76 : Int), (⟨#[108, 101, 102, 116]⟩ : ByteArray)), ((82 : Int), (⟨#[114, 105, 103, 104, 116]⟩ : ByteArray)), ((85 : Int), (⟨#[117, 112]⟩ : ByteArray)), ((68 : Int), (⟨#[100, 111, 119, 110]⟩ : ByteArray))]).bind fun oo2 =>
        match oo2 with
        | none => 
          p31_j5 fuel
        | some q => 
          some q
      ) else (
        if ((mget (0 : Int) [((⟨#[110, 101, 119]⟩ : ByteArray), 1), ((⟨#[119, 105, 110, 100, 111, 119]⟩ : ByteArray), 2), ((⟨#[115, 112, 108, 105, 116]⟩ : ByteArray), 3), ((⟨#[107, 105, 108, 108]⟩ : ByteArray), 4), ((⟨#[115, 101, 108, 101, 99, 116]⟩ : ByteArray), 7), ((⟨#[114, 101, 115, 116, 97, 114, 116]⟩ : ByteArray), 14), ((⟨#[122, 111, 111, 109]⟩ : ByteArray), 8), ((⟨#[115, 119, 97, 112]⟩ : ByteArray), 9), ((⟨#[103, 114, 111, 119]⟩ : ByteArray), 10), ((⟨#[110, 97, 109, 101]⟩ : ByteArray), 11), ((⟨#[115, 105, 122, 101]⟩ : ByteArray), 12)] x65) == 11) then (
          if decide (1 < ((((a0.take a0.length).drop ((1 : Int).toNat)).length : Nat) : Int)) then (
            gd (0 ≤ (0 : Int) ∧ (0 : Int) < (r2.length : Nat)) <|
            (r2[(0 : Int).toNat]?).bind fun x106 =>
            gd (0 ≤ (1 : Int) ∧ (1 : Int) < ((a0.take a0.length).drop ((1 : Int).toNat)).length) <|
            (((a0.take a0.length).drop ((1 : Int).toNat))[(1 : Int).toNat]?).bind fun x109 =>
            some (⟨(mget (0 : Int) [((⟨#[110, 101, 119]⟩ : ByteArray), 1), ((⟨#[119, 105, 110, 100, 111, 119]⟩ : ByteArray), 2), ((⟨#[115, 112, 108, 105, 116]⟩ : ByteArray), 3), ((⟨#[107, 105, 108, 108]⟩ : ByteArray), 4), ((⟨#[115, 101, 108, 101, 99, 116]⟩ : ByteArray), 7), ((⟨#[114, 101, 115, 116, 97, 114, 116]⟩ : ByteArray), 14), ((⟨#[122, 111, 111, 109]⟩ : ByteArray), 8), ((⟨#[115, 119, 97, 112]⟩ : ByteArray), 9), ((⟨#[103, 114, 111, 119]⟩ : ByteArray), 10), ((⟨#[110, 97, 109, 101]⟩ : ByteArray), 11), ((⟨#[115, 105, 122, 101]⟩ : ByteArray), 12)] x65), x106, 0, 0, x109, ByteArray.empty, ByteArray.empty, []⟩)
          ) else (
            p31_j5 fuel
          )
        ) else (
          if ((mget (0 : Int) [((⟨#[110, 101, 119]⟩ : ByteArray), 1), ((⟨#[119, 105, 110, 100, 111, 119]⟩ : ByteArray), 2), ((⟨#[115, 112, 108, 105, 116]⟩ : ByteArray), 3), ((⟨#[107, 105, 108, 108]⟩ : ByteArray), 4), ((⟨#[115, 101, 108, 101, 99, 116]⟩ : ByteArray), 7), ((⟨#[114, 101, 115, 116, 97, 114, 116]⟩ : ByteArray), 14), ((⟨#[122, 111, 111, 109]⟩ : ByteArray), 8), ((⟨#[115, 119, 97, 112]⟩ : ByteArray), 9), ((⟨#[103, 114, 111, 119]⟩ : ByteArray), 10), ((⟨#[110, 97, 109, 101]⟩ : ByteArray), 11), ((⟨#[115, 105, 122, 101]⟩ : ByteArray), 12)] x65) == 9) then (
            p31_j4 fuel r2 x65 ((mget (0 : Int) [((⟨#[110, 101, 119]⟩ : ByteArray), 1), ((⟨#[119, 105, 110, 100, 111, 119]⟩ : ByteArray), 2), ((⟨#[115, 112, 108, 105, 116]⟩ : ByteArray), 3), ((⟨#[107, 105, 108, 108]⟩ : ByteArray), 4), ((⟨#[115, 101, 108, 101, 99, 116]⟩ : ByteArray), 7), ((⟨#[114, 101, 115, 116, 97, 114, 116]⟩ : ByteArray), 14), ((⟨#[122, 111, 111, 109]⟩ : ByteArray), 8), ((⟨#[115, 119, 97, 112]⟩ : ByteArray), 9), ((⟨#[103, 114, 111, 119]⟩ : ByteArray), 10), ((⟨#[110, 97, 109, 101]⟩ : ByteArray), 11), ((⟨#[115, 105, 122, 101]⟩ : ByteArray), 12)] x65) == 9)
          ) else (
            p31_j4 fuel r2 x65 ((mget (0 : Int) [((⟨#[110, 101, 119]⟩ : ByteArray), 1), ((⟨#[119, 105, 110, 100, 111, 119]⟩ : ByteArray), 2), ((⟨#[115, 112, 108, 105, 116]⟩ : ByteArray), 3), ((⟨#[107, 105, 108, 108]⟩ : ByteArray), 4), ((⟨#[115, 101, 108, 101, 99, 116]⟩ : ByteArray), 7), ((⟨#[114, 101, 115, 116, 97, 114, 116]⟩ : ByteArray), 14), ((⟨#[122, 111, 111, 109]⟩ : ByteArray), 8), ((⟨#[115, 119, 97, 112]⟩ : ByteArray), 9), ((⟨#[103, 114, 111, 119]⟩ : ByteArray), 10), ((⟨#[110, 97, 109, 101]⟩ : ByteArray), 11), ((⟨#[115, 105, 122, 101]⟩ : ByteArray), 12)] x65) == 12)
          )
        )
      )
    )
  )
def p31 (fuel : Nat) (a0 : List ByteArray) : Option (IOp) :=
  gd (0 ≤ (1 : Int) ∧ (1 : Int) ≤ (a0.length : Nat)) <|
  (lnumbers ((a0.take a0.length).drop ((1 : Int).toNat)) 3).bind fun r2 =>
  gd (0 ≤ (0 : Int) ∧ (0 : Int) < a0.length) <|
  (a0[(0 : Int).toNat]?).bind fun x65 =>
  if ((mget (0 : Int) [((⟨#[110, 101, 119]⟩ : ByteArray), 1), ((⟨#[119, 105, 110, 100, 111, 119]⟩ : ByteArray), 2), ((⟨#[115, 112, 108, 105, 116]⟩ : ByteArray), 3), ((⟨#[107, 105, 108, 108]⟩ : ByteArray), 4), ((⟨#[115, 101, 108, 101, 99, 116]⟩ : ByteArray), 7), ((⟨#[114, 101, 115, 116, 97, 114, 116]⟩ : ByteArray), 14), ((⟨#[122, 111, 111, 109]⟩ : ByteArray), 8), ((⟨#[115, 119, 97, 112]⟩ : ByteArray), 9), ((⟨#[103, 114, 111, 119]⟩ : ByteArray), 10), ((⟨#[110, 97, 109, 101]⟩ : ByteArray), 11), ((⟨#[115, 105, 122, 101]⟩ : ByteArray), 12)] x65) == 1) then (
    p31_j1 fuel a0 x65 r2 ((mget (0 : Int) [((⟨#[110, 101, 119]⟩ : ByteArray), 1), ((⟨#[119, 105, 110, 100, 111, 119]⟩ : ByteArray), 2), ((⟨#[115, 112, 108, 105, 116]⟩ : ByteArray), 3), ((⟨#[107, 105, 108, 108]⟩ : ByteArray), 4), ((⟨#[115, 101, 108, 101, 99, 116]⟩ : ByteArray), 7), ((⟨#[114, 101, 115, 116, 97, 114, 116]⟩ : ByteArray), 14), ((⟨#[122, 111, 111, 109]⟩ : ByteArray), 8), ((⟨#[115, 119, 97, 112]⟩ : ByteArray), 9), ((⟨#[103, 114, 111, 119]⟩ : ByteArray), 10), ((⟨#[110, 97, 109, 101]⟩ : ByteArray), 11), ((⟨#[115, 105, 122, 101]⟩ : ByteArray), 12)] x65) == 1)
  ) else (
    p31_j1 fuel a0 x65 r2 ((mget (0 : Int) [((⟨#[110, 101, 119]⟩ : ByteArray), 1), ((⟨#[119, 105, 110, 100, 111, 119]⟩ : ByteArray), 2), ((⟨#[115, 112, 108, 105, 116]⟩ : ByteArray), 3), ((⟨#[107, 105, 108, 108]⟩ : ByteArray), 4), ((⟨#[115, 101, 108, 101, 99, 116]⟩ : ByteArray), 7), ((⟨#[114, 101, 115, 116, 97, 114, 116]⟩ : ByteArray), 14), ((⟨#[122, 111, 111, 109]⟩ : ByteArray), 8), ((⟨#[115, 119, 97, 112]⟩ : ByteArray), 9), ((⟨#[103, 114, 111, 119]⟩ : ByteArray), 10), ((⟨#[110, 97, 109, 101]⟩ : ByteArray), 11), ((⟨#[115, 105, 122, 101]⟩ : ByteArray), 12)] x65) == 2)
  )
set_option maxHeartbeats 4000000 in
theorem c31 {G : Nat} {E : World → Prop} (hcl : Cl G E) {fuel : Nat} {a0 : List ByteArray} {r : IOp} (h : p31 fuel a0 = some r) : PCalls Tryd.prog G E 31 [.row false .str a0] [] (.agg [.v (.int .i64 r.Kind), .v (.int .i64 r.A), .v (.int .i64 r.B), .v (.int .i64 r.C), .v (.string r.Name), .v (.string r.Text), .v (.string r.Dir), .nil]) [] := by
  refine PCalls.pure facts hcl.cl (fn := Tryd.f31) (by kernel_rfl) (by kernel_rfl) rfl rfl (by show 1 ≤ 109; decide) fun X hE hX hG => ?_
  unfold p31 at h
  refine XW.seq (XW.reg facts hE hG (by kernel_rfl) ?_)
  refine ROps.ps rfl rfl (o_alloc rfl rfl) ?_
  refine ROps.e ?_
  obtain ⟨h1, h⟩ := gd_some h
  refine XW.seq (XW.reg facts hE hG (by kernel_rfl) ?_)
  refine ROps.pr rfl rfl rfl ?_
  refine ROps.ps rfl rfl (o_slr rfl rfl rfl (b_l h1)) ?_
  refine ROps.pr rfl rfl rfl ?_
  refine ROps.e ?_
  obtain ⟨r2, h3, h⟩ := bind_some' h
  refine XW.seq (XW.reg facts hE hG (by kernel_rfl) ?_)
  refine ROps.pr rfl rfl rfl ?_
  refine ROps.ps rfl rfl (o_callo rfl rfl rfl (pkA_r rfl) (cNumbers hcl h3) rfl rfl op_row) ?_
  refine ROps.pr rfl rfl rfl ?_
  refine ROps.e ?_
  refine XW.join2 (fun ε => ∃ (w300 : Nat), p31_j5 fuel = some r ∧ ε.t 2 = .ptr 300 w300 0 0 ∧ ε.s 300 = ⟨w300, some (.box [.v (.int .i64 0), .v (.int .i64 0), .v (.int .i64 0), .v (.int .i64 0), .v (.string ByteArray.empty), .v (.string ByteArray.empty), .v (.string ByteArray.empty), .nil])⟩) (fun ε hI => ?_) ?_
  · clear h
    obtain ⟨tt, ss⟩ := ε
    obtain ⟨w300, h, e2, f300⟩ := hI
    refine XW.st 2 (by exact e2) <| XW.ss 300 (by exact f300) <| ?_
    unfold p31_j5 at h
    refine XW.seq (XW.reg facts hE hG (by kernel_rfl) ?_)
    refine ROps.pr rfl rfl rfl ?_
    refine ROps.pn rfl rfl (o_stb rfl rfl rfl ⟨rfl, rfl⟩ rfl (Nat.le_of_ble_eq_true rfl)) ?_
    refine ROps.e ?_
    refine XW.ret ?_
    cases h
    refine retW.mk (by exact (rL_cons (r1_cell (by decide) rfl rfl rfl rfl) rfl)) (by exact rfl) (by exact rfl) (by rfl) (by rfl) ?_
    exact .inl (.inl (.inl rfl))
  · obtain ⟨h64, h⟩ := gd_some h
    obtain ⟨x65, h66, h⟩ := bind_some' h
    refine XW.seq (XW.reg facts hE hG (by kernel_rfl) ?_)
    refine ROps.ps rfl rfl (o_mkm rfl) ?_
    refine ROps.pn rfl rfl (o_ins rfl rfl rfl rfl rfl rfl rfl (by kernel_rfl)) ?_
    refine ROps.pn rfl rfl (o_ins rfl rfl rfl rfl rfl rfl rfl (by kernel_rfl)) ?_
    refine ROps.pn rfl rfl (o_ins rfl rfl rfl rfl rfl rfl rfl (by kernel_rfl)) ?_
    refine ROps.pn rfl rfl (o_ins rfl rfl rfl rfl rfl rfl rfl (by kernel_rfl)) ?_
    refine ROps.pn rfl rfl (o_ins rfl rfl rfl rfl rfl rfl rfl (by kernel_rfl)) ?_
    refine ROps.pn rfl rfl (o_ins rfl rfl rfl rfl rfl rfl rfl (by kernel_rfl)) ?_
    refine ROps.pn rfl rfl (o_ins rfl rfl rfl rfl rfl rfl rfl (by kernel_rfl)) ?_
    refine ROps.pn rfl rfl (o_ins rfl rfl rfl rfl rfl rfl rfl (by kernel_rfl)) ?_
    refine ROps.pn rfl rfl (o_ins rfl rfl rfl rfl rfl rfl rfl (by kernel_rfl)) ?_
    refine ROps.pn rfl rfl (o_ins rfl rfl rfl rfl rfl rfl rfl (by kernel_rfl)) ?_
    refine ROps.pn rfl rfl (o_ins rfl rfl rfl rfl rfl rfl rfl (by kernel_rfl)) ?_
    refine ROps.pr rfl rfl rfl ?_
    refine ROps.pr rfl rfl rfl ?_
    refine ROps.ps rfl rfl (o_ixr rfl rfl rfl rfl h64) ?_
    refine ROps.ps rfl rfl (o_lde rfl rfl h66 rfl rfl) ?_
    refine ROps.ps rfl rfl (o_lkSI [((⟨#[110, 101, 119]⟩ : ByteArray), 1), ((⟨#[119, 105, 110, 100, 111, 119]⟩ : ByteArray), 2), ((⟨#[115, 112, 108, 105, 116]⟩ : ByteArray), 3), ((⟨#[107, 105, 108, 108]⟩ : ByteArray), 4), ((⟨#[115, 101, 108, 101, 99, 116]⟩ : ByteArray), 7), ((⟨#[114, 101, 115, 116, 97, 114, 116]⟩ : ByteArray), 14), ((⟨#[122, 111, 111, 109]⟩ : ByteArray), 8), ((⟨#[115, 119, 97, 112]⟩ : ByteArray), 9), ((⟨#[103, 114, 111, 119]⟩ : ByteArray), 10), ((⟨#[110, 97, 109, 101]⟩ : ByteArray), 11), ((⟨#[115, 105, 122, 101]⟩ : ByteArray), 12)] rfl rfl rfl rfl rfl (by kernel_rfl) (by kernel_rfl)) ?_
    refine ROps.pr rfl rfl rfl ?_
    refine ROps.e ?_
    refine XW.seq (XW.reg facts hE hG (by kernel_rfl) ?_)
    refine ROps.pr rfl rfl rfl ?_
    refine ROps.e ?_
    refine XW.block ?_
    refine XW.join2 (fun ε => ∃ (v24_1 : Bool) (w300 : Nat) (w12000000 : Nat), p31_j1 fuel a0 x65 r2 v24_1 = some r ∧ ε.t 2 = .ptr 300 w300 0 0 ∧ ε.t 3 = .row false .str ((a0.take a0.length).drop ((1 : Int).toNat)) ∧ ε.t 4 = .ref 12000000 w12000000 0 r2.length true ∧ ε.t 5 = .v (.int .i64 (mget (0 : Int) [((⟨#[110, 101, 119]⟩ : ByteArray), 1), ((⟨#[119, 105, 110, 100, 111, 119]⟩ : ByteArray), 2), ((⟨#[115, 112, 108, 105, 116]⟩ : ByteArray), 3), ((⟨#[107, 105, 108, 108]⟩ : ByteArray), 4), ((⟨#[115, 101, 108, 101, 99, 116]⟩ : ByteArray), 7), ((⟨#[114, 101, 115, 116, 97, 114, 116]⟩ : ByteArray), 14), ((⟨#[122, 111, 111, 109]⟩ : ByteArray), 8), ((⟨#[115, 119, 97, 112]⟩ : ByteArray), 9), ((⟨#[103, 114, 111, 119]⟩ : ByteArray), 10), ((⟨#[110, 97, 109, 101]⟩ : ByteArray), 11), ((⟨#[115, 105, 122, 101]⟩ : ByteArray), 12)] x65)) ∧ ε.t 18 = .v (.int .i64 (mget (0 : Int) [((⟨#[110, 101, 119]⟩ : ByteArray), 1), ((⟨#[119, 105, 110, 100, 111, 119]⟩ : ByteArray), 2), ((⟨#[115, 112, 108, 105, 116]⟩ : ByteArray), 3), ((⟨#[107, 105, 108, 108]⟩ : ByteArray), 4), ((⟨#[115, 101, 108, 101, 99, 116]⟩ : ByteArray), 7), ((⟨#[114, 101, 115, 116, 97, 114, 116]⟩ : ByteArray), 14), ((⟨#[122, 111, 111, 109]⟩ : ByteArray), 8), ((⟨#[115, 119, 97, 112]⟩ : ByteArray), 9), ((⟨#[103, 114, 111, 119]⟩ : ByteArray), 10), ((⟨#[110, 97, 109, 101]⟩ : ByteArray), 11), ((⟨#[115, 105, 122, 101]⟩ : ByteArray), 12)] x65)) ∧ ε.t 24 = .v (.bool v24_1) ∧ ε.s 300 = ⟨w300, some (.box [.v (.int .i64 0), .v (.int .i64 0), .v (.int .i64 0), .v (.int .i64 0), .v (.string ByteArray.empty), .v (.string ByteArray.empty), .v (.string ByteArray.empty), .nil])⟩ ∧ ε.s 12000000 = ⟨w12000000, some (.rowb .int r2)⟩) (fun ε hI => ?_) ?_
    · clear h
      obtain ⟨tt, ss⟩ := ε
      obtain ⟨v24_1, w300, w12000000, h, e2, e3, e4, e5, e18, e24, f300, f12000000⟩ := hI
      refine XW.st 2 (by exact e2) <| XW.st 3 (by exact e3) <| XW.st 4 (by exact e4) <| XW.st 5 (by exact e5) <| XW.st 18 (by exact e18) <| XW.st 24 (by exact e24) <| XW.ss 300 (by exact f300) <| XW.ss 12000000 (by exact f12000000) <| ?_
      unfold p31_j1 at h
      refine XW.cnd (v24_1) rfl (by show 24 < 109; decide) (fun hb68 => ?_) (fun hb68 => ?_)
      · replace h := ite_t hb68 h
        refine XW.seq (XW.reg facts hE hG (by kernel_rfl) ?_)
        refine ROps.pr rfl rfl rfl ?_
        refine ROps.pr rfl rfl rfl ?_
        refine ROps.pr rfl rfl rfl ?_
        refine ROps.e ?_
        refine XW.cnd (decide (0 < ((((a0.take a0.length).drop ((1 : Int).toNat)).length : Nat) : Int))) rfl (by show 29 < 109; decide) (fun hb69 => ?_) (fun hb69 => ?_)
        · replace h := ite_t hb69 h
          obtain ⟨h70, h⟩ := gd_some h
          obtain ⟨x71, h72, h⟩ := bind_some' h
          obtain ⟨h73, h⟩ := gd_some h
          obtain ⟨r74, h75, h⟩ := bind_some' h
          refine XW.seq (XW.drw facts hE hG mixed (by kernel_rfl) ?_)
          refine ROps.pr rfl rfl rfl ?_
          refine ROps.pr rfl rfl rfl ?_
          refine ROps.ps rfl rfl (o_ixr rfl rfl rfl rfl h70) ?_
          refine ROps.ps rfl rfl (o_lde rfl rfl h72 rfl rfl) ?_
          refine ROps.pr rfl rfl rfl ?_
          refine ROps.pr rfl rfl rfl ?_
          refine ROps.ps rfl rfl (o_slr rfl rfl rfl (b_l h73)) ?_
          refine ROps.ps rfl rfl (o_calln rfl rfl rfl (pkA_r rfl) (c51n hcl h75) rfl rfl rfl) ?_
          refine ROps.pn rfl rfl (o_stb rfl rfl rfl ⟨rfl, rfl⟩ rfl (Nat.le_of_ble_eq_true rfl)) ?_
          refine ROps.e ?_
          refine ⟨by kernel_rfl, ?_⟩
          refine XW.ret ?_
          cases h
          refine retW.mk (by exact (rL_cons (r1_cell (by decide) rfl rfl rfl rfl) rfl)) (by exact rfl) (by exact rfl) (by rfl) (by rfl) ?_
          exact .inl (.inl (.inl rfl))
        · replace h := ite_f hb69 h
          refine XW.skip ?_
          exact GI.of ⟨_, h, rfl, rfl⟩
      · replace h := ite_f hb68 h
        refine XW.seq (XW.reg facts hE hG (by kernel_rfl) ?_)
        refine ROps.pr rfl rfl rfl ?_
        refine ROps.pr rfl rfl rfl ?_
        refine ROps.e ?_
        refine XW.cnd (((mget (0 : Int) [((⟨#[110, 101, 119]⟩ : ByteArray), 1), ((⟨#[119, 105, 110, 100, 111, 119]⟩ : ByteArray), 2), ((⟨#[115, 112, 108, 105, 116]⟩ : ByteArray), 3), ((⟨#[107, 105, 108, 108]⟩ : ByteArray), 4), ((⟨#[115, 101, 108, 101, 99, 116]⟩ : ByteArray), 7), ((⟨#[114, 101, 115, 116, 97, 114, 116]⟩ : ByteArray), 14), ((⟨#[122, 111, 111, 109]⟩ : ByteArray), 8), ((⟨#[115, 119, 97, 112]⟩ : ByteArray), 9), ((⟨#[103, 114, 111, 119]⟩ : ByteArray), 10), ((⟨#[110, 97, 109, 101]⟩ : ByteArray), 11), ((⟨#[115, 105, 122, 101]⟩ : ByteArray), 12)] x65) == 3)) rfl (by show 38 < 109; decide) (fun hb76 => ?_) (fun hb76 => ?_)
        · replace h := ite_t hb76 h
          refine XW.seq (XW.reg facts hE hG (by kernel_rfl) ?_)
          refine ROps.pr rfl rfl rfl ?_
          refine ROps.pr rfl rfl rfl ?_
          refine ROps.pr rfl rfl rfl ?_
          refine ROps.e ?_
          refine XW.cnd (decide (1 < ((((a0.take a0.length).drop ((1 : Int).toNat)).length : Nat) : Int))) rfl (by show 42 < 109; decide) (fun hb77 => ?_) (fun hb77 => ?_)
          · replace h := ite_t hb77 h
            obtain ⟨h78, h⟩ := gd_some h
            obtain ⟨x79, h80, h⟩ := bind_some' h
            obtain ⟨h81, h⟩ := gd_some h
            obtain ⟨x82, h83, h⟩ := bind_some' h
            obtain ⟨r84, h85, h⟩ := bind_some' h
            obtain ⟨h86, h⟩ := gd_some h
            obtain ⟨r87, h88, h⟩ := bind_some' h
            refine XW.seq (XW.drw facts hE hG mixed (by kernel_rfl) ?_)
            refine ROps.pr rfl rfl rfl ?_
            refine ROps.pr rfl rfl rfl ?_
            refine ROps.ps rfl rfl (o_ixf0 rfl rfl rfl rfl rfl h78) ?_
            refine ROps.ps rfl rfl (o_ldr rfl rfl rfl h80 rfl rfl) ?_
            refine ROps.pr rfl rfl rfl ?_
            refine ROps.ps rfl rfl (o_ixr rfl rfl rfl rfl h81) ?_
            refine ROps.ps rfl rfl (o_lde rfl rfl h83 rfl rfl) ?_
            refine ROps.pr rfl rfl rfl ?_
            refine ROps.ps rfl rfl (o_call rfl rfl rfl (pkA_r rfl) (c52 hcl h85) rfl rfl rfl) ?_
            refine ROps.pr rfl rfl rfl ?_
            refine ROps.pr rfl rfl rfl ?_
            refine ROps.ps rfl rfl (o_slr rfl rfl rfl (b_l h86)) ?_
            refine ROps.ps rfl rfl (o_calln rfl rfl rfl (pkA_r rfl) (c51n hcl h88) rfl rfl rfl) ?_
            refine ROps.pn rfl rfl (o_stb rfl rfl rfl ⟨rfl, rfl⟩ rfl (Nat.le_of_ble_eq_true rfl)) ?_
            refine ROps.e ?_
            refine ⟨by kernel_rfl, ?_⟩
            refine XW.ret ?_
            cases h
            refine retW.mk (by exact (rL_cons (r1_cell (by decide) rfl rfl rfl rfl) rfl)) (by exact rfl) (by exact rfl) (by rfl) (by rfl) ?_
            exact .inl (.inl (.inl rfl))
          · replace h := ite_f hb77 h
            refine XW.skip ?_
            exact GI.of ⟨_, h, rfl, rfl⟩
        · replace h := ite_f hb76 h
          refine XW.seq (XW.reg facts hE hG (by kernel_rfl) ?_)
          refine ROps.pr rfl rfl rfl ?_
          refine ROps.pr rfl rfl rfl ?_
          refine ROps.e ?_
          refine XW.cnd (((mget (0 : Int) [((⟨#[110, 101, 119]⟩ : ByteArray), 1), ((⟨#[119, 105, 110, 100, 111, 119]⟩ : ByteArray), 2), ((⟨#[115, 112, 108, 105, 116]⟩ : ByteArray), 3), ((⟨#[107, 105, 108, 108]⟩ : ByteArray), 4), ((⟨#[115, 101, 108, 101, 99, 116]⟩ : ByteArray), 7), ((⟨#[114, 101, 115, 116, 97, 114, 116]⟩ : ByteArray), 14), ((⟨#[122, 111, 111, 109]⟩ : ByteArray), 8), ((⟨#[115, 119, 97, 112]⟩ : ByteArray), 9), ((⟨#[103, 114, 111, 119]⟩ : ByteArray), 10), ((⟨#[110, 97, 109, 101]⟩ : ByteArray), 11), ((⟨#[115, 105, 122, 101]⟩ : ByteArray), 12)] x65) == 10)) rfl (by show 56 < 109; decide) (fun hb89 => ?_) (fun hb89 => ?_)
          · replace h := ite_t hb89 h
            obtain ⟨r90, h91, h⟩ := bind_some' h
            refine XW.seq (XW.reg facts hE hG (by kernel_rfl) ?_)
            refine ROps.ps rfl rfl (o_callo rfl rfl rfl (pkA_r rfl) (c53 hcl h91) rfl rfl sd_rfl) ?_
            refine ROps.ps rfl rfl (o_range rfl rfl rfl rfl) ?_
            refine ROps.e ?_
            obtain ⟨oo, hmr, ho⟩ := bind_some' h
            clear h
            obtain ⟨hsp1, hsp2⟩ := mrange_spec hmr
            have hwf := esIS_wf (l := [((76 : Int), (⟨#[108, 101, 102, 116]⟩ : ByteArray)), ((82 : Int), (⟨#[114, 105, 103, 104, 116]⟩ : ByteArray)), ((85 : Int), (⟨#[117, 112]⟩ : ByteArray)), ((68 : Int), (⟨#[100, 111, 119, 110]⟩ : ByteArray))]) (by kernel_rfl)
            refine XW.block ?_
            refine XW.mapLoop ⟨esIS [((76 : Int), (⟨#[108, 101, 102, 116]⟩ : ByteArray)), ((82 : Int), (⟨#[114, 105, 103, 104, 116]⟩ : ByteArray)), ((85 : Int), (⟨#[117, 112]⟩ : ByteArray)), ((68 : Int), (⟨#[100, 111, 119, 110]⟩ : ByteArray))] 0⟩ (fun seen ε => ∃ (w300 : Nat) (w6000 : Nat) (w12000000 : Nat) (w59000000 : Nat), ε.t 2 = .ptr 300 w300 0 0 ∧ ε.t 3 = .row false .str ((a0.take a0.length).drop ((1 : Int).toNat)) ∧ ε.t 4 = .ref 12000000 w12000000 0 r2.length true ∧ ε.t 5 = .v (.int .i64 (mget (0 : Int) [((⟨#[110, 101, 119]⟩ : ByteArray), 1), ((⟨#[119, 105, 110, 100, 111, 119]⟩ : ByteArray), 2), ((⟨#[115, 112, 108, 105, 116]⟩ : ByteArray), 3), ((⟨#[107, 105, 108, 108]⟩ : ByteArray), 4), ((⟨#[115, 101, 108, 101, 99, 116]⟩ : ByteArray), 7), ((⟨#[114, 101, 115, 116, 97, 114, 116]⟩ : ByteArray), 14), ((⟨#[122, 111, 111, 109]⟩ : ByteArray), 8), ((⟨#[115, 119, 97, 112]⟩ : ByteArray), 9), ((⟨#[103, 114, 111, 119]⟩ : ByteArray), 10), ((⟨#[110, 97, 109, 101]⟩ : ByteArray), 11), ((⟨#[115, 105, 122, 101]⟩ : ByteArray), 12)] x65)) ∧ ε.t 59 = .ptr 6000 w6000 0 0 ∧ ε.s 300 = ⟨w300, some (.box [.v (.int .i64 0), .v (.int .i64 0), .v (.int .i64 0), .v (.int .i64 0), .v (.string ByteArray.empty), .v (.string ByteArray.empty), .v (.string ByteArray.empty), .nil])⟩ ∧ ε.s 6000 = ⟨w6000, some (.iterb 59000000 w59000000 4 seen 4)⟩ ∧ ε.s 12000000 = ⟨w12000000, some (.rowb .int r2)⟩ ∧ ε.s 59000000 = ⟨w59000000, some (.objb (.map ⟨esIS [((76 : Int), (⟨#[108, 101, 102, 116]⟩ : ByteArray)), ((82 : Int), (⟨#[114, 105, 103, 104, 116]⟩ : ByteArray)), ((85 : Int), (⟨#[117, 112]⟩ : ByteArray)), ((68 : Int), (⟨#[100, 111, 119, 110]⟩ : ByteArray))] 0⟩ 4))⟩) (fun e => ∀ kk vv, e.key = .int .i64 kk → e.val = .string vv → (p31_m2 fuel a0 r2 x65) kk vv = some (.inl ())) ?_ (fun seen ε hI hbs => ?_) esIS_uniq
            · exact GI.of ⟨_, _, _, _, rfl, rfl, (ref_n rfl rfl), rfl, rfl, rfl, rfl, rfl, rfl⟩
            · obtain ⟨tt, ss⟩ := ε
              obtain ⟨w300, w6000, w12000000, w59000000, e2, e3, e4, e5, e59, f300, f6000, f12000000, f59000000⟩ := hI
              refine XW.st 2 (by exact e2) <| XW.st 3 (by exact e3) <| XW.st 4 (by exact e4) <| XW.st 5 (by exact e5) <| XW.st 59 (by exact e59) <| XW.ss 300 (by exact f300) <| XW.ss 6000 (by exact f6000) <| XW.ss 12000000 (by exact f12000000) <| XW.ss 59000000 (by exact f59000000) <| ?_
              refine XW.seq (XW.nextR facts hE hG (by kernel_rfl) rfl rfl rfl rfl rfl rfl esIS_hold (Nat.le_refl _) hwf (fun hd => ?_) (fun e he => ?_))
              · refine ROps.pr rfl rfl rfl ?_
                refine ROps.e ?_
                refine XW.seq ?_
                refine XW.cnd false rfl (by show 61 < 109; decide) (fun hb => by cases hb) (fun _ => ?_)
                refine XW.exit ?_
                have hn : oo = none := hsp2 fun k v hm => by obtain ⟨i, hi⟩ := esIS_of (j := 0) hm; exact hbs _ hi (left_zero hd hi) k v rfl rfl
                subst hn
                replace h : p31_j5 fuel = some r := ho
                exact GI.of ⟨_, h, rfl, rfl⟩
              · have hee : e ∈ (⟨esIS [((76 : Int), (⟨#[108, 101, 102, 116]⟩ : ByteArray)), ((82 : Int), (⟨#[114, 105, 103, 104, 116]⟩ : ByteArray)), ((85 : Int), (⟨#[117, 112]⟩ : ByteArray)), ((68 : Int), (⟨#[100, 111, 119, 110]⟩ : ByteArray))] 0⟩ : Array MapEntry).toList := by
                  have h1 : e ∈ leftOf (⟨esIS [((76 : Int), (⟨#[108, 101, 102, 116]⟩ : ByteArray)), ((82 : Int), (⟨#[114, 105, 103, 104, 116]⟩ : ByteArray)), ((85 : Int), (⟨#[117, 112]⟩ : ByteArray)), ((68 : Int), (⟨#[100, 111, 119, 110]⟩ : ByteArray))] 0⟩ : Array MapEntry) seen := by simpa using he
                  unfold leftOf at h1
                  simpa using (Array.mem_filter.1 h1).1
                obtain ⟨mk2, mv2, mi, rfl, hmem, hfind⟩ := esIS_find hee
                obtain ⟨sv2, h, hcase⟩ : ∃ s, (p31_m2 fuel a0 r2 x65) mk2 mv2 = some s ∧ (s = .inl () ∨ ∃ o, s = .inr o ∧ oo = some o) := by
                  rcases hsp1 _ _ hmem with h | ⟨o, h, h2⟩
                  · exact ⟨_, h, .inl rfl⟩
                  · exact ⟨_, h, .inr ⟨o, rfl, h2⟩⟩
                have hB0 := h
                refine ROps.pr rfl rfl rfl ?_
                refine ROps.e ?_
                refine XW.seq ?_
                refine XW.cnd true rfl (by show 61 < 109; decide) (fun _ => ?_) (fun hb => by cases hb)
                refine XW.skip ?_
                unfold p31_m2 at h
                refine XW.block ?_
                refine XW.seq (XW.reg facts hE hG (by kernel_rfl) ?_)
                refine ROps.ps rfl rfl (o_entry rfl rfl rfl rfl Array.back?_push hfind rfl (hwf _ hee)) ?_
                refine ROps.pr rfl rfl rfl ?_
                refine ROps.pr rfl rfl rfl ?_
                refine ROps.pr rfl rfl rfl ?_
                refine ROps.pr rfl rfl rfl ?_
                refine ROps.e ?_
                obtain ⟨v74_3, hg, h⟩ := bind_some' h
                refine XW.join2 (fun ε => ∃ (w300 : Nat) (w6000 : Nat) (w12000000 : Nat) (w59000000 : Nat), ε.t 2 = .ptr 300 w300 0 0 ∧ ε.t 3 = .row false .str ((a0.take a0.length).drop ((1 : Int).toNat)) ∧ ε.t 4 = .ref 12000000 w12000000 0 r2.length true ∧ ε.t 5 = .v (.int .i64 (mget (0 : Int) [((⟨#[110, 101, 119]⟩ : ByteArray), 1), ((⟨#[119, 105, 110, 100, 111, 119]⟩ : ByteArray), 2), ((⟨#[115, 112, 108, 105, 116]⟩ : ByteArray), 3), ((⟨#[107, 105, 108, 108]⟩ : ByteArray), 4), ((⟨#[115, 101, 108, 101, 99, 116]⟩ : ByteArray), 7), ((⟨#[114, 101, 115, 116, 97, 114, 116]⟩ : ByteArray), 14), ((⟨#[122, 111, 111, 109]⟩ : ByteArray), 8), ((⟨#[115, 119, 97, 112]⟩ : ByteArray), 9), ((⟨#[103, 114, 111, 119]⟩ : ByteArray), 10), ((⟨#[110, 97, 109, 101]⟩ : ByteArray), 11), ((⟨#[115, 105, 122, 101]⟩ : ByteArray), 12)] x65)) ∧ ε.t 6 = .v (.int .i64 mk2) ∧ ε.t 59 = .ptr 6000 w6000 0 0 ∧ ε.t 74 = .v (.bool v74_3) ∧ ε.s 300 = ⟨w300, some (.box [.v (.int .i64 0), .v (.int .i64 0), .v (.int .i64 0), .v (.int .i64 0), .v (.string ByteArray.empty), .v (.string ByteArray.empty), .v (.string ByteArray.empty), .nil])⟩ ∧ ε.s 6000 = ⟨w6000, some (.iterb 59000000 w59000000 4 (seen.push mi) 4)⟩ ∧ ε.s 12000000 = ⟨w12000000, some (.rowb .int r2)⟩ ∧ ε.s 59000000 = ⟨w59000000, some (.objb (.map ⟨esIS [((76 : Int), (⟨#[108, 101, 102, 116]⟩ : ByteArray)), ((82 : Int), (⟨#[114, 105, 103, 104, 116]⟩ : ByteArray)), ((85 : Int), (⟨#[117, 112]⟩ : ByteArray)), ((68 : Int), (⟨#[100, 111, 119, 110]⟩ : ByteArray))] 0⟩ 4))⟩) (fun ε hI => ?_) ?_
                · obtain ⟨tt, ss⟩ := ε
                  obtain ⟨w300, w6000, w12000000, w59000000, e2, e3, e4, e5, e6, e59, e74, f300, f6000, f12000000, f59000000⟩ := hI
                  refine XW.st 2 (by exact e2) <| XW.st 3 (by exact e3) <| XW.st 4 (by exact e4) <| XW.st 5 (by exact e5) <| XW.st 6 (by exact e6) <| XW.st 59 (by exact e59) <| XW.st 74 (by exact e74) <| XW.ss 300 (by exact f300) <| XW.ss 6000 (by exact f6000) <| XW.ss 12000000 (by exact f12000000) <| XW.ss 59000000 (by exact f59000000) <| ?_
                  refine XW.cnd (v74_3) rfl (by show 74 < 109; decide) (fun hb96 => ?_) (fun hb96 => ?_)
                  · replace h := ite_t hb96 h
                    obtain ⟨h97, h⟩ := gd_some h
                    obtain ⟨x98, h99, h⟩ := bind_some' h
                    obtain ⟨h100, h⟩ := gd_some h
                    obtain ⟨x101, h102, h⟩ := bind_some' h
                    refine XW.seq (XW.drw facts hE hG mixed (by kernel_rfl) ?_)
                    refine ROps.pr rfl rfl rfl ?_
                    refine ROps.pr rfl rfl rfl ?_
                    refine ROps.ps rfl rfl (o_ixf0 rfl rfl rfl rfl rfl h97) ?_
                    refine ROps.ps rfl rfl (o_ldr rfl rfl rfl h99 rfl rfl) ?_
                    refine ROps.pr rfl rfl rfl ?_
                    refine ROps.pr rfl rfl rfl ?_
                    refine ROps.ps rfl rfl (o_ixf0 rfl rfl rfl rfl rfl h100) ?_
                    refine ROps.ps rfl rfl (o_ldr rfl rfl rfl h102 rfl rfl) ?_
                    refine ROps.pr rfl rfl rfl ?_
                    refine ROps.pn rfl rfl (o_stb rfl rfl rfl ⟨rfl, rfl⟩ rfl (Nat.le_of_ble_eq_true rfl)) ?_
                    refine ROps.e ?_
                    refine ⟨by kernel_rfl, ?_⟩
                    refine XW.ret ?_
                    cases h
                    rcases hcase with hc | ⟨o, hc, hoo⟩
                    · cases hc
                    cases hc
                    subst hoo
                    replace h : some (⟨(mget (0 : Int) [((⟨#[110, 101, 119]⟩ : ByteArray), 1), ((⟨#[119, 105, 110, 100, 111, 119]⟩ : ByteArray), 2), ((⟨#[115, 112, 108, 105, 116]⟩ : ByteArray), 3), ((⟨#[107, 105, 108, 108]⟩ : ByteArray), 4), ((⟨#[115, 101, 108, 101, 99, 116]⟩ : ByteArray), 7), ((⟨#[114, 101, 115, 116, 97, 114, 116]⟩ : ByteArray), 14), ((⟨#[122, 111, 111, 109]⟩ : ByteArray), 8), ((⟨#[115, 119, 97, 112]⟩ : ByteArray), 9), ((⟨#[103, 114, 111, 119]⟩ : ByteArray), 10), ((⟨#[110, 97, 109, 101]⟩ : ByteArray), 11), ((⟨#[115, 105, 122, 101]⟩ : ByteArray), 12)] x65), x98, mk2, x101, ByteArray.empty, ByteArray.empty, ByteArray.empty, []⟩) = some r := ho
                    cases h
                    refine retW.mk (by exact (rL_cons (r1_cell (by decide) rfl rfl rfl rfl) rfl)) (by exact rfl) (by exact rfl) (by rfl) (by rfl) ?_
                    exact .inl (.inl (.inl rfl))
                  · replace h := ite_f hb96 h
                    refine XW.skip ?_
                    cases h
                    exact ⟨_, he, fun kk vv e1 e2 => by cases e1; cases e2; exact hB0, GI.of ⟨_, _, _, _, rfl, rfl, (ref_n rfl rfl), rfl, rfl, rfl, rfl, rfl, rfl⟩⟩
                · rcases Bool.eq_false_or_eq_true (decide (1 < ((((a0.take a0.length).drop ((1 : Int).toNat)).length : Nat) : Int))) with hb92 | hb92
                  · replace hg := ite_t hb92 hg
                    obtain ⟨h93, hg⟩ := gd_some hg
                    obtain ⟨x94, h95, hg⟩ := bind_some' hg
                    cases hg
                    refine XW.reg facts hE hG (by kernel_rfl) ?_
                    refine ROps.pr rfl rfl rfl ?_
                    refine ROps.pr rfl rfl rfl ?_
                    refine ROps.pr rfl rfl rfl ?_
                    refine ROps.pr rfl rfl rfl ?_
                    refine ROps.pr rfl (wtt rfl rfl rfl hb92) rfl ?_
                    refine ROps.ps rfl (wtt rfl rfl rfl hb92) (o_ixr rfl rfl rfl rfl h93) ?_
                    refine ROps.ps rfl (wtt rfl rfl rfl hb92) (o_lde rfl rfl h95 rfl rfl) ?_
                    refine ROps.pr rfl (wtt rfl rfl rfl hb92) rfl ?_
                    refine ROps.pr rfl (wtt rfl rfl rfl hb92) rfl ?_
                    refine ROps.ps rfl rfl (o_pt rfl rfl hb92) ?_
                    refine ROps.e ?_
                    exact GI.of ⟨_, _, _, _, rfl, rfl, (ref_n rfl rfl), rfl, rfl, rfl, rfl, rfl, rfl, rfl, rfl⟩
                  · replace hg := ite_f hb92 hg
                    cases hg
                    refine XW.reg facts hE hG (by kernel_rfl) ?_
                    refine ROps.pr rfl rfl rfl ?_
                    refine ROps.pr rfl rfl rfl ?_
                    refine ROps.pr rfl rfl rfl ?_
                    refine ROps.pr rfl rfl rfl ?_
                    refine ROps.pk rfl (wft rfl rfl rfl hb92) ?_
                    refine ROps.pk rfl (wft rfl rfl rfl hb92) ?_
                    refine ROps.pk rfl (wft rfl rfl rfl hb92) ?_
                    refine ROps.pk rfl (wft rfl rfl rfl hb92) ?_
                    refine ROps.pk rfl (wft rfl rfl rfl hb92) ?_
                    refine ROps.ps rfl rfl (o_pf rfl rfl hb92) ?_
                    refine ROps.e ?_
                    exact GI.of ⟨_, _, _, _, rfl, rfl, (ref_n rfl rfl), rfl, rfl, rfl, rfl, rfl, rfl, rfl, rfl⟩
          · replace h := ite_f hb89 h
            refine XW.seq (XW.reg facts hE hG (by kernel_rfl) ?_)
            refine ROps.pr rfl rfl rfl ?_
            refine ROps.pr rfl rfl rfl ?_
            refine ROps.e ?_
            refine XW.cnd (((mget (0 : Int) [((⟨#[110, 101, 119]⟩ : ByteArray), 1), ((⟨#[119, 105, 110, 100, 111, 119]⟩ : ByteArray), 2), ((⟨#[115, 112, 108, 105, 116]⟩ : ByteArray), 3), ((⟨#[107, 105, 108, 108]⟩ : ByteArray), 4), ((⟨#[115, 101, 108, 101, 99, 116]⟩ : ByteArray), 7), ((⟨#[114, 101, 115, 116, 97, 114, 116]⟩ : ByteArray), 14), ((⟨#[122, 111, 111, 109]⟩ : ByteArray), 8), ((⟨#[115, 119, 97, 112]⟩ : ByteArray), 9), ((⟨#[103, 114, 111, 119]⟩ : ByteArray), 10), ((⟨#[110, 97, 109, 101]⟩ : ByteArray), 11), ((⟨#[115, 105, 122, 101]⟩ : ByteArray), 12)] x65) == 11)) rfl (by show 84 < 109; decide) (fun hb103 => ?_) (fun hb103 => ?_)
            · replace h := ite_t hb103 h
              refine XW.seq (XW.reg facts hE hG (by kernel_rfl) ?_)
              refine ROps.pr rfl rfl rfl ?_
              refine ROps.pr rfl rfl rfl ?_
              refine ROps.pr rfl rfl rfl ?_
              refine ROps.e ?_
              refine XW.cnd (decide (1 < ((((a0.take a0.length).drop ((1 : Int).toNat)).length : Nat) : Int))) rfl (by show 88 < 109; decide) (fun hb104 => ?_) (fun hb104 => ?_)
              · replace h := ite_t hb104 h
                obtain ⟨h105, h⟩ := gd_some h
                obtain ⟨x106, h107, h⟩ := bind_some' h
                obtain ⟨h108, h⟩ := gd_some h
                obtain ⟨x109, h110, h⟩ := bind_some' h
                refine XW.seq (XW.drw facts hE hG mixed (by kernel_rfl) ?_)
                refine ROps.pr rfl rfl rfl ?_
                refine ROps.pr rfl rfl rfl ?_
                refine ROps.ps rfl rfl (o_ixf0 rfl rfl rfl rfl rfl h105) ?_
                refine ROps.ps rfl rfl (o_ldr rfl rfl rfl h107 rfl rfl) ?_
                refine ROps.pr rfl rfl rfl ?_
                refine ROps.ps rfl rfl (o_ixr rfl rfl rfl rfl h108) ?_
                refine ROps.ps rfl rfl (o_lde rfl rfl h110 rfl rfl) ?_
                refine ROps.pr rfl rfl rfl ?_
                refine ROps.pn rfl rfl (o_stb rfl rfl rfl ⟨rfl, rfl⟩ rfl (Nat.le_of_ble_eq_true rfl)) ?_
                refine ROps.e ?_
                refine ⟨by kernel_rfl, ?_⟩
                refine XW.ret ?_
                cases h
                refine retW.mk (by exact (rL_cons (r1_cell (by decide) rfl rfl rfl rfl) rfl)) (by exact rfl) (by exact rfl) (by rfl) (by rfl) ?_
                exact .inl (.inl (.inl rfl))
              · replace h := ite_f hb104 h
                refine XW.skip ?_
                exact GI.of ⟨_, h, rfl, rfl⟩
            · replace h := ite_f hb103 h
              refine XW.join2 (fun ε => ∃ (v97_4 : Bool) (w300 : Nat) (w12000000 : Nat), p31_j4 fuel r2 x65 v97_4 = some r ∧ ε.t 2 = .ptr 300 w300 0 0 ∧ ε.t 4 = .ref 12000000 w12000000 0 r2.length true ∧ ε.t 5 = .v (.int .i64 (mget (0 : Int) [((⟨#[110, 101, 119]⟩ : ByteArray), 1), ((⟨#[119, 105, 110, 100, 111, 119]⟩ : ByteArray), 2), ((⟨#[115, 112, 108, 105, 116]⟩ : ByteArray), 3), ((⟨#[107, 105, 108, 108]⟩ : ByteArray), 4), ((⟨#[115, 101, 108, 101, 99, 116]⟩ : ByteArray), 7), ((⟨#[114, 101, 115, 116, 97, 114, 116]⟩ : ByteArray), 14), ((⟨#[122, 111, 111, 109]⟩ : ByteArray), 8), ((⟨#[115, 119, 97, 112]⟩ : ByteArray), 9), ((⟨#[103, 114, 111, 119]⟩ : ByteArray), 10), ((⟨#[110, 97, 109, 101]⟩ : ByteArray), 11), ((⟨#[115, 105, 122, 101]⟩ : ByteArray), 12)] x65)) ∧ ε.t 97 = .v (.bool v97_4) ∧ ε.s 300 = ⟨w300, some (.box [.v (.int .i64 0), .v (.int .i64 0), .v (.int .i64 0), .v (.int .i64 0), .v (.string ByteArray.empty), .v (.string ByteArray.empty), .v (.string ByteArray.empty), .nil])⟩ ∧ ε.s 12000000 = ⟨w12000000, some (.rowb .int r2)⟩) (fun ε hI => ?_) ?_
              · clear h
                obtain ⟨tt, ss⟩ := ε
                obtain ⟨v97_4, w300, w12000000, h, e2, e4, e5, e97, f300, f12000000⟩ := hI
                refine XW.st 2 (by exact e2) <| XW.st 4 (by exact e4) <| XW.st 5 (by exact e5) <| XW.st 97 (by exact e97) <| XW.ss 300 (by exact f300) <| XW.ss 12000000 (by exact f12000000) <| ?_
                unfold p31_j4 at h
                refine XW.cnd (v97_4) rfl (by show 97 < 109; decide) (fun hb112 => ?_) (fun hb112 => ?_)
                · replace h := ite_t hb112 h
                  obtain ⟨h113, h⟩ := gd_some h
                  obtain ⟨x114, h115, h⟩ := bind_some' h
                  obtain ⟨h116, h⟩ := gd_some h
                  obtain ⟨x117, h118, h⟩ := bind_some' h
                  refine XW.seq (XW.drw facts hE hG mixed (by kernel_rfl) ?_)
                  refine ROps.pr rfl rfl rfl ?_
                  refine ROps.pr rfl rfl rfl ?_
                  refine ROps.ps rfl rfl (o_ixf0 rfl rfl rfl rfl rfl h113) ?_
                  refine ROps.ps rfl rfl (o_ldr rfl rfl rfl h115 rfl rfl) ?_
                  refine ROps.pr rfl rfl rfl ?_
                  refine ROps.ps rfl rfl (o_ixf0 rfl rfl rfl rfl rfl h116) ?_
                  refine ROps.ps rfl rfl (o_ldr rfl rfl rfl h118 rfl rfl) ?_
                  refine ROps.pr rfl rfl rfl ?_
                  refine ROps.pn rfl rfl (o_stb rfl rfl rfl ⟨rfl, rfl⟩ rfl (Nat.le_of_ble_eq_true rfl)) ?_
                  refine ROps.e ?_
                  refine ⟨by kernel_rfl, ?_⟩
                  refine XW.ret ?_
                  cases h
                  refine retW.mk (by exact (rL_cons (r1_cell (by decide) rfl rfl rfl rfl) rfl)) (by exact rfl) (by exact rfl) (by rfl) (by rfl) ?_
                  exact .inl (.inl (.inl rfl))
                · replace h := ite_f hb112 h
                  obtain ⟨h119, h⟩ := gd_some h
                  obtain ⟨x120, h121, h⟩ := bind_some' h
                  refine XW.seq (XW.reg facts hE hG (by kernel_rfl) ?_)
                  refine ROps.pr rfl rfl rfl ?_
                  refine ROps.pr rfl rfl rfl ?_
                  refine ROps.ps rfl rfl (o_ixf0 rfl rfl rfl rfl rfl h119) ?_
                  refine ROps.ps rfl rfl (o_ldr rfl rfl rfl h121 rfl rfl) ?_
                  refine ROps.pr rfl rfl rfl ?_
                  refine ROps.pn rfl rfl (o_stb rfl rfl rfl ⟨rfl, rfl⟩ rfl (Nat.le_of_ble_eq_true rfl)) ?_
                  refine ROps.e ?_
                  refine XW.ret ?_
                  cases h
                  refine retW.mk (by exact (rL_cons (r1_cell (by decide) rfl rfl rfl rfl) rfl)) (by exact rfl) (by exact rfl) (by rfl) (by rfl) ?_
                  exact .inl (.inl (.inl rfl))
              · refine XW.seq (XW.reg facts hE hG (by kernel_rfl) ?_)
                refine ROps.pr rfl rfl rfl ?_
                refine ROps.pr rfl rfl rfl ?_
                refine ROps.e ?_
                refine XW.cnd (((mget (0 : Int) [((⟨#[110, 101, 119]⟩ : ByteArray), 1), ((⟨#[119, 105, 110, 100, 111, 119]⟩ : ByteArray), 2), ((⟨#[115, 112, 108, 105, 116]⟩ : ByteArray), 3), ((⟨#[107, 105, 108, 108]⟩ : ByteArray), 4), ((⟨#[115, 101, 108, 101, 99, 116]⟩ : ByteArray), 7), ((⟨#[114, 101, 115, 116, 97, 114, 116]⟩ : ByteArray), 14), ((⟨#[122, 111, 111, 109]⟩ : ByteArray), 8), ((⟨#[115, 119, 97, 112]⟩ : ByteArray), 9), ((⟨#[103, 114, 111, 119]⟩ : ByteArray), 10), ((⟨#[110, 97, 109, 101]⟩ : ByteArray), 11), ((⟨#[115, 105, 122, 101]⟩ : ByteArray), 12)] x65) == 9)) rfl (by show 97 < 109; decide) (fun hb122 => ?_) (fun hb122 => ?_)
                · replace h := ite_t hb122 h
                  refine XW.skip ?_
                  exact GI.of ⟨_, _, _, h, rfl, (ref_n rfl rfl), rfl, rfl, rfl, rfl⟩
                · replace h := ite_f hb122 h
                  refine XW.reg facts hE hG (by kernel_rfl) ?_
                  refine ROps.pr rfl rfl rfl ?_
                  refine ROps.pr rfl rfl rfl ?_
                  refine ROps.e ?_
                  exact GI.of ⟨_, _, _, h, rfl, (ref_n rfl rfl), rfl, rfl, rfl, rfl⟩
    · refine XW.seq (XW.reg facts hE hG (by kernel_rfl) ?_)
      refine ROps.pr rfl rfl rfl ?_
      refine ROps.pr rfl rfl rfl ?_
      refine ROps.e ?_
      refine XW.cnd (((mget (0 : Int) [((⟨#[110, 101, 119]⟩ : ByteArray), 1), ((⟨#[119, 105, 110, 100, 111, 119]⟩ : ByteArray), 2), ((⟨#[115, 112, 108, 105, 116]⟩ : ByteArray), 3), ((⟨#[107, 105, 108, 108]⟩ : ByteArray), 4), ((⟨#[115, 101, 108, 101, 99, 116]⟩ : ByteArray), 7), ((⟨#[114, 101, 115, 116, 97, 114, 116]⟩ : ByteArray), 14), ((⟨#[122, 111, 111, 109]⟩ : ByteArray), 8), ((⟨#[115, 119, 97, 112]⟩ : ByteArray), 9), ((⟨#[103, 114, 111, 119]⟩ : ByteArray), 10), ((⟨#[110, 97, 109, 101]⟩ : ByteArray), 11), ((⟨#[115, 105, 122, 101]⟩ : ByteArray), 12)] x65) == 1)) rfl (by show 24 < 109; decide) (fun hb123 => ?_) (fun hb123 => ?_)
      · replace h := ite_t hb123 h
        refine XW.skip ?_
        exact GI.of ⟨_, _, _, h, rfl, rfl, (ref_n rfl rfl), rfl, rfl, rfl, rfl, rfl⟩
      · replace h := ite_f hb123 h
        refine XW.reg facts hE hG (by kernel_rfl) ?_
        refine ROps.pr rfl rfl rfl ?_
        refine ROps.pr rfl rfl rfl ?_
        refine ROps.e ?_
        exact GI.of ⟨_, _, _, h, rfl, rfl, (ref_n rfl rfl), rfl, rfl, rfl, rfl, rfl⟩
def p11 (fuel : Nat) (a0 : ByteArray) : Option (IOp × Bool) :=
  (lparts a0).bind fun r1 =>
  (p31 fuel r1).bind fun r3 =>
  Option.bind (α := Bool) (
    if decide (a0 = (⟨#[]⟩ : ByteArray)) then (
      some (true)
    ) else (
      (loptext (⟨r3.Kind, r3.A, r3.B, r3.C, r3.Name, r3.Text, r3.Dir, []⟩)).bind fun r6 =>
      some (!decide (r6 = a0))
    )
  ) fun v15_1 =>
  if v15_1 then (
    some (⟨0, 0, 0, 0, ByteArray.empty, ByteArray.empty, ByteArray.empty, []⟩, false)
  ) else (
    some (⟨r3.Kind, r3.A, r3.B, r3.C, r3.Name, r3.Text, r3.Dir, []⟩, true)
  )
set_option maxHeartbeats 4000000 in
theorem c11 {G : Nat} {E : World → Prop} (hcl : Cl G E) {fuel : Nat} {a0 : ByteArray} {r : IOp × Bool} (h : p11 fuel a0 = some r) : PCalls Tryd.prog G E 11 [.v (.string a0)] [] (.tup [.agg [.v (.int .i64 r.1.Kind), .v (.int .i64 r.1.A), .v (.int .i64 r.1.B), .v (.int .i64 r.1.C), .v (.string r.1.Name), .v (.string r.1.Text), .v (.string r.1.Dir), .nil], .v (.bool r.2)]) [] := by
  refine PCalls.pure facts hcl.cl (fn := Tryd.f11) (by kernel_rfl) (by kernel_rfl) rfl rfl (by show 1 ≤ 18; decide) fun X hE hX hG => ?_
  unfold p11 at h
  refine XW.seq (XW.reg facts hE hG (by kernel_rfl) ?_)
  refine ROps.ps rfl rfl (o_alloc rfl rfl) ?_
  refine ROps.pr rfl rfl rfl ?_
  refine ROps.e ?_
  obtain ⟨r1, h2, h⟩ := bind_some' h
  obtain ⟨r3, h4, h⟩ := bind_some' h
  refine XW.seq (XW.reg facts hE hG (by kernel_rfl) ?_)
  refine ROps.pr rfl rfl rfl ?_
  refine ROps.ps rfl rfl (o_call rfl rfl rfl (pkA_r rfl) ((cPartsI hcl h2).weaken (.inl (.inl (.inr (.inr ⟨_, _, rfl, rfl⟩))))) rfl rfl rfl) ?_
  refine ROps.ps rfl rfl (o_call rfl rfl rfl (pkA_r rfl) (c31 hcl h4) rfl rfl rfl) ?_
  refine ROps.ps rfl rfl (o_alloc rfl rfl) ?_
  refine ROps.pn rfl rfl (o_stb rfl rfl rfl ⟨rfl, rfl⟩ rfl (Nat.le_of_ble_eq_true rfl)) ?_
  refine ROps.e ?_
  refine XW.seq ?_
  obtain ⟨v15_1, hg, h⟩ := bind_some' h
  refine XW.join2 (fun ε => ∃ (w300 : Nat) (w500 : Nat), ε.t 2 = .ptr 300 w300 0 0 ∧ ε.t 4 = .ptr 500 w500 0 0 ∧ ε.t 15 = .v (.bool v15_1) ∧ ε.s 300 = ⟨w300, some (.box [.v (.int .i64 0), .v (.int .i64 0), .v (.int .i64 0), .v (.int .i64 0), .v (.string ByteArray.empty), .v (.string ByteArray.empty), .v (.string ByteArray.empty), .nil])⟩ ∧ ε.s 500 = ⟨w500, some (.box [.v (.int .i64 r3.Kind), .v (.int .i64 r3.A), .v (.int .i64 r3.B), .v (.int .i64 r3.C), .v (.string r3.Name), .v (.string r3.Text), .v (.string r3.Dir), .nil])⟩) (fun ε hI => ?_) ?_
  · obtain ⟨tt, ss⟩ := ε
    obtain ⟨w300, w500, e2, e4, e15, f300, f500⟩ := hI
    refine XW.st 2 (by exact e2) <| XW.st 4 (by exact e4) <| XW.st 15 (by exact e15) <| XW.ss 300 (by exact f300) <| XW.ss 500 (by exact f500) <| ?_
    refine XW.cnd (v15_1) rfl (by show 15 < 18; decide) (fun hb8 => ?_) (fun hb8 => ?_)
    · replace h := ite_t hb8 h
      refine XW.seq (XW.reg facts hE hG (by kernel_rfl) ?_)
      refine ROps.pr rfl rfl rfl ?_
      refine ROps.pn rfl rfl (o_stb rfl rfl rfl ⟨rfl, rfl⟩ rfl (Nat.le_of_ble_eq_true rfl)) ?_
      refine ROps.pr rfl rfl rfl ?_
      refine ROps.e ?_
      refine XW.ret ?_
      cases h
      refine retW.mk (by exact (rL_cons (r1_cell (by decide) rfl rfl rfl rfl) (rL_cons rfl rfl))) (by exact rfl) (by exact rfl) (by rfl) (by rfl) ?_
      exact .inl (.inl (.inl rfl))
    · replace h := ite_f hb8 h
      refine XW.skip ?_
      refine XW.seq (XW.reg facts hE hG (by kernel_rfl) ?_)
      refine ROps.ps rfl rfl (w_live rfl rfl) ?_
      refine ROps.pn rfl rfl (o_stb rfl rfl rfl ⟨rfl, rfl⟩ rfl (Nat.le_of_ble_eq_true rfl)) ?_
      refine ROps.pr rfl rfl rfl ?_
      refine ROps.e ?_
      refine XW.ret ?_
      cases h
      refine retW.mk (by exact (rL_cons (r1_cell (by decide) rfl rfl rfl rfl) (rL_cons rfl rfl))) (by exact rfl) (by exact rfl) (by rfl) (by rfl) ?_
      exact .inl (.inl (.inl rfl))
  · rcases Bool.eq_false_or_eq_true (decide (a0 = (⟨#[]⟩ : ByteArray))) with hb5 | hb5
    · replace hg := ite_t hb5 hg
      cases hg
      refine XW.reg facts hE hG (by kernel_rfl) ?_
      refine ROps.pr rfl rfl rfl ?_
      refine ROps.pr rfl rfl rfl ?_
      refine ROps.pr rfl rfl rfl ?_
      refine ROps.pk rfl (wtf rfl rfl rfl hb5) ?_
      refine ROps.pk rfl (wtf rfl rfl rfl hb5) ?_
      refine ROps.pk rfl (wtf rfl rfl rfl hb5) ?_
      refine ROps.pk rfl (wtf rfl rfl rfl hb5) ?_
      refine ROps.ps rfl rfl (o_pt rfl rfl hb5) ?_
      refine ROps.e ?_
      exact GI.of ⟨_, _, rfl, rfl, rfl, rfl, rfl⟩
    · replace hg := ite_f hb5 hg
      obtain ⟨r6, h7, hg⟩ := bind_some' hg
      cases hg
      refine XW.reg facts hE hG (by kernel_rfl) ?_
      refine ROps.pr rfl rfl rfl ?_
      refine ROps.pr rfl rfl rfl ?_
      refine ROps.pr rfl rfl rfl ?_
      refine ROps.ps rfl (wff rfl rfl rfl hb5) (w_live rfl rfl) ?_
      refine ROps.ps rfl (wff rfl rfl rfl hb5) (o_call rfl rfl rfl (pkA_r rfl) (cOpTextI hcl h7) rfl rfl rfl) ?_
      refine ROps.pr rfl (wff rfl rfl rfl hb5) rfl ?_
      refine ROps.pr rfl (wff rfl rfl rfl hb5) rfl ?_
      refine ROps.ps rfl rfl (o_pf rfl rfl hb5) ?_
      refine ROps.e ?_
      exact GI.of ⟨_, _, rfl, rfl, rfl, rfl, rfl⟩
def p23_j2 (fuel : Nat) : Option (Bool) :=
  some (true)
def p23_b1 (fuel : Nat) (a0 : List UInt8) (a1 : List UInt8) : Int → Option ((Int) ⊕ ((Unit) ⊕ (Bool))) := fun v5_1 =>
  if decide (v5_1 < ((a0.length : Nat) : Int)) then (
    gd (0 ≤ v5_1 ∧ v5_1 < a0.length) <|
    (a0[v5_1.toNat]?).bind fun x49 =>
    gd (0 ≤ v5_1 ∧ v5_1 < a1.length) <|
    (a1[v5_1.toNat]?).bind fun x52 =>
    if ((x49.toNat : Int) != (x52.toNat : Int)) then (
      some (.inr (.inr (false)))
    ) else (
      gd (inK .i64 (v5_1 + 1)) <|
      some (.inl (v5_1 + 1))
    )
  ) else (
    some (.inr (.inl ()))
  )
def p23 (fuel : Nat) (a0 : List UInt8) (a1 : List UInt8) : Option (Bool) :=
  if (((a0.length : Nat) : Int) != ((a1.length : Nat) : Int)) then (
    some (false)
  ) else (
    (loopF (p23_b1 fuel a0 a1) fuel 0).bind fun oo1 =>
    match oo1 with
    | .inl (_) => 
      p23_j2 fuel
    | .inr q => 
      some q
  )
set_option maxHeartbeats 4000000 in
theorem c23 {G : Nat} {E : World → Prop} (hcl : Cl G E) {fuel : Nat} {a0 : List UInt8} {a1 : List UInt8} {r : Bool} (h : p23 fuel a0 a1 = some r) : PCalls Tryd.prog G E 23 [.row false .u8 a0, .row false .u8 a1] [] (.v (.bool r)) [] := by
  refine PCalls.pure facts hcl.cl (fn := Tryd.f23) (by kernel_rfl) (by kernel_rfl) rfl rfl (by show 2 ≤ 26; decide) fun X hE hX hG => ?_
  unfold p23 at h
  refine XW.seq (XW.reg facts hE hG (by kernel_rfl) ?_)
  refine ROps.pr rfl rfl rfl ?_
  refine ROps.e ?_
  refine XW.seq ?_
  refine XW.seq (XW.reg facts hE hG (by kernel_rfl) ?_)
  refine ROps.pr rfl rfl rfl ?_
  refine ROps.pr rfl rfl rfl ?_
  refine ROps.pr rfl rfl rfl ?_
  refine ROps.pr rfl rfl rfl ?_
  refine ROps.pr rfl rfl rfl ?_
  refine ROps.e ?_
  refine XW.cnd ((((a0.length : Nat) : Int) != ((a1.length : Nat) : Int))) rfl (by show 10 < 26; decide) (fun hb1 => ?_) (fun hb1 => ?_)
  · replace h := ite_t hb1 h
    refine XW.seq (XW.reg facts hE hG (by kernel_rfl) ?_)
    refine ROps.pr rfl rfl rfl ?_
    refine ROps.e ?_
    refine XW.ret ?_
    cases h
    refine retW.mk (by exact rfl) (by exact rfl) (by exact rfl) (by rfl) (by rfl) ?_
    exact .inl (.inl (.inl rfl))
  · replace h := ite_f hb1 h
    refine XW.skip ?_
    refine XW.join2 (fun ε => p23_j2 fuel = some r) (fun ε hI => ?_) ?_
    · clear h
      obtain ⟨tt, ss⟩ := ε
      have h := hI
      unfold p23_j2 at h
      refine XW.seq (XW.reg facts hE hG (by kernel_rfl) ?_)
      refine ROps.pr rfl rfl rfl ?_
      refine ROps.e ?_
      refine XW.ret ?_
      cases h
      refine retW.mk (by exact rfl) (by exact rfl) (by exact rfl) (by rfl) (by rfl) ?_
      exact .inl (.inl (.inl rfl))
    · refine XW.seq (XW.reg facts hE hG (by kernel_rfl) ?_)
      refine ROps.pr rfl rfl rfl ?_
      refine ROps.e ?_
      refine XW.block ?_
      obtain ⟨oo1, hl, ho1⟩ := bind_some' h
      clear h
      refine XW.roundsG (fun n => fun ε => ∃ (v5_1 : Int), loopF (p23_b1 fuel a0 a1) n v5_1 = some oo1 ∧ ε.t 0 = .row false .u8 a0 ∧ ε.t 1 = .row false .u8 a1 ∧ ε.t 5 = .v (.int .i64 v5_1)) fuel ?_ (fun ε hI => ?_) (fun n ε hI => ?_)
      · exact GI.of ⟨_, hl, rfl, rfl, rfl⟩
      · obtain ⟨tt, ss⟩ := ε
        obtain ⟨v5_1, hl, e0, e1, e5⟩ := hI
        cases hl
      · clear hl
        obtain ⟨tt, ss⟩ := ε
        obtain ⟨v5_1, hl, e0, e1, e5⟩ := hI
        refine XW.st 0 (by exact e0) <| XW.st 1 (by exact e1) <| XW.st 5 (by exact e5) <| ?_
        obtain ⟨sv1, h, hs1⟩ := loopF_succ hl
        clear hl
        unfold p23_b1 at h
        try dsimp only at h
        refine XW.seq ?_
        refine XW.seq (XW.reg facts hE hG (by kernel_rfl) ?_)
        refine ROps.pr rfl rfl rfl ?_
        refine ROps.pr rfl rfl rfl ?_
        refine ROps.pr rfl rfl rfl ?_
        refine ROps.pr rfl rfl rfl ?_
        refine ROps.e ?_
        refine XW.cnd (decide (v5_1 < ((a0.length : Nat) : Int))) rfl (by show 14 < 26; decide) (fun hb47 => ?_) (fun hb47 => ?_)
        · replace h := ite_t hb47 h
          refine XW.skip ?_
          refine XW.seq ?_
          refine XW.block ?_
          obtain ⟨h48, h⟩ := gd_some h
          obtain ⟨x49, h50, h⟩ := bind_some' h
          obtain ⟨h51, h⟩ := gd_some h
          obtain ⟨x52, h53, h⟩ := bind_some' h
          refine XW.seq (XW.drw facts hE hG mixed (by kernel_rfl) ?_)
          refine ROps.pr rfl rfl rfl ?_
          refine ROps.pr rfl rfl rfl ?_
          refine ROps.ps rfl rfl (o_ixr rfl rfl rfl rfl h48) ?_
          refine ROps.ps rfl rfl (o_lde rfl rfl h50 rfl rfl) ?_
          refine ROps.pr rfl rfl rfl ?_
          refine ROps.pr rfl rfl rfl ?_
          refine ROps.ps rfl rfl (o_ixr rfl rfl rfl rfl h51) ?_
          refine ROps.ps rfl rfl (o_lde rfl rfl h53 rfl rfl) ?_
          refine ROps.pr rfl rfl rfl ?_
          refine ROps.e ?_
          refine ⟨by kernel_rfl, ?_⟩
          refine XW.cnd (((x49.toNat : Int) != (x52.toNat : Int))) rfl (by show 25 < 26; decide) (fun hb54 => ?_) (fun hb54 => ?_)
          · replace h := ite_t hb54 h
            refine XW.seq (XW.reg facts hE hG (by kernel_rfl) ?_)
            refine ROps.pr rfl rfl rfl ?_
            refine ROps.e ?_
            refine XW.ret ?_
            cases h
            replace hs1 := loopF_done hs1
            subst hs1
            replace h : some (false) = some r := ho1
            cases h
            refine retW.mk (by exact rfl) (by exact rfl) (by exact rfl) (by rfl) (by rfl) ?_
            exact .inl (.inl (.inl rfl))
          · replace h := ite_f hb54 h
            refine XW.skip ?_
            obtain ⟨h55, h⟩ := gdK_some h
            refine XW.reg facts hE hG (by kernel_rfl) ?_
            refine ROps.pr rfl rfl rfl ?_
            refine ROps.ps rfl rfl (w_wr h55) ?_
            refine ROps.pr rfl rfl rfl ?_
            refine ROps.e ?_
            cases h
            replace hs1 := loopF_next hs1
            exact GI.of ⟨_, hs1, rfl, rfl, rfl⟩
        · replace h := ite_f hb47 h
          refine XW.exit ?_
          cases h
          replace hs1 := loopF_done hs1
          subst hs1
          replace h : p23_j2 fuel = some r := ho1
          exact GI.of h
def p12 (fuel : Nat) (a0 : IOp) (a1 : IOp) : Option (Bool) :=
  if (a0.Kind != a1.Kind) then (
    some (false)
  ) else (
    if (a0.A != a1.A) then (
      some (false)
    ) else (
      if (a0.B != a1.B) then (
        some (false)
      ) else (
        if (a0.C != a1.C) then (
          some (false)
        ) else (
          if !decide (a0.Name = a1.Name) then (
            some (false)
          ) else (
            if !decide (a0.Text = a1.Text) then (
              some (false)
            ) else (
              if !decide (a0.Dir = a1.Dir) then (
                some (false)
              ) else (
                (p23 fuel a0.Data a1.Data).bind fun r8 =>
                if (!r8) then (
                  some (false)
                ) else (
                  some (true)
                )
              )
            )
          )
        )
      )
    )
  )
set_option maxHeartbeats 4000000 in
theorem c12 {G : Nat} {E : World → Prop} (hcl : Cl G E) {fuel : Nat} {a0 : IOp} {a1 : IOp} {r : Bool} (h : p12 fuel a0 a1 = some r) : PCalls Tryd.prog G E 12 [.agg [.v (.int .i64 a0.Kind), .v (.int .i64 a0.A), .v (.int .i64 a0.B), .v (.int .i64 a0.C), .v (.string a0.Name), .v (.string a0.Text), .v (.string a0.Dir), .row false .u8 a0.Data], .agg [.v (.int .i64 a1.Kind), .v (.int .i64 a1.A), .v (.int .i64 a1.B), .v (.int .i64 a1.C), .v (.string a1.Name), .v (.string a1.Text), .v (.string a1.Dir), .row false .u8 a1.Data]] [] (.v (.bool r)) [] := by
  refine PCalls.pure facts hcl.cl (fn := Tryd.f12) (by kernel_rfl) (by kernel_rfl) rfl rfl (by show 2 ≤ 46; decide) fun X hE hX hG => ?_
  unfold p12 at h
  refine XW.seq (XW.reg facts hE hG (by kernel_rfl) ?_)
  refine ROps.ps rfl rfl (o_box rfl rfl) ?_
  refine ROps.ps rfl rfl (o_box rfl rfl) ?_
  refine ROps.pr rfl rfl rfl ?_
  refine ROps.e ?_
  refine XW.seq ?_
  refine XW.seq (XW.reg facts hE hG (by kernel_rfl) ?_)
  refine ROps.ps rfl rfl (w_live rfl rfl) ?_
  refine ROps.ps rfl rfl (w_live rfl rfl) ?_
  refine ROps.ps rfl rfl (w_live rfl rfl) ?_
  refine ROps.ps rfl rfl (w_live rfl rfl) ?_
  refine ROps.pr rfl rfl rfl ?_
  refine ROps.e ?_
  refine XW.cnd ((a0.Kind != a1.Kind)) rfl (by show 9 < 46; decide) (fun hb1 => ?_) (fun hb1 => ?_)
  · replace h := ite_t hb1 h
    refine XW.seq (XW.reg facts hE hG (by kernel_rfl) ?_)
    refine ROps.pr rfl rfl rfl ?_
    refine ROps.e ?_
    refine XW.ret ?_
    cases h
    refine retW.mk (by exact rfl) (by exact rfl) (by exact rfl) (by rfl) (by rfl) ?_
    exact .inl (.inl (.inl rfl))
  · replace h := ite_f hb1 h
    refine XW.skip ?_
    refine XW.seq ?_
    refine XW.seq (XW.reg facts hE hG (by kernel_rfl) ?_)
    refine ROps.ps rfl rfl (w_live rfl rfl) ?_
    refine ROps.ps rfl rfl (w_live rfl rfl) ?_
    refine ROps.ps rfl rfl (w_live rfl rfl) ?_
    refine ROps.ps rfl rfl (w_live rfl rfl) ?_
    refine ROps.pr rfl rfl rfl ?_
    refine ROps.e ?_
    refine XW.cnd ((a0.A != a1.A)) rfl (by show 14 < 46; decide) (fun hb2 => ?_) (fun hb2 => ?_)
    · replace h := ite_t hb2 h
      refine XW.seq (XW.reg facts hE hG (by kernel_rfl) ?_)
      refine ROps.pr rfl rfl rfl ?_
      refine ROps.e ?_
      refine XW.ret ?_
      cases h
      refine retW.mk (by exact rfl) (by exact rfl) (by exact rfl) (by rfl) (by rfl) ?_
      exact .inl (.inl (.inl rfl))
    · replace h := ite_f hb2 h
      refine XW.skip ?_
      refine XW.seq ?_
      refine XW.seq (XW.reg facts hE hG (by kernel_rfl) ?_)
      refine ROps.ps rfl rfl (w_live rfl rfl) ?_
      refine ROps.ps rfl rfl (w_live rfl rfl) ?_
      refine ROps.ps rfl rfl (w_live rfl rfl) ?_
      refine ROps.ps rfl rfl (w_live rfl rfl) ?_
      refine ROps.pr rfl rfl rfl ?_
      refine ROps.e ?_
      refine XW.cnd ((a0.B != a1.B)) rfl (by show 19 < 46; decide) (fun hb3 => ?_) (fun hb3 => ?_)
      · replace h := ite_t hb3 h
        refine XW.seq (XW.reg facts hE hG (by kernel_rfl) ?_)
        refine ROps.pr rfl rfl rfl ?_
        refine ROps.e ?_
        refine XW.ret ?_
        cases h
        refine retW.mk (by exact rfl) (by exact rfl) (by exact rfl) (by rfl) (by rfl) ?_
        exact .inl (.inl (.inl rfl))
      · replace h := ite_f hb3 h
        refine XW.skip ?_
        refine XW.seq ?_
        refine XW.seq (XW.reg facts hE hG (by kernel_rfl) ?_)
        refine ROps.ps rfl rfl (w_live rfl rfl) ?_
        refine ROps.ps rfl rfl (w_live rfl rfl) ?_
        refine ROps.ps rfl rfl (w_live rfl rfl) ?_
        refine ROps.ps rfl rfl (w_live rfl rfl) ?_
        refine ROps.pr rfl rfl rfl ?_
        refine ROps.e ?_
        refine XW.cnd ((a0.C != a1.C)) rfl (by show 24 < 46; decide) (fun hb4 => ?_) (fun hb4 => ?_)
        · replace h := ite_t hb4 h
          refine XW.seq (XW.reg facts hE hG (by kernel_rfl) ?_)
          refine ROps.pr rfl rfl rfl ?_
          refine ROps.e ?_
          refine XW.ret ?_
          cases h
          refine retW.mk (by exact rfl) (by exact rfl) (by exact rfl) (by rfl) (by rfl) ?_
          exact .inl (.inl (.inl rfl))
        · replace h := ite_f hb4 h
          refine XW.skip ?_
          refine XW.seq ?_
          refine XW.seq (XW.reg facts hE hG (by kernel_rfl) ?_)
          refine ROps.ps rfl rfl (w_live rfl rfl) ?_
          refine ROps.ps rfl rfl (w_live rfl rfl) ?_
          refine ROps.ps rfl rfl (w_live rfl rfl) ?_
          refine ROps.ps rfl rfl (w_live rfl rfl) ?_
          refine ROps.pr rfl rfl rfl ?_
          refine ROps.e ?_
          refine XW.cnd (!decide (a0.Name = a1.Name)) rfl (by show 29 < 46; decide) (fun hb5 => ?_) (fun hb5 => ?_)
          · replace h := ite_t hb5 h
            refine XW.seq (XW.reg facts hE hG (by kernel_rfl) ?_)
            refine ROps.pr rfl rfl rfl ?_
            refine ROps.e ?_
            refine XW.ret ?_
            cases h
            refine retW.mk (by exact rfl) (by exact rfl) (by exact rfl) (by rfl) (by rfl) ?_
            exact .inl (.inl (.inl rfl))
          · replace h := ite_f hb5 h
            refine XW.skip ?_
            refine XW.seq ?_
            refine XW.seq (XW.reg facts hE hG (by kernel_rfl) ?_)
            refine ROps.ps rfl rfl (w_live rfl rfl) ?_
            refine ROps.ps rfl rfl (w_live rfl rfl) ?_
            refine ROps.ps rfl rfl (w_live rfl rfl) ?_
            refine ROps.ps rfl rfl (w_live rfl rfl) ?_
            refine ROps.pr rfl rfl rfl ?_
            refine ROps.e ?_
            refine XW.cnd (!decide (a0.Text = a1.Text)) rfl (by show 34 < 46; decide) (fun hb6 => ?_) (fun hb6 => ?_)
            · replace h := ite_t hb6 h
              refine XW.seq (XW.reg facts hE hG (by kernel_rfl) ?_)
              refine ROps.pr rfl rfl rfl ?_
              refine ROps.e ?_
              refine XW.ret ?_
              cases h
              refine retW.mk (by exact rfl) (by exact rfl) (by exact rfl) (by rfl) (by rfl) ?_
              exact .inl (.inl (.inl rfl))
            · replace h := ite_f hb6 h
              refine XW.skip ?_
              refine XW.seq ?_
              refine XW.seq (XW.reg facts hE hG (by kernel_rfl) ?_)
              refine ROps.ps rfl rfl (w_live rfl rfl) ?_
              refine ROps.ps rfl rfl (w_live rfl rfl) ?_
              refine ROps.ps rfl rfl (w_live rfl rfl) ?_
              refine ROps.ps rfl rfl (w_live rfl rfl) ?_
              refine ROps.pr rfl rfl rfl ?_
              refine ROps.e ?_
              refine XW.cnd (!decide (a0.Dir = a1.Dir)) rfl (by show 39 < 46; decide) (fun hb7 => ?_) (fun hb7 => ?_)
              · replace h := ite_t hb7 h
                refine XW.seq (XW.reg facts hE hG (by kernel_rfl) ?_)
                refine ROps.pr rfl rfl rfl ?_
                refine ROps.e ?_
                refine XW.ret ?_
                cases h
                refine retW.mk (by exact rfl) (by exact rfl) (by exact rfl) (by rfl) (by rfl) ?_
                exact .inl (.inl (.inl rfl))
              · replace h := ite_f hb7 h
                refine XW.skip ?_
                refine XW.seq ?_
                obtain ⟨r8, h9, h⟩ := bind_some' h
                refine XW.seq (XW.reg facts hE hG (by kernel_rfl) ?_)
                refine ROps.ps rfl rfl (w_live rfl rfl) ?_
                refine ROps.ps rfl rfl (w_live rfl rfl) ?_
                refine ROps.ps rfl rfl (w_live rfl rfl) ?_
                refine ROps.ps rfl rfl (w_live rfl rfl) ?_
                refine ROps.ps rfl rfl (o_call rfl rfl rfl (pkA_r rfl) (c23 hcl h9) rfl rfl rfl) ?_
                refine ROps.pr rfl rfl rfl ?_
                refine ROps.e ?_
                refine XW.cnd ((!r8)) rfl (by show 45 < 46; decide) (fun hb10 => ?_) (fun hb10 => ?_)
                · replace h := ite_t hb10 h
                  refine XW.seq (XW.reg facts hE hG (by kernel_rfl) ?_)
                  refine ROps.pr rfl rfl rfl ?_
                  refine ROps.e ?_
                  refine XW.ret ?_
                  cases h
                  refine retW.mk (by exact rfl) (by exact rfl) (by exact rfl) (by rfl) (by rfl) ?_
                  exact .inl (.inl (.inl rfl))
                · replace h := ite_f hb10 h
                  refine XW.skip ?_
                  refine XW.seq (XW.reg facts hE hG (by kernel_rfl) ?_)
                  refine ROps.pr rfl rfl rfl ?_
                  refine ROps.e ?_
                  refine XW.ret ?_
                  cases h
                  refine retW.mk (by exact rfl) (by exact rfl) (by exact rfl) (by rfl) (by rfl) ?_
                  exact .inl (.inl (.inl rfl))
def p25_j2 (fuel : Nat) (a1 : Int) : Option (Int) :=
  some (a1)
def p25_b1 (fuel : Nat) (a0 : List UInt8) : Unit → Option ((Unit) ⊕ (Unit)) := fun _ =>
  if decide (0 < ((a0.length : Nat) : Int)) then (
    none
  ) else (
    some (.inr ())
  )
def p25 (fuel : Nat) (a0 : List UInt8) (a1 : Int) : Option (Int) :=
  (loopF (p25_b1 fuel a0) fuel ()).bind fun oo1 =>
  match oo1 with
  | _ => 
    p25_j2 fuel a1
set_option maxHeartbeats 4000000 in
theorem c25 {G : Nat} {E : World → Prop} (hcl : Cl G E) {fuel : Nat} {a0 : List UInt8} {a1 : Int} {r : Int} (h : p25 fuel a0 a1 = some r) : PCalls Tryd.prog G E 25 [.row false .u8 a0, .v (.int .i64 a1)] [] (.v (.int .i64 r)) [] := by
  refine PCalls.pure facts hcl.cl (fn := Tryd.f25) (by kernel_rfl) (by kernel_rfl) rfl rfl (by show 2 ≤ 20; decide) fun X hE hX hG => ?_
  unfold p25 at h
  refine XW.seq (XW.reg facts hE hG (by kernel_rfl) ?_)
  refine ROps.pr rfl rfl rfl ?_
  refine ROps.e ?_
  refine XW.join2 (fun ε => p25_j2 fuel a1 = some r ∧ ε.t 1 = .v (.int .i64 a1)) (fun ε hI => ?_) ?_
  · clear h
    obtain ⟨tt, ss⟩ := ε
    obtain ⟨h, e1⟩ := hI
    refine XW.st 1 (by exact e1) <| ?_
    unfold p25_j2 at h
    refine XW.seq (XW.reg facts hE hG (by kernel_rfl) ?_)
    refine ROps.pr rfl rfl rfl ?_
    refine ROps.pr rfl rfl rfl ?_
    refine ROps.e ?_
    refine XW.ret ?_
    cases h
    refine retW.mk (by exact rfl) (by exact rfl) (by exact rfl) (by rfl) (by rfl) ?_
    exact .inl (.inl (.inl rfl))
  · refine XW.seq (XW.reg facts hE hG (by kernel_rfl) ?_)
    refine ROps.pr rfl rfl rfl ?_
    refine ROps.e ?_
    refine XW.block ?_
    obtain ⟨oo1, hl, ho1⟩ := bind_some' h
    clear h
    refine XW.roundsG (fun n => fun ε => loopF (p25_b1 fuel a0) n () = some oo1 ∧ ε.t 0 = .row false .u8 a0 ∧ ε.t 1 = .v (.int .i64 a1) ∧ ε.t 5 = .v (.int .i64 0)) fuel ?_ (fun ε hI => ?_) (fun n ε hI => ?_)
    · exact GI.of ⟨hl, rfl, rfl, rfl⟩
    · obtain ⟨tt, ss⟩ := ε
      obtain ⟨hl, e0, e1, e5⟩ := hI
      cases hl
    · clear hl
      obtain ⟨tt, ss⟩ := ε
      obtain ⟨hl, e0, e1, e5⟩ := hI
      refine XW.st 0 (by exact e0) <| XW.st 1 (by exact e1) <| XW.st 5 (by exact e5) <| ?_
      obtain ⟨sv1, h, hs1⟩ := loopF_succ hl
      clear hl
      unfold p25_b1 at h
      try dsimp only at h
      refine XW.seq ?_
      refine XW.seq (XW.reg facts hE hG (by kernel_rfl) ?_)
      refine ROps.pr rfl rfl rfl ?_
      refine ROps.pr rfl rfl rfl ?_
      refine ROps.pr rfl rfl rfl ?_
      refine ROps.pr rfl rfl rfl ?_
      refine ROps.e ?_
      refine XW.cnd (decide (0 < ((a0.length : Nat) : Int))) rfl (by show 9 < 20; decide) (fun hb7 => ?_) (fun hb7 => ?_)
      · replace h := ite_t hb7 h
        refine XW.skip ?_
        refine XW.seq ?_
        refine XW.block ?_
        cases h
      · replace h := ite_f hb7 h
        refine XW.exit ?_
        cases h
        replace hs1 := loopF_done hs1
        subst hs1
        replace h : p25_j2 fuel a1 = some r := ho1
        exact GI.of ⟨h, rfl⟩
-- 25 loop.example/g00661/laws.markByteS: none at: store through eptr
def p13 (fuel : Nat) (a0 : IOp) (a1 : Int) : Option (Int) :=
  (p25 fuel a0.Data a1).bind fun r1 =>
  some (r1)
set_option maxHeartbeats 4000000 in
theorem c13 {G : Nat} {E : World → Prop} (hcl : Cl G E) {fuel : Nat} {a0 : IOp} {a1 : Int} {r : Int} (h : p13 fuel a0 a1 = some r) : PCalls Tryd.prog G E 13 [.agg [.v (.int .i64 a0.Kind), .v (.int .i64 a0.A), .v (.int .i64 a0.B), .v (.int .i64 a0.C), .v (.string a0.Name), .v (.string a0.Text), .v (.string a0.Dir), .row false .u8 a0.Data], .v (.int .i64 a1)] [] (.v (.int .i64 r)) [] := by
  refine PCalls.pure facts hcl.cl (fn := Tryd.f13) (by kernel_rfl) (by kernel_rfl) rfl rfl (by show 2 ≤ 10; decide) fun X hE hX hG => ?_
  unfold p13 at h
  refine XW.seq (XW.reg facts hE hG (by kernel_rfl) ?_)
  refine ROps.ps rfl rfl (o_box rfl rfl) ?_
  refine ROps.pr rfl rfl rfl ?_
  refine ROps.e ?_
  obtain ⟨r1, h2, h⟩ := bind_some' h
  refine XW.seq (XW.reg facts hE hG (by kernel_rfl) ?_)
  refine ROps.ps rfl rfl (w_live rfl rfl) ?_
  refine ROps.ps rfl rfl (w_live rfl rfl) ?_
  refine ROps.pr rfl rfl rfl ?_
  refine ROps.ps rfl rfl (o_call rfl rfl rfl (pkA_r rfl) (c25 hcl h2) rfl rfl rfl) ?_
  refine ROps.pr rfl rfl rfl ?_
  refine ROps.e ?_
  refine XW.seq (XW.reg facts hE hG (by kernel_rfl) ?_)
  refine ROps.pr rfl rfl rfl ?_
  refine ROps.pr rfl rfl rfl ?_
  refine ROps.e ?_
  refine XW.ret ?_
  cases h
  refine retW.mk (by exact rfl) (by exact rfl) (by exact rfl) (by rfl) (by rfl) ?_
  exact .inl (.inl (.inl rfl))
def p27_j2 (fuel : Nat) (v1_2 : Int) : Option (Int) :=
  some (v1_2)
def p27_b1 (fuel : Nat) (a0 : List UInt8) : Int × Int → Option ((Int × Int) ⊕ ((Int) ⊕ (Int))) := fun (v1_1, v5_1) =>
  if decide (v5_1 < ((a0.length : Nat) : Int)) then (
    gd (0 ≤ v5_1 ∧ v5_1 < a0.length) <|
    (a0[v5_1.toNat]?).bind fun x38 =>
    if ((x38.toNat : Int) != (IntKind.u8.wrap v1_1)) then (
      some (.inr (.inr ((-1))))
    ) else (
      gd (inK .i64 (v1_1 + 1)) <|
      gd (inK .i64 (v5_1 + 1)) <|
      some (.inl ((v1_1 + 1), (v5_1 + 1)))
    )
  ) else (
    some (.inr (.inl v1_1))
  )
def p27 (fuel : Nat) (a0 : List UInt8) (a1 : Int) : Option (Int) :=
  (loopF (p27_b1 fuel a0) fuel (a1, 0)).bind fun oo1 =>
  match oo1 with
  | .inl v1_1x => 
    p27_j2 fuel v1_1x
  | .inr q => 
    some q
set_option maxHeartbeats 4000000 in
theorem c27 {G : Nat} {E : World → Prop} (hcl : Cl G E) {fuel : Nat} {a0 : List UInt8} {a1 : Int} {r : Int} (h : p27 fuel a0 a1 = some r) : PCalls Tryd.prog G E 27 [.row false .u8 a0, .v (.int .i64 a1)] [] (.v (.int .i64 r)) [] := by
  refine PCalls.pure facts hcl.cl (fn := Tryd.f27) (by kernel_rfl) (by kernel_rfl) rfl rfl (by show 2 ≤ 22; decide) fun X hE hX hG => ?_
  unfold p27 at h
  refine XW.seq (XW.reg facts hE hG (by kernel_rfl) ?_)
  refine ROps.pr rfl rfl rfl ?_
  refine ROps.e ?_
  refine XW.join2 (fun ε => ∃ (v1_2 : Int), p27_j2 fuel v1_2 = some r ∧ ε.t 1 = .v (.int .i64 v1_2)) (fun ε hI => ?_) ?_
  · clear h
    obtain ⟨tt, ss⟩ := ε
    obtain ⟨v1_2, h, e1⟩ := hI
    refine XW.st 1 (by exact e1) <| ?_
    unfold p27_j2 at h
    refine XW.seq (XW.reg facts hE hG (by kernel_rfl) ?_)
    refine ROps.pr rfl rfl rfl ?_
    refine ROps.pr rfl rfl rfl ?_
    refine ROps.e ?_
    refine XW.ret ?_
    cases h
    refine retW.mk (by exact rfl) (by exact rfl) (by exact rfl) (by rfl) (by rfl) ?_
    exact .inl (.inl (.inl rfl))
  · refine XW.seq (XW.reg facts hE hG (by kernel_rfl) ?_)
    refine ROps.pr rfl rfl rfl ?_
    refine ROps.e ?_
    refine XW.block ?_
    obtain ⟨oo1, hl, ho1⟩ := bind_some' h
    clear h
    refine XW.roundsG (fun n => fun ε => ∃ (v1_1 : Int) (v5_1 : Int), loopF (p27_b1 fuel a0) n (v1_1, v5_1) = some oo1 ∧ ε.t 0 = .row false .u8 a0 ∧ ε.t 1 = .v (.int .i64 v1_1) ∧ ε.t 5 = .v (.int .i64 v5_1)) fuel ?_ (fun ε hI => ?_) (fun n ε hI => ?_)
    · exact GI.of ⟨_, _, hl, rfl, rfl, rfl⟩
    · obtain ⟨tt, ss⟩ := ε
      obtain ⟨v1_1, v5_1, hl, e0, e1, e5⟩ := hI
      cases hl
    · clear hl
      obtain ⟨tt, ss⟩ := ε
      obtain ⟨v1_1, v5_1, hl, e0, e1, e5⟩ := hI
      refine XW.st 0 (by exact e0) <| XW.st 1 (by exact e1) <| XW.st 5 (by exact e5) <| ?_
      obtain ⟨sv1, h, hs1⟩ := loopF_succ hl
      clear hl
      unfold p27_b1 at h
      try dsimp only at h
      refine XW.seq ?_
      refine XW.seq (XW.reg facts hE hG (by kernel_rfl) ?_)
      refine ROps.pr rfl rfl rfl ?_
      refine ROps.pr rfl rfl rfl ?_
      refine ROps.pr rfl rfl rfl ?_
      refine ROps.pr rfl rfl rfl ?_
      refine ROps.e ?_
      refine XW.cnd (decide (v5_1 < ((a0.length : Nat) : Int))) rfl (by show 9 < 22; decide) (fun hb36 => ?_) (fun hb36 => ?_)
      · replace h := ite_t hb36 h
        refine XW.skip ?_
        refine XW.seq ?_
        refine XW.block ?_
        refine XW.seq ?_
        obtain ⟨h37, h⟩ := gd_some h
        obtain ⟨x38, h39, h⟩ := bind_some' h
        refine XW.seq (XW.reg facts hE hG (by kernel_rfl) ?_)
        refine ROps.pr rfl rfl rfl ?_
        refine ROps.pr rfl rfl rfl ?_
        refine ROps.ps rfl rfl (o_ixr rfl rfl rfl rfl h37) ?_
        refine ROps.ps rfl rfl (o_lde rfl rfl h39 rfl rfl) ?_
        refine ROps.pr rfl rfl rfl ?_
        refine ROps.pr rfl rfl rfl ?_
        refine ROps.pr rfl rfl rfl ?_
        refine ROps.e ?_
        refine XW.cnd (((x38.toNat : Int) != (IntKind.u8.wrap v1_1))) rfl (by show 18 < 22; decide) (fun hb40 => ?_) (fun hb40 => ?_)
        · replace h := ite_t hb40 h
          refine XW.seq (XW.reg facts hE hG (by kernel_rfl) ?_)
          refine ROps.pr rfl rfl rfl ?_
          refine ROps.e ?_
          refine XW.ret ?_
          cases h
          replace hs1 := loopF_done hs1
          subst hs1
          replace h : some ((-1)) = some r := ho1
          cases h
          refine retW.mk (by exact rfl) (by exact rfl) (by exact rfl) (by rfl) (by rfl) ?_
          exact .inl (.inl (.inl rfl))
        · replace h := ite_f hb40 h
          refine XW.skip ?_
          obtain ⟨h41, h⟩ := gdK_some h
          refine XW.reg facts hE hG (by kernel_rfl) ?_
          refine ROps.pr rfl rfl rfl ?_
          refine ROps.ps rfl rfl (w_wr h41) ?_
          refine ROps.pr rfl rfl rfl ?_
          refine ROps.e ?_
          obtain ⟨h42, h⟩ := gdK_some h
          refine XW.reg facts hE hG (by kernel_rfl) ?_
          refine ROps.pr rfl rfl rfl ?_
          refine ROps.ps rfl rfl (w_wr h42) ?_
          refine ROps.pr rfl rfl rfl ?_
          refine ROps.e ?_
          cases h
          replace hs1 := loopF_next hs1
          exact GI.of ⟨_, _, hs1, rfl, rfl, rfl⟩
      · replace h := ite_f hb36 h
        refine XW.exit ?_
        cases h
        replace hs1 := loopF_done hs1
        subst hs1
        replace h : p27_j2 fuel v1_1 = some r := ho1
        exact GI.of ⟨_, h, rfl⟩
def p14 (fuel : Nat) (a0 : IOp) (a1 : Int) : Option (Int) :=
  (p27 fuel a0.Data a1).bind fun r1 =>
  if decide (r1 < 0) then (
    some ((-1))
  ) else (
    some (r1)
  )
set_option maxHeartbeats 4000000 in
theorem c14 {G : Nat} {E : World → Prop} (hcl : Cl G E) {fuel : Nat} {a0 : IOp} {a1 : Int} {r : Int} (h : p14 fuel a0 a1 = some r) : PCalls Tryd.prog G E 14 [.agg [.v (.int .i64 a0.Kind), .v (.int .i64 a0.A), .v (.int .i64 a0.B), .v (.int .i64 a0.C), .v (.string a0.Name), .v (.string a0.Text), .v (.string a0.Dir), .row false .u8 a0.Data], .v (.int .i64 a1)] [] (.v (.int .i64 r)) [] := by
  refine PCalls.pure facts hcl.cl (fn := Tryd.f14) (by kernel_rfl) (by kernel_rfl) rfl rfl (by show 2 ≤ 12; decide) fun X hE hX hG => ?_
  unfold p14 at h
  refine XW.seq (XW.reg facts hE hG (by kernel_rfl) ?_)
  refine ROps.ps rfl rfl (o_box rfl rfl) ?_
  refine ROps.pr rfl rfl rfl ?_
  refine ROps.e ?_
  obtain ⟨r1, h2, h⟩ := bind_some' h
  refine XW.seq (XW.reg facts hE hG (by kernel_rfl) ?_)
  refine ROps.ps rfl rfl (w_live rfl rfl) ?_
  refine ROps.ps rfl rfl (w_live rfl rfl) ?_
  refine ROps.pr rfl rfl rfl ?_
  refine ROps.ps rfl rfl (o_call rfl rfl rfl (pkA_r rfl) (c27 hcl h2) rfl rfl rfl) ?_
  refine ROps.pr rfl rfl rfl ?_
  refine ROps.e ?_
  refine XW.seq ?_
  refine XW.seq (XW.reg facts hE hG (by kernel_rfl) ?_)
  refine ROps.pr rfl rfl rfl ?_
  refine ROps.pr rfl rfl rfl ?_
  refine ROps.e ?_
  refine XW.cnd (decide (r1 < 0)) rfl (by show 10 < 12; decide) (fun hb3 => ?_) (fun hb3 => ?_)
  · replace h := ite_t hb3 h
    refine XW.seq (XW.reg facts hE hG (by kernel_rfl) ?_)
    refine ROps.pr rfl rfl rfl ?_
    refine ROps.e ?_
    refine XW.ret ?_
    cases h
    refine retW.mk (by exact rfl) (by exact rfl) (by exact rfl) (by rfl) (by rfl) ?_
    exact .inl (.inl (.inl rfl))
  · replace h := ite_f hb3 h
    refine XW.skip ?_
    refine XW.seq (XW.reg facts hE hG (by kernel_rfl) ?_)
    refine ROps.pr rfl rfl rfl ?_
    refine ROps.pr rfl rfl rfl ?_
    refine ROps.e ?_
    refine XW.ret ?_
    cases h
    refine retW.mk (by exact rfl) (by exact rfl) (by exact rfl) (by rfl) (by rfl) ?_
    exact .inl (.inl (.inl rfl))
def p4 (fuel : Nat) (a0 : ByteArray) : Option (Bool) :=
  if decide (1048576 < (a0.size : Int)) then (
    some (true)
  ) else (
    (p10 fuel a0).bind fun r2 =>
    (p11 fuel a0).bind fun r4 =>
    Option.bind (α := Bool) (
      (p12 fuel (⟨r4.1.Kind, r4.1.A, r4.1.B, r4.1.C, r4.1.Name, r4.1.Text, r4.1.Dir, []⟩) (⟨r2.1.Kind, r2.1.A, r2.1.B, r2.1.C, r2.1.Name, r2.1.Text, r2.1.Dir, []⟩)).bind fun r6 =>
      if (!r6) then (
        some (true)
      ) else (
        some ((!(r4.2 == r2.2)))
      )
    ) fun v32_1 =>
    if v32_1 then (
      some (false)
    ) else (
      (p13 fuel (⟨r4.1.Kind, r4.1.A, r4.1.B, r4.1.C, r4.1.Name, r4.1.Text, r4.1.Dir, []⟩) 1).bind fun r10 =>
      (p14 fuel (⟨r4.1.Kind, r4.1.A, r4.1.B, r4.1.C, r4.1.Name, r4.1.Text, r4.1.Dir, []⟩) 1).bind fun r12 =>
      if decide (r12 < 0) then (
        some (false)
      ) else (
        if (r12 != r10) then (
          some (false)
        ) else (
          (p11 fuel a0).bind fun r16 =>
          Option.bind (α := Bool) (
            (p12 fuel (⟨r16.1.Kind, r16.1.A, r16.1.B, r16.1.C, r16.1.Name, r16.1.Text, r16.1.Dir, []⟩) (⟨r2.1.Kind, r2.1.A, r2.1.B, r2.1.C, r2.1.Name, r2.1.Text, r2.1.Dir, []⟩)).bind fun r18 =>
            if (!r18) then (
              some (true)
            ) else (
              some ((!(r16.2 == r2.2)))
            )
          ) fun v57_2 =>
          if v57_2 then (
            some (false)
          ) else (
            (p14 fuel (⟨r4.1.Kind, r4.1.A, r4.1.B, r4.1.C, r4.1.Name, r4.1.Text, r4.1.Dir, []⟩) 1).bind fun r22 =>
            if decide (r22 < 0) then (
              some (false)
            ) else (
              if (r22 != r10) then (
                some (false)
              ) else (
                some (true)
              )
            )
          )
        )
      )
    )
  )
set_option maxHeartbeats 4000000 in
theorem c4 {G : Nat} {E : World → Prop} (hcl : Cl G E) {fuel : Nat} {a0 : ByteArray} {r : Bool} (h : p4 fuel a0 = some r) : PCalls Tryd.prog G E 4 [.v (.string a0)] [] (.v (.bool r)) [] := by
  refine PCalls.pure facts hcl.cl (fn := Tryd.f4) (by kernel_rfl) (by kernel_rfl) rfl rfl (by show 1 ≤ 66; decide) fun X hE hX hG => ?_
  unfold p4 at h
  refine XW.seq (XW.reg facts hE hG (by kernel_rfl) ?_)
  refine ROps.pr rfl rfl rfl ?_
  refine ROps.e ?_
  refine XW.seq ?_
  refine XW.seq (XW.reg facts hE hG (by kernel_rfl) ?_)
  refine ROps.pr rfl rfl rfl ?_
  refine ROps.pr rfl rfl rfl ?_
  refine ROps.pr rfl rfl rfl ?_
  refine ROps.e ?_
  refine XW.cnd (decide (1048576 < (a0.size : Int))) rfl (by show 13 < 66; decide) (fun hb1 => ?_) (fun hb1 => ?_)
  · replace h := ite_t hb1 h
    refine XW.seq (XW.reg facts hE hG (by kernel_rfl) ?_)
    refine ROps.pr rfl rfl rfl ?_
    refine ROps.e ?_
    refine XW.ret ?_
    cases h
    refine retW.mk (by exact rfl) (by exact rfl) (by exact rfl) (by rfl) (by rfl) ?_
    exact .inl (.inl (.inl rfl))
  · replace h := ite_f hb1 h
    refine XW.skip ?_
    obtain ⟨r2, h3, h⟩ := bind_some' h
    refine XW.seq (XW.reg facts hE hG (by kernel_rfl) ?_)
    refine ROps.pr rfl rfl rfl ?_
    refine ROps.ps rfl rfl (o_call rfl rfl rfl (pkA_r rfl) (c10 hcl h3) rfl rfl rfl) ?_
    refine ROps.pr rfl rfl rfl ?_
    refine ROps.pr rfl rfl rfl ?_
    refine ROps.pr rfl rfl rfl ?_
    refine ROps.ps rfl rfl (o_alloc rfl rfl) ?_
    refine ROps.pn rfl rfl (o_stb rfl rfl rfl ⟨rfl, rfl⟩ rfl (Nat.le_of_ble_eq_true rfl)) ?_
    refine ROps.pr rfl rfl rfl ?_
    refine ROps.e ?_
    obtain ⟨r4, h5, h⟩ := bind_some' h
    refine XW.seq (XW.reg facts hE hG (by kernel_rfl) ?_)
    refine ROps.pr rfl rfl rfl ?_
    refine ROps.ps rfl rfl (o_call rfl rfl rfl (pkA_r rfl) (c11 hcl h5) rfl rfl rfl) ?_
    refine ROps.pr rfl rfl rfl ?_
    refine ROps.pr rfl rfl rfl ?_
    refine ROps.pr rfl rfl rfl ?_
    refine ROps.ps rfl rfl (o_alloc rfl rfl) ?_
    refine ROps.pn rfl rfl (o_stb rfl rfl rfl ⟨rfl, rfl⟩ rfl (Nat.le_of_ble_eq_true rfl)) ?_
    refine ROps.pr rfl rfl rfl ?_
    refine ROps.e ?_
    refine XW.seq ?_
    obtain ⟨v32_1, hg, h⟩ := bind_some' h
    refine XW.join2 (fun ε => ∃ (w400 : Nat) (w600 : Nat), ε.t 0 = .v (.string a0) ∧ ε.t 3 = .ptr 400 w400 0 0 ∧ ε.t 4 = .v (.bool r2.2) ∧ ε.t 5 = .ptr 600 w600 0 0 ∧ ε.t 32 = .v (.bool v32_1) ∧ ε.s 400 = ⟨w400, some (.box [.v (.int .i64 r2.1.Kind), .v (.int .i64 r2.1.A), .v (.int .i64 r2.1.B), .v (.int .i64 r2.1.C), .v (.string r2.1.Name), .v (.string r2.1.Text), .v (.string r2.1.Dir), .nil])⟩ ∧ ε.s 600 = ⟨w600, some (.box [.v (.int .i64 r4.1.Kind), .v (.int .i64 r4.1.A), .v (.int .i64 r4.1.B), .v (.int .i64 r4.1.C), .v (.string r4.1.Name), .v (.string r4.1.Text), .v (.string r4.1.Dir), .nil])⟩) (fun ε hI => ?_) ?_
    · obtain ⟨tt, ss⟩ := ε
      obtain ⟨w400, w600, e0, e3, e4, e5, e32, f400, f600⟩ := hI
      refine XW.st 0 (by exact e0) <| XW.st 3 (by exact e3) <| XW.st 4 (by exact e4) <| XW.st 5 (by exact e5) <| XW.st 32 (by exact e32) <| XW.ss 400 (by exact f400) <| XW.ss 600 (by exact f600) <| ?_
      refine XW.cnd (v32_1) rfl (by show 32 < 66; decide) (fun hb9 => ?_) (fun hb9 => ?_)
      · replace h := ite_t hb9 h
        refine XW.seq (XW.reg facts hE hG (by kernel_rfl) ?_)
        refine ROps.pr rfl rfl rfl ?_
        refine ROps.e ?_
        refine XW.ret ?_
        cases h
        refine retW.mk (by exact rfl) (by exact rfl) (by exact rfl) (by rfl) (by rfl) ?_
        exact .inl (.inl (.inl rfl))
      · replace h := ite_f hb9 h
        refine XW.skip ?_
        refine XW.seq (XW.reg facts hE hG (by kernel_rfl) ?_)
        refine ROps.pr rfl rfl rfl ?_
        refine ROps.e ?_
        obtain ⟨r10, h11, h⟩ := bind_some' h
        refine XW.seq (XW.reg facts hE hG (by kernel_rfl) ?_)
        refine ROps.ps rfl rfl (w_live rfl rfl) ?_
        refine ROps.pr rfl rfl rfl ?_
        refine ROps.ps rfl rfl (o_call rfl rfl rfl (pkA_r rfl) (c13 hcl h11) rfl rfl rfl) ?_
        refine ROps.pr rfl rfl rfl ?_
        refine ROps.e ?_
        refine XW.seq (XW.reg facts hE hG (by kernel_rfl) ?_)
        refine ROps.pr rfl rfl rfl ?_
        refine ROps.e ?_
        obtain ⟨r12, h13, h⟩ := bind_some' h
        refine XW.seq (XW.reg facts hE hG (by kernel_rfl) ?_)
        refine ROps.ps rfl rfl (w_live rfl rfl) ?_
        refine ROps.pr rfl rfl rfl ?_
        refine ROps.ps rfl rfl (o_call rfl rfl rfl (pkA_r rfl) (c14 hcl h13) rfl rfl rfl) ?_
        refine ROps.pr rfl rfl rfl ?_
        refine ROps.e ?_
        refine XW.seq ?_
        refine XW.seq (XW.reg facts hE hG (by kernel_rfl) ?_)
        refine ROps.pr rfl rfl rfl ?_
        refine ROps.pr rfl rfl rfl ?_
        refine ROps.e ?_
        refine XW.cnd (decide (r12 < 0)) rfl (by show 40 < 66; decide) (fun hb14 => ?_) (fun hb14 => ?_)
        · replace h := ite_t hb14 h
          refine XW.seq (XW.reg facts hE hG (by kernel_rfl) ?_)
          refine ROps.pr rfl rfl rfl ?_
          refine ROps.e ?_
          refine XW.ret ?_
          cases h
          refine retW.mk (by exact rfl) (by exact rfl) (by exact rfl) (by rfl) (by rfl) ?_
          exact .inl (.inl (.inl rfl))
        · replace h := ite_f hb14 h
          refine XW.skip ?_
          refine XW.seq ?_
          refine XW.seq (XW.reg facts hE hG (by kernel_rfl) ?_)
          refine ROps.pr rfl rfl rfl ?_
          refine ROps.pr rfl rfl rfl ?_
          refine ROps.pr rfl rfl rfl ?_
          refine ROps.e ?_
          refine XW.cnd ((r12 != r10)) rfl (by show 43 < 66; decide) (fun hb15 => ?_) (fun hb15 => ?_)
          · replace h := ite_t hb15 h
            refine XW.seq (XW.reg facts hE hG (by kernel_rfl) ?_)
            refine ROps.pr rfl rfl rfl ?_
            refine ROps.e ?_
            refine XW.ret ?_
            cases h
            refine retW.mk (by exact rfl) (by exact rfl) (by exact rfl) (by rfl) (by rfl) ?_
            exact .inl (.inl (.inl rfl))
          · replace h := ite_f hb15 h
            refine XW.skip ?_
            obtain ⟨r16, h17, h⟩ := bind_some' h
            refine XW.seq (XW.reg facts hE hG (by kernel_rfl) ?_)
            refine ROps.pr rfl rfl rfl ?_
            refine ROps.ps rfl rfl (o_call rfl rfl rfl (pkA_r rfl) (c11 hcl h17) rfl rfl rfl) ?_
            refine ROps.pr rfl rfl rfl ?_
            refine ROps.pr rfl rfl rfl ?_
            refine ROps.pr rfl rfl rfl ?_
            refine ROps.ps rfl rfl (o_alloc rfl rfl) ?_
            refine ROps.pn rfl rfl (o_stb rfl rfl rfl ⟨rfl, rfl⟩ rfl (Nat.le_of_ble_eq_true rfl)) ?_
            refine ROps.pr rfl rfl rfl ?_
            refine ROps.e ?_
            refine XW.seq ?_
            obtain ⟨v57_2, hg, h⟩ := bind_some' h
            refine XW.join2 (fun ε => ∃ (w600 : Nat), ε.t 5 = .ptr 600 w600 0 0 ∧ ε.t 7 = .v (.int .i64 r10) ∧ ε.t 57 = .v (.bool v57_2) ∧ ε.s 600 = ⟨w600, some (.box [.v (.int .i64 r4.1.Kind), .v (.int .i64 r4.1.A), .v (.int .i64 r4.1.B), .v (.int .i64 r4.1.C), .v (.string r4.1.Name), .v (.string r4.1.Text), .v (.string r4.1.Dir), .nil])⟩) (fun ε hI => ?_) ?_
            · obtain ⟨tt, ss⟩ := ε
              obtain ⟨w600, e5, e7, e57, f600⟩ := hI
              refine XW.st 5 (by exact e5) <| XW.st 7 (by exact e7) <| XW.st 57 (by exact e57) <| XW.ss 600 (by exact f600) <| ?_
              refine XW.cnd (v57_2) rfl (by show 57 < 66; decide) (fun hb21 => ?_) (fun hb21 => ?_)
              · replace h := ite_t hb21 h
                refine XW.seq (XW.reg facts hE hG (by kernel_rfl) ?_)
                refine ROps.pr rfl rfl rfl ?_
                refine ROps.e ?_
                refine XW.ret ?_
                cases h
                refine retW.mk (by exact rfl) (by exact rfl) (by exact rfl) (by rfl) (by rfl) ?_
                exact .inl (.inl (.inl rfl))
              · replace h := ite_f hb21 h
                refine XW.skip ?_
                refine XW.seq (XW.reg facts hE hG (by kernel_rfl) ?_)
                refine ROps.pr rfl rfl rfl ?_
                refine ROps.e ?_
                obtain ⟨r22, h23, h⟩ := bind_some' h
                refine XW.seq (XW.reg facts hE hG (by kernel_rfl) ?_)
                refine ROps.ps rfl rfl (w_live rfl rfl) ?_
                refine ROps.pr rfl rfl rfl ?_
                refine ROps.ps rfl rfl (o_call rfl rfl rfl (pkA_r rfl) (c14 hcl h23) rfl rfl rfl) ?_
                refine ROps.pr rfl rfl rfl ?_
                refine ROps.e ?_
                refine XW.seq ?_
                refine XW.seq (XW.reg facts hE hG (by kernel_rfl) ?_)
                refine ROps.pr rfl rfl rfl ?_
                refine ROps.pr rfl rfl rfl ?_
                refine ROps.e ?_
                refine XW.cnd (decide (r22 < 0)) rfl (by show 62 < 66; decide) (fun hb24 => ?_) (fun hb24 => ?_)
                · replace h := ite_t hb24 h
                  refine XW.seq (XW.reg facts hE hG (by kernel_rfl) ?_)
                  refine ROps.pr rfl rfl rfl ?_
                  refine ROps.e ?_
                  refine XW.ret ?_
                  cases h
                  refine retW.mk (by exact rfl) (by exact rfl) (by exact rfl) (by rfl) (by rfl) ?_
                  exact .inl (.inl (.inl rfl))
                · replace h := ite_f hb24 h
                  refine XW.skip ?_
                  refine XW.seq ?_
                  refine XW.seq (XW.reg facts hE hG (by kernel_rfl) ?_)
                  refine ROps.pr rfl rfl rfl ?_
                  refine ROps.pr rfl rfl rfl ?_
                  refine ROps.pr rfl rfl rfl ?_
                  refine ROps.e ?_
                  refine XW.cnd ((r22 != r10)) rfl (by show 65 < 66; decide) (fun hb25 => ?_) (fun hb25 => ?_)
                  · replace h := ite_t hb25 h
                    refine XW.seq (XW.reg facts hE hG (by kernel_rfl) ?_)
                    refine ROps.pr rfl rfl rfl ?_
                    refine ROps.e ?_
                    refine XW.ret ?_
                    cases h
                    refine retW.mk (by exact rfl) (by exact rfl) (by exact rfl) (by rfl) (by rfl) ?_
                    exact .inl (.inl (.inl rfl))
                  · replace h := ite_f hb25 h
                    refine XW.skip ?_
                    refine XW.seq (XW.reg facts hE hG (by kernel_rfl) ?_)
                    refine ROps.pr rfl rfl rfl ?_
                    refine ROps.e ?_
                    refine XW.ret ?_
                    cases h
                    refine retW.mk (by exact rfl) (by exact rfl) (by exact rfl) (by rfl) (by rfl) ?_
                    exact .inl (.inl (.inl rfl))
            · obtain ⟨r18, h19, hg⟩ := bind_some' hg
              rcases Bool.eq_false_or_eq_true ((!r18)) with hb20 | hb20
              · replace hg := ite_t hb20 hg
                cases hg
                refine XW.reg facts hE hG (by kernel_rfl) ?_
                refine ROps.ps rfl rfl (w_live rfl rfl) ?_
                refine ROps.ps rfl rfl (w_live rfl rfl) ?_
                refine ROps.ps rfl rfl (o_call rfl rfl rfl (pkA_r rfl) (c12 hcl h19) rfl rfl rfl) ?_
                refine ROps.pr rfl rfl rfl ?_
                refine ROps.pr rfl rfl rfl ?_
                refine ROps.pk rfl (wtf rfl rfl rfl hb20) ?_
                refine ROps.pk rfl (wtf rfl rfl rfl hb20) ?_
                refine ROps.pk rfl (wtf rfl rfl rfl hb20) ?_
                refine ROps.ps rfl rfl (o_pt rfl rfl hb20) ?_
                refine ROps.e ?_
                exact GI.of ⟨_, rfl, rfl, rfl, rfl⟩
              · replace hg := ite_f hb20 hg
                cases hg
                refine XW.reg facts hE hG (by kernel_rfl) ?_
                refine ROps.ps rfl rfl (w_live rfl rfl) ?_
                refine ROps.ps rfl rfl (w_live rfl rfl) ?_
                refine ROps.ps rfl rfl (o_call rfl rfl rfl (pkA_r rfl) (c12 hcl h19) rfl rfl rfl) ?_
                refine ROps.pr rfl rfl rfl ?_
                refine ROps.pr rfl rfl rfl ?_
                refine ROps.pr rfl (wff rfl rfl rfl hb20) rfl ?_
                refine ROps.pr rfl (wff rfl rfl rfl hb20) rfl ?_
                refine ROps.pr rfl (wff rfl rfl rfl hb20) rfl ?_
                refine ROps.ps rfl rfl (o_pf rfl rfl hb20) ?_
                refine ROps.e ?_
                exact GI.of ⟨_, rfl, rfl, rfl, rfl⟩
    · obtain ⟨r6, h7, hg⟩ := bind_some' hg
      rcases Bool.eq_false_or_eq_true ((!r6)) with hb8 | hb8
      · replace hg := ite_t hb8 hg
        cases hg
        refine XW.reg facts hE hG (by kernel_rfl) ?_
        refine ROps.ps rfl rfl (w_live rfl rfl) ?_
        refine ROps.ps rfl rfl (w_live rfl rfl) ?_
        refine ROps.ps rfl rfl (o_call rfl rfl rfl (pkA_r rfl) (c12 hcl h7) rfl rfl rfl) ?_
        refine ROps.pr rfl rfl rfl ?_
        refine ROps.pr rfl rfl rfl ?_
        refine ROps.pk rfl (wtf rfl rfl rfl hb8) ?_
        refine ROps.pk rfl (wtf rfl rfl rfl hb8) ?_
        refine ROps.pk rfl (wtf rfl rfl rfl hb8) ?_
        refine ROps.ps rfl rfl (o_pt rfl rfl hb8) ?_
        refine ROps.e ?_
        exact GI.of ⟨_, _, rfl, rfl, rfl, rfl, rfl, rfl, rfl⟩
      · replace hg := ite_f hb8 hg
        cases hg
        refine XW.reg facts hE hG (by kernel_rfl) ?_
        refine ROps.ps rfl rfl (w_live rfl rfl) ?_
        refine ROps.ps rfl rfl (w_live rfl rfl) ?_
        refine ROps.ps rfl rfl (o_call rfl rfl rfl (pkA_r rfl) (c12 hcl h7) rfl rfl rfl) ?_
        refine ROps.pr rfl rfl rfl ?_
        refine ROps.pr rfl rfl rfl ?_
        refine ROps.pr rfl (wff rfl rfl rfl hb8) rfl ?_
        refine ROps.pr rfl (wff rfl rfl rfl hb8) rfl ?_
        refine ROps.pr rfl (wff rfl rfl rfl hb8) rfl ?_
        refine ROps.ps rfl rfl (o_pf rfl rfl hb8) ?_
        refine ROps.e ?_
        exact GI.of ⟨_, _, rfl, rfl, rfl, rfl, rfl, rfl, rfl⟩
end Go.Px
