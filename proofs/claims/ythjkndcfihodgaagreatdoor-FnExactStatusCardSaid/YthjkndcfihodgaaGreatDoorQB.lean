/- What a call may hold, as plain values and a store: a small machine over them, the functions of this program as its contracts, and the plain laws: texts Px18 to PxH. -/
import Derived.Test.YthjkndcfihodgaaGreatDoorQA
import Derived.Maps.AppendAt
set_option linter.unusedSimpArgs false
set_option linter.unusedVariables false
set_option linter.constructorNameAsVariable false
namespace Go.Px
open Go.RowKit
def eFieldAddr (t : TypeId) (i : Nat) (p : PV) : Eff PV := match fldT t i with
  | some (off, _, _) => match p with
    | .ptr id ver a j => live id ver fun
      | .box _ => .ret (.ptr id ver a (j + off))
      | .rowb _ _ => .ret (.ptr id ver a (j + off))
      | .rowd _ _ => .ret (.ptr id ver a (j + off))
      | .rowx _ _ _ _ => .ret (.ptr id ver a (j + off))
      | .objb _ => .fail
      | .iterb _ _ _ _ _ => .fail
    | .eptr k l a j => .ret (.eptr k l a (j + off))
    | _ => .fail
  | none => .fail
def eField (t : TypeId) (i : Nat) (p : PV) : Eff PV := match fldT t i with
  | some (off, ag, n) => match p with
    | .agg cs => rangeV ag cs off n
    | _ => .fail
  | none => .fail
def eIndexAddr (t : TypeId) (x i : PV) : Eff PV := match i with
  | .v (.int _ n) => match x with
    | .row false k l => if slK t = some k then gdE (0 ≤ n ∧ n < l.length) (.ret (.eptr k l n.toNat 0)) else .fail
    | .ref id ver off m _ => live id ver fun
      | .rowb k _ => if slK t = some k then gdE (0 ≤ n ∧ n < m) (.ret (.ptr id ver (off + n.toNat) 0)) else .fail
      | .rowd k _ => if slK t = some k then gdE (0 ≤ n ∧ n < m) (.ret (.ptr id ver (off + n.toNat) 0)) else .fail
      | .rowx k _ _ _ => if slK t = some k then gdE (0 ≤ n ∧ n < m) (.ret (.ptr id ver (off + n.toNat) 0)) else .fail
      | .box _ => .fail
      | .objb _ => .fail
      | .iterb _ _ _ _ _ => .fail
    | _ => .fail
  | _ => .fail
def eIndex (t : TypeId) (x i : PV) : Eff PV := match x, i with
  | .v (.string s), .v (.int _ n) => if isStrT t then gdE (0 ≤ n) (.opt s[n.toNat]? fun b => .ret (.v (.int .u8 b.toNat))) else .fail
  | _, _ => .fail
def eExtract (x : PV) (i : Nat) : Eff PV := match x with
  | .tup vs => match vs[i]? with
    | some v => .ret v
    | none => .fail
  | _ => .fail
def widens : IntKind → IntKind → Bool
  | .u8, .i64 => true | .u8, .u64 => true | .u8, .u32 => true | .u8, .i32 => true | .u32, .i64 => true | .u32, .u64 => true | .i32, .i64 => true | .i64, .i64 => true | .u8, .u8 => true | .u32, .u32 => true | .u64, .u64 => true
  | _, _ => false
def eConvI (src dst : TypeId) (x : PV) : Eff PV := match cvT src dst, x with
  | some (.int k), .v (.int k0 n) => match widens k0 k with
    | true => .ret (.v (.int k n))
    | false => retI k n
  | _, _ => .fail
def eUn (op : UnOp) (x : PV) : Eff PV := match op, x with
  | .not, .v (.bool b) => .ret (.v (.bool (!b)))
  | .neg, .v (.int k n) => retI k (0 - n)
  | .xor, .v (.int k n) => intOp .xor k (if k.signed then -1 else k.max) n
  | _, _ => .fail
theorem widens_wrap {k0 k : IntKind} {n : Int} (h : widens k0 k = true) (hw : wfV (.int k0 n)) : k.wrap n = n := by
  have h1 := (wrap_iff k0 n).1 hw
  refine (wrap_iff k n).2 ?_
  cases k0 <;> cases k <;> simp [widens] at h <;> simp [loK, hiK] at h1 ⊢ <;> omega
section
variable {P : Program} {PC : Con} {X : Ctx} {nt : Nat} {Q : Exit → Act → World → Prop} {ε : Env} {a : Act} {w : World} {o : Oper} {v : PV} {s' : Sto} {r wr : List Nat}
theorem add_add (b o i : Nat) : ((⟨b, o, none⟩ : Addr).add i) = ⟨b, o + i, none⟩ := addr_add b o i
theorem run_fieldAt (hF : Facts P) {t : TypeId} {i off n : Nat} {ag : Bool} (ht : fldT t i = some (off, ag, n)) (p : Addr) : (Instr.fieldAt t (.pointer (some p)) i).run P w = .ok (.pointer (some (p.add off))) w := by
  obtain ⟨hn, fs, f, h1, h2, h3, _, h4, _⟩ := hF.fld t i off ag n ht
  cases hq : P.info? f.type with
  | none => simp [hq] at h4
  | some inf =>
    have hs : inf.size = n := by simpa [hq] using h4
    simp [Instr.fieldAt, run_underlying h1, h2, Instr.sureAddr, fieldPlace, sizeOf, typeInfo, hq, hs, hn, h3]
theorem eFieldAddr_sound (hF : Facts P) {t : TypeId} {x : Operand} {i : Nat} (ho : o.op = .fieldAddr t x i) (hx : opndB nt x = true) (hg : Good X nt ε a w) (h : (eFieldAddr t i (opd ε.t x)).Run PC ε.s v s' r wr) :
    o.wp P a w (fun a' w' => Good X nt ⟨putE o.dst v ε.t, s'⟩ a' w') Q := by
  obtain ⟨hs, hd, β, N, hst⟩ := id hg
  have hv := hst.opd hs hx
  unfold eFieldAddr at h
  split at h
  case h_2 => exact h.elim
  rename_i off ag n ht
  have fin : ∀ p, a.eval x = .pointer (some p) → s' = ε.s → ValC (Fz X w N ε.s) w β ε.s v (.pointer (some (p.add off))) → o.wp P a w (fun a' w' => Good X nt ⟨putE o.dst v ε.t, s'⟩ a' w') Q := by
    rintro p he rfl hvv
    refine sound_val hs hd hst ?_ hvv
    unfold execOp
    simp only [ho, he, Sem.run_bind, run_fieldAt hF ht, Result.andThen_ok]
    rfl
  split at h
  case h_3 => exact h.elim
  case h_1 =>
    rename_i id ver i0 j he
    rw [he] at hv
    obtain ⟨k1, _, k3⟩ := hv
    obtain ⟨blk, r', hb, rfl, h⟩ := live_run h
    obtain ⟨b, o2, h1, h2⟩ := k3 blk hb
    cases blk with
    | box cs =>
      obtain ⟨rfl, rfl, -, -⟩ : v = _ ∧ s' = _ ∧ r' = [] ∧ wr = [] := h
      refine fin _ h2 rfl ⟨k1, .inl ⟨_, rfl⟩, fun blk2 hb2 => ⟨b, o2, h1, ?_⟩⟩
      rw [hb] at hb2; cases hb2
      simp only
      rw [add_add, Nat.add_assoc]
    | rowb k l =>
      obtain ⟨rfl, rfl, -, -⟩ : v = _ ∧ s' = _ ∧ r' = [] ∧ wr = [] := h
      obtain ⟨h3, h4, h5⟩ := h2
      refine fin _ h5 rfl ⟨k1, .inl ⟨_, rfl⟩, fun blk2 hb2 => ⟨b, o2, h1, ?_⟩⟩
      rw [hb] at hb2; cases hb2
      exact ⟨h3, h4, by rw [add_add, Nat.add_assoc]⟩
    | rowd k l =>
      obtain ⟨rfl, rfl, -, -⟩ : v = _ ∧ s' = _ ∧ r' = [] ∧ wr = [] := h
      obtain ⟨h3, h4, h5⟩ := h2
      refine fin _ h5 rfl ⟨k1, .inl ⟨_, rfl⟩, fun blk2 hb2 => ⟨b, o2, h1, ?_⟩⟩
      rw [hb] at hb2; cases hb2
      exact ⟨h3, h4, by rw [add_add, Nat.add_assoc]⟩
    | rowx k l i1 cs =>
      obtain ⟨rfl, rfl, -, -⟩ : v = _ ∧ s' = _ ∧ r' = [] ∧ wr = [] := h
      obtain ⟨h3, h4, h5⟩ := h2
      refine fin _ h5 rfl ⟨k1, .inl ⟨_, rfl⟩, fun blk2 hb2 => ⟨b, o2, h1, ?_⟩⟩
      rw [hb] at hb2; cases hb2
      exact ⟨h3, h4, by rw [add_add, Nat.add_assoc]⟩
    | objb o => exact h.elim
    | iterb => exact h.elim
  case h_2 =>
    rename_i k l i0 j he
    rw [he] at hv
    obtain ⟨b, o2, h1, h2, h3⟩ := hv
    obtain ⟨rfl, rfl, -, -⟩ : v = _ ∧ s' = _ ∧ r = [] ∧ wr = [] := h
    refine fin _ h2 rfl ⟨b, o2, h1, ?_, h3⟩
    rw [add_add, Nat.add_assoc]
theorem eIndexAddr_sound (hF : Facts P) {t : TypeId} {x y : Operand} (ho : o.op = .indexAddr t x y) (hx : opndB nt x = true) (hy : opndB nt y = true) (hg : Good X nt ε a w) (h : (eIndexAddr t (opd ε.t x) (opd ε.t y)).Run PC ε.s v s' r wr) :
    o.wp P a w (fun a' w' => Good X nt ⟨putE o.dst v ε.t, s'⟩ a' w') Q := by
  obtain ⟨hs, hd, β, N, hst⟩ := id hg
  have hv := hst.opd hs hx
  have hvy := hst.opd hs hy
  unfold eIndexAddr at h
  split at h
  case h_2 => exact h.elim
  rename_i ik n hey
  rw [hey] at hvy
  have hey2 : a.eval y = .int ik n := hvy.1
  have run : ∀ (k : K) (p : Addr) (len cap : Nat), slK t = some k → 0 ≤ n → n < len → a.eval x = .slice (some p) len cap → (execOp a.eval o).run P w = .ok (.value (.pointer (some (p.add (n.toNat * size k))))) w := by
    intro k p len cap hk h0 h1 he
    obtain ⟨i, z, q1, q2, q3, q4, q5, -⟩ := hF.el k
    unfold execOp
    simp [ho, he, hey2, Instr.indexAt, asIntOf, run_underlying (hF.sl t k hk), h0, h1, sizeOf, typeInfo, q1, q3]
  split at h
  case h_3 => exact h.elim
  case h_1 =>
    rename_i k l he
    rw [he] at hv
    split at h
    case isFalse => exact h.elim
    rename_i hk
    obtain ⟨⟨h0, h1⟩, rfl, rfl, -, -⟩ : (0 ≤ n ∧ n < l.length) ∧ v = _ ∧ s' = _ ∧ r = [] ∧ wr = [] := h
    obtain ⟨_, hrow⟩ := hv
    obtain ⟨pa, cap, e1, e2, e3, e4⟩ := id hrow
    have hne : l ≠ [] := by intro e; rw [e] at h1; simp at h1; omega
    obtain ⟨b, off, rfl, hb, h5⟩ := e4 hne
    refine sound_val hs hd hst (run k ⟨b, off, none⟩ _ _ hk h0 h1 e1) ⟨b, off, by omega, by rw [add_add, Nat.add_zero], ?_⟩
    exact ⟨_, _, rfl, Nat.le_refl _, e3, fun _ => ⟨b, off, rfl, hb, h5⟩⟩
  case h_2 =>
    rename_i id ver off m full he
    rw [he] at hv
    obtain ⟨_, _, k3⟩ := hv
    obtain ⟨blk, r', hb, rfl, h⟩ := live_run h
    have fin : ∀ (k : K) (l : List (ty k)), IsRow blk k l → (if slK t = some k then gdE (0 ≤ n ∧ n < m) (.ret (.ptr id ver (off + n.toNat) 0)) else .fail : Eff PV).Run PC ε.s v s' r' wr → o.wp P a w (fun a' w' => Good X nt ⟨putE o.dst v ε.t, s'⟩ a' w') Q := by
      intro k l hrw h
      split at h
      case isFalse => exact h.elim
      rename_i hk
      obtain ⟨⟨h0, h1⟩, rfl, rfl, -, -⟩ : (0 ≤ n ∧ n < m) ∧ v = _ ∧ s' = _ ∧ r' = [] ∧ wr = [] := h
      obtain ⟨e1, e2⟩ := k3 _ k l hb hrw
      rcases e2 with ⟨_, e2⟩ | ⟨b, c, o2, e2, e3, e4, e5, e6⟩
      · exfalso
        have : l = [] := by
          rcases row_head hrw (hst.blk id _ (by rw [hb])) with ⟨_, e, _⟩ | ⟨b, cap, cur, q, _⟩; exact e; simp_all
        rw [this] at e1; simp at e1; omega
      · have ho2 := e5 (.inl (by omega))
        subst ho2
        refine sound_val hs hd hst (run k ⟨b, off * size k, none⟩ m c hk h0 h1 e4) ⟨by rw [hb]; exact Nat.le_refl _, .inl ⟨_, rfl⟩, fun blk' hb2 => ?_⟩
        rw [hb] at hb2
        cases hb2
        refine ⟨b, 0, e2, ?_⟩
        cases hrw
        all_goals exact ⟨rfl, by omega, by rw [add_add, Nat.add_zero, Nat.add_mul]⟩
    cases blk with
    | box cs => exact h.elim
    | objb o => exact h.elim
    | iterb => exact h.elim
    | rowb k l => exact fin k l .b h
    | rowd k l => exact fin k l .d h
    | rowx k l i cs => exact fin k l .x h
end
end Go.Px
namespace Go.Px
open Go.RowKit
def pickP (b : Bool) (x y : PV) : PV := match x, y with
  | .v (.int k p), .v (.int k' q) => if k = k' then .v (.int k (if b then p else q)) else (if b then x else y)
  | .v (.bool p), .v (.bool q) => .v (.bool (if b then p else q))
  | .v (.string p), .v (.string q) => .v (.string (if b then p else q))
  | _, _ => if b then x else y
theorem pickP_eq (b : Bool) (x y : PV) : pickP b x y = if b then x else y := by
  unfold pickP
  split
  · split
    · rename_i e; subst e; cases b <;> rfl
    · rfl
  all_goals (cases b <;> rfl)
def ePick (c x y : PV) : Eff PV := match c with
  | .v (.bool b) => .ret (pickP b x y)
  | _ => .fail
def eNil (x : PV) : Eff PV := match x with
  | .eptr .. => .ret x
  | .ptr id ver _ _ => live id ver fun
    | .box _ => .ret x
    | .rowb _ _ => .ret x
    | .rowd _ _ => .ret x
    | .rowx _ _ _ _ => .ret x
    | .objb _ => .fail
    | .iterb _ _ _ _ _ => .fail
  | _ => .fail
def eLen (t : TypeId) (x : PV) : Eff PV := match x with
  | .v (.string s) => if isStrT t then .ret (.v (.int .i64 s.size)) else .fail
  | .nil => if (slK t).isSome then .ret (.v (.int .i64 0)) else .fail
  | .row false _ l => if (slK t).isSome then .ret (.v (.int .i64 l.length)) else .fail
  | .ref id ver _ n _ => live id ver fun
    | .rowb _ _ => if (slK t).isSome then .ret (.v (.int .i64 n)) else .fail
    | .rowd _ _ => if (slK t).isSome then .ret (.v (.int .i64 n)) else .fail
    | .rowx _ _ _ _ => if (slK t).isSome then .ret (.v (.int .i64 n)) else .fail
    | .box _ => .fail
    | .objb _ => .fail
    | .iterb _ _ _ _ _ => .fail
  | _ => .fail
def eMin (mx : Bool) : List PV → Eff PV
  | [.v (.int k a), .v (.int k' b)] => if k = k' then .ret (.v (.int k (if mx then (if a < b then b else a) else (if b < a then b else a)))) else .fail
  | _ => .fail
section
variable {P : Program} {PC : Con} {X : Ctx} {nt : Nat} {Q : Exit → Act → World → Prop} {ε : Env} {a : Act} {w : World} {o : Oper} {v : PV} {s' : Sto} {r wr : List Nat}
theorem eMove_sound {x : Operand} (ho : o.op = .move x ∨ o.op = .assign x) (hx : opndB nt x = true) (hg : Good X nt ε a w) (h : (Eff.ret (opd ε.t x)).Run PC ε.s v s' r wr) :
    o.wp P a w (fun a' w' => Good X nt ⟨putE o.dst v ε.t, s'⟩ a' w') Q := by
  obtain ⟨hs, hd, β, N, hst⟩ := id hg
  obtain ⟨rfl, rfl, -, -⟩ : v = _ ∧ s' = _ ∧ r = [] ∧ wr = [] := h
  refine sound_val hs hd hst ?_ (hst.opd hs hx)
  unfold execOp
  rcases ho with ho | ho <;> simp only [ho] <;> rfl
theorem ePick_sound {c x y : Operand} (ho : o.op = .pick c x y) (hc : opndB nt c = true) (hx : opndB nt x = true) (hy : opndB nt y = true) (hg : Good X nt ε a w) (h : (ePick (opd ε.t c) (opd ε.t x) (opd ε.t y)).Run PC ε.s v s' r wr) :
    o.wp P a w (fun a' w' => Good X nt ⟨putE o.dst v ε.t, s'⟩ a' w') Q := by
  obtain ⟨hs, hd, β, N, hst⟩ := id hg
  have hv := hst.opd hs hc
  unfold ePick at h
  split at h
  case h_2 => exact h.elim
  rename_i b he
  rw [he] at hv
  obtain ⟨rfl, rfl, -, -⟩ : v = _ ∧ s' = _ ∧ r = [] ∧ wr = [] := h
  have hb : a.eval c = .bool b := hv.1
  rw [pickP_eq]
  refine sound_val hs hd hst (u := if b then a.eval x else a.eval y) ?_ ?_
  · unfold execOp
    simp only [ho, hb]
    cases b <;> rfl
  · cases b
    · exact hst.opd hs hy
    · exact hst.opd hs hx
theorem eNil_sound {x : Operand} (ho : o.op = .nilCheck x) (hx : opndB nt x = true) (hg : Good X nt ε a w) (h : (eNil (opd ε.t x)).Run PC ε.s v s' r wr) :
    o.wp P a w (fun a' w' => Good X nt ⟨putE o.dst v ε.t, s'⟩ a' w') Q := by
  obtain ⟨hs, hd, β, N, hst⟩ := id hg
  have hv := hst.opd hs hx
  have fin : ∀ p, a.eval x = .pointer (some p) → v = opd ε.t x → s' = ε.s → o.wp P a w (fun a' w' => Good X nt ⟨putE o.dst v ε.t, s'⟩ a' w') Q := by
    rintro p he rfl rfl
    refine sound_val hs hd hst ?_ hv
    unfold execOp
    simp only [ho, he]
    rfl
  unfold eNil at h
  split at h
  case h_3 => exact h.elim
  case h_1 =>
    rename_i he
    rw [he] at hv
    obtain ⟨b, off, _, hp, _⟩ := hv
    obtain ⟨h1, h2, -, -⟩ : v = _ ∧ s' = _ ∧ r = [] ∧ wr = [] := h
    exact fin _ hp h1 h2
  case h_2 =>
    rename_i id ver i0 j he
    rw [he] at hv
    obtain ⟨_, _, k3⟩ := hv
    obtain ⟨blk, r', hb, rfl, h⟩ := live_run h
    obtain ⟨b, o2, h1, h2⟩ := k3 blk hb
    cases blk with
    | box cs =>
      obtain ⟨h3, h4, -, -⟩ : v = _ ∧ s' = _ ∧ r' = [] ∧ wr = [] := h
      exact fin _ h2 h3 h4
    | rowb k l =>
      obtain ⟨h3, h4, -, -⟩ : v = _ ∧ s' = _ ∧ r' = [] ∧ wr = [] := h
      exact fin _ h2.2.2 h3 h4
    | rowd k l =>
      obtain ⟨h3, h4, -, -⟩ : v = _ ∧ s' = _ ∧ r' = [] ∧ wr = [] := h
      exact fin _ h2.2.2 h3 h4
    | rowx k l i cs =>
      obtain ⟨h3, h4, -, -⟩ : v = _ ∧ s' = _ ∧ r' = [] ∧ wr = [] := h
      exact fin _ h2.2.2 h3 h4
    | objb o => exact h.elim
    | iterb => exact h.elim
theorem eBin_sound (hF : Facts P) {op : BinOp} {t t' : TypeId} {x y : Operand} (ho : o.op = .binOp op t x y t') (hx : opndB nt x = true) (hy : opndB nt y = true) (hg : Good X nt ε a w) (h : (eBin op t (opd ε.t x) (opd ε.t y)).Run PC ε.s v s' r wr) :
    o.wp P a w (fun a' w' => Good X nt ⟨putE o.dst v ε.t, s'⟩ a' w') Q := by
  obtain ⟨hs, hd, β, N, hst⟩ := id hg
  have hv := hst.opd hs hx
  have hvy := hst.opd hs hy
  have fin : ∀ (p q u : Value), a.eval x = p → a.eval y = q → (∀ cs, p ≠ .agg cs) → p ≠ .nilIface → (binOp op t p q).run P w = .ok u w → wfV u → v = .v u → s' = ε.s → o.wp P a w (fun a' w' => Good X nt ⟨putE o.dst v ε.t, s'⟩ a' w') Q := by
    rintro p q u hp hq hna hni hrun hw rfl rfl
    refine sound_val hs hd hst ?_ ⟨rfl, hw⟩
    have hgd : (eqGuard op t x y p q).run P w = .ok () w := by
      unfold eqGuard
      cases op <;> first | rfl | (cases p <;> first | rfl | exact absurd rfl (hna _) | exact absurd rfl hni | (cases q <;> rfl))
    unfold execOp
    simp only [ho, hp, hq, Sem.run_bind, hgd, Result.andThen_ok, hrun]
    rfl
  unfold eBin at h
  split at h
  case h_4 => exact h.elim
  case h_1 =>
    rename_i k p k' q he hey
    rw [he] at hv
    rw [hey] at hvy
    obtain ⟨hv, hwx⟩ := hv
    obtain ⟨hvy, hwy⟩ := hvy
    have sh : (op = .shl ∨ op = .shr) → (shOp op k p q).Run PC ε.s v s' r wr → o.wp P a w (fun a' w' => Good X nt ⟨putE o.dst v ε.t, s'⟩ a' w') Q := by
      intro hop h
      obtain ⟨e1, u, e2, h1, h2⟩ := shOp_run (P := P) (w := w) (t := t) (k' := k') hop h hwx
      exact fin _ _ u hv hvy (by simp) (by simp) h1 h2 e2 e1
    split at h
    · exact sh (.inl rfl) h
    · exact sh (.inr rfl) h
    · split at h
      case isFalse => exact h.elim
      rename_i hk
      subst hk
      obtain ⟨e1, u, e2, h1, h2⟩ := intOp_run (P := P) (w := w) (t := t) h hwx hwy
      exact fin _ _ u hv hvy (by simp) (by simp) h1 h2 e2 e1
  case h_2 =>
    rename_i p q he hey
    rw [he] at hv
    rw [hey] at hvy
    obtain ⟨e1, u, e2, h1, h2⟩ := strOp_run (P := P) (w := w) (t := t) h
    exact fin _ _ u hv.1 hvy.1 (by simp) (by simp) h1 h2 e2 e1
  case h_3 =>
    rename_i p q he hey
    rw [he] at hv
    rw [hey] at hvy
    split at h
    case isFalse => exact h.elim
    rename_i hb
    have hu := hF.bool t hb
    have heq : (Op.equal t (.bool p) (.bool q)).run P w = .ok (p == q) w := by
      show (Op.equalIn (9999 + 1) t (.bool p) (.bool q)).run P w = _
      unfold Op.equalIn
      simp [run_underlying hu]
    split at h
    · obtain ⟨e1, e2, -, -⟩ : v = _ ∧ s' = _ ∧ r = [] ∧ wr = [] := h
      exact fin _ _ (.bool (p == q)) hv.1 hvy.1 (by simp) (by simp) (by simp [binOp, heq]) trivial e1 e2
    · obtain ⟨e1, e2, -, -⟩ : v = _ ∧ s' = _ ∧ r = [] ∧ wr = [] := h
      exact fin _ _ (.bool (!(p == q))) hv.1 hvy.1 (by simp) (by simp) (by simp [binOp, heq]) trivial e1 e2
    · exact h.elim
theorem eExtract_sound {x : Operand} {i : Nat} (ho : o.op = .extract x i) (hx : opndB nt x = true) (hg : Good X nt ε a w) (h : (eExtract (opd ε.t x) i).Run PC ε.s v s' r wr) :
    o.wp P a w (fun a' w' => Good X nt ⟨putE o.dst v ε.t, s'⟩ a' w') Q := by
  obtain ⟨hs, hd, β, N, hst⟩ := id hg
  have hv := hst.opd hs hx
  unfold eExtract at h
  split at h
  case h_2 => exact h.elim
  rename_i vs he
  rw [he] at hv
  split at h
  case h_2 => exact h.elim
  rename_i v0 hv0
  obtain ⟨rfl, rfl, -, -⟩ : v = _ ∧ s' = _ ∧ r = [] ∧ wr = [] := h
  obtain ⟨us, hu, hall⟩ := hv
  obtain ⟨u, hu2, h1⟩ := hall.get i v hv0
  refine sound_val hs hd hst (u := u) ?_ ?_
  · unfold execOp
    have : us[i]? = some u := by simpa using hu2
    simp [ho, hu, Instr.extract, this]
  · cases v <;> first | exact h1 | exact h1.elim
theorem eConvI_sound (hF : Facts P) {src dst : TypeId} {x : Operand} (ho : o.op = .convert src dst x) (hx : opndB nt x = true) (hg : Good X nt ε a w) (h : (eConvI src dst (opd ε.t x)).Run PC ε.s v s' r wr) :
    o.wp P a w (fun a' w' => Good X nt ⟨putE o.dst v ε.t, s'⟩ a' w') Q := by
  obtain ⟨hs, hd, β, N, hst⟩ := id hg
  have hv := hst.opd hs hx
  unfold eConvI at h
  split at h
  case h_2 => exact h.elim
  rename_i k k0 n hcv he
  rw [he] at hv
  obtain ⟨⟨d, hsrc⟩, hdst⟩ := hF.cvI _ _ _ hcv
  obtain ⟨rfl, rfl⟩ : v = .v (.int k (k.wrap n)) ∧ s' = ε.s := by
    split at h
    · rename_i hw
      rw [widens_wrap hw hv.2]; exact ⟨h.1, h.2.1⟩
    · obtain ⟨e1, e2, _⟩ := retI_run h
      exact ⟨e2, e1⟩
  refine sound_val hs hd hst (u := .int k (k.wrap n)) ?_ ⟨rfl, wf_wrap _ _⟩
  unfold execOp
  simp [ho, hv.1, convert, run_underlying hsrc, run_underlying hdst, Conv.intToInt]
theorem eIndex_sound (hF : Facts P) {t : TypeId} {x y : Operand} (ho : o.op = .index t x y) (hx : opndB nt x = true) (hy : opndB nt y = true) (hg : Good X nt ε a w) (h : (eIndex t (opd ε.t x) (opd ε.t y)).Run PC ε.s v s' r wr) :
    o.wp P a w (fun a' w' => Good X nt ⟨putE o.dst v ε.t, s'⟩ a' w') Q := by
  obtain ⟨hs, hd, β, N, hst⟩ := id hg
  have hv := hst.opd hs hx
  have hvy := hst.opd hs hy
  unfold eIndex at h
  split at h
  case h_2 => exact h.elim
  rename_i s ik n he hey
  rw [he] at hv
  rw [hey] at hvy
  split at h
  case isFalse => exact h.elim
  rename_i hc
  obtain ⟨h0, b, hb, rfl, rfl, -, -⟩ : 0 ≤ n ∧ ∃ b, s[n.toNat]? = some b ∧ v = _ ∧ s' = _ ∧ r = [] ∧ wr = [] := h
  refine sound_val hs hd hst (u := .int .u8 b.toNat) ?_ ⟨rfl, ?_⟩
  · unfold execOp
    simp [ho, hv.1, hvy.1, Instr.index, asIntOf, run_underlying (hF.str t hc), h0, hb]
  · refine (wrap_iff .u8 _).2 ?_
    have := b.toNat_lt
    simp [loK, hiK]; omega
end
end Go.Px
namespace Go.Px
open Go.RowKit
def OwnsRow (w : World) (e : TypeId) (size : Nat) (v : Value) (n : Nat) (xs : List Value) : Prop :=
  xs.length = n * size ∧
  ((v = .slice none 0 0 ∧ n = 0) ∨
   ∃ g cap cur, v = .slice (some ⟨g, 0, none⟩) n cap ∧ 0 ≤ g ∧ RowAt w g cur e ∧ n ≤ cap ∧ cap ≤ maxLen ∧ cur.size = cap * size ∧ cur.toList.take (n * size) = xs)
theorem OwnsRow.of {w : World} {e : TypeId} {size : Nat} {v : Value} {n : Nat} {xs : List Value} (h : w.ownsRow 0 e size v n xs) : OwnsRow w e size v n xs := by
  refine ⟨h.1, ?_⟩
  rcases h.2 with hn | ⟨g, cap, cur, hv, hb, hg, rest⟩
  · exact .inl hn
  · exact .inr ⟨g, cap, cur, hv, hb, RowAt.of hg, rest⟩
theorem OwnsRow.lt {w : World} {e : TypeId} {size : Nat} {v : Value} {n : Nat} {xs : List Value} (h : OwnsRow w e size v n xs) : ∀ k, v.ownBlock = some k → 0 ≤ k ∧ k < w.heap.size := by
  intro k hk
  rcases h.2 with ⟨rfl, _⟩ | ⟨g, cap, cur, rfl, hb, hg, _⟩
  · simp [Value.ownBlock] at hk
  · simp [Value.ownBlock] at hk
    subst hk
    exact ⟨hb, hg.lt⟩
theorem OwnsRow.cells {w : World} {e : TypeId} {size : Nat} {v : Value} {n : Nat} {xs : List Value} (h : OwnsRow w e size v n xs) {g : Nat} (hg : v.ownBlock = some g) : ∀ j u, xs[j]? = some u → w.cell? ((⟨g, 0, none⟩ : Addr).add j) = some u := by
  intro j u hu
  rcases h.2 with ⟨rfl, _⟩ | ⟨g', cap, cur, rfl, _, hgg, _, _, _, htake⟩
  · simp [Value.ownBlock] at hg
  · simp [Value.ownBlock] at hg
    subst hg
    have hadd : (⟨g', 0, none⟩ : Addr).add j = ⟨g', j, none⟩ := by unfold Addr.add; split <;> simp_all
    rw [hadd, hgg.cell j]
    rw [← htake, List.getElem?_take] at hu
    split at hu
    · simpa using hu
    · cases hu
section
variable {P : Program}
theorem run_append_row (w : World) (t ty e : TypeId) (i : TypeInfo) (z : Value) (size bytes : Nat) (ht : P.underlying t = some (.slice e)) (hi : P.info? e = some i) (hz : i.zero = some z)
    (hsize : i.size = size) (hby : i.bytes = bytes) (hzs : z.cells.size = size) (hsz : 0 < size)
    (v : Value) (n : Nat) (xs : List Value) (hown : OwnsRow w e size v n xs)
    (a : Addr) (m c : Nat) (news : List Value) (hl : news.length = m * size) (hnews : ∀ j u, news[j]? = some u → w.cell? (a.add j) = some u) (h1 : ∀ u ∈ news, u.oneCell' = true)
    (h63 : n + m ≤ maxLen) (hbytes : (n + m) * bytes ≤ 140737488355328) :
    ∃ v' w', (Builtin.append_ #[t, t] ty #[v, .slice (some a) m c]).run P w = .ok v' w' ∧ OwnsRow w' e size v' (n + m) (xs ++ news) ∧ w.grownBy w' v.ownBlock ∧
      (v'.ownBlock = v.ownBlock ∨ v'.ownBlock = some w.heap.size) := by
  subst hsize
  subst hby
  have hsmall : n + m ≤ 9223372036854775807 := by simp only [maxLen] at h63; omega
  have hlen : (xs ++ news).length = (n + m) * i.size := by rw [List.length_append, hown.1, hl, Nat.add_mul]
  have hown0 := hown
  rcases hown.2 with ⟨rfl, rfl⟩ | ⟨g, cap, cur, rfl, hbg, hg, hnc, hcm, hcs, htake⟩
  · obtain ⟨v', w', hr, h2, h3, _, h5⟩ := run_append_own_at (P := P) w 0 t ty e i z i.size i.bytes ht hi hz rfl rfl hzs hsz (.slice none 0 0) 0 xs ⟨hown.1, .inl ⟨rfl, rfl⟩⟩ a m c news hl hnews h1 h63 hbytes (Nat.zero_le _)
    exact ⟨v', w', hr, OwnsRow.of h2, h3, h5⟩
  · by_cases hroom : n + m ≤ cap
    · have hfit : n * i.size + news.length ≤ cur.size := by rw [hl, hcs, ← Nat.add_mul]; exact Nat.mul_le_mul_right _ hroom
      have hf := run_firstCells_some (P := P) w i.size m a m c news hl hnews
      have hst := run_storeCells_row P g (n * i.size) e news 0 cur w hg (by simpa using hfit) h1
      simp only [Nat.add_zero] at hst
      have hr : (Builtin.append_ #[t, t] ty #[.slice (some ⟨g, 0, none⟩) n cap, .slice (some a) m c]).run P w =
          .ok (.slice (some ⟨g, 0, none⟩) (n + m) cap) (w.setRow g (cur.toList.take (n * i.size) ++ news ++ cur.toList.drop (n * i.size + news.length)).toArray) := by
        simp [Builtin.append_, run_underlying ht, sizeOf, typeInfo, hi, Builtin.lenOf, hroom, hf, Addr.add_lit, hst]
      have hss : (cur.toList.take (n * i.size) ++ news ++ cur.toList.drop (n * i.size + news.length)).toArray.size = cur.size := by
        simp only [List.size_toArray, List.length_append, List.length_take, List.length_drop, Array.length_toList]
        omega
      refine ⟨_, _, hr, ⟨hlen, .inr ⟨g, cap, _, rfl, hbg, hg.setRow hss, hroom, hcm, ?_, ?_⟩⟩, ⟨rfl, rfl, rfl, by simp, fun k _ hk => setRow_other w g k _ (fun e => hk (by simp [Value.ownBlock, e]))⟩, Or.inl rfl⟩
      · rw [hss, hcs]
      · rw [htake, ← hlen]
        exact List.take_left
    · have holds : ∀ j u, xs[j]? = some u → w.cell? ((⟨g, 0, none⟩ : Addr).add j) = some u := hown0.cells (g := g) rfl
      have hr := run_append_grow (P := P) w t ty e i z ht hi hz ⟨g, 0, none⟩ n cap xs hown.1 holds a m c news hl hnews (by omega) (by omega) (growslice_fits (by omega) hbytes)
      have hge := grownCap_ge w (n + m) cap e
      have hcm2 : grownCap w (n + m) cap e ≤ maxLen := grownCap_le_maxLen w (n + m) cap e h63
      refine ⟨_, _, hr, ⟨hlen, .inr ⟨w.heap.size, _, _, rfl, Nat.zero_le _, RowAt.of (heap_alloc_new w.drew _), hge, hcm2, ?_, ?_⟩⟩, ⟨rfl, rfl, rfl, by simp, fun k hk _ => heap_alloc_old w.drew _ hk⟩, Or.inr rfl⟩
      · simp only [Array.size_append, List.size_toArray, size_zeroCells, hzs, hown.1, hl, ← Nat.add_mul]
        congr 1
        omega
      · simp only [Array.toList_append, List.append_assoc]
        rw [← List.append_assoc, ← hlen]
        exact List.take_left
end
end Go.Px
namespace Go.Px
open Go.RowKit
def wrQ (o : Oper) (x : Operand) : Bool := match o.dst, x with
  | some d, .tmp n => wrL.any fun p => Nat.beq p.1 d && Nat.beq p.2 n
  | _, _ => false
def wrI (op : BinOp) (k : IntKind) (a b : Int) : Eff PV := match op with
  | .add => .ret (.v (.int k (k.wrap (a + b))))
  | .sub => .ret (.v (.int k (k.wrap (a - b))))
  | .mul => .ret (.v (.int k (k.wrap (a * b))))
  | _ => .fail
def eWrap (op : BinOp) : PV → PV → Eff PV
  | .v (.int k a), .v (.int k' b) => if k = k' then wrI op k a b else .fail
  | _, _ => .fail
def ariB : BinOp → Bool
  | .add => true
  | .sub => true
  | .mul => true
  | _ => false
def eBinQ (o : Oper) (x : Operand) (op : BinOp) (t : TypeId) (p q : PV) : Eff PV := match ariB op && wrQ o x with
  | true => eWrap op p q
  | false => eBin op t p q
section
variable {P : Program} {PC : Con} {X : Ctx} {nt : Nat} {Q : Exit → Act → World → Prop} {ε : Env} {a : Act} {w : World} {o : Oper} {v : PV} {s s' : Sto} {r wr : List Nat} {u : PV}
theorem wrI_run {op : BinOp} {t : TypeId} {k : IntKind} {a b : Int} (h : (wrI op k a b).Run PC s u s' r wr) : s' = s ∧ ∃ v, u = .v v ∧ (binOp op t (.int k a) (.int k b)).run P w = .ok v w ∧ wfV v := by
  have val : ∀ v : Value, (Eff.ret (PV.v v)).Run PC s u s' r wr → (binOp op t (.int k a) (.int k b)).run P w = .ok v w → wfV v → s' = s ∧ ∃ v, u = .v v ∧ (binOp op t (.int k a) (.int k b)).run P w = .ok v w ∧ wfV v := fun v h h1 h2 => ⟨h.2.1, v, h.1, h1, h2⟩
  cases op <;> simp only [wrI] at h
  all_goals first
    | exact h.elim
    | exact val _ h (by simp [binOp, Op.intArith, Sem.run_pure]) (wf_wrap _ _)
theorem eWrap_sound {op : BinOp} {t t' : TypeId} {x y : Operand} (ho : o.op = .binOp op t x y t') (hx : opndB nt x = true) (hy : opndB nt y = true) (hg : Good X nt ε a w) (h : (eWrap op (opd ε.t x) (opd ε.t y)).Run PC ε.s v s' r wr) :
    o.wp P a w (fun a' w' => Good X nt ⟨putE o.dst v ε.t, s'⟩ a' w') Q := by
  obtain ⟨hs, hd, β, N, hst⟩ := id hg
  have hv := hst.opd hs hx
  have hvy := hst.opd hs hy
  unfold eWrap at h
  split at h
  case h_2 => exact h.elim
  rename_i k p k' q he hey
  rw [he] at hv
  rw [hey] at hvy
  split at h
  case isFalse => exact h.elim
  rename_i hk
  subst hk
  obtain ⟨rfl, u, rfl, hrun, hw⟩ := wrI_run (P := P) (w := w) (t := t) h
  refine sound_val hs hd hst ?_ ⟨rfl, hw⟩
  have hp : a.eval x = .int k p := hv.1
  have hq : a.eval y = .int k q := hvy.1
  have hgd : (eqGuard op t x y (.int k p) (.int k q)).run P w = .ok () w := by
    unfold eqGuard
    cases op <;> rfl
  unfold execOp
  simp only [ho, hp, hq, Sem.run_bind, hgd, Result.andThen_ok, hrun]
  rfl
end
end Go.Px
namespace Go.Px
open Go.RowKit
def castL (k : K) {k' : K} (l : List (ty k')) : Option (List (ty k)) := if h : k' = k then some (h ▸ l) else none
def viewL {α : Type} (full : Bool) (l : List α) (off n : Nat) : List α := match full with
  | true => l
  | false => (l.drop off).take n
theorem view_eq {X : Ctx} {ε : Env} {w : World} {tm : Array Value} {β : Nat → Option (Nat × Nat)} {N : Nat → List Nat} (hst : St X ε w tm β N) {blk : Blk} {k : K} {l : List (ty k)} {id ver off n : Nat} {full : Bool} {u : Value} (h : ε.s id = ⟨ver, some blk⟩) (hr : IsRow blk k l) (hv : RefC w β ε.s id ver off n full u) : viewL full l off n = (l.drop off).take n := by
  cases full with
  | false => rfl
  | true =>
    obtain ⟨_, _, h3⟩ := hv
    obtain ⟨h4, h5⟩ := h3 _ k l h hr
    rcases h5 with ⟨h5, h6⟩ | ⟨b, c, o, h5, h6, h7, h8, h9⟩
    · rcases row_head hr (hst.blk id _ (by rw [h])) with ⟨_, e, _⟩ | ⟨b, cap, cur, q, _⟩
      · subst e; simp [viewL]
      · rw [h5] at q; cases q
    · obtain ⟨e1, e2, _⟩ := h9 rfl
      subst e1 e2
      simp [viewL]
def elemsE (k : K) : PV → Eff (List (ty k))
  | .nil => .ret []
  | .row false _ l => match castL k l with
    | some l => .ret l
    | none => .fail
  | .ref id ver off n full => live id ver fun
    | .rowb _ l => match castL k l with
      | some l => .ret (viewL full l off n)
      | none => .fail
    | .box _ => .fail
    | .objb _ => .fail
    | .iterb _ _ _ _ _ => .fail
    | .rowd _ _ => .fail
    | .rowx _ _ _ _ => .fail
  | _ => .fail
def roomB (k : K) (n : Nat) : Prop := n ≤ 9223372036854775807 ∧ n * byt k ≤ 140737488355328
instance (k : K) (n : Nat) : Decidable (roomB k n) := inferInstanceAs (Decidable (_ ∧ _))
def eAppend (o : Oper) (t : TypeId) (d s : PV) : Eff PV := match slK t with
  | none => .fail
  | some k => (elemsE k s).bind fun l2 => match d with
      | .nil => gdE (roomB k l2.length) (newBlk (site o) (.rowb k l2) fun ver => .ret (.ref (site o) ver 0 l2.length true))
      | .ref id ver off n full => live id ver fun
        | .rowb _ l => match castL k l with
          | some l => (match full, Nat.ble 99 id with
            | true, true => gdE (roomB k (l ++ l2).length) (.wr id ⟨ver + 1, some (.rowb k (l ++ l2))⟩ (.ret (.ref id (ver + 1) 0 (l ++ l2).length true)))
            | _, _ => .fail)
          | none => .fail
        | .box _ => .fail
        | .objb _ => .fail
        | .iterb _ _ _ _ _ => .fail
        | .rowd _ _ => .fail
        | .rowx _ _ _ _ => .fail
      | _ => .fail
section
variable {P : Program} {PC : Con} {X : Ctx} {nt : Nat} {Q : Exit → Act → World → Prop} {ε : Env} {a : Act} {w : World} {o : Oper} {v : PV} {s' : Sto} {r wr : List Nat}
theorem castL_some {k k' : K} {l : List (ty k')} {l2 : List (ty k)} (h : castL k l = some l2) : ∃ e : k' = k, l2 = e ▸ l := by
  unfold castL at h
  split at h
  · rename_i e; cases h; exact ⟨e, rfl⟩
  · cases h
theorem mul_lt_add {i j n s : Nat} (hi : i < n) (hj : j < s) : i * s + j < n * s := by
  have : (i + 1) * s ≤ n * s := Nat.mul_le_mul_right _ hi
  rw [Nat.add_mul] at this; omega
def RowCells (S : Nat → Prop) (w : World) {k : K} (l : List (ty k)) (xs : List Value) : Prop := xs.length = l.length * size k ∧ Cont S w l (fun o => xs[o]?)
theorem LeafV.one {S : Nat → Prop} {lf : Leaf} {u : Value} (h : LeafV S w lf u) : u.oneCell' = true := by
  cases lf with
  | sc q => obtain ⟨rfl, hw⟩ := h; cases u <;> simp_all [wfV, Value.oneCell']
  | nest k l => obtain ⟨a, cap, rfl, _⟩ := h; rfl
theorem RowCells.at {S : Nat → Prop} {k : K} {l : List (ty k)} {f : Nat → Option Value} (h : Cont S w l f) {m : Nat} (hm : m < l.length * size k) : ∃ u, f m = some u ∧ u.oneCell' = true := by
  have hp := size_pos k
  have hi : m / size k < l.length := (Nat.div_lt_iff_lt_mul hp).2 hm
  have hj : m % size k < (leaves l[m / size k]).length := by rw [leaves_len]; exact Nat.mod_lt _ hp
  obtain ⟨u, hu, hv⟩ := h (m / size k) _ (List.getElem?_eq_getElem hi) (m % size k) _ (List.getElem?_eq_getElem hj)
  rw [Nat.div_add_mod'] at hu
  exact ⟨u, hu, hv.one⟩
theorem RowCells.one {S : Nat → Prop} {k : K} {l : List (ty k)} {xs : List Value} (h : RowCells S w l xs) : ∀ u ∈ xs, u.oneCell' = true := by
  intro u hu
  obtain ⟨m, hm, rfl⟩ := List.mem_iff_getElem.1 hu
  obtain ⟨u, h1, h2⟩ := RowCells.at h.2 (m := m) (by rw [← h.1]; exact hm)
  rw [List.getElem?_eq_getElem hm, Option.some.injEq] at h1
  rw [h1]; exact h2
theorem RowCells.append {S : Nat → Prop} {k : K} {l1 l2 : List (ty k)} {x1 x2 : List Value} (h1 : RowCells S w l1 x1) (h2 : RowCells S w l2 x2) : RowCells S w (l1 ++ l2) (x1 ++ x2) := by
  refine ⟨by simp [h1.1, h2.1, Nat.add_mul], fun i x hx j lf hlf => ?_⟩
  have hj : j < size k := by have := (List.getElem?_eq_some_iff.1 hlf).1; rwa [leaves_len] at this
  by_cases hi : i < l1.length
  · rw [List.getElem?_append_left hi] at hx
    obtain ⟨u, h3, h4⟩ := h1.2 i x hx j lf hlf
    refine ⟨u, ?_, h4⟩
    show (x1 ++ x2)[i * size k + j]? = some u
    rw [List.getElem?_append_left (by rw [h1.1]; exact mul_lt_add hi hj)]; exact h3
  · rw [List.getElem?_append_right (by omega)] at hx
    obtain ⟨u, h3, h4⟩ := h2.2 _ x hx j lf hlf
    refine ⟨u, ?_, h4⟩
    have : l1.length * size k ≤ i * size k := Nat.mul_le_mul_right _ (by omega)
    show (x1 ++ x2)[i * size k + j]? = some u
    rw [List.getElem?_append_right (by rw [h1.1]; omega), h1.1]
    rw [show i * size k + j - l1.length * size k = (i - l1.length) * size k + j by rw [Nat.sub_mul]; omega]
    exact h3
theorem RowCells.mono {S S' : Nat → Prop} {w' : World} {k : K} {l : List (ty k)} {xs : List Value} (h : RowCells S w l xs) (hr : ∀ {k : K} {u : Value} {l : List (ty k)}, Row S w k u l → Row S' w' k u l) : RowCells S' w' l xs := ⟨h.1, fun i x hx j lf hlf => by
  obtain ⟨u, hu, hv⟩ := h.2 i x hx j lf hlf
  refine ⟨u, hu, ?_⟩
  cases lf with
  | sc q => exact hv
  | nest k' l' => exact hr hv⟩
theorem RowCells.of {S : Nat → Prop} {k : K} {l : List (ty k)} {f : Nat → Option Value} (h : Cont S w l f) : ∃ xs, RowCells S w l xs ∧ ∀ (o : Nat) u, xs[o]? = some u → f o = some u := by
  have key : ∀ m, m ≤ l.length * size k → ∃ xs : List Value, xs.length = m ∧ ∀ (o : Nat) u, xs[o]? = some u → f o = some u := by
    intro m
    induction m with
    | zero => intro _; exact ⟨[], rfl, by simp⟩
    | succ m ih =>
      intro hm
      obtain ⟨xs, hl, hxs⟩ := ih (by omega)
      obtain ⟨u, hu, _⟩ := RowCells.at h (m := m) (by omega)
      refine ⟨xs ++ [u], by simp [hl], fun o u' ho => ?_⟩
      by_cases hom : o < m
      · exact hxs o u' (by rw [List.getElem?_append_left (by omega)] at ho; exact ho)
      · have : o = m := by
          have := (List.getElem?_eq_some_iff.1 ho).1
          simp [hl] at this; omega
        subst this
        rw [List.getElem?_append_right (by omega), hl] at ho
        simp at ho
        subst ho
        exact hu
  obtain ⟨xs, hl, hxs⟩ := key _ (Nat.le_refl _)
  refine ⟨xs, ⟨hl, fun i x hx j lf hlf => ?_⟩, hxs⟩
  obtain ⟨u, hu, hv⟩ := h i x hx j lf hlf
  have hj : j < size k := by have := (List.getElem?_eq_some_iff.1 hlf).1; rwa [leaves_len] at this
  have hlt : i * size k + j < xs.length := by rw [hl]; exact mul_lt_add (List.getElem?_eq_some_iff.1 hx).1 hj
  have := hxs _ _ (List.getElem?_eq_getElem hlt)
  rw [hu] at this
  cases this
  exact ⟨_, List.getElem?_eq_getElem hlt, hv⟩
theorem elemsE_run {k : K} {p : PV} {u : Value} {l : List (ty k)} {β : Nat → Option (Nat × Nat)} {N : Nat → List Nat} {tm : Array Value} (hst : St X ε w tm β N) (hv : ValC (Fz X w N ε.s) w β ε.s p u) (h : (elemsE k p).Run PC ε.s l s' r wr) :
    s' = ε.s ∧ ∃ pa c xs, u = .slice pa l.length c ∧ RowCells (Fz X w N ε.s) w l xs ∧ (l ≠ [] → ∃ b off, pa = some ⟨b, off, none⟩ ∧ ∀ (j : Nat) q, xs[j]? = some q → w.cell? ⟨b, off + j, none⟩ = some q) := by
  have fin : ∀ (l : List (ty k)) (pa : Option Addr), (l ≠ [] → ∃ b off, pa = some ⟨b, off, none⟩ ∧ Cont (Fz X w N ε.s) w l (fun o => w.cell? ⟨b, off + o, none⟩)) →
      ∃ xs, RowCells (Fz X w N ε.s) w l xs ∧ (l ≠ [] → ∃ b off, pa = some ⟨b, off, none⟩ ∧ ∀ (j : Nat) q, xs[j]? = some q → w.cell? ⟨b, off + j, none⟩ = some q) := by
    intro l pa hc
    by_cases hne : l = []
    · subst hne; exact ⟨[], ⟨by simp, fun i x hx => by simp at hx⟩, fun h => absurd rfl h⟩
    · obtain ⟨b, off, rfl, h1⟩ := hc hne
      obtain ⟨xs, h2, h3⟩ := RowCells.of h1
      exact ⟨xs, h2, fun _ => ⟨b, off, rfl, h3⟩⟩
  unfold elemsE at h
  split at h
  case h_4 => exact h.elim
  case h_1 =>
    obtain ⟨rfl, rfl, -, -⟩ : l = _ ∧ s' = _ ∧ r = [] ∧ wr = [] := h
    exact ⟨rfl, none, 0, [], hv, ⟨by simp, fun i x hx => by simp at hx⟩, fun h => absurd rfl h⟩
  case h_2 =>
    rename_i k' l'
    split at h
    case h_2 => exact h.elim
    rename_i l2 hcl
    obtain ⟨rfl, rfl, -, -⟩ : l = _ ∧ s' = _ ∧ r = [] ∧ wr = [] := h
    obtain ⟨rfl, rfl⟩ := castL_some hcl
    obtain ⟨_, hrow⟩ := hv
    obtain ⟨a, cap, rfl, h1, h2, h3⟩ := hrow.open
    obtain ⟨xs, hx1, hx2⟩ := fin _ a fun hne => by
      obtain ⟨b, off, e, _, h4⟩ := h3 hne
      exact ⟨b, off, e, h4⟩
    exact ⟨rfl, a, cap, xs, rfl, hx1, hx2⟩
  case h_3 =>
    rename_i id ver off n full
    have hv0 : RefC w β ε.s id ver off n full u := hv
    obtain ⟨_, _, k3⟩ := hv
    obtain ⟨blk, r', hb, rfl, h⟩ := live_run h
    cases blk with
    | box cs => exact h.elim
    | objb o => exact h.elim
    | iterb => exact h.elim
    | rowd => exact h.elim
    | rowx => exact h.elim
    | rowb k' l' =>
      simp only at h
      split at h
      case h_2 => exact h.elim
      rename_i l2 hcl
      obtain ⟨rfl, rfl⟩ := castL_some hcl
      rw [view_eq hst hb .b hv0] at h
      obtain ⟨rfl, rfl, -, -⟩ : l = _ ∧ s' = _ ∧ r' = [] ∧ wr = [] := h
      obtain ⟨e1, e2⟩ := k3 _ _ _ hb .b
      have hlen : ((l2.drop off).take n).length = n := by rw [List.length_take, List.length_drop]; omega
      have hblk := hst.blk id _ (by rw [hb])
      rcases e2 with ⟨e2, e3⟩ | ⟨b, c, o2, e2, e3, e4, e5, e6⟩
      · rcases hblk with ⟨_, e, _⟩ | ⟨b, cap, cur, q, _⟩
        · subst e
          have : n = 0 := by simp at e1; omega
          subst this
          exact ⟨rfl, none, 0, [], by rw [e3]; simp, ⟨by simp, fun i x hx => by simp at hx⟩, fun h => absurd (by simp) h⟩
        · rw [e2] at q; cases q
      · rcases hblk with ⟨e, _⟩ | ⟨b', cap, cur, q1, q2, q3, q4, q5, q6, q7, q8⟩
        · rw [e2] at e; cases e
        · rw [e2] at q1; cases q1
          obtain ⟨xs, hx1, hx2⟩ := fin ((l2.drop off).take n) (some ⟨b, o2, none⟩) fun hne => by
            have hn : n ≠ 0 := by intro e; subst e; simp at hne
            have ho := e5 (.inl hn)
            subst ho
            refine ⟨b, off * size k', rfl, fun i x hx j lf hlf => ?_⟩
            have hi : i < n := by have := (List.getElem?_eq_some_iff.1 hx).1; omega
            rw [List.getElem?_take, if_pos hi, List.getElem?_drop] at hx
            obtain ⟨u, h5, h6⟩ := q8 (off + i) x hx j lf hlf
            refine ⟨u, ?_, h6⟩
            show w.cell? ⟨b, off * size k' + (i * size k' + j), none⟩ = some u
            rw [q4.cell, ← Nat.add_assoc, ← Nat.add_mul]; exact h5
          exact ⟨rfl, _, c, xs, by rw [e4, hlen], hx1, hx2⟩
theorem elemsE_len {k : K} {p : PV} {u : Value} {l : List (ty k)} {β : Nat → Option (Nat × Nat)} {N : Nat → List Nat} {tm : Array Value} (hst : St X ε w tm β N) (hv : ValC (Fz X w N ε.s) w β ε.s p u) (h : (elemsE k p).Run PC ε.s l s' r wr) : l.length ≤ 9223372036854775807 := by
  unfold elemsE at h
  split at h
  case h_4 => exact h.elim
  case h_1 => obtain ⟨rfl, -, -, -⟩ : l = _ ∧ s' = _ ∧ r = [] ∧ wr = [] := h; simp
  case h_2 =>
    split at h
    case h_2 => exact h.elim
    rename_i l2 hcl
    obtain ⟨rfl, -, -, -⟩ : l = _ ∧ s' = _ ∧ r = [] ∧ wr = [] := h
    obtain ⟨rfl, rfl⟩ := castL_some hcl
    obtain ⟨_, a, cap, _, _, h2, _⟩ := hv
    exact h2
  case h_3 =>
    rename_i id ver off n full
    obtain ⟨blk, r', hb, rfl, h⟩ := live_run h
    cases blk with
    | box cs => exact h.elim
    | objb o => exact h.elim
    | iterb => exact h.elim
    | rowd => exact h.elim
    | rowx => exact h.elim
    | rowb k' l' =>
      simp only at h
      split at h
      case h_2 => exact h.elim
      rename_i l2 hcl
      obtain ⟨rfl, rfl⟩ := castL_some hcl
      rw [view_eq hst hb .b hv] at h
      obtain ⟨rfl, -, -, -⟩ : l = _ ∧ s' = _ ∧ r' = [] ∧ wr = [] := h
      rcases hst.blk id _ (by rw [hb]) with ⟨_, e, _⟩ | ⟨b, cap, cur, _, _, h0, _⟩
      · rw [e]; simp
      · rw [List.length_take, List.length_drop]; omega
end
end Go.Px
namespace Go.Px
open Go.RowKit
section
variable {P : Program} {PC : Con} {X : Ctx} {nt : Nat} {Q : Exit → Act → World → Prop} {ε : Env} {a : Act} {w : World} {o : Oper} {v : PV} {s' : Sto} {r wr : List Nat}
theorem append_conc (hF : Facts P) {t ty' : TypeId} {k : K} (ht : slK t = some k) {v : Value} {n : Nat} {xs : List Value} (hown : OwnsRow w (tid k) (size k) v n xs) {pa : Option Addr} {m c : Nat} {news : List Value} (hl : news.length = m * size k)
    (hnews : m ≠ 0 → ∃ b off, pa = some ⟨b, off, none⟩ ∧ ∀ (j : Nat) u, news[j]? = some u → w.cell? ⟨b, off + j, none⟩ = some u) (h1 : ∀ u ∈ news, u.oneCell' = true) (h63 : n + m ≤ 9223372036854775807) (hby : (n + m) * byt k ≤ 140737488355328) :
    ∃ v' w', (Builtin.append_ #[t, t] ty' #[v, .slice pa m c]).run P w = .ok v' w' ∧ OwnsRow w' (tid k) (size k) v' (n + m) (xs ++ news) ∧ w.grownBy w' v.ownBlock ∧ (v'.ownBlock = v.ownBlock ∨ v'.ownBlock = some w.heap.size) := by
  obtain ⟨i, z, q1, q2, q3, q4, q5, -⟩ := hF.el k
  cases pa with
  | some a =>
    refine run_append_row w t ty' (tid k) i z (size k) (byt k) (hF.sl t k ht) q1 q2 q3 q4 q5 (size_pos k) v n xs hown a m c news hl ?_ h1 (by unfold maxLen; exact h63) hby
    intro j u hu
    have hm : m ≠ 0 := by rintro rfl; simp at hl; rw [hl] at hu; simp at hu
    obtain ⟨b, off, e, h2⟩ := hnews hm
    cases e
    rw [addr_add]
    exact h2 j u hu
  | none =>
    have hm : m = 0 := by
      rcases Nat.eq_zero_or_pos m with h | h
      · exact h
      · obtain ⟨b, off, e, _⟩ := hnews (by omega); cases e
    subst hm
    have hn : news = [] := List.eq_nil_of_length_eq_zero (by simpa using hl)
    subst hn
    refine ⟨v, w, ?_, by simpa using hown, ⟨rfl, rfl, rfl, Nat.le_refl _, fun _ _ _ => rfl⟩, .inl rfl⟩
    rcases hown.2 with ⟨rfl, rfl⟩ | ⟨g, cap, cur, rfl, _, hg, hnc, hcm, hcs, htake⟩
    · simp [Builtin.append_, run_underlying (hF.sl t k ht), sizeOf, typeInfo, q1, Builtin.lenOf, Builtin.firstCells]
    · simp [Builtin.append_, run_underlying (hF.sl t k ht), sizeOf, typeInfo, q1, Builtin.lenOf, Builtin.firstCells, hnc, storeCells]
theorem at_of_owns {S : Nat → Prop} {k : K} {l : List (ty k)} {v : Value} {xs : List Value} (hl : l.length ≤ 9223372036854775807) (h : OwnsRow w (tid k) (size k) v l.length xs) (hx : RowCells S w l xs) :
    (v = .slice none 0 0 ∧ l = []) ∨ ∃ g cap cur, v = .slice (some ⟨g, 0, none⟩) l.length cap ∧ v.ownBlock = some g ∧ OwnAt S w g l cap cur := by
  rcases h.2 with ⟨h1, h2⟩ | ⟨g, cap, cur, rfl, _, hg, hnc, hcm, hcs, htake⟩
  · exact .inl ⟨h1, List.eq_nil_of_length_eq_zero h2⟩
  · refine .inr ⟨g, cap, cur, rfl, by simp [Value.ownBlock], hl, hg, hnc, hcm, hcs, fun i x hi j lf hlf => ?_⟩
    obtain ⟨u, h3, h4⟩ := hx.2 i x hi j lf hlf
    refine ⟨u, ?_, h4⟩
    have hj : j < size k := by have := (List.getElem?_eq_some_iff.1 hlf).1; rwa [leaves_len] at this
    have hlt : i * size k + j < l.length * size k := mul_lt_add (List.getElem?_eq_some_iff.1 hi).1 hj
    simp only at h3
    rw [← htake, List.getElem?_take, if_pos hlt] at h3
    simpa using h3
theorem owns_of_at {S : Nat → Prop} {k : K} {l : List (ty k)} {b cap : Nat} {cur : Array Value} (h : OwnAt S w b l cap cur) : ∃ xs, OwnsRow w (tid k) (size k) (.slice (some ⟨b, 0, none⟩) l.length cap) l.length xs ∧ RowCells S w l xs := by
  obtain ⟨h0, h1, h2, h3, h4, h5⟩ := h
  have hle : l.length * size k ≤ cur.size := by rw [h4]; exact Nat.mul_le_mul_right _ h2
  refine ⟨cur.toList.take (l.length * size k), ⟨by simp; omega, .inr ⟨b, cap, cur, rfl, Nat.zero_le _, h1, h2, h3, h4, rfl⟩⟩, by simp; omega, fun i x hx j lf hlf => ?_⟩
  have hj : j < size k := by have := (List.getElem?_eq_some_iff.1 hlf).1; rwa [leaves_len] at this
  obtain ⟨u, h6, h7⟩ := h5 i x hx j lf hlf
  refine ⟨u, ?_, h7⟩
  show (cur.toList.take (l.length * size k))[i * size k + j]? = some u
  rw [List.getElem?_take, if_pos (mul_lt_add (List.getElem?_eq_some_iff.1 hx).1 hj)]
  simpa using h6
theorem append_step {k : K} {w' : World} {β : Nat → Option (Nat × Nat)} {N : Nat → List Nat} {tm : Array Value} (h : St X ε w tm β N) (id ver : Nat) (h99 : 99 ≤ id) (hver : (ε.s id).ver < ver) {l : List (ty k)} {v' : Value} {xs : List Value} (hl : l.length ≤ 9223372036854775807)
    (hown : OwnsRow w' (tid k) (size k) v' l.length xs) (hx : RowCells (Fz X w N ε.s) w l xs) {vo : Option Nat} (hg : w.grownBy w' vo) (hvo : ∀ g, vo = some g → ∃ blk, (ε.s id).blk = some blk ∧ N id = [g]) (hvb : v'.ownBlock = vo ∨ v'.ownBlock = some w.heap.size) :
    ∃ β' N', St X ⟨ε.t, upd ε.s id ⟨ver, some (.rowb k l)⟩⟩ w' tm β' N' ∧ ValC (Fz X w' N' (upd ε.s id ⟨ver, some (.rowb k l)⟩)) w' β' (upd ε.s id ⟨ver, some (.rowb k l)⟩) (.ref id ver 0 l.length true) v' := by
  have hid : ∀ p, X.ext[id]? ≠ some p := fun p hp => by
    have := (List.getElem?_eq_some_iff.1 hp).1
    have := X.few
    omega
  obtain ⟨p, L, hpL⟩ : ∃ (p : Option (Nat × Nat)) (L : List Nat), (p = none ∧ l = [] ∧ L = [] ∧ v' = .slice none 0 0) ∨ ∃ b cap cur, p = some (b, 0) ∧ L = [b] ∧ v' = .slice (some ⟨b, 0, none⟩) l.length cap ∧ (vo = some b ∨ (b = w.heap.size ∧ b < w'.heap.size)) ∧ RowAt w' b cur (tid k) ∧ l.length ≤ cap ∧ cur.size = cap * size k := by
    rcases hown.2 with ⟨h1, h2⟩ | ⟨g, cap, cur, h1, _, h3, h4, h5, h6, h7⟩
    · exact ⟨none, [], .inl ⟨rfl, List.eq_nil_of_length_eq_zero h2, rfl, h1⟩⟩
    · refine ⟨some (g, 0), [g], .inr ⟨g, cap, cur, rfl, rfl, h1, ?_, h3, h4, h6⟩⟩
      rw [show v'.ownBlock = some g by rw [h1]; simp [Value.ownBlock]] at hvb
      rcases hvb with e | e
      · exact .inl e.symm
      · injection e with e; subst e; exact .inr ⟨rfl, h3.lt⟩
  have hsame : ∀ x, x < w.heap.size → (∀ i blk, i = id → (ε.s i).blk = some blk → x ∉ N i) → w'.heap[x]? = w.heap[x]? := by
    intro x hxz hc
    refine hg.block x hxz fun e => ?_
    obtain ⟨blk, h1, h2⟩ := hvo x e.symm
    exact hc id blk rfl h1 (by rw [h2]; simp)
  obtain ⟨T, hst'⟩ := St.step (ε := ε) h (upd ε.s id ⟨ver, some (.rowb k l)⟩) (· = id) (w' := w') (β' := upd β id p) (N' := upd N id L) hg.size hsame (fun i hi => ⟨upd_ne _ _ hi, upd_ne _ _ hi, upd_ne _ _ hi⟩)
    (by
      rintro i rfl v o n f u ⟨k1, k2, k3⟩
      refine ⟨by rw [upd_same]; exact Nat.le_of_lt (Nat.lt_of_le_of_lt k1 hver), k2, fun blk k l e hr => ?_⟩
      rw [upd_same] at e
      cases e
      omega)
    (by
      rintro i rfl v i' j' u ⟨k1, k2, k3⟩
      refine ⟨by rw [upd_same]; exact Nat.le_of_lt (Nat.lt_of_le_of_lt k1 hver), k2, fun blk e => ?_⟩
      rw [upd_same] at e
      cases e
      omega)
    (by
      rintro i blk rfl hbk T
      rw [upd_same] at hbk
      cases hbk
      rw [upd_same]
      rcases hpL with ⟨h1, h2, h3, _⟩ | ⟨b, cap, cur, h1, h2, h3, _⟩
      · exact .inl ⟨by rw [upd_same]; exact h1, h2, h3⟩
      · rcases at_of_owns hl hown (hx.mono T.row) with ⟨e, _⟩ | ⟨g, cap', cur', e, _, h4⟩
        · rw [h3] at e; cases e
        · rw [h3] at e; cases e
          exact .inr ⟨b, cap, cur', by rw [upd_same]; exact h1, h2, h4⟩)
    (by
      rintro i blk rfl hbk x hx
      rw [upd_same] at hx
      rcases hpL with ⟨h1, h2, h3, _⟩ | ⟨b, cap, cur, h1, h4, h5, h3, _⟩
      · rw [h3] at hx; simp at hx
      · rw [h4] at hx
        have hxb : x = b := by simpa using hx
        subst hxb
        rcases h3 with h3 | ⟨h3, h6⟩
        · obtain ⟨blk, h7, h8⟩ := hvo x h3
          exact .inl ⟨i, blk, rfl, h7, by rw [h8]; simp⟩
        · exact .inr ⟨by omega, h6⟩)
    (by
      rintro i blk rfl hbk
      rw [upd_same]
      rcases hpL with ⟨h1, h2, h3, _⟩ | ⟨b, cap, cur, h1, h4, _⟩
      · rw [h3]; simp
      · rw [h4]; simp)
    (by rintro i i' b1 b2 rfl rfl _ _ hne; exact absurd rfl hne)
    (by
      rintro i q hq rfl
      exact absurd hq (hid q))
    (fun q u n hq e => absurd e (h.rx_far h99 q u n hq))
    (by
      cases hvo2 : vo with
      | none => exact h.frm.grow hg.os hg.tape hg.output hg.size fun b hb => hg.block b hb (by rw [hvo2]; simp)
      | some g =>
        obtain ⟨blk, h1, h2⟩ := hvo g hvo2
        refine Frm.turn h id blk h1 hg.os hg.tape hg.output hg.size (fun b hb hn => hg.block b hb fun e => hn ?_) fun i2 b2 off2 n hi2 hn hm => ?_
        · rw [h2]; rw [hvo2] at e; cases e; simp
        · exfalso
          obtain ⟨e1, cs', e2, e3⟩ := h.ext i2 _ hi2
          have hne : i2 ≠ id := fun e => hid _ (e ▸ hi2)
          have hb2 := h.blk i2 _ e2
          obtain ⟨b3, off3, _, _, p1, p2, _⟩ := hb2
          rw [e1] at p1
          cases p1
          exact h.disj i2 id _ _ e2 h1 hne b2 (by rw [p2]; simp) hm)
    (by
      refine X.cl w w' h.env fun b hb => hsame b (by have := X.hw; have := h.frm.size; omega) ?_
      rintro i blk rfl h1 hm
      rcases h.new i blk h1 b hm with h2 | h2
      · have := X.hG b h2; omega
      · have := X.hw; omega)
  refine ⟨_, _, hst', by show ver ≤ (upd ε.s _ _ _).ver; rw [upd_same]; exact Nat.le_refl _, ?_, fun blk2 k2 l2 e hr2 => ?_⟩
  · rcases hpL with ⟨h1, h2, h3, h4⟩ | ⟨b, cap, cur, h1, h4, h5, _⟩
    · exact ⟨_, _, _, h4⟩
    · exact ⟨_, _, _, h5⟩
  · rw [upd_same] at e
    cases e
    cases hr2
    refine ⟨by omega, ?_⟩
    rw [upd_same]
    rcases hpL with ⟨h1, h2, h3, h4⟩ | ⟨b, cap, cur, h1, h4, h5, h6, h7, h8, h9⟩
    · exact .inl ⟨h1, h4⟩
    · refine .inr ⟨b, cap, 0, h1, h8, h5, fun _ => by rw [Nat.zero_mul], fun _ => ⟨rfl, rfl, fun c2 E2 fz2 hc2 => ?_⟩⟩
      obtain ⟨fz, hh, _⟩ := h7
      rw [hh] at hc2
      cases hc2
      exact h9
end
end Go.Px
namespace Go.Px
open Go.RowKit
section
variable {P : Program} {PC : Con} {X : Ctx} {nt : Nat} {Q : Exit → Act → World → Prop} {ε : Env} {a : Act} {w : World} {o : Oper} {v : PV} {s' : Sto} {r wr : List Nat}
theorem eAppend_sound (hF : Facts P) {t : TypeId} {x y : Operand} (ho : o.op = .call { callee := .builtin .append, args := #[x, y], argTypes := #[t, t] }) (hx : opndB nt x = true) (hy : opndB nt y = true) (hg : Good X nt ε a w) (h : (eAppend o t (opd ε.t x) (opd ε.t y)).Run PC ε.s v s' r wr) :
    o.wp P a w (fun a' w' => Good X nt ⟨putE o.dst v ε.t, s'⟩ a' w') Q := by
  obtain ⟨hs, hd, β, N, hst⟩ := id hg
  have hv := hst.opd hs hx
  have hvy := hst.opd hs hy
  unfold eAppend at h
  split at h
  case h_1 => exact h.elim
  rename_i k ht
  obtain ⟨l2, s1, r1, w1, r2, w2, h1, h⟩ := bind_run h
  obtain ⟨rfl, pa, c, news, he, hfc, hnews⟩ := elemsE_run hst hvy h1
  have fin : ∀ (vv u : Value) (w' : World), a.eval x = vv → (Builtin.append_ #[t, t] o.type #[vv, a.eval y]).run P w = .ok u w' → (execOp a.eval o).run P w = .ok (.value u) w' := by
    intro vv u w' e hrun
    unfold execOp
    simp only [ho, resolve, invoke, builtin, Sem.run_bind, Sem.run_pure, Result.andThen_ok, List.map_toArray, List.map_cons, List.map_nil, e, hrun]
  have hnews' : l2.length ≠ 0 → ∃ b off, pa = some ⟨b, off, none⟩ ∧ ∀ (j : Nat) u, news[j]? = some u → w.cell? ⟨b, off + j, none⟩ = some u := fun hn => hnews (by intro e; subst e; simp at hn)
  split at h
  case h_3 => exact h.elim
  case h_1 =>
    rename_i hxe
    rw [hxe] at hv
    obtain ⟨⟨g1, g2⟩, h⟩ := h
    obtain ⟨r', wr', h⟩ := newBlk_run h
    obtain ⟨rfl, rfl, -, -⟩ : v = _ ∧ s' = _ ∧ r' = [] ∧ wr' = [] := h
    obtain ⟨v', w', hrun, hown, hgr, hvb⟩ := append_conc (P := P) (w := w) (ty' := o.type) hF ht (v := .slice none 0 0) (n := 0) (xs := []) ⟨by simp, .inl ⟨rfl, rfl⟩⟩ (m := l2.length) (c := c) (news := news) hfc.1 hnews' hfc.one (by omega) (by rw [Nat.zero_add]; exact g2)
    rw [Nat.zero_add, List.nil_append] at hown
    obtain ⟨β', N', q1, q2⟩ := append_step hst (site o) ((ε.s (site o)).ver + 1) (site_ge o) (Nat.lt_succ_self _) g1 hown hfc hgr (by simp [Value.ownBlock]) hvb
    exact sound_st hs hd (fin _ v' w' hv (by rw [he]; exact hrun)) q1 q2
  case h_2 =>
    rename_i id ver off n full hxe
    rw [hxe] at hv
    obtain ⟨_, _, k3⟩ := hv
    obtain ⟨blk, r', hb, -, h⟩ := live_run h
    cases blk with
    | box cs => exact h.elim
    | objb o => exact h.elim
    | iterb => exact h.elim
    | rowd => exact h.elim
    | rowx => exact h.elim
    | rowb k' l' =>
      simp only at h
      split at h
      case h_2 => exact h.elim
      rename_i l hcl
      obtain ⟨rfl, rfl⟩ := castL_some hcl
      cases h99 : Nat.ble 99 id with
      | false => rw [h99] at h; cases full <;> exact h.elim
      | true =>
      rw [h99] at h
      have h99 := Nat.le_of_ble_eq_true h99
      cases full with
      | false => exact h.elim
      | true =>
      have hfull : true = true := rfl
      obtain ⟨⟨g1, g2⟩, w3, -, h⟩ := h
      rw [List.length_append] at g1 g2
      obtain ⟨rfl, rfl, -, -⟩ : v = _ ∧ s' = _ ∧ r' = [] ∧ w3 = [] := h
      obtain ⟨e1, e2⟩ := k3 _ _ _ hb .b
      have hnl : n = l.length := by
        rcases e2 with ⟨e2, e3⟩ | ⟨b, c2, o2, e2, e3, e4, e5, e6⟩
        · rcases hst.blk id _ (by rw [hb]) with ⟨_, e, _⟩ | ⟨b, cap, cur, q, _⟩
          · subst e; simp at e1 ⊢; omega
          · rw [e2] at q; cases q
        · exact (e6 hfull).2.1
      have hfull : true = true ∧ n = l.length := ⟨rfl, hnl⟩
      have hnext : ∀ p, X.ext[id]? ≠ some p := fun p hp => by
        obtain ⟨_, cs, e3, _⟩ := hst.ext id p hp
        rw [hb] at e3; cases e3
      have hblk := hst.blk id _ (by rw [hb])
      have main : ∀ (vv : Value) (xs : List Value), a.eval x = vv → OwnsRow w (tid k') (size k') vv n xs → RowCells (Fz X w N ε.s) w l xs → (∀ g, vv.ownBlock = some g → ∃ blk, (ε.s id).blk = some blk ∧ N id = [g]) →
          o.wp P a w (fun a' w' => Good X nt ⟨putE o.dst (.ref id (ver + 1) 0 (l ++ l2).length true) ε.t, upd ε.s id ⟨ver + 1, some (.rowb k' (l ++ l2))⟩⟩ a' w') Q := by
        intro vv xs hvv hown0 hfc0 hvo
        obtain ⟨v', w', hrun, hown, hgr, hvb⟩ := append_conc (P := P) (w := w) (ty' := o.type) hF ht hown0 (m := l2.length) (c := c) (news := news) hfc.1 hnews' hfc.one (by rw [hfull.2]; exact g1) (by rw [hfull.2]; exact g2)
        have := append_step hst id (ver + 1) h99 (by rw [hb]; exact Nat.lt_succ_self _) (l := l ++ l2) (by rw [List.length_append]; exact g1) (by rw [List.length_append, ← hfull.2]; exact hown) (hfc0.append hfc) hgr hvo hvb
        obtain ⟨β', N', q1, q2⟩ := this
        exact sound_st hs hd (fin _ v' w' hvv (by rw [he]; exact hrun)) q1 q2
      rcases e2 with ⟨e2, e3⟩ | ⟨b, c2, o2, e2, e3, e4, e5, e6⟩
      · rcases hblk with ⟨_, e, _⟩ | ⟨b, cap, cur, q, _⟩
        · have hn : n = 0 := by rw [hfull.2, e]; simp
          refine main (.slice none 0 0) [] e3 ⟨by rw [hn]; simp, .inl ⟨rfl, hn⟩⟩ (by rw [e]; exact ⟨by simp, fun i x hx => by simp at hx⟩) (by simp [Value.ownBlock])
        · rw [e2] at q; cases q
      · rcases hblk with ⟨e, _⟩ | ⟨b', cap, cur, q1, qN, q2⟩
        · rw [e2] at e; cases e
        · rw [e2] at q1; cases q1
          obtain ⟨f1, f2, f3⟩ := e6 hfull.1
          have ho2 : o2 = 0 := by have h9 := e5 (.inr hfull.1); rw [f1, Nat.zero_mul] at h9; exact h9
          subst ho2
          obtain ⟨xs, p1, p2⟩ := owns_of_at q2
          have hcap : c2 = cap := by
            obtain ⟨fz, hh, _⟩ := q2.2.1
            have h7 := f3 cur _ fz hh
            have h8 := q2.2.2.2.2.1
            rw [h7] at h8
            exact Nat.eq_of_mul_eq_mul_right (size_pos _) h8
          refine main (.slice (some ⟨b, 0, none⟩) n c2) xs e4 ?_ p2 fun g hgg => ?_
          · rw [hcap, hfull.2]; exact p1
          · simp only [Value.ownBlock, Option.some.injEq] at hgg
            subst hgg
            exact ⟨.rowb k' l, by rw [hb], qN⟩
end
end Go.Px
namespace Go.Px
open Go.RowKit
def boundE (n : Nat) (d : Nat) : Option PV → Option Nat
  | none => some d
  | some (.v (.int _ i)) => if 0 ≤ i ∧ i ≤ n then some i.toNat else none
  | _ => none
def boundsE (n : Nat) (lo hi : Option PV) : Option (Nat × Nat) := match boundE n n hi with
  | none => none
  | some h => match boundE h 0 lo with
    | none => none
    | some l => some (l, h)
def boundC (n d : Nat) (x : Option PV) (k : Nat → Eff PV) : Eff PV := match x with
  | none => k d
  | some (.v (.int _ i)) => gdE (0 ≤ i ∧ i ≤ n) (k i.toNat)
  | _ => .fail
def boundsC (n : Nat) (lo hi : Option PV) (k : Nat → Nat → Eff PV) : Eff PV := boundC n n hi fun h => boundC h 0 lo fun l => k l h
theorem boundC_run {PC : Con} {n d : Nat} {x : Option PV} {k : Nat → Eff PV} {s s' : Sto} {v : PV} {r wr : List Nat} (h : (boundC n d x k).Run PC s v s' r wr) : ∃ m, boundE n d x = some m ∧ (k m).Run PC s v s' r wr := by
  unfold boundC at h
  split at h
  · exact ⟨d, rfl, h⟩
  · obtain ⟨hb, h⟩ : _ ∧ _ := h
    exact ⟨_, if_pos hb, h⟩
  · exact h.elim
theorem boundsC_run {PC : Con} {n : Nat} {lo hi : Option PV} {k : Nat → Nat → Eff PV} {s s' : Sto} {v : PV} {r wr : List Nat} (h : (boundsC n lo hi k).Run PC s v s' r wr) : ∃ p q, boundsE n lo hi = some (p, q) ∧ (k p q).Run PC s v s' r wr := by
  obtain ⟨m, h1, h⟩ := boundC_run h
  obtain ⟨l, h2, h⟩ := boundC_run h
  exact ⟨l, m, by unfold boundsE; rw [h1]; simp only; rw [h2], h⟩
def cutL {α : Type} (lo hi : Option PV) (l : List α) (p q : Nat) : List α := match lo, hi with
  | none, none => l
  | none, some _ => l.take q
  | some _, none => l.drop p
  | some _, some _ => (l.take q).drop p
theorem boundE_none {n d m : Nat} (h : boundE n d none = some m) : m = d := by cases h; rfl
theorem cutL_eq {α : Type} {lo hi : Option PV} {l : List α} {p q : Nat} (h : boundsE l.length lo hi = some (p, q)) : cutL lo hi l p q = (l.take q).drop p := by
  unfold boundsE at h
  split at h
  · cases h
  rename_i q' hq
  split at h
  · cases h
  rename_i p' hp
  cases h
  unfold cutL
  cases lo <;> cases hi <;> simp only
  · rw [boundE_none hq, boundE_none hp]; simp
  · rw [boundE_none hp]; simp
  · rw [boundE_none hq]; simp
def eSlice (t : TypeId) (x : PV) (lo hi : Option PV) : Eff PV := match x with
  | .v (.string s) => if isStrT t then boundsC s.size lo hi fun l h => .ret (.v (.string (s.extract l h))) else .fail
  | .row false k l => if slK t = some k then boundsC l.length lo hi fun p q => .ret (.row false k (cutL lo hi l p q)) else .fail
  | .ref id ver off n full => live id ver fun
    | .rowb k _ => if slK t = some k then boundsC n lo hi fun p q => .ret (.ref id ver (off + p) (q - p) (full && lo.isNone && hi.isNone)) else .fail
    | .rowd k _ => if slK t = some k then boundsC n lo hi fun p q => .ret (.ref id ver (off + p) (q - p) (full && lo.isNone && hi.isNone)) else .fail
    | .box _ => .fail
    | .objb _ => .fail
    | .iterb _ _ _ _ _ => .fail
    | .rowx _ _ _ _ => .fail
  | _ => .fail
section
variable {P : Program} {PC : Con} {X : Ctx} {nt : Nat} {Q : Exit → Act → World → Prop} {ε : Env} {a : Act} {w : World} {o : Oper} {v : PV} {s' : Sto} {r wr : List Nat}
theorem eLen_sound (hF : Facts P) {t : TypeId} {x : Operand} (ho : o.op = .call { callee := .builtin .len, args := #[x], argTypes := #[t] }) (hx : opndB nt x = true) (hg : Good X nt ε a w) (h : (eLen t (opd ε.t x)).Run PC ε.s v s' r wr) :
    o.wp P a w (fun a' w' => Good X nt ⟨putE o.dst v ε.t, s'⟩ a' w') Q := by
  obtain ⟨hs, hd, β, N, hst⟩ := id hg
  have hv := hst.opd hs hx
  have wfn : ∀ n : Nat, n ≤ 9223372036854775807 → wfV (.int .i64 n) := fun n hn => (wrap_iff .i64 _).2 (by simp [loK, hiK]; omega)
  have fin : ∀ (u : Value) (n : Nat), a.eval x = u → (Builtin.len_ #[t] o.type #[u]).run P w = .ok (.int .i64 n) w → n ≤ 9223372036854775807 → v = .v (.int .i64 n) → s' = ε.s → o.wp P a w (fun a' w' => Good X nt ⟨putE o.dst v ε.t, s'⟩ a' w') Q := by
    rintro u n he hrun hn rfl rfl
    refine sound_val hs hd hst ?_ ⟨rfl, wfn n hn⟩
    unfold execOp
    simp only [ho, resolve, invoke, builtin, Sem.run_bind, Sem.run_pure, Result.andThen_ok, List.map_toArray, List.map_cons, List.map_nil, he, hrun]
  have slen : ∀ (p : Option Addr) (n c : Nat), (slK t).isSome = true → (Builtin.len_ #[t] o.type #[.slice p n c]).run P w = .ok (.int .i64 n) w := by
    intro p n c hk
    obtain ⟨k, hk⟩ := Option.isSome_iff_exists.1 hk
    simp [Builtin.len_, run_underlying (hF.sl t k hk), goInt]
  unfold eLen at h
  split at h
  case h_5 => exact h.elim
  case h_1 =>
    rename_i s he
    rw [he] at hv
    split at h
    case isFalse => exact h.elim
    rename_i hst2
    obtain ⟨e1, e2, -, -⟩ : v = _ ∧ s' = _ ∧ r = [] ∧ wr = [] := h
    exact fin _ _ hv.1 (by simp [Builtin.len_, run_underlying (hF.str t hst2), goInt]) hv.2 e1 e2
  case h_2 =>
    rename_i he
    rw [he] at hv
    split at h
    case isFalse => exact h.elim
    rename_i hk
    obtain ⟨e1, e2, -, -⟩ : v = _ ∧ s' = _ ∧ r = [] ∧ wr = [] := h
    exact fin _ 0 hv (slen none 0 0 hk) (by omega) e1 e2
  case h_3 =>
    rename_i k l he
    rw [he] at hv
    split at h
    case isFalse => exact h.elim
    rename_i hk
    obtain ⟨e1, e2, -, -⟩ : v = _ ∧ s' = _ ∧ r = [] ∧ wr = [] := h
    obtain ⟨_, p, cap, e3, _, e4, _⟩ := hv
    exact fin _ _ e3 (slen p _ cap hk) e4 e1 e2
  case h_4 =>
    rename_i id ver off n full he
    rw [he] at hv
    obtain ⟨_, _, k3⟩ := hv
    obtain ⟨blk, r', hb, rfl, h⟩ := live_run h
    have go : ∀ (k : K) (l : List (ty k)), IsRow blk k l → (if (slK t).isSome then .ret (.v (.int .i64 n)) else .fail : Eff PV).Run PC ε.s v s' r' wr → o.wp P a w (fun a' w' => Good X nt ⟨putE o.dst v ε.t, s'⟩ a' w') Q := by
      intro k l hrw h
      split at h
      case isFalse => exact h.elim
      rename_i hk
      obtain ⟨e1, e2, -, -⟩ : v = _ ∧ s' = _ ∧ r' = [] ∧ wr = [] := h
      obtain ⟨q1, q2⟩ := k3 _ k l hb hrw
      have hh := row_head hrw (hst.blk id _ (by rw [hb]))
      have hl : l.length ≤ 9223372036854775807 := by
        rcases hh with ⟨_, e, _⟩ | ⟨b, cap, cur, _, _, h0, _⟩; (rw [e]; simp); exact h0
      rcases q2 with ⟨q2, q3⟩ | ⟨b, c, o2, q2, q3, q4, _⟩
      · have hn : n = 0 := by
          have : l = [] := by
            rcases hh with ⟨_, e, _⟩ | ⟨b, cap, cur, q, _⟩; exact e; simp_all
          subst this
          simp at q1; omega
        subst hn
        exact fin _ 0 q3 (slen none 0 0 hk) (by omega) e1 e2
      · exact fin _ n q4 (slen _ n c hk) (by omega) e1 e2
    cases blk with
    | box cs => exact h.elim
    | objb o => exact h.elim
    | iterb => exact h.elim
    | rowb k l => exact go k l .b h
    | rowd k l => exact go k l .d h
    | rowx k l i cs => exact go k l .x h
def OptR (R : PV → Value → Prop) : Option PV → Option Value → Prop
  | none, none => True
  | some p, some q => R p q
  | _, _ => False
theorem boundE_run {n d : Nat} {x : Option PV} {m : Nat} {S : Nat → Prop} {β : Nat → Option (Nat × Nat)} {σ : Sto} {u : Option Value} (hu : OptR (ValC S w β σ) x u) (h : boundE n d x = some m) :
    (u = none ∧ m = d) ∨ ∃ ik i, u = some (.int ik i) ∧ 0 ≤ i ∧ i ≤ n ∧ m = i.toNat := by
  cases x with
  | none =>
    cases u with
    | none => cases h; exact .inl ⟨rfl, rfl⟩
    | some q => exact hu.elim
  | some p =>
    cases u with
    | none => exact hu.elim
    | some q =>
      unfold boundE at h
      split at h
      · rename_i e; cases e
      · rename_i ik i e
        cases e
        split at h
        · rename_i hi
          cases h
          exact .inr ⟨ik, i, by rw [hu.1], hi.1, hi.2, rfl⟩
        · cases h
      · cases h
theorem bound_le {n d m : Nat} {x : Option PV} (hd : d ≤ n) (h : boundE n d x = some m) : m ≤ n := by
  unfold boundE at h
  split at h
  · cases h; exact hd
  · split at h
    · rename_i hi; cases h; omega
    · cases h
  · cases h
theorem run_sliceBound {u : Value} {ik : IntKind} {i : Int} {y : Nat} {c : BoundsCode} (hu : u = .int ik i) (h0 : 0 ≤ i) (h1 : i ≤ y) : (Instr.sliceBound u y c).run P w = .ok i.toNat w := by
  subst hu
  simp [Instr.sliceBound, asIntOf, h0, h1]
theorem run_bounds {isS : Bool} {len cap : Nat} {lo hi : Option PV} {ul uh : Option Value} {S : Nat → Prop} {β : Nat → Option (Nat × Nat)} {σ : Sto} {p q : Nat} (hl : OptR (ValC S w β σ) lo ul) (hh : OptR (ValC S w β σ) hi uh) (hc : len ≤ cap)
    (h : boundsE len lo hi = some (p, q)) : (Instr.sliceBounds isS len cap ul uh none).run P w = .ok (p, q, cap) w ∧ p ≤ q ∧ q ≤ len := by
  unfold boundsE at h
  split at h
  · cases h
  rename_i hv hhv
  split at h
  · cases h
  rename_i lv hlv
  cases h
  have hq : q ≤ len := bound_le (Nat.le_refl _) hhv
  have hp : p ≤ q := bound_le (Nat.zero_le _) hlv
  refine ⟨?_, hp, hq⟩
  rcases boundE_run hh hhv with ⟨rfl, rfl⟩ | ⟨ik, i, rfl, h0, h1, rfl⟩
  · rcases boundE_run hl hlv with ⟨rfl, rfl⟩ | ⟨ik, i, rfl, h0, h1, rfl⟩
    · simp [Instr.sliceBounds]
    · simp [Instr.sliceBounds, run_sliceBound (P := P) (w := w) rfl h0 h1]
  · have h2 : i ≤ (cap : Int) := by omega
    rcases boundE_run hl hlv with ⟨rfl, rfl⟩ | ⟨ik', i', rfl, h0', h1', rfl⟩
    · simp [Instr.sliceBounds, run_sliceBound (P := P) (w := w) rfl h0 h2]
    · simp [Instr.sliceBounds, run_sliceBound (P := P) (w := w) rfl h0 h2, run_sliceBound (P := P) (w := w) rfl h0' h1']
end
end Go.Px
namespace Go.Px
open Go.RowKit
section
variable {P : Program} {PC : Con} {X : Ctx} {nt : Nat} {Q : Exit → Act → World → Prop} {ε : Env} {a : Act} {w : World} {o : Oper} {v : PV} {s' : Sto} {r wr : List Nat}
theorem row_sub {S : Nat → Prop} {k : K} {p : Option Addr} {n c : Nat} {l : List (ty k)} (h : Row S w k (.slice p n c) l) {i j m : Nat} (hij : i ≤ j) (hj : j ≤ l.length) (hm : m ≤ c) (hjm : j ≤ m) :
    Row S w k (.slice (if m = i then p else p.map (·.add (i * size k))) (j - i) (m - i)) ((l.take j).drop i) := by
  obtain ⟨p', cap, e, h1, h2, h3⟩ := h
  cases e
  have hlen : ((l.take j).drop i).length = j - i := by rw [List.length_drop, List.length_take]; omega
  refine ⟨_, m - i, by rw [hlen], by omega, by omega, fun hne => ?_⟩
  have hji : i < j := by
    rcases Nat.lt_or_ge i j with h | h
    · exact h
    · exfalso; apply hne; apply List.eq_nil_of_length_eq_zero; omega
  obtain ⟨b, off, rfl, hb, h4⟩ := h3 (by intro e; rw [e] at hj; simp at hj; omega)
  rw [if_neg (by omega)]
  refine ⟨b, off + i * size k, by simp [addr_add], hb, fun i' x hx j' lf hlf => ?_⟩
  have hi' : i' < j - i := by have := (List.getElem?_eq_some_iff.1 hx).1; omega
  rw [List.getElem?_drop, List.getElem?_take, if_pos (by omega)] at hx
  obtain ⟨u, hu, h5⟩ := h4 (i + i') x hx j' lf hlf
  exact ⟨u, by rw [Nat.add_mul] at hu; rw [show off + i * size k + i' * size k + j' = off + (i * size k + i' * size k) + j' by omega]; exact hu, h5⟩
theorem opt_rel {β : Nat → Option (Nat × Nat)} {N : Nat → List Nat} (hst : St X ε w a.tmps β N) (hs : a.tmps.size = nt) {x : Option Operand} (hx : ∀ y, x = some y → opndB nt y = true) : OptR (ValC (Fz X w N ε.s) w β ε.s) (x.map (opd ε.t)) (x.map a.eval) := by
  cases x with
  | none => trivial
  | some y => exact hst.opd hs (hx y rfl)
theorem eSlice_sound (hF : Facts P) {t : TypeId} {x : Operand} {lo hi : Option Operand} (ho : o.op = .slice t x lo hi none) (hx : opndB nt x = true) (hlo : ∀ y, lo = some y → opndB nt y = true) (hhi : ∀ y, hi = some y → opndB nt y = true) (hg : Good X nt ε a w)
    (h : (eSlice t (opd ε.t x) (lo.map (opd ε.t)) (hi.map (opd ε.t))).Run PC ε.s v s' r wr) : o.wp P a w (fun a' w' => Good X nt ⟨putE o.dst v ε.t, s'⟩ a' w') Q := by
  obtain ⟨hs, hd, β, N, hst⟩ := id hg
  have hv := hst.opd hs hx
  have hl := opt_rel hst hs hlo
  have hh := opt_rel hst hs hhi
  have ex : ∀ (u q : Value), a.eval x = u → (Instr.sliceAt t u (lo.map a.eval) (hi.map a.eval) none).run P w = .ok q w → (execOp a.eval o).run P w = .ok (.value q) w := by
    intro u q he hrun
    unfold execOp
    simp only [ho, he, Sem.run_bind, Sem.run_pure, Result.andThen_ok, Option.map_none, hrun]
  unfold eSlice at h
  split at h
  case h_4 => exact h.elim
  case h_1 =>
    rename_i s he
    rw [he] at hv
    split at h
    case isFalse => exact h.elim
    rename_i ht
    obtain ⟨p, q, hb, h⟩ := boundsC_run h
    obtain ⟨rfl, rfl, -, -⟩ : v = _ ∧ s' = _ ∧ r = [] ∧ wr = [] := h
    obtain ⟨h1, h2, h3⟩ := run_bounds (P := P) (w := w) (isS := false) hl hh (Nat.le_refl _) hb
    refine sound_val hs hd hst (ex _ (.string (s.extract p q)) hv.1 ?_) ⟨rfl, ?_⟩
    · simp [Instr.sliceAt, run_underlying (hF.str t ht), Instr.slice, h1]
    · have := hv.2
      show (s.extract p q).size ≤ _
      have h4 : (s.extract p q).size ≤ s.size := by rw [ByteArray.size_extract]; omega
      have h5 : s.size ≤ 9223372036854775807 := hv.2
      omega
  case h_2 =>
    rename_i k l he
    rw [he] at hv
    split at h
    case isFalse => exact h.elim
    rename_i hk
    obtain ⟨p, q, hb, h⟩ := boundsC_run h
    rw [cutL_eq hb] at h
    obtain ⟨rfl, rfl, -, -⟩ : v = _ ∧ s' = _ ∧ r = [] ∧ wr = [] := h
    obtain ⟨_, hrow⟩ := hv
    obtain ⟨pa, cap, e1, e2, _⟩ := id hrow
    obtain ⟨h1, h2, h3⟩ := run_bounds (P := P) (w := w) (isS := true) hl hh e2 hb
    obtain ⟨i, z, q1, q2, q3, q4, q5, -⟩ := hF.el k
    rw [e1] at hrow
    refine sound_val hs hd hst (ex _ _ e1 ?_) ⟨rfl, row_sub hrow h2 h3 (Nat.le_refl _) (Nat.le_trans h3 e2)⟩
    simp [Instr.sliceAt, run_underlying (hF.sl t k hk), Instr.slice, h1, sizeOf, typeInfo, q1, q3]
  case h_3 =>
    rename_i id ver off n full he
    rw [he] at hv
    obtain ⟨k1, _, k3⟩ := hv
    obtain ⟨blk, r', hb, rfl, h⟩ := live_run h
    have go : ∀ (k : K) (l : List (ty k)), IsRow blk k l → (if slK t = some k then boundsC n (lo.map (opd ε.t)) (hi.map (opd ε.t)) fun p q => .ret (.ref id ver (off + p) (q - p) (full && (lo.map (opd ε.t)).isNone && (hi.map (opd ε.t)).isNone)) else .fail : Eff PV).Run PC ε.s v s' r' wr → o.wp P a w (fun a' w' => Good X nt ⟨putE o.dst v ε.t, s'⟩ a' w') Q := by
      intro k l hrw h
      split at h
      case isFalse => exact h.elim
      rename_i hk
      obtain ⟨p, q, hbd, h⟩ := boundsC_run h
      obtain ⟨rfl, rfl, -, -⟩ : v = _ ∧ s' = _ ∧ r' = [] ∧ wr = [] := h
      obtain ⟨i, z, q1, q2, q3, q4, q5, -⟩ := hF.el k
      obtain ⟨e1, e2⟩ := k3 _ k l hb hrw
      have run : ∀ (pa : Option Addr) (c : Nat), n ≤ c → a.eval x = .slice pa n c → (execOp a.eval o).run P w = .ok (.value (.slice (if c = p then pa else pa.map (·.add (p * size k))) (q - p) (c - p))) w ∧ p ≤ q ∧ q ≤ n := by
        intro pa c hc he
        obtain ⟨h1, h2, h3⟩ := run_bounds (P := P) (w := w) (isS := true) hl hh hc hbd
        exact ⟨ex _ _ he (by simp [Instr.sliceAt, run_underlying (hF.sl t k hk), Instr.slice, h1, sizeOf, typeInfo, q1, q3]), h2, h3⟩
      rcases e2 with ⟨e2, e3⟩ | ⟨b, c, o2, e2, e3, e4, e5, e6⟩
      · have hn : n = 0 := by
          have hblk := row_head hrw (hst.blk id _ (by rw [hb]))
          have : l = [] := by
            rcases hblk with ⟨_, e, _⟩ | ⟨b, cap, cur, q, _⟩; exact e; simp_all
          subst this
          simp at e1; omega
        subst hn
        obtain ⟨h1, h2, h3⟩ := run none 0 (Nat.le_refl _) e3
        have hq0 : q = 0 := by omega
        have hp0 : p = 0 := by omega
        subst hq0 hp0
        refine sound_val hs hd hst h1 ⟨k1, ⟨_, _, _, rfl⟩, fun blk2 k2 l2 hb2 hr2 => ?_⟩
        rw [hb] at hb2
        cases hb2
        cases hrw.same hr2
        exact ⟨by omega, .inl ⟨e2, by simp⟩⟩
      · obtain ⟨h1, h2, h3⟩ := run _ c e3 e4
        refine sound_val hs hd hst h1 ⟨k1, ⟨_, _, _, rfl⟩, fun blk2 k2 l2 hb2 hr2 => ?_⟩
        rw [hb] at hb2
        cases hb2
        cases hrw.same hr2
        refine ⟨by omega, .inr ⟨b, c - p, if c = p then o2 else o2 + p * size k, e2, by omega, ?_, fun hz => ?_, fun hf => ?_⟩⟩
        · split
          · rfl
          · simp [addr_add]
        · rcases hz with hz | hz
          · rw [if_neg (by omega), e5 (.inl (by omega)), Nat.add_mul]
          · simp only [Bool.and_eq_true] at hz
            obtain ⟨⟨hz1, hz2⟩, hz3⟩ := hz
            have hlo : lo = none := by cases lo <;> simp_all
            have hp0 : p = 0 := by
              subst hlo
              unfold boundsE at hbd
              split at hbd
              · cases hbd
              · simp only [Option.map_none, boundE] at hbd
                cases hbd; rfl
            subst hp0
            have := e5 (.inr hz1)
            split <;> simp_all
        · simp only [Bool.and_eq_true] at hf
          obtain ⟨⟨hz1, hz2⟩, hz3⟩ := hf
          have hlo : lo = none := by cases lo <;> simp_all
          have hhi : hi = none := by cases hi <;> simp_all
          subst hlo hhi
          simp only [Option.map_none, boundsE, boundE, Option.some.injEq, Prod.mk.injEq] at hbd
          obtain ⟨rfl, rfl⟩ := hbd
          obtain ⟨f1, f2, f3⟩ := e6 hz1
          exact ⟨by omega, by omega, fun cur E fz hh => by rw [Nat.sub_zero]; exact f3 cur E fz hh⟩
    cases blk with
    | box cs => exact h.elim
    | objb o => exact h.elim
    | iterb => exact h.elim
    | rowb k l => exact go k l .b h
    | rowd k l => exact go k l .d h
    | rowx k l i cs => exact h.elim
end
end Go.Px
namespace Go.Px
open Go.RowKit
def closeS (s : Sto) : PV → Option (PV × List Nat × List Nat)
  | .v x => some (.v x, [], [])
  | .nil => some (.nil, [], [])
  | .row false k l => some (.row false k l, [], [])
  | .eptr k l i j => some (.eptr k l i j, [], [])
  | .ref id ver off n full => match s id with
    | ⟨v, some (.rowb k l)⟩ => if v = ver then
        if full = true then some (.row true k l, [id], []) else some (.row false k ((l.drop off).take n), [], [id])
      else none
    | ⟨v, some (.rowd k l)⟩ => if v = ver then
        if full = true then some (.drow k l, [id], []) else some (.row false k ((l.drop off).take n), [], [id])
      else none
    | _ => none
  | .ptr id ver _ j => match s id with
    | ⟨v, some (.objb o)⟩ => if v = ver ∧ j = 0 then some (.obj o, [id], []) else none
    | _ => none
  | .un => some (.dead, [], [])
  | .dead => some (.dead, [], [])
  | _ => none
def closeL (s : Sto) : List PV → Option (List PV × List Nat × List Nat)
  | [] => some ([], [], [])
  | p :: ps => match closeS s p, closeL s ps with
    | some (q, a, b), some (qs, c, d) => some (q :: qs, a ++ c, b ++ d)
    | _, _ => none
def close1 (s : Sto) : PV → Option (PV × List Nat × List Nat)
  | .agg cs => match closeL s cs with
    | some (qs, a, b) => some (.agg qs, a, b)
    | none => none
  | p => closeS s p
section
variable {P : Program} {PC : Con} {X : Ctx} {nt : Nat} {Q : Exit → Act → World → Prop} {ε : Env} {a : Act} {w : World} {o : Oper} {v : PV} {s' : Sto} {r wr : List Nat}
theorem closeS_spec {β : Nat → Option (Nat × Nat)} {N : Nat → List Nat} {tm : Array Value} {S' : Nat → Prop} {β' : Nat → Option (Nat × Nat)} {σ' : Sto} (h : St X ε w tm β N) (hF : ∀ b, Fz X w N ε.s b → S' b) {p q : PV} {u : Value} {A B : List Nat} (hv : ValS (Fz X w N ε.s) w β ε.s p u) (hc : closeS ε.s p = some (q, A, B))
    (hB : ∀ id ∈ B, ∀ b ∈ N id, S' b) : (∀ id ∈ A, ∃ blk, (ε.s id).blk = some blk) ∧ OwnS S' w β' σ' q u (A.map N).flatten := by
  unfold closeS at hc
  split at hc
  · cases hc; exact ⟨by simp, rfl, hv⟩
  · cases hc; exact ⟨by simp, rfl, hv⟩
  · cases hc; exact ⟨by simp, rfl, rfl, hv.2.mono hF fun b o u _ hu => hu⟩
  · cases hc
    obtain ⟨b, off, h1, h2, h3⟩ := hv
    exact ⟨by simp, rfl, b, off, h1, h2, h3.mono hF fun b o u _ hu => hu⟩
  · rename_i id ver off n full
    have hv0 : RefC w β ε.s id ver off n full u := hv
    obtain ⟨_, _, k3⟩ := hv
    split at hc
    · rename_i v k l hs
      split at hc
      · rename_i hver
        subst hver
        obtain ⟨e1, e2⟩ := k3 _ k l hs .b
        split at hc
        · rename_i hf
          cases hc
          refine ⟨fun i hi => by have hi2 := List.mem_singleton.1 hi; subst hi2; exact ⟨_, by rw [hs]⟩, ?_⟩
          have hblk := h.blk id _ (by rw [hs])
          show Own S' w k u l _
          simp only [List.map_cons, List.map_nil, List.flatten_cons, List.flatten_nil, List.append_nil]
          rcases e2 with ⟨e2, e3⟩ | ⟨b, c, o2, e2, e3, e4, e5, e6⟩
          · rcases hblk with ⟨_, f1, f2⟩ | ⟨b, cap, cur, q, _⟩
            · exact .inl ⟨e3, f1, f2⟩
            · rw [e2] at q; cases q
          · rcases hblk with ⟨e, _⟩ | ⟨b', cap, cur, q1, q2, q3⟩
            · rw [e2] at e; cases e
            · rw [e2] at q1; cases q1
              obtain ⟨f1, f2, f3⟩ := e6 hf
              have ho2 : o2 = 0 := by have h9 := e5 (.inr hf); rw [f1, Nat.zero_mul] at h9; exact h9
              subst ho2
              have hcap : c = cap := by
                obtain ⟨fz, hh, _⟩ := q3.2.1
                have h12 := f3 cur _ fz hh
                have h7 := q3.2.2.2.2.1
                rw [h12] at h7
                exact Nat.eq_of_mul_eq_mul_right (size_pos _) h7
              subst hcap
              exact .inr ⟨b, c, cur, by rw [e4, f2], q2, q3.mono rfl hF fun _ _ _ _ h => h⟩
        · cases hc
          exact ⟨by simp, rfl, rfl, RefC.view h hv0 hs .b hF (hB id (by simp))⟩
      · cases hc
    · rename_i v k l hs
      split at hc
      · rename_i hver
        subst hver
        obtain ⟨e1, e2⟩ := k3 _ k l hs .d
        split at hc
        · rename_i hf
          cases hc
          refine ⟨fun i hi => by have hi2 := List.mem_singleton.1 hi; subst hi2; exact ⟨_, by rw [hs]⟩, ?_⟩
          have hblk := h.blk id _ (by rw [hs])
          show DOwn w k u l _
          simp only [List.map_cons, List.map_nil, List.flatten_cons, List.flatten_nil, List.append_nil]
          rcases e2 with ⟨e2, e3⟩ | ⟨b, c, o2, e2, e3, e4, e5, e6⟩
          · rcases hblk with ⟨_, f1, f2⟩ | ⟨b, cap, cur, L, q, _⟩
            · exact DOwn_iff.2 (.inl ⟨e3, f1, f2⟩)
            · rw [e2] at q; cases q
          · rcases hblk with ⟨e, _⟩ | ⟨b', cap, cur, L, q1, q2, q3⟩
            · rw [e2] at e; cases e
            · rw [e2] at q1; cases q1
              obtain ⟨f1, f2, f3⟩ := e6 hf
              have ho2 : o2 = 0 := by have h9 := e5 (.inr hf); rw [f1, Nat.zero_mul] at h9; exact h9
              subst ho2
              have hcap : c = cap := by
                obtain ⟨fz, hh, _⟩ := q3.2.1
                have h12 := f3 cur _ fz hh
                have h7 := q3.2.2.2.2.1
                rw [h12] at h7
                exact Nat.eq_of_mul_eq_mul_right (size_pos _) h7
              subst hcap
              exact DOwn_iff.2 (.inr ⟨b, c, cur, L, by rw [e4, f2], q2, q3⟩)
        · cases hc
          exact ⟨by simp, rfl, rfl, RefC.view h hv0 hs .d hF (hB id (by simp))⟩
      · cases hc
    · cases hc
  · rename_i id ver i0 j
    obtain ⟨_, _, k3⟩ := hv
    split at hc
    · rename_i v o hs
      split at hc
      · rename_i hver
        obtain ⟨rfl, rfl⟩ := hver
        cases hc
        obtain ⟨b, off, e1, e2⟩ := k3 _ hs
        obtain ⟨rfl, e3⟩ := e2 rfl
        obtain ⟨b', f1, f2, f3⟩ := h.blk id _ (by rw [hs])
        rw [e1] at f1; cases f1
        refine ⟨fun i hi => by have hi2 := List.mem_singleton.1 hi; subst hi2; exact ⟨_, by rw [hs]⟩, b, e3, ?_, f3⟩
        simp only [List.map_cons, List.map_nil, List.flatten_cons, List.flatten_nil, List.append_nil, f2]
      · cases hc
    · cases hc
  · cases hc; exact ⟨by simp, rfl, trivial⟩
  · cases hc; exact ⟨by simp, rfl, trivial⟩
  · cases hc
end
end Go.Px
namespace Go.Px
open Go.RowKit
def cellsAt (ag : Bool) (cs : List PV) (j n : Nat) : Option PV := if j + n ≤ cs.length then (if ag then some (.agg ((cs.drop j).take n)) else match (cs.drop j).take n with
  | [c] => some c
  | _ => none) else none
def res1 (nt : Nat) (ε : Env) : ResultVar → Option PV
  | .tmp t => if t < nt then some (ε.t t) else none
  | .cell p t => if p < nt then (match tyB t, ε.t p with
    | some (ag, n), .ptr id ver _ j => match ε.s id with
      | ⟨v, some (.box cs)⟩ => if v = ver then cellsAt ag cs j n else none
      | _ => none
    | _, _ => none) else none
def resL (nt : Nat) (ε : Env) : List ResultVar → Option (List PV)
  | [] => some []
  | x :: xs => match res1 nt ε x, resL nt ε xs with
    | some v, some vs => some (v :: vs)
    | _, _ => none
def oneOr (qs : List PV) : PV := match qs with
  | [q] => q
  | _ => .tup qs
def nodupB : List Nat → Bool
  | [] => true
  | x :: xs => !xs.contains x && nodupB xs
def noOwnS : PV → Bool
  | .row true _ _ | .ref .. | .ptr .. | .obj _ | .drow .. | .gb .. => false
  | .fn _ caps => caps.isEmpty
  | _ => true
section
variable {P : Program} {PC : Con} {X : Ctx} {nt : Nat} {Q : Exit → Act → World → Prop} {ε : Env} {a : Act} {w : World} {o : Oper} {v : PV} {s' : Sto} {r wr : List Nat}
theorem nodupB_spec : ∀ {l : List Nat}, nodupB l = true → l.Nodup
  | [], _ => List.nodup_nil
  | x :: xs, h => by
    simp only [nodupB, Bool.and_eq_true, Bool.not_eq_true', List.contains_eq_mem, decide_eq_false_iff_not] at h
    exact List.nodup_cons.2 ⟨h.1, nodupB_spec h.2⟩
theorem closeL_spec {β : Nat → Option (Nat × Nat)} {N : Nat → List Nat} {tm : Array Value} {S' : Nat → Prop} {β' : Nat → Option (Nat × Nat)} {σ' : Sto} (h : St X ε w tm β N) (hF : ∀ b, Fz X w N ε.s b → S' b) :
    ∀ {ps qs : List PV} {us : List Value} {A B : List Nat}, All2 (ValS (Fz X w N ε.s) w β ε.s) ps us → closeL ε.s ps = some (qs, A, B) → (∀ id ∈ B, ∀ b ∈ N id, S' b) → (∀ id ∈ A, ∃ blk, (ε.s id).blk = some blk) ∧ All3 (OwnS S' w β' σ') qs us (A.map N).flatten
  | [], qs, [], A, B, _, hc, _ => by cases hc; exact ⟨by simp, rfl⟩
  | p :: ps, qs, u :: us, A, B, ⟨h1, h2⟩, hc, hB => by
    unfold closeL at hc
    split at hc
    · rename_i q a b qs' c d e1 e2
      cases hc
      obtain ⟨k1, k2⟩ := closeS_spec (β' := β') (σ' := σ') h hF h1 e1 (fun id hid => hB id (List.mem_append.2 (.inl hid)))
      obtain ⟨k3, k4⟩ := closeL_spec (β' := β') (σ' := σ') h hF h2 e2 (fun id hid => hB id (List.mem_append.2 (.inr hid)))
      refine ⟨fun id hid => (List.mem_append.1 hid).elim (k1 id) (k3 id), _, _, ?_, k2, k4⟩
      rw [List.map_append, List.flatten_append]
    · cases hc
  | [], _, _ :: _, _, _, h, _, _ => h.elim
  | _ :: _, _, [], _, _, h, _, _ => h.elim
theorem close1_spec {β : Nat → Option (Nat × Nat)} {N : Nat → List Nat} {tm : Array Value} {S' : Nat → Prop} {β' : Nat → Option (Nat × Nat)} {σ' : Sto} (h : St X ε w tm β N) (hF : ∀ b, Fz X w N ε.s b → S' b) {p q : PV} {u : Value} {A B : List Nat} (hv : ValC (Fz X w N ε.s) w β ε.s p u) (hc : close1 ε.s p = some (q, A, B))
    (hB : ∀ id ∈ B, ∀ b ∈ N id, S' b) : (∀ id ∈ A, ∃ blk, (ε.s id).blk = some blk) ∧ Own1 S' w β' σ' q u (A.map N).flatten := by
  by_cases ha : ∃ cs, p = .agg cs
  · obtain ⟨cs, rfl⟩ := ha
    obtain ⟨us, rfl, hv⟩ := hv
    unfold close1 at hc
    split at hc
    · rename_i cs' e
      cases e
      split at hc
      · rename_i qs a b e
        cases hc
        obtain ⟨k1, k2⟩ := closeL_spec (β' := β') (σ' := σ') h hF hv e hB
        exact ⟨k1, us, rfl, k2⟩
      · cases hc
    · rename_i hne; exact absurd rfl (hne cs)
  · have hc' : closeS ε.s p = some (q, A, B) := by
      unfold close1 at hc
      split at hc
      · exact absurd ⟨_, rfl⟩ ha
      · exact hc
    have hnt : ∀ vs, p ≠ .tup vs := by rintro vs rfl; cases hc'
    obtain ⟨k1, k2⟩ := closeS_spec (β' := β') (σ' := σ') h hF (hv.vs (fun cs e => ha ⟨cs, e⟩) hnt) hc' hB
    refine ⟨k1, ?_⟩
    have hqa : ∀ cs, q ≠ .agg cs := by
      rintro cs rfl
      unfold closeS at hc'
      repeat (split at hc' <;> try cases hc')
    cases q <;> first | exact k2 | exact absurd rfl (hqa _)
theorem St.nodups {β : Nat → Option (Nat × Nat)} {N : Nat → List Nat} {tm : Array Value} (h : St X ε w tm β N) : ∀ {A : List Nat}, A.Nodup → (∀ id ∈ A, ∃ blk, (ε.s id).blk = some blk) → (A.map N).flatten.Nodup
  | [], _, _ => by simp
  | x :: xs, hn, hl => by
    obtain ⟨h1, h2⟩ := List.nodup_cons.1 hn
    obtain ⟨b, hb⟩ := hl x (by simp)
    simp only [List.map_cons, List.flatten_cons, List.nodup_append]
    refine ⟨h.nodup x b hb, h.nodups h2 fun id hid => hl id (by simp [hid]), fun y hy z hz e => ?_⟩
    subst e
    obtain ⟨q, hq, hz⟩ := List.mem_flatten.1 hz
    obtain ⟨id, hid, rfl⟩ := List.mem_map.1 hq
    obtain ⟨b', hb'⟩ := hl id (by simp [hid])
    exact h.disj x id b b' hb hb' (fun e => h1 (e ▸ hid)) y hy hz
end
end Go.Px
namespace Go.Px
open Go.RowKit
section
variable {P : Program} {PC : Con} {X : Ctx} {nt : Nat} {Q : Exit → Act → World → Prop} {ε : Env} {a : Act} {w : World} {o : Oper} {v : PV} {s' : Sto} {r wr : List Nat}
def LiveL (s : Sto) (B : List Nat) : Prop := ∀ id ∈ B, ∃ blk, (s id).blk = some blk
theorem LiveL.nil {s : Sto} : LiveL s [] := by simp [LiveL]
theorem LiveL.app {s : Sto} {A B : List Nat} (h1 : LiveL s A) (h2 : LiveL s B) : LiveL s (A ++ B) := fun id hid => (List.mem_append.1 hid).elim (h1 id) (h2 id)
theorem closeS_live {s : Sto} {p q : PV} {A B : List Nat} (hc : closeS s p = some (q, A, B)) : LiveL s A ∧ LiveL s B := by
  unfold closeS at hc
  split at hc
  case h_5 =>
    split at hc
    · rename_i hs
      have hl : LiveL s [_] := fun id hid => by have e := List.mem_singleton.1 hid; subst e; exact ⟨_, by rw [hs]⟩
      split at hc
      · split at hc
        · cases hc; exact ⟨hl, LiveL.nil⟩
        · cases hc; exact ⟨LiveL.nil, hl⟩
      · cases hc
    · rename_i hs
      have hl : LiveL s [_] := fun id hid => by have e := List.mem_singleton.1 hid; subst e; exact ⟨_, by rw [hs]⟩
      split at hc
      · split at hc
        · cases hc; exact ⟨hl, LiveL.nil⟩
        · cases hc; exact ⟨LiveL.nil, hl⟩
      · cases hc
    · cases hc
  case h_6 =>
    split at hc
    · rename_i hs
      have hl : LiveL s [_] := fun id hid => by have e := List.mem_singleton.1 hid; subst e; exact ⟨_, by rw [hs]⟩
      split at hc
      · cases hc; exact ⟨hl, LiveL.nil⟩
      · cases hc
    · cases hc
  all_goals first | (cases hc; exact ⟨LiveL.nil, LiveL.nil⟩) | cases hc
theorem closeL_live {s : Sto} : ∀ {ps qs : List PV} {A B : List Nat}, closeL s ps = some (qs, A, B) → LiveL s A ∧ LiveL s B
  | [], _, _, _, hc => by cases hc; exact ⟨LiveL.nil, LiveL.nil⟩
  | p :: ps, _, _, _, hc => by
    unfold closeL at hc
    split at hc
    · rename_i e1 e2
      cases hc
      obtain ⟨k1, k2⟩ := closeS_live e1
      obtain ⟨k3, k4⟩ := closeL_live e2
      exact ⟨k1.app k3, k2.app k4⟩
    · cases hc
theorem res1_run (hF : Facts P) {β : Nat → Option (Nat × Nat)} {N : Nat → List Nat} (hst : St X ε w a.tmps β N) (hs : a.tmps.size = nt) {x : ResultVar} {v : PV} (h : res1 nt ε x = some v) :
    ∃ u, ((match x with | .tmp t => pure (a.tmps.getD t undef) | .cell p t => do loadVar t (← asAddr (a.tmps.getD p undef)) : Sem Value)).run P w = .ok u w ∧ ValC (Fz X w N ε.s) w β ε.s v u := by
  cases x with
  | tmp t =>
    simp only [res1] at h
    split at h
    · rename_i hlt
      cases h
      have hlt' : t < a.tmps.size := by rw [hs]; exact hlt
      exact ⟨a.tmps[t], by simp [Array.getD, hlt', Sem.run_pure], hst.tmp t _ (by simp [hlt'])⟩
    · cases h
  | cell p t =>
    simp only [res1] at h
    split at h
    case isFalse => cases h
    rename_i hlt
    have hlt' : p < a.tmps.size := by rw [hs]; exact hlt
    have hv := hst.tmp p a.tmps[p] (by simp [hlt'])
    split at h
    case h_2 => cases h
    rename_i ag n id ver i j ht he
    rw [he] at hv
    obtain ⟨_, _, k3⟩ := hv
    split at h
    case h_2 => cases h
    rename_i v2 cs hid
    split at h
    case isFalse => cases h
    rename_i hver
    subst hver
    obtain ⟨b, off, hβ, hp⟩ := k3 _ hid
    obtain ⟨b', off', hβ', hc⟩ := blk_cells_box (hst.blk id _ (by rw [hid]))
    rw [hβ] at hβ'; cases hβ'
    have hr : (rangeV ag cs j n).Run (fun _ _ _ _ _ => False) ε.s v ε.s [] [] := by
      unfold cellsAt at h
      unfold rangeV mkVal
      split at h
      · rename_i hlen
        rw [if_pos hlen]
        cases ag with
        | true => cases h; exact ⟨rfl, rfl, rfl, rfl⟩
        | false =>
          simp only [Bool.false_eq_true, if_false] at h ⊢
          split at h
          · rename_i c hcs; cases h; rw [hcs]; exact ⟨rfl, rfl, rfl, rfl⟩
          · cases h
      · cases h
    obtain ⟨_, u, hrun, hvv⟩ := rangeV_run hF ht hr hc
    refine ⟨u, ?_, hvv⟩
    have : a.tmps.getD p undef = .pointer (some ⟨b, off + j, none⟩) := by simp [Array.getD, hlt']; exact hp
    simp only [this, asAddr, Sem.run_bind, Sem.run_pure, Result.andThen_ok, hrun]
def resS (tmps : Array Value) : ResultVar → Sem Value
  | .tmp t => pure (tmps.getD t undef)
  | .cell p t => do loadVar t (← asAddr (tmps.getD p undef))
theorem resL_run (hF : Facts P) {β : Nat → Option (Nat × Nat)} {N : Nat → List Nat} (hst : St X ε w a.tmps β N) (hs : a.tmps.size = nt) : ∀ {rs : List ResultVar} {vs : List PV}, resL nt ε rs = some vs →
    ∃ us : List Value, (rs.mapM (resS a.tmps)).run P w = Result.ok us w ∧ All2 (ValC (Fz X w N ε.s) w β ε.s) vs us
  | [], _, h => by cases h; exact ⟨[], by simp [Sem.run_pure], trivial⟩
  | x :: xs, _, h => by
    unfold resL at h
    split at h
    · rename_i v vs h1 h2
      cases h
      obtain ⟨u, hu, hv⟩ := res1_run hF hst hs h1
      obtain ⟨us, hus, hall⟩ := resL_run hF hst hs h2
      refine ⟨u :: us, ?_, hv, hall⟩
      have hu' : (resS a.tmps x).run P w = .ok u w := by cases x <;> exact hu
      rw [List.mapM_cons]
      simp only [Sem.run_bind, hu', Result.andThen_ok, hus, Sem.run_pure]
    · cases h
def oneVal (us : List Value) : Value := match us with
  | [u] => u
  | _ => .tuple us.toArray
theorem results_run {fn : Func} {us : List Value} (h : (fn.results.toList.mapM (resS a.tmps)).run P w = Result.ok us w) : (results fn a.tmps).run P w = Result.ok (oneVal us) w := by
  have e : results fn a.tmps = (do let vs ← fn.results.mapM (resS a.tmps); pure (if h : vs.size = 1 then vs[0] else .tuple vs)) := by
    unfold results
    congr 1
  rw [e]
  have e2 : fn.results.mapM (resS a.tmps) = List.toArray <$> fn.results.toList.mapM (resS a.tmps) := by
    rw [← List.mapM_toArray]
  rw [e2]
  simp only [Sem.run_bind, map_eq_pure_bind, h, Result.andThen_ok, Sem.run_pure]
  match us with
  | [] => rfl
  | [u] => rfl
  | u :: u2 :: us => simp [oneVal]
end
end Go.Px
namespace Go.Px
open Go.RowKit
inductive wkD : PV → PV → Prop
  | nil (k : K) : wkD .nil (.drow k [])
  | row (k : K) (l : List (ty k)) : wkD (.drow k l) (.row false k l)
  | own (k : K) (l : List (ty k)) : wkD (.drow k l) (.row true k l)
  | flat (k : K) (l : List (ty k)) (h : flat k = true) : wkD (.row true k l) (.drow k l)
def wkS (p q : PV) : Prop := p = q ∨ (p = .nil ∧ ∃ o k, q = .row o k []) ∨ (∃ k l, p = .row true k l ∧ q = .row false k l) ∨ (∃ x lf, p = .v x ∧ q = leafPV lf ∧ (wfV x → lf = .sc x)) ∨ wkD p q
def wk1 (p q : PV) : Prop := wkS p q ∨ ∃ cs ds, p = .agg cs ∧ q = .agg ds ∧ All2 wkS cs ds
def Wk (w : World) (S1 : Nat → Prop) (u : Value) (L : List Nat) (R : (Nat → Prop) → List Nat → Prop) : Prop :=
  ∃ L' : List Nat, L'.Sublist L ∧ ∀ S2 : Nat → Prop, (∀ b, S1 b → S2 b) → (∀ b ∈ L, b ∉ L' → S2 b) → R S2 L'
section
variable {w : World} {β : Nat → Option (Nat × Nat)} {σ : Sto}
theorem OwnS.up {S1 S2 : Nat → Prop} {p : PV} {u : Value} {L : List Nat} (h : OwnS S1 w β σ p u L) (hS : ∀ b, S1 b → S2 b) : OwnS S2 w β σ p u L := by
  have T : Tr S1 S2 w w β β σ σ := ⟨fun h => h.mono hS fun _ _ _ _ h => h, fun h => h, fun h => h⟩
  cases p with
  | row own k l => cases own with
    | true => exact Own.mono h (fun _ _ => rfl) hS fun _ _ _ _ h => h
    | false => exact ⟨h.1, T.vs h.2⟩
  | v x => exact ⟨h.1, T.vs (p := .v x) h.2⟩
  | nil => exact ⟨h.1, T.vs (p := .nil) h.2⟩
  | ref a b c d e => exact ⟨h.1, T.vs (p := .ref a b c d e) h.2⟩
  | ptr a b c d => exact ⟨h.1, T.vs (p := .ptr a b c d) h.2⟩
  | eptr k l i j => exact ⟨h.1, T.vs (p := .eptr k l i j) h.2⟩
  | agg cs => exact ⟨h.1, T.vs (p := .agg cs) h.2⟩
  | tup cs => exact ⟨h.1, T.vs (p := .tup cs) h.2⟩
  | fn f caps => exact ⟨h.1, T.vs (p := .fn f caps) h.2⟩
  | un => exact ⟨h.1, T.vs (p := .un) h.2⟩
  | obj o => exact h
  | drow k l => exact h
  | gb r b => exact ⟨h.1, T.vs (p := .gb r b) h.2⟩
  | dead => exact ⟨h.1, trivial⟩
theorem Own.deep {S : Nat → Prop} {k : K} (hk : Go.Px.flat k = true) {u : Value} {l : List (ty k)} {L : List Nat} (h : Own S w k u l L) : DOwn w k u l L := by
  rcases h with ⟨h1, h2, h3⟩ | ⟨g, cap, cur, h1, h2, h3, h4, h5, h6, h7, h8⟩
  · exact DOwn_iff.2 (.inl ⟨h1, h2, h3⟩)
  · refine DOwn_iff.2 (.inr ⟨g, cap, cur, [], h1, h2, h3, h4, h5, h6, h7, ?_⟩)
    have hle : l.length * size k ≤ cur.size := by rw [h7]; exact Nat.mul_le_mul_right _ h5
    have key : ∀ (as : List Leaf) (bs : List Value), as.length = bs.length → (∀ (i : Nat) lf u, as[i]? = some lf → bs[i]? = some u → ∃ q, lf = .sc q ∧ u = q ∧ wfV q) → All3 (DLeaf w) as bs [] := by
      intro as
      induction as with
      | nil => intro bs hl _; cases bs with
        | nil => rfl
        | cons _ _ => simp at hl
      | cons a as ih => intro bs hl h; cases bs with
        | nil => simp at hl
        | cons b bs =>
          obtain ⟨q, rfl, rfl, hw⟩ := h 0 a b rfl rfl
          exact ⟨[], [], rfl, ⟨⟨rfl, hw⟩, rfl⟩, ih bs (by simpa using hl) fun i lf u h1 h2 => h (i + 1) lf u (by simpa using h1) (by simpa using h2)⟩
    refine key _ _ (by rw [flat_len, List.length_take]; exact (Nat.min_eq_left (by rw [Array.length_toList]; exact hle)).symm) fun m lf v hm hv => ?_
    have hml : m < l.length * size k := by have := (List.getElem?_eq_some_iff.1 hm).1; rwa [flat_len] at this
    have hp := size_pos k
    have hi : m / size k < l.length := (Nat.div_lt_iff_lt_mul hp).2 hml
    have hx : l[m / size k]? = some l[m / size k] := List.getElem?_eq_getElem hi
    have hm2 := flat_get hx (Nat.mod_lt m hp)
    rw [Nat.div_add_mod', hm] at hm2
    obtain ⟨u', hu', hv'⟩ := h8 _ _ hx _ lf hm2.symm
    simp only at hu'
    rw [Nat.div_add_mod'] at hu'
    obtain ⟨q, rfl⟩ := flat_sc hk _ lf (List.mem_of_getElem? hm2.symm)
    rw [List.getElem?_take, if_pos hml] at hv
    have : v = u' := by
      have h9 : cur[m]? = some v := by simpa using hv
      rw [hu'] at h9; exact (Option.some.inj h9).symm
    subst this
    exact ⟨q, rfl, hv'⟩
theorem wkD_own {S1 : Nat → Prop} {p q : PV} {u : Value} {L : List Nat} (hn : L.Nodup) (h : wkD p q) (ho : OwnS S1 w β σ p u L) : Wk w S1 u L fun S L => OwnS S w β σ q u L := by
  cases h with
  | nil k =>
    obtain ⟨rfl, e⟩ := ho
    have e : u = .slice none 0 0 := e
    exact ⟨[], List.Sublist.refl _, fun S2 hS _ => DOwn_iff.2 (.inl ⟨e, rfl, rfl⟩)⟩
  | row k l => exact ⟨[], List.nil_sublist _, fun S2 hS hL => ⟨rfl, rfl, DOwn.row _ (Nat.lt_succ_self _) ho fun b hb => hL b hb (by simp)⟩⟩
  | own k l =>
    rcases DOwn_iff.1 ho with ⟨h1, h2, h3⟩ | ⟨g, cap, cur, L', h1, h2, h3⟩
    · subst h3
      exact ⟨[], List.Sublist.refl _, fun S2 _ _ => .inl ⟨h1, h2, rfl⟩⟩
    · subst h2
      refine ⟨[g], List.Sublist.cons_cons _ (List.nil_sublist _), fun S2 hS hL => .inr ⟨g, cap, cur, h1, rfl, h3.cont fun b hb => hL b (by simp [hb]) ?_⟩⟩
      intro h
      rw [List.mem_singleton.1 h] at hb
      exact (List.nodup_cons.1 hn).1 hb
  | flat k l hk => exact ⟨L, List.Sublist.refl _, fun S2 _ _ => Own.deep hk ho⟩
theorem wkS_own {S1 : Nat → Prop} {p q : PV} {u : Value} {L : List Nat} (hn : L.Nodup) (h : wkS p q) (ho : OwnS S1 w β σ p u L) : Wk w S1 u L fun S L => OwnS S w β σ q u L := by
  rcases h with rfl | ⟨rfl, o, k, rfl⟩ | ⟨k, l, rfl, rfl⟩ | ⟨x, lf, rfl, rfl, hlf⟩ | hd
  · exact ⟨L, List.Sublist.refl _, fun S2 hS _ => ho.up hS⟩
  · obtain ⟨rfl, e⟩ := ho
    have e : u = .slice none 0 0 := e
    subst e
    refine ⟨[], List.Sublist.refl _, fun S2 hS _ => ?_⟩
    cases o with
    | true => exact .inl ⟨rfl, rfl, rfl⟩
    | false => exact ⟨rfl, rfl, Row.nil⟩
  · exact ⟨[], List.nil_sublist _, fun S2 hS hL => ⟨rfl, rfl, Own.row ho hS fun b hb => hL b hb (by simp)⟩⟩
  · obtain ⟨rfl, e, hw⟩ := ho
    rw [hlf hw]
    exact ⟨[], List.nil_sublist _, fun S2 hS hL => ⟨rfl, e, hw⟩⟩
  · exact wkD_own hn hd ho
theorem All3.wk {wk : PV → PV → Prop} {R : (Nat → Prop) → PV → Value → List Nat → Prop} {S1 : Nat → Prop} (hwk : ∀ p q u L, L.Nodup → wk p q → R S1 p u L → Wk w S1 u L fun S L => R S q u L) : ∀ {ps qs : List PV} {us : List Value} {L : List Nat}, L.Nodup → All2 wk ps qs → All3 (R S1) ps us L → Wk w S1 undef L fun S L => All3 (R S) qs us L
  | [], [], [], L, _, _, h => ⟨[], List.nil_sublist _, fun _ _ _ => rfl⟩
  | p :: ps, q :: qs, u :: us, L, hn, ⟨h1, h2⟩, ⟨L1, L2, e, h3, h4⟩ => by
    subst e
    obtain ⟨n1, n2, n3⟩ := List.nodup_append.1 hn
    obtain ⟨L1', s1, k1⟩ := hwk _ _ _ _ n1 h1 h3
    obtain ⟨L2', s2, k2⟩ := All3.wk hwk n2 h2 h4
    refine ⟨L1' ++ L2', s1.append s2, fun S2 hS hL => ⟨L1', L2', rfl, k1 S2 hS fun b hb hb' => hL b (by simp [hb]) ?_, k2 S2 hS fun b hb hb' => hL b (by simp [hb]) ?_⟩⟩
    · intro hm
      rcases List.mem_append.1 hm with hm | hm
      · exact hb' hm
      · exact n3 b hb b (s2.mem hm) rfl
    · intro hm
      rcases List.mem_append.1 hm with hm | hm
      · exact n3 b (s1.mem hm) b hb rfl
      · exact hb' hm
  | [], _ :: _, _, _, _, h, _ => h.elim
  | _ :: _, [], _, _, _, h, _ => h.elim
  | [], [], _ :: _, _, _, _, h => h.elim
  | _ :: _, _ :: _, [], _, _, _, h => h.elim
theorem wkS_own1 {S : Nat → Prop} {p q : PV} {u : Value} {L : List Nat} (h : wkS p q) : (Own1 S w β σ p u L → p = q ∨ OwnS S w β σ p u L) ∧ (OwnS S w β σ q u L → p = q ∨ Own1 S w β σ q u L) := by
  rcases h with rfl | ⟨rfl, o, k, rfl⟩ | ⟨k, l, rfl, rfl⟩ | ⟨x, lf, rfl, rfl, hlf⟩ | hd
  · exact ⟨fun _ => .inl rfl, fun _ => .inl rfl⟩
  · exact ⟨fun h => .inr h, fun h => .inr h⟩
  · exact ⟨fun h => .inr h, fun h => .inr h⟩
  · exact ⟨fun h => .inr h, fun h => .inr (by cases lf <;> exact h)⟩
  · exact ⟨fun h => .inr (by cases hd <;> exact h), fun h => .inr (by cases hd <;> exact h)⟩
theorem Own1.up {S1 S2 : Nat → Prop} {p : PV} {u : Value} {L : List Nat} (h : Own1 S1 w β σ p u L) (hS : ∀ b, S1 b → S2 b) : Own1 S2 w β σ p u L := by
  by_cases ha : ∃ cs, p = .agg cs
  · obtain ⟨cs, rfl⟩ := ha
    obtain ⟨us, e, h⟩ := h
    exact ⟨us, e, All3.mono (fun a b L' _ h => OwnS.up h hS) h⟩
  · have h' : OwnS S1 w β σ p u L := by cases p <;> first | exact h | exact absurd ⟨_, rfl⟩ ha
    have := OwnS.up h' hS
    cases p <;> first | exact this | exact absurd ⟨_, rfl⟩ ha
theorem wk1_own {S1 : Nat → Prop} {p q : PV} {u : Value} {L : List Nat} (hn : L.Nodup) (h : wk1 p q) (ho : Own1 S1 w β σ p u L) : Wk w S1 u L fun S L => Own1 S w β σ q u L := by
  rcases h with h | ⟨cs, ds, rfl, rfl, h⟩
  · rcases (wkS_own1 (w := w) (β := β) (σ := σ) h).1 ho with rfl | ho'
    · exact ⟨L, List.Sublist.refl _, fun S2 hS _ => ho.up hS⟩
    · obtain ⟨L', s, k⟩ := wkS_own hn h ho'
      refine ⟨L', s, fun S2 hS hL => ?_⟩
      rcases (wkS_own1 (w := w) (β := β) (σ := σ) h).2 (k S2 hS hL) with rfl | h2
      · have h3 := k S2 hS hL
        by_cases ha : ∃ cs, p = .agg cs
        · obtain ⟨cs, rfl⟩ := ha
          exact h3.2.elim
        · cases p <;> first | exact h3 | exact absurd ⟨_, rfl⟩ ha
      · exact h2
  · obtain ⟨us, rfl, ho⟩ := ho
    obtain ⟨L', s, k⟩ := All3.wk (R := fun S p u L => OwnS S w β σ p u L) (fun p q u L hn h ho => wkS_own hn h ho) hn h ho
    exact ⟨L', s, fun S2 hS hL => ⟨us, rfl, k S2 hS hL⟩⟩
theorem OwnV.up {S1 S2 : Nat → Prop} {p : PV} {u : Value} {L : List Nat} (h : OwnV S1 w β σ p u L) (hS : ∀ b, S1 b → S2 b) : OwnV S2 w β σ p u L := by
  by_cases ha : ∃ cs, p = .tup cs
  · obtain ⟨cs, rfl⟩ := ha
    obtain ⟨us, e, h⟩ := h
    exact ⟨us, e, All3.mono (fun a b L' _ h => Own1.up h hS) h⟩
  · have h' : Own1 S1 w β σ p u L := by cases p <;> first | exact h | exact absurd ⟨_, rfl⟩ ha
    have := Own1.up h' hS
    cases p <;> first | exact this | exact absurd ⟨_, rfl⟩ ha
end
theorem Arrive.mono {P : Program} {f : FuncId} {xs : Array Value} {w : World} {R R' : Ending → World → Prop} (h : Arrive P f xs w R) (hr : ∀ e w', R e w' → R' e w') : Arrive P f xs w R' := by
  unfold Arrive at h ⊢
  split at h
  · exact hr _ _ h
  · exact Calls.mono h hr
  · exact h.elim
end Go.Px
namespace Go.Px
open Go.RowKit
section
variable {P : Program} {PC : Con} {X : Ctx} {nt : Nat} {Q : Exit → Act → World → Prop} {ε : Env} {a : Act} {w : World} {o : Oper} {v : PV} {s' : Sto} {r wr : List Nat}
theorem own_frozenS {S S' : Nat → Prop} {w : World} {β β' : Nat → Option (Nat × Nat)} {σ σ' : Sto} {p : PV} {u : Value} {L : List Nat} (hp : noOwnS p = true) (h : OwnS S w β σ p u L) (hS : ∀ b, S b → S' b) : L = [] ∧ ValS S' w β' σ' p u := by
  cases p with
  | row own k l =>
    cases own with
    | true => cases hp
    | false => obtain ⟨rfl, _, h⟩ := h; exact ⟨rfl, rfl, h.mono hS fun _ _ _ _ h => h⟩
  | v x => exact h
  | nil => exact h
  | ref => cases hp
  | ptr => cases hp
  | eptr k l i j => obtain ⟨rfl, b, off, h1, h2, h3⟩ := h; exact ⟨rfl, b, off, h1, h2, h3.mono hS fun _ _ _ _ h => h⟩
  | agg cs => exact ⟨h.1, h.2⟩
  | tup vs => exact ⟨h.1, h.2⟩
  | fn f caps =>
    obtain ⟨rfl, us, h1, h2⟩ := h
    have : caps = [] := by cases caps <;> simp_all [noOwnS]
    subst this
    refine ⟨rfl, us, h1, ?_⟩
    cases hu : us.toList with
    | nil => trivial
    | cons x xs => rw [hu] at h2; exact h2.elim
  | un => exact h
  | obj o => cases hp
  | drow => cases hp
  | gb => cases hp
  | dead => exact h
theorem val1_valC {S : Nat → Prop} {w : World} {β : Nat → Option (Nat × Nat)} {σ : Sto} {p : PV} {u : Value} (h : Val1 S w β σ p u) : ValC S w β σ p u := by
  cases p <;> first | exact h | exact h.elim
end
end Go.Px
namespace Go.Px
open Go.RowKit
section
variable {P : Program} {PC : Con} {X : Ctx} {nt : Nat} {Q : Exit → Act → World → Prop} {ε : Env} {a : Act} {w : World} {o : Oper} {v : PV} {s' : Sto} {r wr : List Nat}
theorem StS.open0 {S : Nat → Prop} {tm : Array Value} {β : Nat → Option (Nat × Nat)} {N : Nat → List Nat} (h : StS X S ε w tm β N) {id ver : Nat} (h99 : 99 ≤ id) (hver : (ε.s id).ver < ver) (blk : Blk) (p : Option (Nat × Nat)) (L : List Nat) (hblk : ∀ β' σ', β' id = p → BlkC S w β' σ' L id blk) (hlt : ∀ x ∈ L, x < w.heap.size) (hnd : L.Nodup)
    (hS : ∀ x ∈ L, ¬ S x) (hnew : ∀ x ∈ L, x ∈ X.F ∨ X.w0.heap.size ≤ x) (hdj : ∀ id b, (ε.s id).blk = some b → ∀ x ∈ L, x ∉ N id) :
    StS X S ⟨ε.t, upd ε.s id ⟨ver, some blk⟩⟩ w tm (upd β id p) (upd N id L) ∧ Tr S S w w β (upd β id p) ε.s (upd ε.s id ⟨ver, some blk⟩) := by
  have hid : ∀ p, X.ext[id]? ≠ some p := fun p e => by
    have := (List.getElem?_eq_some_iff.1 e).1
    have := X.few
    omega
  have T : Tr S S w w β (upd β id p) ε.s (upd ε.s id ⟨ver, some blk⟩) := by
    refine ⟨fun h => h, fun {i v o n f u} hr => ?_, fun {i v i' j' u} hr => ?_⟩
    · obtain ⟨k1, k2, k3⟩ := hr
      by_cases hi : i = id
      · subst hi
        refine ⟨by rw [upd_same]; exact Nat.le_of_lt (Nat.lt_of_le_of_lt k1 hver), k2, fun blk k l e hr => ?_⟩
        rw [upd_same] at e; cases e; omega
      · refine ⟨by rw [upd_ne _ _ hi]; exact k1, k2, fun blk k l e hr => ?_⟩
        rw [upd_ne _ _ hi] at e
        rw [upd_ne _ _ hi]
        exact k3 _ k l e hr
    · obtain ⟨k1, k2, k3⟩ := hr
      by_cases hi : i = id
      · subst hi
        refine ⟨by rw [upd_same]; exact Nat.le_of_lt (Nat.lt_of_le_of_lt k1 hver), k2, fun blk e => ?_⟩
        rw [upd_same] at e; cases e; omega
      · refine ⟨by rw [upd_ne _ _ hi]; exact k1, k2, fun blk e => ?_⟩
        rw [upd_ne _ _ hi] at e
        rw [upd_ne _ _ hi]
        exact k3 blk e
  refine ⟨⟨fun t u hu => T.vc (h.tmp t u hu), fun i b hb => ?_, fun i b hb => ?_, fun i b hb => ?_, fun i i' b b' hb hb' hne => ?_, fun i b hb => ?_, fun j q hj => ?_, fun q u n hq => ?_, h.frm, h.env, fun b hb => ?_⟩, T⟩
  · by_cases hi : i = id
    · subst hi
      simp only [upd_same] at hb
      cases hb
      rw [upd_same]
      exact hblk _ _ (upd_same _ _ _)
    · simp only [upd_ne _ _ hi] at hb
      rw [upd_ne _ _ hi]
      exact T.blk (upd_ne _ _ hi) (fun _ _ => rfl) (h.blk i b hb)
  · by_cases hi : i = id
    · subst hi; rw [upd_same]; exact hlt
    · simp only [upd_ne _ _ hi] at hb; rw [upd_ne _ _ hi]; exact h.lt i b hb
  · by_cases hi : i = id
    · subst hi; rw [upd_same]; exact hnd
    · simp only [upd_ne _ _ hi] at hb; rw [upd_ne _ _ hi]; exact h.nodup i b hb
  · by_cases hi : i = id
    · subst hi
      have hi' : i' ≠ i := fun e => hne e.symm
      simp only [upd_ne _ _ hi'] at hb'
      rw [upd_same, upd_ne _ _ hi']
      exact hdj i' b' hb'
    · by_cases hi' : i' = id
      · subst hi'
        simp only [upd_ne _ _ hi] at hb
        rw [upd_same, upd_ne _ _ hi]
        exact fun x hx hx' => hdj i b hb x hx' hx
      · simp only [upd_ne _ _ hi] at hb
        simp only [upd_ne _ _ hi'] at hb'
        rw [upd_ne _ _ hi, upd_ne _ _ hi']
        exact h.disj i i' b b' hb hb' hne
  · by_cases hi : i = id
    · subst hi; rw [upd_same]; exact hnew
    · simp only [upd_ne _ _ hi] at hb; rw [upd_ne _ _ hi]; exact h.new i b hb
  · have hi : j ≠ id := fun e => hid q (e ▸ hj)
    simp only [upd_ne _ _ hi]
    exact h.ext j q hj
  · obtain ⟨h1, b0, k0, l0, h2, h3, h4, h5⟩ := h.rxt q u n hq
    exact ⟨h1, b0, k0, l0, by show upd ε.s id _ (50 + q) = _; rw [upd_ne _ _ (show 50 + q ≠ id by omega)]; exact h2, h3, h4, T.ref h5⟩
  · obtain ⟨h1, h2, h2'⟩ := h.fz b hb
    refine ⟨h1, ?_, h2'⟩
    rintro ⟨i, blk, h3, h4⟩
    by_cases hi : i = id
    · subst hi; rw [upd_same] at h4; exact hS b h4 hb
    · simp only [upd_ne _ _ hi] at h3; rw [upd_ne _ _ hi] at h4; exact h2 ⟨i, blk, h3, h4⟩
theorem ref_full {σ : Sto} {β : Nat → Option (Nat × Nat)} {id ver : Nat} {blk : Blk} {k : K} {l : List (ty k)} {u : Value} (hs : σ id = ⟨ver, some blk⟩) (hr : IsRow blk k l) (h : (β id = none ∧ l = [] ∧ u = .slice none 0 0) ∨ ∃ b cap cur, β id = some (b, 0) ∧ u = .slice (some ⟨b, 0, none⟩) l.length cap ∧ RowAt w b cur (tid k) ∧ l.length ≤ cap ∧ cur.size = cap * size k) :
    RefC w β σ id ver 0 l.length true u := by
  refine ⟨by rw [hs]; exact Nat.le_refl _, ?_, fun blk2 k2 l2 e hr2 => ?_⟩
  · rcases h with ⟨h1, h2, h4⟩ | ⟨b, cap, cur, h1, h2, h4⟩
    · exact ⟨_, _, _, h4⟩
    · exact ⟨_, _, _, h2⟩
  · rw [hs] at e
    cases e
    cases hr.same hr2
    refine ⟨by omega, ?_⟩
    rcases h with ⟨h1, h2, h4⟩ | ⟨b, cap, cur, h1, h2, h4, h5, h6⟩
    · exact .inl ⟨h1, h4⟩
    · refine .inr ⟨b, cap, 0, h1, h5, h2, fun _ => by rw [Nat.zero_mul], fun _ => ⟨rfl, rfl, fun c2 E2 fz2 hc2 => ?_⟩⟩
      obtain ⟨fz, hh, _⟩ := h4
      rw [hh] at hc2
      cases hc2
      exact h6
theorem StS.open {S : Nat → Prop} {tm : Array Value} {β : Nat → Option (Nat × Nat)} {N : Nat → List Nat} (h : StS X S ε w tm β N) {id ver : Nat} (h99 : 99 ≤ id) (hver : (ε.s id).ver < ver) {k : K} {u : Value} {l : List (ty k)} {L : List Nat} (ho : Own S w k u l L)
    (hS : ∀ x ∈ L, ¬ S x) (hnew : ∀ x ∈ L, x ∈ X.F ∨ X.w0.heap.size ≤ x) (hdj : ∀ id b, (ε.s id).blk = some b → ∀ x ∈ L, x ∉ N id) :
    ∃ p, StS X S ⟨ε.t, upd ε.s id ⟨ver, some (.rowb k l)⟩⟩ w tm (upd β id p) (upd N id L) ∧ Tr S S w w β (upd β id p) ε.s (upd ε.s id ⟨ver, some (.rowb k l)⟩) ∧ ValS S w (upd β id p) (upd ε.s id ⟨ver, some (.rowb k l)⟩) (.ref id ver 0 l.length true) u := by
  obtain ⟨p, hp⟩ : ∃ p : Option (Nat × Nat), (p = none ∧ l = [] ∧ L = [] ∧ u = .slice none 0 0) ∨ ∃ b cap cur, p = some (b, 0) ∧ u = .slice (some ⟨b, 0, none⟩) l.length cap ∧ L = [b] ∧ OwnAt S w b l cap cur := by
    rcases ho with ⟨h1, h2, h3⟩ | ⟨g, cap, cur, h1, h2, h3⟩
    · exact ⟨none, .inl ⟨rfl, h2, h3, h1⟩⟩
    · exact ⟨some (g, 0), .inr ⟨g, cap, cur, rfl, h1, h2, h3⟩⟩
  obtain ⟨st, T⟩ := StS.open0 h h99 hver (.rowb k l) p L (fun β' σ' hβ => by
    rcases hp with ⟨h1, h2, h3, h4⟩ | ⟨b, cap, cur, h1, h2, h3, h4⟩
    · exact .inl ⟨hβ.trans h1, h2, h3⟩
    · exact .inr ⟨b, cap, cur, hβ.trans h1, h3, h4⟩) ho.lt ho.nodup hS hnew hdj
  refine ⟨p, st, T, ref_full (upd_same _ _ _) .b ?_⟩
  rw [upd_same]
  rcases hp with ⟨h1, h2, h3, h4⟩ | ⟨b, cap, cur, h1, h2, h3, h4⟩
  · exact .inl ⟨h1, h2, h4⟩
  · exact .inr ⟨b, cap, cur, h1, h2, h4.2.1, h4.2.2.1, h4.2.2.2.2.1⟩
theorem StS.openD {S : Nat → Prop} {tm : Array Value} {β : Nat → Option (Nat × Nat)} {N : Nat → List Nat} (h : StS X S ε w tm β N) {id ver : Nat} (h99 : 99 ≤ id) (hver : (ε.s id).ver < ver) {k : K} {u : Value} {l : List (ty k)} {L : List Nat} (ho : DOwn w k u l L) (hlt : ∀ x ∈ L, x < w.heap.size) (hnd : L.Nodup)
    (hS : ∀ x ∈ L, ¬ S x) (hnew : ∀ x ∈ L, x ∈ X.F ∨ X.w0.heap.size ≤ x) (hdj : ∀ id b, (ε.s id).blk = some b → ∀ x ∈ L, x ∉ N id) :
    ∃ p, StS X S ⟨ε.t, upd ε.s id ⟨ver, some (.rowd k l)⟩⟩ w tm (upd β id p) (upd N id L) ∧ Tr S S w w β (upd β id p) ε.s (upd ε.s id ⟨ver, some (.rowd k l)⟩) ∧ ValS S w (upd β id p) (upd ε.s id ⟨ver, some (.rowd k l)⟩) (.ref id ver 0 l.length true) u := by
  obtain ⟨p, hp⟩ : ∃ p : Option (Nat × Nat), (p = none ∧ l = [] ∧ L = [] ∧ u = .slice none 0 0) ∨ ∃ b cap cur L', p = some (b, 0) ∧ u = .slice (some ⟨b, 0, none⟩) l.length cap ∧ L = b :: L' ∧ DAt w b l cap cur L' := by
    rcases DOwn_iff.1 ho with ⟨h1, h2, h3⟩ | ⟨g, cap, cur, L', h1, h2, h3⟩
    · exact ⟨none, .inl ⟨rfl, h2, h3, h1⟩⟩
    · exact ⟨some (g, 0), .inr ⟨g, cap, cur, L', rfl, h1, h2, h3⟩⟩
  obtain ⟨st, T⟩ := StS.open0 h h99 hver (.rowd k l) p L (fun β' σ' hβ => by
    rcases hp with ⟨h1, h2, h3, h4⟩ | ⟨b, cap, cur, L', h1, h2, h3, h4⟩
    · exact .inl ⟨hβ.trans h1, h2, h3⟩
    · exact .inr ⟨b, cap, cur, L', hβ.trans h1, h3, h4⟩) hlt hnd hS hnew hdj
  refine ⟨p, st, T, ref_full (upd_same _ _ _) .d ?_⟩
  rw [upd_same]
  rcases hp with ⟨h1, h2, h3, h4⟩ | ⟨b, cap, cur, L', h1, h2, h3, h4⟩
  · exact .inl ⟨h1, h2, h4⟩
  · exact .inr ⟨b, cap, cur, h1, h2, h4.2.1, h4.2.2.1, h4.2.2.2.2.1⟩
theorem StS.openO {S : Nat → Prop} {tm : Array Value} {β : Nat → Option (Nat × Nat)} {N : Nat → List Nat} (h : StS X S ε w tm β N) {id ver : Nat} (h99 : 99 ≤ id) (hver : (ε.s id).ver < ver) {o : Obj} {u : Value} {b0 : Nat} (hu0 : u = objV o b0) (hb0 : w.heap[b0]? = some o)
    (hS : ∀ x ∈ [b0], ¬ S x) (hnew : ∀ x ∈ [b0], x ∈ X.F ∨ X.w0.heap.size ≤ x) (hdj : ∀ id b, (ε.s id).blk = some b → ∀ x ∈ [b0], x ∉ N id) :
    StS X S ⟨ε.t, upd ε.s id ⟨ver, some (.objb o)⟩⟩ w tm (upd β id (some (b0, 0))) (upd N id [b0]) ∧ Tr S S w w β (upd β id (some (b0, 0))) ε.s (upd ε.s id ⟨ver, some (.objb o)⟩) ∧ ValS S w (upd β id (some (b0, 0))) (upd ε.s id ⟨ver, some (.objb o)⟩) (.ptr id ver 0 0) u := by
  obtain ⟨st, T⟩ := StS.open0 h h99 hver (.objb o) (some (b0, 0)) [b0] (fun β' σ' hβ => ⟨b0, hβ, rfl, hb0⟩) (fun x hx => by have e := List.mem_singleton.1 hx; subst e; exact (Array.getElem?_eq_some_iff.1 hb0).1) (by simp) hS hnew hdj
  refine ⟨st, T, by rw [upd_same]; exact Nat.le_refl _, ?_, fun blk e => ?_⟩
  · subst hu0
    cases o <;> first | exact .inl ⟨_, rfl⟩ | exact .inr ⟨_, rfl⟩
  · rw [upd_same] at e
    cases e
    exact ⟨b0, 0, by rw [upd_same], fun _ => ⟨rfl, hu0⟩⟩
theorem StS.wide {S S' : Nat → Prop} {tm : Array Value} {β : Nat → Option (Nat × Nat)} {N : Nat → List Nat} (h : StS X S ε w tm β N) (hS : ∀ b, S b → S' b) (hf : ∀ b, S' b → Fz X w N ε.s b) : StS X S' ε w tm β N ∧ Tr S S' w w β β ε.s ε.s := by
  have T : Tr S S' w w β β ε.s ε.s := ⟨fun h => h.mono hS fun _ _ _ _ h => h, fun h => h, fun h => h⟩
  exact ⟨⟨fun t u hu => T.vc (h.tmp t u hu), fun i b hb => T.blk rfl (fun _ _ => rfl) (h.blk i b hb), h.lt, h.nodup, h.disj, h.new, h.ext, fun q u n hq => by obtain ⟨h1, b0, k0, l0, h2, h3, h4, h5⟩ := h.rxt q u n hq; exact ⟨h1, b0, k0, l0, h2, h3, h4, T.ref h5⟩, h.frm, h.env, hf⟩, T⟩
theorem StS.after {S : Nat → Prop} {w' : World} {tm : Array Value} {β : Nat → Option (Nat × Nat)} {N : Nat → List Nat} (h : StS X S ε w tm β N) (ho : w'.os = w.os) (ht : w'.tape = w.tape) (hu : w'.output = w.output) (hz : w.heap.size ≤ w'.heap.size) (hsame : ∀ b, b < w.heap.size → w'.heap[b]? = w.heap[b]?) :
    StS X S ε w' tm β N ∧ Tr S S w w' β β ε.s ε.s := by
  have T : Tr S S w w' β β ε.s ε.s := by
    refine ⟨fun hr => hr.mono (fun _ h => h) fun b o u hb hu => cell_same (hsame b (h.fz b hb).1) hu, fun {id ver off n full u} hr => ?_, fun h => h⟩
    obtain ⟨k1, k2, k3⟩ := hr
    refine ⟨k1, k2, fun blk k l e hr => ?_⟩
    obtain ⟨e1, e2⟩ := k3 _ k l e hr
    refine ⟨e1, ?_⟩
    rcases e2 with e2 | ⟨b, c, o, e2, e3, e4, e5, e6⟩
    · exact .inl e2
    · refine .inr ⟨b, c, o, e2, e3, e4, e5, fun hf => ?_⟩
      obtain ⟨f1, f2, f3⟩ := e6 hf
      refine ⟨f1, f2, fun cur E fz hh => f3 cur E fz ?_⟩
      have hblk := h.blk id _ (by rw [e])
      have hb : b ∈ N id := rowN hr hblk e2
      rw [← hsame b (h.lt id _ (by rw [e]) b hb)]; exact hh
  refine ⟨⟨fun t u hu => T.vc (h.tmp t u hu), fun i b hb => T.blk rfl (fun x hx => hsame x (h.lt i b hb x hx)) (h.blk i b hb), fun i b hb x hx => Nat.lt_of_lt_of_le (h.lt i b hb x hx) hz, h.nodup, h.disj, h.new, h.ext, fun q u n hq => by obtain ⟨h1, b0, k0, l0, h2, h3, h4, h5⟩ := h.rxt q u n hq; exact ⟨h1, b0, k0, l0, h2, h3, h4, T.ref h5⟩, h.frm.grow ho ht hu hz hsame, ?_, fun b hb => ?_⟩, T⟩
  · exact X.cl w w' h.env fun b hb => hsame b (by have := X.hw; have := h.frm.size; omega)
  · obtain ⟨h1, h2⟩ := h.fz b hb
    exact ⟨Nat.lt_of_lt_of_le h1 hz, h2⟩
end
end Go.Px
namespace Go.Px
open Go.RowKit
def openS (id : Nat) : PV → Eff PV
  | .row true k l => newBlk id (.rowb k l) fun ver => .ret (.ref id ver 0 l.length true)
  | .drow k l => newBlk (id + 1000000000) (.rowd k l) fun ver => .ret (.ref (id + 1000000000) ver 0 l.length true)
  | .obj o => newBlk id (.objb o) fun ver => .ret (.ptr id ver 0 0)
  | .v x => .ret (.v x)
  | .nil => .ret .nil
  | .row false k l => .ret (.row false k l)
  | .eptr k l i j => .ret (.eptr k l i j)
  | .fn f [] => .ret (.fn f [])
  | .dead => .ret .dead
  | _ => .fail
def openL (id : Nat) : List PV → Eff (List PV)
  | [] => .ret []
  | p :: ps => (openS id p).bind fun q => (openL (id + 1) ps).bind fun qs => .ret (q :: qs)
def open1 (id : Nat) : PV → Eff PV
  | .agg cs => (openL id cs).bind fun qs => .ret (.agg qs)
  | p => openS id p
def open1L (id : Nat) : List PV → Eff (List PV)
  | [] => .ret []
  | p :: ps => (open1 id p).bind fun q => (open1L (id + 1000) ps).bind fun qs => .ret (q :: qs)
def openR (id : Nat) : PV → Eff PV
  | .tup vs => (open1L id vs).bind fun qs => .ret (.tup qs)
  | p => open1 id p
def fzS : PV → Bool
  | .row false _ _ => true | .row true k _ => !flat k | .eptr .. => true | .fn _ cs => !cs.isEmpty | _ => false
def fz1 : PV → Bool
  | .agg cs => cs.any fzS
  | p => fzS p
def fzR : PV → Bool
  | .tup vs => vs.any fz1
  | p => fz1 p
def resId (o : Oper) : Nat := match o.dst with
  | some d => 1000000 * (d + 1)
  | none => 1000000
end Go.Px
namespace Go.Px
open Go.RowKit
section
variable {P : Program} {PC : Con} {X : Ctx} {nt : Nat} {Q : Exit → Act → World → Prop} {ε : Env} {a : Act} {w : World} {o : Oper} {v : PV} {t : Nat → PV} {s s' : Sto} {r wr : List Nat}
structure Pend (X : Ctx) (S : Nat → Prop) (s : Sto) (N : Nat → List Nat) (L : List Nat) : Prop where
  nd : L.Nodup
  ns : ∀ x ∈ L, ¬ S x
  new : ∀ x ∈ L, x ∈ X.F ∨ X.w0.heap.size ≤ x
  dj : ∀ id b, (s id).blk = some b → ∀ x ∈ L, x ∉ N id
theorem Pend.left {S : Nat → Prop} {N : Nat → List Nat} {L1 L2 : List Nat} (h : Pend X S s N (L1 ++ L2)) : Pend X S s N L1 :=
  ⟨(List.nodup_append.1 h.nd).1, fun x hx => h.ns x (by simp [hx]), fun x hx => h.new x (by simp [hx]), fun id b hb x hx => h.dj id b hb x (by simp [hx])⟩
def Held (s : Sto) (N : Nat → List Nat) (s' : Sto) (N' : Nat → List Nat) (L : List Nat) : Prop := ∀ id b, (s' id).blk = some b → ∀ x ∈ N' id, x ∈ L ∨ ∃ b', (s id).blk = some b' ∧ x ∈ N id
theorem Held.refl {N : Nat → List Nat} {L : List Nat} : Held s N s N L := fun id b hb x hx => .inr ⟨b, hb, hx⟩
theorem Held.app {s1 s2 s3 : Sto} {N1 N2 N3 : Nat → List Nat} {L1 L2 : List Nat} (h1 : Held s1 N1 s2 N2 L1) (h2 : Held s2 N2 s3 N3 L2) : Held s1 N1 s3 N3 (L1 ++ L2) := fun id b hb x hx => by
  rcases h2 id b hb x hx with h | ⟨b', hb', hx'⟩
  · exact .inl (List.mem_append.2 (.inr h))
  · rcases h1 id b' hb' x hx' with h | h
    · exact .inl (List.mem_append.2 (.inl h))
    · exact .inr h
theorem Pend.right {S : Nat → Prop} {N N' : Nat → List Nat} {L1 L2 : List Nat} (h : Pend X S s N (L1 ++ L2)) (hh : Held s N s' N' L1) : Pend X S s' N' L2 :=
  ⟨(List.nodup_append.1 h.nd).2.1, fun x hx => h.ns x (by simp [hx]), fun x hx => h.new x (by simp [hx]), fun id b hb x hx hxn => by
    rcases hh id b hb x hxn with h1 | ⟨b', hb', h1⟩
    · exact (List.nodup_append.1 h.nd).2.2 x h1 x hx rfl
    · exact h.dj id b' hb' x (by simp [hx]) h1⟩
theorem Tr.trans {S1 S2 S3 : Nat → Prop} {w1 w2 w3 : World} {β1 β2 β3 : Nat → Option (Nat × Nat)} {σ1 σ2 σ3 : Sto} (h1 : Tr S1 S2 w1 w2 β1 β2 σ1 σ2) (h2 : Tr S2 S3 w2 w3 β2 β3 σ2 σ3) : Tr S1 S3 w1 w3 β1 β3 σ1 σ3 :=
  ⟨fun h => h2.row (h1.row h), fun h => h2.ref (h1.ref h), fun h => h2.ptr (h1.ptr h)⟩
theorem Tr.refl {S : Nat → Prop} {w : World} {β : Nat → Option (Nat × Nat)} {σ : Sto} : Tr S S w w β β σ σ := ⟨fun h => h, fun h => h, fun h => h⟩
theorem ValS.plain {S S' : Nat → Prop} {w : World} {β β' : Nat → Option (Nat × Nat)} {σ σ' : Sto} {p : PV} {u : Value} (hp : noOwnS p = true) (h : ValS S w β σ p u) (hS : ∀ b, S b → S' b) : ValS S' w β' σ' p u := by
  have h0 : OwnS S w β σ p u [] := by
    cases p with
    | row own k l => cases own with
      | true => cases hp
      | false => exact ⟨rfl, h⟩
    | obj o => cases hp
    | drow => cases hp
    | gb => cases hp
    | _ => exact ⟨rfl, h⟩
  exact (own_frozenS hp h0 hS).2
theorem DOwn.lt {w : World} : ∀ (n : Nat) {k : K} {v : Value} {l : List (ty k)} {L : List Nat}, rank k < n → DOwn w k v l L → ∀ x ∈ L, x < w.heap.size
  | 0, _, _, _, _, h, _, _, _ => absurd h (Nat.not_lt_zero _)
  | n + 1, k, v, l, L, hn, h, x, hx => by
    rcases DOwn_iff.1 h with ⟨_, _, rfl⟩ | ⟨g, cap, cur, L', _, rfl, h1⟩
    · cases hx
    · rcases List.mem_cons.1 hx with rfl | hx
      · exact h1.2.1.lt
      · have key : ∀ (as : List Leaf) (bs : List Value) (M : List Nat), (∀ lf ∈ as, ∀ k' l', lf = .nest k' l' → rank k' < rank k) → All3 (DLeaf w) as bs M → ∀ x ∈ M, x < w.heap.size := by
          intro as
          induction as with
          | nil => intro bs M _ h x hx; cases bs with
            | nil => cases h; cases hx
            | cons => exact h.elim
          | cons lf as ih =>
            intro bs M hr h x hx
            cases bs with
            | nil => exact h.elim
            | cons u bs =>
              obtain ⟨M1, M2, e, h2, h3⟩ := h
              subst e
              rcases List.mem_append.1 hx with hx | hx
              · cases lf with
                | sc q => rw [h2.2] at hx; cases hx
                | nest k' l' =>
                  have := hr _ (List.mem_cons_self ..) k' l' rfl
                  exact DOwn.lt n (by omega) h2 x hx
              · exact ih bs M2 (fun lf' hm => hr lf' (List.mem_cons_of_mem _ hm)) h3 x hx
        refine key _ _ _ (fun lf hlf k' l' e => ?_) h1.2.2.2.2.2 x hx
        obtain ⟨y, _, hy⟩ := List.mem_flatMap.1 hlf
        obtain ⟨j, hj⟩ := List.getElem?_of_mem hy
        exact rank_lt y j k' l' (by rw [hj, e])
theorem DOwn.lts {w : World} {k : K} {v : Value} {l : List (ty k)} {L : List Nat} (h : DOwn w k v l L) : ∀ x ∈ L, x < w.heap.size := DOwn.lt _ (Nat.lt_succ_self _) h
theorem openS_spec {S : Nat → Prop} {tm : Array Value} {β β0 : Nat → Option (Nat × Nat)} {σ0 : Sto} {N : Nat → List Nat} (h : StS X S ⟨t, s⟩ w tm β N) {id : Nat} (hid : 99 ≤ id) {p q : PV} {u : Value} {L : List Nat} (ho : OwnS S w β0 σ0 p u L) (hp : Pend X S s N L) (hr : (openS id p).Run PC s q s' r wr) :
    ∃ β' N', StS X S ⟨t, s'⟩ w tm β' N' ∧ Tr S S w w β β' s s' ∧ ValS S w β' s' q u ∧ Held s N s' N' L := by
  unfold openS at hr
  split at hr
  · rename_i k l
    obtain ⟨r', wr', hr⟩ := newBlk_run hr
    obtain ⟨rfl, rfl, -, -⟩ : q = _ ∧ s' = _ ∧ r' = [] ∧ wr' = [] := hr
    obtain ⟨pl, h1, h2, h3⟩ := StS.open (ε := ⟨t, s⟩) h hid (Nat.lt_succ_self _) ho hp.ns hp.new hp.dj
    refine ⟨_, _, h1, h2, h3, fun i b hb x hx => ?_⟩
    by_cases hi : i = id
    · subst hi; rw [upd_same] at hx; exact .inl hx
    · rw [upd_ne _ _ hi] at hx hb; exact .inr ⟨b, hb, hx⟩
  · rename_i k l
    obtain ⟨r', wr', hr⟩ := newBlk_run hr
    obtain ⟨rfl, rfl, -, -⟩ : q = _ ∧ s' = _ ∧ r' = [] ∧ wr' = [] := hr
    obtain ⟨pl, h1, h2, h3⟩ := StS.openD (ε := ⟨t, s⟩) h (id := id + 1000000000) (by omega) (Nat.lt_succ_self _) ho ho.lts hp.nd hp.ns hp.new hp.dj
    refine ⟨_, _, h1, h2, h3, fun i b hb x hx => ?_⟩
    by_cases hi : i = id + 1000000000
    · subst hi; rw [upd_same] at hx; exact .inl hx
    · rw [upd_ne _ _ hi] at hx hb; exact .inr ⟨b, hb, hx⟩
  · rename_i o
    obtain ⟨r', wr', hr⟩ := newBlk_run hr
    obtain ⟨rfl, rfl, -, -⟩ : q = _ ∧ s' = _ ∧ r' = [] ∧ wr' = [] := hr
    obtain ⟨b0, e1, rfl, e2⟩ := ho
    obtain ⟨h1, h2, h3⟩ := StS.openO (ε := ⟨t, s⟩) h hid (Nat.lt_succ_self _) e1 e2 hp.ns hp.new hp.dj
    refine ⟨_, _, h1, h2, h3, fun i b hb x hx => ?_⟩
    by_cases hi : i = id
    · subst hi; rw [upd_same] at hx; exact .inl hx
    · rw [upd_ne _ _ hi] at hx hb; exact .inr ⟨b, hb, hx⟩
  · obtain ⟨rfl, rfl, -, -⟩ : q = _ ∧ s' = _ ∧ r = [] ∧ wr = [] := hr; exact ⟨β, N, h, Tr.refl, ho.2, Held.refl⟩
  · obtain ⟨rfl, rfl, -, -⟩ : q = _ ∧ s' = _ ∧ r = [] ∧ wr = [] := hr; exact ⟨β, N, h, Tr.refl, ho.2, Held.refl⟩
  · obtain ⟨rfl, rfl, -, -⟩ : q = _ ∧ s' = _ ∧ r = [] ∧ wr = [] := hr; exact ⟨β, N, h, Tr.refl, ho.2, Held.refl⟩
  · obtain ⟨rfl, rfl, -, -⟩ : q = _ ∧ s' = _ ∧ r = [] ∧ wr = [] := hr; exact ⟨β, N, h, Tr.refl, ho.2, Held.refl⟩
  · obtain ⟨rfl, rfl, -, -⟩ : q = _ ∧ s' = _ ∧ r = [] ∧ wr = [] := hr; exact ⟨β, N, h, Tr.refl, ValS.plain rfl ho.2 (fun _ h => h), Held.refl⟩
  · obtain ⟨rfl, rfl, -, -⟩ : q = _ ∧ s' = _ ∧ r = [] ∧ wr = [] := hr; exact ⟨β, N, h, Tr.refl, trivial, Held.refl⟩
  · exact hr.elim
theorem openL_spec {S : Nat → Prop} {tm : Array Value} {β0 : Nat → Option (Nat × Nat)} {σ0 : Sto} : ∀ {ps qs : List PV} {us : List Value} {id : Nat} {L : List Nat} {β : Nat → Option (Nat × Nat)} {N : Nat → List Nat} {s s' : Sto} {r wr : List Nat}, StS X S ⟨t, s⟩ w tm β N → 99 ≤ id → All3 (OwnS S w β0 σ0) ps us L → Pend X S s N L → (openL id ps).Run PC s qs s' r wr →
    ∃ β' N', StS X S ⟨t, s'⟩ w tm β' N' ∧ Tr S S w w β β' s s' ∧ All2 (ValS S w β' s') qs us ∧ Held s N s' N' L
  | [], qs, [], id, L, β, N, s, s', r, wr, h, _, ho, hp, hr => by
    obtain ⟨rfl, rfl, -, -⟩ := hr
    exact ⟨β, N, h, Tr.refl, trivial, Held.refl⟩
  | p :: ps, qs, u :: us, id, L, β, N, s, s', r, wr, h, hid, ho, hp, hr => by
    obtain ⟨L1, L2, rfl, h1, h2⟩ := ho
    obtain ⟨a1, s1, r1, w1, r2, w2, k1, k2⟩ := bind_run hr
    obtain ⟨a2, s2, r3, w3, r4, w4, k3, k4⟩ := bind_run k2
    obtain ⟨e, e2, -, -⟩ := k4
    subst e e2
    obtain ⟨β1, N1, m1, m2, m3, m4⟩ := openS_spec h hid h1 hp.left k1
    obtain ⟨β2, N2, m5, m6, m7, m8⟩ := openL_spec m1 (by omega) h2 (hp.right m4) k3
    exact ⟨β2, N2, m5, m2.trans m6, ⟨m6.vs m3, m7⟩, m4.app m8⟩
  | [], _, _ :: _, _, _, _, _, _, _, _, _, _, _, h, _, _ => h.elim
  | _ :: _, _, [], _, _, _, _, _, _, _, _, _, _, h, _, _ => h.elim
theorem openS_noAgg {id : Nat} {p q : PV} (hr : (openS id p).Run PC s q s' r wr) : (∀ cs, q ≠ .agg cs) ∧ ∀ cs, q ≠ .tup cs := by
  unfold openS at hr
  split at hr
  · obtain ⟨r', wr', hr⟩ := newBlk_run hr
    obtain ⟨rfl, -, -, -⟩ := hr
    exact ⟨by simp, by simp⟩
  · obtain ⟨r', wr', hr⟩ := newBlk_run hr
    obtain ⟨rfl, -, -, -⟩ := hr
    exact ⟨by simp, by simp⟩
  · obtain ⟨r', wr', hr⟩ := newBlk_run hr
    obtain ⟨rfl, -, -, -⟩ := hr
    exact ⟨by simp, by simp⟩
  all_goals first | exact hr.elim | (obtain ⟨rfl, -, -, -⟩ := hr; exact ⟨by simp, by simp⟩)
theorem open1_spec {S : Nat → Prop} {tm : Array Value} {β β0 : Nat → Option (Nat × Nat)} {σ0 : Sto} {N : Nat → List Nat} (h : StS X S ⟨t, s⟩ w tm β N) {id : Nat} (hid : 99 ≤ id) {p q : PV} {u : Value} {L : List Nat} (ho : Own1 S w β0 σ0 p u L) (hp : Pend X S s N L) (hr : (open1 id p).Run PC s q s' r wr) :
    ∃ β' N', StS X S ⟨t, s'⟩ w tm β' N' ∧ Tr S S w w β β' s s' ∧ Val1 S w β' s' q u ∧ Held s N s' N' L := by
  by_cases ha : ∃ cs, p = .agg cs
  · obtain ⟨cs, rfl⟩ := ha
    obtain ⟨us, rfl, ho⟩ := ho
    obtain ⟨a1, s1, r1, w1, r2, w2, k1, k2⟩ := bind_run hr
    obtain ⟨e, e2, -, -⟩ := k2
    subst e e2
    obtain ⟨β1, N1, m1, m2, m3, m4⟩ := openL_spec h hid ho hp k1
    exact ⟨β1, N1, m1, m2, ⟨us, rfl, m3⟩, m4⟩
  · have ho' : OwnS S w β0 σ0 p u L := by cases p <;> first | exact ho | exact absurd ⟨_, rfl⟩ ha
    have hr' : (openS id p).Run PC s q s' r wr := by cases p <;> first | exact hr | exact absurd ⟨_, rfl⟩ ha
    obtain ⟨β1, N1, m1, m2, m3, m4⟩ := openS_spec h hid ho' hp hr'
    have hq := (openS_noAgg hr').1
    exact ⟨β1, N1, m1, m2, by cases q <;> first | exact m3 | exact absurd rfl (hq _), m4⟩
theorem open1_noTup {id : Nat} {p q : PV} (hr : (open1 id p).Run PC s q s' r wr) : ∀ cs, q ≠ .tup cs := by
  by_cases ha : ∃ cs, p = .agg cs
  · obtain ⟨cs, rfl⟩ := ha
    obtain ⟨a1, s1, r1, w1, r2, w2, k1, k2⟩ := bind_run hr
    obtain ⟨e, -, -, -⟩ := k2
    subst e
    simp
  · have hr' : (openS id p).Run PC s q s' r wr := by cases p <;> first | exact hr | exact absurd ⟨_, rfl⟩ ha
    exact (openS_noAgg hr').2
theorem open1L_spec {S : Nat → Prop} {tm : Array Value} {β0 : Nat → Option (Nat × Nat)} {σ0 : Sto} : ∀ {ps qs : List PV} {us : List Value} {id : Nat} {L : List Nat} {β : Nat → Option (Nat × Nat)} {N : Nat → List Nat} {s s' : Sto} {r wr : List Nat}, StS X S ⟨t, s⟩ w tm β N → 99 ≤ id → All3 (Own1 S w β0 σ0) ps us L → Pend X S s N L → (open1L id ps).Run PC s qs s' r wr →
    ∃ β' N', StS X S ⟨t, s'⟩ w tm β' N' ∧ Tr S S w w β β' s s' ∧ All2 (Val1 S w β' s') qs us ∧ Held s N s' N' L
  | [], qs, [], id, L, β, N, s, s', r, wr, h, _, ho, hp, hr => by
    obtain ⟨rfl, rfl, -, -⟩ := hr
    exact ⟨β, N, h, Tr.refl, trivial, Held.refl⟩
  | p :: ps, qs, u :: us, id, L, β, N, s, s', r, wr, h, hid, ho, hp, hr => by
    obtain ⟨L1, L2, rfl, h1, h2⟩ := ho
    obtain ⟨a1, s1, r1, w1, r2, w2, k1, k2⟩ := bind_run hr
    obtain ⟨a2, s2, r3, w3, r4, w4, k3, k4⟩ := bind_run k2
    obtain ⟨e, e2, -, -⟩ := k4
    subst e e2
    obtain ⟨β1, N1, m1, m2, m3, m4⟩ := open1_spec h hid h1 hp.left k1
    obtain ⟨β2, N2, m5, m6, m7, m8⟩ := open1L_spec m1 (by omega) h2 (hp.right m4) k3
    exact ⟨β2, N2, m5, m2.trans m6, ⟨m6.v1 m3, m7⟩, m4.app m8⟩
  | [], _, _ :: _, _, _, _, _, _, _, _, _, _, _, h, _, _ => h.elim
  | _ :: _, _, [], _, _, _, _, _, _, _, _, _, _, h, _, _ => h.elim
theorem openR_spec {S : Nat → Prop} {tm : Array Value} {β β0 : Nat → Option (Nat × Nat)} {σ0 : Sto} {N : Nat → List Nat} (h : StS X S ⟨t, s⟩ w tm β N) {id : Nat} (hid : 99 ≤ id) {p q : PV} {u : Value} {L : List Nat} (ho : OwnV S w β0 σ0 p u L) (hp : Pend X S s N L) (hr : (openR id p).Run PC s q s' r wr) :
    ∃ β' N', StS X S ⟨t, s'⟩ w tm β' N' ∧ Tr S S w w β β' s s' ∧ ValC S w β' s' q u ∧ Held s N s' N' L := by
  by_cases ha : ∃ cs, p = .tup cs
  · obtain ⟨cs, rfl⟩ := ha
    obtain ⟨us, rfl, ho⟩ := ho
    obtain ⟨a1, s1, r1, w1, r2, w2, k1, k2⟩ := bind_run hr
    obtain ⟨e, e2, -, -⟩ := k2
    subst e e2
    obtain ⟨β1, N1, m1, m2, m3, m4⟩ := open1L_spec h hid ho hp k1
    exact ⟨β1, N1, m1, m2, ⟨us, rfl, m3⟩, m4⟩
  · have ho' : Own1 S w β0 σ0 p u L := by cases p <;> first | exact ho | exact absurd ⟨_, rfl⟩ ha
    have hr' : (open1 id p).Run PC s q s' r wr := by cases p <;> first | exact hr | exact absurd ⟨_, rfl⟩ ha
    obtain ⟨β1, N1, m1, m2, m3, m4⟩ := open1_spec h hid ho' hp hr'
    have hq := open1_noTup hr'
    exact ⟨β1, N1, m1, m2, by cases q <;> first | exact m3 | exact absurd rfl (hq _), m4⟩
end
end Go.Px
namespace Go.Px
open Go.RowKit
section
variable {P : Program} {PC : Con} {X : Ctx} {nt : Nat} {Q : Exit → Act → World → Prop} {ε : Env} {a : Act} {w : World} {o : Oper} {v : PV} {t : Nat → PV} {s s' : Sto} {r wr : List Nat}
theorem Cont.flat {S S' : Nat → Prop} {k : K} (hk : flat k = true) {l : List (ty k)} {f : Nat → Option Value} (h : Cont S w l f) : Cont S' w l f := fun i x hx j lf hlf => by
  obtain ⟨u, hu, hv⟩ := h i x hx j lf hlf
  obtain ⟨q, rfl⟩ := flat_sc hk x lf (List.mem_of_getElem? hlf)
  exact ⟨u, hu, hv⟩
theorem Own.flat {S S' : Nat → Prop} {k : K} (hk : flat k = true) {u : Value} {l : List (ty k)} {L : List Nat} (h : Own S w k u l L) : Own S' w k u l L := by
  rcases h with h | ⟨g, cap, cur, h1, h2, h3, h4, h5, h6, h7, h8⟩
  · exact .inl h
  · exact .inr ⟨g, cap, cur, h1, h2, h3, h4, h5, h6, h7, h8.flat hk⟩
def isFz : PV → Bool | .row false _ _ => true | .row true k _ => !flat k | .eptr .. => true | _ => false
theorem noFzS {S S' : Nat → Prop} {β : Nat → Option (Nat × Nat)} {σ : Sto} {p : PV} {u : Value} {L : List Nat} (hp : isFz p = false) (hcap : ∀ f cs, p = .fn f cs → cs = []) (h : OwnS S w β σ p u L) : OwnS S' w β σ p u L := by
  cases p with
  | row own k l => cases own with
    | true => exact Own.flat (by simpa [isFz] using hp) h
    | false => cases hp
  | eptr => cases hp
  | fn f caps =>
    obtain rfl := hcap f caps rfl
    obtain ⟨e, us, h1, h2⟩ := h
    refine ⟨e, us, h1, ?_⟩
    cases hu : us.toList with
    | nil => trivial
    | cons x xs => rw [hu] at h2; exact h2.elim
  | _ => exact h
theorem All3.imp {R R' : PV → Value → List Nat → Prop} {B : PV → Bool} (h : ∀ p u L, B p = false → R p u L → R' p u L) : ∀ {ps : List PV} {us : List Value} {L : List Nat}, ps.any B = false → All3 R ps us L → All3 R' ps us L
  | [], [], _, _, h => h
  | p :: ps, u :: us, L, hb, ⟨L1, L2, e, h1, h2⟩ => by
    simp only [List.any_cons, Bool.or_eq_false_iff] at hb
    exact ⟨L1, L2, e, h _ _ _ hb.1 h1, All3.imp h hb.2 h2⟩
  | [], _ :: _, _, _, h => h.elim
  | _ :: _, [], _, _, h => h.elim
theorem fzS_spec {S S' : Nat → Prop} {β : Nat → Option (Nat × Nat)} {σ : Sto} {p : PV} {u : Value} {L : List Nat} (hp : fzS p = false) (h : OwnS S w β σ p u L) : OwnS S' w β σ p u L := by
  refine noFzS ?_ ?_ h
  · cases p <;> first | rfl | skip
    · rename_i own k l; cases own <;> first | exact hp | rfl
    · exact hp
  · rintro f cs rfl
    cases cs <;> first | rfl | cases hp
theorem fz1_spec {S S' : Nat → Prop} {β : Nat → Option (Nat × Nat)} {σ : Sto} {p : PV} {u : Value} {L : List Nat} (hp : fz1 p = false) (h : Own1 S w β σ p u L) : Own1 S' w β σ p u L := by
  by_cases ha : ∃ cs, p = .agg cs
  · obtain ⟨cs, rfl⟩ := ha
    obtain ⟨us, e, h⟩ := h
    exact ⟨us, e, All3.imp (B := fzS) (fun p u L hb h => fzS_spec hb h) hp h⟩
  · have h' : OwnS S w β σ p u L := by cases p <;> first | exact h | exact absurd ⟨_, rfl⟩ ha
    have hp' : fzS p = false := by cases p <;> first | exact hp | exact absurd ⟨_, rfl⟩ ha
    have := fzS_spec (S' := S') hp' h'
    cases p <;> first | exact this | exact absurd ⟨_, rfl⟩ ha
theorem fzR_spec {S S' : Nat → Prop} {β : Nat → Option (Nat × Nat)} {σ : Sto} {p : PV} {u : Value} {L : List Nat} (hp : fzR p = false) (h : OwnV S w β σ p u L) : OwnV S' w β σ p u L := by
  by_cases ha : ∃ cs, p = .tup cs
  · obtain ⟨cs, rfl⟩ := ha
    obtain ⟨us, e, h⟩ := h
    exact ⟨us, e, All3.imp (B := fz1) (fun p u L hb h => fz1_spec hb h) hp h⟩
  · have h' : Own1 S w β σ p u L := by cases p <;> first | exact h | exact absurd ⟨_, rfl⟩ ha
    have hp' : fz1 p = false := by cases p <;> first | exact hp | exact absurd ⟨_, rfl⟩ ha
    have := fz1_spec (S' := S') hp' h'
    cases p <;> first | exact this | exact absurd ⟨_, rfl⟩ ha
end
end Go.Px
namespace Go.Px
open Go.RowKit
section
variable {P : Program} {PC : Con} {X : Ctx} {nt : Nat} {Q : Exit → Act → World → Prop} {ε : Env} {a : Act} {w : World} {o : Oper} {v : PV} {t : Nat → PV} {s s' : Sto} {r wr : List Nat}
theorem All2.map_args {S : Nat → Prop} {β : Nat → Option (Nat × Nat)} {σ : Sto} {f : Operand → PV} {g : Operand → Value} : ∀ {xs : List Operand}, (∀ x ∈ xs, ValC S w β σ (f x) (g x)) → All2 (ValC S w β σ) (xs.map f) (xs.map g)
  | [], _ => trivial
  | x :: xs, h => ⟨h x (by simp), All2.map_args fun y hy => h y (by simp [hy])⟩
theorem StS.close {S : Nat → Prop} {tm : Array Value} {β : Nat → Option (Nat × Nat)} {N : Nat → List Nat} (h : StS X S ε w tm β N) : St X ε w tm β N ∧ Tr S (Fz X w N ε.s) w w β β ε.s ε.s := h.wide h.fz fun _ h => h
end
end Go.Px
namespace Go.Px
open Go.RowKit
abbrev Em := List (Nat × Nat × Nat × Nat)
def exI : Em → Nat → Nat → Nat → Option Nat
  | [], _, _, _ => none
  | (id', _, j', _) :: l, k, id, j => match Nat.beq id' id && Nat.beq j' j with
    | true => some k
    | false => exI l (k + 1) id j
def hasE (id : Nat) : Em → Bool
  | [] => false
  | (id', _) :: l => Nat.beq id' id || hasE id l
def isFn : PV → Bool
  | .fn _ (_ :: _) => true
  | _ => false
def scanA (pn : TypeId → Option Nat) : List PV → List TypeId → Em → Eff Em
  | .ptr id ver _ j :: l, t :: ts, em => (match hasE id em, pn t with
    | false, some n => scanA pn l ts (em ++ [(id, ver, j, n)])
    | _, _ => scanA pn l ts em)
  | _ :: l, _ :: ts, em => scanA pn l ts em
  | _, _, em => .ret em
def scanE : Nat → List PV → Em → Eff Em
  | 0, _, _ => .fail
  | _, [], em => .ret em
  | n + 1, .ptr id ver _ _ :: l, em => (match hasE id em with
    | true => scanE n l em
    | false => live id ver fun
      | .box cs => scanE n (cs.filter isFn ++ l) (em ++ [(id, ver, 0, cs.length)])
      | .rowb _ _ => .fail
      | .objb _ => .fail
      | .iterb _ _ _ _ _ => .fail
      | .rowd _ _ => .fail
      | .rowx _ _ _ _ => .fail)
  | n + 1, .fn _ caps :: l, em => scanE n (caps ++ l) em
  | n + 1, _ :: l, em => scanE n l em
def argS (em : Em) (mv : Bool) : PV → Eff (PV × List Nat × List Nat)
  | .v x => .ret (.v x, [], [])
  | .nil => .ret (.nil, [], [])
  | .row false k l => .ret (.row false k l, [], [])
  | .eptr k l i j => .ret (.eptr k l i j, [], [])
  | .dead => .ret (.dead, [], [])
  | .ref id ver off n full => live id ver fun
    | .rowb k l => (match mv, full with
      | true, true => .ret (.row true k l, [id], [])
      | true, false => .fail
      | false, full => .ret (.row false k (viewL full l off n), [], [id]))
    | .rowd k l => (match mv, full with
      | true, true => .ret (.drow k l, [id], [])
      | true, false => .fail
      | false, full => .ret (.row false k (viewL full l off n), [], [id]))
    | .box _ => .fail
    | .objb _ => .fail
    | .iterb _ _ _ _ _ => .fail
    | .rowx _ _ _ _ => .fail
  | .ptr id ver i j => (match exI em 0 id j, i with
    | some e, 0 => live id ver fun
      | .box _ => .ret (.ptr e 0 0 0, [], [])
      | .rowb _ _ => .fail
      | .objb _ => .fail
      | .iterb _ _ _ _ _ => .fail
      | .rowd _ _ => .fail
      | .rowx _ _ _ _ => .fail
    | _, _ => .fail)
  | _ => .fail
def capL (em : Em) : List PV → Eff (List PV)
  | [] => .ret []
  | p :: ps => (argS em false p).bind fun a => match a.2.2 with
    | [] => (capL em ps).bind fun b => .ret (a.1 :: b)
    | _ :: _ => .fail
def argF (em : Em) (mv : Bool) : PV → Eff (PV × List Nat × List Nat)
  | .fn f caps => (capL em caps).bind fun cs => .ret (.fn f cs, [], [])
  | p => argS em mv p
def argL (em : Em) (mv : Bool) : List PV → Eff (List PV × List Nat × List Nat)
  | [] => .ret ([], [], [])
  | p :: ps => (argF em mv p).bind fun a => (argL em mv ps).bind fun b => .ret (a.1 :: b.1, a.2.1 ++ b.2.1, a.2.2 ++ b.2.2)
def arg1 (em : Em) (mv : Bool) : PV → Eff (PV × List Nat × List Nat)
  | .agg cs => (argL em mv cs).bind fun a => .ret (.agg a.1, a.2)
  | p => argF em mv p
def argA (em : Em) : List Bool → List PV → Eff (List PV × List Nat × List Nat)
  | _, [] => .ret ([], [], [])
  | mv, p :: ps => (arg1 em (mv.headD false) p).bind fun a => (argA em mv.tail ps).bind fun b => .ret (a.1 :: b.1, a.2.1 ++ b.2.1, a.2.2 ++ b.2.2)
def extL (em : Em) : Em → Eff (List (List PV) × List (List Nat))
  | [] => .ret ([], [])
  | (id, ver, j, n) :: l => live id ver fun
    | .box cs => if j + n ≤ cs.length then (argL em true ((cs.drop j).take n)).bind fun a => (match a.2.2 with
        | [] => (extL em l).bind fun b => .ret (a.1 :: b.1, a.2.1 :: b.2)
        | _ :: _ => .fail) else .fail
    | .rowb _ _ => .fail
    | .objb _ => .fail
    | .iterb _ _ _ _ _ => .fail
    | .rowd _ _ => .fail
    | .rowx _ _ _ _ => .fail
def dropS : List Nat → Sto → Sto
  | [], s => s
  | id :: l, s => dropS l (upd s id ⟨(s id).ver, none⟩)
def dropL {α : Type} : List Nat → Eff α → Eff α
  | [], k => k
  | id :: l, k => .rd id fun e => .wr id ⟨e.ver, none⟩ (dropL l k)
def killL {α : Type} : Em → Eff α → Eff α
  | [], k => k
  | (id, ver, j, n) :: l, k => live id ver fun
    | .box cs => .wr id ⟨ver, some (.box (splice cs j (List.replicate n .dead)))⟩ (killL l k)
    | .rowb _ _ => .fail
    | .objb _ => .fail
    | .iterb _ _ _ _ _ => .fail
    | .rowd _ _ => .fail
    | .rowx _ _ _ _ => .fail
def capB (em : Em) : PV → Option PV
  | .ptr e 0 0 0 => match em[e]? with
    | some (id, ver, j, _) => some (.ptr id ver 0 j)
    | none => none
  | _ => none
def capBs (em : Em) : List PV → Option (List PV)
  | [] => some []
  | p :: ps => match capB em p, capBs em ps with
    | some q, some qs => some (q :: qs)
    | _, _ => none
def openC (em : Em) (id : Nat) : PV → Eff PV
  | .fn f (c :: cs) => (match capBs em (c :: cs) with
    | some qs => .ret (.fn f qs)
    | none => .fail)
  | p => openS id p
def openB (em : Em) (id : Nat) : List PV → Eff (List PV)
  | [] => .ret []
  | p :: ps => (openC em id p).bind fun q => (openB em (id + 1) ps).bind fun qs => .ret (q :: qs)
def backL (em0 : Em) (base : Nat) : Em → List (List PV) → Eff PV → Eff PV
  | [], [], k => k
  | (id, ver, j, n) :: em, y :: ys, k => (openB em0 base y).bind fun cs' => live id ver fun
    | .box cs => if j + cs'.length ≤ cs.length then .wr id ⟨ver, some (.box (splice cs j cs'))⟩ (backL em0 (base + 1000) em ys k) else .fail
    | .rowb _ _ => .fail
    | .objb _ => .fail
    | .iterb _ _ _ _ _ => .fail
    | .rowd _ _ => .fail
    | .rowx _ _ _ _ => .fail
  | _, _, _ => .fail
def callFz (r : PV) (ys : List (List PV)) : Bool := fzR r || ys.any fun y => y.any fzS
def backR : List Nat → List PV → Eff PV → Eff PV
  | [], [], k => k
  | id :: ids, .row true _ l :: bs, k => .rd id fun e => match e with
    | ⟨ver, some (.rowb k0 _)⟩ => (match castL k0 l with
      | some l => .wr id ⟨ver, some (.rowb k0 l)⟩ (backR ids bs k)
      | none => .fail)
    | _ => .fail
  | id :: ids, .drow _ l :: bs, k => .rd id fun e => match e with
    | ⟨ver, some (.rowd k0 _)⟩ => (match castL k0 l with
      | some l => .wr id ⟨ver, some (.rowd k0 l)⟩ (backR ids bs k)
      | none => .fail)
    | _ => .fail
  | _, _, _ => .fail
def isGb : PV → Bool
  | .gb _ _ => true
  | _ => false
def gbR : PV → PV
  | .gb r _ => r
  | r => r
def gbB : PV → List PV
  | .gb _ b => b
  | _ => []
def eCallX (pn : TypeId → Option Nat) (mvs : FuncId → List Bool) (ln : FuncId → Bool) (o : Oper) (f : FuncId) (args : List PV) (ats : List TypeId) : Eff PV :=
  (scanA pn args ats []).bind fun em0 => (scanE 64 args em0).bind fun em =>
  (argA em (match ln f with
    | true => List.replicate 64 true
    | false => mvs f) args).bind fun a => (extL em em).bind fun xs =>
  match nodupB (em.map (·.1) ++ (a.2.1 ++ xs.2.flatten)) && disjL a.2.2 (a.2.1 ++ xs.2.flatten) with
  | false => .fail
  | true => .call f a.1 xs.1 fun r ys =>
    let D := (match ln f with
      | true => []
      | false => a.2.1) ++ xs.2.flatten ++ (match callFz (gbR r) ys || (gbB r).any fzS with
      | true => a.2.2
      | false => [])
    match D.all (Nat.ble 99), isGb r, ln f with
    | true, true, true => dropL D <| killL em <| backR a.2.1 (gbB r) <|
      (openR (resId o) (gbR r)).bind fun v => backL em (resId o + 500000) em ys (.ret v)
    | true, false, false => dropL D <| killL em <|
      (openR (resId o) r).bind fun v => backL em (resId o + 500000) em ys (.ret v)
    | _, _, _ => .fail
section
variable {P : Program} {PC : Con} {X : Ctx} {nt : Nat} {Q : Exit → Act → World → Prop} {ε : Env} {a : Act} {w : World} {o : Oper} {v : PV} {s' : Sto} {r wr : List Nat}
theorem scanA_run {pn : TypeId → Option Nat} : ∀ {l : List PV} {ts : List TypeId} {em em' : Em} {s s' : Sto} {r wr : List Nat}, (scanA pn l ts em).Run PC s em' s' r wr → s' = s := by
  intro l
  induction l with
  | nil => intro ts em em' s s' r wr h; cases ts <;> exact h.2.1
  | cons p l ih =>
    intro ts em em' s s' r wr h
    cases ts with
    | nil => cases p <;> exact h.2.1
    | cons t ts =>
      cases p <;> try exact ih h
      unfold scanA at h
      split at h
      · exact ih h
      · exact ih h
theorem scanE_run : ∀ {n : Nat} {l : List PV} {em em' : Em} {s s' : Sto} {r wr : List Nat}, (scanE n l em).Run PC s em' s' r wr → s' = s := by
  intro n
  induction n with
  | zero => intro l em em' s s' r wr h; cases l <;> exact h.elim
  | succ n ih =>
    intro l em em' s s' r wr h
    cases l with
    | nil => exact h.2.1
    | cons p l =>
      cases p <;> try exact ih h
      unfold scanE at h
      split at h
      · exact ih h
      · obtain ⟨b, r', _, rfl, h⟩ := live_run h
        cases b <;> first | exact h.elim | exact ih h
theorem exI_spec : ∀ {em : Em} {k id j e : Nat}, exI em k id j = some e → ∃ i ver n, e = k + i ∧ em[i]? = some (id, ver, j, n)
  | (id', ver', j', n') :: l, k, id, j, e, h => by
    unfold exI at h
    split at h
    · rename_i hb
      rw [Bool.and_eq_true] at hb
      cases h
      rw [← Nat.eq_of_beq_eq_true hb.1, ← Nat.eq_of_beq_eq_true hb.2]
      exact ⟨0, ver', n', rfl, rfl⟩
    · obtain ⟨i, ver, n, h1, h2⟩ := exI_spec h
      exact ⟨i + 1, ver, n, by omega, by simpa using h2⟩
  | [], _, _, _, _, h => by cases h
def locF (β : Nat → Option (Nat × Nat)) : Nat × Nat × Nat × Nat → Nat × Nat := fun x => match β x.1 with
  | some (b, off) => (b, off + x.2.2.1)
  | none => (0, 0)
def HE (em : Em) (β : Nat → Option (Nat × Nat)) (σ : Sto) (β' : Nat → Option (Nat × Nat)) (σ' : Sto) : Prop :=
  ∀ id j e ver cs u, exI em 0 id j = some e → σ id = ⟨ver, some (.box cs)⟩ → PtrC β σ id ver 0 j u → PtrC β' σ' e 0 0 0 u
theorem HE.of {em : Em} {β : Nat → Option (Nat × Nat)} {σ : Sto} {xs : List (List PV)} : HE em β σ (extB (em.map (locF β))) (extS xs) := by
  intro id j e ver cs u he hs hp
  obtain ⟨i, ver', n, h1, h2⟩ := exI_spec he
  rw [Nat.zero_add] at h1
  subst h1
  obtain ⟨h3, h4, h5⟩ := hp
  obtain ⟨b, off, h6, h7⟩ := h5 _ hs
  refine ⟨Nat.zero_le _, h4, fun blk hb => ?_⟩
  unfold extS at hb
  split at hb
  · cases hb
    refine ⟨b, off + j, ?_, by rw [Nat.add_zero]; exact h7⟩
    simp [extB, h2, locF, h6]
  · cases hb
structure AH (X : Ctx) (ε : Env) (w : World) (β : Nat → Option (Nat × Nat)) (N : Nat → List Nat) (S' : Nat → Prop) (pk : List Nat) : Prop where
  f : ∀ b, Fz X w N ε.s b → S' b
  p : ∀ id ∈ pk, ∀ b ∈ N id, S' b
def LiveR (s : Sto) (ids : List Nat) : Prop := ∀ id ∈ ids, ∃ ver blk k l, s id = ⟨ver, some blk⟩ ∧ IsRw blk k l
variable {β : Nat → Option (Nat × Nat)} {N : Nat → List Nat} {tm : Array Value} {S' : Nat → Prop} {β' : Nat → Option (Nat × Nat)} {σ' : Sto} {em : Em}
theorem full_own {k : K} {l : List (ty k)} {id ver off n : Nat} {u : Value} (hst : St X ε w tm β N) (hs : ε.s id = ⟨ver, some (.rowb k l)⟩) (hv : RefC w β ε.s id ver off n true u) (hF : ∀ b, Fz X w N ε.s b → S' b) : Own S' w k u l (N id) := by
  have hc : closeS ε.s (.ref id ver off n true) = some (.row true k l, [id], []) := by
    unfold closeS; simp only [hs]; simp
  have h2 : OwnS S' w β ε.s (.row true k l) u ([id].map N).flatten := (closeS_spec (S' := S') (β' := β) (σ' := ε.s) hst hF (p := .ref id ver off n true) hv hc (by simp)).2
  have h3 : Own S' w k u l ([id].map N).flatten := h2
  simpa using h3
theorem full_ownD {k : K} {l : List (ty k)} {id ver off n : Nat} {u : Value} (hst : St X ε w tm β N) (hs : ε.s id = ⟨ver, some (.rowd k l)⟩) (hv : RefC w β ε.s id ver off n true u) : DOwn w k u l (N id) := by
  have hc : closeS ε.s (.ref id ver off n true) = some (.drow k l, [id], []) := by
    unfold closeS; simp only [hs]; simp
  have h2 : OwnS (Fz X w N ε.s) w β ε.s (.drow k l) u ([id].map N).flatten := (closeS_spec (S' := Fz X w N ε.s) (β' := β) (σ' := ε.s) hst (fun _ h => h) (p := .ref id ver off n true) hv hc (by simp)).2
  have h3 : DOwn w k u l ([id].map N).flatten := h2
  simpa using h3
def MV (w : World) (β : Nat → Option (Nat × Nat)) (s : Sto) (m : List Nat) (us : List Value) : Prop := All2 (fun id u => ∃ ver blk k l off n, s id = ⟨ver, some blk⟩ ∧ IsRw blk k l ∧ RefC w β s id ver off n true u) m us
theorem All2.app {α β : Type} {R : α → β → Prop} : ∀ {as : List α} {bs : List β} {cs : List α} {ds : List β}, All2 R as bs → All2 R cs ds → All2 R (as ++ cs) (bs ++ ds)
  | [], [], _, _, _, h => h
  | _ :: _, _ :: _, _, _, ⟨h1, h2⟩, h => ⟨h1, All2.app h2 h⟩
theorem argS_spec (hst : St X ε w tm β N) (hE : HE em β ε.s β' σ') {mv : Bool} {p q : PV} {m pk : List Nat} {u : Value} (hv : ValS (Fz X w N ε.s) w β ε.s p u) (hr : (argS em mv p).Run PC ε.s (q, m, pk) s' r wr) (hA : AH X ε w β N S' pk) :
    s' = ε.s ∧ OwnS S' w β' σ' q u (m.flatMap N) ∧ LiveR ε.s m ∧ LiveR ε.s pk ∧ (m = [] → ValS S' w β' σ' q u) ∧ (∀ f cs, q ≠ .fn f cs) ∧ (∀ cs, q ≠ .agg cs) ∧ (mv = false → m = []) ∧ (m = [] → Val0 S' w β' σ' q u) ∧ MV w β ε.s m (own1V q u) := by
  have nl : LiveR ε.s [] := fun _ h => by cases h
  unfold argS at hr
  split at hr
  · obtain ⟨e, rfl, -, -⟩ := hr; cases e; exact ⟨rfl, ⟨rfl, hv⟩, nl, nl, fun _ => hv, (fun _ _ e => nomatch e), (fun _ e => nomatch e), fun _ => rfl, fun _ => hv, trivial⟩
  · obtain ⟨e, rfl, -, -⟩ := hr; cases e; exact ⟨rfl, ⟨rfl, hv⟩, nl, nl, fun _ => hv, (fun _ _ e => nomatch e), (fun _ e => nomatch e), fun _ => rfl, fun _ => hv, trivial⟩
  · obtain ⟨e, rfl, -, -⟩ := hr; cases e
    rename_i k l
    have : ValS S' w β' σ' (.row false k l) u := ⟨rfl, hv.2.mono hA.f fun _ _ _ _ h => h⟩
    exact ⟨rfl, ⟨rfl, this⟩, nl, nl, fun _ => this, (fun _ _ e => nomatch e), (fun _ e => nomatch e), fun _ => rfl, fun _ => this, trivial⟩
  · obtain ⟨e, rfl, -, -⟩ := hr; cases e
    obtain ⟨b, off, h1, h2, h3⟩ := hv
    have : ValS S' w β' σ' (.eptr _ _ _ _) u := ⟨b, off, h1, h2, h3.mono hA.f fun _ _ _ _ h => h⟩
    exact ⟨rfl, ⟨rfl, this⟩, nl, nl, fun _ => this, (fun _ _ e => nomatch e), (fun _ e => nomatch e), fun _ => rfl, fun _ => this, trivial⟩
  · obtain ⟨e, rfl, -, -⟩ := hr; cases e; exact ⟨rfl, ⟨rfl, trivial⟩, nl, nl, fun _ => trivial, (fun _ _ e => nomatch e), (fun _ e => nomatch e), fun _ => rfl, fun _ => trivial, trivial⟩
  · rename_i id ver off n full
    have hv0 : RefC w β ε.s id ver off n full u := hv
    obtain ⟨blk, r', hb, rfl, hr⟩ := live_run hr
    have peek : ∀ (k : K) (l : List (ty k)), IsRw blk k l → AH X ε w β N S' [id] → (ε.s = ε.s ∧ OwnS S' w β' σ' (.row false k (viewL full l off n)) u (([] : List Nat).flatMap N) ∧ LiveR ε.s [] ∧ LiveR ε.s [id] ∧ (([] : List Nat) = [] → ValS S' w β' σ' (.row false k (viewL full l off n)) u) ∧ (∀ f cs, PV.row false k (viewL full l off n) ≠ .fn f cs) ∧ (∀ cs, PV.row false k (viewL full l off n) ≠ .agg cs) ∧ (mv = false → ([] : List Nat) = []) ∧ (([] : List Nat) = [] → Val0 S' w β' σ' (.row false k (viewL full l off n)) u) ∧ MV w β ε.s [] (own1V (.row false k (viewL full l off n)) u)) := fun k l hw hA => by
      have lv : LiveR ε.s [id] := fun i hi => by rw [List.mem_singleton.1 hi]; exact ⟨ver, blk, k, l, hb, hw⟩
      have : ValS S' w β' σ' (.row false k (viewL full l off n)) u := ⟨rfl, by rw [view_eq hst hb hw.row hv0]; exact RefC.view hst hv0 hb hw hA.f fun b hbN => hA.p id (by simp) b hbN⟩
      exact ⟨rfl, ⟨rfl, this⟩, nl, lv, fun _ => this, (fun _ _ e => nomatch e), (fun _ e => nomatch e), fun _ => rfl, fun _ => this, trivial⟩
    cases blk with
    | box cs => exact hr.elim
    | objb o => exact hr.elim
    | iterb => exact hr.elim
    | rowx => exact hr.elim
    | rowb k l =>
      simp only at hr
      split at hr
      · obtain ⟨e, rfl, -, -⟩ := hr
        cases e
        have lv : LiveR ε.s [id] := fun i hi => by rw [List.mem_singleton.1 hi]; exact ⟨ver, _, k, l, hb, .b⟩
        refine ⟨rfl, ?_, lv, nl, (fun e => nomatch e), (fun _ _ e => nomatch e), (fun _ e => nomatch e), (fun e => nomatch e), (fun e => nomatch e), ⟨ver, _, k, l, off, n, hb, .b, hv0⟩, trivial⟩
        have := full_own (S' := S') hst hb hv0 hA.f
        show Own S' w k u l _
        simpa using this
      · exact hr.elim
      · obtain ⟨e, rfl, -, -⟩ := hr
        cases e
        exact peek k l .b hA
    | rowd k l =>
      simp only at hr
      split at hr
      · obtain ⟨e, rfl, -, -⟩ := hr
        cases e
        have lv : LiveR ε.s [id] := fun i hi => by rw [List.mem_singleton.1 hi]; exact ⟨ver, _, k, l, hb, .d⟩
        refine ⟨rfl, ?_, lv, nl, (fun e => nomatch e), (fun _ _ e => nomatch e), (fun _ e => nomatch e), (fun e => nomatch e), (fun e => nomatch e), ⟨ver, _, k, l, off, n, hb, .d, hv0⟩, trivial⟩
        have := full_ownD hst hb hv0
        show DOwn w k u l _
        simpa using this
      · exact hr.elim
      · obtain ⟨e, rfl, -, -⟩ := hr
        cases e
        exact peek k l .d hA
  · rename_i id ver i j
    split at hr
    · rename_i e he
      obtain ⟨blk, r', hb, rfl, hr⟩ := live_run hr
      cases blk with
      | box cs =>
        obtain ⟨e, rfl, -, -⟩ := hr
        cases e
        have : ValS S' w β' σ' (.ptr _ 0 0 0) u := hE _ _ _ _ _ _ he hb hv
        exact ⟨rfl, ⟨rfl, this⟩, nl, nl, fun _ => this, (fun _ _ e => nomatch e), (fun _ e => nomatch e), fun _ => rfl, fun _ => this, trivial⟩
      | rowb k l => exact hr.elim
      | objb o => exact hr.elim
      | iterb => exact hr.elim
      | rowd => exact hr.elim
      | rowx => exact hr.elim
    · exact hr.elim
  · exact hr.elim
theorem capL_spec (hst : St X ε w tm β N) (hE : HE em β ε.s β' σ') (hF : ∀ b, Fz X w N ε.s b → S' b) : ∀ {ps qs : List PV} {us : List Value} {s' : Sto} {r wr : List Nat}, All2 (Val0 (Fz X w N ε.s) w β ε.s) ps us → (capL em ps).Run PC ε.s qs s' r wr → s' = ε.s ∧ All2 (Val0 S' w β' σ') qs us
  | [], qs, [], s', r, wr, _, hr => by obtain ⟨rfl, rfl, -, -⟩ := hr; exact ⟨rfl, trivial⟩
  | p :: ps, qs, u :: us, s', r, wr, ⟨h1, h2⟩, hr => by
    obtain ⟨⟨q, m, pk⟩, s1, r1, w1, r2, w2, k1, k2⟩ := bind_run hr
    simp only at k2
    cases pk with
    | cons _ _ => exact k2.elim
    | nil =>
      obtain ⟨qs', s2, r3, w3, r4, w4, k3, k4⟩ := bind_run k2
      obtain ⟨rfl, rfl, -, -⟩ := k4
      have hv : ValS (Fz X w N ε.s) w β ε.s p u := by cases p <;> first | exact h1 | exact h1.elim
      obtain ⟨rfl, m1, m2, m3, m4, m5, m6, m7, m8, _⟩ := argS_spec (S' := S') (β' := β') (σ' := σ') hst hE hv k1 ⟨hF, fun _ h => by cases h⟩
      obtain ⟨rfl, n1⟩ := capL_spec hst hE hF h2 k3
      exact ⟨rfl, m8 (m7 rfl), n1⟩
  | [], _, _ :: _, _, _, _, h, _ => h.elim
  | _ :: _, _, [], _, _, _, h, _ => h.elim
theorem argF_spec (hst : St X ε w tm β N) (hE : HE em β ε.s β' σ') {mv : Bool} {p q : PV} {m pk : List Nat} {u : Value} (hv : ValS (Fz X w N ε.s) w β ε.s p u) (hr : (argF em mv p).Run PC ε.s (q, m, pk) s' r wr) (hA : AH X ε w β N S' pk) :
    s' = ε.s ∧ OwnS S' w β' σ' q u (m.flatMap N) ∧ LiveR ε.s m ∧ LiveR ε.s pk ∧ (∀ cs, q ≠ .agg cs) ∧ MV w β ε.s m (own1V q u) := by
  unfold argF at hr
  split at hr
  · rename_i f caps
    obtain ⟨cs, s1, r1, w1, r2, w2, k1, k2⟩ := bind_run hr
    obtain ⟨e, rfl, -, -⟩ := k2
    cases e
    obtain ⟨us, rfl, hall⟩ := hv
    obtain ⟨rfl, m1⟩ := capL_spec (S' := S') (β' := β') (σ' := σ') hst hE hA.f hall k1
    exact ⟨rfl, ⟨rfl, us, rfl, m1⟩, (fun _ h => by cases h), (fun _ h => by cases h), (fun _ e => nomatch e), trivial⟩
  · obtain ⟨h1, h2, h3, h4, h5, h6, h7, h8, _, h9⟩ := argS_spec (S' := S') (β' := β') (σ' := σ') hst hE hv hr hA
    exact ⟨h1, h2, h3, h4, h7, h9⟩
theorem LiveR.app {s : Sto} {l1 l2 : List Nat} (h1 : LiveR s l1) (h2 : LiveR s l2) : LiveR s (l1 ++ l2) := fun id h => (List.mem_append.1 h).elim (h1 id) (h2 id)
theorem AH.left {pk1 pk2 : List Nat} (h : AH X ε w β N S' (pk1 ++ pk2)) : AH X ε w β N S' pk1 := ⟨h.f, fun id hi => h.p id (List.mem_append_left _ hi)⟩
theorem AH.right {pk1 pk2 : List Nat} (h : AH X ε w β N S' (pk1 ++ pk2)) : AH X ε w β N S' pk2 := ⟨h.f, fun id hi => h.p id (List.mem_append_right _ hi)⟩
theorem argL_spec (hst : St X ε w tm β N) (hE : HE em β ε.s β' σ') {mv : Bool} : ∀ {ps qs : List PV} {us : List Value} {m pk : List Nat} {s' : Sto} {r wr : List Nat}, All2 (ValS (Fz X w N ε.s) w β ε.s) ps us → (argL em mv ps).Run PC ε.s (qs, m, pk) s' r wr → AH X ε w β N S' pk →
    s' = ε.s ∧ All3 (OwnS S' w β' σ') qs us (m.flatMap N) ∧ LiveR ε.s m ∧ LiveR ε.s pk ∧ MV w β ε.s m (ownCells qs us)
  | [], qs, [], m, pk, s', r, wr, _, hr, _ => by obtain ⟨e, rfl, -, -⟩ := hr; cases e; exact ⟨rfl, rfl, (fun _ h => by cases h), (fun _ h => by cases h), trivial⟩
  | p :: ps, qs, u :: us, m, pk, s', r, wr, ⟨h1, h2⟩, hr, hA => by
    obtain ⟨⟨q, m1, p1⟩, s1, r1, w1, r2, w2, k1, k2⟩ := bind_run hr
    obtain ⟨⟨qs', m2, p2⟩, s2, r3, w3, r4, w4, k3, k4⟩ := bind_run k2
    obtain ⟨e, rfl, -, -⟩ := k4
    cases e
    obtain ⟨rfl, a1, a2, a3, a4, a5⟩ := argF_spec (S' := S') (β' := β') (σ' := σ') hst hE h1 k1 hA.left
    obtain ⟨rfl, b1, b2, b3, b4⟩ := argL_spec hst hE h2 k3 hA.right
    exact ⟨rfl, ⟨_, _, List.flatMap_append, a1, b1⟩, a2.app b2, a3.app b3, All2.app a5 b4⟩
  | [], _, _ :: _, _, _, _, _, _, h, _, _ => h.elim
  | _ :: _, _, [], _, _, _, _, _, h, _, _ => h.elim
theorem arg1_spec (hst : St X ε w tm β N) (hE : HE em β ε.s β' σ') {mv : Bool} {p q : PV} {m pk : List Nat} {u : Value} (hv : ValC (Fz X w N ε.s) w β ε.s p u) (hr : (arg1 em mv p).Run PC ε.s (q, m, pk) s' r wr) (hA : AH X ε w β N S' pk) :
    s' = ε.s ∧ Own1 S' w β' σ' q u (m.flatMap N) ∧ LiveR ε.s m ∧ LiveR ε.s pk ∧ MV w β ε.s m (own1A q u) := by
  by_cases ha : ∃ cs, p = .agg cs
  · obtain ⟨cs, rfl⟩ := ha
    obtain ⟨us, rfl, hv⟩ := hv
    obtain ⟨⟨qs, m1, p1⟩, s1, r1, w1, r2, w2, k1, k2⟩ := bind_run hr
    obtain ⟨e, rfl, -, -⟩ := k2
    cases e
    obtain ⟨rfl, a1, a2, a3, a4⟩ := argL_spec (S' := S') (β' := β') (σ' := σ') hst hE hv k1 hA
    exact ⟨rfl, ⟨us, rfl, a1⟩, a2, a3, a4⟩
  · have hr' : (argF em mv p).Run PC ε.s (q, m, pk) s' r wr := by
      cases p <;> first | exact hr | exact absurd ⟨_, rfl⟩ ha
    have hnt : ∀ vs, p ≠ .tup vs := by rintro vs rfl; exact hr'.elim
    obtain ⟨rfl, a1, a2, a3, a4, a5⟩ := argF_spec (S' := S') (β' := β') (σ' := σ') hst hE (hv.vs (fun cs e => ha ⟨cs, e⟩) hnt) hr' hA
    exact ⟨rfl, by cases q <;> first | exact a1 | exact absurd rfl (a4 _), a2, a3, by cases q <;> first | exact a5 | exact absurd rfl (a4 _)⟩
theorem argA_spec (hst : St X ε w tm β N) (hE : HE em β ε.s β' σ') : ∀ {mv : List Bool} {ps qs : List PV} {us : List Value} {m pk : List Nat} {s' : Sto} {r wr : List Nat}, All2 (ValC (Fz X w N ε.s) w β ε.s) ps us → (argA em mv ps).Run PC ε.s (qs, m, pk) s' r wr → AH X ε w β N S' pk →
    s' = ε.s ∧ All3 (Own1 S' w β' σ') qs us (m.flatMap N) ∧ LiveR ε.s m ∧ LiveR ε.s pk ∧ MV w β ε.s m (ownVals qs us)
  | mv, [], qs, [], m, pk, s', r, wr, _, hr, _ => by
    have hr : (Eff.ret (([] : List PV), ([] : List Nat), ([] : List Nat))).Run PC ε.s (qs, m, pk) s' r wr := by cases mv <;> exact hr
    obtain ⟨e, rfl, -, -⟩ := hr; cases e; exact ⟨rfl, rfl, (fun _ h => by cases h), (fun _ h => by cases h), trivial⟩
  | mv, p :: ps, qs, u :: us, m, pk, s', r, wr, ⟨h1, h2⟩, hr, hA => by
    obtain ⟨⟨q, m1, p1⟩, s1, r1, w1, r2, w2, k1, k2⟩ := bind_run hr
    obtain ⟨⟨qs', m2, p2⟩, s2, r3, w3, r4, w4, k3, k4⟩ := bind_run k2
    obtain ⟨e, rfl, -, -⟩ := k4
    cases e
    obtain ⟨rfl, a1, a2, a3, a4⟩ := arg1_spec (S' := S') (β' := β') (σ' := σ') hst hE h1 k1 hA.left
    obtain ⟨rfl, b1, b2, b3, b4⟩ := argA_spec hst hE h2 k3 hA.right
    exact ⟨rfl, ⟨_, _, List.flatMap_append, a1, b1⟩, a2.app b2, a3.app b3, All2.app a4 b4⟩
  | _, [], _, _ :: _, _, _, _, _, _, h, _, _ => h.elim
  | _, _ :: _, _, [], _, _, _, _, _, h, _, _ => h.elim
def LiveX (s : Sto) (em : Em) : Prop := ∀ id ver j n, (id, ver, j, n) ∈ em → ∃ cs, s id = ⟨ver, some (.box cs)⟩ ∧ j + n ≤ cs.length
theorem extL_spec {em0 : Em} (hst : St X ε w tm β N) (hE : HE em0 β ε.s β' σ') (hF : ∀ b, Fz X w N ε.s b → S' b) : ∀ {em : Em} {xs : List (List PV)} {ms : List (List Nat)} {s' : Sto} {r wr : List Nat}, (extL em0 em).Run PC ε.s (xs, ms) s' r wr →
    s' = ε.s ∧ xs.length = em.length ∧ LiveR ε.s ms.flatten ∧ LiveX ε.s em ∧ (ms.map fun m => m.flatMap N).length = em.length ∧ (∀ (e : Nat) (x : Nat × Nat × Nat × Nat) (cs : List PV), em[e]? = some x → xs[e]? = some cs → cs.length = x.2.2.2) ∧
    ∀ (e : Nat) (p : Nat × Nat) (cs : List PV) (L : List Nat), (em.map (locF β))[e]? = some p → xs[e]? = some cs → (ms.map fun m => m.flatMap N)[e]? = some L → BoxO S' w β' σ' p cs L
  | [], xs, ms, s', r, wr, hr => by
    obtain ⟨e, rfl, -, -⟩ := hr
    cases e
    exact ⟨rfl, rfl, (fun _ h => by cases h), (fun _ _ _ _ h => by cases h), rfl, (fun e x cs h => by simp at h), fun e p cs L h => by simp at h⟩
  | (id, ver, j, n) :: em, xs, ms, s', r, wr, hr => by
    obtain ⟨blk, r', hb, rfl, hr⟩ := live_run hr
    cases blk with
    | rowb k l => exact hr.elim
    | objb o => exact hr.elim
    | iterb => exact hr.elim
    | rowd => exact hr.elim
    | rowx => exact hr.elim
    | box cs =>
      simp only at hr
      split at hr
      case isFalse => exact hr.elim
      rename_i hjn
      obtain ⟨⟨qs, m, pk⟩, s1, r1, w1, r2, w2, k1, k2⟩ := bind_run hr
      simp only at k2
      cases pk with
      | cons _ _ => exact k2.elim
      | nil =>
        obtain ⟨⟨xs', ms'⟩, s2, r3, w3, r4, w4, k3, k4⟩ := bind_run k2
        obtain ⟨e, rfl, -, -⟩ := k4
        cases e
        obtain ⟨b, off, cur, E, q1, q2, q3, q4, q5⟩ := hst.blk id _ (by rw [hb])
        obtain ⟨us, hul, hus, hall⟩ : ∃ us : List Value, us.length = n ∧ (∀ i u, us[i]? = some u → cur[off + j + i]? = some u ∧ u.oneCell' = true) ∧ All2 (ValS (Fz X w N ε.s) w β ε.s) ((cs.drop j).take n) us := by
          have key : ∀ (l : List PV) (st : Nat), (∀ i p, l[i]? = some p → cs[st + i]? = some p) → ∃ us : List Value, us.length = l.length ∧ (∀ i u, us[i]? = some u → cur[off + st + i]? = some u ∧ u.oneCell' = true) ∧ All2 (ValS (Fz X w N ε.s) w β ε.s) l us := by
            intro l
            induction l with
            | nil => intro st _; exact ⟨[], rfl, (fun i u h => by simp at h), trivial⟩
            | cons p l ih =>
              intro st hl
              obtain ⟨us, e1, e2, e3⟩ := ih (st + 1) fun i p hp => by rw [show st + 1 + i = st + (i + 1) by omega]; exact hl (i + 1) p (by simpa using hp)
              obtain ⟨u, hu, h1c, hv⟩ := q5 st p (by simpa using hl 0 p rfl)
              refine ⟨u :: us, by simp [e1], fun i u' hi => ?_, hv, e3⟩
              cases i with
              | zero => simp at hi; subst hi; exact ⟨by simpa using hu, h1c⟩
              | succ i => rw [show off + st + (i + 1) = off + (st + 1) + i by omega]; exact e2 i u' (by simpa using hi)
          obtain ⟨us, e1, e2, e3⟩ := key ((cs.drop j).take n) j fun i p hp => by
            rw [List.getElem?_take] at hp
            split at hp
            · rwa [List.getElem?_drop] at hp
            · cases hp
          exact ⟨us, by rw [e1, List.length_take, List.length_drop]; omega, e2, e3⟩
        obtain ⟨rfl, a1, a2, a3, _⟩ := argL_spec (S' := S') (β' := β') (σ' := σ') hst hE hall k1 ⟨hF, fun _ h => by cases h⟩
        obtain ⟨rfl, b1, b2, b3, b4, b5, b6⟩ := extL_spec hst hE hF k3
        have hql : qs.length = n := by
          rw [a1.len, hul]
        refine ⟨rfl, by simp [b1], by rw [List.flatten_cons]; exact a2.app b2, fun id' ver' j' n' hm => ?_, by simp at b4 ⊢; exact b4, fun e x c he hx => ?_, fun e p c L he hx hL => ?_⟩
        · rcases List.mem_cons.1 hm with hm | hm
          · cases hm; exact ⟨cs, hb, hjn⟩
          · exact b3 id' ver' j' n' hm
        · cases e with
          | zero => simp at he hx; subst he hx; exact hql
          | succ e => exact b5 e x c (by simpa using he) (by simpa using hx)
        · cases e with
          | zero =>
            simp at he hx hL
            subst he hx hL
            have e0 : locF β (id, ver, j, n) = (b, off + j) := by simp [locF, q1]
            rw [e0]
            exact ⟨cur, E, us, q3, by rw [hql]; show off + j + n ≤ _; omega, fun i u hi => hus i u hi, a1⟩
          | succ e => exact b6 e p c L (by simpa using he) (by simpa using hx) (by simpa using hL)
end
end Go.Px
namespace Go.Px
open Go.RowKit
theorem dropS_same {l : List Nat} : ∀ {s : Sto} {id : Nat}, id ∉ l → dropS l s id = s id := by
  induction l with
  | nil => intro s id _; rfl
  | cons i l ih =>
    intro s id h
    simp only [List.mem_cons, not_or] at h
    show dropS l (upd s i _) id = s id
    rw [ih h.2, upd_ne _ _ h.1]
theorem dropS_mem {l : List Nat} : ∀ {s : Sto} {id : Nat}, id ∈ l → dropS l s id = ⟨(s id).ver, none⟩ := by
  induction l with
  | nil => intro s id h; cases h
  | cons i l ih =>
    intro s id h
    show dropS l (upd s i _) id = _
    by_cases hi : id ∈ l
    · rw [ih hi]
      by_cases e : id = i
      · subst e; rw [upd_same]
      · rw [upd_ne _ _ e]
    · have e : id = i := by simpa [hi] using h
      subst e
      rw [dropS_same hi, upd_same]
theorem dropL_run {PC : Con} {α : Type} {k : Eff α} : ∀ {l : List Nat} {s s' : Sto} {a : α} {r wr : List Nat}, (dropL l k).Run PC s a s' r wr → ∃ r' wr', k.Run PC (dropS l s) a s' r' wr'
  | [], s, s', a, r, wr, h => ⟨r, wr, h⟩
  | id :: l, s, s', a, r, wr, h => by
    obtain ⟨r', _, w', _, h⟩ := h
    exact dropL_run (l := l) h
def kill1 (s : Sto) (id ver j n : Nat) : Sto := match s id with
  | ⟨_, some (.box cs)⟩ => upd s id ⟨ver, some (.box (splice cs j (List.replicate n .dead)))⟩
  | _ => s
theorem kill1_ne {s : Sto} {id ver j n i : Nat} (h : i ≠ id) : kill1 s id ver j n i = s i := by
  unfold kill1
  cases s id with
  | mk v b => cases b with
    | none => rfl
    | some b => cases b with
      | box cs => exact upd_ne _ _ h
      | _ => rfl
theorem kill1_box {s : Sto} {id ver v j n : Nat} {cs : List PV} (h : s id = ⟨v, some (.box cs)⟩) : kill1 s id ver j n = upd s id ⟨ver, some (.box (splice cs j (List.replicate n .dead)))⟩ := by
  unfold kill1; rw [h]
def killS : Em → Sto → Sto
  | [], s => s
  | (id, ver, j, n) :: l, s => killS l (kill1 s id ver j n)
theorem killL_run {PC : Con} {α : Type} {k : Eff α} : ∀ {l : Em} {s s' : Sto} {a : α} {r wr : List Nat}, (killL l k).Run PC s a s' r wr → ∃ r' wr', k.Run PC (killS l s) a s' r' wr'
  | [], s, s', a, r, wr, h => ⟨r, wr, h⟩
  | (id, ver, j, n) :: l, s, s', a, r, wr, h => by
    obtain ⟨blk, r', hb, rfl, h⟩ := live_run h
    cases blk with
    | box cs =>
      obtain ⟨w', _, h⟩ := h
      have := killL_run h
      unfold killS
      rw [kill1_box hb]
      exact this
    | rowb k l => exact h.elim
    | objb o => exact h.elim
    | iterb => exact h.elim
    | rowd => exact h.elim
    | rowx => exact h.elim
theorem killS_same {l : Em} : ∀ {s : Sto} {id : Nat}, id ∉ l.map (·.1) → killS l s id = s id := by
  induction l with
  | nil => intro s id _; rfl
  | cons x l ih =>
    obtain ⟨i, ver, j, n⟩ := x
    intro s id h
    simp only [List.map_cons, List.mem_cons, not_or] at h
    unfold killS
    rw [ih h.2, kill1_ne h.1]
theorem killS_mem {l : Em} : ∀ {s : Sto} {id ver j n : Nat} {cs : List PV}, (l.map (·.1)).Nodup → (id, ver, j, n) ∈ l → s id = ⟨ver, some (.box cs)⟩ → killS l s id = ⟨ver, some (.box (splice cs j (List.replicate n .dead)))⟩ := by
  induction l with
  | nil => intro s id ver j n cs _ h; cases h
  | cons x l ih =>
    obtain ⟨i, ver', j', n'⟩ := x
    intro s id ver j n cs hnd h hs
    rw [List.map_cons, List.nodup_cons] at hnd
    unfold killS
    rcases List.mem_cons.1 h with e | h
    · cases e
      rw [killS_same hnd.1, kill1_box hs]
      exact upd_same _ _ _
    · have hne : id ≠ i := fun e => hnd.1 (by rw [← e]; exact List.mem_map.2 ⟨_, h, rfl⟩)
      exact ih hnd.2 h (by rw [kill1_ne hne]; exact hs)
theorem splice_len {α : Type} {cs new : List α} {j : Nat} (h : j + new.length ≤ cs.length) : (splice cs j new).length = cs.length := by
  unfold splice; simp; omega
theorem splice_get {α : Type} {cs new : List α} {j : Nat} (h : j + new.length ≤ cs.length) (i : Nat) : (splice cs j new)[i]? = if i < j then cs[i]? else if i < j + new.length then new[i - j]? else cs[i]? := by
  unfold splice
  by_cases h1 : i < j
  · rw [if_pos h1, List.append_assoc, List.getElem?_append_left (by simp; omega), List.getElem?_take, if_pos h1]
  · rw [if_neg h1]
    by_cases h2 : i < j + new.length
    · rw [if_pos h2, List.append_assoc, List.getElem?_append_right (by simp; omega), List.getElem?_append_left (by simp; omega)]
      congr 1; simp; omega
    · rw [if_neg h2, List.getElem?_append_right (by simp; omega), List.getElem?_drop]
      congr 1; simp; omega
section
variable {P : Program} {PC : Con} {X : Ctx} {nt : Nat} {Q : Exit → Act → World → Prop} {ε : Env} {a : Act} {w : World} {o : Oper} {v : PV} {s' : Sto} {r wr : List Nat}
variable {β : Nat → Option (Nat × Nat)} {N : Nat → List Nat} {tm : Array Value}
theorem flatMap_nodup (hst : St X ε w tm β N) : ∀ {ids : List Nat}, ids.Nodup → (∀ id ∈ ids, ∃ b, (ε.s id).blk = some b) → (ids.flatMap N).Nodup
  | [], _, _ => List.nodup_nil
  | id :: ids, hn, hl => by
    rw [List.nodup_cons] at hn
    obtain ⟨b, hb⟩ := hl id (List.mem_cons_self ..)
    rw [List.flatMap_cons, List.nodup_append]
    refine ⟨hst.nodup id b hb, flatMap_nodup hst hn.2 fun i hi => hl i (List.mem_cons_of_mem _ hi), fun x hx y hy e => ?_⟩
    subst e
    obtain ⟨i, hi, hxi⟩ := List.mem_flatMap.1 hy
    obtain ⟨b', hb'⟩ := hl i (List.mem_cons_of_mem _ hi)
    exact hst.disj id i b b' hb hb' (fun e => hn.1 (e ▸ hi)) x hx hxi
theorem locs_fst (hst : St X ε w tm β N) {em : Em} (hl : LiveX ε.s em) : (em.map (locF β)).map (·.1) = (em.map (·.1)).flatMap N := by
  induction em with
  | nil => rfl
  | cons x em ih =>
    obtain ⟨id, ver, j, n⟩ := x
    obtain ⟨cs, hs, _⟩ := hl id ver j n (List.mem_cons_self ..)
    obtain ⟨b, off, cur, E, q1, q2, _⟩ := hst.blk id _ (by rw [hs])
    have := ih fun i v j n hm => hl i v j n (List.mem_cons_of_mem _ hm)
    simp only [List.map_cons, List.flatMap_cons, this, q2]
    simp [locF, q1]
abbrev Ren := List (Nat × Blk × List Nat)
def renS : Ren → Sto → Sto
  | [], s => s
  | (id, b, _) :: R, s => renS R (upd s id ⟨(s id).ver, some b⟩)
def renN : Ren → (Nat → List Nat) → Nat → List Nat
  | [], N => N
  | (id, _, L) :: R, N => renN R (upd N id L)
theorem renS_same : ∀ {R : Ren} {s : Sto} {id : Nat}, id ∉ R.map (·.1) → renS R s id = s id
  | [], _, _, _ => rfl
  | (i, b, L) :: R, s, id, h => by
    simp only [List.map_cons, List.mem_cons, not_or] at h
    unfold renS
    rw [renS_same h.2, upd_ne _ _ h.1]
theorem renN_same : ∀ {R : Ren} {N : Nat → List Nat} {id : Nat}, id ∉ R.map (·.1) → renN R N id = N id
  | [], _, _, _ => rfl
  | (i, b, L) :: R, s, id, h => by
    simp only [List.map_cons, List.mem_cons, not_or] at h
    unfold renN
    rw [renN_same h.2, upd_ne _ _ h.1]
theorem renS_mem : ∀ {R : Ren} {s : Sto} {id : Nat} {b : Blk} {L : List Nat}, (R.map (·.1)).Nodup → (id, b, L) ∈ R → renS R s id = ⟨(s id).ver, some b⟩
  | (i, b0, L0) :: R, s, id, b, L, hn, h => by
    rw [List.map_cons, List.nodup_cons] at hn
    unfold renS
    rcases List.mem_cons.1 h with e | h
    · cases e
      rw [renS_same hn.1, upd_same]
    · have hne : id ≠ i := fun e => hn.1 (by rw [← e]; exact List.mem_map.2 ⟨_, h, rfl⟩)
      rw [renS_mem hn.2 h, upd_ne _ _ hne]
  | [], _, _, _, _, _, h => by cases h
theorem renN_mem : ∀ {R : Ren} {N : Nat → List Nat} {id : Nat} {b : Blk} {L : List Nat}, (R.map (·.1)).Nodup → (id, b, L) ∈ R → renN R N id = L
  | (i, b0, L0) :: R, s, id, b, L, hn, h => by
    rw [List.map_cons, List.nodup_cons] at hn
    unfold renN
    rcases List.mem_cons.1 h with e | h
    · cases e
      rw [renN_same hn.1, upd_same]
    · exact renN_mem hn.2 h
  | [], _, _, _, _, _, h => by cases h
theorem flatMap_disj {α : Type} {f : α → List Nat} : ∀ {l : List α}, (l.flatMap f).Nodup → ∀ a ∈ l, (f a).Nodup ∧ ∀ b ∈ l, (∀ x ∈ f a, x ∉ f b) ∨ a = b
  | [], _, a, h => by cases h
  | c :: l, hn, a, ha => by
    rw [List.flatMap_cons, List.nodup_append] at hn
    obtain ⟨h1, h2, h3⟩ := hn
    have up : ∀ b ∈ l, ∀ x ∈ f b, x ∈ l.flatMap f := fun b hb x hx => List.mem_flatMap.2 ⟨b, hb, hx⟩
    rcases List.mem_cons.1 ha with rfl | ha'
    · refine ⟨h1, fun b hb => ?_⟩
      rcases List.mem_cons.1 hb with rfl | hb
      · exact .inr rfl
      · exact .inl fun x hx hx' => h3 x hx x (up b hb x hx') rfl
    · obtain ⟨h4, h5⟩ := flatMap_disj h2 a ha'
      refine ⟨h4, fun b hb => ?_⟩
      rcases List.mem_cons.1 hb with rfl | hb
      · exact .inl fun x hx hx' => h3 x hx' x (up a ha' x hx) rfl
      · exact h5 b hb
theorem called (hst : St X ε w tm β N) {em : Em} {M D : List Nat} {R : Ren} {ys : List (List PV)} {Le' : List (List Nat)} {w' : World} {S' : Nat → Prop} {β0 : Nat → Option (Nat × Nat)} {σ0 : Sto}
    (hX : LiveX ε.s em) (hM : ∀ id ∈ M, ∃ ver blk k l, ε.s id = ⟨ver, some blk⟩ ∧ IsRw blk k l) (hD : ∀ id ∈ D, 99 ≤ id ∧ ∃ ver blk k l, ε.s id = ⟨ver, some blk⟩ ∧ IsRw blk k l) (hMD : ∀ id ∈ M, id ∈ D ∨ id ∈ R.map (·.1)) (hnd : (em.map (·.1)).Nodup)
    (hR : ∀ id b L, (id, b, L) ∈ R → ∃ ver blk k l l', ε.s id = ⟨ver, some blk⟩ ∧ IsRw blk k l ∧ IsRw b k l' ∧ l'.length = l.length ∧ (∀ σ, BlkC S' w' β σ L id b) ∧ ∀ bb, β id = some (bb, 0) → ∀ cur E fz cur' E' fz', w.heap[bb]? = some (Obj.cells cur E fz) → w'.heap[bb]? = some (Obj.cells cur' E' fz') → cur'.size = cur.size)
    (hRn : (R.map (·.1)).Nodup) (hRD : ∀ id ∈ R.map (·.1), id ∉ D ∧ id ∉ em.map (·.1))
    (hRL : ∀ id b L, (id, b, L) ∈ R → ∀ x ∈ L, x ∈ M.flatMap N ∨ w.heap.size ≤ x ∧ x < w'.heap.size) (hRd : (R.flatMap (·.2.2)).Nodup) (hRe : ∀ x ∈ R.flatMap (·.2.2), ∀ id ∈ em.map (·.1), x ∉ N id)
    (hstay : Stay w w' ((em.map (·.1) ++ M).flatMap N) (em.map (locF β)) (em.map (·.2.2.2)))
    (hbox : ∀ (e : Nat) (p : Nat × Nat) (cs : List PV) (L : List Nat), (em.map (locF β))[e]? = some p → ys[e]? = some cs → Le'[e]? = some L → BoxO S' w' β0 σ0 p cs L)
    (hyl : ys.length = em.length) (hLl : Le'.length = em.length) (hyn : ∀ (e : Nat) (x : Nat × Nat × Nat × Nat) (cs : List PV), em[e]? = some x → ys[e]? = some cs → cs.length = x.2.2.2)
    (hSS : ∀ b, Fz X w N ε.s b → S' b) (hSf : ∀ b, S' b → Fz X w' (renN R N) (renS R (killS em (dropS D ε.s))) b) :
    Tr (Fz X w N ε.s) S' w w' β β ε.s (renS R (killS em (dropS D ε.s))) ∧ StS X S' ⟨ε.t, renS R (killS em (dropS D ε.s))⟩ w' tm β (renN R N) := by
  have row_box : ∀ {id ver ver' : Nat} {blk : Blk} {k : K} {l : List (ty k)} {cs : List PV}, ε.s id = ⟨ver, some blk⟩ → IsRw blk k l → ε.s id = ⟨ver', some (.box cs)⟩ → False := fun h1 h2 h3 => by
    rw [h1] at h3; cases h3; cases h2
  have hdx : ∀ id, id ∈ em.map (·.1) → id ∉ D := fun id h1 h2 => by
    obtain ⟨⟨i, ver, j, n⟩, hm, rfl⟩ := List.mem_map.1 h1
    obtain ⟨cs, hs, _⟩ := hX _ _ _ _ hm
    obtain ⟨_, ver', blk, k, l, hs', hw⟩ := hD _ h2
    exact row_box hs' hw hs
  have hσx : ∀ id ver j n cs, (id, ver, j, n) ∈ em → ε.s id = ⟨ver, some (.box cs)⟩ → renS R (killS em (dropS D ε.s)) id = ⟨ver, some (.box (splice cs j (List.replicate n .dead)))⟩ := fun id ver j n cs hm hs => by
    have hin : id ∈ em.map (·.1) := List.mem_map.2 ⟨_, hm, rfl⟩
    rw [renS_same (fun h => (hRD id h).2 hin)]
    exact killS_mem hnd hm (by rw [dropS_same (hdx id hin)]; exact hs)
  have hσd : ∀ id, id ∈ D → renS R (killS em (dropS D ε.s)) id = ⟨(ε.s id).ver, none⟩ := fun id h => by rw [renS_same (fun h2 => (hRD id h2).1 h), killS_same (fun h2 => hdx id h2 h), dropS_mem h]
  have hσr : ∀ id b L, (id, b, L) ∈ R → renS R (killS em (dropS D ε.s)) id = ⟨(ε.s id).ver, some b⟩ := fun id b L h => by
    have hin : id ∈ R.map (·.1) := List.mem_map.2 ⟨_, h, rfl⟩
    rw [renS_mem hRn h, killS_same (hRD id hin).2, dropS_same (hRD id hin).1]
  have hσo : ∀ id, id ∉ D → id ∉ em.map (·.1) → id ∉ R.map (·.1) → renS R (killS em (dropS D ε.s)) id = ε.s id := fun id h1 h2 h3 => by rw [renS_same h3, killS_same h2, dropS_same h1]
  have hNx : ∀ id, id ∈ em.map (·.1) → renN R N id = N id := fun id h => renN_same fun h2 => (hRD id h2).2 h
  let Ch : Nat → Prop := fun id => id ∈ D ∨ id ∈ em.map (·.1) ∨ id ∈ R.map (·.1)
  have hF : ∀ b, b ∈ (em.map (·.1) ++ M).flatMap N → ∃ id blk, Ch id ∧ (ε.s id).blk = some blk ∧ b ∈ N id := fun b hb => by
    obtain ⟨id, hid, hbN⟩ := List.mem_flatMap.1 hb
    rcases List.mem_append.1 hid with h | h
    · obtain ⟨⟨i, ver, j, n⟩, hm, rfl⟩ := List.mem_map.1 h
      obtain ⟨cs, hs, _⟩ := hX _ _ _ _ hm
      exact ⟨_, _, .inr (.inl h), by rw [hs], hbN⟩
    · obtain ⟨ver, blk, k, l, hs, _⟩ := hM id h
      exact ⟨id, _, (hMD id h).elim .inl fun h => .inr (.inr h), by rw [hs], hbN⟩
  refine StS.step (ε := ε) hst (renS R (killS em (dropS D ε.s))) Ch hSS (fun b hb => hstay.old b hb.1 fun h => ?_) hSf hstay.size (fun b hb hn => hstay.old b hb fun h => ?_) (fun id hn => ?_) ?_ ?_ ?_ ?_ ?_ ?_ ?_ ?_ ?_ ?_
  · obtain ⟨id, blk, _, h2, h3⟩ := hF b h
    exact hb.2.1 ⟨id, blk, h2, h3⟩
  · obtain ⟨id, blk, h1, h2, h3⟩ := hF b h
    exact hn id blk h1 h2 h3
  · have hn : ¬ (id ∈ D ∨ id ∈ em.map (·.1) ∨ id ∈ R.map (·.1)) := hn
    rw [not_or, not_or] at hn
    exact ⟨hσo id hn.1 hn.2.1 hn.2.2, rfl, renN_same hn.2.2⟩
  · rintro id hc v o n f u ⟨k1, k2, k3⟩
    rcases hc with hc | hc | hc
    · rw [RefC, hσd id hc]
      exact ⟨k1, k2, fun blk k l e _ => by cases e⟩
    · obtain ⟨⟨i, ver, j, n'⟩, hm, rfl⟩ := List.mem_map.1 hc
      obtain ⟨cs, hs, _⟩ := hX _ _ _ _ hm
      rw [RefC, hσx _ _ _ _ _ hm hs]
      refine ⟨by rw [hs] at k1; exact k1, k2, fun blk k l e hr => by cases e; cases hr⟩
    · obtain ⟨⟨i, b, L⟩, hm, rfl⟩ := List.mem_map.1 hc
      obtain ⟨ver, blk, k, l, l', r1, r2, r3, r4, r5, r6⟩ := hR _ _ _ hm
      simp only at r1 k1 k3 ⊢
      rw [RefC, hσr _ _ _ hm]
      refine ⟨k1, k2, fun blk2 k2' l2 e hr2 => ?_⟩
      cases e
      cases r3.row.same hr2
      obtain ⟨m1, m2⟩ := k3 blk k l (by rw [r1]) r2.row
      refine ⟨by rw [r4]; exact m1, ?_⟩
      rcases m2 with m2 | ⟨bb, c, o2, m2, m3, m4, m5, m6⟩
      · exact .inl m2
      · refine .inr ⟨bb, c, o2, m2, m3, m4, m5, fun hf => ?_⟩
        obtain ⟨m7, m8, m9⟩ := m6 hf
        refine ⟨m7, by rw [r4]; exact m8, fun cur' E' fz' hh => ?_⟩
        rcases row_head r2.row (hst.blk i _ (by rw [r1])) with ⟨q, _⟩ | ⟨b2, cap, cur, q, _, _, ⟨fz, q2, _⟩, _⟩
        · rw [m2] at q; cases q
        · rw [m2] at q; cases q
          rw [r6 _ m2 _ _ _ _ _ _ q2 hh]
          exact m9 _ _ _ q2
  · rintro id hc v i' j' u ⟨k1, k2, k3⟩
    rcases hc with hc | hc | hc
    · rw [PtrC, hσd id hc]
      exact ⟨k1, k2, fun blk e => by cases e⟩
    · obtain ⟨⟨i, ver, j, n'⟩, hm, rfl⟩ := List.mem_map.1 hc
      obtain ⟨cs, hs, _⟩ := hX _ _ _ _ hm
      rw [PtrC, hσx _ _ _ _ _ hm hs]
      refine ⟨by rw [hs] at k1; exact k1, k2, fun blk e => ?_⟩
      cases e
      exact k3 _ hs
    · obtain ⟨⟨i, b, L⟩, hm, rfl⟩ := List.mem_map.1 hc
      obtain ⟨ver, blk, k, l, l', r1, r2, r3, r4, r5, r6⟩ := hR _ _ _ hm
      simp only at r1 k1 k3 ⊢
      rw [PtrC, hσr _ _ _ hm]
      refine ⟨k1, k2, fun blk2 e => ?_⟩
      cases e
      obtain ⟨bb, off, m1, m2⟩ := k3 blk (by rw [r1])
      refine ⟨bb, off, m1, ?_⟩
      have m3 : off = 0 ∧ i' < l.length ∧ u = .pointer (some ⟨bb, i' * size k + j', none⟩) := by cases r2 <;> exact m2
      rw [← r4] at m3
      cases r3 <;> exact m3
  · rintro id b hc hb T
    rcases hc with hc | hc | hc
    · rw [hσd id hc] at hb; cases hb
    · obtain ⟨⟨i, ver, j, n⟩, hm, rfl⟩ := List.mem_map.1 hc
      obtain ⟨cs, hs, hjn⟩ := hX _ _ _ _ hm
      rw [hNx _ hc]
      rw [hσx _ _ _ _ _ hm hs] at hb
      cases hb
      simp only at hs ⊢
      obtain ⟨bb, off, cur, E, q1, q2, ⟨fz, q3, q3'⟩, q4, q5⟩ := hst.blk i _ (by rw [hs])
      obtain ⟨e, he⟩ := List.getElem?_of_mem hm
      have he' : e < em.length := (List.getElem?_eq_some_iff.1 he).1
      have hloc : (em.map (locF β))[e]? = some (bb, off + j) := by simp [he, locF, q1]
      obtain ⟨c0, c, E', fz', p1, p2, p3, p4⟩ := hstay.part e bb (off + j) n hloc (by simp [he])
      rw [q3] at p1
      cases p1
      obtain ⟨yc, hyc⟩ : ∃ yc, ys[e]? = some yc := ⟨ys[e], by simp [hyl, he']⟩
      obtain ⟨Lc, hLc⟩ : ∃ Lc, Le'[e]? = some Lc := ⟨Le'[e], by simp [hLl, he']⟩
      have hycn := hyn e _ yc he hyc
      simp only at hycn
      obtain ⟨cur2, E2, us, r1, r2, r3, r4⟩ := hbox e _ yc Lc hloc hyc hLc
      obtain ⟨fz2, r1, _⟩ := r1
      rw [p2] at r1
      cases r1
      have husl : us.length = yc.length := by
        exact r4.len.symm
      have hsl : (splice cs j (List.replicate n PV.dead)).length = cs.length := splice_len (by simp; omega)
      refine ⟨bb, off, c, E, q1, q2, ⟨fz, p2, by rw [NoIce, p3]; exact q3'⟩, by rw [hsl, p3]; exact q4, fun i' p hp => ?_⟩
      rw [splice_get (by simp; omega)] at hp
      have out : (i' < j ∨ j + n ≤ i') → cs[i']? = some p → ∃ u, c[off + i']? = some u ∧ u.oneCell' = true ∧ ValS S' w' β (renS R (killS em (dropS D ε.s))) p u := fun hout hp => by
        obtain ⟨u, hu, h1c, hv⟩ := q5 i' p hp
        exact ⟨u, by rw [p4 (off + i') (by omega)]; exact hu, h1c, T.vs hv⟩
      split at hp
      · rename_i h1; exact out (.inl h1) hp
      · split at hp
        · rename_i h1 h2
          simp at h2
          have hi2 : i' - j < us.length := by rw [husl, hycn]; omega
          obtain ⟨m1, m2⟩ := r3 (i' - j) us[i' - j] (by simp [hi2])
          rw [List.getElem?_replicate, if_pos (by omega)] at hp
          cases hp
          exact ⟨_, by rw [show off + i' = off + j + (i' - j) by omega]; exact m1, m2, trivial⟩
        · rename_i h1 h2
          simp at h2
          exact out (.inr h2) hp
    · obtain ⟨⟨i, b0, L⟩, hm, rfl⟩ := List.mem_map.1 hc
      obtain ⟨ver, blk, k, l, l', r1, r2, r3, r4, r5, r6⟩ := hR _ _ _ hm
      rw [hσr _ _ _ hm] at hb
      cases hb
      rw [renN_mem hRn hm]
      exact r5 _
  · rintro id b hc hb x hx
    rcases hc with hc | hc | hc
    · rw [hσd id hc] at hb; cases hb
    · rw [hNx _ hc] at hx
      obtain ⟨⟨i, ver, j, n⟩, hm, rfl⟩ := List.mem_map.1 hc
      obtain ⟨cs, hs, hjn⟩ := hX _ _ _ _ hm
      exact .inl ⟨_, _, .inr (.inl hc), by rw [hs], hx⟩
    · obtain ⟨⟨i, b0, L⟩, hm, rfl⟩ := List.mem_map.1 hc
      rw [renN_mem hRn hm] at hx
      rcases hRL _ _ _ hm x hx with h | h
      · obtain ⟨id, hid, hbN⟩ := List.mem_flatMap.1 h
        obtain ⟨ver, blk, k, l, hs, _⟩ := hM id hid
        exact .inl ⟨id, _, (hMD id hid).elim .inl fun h => .inr (.inr h), by rw [hs], hbN⟩
      · exact .inr h
  · rintro id b hc hb
    rcases hc with hc | hc | hc
    · rw [hσd id hc] at hb; cases hb
    · rw [hNx _ hc]
      obtain ⟨⟨i, ver, j, n⟩, hm, rfl⟩ := List.mem_map.1 hc
      obtain ⟨cs, hs, hjn⟩ := hX _ _ _ _ hm
      exact hst.nodup _ _ (by rw [hs])
    · obtain ⟨⟨i, b0, L⟩, hm, rfl⟩ := List.mem_map.1 hc
      rw [renN_mem hRn hm]
      exact (flatMap_disj hRd _ hm).1
  · rintro id id' b b' hc hc' hb hb' hne
    rcases hc with hc | hc | hc
    · rw [hσd id hc] at hb; cases hb
    · rcases hc' with hc' | hc' | hc'
      · rw [hσd id' hc'] at hb'; cases hb'
      · rw [hNx _ hc, hNx _ hc']
        obtain ⟨⟨i, ver, j, n⟩, hm, rfl⟩ := List.mem_map.1 hc
        obtain ⟨cs, hs, hjn⟩ := hX _ _ _ _ hm
        obtain ⟨⟨i', ver', j', n'⟩, hm', rfl⟩ := List.mem_map.1 hc'
        obtain ⟨cs', hs', hjn'⟩ := hX _ _ _ _ hm'
        exact hst.disj _ _ _ _ (by rw [hs]) (by rw [hs']) hne
      · obtain ⟨⟨i, b0, L⟩, hm, rfl⟩ := List.mem_map.1 hc'
        rw [hNx _ hc, renN_mem hRn hm]
        exact fun x hx hx' => hRe x (List.mem_flatMap.2 ⟨_, hm, hx'⟩) _ hc hx
    · obtain ⟨⟨i, b0, L⟩, hm, rfl⟩ := List.mem_map.1 hc
      rcases hc' with hc' | hc' | hc'
      · rw [hσd id' hc'] at hb'; cases hb'
      · rw [hNx _ hc', renN_mem hRn hm]
        exact fun x hx hx' => hRe x (List.mem_flatMap.2 ⟨_, hm, hx⟩) _ hc' hx'
      · obtain ⟨⟨i', b0', L'⟩, hm', rfl⟩ := List.mem_map.1 hc'
        rw [renN_mem hRn hm, renN_mem hRn hm']
        rcases (flatMap_disj hRd _ hm).2 _ hm' with h | h
        · exact h
        · exact absurd (congrArg (·.1) h) hne
  · rintro j p hj hc
    obtain ⟨h1, cs, h2, h3⟩ := hst.ext j p hj
    rcases hc with hc | hc | hc
    · obtain ⟨_, ver, blk, k, l, hs, hw⟩ := hD j hc
      rw [hs] at h2; cases h2; cases hw
    · obtain ⟨⟨i, ver, j', n⟩, hm, rfl⟩ := List.mem_map.1 hc
      obtain ⟨cs', hs, hjn⟩ := hX _ _ _ _ hm
      simp only at h2 hs ⊢
      rw [hs] at h2
      cases h2
      refine ⟨h1, _, by rw [hσx _ _ _ _ _ hm hs], ?_⟩
      rw [h3, splice_len (by simp; omega)]
    · obtain ⟨⟨i, b0, L⟩, hm, rfl⟩ := List.mem_map.1 hc
      obtain ⟨ver, blk, k, l, l', r1, r2, _⟩ := hR _ _ _ hm
      simp only at r1 h2
      rw [r1] at h2; cases h2; cases r2
  · rintro q u n hq hc
    obtain ⟨h1, blk0, k0, l0, h2, h3, h4, _⟩ := hst.rxt q u n hq
    rcases hc with hc | hc | hc
    · have := (hD _ hc).1; omega
    · obtain ⟨⟨i, ver, j', n⟩, hm, e⟩ := List.mem_map.1 hc
      obtain ⟨cs', hs, hjn⟩ := hX _ _ _ _ hm
      simp only at e
      rw [e, h2] at hs; cases hs; cases h3
    · obtain ⟨⟨i, b0, L⟩, hm, e⟩ := List.mem_map.1 hc
      obtain ⟨ver, blk, k, l, l', r1, r2, r3, r4, _⟩ := hR _ _ _ hm
      simp only at e
      subst e
      rw [h2] at r1
      cases r1
      exact ⟨b0, k, l', by rw [hσr _ _ _ hm, h2], r3.row, by rw [r4, r2.row.len h3, h4]⟩
  · obtain ⟨f1, f2, f3, f4, f5, f6⟩ := hst.frm
    refine ⟨hstay.os.trans f1, hstay.tape.trans f2, hstay.output.trans f3, Nat.le_trans f4 hstay.size, fun b hb hbF => ?_, fun jx b off n hj hn => ?_⟩
    · rw [hstay.old b (by omega) fun h => ?_]
      · exact f5 b hb hbF
      · obtain ⟨id, blk, _, h2, h3⟩ := hF b h
        rcases hst.new id blk h2 b h3 with h | h
        · exact hbF h
        · omega
    · obtain ⟨c0, c, E, fz, q1, q2, q3, q4⟩ := f6 jx b off n hj hn
      obtain ⟨e1, cs, e2, e3⟩ := hst.ext jx (b, off) hj
      by_cases hin : jx ∈ em.map (·.1)
      · obtain ⟨⟨i, ver, j', n'⟩, hm, rfl⟩ := List.mem_map.1 hin
        simp only at e1 e2
        obtain ⟨cs', hs, hjn⟩ := hX _ _ _ _ hm
        rw [hs] at e2
        cases e2
        rw [hn] at e3
        cases e3
        obtain ⟨e, he⟩ := List.getElem?_of_mem hm
        have hloc : (em.map (locF β))[e]? = some (b, off + j') := by simp [he, locF, e1]
        obtain ⟨c0', c', E', fz', p1, p2, p3, p4⟩ := hstay.part e b (off + j') n' hloc (by simp [he])
        rw [q2] at p1
        cases p1
        exact ⟨c0, c', E, fz, q1, p2, p3.trans q3, fun o ho => by rw [p4 o (by omega), q4 o ho]⟩
      · refine ⟨c0, c, E, fz, q1, ?_, q3, q4⟩
        rw [hstay.old b ((Array.getElem?_eq_some_iff.1 q2).1) fun h => ?_]
        · exact q2
        · obtain ⟨id, blk, h1, h2, h3⟩ := hF b h
          obtain ⟨b0, o0, cur, E0, m1, m2, _⟩ := hst.blk jx _ e2
          rw [e1] at m1
          cases m1
          have hne : id ≠ jx := by
            rintro rfl
            rcases h1 with h1 | h1 | h1
            · obtain ⟨_, ver, blk, k, l, hs, hw⟩ := hD _ h1
              rw [hs] at e2; cases e2; cases hw
            · exact hin h1
            · obtain ⟨⟨i, b0, L⟩, hm, rfl⟩ := List.mem_map.1 h1
              obtain ⟨ver, blk, k, l, l', r1, r2, _⟩ := hR _ _ _ hm
              simp only at r1 e2
              rw [r1] at e2; cases e2; cases r2
          exact hst.disj id jx _ _ h2 e2 hne b h3 (by rw [m2]; simp)
  · refine X.cl w w' hst.env fun b hb => hstay.old b (by have := X.hw; have := hst.frm.size; omega) fun h => ?_
    obtain ⟨id, blk, _, h2, h3⟩ := hF b h
    rcases hst.new id blk h2 b h3 with h | h
    · have := X.hG b h; omega
    · have := X.hw; omega
end
end Go.Px
set_option maxHeartbeats 2000000
namespace Go.Px
open Go.RowKit
section
variable {P : Program} {PC : Con} {X : Ctx} {nt : Nat} {Q : Exit → Act → World → Prop} {ε : Env} {a : Act} {w : World} {o : Oper} {v : PV} {t : Nat → PV} {s s' : Sto} {r wr : List Nat}
variable {β : Nat → Option (Nat × Nat)} {N : Nat → List Nat} {tm : Array Value} {S : Nat → Prop}
theorem StS.setBox (h : StS X S ⟨t, s⟩ w tm β N) {id ver j b off : Nat} {cs cs' : List PV} (hs : s id = ⟨ver, some (.box cs)⟩) (hfit : j + cs'.length ≤ cs.length) (hβ : β id = some (b, off)) {us : List Value} {cur : Array Value} {E : TypeId} (hrow : RowAt w b cur E)
    (hus : ∀ (i : Nat) u, us[i]? = some u → cur[off + j + i]? = some u ∧ u.oneCell' = true) (hall : All2 (ValS S w β s) cs' us) :
    Tr S S w w β β s (upd s id ⟨ver, some (.box (splice cs j cs'))⟩) ∧ StS X S ⟨t, upd s id ⟨ver, some (.box (splice cs j cs'))⟩⟩ w tm β N := by
  have hlive : ∀ i b', (upd s id ⟨ver, some (.box (splice cs j cs'))⟩ i).blk = some b' → ∃ b0, (s i).blk = some b0 := fun i b' hb => by
    by_cases hi : i = id
    · subst hi; exact ⟨_, by rw [hs]⟩
    · rw [upd_ne _ _ hi] at hb; exact ⟨b', hb⟩
  refine StS.step (ε := ⟨t, s⟩) h (upd s id ⟨ver, some (.box (splice cs j cs'))⟩) (· = id) (fun _ h => h) (fun _ _ => rfl) (fun x hx => ?_) (Nat.le_refl _) (fun _ _ _ => rfl) (fun i hi => ⟨upd_ne _ _ hi, rfl, rfl⟩) ?_ ?_ ?_ ?_ ?_ ?_ ?_ (fun q u n hq e => absurd e (h.rx_box hs q u n hq)) h.frm h.env
  · obtain ⟨h1, h2, h3⟩ := h.fz x hx
    exact ⟨h1, fun ⟨i, bl, h4, h5⟩ => by obtain ⟨b0, h6⟩ := hlive i bl h4; exact h2 ⟨i, b0, h6, h5⟩, h3⟩
  · rintro i rfl vv oo n f u ⟨k1, k2, k3⟩
    rw [RefC, upd_same]
    have k1 : vv ≤ (s i).ver := k1
    rw [hs] at k1
    exact ⟨k1, k2, fun blk k l e hr => by cases e; cases hr⟩
  · rintro i rfl vv i' j' u ⟨k1, k2, k3⟩
    rw [PtrC, upd_same]
    have k1 : vv ≤ (s i).ver := k1
    rw [hs] at k1
    refine ⟨k1, k2, fun blk e => ?_⟩
    cases e
    exact k3 _ hs
  · rintro i b' rfl hb T
    rw [upd_same] at hb
    cases hb
    obtain ⟨b0, off0, cur0, E0, q1, q2, q3, q4, q5⟩ := h.blk i _ (by show (s i).blk = _; rw [hs])
    rw [hβ] at q1
    cases q1
    obtain ⟨fz, p1, _⟩ := hrow
    obtain ⟨fz0, p2, p3⟩ := q3
    rw [p1] at p2
    cases p2
    refine ⟨b, off, cur, E, hβ, q2, ⟨fz, p1, p3⟩, by rw [splice_len hfit]; exact q4, fun i' p hp => ?_⟩
    rw [splice_get hfit] at hp
    have out : cs[i']? = some p → ∃ u, cur[off + i']? = some u ∧ u.oneCell' = true ∧ ValS S w β (upd s i ⟨ver, some (.box (splice cs j cs'))⟩) p u := fun hp => by
      obtain ⟨u, hu, h1c, hv⟩ := q5 i' p hp
      exact ⟨u, hu, h1c, T.vs hv⟩
    split at hp
    · exact out hp
    · split at hp
      · rename_i h1 h2
        obtain ⟨u, hu, hv⟩ := hall.get _ _ hp
        obtain ⟨m1, m2⟩ := hus _ _ hu
        exact ⟨u, by rw [show off + i' = off + j + (i' - j) by omega]; exact m1, m2, T.vs hv⟩
      · exact out hp
  · rintro i b' rfl hb x hx
    exact .inl ⟨_, _, rfl, by show (s _).blk = _; rw [hs], hx⟩
  · rintro i b' rfl hb
    exact h.nodup i _ (by show (s i).blk = _; rw [hs])
  · rintro i i' b1 b2 rfl rfl _ _ hne
    exact absurd rfl hne
  · rintro jx p hp rfl
    obtain ⟨h1, cs0, h2, h3⟩ := h.ext jx p hp
    have h2 : (s jx).blk = some (.box cs0) := h2
    rw [hs] at h2
    cases h2
    exact ⟨h1, _, by rw [upd_same], by rw [h3, splice_len hfit]⟩
def HxB (em0 : Em) (β0 : Nat → Option (Nat × Nat)) (σ0 : Sto) (β : Nat → Option (Nat × Nat)) (s : Sto) : Prop := ∀ (e : Nat) (x : Nat × Nat × Nat × Nat) (u : Value), em0[e]? = some x → PtrC β0 σ0 e 0 0 0 u → PtrC β s x.1 x.2.1 0 x.2.2.1 u
theorem HxB.tr {S1 S2 : Nat → Prop} {w1 w2 : World} {em0 : Em} {β0 β1 β2 : Nat → Option (Nat × Nat)} {σ0 s1 s2 : Sto} (h : HxB em0 β0 σ0 β1 s1) (T : Tr S1 S2 w1 w2 β1 β2 s1 s2) : HxB em0 β0 σ0 β2 s2 := fun e x u h1 h2 => T.ptr (h e x u h1 h2)
theorem capB_spec {em0 : Em} {β0 : Nat → Option (Nat × Nat)} {σ0 : Sto} (hx : HxB em0 β0 σ0 β s) {S' : Nat → Prop} {p q : PV} {u : Value} (h : capB em0 p = some q) (hv : Val0 S' w β0 σ0 p u) : Val0 S w β s q u := by
  unfold capB at h
  split at h
  · rename_i e
    split at h
    · rename_i id ver j n he
      cases h
      exact hx e _ u he hv
    · cases h
  · cases h
theorem capBs_spec {em0 : Em} {β0 : Nat → Option (Nat × Nat)} {σ0 : Sto} (hx : HxB em0 β0 σ0 β s) {S' : Nat → Prop} : ∀ {ps qs : List PV} {us : List Value}, capBs em0 ps = some qs → All2 (Val0 S' w β0 σ0) ps us → All2 (Val0 S w β s) qs us
  | [], qs, us, h, hv => by cases h; cases us <;> exact hv
  | p :: ps, qs, [], h, hv => hv.elim
  | p :: ps, qs, u :: us, h, hv => by
    unfold capBs at h
    split at h
    · rename_i q qs' h1 h2
      cases h
      exact ⟨capB_spec hx h1 hv.1, capBs_spec hx h2 hv.2⟩
    · cases h
theorem openC_spec {em0 : Em} {β0 : Nat → Option (Nat × Nat)} {σ0 : Sto} (hx : HxB em0 β0 σ0 β s) (h : StS X S ⟨t, s⟩ w tm β N) {id : Nat} (hid : 99 ≤ id) {p q : PV} {u : Value} {L : List Nat} (ho : OwnS S w β0 σ0 p u L) (hp : Pend X S s N L) (hr : (openC em0 id p).Run PC s q s' r wr) :
    ∃ β' N', StS X S ⟨t, s'⟩ w tm β' N' ∧ Tr S S w w β β' s s' ∧ ValS S w β' s' q u ∧ Held s N s' N' L := by
  unfold openC at hr
  split at hr
  · rename_i f c cs
    split at hr
    · rename_i qs hq
      obtain ⟨rfl, rfl, -, -⟩ : q = _ ∧ s' = _ ∧ r = [] ∧ wr = [] := hr
      obtain ⟨_, us, e, hv⟩ := ho
      exact ⟨β, N, h, Tr.refl, ⟨us, e, capBs_spec hx hq hv⟩, Held.refl⟩
    · exact hr.elim
  · exact openS_spec h hid ho hp hr
theorem openB_spec {em0 : Em} {β0 : Nat → Option (Nat × Nat)} {σ0 : Sto} : ∀ {ps qs : List PV} {us : List Value} {id : Nat} {L : List Nat} {β : Nat → Option (Nat × Nat)} {N : Nat → List Nat} {s s' : Sto} {r wr : List Nat}, HxB em0 β0 σ0 β s → StS X S ⟨t, s⟩ w tm β N → 99 ≤ id → All3 (OwnS S w β0 σ0) ps us L → Pend X S s N L → (openB em0 id ps).Run PC s qs s' r wr →
    ∃ β' N', StS X S ⟨t, s'⟩ w tm β' N' ∧ Tr S S w w β β' s s' ∧ All2 (ValS S w β' s') qs us ∧ Held s N s' N' L
  | [], qs, [], id, L, β, N, s, s', r, wr, _, h, _, ho, hp, hr => by
    obtain ⟨rfl, rfl, -, -⟩ := hr
    exact ⟨β, N, h, Tr.refl, trivial, Held.refl⟩
  | p :: ps, qs, u :: us, id, L, β, N, s, s', r, wr, hx, h, hid, ho, hp, hr => by
    obtain ⟨L1, L2, rfl, h1, h2⟩ := ho
    obtain ⟨a1, s1, r1, w1, r2, w2, k1, k2⟩ := bind_run hr
    obtain ⟨a2, s2, r3, w3, r4, w4, k3, k4⟩ := bind_run k2
    obtain ⟨e, e2, -, -⟩ := k4
    subst e e2
    obtain ⟨β1, N1, m1, m2, m3, m4⟩ := openC_spec hx h hid h1 hp.left k1
    obtain ⟨β2, N2, m5, m6, m7, m8⟩ := openB_spec (hx.tr m2) m1 (by omega) h2 (hp.right m4) k3
    exact ⟨β2, N2, m5, m2.trans m6, ⟨m6.vs m3, m7⟩, m4.app m8⟩
  | [], _, _ :: _, _, _, _, _, _, _, _, _, _, _, _, h, _, _ => h.elim
  | _ :: _, _, [], _, _, _, _, _, _, _, _, _, _, _, h, _, _ => h.elim
theorem backL_spec {em0 : Em} {β0 : Nat → Option (Nat × Nat)} {σ0 : Sto} {k : Eff PV} : ∀ {em : Em} {ys : List (List PV)} {locs : List (Nat × Nat)} {Le : List (List Nat)} {base : Nat} {β : Nat → Option (Nat × Nat)} {N : Nat → List Nat} {s s' : Sto} {v : PV} {r wr : List Nat}, HxB em0 β0 σ0 β s → StS X S ⟨t, s⟩ w tm β N → 99 ≤ base → locs.length = em.length → Le.length = em.length →
    (∀ (e : Nat) (p : Nat × Nat) (cs : List PV) (L : List Nat), locs[e]? = some p → ys[e]? = some cs → Le[e]? = some L → BoxO S w β0 σ0 p cs L) → Pend X S s N Le.flatten →
    (∀ (e : Nat) (x : Nat × Nat × Nat × Nat) (p : Nat × Nat), em[e]? = some x → locs[e]? = some p → PtrC β s x.1 x.2.1 0 x.2.2.1 (.pointer (some ⟨p.1, p.2, none⟩))) → (backL em0 base em ys k).Run PC s v s' r wr →
    ∃ β' N' s1 r' wr', StS X S ⟨t, s1⟩ w tm β' N' ∧ Tr S S w w β β' s s1 ∧ k.Run PC s1 v s' r' wr'
  | [], [], locs, Le, base, β, N, s, s', v, r, wr, _, h, hb, hl, hL, hB, hP, hptr, hr => ⟨β, N, s, r, wr, h, Tr.refl, hr⟩
  | [], _ :: _, _, _, _, _, _, _, _, _, _, _, _, _, _, _, _, _, _, _, hr => hr.elim
  | _ :: _, [], _, _, _, _, _, _, _, _, _, _, _, _, _, _, _, _, _, _, hr => hr.elim
  | (id, ver, j, n) :: em, y :: ys, locs, Le, base, β, N, s, s', v, r, wr, hx, h, hb, hl, hL, hB, hP, hptr, hr => by
    match locs, Le, hl, hL with
    | p :: locs, L :: Le, hl, hL =>
    obtain ⟨cs', s1, r1, w1, r2, w2, k1, k2⟩ := bind_run hr
    obtain ⟨cur, E, us, b1, b2, b3, b4⟩ := hB 0 p y L rfl rfl rfl
    have hPl : Pend X S s N L := by rw [List.flatten_cons] at hP; exact hP.left
    obtain ⟨β1, N1, st1, T1, v1, hh1⟩ := openB_spec hx h hb b4 hPl k1
    obtain ⟨blk, r3, hs1, rfl, k2⟩ := live_run k2
    cases blk with
    | rowb k l => exact k2.elim
    | objb o => exact k2.elim
    | iterb => exact k2.elim
    | rowd => exact k2.elim
    | rowx => exact k2.elim
    | box cs =>
      simp only at k2
      split at k2
      case isFalse => exact k2.elim
      rename_i hfit
      obtain ⟨w3, _, k2⟩ := k2
      have hp0 := T1.ptr (hptr 0 (id, ver, j, n) p rfl rfl)
      obtain ⟨_, _, hp0⟩ := hp0
      obtain ⟨b, off, e1, e2⟩ := hp0 _ hs1
      simp only at e1 e2
      have e3 : p = (b, off + j) := by
        obtain ⟨p1, p2⟩ := p
        injection e2 with e2
        injection e2 with e2
        injection e2 with e4 e5
        simp only at e4 e5
        rw [e4, e5]
      subst e3
      obtain ⟨T2, st2⟩ := StS.setBox st1 hs1 hfit e1 b1 b3 v1
      have hP2 : Pend X S s1 N1 Le.flatten := by rw [List.flatten_cons] at hP; exact hP.right hh1
      have hP3 : Pend X S (upd s1 id ⟨ver, some (.box (splice cs j cs'))⟩) N1 Le.flatten := ⟨hP2.nd, hP2.ns, hP2.new, fun i bl hbl x hx => by
        by_cases hi : i = id
        · subst hi; exact hP2.dj i _ (by rw [hs1]) x hx
        · rw [upd_ne _ _ hi] at hbl; exact hP2.dj i bl hbl x hx⟩
      obtain ⟨β', N', s2, r', wr', q1, q2, q3⟩ := backL_spec ((hx.tr T1).tr T2) st2 (by omega) (by simpa using hl) (by simpa using hL) (fun e p c L h1 h2 h3 => hB (e + 1) p c L (by simpa using h1) (by simpa using h2) (by simpa using h3)) hP3
        (fun e x p h1 h2 => T2.ptr (T1.ptr (hptr (e + 1) x p (by simpa using h1) (by simpa using h2)))) k2
      exact ⟨β', N', s2, r', wr', q1, T1.trans (T2.trans q2), q3⟩
theorem flat_map {N : Nat → List Nat} : ∀ {ms : List (List Nat)}, (ms.map fun m => m.flatMap N).flatten = ms.flatten.flatMap N
  | [] => rfl
  | m :: ms => by rw [List.map_cons, List.flatten_cons, List.flatten_cons, List.flatMap_append, flat_map]
theorem disjL_spec {a b : List Nat} (h : disjL a b = true) : ∀ x ∈ a, x ∉ b := fun x hx hy => by
  have := List.all_eq_true.1 h x hx
  simp [hy] at this
def RenOf (Q : PV → Value → List Nat → Prop) (s : Sto) (x : Nat × Blk × List Nat) (u : Value) : Prop :=
  (∃ ver k l0 l, s x.1 = ⟨ver, some (.rowb k l0)⟩ ∧ x.2.1 = .rowb k l ∧ Q (.row true k l) u x.2.2) ∨ ∃ ver k l0 l, s x.1 = ⟨ver, some (.rowd k l0)⟩ ∧ x.2.1 = .rowd k l ∧ Q (.drow k l) u x.2.2
theorem backR_run {PC : Con} {Q : PV → Value → List Nat → Prop} {k : Eff PV} {v : PV} {s' : Sto} : ∀ {ids : List Nat} {bs : List PV} {gs : List Value} {L : List Nat} {s : Sto} {r wr : List Nat}, (backR ids bs k).Run PC s v s' r wr → All3 Q bs gs L → ids.Nodup →
    ∃ (R : Ren) (r' wr' : List Nat), R.map (·.1) = ids ∧ k.Run PC (renS R s) v s' r' wr' ∧ R.flatMap (·.2.2) = L ∧ All2 (RenOf Q s) R gs
  | [], [], [], L, s, r, wr, hr, ho, _ => ⟨[], r, wr, rfl, hr, ho.symm, trivial⟩
  | id :: ids, b :: bs, u :: gs, L, s, r, wr, hr, ho, hn => by
    obtain ⟨L1, L2, e, h1, h2⟩ := ho
    subst e
    rw [List.nodup_cons] at hn
    have fin : ∀ (ver : Nat) (nb : Blk) {r1 w1 : List Nat}, (s id).ver = ver → (backR ids bs k).Run PC (upd s id ⟨ver, some nb⟩) v s' r1 w1 → RenOf Q s (id, nb, L1) u →
        ∃ (R : Ren) (r' wr' : List Nat), R.map (·.1) = id :: ids ∧ k.Run PC (renS R s) v s' r' wr' ∧ R.flatMap (·.2.2) = L1 ++ L2 ∧ All2 (RenOf Q s) R (u :: gs) := by
      intro ver nb r1 w1 hv hr hro
      obtain ⟨R, r', wr', q1, q2, q3, q4⟩ := backR_run hr h2 hn.2
      refine ⟨(id, nb, L1) :: R, r', wr', by simp [q1], by unfold renS; rw [hv]; exact q2, by rw [List.flatMap_cons, q3], hro, ?_⟩
      have key : ∀ (R : Ren) (gs : List Value), (∀ x ∈ R, x.1 ≠ id) → All2 (RenOf Q (upd s id ⟨ver, some nb⟩)) R gs → All2 (RenOf Q s) R gs := by
        intro R
        induction R with
        | nil => intro gs _ h; cases gs <;> exact h
        | cons x R ih =>
          intro gs hx h
          cases gs with
          | nil => exact h
          | cons g gs =>
            refine ⟨?_, ih gs (fun y hy => hx y (List.mem_cons_of_mem _ hy)) h.2⟩
            have h0 := h.1
            unfold RenOf at h0 ⊢
            rw [upd_ne _ _ (hx x (List.mem_cons_self ..))] at h0
            exact h0
      exact key R gs (fun x hx e => hn.1 (by rw [← q1]; exact List.mem_map.2 ⟨x, hx, e⟩)) q4
    unfold backR at hr
    split at hr
    · rename_i e1 e2; cases e1
    · rename_i i' ids' k1 l1 bs' e1 e2
      cases e1; cases e2
      obtain ⟨r', _, hr⟩ := hr
      simp only at hr
      split at hr
      case h_2 => exact hr.elim
      rename_i ver k0 l0 hs
      split at hr
      case h_2 => exact hr.elim
      rename_i l2 hcl
      obtain ⟨rfl, rfl⟩ := castL_some hcl
      obtain ⟨w1, _, hr⟩ := hr
      exact fin ver _ (by rw [hs]) hr (.inl ⟨ver, k1, l0, l2, hs, rfl, h1⟩)
    · rename_i i' ids' k1 l1 bs' e1 e2
      cases e1; cases e2
      obtain ⟨r', _, hr⟩ := hr
      simp only at hr
      split at hr
      case h_2 => exact hr.elim
      rename_i ver k0 l0 hs
      split at hr
      case h_2 => exact hr.elim
      rename_i l2 hcl
      obtain ⟨rfl, rfl⟩ := castL_some hcl
      obtain ⟨w1, _, hr⟩ := hr
      exact fin ver _ (by rw [hs]) hr (.inr ⟨ver, k1, l0, l2, hs, rfl, h1⟩)
    · exact hr.elim
  | [], _ :: _, _, _, _, _, _, hr, _, _ => hr.elim
  | _ :: _, [], _, _, _, _, _, hr, _, _ => hr.elim
  | [], [], _ :: _, _, _, _, _, _, h, _ => h.elim
  | _ :: _, _ :: _, [], _, _, _, _, _, h, _ => h.elim
theorem All2.zip2 {α β γ : Type} {A : α → γ → Prop} {B : β → γ → Prop} : ∀ {as : List α} {bs : List β} {gs : List γ}, All2 A as gs → All2 B bs gs → ∀ (i : Nat) a b, as[i]? = some a → bs[i]? = some b → ∃ g, A a g ∧ B b g
  | a :: as, b :: bs, g :: gs, ⟨h1, h2⟩, ⟨h3, h4⟩, 0, x, y, hx, hy => by simp at hx hy; subst hx hy; exact ⟨g, h1, h3⟩
  | a :: as, b :: bs, g :: gs, ⟨h1, h2⟩, ⟨h3, h4⟩, i + 1, x, y, hx, hy => All2.zip2 h2 h4 i x y (by simpa using hx) (by simpa using hy)
  | [], _, _, _, _, i, x, y, hx, _ => by simp at hx
  | _ :: _, [], _, _, _, i, x, y, _, hy => by simp at hy
  | _ :: _, _ :: _, [], h, _, _, _, _, _, _ => h.elim
theorem ren_ok (hst : St X ⟨t, s⟩ w tm β N) {S' : Nat → Prop} {w' : World} {mA : List Nat} {gs : List Value} {R : Ren} (hmv : MV w β s mA gs) {β0 : Nat → Option (Nat × Nat)} {σ0 : Sto} (hR : All2 (RenOf (OwnS S' w' β0 σ0) s) R gs) (hm : R.map (·.1) = mA) : ∀ id b L, (id, b, L) ∈ R → ∃ ver blk k l l', s id = ⟨ver, some blk⟩ ∧ IsRw blk k l ∧ IsRw b k l' ∧ l'.length = l.length ∧ (∀ σ, BlkC S' w' β σ L id b) ∧ ∀ bb, β id = some (bb, 0) → ∀ cur E fz cur' E' fz', w.heap[bb]? = some (Obj.cells cur E fz) → w'.heap[bb]? = some (Obj.cells cur' E' fz') → cur'.size = cur.size := fun id b L hmem => by
  obtain ⟨i, hi⟩ := List.getElem?_of_mem hmem
  obtain ⟨u, ⟨ver, blk, k, l, off, n, h1, h2, h3⟩, h4⟩ := All2.zip2 hmv hR i id _ (by rw [← hm, List.getElem?_map, hi]; rfl) hi
  obtain ⟨_, _, h3⟩ := h3
  obtain ⟨e1, e2⟩ := h3 _ k l h1 h2.row
  have hd := row_head h2.row (hst.blk id _ (by show (s id).blk = _; rw [h1]))
  rcases h4 with ⟨ver', k', l0, l', p1, p2, p3⟩ | ⟨ver', k', l0, l', p1, p2, p3⟩
  · simp only at p1 p2 p3
    rw [h1] at p1
    cases p1
    cases h2
    subst p2
    rcases e2 with ⟨e2, e3⟩ | ⟨bb, c, o2, e2, e3, e4, e5, e6⟩
    · refine ⟨ver, _, k, l, l', h1, .b, .b, ?_, fun σ => ?_, fun bb hb => by rw [e2] at hb; cases hb⟩
      · rcases hd with ⟨_, q, _⟩ | ⟨_, _, _, q, _⟩
        · rcases p3 with ⟨_, q2, _⟩ | ⟨g, cap, cur, q2, _⟩
          · rw [q, q2]
          · rw [e3] at q2; cases q2
        · rw [e2] at q; cases q
      · rcases p3 with ⟨_, q2, q3⟩ | ⟨g, cap, cur, q2, _⟩
        · exact .inl ⟨e2, q2, q3⟩
        · rw [e3] at q2; cases q2
    · obtain ⟨f1, f2, f3⟩ := e6 rfl
      have ho := e5 (.inr rfl)
      rw [f1, Nat.zero_mul] at ho
      subst ho
      rcases p3 with ⟨q2, _⟩ | ⟨g, cap, cur, q2, q3, q4⟩
      · rw [e4] at q2; cases q2
      · rw [e4] at q2
        injection q2 with q5 q6 q7
        cases q5
        refine ⟨ver, _, k, l, l', h1, .b, .b, by rw [← q6, f2], fun σ => .inr ⟨bb, cap, cur, e2, q3, q4⟩, fun b2 hb cu E fz cu' E' fz' w1 w2 => ?_⟩
        rw [e2] at hb; cases hb
        obtain ⟨fz2, q8, _⟩ := q4.2.1
        rw [q8] at w2; cases w2
        rw [q4.2.2.2.2.1, ← q7, f3 _ _ _ w1]
  · simp only at p1 p2 p3
    rw [h1] at p1
    cases p1
    cases h2
    subst p2
    rcases e2 with ⟨e2, e3⟩ | ⟨bb, c, o2, e2, e3, e4, e5, e6⟩
    · refine ⟨ver, _, k, l, l', h1, .d, .d, ?_, fun σ => ?_, fun bb hb => by rw [e2] at hb; cases hb⟩
      · rcases hd with ⟨_, q, _⟩ | ⟨_, _, _, q, _⟩
        · rcases DOwn_iff.1 p3 with ⟨_, q2, _⟩ | ⟨g, cap, cur, L', q2, _⟩
          · rw [q, q2]
          · rw [e3] at q2; cases q2
        · rw [e2] at q; cases q
      · rcases DOwn_iff.1 p3 with ⟨_, q2, q3⟩ | ⟨g, cap, cur, L', q2, _⟩
        · exact .inl ⟨e2, q2, q3⟩
        · rw [e3] at q2; cases q2
    · obtain ⟨f1, f2, f3⟩ := e6 rfl
      have ho := e5 (.inr rfl)
      rw [f1, Nat.zero_mul] at ho
      subst ho
      rcases DOwn_iff.1 p3 with ⟨q2, _⟩ | ⟨g, cap, cur, L', q2, q3, q4⟩
      · rw [e4] at q2; cases q2
      · rw [e4] at q2
        injection q2 with q5 q6 q7
        cases q5
        refine ⟨ver, _, k, l, l', h1, .d, .d, by rw [← q6, f2], fun σ => .inr ⟨bb, cap, cur, L', e2, q3, q4⟩, fun b2 hb cu E fz cu' E' fz' w1 w2 => ?_⟩
        rw [e2] at hb; cases hb
        obtain ⟨fz2, q8, _⟩ := q4.2.1
        rw [q8] at w2; cases w2
        rw [q4.2.2.2.2.1, ← q7, f3 _ _ _ w1]
theorem eCallX_sound {G : Nat} {E : World → Prop} {pn : TypeId → Option Nat} {mvs : FuncId → List Bool} {ln : FuncId → Bool} (hE : X.E = E) (hG : X.G = G) {f : FuncId} {us : List Value} {ps : List PV} {ats : List TypeId} (hexec : (execOp a.eval o).run P w = (callFunc f us.toArray).run P w) (hg : Good X nt ε a w)
    (hps : ∀ β N, St X ε w a.tmps β N → All2 (ValC (Fz X w N ε.s) w β ε.s) ps us)
    (h : (eCallX pn mvs ln o f ps ats).Run (PCalls P G E) ε.s v s' r wr) : o.wp P a w (fun a' w' => Good X nt ⟨putE o.dst v ε.t, s'⟩ a' w') Q := by
  obtain ⟨hs, hd, β, N, hst⟩ := id hg
  have hargs := hps β N hst
  unfold eCallX at h
  obtain ⟨em0, s1, r1, w1, r2, w2, k1, h⟩ := bind_run h
  obtain rfl := scanA_run k1
  obtain ⟨em, s2, r3, w3, r4, w4, k2, h⟩ := bind_run h
  obtain rfl := scanE_run k2
  obtain ⟨⟨qs, mA, pk⟩, s3, r5, w5, r6, w6, k3, h⟩ := bind_run h
  let S1 : Nat → Prop := fun b => Fz X w N ε.s b ∨ ∃ id ∈ pk, b ∈ N id
  have hAH : AH X ε w β N S1 pk := ⟨fun b hb => .inl hb, fun id hi b hb => .inr ⟨id, hi, hb⟩⟩
  obtain ⟨⟨xs, ms⟩, s4, r7, w7, r8, w8, k4, h⟩ := bind_run h
  have hHE : HE em β ε.s (extB (em.map (locF β))) (extS xs) := HE.of
  obtain ⟨rfl, a1, a2, a3, a4⟩ := argA_spec (S' := S1) hst hHE hargs k3 hAH
  obtain ⟨rfl, b1, b2, b3, b4, b5, b6⟩ := extL_spec (S' := S1) hst hHE hAH.f k4
  simp only at h
  split at h
  case h_1 => exact h.elim
  rename_i hchk
  rw [Bool.and_eq_true] at hchk
  have hnd := nodupB_spec hchk.1
  have hdj := disjL_spec hchk.2
  obtain ⟨r0, ys, hPC, h⟩ := h
  have hemnd : (em.map (·.1)).Nodup := (List.nodup_append.1 hnd).1
  have hlive : ∀ id ∈ em.map (·.1) ++ (mA ++ ms.flatten), ∃ b, (ε.s id).blk = some b := fun id hid => by
    rcases List.mem_append.1 hid with hid | hid
    · obtain ⟨⟨i, ver, j, n⟩, hm, rfl⟩ := List.mem_map.1 hid
      obtain ⟨cs, e, _⟩ := b3 _ _ _ _ hm
      exact ⟨_, by rw [e]⟩
    · obtain ⟨ver, blk, k, l, e, _⟩ := (a2.app b2) id hid
      exact ⟨_, by rw [e]⟩
  have hF1 : (em.map (locF β)).map (·.1) ++ mA.flatMap N ++ (ms.map fun m => m.flatMap N).flatten = (em.map (·.1) ++ (mA ++ ms.flatten)).flatMap N := by
    rw [locs_fst hst b3, flat_map, List.flatMap_append, List.flatMap_append, List.append_assoc]
  have hFnd : ((em.map (·.1) ++ (mA ++ ms.flatten)).flatMap N).Nodup := flatMap_nodup hst hnd hlive
  have hFlt : ∀ b ∈ (em.map (·.1) ++ (mA ++ ms.flatten)).flatMap N, G ≤ b ∧ b < w.heap.size := fun b hb => by
    obtain ⟨id, hid, hbN⟩ := List.mem_flatMap.1 hb
    obtain ⟨bl, hbl⟩ := hlive id hid
    refine ⟨?_, hst.lt id bl hbl b hbN⟩
    rw [← hG]
    rcases hst.new id bl hbl b hbN with h | h
    · exact X.hG b h
    · exact Nat.le_trans X.hw h
  have hxpk : ∀ id ∈ pk, id ∉ em.map (·.1) ++ (mA ++ ms.flatten) := fun id hid hm => by
    rcases List.mem_append.1 hm with hm | hm
    · obtain ⟨⟨i, ver, j, n⟩, hm2, rfl⟩ := List.mem_map.1 hm
      obtain ⟨cs, e, _⟩ := b3 _ _ _ _ hm2
      obtain ⟨ver', blk, k, l, e', hw⟩ := a3 _ hid
      rw [e] at e'; cases e'; cases hw
    · exact hdj id hid hm
  have hS1 : ∀ b, S1 b → b < w.heap.size ∧ b ∉ (em.map (·.1) ++ (mA ++ ms.flatten)).flatMap N := fun b hb => by
    rcases hb with hb | ⟨id, hid, hbN⟩
    · refine ⟨hb.1, fun hm => ?_⟩
      obtain ⟨id, hid, hbN⟩ := List.mem_flatMap.1 hm
      obtain ⟨bl, hbl⟩ := hlive id hid
      exact hb.2.1 ⟨id, bl, hbl, hbN⟩
    · obtain ⟨ver, blk, k, l, e, _⟩ := a3 id hid
      refine ⟨hst.lt id _ (by rw [e]) b hbN, fun hm => ?_⟩
      obtain ⟨id', hid', hbN'⟩ := List.mem_flatMap.1 hm
      obtain ⟨bl, hbl⟩ := hlive id' hid'
      exact hst.disj id id' _ _ (by rw [e]) hbl (fun e => hxpk id hid (e ▸ hid')) b hbN hbN'
  obtain ⟨hylen, hPC⟩ := hPC
  have hcall := hPC w S1 us (em.map (locF β)) (mA.flatMap N) (ms.map fun m => m.flatMap N) (by rw [← hG]; exact Nat.le_trans X.hw hst.frm.size) (by rw [← hE]; exact hst.env) (by simp [b1]) (by rw [b4, b1]) (by rw [hF1]; exact hFnd) (by rw [hF1]; exact hFlt) (by rw [hF1]; exact hS1) a1 b6
  rw [hF1] at hcall
  have hlens : xs.map List.length = em.map (·.2.2.2) := by
    apply List.ext_getElem?
    intro i
    rw [List.getElem?_map, List.getElem?_map]
    by_cases hi : i < em.length
    · have e1 : em[i]? = some em[i] := by simp [hi]
      have e2 : xs[i]? = some (xs[i]'(by omega)) := by simp [b1, hi]
      rw [e1, e2]
      simp only [Option.map_some]
      rw [b5 i _ _ e1 e2]
    · rw [List.getElem?_eq_none (by omega), List.getElem?_eq_none (by omega)]; rfl
  rw [hlens] at hcall
  have hyl : ys.length = em.length := by have := congrArg List.length hylen; simp only [List.length_map] at this; rw [this, b1]
  have hyn : ∀ (e : Nat) (x : Nat × Nat × Nat × Nat) (cs : List PV), em[e]? = some x → ys[e]? = some cs → cs.length = x.2.2.2 := fun e x cs he hc => by
    have h1 : (ys.map List.length)[e]? = (em.map (·.2.2.2))[e]? := by rw [hylen, hlens]
    rw [List.getElem?_map, List.getElem?_map, he, hc] at h1
    simpa using h1
  have hLe : mA.flatMap N ++ (ms.map fun m => m.flatMap N).flatten = (mA ++ ms.flatten).flatMap N := by rw [flat_map, List.flatMap_append]
  have core : ∀ (w' : World) (Lr : List Nat) (Le' : List (List Nat)) (rr : PV) (bs : List PV) (gs : List Value) (Lg : List Nat) (u : Value) (D : List Nat) (R : Ren) {r9 w9 : List Nat}, (∀ id ∈ D, 99 ≤ id) → (∀ id ∈ mA, id ∈ D ∨ id ∈ R.map (·.1)) → (∀ id ∈ D, id ∈ mA ++ ms.flatten ∨ ((callFz rr ys || bs.any fzS) = true ∧ id ∈ pk)) → (∀ id ∈ ms.flatten, id ∈ D) → ((callFz rr ys || bs.any fzS) = true → ∀ id ∈ pk, id ∈ D) →
      Le'.length = xs.length → ((em.map (locF β)).map (·.1) ++ (Lr ++ Lg) ++ Le'.flatten).Nodup →
      (∀ b ∈ (Lr ++ Lg) ++ Le'.flatten, (b ∈ mA.flatMap N ++ (ms.map fun m => m.flatMap N).flatten ∨ w.heap.size ≤ b) ∧ b < w'.heap.size) →
      OwnV (fun b => (S1 b ∨ b ∈ mA.flatMap N ++ (ms.map fun m => m.flatMap N).flatten ∨ w.heap.size ≤ b) ∧ b < w'.heap.size ∧ b ∉ (em.map (locF β)).map (·.1) ++ (Lr ++ Lg) ++ Le'.flatten) w' (extB (em.map (locF β))) (extS ys) rr u Lr →
      (∀ (j : Nat) p cs L, (em.map (locF β))[j]? = some p → ys[j]? = some cs → Le'[j]? = some L → BoxO (fun b => (S1 b ∨ b ∈ mA.flatMap N ++ (ms.map fun m => m.flatMap N).flatten ∨ w.heap.size ≤ b) ∧ b < w'.heap.size ∧ b ∉ (em.map (locF β)).map (·.1) ++ (Lr ++ Lg) ++ Le'.flatten) w' (extB (em.map (locF β))) (extS ys) p cs L) →
      Stay w w' ((em.map (·.1) ++ (mA ++ ms.flatten)).flatMap N) (em.map (locF β)) (em.map (·.2.2.2)) →
      R.flatMap (·.2.2) = Lg → (R.map (·.1)).Sublist mA → (∀ id ∈ R.map (·.1), id ∉ D) →
      (∀ S' : Nat → Prop, (∀ b, S' b → b < w'.heap.size) → ((callFz rr ys || bs.any fzS) = true → ∀ b, ((S1 b ∨ b ∈ mA.flatMap N ++ (ms.map fun m => m.flatMap N).flatten ∨ w.heap.size ≤ b) ∧ b < w'.heap.size ∧ b ∉ (em.map (locF β)).map (·.1) ++ (Lr ++ Lg) ++ Le'.flatten) → S' b) → ∀ id b L, (id, b, L) ∈ R → ∃ ver blk k l l', ε.s id = ⟨ver, some blk⟩ ∧ IsRw blk k l ∧ IsRw b k l' ∧ l'.length = l.length ∧ (∀ σ, BlkC S' w' β σ L id b) ∧ ∀ bb, β id = some (bb, 0) → ∀ cur E fz cur' E' fz', w.heap[bb]? = some (Obj.cells cur E fz) → w'.heap[bb]? = some (Obj.cells cur' E' fz') → cur'.size = cur.size) →
      ((openR (resId o) rr).bind fun v => backL em (resId o + 500000) em ys (.ret v)).Run (PCalls P G E) (renS R (killS em (dropS D ε.s))) v s' r9 w9 → Good X nt ⟨putE o.dst v ε.t, s'⟩ (a.put o.dst u) w' := by
    intro w' Lr Le' rr bs gs Lg u D R r9 w9 hD99 hmD hDm hmsD hpkD hl hnd' hLr hown hbox hstay hRL hRsub hRD hRok h
    obtain ⟨v0, s5, r11, w11, r12, w12, k5, h⟩ := bind_run h
    let S' : Nat → Prop := fun b => ((Fz X w N ε.s b ∨ ((callFz rr ys || bs.any fzS) = true ∧ ∃ id ∈ pk, b ∈ N id)) ∨ b ∈ mA.flatMap N ++ (ms.map fun m => m.flatMap N).flatten ∨ w.heap.size ≤ b) ∧ b < w'.heap.size ∧ b ∉ (em.map (locF β)).map (·.1) ++ (Lr ++ Lg) ++ Le'.flatten
    have hown2 : OwnV S' w' (extB (em.map (locF β))) (extS ys) rr u Lr ∧ (∀ (j : Nat) p cs L, (em.map (locF β))[j]? = some p → ys[j]? = some cs → Le'[j]? = some L → BoxO S' w' (extB (em.map (locF β))) (extS ys) p cs L) := by
      cases hfz : (callFz rr ys || bs.any fzS) with
      | true =>
        have e : S' = fun b => (S1 b ∨ b ∈ mA.flatMap N ++ (ms.map fun m => m.flatMap N).flatten ∨ w.heap.size ≤ b) ∧ b < w'.heap.size ∧ b ∉ (em.map (locF β)).map (·.1) ++ (Lr ++ Lg) ++ Le'.flatten := by
          funext b
          simp only [S', S1, hfz, true_and]
        rw [e]
        exact ⟨hown, hbox⟩
      | false =>
        rw [Bool.or_eq_false_iff] at hfz
        have hfz := hfz.1
        unfold callFz at hfz
        rw [Bool.or_eq_false_iff] at hfz
        refine ⟨fzR_spec hfz.1 hown, fun j p cs L h1 h2 h3 => ?_⟩
        obtain ⟨cur, E0, us0, c1, c2, c3, c4⟩ := hbox j p cs L h1 h2 h3
        refine ⟨cur, E0, us0, c1, c2, c3, All3.imp (B := fzS) (fun p u L hb h => fzS_spec hb h) ?_ c4⟩
        have := List.any_eq_false.1 hfz.2 cs (List.mem_of_getElem? h2)
        simpa using this
    have hRm : ∀ id ∈ R.map (·.1), id ∈ mA := fun id h => hRsub.mem h
    have hRok2 := hRok S' (fun b hb => hb.2.1) (fun hfz b hb => by simp only [S', hfz, true_and]; exact hb)
    have hD : ∀ id ∈ D, 99 ≤ id ∧ ∃ ver blk k l, ε.s id = ⟨ver, some blk⟩ ∧ IsRw blk k l := fun id hid => by
      refine ⟨hD99 id hid, ?_⟩
      rcases hDm id hid with h | ⟨_, h⟩
      · exact (a2.app b2) id h
      · exact a3 id h
    have hDx : ∀ id, id ∈ em.map (·.1) → id ∉ D ∧ id ∉ R.map (·.1) := fun id h1 => by
      obtain ⟨⟨i, ver, j, n⟩, hm, rfl⟩ := List.mem_map.1 h1
      obtain ⟨cs, e, _⟩ := b3 _ _ _ _ hm
      refine ⟨fun h2 => ?_, fun h2 => ?_⟩
      · obtain ⟨_, ver', blk, k, l, e', hw⟩ := hD _ h2
        rw [e] at e'; cases e'; cases hw
      · obtain ⟨ver', blk, k, l, e', hw⟩ := a2 _ (hRm _ h2)
        rw [e] at e'; cases e'; cases hw
    have hσl : ∀ id bl, (renS R (killS em (dropS D ε.s)) id).blk = some bl → id ∉ D ∧ ∃ b, (ε.s id).blk = some b := fun id bl hb => by
      by_cases hr : id ∈ R.map (·.1)
      · obtain ⟨ver', blk, k, l, e', _⟩ := a2 _ (hRm _ hr)
        exact ⟨hRD id hr, blk, by rw [e']⟩
      rw [renS_same hr] at hb
      by_cases hx : id ∈ em.map (·.1)
      · exact ⟨(hDx id hx).1, hlive id (List.mem_append_left _ hx)⟩
      · rw [killS_same hx] at hb
        by_cases hd2 : id ∈ D
        · rw [dropS_mem hd2] at hb; cases hb
        · rw [dropS_same hd2] at hb; exact ⟨hd2, bl, hb⟩
    have hNl : ∀ id bl x, (renS R (killS em (dropS D ε.s)) id).blk = some bl → x ∈ renN R N id → x ∈ Lg ∨ (id ∉ R.map (·.1) ∧ x ∈ N id) := fun id bl x hb hx => by
      by_cases hr : id ∈ R.map (·.1)
      · obtain ⟨⟨i, b0, L⟩, hm, rfl⟩ := List.mem_map.1 hr
        have hn : (R.map (·.1)).Nodup := hRsub.nodup (List.nodup_append.1 (List.nodup_append.1 hnd).2.1).1
        rw [renN_mem hn hm] at hx
        exact .inl (by rw [← hRL]; exact List.mem_flatMap.2 ⟨_, hm, hx⟩)
      · rw [renN_same hr] at hx
        exact .inr ⟨hr, hx⟩
    have hSS : ∀ b, Fz X w N ε.s b → S' b := fun b hb => by
      have h0 := hS1 b (.inl hb)
      refine ⟨.inl (.inl hb), Nat.lt_of_lt_of_le hb.1 hstay.size, fun hm => ?_⟩
      rw [List.append_assoc] at hm
      rcases List.mem_append.1 hm with hm | hm
      · rw [locs_fst hst b3] at hm
        exact h0.2 (by rw [List.flatMap_append]; exact List.mem_append_left _ hm)
      · rcases (hLr b hm).1 with h1 | h1
        · rw [hLe] at h1
          exact h0.2 (by rw [List.flatMap_append]; exact List.mem_append_right _ h1)
        · have := hb.1; omega
    have hdisj : ∀ x, (x ∈ mA.flatMap N ++ (ms.map fun m => m.flatMap N).flatten ∨ w.heap.size ≤ x) → ∀ id bl, (renS R (killS em (dropS D ε.s)) id).blk = some bl → id ∉ R.map (·.1) → x ∉ N id := fun x hx id bl hb hr hxn => by
      obtain ⟨h3, bl0, h4⟩ := hσl id bl hb
      rcases hx with h1 | h1
      · rw [hLe] at h1
        obtain ⟨id', hid', hbN⟩ := List.mem_flatMap.1 h1
        obtain ⟨ver, blk, k, l, e, _⟩ := (a2.app b2) id' hid'
        refine hst.disj id' id _ _ (by rw [e]) h4 (fun e2 => ?_) x hbN hxn
        subst e2
        rcases List.mem_append.1 hid' with hid' | hid'
        · exact (hmD _ hid').elim h3 hr
        · exact h3 (hmsD _ hid')
      · have := hst.lt id bl0 h4 x hxn; omega
    have hSf : ∀ b, S' b → Fz X w' (renN R N) (renS R (killS em (dropS D ε.s))) b := by
      rintro b ⟨hb, hlt, hnm⟩
      refine ⟨hlt, ?_, ?_⟩
      · rintro ⟨id, bl, h1, h2⟩
        rcases hNl id bl b h1 h2 with h2 | ⟨hnr, h2⟩
        · exact hnm (List.mem_append_left _ (List.mem_append_right _ (List.mem_append_right _ h2)))
        obtain ⟨h3, bl0, h4⟩ := hσl id bl h1
        rcases hb with (hb | ⟨hfz, id', hid', hb⟩) | hb
        · exact hb.2.1 ⟨id, bl0, h4, h2⟩
        · obtain ⟨ver, blk, k, l, e, _⟩ := a3 id' hid'
          have hne : id' ≠ id := fun e2 => h3 (by rw [← e2]; exact hpkD hfz id' hid')
          exact hst.disj id' id _ _ (by rw [e]) h4 hne b hb h2
        · exact hdisj b hb id bl h1 hnr h2
      · rcases hb with (hb | ⟨hfz, id', hid', hb⟩) | hb | hb
        · exact hb.2.2
        · obtain ⟨ver, blk, k, l, e, _⟩ := a3 id' hid'
          exact .inr (hst.new id' _ (by rw [e]) b hb)
        · rw [hLe] at hb
          obtain ⟨id', hid', hbN⟩ := List.mem_flatMap.1 hb
          obtain ⟨ver, blk, k, l, e, _⟩ := (a2.app b2) id' hid'
          exact .inr (hst.new id' _ (by rw [e]) b hbN)
        · exact .inr (.inr (Nat.le_trans hst.frm.size hb))
    have hsub : ∀ x ∈ Lg, x ∈ (Lr ++ Lg) ++ Le'.flatten := fun x hx => List.mem_append_left _ (List.mem_append_right _ hx)
    rw [List.append_assoc] at hnd'
    obtain ⟨n1, n2, n3⟩ := List.nodup_append.1 hnd'
    obtain ⟨n4, n5, n6⟩ := List.nodup_append.1 n2
    obtain ⟨n7, n8, n9⟩ := List.nodup_append.1 n4
    obtain ⟨T1, st1⟩ := called (D := D) (M := mA ++ ms.flatten) (R := R) hst b3 (fun id hid => (a2.app b2) id hid) hD (fun id hid => by
      rcases List.mem_append.1 hid with h | h
      · exact hmD id h
      · exact .inl (hmsD id h)) hemnd hRok2 (hRsub.nodup (List.nodup_append.1 (List.nodup_append.1 hnd).2.1).1) (fun id hid => ⟨hRD id hid, fun h => (hDx id h).2 hid⟩)
      (fun id b L hm x hx => by
        have := hLr x (hsub x (by rw [← hRL]; exact List.mem_flatMap.2 ⟨_, hm, hx⟩))
        rw [hLe] at this
        exact this.1.imp (fun h => h) fun h => ⟨h, this.2⟩) (by rw [hRL]; exact n8)
      (fun x hx id hid hxn => by
        rw [hRL] at hx
        have h0 : x ∈ (em.map (locF β)).map (·.1) := by
          rw [locs_fst hst b3]; exact List.mem_flatMap.2 ⟨id, hid, hxn⟩
        exact n3 x h0 x (List.mem_append_left _ (List.mem_append_right _ hx)) rfl)
      hstay hown2.2 hyl (by rw [hl, b1]) hyn hSS hSf
    have hPend : Pend X S' (renS R (killS em (dropS D ε.s))) (renN R N) (Lr ++ Le'.flatten) := by
      have up : ∀ x ∈ Lr ++ Le'.flatten, x ∈ (Lr ++ Lg) ++ Le'.flatten := fun x hx => by
        rcases List.mem_append.1 hx with hx | hx
        · exact List.mem_append_left _ (List.mem_append_left _ hx)
        · exact List.mem_append_right _ hx
      refine ⟨?_, fun x hx hSx => hSx.2.2 (by rw [List.append_assoc]; exact List.mem_append_right _ (up x hx)), fun x hx => ?_, fun id bl hb x hx hxn => ?_⟩
      · exact List.nodup_append.2 ⟨n7, n5, fun x hx y hy => n6 x (List.mem_append_left _ hx) y hy⟩
      · rcases (hLr x (up x hx)).1 with h1 | h1
        · rw [hLe] at h1
          obtain ⟨id', hid', hbN⟩ := List.mem_flatMap.1 h1
          obtain ⟨ver, blk, k, l, e, _⟩ := (a2.app b2) id' hid'
          exact hst.new id' _ (by rw [e]) x hbN
        · exact .inr (Nat.le_trans hst.frm.size h1)
      · rcases hNl id bl x hb hxn with h2 | ⟨hnr, h2⟩
        · rcases List.mem_append.1 hx with hx | hx
          · exact n9 x hx x h2 rfl
          · exact n6 x (List.mem_append_right _ h2) x hx rfl
        · exact hdisj x (hLr x (up x hx)).1 id bl hb hnr h2
    obtain ⟨β2, N2, st2, T2, v2, hh2⟩ := openR_spec st1 (by unfold resId; split <;> omega) hown2.1 hPend.left k5
    have hptr : ∀ (e : Nat) (x : Nat × Nat × Nat × Nat) (p : Nat × Nat), em[e]? = some x → (em.map (locF β))[e]? = some p → PtrC β2 s5 x.1 x.2.1 0 x.2.2.1 (.pointer (some ⟨p.1, p.2, none⟩)) := fun e x p he hp => by
      obtain ⟨i, ver, j, n⟩ := x
      obtain ⟨cs, e1, _⟩ := b3 i ver j n (List.mem_of_getElem? he)
      obtain ⟨b, off, cur, E0, q1, q2, _⟩ := hst.blk i _ (by rw [e1])
      refine T2.ptr (T1.ptr ⟨by rw [e1]; exact Nat.le_refl _, .inl ⟨_, rfl⟩, fun blk hb => ?_⟩)
      rw [e1] at hb
      cases hb
      rw [List.getElem?_map, he] at hp
      simp [locF, q1] at hp
      subst hp
      exact ⟨b, off, q1, rfl⟩
    obtain ⟨β3, N3, s6, r', wr', st3, T3, hr⟩ := backL_spec (fun e x u he hp => by
      have hlt : e < em.length := (List.getElem?_eq_some_iff.1 he).1
      have hy : ys[e]? = some (ys[e]'(by omega)) := List.getElem?_eq_getElem (by omega)
      obtain ⟨_, _, hp⟩ := hp
      obtain ⟨b, off, q1, q2⟩ := hp (.box (ys[e]'(by omega))) (by unfold extS; rw [hy])
      simp only [Nat.add_zero] at q2
      rw [q2]
      exact hptr e x (b, off) he q1) st2 (by unfold resId; split <;> omega) (by simp) (by rw [hl, b1]) hown2.2 (hPend.right hh2) hptr h
    obtain ⟨rfl, rfl, -, -⟩ := hr
    obtain ⟨st4, T4⟩ := st3.close
    exact Good.put hs hd st4 (T4.vc (T3.vc v2))
  have key : ∀ u w', (∃ (Lr : List Nat) (Le' : List (List Nat)), Le'.length = xs.length ∧ ((em.map (locF β)).map (·.1) ++ Lr ++ Le'.flatten).Nodup ∧
      (∀ b ∈ Lr ++ Le'.flatten, (b ∈ mA.flatMap N ++ (ms.map fun m => m.flatMap N).flatten ∨ w.heap.size ≤ b) ∧ b < w'.heap.size) ∧
      OwnG (fun b => (S1 b ∨ b ∈ mA.flatMap N ++ (ms.map fun m => m.flatMap N).flatten ∨ w.heap.size ≤ b) ∧ b < w'.heap.size ∧ b ∉ (em.map (locF β)).map (·.1) ++ Lr ++ Le'.flatten) w' (extB (em.map (locF β))) (extS ys) (ownVals qs us) r0 u Lr ∧
      (∀ (j : Nat) p cs L, (em.map (locF β))[j]? = some p → ys[j]? = some cs → Le'[j]? = some L → BoxO (fun b => (S1 b ∨ b ∈ mA.flatMap N ++ (ms.map fun m => m.flatMap N).flatten ∨ w.heap.size ≤ b) ∧ b < w'.heap.size ∧ b ∉ (em.map (locF β)).map (·.1) ++ Lr ++ Le'.flatten) w' (extB (em.map (locF β))) (extS ys) p cs L) ∧
      Stay w w' ((em.map (·.1) ++ (mA ++ ms.flatten)).flatMap N) (em.map (locF β)) (em.map (·.2.2.2))) → Good X nt ⟨putE o.dst v ε.t, s'⟩ (a.put o.dst u) w' := by
    rintro u w' ⟨Lr, Le', hl, hnd', hLr, hown, hbox, hstay⟩
    simp only at h
    have hmAnd : mA.Nodup := (List.nodup_append.1 (List.nodup_append.1 hnd).2.1).1
    have all99 : ∀ {D : List Nat}, D.all (Nat.ble 99) = true → ∀ id ∈ D, 99 ≤ id := fun h id hid => Nat.le_of_ble_eq_true (List.all_eq_true.1 h id hid)
    cases hln : ln f with
    | false =>
      rw [hln] at h
      split at h
      · rename_i e1 e2 e3; cases e3
      · rename_i e1 e2 e3
        have hgb : gbR r0 = r0 ∧ gbB r0 = [] ∧ OwnG (fun b => (S1 b ∨ b ∈ mA.flatMap N ++ (ms.map fun m => m.flatMap N).flatten ∨ w.heap.size ≤ b) ∧ b < w'.heap.size ∧ b ∉ (em.map (locF β)).map (·.1) ++ Lr ++ Le'.flatten) w' (extB (em.map (locF β))) (extS ys) (ownVals qs us) r0 u Lr = OwnV (fun b => (S1 b ∨ b ∈ mA.flatMap N ++ (ms.map fun m => m.flatMap N).flatten ∨ w.heap.size ≤ b) ∧ b < w'.heap.size ∧ b ∉ (em.map (locF β)).map (·.1) ++ Lr ++ Le'.flatten) w' (extB (em.map (locF β))) (extS ys) r0 u Lr := by
          cases r0 <;> first | exact ⟨rfl, rfl, rfl⟩ | cases e2
        obtain ⟨g1, g2, g3⟩ := hgb
        rw [g3] at hown
        rw [g1, g2] at e1 h
        obtain ⟨r9, w9, h⟩ := dropL_run h
        obtain ⟨r10, w10, h⟩ := killL_run h
        refine core w' Lr Le' r0 [] [] [] u _ [] (all99 e1) (fun id hid => .inl (by simp [hid])) (fun id hid => ?_) (fun id hid => by simp [List.mem_flatten.1 hid]) (fun hfz id hid => by simp only [hfz]; simp [hid]) hl (by rw [List.append_nil]; exact hnd') (by rw [List.append_nil]; exact hLr) (by rw [List.append_nil]; exact hown) (by rw [List.append_nil]; exact hbox) hstay rfl (List.nil_sublist _) (fun _ h => by cases h) (fun _ _ _ _ _ _ h => by cases h) h
        rcases List.mem_append.1 hid with h1 | h1
        · exact .inl h1
        · split at h1
          · rename_i hq; exact .inr ⟨hq, h1⟩
          · cases h1
      · exact h.elim
    | true =>
      rw [hln] at h
      split at h
      · rename_i e1 e2 e3
        cases r0 <;> try (cases e2; done)
        rename_i r1 back
        obtain ⟨L1, L2, rfl, ho1, ho2⟩ := hown
        simp only [gbR, gbB] at e1 h
        obtain ⟨r9, w9, h⟩ := dropL_run h
        obtain ⟨r10, w10, h⟩ := killL_run h
        have hxD : ∀ id ∈ mA, id ∉ ([] ++ ms.flatten ++ (match callFz r1 ys || back.any fzS with
          | true => pk
          | false => [])) := fun id hid hm => by
          rw [List.nil_append] at hm
          rcases List.mem_append.1 hm with hm | hm
          · exact (List.nodup_append.1 (List.nodup_append.1 hnd).2.1).2.2 id hid id hm rfl
          · split at hm
            · exact hxpk id hm (List.mem_append_right _ (List.mem_append_left _ hid))
            · cases hm
        let QQ : PV → Value → List Nat → Prop := fun p u L => ∀ S' : Nat → Prop, ((callFz r1 ys || back.any fzS) = true → ∀ b, ((S1 b ∨ b ∈ mA.flatMap N ++ (ms.map fun m => m.flatMap N).flatten ∨ w.heap.size ≤ b) ∧ b < w'.heap.size ∧ b ∉ (em.map (locF β)).map (·.1) ++ (L1 ++ L2) ++ Le'.flatten) → S' b) → OwnS S' w' (extB (em.map (locF β))) (extS ys) p u L
        have ho3 : All3 QQ back (ownVals qs us) L2 := by
          cases hfz : (callFz r1 ys || back.any fzS) with
          | true => exact All3.mono (fun p u L _ h S' hS' => OwnS.up h (hS' hfz)) ho2
          | false =>
            rw [Bool.or_eq_false_iff] at hfz
            exact All3.imp (B := fzS) (fun p u L hb h S' _ => fzS_spec hb h) hfz.2 ho2
        obtain ⟨R, r', wr', q1, q2, q3, q4⟩ := backR_run h ho3 hmAnd
        have hsame : ∀ id ∈ mA, killS em (dropS ([] ++ ms.flatten ++ (match callFz r1 ys || back.any fzS with
          | true => pk
          | false => [])) ε.s) id = ε.s id := fun id hid => by
          rw [killS_same (fun hm => (List.nodup_append.1 hnd).2.2 id hm id (List.mem_append_left _ hid) rfl), dropS_same (hxD id hid)]
        have hren : ∀ (S' : Nat → Prop), ((callFz r1 ys || back.any fzS) = true → ∀ b, ((S1 b ∨ b ∈ mA.flatMap N ++ (ms.map fun m => m.flatMap N).flatten ∨ w.heap.size ≤ b) ∧ b < w'.heap.size ∧ b ∉ (em.map (locF β)).map (·.1) ++ (L1 ++ L2) ++ Le'.flatten) → S' b) → All2 (RenOf (OwnS S' w' (extB (em.map (locF β))) (extS ys)) ε.s) R (ownVals qs us) := fun S' hS' => by
          have key : ∀ (R : Ren) (gs : List Value), (∀ x ∈ R, x.1 ∈ mA) → All2 (RenOf QQ (killS em (dropS ([] ++ ms.flatten ++ (match callFz r1 ys || back.any fzS with
            | true => pk
            | false => [])) ε.s))) R gs → All2 (RenOf (OwnS S' w' (extB (em.map (locF β))) (extS ys)) ε.s) R gs := by
            intro R
            induction R with
            | nil => intro gs _ h; cases gs <;> exact h
            | cons x R ih =>
              intro gs hx h
              cases gs with
              | nil => exact h
              | cons g gs =>
                refine ⟨?_, ih gs (fun y hy => hx y (List.mem_cons_of_mem _ hy)) h.2⟩
                have h0 := h.1
                unfold RenOf at h0 ⊢
                rw [hsame _ (hx x (List.mem_cons_self ..))] at h0
                rcases h0 with ⟨a1, a2, a3, a4, a5, a6, a7⟩ | ⟨a1, a2, a3, a4, a5, a6, a7⟩
                · exact .inl ⟨a1, a2, a3, a4, a5, a6, a7 S' hS'⟩
                · exact .inr ⟨a1, a2, a3, a4, a5, a6, a7 S' hS'⟩
          exact key _ _ (fun x hx => by rw [← q1]; exact List.mem_map.2 ⟨x, hx, rfl⟩) q4
        refine core w' L1 Le' r1 back (ownVals qs us) L2 u _ R (all99 e1) (fun id hid => .inr (by rw [q1]; exact hid)) (fun id hid => ?_) (fun id hid => by simp [List.mem_flatten.1 hid]) (fun hfz id hid => by simp only [hfz]; simp [hid]) hl hnd' hLr ho1 hbox hstay q3 (by rw [q1]; exact List.Sublist.refl _) (fun id hid => by rw [q1] at hid; exact hxD id hid) (fun S' _ hS' => ren_ok (t := ε.t) hst a4 (hren S' hS') q1) q2
        rw [List.nil_append] at hid
        rcases List.mem_append.1 hid with h1 | h1
        · exact .inl (List.mem_append_right _ h1)
        · split at h1
          · rename_i hq; exact .inr ⟨hq, h1⟩
          · cases h1
      · rename_i e1 e2 e3; cases e3
      · exact h.elim
  unfold Oper.wp
  rw [hexec]
  unfold Arrive at hcall
  split at hcall
  · rename_i u w' hrun
    rw [hrun]
    obtain ⟨u', Lr, Le', e, h1, h2, h3, h4, h5, h6⟩ := hcall
    cases e
    exact key _ _ ⟨Lr, Le', h1, h2, h3, h4, h5, h6⟩
  · rename_i f' ys' w' hrun
    rw [hrun]
    rw [Oper.upon_enter]
    refine Calls.mono hcall fun e w'' hR => ?_
    obtain ⟨u', Lr, Le', rfl, h1, h2, h3, h4, h5, h6⟩ := hR
    exact key _ _ ⟨Lr, Le', h1, h2, h3, h4, h5, h6⟩
  · exact hcall.elim
end
end Go.Px
namespace Go.Px
open Go.RowKit
def capK (s : Sto) : PV → Bool
  | .ptr e 0 0 0 => match s e with
    | ⟨0, some (.box _)⟩ => true
    | _ => false
  | _ => false
def closeK (s : Sto) : PV → Option (PV × List Nat × List Nat)
  | .fn f (c :: cs) => (match (c :: cs).all (capK s) with
    | true => some (.fn f (c :: cs), [], [])
    | false => none)
  | p => closeS s p
def closeLK (s : Sto) : List PV → Option (List PV × List Nat × List Nat)
  | [] => some ([], [], [])
  | p :: ps => match closeK s p, closeLK s ps with
    | some (q, a, b), some (qs, c, d) => some (q :: qs, a ++ c, b ++ d)
    | _, _ => none
def close1K (s : Sto) : PV → Option (PV × List Nat × List Nat)
  | .agg cs => match closeLK s cs with
    | some (qs, a, b) => some (.agg qs, a, b)
    | none => none
  | p => closeS s p
def close1LK (s : Sto) : List PV → Option (List PV × List Nat × List Nat)
  | [] => some ([], [], [])
  | p :: ps => match close1K s p, close1LK s ps with
    | some (q, a, b), some (qs, c, d) => some (q :: qs, a ++ c, b ++ d)
    | _, _ => none
section
variable {X : Ctx} {nt : Nat} {ε : Env} {w : World}
def HxK (ε : Env) (β β' : Nat → Option (Nat × Nat)) (σ' : Sto) : Prop := ∀ (e : Nat) cs u, ε.s e = ⟨0, some (.box cs)⟩ → PtrC β ε.s e 0 0 0 u → PtrC β' σ' e 0 0 0 u
theorem capK_spec {β β' : Nat → Option (Nat × Nat)} {σ' : Sto} (hx : HxK ε β β' σ') {S S' : Nat → Prop} {p : PV} {u : Value} (h : capK ε.s p = true) (hv : Val0 S w β ε.s p u) : Val0 S' w β' σ' p u := by
  unfold capK at h
  split at h
  · rename_i e
    split at h
    · rename_i cs he
      exact hx e cs u he hv
    · cases h
  · cases h
theorem capsK_spec {β β' : Nat → Option (Nat × Nat)} {σ' : Sto} (hx : HxK ε β β' σ') {S S' : Nat → Prop} : ∀ {ps : List PV} {us : List Value}, ps.all (capK ε.s) = true → All2 (Val0 S w β ε.s) ps us → All2 (Val0 S' w β' σ') ps us
  | [], us, _, h => by cases us <;> exact h
  | p :: ps, [], _, h => h.elim
  | p :: ps, u :: us, hc, h => by
    rw [List.all_cons, Bool.and_eq_true] at hc
    exact ⟨capK_spec hx hc.1 h.1, capsK_spec hx hc.2 h.2⟩
theorem closeK_spec {β : Nat → Option (Nat × Nat)} {N : Nat → List Nat} {tm : Array Value} {S' : Nat → Prop} {β' : Nat → Option (Nat × Nat)} {σ' : Sto} (h : St X ε w tm β N) (hx : HxK ε β β' σ') (hF : ∀ b, Fz X w N ε.s b → S' b) {p q : PV} {u : Value} {A B : List Nat} (hv : ValS (Fz X w N ε.s) w β ε.s p u) (hc : closeK ε.s p = some (q, A, B))
    (hB : ∀ id ∈ B, ∀ b ∈ N id, S' b) : (∀ id ∈ A, ∃ blk, (ε.s id).blk = some blk) ∧ OwnS S' w β' σ' q u (A.map N).flatten := by
  unfold closeK at hc
  split at hc
  · split at hc
    · rename_i hk
      cases hc
      obtain ⟨us, e, hv⟩ := hv
      exact ⟨by simp, rfl, us, e, capsK_spec hx hk hv⟩
    · cases hc
  · exact closeS_spec h hF hv hc hB
theorem closeLK_spec {β : Nat → Option (Nat × Nat)} {N : Nat → List Nat} {tm : Array Value} {S' : Nat → Prop} {β' : Nat → Option (Nat × Nat)} {σ' : Sto} (h : St X ε w tm β N) (hx : HxK ε β β' σ') (hF : ∀ b, Fz X w N ε.s b → S' b) :
    ∀ {ps qs : List PV} {us : List Value} {A B : List Nat}, All2 (ValS (Fz X w N ε.s) w β ε.s) ps us → closeLK ε.s ps = some (qs, A, B) → (∀ id ∈ B, ∀ b ∈ N id, S' b) → (∀ id ∈ A, ∃ blk, (ε.s id).blk = some blk) ∧ All3 (OwnS S' w β' σ') qs us (A.map N).flatten
  | [], qs, [], A, B, _, hc, _ => by cases hc; exact ⟨by simp, rfl⟩
  | p :: ps, qs, u :: us, A, B, ⟨h1, h2⟩, hc, hB => by
    unfold closeLK at hc
    split at hc
    · rename_i q a b qs' c d e1 e2
      cases hc
      obtain ⟨k1, k2⟩ := closeK_spec h hx hF h1 e1 (fun id hid => hB id (List.mem_append.2 (.inl hid)))
      obtain ⟨k3, k4⟩ := closeLK_spec h hx hF h2 e2 (fun id hid => hB id (List.mem_append.2 (.inr hid)))
      refine ⟨fun id hid => (List.mem_append.1 hid).elim (k1 id) (k3 id), _, _, ?_, k2, k4⟩
      rw [List.map_append, List.flatten_append]
    · cases hc
  | [], _, _ :: _, _, _, h, _, _ => h.elim
  | _ :: _, _, [], _, _, h, _, _ => h.elim
theorem close1K_spec {β : Nat → Option (Nat × Nat)} {N : Nat → List Nat} {tm : Array Value} {S' : Nat → Prop} {β' : Nat → Option (Nat × Nat)} {σ' : Sto} (h : St X ε w tm β N) (hx : HxK ε β β' σ') (hF : ∀ b, Fz X w N ε.s b → S' b) {p q : PV} {u : Value} {A B : List Nat} (hv : ValC (Fz X w N ε.s) w β ε.s p u) (hc : close1K ε.s p = some (q, A, B))
    (hB : ∀ id ∈ B, ∀ b ∈ N id, S' b) : (∀ id ∈ A, ∃ blk, (ε.s id).blk = some blk) ∧ Own1 S' w β' σ' q u (A.map N).flatten := by
  by_cases ha : ∃ cs, p = .agg cs
  · obtain ⟨cs, rfl⟩ := ha
    obtain ⟨us, rfl, hv⟩ := hv
    unfold close1K at hc
    split at hc
    · rename_i cs' e
      cases e
      split at hc
      · rename_i qs a b e
        cases hc
        obtain ⟨k1, k2⟩ := closeLK_spec h hx hF hv e hB
        exact ⟨k1, us, rfl, k2⟩
      · cases hc
    · rename_i hne; exact absurd rfl (hne cs)
  · refine close1_spec h hF hv ?_ hB
    rw [show close1 ε.s p = close1K ε.s p from by cases p <;> first | rfl | exact absurd ⟨_, rfl⟩ ha]
    exact hc
theorem close1LK_spec {β : Nat → Option (Nat × Nat)} {N : Nat → List Nat} {tm : Array Value} {S' : Nat → Prop} {β' : Nat → Option (Nat × Nat)} {σ' : Sto} (h : St X ε w tm β N) (hx : HxK ε β β' σ') (hF : ∀ b, Fz X w N ε.s b → S' b) :
    ∀ {ps qs : List PV} {us : List Value} {A B : List Nat}, All2 (ValC (Fz X w N ε.s) w β ε.s) ps us → close1LK ε.s ps = some (qs, A, B) → (∀ id ∈ B, ∀ b ∈ N id, S' b) → (∀ id ∈ A, ∃ blk, (ε.s id).blk = some blk) ∧ All3 (Own1 S' w β' σ') qs us (A.map N).flatten
  | [], qs, [], A, B, _, hc, _ => by cases hc; exact ⟨by simp, rfl⟩
  | p :: ps, qs, u :: us, A, B, ⟨h1, h2⟩, hc, hB => by
    unfold close1LK at hc
    split at hc
    · rename_i q a b qs' c d e1 e2
      cases hc
      obtain ⟨k1, k2⟩ := close1K_spec h hx hF h1 e1 (fun id hid => hB id (List.mem_append.2 (.inl hid)))
      obtain ⟨k3, k4⟩ := close1LK_spec h hx hF h2 e2 (fun id hid => hB id (List.mem_append.2 (.inr hid)))
      refine ⟨fun id hid => (List.mem_append.1 hid).elim (k1 id) (k3 id), _, _, ?_, k2, k4⟩
      rw [List.map_append, List.flatten_append]
    · cases hc
  | [], _, _ :: _, _, _, h, _, _ => h.elim
  | _ :: _, _, [], _, _, h, _, _ => h.elim
end
def NoBox (s : Sto) (l : List Nat) : Prop := ∀ id ∈ l, ∀ cs, (s id).blk ≠ some (.box cs)
theorem NoBox.app {s : Sto} {a b : List Nat} (h1 : NoBox s a) (h2 : NoBox s b) : NoBox s (a ++ b) := fun id hid => (List.mem_append.1 hid).elim (h1 id) (h2 id)
theorem closeS_nb {s : Sto} {p q : PV} {A B : List Nat} (h : closeS s p = some (q, A, B)) : NoBox s A ∧ NoBox s B := by
  have nl : NoBox s [] := fun _ h => by cases h
  have nb : ∀ {id : Nat} {v : Nat} {blk : Blk}, s id = ⟨v, some blk⟩ → (∀ cs, blk ≠ .box cs) → NoBox s [id] := fun hs hb i hi cs e => by
    rw [List.mem_singleton.1 hi, hs] at e; cases e; exact hb _ rfl
  unfold closeS at h
  repeat' split at h
  all_goals first
    | (cases h; done)
    | (cases h; exact ⟨nl, nl⟩)
    | (rename_i hs _; cases h; exact ⟨nb (by assumption) (by intro _ e; cases e), nl⟩)
    | (cases h; exact ⟨nb (by assumption) (by intro _ e; cases e), nl⟩)
    | (cases h; exact ⟨nl, nb (by assumption) (by intro _ e; cases e)⟩)
theorem closeL_nb {s : Sto} : ∀ {ps qs : List PV} {A B : List Nat}, closeL s ps = some (qs, A, B) → NoBox s A ∧ NoBox s B
  | [], qs, A, B, h => by cases h; exact ⟨(fun _ h => by cases h), (fun _ h => by cases h)⟩
  | p :: ps, qs, A, B, h => by
    unfold closeL at h
    split at h
    · rename_i q a b qs' c d e1 e2
      cases h
      obtain ⟨h1, h2⟩ := closeS_nb e1
      obtain ⟨h3, h4⟩ := closeL_nb e2
      exact ⟨h1.app h3, h2.app h4⟩
    · cases h
def LiveNb (s : Sto) (A B : List Nat) : Prop := (LiveL s A ∧ LiveL s B) ∧ NoBox s A ∧ NoBox s B
theorem LiveNb.nil {s : Sto} : LiveNb s [] [] := ⟨⟨LiveL.nil, LiveL.nil⟩, (fun _ h => by cases h), (fun _ h => by cases h)⟩
theorem LiveNb.app {s : Sto} {A B C D : List Nat} (h : LiveNb s A B) (k : LiveNb s C D) : LiveNb s (A ++ C) (B ++ D) := ⟨⟨h.1.1.app k.1.1, h.1.2.app k.1.2⟩, h.2.1.app k.2.1, h.2.2.app k.2.2⟩
theorem closeS_ln {s : Sto} {p q : PV} {A B : List Nat} (h : closeS s p = some (q, A, B)) : LiveNb s A B := ⟨closeS_live h, closeS_nb h⟩
theorem closeK_ln {s : Sto} {p q : PV} {A B : List Nat} (h : closeK s p = some (q, A, B)) : LiveNb s A B := by
  unfold closeK at h
  split at h
  · split at h
    · cases h; exact LiveNb.nil
    · cases h
  · exact closeS_ln h
theorem closeLK_ln {s : Sto} : ∀ {ps qs : List PV} {A B : List Nat}, closeLK s ps = some (qs, A, B) → LiveNb s A B
  | [], qs, A, B, h => by cases h; exact LiveNb.nil
  | p :: ps, qs, A, B, h => by
    unfold closeLK at h
    split at h
    · rename_i q a b qs' c d e1 e2
      cases h
      exact (closeK_ln e1).app (closeLK_ln e2)
    · cases h
theorem close1K_ln {s : Sto} {p q : PV} {A B : List Nat} (h : close1K s p = some (q, A, B)) : LiveNb s A B := by
  unfold close1K at h
  split at h
  · split at h
    · rename_i qs a b e
      cases h
      exact closeLK_ln e
    · cases h
  · exact closeS_ln h
theorem close1LK_ln {s : Sto} : ∀ {ps qs : List PV} {A B : List Nat}, close1LK s ps = some (qs, A, B) → LiveNb s A B
  | [], qs, A, B, h => by cases h; exact LiveNb.nil
  | p :: ps, qs, A, B, h => by
    unfold close1LK at h
    split at h
    · rename_i q a b qs' c d e1 e2
      cases h
      exact (close1K_ln e1).app (close1LK_ln e2)
    · cases h
end Go.Px
namespace Go.Px
open Go.RowKit
def opnP (id : Nat) : PV → PV
  | .row true k l => .ref id 1 0 l.length true
  | .drow k l => .ref (id + 1000000000) 1 0 l.length true
  | p => p
def opnPB (id : Nat) (p : PV) (s : Sto) : Sto := match p with
  | .row true k l => upd s id ⟨1, some (.rowb k l)⟩
  | .drow k l => upd s (id + 1000000000) ⟨1, some (.rowd k l)⟩
  | _ => s
def opnL (id : Nat) : List PV → List PV
  | [] => []
  | p :: ps => opnP id p :: opnL (id + 1) ps
def opnB (id : Nat) : List PV → Sto → Sto
  | [], s => s
  | p :: ps, s => opnB (id + 1) ps (opnPB id p s)
def opn1 (i : Nat) : PV → PV
  | .agg cs => .agg (opnL (91000000 + 1000 * i) cs)
  | p => opnP (90000000 + i) p
def opn1B (i : Nat) (p : PV) (s : Sto) : Sto := match p with
  | .agg cs => opnB (91000000 + 1000 * i) cs s
  | p => opnPB (90000000 + i) p s
def opnA (i : Nat) : List PV → List PV
  | [] => []
  | p :: ps => opn1 i p :: opnA (i + 1) ps
def opnAB (i : Nat) : List PV → Sto → Sto
  | [], s => s
  | p :: ps, s => opnAB (i + 1) ps (opn1B i p s)
def opnX (base e : Nat) : List (List PV) → Sto → Sto
  | [], s => s
  | cs :: xs, s => opnX (base + 1000) (e + 1) xs (upd (opnB base cs s) e ⟨0, some (.box (opnL base cs))⟩)
def deadX (exts : List (List PV)) : Sto := fun j => match exts[j]? with
  | some cs => ⟨0, some (.box (List.replicate cs.length .dead))⟩
  | none => ⟨0, none⟩
def plen : PV → Nat
  | .row _ _ l => l.length
  | .drow _ l => l.length
  | _ => 0
def own1P : PV → List PV
  | .agg cs => cs.filter isOwnR
  | p => [p].filter isOwnR
def ownPs : List PV → List PV
  | [] => []
  | p :: ps => own1P p ++ ownPs ps
def lntP (q : Nat) (p : PV) : PV := match isOwnR p with
  | true => .ref q 0 0 (plen p) true
  | false => p
def lntL (q : Nat) : List PV → List PV
  | [] => []
  | p :: ps => lntP q p :: lntL (match isOwnR p with
    | true => q + 1
    | false => q) ps
def lnt1 (q : Nat) : PV → PV
  | .agg cs => .agg (lntL q cs)
  | p => lntP q p
def lntA (q : Nat) : List PV → List PV
  | [] => []
  | p :: ps => lnt1 q p :: lntA (q + (own1P p).length) ps
def lrefs (q : Nat) : List PV → List PV
  | [] => []
  | p :: ps => .ref q 0 0 (plen p) true :: lrefs (q + 1) ps
def lntB (p : PV) : Option Blk := match p with
  | .row true k l => some (.rowb k l)
  | .drow k l => some (.rowd k l)
  | _ => none
def lntS (ps : List PV) : Sto := fun j => match Nat.ble 50 j with
  | true => (match ps[j - 50]? with
    | some p => ⟨0, lntB p⟩
    | none => ⟨0, none⟩)
  | false => ⟨0, none⟩
def lentL (ln : Bool) (args : List PV) : List PV := match ln with
  | true => lrefs 50 (ownPs args)
  | false => []
def gbIf (ln : Bool) (r : PV) (bT : List PV) : PV := match ln with
  | true => .gb r bT
  | false => r
def initX (ln : Bool) (args : List PV) (exts : List (List PV)) : Env := match ln with
  | true => ⟨fun i => ((lntA 50 args)[i]?).getD .un, lntS (ownPs args)⟩
  | false => ⟨fun i => ((opnA 0 args)[i]?).getD .un, opnX 80000000 0 exts (opnAB 0 args (deadX exts))⟩
def extC (ε : Env) : Nat → Nat → Option (List (List PV))
  | _, 0 => some []
  | e, n + 1 => match ε.s e, extC ε (e + 1) n with
    | ⟨_, some (.box cs)⟩, some l => some (cs :: l)
    | _, _ => none
def retX (nt : Nat) (rs : List ResultVar) (nx : Nat) (ls : List PV) (rT bT : List PV) (exts' : List (List PV)) : Exit → Env → Prop
  | .normal, ε | .ret, ε => ∃ vs cs qs A B, resL nt ε rs = some vs ∧ extC ε 0 nx = some cs ∧ close1LK ε.s (vs ++ .agg ls :: cs.map .agg) = some (qs, A, B) ∧ nodupB A = true ∧ disjL A B = true ∧ All2 wk1 qs (rT ++ .agg bT :: exts'.map .agg)
  | _, _ => False
def cellOk : PV → Bool
  | .ref .. => false
  | .obj _ => false
  | .agg _ => false
  | .gb _ _ => false
  | _ => true
def argOk : PV → Bool
  | .agg cs => cs.all cellOk && Nat.ble cs.length 1000
  | p => cellOk p
def lendOk : PV → Bool
  | .agg cs => cs.all fun p => isOwnR p || noOwnS p
  | p => isOwnR p || noOwnS p
def lentOk (ln : Bool) (args : List PV) (nx : Nat) : Bool := match ln with
  | true => args.all lendOk && Nat.ble (ownPs args).length 48 && Nat.beq nx 0
  | false => args.all argOk
section
variable {P : Program} {PC : Con} {X : Ctx} {nt : Nat} {Q : Exit → Act → World → Prop} {ε : Env} {a : Act} {w : World} {o : Oper} {v : PV} {t : Nat → PV} {s s' : Sto} {r wr : List Nat}
variable {β β0 : Nat → Option (Nat × Nat)} {σ0 : Sto} {N : Nat → List Nat} {tm : Array Value} {S : Nat → Prop}
def Rng (id n i : Nat) : Prop := (id ≤ i ∧ i < id + n) ∨ (id + 1000000000 ≤ i ∧ i < id + 1000000000 + n)
theorem ownS_val (T0 : Tr S S w w β0 β σ0 s) {p : PV} {u : Value} {L : List Nat} (hp : isOwnR p = false) (ho : ∀ o, p ≠ .obj o) (h : OwnS S w β0 σ0 p u L) : L = [] ∧ ValS S w β s p u := by
  cases p with
  | row own k l => cases own with
    | true => simp [isOwnR] at hp
    | false => exact ⟨h.1, T0.vs h.2⟩
  | obj o => exact absurd rfl (ho o)
  | drow k l => simp [isOwnR] at hp
  | v x => exact ⟨h.1, T0.vs (p := .v x) h.2⟩
  | nil => exact ⟨h.1, T0.vs (p := .nil) h.2⟩
  | ref a b c d e => exact ⟨h.1, T0.vs (p := .ref a b c d e) h.2⟩
  | ptr a b c d => exact ⟨h.1, T0.vs (p := .ptr a b c d) h.2⟩
  | eptr k l i j => exact ⟨h.1, T0.vs (p := .eptr k l i j) h.2⟩
  | agg cs => exact ⟨h.1, T0.vs (p := .agg cs) h.2⟩
  | tup cs => exact ⟨h.1, T0.vs (p := .tup cs) h.2⟩
  | fn f caps => exact ⟨h.1, T0.vs (p := .fn f caps) h.2⟩
  | un => exact ⟨h.1, T0.vs (p := .un) h.2⟩
  | gb r b => exact ⟨h.1, T0.vs (p := .gb r b) h.2⟩
  | dead => exact ⟨h.1, trivial⟩
theorem cellOk_obj {p : PV} (h : cellOk p = true) : ∀ o, p ≠ .obj o := fun o e => by subst e; cases h
theorem isOwnR_cases {p : PV} (h : isOwnR p = true) : (∃ k l, p = .row true k l) ∨ ∃ k l, p = .drow k l := by
  cases p <;> try (simp [isOwnR] at h; done)
  case row own k l =>
    cases own
    · simp [isOwnR] at h
    · exact .inl ⟨_, _, rfl⟩
  case drow k l => exact .inr ⟨_, _, rfl⟩
theorem opnP_spec {p : PV} {u : Value} {id : Nat} {L : List Nat} (h : StS X S ⟨t, s⟩ w tm β N) (hid : 99 ≤ id) (hz : ∀ i, Rng id 1 i → s i = ⟨0, none⟩) (ha : cellOk p = true) (ho : OwnS S w β0 σ0 p u L) (T0 : Tr S S w w β0 β σ0 s) (hp : Pend X S s N L) :
    ∃ β' N', StS X S ⟨t, opnPB id p s⟩ w tm β' N' ∧ Tr S S w w β β' s (opnPB id p s) ∧ ValS S w β' (opnPB id p s) (opnP id p) u ∧ Held s N (opnPB id p s) N' L ∧ (∀ i, ¬ Rng id 1 i → opnPB id p s i = s i ∧ β' i = β i) := by
  have hh : ∀ i blk, Held s N (upd s i ⟨1, some blk⟩) (upd N i L) L := fun j blk i b hb x hx => by
    by_cases hi : i = j
    · subst hi; rw [upd_same] at hx; exact .inl hx
    · rw [upd_ne _ _ hi] at hx hb; exact .inr ⟨b, hb, hx⟩
  by_cases hro : isOwnR p = true
  · rcases isOwnR_cases hro with ⟨k, l, rfl⟩ | ⟨k, l, rfl⟩
    · have hs0 : s id = ⟨0, none⟩ := hz id (.inl ⟨Nat.le_refl _, by omega⟩)
      obtain ⟨pl, st1, T1, v1⟩ := StS.open (ε := ⟨t, s⟩) h hid (ver := 1) (by show (s id).ver < 1; rw [hs0]; decide) ho hp.ns hp.new hp.dj
      exact ⟨_, _, st1, T1, v1, hh _ _, fun i hi => by
        have hne : i ≠ id := fun e => hi (.inl (by omega))
        exact ⟨upd_ne _ _ hne, upd_ne _ _ hne⟩⟩
    · have hs0 : s (id + 1000000000) = ⟨0, none⟩ := hz _ (.inr ⟨Nat.le_refl _, by omega⟩)
      obtain ⟨pl, st1, T1, v1⟩ := StS.openD (ε := ⟨t, s⟩) h (id := id + 1000000000) (by omega) (ver := 1) (by show (s (id + 1000000000)).ver < 1; rw [hs0]; decide) ho (DOwn.lts ho) hp.nd hp.ns hp.new hp.dj
      exact ⟨_, _, st1, T1, v1, hh _ _, fun i hi => by
        have hne : i ≠ id + 1000000000 := fun e => hi (.inr (by omega))
        exact ⟨upd_ne _ _ hne, upd_ne _ _ hne⟩⟩
  · replace hro : isOwnR p = false := by simpa using hro
    obtain ⟨rfl, hv⟩ := ownS_val T0 hro (cellOk_obj ha) ho
    have e1 : opnPB id p s = s := by
      cases p <;> try rfl
      case row own k l => cases own <;> first | rfl | simp [isOwnR] at hro
      case drow k l => simp [isOwnR] at hro
    have e2 : opnP id p = p := by
      cases p <;> try rfl
      case row own k l => cases own <;> first | rfl | simp [isOwnR] at hro
      case drow k l => simp [isOwnR] at hro
    rw [e1, e2]
    exact ⟨β, N, h, Tr.refl, hv, Held.refl, fun _ _ => ⟨rfl, rfl⟩⟩
theorem opn_spec {β0 : Nat → Option (Nat × Nat)} {σ0 : Sto} : ∀ {ps : List PV} {us : List Value} {id : Nat} {L : List Nat} {β : Nat → Option (Nat × Nat)} {N : Nat → List Nat} {s : Sto}, StS X S ⟨t, s⟩ w tm β N → 99 ≤ id → id + ps.length ≤ 1000000000 → (∀ i, Rng id ps.length i → s i = ⟨0, none⟩) → (∀ p ∈ ps, cellOk p = true) →
    All3 (OwnS S w β0 σ0) ps us L → Tr S S w w β0 β σ0 s → Pend X S s N L →
    ∃ β' N', StS X S ⟨t, opnB id ps s⟩ w tm β' N' ∧ Tr S S w w β β' s (opnB id ps s) ∧ All2 (ValS S w β' (opnB id ps s)) (opnL id ps) us ∧ Held s N (opnB id ps s) N' L ∧ (∀ i, ¬ Rng id ps.length i → opnB id ps s i = s i ∧ β' i = β i)
  | [], [], id, L, β, N, s, h, hid, hm, hz, ha, ho, T0, hp => ⟨β, N, h, Tr.refl, trivial, Held.refl, fun _ _ => ⟨rfl, rfl⟩⟩
  | p :: ps, u :: us, id, L, β, N, s, h, hid, hm, hz, ha, ⟨L1, L2, e, h1, h2⟩, T0, hp => by
    subst e
    have hl : (p :: ps).length = ps.length + 1 := rfl
    obtain ⟨β1, N1, st1, T1, v1, hh1, hk1⟩ := opnP_spec h hid (fun i hi => hz i (by unfold Rng at *; omega)) (ha p (List.mem_cons_self ..)) h1 T0 hp.left
    obtain ⟨β', N', st2, T2, v2, hh2, hk⟩ := opn_spec (id := id + 1) st1 (by omega) (by omega) (fun i hi => by
      rw [(hk1 i (by unfold Rng at *; omega)).1]; exact hz i (by unfold Rng at *; omega)) (fun p hp => ha p (List.mem_cons_of_mem _ hp)) h2 (T0.trans T1) (hp.right hh1)
    refine ⟨β', N', st2, T1.trans T2, ⟨T2.vs v1, v2⟩, hh1.app hh2, fun i hi => ?_⟩
    obtain ⟨q1, q2⟩ := hk i (by unfold Rng at *; omega)
    obtain ⟨q3, q4⟩ := hk1 i (by unfold Rng at *; omega)
    exact ⟨q1.trans q3, q2.trans q4⟩
  | [], _ :: _, _, _, _, _, _, _, _, _, _, _, h, _, _ => h.elim
  | _ :: _, [], _, _, _, _, _, _, _, _, _, _, h, _, _ => h.elim
theorem opnX_spec {β0 : Nat → Option (Nat × Nat)} {σ0 : Sto} : ∀ {xs : List (List PV)} {locs : List (Nat × Nat)} {Le : List (List Nat)} {base e : Nat} {β : Nat → Option (Nat × Nat)} {N : Nat → List Nat} {s : Sto}, StS X S ⟨t, s⟩ w tm β N → e + xs.length ≤ 49 → 99 ≤ base → base + 1000 * xs.length ≤ 1000000000 → locs.length = xs.length → Le.length = xs.length → (∀ cs ∈ xs, cs.length ≤ 1000) →
    (∀ i, Rng base (1000 * xs.length) i → s i = ⟨0, none⟩) → (∀ (i : Nat) cs, xs[i]? = some cs → s (e + i) = ⟨0, some (.box (List.replicate cs.length .dead))⟩) → (∀ (i : Nat) p, locs[i]? = some p → β (e + i) = some p) →
    (∀ cs ∈ xs, ∀ p ∈ cs, cellOk p = true) →
    (∀ (i : Nat) (p : Nat × Nat) (cs : List PV) (L : List Nat), locs[i]? = some p → xs[i]? = some cs → Le[i]? = some L → BoxO S w β0 σ0 p cs L) → Tr S S w w β0 β σ0 s → Pend X S s N Le.flatten →
    ∃ β' N', StS X S ⟨t, opnX base e xs s⟩ w tm β' N' ∧ Tr S S w w β β' s (opnX base e xs s)
  | [], [], [], base, e, β, N, s, h, _, _, _, _, _, _, _, _, _, _, _, _, _ => ⟨β, N, h, Tr.refl⟩
  | cs :: xs, p :: locs, L :: Le, base, e, β, N, s, h, he, hb, hbm, hl, hL, hn, hz, hbox, hβ, ha, hB, T0, hP => by
    obtain ⟨cur, E, us, b1, b2, b3, b4⟩ := hB 0 p cs L rfl rfl rfl
    have hn0 := hn cs (List.mem_cons_self ..)
    have hxl : (cs :: xs).length = xs.length + 1 := rfl
    have hPl : Pend X S s N L := by rw [List.flatten_cons] at hP; exact hP.left
    obtain ⟨β1, N1, st1, T1, v1, hh1, hk⟩ := opn_spec h hb (by omega) (fun i hi => hz i (by unfold Rng at *; omega)) (ha cs (List.mem_cons_self ..)) b4 T0 hPl
    have hlow : ∀ i, i < 49 → ¬ Rng base cs.length i := fun i hi => by unfold Rng; omega
    have hse : opnB base cs s e = ⟨0, some (.box (List.replicate cs.length .dead))⟩ := by
      rw [(hk e (hlow e (by omega))).1]; exact hbox 0 cs rfl
    have hβe : β1 e = some p := by rw [(hk e (hlow e (by omega))).2]; exact hβ 0 p rfl
    have hlen : (opnL base cs).length = cs.length := by
      have : ∀ (ps : List PV) (id : Nat), (opnL id ps).length = ps.length := by
        intro ps
        induction ps with
        | nil => intro id; rfl
        | cons p ps ih => intro id; simp [opnL, ih]
      exact this _ _
    have hsp : splice (List.replicate cs.length PV.dead) 0 (opnL base cs) = opnL base cs := by
      unfold splice; simp [hlen]
    obtain ⟨T2, st2⟩ := StS.setBox (cs' := opnL base cs) (j := 0) st1 hse (by simp [hlen]) hβe b1 (us := us) (fun i u hi => by rw [Nat.add_zero]; exact b3 i u hi) v1
    rw [hsp] at T2 st2
    have hP2 : Pend X S (opnB base cs s) N1 Le.flatten := by rw [List.flatten_cons] at hP; exact hP.right hh1
    have hP3 : Pend X S (upd (opnB base cs s) e ⟨0, some (.box (opnL base cs))⟩) N1 Le.flatten := ⟨hP2.nd, hP2.ns, hP2.new, fun i bl hbl x hx => by
      by_cases hi : i = e
      · subst hi; exact hP2.dj i _ (by rw [hse]) x hx
      · rw [upd_ne _ _ hi] at hbl; exact hP2.dj i bl hbl x hx⟩
    obtain ⟨β', N', st3, T3⟩ := opnX_spec (base := base + 1000) (e := e + 1) st2 (by omega) (by omega) (by omega) (by simpa using hl) (by simpa using hL) (fun c hc => hn c (List.mem_cons_of_mem _ hc))
      (fun i hi => by rw [upd_ne _ _ (by unfold Rng at hi; omega), (hk i (by unfold Rng at *; omega)).1]; exact hz i (by unfold Rng at *; omega))
      (fun i c hc => by
        have hi := (List.getElem?_eq_some_iff.1 hc).1
        rw [upd_ne _ _ (by omega), (hk (e + 1 + i) (hlow _ (by omega))).1, show e + 1 + i = e + (i + 1) by omega]; exact hbox (i + 1) c (by simpa using hc))
      (fun i q hq => by
        have hi := (List.getElem?_eq_some_iff.1 hq).1
        have hl' : locs.length = xs.length := by simpa using hl
        rw [(hk (e + 1 + i) (hlow _ (by omega))).2, show e + 1 + i = e + (i + 1) by omega]; exact hβ (i + 1) q (by simpa using hq))
      (fun c hc => ha c (List.mem_cons_of_mem _ hc)) (fun i q c M h1 h2 h3 => hB (i + 1) q c M (by simpa using h1) (by simpa using h2) (by simpa using h3)) (T0.trans (T1.trans T2)) hP3
    exact ⟨β', N', st3, T1.trans (T2.trans T3)⟩
  | [], _ :: _, _, _, _, _, _, _, _, _, _, _, hl, _, _, _, _, _, _, _, _, _ => by cases hl
  | [], [], _ :: _, _, _, _, _, _, _, _, _, _, _, hl, _, _, _, _, _, _, _, _ => by cases hl
  | _ :: _, [], _, _, _, _, _, _, _, _, _, _, hl, _, _, _, _, _, _, _, _, _ => by cases hl
  | _ :: _, _ :: _, [], _, _, _, _, _, _, _, _, _, _, hl, _, _, _, _, _, _, _, _ => by cases hl
def RngA (i n j : Nat) : Prop := Rng (90000000 + i) n j ∨ Rng (91000000 + 1000 * i) (1000 * n) j
theorem opn1_spec {p : PV} {u : Value} {i : Nat} {L : List Nat} (h : StS X S ⟨t, s⟩ w tm β N) (hi1 : i < 1000) (hz : ∀ j, RngA i 1 j → s j = ⟨0, none⟩) (ha : argOk p = true) (ho : Own1 S w β0 σ0 p u L) (T0 : Tr S S w w β0 β σ0 s) (hp : Pend X S s N L) :
    ∃ β' N', StS X S ⟨t, opn1B i p s⟩ w tm β' N' ∧ Tr S S w w β β' s (opn1B i p s) ∧ Val1 S w β' (opn1B i p s) (opn1 i p) u ∧ Held s N (opn1B i p s) N' L ∧ (∀ j, ¬ RngA i 1 j → opn1B i p s j = s j ∧ β' j = β j) := by
  by_cases hagg : ∃ cs, p = .agg cs
  · obtain ⟨cs, rfl⟩ := hagg
    obtain ⟨us, rfl, h3⟩ := ho
    have ha2 : cs.all cellOk = true ∧ Nat.ble cs.length 1000 = true := by simpa [argOk] using ha
    have hcl : cs.length ≤ 1000 := Nat.le_of_ble_eq_true ha2.2
    obtain ⟨β', N', st, T, v, hh, hk⟩ := opn_spec (id := 91000000 + 1000 * i) h (by omega) (by omega) (fun j hj => hz j (.inr (by unfold Rng at *; omega))) (fun p hp => List.all_eq_true.1 ha2.1 p hp) h3 T0 hp
    exact ⟨β', N', st, T, ⟨us, rfl, v⟩, hh, fun j hj => hk j fun hr => hj (.inr (by unfold Rng at *; omega))⟩
  · have hc : cellOk p = true := by cases p <;> first | exact ha | exact absurd ⟨_, rfl⟩ hagg
    have ho' : OwnS S w β0 σ0 p u L := by cases p <;> first | exact ho | exact absurd ⟨_, rfl⟩ hagg
    have e1 : opn1B i p s = opnPB (90000000 + i) p s := by cases p <;> first | rfl | exact absurd ⟨_, rfl⟩ hagg
    have e2 : opn1 i p = opnP (90000000 + i) p := by cases p <;> first | rfl | exact absurd ⟨_, rfl⟩ hagg
    rw [e1, e2]
    obtain ⟨β', N', st, T, v, hh, hk⟩ := opnP_spec (id := 90000000 + i) h (by omega) (fun j hj => hz j (.inl hj)) hc ho' T0 hp
    refine ⟨β', N', st, T, ?_, hh, fun j hj => hk j fun hr => hj (.inl hr)⟩
    cases p <;> first | exact v | exact absurd ⟨_, rfl⟩ hagg | skip
    case row own k l => cases own <;> exact v
theorem opnA_spec {β0 : Nat → Option (Nat × Nat)} {σ0 : Sto} : ∀ {ps : List PV} {us : List Value} {i : Nat} {L : List Nat} {β : Nat → Option (Nat × Nat)} {N : Nat → List Nat} {s : Sto}, StS X S ⟨t, s⟩ w tm β N → i + ps.length ≤ 1000 → (∀ j, RngA i ps.length j → s j = ⟨0, none⟩) → (∀ p ∈ ps, argOk p = true) →
    All3 (Own1 S w β0 σ0) ps us L → Tr S S w w β0 β σ0 s → Pend X S s N L →
    ∃ β' N', StS X S ⟨t, opnAB i ps s⟩ w tm β' N' ∧ Tr S S w w β β' s (opnAB i ps s) ∧ All2 (Val1 S w β' (opnAB i ps s)) (opnA i ps) us ∧ Held s N (opnAB i ps s) N' L ∧ (∀ j, ¬ RngA i ps.length j → opnAB i ps s j = s j ∧ β' j = β j)
  | [], [], i, L, β, N, s, h, hm, hz, ha, ho, T0, hp => ⟨β, N, h, Tr.refl, trivial, Held.refl, fun _ _ => ⟨rfl, rfl⟩⟩
  | p :: ps, u :: us, i, L, β, N, s, h, hm, hz, ha, ⟨L1, L2, e, h1, h2⟩, T0, hp => by
    subst e
    have hl : (p :: ps).length = ps.length + 1 := rfl
    obtain ⟨β1, N1, st1, T1, v1, hh1, hk1⟩ := opn1_spec (i := i) h (by omega) (fun j hj => hz j (by unfold RngA Rng at *; omega)) (ha p (List.mem_cons_self ..)) h1 T0 hp.left
    obtain ⟨β', N', st2, T2, v2, hh2, hk⟩ := opnA_spec (i := i + 1) st1 (by omega) (fun j hj => by
      rw [(hk1 j (by unfold RngA Rng at *; omega)).1]; exact hz j (by unfold RngA Rng at *; omega)) (fun p hp => ha p (List.mem_cons_of_mem _ hp)) h2 (T0.trans T1) (hp.right hh1)
    refine ⟨β', N', st2, T1.trans T2, ⟨T2.v1 v1, v2⟩, hh1.app hh2, fun j hj => ?_⟩
    obtain ⟨q1, q2⟩ := hk j (by unfold RngA Rng at *; omega)
    obtain ⟨q3, q4⟩ := hk1 j (by unfold RngA Rng at *; omega)
    exact ⟨q1.trans q3, q2.trans q4⟩
  | [], _ :: _, _, _, _, _, _, _, _, _, _, h, _, _ => h.elim
  | _ :: _, [], _, _, _, _, _, _, _, _, _, h, _, _ => h.elim
end
end Go.Px
namespace Go.Px
open Go.RowKit
theorem extC_spec {ε : Env} : ∀ {n e : Nat} {l : List (List PV)}, extC ε e n = some l → l.length = n ∧ ∀ (i : Nat) cs, l[i]? = some cs → ∃ v, ε.s (e + i) = ⟨v, some (.box cs)⟩
  | 0, e, l, h => by cases h; exact ⟨rfl, fun i cs h => by simp at h⟩
  | n + 1, e, l, h => by
    unfold extC at h
    split at h
    · rename_i v cs l' h1 h2
      cases h
      obtain ⟨q1, q2⟩ := extC_spec h2
      refine ⟨by simp [q1], fun i c hc => ?_⟩
      cases i with
      | zero => simp at hc; subst hc; exact ⟨v, h1⟩
      | succ i => obtain ⟨v', q3⟩ := q2 i c (by simpa using hc); exact ⟨v', by rw [show e + (i + 1) = e + 1 + i by omega]; exact q3⟩
    · cases h
theorem All3.split {R : PV → Value → List Nat → Prop} : ∀ {as bs : List PV} {us : List Value} {L : List Nat}, All3 R (as ++ bs) us L → ∃ u1 u2 L1 L2, us = u1 ++ u2 ∧ L = L1 ++ L2 ∧ All3 R as u1 L1 ∧ All3 R bs u2 L2
  | [], bs, us, L, h => ⟨[], us, [], L, rfl, rfl, rfl, h⟩
  | a :: as, bs, u :: us, L, ⟨L1, L2, e, h1, h2⟩ => by
    obtain ⟨u1, u2, M1, M2, rfl, rfl, h3, h4⟩ := All3.split h2
    subst e
    exact ⟨u :: u1, u2, L1 ++ M1, M2, rfl, by rw [List.append_assoc], ⟨L1, M1, rfl, h1, h3⟩, h4⟩
  | _ :: _, _, [], _, h => h.elim
theorem All3.aggs {S : Nat → Prop} {w : World} {β : Nat → Option (Nat × Nat)} {σ : Sto} : ∀ {xs : List (List PV)} {us : List Value} {L : List Nat}, All3 (Own1 S w β σ) (xs.map .agg) us L → ∃ (vs : List (Array Value)) (Ls : List (List Nat)), us = vs.map Value.agg ∧ Ls.flatten = L ∧ vs.length = xs.length ∧ Ls.length = xs.length ∧
    ∀ (i : Nat) cs v M, xs[i]? = some cs → vs[i]? = some v → Ls[i]? = some M → All3 (OwnS S w β σ) cs v.toList M
  | [], [], L, h => ⟨[], [], rfl, h.symm, rfl, rfl, fun i cs v M h => by simp at h⟩
  | cs :: xs, u :: us, L, ⟨L1, L2, e, h1, h2⟩ => by
    subst e
    obtain ⟨v, rfl, h3⟩ := h1
    obtain ⟨vs, Ls, rfl, e2, q1, q2, q3⟩ := All3.aggs h2
    refine ⟨v :: vs, L1 :: Ls, rfl, by simp [e2], by simp [q1], by simp [q2], fun i c v' M hc hv hM => ?_⟩
    cases i with
    | zero => simp at hc hv hM; subst hc hv hM; exact h3
    | succ i => exact q3 i c v' M (by simpa using hc) (by simpa using hv) (by simpa using hM)
  | [], _ :: _, _, h => h.elim
  | _ :: _, [], _, h => h.elim
theorem nodup_get : ∀ {l : List Nat} {i j x : Nat}, l.Nodup → l[i]? = some x → l[j]? = some x → i = j
  | y :: l, i, j, x, h, h1, h2 => by
    rw [List.nodup_cons] at h
    cases i with
    | zero => cases j with
      | zero => rfl
      | succ j => simp at h1 h2; subst h1; exact absurd (List.mem_of_getElem? h2) h.1
    | succ i => cases j with
      | zero => simp at h1 h2; subst h2; exact absurd (List.mem_of_getElem? h1) h.1
      | succ j => exact congrArg (· + 1) (nodup_get h.2 (by simpa using h1) (by simpa using h2))
  | [], _, _, _, _, h, _ => by simp at h
theorem own_oneOr {S : Nat → Prop} {w : World} {β : Nat → Option (Nat × Nat)} {σ : Sto} {qs : List PV} {us : List Value} {L : List Nat} (h : All3 (Own1 S w β σ) qs us L) : OwnV S w β σ (oneOr qs) (oneVal us) L := by
  match qs, us, h with
  | [], [], h => exact ⟨#[], rfl, h⟩
  | [q], [u], ⟨L1, L2, e, h1, h2⟩ =>
    have : L2 = [] := h2
    subst this
    rw [List.append_nil] at e
    subst e
    show OwnV _ _ _ _ q u L
    cases q <;> first | exact h1 | exact h1.2.elim
  | q1 :: q2 :: qs, u1 :: u2 :: us, h => exact ⟨(u1 :: u2 :: us).toArray, rfl, by simpa using h⟩
  | [], _ :: _, h => exact h.elim
  | _ :: _, [], h => exact h.elim
  | [_], _ :: _ :: _, ⟨_, _, _, _, h⟩ => exact h.elim
  | _ :: _ :: _, [_], ⟨_, _, _, _, h⟩ => exact h.elim
section
variable {P : Program}
theorem exit_out {w w' : World} {S : Nat → Prop} {E : World → Prop} {G : Nat} {locs : List (Nat × Nat)} {La : List Nat} {Le : List (List Nat)} {exts exts' : List (List PV)} {rx : Nat → Option (Value × Nat)} {few : locs.length ≤ 49} {hG : ∀ b ∈ locs.map (·.1) ++ La ++ Le.flatten, G ≤ b} {hw : G ≤ w.heap.size} {cl : ∀ w w' : World, E w → (∀ b, b < G → w'.heap[b]? = w.heap[b]?) → E w'}
    (hl1 : locs.length = exts.length) (hlocnd : (locs.map (·.1)).Nodup) (hel : exts'.map List.length = exts.map List.length)
    {X : Ctx} (hX : X = { w0 := w, F := locs.map (·.1) ++ La ++ Le.flatten, ext := locs, lens := exts.map List.length, E := E, S := S, few := few, rx := rx, G := G, hG := hG, hw := hw, cl := cl })
    {ε' : Env} {tm' : Array Value} {β : Nat → Option (Nat × Nat)} {N : Nat → List Nat} (hst' : St X ε' w' tm' β N) {ls : List PV} {gs : List Value} (hgs : All2 (ValS (Fz X w' N ε'.s) w' β ε'.s) ls gs)
    {vs : List PV} {us' : List Value} (hall' : All2 (ValC (Fz X w' N ε'.s) w' β ε'.s) vs us') {cs : List (List PV)} {qs : List PV} {A B : List Nat} (h2 : extC ε' 0 exts.length = some cs) (h3 : close1LK ε'.s (vs ++ .agg ls :: cs.map .agg) = some (qs, A, B)) (h4 : nodupB A = true) (h5 : disjL A B = true) {rT bT : List PV} (h6 : All2 wk1 qs (rT ++ .agg bT :: exts'.map .agg)) :
    ∃ (L1 L3 : List Nat) (Le' : List (List Nat)), Le'.length = exts.length ∧ (locs.map (·.1) ++ (L1 ++ L3) ++ Le'.flatten).Nodup ∧
      (∀ b ∈ (L1 ++ L3) ++ Le'.flatten, (b ∈ La ++ Le.flatten ∨ w.heap.size ≤ b) ∧ b < w'.heap.size) ∧
      OwnV (fun b => (S b ∨ b ∈ La ++ Le.flatten ∨ w.heap.size ≤ b) ∧ b < w'.heap.size ∧ b ∉ locs.map (·.1) ++ (L1 ++ L3) ++ Le'.flatten) w' (extB locs) (extS exts') (oneOr rT) (oneVal us') L1 ∧
      All3 (OwnS (fun b => (S b ∨ b ∈ La ++ Le.flatten ∨ w.heap.size ≤ b) ∧ b < w'.heap.size ∧ b ∉ locs.map (·.1) ++ (L1 ++ L3) ++ Le'.flatten) w' (extB locs) (extS exts')) bT gs L3 ∧
      (∀ (j : Nat) p cs L, locs[j]? = some p → exts'[j]? = some cs → Le'[j]? = some L → BoxO (fun b => (S b ∨ b ∈ La ++ Le.flatten ∨ w.heap.size ≤ b) ∧ b < w'.heap.size ∧ b ∉ locs.map (·.1) ++ (L1 ++ L3) ++ Le'.flatten) w' (extB locs) (extS exts') p cs L) ∧
      Stay w w' (locs.map (·.1) ++ La ++ Le.flatten) locs (exts.map List.length) := by
  subst hX
  let X : Ctx := { w0 := w, F := locs.map (·.1) ++ La ++ Le.flatten, ext := locs, lens := exts.map List.length, E := E, S := S, few := few, rx := rx, G := G, hG := hG, hw := hw, cl := cl }
  obtain ⟨lA, lB⟩ := (close1LK_ln h3).1
  have hA := nodupB_spec h4
  have hdis := disjL_spec h5
  obtain ⟨hcl, hcs⟩ := extC_spec h2
  simp only [Nat.zero_add] at hcs
  have hbx : ∀ (i : Nat) c, cs[i]? = some c → ∃ p, locs[i]? = some p ∧ c.length = (exts.map List.length)[i]?.getD 0 ∧ N i = [p.1] ∧ ∃ cur E us0, RowAt w' p.1 cur E ∧ p.2 + c.length ≤ cur.size ∧ us0.length = c.length ∧ (∀ (j : Nat) u, us0[j]? = some u → cur[p.2 + j]? = some u ∧ u.oneCell' = true) ∧ All2 (ValS (Fz X w' N ε'.s) w' β ε'.s) c us0 := fun i c hc => by
    obtain ⟨ver, hs0⟩ := hcs i c hc
    have hi : i < locs.length := by have := (List.getElem?_eq_some_iff.1 hc).1; omega
    have hloc : locs[i]? = some locs[i] := by simp [hi]
    obtain ⟨q1, cs0, q2, q3⟩ := hst'.ext i locs[i] hloc
    rw [hs0] at q2
    cases q2
    obtain ⟨b, off, cur, E0, r1, r2, r3, r4, r5⟩ := hst'.blk i _ (by rw [hs0])
    rw [q1] at r1
    obtain ⟨e1, e2⟩ : locs[i].1 = b ∧ locs[i].2 = off := by injection r1 with r1; rw [r1]; exact ⟨rfl, rfl⟩
    have key : ∀ (l : List PV) (k : Nat), (∀ (j : Nat) p, l[j]? = some p → c[k + j]? = some p) → ∃ us0 : List Value, us0.length = l.length ∧ (∀ (j : Nat) u, us0[j]? = some u → cur[off + k + j]? = some u ∧ u.oneCell' = true) ∧ All2 (ValS (Fz X w' N ε'.s) w' β ε'.s) l us0 := by
      intro l
      induction l with
      | nil => intro k _; exact ⟨[], rfl, (fun j u h => by simp at h), trivial⟩
      | cons p l ih =>
        intro k hl
        obtain ⟨us0, m1, m2, m3⟩ := ih (k + 1) fun j p hp => by rw [show k + 1 + j = k + (j + 1) by omega]; exact hl (j + 1) p (by simpa using hp)
        obtain ⟨u, hu, h1c, hv⟩ := r5 k p (by simpa using hl 0 p rfl)
        refine ⟨u :: us0, by simp [m1], fun j u' hj => ?_, hv, m3⟩
        cases j with
        | zero => simp at hj; subst hj; exact ⟨by simpa using hu, h1c⟩
        | succ j => rw [show off + k + (j + 1) = off + (k + 1) + j by omega]; exact m2 j u' (by simpa using hj)
    obtain ⟨us0, m1, m2, m3⟩ := key c 0 fun j p hp => by rw [Nat.zero_add]; exact hp
    refine ⟨locs[i], hloc, ?_, by rw [e1]; exact r2, cur, E0, us0, by rw [e1]; exact r3, by rw [e2]; exact r4, m1, fun j u hj => by rw [e2]; exact m2 j u hj, m3⟩
    have q3 : (exts.map List.length)[i]? = some c.length := q3
    rw [q3]; rfl
  obtain ⟨uss, hul2, hul2', hall2⟩ : ∃ uss : List (Array Value), uss.length = cs.length ∧ (∀ (i : Nat) c v, cs[i]? = some c → uss[i]? = some v → ∃ p, locs[i]? = some p ∧ ∃ cur E, RowAt w' p.1 cur E ∧ p.2 + c.length ≤ cur.size ∧ v.toList.length = c.length ∧ (∀ (j : Nat) u, v.toList[j]? = some u → cur[p.2 + j]? = some u ∧ u.oneCell' = true)) ∧ All2 (ValC (Fz X w' N ε'.s) w' β ε'.s) (cs.map .agg) (uss.map Value.agg) := by
    have key : ∀ (l : List (List PV)) (k : Nat), (∀ (i : Nat) c, l[i]? = some c → cs[k + i]? = some c) → ∃ uss : List (Array Value), uss.length = l.length ∧ (∀ (i : Nat) c v, l[i]? = some c → uss[i]? = some v → ∃ p, locs[k + i]? = some p ∧ ∃ cur E, RowAt w' p.1 cur E ∧ p.2 + c.length ≤ cur.size ∧ v.toList.length = c.length ∧ (∀ (j : Nat) u, v.toList[j]? = some u → cur[p.2 + j]? = some u ∧ u.oneCell' = true)) ∧ All2 (ValC (Fz X w' N ε'.s) w' β ε'.s) (l.map .agg) (uss.map Value.agg) := by
      intro l
      induction l with
      | nil => intro k _; exact ⟨[], rfl, (fun i c v h => by simp at h), trivial⟩
      | cons c l ih =>
        intro k hl
        obtain ⟨uss, m1, m2, m3⟩ := ih (k + 1) fun i c hc => by rw [show k + 1 + i = k + (i + 1) by omega]; exact hl (i + 1) c (by simpa using hc)
        obtain ⟨p, n1, _, _, cur, E0, us0, n3, n4, n5, n6, n7⟩ := hbx k c (by simpa using hl 0 c rfl)
        refine ⟨us0.toArray :: uss, by simp [m1], fun i c' v' hc hv => ?_, ⟨us0.toArray, rfl, by simpa using n7⟩, m3⟩
        cases i with
        | zero => simp at hc hv; subst hc hv; exact ⟨p, by simpa using n1, cur, E0, n3, n4, by simpa using n5, fun j u hj => n6 j u (by simpa using hj)⟩
        | succ i => rw [show k + (i + 1) = k + 1 + i by omega]; exact m2 i c' v' (by simpa using hc) (by simpa using hv)
    obtain ⟨uss, m1, m2, m3⟩ := key cs 0 fun i c hc => by rw [Nat.zero_add]; exact hc
    exact ⟨uss, m1, fun i c v hc hv => by have := m2 i c v hc hv; rwa [Nat.zero_add] at this, m3⟩
  have hallT := All2.app hall' (show All2 _ (.agg ls :: cs.map .agg) (.agg gs.toArray :: uss.map Value.agg) from ⟨⟨gs.toArray, rfl, by simpa using hgs⟩, hall2⟩)
  obtain ⟨nbA, nbB⟩ := (close1LK_ln h3).2
  have hlocN : ∀ b, b ∈ locs.map (·.1) → ∃ i c, cs[i]? = some c ∧ b ∈ N i := fun b hb => by
    obtain ⟨p, hp, rfl⟩ := List.mem_map.1 hb
    obtain ⟨i, hi⟩ := List.getElem?_of_mem hp
    have hilt := (List.getElem?_eq_some_iff.1 hi).1
    have hc : cs[i]? = some (cs[i]'(by omega)) := by simp [hcl, ← hl1, hilt]
    obtain ⟨p', q1, _, q2, _⟩ := hbx i _ hc
    rw [hi] at q1; cases q1
    exact ⟨i, _, hc, by rw [q2]; simp⟩
  have hbox' : ∀ (i : Nat) c, cs[i]? = some c → ∃ blk, (ε'.s i).blk = some blk ∧ blk = .box c := fun i c hc => by
    obtain ⟨ver, e⟩ := hcs i c hc
    exact ⟨_, by rw [e], rfl⟩
  have hnoloc : ∀ id blk, (ε'.s id).blk = some blk → (∀ ds, blk ≠ .box ds) → ∀ b ∈ N id, b ∉ locs.map (·.1) := fun id blk hbk hnb b hbN hm => by
    obtain ⟨i, c, hc, hbi⟩ := hlocN b hm
    obtain ⟨blk', hbk', rfl⟩ := hbox' i c hc
    refine hst'.disj id i _ _ hbk hbk' (fun e => ?_) b hbN hbi
    subst e
    rw [hbk] at hbk'; cases hbk'
    exact hnb c rfl
  have hin : ∀ id blk, (ε'.s id).blk = some blk → (∀ ds, blk ≠ .box ds) → ∀ b ∈ N id, (b ∈ La ++ Le.flatten ∨ w.heap.size ≤ b) ∧ b < w'.heap.size ∧ b ∉ locs.map (·.1) := fun id blk hbk hnb b hbN => by
    have h0 := hnoloc id blk hbk hnb b hbN
    refine ⟨?_, hst'.lt id blk hbk b hbN, h0⟩
    rcases hst'.new id blk hbk b hbN with h | h
    · have h : b ∈ locs.map (·.1) ++ La ++ Le.flatten := h
      rw [List.append_assoc] at h
      exact .inl ((List.mem_append.1 h).resolve_left h0)
    · exact .inr h
  have hL0 : ∀ b ∈ (A.map N).flatten, ∃ id ∈ A, b ∈ N id := fun b hb => by
    obtain ⟨q, hq, hb⟩ := List.mem_flatten.1 hb
    obtain ⟨id, hid, rfl⟩ := List.mem_map.1 hq
    exact ⟨id, hid, hb⟩
  have hL0in : ∀ b ∈ (A.map N).flatten, (b ∈ La ++ Le.flatten ∨ w.heap.size ≤ b) ∧ b < w'.heap.size ∧ b ∉ locs.map (·.1) := fun b hb => by
    obtain ⟨id, hid, hbN⟩ := hL0 b hb
    obtain ⟨blk, hbk⟩ := lA id hid
    exact hin id blk hbk (fun ds e => nbA id hid ds (by rw [hbk, e])) b hbN
  let SB : Nat → Prop := fun b => (S b ∨ b ∈ La ++ Le.flatten ∨ w.heap.size ≤ b) ∧ b < w'.heap.size ∧ b ∉ locs.map (·.1) ∧ b ∉ (A.map N).flatten
  have hSB : ∀ b, Fz X w' N ε'.s b → SB b := fun b hb => by
    have hnl : b ∉ locs.map (·.1) := fun hm => by
      obtain ⟨i, c, hc, hbi⟩ := hlocN b hm
      obtain ⟨blk', hbk', _⟩ := hbox' i c hc
      exact hb.2.1 ⟨i, blk', hbk', hbi⟩
    refine ⟨?_, hb.1, hnl, fun hm => ?_⟩
    · rcases hb.2.2 with h | h | h
      · exact .inl h
      · have h : b ∈ locs.map (·.1) ++ La ++ Le.flatten := h
        rw [List.append_assoc] at h
        exact .inr (.inl ((List.mem_append.1 h).resolve_left hnl))
      · exact .inr (.inr h)
    · obtain ⟨id, hid, hbN⟩ := hL0 b hm
      obtain ⟨blk, hbk⟩ := lA id hid
      exact hb.2.1 ⟨id, blk, hbk, hbN⟩
  have hxk : HxK ε' β (extB locs) (extS exts') := fun e c u he ⟨p1, p2, p3⟩ => by
    refine ⟨Nat.zero_le _, p2, fun blk hb => ?_⟩
    unfold extS at hb
    split at hb
    · rename_i c2 hc2
      cases hb
      have hlt : e < exts'.length := (List.getElem?_eq_some_iff.1 hc2).1
      have hll : exts'.length = exts.length := by have := congrArg List.length hel; simpa using this
      have hloc : locs[e]? = some (locs[e]'(by omega)) := List.getElem?_eq_getElem (by omega)
      obtain ⟨q1, _⟩ := hst'.ext e _ hloc
      obtain ⟨b, off, r1, r2⟩ := p3 _ he
      rw [q1] at r1
      exact ⟨b, off, hloc.trans r1, r2⟩
    · cases hb
  obtain ⟨-, k2⟩ := close1LK_spec (S' := SB) (β' := extB locs) (σ' := extS exts') hst' hxk hSB hallT h3 (fun id hid b hbN => by
    obtain ⟨blk, hbk⟩ := lB id hid
    obtain ⟨q1, q2, q3⟩ := hin id blk hbk (fun ds e => nbB id hid ds (by rw [hbk, e])) b hbN
    refine ⟨.inr q1, q2, q3, fun hm => ?_⟩
    obtain ⟨id2, hid2, hbN2⟩ := hL0 b hm
    obtain ⟨blk2, hbk2⟩ := lA id2 hid2
    exact hst'.disj id2 id _ _ hbk2 hbk (fun e => hdis id2 hid2 (e ▸ hid)) b hbN2 hbN)
  have hnd2 := hst'.nodups hA lA
  obtain ⟨L', hsub, hk⟩ := All3.wk (R := fun S p u L => Own1 S w' (extB locs) (extS exts') p u L) (fun p q u L hn h ho => wk1_own hn h ho) hnd2 h6 k2
  have hk := hk (fun b => (S b ∨ b ∈ La ++ Le.flatten ∨ w.heap.size ≤ b) ∧ b < w'.heap.size ∧ b ∉ locs.map (·.1) ++ L') (fun b hb => ⟨hb.1, hb.2.1, fun hm => (List.mem_append.1 hm).elim hb.2.2.1 fun h => hb.2.2.2 (hsub.mem h)⟩)
    (fun b hb hb' => by
      obtain ⟨q1, q2, q3⟩ := hL0in b hb
      exact ⟨.inr q1, q2, fun hm => (List.mem_append.1 hm).elim q3 hb'⟩)
  obtain ⟨u1, u2, L1, L2, e1, rfl, o1, o2⟩ := All3.split hk
  have hlq := All2.len h6
  have hxl : exts'.length = exts.length := by have := congrArg List.length hel; simpa using this
  have hu1 : u1.length = us'.length := by
    have m1 := All3.len o1
    have m2 := All3.len o2
    have m3 := congrArg List.length e1
    simp only [List.length_append, List.length_map, List.length_cons] at m2 m3
    omega
  obtain ⟨rfl, rfl⟩ := List.append_inj e1 hu1.symm
  obtain ⟨L3, L4, rfl, o3, o2⟩ := o2
  obtain ⟨gs', eg, o3⟩ := o3
  have eg : gs' = gs.toArray := by injection eg with eg; exact eg.symm
  subst eg
  rw [show gs.toArray.toList = gs by simp] at o3
  obtain ⟨vs2, Ls, e2, e3, n1, n2, n3⟩ := All3.aggs o2
  have hvs : vs2 = uss := (List.map_inj_right (fun a b h => by injection h)).1 e2.symm
  subst hvs
  subst e3
  have eL : locs.map (·.1) ++ (L1 ++ (L3 ++ Ls.flatten)) = locs.map (·.1) ++ (L1 ++ L3) ++ Ls.flatten := by simp only [List.append_assoc]
  refine ⟨L1, L3, Ls, by rw [n2, hxl], ?_, fun b hb => ?_, ?_, ?_, fun j p c M hj hc hM => ?_, ?_⟩
  · rw [← eL, List.nodup_append]
    exact ⟨hlocnd, hsub.nodup hnd2, fun x hx y hy e => (hL0in y (hsub.mem hy)).2.2 (e ▸ hx)⟩
  · obtain ⟨q1, q2, _⟩ := hL0in b (hsub.mem (by rw [List.append_assoc] at hb; exact hb))
    exact ⟨q1, q2⟩
  · have := own_oneOr o1
    rw [eL] at this
    exact this
  · rw [eL] at o3
    exact o3
  · have hjl : j < exts'.length := (List.getElem?_eq_some_iff.1 hc).1
    have hcj : cs[j]? = some (cs[j]'(by omega)) := by simp [hcl, ← hxl, hjl]
    have hvj : vs2[j]? = some (vs2[j]'(by omega)) := by simp [n1, hjl]
    obtain ⟨p', q1, cur, E0, q2, q3, q4, q5⟩ := hul2' j _ _ hcj hvj
    rw [hj] at q1; cases q1
    have q6 := n3 j c _ M hc hvj hM
    have hcl2 : c.length = (cs[j]'(by omega)).length := by rw [← q4]; exact All3.len q6
    rw [eL] at q6
    exact ⟨cur, E0, _, q2, by rw [hcl2]; exact q3, fun i u hi => q5 i u hi, q6⟩
  · obtain ⟨f1, f2, f3, f4, f5, f6⟩ := hst'.frm
    exact ⟨f1, f2, f3, f4, f5, f6⟩
end
end Go.Px
