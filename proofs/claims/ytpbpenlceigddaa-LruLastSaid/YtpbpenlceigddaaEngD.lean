/- Proved: rules on blocks of 64 bytes, on lists in memory, and small facts on numbers; each rule's conditions stand in its own statement. -/
import Derived.Test.YtpbpenlceigddaaEngB
import Derived.Test.YtpbpenlceigddaaEngC
import Derived.ChangeKeysEq
import Derived.Laws.StructEq
namespace Go.Proofs.Ytpbpenlceigddaa.Eng
open Go Go.RowKit

/-! ### Numbers -/
theorem wi_i64 {x : Int} (h0 : -9223372036854775808 ≤ x) (h1 : x ≤ 9223372036854775807) : IntKind.i64.wrap x = x := by
  simp only [IntKind.wrap, IntKind.signed, IntKind.bits]
  simp
  split <;> omega
theorem wi_u64 {x : Int} (h0 : 0 ≤ x) (h1 : x ≤ 18446744073709551615) : IntKind.u64.wrap x = x := by
  simp only [IntKind.wrap, IntKind.signed, IntKind.bits]
  simp
  omega
theorem wi_u8 {x : Int} (h0 : 0 ≤ x) (h1 : x ≤ 255) : IntKind.u8.wrap x = x := by
  simp only [IntKind.wrap, IntKind.signed, IntKind.bits]
  simp
  omega
theorem wi_u16 {x : Int} (h0 : 0 ≤ x) (h1 : x ≤ 65535) : IntKind.u16.wrap x = x := by
  simp only [IntKind.wrap, IntKind.signed, IntKind.bits]
  simp
  omega
theorem wi_u32 {x : Int} (h0 : 0 ≤ x) (h1 : x ≤ 4294967295) : IntKind.u32.wrap x = x := by
  simp only [IntKind.wrap, IntKind.signed, IntKind.bits]
  simp
  omega

section
variable {R : Regs} {a b c d e f : Operand} {u v w x y z : Value}
theorem ev1 (ha : ev R a = u) : #[a].toList.map (ev R) = [u] := by simp [ha]
theorem ev2 (ha : ev R a = u) (hb : ev R b = v) : #[a, b].toList.map (ev R) = [u, v] := by simp [ha, hb]
theorem ev3 (ha : ev R a = u) (hb : ev R b = v) (hc : ev R c = w) : #[a, b, c].toList.map (ev R) = [u, v, w] := by simp [ha, hb, hc]
theorem ev4 (ha : ev R a = u) (hb : ev R b = v) (hc : ev R c = w) (hd : ev R d = x) : #[a, b, c, d].toList.map (ev R) = [u, v, w, x] := by simp [ha, hb, hc, hd]
theorem ev5 (ha : ev R a = u) (hb : ev R b = v) (hc : ev R c = w) (hd : ev R d = x) (he : ev R e = y) : #[a, b, c, d, e].toList.map (ev R) = [u, v, w, x, y] := by simp [ha, hb, hc, hd, he]
end

theorem ie {k : IntKind} {a b : Int} (h : a = b) : Value.int k a = Value.int k b := by rw [h]

/-! ### A block of 64 bytes -/
abbrev Blk := Vector UInt8 64
def bv (x : Blk) : Array Value := (x.toArray.map fun b => Value.int .u8 (b.toNat : Int))

theorem bv_size (x : Blk) : (bv x).size = 64 := by simp [bv]
theorem bv_get (x : Blk) (i : Nat) (h : i < 64) : (bv x)[i]? = some (.int .u8 ((x[i]).toNat : Int)) := by simp [bv, h]
theorem bv_set (x : Blk) (i : Nat) (h : i < 64) (b : UInt8) : (bv x).setIfInBounds i (.int .u8 (b.toNat : Int)) = bv (x.set i b h) := by
  simp only [bv, Vector.toArray_set, Array.map_set]
  rw [Array.setIfInBounds, dif_pos (by simp; omega)]
theorem bv_one (x : Blk) : ∀ u ∈ (bv x).toList, u.oneCell' = true := by
  intro u hu
  simp [bv] at hu
  obtain ⟨b, _, rfl⟩ := hu
  rfl
theorem bv_inj {x y : Blk} (h : bv x = bv y) : x = y := by
  apply Vector.ext
  intro i hi
  have h1 := bv_get x i hi
  rw [h, bv_get y i hi] at h1
  simp at h1
  exact UInt8.toNat_inj.1 (by omega)
theorem u8_inj {p q : UInt8} : ((p.toNat : Int) = (q.toNat : Int)) ↔ p = q :=
  ⟨fun h => UInt8.toNat_inj.1 (by omega), fun h => by rw [h]⟩

section
variable {P : Program} {n : Nat} {w0 : World} {S : Nat → Prop} {Q : Exit → Regs → Hp → Prop} {R : Regs} {H : Hp}
variable {dst : Option Tmp} {ty : TypeId} {pos : String} {after : Array Edge} {gd : Option (Nat × Bool)}

theorem y_xorB {xt yt : TypeId} {x y : Operand} {p q : UInt8} (hx : ev R x = .int .u8 (p.toNat : Int)) (hy : ev R y = .int .u8 (q.toNat : Int)) :
    Yields P w0 S H ⟨dst, .binOp .xor xt x y yt, ty, pos, after, gd⟩ R (.int .u8 ((p ^^^ q).toNat : Int)) := by
  have := y_xor8 (P := P) (w0 := w0) (S := S) (H := H) (dst := dst) (ty := ty) (pos := pos) (after := after) (gd := gd) (xt := xt) (yt := yt) hx hy
  have e : IntKind.u8.wrap ((BitVec.ofInt 8 (p.toNat : Int) ^^^ BitVec.ofInt 8 (q.toNat : Int)).toNat : Int) = ((p ^^^ q).toNat : Int) := by
    have h1 : BitVec.ofInt 8 (p.toNat : Int) = p.toBitVec := by
      apply BitVec.eq_of_toNat_eq; simp
    have h2 : BitVec.ofInt 8 (q.toNat : Int) = q.toBitVec := by
      apply BitVec.eq_of_toNat_eq; simp
    rw [h1, h2]
    have h3 : (p.toBitVec ^^^ q.toBitVec) = (p ^^^ q).toBitVec := rfl
    rw [h3]
    have := (p ^^^ q).toNat_lt
    have h4 : (p ^^^ q).toBitVec.toNat = (p ^^^ q).toNat := rfl
    rw [h4, wi_u8 (by omega) (by omega)]
  rw [e] at this
  exact this

theorem y_eqlB8 {xt yt : TypeId} {x y : Operand} {p q : UInt8} (hx : ev R x = .int .u8 (p.toNat : Int)) (hy : ev R y = .int .u8 (q.toNat : Int)) :
    Yields P w0 S H ⟨dst, .binOp .eql xt x y yt, ty, pos, after, gd⟩ R (.bool (decide (p = q))) :=
  y_eql hx hy (decide_eq_decide.2 u8_inj)
theorem y_neqB8 {xt yt : TypeId} {x y : Operand} {p q : UInt8} (hx : ev R x = .int .u8 (p.toNat : Int)) (hy : ev R y = .int .u8 (q.toNat : Int)) :
    Yields P w0 S H ⟨dst, .binOp .neq xt x y yt, ty, pos, after, gd⟩ R (.bool (decide (p ≠ q))) :=
  y_neq hx hy (decide_eq_decide.2 (not_congr u8_inj))

theorem run_equal_blk {t e : TypeId} {it : TypeInfo} (hu : P.underlying t = some (.array 64 e)) (he : P.underlying e = some (.int .u8)) (hi : P.info? e = some it) (hs : it.size = 1) (x y : Blk) (w : World) :
    (Op.equal t (.agg (bv x)) (.agg (bv y))).run P w = .ok (decide (x = y)) w := by
  have e0 : Op.equal t (.agg (bv x)) (.agg (bv y)) = Op.equalIn (9999 + 1) t (.agg (bv x)) (.agg (bv y)) := rfl
  have hc : P.cellsOf e = 1 := by simp [Program.cellsOf, hi, hs]
  have hagg : (isAgg e).run P w = .ok false w := by
    unfold isAgg
    rw [Sem.run_bind, run_underlying he w]
    simp
  have hpart : ∀ (z : Blk) (i : Nat) (h : i < 64), (part e (bv z) i).run P w = .ok (.int .u8 ((z[i]).toNat : Int)) w := by
    intro z i h
    simp [part, hagg, bv_get z i h]
  have key : ∀ l : List Nat, (∀ i ∈ l, i < 64) → (Op.eqItems 9999 e 1 (bv x) (bv y) l).run P w = .ok (decide (∀ i, i ∈ l → x[i]? = y[i]?)) w := by
    intro l
    induction l with
    | nil => intro _; simp [Op.eqItems]
    | cons i l ih =>
      intro h
      have hi := h i (by simp)
      have := ih fun j hj => h j (by simp [hj])
      have e1 : (9999 : Nat) = 9998 + 1 := rfl
      simp only [Op.eqItems, Sem.run_bind, Nat.mul_one, hpart x i hi, hpart y i hi, Result.andThen_ok]
      rw [e1, run_equalIn_int w 9998 e .u8 .u8 _ _ he, Result.andThen_ok]
      by_cases hxy : x[i] = y[i]
      · have hb : (((x[i]).toNat : Int) == ((y[i]).toNat : Int)) = true := by simp [hxy]
        rw [hb]
        simp only [Bool.not_true, Bool.false_eq_true, if_false]
        rw [e1] at this
        rw [this]
        congr 1
        simp [hi, hxy]
      · have hb : (((x[i]).toNat : Int) == ((y[i]).toNat : Int)) = false := by simp [u8_inj, hxy]
        rw [hb]
        simp [hi, hxy]
  rw [e0, run_equalIn_array w 9999 _ _ hu hi, hc, key _ (by simp)]
  congr 1
  apply decide_eq_decide.2
  constructor
  · intro h
    apply Vector.ext
    intro i hi
    have := h i (List.mem_range.2 hi)
    simpa [hi] using this
  · rintro rfl _ _; rfl

/-- What a program's rows say of the type of blocks. -/
structure BlkType (P : Program) (t e : TypeId) : Prop where
  hu : P.underlying t = some (.array 64 e)
  he : P.underlying e = some (.int .u8)
  hs : (P.info? t).map (·.size) = some 64
  hse : (P.info? e).map (·.size) = some 1
  hg : P.eqGuardType P.depth t = false

theorem y_eqlV {t e : TypeId} (T : BlkType P t e) {yt : TypeId} {x y : Operand} {p q : Blk} (hx : ev R x = .agg (bv p)) (hy : ev R y = .agg (bv q)) :
    Yields P w0 S H ⟨dst, .binOp .eql t x y yt, ty, pos, after, gd⟩ R (.bool (decide (p = q))) :=
  y_val fun w => by
    obtain ⟨it, hit, hsz⟩ : ∃ it, P.info? e = some it ∧ it.size = 1 := by
      have := T.hse
      cases h : P.info? e with
      | none => simp [h] at this
      | some it => exact ⟨it, rfl, by simpa [h] using this⟩
    simp only [execOp, hx, hy, Sem.run_bind, run_eqGuard_agg w .eql t x y _ _ T.hg, Result.andThen_ok]
    have e1 : binOp .eql t (.agg (bv p)) (.agg (bv q)) = (do pure (Value.bool (← Op.equal t (.agg (bv p)) (.agg (bv q)))) : Sem Value) := rfl
    rw [e1]
    simp only [Sem.run_bind, run_equal_blk T.hu T.he hit hsz p q w, Result.andThen_ok, Sem.run_pure]
theorem y_neqV {t e : TypeId} (T : BlkType P t e) {yt : TypeId} {x y : Operand} {p q : Blk} (hx : ev R x = .agg (bv p)) (hy : ev R y = .agg (bv q)) :
    Yields P w0 S H ⟨dst, .binOp .neq t x y yt, ty, pos, after, gd⟩ R (.bool (decide (p ≠ q))) :=
  y_val fun w => by
    obtain ⟨it, hit, hsz⟩ : ∃ it, P.info? e = some it ∧ it.size = 1 := by
      have := T.hse
      cases h : P.info? e with
      | none => simp [h] at this
      | some it => exact ⟨it, rfl, by simpa [h] using this⟩
    simp only [execOp, hx, hy, Sem.run_bind, run_eqGuard_agg w .neq t x y _ _ T.hg, Result.andThen_ok]
    have e1 : binOp .neq t (.agg (bv p)) (.agg (bv q)) = (do pure (Value.bool (!(← Op.equal t (.agg (bv p)) (.agg (bv q))))) : Sem Value) := rfl
    rw [e1]
    simp only [Sem.run_bind, run_equal_blk T.hu T.he hit hsz p q w, Result.andThen_ok, Sem.run_pure]
    simp

/-! ### Blocks in memory -/
theorem Rd.whole {k g : Nat} {c : Array Value} {t : TypeId} {fr : Nat × Nat} (hi : H[k]? = some (g, .cells c t fr)) : Rd w0 S H g 0 c.toList :=
  Rd.blk (List.mem_of_getElem? hi) fun j v hj => by simpa using hj
theorem Rd.one {k g i : Nat} {c : Array Value} {t : TypeId} {fr : Nat × Nat} {v : Value} (hi : H[k]? = some (g, .cells c t fr)) (hc : c[i]? = some v) : Rd w0 S H g i [v] :=
  Rd.blk (List.mem_of_getElem? hi) fun j u hj => by
    cases j with
    | zero => simp at hj; subst hj; exact hc
    | succ j => simp at hj

theorem y_loadB {t e : TypeId} (T : BlkType P t e) {x : Operand} {b o : Nat} {p : Blk} (hx : ev R x = .pointer (some ⟨b, o, none⟩)) (hr : Rd w0 S H b o (bv p).toList) :
    Yields P w0 S H ⟨dst, .load t x, ty, pos, after, gd⟩ R (.agg (bv p)) := by
  have := y_loadN (P := P) (dst := dst) (ty := ty) (pos := pos) (after := after) (gd := gd) hx T.hu rfl (by rw [T.hs]; simp [bv_size]) hr
  simpa using this

theorem loadB {t e : TypeId} (T : BlkType P t e) {b o : Nat} {p : Blk} {w : World} (hr : w.rangeAt b o (bv p).toList) : (loadVar t ⟨b, o, none⟩).run P w = .ok (.agg (bv p)) w := by
  have := run_loadVar_mid (P := P) w b o t (bv p).toList _ hr T.hu rfl (by rw [T.hs]; simp [bv_size])
  simpa using this

theorem o_storeB {t e : TypeId} (T : BlkType P t e) {ops : Array Oper} {rest : List Oper} {x y : Operand} {g : Nat} {p q : Blk} {et : TypeId} (i : Nat) {H' : Hp}
    (hx : ev R x = .pointer (some ⟨g, 0, none⟩)) (hy : ev R y = .agg (bv q)) (hi : H[i]? = some (g, .cells (bv p) et (0, 0))) (hH : H.set i (g, .cells (bv q) et (0, 0)) = H')
    (h : opsG P n w0 S ops Q rest R H') : opsG P n w0 S ops Q (⟨none, .store t x y, ty, pos, after, none⟩ :: rest) R H := by
  subst hH
  refine o_store (v := .agg (bv q)) i (bv q) hx hy hi (by rw [T.hs]; simp [Value.cells, bv_size]) (by simp [Value.cells, bv_size]) (bv_one q) ?_ h
  simp [Value.cells, bv_size, List.drop_eq_nil_of_le]

theorem o_storeB1 {t : TypeId} {ops : Array Oper} {rest : List Oper} {x y : Operand} {g off : Nat} {p : Blk} {b : UInt8} {et : TypeId} (i : Nat) (ho : off < 64) {H' : Hp} (hs : (P.info? t).map (·.size) = some 1)
    (hx : ev R x = .pointer (some ⟨g, off, none⟩)) (hy : ev R y = .int .u8 (b.toNat : Int)) (hi : H[i]? = some (g, .cells (bv p) et (0, 0))) (hH : H.set i (g, .cells (bv (p.set off b ho)) et (0, 0)) = H')
    (h : opsG P n w0 S ops Q rest R H') : opsG P n w0 S ops Q (⟨none, .store t x y, ty, pos, after, none⟩ :: rest) R H := by
  subst hH
  refine o_store (v := .int .u8 (b.toNat : Int)) i (bv (p.set off b ho)) hx hy hi (by rw [hs]; rfl) (by simp [Value.cells, bv_size]; omega) (by intro u hu; simp [Value.cells] at hu; subst hu; rfl) ?_ h
  rw [← bv_set p off ho b]
  simp only [Value.cells, Array.toList_setIfInBounds]
  have hl : off < (bv p).toList.length := by simp [bv_size]; exact ho
  rw [List.set_eq_take_append_cons_drop, if_pos hl]
  simp

theorem o_store1 {t : TypeId} {ops : Array Oper} {rest : List Oper} {x y : Operand} {g : Nat} {u v : Value} {et : TypeId} (i : Nat) {H' : Hp}
    (hx : ev R x = .pointer (some ⟨g, 0, none⟩)) (hy : ev R y = v) (hv : v.cells = #[v]) (hs : (P.info? t).map (·.size) = some 1) (h1 : v.oneCell' = true) (hi : H[i]? = some (g, .cells #[u] et (0, 0))) (hH : H.set i (g, .cells #[v] et (0, 0)) = H')
    (h : opsG P n w0 S ops Q rest R H') : opsG P n w0 S ops Q (⟨none, .store t x y, ty, pos, after, none⟩ :: rest) R H := by
  subst hH
  refine o_store (v := v) i #[v] hx hy hi (by rw [hs, hv]; rfl) (by rw [hv]; simp) (by rw [hv]; intro u hu; simp at hu; subst hu; exact h1) ?_ h
  rw [hv]; simp
end
end Go.Proofs.Ytpbpenlceigddaa.Eng
