/- Proved: for each kind of operation, what it yields and what it leaves of memory; each rule's conditions stand in its own statement. -/
import Derived.Test.YtpbpenlceigddaaEngA
import Derived.Deep.MidRow
import Derived.Laws.CopyRow
namespace Go.Proofs.Ytpbpenlceigddaa.Eng
open Go Go.RowKit

section
variable {P : Program} {n : Nat} {w0 : World} {S : Nat → Prop} {Q : Exit → Regs → Hp → Prop} {R : Regs} {H : Hp}
variable {dst : Option Tmp} {ty : TypeId} {pos : String} {after : Array Edge} {gd : Option (Nat × Bool)}

/-! ### Reading memory -/
def Rd (w0 : World) (S : Nat → Prop) (H : Hp) (b o : Nat) (cs : List Value) : Prop := ∀ w, St w0 S H w → w.rangeAt b o cs

theorem Rd.blk {b o : Nat} {c : Array Value} {t : TypeId} {fr : Nat × Nat} {cs : List Value} (hi : (b, Obj.cells c t fr) ∈ H) (hcs : ∀ j v, cs[j]? = some v → c[o + j]? = some v) : Rd w0 S H b o cs := by
  intro w hw j v hj
  have h1 := hw.at_ _ hi
  simp only [World.cell?, h1]
  exact hcs j v hj

theorem Rd.old {b o : Nat} {cs : List Value} (h : w0.rangeAt b o cs) (hS : ¬ S b) : Rd w0 S H b o cs := by
  intro w hw j v hj
  have h1 := h j v hj
  have hlt : b < w0.heap.size := by
    unfold World.cell? at h1
    rcases Nat.lt_or_ge b w0.heap.size with x | x
    · exact x
    · rw [show (⟨b, o + j, none⟩ : Addr).block = b from rfl, Array.getElem?_eq_none x] at h1; simp at h1
  have := hw.fr b hlt hS
  unfold World.cell? at h1 ⊢
  rw [show (⟨b, o + j, none⟩ : Addr).block = b from rfl] at h1 ⊢
  rw [this]; exact h1

/-! ### Values -/
theorem y_val {o : Oper} {v : Value} (h : ∀ w, (execOp (ev R) o).run P w = .ok (.value v) w) : Yields P w0 S H o R v := by
  intro w _
  rw [h w]
  exact ⟨rfl, rfl⟩

theorem y_sem {o : Oper} {v : Value} (h : ∀ w, St w0 S H w → (execOp (ev R) o).run P w = .ok (.value v) w) : Yields P w0 S H o R v := by
  intro w hw
  rw [h w hw]
  exact ⟨rfl, rfl⟩

theorem y_move {x : Operand} {v : Value} (hx : ev R x = v) : Yields P w0 S H ⟨dst, .move x, ty, pos, after, gd⟩ R v :=
  y_val fun w => by simp [execOp, hx]
theorem y_assign {x : Operand} {v : Value} (hx : ev R x = v) : Yields P w0 S H ⟨dst, .assign x, ty, pos, after, gd⟩ R v :=
  y_val fun w => by simp [execOp, hx]
theorem y_pick {c x y : Operand} {b : Bool} {v : Value} (hc : ev R c = .bool b) (hx : (if b then ev R x else ev R y) = v) : Yields P w0 S H ⟨dst, .pick c x y, ty, pos, after, gd⟩ R v :=
  y_val fun w => by simp [execOp, hc, asBool, hx]
theorem y_extract {x : Operand} {i : Nat} {vs : Array Value} {v : Value} (hx : ev R x = .tuple vs) (hi : vs[i]? = some v) : Yields P w0 S H ⟨dst, .extract x i, ty, pos, after, gd⟩ R v :=
  y_val fun w => by simp [execOp, hx, Instr.extract, hi]

theorem eqGuard_int (op : BinOp) (t : TypeId) (x y : Operand) (k k' : IntKind) (a b : Int) (w : World) : (eqGuard op t x y (.int k a) (.int k' b)).run P w = .ok () w := by
  unfold eqGuard
  cases op <;> simp

theorem y_int {op : BinOp} {xt yt : TypeId} {x y : Operand} {k : IntKind} {a b : Int} {v : Value} (hx : ev R x = .int k a) (hy : ev R y = .int k b)
    (h : ∀ w, (binOp op xt (.int k a) (.int k b)).run P w = .ok v w) : Yields P w0 S H ⟨dst, .binOp op xt x y yt, ty, pos, after, gd⟩ R v :=
  y_val fun w => by simp [execOp, hx, hy, eqGuard_int, h w]

theorem y_add {xt yt : TypeId} {x y : Operand} {k : IntKind} {a b c : Int} (hx : ev R x = .int k a) (hy : ev R y = .int k b) (h : k.wrap (a + b) = c) : Yields P w0 S H ⟨dst, .binOp .add xt x y yt, ty, pos, after, gd⟩ R (.int k c) :=
  y_int hx hy fun w => by simp [binOp, Op.intArith, h]
theorem y_sub {xt yt : TypeId} {x y : Operand} {k : IntKind} {a b c : Int} (hx : ev R x = .int k a) (hy : ev R y = .int k b) (h : k.wrap (a - b) = c) : Yields P w0 S H ⟨dst, .binOp .sub xt x y yt, ty, pos, after, gd⟩ R (.int k c) :=
  y_int hx hy fun w => by simp [binOp, Op.intArith, h]
theorem y_mul {xt yt : TypeId} {x y : Operand} {k : IntKind} {a b c : Int} (hx : ev R x = .int k a) (hy : ev R y = .int k b) (h : k.wrap (a * b) = c) : Yields P w0 S H ⟨dst, .binOp .mul xt x y yt, ty, pos, after, gd⟩ R (.int k c) :=
  y_int hx hy fun w => by simp [binOp, Op.intArith, h]
theorem y_rem {xt yt : TypeId} {x y : Operand} {k : IntKind} {a b c : Int} (hx : ev R x = .int k a) (hy : ev R y = .int k b) (hb : b ≠ 0) (h : a.tmod b = c) : Yields P w0 S H ⟨dst, .binOp .rem xt x y yt, ty, pos, after, gd⟩ R (.int k c) :=
  y_int hx hy fun w => by simp [binOp, Op.intDiv, hb, h]
theorem y_xor8 {xt yt : TypeId} {x y : Operand} {a b : Int} (hx : ev R x = .int .u8 a) (hy : ev R y = .int .u8 b) : Yields P w0 S H ⟨dst, .binOp .xor xt x y yt, ty, pos, after, gd⟩ R (.int .u8 (IntKind.u8.wrap (BitVec.ofInt 8 a ^^^ BitVec.ofInt 8 b).toNat)) :=
  y_int hx hy fun w => by simp [binOp, Op.intBits, IntKind.bits, BitVec.toNat_ofInt]; rfl

theorem y_cmp {op : BinOp} {xt yt : TypeId} {x y : Operand} {k : IntKind} {a b : Int} {c : Bool} (hx : ev R x = .int k a) (hy : ev R y = .int k b)
    (h : ∀ w, (Op.intCmp op a b).run P w = .ok (.bool c) w) (hop : op = .eql ∨ op = .neq ∨ op = .lss ∨ op = .leq ∨ op = .gtr ∨ op = .geq) : Yields P w0 S H ⟨dst, .binOp op xt x y yt, ty, pos, after, gd⟩ R (.bool c) :=
  y_int hx hy fun w => by rcases hop with e | e | e | e | e | e <;> subst e <;> simpa [binOp] using h w
theorem y_lss {xt yt : TypeId} {x y : Operand} {k : IntKind} {a b : Int} {c : Bool} (hx : ev R x = .int k a) (hy : ev R y = .int k b) (h : decide (a < b) = c) : Yields P w0 S H ⟨dst, .binOp .lss xt x y yt, ty, pos, after, gd⟩ R (.bool c) :=
  y_cmp hx hy (fun w => by simp [Op.intCmp, ← h]) (by simp)
theorem y_leq {xt yt : TypeId} {x y : Operand} {k : IntKind} {a b : Int} {c : Bool} (hx : ev R x = .int k a) (hy : ev R y = .int k b) (h : decide (a ≤ b) = c) : Yields P w0 S H ⟨dst, .binOp .leq xt x y yt, ty, pos, after, gd⟩ R (.bool c) :=
  y_cmp hx hy (fun w => by simp [Op.intCmp, ← h]) (by simp)
theorem y_gtr {xt yt : TypeId} {x y : Operand} {k : IntKind} {a b : Int} {c : Bool} (hx : ev R x = .int k a) (hy : ev R y = .int k b) (h : decide (b < a) = c) : Yields P w0 S H ⟨dst, .binOp .gtr xt x y yt, ty, pos, after, gd⟩ R (.bool c) :=
  y_cmp hx hy (fun w => by simp [Op.intCmp, ← h]) (by simp)
theorem y_geq {xt yt : TypeId} {x y : Operand} {k : IntKind} {a b : Int} {c : Bool} (hx : ev R x = .int k a) (hy : ev R y = .int k b) (h : decide (b ≤ a) = c) : Yields P w0 S H ⟨dst, .binOp .geq xt x y yt, ty, pos, after, gd⟩ R (.bool c) :=
  y_cmp hx hy (fun w => by simp [Op.intCmp, ← h]) (by simp)
theorem y_eql {xt yt : TypeId} {x y : Operand} {k : IntKind} {a b : Int} {c : Bool} (hx : ev R x = .int k a) (hy : ev R y = .int k b) (h : decide (a = b) = c) : Yields P w0 S H ⟨dst, .binOp .eql xt x y yt, ty, pos, after, gd⟩ R (.bool c) :=
  y_cmp hx hy (fun w => by rw [← h]; simp [Op.intCmp]; rfl) (by simp)
theorem y_neq {xt yt : TypeId} {x y : Operand} {k : IntKind} {a b : Int} {c : Bool} (hx : ev R x = .int k a) (hy : ev R y = .int k b) (h : decide (a ≠ b) = c) : Yields P w0 S H ⟨dst, .binOp .neq xt x y yt, ty, pos, after, gd⟩ R (.bool c) :=
  y_cmp hx hy (fun w => by rw [← h]; simp [Op.intCmp]; rfl) (by simp)

theorem run_equal_bool {t : TypeId} (hu : P.underlying t = some .bool) (a b : Bool) (w : World) : (Op.equal t (.bool a) (.bool b)).run P w = .ok (a == b) w := by
  have e : Op.equal t (.bool a) (.bool b) = Op.equalIn (9999 + 1) t (.bool a) (.bool b) := rfl
  rw [e, Op.equalIn]
  simp [run_underlying hu]

theorem y_eqlB {xt yt : TypeId} {x y : Operand} {a b c : Bool} (hx : ev R x = .bool a) (hy : ev R y = .bool b) (hu : P.underlying xt = some .bool) (h : (a == b) = c) : Yields P w0 S H ⟨dst, .binOp .eql xt x y yt, ty, pos, after, gd⟩ R (.bool c) :=
  y_val fun w => by subst h; simp [execOp, hx, hy, eqGuard, binOp, run_equal_bool hu]
theorem y_neqB {xt yt : TypeId} {x y : Operand} {a b c : Bool} (hx : ev R x = .bool a) (hy : ev R y = .bool b) (hu : P.underlying xt = some .bool) (h : (a != b) = c) : Yields P w0 S H ⟨dst, .binOp .neq xt x y yt, ty, pos, after, gd⟩ R (.bool c) :=
  y_val fun w => by subst h; simp [execOp, hx, hy, eqGuard, binOp, run_equal_bool hu]; cases a <;> cases b <;> rfl

theorem y_not {xt : TypeId} {x : Operand} {b c : Bool} (hx : ev R x = .bool b) (h : (!b) = c) : Yields P w0 S H ⟨dst, .unOp .not xt x, ty, pos, after, gd⟩ R (.bool c) :=
  y_val fun w => by simp [execOp, hx, Op.unary, h]
theorem y_neg {xt : TypeId} {x : Operand} {k : IntKind} {a c : Int} (hx : ev R x = .int k a) (h : k.wrap (0 - a) = c) : Yields P w0 S H ⟨dst, .unOp .neg xt x, ty, pos, after, gd⟩ R (.int k c) :=
  y_val fun w => by simp [execOp, hx, Op.unary, Op.intArith, ← h]

theorem y_conv {src d : TypeId} {x : Operand} {k k' : IntKind} {a c : Int} (hx : ev R x = .int k a) (hs : P.underlying src = some (.int k)) (hu : P.underlying d = some (.int k')) (h : k'.wrap a = c) : Yields P w0 S H ⟨dst, .convert src d x, ty, pos, after, gd⟩ R (.int k' c) :=
  y_val fun w => by simp [execOp, hx, convert, run_underlying hu, run_underlying hs, Conv.intToInt, h]

theorem y_len {x : Operand} {t e : TypeId} {a : Option Addr} {l c : Nat} {r : TypeId} (hx : ev R x = .slice a l c) (hu : P.underlying t = some (.slice e)) : Yields P w0 S H ⟨dst, .call { callee := .builtin .len, args := #[x], argTypes := #[t] }, r, pos, after, gd⟩ R (.int .i64 l) :=
  y_val fun w => by
    simp [execOp, resolve, hx, invoke, builtin, Builtin.len_, run_underlying hu, goInt]

theorem y_cap {x : Operand} {t e : TypeId} {a : Option Addr} {l c : Nat} {r : TypeId} (hx : ev R x = .slice a l c) (hu : P.underlying t = some (.slice e)) : Yields P w0 S H ⟨dst, .call { callee := .builtin .cap, args := #[x], argTypes := #[t] }, r, pos, after, gd⟩ R (.int .i64 c) :=
  y_val fun w => by
    simp [execOp, resolve, hx, invoke, builtin, Builtin.cap_, run_underlying hu, goInt]

/-! ### Loads, places -/
theorem y_loadN {x : Operand} {t : TypeId} {b o : Nat} {cs : List Value} {d : TypeDesc} (hx : ev R x = .pointer (some ⟨b, o, none⟩)) (hu : P.underlying t = some d) (hd : d.isRow = true)
    (hi : (P.info? t).map (·.size) = some cs.length) (hr : Rd w0 S H b o cs) : Yields P w0 S H ⟨dst, .load t x, ty, pos, after, gd⟩ R (.agg cs.toArray) :=
  y_sem fun w hw => by
    simp only [execOp, hx, Sem.run_bind, run_loadAt_mid w b o t cs d (hr w hw) hu hd hi, Result.andThen_ok, Sem.run_pure]

theorem run_load1 {w : World} {t : TypeId} {a : Addr} {v : Value} {d : TypeDesc} (hu : P.underlying t = some d) (hd : d.isRow = false) (hc : w.cell? a = some v) : (loadVar t a).run P w = .ok v w := by
  have hagg : (isAgg t).run P w = .ok false w := by
    unfold isAgg
    rw [Sem.run_bind, run_underlying hu w]
    cases d <;> simp_all
  simp [loadVar, hagg, hc]

theorem y_load {x : Operand} {t : TypeId} {b o : Nat} {v : Value} {d : TypeDesc} (hx : ev R x = .pointer (some ⟨b, o, none⟩)) (hu : P.underlying t = some d) (hd : d.isRow = false)
    (hr : Rd w0 S H b o [v]) : Yields P w0 S H ⟨dst, .load t x, ty, pos, after, gd⟩ R v :=
  y_sem fun w hw => by
    have hc : w.cell? ⟨b, o, none⟩ = some v := hr w hw 0 v rfl
    simp only [execOp, hx, Instr.loadAt, Instr.sureAddr, Sem.run_bind, Sem.run_pure, Result.andThen_ok, run_load1 hu hd hc]

/-- The address of an element of an array in memory. -/
theorem y_ixArr {x i : Operand} {t e : TypeId} {len sz : Nat} {b o o' : Nat} {k : IntKind} {a : Int} (hx : ev R x = .pointer (some ⟨b, o, none⟩)) (hi : ev R i = .int k a) (hu : P.underlying t = some (.array len e))
    (hs : (P.info? e).map (·.size) = some sz) (h0 : 0 ≤ a) (hl : a < len) (ho : o + a.toNat * sz = o') : Yields P w0 S H ⟨dst, .indexAddr t x i, ty, pos, after, gd⟩ R (.pointer (some ⟨b, o', none⟩)) :=
  y_val fun w => by
    obtain ⟨it, hit, rfl⟩ : ∃ it, P.info? e = some it ∧ it.size = sz := by
      cases h : P.info? e with
      | none => simp [h] at hs
      | some it => exact ⟨it, rfl, by simpa [h] using hs⟩
    have hc : 0 ≤ a ∧ a < (len : Int) := ⟨h0, hl⟩
    simp [execOp, hx, hi, Instr.indexAt, asIntOf, run_underlying hu, Instr.sureAddr, hc, sizeOf, typeInfo, hit, ho, Addr.add_mid]

/-- The address of a slice's element. -/
theorem y_ixSl {x i : Operand} {t e : TypeId} {len cap sz : Nat} {b o o' : Nat} {k : IntKind} {a : Int} (hx : ev R x = .slice (some ⟨b, o, none⟩) len cap) (hi : ev R i = .int k a) (hu : P.underlying t = some (.slice e))
    (hs : (P.info? e).map (·.size) = some sz) (h0 : 0 ≤ a) (hl : a < len) (ho : o + a.toNat * sz = o') : Yields P w0 S H ⟨dst, .indexAddr t x i, ty, pos, after, gd⟩ R (.pointer (some ⟨b, o', none⟩)) :=
  y_val fun w => by
    obtain ⟨it, hit, rfl⟩ : ∃ it, P.info? e = some it ∧ it.size = sz := by
      cases h : P.info? e with
      | none => simp [h] at hs
      | some it => exact ⟨it, rfl, by simpa [h] using hs⟩
    have hc : 0 ≤ a ∧ a < (len : Int) := ⟨h0, hl⟩
    simp [execOp, hx, hi, Instr.indexAt, asIntOf, run_underlying hu, hc, sizeOf, typeInfo, hit, ho, Addr.add_mid]

/-- An element of an array that is a value: one cell. -/
theorem y_ixVal {x i : Operand} {t e : TypeId} {len : Nat} {cs : Array Value} {k : IntKind} {a : Int} {d : TypeDesc} {v : Value} (hx : ev R x = .agg cs) (hi : ev R i = .int k a) (hu : P.underlying t = some (.array len e))
    (hs : (P.info? e).map (·.size) = some 1) (he : P.underlying e = some d) (hd : d.isRow = false) (h0 : 0 ≤ a) (hl : a < len) (hv : cs[a.toNat]? = some v) : Yields P w0 S H ⟨dst, .index t x i, ty, pos, after, gd⟩ R v :=
  y_val fun w => by
    obtain ⟨it, hit, hsz⟩ : ∃ it, P.info? e = some it ∧ it.size = 1 := by
      cases h : P.info? e with
      | none => simp [h] at hs
      | some it => exact ⟨it, rfl, by simpa [h] using hs⟩
    have hc : 0 ≤ a ∧ a < (len : Int) := ⟨h0, hl⟩
    have hagg : (isAgg e).run P w = .ok false w := by
      unfold isAgg
      rw [Sem.run_bind, run_underlying he w]
      cases d <;> simp_all
    simp [execOp, hx, hi, Instr.index, asIntOf, run_underlying hu, hc, sizeOf, typeInfo, hit, hsz, part, hagg, hv]

/-- Part of a slice. -/
theorem y_slice {x : Operand} {t e : TypeId} {len cap sz : Nat} {b o : Nat} {lo hi : Option Operand} {l h : Nat} (hx : ev R x = .slice (some ⟨b, o, none⟩) len cap) (hu : P.underlying t = some (.slice e))
    (hs : (P.info? e).map (·.size) = some sz) (hlo : match lo with | some q => ∃ k, ev R q = .int k (l : Int) | none => l = 0) (hhi : match hi with | some q => ∃ k, ev R q = .int k (h : Int) | none => h = len)
    (hlh : l ≤ h) (hc : h ≤ cap) :
    Yields P w0 S H ⟨dst, .slice t x lo hi none, ty, pos, after, gd⟩ R (.slice (some (if cap = l then ⟨b, o, none⟩ else ⟨b, o + l * sz, none⟩)) (h - l) (cap - l)) :=
  y_val fun w => by
    obtain ⟨it, hit, rfl⟩ : ∃ it, P.info? e = some it ∧ it.size = sz := by
      cases h : P.info? e with
      | none => simp [h] at hs
      | some it => exact ⟨it, rfl, by simpa [h] using hs⟩
    have key : (Instr.sliceAt t (.slice (some ⟨b, o, none⟩) len cap) (lo.map (ev R)) (hi.map (ev R)) none).run P w = .ok (.slice (some (if cap = l then ⟨b, o, none⟩ else ⟨b, o + l * it.size, none⟩)) (h - l) (cap - l)) w := by
      have q1 : (Instr.sliceBounds true len cap (lo.map (ev R)) (hi.map (ev R)) none).run P w = .ok (l, h, cap) w := by
        cases lo <;> cases hi <;> simp only at hlo hhi
        · subst hlo hhi
          simp [Instr.sliceBounds]
        · obtain ⟨k, hk⟩ := hhi
          subst hlo
          simp [Instr.sliceBounds, Instr.sliceBound, asIntOf, hk, hc]
        · obtain ⟨k, hk⟩ := hlo
          subst hhi
          simp [Instr.sliceBounds, Instr.sliceBound, asIntOf, hk, hlh]
        · obtain ⟨k, hk⟩ := hlo
          obtain ⟨k', hk'⟩ := hhi
          simp [Instr.sliceBounds, Instr.sliceBound, asIntOf, hk, hk', hc, hlh]
      simp only [Instr.sliceAt, Instr.slice, Sem.run_bind, run_underlying hu, Result.andThen_ok, q1]
      simp [sizeOf, typeInfo, hit, Addr.add_mid]
      split <;> rfl
    simp only [execOp, Sem.run_bind, hx, Option.map_none, key, Result.andThen_ok, Sem.run_pure]

/-! ### Calls that leave what is known -/
theorem St.of_below {w w' : World} (h : St w0 S H w) (hb : Below w.heap.size w w') : St w0 S H w' :=
  ⟨fun p hp => (hb.block _ (h.lt hp)).trans (h.at_ p hp), h.nd, h.own, hb.os.trans h.os, hb.tape.trans h.tape, hb.output.trans h.output, Nat.le_trans h.le hb.size,
   fun b hb' hs => (hb.block b (by have := h.le; omega)).trans (h.fr b hb' hs)⟩

/-- A function with a body. -/
def Bodied (P : Program) (f : FuncId) : Prop := ∃ fn, P.funcs[f]? = some fn ∧ (fn.name == "runtime.NumGoroutine") = false ∧ fn.body.isNone = false

theorem run_call {f : FuncId} {args : Array Operand} {at_ : Array TypeId} {vs : List Value} (hf : Bodied P f) (hv : args.toList.map (ev R) = vs) (w : World) :
    (execOp (ev R) ⟨dst, .call { callee := .value (.func f), args := args, argTypes := at_ }, ty, pos, after, gd⟩).run P w = .ok (.enter f vs.toArray) w := by
  obtain ⟨fn, h1, h2, h3⟩ := hf
  have hv' : args.map (ev R) = vs.toArray := by
    rw [← hv, ← Array.toList_map]
  have h2' : ¬ fn.name = "runtime.NumGoroutine" := by simpa using h2
  have h3' : ¬ fn.body = none := fun e => by rw [e] at h3; cases h3
  simp [execOp, resolve, ev, Deferred.ofValue, invoke, callFunc, h1, h2', h3', hv']

theorem y_call {f : FuncId} {args : Array Operand} {at_ : Array TypeId} {vs : List Value} {v : Value} (hf : Bodied P f) (hv : args.toList.map (ev R) = vs)
    (hc : ∀ w, St w0 S H w → Calls P f vs.toArray w fun e w' => e = .returned v ∧ Below w.heap.size w w') :
    Yields P w0 S H ⟨dst, .call { callee := .value (.func f), args := args, argTypes := at_ }, ty, pos, after, gd⟩ R v := by
  intro w hw
  rw [run_call hf hv w]
  exact ⟨rfl, (hc w hw).mono fun e w' ⟨he, hb⟩ => ⟨he, hw.of_below hb⟩⟩

/-! ### New memory -/
theorem o_new {ops : Array Oper} {o : Oper} {rest : List Oper} {c : Array Value} {t : TypeId} {V : Nat → Value} (hg : o.guard = none) (hd : dstOk n o = true)
    (hr : ∀ w, St w0 S H w → (execOp (ev R) o).run P w = .ok (.value (V w.heap.size)) (w.alloc (.cells c t)))
    (h : ∀ g, opsG P n w0 S ops Q rest (put R o.dst (V g)) ((g, .cells c t (0, 0)) :: H)) : opsG P n w0 S ops Q (o :: rest) R H :=
  o_op hg hd fun w hw => ⟨_, _, _, hr w hw, hw.alloc _, h _⟩

theorem o_alloc {ops : Array Oper} {rest : List Oper} {d : Tmp} {e : TypeId} {z : Value} (hd : decide (d < n) = true) (hz : (P.info? e).map (·.zero) = some (some z))
    (h : ∀ g, opsG P n w0 S ops Q rest (upd R d (.pointer (some ⟨g, 0, none⟩))) ((g, .cells z.cells e (0, 0)) :: H)) :
    opsG P n w0 S ops Q (⟨some d, .alloc e, ty, pos, after, none⟩ :: rest) R H := by
  refine o_new (c := z.cells) (t := e) (V := fun g => .pointer (some ⟨g, 0, none⟩)) rfl hd (fun w _ => ?_) h
  cases hi : P.info? e with
  | none => simp [hi] at hz
  | some i =>
    have : i.zero = some z := by simpa [hi] using hz
    simp [execOp, Instr.alloc, zeroValue, typeInfo, hi, this, newVar, newRow]

theorem o_box {ops : Array Oper} {rest : List Oper} {d : Tmp} {e : TypeId} {x : Operand} {v : Value} (hd : decide (d < n) = true) (hx : ev R x = v)
    (h : ∀ g, opsG P n w0 S ops Q rest (upd R d (.pointer (some ⟨g, 0, none⟩))) ((g, .cells v.cells e (0, 0)) :: H)) :
    opsG P n w0 S ops Q (⟨some d, .box e x, ty, pos, after, none⟩ :: rest) R H :=
  o_new (c := v.cells) (t := e) (V := fun g => .pointer (some ⟨g, 0, none⟩)) rfl hd (fun w _ => by simp [execOp, hx, Instr.box, newVar, newRow]) h

/-! ### Stores into known blocks -/
theorem setRow_heap_other (w : World) (g : Nat) (c : Array Value) (k : Nat) (h : k ≠ g) : (w.setRow g c).heap[k]? = w.heap[k]? := setRow_other w g k c h

theorem run_store {w : World} {t : TypeId} {g off : Nat} {c : Array Value} {et : TypeId} {v : Value} (hg : w.heap[g]? = some (.cells c et (0, 0))) (hi : (P.info? t).map (·.size) = some v.cells.size)
    (ho : off + v.cells.size ≤ c.size) (h1 : ∀ u ∈ v.cells.toList, u.oneCell' = true) :
    (storeVar t ⟨g, off, none⟩ v).run P w = .ok () (w.setRow g (c.toList.take off ++ v.cells.toList ++ c.toList.drop (off + v.cells.size)).toArray) := by
  have hrun := run_storeCells_at (P := P) g off et v.cells.toList 0 c w hg (by simpa using ho) h1
  cases hq : P.info? t with
  | none => simp [hq] at hi
  | some i =>
    have hs : i.size = v.cells.size := by simpa [hq] using hi
    simp only [Nat.add_zero, Array.length_toList] at hrun
    simp [storeVar, sizeOf, typeInfo, hq, hs, hrun]

theorem o_store {ops : Array Oper} {rest : List Oper} {t : TypeId} {x y : Operand} {g off : Nat} {c : Array Value} {et : TypeId} {v : Value} (i : Nat) (c' : Array Value)
    (hx : ev R x = .pointer (some ⟨g, off, none⟩)) (hy : ev R y = v) (hi : H[i]? = some (g, .cells c et (0, 0))) (hs : (P.info? t).map (·.size) = some v.cells.size)
    (ho : off + v.cells.size ≤ c.size) (h1 : ∀ u ∈ v.cells.toList, u.oneCell' = true) (hc : c.toList.take off ++ v.cells.toList ++ c.toList.drop (off + v.cells.size) = c'.toList)
    (h : opsG P n w0 S ops Q rest R (H.set i (g, .cells c' et (0, 0)))) :
    opsG P n w0 S ops Q (⟨none, .store t x y, ty, pos, after, none⟩ :: rest) R H := by
  refine o_unit rfl rfl fun w hw => ?_
  have hg := hw.at_ _ (List.mem_of_getElem? hi)
  have hrun := run_store (P := P) (t := t) hg hs ho h1
  rw [hc] at hrun
  refine ⟨w.setRow g c', H.set i (g, .cells c' et (0, 0)), ?_, ?_, h⟩
  · simp [execOp, hx, hy, Instr.storeAt, Instr.sureAddr, hrun]
  · exact hw.write i hi (setRow_heap w g c c' et (0, 0) hg) (fun k hk => setRow_other w g k c' hk) (by simp) rfl rfl rfl

end
end Go.Proofs.Ytpbpenlceigddaa.Eng
