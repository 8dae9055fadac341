/- Proved: rules on operations on floats, on functions of the library that the model stands in for, and on calls that draw; each rule's conditions stand in its own statement. -/
import Derived.Test.YtikmjecjolppdaaEngG
import Derived.Test.YtikmjecjolppdaaFLaw
import Derived.Laws.FloatArith
import Derived.Laws.Externs
namespace Go.Proofs.Ytikmjecjolppdaa.Eng
open Go Go.RowKit Go.Proofs.Ytikmjecjolppdaa.Fl

section
variable {P : Program} {n : Nat} {w0 : World} {S : Nat → Prop} {Q : Exit → Regs → Hp → Prop} {R : Regs} {H : Hp}
variable {dst : Option Tmp} {ty : TypeId} {pos : String} {after : Array Edge} {gd : Option (Nat × Bool)}

theorem eqGuard_fl (op : BinOp) (t : TypeId) (x y : Operand) (k k' : FloatKind) (a b : Nat) (w : World) : (eqGuard op t x y (.float k a) (.float k' b)).run P w = .ok () w := by
  unfold eqGuard
  cases op <;> simp
section
variable {xt yt : TypeId} {x y : Operand} {a b : Nat} (hx : ev R x = .float .f64 a) (hy : ev R y = .float .f64 b)
include hx hy
theorem y_fcmp {op : BinOp} {c : Bool} (h : binOp op xt (.float .f64 a) (.float .f64 b) = pure (.bool c)) : Yields P w0 S H ⟨dst, .binOp op xt x y yt, ty, pos, after, gd⟩ R (.bool c) :=
  y_val fun w => by simp [execOp, hx, hy, eqGuard_fl, h]
theorem y_flt : Yields P w0 S H ⟨dst, .binOp .lss xt x y yt, ty, pos, after, gd⟩ R (.bool (ltF a b)) := y_fcmp hx hy (binOp_float_cmp_lss ..)
theorem y_fgt : Yields P w0 S H ⟨dst, .binOp .gtr xt x y yt, ty, pos, after, gd⟩ R (.bool (gtF a b)) := y_fcmp hx hy (binOp_float_cmp_gtr ..)
theorem y_fle : Yields P w0 S H ⟨dst, .binOp .leq xt x y yt, ty, pos, after, gd⟩ R (.bool (leF a b)) := y_fcmp hx hy (binOp_float_cmp_leq ..)
theorem y_fge : Yields P w0 S H ⟨dst, .binOp .geq xt x y yt, ty, pos, after, gd⟩ R (.bool (geF a b)) := y_fcmp hx hy (binOp_float_cmp_geq ..)
theorem y_feq : Yields P w0 S H ⟨dst, .binOp .eql xt x y yt, ty, pos, after, gd⟩ R (.bool (eqF a b)) := y_fcmp hx hy (binOp_float_cmp_eql ..)
theorem y_fne : Yields P w0 S H ⟨dst, .binOp .neq xt x y yt, ty, pos, after, gd⟩ R (.bool (neF a b)) := y_fcmp hx hy (binOp_float_cmp_neq ..)
end
theorem y_fneg {xt : TypeId} {x : Operand} {a : Nat} (hx : ev R x = .float .f64 a) : Yields P w0 S H ⟨dst, .unOp .neg xt x, ty, pos, after, gd⟩ R (.float .f64 (a ^^^ 9223372036854775808)) :=
  y_val fun w => by
    have e : Op.negFloat .f64 a = a ^^^ 9223372036854775808 := rfl
    simp [execOp, hx, Op.unary, e]

/-- A sum, a difference, a product, a quotient: its word, or one that is no number. -/
theorem o_float {ops : Array Oper} {rest : List Oper} {op : BinOp} {xt yt : TypeId} {x y : Operand} {a b : Nat} {d : Tmp} (o : Option Nat) (hd : decide (d < n) = true) (hx : ev R x = .float .f64 a) (hy : ev R y = .float .f64 b) (hop : floatBits op .f64 a b = o) (hk : op = .add ∨ op = .sub ∨ op = .mul ∨ op = .quo)
    (h : ∀ r, FR o r → opsG P n w0 S ops Q rest (upd R d (.float .f64 r)) H) : opsG P n w0 S ops Q (⟨some d, .binOp op xt x y yt, ty, pos, after, none⟩ :: rest) R H := by
  subst hop
  refine o_op rfl hd fun w hw => ?_
  cases hb : floatBits op .f64 a b with
  | some r =>
    refine ⟨.float .f64 r, w, H, ?_, hw, h r ?_⟩
    · have hr := run_float_arith (P := P) w op xt .f64 a b r hb
      simp [execOp, hx, hy, eqGuard_fl, hr]
    · rw [hb]
      rcases hk with rfl | rfl | rfl | rfl
      · exact add_num hb
      · exact sub_num hb
      · exact mul_num hb
      · exact div_num hb
  | none =>
    let q := Question.nanBits .f64 a b
    refine ⟨.float .f64 (q.cut (w.tape w.drawn q)), { w with drawn := w.drawn + 1 }, H, ?_, hw.drew, h _ ?_⟩
    · have hc : (choose q).run P w = .ok (q.cut (w.tape w.drawn q)) { w with drawn := w.drawn + 1 } := by
        simp [q, Question.forced]
      have hf : (binOp op xt (.float .f64 a) (.float .f64 b)).run P w = .ok (.float .f64 (q.cut (w.tape w.drawn q))) { w with drawn := w.drawn + 1 } := by
        rcases hk with rfl | rfl | rfl | rfl <;> simp only [floatBits] at hb <;> simp [binOp, Op.floatArith, hb, q, Question.forced]
      simp [execOp, hx, hy, eqGuard_fl, hf]
    · rw [hb]
      generalize w.tape w.drawn q = t
      have e : q.cut t = (t % 2) * 2 ^ 63 + 0x7ff0000000000000 + 1 + (t / 2) % (2 ^ 52 - 1) := rfl
      have h1 : (t / 2) % (2 ^ 52 - 1) < 2 ^ 52 - 1 := Nat.mod_lt _ (by decide)
      have h2 : t % 2 < 2 := Nat.mod_lt _ (by decide)
      generalize (t / 2) % (2 ^ 52 - 1) = u at e h1
      generalize t % 2 = v at e h2
      rw [e]
      refine ⟨cls_nan ?_, by omega⟩
      refine decide_eq_true ?_
      show infR < ((v * 2 ^ 63 + 0x7ff0000000000000 + 1 + u) % 9223372036854775808)
      have : infR = 9218868437227405312 := rfl
      omega

/-! ### Functions that the model stands in for -/
def Ext (P : Program) (f : FuncId) (e : Array Value → Sem Value) : Prop := ∃ fn, P.funcs[f]? = some fn ∧ (fn.name == "runtime.NumGoroutine") = false ∧ fn.body.isNone = true ∧ Extern.findNext fn = none ∧ Extern.find fn = some e
theorem y_ext {f : FuncId} {args : Array Operand} {at_ : Array TypeId} {vs : List Value} {v : Value} {e : Array Value → Sem Value} (hf : Ext P f e) (hv : args.toList.map (ev R) = vs) (h : ∀ w, (e vs.toArray).run P w = .ok v w) :
    Yields P w0 S H ⟨dst, .call { callee := .value (.func f), args := args, argTypes := at_ }, ty, pos, after, gd⟩ R v :=
  y_val fun w => by
    obtain ⟨fn, h1, h2, h3, h4, h5⟩ := hf
    have hv' : args.map (ev R) = vs.toArray := by rw [← hv, ← Array.toList_map]
    have hr := run_callFunc_extern (P := P) h1 h2 h3 h4 h5 vs.toArray w
    rw [h w] at hr
    simp only [execOp, resolve, Sem.run_bind, ev, Deferred.ofValue, invoke, hv', Sem.run_pure, Result.andThen_ok, Array.empty_append, Array.append_empty, hr]
theorem x_bits (a : Nat) (w : World) : (Extern.MathFloatBits.float64bits [Value.float .f64 a].toArray).run P w = .ok (.int .u64 (a : Int)) w := rfl
theorem x_from (a : Nat) (w : World) : (Extern.MathFloatBits.float64frombits [Value.int .u64 (a : Int)].toArray).run P w = .ok (.float .f64 a) w := rfl
/-- The greatest whole number that is not above: of a word that is a number. -/
def floorW (a : Nat) : Nat := Ieee.Format.write F ((F.read a).integral .down)
theorem x_floor {a : Nat} (h : nanB a = false) (w : World) : (Extern.MathFloor.toIntegral "math.archFloor" .down [Value.float .f64 a].toArray).run P w = .ok (.float .f64 (floorW a)) w := by
  rw [← nan_read] at h
  unfold floorW
  have e : FloatKind.decode .f64 a = F.read a := rfl
  unfold Extern.MathFloor.toIntegral
  show (match FloatKind.decode .f64 a with | .nan s t => _ | d => _ : Sem Value).run P w = _
  rw [e]
  cases hr : F.read a with
  | nan s t => rw [hr] at h; cases h
  | _ => rfl

theorem y_shr63 {xt yt : TypeId} {x y : Operand} {a : Nat} {k : IntKind} (hx : ev R x = .int .u64 (a : Int)) (hy : ev R y = .int k 63) : Yields P w0 S H ⟨dst, .binOp .shr xt x y yt, ty, pos, after, gd⟩ R (.int .u64 ((a / 9223372036854775808 : Nat) : Int)) :=
  y_val fun w => by
    have e : (binOp .shr xt (.int .u64 (a : Int)) (.int k 63)) = Op.shift .shr .u64 (a : Int) k 63 := rfl
    have e2 : ((a : Int)).fdiv (2 ^ 63) = ((a / 9223372036854775808 : Nat) : Int) := by
      rw [Int.fdiv_eq_ediv_of_nonneg _ (by decide)]
      norm_cast
    have e3 : Op.shift .shr .u64 (a : Int) k 63 = pure (.int .u64 ((a / 9223372036854775808 : Nat) : Int)) := by
      rw [← e2]; rfl
    simp [execOp, hx, hy, eqGuard_int, e, e3]
theorem y_abs63 {xt yt : TypeId} {x y : Operand} {a : Nat} (ha : a < 18446744073709551616) (hx : ev R x = .int .u64 (a : Int)) (hy : ev R y = .int .u64 9223372036854775808) : Yields P w0 S H ⟨dst, .binOp .andNot xt x y yt, ty, pos, after, gd⟩ R (.int .u64 ((rg a : Nat) : Int)) :=
  y_int hx hy fun w => by
    have e1 : (BitVec.ofInt 64 (a : Int) &&& ~~~(BitVec.ofInt 64 9223372036854775808)).toNat = rg a := by
      have h1 : ~~~(BitVec.ofInt 64 9223372036854775808) = BitVec.ofNat 64 (2 ^ 63 - 1) := by decide
      have h2 : BitVec.ofInt 64 (a : Int) = BitVec.ofNat 64 a := by simp
      rw [h1, h2, BitVec.toNat_and, BitVec.toNat_ofNat, BitVec.toNat_ofNat, Nat.mod_eq_of_lt (show a < 2 ^ 64 from ha), Nat.mod_eq_of_lt (by decide : 2 ^ 63 - 1 < 2 ^ 64), Nat.and_two_pow_sub_one_eq_mod]
      rfl
    have := rg_lt a
    have e2 : (binOp .andNot xt (.int .u64 (a : Int)) (.int .u64 9223372036854775808)) = pure (.int .u64 (IntKind.u64.wrap ((BitVec.ofInt 64 (a : Int) &&& ~~~(BitVec.ofInt 64 9223372036854775808)).toNat : Int))) := rfl
    rw [e2, e1, wi_u64 (by omega) (by omega)]
    rfl

theorem y_fint {src d : TypeId} {x : Operand} {a : Nat} {m : Int} (hx : ev R x = .float .f64 a) (hs : (P.underlying src).isSome = true) (hu : P.underlying d = some (.int .i64)) (h : floatToIntVal .f64 a .i64 = some m) : Yields P w0 S H ⟨dst, .convert src d x, ty, pos, after, gd⟩ R (.int .i64 m) :=
  y_val fun w => by simp [execOp, hx, run_convert_float_int w src d .f64 .i64 a m hs hu h]
theorem y_intf {src d : TypeId} {x : Operand} {k : IntKind} {m : Int} (hx : ev R x = .int k m) (hs : (P.underlying src).isSome = true) (hu : P.underlying d = some (.float .f64)) : Yields P w0 S H ⟨dst, .convert src d x, ty, pos, after, gd⟩ R (.float .f64 (ofInt m)) :=
  y_val fun w => by
    have h := run_convert_int_float (P := P) w src d k .f64 m hs hu
    have e : floatOfInt .f64 m = ofInt m := rfl
    rw [e] at h
    simp [execOp, hx, h]

/-- A call that makes nothing that is known, whose answer is not fixed. -/
theorem o_callF {ops : Array Oper} {rest : List Oper} {d : Option Tmp} {f : FuncId} {args : Array Operand} {at_ : Array TypeId} {vs : List Value} {T : Value → Hp → Prop} (hf : Bodied P f) (hd : (match d with | some d => decide (d < n) | none => true) = true)
    (hv : args.toList.map (ev R) = vs)
    (hc : ∀ w, St w0 S H w → Calls P f vs.toArray w fun e w' => ∃ v H', e = .returned v ∧ St w (fun _ => False) H' w' ∧ T v H')
    (h : ∀ v H', T v H' → opsG P n w0 S ops Q rest (put R d v) H) :
    opsG P n w0 S ops Q (⟨d, .call { callee := .value (.func f), args := args, argTypes := at_ }, ty, pos, after, none⟩ :: rest) R H :=
  o_callNew hf hd hv hc fun v H' hT => o_forget (List.sublist_append_right H' H) (h v H' hT)
end
end Go.Proofs.Ytikmjecjolppdaa.Eng
