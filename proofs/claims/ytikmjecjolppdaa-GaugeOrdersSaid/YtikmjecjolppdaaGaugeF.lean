/- Proved: what the small functions of floats come to; the conditions stand in the statements. -/
import Derived.Test.YtikmjecjolppdaaGaugeBase
set_option linter.unusedVariables false
set_option linter.unusedSimpArgs false
namespace Go.Proofs.Ytikmjecjolppdaa.Gauge
open Go Go.RowKit Go.Proofs.Ytikmjecjolppdaa.Eng Go.Proofs.Ytikmjecjolppdaa.Fl

set_option maxRecDepth 100000 in
set_option maxHeartbeats 4000000 in
theorem f29_none (a : Nat) (w : World)  :
    Calls Try.prog 29 [.float .f64 (a)].toArray w fun e w' => e = .returned (.bool (nanB a)) ∧ Below w.heap.size w w' := by
  refine (calls_of (P := Try.prog) (n := 6) (w0 := w) (S := fun _ => False) (H := []) (T := fun v _ => v = (.bool (nanB a))) Try.func29 rfl Try.ntmps29 (Nat.le_of_ble_eq_true rfl) [.tmp 2] rfl (St.nil w _) ?_).mono fun e w' ⟨v, H', he, hs, hT⟩ => ⟨by rw [he, hT], hs.below⟩
  refine c_seq fun K1 hK1 => ?_
  refine c_region ?_
  refine o_y (v := .bool (false)) rfl rfl (y_assign rfl) ?_
  refine o_nil ?_
  refine hK1 _ _ ?_
  refine c_seq fun K2 hK2 => ?_
  refine c_region ?_
  refine o_y (v := .float .f64 (a)) rfl rfl (y_move rfl) ?_
  refine o_y (v := .float .f64 (a)) rfl rfl (y_move rfl) ?_
  refine o_y (v := .bool (neF (a) (a))) rfl rfl (y_fne rfl rfl) ?_
  refine o_y (v := .bool (neF (a) (a))) rfl rfl (y_assign rfl) ?_
  refine o_nil ?_
  refine hK2 _ _ ?_
  refine c_ret ?_
  refine fun w hw => ⟨[.bool (neF (a) (a))], ⟨rfl, trivial⟩, ?_⟩
  exact congrArg Value.bool (ne_self a)
  first | done | rfl

set_option maxRecDepth 100000 in
set_option maxHeartbeats 4000000 in
theorem f11_none (a : Nat) (w : World)  :
    Calls Try.prog 11 [.float .f64 (a)].toArray w fun e w' => e = .returned (.bool (nanB a)) ∧ Below w.heap.size w w' := by
  refine (calls_of (P := Try.prog) (n := 6) (w0 := w) (S := fun _ => False) (H := []) (T := fun v _ => v = (.bool (nanB a))) Try.func11 rfl Try.ntmps11 (Nat.le_of_ble_eq_true rfl) [.tmp 2] rfl (St.nil w _) ?_).mono fun e w' ⟨v, H', he, hs, hT⟩ => ⟨by rw [he, hT], hs.below⟩
  refine c_seq fun K1 hK1 => ?_
  refine c_region ?_
  refine o_y (v := .bool (false)) rfl rfl (y_assign rfl) ?_
  refine o_nil ?_
  refine hK1 _ _ ?_
  refine c_seq fun K2 hK2 => ?_
  refine c_region ?_
  refine o_y (v := .float .f64 (a)) rfl rfl (y_move rfl) ?_
  refine o_y (v := .float .f64 (a)) rfl rfl (y_move rfl) ?_
  refine o_y (v := .bool (neF (a) (a))) rfl rfl (y_fne rfl rfl) ?_
  refine o_y (v := .bool (neF (a) (a))) rfl rfl (y_assign rfl) ?_
  refine o_nil ?_
  refine hK2 _ _ ?_
  refine c_ret ?_
  refine fun w hw => ⟨[.bool (neF (a) (a))], ⟨rfl, trivial⟩, ?_⟩
  exact congrArg Value.bool (ne_self a)
  first | done | rfl

set_option maxRecDepth 100000 in
set_option maxHeartbeats 4000000 in
theorem f10_same (a b : Nat) (w : World)  :
    Calls Try.prog 10 [.float .f64 (a), .float .f64 (b)].toArray w fun e w' => e = .returned (.bool (sameB a b)) ∧ Below w.heap.size w w' := by
  refine (calls_of (P := Try.prog) (n := 18) (w0 := w) (S := fun _ => False) (H := []) (T := fun v _ => v = (.bool (sameB a b))) Try.func10 rfl Try.ntmps10 (Nat.le_of_ble_eq_true rfl) [.tmp 4] rfl (St.nil w _) ?_).mono fun e w' ⟨v, H', he, hs, hT⟩ => ⟨by rw [he, hT], hs.below⟩
  refine c_seq fun K1 hK1 => ?_
  refine c_region ?_
  refine o_y (v := .bool (false)) rfl rfl (y_assign rfl) ?_
  refine o_nil ?_
  refine hK1 _ _ ?_
  refine c_seq fun K2 hK2 => ?_
  refine c_region ?_
  refine o_y (v := .float .f64 (a)) rfl rfl (y_move rfl) ?_
  refine o_y (v := .bool (nanB (a))) rfl rfl (y_call (vs := [.float .f64 (a)]) b11 rfl (fun w hw => f11_none _ w)) ?_
  refine o_y (v := .bool (nanB (a))) rfl rfl (y_move rfl) ?_
  cases hc1 : (nanB (a) : Bool)
  ·
    -- way F
    refine o_guard (j := 2) (d := 7) (b := false) rfl rfl rfl (fun h => by cases h) rfl (fun _ => ?_)
    refine o_guard (j := 2) (d := 7) (b := false) rfl rfl rfl (fun h => by cases h) rfl (fun _ => ?_)
    refine o_y (v := .bool (false)) rfl rfl (y_pick (b := false) rfl rfl) ?_
    refine o_y (v := .bool (false)) rfl rfl (y_move rfl) ?_
    refine o_guard (j := 6) (d := 11) (b := false) rfl rfl rfl (fun _ => ?_) rfl (fun h => by cases h)
    refine o_y (v := .float .f64 (a)) rfl rfl (y_move rfl) ?_
    refine o_guard (j := 6) (d := 11) (b := false) rfl rfl rfl (fun _ => ?_) rfl (fun h => by cases h)
    refine o_y (v := .int .u64 (((a : Nat) : Int))) rfl rfl (y_ext (vs := [.float .f64 (a)]) x13 rfl (fun w => x_bits (a) w)) ?_
    refine o_guard (j := 6) (d := 11) (b := false) rfl rfl rfl (fun _ => ?_) rfl (fun h => by cases h)
    refine o_y (v := .float .f64 (b)) rfl rfl (y_move rfl) ?_
    refine o_guard (j := 6) (d := 11) (b := false) rfl rfl rfl (fun _ => ?_) rfl (fun h => by cases h)
    refine o_y (v := .int .u64 (((b : Nat) : Int))) rfl rfl (y_ext (vs := [.float .f64 (b)]) x13 rfl (fun w => x_bits (b) w)) ?_
    refine o_guard (j := 6) (d := 11) (b := false) rfl rfl rfl (fun _ => ?_) rfl (fun h => by cases h)
    refine o_y (v := .bool (decide (((a : Nat) : Int) = ((b : Nat) : Int)))) rfl rfl (y_eql rfl rfl rfl) ?_
    refine o_y (v := .bool (decide (((a : Nat) : Int) = ((b : Nat) : Int)))) rfl rfl (y_pick (b := false) rfl rfl) ?_
    refine o_y (v := .bool (decide (((a : Nat) : Int) = ((b : Nat) : Int)))) rfl rfl (y_assign rfl) ?_
    refine o_nil ?_
    refine hK2 _ _ ?_
    refine c_ret ?_
    refine fun w hw => ⟨[.bool (decide (((a : Nat) : Int) = ((b : Nat) : Int)))], ⟨rfl, trivial⟩, ?_⟩
    exact congrArg Value.bool (by unfold sameB; simp [cb, hc1])
    first | done | rfl
  ·
    -- way T
    refine o_guard (j := 2) (d := 7) (b := true) rfl rfl rfl (fun _ => ?_) rfl (fun h => by cases h)
    refine o_y (v := .float .f64 (b)) rfl rfl (y_move rfl) ?_
    refine o_guard (j := 2) (d := 7) (b := true) rfl rfl rfl (fun _ => ?_) rfl (fun h => by cases h)
    refine o_y (v := .bool (nanB (b))) rfl rfl (y_call (vs := [.float .f64 (b)]) b11 rfl (fun w hw => f11_none _ w)) ?_
    refine o_y (v := .bool (nanB (b))) rfl rfl (y_pick (b := true) rfl rfl) ?_
    refine o_y (v := .bool (nanB (b))) rfl rfl (y_move rfl) ?_
    cases hc2 : (nanB (b) : Bool)
    ·
      -- way TF
      refine o_guard (j := 6) (d := 11) (b := false) rfl rfl rfl (fun _ => ?_) rfl (fun h => by cases h)
      refine o_y (v := .float .f64 (a)) rfl rfl (y_move rfl) ?_
      refine o_guard (j := 6) (d := 11) (b := false) rfl rfl rfl (fun _ => ?_) rfl (fun h => by cases h)
      refine o_y (v := .int .u64 (((a : Nat) : Int))) rfl rfl (y_ext (vs := [.float .f64 (a)]) x13 rfl (fun w => x_bits (a) w)) ?_
      refine o_guard (j := 6) (d := 11) (b := false) rfl rfl rfl (fun _ => ?_) rfl (fun h => by cases h)
      refine o_y (v := .float .f64 (b)) rfl rfl (y_move rfl) ?_
      refine o_guard (j := 6) (d := 11) (b := false) rfl rfl rfl (fun _ => ?_) rfl (fun h => by cases h)
      refine o_y (v := .int .u64 (((b : Nat) : Int))) rfl rfl (y_ext (vs := [.float .f64 (b)]) x13 rfl (fun w => x_bits (b) w)) ?_
      refine o_guard (j := 6) (d := 11) (b := false) rfl rfl rfl (fun _ => ?_) rfl (fun h => by cases h)
      refine o_y (v := .bool (decide (((a : Nat) : Int) = ((b : Nat) : Int)))) rfl rfl (y_eql rfl rfl rfl) ?_
      refine o_y (v := .bool (decide (((a : Nat) : Int) = ((b : Nat) : Int)))) rfl rfl (y_pick (b := false) rfl rfl) ?_
      refine o_y (v := .bool (decide (((a : Nat) : Int) = ((b : Nat) : Int)))) rfl rfl (y_assign rfl) ?_
      refine o_nil ?_
      refine hK2 _ _ ?_
      refine c_ret ?_
      refine fun w hw => ⟨[.bool (decide (((a : Nat) : Int) = ((b : Nat) : Int)))], ⟨rfl, trivial⟩, ?_⟩
      exact congrArg Value.bool (by unfold sameB; simp [cb, hc1, hc2])
      first | done | rfl
    ·
      -- way TT
      refine o_guard (j := 6) (d := 11) (b := true) rfl rfl rfl (fun h => by cases h) rfl (fun _ => ?_)
      refine o_guard (j := 6) (d := 11) (b := true) rfl rfl rfl (fun h => by cases h) rfl (fun _ => ?_)
      refine o_guard (j := 6) (d := 11) (b := true) rfl rfl rfl (fun h => by cases h) rfl (fun _ => ?_)
      refine o_guard (j := 6) (d := 11) (b := true) rfl rfl rfl (fun h => by cases h) rfl (fun _ => ?_)
      refine o_guard (j := 6) (d := 11) (b := true) rfl rfl rfl (fun h => by cases h) rfl (fun _ => ?_)
      refine o_y (v := .bool (true)) rfl rfl (y_pick (b := true) rfl rfl) ?_
      refine o_y (v := .bool (true)) rfl rfl (y_assign rfl) ?_
      refine o_nil ?_
      refine hK2 _ _ ?_
      refine c_ret ?_
      refine fun w hw => ⟨[.bool (true)], ⟨rfl, trivial⟩, ?_⟩
      exact congrArg Value.bool (by unfold sameB; simp [cb, hc1, hc2])
      first | done | rfl

set_option maxRecDepth 100000 in
set_option maxHeartbeats 4000000 in
theorem f30_minus (a : Nat) (w : World) (ha : a < 18446744073709551616) :
    Calls Try.prog 30 [.float .f64 (a)].toArray w fun e w' => e = .returned (.bool (sg a)) ∧ Below w.heap.size w w' := by
  refine (calls_of (P := Try.prog) (n := 6) (w0 := w) (S := fun _ => False) (H := []) (T := fun v _ => v = (.bool (sg a))) Try.func30 rfl Try.ntmps30 (Nat.le_of_ble_eq_true rfl) [.tmp 2] rfl (St.nil w _) ?_).mono fun e w' ⟨v, H', he, hs, hT⟩ => ⟨by rw [he, hT], hs.below⟩
  refine c_seq fun K1 hK1 => ?_
  refine c_region ?_
  refine o_y (v := .bool (false)) rfl rfl (y_assign rfl) ?_
  refine o_nil ?_
  refine hK1 _ _ ?_
  refine c_seq fun K2 hK2 => ?_
  refine c_region ?_
  refine o_y (v := .float .f64 (a)) rfl rfl (y_move rfl) ?_
  refine o_y (v := .int .u64 (((a : Nat) : Int))) rfl rfl (y_ext (vs := [.float .f64 (a)]) x13 rfl (fun w => x_bits (a) w)) ?_
  refine o_y (v := .bool (decide (9223372036854775808 ≤ ((a : Nat) : Int)))) rfl rfl (y_geq rfl rfl rfl) ?_
  refine o_y (v := .bool (decide (9223372036854775808 ≤ ((a : Nat) : Int)))) rfl rfl (y_assign rfl) ?_
  refine o_nil ?_
  refine hK2 _ _ ?_
  refine c_ret ?_
  refine fun w hw => ⟨[.bool (decide (9223372036854775808 ≤ ((a : Nat) : Int)))], ⟨rfl, trivial⟩, ?_⟩
  exact congrArg Value.bool (by rw [sg_ge ha]; exact decide_eq_decide.2 (by omega))
  first | done | rfl

set_option maxRecDepth 100000 in
set_option maxHeartbeats 4000000 in
theorem f17_Compare (a b : Nat) (w : World) (ha : a < 18446744073709551616) (hb : b < 18446744073709551616) :
    Calls Try.prog 17 [.float .f64 (a), .float .f64 (b)].toArray w fun e w' => e = .returned (.int .i64 (cmpF a b)) ∧ Below w.heap.size w w' := by
  have hsa := sg_div ha
  have hsb := sg_div hb
  refine (calls_of (P := Try.prog) (n := 42) (w0 := w) (S := fun _ => False) (H := []) (T := fun v _ => v = (.int .i64 (cmpF a b))) Try.func17 rfl Try.ntmps17 (Nat.le_of_ble_eq_true rfl) [.tmp 4] rfl (St.nil w _) ?_).mono fun e w' ⟨v, H', he, hs, hT⟩ => ⟨by rw [he, hT], hs.below⟩
  refine c_seq fun K1 hK1 => ?_
  refine c_region ?_
  refine o_y (v := .int .i64 (0)) rfl rfl (y_assign rfl) ?_
  refine o_nil ?_
  refine hK1 _ _ ?_
  refine c_seq fun K2 hK2 => ?_
  refine c_block ?_
  refine c_seq fun K3 hK3 => ?_
  refine c_region ?_
  refine o_y (v := .float .f64 (a)) rfl rfl (y_move rfl) ?_
  refine o_y (v := .bool (nanB (a))) rfl rfl (y_call (vs := [.float .f64 (a)]) b29 rfl (fun w hw => f29_none _ w)) ?_
  refine o_y (v := .bool (nanB (a))) rfl rfl (y_move rfl) ?_
  cases hc1 : (nanB (a) : Bool)
  ·
    -- way F
    refine o_guard (j := 2) (d := 10) (b := false) rfl rfl rfl (fun h => by cases h) rfl (fun _ => ?_)
    refine o_guard (j := 2) (d := 10) (b := false) rfl rfl rfl (fun h => by cases h) rfl (fun _ => ?_)
    refine o_y (v := .bool (false)) rfl rfl (y_pick (b := false) rfl rfl) ?_
    refine o_y (v := .bool (false)) rfl rfl (y_assign rfl) ?_
    refine o_nil ?_
    refine hK3 _ _ ?_
    refine c_cond (t := false) rfl (fun h => by cases h) (fun _ => ?_)
    refine c_seq fun K4 hK4 => ?_
    refine c_region ?_
    refine o_y (v := .float .f64 (a)) rfl rfl (y_move rfl) ?_
    refine o_y (v := .bool (false)) rfl rfl (y_bool (y_call (vs := [.float .f64 (a)]) b29 rfl (fun w hw => f29_none _ w)) hc1) ?_
    refine o_y (v := .bool (false)) rfl rfl (y_assign rfl) ?_
    refine o_nil ?_
    refine hK4 _ _ ?_
    refine c_cond (t := false) rfl (fun h => by cases h) (fun _ => ?_)
    refine c_seq fun K5 hK5 => ?_
    refine c_region ?_
    refine o_y (v := .float .f64 (b)) rfl rfl (y_move rfl) ?_
    refine o_y (v := .bool (nanB (b))) rfl rfl (y_call (vs := [.float .f64 (b)]) b29 rfl (fun w hw => f29_none _ w)) ?_
    refine o_y (v := .bool (nanB (b))) rfl rfl (y_assign rfl) ?_
    refine o_nil ?_
    refine hK5 _ _ ?_
    refine c_cond (t := nanB (b)) rfl (fun hc2 => ?_) (fun hc2 => ?_)
    ·
      -- way FT
      refine c_seq fun K6 hK6 => ?_
      refine c_region ?_
      refine o_y (v := .int .i64 (-1)) rfl rfl (y_assign rfl) ?_
      refine o_nil ?_
      refine hK6 _ _ ?_
      refine c_ret ?_
      refine fun w hw => ⟨[.int .i64 (-1)], ⟨rfl, trivial⟩, ?_⟩
      have hx := cmp_is a b ha hb
      rw [hx]
      exact ie (by simp [hc1, hc2])
      first | done | rfl
    ·
      -- way FF
      refine c_seq fun K7 hK7 => ?_
      refine c_region ?_
      refine o_y (v := .float .f64 (a)) rfl rfl (y_move rfl) ?_
      refine o_y (v := .float .f64 (b)) rfl rfl (y_move rfl) ?_
      refine o_y (v := .bool (ltF (a) (b))) rfl rfl (y_flt rfl rfl) ?_
      refine o_y (v := .bool (ltF (a) (b))) rfl rfl (y_assign rfl) ?_
      refine o_nil ?_
      refine hK7 _ _ ?_
      refine c_cond (t := ltF (a) (b)) rfl (fun hc3 => ?_) (fun hc3 => ?_)
      ·
        -- way FFT
        refine c_seq fun K8 hK8 => ?_
        refine c_region ?_
        refine o_y (v := .int .i64 (-1)) rfl rfl (y_assign rfl) ?_
        refine o_nil ?_
        refine hK8 _ _ ?_
        refine c_ret ?_
        refine fun w hw => ⟨[.int .i64 (-1)], ⟨rfl, trivial⟩, ?_⟩
        have hx := cmp_is a b ha hb
        rw [hx]
        exact ie (by simp [hc1, hc2, hc3])
        first | done | rfl
      ·
        -- way FFF
        refine c_seq fun K9 hK9 => ?_
        refine c_region ?_
        refine o_y (v := .float .f64 (a)) rfl rfl (y_move rfl) ?_
        refine o_y (v := .float .f64 (b)) rfl rfl (y_move rfl) ?_
        refine o_y (v := .bool (gtF (a) (b))) rfl rfl (y_fgt rfl rfl) ?_
        refine o_y (v := .bool (gtF (a) (b))) rfl rfl (y_assign rfl) ?_
        refine o_nil ?_
        refine hK9 _ _ ?_
        refine c_cond (t := gtF (a) (b)) rfl (fun hc4 => ?_) (fun hc4 => ?_)
        ·
          -- way FFFT
          refine c_seq fun K10 hK10 => ?_
          refine c_region ?_
          refine o_y (v := .int .i64 (1)) rfl rfl (y_assign rfl) ?_
          refine o_nil ?_
          refine hK10 _ _ ?_
          refine c_ret ?_
          refine fun w hw => ⟨[.int .i64 (1)], ⟨rfl, trivial⟩, ?_⟩
          have hx := cmp_is a b ha hb
          rw [hx]
          exact ie (by simp [hc1, hc2, hc3, hc4])
          first | done | rfl
        ·
          -- way FFFF
          refine c_seq fun K11 hK11 => ?_
          refine c_region ?_
          refine o_y (v := .float .f64 (a)) rfl rfl (y_move rfl) ?_
          refine o_y (v := .bool (neF (a) (0))) rfl rfl (y_fne rfl rfl) ?_
          refine o_y (v := .bool (neF (a) (0))) rfl rfl (y_assign rfl) ?_
          refine o_nil ?_
          refine hK11 _ _ ?_
          refine c_cond (t := neF (a) (0)) rfl (fun hc5 => ?_) (fun hc5 => ?_)
          ·
            -- way FFFFT
            refine c_seq fun K12 hK12 => ?_
            refine c_region ?_
            refine o_y (v := .int .i64 (0)) rfl rfl (y_assign rfl) ?_
            refine o_nil ?_
            refine hK12 _ _ ?_
            refine c_ret ?_
            refine fun w hw => ⟨[.int .i64 (0)], ⟨rfl, trivial⟩, ?_⟩
            have hx := cmp_is a b ha hb
            rw [hx]
            exact ie (by simp [hc1, hc2, hc3, hc4, hc5])
            first | done | rfl
          ·
            -- way FFFFF
            refine c_skip ?_
            refine hK2 _ _ ?_
            refine c_seq fun K13 hK13 => ?_
            refine c_region ?_
            refine o_y (v := .float .f64 (a)) rfl rfl (y_move rfl) ?_
            refine o_y (v := .int .u64 (((a : Nat) : Int))) rfl rfl (y_ext (vs := [.float .f64 (a)]) x13 rfl (fun w => x_bits (a) w)) ?_
            refine o_y (v := .int .u64 (((a / 9223372036854775808 : Nat) : Int))) rfl rfl (y_shr63 rfl rfl) ?_
            refine o_y (v := .float .f64 (b)) rfl rfl (y_move rfl) ?_
            refine o_y (v := .int .u64 (((b : Nat) : Int))) rfl rfl (y_ext (vs := [.float .f64 (b)]) x13 rfl (fun w => x_bits (b) w)) ?_
            refine o_y (v := .int .u64 (((b / 9223372036854775808 : Nat) : Int))) rfl rfl (y_shr63 rfl rfl) ?_
            refine o_y (v := .int .u64 (((a / 9223372036854775808 : Nat) : Int))) rfl rfl (y_assign rfl) ?_
            refine o_y (v := .int .u64 (((b / 9223372036854775808 : Nat) : Int))) rfl rfl (y_assign rfl) ?_
            refine o_nil ?_
            refine hK13 _ _ ?_
            refine c_seq fun K14 hK14 => ?_
            refine c_region ?_
            refine o_y (v := .int .u64 (((b / 9223372036854775808 : Nat) : Int))) rfl rfl (y_move rfl) ?_
            refine o_y (v := .int .i64 (((b / 9223372036854775808 : Nat) : Int))) rfl rfl (y_conv rfl Try.underlying27 Try.underlying3 (wi_i64 (by omega) (by omega))) ?_
            refine o_y (v := .int .u64 (((a / 9223372036854775808 : Nat) : Int))) rfl rfl (y_move rfl) ?_
            refine o_y (v := .int .i64 (((a / 9223372036854775808 : Nat) : Int))) rfl rfl (y_conv rfl Try.underlying27 Try.underlying3 (wi_i64 (by omega) (by omega))) ?_
            refine o_y (v := .int .i64 ((((b / 9223372036854775808 : Nat) : Int)) - (((a / 9223372036854775808 : Nat) : Int)))) rfl rfl (y_sub rfl rfl (wi_i64 (by omega) (by omega))) ?_
            refine o_y (v := .int .i64 ((((b / 9223372036854775808 : Nat) : Int)) - (((a / 9223372036854775808 : Nat) : Int)))) rfl rfl (y_assign rfl) ?_
            refine o_nil ?_
            refine hK14 _ _ ?_
            refine c_ret ?_
            refine fun w hw => ⟨[.int .i64 ((((b / 9223372036854775808 : Nat) : Int)) - (((a / 9223372036854775808 : Nat) : Int)))], ⟨rfl, trivial⟩, ?_⟩
            have hx := cmp_is a b ha hb
            rw [hx]
            exact ie (by simp [hc1, hc2, hc3, hc4, hc5])
            first | done | rfl
  ·
    -- way T
    refine o_guard (j := 2) (d := 10) (b := true) rfl rfl rfl (fun _ => ?_) rfl (fun h => by cases h)
    refine o_y (v := .float .f64 (b)) rfl rfl (y_move rfl) ?_
    refine o_guard (j := 2) (d := 10) (b := true) rfl rfl rfl (fun _ => ?_) rfl (fun h => by cases h)
    refine o_y (v := .bool (nanB (b))) rfl rfl (y_call (vs := [.float .f64 (b)]) b29 rfl (fun w hw => f29_none _ w)) ?_
    refine o_y (v := .bool (nanB (b))) rfl rfl (y_pick (b := true) rfl rfl) ?_
    refine o_y (v := .bool (nanB (b))) rfl rfl (y_assign rfl) ?_
    refine o_nil ?_
    refine hK3 _ _ ?_
    refine c_cond (t := nanB (b)) rfl (fun hc6 => ?_) (fun hc6 => ?_)
    ·
      -- way TT
      refine c_seq fun K15 hK15 => ?_
      refine c_region ?_
      refine o_y (v := .int .i64 (0)) rfl rfl (y_assign rfl) ?_
      refine o_nil ?_
      refine hK15 _ _ ?_
      refine c_ret ?_
      refine fun w hw => ⟨[.int .i64 (0)], ⟨rfl, trivial⟩, ?_⟩
      have hx := cmp_is a b ha hb
      rw [hx]
      exact ie (by simp [hc1, hc6])
      first | done | rfl
    ·
      -- way TF
      refine c_seq fun K16 hK16 => ?_
      refine c_region ?_
      refine o_y (v := .float .f64 (a)) rfl rfl (y_move rfl) ?_
      refine o_y (v := .bool (true)) rfl rfl (y_bool (y_call (vs := [.float .f64 (a)]) b29 rfl (fun w hw => f29_none _ w)) hc1) ?_
      refine o_y (v := .bool (true)) rfl rfl (y_assign rfl) ?_
      refine o_nil ?_
      refine hK16 _ _ ?_
      refine c_cond (t := true) rfl (fun _ => ?_) (fun h => by cases h)
      refine c_seq fun K17 hK17 => ?_
      refine c_region ?_
      refine o_y (v := .int .i64 (1)) rfl rfl (y_assign rfl) ?_
      refine o_nil ?_
      refine hK17 _ _ ?_
      refine c_ret ?_
      refine fun w hw => ⟨[.int .i64 (1)], ⟨rfl, trivial⟩, ?_⟩
      have hx := cmp_is a b ha hb
      rw [hx]
      exact ie (by simp [hc1, hc6])
      first | done | rfl

set_option maxRecDepth 100000 in
set_option maxHeartbeats 4000000 in
theorem f18_Compare (a b : Nat) (w : World) (ha : a < 18446744073709551616) (hb : b < 18446744073709551616) :
    Calls Try.prog 18 [.float .f64 (a), .float .f64 (b)].toArray w fun e w' => e = .returned (.int .i64 (cmpF a b)) ∧ Below w.heap.size w w' := by
  refine (calls_of (P := Try.prog) (n := 29) (w0 := w) (S := fun _ => False) (H := []) (T := fun v _ => v = (.int .i64 (cmpF a b))) Try.func18 rfl Try.ntmps18 (Nat.le_of_ble_eq_true rfl) [.tmp 4] rfl (St.nil w _) ?_).mono fun e w' ⟨v, H', he, hs, hT⟩ => ⟨by rw [he, hT], hs.below⟩
  refine c_seq fun K1 hK1 => ?_
  refine c_region ?_
  refine o_y (v := .int .i64 (0)) rfl rfl (y_assign rfl) ?_
  refine o_nil ?_
  refine hK1 _ _ ?_
  refine c_seq fun K2 hK2 => ?_
  refine c_seq fun K3 hK3 => ?_
  refine c_region ?_
  refine o_y (v := .float .f64 (a)) rfl rfl (y_move rfl) ?_
  refine o_y (v := .float .f64 (b)) rfl rfl (y_move rfl) ?_
  refine o_y (v := .bool (sameB (a) (b))) rfl rfl (y_call (vs := [.float .f64 (a), .float .f64 (b)]) b10 rfl (fun w hw => f10_same _ _ w)) ?_
  refine o_nil ?_
  refine hK3 _ _ ?_
  refine c_cond (t := sameB (a) (b)) rfl (fun hc1 => ?_) (fun hc1 => ?_)
  ·
    -- way T
    refine c_seq fun K4 hK4 => ?_
    refine c_region ?_
    refine o_y (v := .int .i64 (0)) rfl rfl (y_assign rfl) ?_
    refine o_nil ?_
    refine hK4 _ _ ?_
    refine c_ret ?_
    refine fun w hw => ⟨[.int .i64 (0)], ⟨rfl, trivial⟩, ?_⟩
    have hx := cmp_ref a b ha hb
    rw [hx]
    exact ie (by simp [hc1])
    first | done | rfl
  ·
    -- way F
    refine c_skip ?_
    refine hK2 _ _ ?_
    refine c_seq fun K5 hK5 => ?_
    refine c_seq fun K6 hK6 => ?_
    refine c_region ?_
    refine o_y (v := .float .f64 (a)) rfl rfl (y_move rfl) ?_
    refine o_y (v := .bool (nanB (a))) rfl rfl (y_call (vs := [.float .f64 (a)]) b11 rfl (fun w hw => f11_none _ w)) ?_
    refine o_y (v := .bool (nanB (a))) rfl rfl (y_move rfl) ?_
    cases hc2 : (nanB (a) : Bool)
    ·
      -- way FF
      refine o_guard (j := 2) (d := 10) (b := false) rfl rfl rfl (fun _ => ?_) rfl (fun h => by cases h)
      refine o_y (v := .float .f64 (b)) rfl rfl (y_move rfl) ?_
      refine o_guard (j := 2) (d := 10) (b := false) rfl rfl rfl (fun _ => ?_) rfl (fun h => by cases h)
      refine o_y (v := .bool (nanB (b))) rfl rfl (y_call (vs := [.float .f64 (b)]) b11 rfl (fun w hw => f11_none _ w)) ?_
      refine o_guard (j := 2) (d := 10) (b := false) rfl rfl rfl (fun _ => ?_) rfl (fun h => by cases h)
      refine o_y (v := .bool (!(nanB (b)))) rfl rfl (y_not rfl rfl) ?_
      refine o_guard (j := 2) (d := 10) (b := false) rfl rfl rfl (fun _ => ?_) rfl (fun h => by cases h)
      refine o_y (v := .bool (!(nanB (b)))) rfl rfl (y_move rfl) ?_
      cases hc3 : (!(nanB (b)) : Bool)
      ·
        try have hc3' : (nanB (b)) = true := by simpa using hc3
        -- way FFF
        refine o_guard (j := 6) (d := 14) (b := false) rfl rfl rfl (fun h => by cases h) rfl (fun _ => ?_)
        refine o_guard (j := 6) (d := 14) (b := false) rfl rfl rfl (fun h => by cases h) rfl (fun _ => ?_)
        refine o_guard (j := 6) (d := 14) (b := false) rfl rfl rfl (fun h => by cases h) rfl (fun _ => ?_)
        refine o_guard (j := 6) (d := 14) (b := false) rfl rfl rfl (fun h => by cases h) rfl (fun _ => ?_)
        refine o_guardU (j := 10) (d := 18) rfl rfl rfl rfl ?_
        refine o_guardU (j := 10) (d := 18) rfl rfl rfl rfl ?_
        refine o_guardU (j := 10) (d := 18) rfl rfl rfl rfl ?_
        refine o_guardU (j := 10) (d := 18) rfl rfl rfl rfl ?_
        refine o_guardU (j := 14) (d := 22) rfl rfl rfl rfl ?_
        refine o_guardU (j := 14) (d := 22) rfl rfl rfl rfl ?_
        refine o_guardU (j := 10) (d := 18) rfl rfl rfl rfl ?_
        refine o_guard (j := 6) (d := 14) (b := false) rfl rfl rfl (fun h => by cases h) rfl (fun _ => ?_)
        refine o_guard (j := 2) (d := 10) (b := false) rfl rfl rfl (fun _ => ?_) rfl (fun h => by cases h)
        refine o_y (v := .bool (false)) rfl rfl (y_pick (b := false) rfl rfl) ?_
        refine o_y (v := .bool (false)) rfl rfl (y_pick (b := false) rfl rfl) ?_
        refine o_nil ?_
        refine hK6 _ _ ?_
        refine c_cond (t := false) rfl (fun h => by cases h) (fun _ => ?_)
        refine c_skip ?_
        refine hK5 _ _ ?_
        refine c_seq fun K7 hK7 => ?_
        refine c_region ?_
        refine o_y (v := .int .i64 (-1)) rfl rfl (y_assign rfl) ?_
        refine o_nil ?_
        refine hK7 _ _ ?_
        refine c_ret ?_
        refine fun w hw => ⟨[.int .i64 (-1)], ⟨rfl, trivial⟩, ?_⟩
        have hx := cmp_ref a b ha hb
        rw [hx]
        exact ie (by simp [hc1, hc2, hc3])
        first | done | rfl
      ·
        try have hc3' : (nanB (b)) = false := by simpa using hc3
        -- way FFT
        refine o_guard (j := 6) (d := 14) (b := true) rfl rfl rfl (fun _ => ?_) rfl (fun h => by cases h)
        refine o_y (v := .float .f64 (a)) rfl rfl (y_move rfl) ?_
        refine o_guard (j := 6) (d := 14) (b := true) rfl rfl rfl (fun _ => ?_) rfl (fun h => by cases h)
        refine o_y (v := .float .f64 (b)) rfl rfl (y_move rfl) ?_
        refine o_guard (j := 6) (d := 14) (b := true) rfl rfl rfl (fun _ => ?_) rfl (fun h => by cases h)
        refine o_y (v := .bool (gtF (a) (b))) rfl rfl (y_fgt rfl rfl) ?_
        refine o_guard (j := 6) (d := 14) (b := true) rfl rfl rfl (fun _ => ?_) rfl (fun h => by cases h)
        refine o_y (v := .bool (gtF (a) (b))) rfl rfl (y_move rfl) ?_
        cases hc4 : (gtF (a) (b) : Bool)
        ·
          -- way FFTF
          refine o_guard (j := 10) (d := 18) (b := false) rfl rfl rfl (fun _ => ?_) rfl (fun h => by cases h)
          refine o_y (v := .float .f64 (a)) rfl rfl (y_move rfl) ?_
          refine o_guard (j := 10) (d := 18) (b := false) rfl rfl rfl (fun _ => ?_) rfl (fun h => by cases h)
          refine o_y (v := .float .f64 (b)) rfl rfl (y_move rfl) ?_
          refine o_guard (j := 10) (d := 18) (b := false) rfl rfl rfl (fun _ => ?_) rfl (fun h => by cases h)
          refine o_y (v := .bool (eqF (a) (b))) rfl rfl (y_feq rfl rfl) ?_
          refine o_guard (j := 10) (d := 18) (b := false) rfl rfl rfl (fun _ => ?_) rfl (fun h => by cases h)
          refine o_y (v := .bool (eqF (a) (b))) rfl rfl (y_move rfl) ?_
          cases hc5 : (eqF (a) (b) : Bool)
          ·
            -- way FFTFF
            refine o_guard (j := 14) (d := 22) (b := false) rfl rfl rfl (fun h => by cases h) rfl (fun _ => ?_)
            refine o_guard (j := 14) (d := 22) (b := false) rfl rfl rfl (fun h => by cases h) rfl (fun _ => ?_)
            refine o_guard (j := 10) (d := 18) (b := false) rfl rfl rfl (fun _ => ?_) rfl (fun h => by cases h)
            refine o_y (v := .bool (false)) rfl rfl (y_pick (b := false) rfl rfl) ?_
            refine o_guard (j := 6) (d := 14) (b := true) rfl rfl rfl (fun _ => ?_) rfl (fun h => by cases h)
            refine o_y (v := .bool (false)) rfl rfl (y_pick (b := false) rfl rfl) ?_
            refine o_guard (j := 2) (d := 10) (b := false) rfl rfl rfl (fun _ => ?_) rfl (fun h => by cases h)
            refine o_y (v := .bool (false)) rfl rfl (y_pick (b := true) rfl rfl) ?_
            refine o_y (v := .bool (false)) rfl rfl (y_pick (b := false) rfl rfl) ?_
            refine o_nil ?_
            refine hK6 _ _ ?_
            refine c_cond (t := false) rfl (fun h => by cases h) (fun _ => ?_)
            refine c_skip ?_
            refine hK5 _ _ ?_
            refine c_seq fun K8 hK8 => ?_
            refine c_region ?_
            refine o_y (v := .int .i64 (-1)) rfl rfl (y_assign rfl) ?_
            refine o_nil ?_
            refine hK8 _ _ ?_
            refine c_ret ?_
            refine fun w hw => ⟨[.int .i64 (-1)], ⟨rfl, trivial⟩, ?_⟩
            have hx := cmp_ref a b ha hb
            rw [hx]
            exact ie (by simp [hc1, hc2, hc3, hc4, hc5])
            first | done | rfl
          ·
            -- way FFTFT
            refine o_guard (j := 14) (d := 22) (b := true) rfl rfl rfl (fun _ => ?_) rfl (fun h => by cases h)
            refine o_y (v := .float .f64 (b)) rfl rfl (y_move rfl) ?_
            refine o_guard (j := 14) (d := 22) (b := true) rfl rfl rfl (fun _ => ?_) rfl (fun h => by cases h)
            refine o_y (v := .bool (sg (b))) rfl rfl (y_call (vs := [.float .f64 (b)]) b30 rfl (fun w hw => f30_minus _ w (by first | assumption | omega | decide | exact FR.lt ‹_› | exact hB _ (List.getElem_mem _) | exact least_lt (fun x hx => hB x (List.mem_of_mem_take hx)) | exact lst_lt (least_lt (fun x hx => hB x (List.mem_of_mem_take hx)))))) ?_
            refine o_guard (j := 10) (d := 18) (b := false) rfl rfl rfl (fun _ => ?_) rfl (fun h => by cases h)
            refine o_y (v := .bool (sg (b))) rfl rfl (y_pick (b := true) rfl rfl) ?_
            refine o_guard (j := 6) (d := 14) (b := true) rfl rfl rfl (fun _ => ?_) rfl (fun h => by cases h)
            refine o_y (v := .bool (sg (b))) rfl rfl (y_pick (b := false) rfl rfl) ?_
            refine o_guard (j := 2) (d := 10) (b := false) rfl rfl rfl (fun _ => ?_) rfl (fun h => by cases h)
            refine o_y (v := .bool (sg (b))) rfl rfl (y_pick (b := true) rfl rfl) ?_
            refine o_y (v := .bool (sg (b))) rfl rfl (y_pick (b := false) rfl rfl) ?_
            refine o_nil ?_
            refine hK6 _ _ ?_
            refine c_cond (t := sg (b)) rfl (fun hc6 => ?_) (fun hc6 => ?_)
            ·
              -- way FFTFTT
              refine c_seq fun K9 hK9 => ?_
              refine c_region ?_
              refine o_y (v := .int .i64 (1)) rfl rfl (y_assign rfl) ?_
              refine o_nil ?_
              refine hK9 _ _ ?_
              refine c_ret ?_
              refine fun w hw => ⟨[.int .i64 (1)], ⟨rfl, trivial⟩, ?_⟩
              have hx := cmp_ref a b ha hb
              rw [hx]
              exact ie (by simp [hc1, hc2, hc3, hc4, hc5, hc6])
              first | done | rfl
            ·
              -- way FFTFTF
              refine c_skip ?_
              refine hK5 _ _ ?_
              refine c_seq fun K10 hK10 => ?_
              refine c_region ?_
              refine o_y (v := .int .i64 (-1)) rfl rfl (y_assign rfl) ?_
              refine o_nil ?_
              refine hK10 _ _ ?_
              refine c_ret ?_
              refine fun w hw => ⟨[.int .i64 (-1)], ⟨rfl, trivial⟩, ?_⟩
              have hx := cmp_ref a b ha hb
              rw [hx]
              exact ie (by simp [hc1, hc2, hc3, hc4, hc5, hc6])
              first | done | rfl
        ·
          -- way FFTT
          refine o_guard (j := 10) (d := 18) (b := true) rfl rfl rfl (fun h => by cases h) rfl (fun _ => ?_)
          refine o_guard (j := 10) (d := 18) (b := true) rfl rfl rfl (fun h => by cases h) rfl (fun _ => ?_)
          refine o_guard (j := 10) (d := 18) (b := true) rfl rfl rfl (fun h => by cases h) rfl (fun _ => ?_)
          refine o_guard (j := 10) (d := 18) (b := true) rfl rfl rfl (fun h => by cases h) rfl (fun _ => ?_)
          refine o_guardU (j := 14) (d := 22) rfl rfl rfl rfl ?_
          refine o_guardU (j := 14) (d := 22) rfl rfl rfl rfl ?_
          refine o_guard (j := 10) (d := 18) (b := true) rfl rfl rfl (fun h => by cases h) rfl (fun _ => ?_)
          refine o_guard (j := 6) (d := 14) (b := true) rfl rfl rfl (fun _ => ?_) rfl (fun h => by cases h)
          refine o_y (v := .bool (true)) rfl rfl (y_pick (b := true) rfl rfl) ?_
          refine o_guard (j := 2) (d := 10) (b := false) rfl rfl rfl (fun _ => ?_) rfl (fun h => by cases h)
          refine o_y (v := .bool (true)) rfl rfl (y_pick (b := true) rfl rfl) ?_
          refine o_y (v := .bool (true)) rfl rfl (y_pick (b := false) rfl rfl) ?_
          refine o_nil ?_
          refine hK6 _ _ ?_
          refine c_cond (t := true) rfl (fun _ => ?_) (fun h => by cases h)
          refine c_seq fun K11 hK11 => ?_
          refine c_region ?_
          refine o_y (v := .int .i64 (1)) rfl rfl (y_assign rfl) ?_
          refine o_nil ?_
          refine hK11 _ _ ?_
          refine c_ret ?_
          refine fun w hw => ⟨[.int .i64 (1)], ⟨rfl, trivial⟩, ?_⟩
          have hx := cmp_ref a b ha hb
          rw [hx]
          exact ie (by simp [hc1, hc2, hc3, hc4])
          first | done | rfl
    ·
      -- way FT
      refine o_guard (j := 2) (d := 10) (b := true) rfl rfl rfl (fun h => by cases h) rfl (fun _ => ?_)
      refine o_guard (j := 2) (d := 10) (b := true) rfl rfl rfl (fun h => by cases h) rfl (fun _ => ?_)
      refine o_guard (j := 2) (d := 10) (b := true) rfl rfl rfl (fun h => by cases h) rfl (fun _ => ?_)
      refine o_guard (j := 2) (d := 10) (b := true) rfl rfl rfl (fun h => by cases h) rfl (fun _ => ?_)
      refine o_guardU (j := 6) (d := 14) rfl rfl rfl rfl ?_
      refine o_guardU (j := 6) (d := 14) rfl rfl rfl rfl ?_
      refine o_guardU (j := 6) (d := 14) rfl rfl rfl rfl ?_
      refine o_guardU (j := 6) (d := 14) rfl rfl rfl rfl ?_
      refine o_guardU (j := 10) (d := 18) rfl rfl rfl rfl ?_
      refine o_guardU (j := 10) (d := 18) rfl rfl rfl rfl ?_
      refine o_guardU (j := 10) (d := 18) rfl rfl rfl rfl ?_
      refine o_guardU (j := 10) (d := 18) rfl rfl rfl rfl ?_
      refine o_guardU (j := 14) (d := 22) rfl rfl rfl rfl ?_
      refine o_guardU (j := 14) (d := 22) rfl rfl rfl rfl ?_
      refine o_guardU (j := 10) (d := 18) rfl rfl rfl rfl ?_
      refine o_guardU (j := 6) (d := 14) rfl rfl rfl rfl ?_
      refine o_guard (j := 2) (d := 10) (b := true) rfl rfl rfl (fun h => by cases h) rfl (fun _ => ?_)
      refine o_y (v := .bool (true)) rfl rfl (y_pick (b := true) rfl rfl) ?_
      refine o_nil ?_
      refine hK6 _ _ ?_
      refine c_cond (t := true) rfl (fun _ => ?_) (fun h => by cases h)
      refine c_seq fun K12 hK12 => ?_
      refine c_region ?_
      refine o_y (v := .int .i64 (1)) rfl rfl (y_assign rfl) ?_
      refine o_nil ?_
      refine hK12 _ _ ?_
      refine c_ret ?_
      refine fun w hw => ⟨[.int .i64 (1)], ⟨rfl, trivial⟩, ?_⟩
      have hx := cmp_ref a b ha hb
      rw [hx]
      exact ie (by simp [hc1, hc2])
      first | done | rfl

set_option maxRecDepth 100000 in
set_option maxHeartbeats 4000000 in
theorem f25_NaN  (w : World)  :
    Calls Try.prog 25 [].toArray w fun e w' => e = .returned (.float .f64 (nanW)) ∧ Below w.heap.size w w' := by
  refine (calls_of (P := Try.prog) (n := 2) (w0 := w) (S := fun _ => False) (H := []) (T := fun v _ => v = (.float .f64 (nanW))) Try.func25 rfl Try.ntmps25 (Nat.le_of_ble_eq_true rfl) [.tmp 0] rfl (St.nil w _) ?_).mono fun e w' ⟨v, H', he, hs, hT⟩ => ⟨by rw [he, hT], hs.below⟩
  refine c_seq fun K1 hK1 => ?_
  refine c_region ?_
  refine o_y (v := .float .f64 (0)) rfl rfl (y_assign rfl) ?_
  refine o_nil ?_
  refine hK1 _ _ ?_
  refine c_seq fun K2 hK2 => ?_
  refine c_region ?_
  refine o_y (v := .float .f64 (9221120237041090561)) rfl rfl (y_ext (vs := [.int .u64 (9221120237041090561)]) x32 rfl (fun w => x_from (9221120237041090561) w)) ?_
  refine o_y (v := .float .f64 (9221120237041090561)) rfl rfl (y_assign rfl) ?_
  refine o_nil ?_
  refine hK2 _ _ ?_
  refine c_ret ?_
  refine fun w hw => ⟨[.float .f64 (9221120237041090561)], ⟨rfl, trivial⟩, ?_⟩
  exact rfl

set_option maxRecDepth 100000 in
set_option maxHeartbeats 4000000 in
theorem f26_Inf  (w : World)  :
    Calls Try.prog 26 [.int .i64 (1)].toArray w fun e w' => e = .returned (.float .f64 (infR)) ∧ Below w.heap.size w w' := by
  refine (calls_of (P := Try.prog) (n := 8) (w0 := w) (S := fun _ => False) (H := []) (T := fun v _ => v = (.float .f64 (infR))) Try.func26 rfl Try.ntmps26 (Nat.le_of_ble_eq_true rfl) [.tmp 2] rfl (St.nil w _) ?_).mono fun e w' ⟨v, H', he, hs, hT⟩ => ⟨by rw [he, hT], hs.below⟩
  refine c_seq fun K1 hK1 => ?_
  refine c_region ?_
  refine o_y (v := .float .f64 (0)) rfl rfl (y_assign rfl) ?_
  refine o_nil ?_
  refine hK1 _ _ ?_
  refine c_seq fun K2 hK2 => ?_
  refine c_region ?_
  refine o_y (v := .int .u64 (0)) rfl rfl (y_assign rfl) ?_
  refine o_nil ?_
  refine hK2 _ _ ?_
  refine c_seq fun K3 hK3 => ?_
  refine c_seq fun K4 hK4 => ?_
  refine c_region ?_
  refine o_y (v := .int .i64 (1)) rfl rfl (y_move rfl) ?_
  refine o_y (v := .bool (true)) rfl rfl (y_bool (y_geq rfl rfl rfl) (by decide)) ?_
  refine o_nil ?_
  refine hK4 _ _ ?_
  refine c_cond (t := true) rfl (fun _ => ?_) (fun h => by cases h)
  refine c_region ?_
  refine o_y (v := .int .u64 (9218868437227405312)) rfl rfl (y_assign rfl) ?_
  refine o_nil ?_
  refine hK3 _ _ ?_
  refine c_seq fun K5 hK5 => ?_
  refine c_region ?_
  refine o_y (v := .int .u64 (9218868437227405312)) rfl rfl (y_move rfl) ?_
  refine o_y (v := .float .f64 (9218868437227405312)) rfl rfl (y_ext (vs := [.int .u64 (9218868437227405312)]) x32 rfl (fun w => x_from (9218868437227405312) w)) ?_
  refine o_y (v := .float .f64 (9218868437227405312)) rfl rfl (y_assign rfl) ?_
  refine o_nil ?_
  refine hK5 _ _ ?_
  refine c_ret ?_
  refine fun w hw => ⟨[.float .f64 (9218868437227405312)], ⟨rfl, trivial⟩, ?_⟩
  exact rfl

set_option maxRecDepth 100000 in
set_option maxHeartbeats 4000000 in
theorem f27_Copysign  (w : World)  :
    Calls Try.prog 27 [.float .f64 (0), .float .f64 (13830554455654793216)].toArray w fun e w' => e = .returned (.float .f64 (9223372036854775808)) ∧ Below w.heap.size w w' := by
  refine (calls_of (P := Try.prog) (n := 13) (w0 := w) (S := fun _ => False) (H := []) (T := fun v _ => v = (.float .f64 (9223372036854775808))) Try.func27 rfl Try.ntmps27 (Nat.le_of_ble_eq_true rfl) [.tmp 4] rfl (St.nil w _) ?_).mono fun e w' ⟨v, H', he, hs, hT⟩ => ⟨by rw [he, hT], hs.below⟩
  refine c_seq fun K1 hK1 => ?_
  refine c_region ?_
  refine o_y (v := .float .f64 (0)) rfl rfl (y_assign rfl) ?_
  refine o_nil ?_
  refine hK1 _ _ ?_
  refine c_seq fun K2 hK2 => ?_
  refine c_region ?_
  refine o_y (v := .float .f64 (0)) rfl rfl (y_move rfl) ?_
  refine o_y (v := .int .u64 (((0 : Nat) : Int))) rfl rfl (y_ext (vs := [.float .f64 (0)]) x13 rfl (fun w => x_bits (0) w)) ?_
  refine o_y (v := .int .u64 (0)) rfl rfl (y_int rfl rfl (fun w => by rfl)) ?_
  refine o_y (v := .float .f64 (13830554455654793216)) rfl rfl (y_move rfl) ?_
  refine o_y (v := .int .u64 (((13830554455654793216 : Nat) : Int))) rfl rfl (y_ext (vs := [.float .f64 (13830554455654793216)]) x13 rfl (fun w => x_bits (13830554455654793216) w)) ?_
  refine o_y (v := .int .u64 (9223372036854775808)) rfl rfl (y_int rfl rfl (fun w => by rfl)) ?_
  refine o_y (v := .int .u64 (9223372036854775808)) rfl rfl (y_int rfl rfl (fun w => by rfl)) ?_
  refine o_y (v := .float .f64 (9223372036854775808)) rfl rfl (y_ext (vs := [.int .u64 (9223372036854775808)]) x32 rfl (fun w => x_from (9223372036854775808) w)) ?_
  refine o_y (v := .float .f64 (9223372036854775808)) rfl rfl (y_assign rfl) ?_
  refine o_nil ?_
  refine hK2 _ _ ?_
  refine c_ret ?_
  refine fun w hw => ⟨[.float .f64 (9223372036854775808)], ⟨rfl, trivial⟩, ?_⟩
  exact rfl

set_option maxRecDepth 100000 in
set_option maxHeartbeats 4000000 in
theorem f28_Abs (a : Nat) (w : World) (ha : a < 18446744073709551616) :
    Calls Try.prog 28 [.float .f64 (a)].toArray w fun e w' => e = .returned (.float .f64 (rg a)) ∧ Below w.heap.size w w' := by
  refine (calls_of (P := Try.prog) (n := 7) (w0 := w) (S := fun _ => False) (H := []) (T := fun v _ => v = (.float .f64 (rg a))) Try.func28 rfl Try.ntmps28 (Nat.le_of_ble_eq_true rfl) [.tmp 2] rfl (St.nil w _) ?_).mono fun e w' ⟨v, H', he, hs, hT⟩ => ⟨by rw [he, hT], hs.below⟩
  refine c_seq fun K1 hK1 => ?_
  refine c_region ?_
  refine o_y (v := .float .f64 (0)) rfl rfl (y_assign rfl) ?_
  refine o_nil ?_
  refine hK1 _ _ ?_
  refine c_seq fun K2 hK2 => ?_
  refine c_region ?_
  refine o_y (v := .float .f64 (a)) rfl rfl (y_move rfl) ?_
  refine o_y (v := .int .u64 (((a : Nat) : Int))) rfl rfl (y_ext (vs := [.float .f64 (a)]) x13 rfl (fun w => x_bits (a) w)) ?_
  refine o_y (v := .int .u64 (((rg a : Nat) : Int))) rfl rfl (y_abs63 ha rfl rfl) ?_
  refine o_y (v := .float .f64 (rg a)) rfl rfl (y_ext (vs := [.int .u64 (((rg a : Nat) : Int))]) x32 rfl (fun w => x_from (rg a) w)) ?_
  refine o_y (v := .float .f64 (rg a)) rfl rfl (y_assign rfl) ?_
  refine o_nil ?_
  refine hK2 _ _ ?_
  refine c_ret ?_
  refine fun w hw => ⟨[.float .f64 (rg a)], ⟨rfl, trivial⟩, ?_⟩
  exact rfl

set_option maxRecDepth 100000 in
set_option maxHeartbeats 4000000 in
theorem f14_IsInf (a : Nat) (s : Int) (w : World) (ha : a < 18446744073709551616) :
    Calls Try.prog 14 [.float .f64 (a), .int .i64 (s)].toArray w fun e w' => e = .returned (.bool (infB a s)) ∧ Below w.heap.size w w' := by
  refine (calls_of (P := Try.prog) (n := 15) (w0 := w) (S := fun _ => False) (H := []) (T := fun v _ => v = (.bool (infB a s))) Try.func14 rfl Try.ntmps14 (Nat.le_of_ble_eq_true rfl) [.tmp 4] rfl (St.nil w _) ?_).mono fun e w' ⟨v, H', he, hs, hT⟩ => ⟨by rw [he, hT], hs.below⟩
  refine c_seq fun K1 hK1 => ?_
  refine c_region ?_
  refine o_y (v := .bool (false)) rfl rfl (y_assign rfl) ?_
  refine o_nil ?_
  refine hK1 _ _ ?_
  refine c_seq fun K2 hK2 => ?_
  refine c_seq fun K3 hK3 => ?_
  refine c_region ?_
  refine o_y (v := .int .i64 (s)) rfl rfl (y_move rfl) ?_
  refine o_y (v := .bool (decide (s = 0))) rfl rfl (y_eql rfl rfl rfl) ?_
  refine o_nil ?_
  refine hK3 _ _ ?_
  refine c_cond (t := decide (s = 0)) rfl (fun hc1 => ?_) (fun hc1 => ?_)
  ·
    replace hc1 := of_decide_eq_true hc1
    -- way T
    refine c_region ?_
    refine o_y (v := .float .f64 (a)) rfl rfl (y_move rfl) ?_
    refine o_y (v := .float .f64 (rg (a))) rfl rfl (y_call (vs := [.float .f64 (a)]) b28 rfl (fun w hw => f28_Abs _ w (by first | assumption | omega | decide | exact FR.lt ‹_› | exact hB _ (List.getElem_mem _) | exact least_lt (fun x hx => hB x (List.mem_of_mem_take hx)) | exact lst_lt (least_lt (fun x hx => hB x (List.mem_of_mem_take hx)))))) ?_
    refine o_y (v := .float .f64 (rg (a))) rfl rfl (y_assign rfl) ?_
    refine o_nil ?_
    refine hK2 _ _ ?_
    refine c_seq fun K4 hK4 => ?_
    refine c_region ?_
    refine o_y (v := .float .f64 (rg (a))) rfl rfl (y_move rfl) ?_
    refine o_y (v := .bool (gtF (rg (a)) (9218868437227405311))) rfl rfl (y_fgt rfl rfl) ?_
    refine o_y (v := .bool (gtF (rg (a)) (9218868437227405311))) rfl rfl (y_assign rfl) ?_
    refine o_nil ?_
    refine hK4 _ _ ?_
    refine c_ret ?_
    refine fun w hw => ⟨[.bool (gtF (rg (a)) (9218868437227405311))], ⟨rfl, trivial⟩, ?_⟩
    exact congrArg Value.bool (by unfold infB maxW; simp [hc1])
    first | done | rfl
  ·
    replace hc1 := of_decide_eq_false hc1
    -- way F
    refine c_seq fun K5 hK5 => ?_
    refine c_region ?_
    refine o_y (v := .int .i64 (s)) rfl rfl (y_move rfl) ?_
    refine o_y (v := .bool (decide (s < 0))) rfl rfl (y_lss rfl rfl rfl) ?_
    refine o_nil ?_
    refine hK5 _ _ ?_
    refine c_cond (t := decide (s < 0)) rfl (fun hc2 => ?_) (fun hc2 => ?_)
    ·
      replace hc2 := of_decide_eq_true hc2
      -- way FT
      refine c_region ?_
      refine o_y (v := .float .f64 (a)) rfl rfl (y_move rfl) ?_
      refine o_y (v := .float .f64 ((a) ^^^ 9223372036854775808)) rfl rfl (y_fneg rfl) ?_
      refine o_y (v := .float .f64 ((a) ^^^ 9223372036854775808)) rfl rfl (y_assign rfl) ?_
      refine o_nil ?_
      refine hK2 _ _ ?_
      refine c_seq fun K6 hK6 => ?_
      refine c_region ?_
      refine o_y (v := .float .f64 ((a) ^^^ 9223372036854775808)) rfl rfl (y_move rfl) ?_
      refine o_y (v := .bool (gtF ((a) ^^^ 9223372036854775808) (9218868437227405311))) rfl rfl (y_fgt rfl rfl) ?_
      refine o_y (v := .bool (gtF ((a) ^^^ 9223372036854775808) (9218868437227405311))) rfl rfl (y_assign rfl) ?_
      refine o_nil ?_
      refine hK6 _ _ ?_
      refine c_ret ?_
      refine fun w hw => ⟨[.bool (gtF ((a) ^^^ 9223372036854775808) (9218868437227405311))], ⟨rfl, trivial⟩, ?_⟩
      exact congrArg Value.bool (by unfold infB maxW; simp [hc1, hc2])
      first | done | rfl
    ·
      replace hc2 := of_decide_eq_false hc2
      -- way FF
      refine c_skip ?_
      refine hK2 _ _ ?_
      refine c_seq fun K7 hK7 => ?_
      refine c_region ?_
      refine o_y (v := .float .f64 (a)) rfl rfl (y_move rfl) ?_
      refine o_y (v := .bool (gtF (a) (9218868437227405311))) rfl rfl (y_fgt rfl rfl) ?_
      refine o_y (v := .bool (gtF (a) (9218868437227405311))) rfl rfl (y_assign rfl) ?_
      refine o_nil ?_
      refine hK7 _ _ ?_
      refine c_ret ?_
      refine fun w hw => ⟨[.bool (gtF (a) (9218868437227405311))], ⟨rfl, trivial⟩, ?_⟩
      exact congrArg Value.bool (by unfold infB maxW; simp [hc1, hc2])
      first | done | rfl

set_option maxRecDepth 100000 in
set_option maxHeartbeats 4000000 in
theorem f31_Floor (a : Nat) (w : World) (hn : nanB a = false) :
    Calls Try.prog 31 [.float .f64 (a)].toArray w fun e w' => e = .returned (.float .f64 (floorW a)) ∧ Below w.heap.size w w' := by
  refine (calls_of (P := Try.prog) (n := 7) (w0 := w) (S := fun _ => False) (H := []) (T := fun v _ => v = (.float .f64 (floorW a))) Try.func31 rfl Try.ntmps31 (Nat.le_of_ble_eq_true rfl) [.tmp 2] rfl (St.nil w _) ?_).mono fun e w' ⟨v, H', he, hs, hT⟩ => ⟨by rw [he, hT], hs.below⟩
  refine c_seq fun K1 hK1 => ?_
  refine c_region ?_
  refine o_y (v := .float .f64 (0)) rfl rfl (y_assign rfl) ?_
  refine o_nil ?_
  refine hK1 _ _ ?_
  refine c_seq fun K2 hK2 => ?_
  refine c_cond (t := true) rfl (fun _ => ?_) (fun h => by cases h)
  refine c_seq fun K3 hK3 => ?_
  refine c_region ?_
  refine o_y (v := .float .f64 (a)) rfl rfl (y_move rfl) ?_
  refine o_y (v := .float .f64 (floorW (a))) rfl rfl (y_ext (vs := [.float .f64 (a)]) x33 rfl (fun w => x_floor hn w)) ?_
  refine o_y (v := .float .f64 (floorW (a))) rfl rfl (y_assign rfl) ?_
  refine o_nil ?_
  refine hK3 _ _ ?_
  refine c_ret ?_
  refine fun w hw => ⟨[.float .f64 (floorW (a))], ⟨rfl, trivial⟩, ?_⟩
  exact rfl

end Go.Proofs.Ytikmjecjolppdaa.Gauge
