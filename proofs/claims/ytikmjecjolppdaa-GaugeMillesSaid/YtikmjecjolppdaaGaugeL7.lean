/- Proved: what a law of package gauge comes to; the conditions stand in the statements. -/
import Derived.Test.YtikmjecjolppdaaGaugeH
set_option linter.unusedVariables false
set_option linter.unusedSimpArgs false
namespace Go.Proofs.Ytikmjecjolppdaa.Gauge
open Go Go.RowKit Go.Proofs.Ytikmjecjolppdaa.Eng Go.Proofs.Ytikmjecjolppdaa.Fl

set_option maxRecDepth 100000 in
set_option maxHeartbeats 4000000 in
theorem f7_GaugeMilles (x : Nat) (w : World)  :
    Calls Try.prog 7 [.float .f64 (x)].toArray w fun e w' => e = .returned (.bool (true)) ∧ Below w.heap.size w w' := by
  refine (calls_of (P := Try.prog) (n := 28) (w0 := w) (S := fun _ => False) (H := []) (T := fun v _ => v = (.bool (true))) Try.func7 rfl Try.ntmps7 (Nat.le_of_ble_eq_true rfl) [.tmp 2] rfl (St.nil w _) ?_).mono fun e w' ⟨v, H', he, hs, hT⟩ => ⟨by rw [he, hT], hs.below⟩
  refine c_seq fun K1 hK1 => ?_
  refine c_region ?_
  refine o_y (v := .bool (false)) rfl rfl (y_assign rfl) ?_
  refine o_nil ?_
  refine hK1 _ _ ?_
  refine c_seq fun K2 hK2 => ?_
  refine c_region ?_
  refine o_y (v := .float .f64 (x)) rfl rfl (y_move rfl) ?_
  refine o_y (v := .tuple #[.int .i64 (millN (x)), .int .i64 (millE (x))]) rfl rfl (y_call (vs := [.float .f64 (x)]) b23 rfl (fun w hw => f23_Mille _ w)) ?_
  refine o_y (v := .tuple #[.int .i64 (millN (x)), .int .i64 (millE (x))]) rfl rfl (y_move rfl) ?_
  refine o_y (v := .int .i64 (millN (x))) rfl rfl (y_extract (vs := #[.int .i64 (millN (x)), .int .i64 (millE (x))]) rfl rfl) ?_
  refine o_y (v := .int .i64 (millE (x))) rfl rfl (y_extract (vs := #[.int .i64 (millN (x)), .int .i64 (millE (x))]) rfl rfl) ?_
  refine o_y (v := .int .i64 (millN (x))) rfl rfl (y_assign rfl) ?_
  refine o_y (v := .int .i64 (millE (x))) rfl rfl (y_assign rfl) ?_
  refine o_nil ?_
  refine hK2 _ _ ?_
  refine c_seq fun K3 hK3 => ?_
  refine c_region ?_
  refine o_y (v := .float .f64 (x)) rfl rfl (y_move rfl) ?_
  refine o_y (v := .tuple #[.int .i64 (millN (x)), .int .i64 (millE (x))]) rfl rfl (y_call (vs := [.float .f64 (x)]) b24 rfl (fun w hw => f24_Mille _ w)) ?_
  refine o_y (v := .tuple #[.int .i64 (millN (x)), .int .i64 (millE (x))]) rfl rfl (y_move rfl) ?_
  refine o_y (v := .int .i64 (millN (x))) rfl rfl (y_extract (vs := #[.int .i64 (millN (x)), .int .i64 (millE (x))]) rfl rfl) ?_
  refine o_y (v := .int .i64 (millE (x))) rfl rfl (y_extract (vs := #[.int .i64 (millN (x)), .int .i64 (millE (x))]) rfl rfl) ?_
  refine o_y (v := .int .i64 (millN (x))) rfl rfl (y_assign rfl) ?_
  refine o_y (v := .int .i64 (millE (x))) rfl rfl (y_assign rfl) ?_
  refine o_nil ?_
  refine hK3 _ _ ?_
  refine c_seq fun K4 hK4 => ?_
  refine c_region ?_
  refine o_y (v := .int .i64 (millN (x))) rfl rfl (y_move rfl) ?_
  refine o_y (v := .int .i64 (millN (x))) rfl rfl (y_move rfl) ?_
  refine o_y (v := .bool (true)) rfl rfl (y_bool (y_eql rfl rfl rfl) (decide_eq_true rfl)) ?_
  refine o_y (v := .bool (true)) rfl rfl (y_move rfl) ?_
  refine o_guard (j := 3) (d := 20) (b := true) rfl rfl rfl (fun _ => ?_) rfl (fun h => by cases h)
  refine o_y (v := .int .i64 (millE (x))) rfl rfl (y_move rfl) ?_
  refine o_guard (j := 3) (d := 20) (b := true) rfl rfl rfl (fun _ => ?_) rfl (fun h => by cases h)
  refine o_y (v := .int .i64 (millE (x))) rfl rfl (y_move rfl) ?_
  refine o_guard (j := 3) (d := 20) (b := true) rfl rfl rfl (fun _ => ?_) rfl (fun h => by cases h)
  refine o_y (v := .bool (true)) rfl rfl (y_bool (y_eql rfl rfl rfl) (decide_eq_true rfl)) ?_
  refine o_y (v := .bool (true)) rfl rfl (y_pick (b := true) rfl rfl) ?_
  refine o_y (v := .bool (true)) rfl rfl (y_move rfl) ?_
  refine o_guard (j := 8) (d := 25) (b := true) rfl rfl rfl (fun _ => ?_) rfl (fun h => by cases h)
  refine o_y (v := .bool (true)) rfl rfl (y_call (vs := []) b12 rfl (fun w hw => f12_lives w)) ?_
  refine o_y (v := .bool (true)) rfl rfl (y_pick (b := true) rfl rfl) ?_
  refine o_y (v := .bool (true)) rfl rfl (y_assign rfl) ?_
  refine o_nil ?_
  refine hK4 _ _ ?_
  refine c_ret ?_
  refine fun w hw => ⟨[.bool (true)], ⟨rfl, trivial⟩, ?_⟩
  exact rfl

end Go.Proofs.Ytikmjecjolppdaa.Gauge
