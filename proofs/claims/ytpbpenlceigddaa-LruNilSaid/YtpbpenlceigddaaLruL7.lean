/- Proved: what a law of package lru comes to; the conditions stand in the statements. -/
import Derived.Test.YtpbpenlceigddaaLruH
set_option linter.unusedVariables false
set_option linter.unusedSimpArgs false
set_option linter.unnecessarySimpa false
namespace Go.Proofs.Ytpbpenlceigddaa.Lru
open Go Go.RowKit Go.Proofs.Ytpbpenlceigddaa.Eng

set_option maxRecDepth 100000 in
set_option maxHeartbeats 4000000 in
theorem f7_LruNil (k : Int) (b z : Bool) (w : World)  :
    Calls Try.prog 7 [.int .i64 (k), .bool (b), .bool (z)].toArray w fun e w' => e = .returned (.bool (true)) ∧ Below w.heap.size w w' := by
  refine (calls_of (P := Try.prog) (n := 66) (w0 := w) (S := fun _ => False) (H := []) (T := fun v _ => v = (.bool (true))) Try.func7 rfl Try.ntmps7 (Nat.le_of_ble_eq_true rfl) [.tmp 6] rfl (St.nil w _) ?_).mono fun e w' ⟨v, H', he, hs, hT⟩ => ⟨by rw [he, hT], hs.below⟩
  refine c_seq fun K1 hK1 => ?_
  refine c_region ?_
  refine o_y (v := .bool (false)) rfl rfl (y_assign rfl) ?_
  refine o_nil ?_
  refine hK1 _ _ ?_
  refine c_seq fun K2 hK2 => ?_
  refine c_region ?_
  refine o_y (v := .pointer none) rfl rfl (y_assign rfl) ?_
  refine o_nil ?_
  refine hK2 _ _ ?_
  refine c_seq fun K3 hK3 => ?_
  refine c_seq fun K4 hK4 => ?_
  refine c_region ?_
  refine o_y (v := .bool (z)) rfl rfl (y_move rfl) ?_
  refine o_nil ?_
  refine hK4 _ _ ?_
  refine c_cond (t := z) rfl (fun hc1 => ?_) (fun hc1 => ?_)
  ·
    -- way T
    refine c_region ?_
    refine o_y (v := .agg (#[.int .i64 (0), .map none, .pointer none])) rfl rfl (y_build rfl (by kernel_rfl)) ?_
    refine o_box (v := .agg (#[.int .i64 (0), .map none, .pointer none])) rfl rfl fun g1 => ?_
    refine o_y (v := .pointer (some ⟨g1, 0, none⟩)) rfl rfl (y_assign rfl) ?_
    refine o_nil ?_
    refine hK3 _ _ ?_
    refine c_seq fun K5 hK5 => ?_
    refine c_region ?_
    refine o_y (v := .pointer (some ⟨g1, 0, none⟩)) rfl rfl (y_move rfl) ?_
    refine o_y (v := .int .i64 (k)) rfl rfl (y_move rfl) ?_
    refine o_y (v := .tuple #[.int .i64 (0), .bool (false), .int .i64 (1)]) rfl rfl (y_call (vs := [.pointer (some ⟨g1, 0, none⟩), .int .i64 (k)]) b9 rfl (fun w hw => f9_TouchZ g1 (k) w (hw.sat (List.Sublist.slnil.cons_cons _)))) ?_
    refine o_y (v := .tuple #[.int .i64 (0), .bool (false), .int .i64 (1)]) rfl rfl (y_move rfl) ?_
    refine o_y (v := .int .i64 (0)) rfl rfl (y_extract (vs := #[.int .i64 (0), .bool (false), .int .i64 (1)]) rfl rfl) ?_
    refine o_y (v := .bool (false)) rfl rfl (y_extract (vs := #[.int .i64 (0), .bool (false), .int .i64 (1)]) rfl rfl) ?_
    refine o_y (v := .int .i64 (1)) rfl rfl (y_extract (vs := #[.int .i64 (0), .bool (false), .int .i64 (1)]) rfl rfl) ?_
    refine o_y (v := .int .i64 (0)) rfl rfl (y_assign rfl) ?_
    refine o_y (v := .bool (false)) rfl rfl (y_assign rfl) ?_
    refine o_y (v := .int .i64 (1)) rfl rfl (y_assign rfl) ?_
    refine o_nil ?_
    refine hK5 _ _ ?_
    refine c_seq fun K6 hK6 => ?_
    refine c_region ?_
    refine o_y (v := .bool (false)) rfl rfl (y_move rfl) ?_
    refine o_y (v := .bool (true)) rfl rfl (y_not rfl rfl) ?_
    refine o_y (v := .bool (true)) rfl rfl (y_move rfl) ?_
    refine o_guard (j := 2) (d := 23) (b := true) rfl rfl rfl (fun _ => ?_) rfl (fun h => by cases h)
    refine o_y (v := .int .i64 (1)) rfl rfl (y_move rfl) ?_
    refine o_guard (j := 2) (d := 23) (b := true) rfl rfl rfl (fun _ => ?_) rfl (fun h => by cases h)
    refine o_y (v := .bool (true)) rfl rfl (y_eql rfl rfl (by decide)) ?_
    refine o_y (v := .bool (true)) rfl rfl (y_pick (b := true) rfl rfl) ?_
    refine o_y (v := .bool (true)) rfl rfl (y_move rfl) ?_
    refine o_guard (j := 6) (d := 27) (b := true) rfl rfl rfl (fun _ => ?_) rfl (fun h => by cases h)
    refine o_y (v := .pointer (some ⟨g1, 0, none⟩)) rfl rfl (y_move rfl) ?_
    refine o_guard (j := 6) (d := 27) (b := true) rfl rfl rfl (fun _ => ?_) rfl (fun h => by cases h)
    refine o_y (v := .int .i64 (k)) rfl rfl (y_move rfl) ?_
    refine o_guard (j := 6) (d := 27) (b := true) rfl rfl rfl (fun _ => ?_) rfl (fun h => by cases h)
    refine o_y (v := .bool (b)) rfl rfl (y_move rfl) ?_
    refine o_guard (j := 6) (d := 27) (b := true) rfl rfl rfl (fun _ => ?_) rfl (fun h => by cases h)
    refine o_y (v := .int .i64 (1)) rfl rfl (y_call (vs := [.pointer (some ⟨g1, 0, none⟩), .int .i64 (k), .bool (b)]) b13 rfl (fun w hw => f13_PinZ g1 (k) (b) w (hw.sat (List.Sublist.slnil.cons_cons _)))) ?_
    refine o_guard (j := 6) (d := 27) (b := true) rfl rfl rfl (fun _ => ?_) rfl (fun h => by cases h)
    refine o_y (v := .bool (true)) rfl rfl (y_eql rfl rfl (by decide)) ?_
    refine o_y (v := .bool (true)) rfl rfl (y_pick (b := true) rfl rfl) ?_
    refine o_y (v := .bool (true)) rfl rfl (y_move rfl) ?_
    refine o_guard (j := 13) (d := 34) (b := true) rfl rfl rfl (fun _ => ?_) rfl (fun h => by cases h)
    refine o_y (v := .pointer (some ⟨g1, 0, none⟩)) rfl rfl (y_move rfl) ?_
    refine o_guard (j := 13) (d := 34) (b := true) rfl rfl rfl (fun _ => ?_) rfl (fun h => by cases h)
    refine o_y (v := .int .i64 (k)) rfl rfl (y_move rfl) ?_
    refine o_guard (j := 13) (d := 34) (b := true) rfl rfl rfl (fun _ => ?_) rfl (fun h => by cases h)
    refine o_y (v := .int .i64 (1)) rfl rfl (y_call (vs := [.pointer (some ⟨g1, 0, none⟩), .int .i64 (k)]) b15 rfl (fun w hw => f15_DropZ g1 (k) w (hw.sat (List.Sublist.slnil.cons_cons _)))) ?_
    refine o_guard (j := 13) (d := 34) (b := true) rfl rfl rfl (fun _ => ?_) rfl (fun h => by cases h)
    refine o_y (v := .bool (true)) rfl rfl (y_eql rfl rfl (by decide)) ?_
    refine o_y (v := .bool (true)) rfl rfl (y_pick (b := true) rfl rfl) ?_
    refine o_y (v := .bool (true)) rfl rfl (y_move rfl) ?_
    refine o_guard (j := 19) (d := 40) (b := true) rfl rfl rfl (fun _ => ?_) rfl (fun h => by cases h)
    refine o_y (v := .pointer (some ⟨g1, 0, none⟩)) rfl rfl (y_move rfl) ?_
    refine o_guard (j := 19) (d := 40) (b := true) rfl rfl rfl (fun _ => ?_) rfl (fun h => by cases h)
    refine o_y (v := .int .i64 (k)) rfl rfl (y_move rfl) ?_
    refine o_guard (j := 19) (d := 40) (b := true) rfl rfl rfl (fun _ => ?_) rfl (fun h => by cases h)
    refine o_y (v := .bool (false)) rfl rfl (y_call (vs := [.pointer (some ⟨g1, 0, none⟩), .int .i64 (k)]) b14 rfl (fun w hw => f14_HasZ g1 (k) w (hw.sat (List.Sublist.slnil.cons_cons _)))) ?_
    refine o_guard (j := 19) (d := 40) (b := true) rfl rfl rfl (fun _ => ?_) rfl (fun h => by cases h)
    refine o_y (v := .bool (true)) rfl rfl (y_not rfl rfl) ?_
    refine o_y (v := .bool (true)) rfl rfl (y_pick (b := true) rfl rfl) ?_
    refine o_y (v := .bool (true)) rfl rfl (y_move rfl) ?_
    refine o_guard (j := 25) (d := 46) (b := true) rfl rfl rfl (fun _ => ?_) rfl (fun h => by cases h)
    refine o_y (v := .pointer (some ⟨g1, 0, none⟩)) rfl rfl (y_move rfl) ?_
    refine o_guard (j := 25) (d := 46) (b := true) rfl rfl rfl (fun _ => ?_) rfl (fun h => by cases h)
    refine o_y (v := .int .i64 (k)) rfl rfl (y_move rfl) ?_
    refine o_guard (j := 25) (d := 46) (b := true) rfl rfl rfl (fun _ => ?_) rfl (fun h => by cases h)
    refine o_y (v := .bool (false)) rfl rfl (y_call (vs := [.pointer (some ⟨g1, 0, none⟩), .int .i64 (k)]) b16 rfl (fun w hw => f16_PinnedZ g1 (k) w (hw.sat (List.Sublist.slnil.cons_cons _)))) ?_
    refine o_guard (j := 25) (d := 46) (b := true) rfl rfl rfl (fun _ => ?_) rfl (fun h => by cases h)
    refine o_y (v := .bool (true)) rfl rfl (y_not rfl rfl) ?_
    refine o_y (v := .bool (true)) rfl rfl (y_pick (b := true) rfl rfl) ?_
    refine o_y (v := .bool (true)) rfl rfl (y_move rfl) ?_
    refine o_guard (j := 31) (d := 52) (b := true) rfl rfl rfl (fun _ => ?_) rfl (fun h => by cases h)
    refine o_y (v := .pointer (some ⟨g1, 0, none⟩)) rfl rfl (y_move rfl) ?_
    refine o_guard (j := 31) (d := 52) (b := true) rfl rfl rfl (fun _ => ?_) rfl (fun h => by cases h)
    refine o_y (v := .slice none 0 0) rfl rfl (y_call (vs := [.pointer (some ⟨g1, 0, none⟩)]) b11 rfl (fun w hw => f11_KeysZ g1  w (hw.sat (List.Sublist.slnil.cons_cons _)))) ?_
    refine o_guard (j := 31) (d := 52) (b := true) rfl rfl rfl (fun _ => ?_) rfl (fun h => by cases h)
    refine o_y (v := .int .i64 (((0 : Nat) : Int))) rfl rfl (y_len rfl Try.underlying22) ?_
    refine o_guard (j := 31) (d := 52) (b := true) rfl rfl rfl (fun _ => ?_) rfl (fun h => by cases h)
    refine o_y (v := .bool (true)) rfl rfl (y_bool (y_eql rfl rfl rfl) (decide_eq_true rfl)) ?_
    refine o_y (v := .bool (true)) rfl rfl (y_pick (b := true) rfl rfl) ?_
    refine o_y (v := .bool (true)) rfl rfl (y_move rfl) ?_
    refine o_guard (j := 37) (d := 58) (b := true) rfl rfl rfl (fun _ => ?_) rfl (fun h => by cases h)
    refine o_y (v := .pointer (some ⟨g1, 0, none⟩)) rfl rfl (y_move rfl) ?_
    refine o_guard (j := 37) (d := 58) (b := true) rfl rfl rfl (fun _ => ?_) rfl (fun h => by cases h)
    refine o_y (v := .int .i64 (0)) rfl rfl (y_call (vs := [.pointer (some ⟨g1, 0, none⟩)]) b20 rfl (fun w hw => f20_RoomZ g1 w (hw.sat (List.Sublist.slnil.cons_cons _)))) ?_
    refine o_guard (j := 37) (d := 58) (b := true) rfl rfl rfl (fun _ => ?_) rfl (fun h => by cases h)
    refine o_y (v := .bool (true)) rfl rfl (y_eql rfl rfl (by decide)) ?_
    refine o_y (v := .bool (true)) rfl rfl (y_pick (b := true) rfl rfl) ?_
    refine o_y (v := .bool (true)) rfl rfl (y_move rfl) ?_
    refine o_guard (j := 42) (d := 63) (b := true) rfl rfl rfl (fun _ => ?_) rfl (fun h => by cases h)
    refine o_y (v := .bool (true)) rfl rfl (y_call (vs := []) b12 rfl (fun w hw => f12_lives w)) ?_
    refine o_y (v := .bool (true)) rfl rfl (y_pick (b := true) rfl rfl) ?_
    refine o_y (v := .bool (true)) rfl rfl (y_assign rfl) ?_
    refine o_nil ?_
    refine hK6 _ _ ?_
    refine c_ret ?_
    refine fun w hw => ⟨[.bool (true)], ⟨rfl, trivial⟩, ?_⟩
    exact rfl
  ·
    -- way F
    refine c_skip ?_
    refine hK3 _ _ ?_
    refine c_seq fun K7 hK7 => ?_
    refine c_region ?_
    refine o_y (v := .pointer none) rfl rfl (y_move rfl) ?_
    refine o_y (v := .int .i64 (k)) rfl rfl (y_move rfl) ?_
    refine o_y (v := .tuple #[.int .i64 (0), .bool (false), .int .i64 (1)]) rfl rfl (y_call (vs := [.pointer none, .int .i64 (k)]) b9 rfl (fun w hw => f9_TouchN (k) w)) ?_
    refine o_y (v := .tuple #[.int .i64 (0), .bool (false), .int .i64 (1)]) rfl rfl (y_move rfl) ?_
    refine o_y (v := .int .i64 (0)) rfl rfl (y_extract (vs := #[.int .i64 (0), .bool (false), .int .i64 (1)]) rfl rfl) ?_
    refine o_y (v := .bool (false)) rfl rfl (y_extract (vs := #[.int .i64 (0), .bool (false), .int .i64 (1)]) rfl rfl) ?_
    refine o_y (v := .int .i64 (1)) rfl rfl (y_extract (vs := #[.int .i64 (0), .bool (false), .int .i64 (1)]) rfl rfl) ?_
    refine o_y (v := .int .i64 (0)) rfl rfl (y_assign rfl) ?_
    refine o_y (v := .bool (false)) rfl rfl (y_assign rfl) ?_
    refine o_y (v := .int .i64 (1)) rfl rfl (y_assign rfl) ?_
    refine o_nil ?_
    refine hK7 _ _ ?_
    refine c_seq fun K8 hK8 => ?_
    refine c_region ?_
    refine o_y (v := .bool (false)) rfl rfl (y_move rfl) ?_
    refine o_y (v := .bool (true)) rfl rfl (y_not rfl rfl) ?_
    refine o_y (v := .bool (true)) rfl rfl (y_move rfl) ?_
    refine o_guard (j := 2) (d := 23) (b := true) rfl rfl rfl (fun _ => ?_) rfl (fun h => by cases h)
    refine o_y (v := .int .i64 (1)) rfl rfl (y_move rfl) ?_
    refine o_guard (j := 2) (d := 23) (b := true) rfl rfl rfl (fun _ => ?_) rfl (fun h => by cases h)
    refine o_y (v := .bool (true)) rfl rfl (y_eql rfl rfl (by decide)) ?_
    refine o_y (v := .bool (true)) rfl rfl (y_pick (b := true) rfl rfl) ?_
    refine o_y (v := .bool (true)) rfl rfl (y_move rfl) ?_
    refine o_guard (j := 6) (d := 27) (b := true) rfl rfl rfl (fun _ => ?_) rfl (fun h => by cases h)
    refine o_y (v := .pointer none) rfl rfl (y_move rfl) ?_
    refine o_guard (j := 6) (d := 27) (b := true) rfl rfl rfl (fun _ => ?_) rfl (fun h => by cases h)
    refine o_y (v := .int .i64 (k)) rfl rfl (y_move rfl) ?_
    refine o_guard (j := 6) (d := 27) (b := true) rfl rfl rfl (fun _ => ?_) rfl (fun h => by cases h)
    refine o_y (v := .bool (b)) rfl rfl (y_move rfl) ?_
    refine o_guard (j := 6) (d := 27) (b := true) rfl rfl rfl (fun _ => ?_) rfl (fun h => by cases h)
    refine o_y (v := .int .i64 (1)) rfl rfl (y_call (vs := [.pointer none, .int .i64 (k), .bool (b)]) b13 rfl (fun w hw => f13_PinN (k) (b) w)) ?_
    refine o_guard (j := 6) (d := 27) (b := true) rfl rfl rfl (fun _ => ?_) rfl (fun h => by cases h)
    refine o_y (v := .bool (true)) rfl rfl (y_eql rfl rfl (by decide)) ?_
    refine o_y (v := .bool (true)) rfl rfl (y_pick (b := true) rfl rfl) ?_
    refine o_y (v := .bool (true)) rfl rfl (y_move rfl) ?_
    refine o_guard (j := 13) (d := 34) (b := true) rfl rfl rfl (fun _ => ?_) rfl (fun h => by cases h)
    refine o_y (v := .pointer none) rfl rfl (y_move rfl) ?_
    refine o_guard (j := 13) (d := 34) (b := true) rfl rfl rfl (fun _ => ?_) rfl (fun h => by cases h)
    refine o_y (v := .int .i64 (k)) rfl rfl (y_move rfl) ?_
    refine o_guard (j := 13) (d := 34) (b := true) rfl rfl rfl (fun _ => ?_) rfl (fun h => by cases h)
    refine o_y (v := .int .i64 (1)) rfl rfl (y_call (vs := [.pointer none, .int .i64 (k)]) b15 rfl (fun w hw => f15_DropN (k) w)) ?_
    refine o_guard (j := 13) (d := 34) (b := true) rfl rfl rfl (fun _ => ?_) rfl (fun h => by cases h)
    refine o_y (v := .bool (true)) rfl rfl (y_eql rfl rfl (by decide)) ?_
    refine o_y (v := .bool (true)) rfl rfl (y_pick (b := true) rfl rfl) ?_
    refine o_y (v := .bool (true)) rfl rfl (y_move rfl) ?_
    refine o_guard (j := 19) (d := 40) (b := true) rfl rfl rfl (fun _ => ?_) rfl (fun h => by cases h)
    refine o_y (v := .pointer none) rfl rfl (y_move rfl) ?_
    refine o_guard (j := 19) (d := 40) (b := true) rfl rfl rfl (fun _ => ?_) rfl (fun h => by cases h)
    refine o_y (v := .int .i64 (k)) rfl rfl (y_move rfl) ?_
    refine o_guard (j := 19) (d := 40) (b := true) rfl rfl rfl (fun _ => ?_) rfl (fun h => by cases h)
    refine o_y (v := .bool (false)) rfl rfl (y_call (vs := [.pointer none, .int .i64 (k)]) b14 rfl (fun w hw => f14_HasN (k) w)) ?_
    refine o_guard (j := 19) (d := 40) (b := true) rfl rfl rfl (fun _ => ?_) rfl (fun h => by cases h)
    refine o_y (v := .bool (true)) rfl rfl (y_not rfl rfl) ?_
    refine o_y (v := .bool (true)) rfl rfl (y_pick (b := true) rfl rfl) ?_
    refine o_y (v := .bool (true)) rfl rfl (y_move rfl) ?_
    refine o_guard (j := 25) (d := 46) (b := true) rfl rfl rfl (fun _ => ?_) rfl (fun h => by cases h)
    refine o_y (v := .pointer none) rfl rfl (y_move rfl) ?_
    refine o_guard (j := 25) (d := 46) (b := true) rfl rfl rfl (fun _ => ?_) rfl (fun h => by cases h)
    refine o_y (v := .int .i64 (k)) rfl rfl (y_move rfl) ?_
    refine o_guard (j := 25) (d := 46) (b := true) rfl rfl rfl (fun _ => ?_) rfl (fun h => by cases h)
    refine o_y (v := .bool (false)) rfl rfl (y_call (vs := [.pointer none, .int .i64 (k)]) b16 rfl (fun w hw => f16_PinnedN (k) w)) ?_
    refine o_guard (j := 25) (d := 46) (b := true) rfl rfl rfl (fun _ => ?_) rfl (fun h => by cases h)
    refine o_y (v := .bool (true)) rfl rfl (y_not rfl rfl) ?_
    refine o_y (v := .bool (true)) rfl rfl (y_pick (b := true) rfl rfl) ?_
    refine o_y (v := .bool (true)) rfl rfl (y_move rfl) ?_
    refine o_guard (j := 31) (d := 52) (b := true) rfl rfl rfl (fun _ => ?_) rfl (fun h => by cases h)
    refine o_y (v := .pointer none) rfl rfl (y_move rfl) ?_
    refine o_guard (j := 31) (d := 52) (b := true) rfl rfl rfl (fun _ => ?_) rfl (fun h => by cases h)
    refine o_y (v := .slice none 0 0) rfl rfl (y_call (vs := [.pointer none]) b11 rfl (fun w hw => f11_KeysN  w)) ?_
    refine o_guard (j := 31) (d := 52) (b := true) rfl rfl rfl (fun _ => ?_) rfl (fun h => by cases h)
    refine o_y (v := .int .i64 (((0 : Nat) : Int))) rfl rfl (y_len rfl Try.underlying22) ?_
    refine o_guard (j := 31) (d := 52) (b := true) rfl rfl rfl (fun _ => ?_) rfl (fun h => by cases h)
    refine o_y (v := .bool (true)) rfl rfl (y_bool (y_eql rfl rfl rfl) (decide_eq_true rfl)) ?_
    refine o_y (v := .bool (true)) rfl rfl (y_pick (b := true) rfl rfl) ?_
    refine o_y (v := .bool (true)) rfl rfl (y_move rfl) ?_
    refine o_guard (j := 37) (d := 58) (b := true) rfl rfl rfl (fun _ => ?_) rfl (fun h => by cases h)
    refine o_y (v := .pointer none) rfl rfl (y_move rfl) ?_
    refine o_guard (j := 37) (d := 58) (b := true) rfl rfl rfl (fun _ => ?_) rfl (fun h => by cases h)
    refine o_y (v := .int .i64 (0)) rfl rfl (y_call (vs := [.pointer none]) b20 rfl (fun w hw => f20_RoomN w)) ?_
    refine o_guard (j := 37) (d := 58) (b := true) rfl rfl rfl (fun _ => ?_) rfl (fun h => by cases h)
    refine o_y (v := .bool (true)) rfl rfl (y_eql rfl rfl (by decide)) ?_
    refine o_y (v := .bool (true)) rfl rfl (y_pick (b := true) rfl rfl) ?_
    refine o_y (v := .bool (true)) rfl rfl (y_move rfl) ?_
    refine o_guard (j := 42) (d := 63) (b := true) rfl rfl rfl (fun _ => ?_) rfl (fun h => by cases h)
    refine o_y (v := .bool (true)) rfl rfl (y_call (vs := []) b12 rfl (fun w hw => f12_lives w)) ?_
    refine o_y (v := .bool (true)) rfl rfl (y_pick (b := true) rfl rfl) ?_
    refine o_y (v := .bool (true)) rfl rfl (y_assign rfl) ?_
    refine o_nil ?_
    refine hK8 _ _ ?_
    refine c_ret ?_
    refine fun w hw => ⟨[.bool (true)], ⟨rfl, trivial⟩, ?_⟩
    exact rfl

end Go.Proofs.Ytpbpenlceigddaa.Lru
