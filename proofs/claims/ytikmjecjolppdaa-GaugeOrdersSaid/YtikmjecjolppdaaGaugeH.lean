/- Proved: what the trial comes to; the conditions stand in the statements. -/
import Derived.Test.YtikmjecjolppdaaGaugeG
set_option linter.unusedVariables false
set_option linter.unusedSimpArgs false
namespace Go.Proofs.Ytikmjecjolppdaa.Gauge
open Go Go.RowKit Go.Proofs.Ytikmjecjolppdaa.Eng Go.Proofs.Ytikmjecjolppdaa.Fl

set_option maxRecDepth 100000 in
set_option maxHeartbeats 4000000 in
theorem f12_lives  (w : World)  :
    Calls Try.prog 12 [].toArray w fun e w' => e = .returned (.bool (true)) ∧ Below w.heap.size w w' := by
  refine (calls_of (P := Try.prog) (n := 112) (w0 := w) (S := fun _ => False) (H := []) (T := fun v _ => v = (.bool (true))) Try.func12 rfl Try.ntmps12 (Nat.le_of_ble_eq_true rfl) [.tmp 0] rfl (St.nil w _) ?_).mono fun e w' ⟨v, H', he, hs, hT⟩ => ⟨by rw [he, hT], hs.below⟩
  refine c_seq fun K1 hK1 => ?_
  refine c_region ?_
  refine o_y (v := .bool (false)) rfl rfl (y_assign rfl) ?_
  refine o_nil ?_
  refine hK1 _ _ ?_
  refine c_seq fun K2 hK2 => ?_
  refine c_region ?_
  refine o_y (v := .float .f64 (nanW)) rfl rfl (y_call (vs := []) b25 rfl (fun w hw => f25_NaN w)) ?_
  refine o_y (v := .float .f64 (nanW)) rfl rfl (y_assign rfl) ?_
  refine o_nil ?_
  refine hK2 _ _ ?_
  refine c_seq fun K3 hK3 => ?_
  refine c_region ?_
  refine o_y (v := .float .f64 (nanW)) rfl rfl (y_move rfl) ?_
  refine o_buildRow SL30 ([(nanW), (4611686018427387904), (4607182418800017408)] : List Nat) (fun x => .float .f64 x) (fun _ => rfl) rfl rfl (by rw [Array.toList_map]; rfl) (by simp) (by simp [eFl]) fun g1 cg1 hrg1 => ?_
  refine o_y (v := .tuple #[.float .f64 (lstW (leastG ([(nanW), (4611686018427387904), (4607182418800017408)]))), .bool (!(nanB (leastG ([(nanW), (4611686018427387904), (4607182418800017408)]))))]) rfl rfl (y_call (vs := [.slice (some ⟨g1, 0, none⟩) (3) (3)]) b15 rfl (fun w hw => f15_Least ([(nanW), (4611686018427387904), (4607182418800017408)]) _ _ _ _ _ w (by first | rfl | (simp; done)) ((SlG.row (k := 0) rfl hrg1) w hw) (by first | assumption | decide))) ?_
  refine o_y (v := .tuple #[.float .f64 (lstW (leastG ([(nanW), (4611686018427387904), (4607182418800017408)]))), .bool (!(nanB (leastG ([(nanW), (4611686018427387904), (4607182418800017408)]))))]) rfl rfl (y_move rfl) ?_
  refine o_y (v := .float .f64 (lstW (leastG ([(nanW), (4611686018427387904), (4607182418800017408)])))) rfl rfl (y_extract (vs := #[.float .f64 (lstW (leastG ([(nanW), (4611686018427387904), (4607182418800017408)]))), .bool (!(nanB (leastG ([(nanW), (4611686018427387904), (4607182418800017408)]))))]) rfl rfl) ?_
  refine o_y (v := .bool (true)) rfl rfl (y_bool (y_extract (vs := #[.float .f64 (lstW (leastG ([(nanW), (4611686018427387904), (4607182418800017408)]))), .bool (!(nanB (leastG ([(nanW), (4611686018427387904), (4607182418800017408)]))))]) rfl rfl) (by decide +kernel)) ?_
  refine o_y (v := .float .f64 (lstW (leastG ([(nanW), (4611686018427387904), (4607182418800017408)])))) rfl rfl (y_assign rfl) ?_
  refine o_y (v := .bool (true)) rfl rfl (y_assign rfl) ?_
  refine o_nil ?_
  refine hK3 _ _ ?_
  refine c_seq fun K4 hK4 => ?_
  refine c_region ?_
  refine o_y (v := .float .f64 (nanW)) rfl rfl (y_move rfl) ?_
  refine o_buildRow SL30 ([(nanW)] : List Nat) (fun x => .float .f64 x) (fun _ => rfl) rfl rfl (by rw [Array.toList_map]; rfl) (by simp) (by simp [eFl]) fun g2 cg2 hrg2 => ?_
  refine o_y (v := .tuple #[.float .f64 (lstW (leastG ([(nanW)]))), .bool (!(nanB (leastG ([(nanW)]))))]) rfl rfl (y_call (vs := [.slice (some ⟨g2, 0, none⟩) (1) (1)]) b15 rfl (fun w hw => f15_Least ([(nanW)]) _ _ _ _ _ w (by first | rfl | (simp; done)) ((SlG.row (k := 0) rfl hrg2) w hw) (by first | assumption | decide))) ?_
  refine o_y (v := .tuple #[.float .f64 (lstW (leastG ([(nanW)]))), .bool (!(nanB (leastG ([(nanW)]))))]) rfl rfl (y_move rfl) ?_
  refine o_y (v := .float .f64 (lstW (leastG ([(nanW)])))) rfl rfl (y_extract (vs := #[.float .f64 (lstW (leastG ([(nanW)]))), .bool (!(nanB (leastG ([(nanW)]))))]) rfl rfl) ?_
  refine o_y (v := .bool (false)) rfl rfl (y_bool (y_extract (vs := #[.float .f64 (lstW (leastG ([(nanW)]))), .bool (!(nanB (leastG ([(nanW)]))))]) rfl rfl) (by decide +kernel)) ?_
  refine o_y (v := .float .f64 (lstW (leastG ([(nanW)])))) rfl rfl (y_assign rfl) ?_
  refine o_y (v := .bool (false)) rfl rfl (y_assign rfl) ?_
  refine o_nil ?_
  refine hK4 _ _ ?_
  refine c_seq fun K5 hK5 => ?_
  refine c_region ?_
  refine o_callF (vs := [.float .f64 (4607182418800017408), .float .f64 (4613937818241073152), .float .f64 (4602678819172646912)]) b19 rfl rfl (fun w hw => f19_Smooth (4607182418800017408) (4613937818241073152) (4602678819172646912) w (by first | assumption | omega | decide | exact FR.lt ‹_› | exact hB _ (List.getElem_mem _) | exact least_lt (fun x hx => hB x (List.mem_of_mem_take hx)) | exact lst_lt (least_lt (fun x hx => hB x (List.mem_of_mem_take hx)))) (by first | assumption | omega | decide | exact FR.lt ‹_› | exact hB _ (List.getElem_mem _) | exact least_lt (fun x hx => hB x (List.mem_of_mem_take hx)) | exact lst_lt (least_lt (fun x hx => hB x (List.mem_of_mem_take hx)))) (by first | assumption | omega | decide | exact FR.lt ‹_› | exact hB _ (List.getElem_mem _) | exact least_lt (fun x hx => hB x (List.mem_of_mem_take hx)) | exact lst_lt (least_lt (fun x hx => hB x (List.mem_of_mem_take hx))))) ?_
  rintro _ _ ⟨r30, rfl, hfr30⟩
  refine o_y (v := .tuple #[.float .f64 (r30), .int .i64 (smoothE (4602678819172646912))]) rfl rfl (y_move rfl) ?_
  refine o_y (v := .float .f64 (r30)) rfl rfl (y_extract (vs := #[.float .f64 (r30), .int .i64 (smoothE (4602678819172646912))]) rfl rfl) ?_
  refine o_y (v := .int .i64 (smoothE (4602678819172646912))) rfl rfl (y_extract (vs := #[.float .f64 (r30), .int .i64 (smoothE (4602678819172646912))]) rfl rfl) ?_
  refine o_y (v := .float .f64 (r30)) rfl rfl (y_assign rfl) ?_
  refine o_y (v := .int .i64 (smoothE (4602678819172646912))) rfl rfl (y_assign rfl) ?_
  refine o_nil ?_
  refine hK5 _ _ ?_
  refine c_seq fun K6 hK6 => ?_
  refine c_region ?_
  refine o_callF (vs := [.float .f64 (4607182418800017408), .float .f64 (4607182418800017408), .float .f64 (4611686018427387904)]) b19 rfl rfl (fun w hw => f19_Smooth (4607182418800017408) (4607182418800017408) (4611686018427387904) w (by first | assumption | omega | decide | exact FR.lt ‹_› | exact hB _ (List.getElem_mem _) | exact least_lt (fun x hx => hB x (List.mem_of_mem_take hx)) | exact lst_lt (least_lt (fun x hx => hB x (List.mem_of_mem_take hx)))) (by first | assumption | omega | decide | exact FR.lt ‹_› | exact hB _ (List.getElem_mem _) | exact least_lt (fun x hx => hB x (List.mem_of_mem_take hx)) | exact lst_lt (least_lt (fun x hx => hB x (List.mem_of_mem_take hx)))) (by first | assumption | omega | decide | exact FR.lt ‹_› | exact hB _ (List.getElem_mem _) | exact least_lt (fun x hx => hB x (List.mem_of_mem_take hx)) | exact lst_lt (least_lt (fun x hx => hB x (List.mem_of_mem_take hx))))) ?_
  rintro _ _ ⟨r34, rfl, hfr34⟩
  refine o_y (v := .tuple #[.float .f64 (r34), .int .i64 (smoothE (4611686018427387904))]) rfl rfl (y_move rfl) ?_
  refine o_y (v := .float .f64 (r34)) rfl rfl (y_extract (vs := #[.float .f64 (r34), .int .i64 (smoothE (4611686018427387904))]) rfl rfl) ?_
  refine o_y (v := .int .i64 (smoothE (4611686018427387904))) rfl rfl (y_extract (vs := #[.float .f64 (r34), .int .i64 (smoothE (4611686018427387904))]) rfl rfl) ?_
  refine o_y (v := .float .f64 (r34)) rfl rfl (y_assign rfl) ?_
  refine o_y (v := .int .i64 (smoothE (4611686018427387904))) rfl rfl (y_assign rfl) ?_
  refine o_nil ?_
  refine hK6 _ _ ?_
  refine c_seq fun K7 hK7 => ?_
  refine c_region ?_
  refine o_y (v := .tuple #[.int .i64 (millN (4589168020290535424)), .int .i64 (millE (4589168020290535424))]) rfl rfl (y_call (vs := [.float .f64 (4589168020290535424)]) b23 rfl (fun w hw => f23_Mille _ w)) ?_
  refine o_y (v := .tuple #[.int .i64 (millN (4589168020290535424)), .int .i64 (millE (4589168020290535424))]) rfl rfl (y_move rfl) ?_
  refine o_y (v := .int .i64 (millN (4589168020290535424))) rfl rfl (y_extract (vs := #[.int .i64 (millN (4589168020290535424)), .int .i64 (millE (4589168020290535424))]) rfl rfl) ?_
  refine o_y (v := .int .i64 (millE (4589168020290535424))) rfl rfl (y_extract (vs := #[.int .i64 (millN (4589168020290535424)), .int .i64 (millE (4589168020290535424))]) rfl rfl) ?_
  refine o_y (v := .int .i64 (millN (4589168020290535424))) rfl rfl (y_assign rfl) ?_
  refine o_y (v := .int .i64 (millE (4589168020290535424))) rfl rfl (y_assign rfl) ?_
  refine o_nil ?_
  refine hK7 _ _ ?_
  refine c_seq fun K8 hK8 => ?_
  refine c_region ?_
  refine o_y (v := .float .f64 (nanW)) rfl rfl (y_move rfl) ?_
  refine o_y (v := .tuple #[.int .i64 (millN (nanW)), .int .i64 (millE (nanW))]) rfl rfl (y_call (vs := [.float .f64 (nanW)]) b23 rfl (fun w hw => f23_Mille _ w)) ?_
  refine o_y (v := .tuple #[.int .i64 (millN (nanW)), .int .i64 (millE (nanW))]) rfl rfl (y_move rfl) ?_
  refine o_y (v := .int .i64 (millN (nanW))) rfl rfl (y_extract (vs := #[.int .i64 (millN (nanW)), .int .i64 (millE (nanW))]) rfl rfl) ?_
  refine o_y (v := .int .i64 (millE (nanW))) rfl rfl (y_extract (vs := #[.int .i64 (millN (nanW)), .int .i64 (millE (nanW))]) rfl rfl) ?_
  refine o_y (v := .int .i64 (millN (nanW))) rfl rfl (y_assign rfl) ?_
  refine o_y (v := .int .i64 (millE (nanW))) rfl rfl (y_assign rfl) ?_
  refine o_nil ?_
  refine hK8 _ _ ?_
  refine c_seq fun K9 hK9 => ?_
  refine c_region ?_
  refine o_y (v := .float .f64 (infR)) rfl rfl (y_call (vs := [.int .i64 (1)]) b26 rfl (fun w hw => f26_Inf w)) ?_
  refine o_y (v := .tuple #[.int .i64 (millN (infR)), .int .i64 (millE (infR))]) rfl rfl (y_call (vs := [.float .f64 (infR)]) b23 rfl (fun w hw => f23_Mille _ w)) ?_
  refine o_y (v := .tuple #[.int .i64 (millN (infR)), .int .i64 (millE (infR))]) rfl rfl (y_move rfl) ?_
  refine o_y (v := .int .i64 (millN (infR))) rfl rfl (y_extract (vs := #[.int .i64 (millN (infR)), .int .i64 (millE (infR))]) rfl rfl) ?_
  refine o_y (v := .int .i64 (millE (infR))) rfl rfl (y_extract (vs := #[.int .i64 (millN (infR)), .int .i64 (millE (infR))]) rfl rfl) ?_
  refine o_y (v := .int .i64 (millN (infR))) rfl rfl (y_assign rfl) ?_
  refine o_y (v := .int .i64 (millE (infR))) rfl rfl (y_assign rfl) ?_
  refine o_nil ?_
  refine hK9 _ _ ?_
  refine c_seq fun K10 hK10 => ?_
  refine c_region ?_
  refine o_callF (vs := [.float .f64 (4607182418800017408), .float .f64 (4616189618054758400)]) b9 rfl rfl (fun w hw => f9_Share (4607182418800017408) (4616189618054758400) w) ?_
  rintro _ _ ⟨r51, rfl, hfr51⟩
  refine o_y (v := .bool (true)) rfl rfl (y_bool (y_feq rfl rfl) (eqF_of hfr51 (by decide +kernel))) ?_
  refine o_y (v := .bool (true)) rfl rfl (y_move rfl) ?_
  refine o_guard (j := 2) (d := 53) (b := true) rfl rfl rfl (fun _ => ?_) rfl (fun h => by cases h)
  refine o_callF (vs := [.float .f64 (0), .float .f64 (0)]) b9 rfl rfl (fun w hw => f9_Share (0) (0) w) ?_
  rintro _ _ ⟨r54, rfl, hfr54⟩
  refine o_guard (j := 2) (d := 53) (b := true) rfl rfl rfl (fun _ => ?_) rfl (fun h => by cases h)
  refine o_y (v := .bool (true)) rfl rfl (y_bool (y_call (vs := [.float .f64 (r54)]) b11 rfl (fun w hw => f11_none _ w)) (nan_of hfr54 (by decide +kernel))) ?_
  refine o_y (v := .bool (true)) rfl rfl (y_pick (b := true) rfl rfl) ?_
  refine o_y (v := .bool (true)) rfl rfl (y_move rfl) ?_
  refine o_guard (j := 6) (d := 57) (b := true) rfl rfl rfl (fun _ => ?_) rfl (fun h => by cases h)
  refine o_y (v := .float .f64 (nanW)) rfl rfl (y_move rfl) ?_
  refine o_guard (j := 6) (d := 57) (b := true) rfl rfl rfl (fun _ => ?_) rfl (fun h => by cases h)
  refine o_y (v := .float .f64 (infR)) rfl rfl (y_call (vs := [.int .i64 (1)]) b26 rfl (fun w hw => f26_Inf w)) ?_
  refine o_guard (j := 6) (d := 57) (b := true) rfl rfl rfl (fun _ => ?_) rfl (fun h => by cases h)
  refine o_y (v := .int .i64 (cmpF (nanW) (infR))) rfl rfl (y_call (vs := [.float .f64 (nanW), .float .f64 (infR)]) b17 rfl (fun w hw => f17_Compare _ _ w (by first | assumption | omega | decide | exact FR.lt ‹_› | exact hB _ (List.getElem_mem _) | exact least_lt (fun x hx => hB x (List.mem_of_mem_take hx)) | exact lst_lt (least_lt (fun x hx => hB x (List.mem_of_mem_take hx)))) (by first | assumption | omega | decide | exact FR.lt ‹_› | exact hB _ (List.getElem_mem _) | exact least_lt (fun x hx => hB x (List.mem_of_mem_take hx)) | exact lst_lt (least_lt (fun x hx => hB x (List.mem_of_mem_take hx)))))) ?_
  refine o_guard (j := 6) (d := 57) (b := true) rfl rfl rfl (fun _ => ?_) rfl (fun h => by cases h)
  refine o_y (v := .bool (true)) rfl rfl (y_bool (y_eql rfl rfl rfl) (by decide +kernel)) ?_
  refine o_y (v := .bool (true)) rfl rfl (y_pick (b := true) rfl rfl) ?_
  refine o_y (v := .bool (true)) rfl rfl (y_move rfl) ?_
  refine o_guard (j := 12) (d := 63) (b := true) rfl rfl rfl (fun _ => ?_) rfl (fun h => by cases h)
  refine o_y (v := .float .f64 (9223372036854775808)) rfl rfl (y_call (vs := [.float .f64 (0), .float .f64 (13830554455654793216)]) b27 rfl (fun w hw => f27_Copysign w)) ?_
  refine o_guard (j := 12) (d := 63) (b := true) rfl rfl rfl (fun _ => ?_) rfl (fun h => by cases h)
  refine o_y (v := .int .i64 (cmpF (9223372036854775808) (0))) rfl rfl (y_call (vs := [.float .f64 (9223372036854775808), .float .f64 (0)]) b17 rfl (fun w hw => f17_Compare _ _ w (by first | assumption | omega | decide | exact FR.lt ‹_› | exact hB _ (List.getElem_mem _) | exact least_lt (fun x hx => hB x (List.mem_of_mem_take hx)) | exact lst_lt (least_lt (fun x hx => hB x (List.mem_of_mem_take hx)))) (by first | assumption | omega | decide | exact FR.lt ‹_› | exact hB _ (List.getElem_mem _) | exact least_lt (fun x hx => hB x (List.mem_of_mem_take hx)) | exact lst_lt (least_lt (fun x hx => hB x (List.mem_of_mem_take hx)))))) ?_
  refine o_guard (j := 12) (d := 63) (b := true) rfl rfl rfl (fun _ => ?_) rfl (fun h => by cases h)
  refine o_y (v := .bool (true)) rfl rfl (y_bool (y_eql rfl rfl rfl) (by decide +kernel)) ?_
  refine o_y (v := .bool (true)) rfl rfl (y_pick (b := true) rfl rfl) ?_
  refine o_y (v := .bool (true)) rfl rfl (y_move rfl) ?_
  refine o_guard (j := 17) (d := 68) (b := true) rfl rfl rfl (fun _ => ?_) rfl (fun h => by cases h)
  refine o_y (v := .float .f64 (lstW (leastG ([(nanW), (4611686018427387904), (4607182418800017408)])))) rfl rfl (y_move rfl) ?_
  refine o_guard (j := 17) (d := 68) (b := true) rfl rfl rfl (fun _ => ?_) rfl (fun h => by cases h)
  refine o_y (v := .bool (true)) rfl rfl (y_bool (y_feq rfl rfl) (by decide +kernel)) ?_
  refine o_y (v := .bool (true)) rfl rfl (y_pick (b := true) rfl rfl) ?_
  refine o_y (v := .bool (true)) rfl rfl (y_move rfl) ?_
  refine o_guard (j := 21) (d := 72) (b := true) rfl rfl rfl (fun _ => ?_) rfl (fun h => by cases h)
  refine o_y (v := .bool (true)) rfl rfl (y_move rfl) ?_
  refine o_y (v := .bool (true)) rfl rfl (y_pick (b := true) rfl rfl) ?_
  refine o_y (v := .bool (true)) rfl rfl (y_move rfl) ?_
  refine o_guard (j := 24) (d := 75) (b := true) rfl rfl rfl (fun _ => ?_) rfl (fun h => by cases h)
  refine o_y (v := .bool (false)) rfl rfl (y_move rfl) ?_
  refine o_guard (j := 24) (d := 75) (b := true) rfl rfl rfl (fun _ => ?_) rfl (fun h => by cases h)
  refine o_y (v := .bool (true)) rfl rfl (y_not rfl rfl) ?_
  refine o_y (v := .bool (true)) rfl rfl (y_pick (b := true) rfl rfl) ?_
  refine o_y (v := .bool (true)) rfl rfl (y_move rfl) ?_
  refine o_guard (j := 28) (d := 79) (b := true) rfl rfl rfl (fun _ => ?_) rfl (fun h => by cases h)
  refine o_buildRow SL30 ([(4607182418800017408), (4611686018427387904)] : List Nat) (fun x => .float .f64 x) (fun _ => rfl) rfl rfl (by rw [Array.toList_map]; rfl) (by simp) (by simp [eFl]) fun g3 cg3 hrg3 => ?_
  refine o_guard (j := 28) (d := 79) (b := true) rfl rfl rfl (fun _ => ?_) rfl (fun h => by cases h)
  refine o_callF (vs := [.slice (some ⟨g3, 0, none⟩) (2) (2)]) b21 rfl rfl (fun w hw => f21_Mean ([(4607182418800017408), (4611686018427387904)]) _ _ _ _ _ w (by first | rfl | (simp; done)) ((SlG.row (k := 0) rfl hrg3) w hw) (by first | assumption | decide)) ?_
  rintro _ _ ⟨r81, rfl, hfr81⟩
  refine o_guard (j := 28) (d := 79) (b := true) rfl rfl rfl (fun _ => ?_) rfl (fun h => by cases h)
  refine o_y (v := .bool (true)) rfl rfl (y_bool (y_feq rfl rfl) (eqF_of hfr81 (by decide +kernel))) ?_
  refine o_y (v := .bool (true)) rfl rfl (y_pick (b := true) rfl rfl) ?_
  refine o_y (v := .bool (true)) rfl rfl (y_move rfl) ?_
  refine o_guard (j := 33) (d := 84) (b := true) rfl rfl rfl (fun _ => ?_) rfl (fun h => by cases h)
  refine o_y (v := .float .f64 (r30)) rfl rfl (y_move rfl) ?_
  refine o_guard (j := 33) (d := 84) (b := true) rfl rfl rfl (fun _ => ?_) rfl (fun h => by cases h)
  refine o_y (v := .bool (true)) rfl rfl (y_bool (y_feq rfl rfl) (eqF_of hfr30 (by decide +kernel))) ?_
  refine o_y (v := .bool (true)) rfl rfl (y_pick (b := true) rfl rfl) ?_
  refine o_y (v := .bool (true)) rfl rfl (y_move rfl) ?_
  refine o_guard (j := 37) (d := 88) (b := true) rfl rfl rfl (fun _ => ?_) rfl (fun h => by cases h)
  refine o_y (v := .int .i64 (smoothE (4602678819172646912))) rfl rfl (y_move rfl) ?_
  refine o_guard (j := 37) (d := 88) (b := true) rfl rfl rfl (fun _ => ?_) rfl (fun h => by cases h)
  refine o_y (v := .bool (true)) rfl rfl (y_bool (y_eql rfl rfl rfl) (by decide +kernel)) ?_
  refine o_y (v := .bool (true)) rfl rfl (y_pick (b := true) rfl rfl) ?_
  refine o_y (v := .bool (true)) rfl rfl (y_move rfl) ?_
  refine o_guard (j := 41) (d := 92) (b := true) rfl rfl rfl (fun _ => ?_) rfl (fun h => by cases h)
  refine o_y (v := .int .i64 (smoothE (4611686018427387904))) rfl rfl (y_move rfl) ?_
  refine o_guard (j := 41) (d := 92) (b := true) rfl rfl rfl (fun _ => ?_) rfl (fun h => by cases h)
  refine o_y (v := .bool (true)) rfl rfl (y_bool (y_eql rfl rfl rfl) (by decide +kernel)) ?_
  refine o_y (v := .bool (true)) rfl rfl (y_pick (b := true) rfl rfl) ?_
  refine o_y (v := .bool (true)) rfl rfl (y_move rfl) ?_
  refine o_guard (j := 45) (d := 96) (b := true) rfl rfl rfl (fun _ => ?_) rfl (fun h => by cases h)
  refine o_y (v := .int .i64 (millN (4589168020290535424))) rfl rfl (y_move rfl) ?_
  refine o_guard (j := 45) (d := 96) (b := true) rfl rfl rfl (fun _ => ?_) rfl (fun h => by cases h)
  refine o_y (v := .bool (true)) rfl rfl (y_bool (y_eql rfl rfl rfl) (decide_eq_true mill_1.1)) ?_
  refine o_y (v := .bool (true)) rfl rfl (y_pick (b := true) rfl rfl) ?_
  refine o_y (v := .bool (true)) rfl rfl (y_move rfl) ?_
  refine o_guard (j := 49) (d := 100) (b := true) rfl rfl rfl (fun _ => ?_) rfl (fun h => by cases h)
  refine o_y (v := .int .i64 (millE (4589168020290535424))) rfl rfl (y_move rfl) ?_
  refine o_guard (j := 49) (d := 100) (b := true) rfl rfl rfl (fun _ => ?_) rfl (fun h => by cases h)
  refine o_y (v := .bool (true)) rfl rfl (y_bool (y_eql rfl rfl rfl) (decide_eq_true mill_1.2)) ?_
  refine o_y (v := .bool (true)) rfl rfl (y_pick (b := true) rfl rfl) ?_
  refine o_y (v := .bool (true)) rfl rfl (y_move rfl) ?_
  refine o_guard (j := 53) (d := 104) (b := true) rfl rfl rfl (fun _ => ?_) rfl (fun h => by cases h)
  refine o_y (v := .int .i64 (millE (nanW))) rfl rfl (y_move rfl) ?_
  refine o_guard (j := 53) (d := 104) (b := true) rfl rfl rfl (fun _ => ?_) rfl (fun h => by cases h)
  refine o_y (v := .bool (true)) rfl rfl (y_bool (y_eql rfl rfl rfl) (decide_eq_true mill_2)) ?_
  refine o_y (v := .bool (true)) rfl rfl (y_pick (b := true) rfl rfl) ?_
  refine o_y (v := .bool (true)) rfl rfl (y_move rfl) ?_
  refine o_guard (j := 57) (d := 108) (b := true) rfl rfl rfl (fun _ => ?_) rfl (fun h => by cases h)
  refine o_y (v := .int .i64 (millE (infR))) rfl rfl (y_move rfl) ?_
  refine o_guard (j := 57) (d := 108) (b := true) rfl rfl rfl (fun _ => ?_) rfl (fun h => by cases h)
  refine o_y (v := .bool (true)) rfl rfl (y_bool (y_eql rfl rfl rfl) (decide_eq_true mill_3)) ?_
  refine o_y (v := .bool (true)) rfl rfl (y_pick (b := true) rfl rfl) ?_
  refine o_y (v := .bool (true)) rfl rfl (y_assign rfl) ?_
  refine o_nil ?_
  refine hK10 _ _ ?_
  refine c_ret ?_
  refine fun w hw => ⟨[.bool (true)], ⟨rfl, trivial⟩, ?_⟩
  exact rfl

end Go.Proofs.Ytikmjecjolppdaa.Gauge
