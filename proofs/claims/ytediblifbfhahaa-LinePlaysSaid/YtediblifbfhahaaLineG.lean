/- Proved: what the trial of a line comes to; the conditions stand in the statements. -/
import Derived.Test.YtediblifbfhahaaLineF
import Derived.Test.YtediblifbfhahaaLineLaw
set_option linter.unusedVariables false
set_option linter.unusedSimpArgs false
namespace Go.Proofs.Ytediblifbfhahaa.Line
open Go Go.RowKit Go.Proofs.Ytediblifbfhahaa.Eng

set_option maxRecDepth 100000 in
set_option maxHeartbeats 4000000 in
theorem f12_lives  (w : World)  :
    Calls Try.prog 12 [].toArray w fun e w' => e = .returned (.bool (true)) ∧ Below w.heap.size w w' := by
  refine (calls_of (P := Try.prog) (n := 72) (w0 := w) (S := fun _ => False) (H := []) (T := fun v _ => v = (.bool (true))) Try.func12 rfl Try.ntmps12 (Nat.le_of_ble_eq_true rfl) [.tmp 0] rfl (St.nil w _) ?_).mono fun e w' ⟨v, H', he, hs, hT⟩ => ⟨by rw [he, hT], hs.below⟩
  refine c_seq fun K1 hK1 => ?_
  refine c_region ?_
  refine o_y (v := .bool (false)) rfl rfl (y_assign rfl) ?_
  refine o_nil ?_
  refine hK1 _ _ ?_
  refine c_seq fun K2 hK2 => ?_
  refine c_region ?_
  refine o_callNew (vs := [.int .i64 (3)]) b7 rfl rfl (fun w hw => f7_New (3) w (by omega) (by omega)) ?_
  rintro _ _ ⟨g1, rfl, rfl⟩
  refine o_y (v := .tuple #[.pointer (some ⟨g1, 0, none⟩), .int .i64 (0)]) rfl rfl (y_move rfl) ?_
  refine o_y (v := .pointer (some ⟨g1, 0, none⟩)) rfl rfl (y_extract (vs := #[.pointer (some ⟨g1, 0, none⟩), .int .i64 (0)]) rfl rfl) ?_
  refine o_y (v := .int .i64 (0)) rfl rfl (y_extract (vs := #[.pointer (some ⟨g1, 0, none⟩), .int .i64 (0)]) rfl rfl) ?_
  refine o_y (v := .pointer (some ⟨g1, 0, none⟩)) rfl rfl (y_assign rfl) ?_
  refine o_y (v := .int .i64 (0)) rfl rfl (y_assign rfl) ?_
  refine o_nil ?_
  refine hK2 _ _ ?_
  refine c_seq fun K3 hK3 => ?_
  refine c_seq fun K4 hK4 => ?_
  refine c_region ?_
  refine o_y (v := .int .i64 (0)) rfl rfl (y_move rfl) ?_
  refine o_y (v := .bool (false)) rfl rfl (y_neq rfl rfl (by decide)) ?_
  refine o_y (v := .bool (false)) rfl rfl (y_move rfl) ?_
  refine o_guard (j := 2) (d := 16) (b := false) rfl rfl rfl (fun _ => ?_) rfl (fun h => by cases h)
  refine o_y (v := .pointer (some ⟨g1, 0, none⟩)) rfl rfl (y_move rfl) ?_
  refine o_guard (j := 2) (d := 16) (b := false) rfl rfl rfl (fun _ => ?_) rfl (fun h => by cases h)
  refine o_y (v := .bool (false)) rfl rfl (y_eqlN rfl rfl Try.underlying25 rfl) ?_
  refine o_y (v := .bool (false)) rfl rfl (y_pick (b := false) rfl rfl) ?_
  refine o_nil ?_
  refine hK4 _ _ ?_
  refine c_cond (t := false) rfl (fun h => by cases h) (fun _ => ?_)
  refine c_skip ?_
  refine hK3 _ _ ?_
  refine c_seq fun K5 hK5 => ?_
  refine c_region ?_
  refine o_y (v := .pointer (some ⟨g1, 0, none⟩)) rfl rfl (y_move rfl) ?_
  refine o_y (v := .agg (bv (oneB 170))) rfl rfl (y_build rfl (by kernel_rfl)) ?_
  refine o_callS ([(g1, .cells (LS.enc (newL (3))) 54 (0, 0))]) ([]) (List.Perm.refl _) (vs := [.pointer (some ⟨g1, 0, none⟩), .int .i64 (1), .agg (bv (oneB 170))]) b8 rfl rfl (fun w hat => f8_Learn _ (newL (3)) (1) (oneB 170) w (by first | assumption | omega | exact lone_mem | (simp only [mem_learn, mem_set, mem_forget, mem_clean]; exact lone_mem) | (simp only [mem_learn, mem_set, mem_forget, mem_clean]; first | omega | decide | exact ⟨by decide, by decide⟩ | (constructor <;> (show _ ≤ _) <;> decide)) | exact ⟨by decide, by decide⟩) hat) ?_
  rintro _ _ ⟨rfl, rfl⟩
  refine o_y (v := .int .i64 (askE (newL (3)).mem (1))) rfl rfl (y_assign rfl) ?_
  refine o_nil ?_
  refine hK5 _ _ ?_
  refine c_seq fun K6 hK6 => ?_
  refine c_region ?_
  refine o_y (v := .pointer (some ⟨g1, 0, none⟩)) rfl rfl (y_move rfl) ?_
  refine o_y (v := .agg (bv (oneB 187))) rfl rfl (y_build rfl (by kernel_rfl)) ?_
  refine o_callS ([(g1, .cells (LS.enc (learnS (newL (3)) (1) (oneB 170))) 54 (0, 0))]) ([]) (List.Perm.refl _) (vs := [.pointer (some ⟨g1, 0, none⟩), .int .i64 (1), .agg (bv (oneB 187)), .int .u64 (7)]) b10 rfl rfl (fun w hat => f10_Set _ (learnS (newL (3)) (1) (oneB 170)) (1) (oneB 187) (7) w (by first | assumption | omega | exact lone_mem | (simp only [mem_learn, mem_set, mem_forget, mem_clean]; exact lone_mem) | (simp only [mem_learn, mem_set, mem_forget, mem_clean]; first | omega | decide | exact ⟨by decide, by decide⟩ | (constructor <;> (show _ ≤ _) <;> decide)) | exact ⟨by decide, by decide⟩) (by omega) (by omega) hat) ?_
  rintro _ _ ⟨rfl, rfl⟩
  refine o_y (v := .int .i64 (setE (learnS (newL (3)) (1) (oneB 170)) (1) (7))) rfl rfl (y_assign rfl) ?_
  refine o_nil ?_
  refine hK6 _ _ ?_
  refine c_seq fun K7 hK7 => ?_
  refine c_region ?_
  refine o_y (v := .pointer (some ⟨g1, 0, none⟩)) rfl rfl (y_move rfl) ?_
  refine o_y (v := .agg (bv (oneB 204))) rfl rfl (y_build rfl (by kernel_rfl)) ?_
  refine o_callS ([(g1, .cells (LS.enc (setS (learnS (newL (3)) (1) (oneB 170)) (1) (oneB 187) (7))) 54 (0, 0))]) ([]) (List.Perm.refl _) (vs := [.pointer (some ⟨g1, 0, none⟩), .int .i64 (1), .agg (bv (oneB 204))]) b8 rfl rfl (fun w hat => f8_Learn _ (setS (learnS (newL (3)) (1) (oneB 170)) (1) (oneB 187) (7)) (1) (oneB 204) w (by first | assumption | omega | exact lone_mem | (simp only [mem_learn, mem_set, mem_forget, mem_clean]; exact lone_mem) | (simp only [mem_learn, mem_set, mem_forget, mem_clean]; first | omega | decide | exact ⟨by decide, by decide⟩ | (constructor <;> (show _ ≤ _) <;> decide)) | exact ⟨by decide, by decide⟩) hat) ?_
  rintro _ _ ⟨rfl, rfl⟩
  refine o_y (v := .int .i64 (askE (setS (learnS (newL (3)) (1) (oneB 170)) (1) (oneB 187) (7)).mem (1))) rfl rfl (y_assign rfl) ?_
  refine o_nil ?_
  refine hK7 _ _ ?_
  refine c_seq fun K8 hK8 => ?_
  refine c_region ?_
  refine o_y (v := .pointer (some ⟨g1, 0, none⟩)) rfl rfl (y_move rfl) ?_
  refine o_y (v := .tuple #[.agg (bv (getV (learnS (setS (learnS (newL (3)) (1) (oneB 170)) (1) (oneB 187) (7)) (1) (oneB 204)) (1))), .bool (getK (learnS (setS (learnS (newL (3)) (1) (oneB 170)) (1) (oneB 187) (7)) (1) (oneB 204)) (1))]) rfl rfl (y_call (vs := [.pointer (some ⟨g1, 0, none⟩), .int .i64 (1)]) b9 rfl (fun w hw => f9_Get _ (learnS (setS (learnS (newL (3)) (1) (oneB 170)) (1) (oneB 187) (7)) (1) (oneB 204)) (1) w (by first | assumption | omega | exact lone_mem | (simp only [mem_learn, mem_set, mem_forget, mem_clean]; exact lone_mem) | (simp only [mem_learn, mem_set, mem_forget, mem_clean]; first | omega | decide | exact ⟨by decide, by decide⟩ | (constructor <;> (show _ ≤ _) <;> decide)) | exact ⟨by decide, by decide⟩) (hw.sat (List.Sublist.slnil.cons_cons _)))) ?_
  refine o_y (v := .tuple #[.agg (bv (getV (learnS (setS (learnS (newL (3)) (1) (oneB 170)) (1) (oneB 187) (7)) (1) (oneB 204)) (1))), .bool (getK (learnS (setS (learnS (newL (3)) (1) (oneB 170)) (1) (oneB 187) (7)) (1) (oneB 204)) (1))]) rfl rfl (y_move rfl) ?_
  refine o_y (v := .agg (bv (getV (learnS (setS (learnS (newL (3)) (1) (oneB 170)) (1) (oneB 187) (7)) (1) (oneB 204)) (1)))) rfl rfl (y_extract (vs := #[.agg (bv (getV (learnS (setS (learnS (newL (3)) (1) (oneB 170)) (1) (oneB 187) (7)) (1) (oneB 204)) (1))), .bool (getK (learnS (setS (learnS (newL (3)) (1) (oneB 170)) (1) (oneB 187) (7)) (1) (oneB 204)) (1))]) rfl rfl) ?_
  refine o_y (v := .bool (true)) rfl rfl (y_bool (y_extract (vs := #[.agg (bv (getV (learnS (setS (learnS (newL (3)) (1) (oneB 170)) (1) (oneB 187) (7)) (1) (oneB 204)) (1))), .bool (getK (learnS (setS (learnS (newL (3)) (1) (oneB 170)) (1) (oneB 187) (7)) (1) (oneB 204)) (1))]) rfl rfl) (by decide +kernel)) ?_
  refine o_alloc (z := .agg (bv (zB))) rfl z23 fun g6 => ?_
  refine o_storeB (H' := [(g6, .cells (bv (getV (learnS (setS (learnS (newL (3)) (1) (oneB 170)) (1) (oneB 187) (7)) (1) (oneB 204)) (1))) 23 (0, 0)), (g1, .cells (LS.enc (learnS (setS (learnS (newL (3)) (1) (oneB 170)) (1) (oneB 187) (7)) (1) (oneB 204))) 54 (0, 0))]) T23 0 rfl rfl rfl rfl ?_
  refine o_y (v := .bool (true)) rfl rfl (y_assign rfl) ?_
  refine o_nil ?_
  refine hK8 _ _ ?_
  refine c_seq fun K9 hK9 => ?_
  refine c_region ?_
  refine o_y (v := .pointer (some ⟨g1, 0, none⟩)) rfl rfl (y_move rfl) ?_
  refine o_y (v := .tuple #[.agg (bv (getV (learnS (setS (learnS (newL (3)) (1) (oneB 170)) (1) (oneB 187) (7)) (1) (oneB 204)) (2))), .bool (getK (learnS (setS (learnS (newL (3)) (1) (oneB 170)) (1) (oneB 187) (7)) (1) (oneB 204)) (2))]) rfl rfl (y_call (vs := [.pointer (some ⟨g1, 0, none⟩), .int .i64 (2)]) b9 rfl (fun w hw => f9_Get _ (learnS (setS (learnS (newL (3)) (1) (oneB 170)) (1) (oneB 187) (7)) (1) (oneB 204)) (2) w (by first | assumption | omega | exact lone_mem | (simp only [mem_learn, mem_set, mem_forget, mem_clean]; exact lone_mem) | (simp only [mem_learn, mem_set, mem_forget, mem_clean]; first | omega | decide | exact ⟨by decide, by decide⟩ | (constructor <;> (show _ ≤ _) <;> decide)) | exact ⟨by decide, by decide⟩) (hw.sat ((List.Sublist.slnil.cons_cons _).cons _)))) ?_
  refine o_y (v := .tuple #[.agg (bv (getV (learnS (setS (learnS (newL (3)) (1) (oneB 170)) (1) (oneB 187) (7)) (1) (oneB 204)) (2))), .bool (getK (learnS (setS (learnS (newL (3)) (1) (oneB 170)) (1) (oneB 187) (7)) (1) (oneB 204)) (2))]) rfl rfl (y_move rfl) ?_
  refine o_y (v := .agg (bv (getV (learnS (setS (learnS (newL (3)) (1) (oneB 170)) (1) (oneB 187) (7)) (1) (oneB 204)) (2)))) rfl rfl (y_extract (vs := #[.agg (bv (getV (learnS (setS (learnS (newL (3)) (1) (oneB 170)) (1) (oneB 187) (7)) (1) (oneB 204)) (2))), .bool (getK (learnS (setS (learnS (newL (3)) (1) (oneB 170)) (1) (oneB 187) (7)) (1) (oneB 204)) (2))]) rfl rfl) ?_
  refine o_y (v := .bool (false)) rfl rfl (y_bool (y_extract (vs := #[.agg (bv (getV (learnS (setS (learnS (newL (3)) (1) (oneB 170)) (1) (oneB 187) (7)) (1) (oneB 204)) (2))), .bool (getK (learnS (setS (learnS (newL (3)) (1) (oneB 170)) (1) (oneB 187) (7)) (1) (oneB 204)) (2))]) rfl rfl) (by decide +kernel)) ?_
  refine o_alloc (z := .agg (bv (zB))) rfl z23 fun g7 => ?_
  refine o_storeB (H' := [(g7, .cells (bv (getV (learnS (setS (learnS (newL (3)) (1) (oneB 170)) (1) (oneB 187) (7)) (1) (oneB 204)) (2))) 23 (0, 0)), (g6, .cells (bv (getV (learnS (setS (learnS (newL (3)) (1) (oneB 170)) (1) (oneB 187) (7)) (1) (oneB 204)) (1))) 23 (0, 0)), (g1, .cells (LS.enc (learnS (setS (learnS (newL (3)) (1) (oneB 170)) (1) (oneB 187) (7)) (1) (oneB 204))) 54 (0, 0))]) T23 0 rfl rfl rfl rfl ?_
  refine o_y (v := .bool (false)) rfl rfl (y_assign rfl) ?_
  refine o_nil ?_
  refine hK9 _ _ ?_
  refine c_seq fun K10 hK10 => ?_
  refine c_region ?_
  refine o_y (v := .int .i64 (askE (newL (3)).mem (1))) rfl rfl (y_move rfl) ?_
  refine o_y (v := .bool (true)) rfl rfl (y_bool (y_eql rfl rfl rfl) (by decide +kernel)) ?_
  refine o_y (v := .bool (true)) rfl rfl (y_move rfl) ?_
  refine o_guard (j := 2) (d := 41) (b := true) rfl rfl rfl (fun _ => ?_) rfl (fun h => by cases h)
  refine o_y (v := .int .i64 (setE (learnS (newL (3)) (1) (oneB 170)) (1) (7))) rfl rfl (y_move rfl) ?_
  refine o_guard (j := 2) (d := 41) (b := true) rfl rfl rfl (fun _ => ?_) rfl (fun h => by cases h)
  refine o_y (v := .bool (true)) rfl rfl (y_bool (y_eql rfl rfl rfl) (by decide +kernel)) ?_
  refine o_y (v := .bool (true)) rfl rfl (y_pick (b := true) rfl rfl) ?_
  refine o_y (v := .bool (true)) rfl rfl (y_move rfl) ?_
  refine o_guard (j := 6) (d := 45) (b := true) rfl rfl rfl (fun _ => ?_) rfl (fun h => by cases h)
  refine o_y (v := .int .i64 (askE (setS (learnS (newL (3)) (1) (oneB 170)) (1) (oneB 187) (7)).mem (1))) rfl rfl (y_move rfl) ?_
  refine o_guard (j := 6) (d := 45) (b := true) rfl rfl rfl (fun _ => ?_) rfl (fun h => by cases h)
  refine o_y (v := .bool (true)) rfl rfl (y_bool (y_eql rfl rfl rfl) (by decide +kernel)) ?_
  refine o_y (v := .bool (true)) rfl rfl (y_pick (b := true) rfl rfl) ?_
  refine o_y (v := .bool (true)) rfl rfl (y_move rfl) ?_
  refine o_guard (j := 10) (d := 49) (b := true) rfl rfl rfl (fun _ => ?_) rfl (fun h => by cases h)
  refine o_y (v := .agg (bv (getV (learnS (setS (learnS (newL (3)) (1) (oneB 170)) (1) (oneB 187) (7)) (1) (oneB 204)) (1)))) rfl rfl (y_loadB T23 rfl (Rd.whole (k := 1) rfl)) ?_
  refine o_guard (j := 10) (d := 49) (b := true) rfl rfl rfl (fun _ => ?_) rfl (fun h => by cases h)
  refine o_y (v := .agg (bv (oneB 187))) rfl rfl (y_build rfl (by kernel_rfl)) ?_
  refine o_guard (j := 10) (d := 49) (b := true) rfl rfl rfl (fun _ => ?_) rfl (fun h => by cases h)
  refine o_y (v := .bool (true)) rfl rfl (y_bool (y_eqlV T23 rfl rfl) (by decide +kernel)) ?_
  refine o_y (v := .bool (true)) rfl rfl (y_pick (b := true) rfl rfl) ?_
  refine o_y (v := .bool (true)) rfl rfl (y_move rfl) ?_
  refine o_guard (j := 15) (d := 54) (b := true) rfl rfl rfl (fun _ => ?_) rfl (fun h => by cases h)
  refine o_y (v := .bool (true)) rfl rfl (y_move rfl) ?_
  refine o_y (v := .bool (true)) rfl rfl (y_pick (b := true) rfl rfl) ?_
  refine o_y (v := .bool (true)) rfl rfl (y_move rfl) ?_
  refine o_guard (j := 18) (d := 57) (b := true) rfl rfl rfl (fun _ => ?_) rfl (fun h => by cases h)
  refine o_y (v := .bool (false)) rfl rfl (y_move rfl) ?_
  refine o_guard (j := 18) (d := 57) (b := true) rfl rfl rfl (fun _ => ?_) rfl (fun h => by cases h)
  refine o_y (v := .bool (true)) rfl rfl (y_not rfl rfl) ?_
  refine o_y (v := .bool (true)) rfl rfl (y_pick (b := true) rfl rfl) ?_
  refine o_y (v := .bool (true)) rfl rfl (y_move rfl) ?_
  refine o_guard (j := 22) (d := 61) (b := true) rfl rfl rfl (fun _ => ?_) rfl (fun h => by cases h)
  refine o_y (v := .pointer (some ⟨g1, 0, none⟩)) rfl rfl (y_move rfl) ?_
  refine o_guard (j := 22) (d := 61) (b := true) rfl rfl rfl (fun _ => ?_) rfl (fun h => by cases h)
  refine o_callV (fun Hy => [(g7, .cells (bv (getV (learnS (setS (learnS (newL (3)) (1) (oneB 170)) (1) (oneB 187) (7)) (1) (oneB 204)) (2))) 23 (0, 0)), (g6, .cells (bv (getV (learnS (setS (learnS (newL (3)) (1) (oneB 170)) (1) (oneB 187) (7)) (1) (oneB 204)) (1))) 23 (0, 0)), (g1, .cells (LS.enc (learnS (setS (learnS (newL (3)) (1) (oneB 170)) (1) (oneB 187) (7)) (1) (oneB 204))) 54 (0, 0))] ++ (Hy)) (fun Hy => by have h := List.perm_append_comm (l₁ := ([(g7, .cells (bv (getV (learnS (setS (learnS (newL (3)) (1) (oneB 170)) (1) (oneB 187) (7)) (1) (oneB 204)) (2))) 23 (0, 0)), (g6, .cells (bv (getV (learnS (setS (learnS (newL (3)) (1) (oneB 170)) (1) (oneB 187) (7)) (1) (oneB 204)) (1))) 23 (0, 0)), (g1, .cells (LS.enc (learnS (setS (learnS (newL (3)) (1) (oneB 170)) (1) (oneB 187) (7)) (1) (oneB 204))) 54 (0, 0))] : Hp)) (l₂ := Hy); first | exact h | simpa [Value.cells] using h) (vs := [.pointer (some ⟨g1, 0, none⟩)]) b11 rfl rfl (fun w hw => f11_Dirty _ (learnS (setS (learnS (newL (3)) (1) (oneB 170)) (1) (oneB 187) (7)) (1) (oneB 204)) w (by first | assumption | omega | exact lone_mem | (simp only [mem_learn, mem_set, mem_forget, mem_clean]; exact lone_mem) | (simp only [mem_learn, mem_set, mem_forget, mem_clean]; first | omega | decide | exact ⟨by decide, by decide⟩ | (constructor <;> (show _ ≤ _) <;> decide)) | exact ⟨by decide, by decide⟩) (hw.sat (((List.Sublist.slnil.cons_cons _).cons _).cons _))) ?_
  rintro _ Hp8 ⟨ap8, gp8, capp8, rfl, hvp8⟩
  have hzp8 := hvp8.le
  have hyp8 := hvp8.mx
  simp only [maxLen] at hyp8
  refine o_guard (j := 22) (d := 61) (b := true) rfl rfl rfl (fun _ => ?_) rfl (fun h => by cases h)
  refine o_buildRow SL33 ([(1)] : List Int) (fun x => .int .i64 x) (fun _ => rfl) rfl rfl (by rw [Array.toList_map]; rfl) (by simp) (by simp [eInt]) fun g9 cg9 hrg9 => ?_
  refine o_guard (j := 22) (d := 61) (b := true) rfl rfl rfl (fun _ => ?_) rfl (fun h => by cases h)
  refine o_y (v := .bool (true)) rfl rfl (y_bool (y_call (vs := [.slice (ap8) ((dirtyL (learnS (setS (learnS (newL (3)) (1) (oneB 170)) (1) (oneB 187) (7)) (1) (oneB 204))).length) (capp8), .slice (some ⟨g9, 0, none⟩) (1) (1)]) b14 rfl (fun w hw => f14_Ints (dirtyL (learnS (setS (learnS (newL (3)) (1) (oneB 170)) (1) (oneB 187) (7)) (1) (oneB 204))) ([(1)]) _ _ _ _ _ _ _ _ _ _ w (by first | rfl | (simp; done) | (simp; omega)) ((SlG.own hvp8 (fun p hp => (List.mem_cons_of_mem _ (List.mem_cons_of_mem _ (List.mem_cons_of_mem _ (List.mem_cons_of_mem _ hp)))))) w hw) (by first | rfl | (simp; done) | (simp; omega)) ((SlG.row (k := 0) rfl hrg9) w hw))) (by decide +kernel)) ?_
  refine o_y (v := .bool (true)) rfl rfl (y_pick (b := true) rfl rfl) ?_
  refine o_y (v := .bool (true)) rfl rfl (y_move rfl) ?_
  refine o_guard (j := 28) (d := 67) (b := true) rfl rfl rfl (fun _ => ?_) rfl (fun h => by cases h)
  refine o_y (v := .pointer (some ⟨g1, 0, none⟩)) rfl rfl (y_move rfl) ?_
  refine o_guard (j := 28) (d := 67) (b := true) rfl rfl rfl (fun _ => ?_) rfl (fun h => by cases h)
  refine o_y (v := .int .u64 ((learnS (setS (learnS (newL (3)) (1) (oneB 170)) (1) (oneB 187) (7)) (1) (oneB 204)).fs)) rfl rfl (y_call (vs := [.pointer (some ⟨g1, 0, none⟩)]) b16 rfl (fun w hw => f16_First _ (learnS (setS (learnS (newL (3)) (1) (oneB 170)) (1) (oneB 187) (7)) (1) (oneB 204)) w (hw.sat (((((List.nil_sublist _).cons_cons _).cons _).cons _).cons _)))) ?_
  refine o_guard (j := 28) (d := 67) (b := true) rfl rfl rfl (fun _ => ?_) rfl (fun h => by cases h)
  refine o_y (v := .bool (true)) rfl rfl (y_bool (y_eql rfl rfl rfl) (by decide +kernel)) ?_
  refine o_y (v := .bool (true)) rfl rfl (y_pick (b := true) rfl rfl) ?_
  refine o_y (v := .bool (true)) rfl rfl (y_assign rfl) ?_
  refine o_nil ?_
  refine hK10 _ _ ?_
  refine c_ret ?_
  refine fun w hw => ⟨[.bool (true)], ⟨rfl, trivial⟩, ?_⟩
  exact rfl

end Go.Proofs.Ytediblifbfhahaa.Line
