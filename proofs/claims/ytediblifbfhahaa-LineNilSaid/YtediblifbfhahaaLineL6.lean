/- Proved: what a law of package line comes to; the conditions stand in the statements. -/
import Derived.Test.YtediblifbfhahaaLineG
set_option linter.unusedVariables false
set_option linter.unusedSimpArgs false
namespace Go.Proofs.Ytediblifbfhahaa.Line
open Go Go.RowKit Go.Proofs.Ytediblifbfhahaa.Eng

set_option maxRecDepth 100000 in
set_option maxHeartbeats 4000000 in
theorem f6_LineNil (m : Int) (b : Blk) (q : Int) (z : Bool) (w : World) (hq0 : 0 ≤ q) (hq1 : q ≤ 18446744073709551615) :
    Calls Try.prog 6 [.int .i64 (m), .agg (bv (b)), .int .u64 (q), .bool (z)].toArray w fun e w' => e = .returned (.bool (true)) ∧ Below w.heap.size w w' := by
  refine (calls_of (P := Try.prog) (n := 68) (w0 := w) (S := fun _ => False) (H := []) (T := fun v _ => v = (.bool (true))) Try.func6 rfl Try.ntmps6 (Nat.le_of_ble_eq_true rfl) [.tmp 8] rfl (St.nil w _) ?_).mono fun e w' ⟨v, H', he, hs, hT⟩ => ⟨by rw [he, hT], hs.below⟩
  refine c_seq fun K1 hK1 => ?_
  refine c_region ?_
  refine o_box (v := .agg (bv (b))) rfl rfl fun g1 => ?_
  refine o_y (v := .bool (false)) rfl rfl (y_assign rfl) ?_
  refine o_nil ?_
  refine hK1 _ _ ?_
  refine c_seq fun K2 hK2 => ?_
  refine c_region ?_
  refine o_y (v := .pointer none) rfl rfl (y_assign rfl) ?_
  refine o_nil ?_
  refine hK2 _ _ ?_
  refine c_seq fun K3 hK3 => ?_
  refine c_seq fun K4 hK4 => ?_
  refine c_region ?_
  refine o_y (v := .bool (z)) rfl rfl (y_move rfl) ?_
  refine o_nil ?_
  refine hK4 _ _ ?_
  refine c_cond (t := z) rfl (fun hc1 => ?_) (fun hc1 => ?_)
  ·
    -- way T
    refine c_region ?_
    refine o_y (v := .agg (LS.enc (newL (0)))) rfl rfl (y_build rfl (by first | kernel_rfl | rfl)) ?_
    refine o_box (v := .agg (LS.enc (newL (0)))) rfl rfl fun g2 => ?_
    refine o_y (v := .pointer (some ⟨g2, 0, none⟩)) rfl rfl (y_assign rfl) ?_
    refine o_nil ?_
    refine hK3 _ _ ?_
    refine c_seq fun K5 hK5 => ?_
    refine c_region ?_
    refine o_y (v := .pointer (some ⟨g2, 0, none⟩)) rfl rfl (y_move rfl) ?_
    refine o_y (v := .int .i64 (m)) rfl rfl (y_move rfl) ?_
    refine o_y (v := .tuple #[.agg (bv (getV (newL (0)) (m))), .bool (getK (newL (0)) (m))]) rfl rfl (y_call (vs := [.pointer (some ⟨g2, 0, none⟩), .int .i64 (m)]) b9 rfl (fun w hw => f9_Get _ (newL (0)) (m) w (by first | assumption | omega | exact lone_mem | (simp only [mem_learn, mem_set, mem_forget, mem_clean]; exact lone_mem) | (simp only [mem_learn, mem_set, mem_forget, mem_clean]; first | omega | decide | exact ⟨by decide, by decide⟩ | (constructor <;> (show _ ≤ _) <;> decide)) | exact ⟨by decide, by decide⟩) (hw.sat ((List.Sublist.slnil.cons _).cons_cons _)))) ?_
    refine o_y (v := .tuple #[.agg (bv (getV (newL (0)) (m))), .bool (getK (newL (0)) (m))]) rfl rfl (y_move rfl) ?_
    refine o_y (v := .agg (bv (getV (newL (0)) (m)))) rfl rfl (y_extract (vs := #[.agg (bv (getV (newL (0)) (m))), .bool (getK (newL (0)) (m))]) rfl rfl) ?_
    refine o_y (v := .bool (false)) rfl rfl (y_bool (y_extract (vs := #[.agg (bv (getV (newL (0)) (m))), .bool (getK (newL (0)) (m))]) rfl rfl) (getK_z)) ?_
    refine o_alloc (z := .agg (bv (zB))) rfl z23 fun g3 => ?_
    refine o_storeB (H' := [(g3, .cells (bv (getV (newL (0)) (m))) 23 (0, 0)), (g2, .cells (LS.enc (newL (0))) 54 (0, 0)), (g1, .cells (bv (b)) 23 (0, 0))]) T23 0 rfl rfl rfl rfl ?_
    refine o_y (v := .bool (false)) rfl rfl (y_assign rfl) ?_
    refine o_nil ?_
    refine hK5 _ _ ?_
    refine c_seq fun K6 hK6 => ?_
    refine c_region ?_
    refine o_y (v := .pointer (some ⟨g2, 0, none⟩)) rfl rfl (y_move rfl) ?_
    refine o_y (v := .int .i64 (m)) rfl rfl (y_move rfl) ?_
    refine o_y (v := .agg (bv (b))) rfl rfl (y_loadB T23 rfl (Rd.whole (k := 2) rfl)) ?_
    refine o_callS ([(g2, .cells (LS.enc (newL (0))) 54 (0, 0))]) ([(g3, .cells (bv (getV (newL (0)) (m))) 23 (0, 0)), (g1, .cells (bv (b)) 23 (0, 0))]) (List.perm_middle (l₁ := ([(g3, .cells (bv (getV (newL (0)) (m))) 23 (0, 0))] : Hp)) (a := (g2, Obj.cells (LS.enc (newL (0))) 54 (0, 0))) (l₂ := ([(g1, .cells (bv (b)) 23 (0, 0))] : Hp))) (vs := [.pointer (some ⟨g2, 0, none⟩), .int .i64 (m), .agg (bv (b))]) b8 rfl rfl (fun w hat => f8_Learn _ (newL (0)) (m) (b) w (by first | assumption | omega | exact lone_mem | (simp only [mem_learn, mem_set, mem_forget, mem_clean]; exact lone_mem) | (simp only [mem_learn, mem_set, mem_forget, mem_clean]; first | omega | decide | exact ⟨by decide, by decide⟩ | (constructor <;> (show _ ≤ _) <;> decide)) | exact ⟨by decide, by decide⟩) hat) ?_
    rintro _ _ ⟨rfl, rfl⟩
    rw [show learnS (newL (0)) (m) (b) = newL (0) from (learn_z)]
    refine o_y (v := .bool (true)) rfl rfl (y_bool (y_eql rfl rfl rfl) (decide_eq_true ask_z)) ?_
    refine o_y (v := .bool (true)) rfl rfl (y_move rfl) ?_
    refine o_guard (j := 5) (d := 26) (b := true) rfl rfl rfl (fun _ => ?_) rfl (fun h => by cases h)
    refine o_y (v := .pointer (some ⟨g2, 0, none⟩)) rfl rfl (y_move rfl) ?_
    refine o_guard (j := 5) (d := 26) (b := true) rfl rfl rfl (fun _ => ?_) rfl (fun h => by cases h)
    refine o_y (v := .int .i64 (m)) rfl rfl (y_move rfl) ?_
    refine o_guard (j := 5) (d := 26) (b := true) rfl rfl rfl (fun _ => ?_) rfl (fun h => by cases h)
    refine o_y (v := .agg (bv (b))) rfl rfl (y_loadB T23 rfl (Rd.whole (k := 2) rfl)) ?_
    refine o_guard (j := 5) (d := 26) (b := true) rfl rfl rfl (fun _ => ?_) rfl (fun h => by cases h)
    refine o_y (v := .int .u64 (q)) rfl rfl (y_move rfl) ?_
    refine o_guard (j := 5) (d := 26) (b := true) rfl rfl rfl (fun _ => ?_) rfl (fun h => by cases h)
    refine o_callS ([(g2, .cells (LS.enc (newL (0))) 54 (0, 0))]) ([(g3, .cells (bv (getV (newL (0)) (m))) 23 (0, 0)), (g1, .cells (bv (b)) 23 (0, 0))]) (List.Perm.refl _) (vs := [.pointer (some ⟨g2, 0, none⟩), .int .i64 (m), .agg (bv (b)), .int .u64 (q)]) b10 rfl rfl (fun w hat => f10_Set _ (newL (0)) (m) (b) (q) w (by first | assumption | omega | exact lone_mem | (simp only [mem_learn, mem_set, mem_forget, mem_clean]; exact lone_mem) | (simp only [mem_learn, mem_set, mem_forget, mem_clean]; first | omega | decide | exact ⟨by decide, by decide⟩ | (constructor <;> (show _ ≤ _) <;> decide)) | exact ⟨by decide, by decide⟩) (by omega) (by omega) hat) ?_
    rintro _ _ ⟨rfl, rfl⟩
    rw [show setS (newL (0)) (m) (b) (q) = newL (0) from (set_z)]
    refine o_guard (j := 5) (d := 26) (b := true) rfl rfl rfl (fun _ => ?_) rfl (fun h => by cases h)
    refine o_y (v := .bool (true)) rfl rfl (y_bool (y_eql rfl rfl rfl) (decide_eq_true setE_z)) ?_
    refine o_y (v := .bool (true)) rfl rfl (y_pick (b := true) rfl rfl) ?_
    refine o_y (v := .bool (true)) rfl rfl (y_move rfl) ?_
    refine o_guard (j := 13) (d := 34) (b := true) rfl rfl rfl (fun _ => ?_) rfl (fun h => by cases h)
    refine o_y (v := .pointer (some ⟨g2, 0, none⟩)) rfl rfl (y_move rfl) ?_
    refine o_guard (j := 13) (d := 34) (b := true) rfl rfl rfl (fun _ => ?_) rfl (fun h => by cases h)
    refine o_y (v := .int .i64 (m)) rfl rfl (y_move rfl) ?_
    refine o_guard (j := 13) (d := 34) (b := true) rfl rfl rfl (fun _ => ?_) rfl (fun h => by cases h)
    refine o_callS ([(g2, .cells (LS.enc (newL (0))) 54 (0, 0))]) ([(g3, .cells (bv (getV (newL (0)) (m))) 23 (0, 0)), (g1, .cells (bv (b)) 23 (0, 0))]) (List.Perm.refl _) (vs := [.pointer (some ⟨g2, 0, none⟩), .int .i64 (m)]) b15 rfl rfl (fun w hat => f15_Forget _ (newL (0)) (m) w (by first | assumption | omega | exact lone_mem | (simp only [mem_learn, mem_set, mem_forget, mem_clean]; exact lone_mem) | (simp only [mem_learn, mem_set, mem_forget, mem_clean]; first | omega | decide | exact ⟨by decide, by decide⟩ | (constructor <;> (show _ ≤ _) <;> decide)) | exact ⟨by decide, by decide⟩) hat) ?_
    rintro _ _ ⟨rfl, rfl⟩
    rw [show forgetS (newL (0)) (m) = newL (0) from (forget_z)]
    refine o_guard (j := 13) (d := 34) (b := true) rfl rfl rfl (fun _ => ?_) rfl (fun h => by cases h)
    refine o_y (v := .bool (true)) rfl rfl (y_bool (y_eql rfl rfl rfl) (decide_eq_true ask_z)) ?_
    refine o_y (v := .bool (true)) rfl rfl (y_pick (b := true) rfl rfl) ?_
    refine o_y (v := .bool (true)) rfl rfl (y_move rfl) ?_
    refine o_guard (j := 19) (d := 40) (b := true) rfl rfl rfl (fun _ => ?_) rfl (fun h => by cases h)
    refine o_y (v := .pointer (some ⟨g2, 0, none⟩)) rfl rfl (y_move rfl) ?_
    refine o_guard (j := 19) (d := 40) (b := true) rfl rfl rfl (fun _ => ?_) rfl (fun h => by cases h)
    refine o_callS ([(g2, .cells (LS.enc (newL (0))) 54 (0, 0))]) ([(g3, .cells (bv (getV (newL (0)) (m))) 23 (0, 0)), (g1, .cells (bv (b)) 23 (0, 0))]) (List.Perm.refl _) (vs := [.pointer (some ⟨g2, 0, none⟩)]) b13 rfl rfl (fun w hat => f13_Clean _ (newL (0))  w  hat) ?_
    rintro _ _ ⟨rfl, rfl⟩
    rw [show cleanS (newL (0))  = newL (0) from (clean_z)]
    refine o_guard (j := 19) (d := 40) (b := true) rfl rfl rfl (fun _ => ?_) rfl (fun h => by cases h)
    refine o_y (v := .bool (true)) rfl rfl (y_bool (y_eql rfl rfl rfl) (decide_eq_true rfl)) ?_
    refine o_y (v := .bool (true)) rfl rfl (y_pick (b := true) rfl rfl) ?_
    refine o_y (v := .bool (true)) rfl rfl (y_move rfl) ?_
    refine o_guard (j := 24) (d := 45) (b := true) rfl rfl rfl (fun _ => ?_) rfl (fun h => by cases h)
    refine o_y (v := .bool (false)) rfl rfl (y_move rfl) ?_
    refine o_guard (j := 24) (d := 45) (b := true) rfl rfl rfl (fun _ => ?_) rfl (fun h => by cases h)
    refine o_y (v := .bool (true)) rfl rfl (y_not rfl rfl) ?_
    refine o_y (v := .bool (true)) rfl rfl (y_pick (b := true) rfl rfl) ?_
    refine o_y (v := .bool (true)) rfl rfl (y_move rfl) ?_
    refine o_guard (j := 28) (d := 49) (b := true) rfl rfl rfl (fun _ => ?_) rfl (fun h => by cases h)
    refine o_y (v := .pointer (some ⟨g2, 0, none⟩)) rfl rfl (y_move rfl) ?_
    refine o_guard (j := 28) (d := 49) (b := true) rfl rfl rfl (fun _ => ?_) rfl (fun h => by cases h)
    refine o_callV (fun Hy => [(g2, .cells (LS.enc (newL (0))) 54 (0, 0)), (g3, .cells (bv (getV (newL (0)) (m))) 23 (0, 0)), (g1, .cells (bv (b)) 23 (0, 0))] ++ (Hy)) (fun Hy => by have h := List.perm_append_comm (l₁ := ([(g2, .cells (LS.enc (newL (0))) 54 (0, 0)), (g3, .cells (bv (getV (newL (0)) (m))) 23 (0, 0)), (g1, .cells (bv (b)) 23 (0, 0))] : Hp)) (l₂ := Hy); first | exact h | simpa [Value.cells] using h) (vs := [.pointer (some ⟨g2, 0, none⟩)]) b11 rfl rfl (fun w hw => f11_Dirty _ (newL (0)) w (by first | assumption | omega | exact lone_mem | (simp only [mem_learn, mem_set, mem_forget, mem_clean]; exact lone_mem) | (simp only [mem_learn, mem_set, mem_forget, mem_clean]; first | omega | decide | exact ⟨by decide, by decide⟩ | (constructor <;> (show _ ≤ _) <;> decide)) | exact ⟨by decide, by decide⟩) (hw.sat (((List.Sublist.slnil.cons _).cons _).cons_cons _))) ?_
    rintro _ Hp8 ⟨ap8, gp8, capp8, rfl, hvp8⟩
    have hzp8 := hvp8.le
    have hyp8 := hvp8.mx
    simp only [maxLen] at hyp8
    refine o_guard (j := 28) (d := 49) (b := true) rfl rfl rfl (fun _ => ?_) rfl (fun h => by cases h)
    refine o_y (v := .int .i64 ((((dirtyL (newL (0))).length : Nat) : Int))) rfl rfl (y_len rfl Try.underlying33) ?_
    refine o_guard (j := 28) (d := 49) (b := true) rfl rfl rfl (fun _ => ?_) rfl (fun h => by cases h)
    refine o_y (v := .bool (true)) rfl rfl (y_bool (y_eql rfl rfl rfl) (by first | decide | exact decide_eq_true rfl)) ?_
    refine o_y (v := .bool (true)) rfl rfl (y_pick (b := true) rfl rfl) ?_
    refine o_y (v := .bool (true)) rfl rfl (y_move rfl) ?_
    refine o_guard (j := 34) (d := 55) (b := true) rfl rfl rfl (fun _ => ?_) rfl (fun h => by cases h)
    refine o_y (v := .pointer (some ⟨g2, 0, none⟩)) rfl rfl (y_move rfl) ?_
    refine o_guard (j := 34) (d := 55) (b := true) rfl rfl rfl (fun _ => ?_) rfl (fun h => by cases h)
    refine o_y (v := .int .u64 ((newL (0)).fs)) rfl rfl (y_call (vs := [.pointer (some ⟨g2, 0, none⟩)]) b16 rfl (fun w hw => f16_First _ (newL (0)) w (hw.sat ((((List.nil_sublist _).cons _).cons _).cons_cons _)))) ?_
    refine o_guard (j := 34) (d := 55) (b := true) rfl rfl rfl (fun _ => ?_) rfl (fun h => by cases h)
    refine o_y (v := .bool (true)) rfl rfl (y_bool (y_eql rfl rfl rfl) (by first | decide | exact decide_eq_true rfl)) ?_
    refine o_y (v := .bool (true)) rfl rfl (y_pick (b := true) rfl rfl) ?_
    refine o_y (v := .bool (true)) rfl rfl (y_move rfl) ?_
    refine o_guard (j := 39) (d := 60) (b := true) rfl rfl rfl (fun _ => ?_) rfl (fun h => by cases h)
    refine o_y (v := .pointer (some ⟨g2, 0, none⟩)) rfl rfl (y_move rfl) ?_
    refine o_guard (j := 39) (d := 60) (b := true) rfl rfl rfl (fun _ => ?_) rfl (fun h => by cases h)
    refine o_y (v := .int .i64 ((newL (0)).mem)) rfl rfl (y_call (vs := [.pointer (some ⟨g2, 0, none⟩)]) b20 rfl (fun w hw => f20_Members _ (newL (0)) w (hw.sat ((((List.nil_sublist _).cons _).cons _).cons_cons _)))) ?_
    refine o_guard (j := 39) (d := 60) (b := true) rfl rfl rfl (fun _ => ?_) rfl (fun h => by cases h)
    refine o_y (v := .bool (true)) rfl rfl (y_bool (y_eql rfl rfl rfl) (by first | decide | exact decide_eq_true rfl)) ?_
    refine o_y (v := .bool (true)) rfl rfl (y_pick (b := true) rfl rfl) ?_
    refine o_y (v := .bool (true)) rfl rfl (y_move rfl) ?_
    refine o_guard (j := 44) (d := 65) (b := true) rfl rfl rfl (fun _ => ?_) rfl (fun h => by cases h)
    refine o_y (v := .bool (true)) rfl rfl (y_call (vs := []) b12 rfl (fun w hw => f12_lives w)) ?_
    refine o_y (v := .bool (true)) rfl rfl (y_pick (b := true) rfl rfl) ?_
    refine o_y (v := .bool (true)) rfl rfl (y_assign rfl) ?_
    refine o_nil ?_
    refine hK6 _ _ ?_
    refine c_ret ?_
    refine fun w hw => ⟨[.bool (true)], ⟨rfl, trivial⟩, ?_⟩
    exact rfl
  ·
    -- way F
    refine c_skip ?_
    refine hK3 _ _ ?_
    refine c_seq fun K7 hK7 => ?_
    refine c_region ?_
    refine o_y (v := .pointer none) rfl rfl (y_move rfl) ?_
    refine o_y (v := .int .i64 (m)) rfl rfl (y_move rfl) ?_
    refine o_y (v := .tuple #[.agg (bv (zB)), .bool (false)]) rfl rfl (y_call (vs := [.pointer none, .int .i64 (m)]) b9 rfl (fun w hw => f9_GetN (m) w)) ?_
    refine o_y (v := .tuple #[.agg (bv (zB)), .bool (false)]) rfl rfl (y_move rfl) ?_
    refine o_y (v := .agg (bv (zB))) rfl rfl (y_extract (vs := #[.agg (bv (zB)), .bool (false)]) rfl rfl) ?_
    refine o_y (v := .bool (false)) rfl rfl (y_extract (vs := #[.agg (bv (zB)), .bool (false)]) rfl rfl) ?_
    refine o_alloc (z := .agg (bv (zB))) rfl z23 fun g9 => ?_
    refine o_storeB (H' := [(g9, .cells (bv (zB)) 23 (0, 0)), (g1, .cells (bv (b)) 23 (0, 0))]) T23 0 rfl rfl rfl rfl ?_
    refine o_y (v := .bool (false)) rfl rfl (y_assign rfl) ?_
    refine o_nil ?_
    refine hK7 _ _ ?_
    refine c_seq fun K8 hK8 => ?_
    refine c_region ?_
    refine o_y (v := .pointer none) rfl rfl (y_move rfl) ?_
    refine o_y (v := .int .i64 (m)) rfl rfl (y_move rfl) ?_
    refine o_y (v := .agg (bv (b))) rfl rfl (y_loadB T23 rfl (Rd.whole (k := 1) rfl)) ?_
    refine o_y (v := .int .i64 (1)) rfl rfl (y_call (vs := [.pointer none, .int .i64 (m), .agg (bv (b))]) b8 rfl (fun w hw => f8_LearnN (m) (b) w)) ?_
    refine o_y (v := .bool (true)) rfl rfl (y_eql rfl rfl (by decide)) ?_
    refine o_y (v := .bool (true)) rfl rfl (y_move rfl) ?_
    refine o_guard (j := 5) (d := 26) (b := true) rfl rfl rfl (fun _ => ?_) rfl (fun h => by cases h)
    refine o_y (v := .pointer none) rfl rfl (y_move rfl) ?_
    refine o_guard (j := 5) (d := 26) (b := true) rfl rfl rfl (fun _ => ?_) rfl (fun h => by cases h)
    refine o_y (v := .int .i64 (m)) rfl rfl (y_move rfl) ?_
    refine o_guard (j := 5) (d := 26) (b := true) rfl rfl rfl (fun _ => ?_) rfl (fun h => by cases h)
    refine o_y (v := .agg (bv (b))) rfl rfl (y_loadB T23 rfl (Rd.whole (k := 1) rfl)) ?_
    refine o_guard (j := 5) (d := 26) (b := true) rfl rfl rfl (fun _ => ?_) rfl (fun h => by cases h)
    refine o_y (v := .int .u64 (q)) rfl rfl (y_move rfl) ?_
    refine o_guard (j := 5) (d := 26) (b := true) rfl rfl rfl (fun _ => ?_) rfl (fun h => by cases h)
    refine o_y (v := .int .i64 (1)) rfl rfl (y_call (vs := [.pointer none, .int .i64 (m), .agg (bv (b)), .int .u64 (q)]) b10 rfl (fun w hw => f10_SetN (m) (b) (q) w)) ?_
    refine o_guard (j := 5) (d := 26) (b := true) rfl rfl rfl (fun _ => ?_) rfl (fun h => by cases h)
    refine o_y (v := .bool (true)) rfl rfl (y_eql rfl rfl (by decide)) ?_
    refine o_y (v := .bool (true)) rfl rfl (y_pick (b := true) rfl rfl) ?_
    refine o_y (v := .bool (true)) rfl rfl (y_move rfl) ?_
    refine o_guard (j := 13) (d := 34) (b := true) rfl rfl rfl (fun _ => ?_) rfl (fun h => by cases h)
    refine o_y (v := .pointer none) rfl rfl (y_move rfl) ?_
    refine o_guard (j := 13) (d := 34) (b := true) rfl rfl rfl (fun _ => ?_) rfl (fun h => by cases h)
    refine o_y (v := .int .i64 (m)) rfl rfl (y_move rfl) ?_
    refine o_guard (j := 13) (d := 34) (b := true) rfl rfl rfl (fun _ => ?_) rfl (fun h => by cases h)
    refine o_y (v := .int .i64 (1)) rfl rfl (y_call (vs := [.pointer none, .int .i64 (m)]) b15 rfl (fun w hw => f15_ForgetN (m) w)) ?_
    refine o_guard (j := 13) (d := 34) (b := true) rfl rfl rfl (fun _ => ?_) rfl (fun h => by cases h)
    refine o_y (v := .bool (true)) rfl rfl (y_eql rfl rfl (by decide)) ?_
    refine o_y (v := .bool (true)) rfl rfl (y_pick (b := true) rfl rfl) ?_
    refine o_y (v := .bool (true)) rfl rfl (y_move rfl) ?_
    refine o_guard (j := 19) (d := 40) (b := true) rfl rfl rfl (fun _ => ?_) rfl (fun h => by cases h)
    refine o_y (v := .pointer none) rfl rfl (y_move rfl) ?_
    refine o_guard (j := 19) (d := 40) (b := true) rfl rfl rfl (fun _ => ?_) rfl (fun h => by cases h)
    refine o_y (v := .int .i64 (1)) rfl rfl (y_call (vs := [.pointer none]) b13 rfl (fun w hw => f13_CleanN  w)) ?_
    refine o_guard (j := 19) (d := 40) (b := true) rfl rfl rfl (fun _ => ?_) rfl (fun h => by cases h)
    refine o_y (v := .bool (true)) rfl rfl (y_eql rfl rfl (by decide)) ?_
    refine o_y (v := .bool (true)) rfl rfl (y_pick (b := true) rfl rfl) ?_
    refine o_y (v := .bool (true)) rfl rfl (y_move rfl) ?_
    refine o_guard (j := 24) (d := 45) (b := true) rfl rfl rfl (fun _ => ?_) rfl (fun h => by cases h)
    refine o_y (v := .bool (false)) rfl rfl (y_move rfl) ?_
    refine o_guard (j := 24) (d := 45) (b := true) rfl rfl rfl (fun _ => ?_) rfl (fun h => by cases h)
    refine o_y (v := .bool (true)) rfl rfl (y_not rfl rfl) ?_
    refine o_y (v := .bool (true)) rfl rfl (y_pick (b := true) rfl rfl) ?_
    refine o_y (v := .bool (true)) rfl rfl (y_move rfl) ?_
    refine o_guard (j := 28) (d := 49) (b := true) rfl rfl rfl (fun _ => ?_) rfl (fun h => by cases h)
    refine o_y (v := .pointer none) rfl rfl (y_move rfl) ?_
    refine o_guard (j := 28) (d := 49) (b := true) rfl rfl rfl (fun _ => ?_) rfl (fun h => by cases h)
    refine o_y (v := .slice none 0 0) rfl rfl (y_call (vs := [.pointer none]) b11 rfl (fun w hw => f11_DirtyN w)) ?_
    refine o_guard (j := 28) (d := 49) (b := true) rfl rfl rfl (fun _ => ?_) rfl (fun h => by cases h)
    refine o_y (v := .int .i64 (((0 : Nat) : Int))) rfl rfl (y_len rfl Try.underlying33) ?_
    refine o_guard (j := 28) (d := 49) (b := true) rfl rfl rfl (fun _ => ?_) rfl (fun h => by cases h)
    refine o_y (v := .bool (true)) rfl rfl (y_bool (y_eql rfl rfl rfl) (by first | decide | exact decide_eq_true rfl)) ?_
    refine o_y (v := .bool (true)) rfl rfl (y_pick (b := true) rfl rfl) ?_
    refine o_y (v := .bool (true)) rfl rfl (y_move rfl) ?_
    refine o_guard (j := 34) (d := 55) (b := true) rfl rfl rfl (fun _ => ?_) rfl (fun h => by cases h)
    refine o_y (v := .pointer none) rfl rfl (y_move rfl) ?_
    refine o_guard (j := 34) (d := 55) (b := true) rfl rfl rfl (fun _ => ?_) rfl (fun h => by cases h)
    refine o_y (v := .int .u64 (0)) rfl rfl (y_call (vs := [.pointer none]) b16 rfl (fun w hw => f16_FirstN w)) ?_
    refine o_guard (j := 34) (d := 55) (b := true) rfl rfl rfl (fun _ => ?_) rfl (fun h => by cases h)
    refine o_y (v := .bool (true)) rfl rfl (y_eql rfl rfl (by decide)) ?_
    refine o_y (v := .bool (true)) rfl rfl (y_pick (b := true) rfl rfl) ?_
    refine o_y (v := .bool (true)) rfl rfl (y_move rfl) ?_
    refine o_guard (j := 39) (d := 60) (b := true) rfl rfl rfl (fun _ => ?_) rfl (fun h => by cases h)
    refine o_y (v := .pointer none) rfl rfl (y_move rfl) ?_
    refine o_guard (j := 39) (d := 60) (b := true) rfl rfl rfl (fun _ => ?_) rfl (fun h => by cases h)
    refine o_y (v := .int .i64 (0)) rfl rfl (y_call (vs := [.pointer none]) b20 rfl (fun w hw => f20_MembersN w)) ?_
    refine o_guard (j := 39) (d := 60) (b := true) rfl rfl rfl (fun _ => ?_) rfl (fun h => by cases h)
    refine o_y (v := .bool (true)) rfl rfl (y_eql rfl rfl (by decide)) ?_
    refine o_y (v := .bool (true)) rfl rfl (y_pick (b := true) rfl rfl) ?_
    refine o_y (v := .bool (true)) rfl rfl (y_move rfl) ?_
    refine o_guard (j := 44) (d := 65) (b := true) rfl rfl rfl (fun _ => ?_) rfl (fun h => by cases h)
    refine o_y (v := .bool (true)) rfl rfl (y_call (vs := []) b12 rfl (fun w hw => f12_lives w)) ?_
    refine o_y (v := .bool (true)) rfl rfl (y_pick (b := true) rfl rfl) ?_
    refine o_y (v := .bool (true)) rfl rfl (y_assign rfl) ?_
    refine o_nil ?_
    refine hK8 _ _ ?_
    refine c_ret ?_
    refine fun w hw => ⟨[.bool (true)], ⟨rfl, trivial⟩, ?_⟩
    exact rfl

end Go.Proofs.Ytediblifbfhahaa.Line
