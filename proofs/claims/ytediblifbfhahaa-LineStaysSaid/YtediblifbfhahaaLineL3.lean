/- Proved: what a law of package line comes to; the conditions stand in the statements. -/
import Derived.Test.YtediblifbfhahaaLineG
set_option linter.unusedVariables false
set_option linter.unusedSimpArgs false
namespace Go.Proofs.Ytediblifbfhahaa.Line
open Go Go.RowKit Go.Proofs.Ytediblifbfhahaa.Eng

set_option maxRecDepth 100000 in
set_option maxHeartbeats 4000000 in
theorem f3_LineStays (mb : Int) (a b c : Blk) (q : Int) (cl : Bool) (w : World) (h0 : 0 ≤ mb) (h1 : mb ≤ 255) (hq0 : 0 ≤ q) (hq1 : q ≤ 18446744073709551615) :
    Calls Try.prog 3 [.int .u8 (mb), .agg (bv (a)), .agg (bv (b)), .agg (bv (c)), .int .u64 (q), .bool (cl)].toArray w fun e w' => e = .returned (.bool (true)) ∧ Below w.heap.size w w' := by
  have hM : 0 ≤ (mb) % 16 ∧ (mb) % 16 < 16 := by omega
  refine (calls_of (P := Try.prog) (n := 123) (w0 := w) (S := fun _ => False) (H := []) (T := fun v _ => v = (.bool (true))) Try.func3 rfl Try.ntmps3 (Nat.le_of_ble_eq_true rfl) [.tmp 12] rfl (St.nil w _) ?_).mono fun e w' ⟨v, H', he, hs, hT⟩ => ⟨by rw [he, hT], hs.below⟩
  refine c_seq fun K1 hK1 => ?_
  refine c_region ?_
  refine o_box (v := .agg (bv (a))) rfl rfl fun g1 => ?_
  refine o_box (v := .agg (bv (b))) rfl rfl fun g2 => ?_
  refine o_box (v := .agg (bv (c))) rfl rfl fun g3 => ?_
  refine o_y (v := .bool (false)) rfl rfl (y_assign rfl) ?_
  refine o_nil ?_
  refine hK1 _ _ ?_
  refine c_seq fun K2 hK2 => ?_
  refine c_region ?_
  refine o_callNew (vs := [.int .i64 (16)]) b7 rfl rfl (fun w hw => f7_New (16) w (by omega) (by omega)) ?_
  rintro _ _ ⟨g4, rfl, rfl⟩
  rw [show newL (16) = lone ((mb) % 16) false false zB (0) from (lone_new)]
  refine o_y (v := .tuple #[.pointer (some ⟨g4, 0, none⟩), .int .i64 (0)]) rfl rfl (y_move rfl) ?_
  refine o_y (v := .pointer (some ⟨g4, 0, none⟩)) rfl rfl (y_extract (vs := #[.pointer (some ⟨g4, 0, none⟩), .int .i64 (0)]) rfl rfl) ?_
  refine o_y (v := .int .i64 (0)) rfl rfl (y_extract (vs := #[.pointer (some ⟨g4, 0, none⟩), .int .i64 (0)]) rfl rfl) ?_
  refine o_y (v := .pointer (some ⟨g4, 0, none⟩)) rfl rfl (y_assign rfl) ?_
  refine o_y (v := .int .i64 (0)) rfl rfl (y_assign rfl) ?_
  refine o_nil ?_
  refine hK2 _ _ ?_
  refine c_seq fun K3 hK3 => ?_
  refine c_region ?_
  refine o_y (v := .int .u8 (mb)) rfl rfl (y_move rfl) ?_
  refine o_y (v := .int .u8 ((mb) % 16)) rfl rfl (y_rem rfl rfl (by decide) (Int.tmod_eq_emod_of_nonneg (by omega))) ?_
  refine o_y (v := .int .i64 ((mb) % 16)) rfl rfl (y_conv rfl Try.underlying5 Try.underlying3 (wi_i64 (by omega) (by omega))) ?_
  refine o_y (v := .int .i64 ((mb) % 16)) rfl rfl (y_assign rfl) ?_
  refine o_nil ?_
  refine hK3 _ _ ?_
  refine c_seq fun K4 hK4 => ?_
  refine c_seq fun K5 hK5 => ?_
  refine c_region ?_
  refine o_y (v := .int .i64 (0)) rfl rfl (y_move rfl) ?_
  refine o_y (v := .bool (false)) rfl rfl (y_neq rfl rfl (by decide)) ?_
  refine o_y (v := .bool (false)) rfl rfl (y_move rfl) ?_
  refine o_guard (j := 2) (d := 28) (b := false) rfl rfl rfl (fun _ => ?_) rfl (fun h => by cases h)
  refine o_y (v := .pointer (some ⟨g4, 0, none⟩)) rfl rfl (y_move rfl) ?_
  refine o_guard (j := 2) (d := 28) (b := false) rfl rfl rfl (fun _ => ?_) rfl (fun h => by cases h)
  refine o_y (v := .int .i64 ((mb) % 16)) rfl rfl (y_move rfl) ?_
  refine o_guard (j := 2) (d := 28) (b := false) rfl rfl rfl (fun _ => ?_) rfl (fun h => by cases h)
  refine o_y (v := .agg (bv (a))) rfl rfl (y_loadB T23 rfl (Rd.whole (k := 3) rfl)) ?_
  refine o_guard (j := 2) (d := 28) (b := false) rfl rfl rfl (fun _ => ?_) rfl (fun h => by cases h)
  refine o_callS ([(g4, .cells (LS.enc (lone ((mb) % 16) false false zB (0))) 54 (0, 0))]) ([(g3, .cells (bv (c)) 23 (0, 0)), (g2, .cells (bv (b)) 23 (0, 0)), (g1, .cells (bv (a)) 23 (0, 0))]) (List.Perm.refl _) (vs := [.pointer (some ⟨g4, 0, none⟩), .int .i64 ((mb) % 16), .agg (bv (a))]) b8 rfl rfl (fun w hat => f8_Learn _ (lone ((mb) % 16) false false zB (0)) ((mb) % 16) (a) w (by first | assumption | omega | exact lone_mem | (simp only [mem_learn, mem_set, mem_forget, mem_clean]; exact lone_mem) | (simp only [mem_learn, mem_set, mem_forget, mem_clean]; first | omega | decide | exact ⟨by decide, by decide⟩ | (constructor <;> (show _ ≤ _) <;> decide)) | exact ⟨by decide, by decide⟩) hat) ?_
  rintro _ _ ⟨rfl, rfl⟩
  rw [show learnS (lone ((mb) % 16) false false zB (0)) ((mb) % 16) (a) = lone ((mb) % 16) true false a (0) from (learn_f hM)]
  refine o_guard (j := 2) (d := 28) (b := false) rfl rfl rfl (fun _ => ?_) rfl (fun h => by cases h)
  refine o_y (v := .bool (false)) rfl rfl (y_bool (y_neq rfl rfl rfl) (decide_eq_false (fun h => h (lone_ask hM)))) ?_
  refine o_y (v := .bool (false)) rfl rfl (y_pick (b := false) rfl rfl) ?_
  refine o_y (v := .bool (false)) rfl rfl (y_move rfl) ?_
  refine o_guard (j := 9) (d := 35) (b := false) rfl rfl rfl (fun _ => ?_) rfl (fun h => by cases h)
  refine o_y (v := .pointer (some ⟨g4, 0, none⟩)) rfl rfl (y_move rfl) ?_
  refine o_guard (j := 9) (d := 35) (b := false) rfl rfl rfl (fun _ => ?_) rfl (fun h => by cases h)
  refine o_y (v := .int .i64 ((mb) % 16)) rfl rfl (y_move rfl) ?_
  refine o_guard (j := 9) (d := 35) (b := false) rfl rfl rfl (fun _ => ?_) rfl (fun h => by cases h)
  refine o_y (v := .agg (bv (b))) rfl rfl (y_loadB T23 rfl (Rd.whole (k := 2) rfl)) ?_
  refine o_guard (j := 9) (d := 35) (b := false) rfl rfl rfl (fun _ => ?_) rfl (fun h => by cases h)
  refine o_callS ([(g4, .cells (LS.enc (lone ((mb) % 16) true false a (0))) 54 (0, 0))]) ([(g3, .cells (bv (c)) 23 (0, 0)), (g2, .cells (bv (b)) 23 (0, 0)), (g1, .cells (bv (a)) 23 (0, 0))]) (List.Perm.refl _) (vs := [.pointer (some ⟨g4, 0, none⟩), .int .i64 ((mb) % 16), .agg (bv (b))]) b8 rfl rfl (fun w hat => f8_Learn _ (lone ((mb) % 16) true false a (0)) ((mb) % 16) (b) w (by first | assumption | omega | exact lone_mem | (simp only [mem_learn, mem_set, mem_forget, mem_clean]; exact lone_mem) | (simp only [mem_learn, mem_set, mem_forget, mem_clean]; first | omega | decide | exact ⟨by decide, by decide⟩ | (constructor <;> (show _ ≤ _) <;> decide)) | exact ⟨by decide, by decide⟩) hat) ?_
  rintro _ _ ⟨rfl, rfl⟩
  rw [show learnS (lone ((mb) % 16) true false a (0)) ((mb) % 16) (b) = lone ((mb) % 16) true false a (0) from (learn_t hM)]
  refine o_guard (j := 9) (d := 35) (b := false) rfl rfl rfl (fun _ => ?_) rfl (fun h => by cases h)
  refine o_y (v := .bool (false)) rfl rfl (y_bool (y_neq rfl rfl rfl) (decide_eq_false (fun h => h (lone_ask hM)))) ?_
  refine o_y (v := .bool (false)) rfl rfl (y_pick (b := false) rfl rfl) ?_
  refine o_nil ?_
  refine hK5 _ _ ?_
  refine c_cond (t := false) rfl (fun h => by cases h) (fun _ => ?_)
  refine c_skip ?_
  refine hK4 _ _ ?_
  refine c_seq fun K6 hK6 => ?_
  refine c_region ?_
  refine o_y (v := .pointer (some ⟨g4, 0, none⟩)) rfl rfl (y_move rfl) ?_
  refine o_y (v := .int .i64 ((mb) % 16)) rfl rfl (y_move rfl) ?_
  refine o_y (v := .tuple #[.agg (bv (getV (lone ((mb) % 16) true false a (0)) ((mb) % 16))), .bool (getK (lone ((mb) % 16) true false a (0)) ((mb) % 16))]) rfl rfl (y_call (vs := [.pointer (some ⟨g4, 0, none⟩), .int .i64 ((mb) % 16)]) b9 rfl (fun w hw => f9_Get _ (lone ((mb) % 16) true false a (0)) ((mb) % 16) w (by first | assumption | omega | exact lone_mem | (simp only [mem_learn, mem_set, mem_forget, mem_clean]; exact lone_mem) | (simp only [mem_learn, mem_set, mem_forget, mem_clean]; first | omega | decide | exact ⟨by decide, by decide⟩ | (constructor <;> (show _ ≤ _) <;> decide)) | exact ⟨by decide, by decide⟩) (hw.sat ((((List.Sublist.slnil.cons _).cons _).cons _).cons_cons _)))) ?_
  refine o_y (v := .tuple #[.agg (bv (getV (lone ((mb) % 16) true false a (0)) ((mb) % 16))), .bool (getK (lone ((mb) % 16) true false a (0)) ((mb) % 16))]) rfl rfl (y_move rfl) ?_
  refine o_y (v := .agg (bv (getV (lone ((mb) % 16) true false a (0)) ((mb) % 16)))) rfl rfl (y_extract (vs := #[.agg (bv (getV (lone ((mb) % 16) true false a (0)) ((mb) % 16))), .bool (getK (lone ((mb) % 16) true false a (0)) ((mb) % 16))]) rfl rfl) ?_
  refine o_y (v := .bool (true)) rfl rfl (y_bool (y_extract (vs := #[.agg (bv (getV (lone ((mb) % 16) true false a (0)) ((mb) % 16))), .bool (getK (lone ((mb) % 16) true false a (0)) ((mb) % 16))]) rfl rfl) (get_k hM)) ?_
  refine o_alloc (z := .agg (bv (zB))) rfl z23 fun g8 => ?_
  refine o_storeB (H' := [(g8, .cells (bv (getV (lone ((mb) % 16) true false a (0)) ((mb) % 16))) 23 (0, 0)), (g4, .cells (LS.enc (lone ((mb) % 16) true false a (0))) 54 (0, 0)), (g3, .cells (bv (c)) 23 (0, 0)), (g2, .cells (bv (b)) 23 (0, 0)), (g1, .cells (bv (a)) 23 (0, 0))]) T23 0 rfl rfl rfl rfl ?_
  refine o_y (v := .bool (true)) rfl rfl (y_assign rfl) ?_
  refine o_nil ?_
  refine hK6 _ _ ?_
  refine c_seq fun K7 hK7 => ?_
  refine c_seq fun K8 hK8 => ?_
  refine c_region ?_
  refine o_y (v := .agg (bv (getV (lone ((mb) % 16) true false a (0)) ((mb) % 16)))) rfl rfl (y_loadB T23 rfl (Rd.whole (k := 0) rfl)) ?_
  refine o_y (v := .agg (bv (a))) rfl rfl (y_loadB T23 rfl (Rd.whole (k := 4) rfl)) ?_
  refine o_y (v := .bool (false)) rfl rfl (y_bool (y_neqV T23 rfl rfl) (decide_eq_false (fun h => h (get_1 hM)))) ?_
  refine o_y (v := .bool (false)) rfl rfl (y_move rfl) ?_
  refine o_guard (j := 3) (d := 51) (b := false) rfl rfl rfl (fun _ => ?_) rfl (fun h => by cases h)
  refine o_y (v := .bool (true)) rfl rfl (y_move rfl) ?_
  refine o_guard (j := 3) (d := 51) (b := false) rfl rfl rfl (fun _ => ?_) rfl (fun h => by cases h)
  refine o_y (v := .bool (false)) rfl rfl (y_not rfl rfl) ?_
  refine o_y (v := .bool (false)) rfl rfl (y_pick (b := false) rfl rfl) ?_
  refine o_nil ?_
  refine hK8 _ _ ?_
  refine c_cond (t := false) rfl (fun h => by cases h) (fun _ => ?_)
  refine c_skip ?_
  refine hK7 _ _ ?_
  refine c_seq fun K9 hK9 => ?_
  refine c_region ?_
  refine o_y (v := .pointer (some ⟨g4, 0, none⟩)) rfl rfl (y_move rfl) ?_
  refine o_y (v := .int .i64 ((mb) % 16)) rfl rfl (y_move rfl) ?_
  refine o_y (v := .agg (bv (c))) rfl rfl (y_loadB T23 rfl (Rd.whole (k := 2) rfl)) ?_
  refine o_y (v := .int .u64 (q)) rfl rfl (y_move rfl) ?_
  refine o_callS ([(g4, .cells (LS.enc (lone ((mb) % 16) true false a (0))) 54 (0, 0))]) ([(g8, .cells (bv (getV (lone ((mb) % 16) true false a (0)) ((mb) % 16))) 23 (0, 0)), (g3, .cells (bv (c)) 23 (0, 0)), (g2, .cells (bv (b)) 23 (0, 0)), (g1, .cells (bv (a)) 23 (0, 0))]) (List.perm_middle (l₁ := ([(g8, .cells (bv (getV (lone ((mb) % 16) true false a (0)) ((mb) % 16))) 23 (0, 0))] : Hp)) (a := (g4, Obj.cells (LS.enc (lone ((mb) % 16) true false a (0))) 54 (0, 0))) (l₂ := ([(g3, .cells (bv (c)) 23 (0, 0)), (g2, .cells (bv (b)) 23 (0, 0)), (g1, .cells (bv (a)) 23 (0, 0))] : Hp))) (vs := [.pointer (some ⟨g4, 0, none⟩), .int .i64 ((mb) % 16), .agg (bv (c)), .int .u64 (q)]) b10 rfl rfl (fun w hat => f10_Set _ (lone ((mb) % 16) true false a (0)) ((mb) % 16) (c) (q) w (by first | assumption | omega | exact lone_mem | (simp only [mem_learn, mem_set, mem_forget, mem_clean]; exact lone_mem) | (simp only [mem_learn, mem_set, mem_forget, mem_clean]; first | omega | decide | exact ⟨by decide, by decide⟩ | (constructor <;> (show _ ≤ _) <;> decide)) | exact ⟨by decide, by decide⟩) (by omega) (by omega) hat) ?_
  rintro _ _ ⟨rfl, rfl⟩
  refine o_y (v := .int .i64 (setE (lone ((mb) % 16) true false a (0)) ((mb) % 16) (q))) rfl rfl (y_assign rfl) ?_
  refine o_nil ?_
  refine hK9 _ _ ?_
  refine c_seq fun K10 hK10 => ?_
  refine c_seq fun K11 hK11 => ?_
  refine c_region ?_
  refine o_y (v := .int .u64 (q)) rfl rfl (y_move rfl) ?_
  refine o_y (v := .bool (decide (q = 0))) rfl rfl (y_eql rfl rfl rfl) ?_
  refine o_nil ?_
  refine hK11 _ _ ?_
  refine c_cond (t := decide (q = 0)) rfl (fun hc1 => ?_) (fun hc1 => ?_)
  ·
    replace hc1 := of_decide_eq_true hc1
    -- way T
    rw [show setS (lone ((mb) % 16) true false a (0)) ((mb) % 16) (c) (q) = lone ((mb) % 16) true false a (0) from (by have hqq : q = 0 := (by omega); subst hqq; exact set_q0 hM)]
    refine c_seq fun K12 hK12 => ?_
    refine c_region ?_
    refine o_y (v := .pointer (some ⟨g4, 0, none⟩)) rfl rfl (y_move rfl) ?_
    refine o_y (v := .int .i64 ((mb) % 16)) rfl rfl (y_move rfl) ?_
    refine o_y (v := .tuple #[.agg (bv (getV (lone ((mb) % 16) true false a (0)) ((mb) % 16))), .bool (getK (lone ((mb) % 16) true false a (0)) ((mb) % 16))]) rfl rfl (y_call (vs := [.pointer (some ⟨g4, 0, none⟩), .int .i64 ((mb) % 16)]) b9 rfl (fun w hw => f9_Get _ (lone ((mb) % 16) true false a (0)) ((mb) % 16) w (by first | assumption | omega | exact lone_mem | (simp only [mem_learn, mem_set, mem_forget, mem_clean]; exact lone_mem) | (simp only [mem_learn, mem_set, mem_forget, mem_clean]; first | omega | decide | exact ⟨by decide, by decide⟩ | (constructor <;> (show _ ≤ _) <;> decide)) | exact ⟨by decide, by decide⟩) (hw.sat (((((List.Sublist.slnil.cons _).cons _).cons _).cons _).cons_cons _)))) ?_
    refine o_y (v := .tuple #[.agg (bv (getV (lone ((mb) % 16) true false a (0)) ((mb) % 16))), .bool (getK (lone ((mb) % 16) true false a (0)) ((mb) % 16))]) rfl rfl (y_move rfl) ?_
    refine o_y (v := .agg (bv (getV (lone ((mb) % 16) true false a (0)) ((mb) % 16)))) rfl rfl (y_extract (vs := #[.agg (bv (getV (lone ((mb) % 16) true false a (0)) ((mb) % 16))), .bool (getK (lone ((mb) % 16) true false a (0)) ((mb) % 16))]) rfl rfl) ?_
    refine o_y (v := .bool (true)) rfl rfl (y_bool (y_extract (vs := #[.agg (bv (getV (lone ((mb) % 16) true false a (0)) ((mb) % 16))), .bool (getK (lone ((mb) % 16) true false a (0)) ((mb) % 16))]) rfl rfl) (get_k hM)) ?_
    refine o_storeB (H' := [(g4, .cells (LS.enc (lone ((mb) % 16) true false a (0))) 54 (0, 0)), (g8, .cells (bv (getV (lone ((mb) % 16) true false a (0)) ((mb) % 16))) 23 (0, 0)), (g3, .cells (bv (c)) 23 (0, 0)), (g2, .cells (bv (b)) 23 (0, 0)), (g1, .cells (bv (a)) 23 (0, 0))]) T23 1 rfl rfl rfl rfl ?_
    refine o_y (v := .bool (true)) rfl rfl (y_assign rfl) ?_
    refine o_nil ?_
    refine hK12 _ _ ?_
    refine c_seq fun K13 hK13 => ?_
    refine c_region ?_
    refine o_y (v := .int .i64 (setE (lone ((mb) % 16) true false a (0)) ((mb) % 16) (q))) rfl rfl (y_move rfl) ?_
    refine o_y (v := .bool (true)) rfl rfl (y_bool (y_eql rfl rfl rfl) (decide_eq_true (by have hqq : q = 0 := (by omega); subst hqq; exact setE_0 hM))) ?_
    refine o_y (v := .bool (true)) rfl rfl (y_move rfl) ?_
    refine o_guard (j := 2) (d := 70) (b := true) rfl rfl rfl (fun _ => ?_) rfl (fun h => by cases h)
    refine o_y (v := .agg (bv (getV (lone ((mb) % 16) true false a (0)) ((mb) % 16)))) rfl rfl (y_loadB T23 rfl (Rd.whole (k := 1) rfl)) ?_
    refine o_guard (j := 2) (d := 70) (b := true) rfl rfl rfl (fun _ => ?_) rfl (fun h => by cases h)
    refine o_y (v := .agg (bv (a))) rfl rfl (y_loadB T23 rfl (Rd.whole (k := 4) rfl)) ?_
    refine o_guard (j := 2) (d := 70) (b := true) rfl rfl rfl (fun _ => ?_) rfl (fun h => by cases h)
    refine o_y (v := .bool (true)) rfl rfl (y_bool (y_eqlV T23 rfl rfl) (decide_eq_true (get_1 hM))) ?_
    refine o_y (v := .bool (true)) rfl rfl (y_pick (b := true) rfl rfl) ?_
    refine o_y (v := .bool (true)) rfl rfl (y_move rfl) ?_
    refine o_guard (j := 7) (d := 75) (b := true) rfl rfl rfl (fun _ => ?_) rfl (fun h => by cases h)
    refine o_y (v := .bool (true)) rfl rfl (y_move rfl) ?_
    refine o_y (v := .bool (true)) rfl rfl (y_pick (b := true) rfl rfl) ?_
    refine o_y (v := .bool (true)) rfl rfl (y_move rfl) ?_
    refine o_guard (j := 10) (d := 78) (b := true) rfl rfl rfl (fun _ => ?_) rfl (fun h => by cases h)
    refine o_y (v := .pointer (some ⟨g4, 0, none⟩)) rfl rfl (y_move rfl) ?_
    refine o_guard (j := 10) (d := 78) (b := true) rfl rfl rfl (fun _ => ?_) rfl (fun h => by cases h)
    refine o_callV (fun Hy => [(g4, .cells (LS.enc (lone ((mb) % 16) true false a (0))) 54 (0, 0)), (g8, .cells (bv (getV (lone ((mb) % 16) true false a (0)) ((mb) % 16))) 23 (0, 0)), (g3, .cells (bv (c)) 23 (0, 0)), (g2, .cells (bv (b)) 23 (0, 0)), (g1, .cells (bv (a)) 23 (0, 0))] ++ (Hy)) (fun Hy => by have h := List.perm_append_comm (l₁ := ([(g4, .cells (LS.enc (lone ((mb) % 16) true false a (0))) 54 (0, 0)), (g8, .cells (bv (getV (lone ((mb) % 16) true false a (0)) ((mb) % 16))) 23 (0, 0)), (g3, .cells (bv (c)) 23 (0, 0)), (g2, .cells (bv (b)) 23 (0, 0)), (g1, .cells (bv (a)) 23 (0, 0))] : Hp)) (l₂ := Hy); first | exact h | simpa [Value.cells] using h) (vs := [.pointer (some ⟨g4, 0, none⟩)]) b11 rfl rfl (fun w hw => f11_Dirty _ (lone ((mb) % 16) true false a (0)) w (by first | assumption | omega | exact lone_mem | (simp only [mem_learn, mem_set, mem_forget, mem_clean]; exact lone_mem) | (simp only [mem_learn, mem_set, mem_forget, mem_clean]; first | omega | decide | exact ⟨by decide, by decide⟩ | (constructor <;> (show _ ≤ _) <;> decide)) | exact ⟨by decide, by decide⟩) (hw.sat (((((List.Sublist.slnil.cons _).cons _).cons _).cons _).cons_cons _))) ?_
    rintro _ Hp10 ⟨ap10, gp10, capp10, rfl, hvp10⟩
    have hzp10 := hvp10.le
    have hyp10 := hvp10.mx
    simp only [maxLen] at hyp10
    refine o_guard (j := 10) (d := 78) (b := true) rfl rfl rfl (fun _ => ?_) rfl (fun h => by cases h)
    refine o_y (v := .int .i64 ((((dirtyL (lone ((mb) % 16) true false a (0))).length : Nat) : Int))) rfl rfl (y_len rfl Try.underlying33) ?_
    refine o_guard (j := 10) (d := 78) (b := true) rfl rfl rfl (fun _ => ?_) rfl (fun h => by cases h)
    refine o_y (v := .bool (true)) rfl rfl (y_bool (y_eql rfl rfl rfl) (decide_eq_true (by rw [dirty_0 hM]; rfl))) ?_
    refine o_y (v := .bool (true)) rfl rfl (y_pick (b := true) rfl rfl) ?_
    refine o_y (v := .bool (true)) rfl rfl (y_move rfl) ?_
    refine o_guard (j := 16) (d := 84) (b := true) rfl rfl rfl (fun _ => ?_) rfl (fun h => by cases h)
    refine o_y (v := .bool (true)) rfl rfl (y_call (vs := []) b12 rfl (fun w hw => f12_lives w)) ?_
    refine o_y (v := .bool (true)) rfl rfl (y_pick (b := true) rfl rfl) ?_
    refine o_y (v := .bool (true)) rfl rfl (y_assign rfl) ?_
    refine o_nil ?_
    refine hK13 _ _ ?_
    refine c_ret ?_
    refine fun w hw => ⟨[.bool (true)], ⟨rfl, trivial⟩, ?_⟩
    exact rfl
  ·
    replace hc1 := of_decide_eq_false hc1
    -- way F
    rw [show setS (lone ((mb) % 16) true false a (0)) ((mb) % 16) (c) (q) = lone ((mb) % 16) true true c (q) from (set_q1 hM (by omega))]
    refine c_skip ?_
    refine hK10 _ _ ?_
    refine c_seq fun K14 hK14 => ?_
    refine c_seq fun K15 hK15 => ?_
    refine c_region ?_
    refine o_y (v := .bool (cl)) rfl rfl (y_move rfl) ?_
    refine o_nil ?_
    refine hK15 _ _ ?_
    refine c_cond (t := cl) rfl (fun hc2 => ?_) (fun hc2 => ?_)
    ·
      -- way FT
      refine c_region ?_
      refine o_y (v := .pointer (some ⟨g4, 0, none⟩)) rfl rfl (y_move rfl) ?_
      refine o_callS ([(g4, .cells (LS.enc (lone ((mb) % 16) true true c (q))) 54 (0, 0))]) ([(g8, .cells (bv (getV (lone ((mb) % 16) true false a (0)) ((mb) % 16))) 23 (0, 0)), (g3, .cells (bv (c)) 23 (0, 0)), (g2, .cells (bv (b)) 23 (0, 0)), (g1, .cells (bv (a)) 23 (0, 0))]) (List.Perm.refl _) (vs := [.pointer (some ⟨g4, 0, none⟩)]) b13 rfl rfl (fun w hat => f13_Clean _ (lone ((mb) % 16) true true c (q))  w  hat) ?_
      rintro _ _ ⟨rfl, rfl⟩
      rw [show cleanS (lone ((mb) % 16) true true c (q))  = lone ((mb) % 16) true false c (0) from (clean_1 hM)]
      refine o_nil ?_
      refine hK14 _ _ ?_
      refine c_seq fun K16 hK16 => ?_
      refine c_region ?_
      refine o_y (v := .pointer (some ⟨g4, 0, none⟩)) rfl rfl (y_move rfl) ?_
      refine o_y (v := .int .i64 ((mb) % 16)) rfl rfl (y_move rfl) ?_
      refine o_y (v := .agg (bv (a))) rfl rfl (y_loadB T23 rfl (Rd.whole (k := 4) rfl)) ?_
      refine o_callS ([(g4, .cells (LS.enc (lone ((mb) % 16) true false c (0))) 54 (0, 0))]) ([(g8, .cells (bv (getV (lone ((mb) % 16) true false a (0)) ((mb) % 16))) 23 (0, 0)), (g3, .cells (bv (c)) 23 (0, 0)), (g2, .cells (bv (b)) 23 (0, 0)), (g1, .cells (bv (a)) 23 (0, 0))]) (List.Perm.refl _) (vs := [.pointer (some ⟨g4, 0, none⟩), .int .i64 ((mb) % 16), .agg (bv (a))]) b8 rfl rfl (fun w hat => f8_Learn _ (lone ((mb) % 16) true false c (0)) ((mb) % 16) (a) w (by first | assumption | omega | exact lone_mem | (simp only [mem_learn, mem_set, mem_forget, mem_clean]; exact lone_mem) | (simp only [mem_learn, mem_set, mem_forget, mem_clean]; first | omega | decide | exact ⟨by decide, by decide⟩ | (constructor <;> (show _ ≤ _) <;> decide)) | exact ⟨by decide, by decide⟩) hat) ?_
      rintro _ _ ⟨rfl, rfl⟩
      rw [show learnS (lone ((mb) % 16) true false c (0)) ((mb) % 16) (a) = lone ((mb) % 16) true false c (0) from (learn_t hM)]
      refine o_nil ?_
      refine hK16 _ _ ?_
      refine c_seq fun K17 hK17 => ?_
      refine c_region ?_
      refine o_y (v := .pointer (some ⟨g4, 0, none⟩)) rfl rfl (y_move rfl) ?_
      refine o_y (v := .int .i64 ((mb) % 16)) rfl rfl (y_move rfl) ?_
      refine o_y (v := .tuple #[.agg (bv (getV (lone ((mb) % 16) true false c (0)) ((mb) % 16))), .bool (getK (lone ((mb) % 16) true false c (0)) ((mb) % 16))]) rfl rfl (y_call (vs := [.pointer (some ⟨g4, 0, none⟩), .int .i64 ((mb) % 16)]) b9 rfl (fun w hw => f9_Get _ (lone ((mb) % 16) true false c (0)) ((mb) % 16) w (by first | assumption | omega | exact lone_mem | (simp only [mem_learn, mem_set, mem_forget, mem_clean]; exact lone_mem) | (simp only [mem_learn, mem_set, mem_forget, mem_clean]; first | omega | decide | exact ⟨by decide, by decide⟩ | (constructor <;> (show _ ≤ _) <;> decide)) | exact ⟨by decide, by decide⟩) (hw.sat (((((List.Sublist.slnil.cons _).cons _).cons _).cons _).cons_cons _)))) ?_
      refine o_y (v := .tuple #[.agg (bv (getV (lone ((mb) % 16) true false c (0)) ((mb) % 16))), .bool (getK (lone ((mb) % 16) true false c (0)) ((mb) % 16))]) rfl rfl (y_move rfl) ?_
      refine o_y (v := .agg (bv (getV (lone ((mb) % 16) true false c (0)) ((mb) % 16)))) rfl rfl (y_extract (vs := #[.agg (bv (getV (lone ((mb) % 16) true false c (0)) ((mb) % 16))), .bool (getK (lone ((mb) % 16) true false c (0)) ((mb) % 16))]) rfl rfl) ?_
      refine o_y (v := .bool (true)) rfl rfl (y_bool (y_extract (vs := #[.agg (bv (getV (lone ((mb) % 16) true false c (0)) ((mb) % 16))), .bool (getK (lone ((mb) % 16) true false c (0)) ((mb) % 16))]) rfl rfl) (get_k hM)) ?_
      refine o_storeB (H' := [(g4, .cells (LS.enc (lone ((mb) % 16) true false c (0))) 54 (0, 0)), (g8, .cells (bv (getV (lone ((mb) % 16) true false c (0)) ((mb) % 16))) 23 (0, 0)), (g3, .cells (bv (c)) 23 (0, 0)), (g2, .cells (bv (b)) 23 (0, 0)), (g1, .cells (bv (a)) 23 (0, 0))]) T23 1 rfl rfl rfl rfl ?_
      refine o_y (v := .bool (true)) rfl rfl (y_assign rfl) ?_
      refine o_nil ?_
      refine hK17 _ _ ?_
      refine c_seq fun K18 hK18 => ?_
      refine c_region ?_
      refine o_y (v := .int .i64 (setE (lone ((mb) % 16) true false a (0)) ((mb) % 16) (q))) rfl rfl (y_move rfl) ?_
      refine o_y (v := .bool (true)) rfl rfl (y_bool (y_eql rfl rfl rfl) (decide_eq_true (setE_1 hM (by omega)))) ?_
      refine o_y (v := .bool (true)) rfl rfl (y_move rfl) ?_
      refine o_guard (j := 2) (d := 102) (b := true) rfl rfl rfl (fun _ => ?_) rfl (fun h => by cases h)
      refine o_y (v := .agg (bv (getV (lone ((mb) % 16) true false c (0)) ((mb) % 16)))) rfl rfl (y_loadB T23 rfl (Rd.whole (k := 1) rfl)) ?_
      refine o_guard (j := 2) (d := 102) (b := true) rfl rfl rfl (fun _ => ?_) rfl (fun h => by cases h)
      refine o_y (v := .agg (bv (c))) rfl rfl (y_loadB T23 rfl (Rd.whole (k := 2) rfl)) ?_
      refine o_guard (j := 2) (d := 102) (b := true) rfl rfl rfl (fun _ => ?_) rfl (fun h => by cases h)
      refine o_y (v := .bool (true)) rfl rfl (y_bool (y_eqlV T23 rfl rfl) (decide_eq_true (get_1 hM))) ?_
      refine o_y (v := .bool (true)) rfl rfl (y_pick (b := true) rfl rfl) ?_
      refine o_y (v := .bool (true)) rfl rfl (y_move rfl) ?_
      refine o_guard (j := 7) (d := 107) (b := true) rfl rfl rfl (fun _ => ?_) rfl (fun h => by cases h)
      refine o_y (v := .bool (true)) rfl rfl (y_move rfl) ?_
      refine o_y (v := .bool (true)) rfl rfl (y_pick (b := true) rfl rfl) ?_
      refine o_y (v := .bool (true)) rfl rfl (y_move rfl) ?_
      refine o_guard (j := 10) (d := 110) (b := true) rfl rfl rfl (fun _ => ?_) rfl (fun h => by cases h)
      refine o_y (v := .pointer (some ⟨g4, 0, none⟩)) rfl rfl (y_move rfl) ?_
      refine o_guard (j := 10) (d := 110) (b := true) rfl rfl rfl (fun _ => ?_) rfl (fun h => by cases h)
      refine o_callV (fun Hy => [(g4, .cells (LS.enc (lone ((mb) % 16) true false c (0))) 54 (0, 0)), (g8, .cells (bv (getV (lone ((mb) % 16) true false c (0)) ((mb) % 16))) 23 (0, 0)), (g3, .cells (bv (c)) 23 (0, 0)), (g2, .cells (bv (b)) 23 (0, 0)), (g1, .cells (bv (a)) 23 (0, 0))] ++ (Hy)) (fun Hy => by have h := List.perm_append_comm (l₁ := ([(g4, .cells (LS.enc (lone ((mb) % 16) true false c (0))) 54 (0, 0)), (g8, .cells (bv (getV (lone ((mb) % 16) true false c (0)) ((mb) % 16))) 23 (0, 0)), (g3, .cells (bv (c)) 23 (0, 0)), (g2, .cells (bv (b)) 23 (0, 0)), (g1, .cells (bv (a)) 23 (0, 0))] : Hp)) (l₂ := Hy); first | exact h | simpa [Value.cells] using h) (vs := [.pointer (some ⟨g4, 0, none⟩)]) b11 rfl rfl (fun w hw => f11_Dirty _ (lone ((mb) % 16) true false c (0)) w (by first | assumption | omega | exact lone_mem | (simp only [mem_learn, mem_set, mem_forget, mem_clean]; exact lone_mem) | (simp only [mem_learn, mem_set, mem_forget, mem_clean]; first | omega | decide | exact ⟨by decide, by decide⟩ | (constructor <;> (show _ ≤ _) <;> decide)) | exact ⟨by decide, by decide⟩) (hw.sat (((((List.Sublist.slnil.cons _).cons _).cons _).cons _).cons_cons _))) ?_
      rintro _ Hp13 ⟨ap13, gp13, capp13, rfl, hvp13⟩
      have hzp13 := hvp13.le
      have hyp13 := hvp13.mx
      simp only [maxLen] at hyp13
      refine o_guard (j := 10) (d := 110) (b := true) rfl rfl rfl (fun _ => ?_) rfl (fun h => by cases h)
      refine o_y (v := .int .i64 ((mb) % 16)) rfl rfl (y_move rfl) ?_
      refine o_guard (j := 10) (d := 110) (b := true) rfl rfl rfl (fun _ => ?_) rfl (fun h => by cases h)
      refine o_buildRow SL33 ([((mb) % 16)] : List Int) (fun x => .int .i64 x) (fun _ => rfl) rfl rfl (by rw [Array.toList_map]; rfl) (by simp) (by simp [eInt]) fun g14 cg14 hrg14 => ?_
      refine o_guard (j := 10) (d := 110) (b := true) rfl rfl rfl (fun _ => ?_) rfl (fun h => by cases h)
      refine o_y (v := .bool (false)) rfl rfl (y_bool (y_call (vs := [.slice (ap13) ((dirtyL (lone ((mb) % 16) true false c (0))).length) (capp13), .slice (some ⟨g14, 0, none⟩) (1) (1)]) b14 rfl (fun w hw => f14_Ints (dirtyL (lone ((mb) % 16) true false c (0))) ([((mb) % 16)]) _ _ _ _ _ _ _ _ _ _ w (by first | rfl | (simp; done) | (simp; omega)) ((SlG.own hvp13 (fun p hp => (List.mem_cons_of_mem _ (List.mem_cons_of_mem _ (List.mem_cons_of_mem _ (List.mem_cons_of_mem _ (List.mem_cons_of_mem _ (List.mem_cons_of_mem _ hp)))))))) w hw) (by first | rfl | (simp; done) | (simp; omega)) ((SlG.row (k := 0) rfl hrg14) w hw))) (decide_eq_false (by rw [dirty_0 hM]; simp))) ?_
      refine o_guard (j := 10) (d := 110) (b := true) rfl rfl rfl (fun _ => ?_) rfl (fun h => by cases h)
      refine o_y (v := .bool (cl)) rfl rfl (y_move rfl) ?_
      refine o_guard (j := 10) (d := 110) (b := true) rfl rfl rfl (fun _ => ?_) rfl (fun h => by cases h)
      refine o_y (v := .bool (!(cl))) rfl rfl (y_not rfl rfl) ?_
      refine o_guard (j := 10) (d := 110) (b := true) rfl rfl rfl (fun _ => ?_) rfl (fun h => by cases h)
      refine o_y (v := .bool (true)) rfl rfl (y_bool (y_eqlB rfl rfl Try.underlying4 rfl) (by simp [hc2])) ?_
      refine o_y (v := .bool (true)) rfl rfl (y_pick (b := true) rfl rfl) ?_
      refine o_y (v := .bool (true)) rfl rfl (y_move rfl) ?_
      refine o_guard (j := 20) (d := 120) (b := true) rfl rfl rfl (fun _ => ?_) rfl (fun h => by cases h)
      refine o_y (v := .bool (true)) rfl rfl (y_call (vs := []) b12 rfl (fun w hw => f12_lives w)) ?_
      refine o_y (v := .bool (true)) rfl rfl (y_pick (b := true) rfl rfl) ?_
      refine o_y (v := .bool (true)) rfl rfl (y_assign rfl) ?_
      refine o_nil ?_
      refine hK18 _ _ ?_
      refine c_ret ?_
      refine fun w hw => ⟨[.bool (true)], ⟨rfl, trivial⟩, ?_⟩
      exact rfl
    ·
      -- way FF
      refine c_skip ?_
      refine hK14 _ _ ?_
      refine c_seq fun K19 hK19 => ?_
      refine c_region ?_
      refine o_y (v := .pointer (some ⟨g4, 0, none⟩)) rfl rfl (y_move rfl) ?_
      refine o_y (v := .int .i64 ((mb) % 16)) rfl rfl (y_move rfl) ?_
      refine o_y (v := .agg (bv (a))) rfl rfl (y_loadB T23 rfl (Rd.whole (k := 4) rfl)) ?_
      refine o_callS ([(g4, .cells (LS.enc (lone ((mb) % 16) true true c (q))) 54 (0, 0))]) ([(g8, .cells (bv (getV (lone ((mb) % 16) true false a (0)) ((mb) % 16))) 23 (0, 0)), (g3, .cells (bv (c)) 23 (0, 0)), (g2, .cells (bv (b)) 23 (0, 0)), (g1, .cells (bv (a)) 23 (0, 0))]) (List.Perm.refl _) (vs := [.pointer (some ⟨g4, 0, none⟩), .int .i64 ((mb) % 16), .agg (bv (a))]) b8 rfl rfl (fun w hat => f8_Learn _ (lone ((mb) % 16) true true c (q)) ((mb) % 16) (a) w (by first | assumption | omega | exact lone_mem | (simp only [mem_learn, mem_set, mem_forget, mem_clean]; exact lone_mem) | (simp only [mem_learn, mem_set, mem_forget, mem_clean]; first | omega | decide | exact ⟨by decide, by decide⟩ | (constructor <;> (show _ ≤ _) <;> decide)) | exact ⟨by decide, by decide⟩) hat) ?_
      rintro _ _ ⟨rfl, rfl⟩
      rw [show learnS (lone ((mb) % 16) true true c (q)) ((mb) % 16) (a) = lone ((mb) % 16) true true c (q) from (learn_t hM)]
      refine o_nil ?_
      refine hK19 _ _ ?_
      refine c_seq fun K20 hK20 => ?_
      refine c_region ?_
      refine o_y (v := .pointer (some ⟨g4, 0, none⟩)) rfl rfl (y_move rfl) ?_
      refine o_y (v := .int .i64 ((mb) % 16)) rfl rfl (y_move rfl) ?_
      refine o_y (v := .tuple #[.agg (bv (getV (lone ((mb) % 16) true true c (q)) ((mb) % 16))), .bool (getK (lone ((mb) % 16) true true c (q)) ((mb) % 16))]) rfl rfl (y_call (vs := [.pointer (some ⟨g4, 0, none⟩), .int .i64 ((mb) % 16)]) b9 rfl (fun w hw => f9_Get _ (lone ((mb) % 16) true true c (q)) ((mb) % 16) w (by first | assumption | omega | exact lone_mem | (simp only [mem_learn, mem_set, mem_forget, mem_clean]; exact lone_mem) | (simp only [mem_learn, mem_set, mem_forget, mem_clean]; first | omega | decide | exact ⟨by decide, by decide⟩ | (constructor <;> (show _ ≤ _) <;> decide)) | exact ⟨by decide, by decide⟩) (hw.sat (((((List.Sublist.slnil.cons _).cons _).cons _).cons _).cons_cons _)))) ?_
      refine o_y (v := .tuple #[.agg (bv (getV (lone ((mb) % 16) true true c (q)) ((mb) % 16))), .bool (getK (lone ((mb) % 16) true true c (q)) ((mb) % 16))]) rfl rfl (y_move rfl) ?_
      refine o_y (v := .agg (bv (getV (lone ((mb) % 16) true true c (q)) ((mb) % 16)))) rfl rfl (y_extract (vs := #[.agg (bv (getV (lone ((mb) % 16) true true c (q)) ((mb) % 16))), .bool (getK (lone ((mb) % 16) true true c (q)) ((mb) % 16))]) rfl rfl) ?_
      refine o_y (v := .bool (true)) rfl rfl (y_bool (y_extract (vs := #[.agg (bv (getV (lone ((mb) % 16) true true c (q)) ((mb) % 16))), .bool (getK (lone ((mb) % 16) true true c (q)) ((mb) % 16))]) rfl rfl) (get_k hM)) ?_
      refine o_storeB (H' := [(g4, .cells (LS.enc (lone ((mb) % 16) true true c (q))) 54 (0, 0)), (g8, .cells (bv (getV (lone ((mb) % 16) true true c (q)) ((mb) % 16))) 23 (0, 0)), (g3, .cells (bv (c)) 23 (0, 0)), (g2, .cells (bv (b)) 23 (0, 0)), (g1, .cells (bv (a)) 23 (0, 0))]) T23 1 rfl rfl rfl rfl ?_
      refine o_y (v := .bool (true)) rfl rfl (y_assign rfl) ?_
      refine o_nil ?_
      refine hK20 _ _ ?_
      refine c_seq fun K21 hK21 => ?_
      refine c_region ?_
      refine o_y (v := .int .i64 (setE (lone ((mb) % 16) true false a (0)) ((mb) % 16) (q))) rfl rfl (y_move rfl) ?_
      refine o_y (v := .bool (true)) rfl rfl (y_bool (y_eql rfl rfl rfl) (decide_eq_true (setE_1 hM (by omega)))) ?_
      refine o_y (v := .bool (true)) rfl rfl (y_move rfl) ?_
      refine o_guard (j := 2) (d := 102) (b := true) rfl rfl rfl (fun _ => ?_) rfl (fun h => by cases h)
      refine o_y (v := .agg (bv (getV (lone ((mb) % 16) true true c (q)) ((mb) % 16)))) rfl rfl (y_loadB T23 rfl (Rd.whole (k := 1) rfl)) ?_
      refine o_guard (j := 2) (d := 102) (b := true) rfl rfl rfl (fun _ => ?_) rfl (fun h => by cases h)
      refine o_y (v := .agg (bv (c))) rfl rfl (y_loadB T23 rfl (Rd.whole (k := 2) rfl)) ?_
      refine o_guard (j := 2) (d := 102) (b := true) rfl rfl rfl (fun _ => ?_) rfl (fun h => by cases h)
      refine o_y (v := .bool (true)) rfl rfl (y_bool (y_eqlV T23 rfl rfl) (decide_eq_true (get_1 hM))) ?_
      refine o_y (v := .bool (true)) rfl rfl (y_pick (b := true) rfl rfl) ?_
      refine o_y (v := .bool (true)) rfl rfl (y_move rfl) ?_
      refine o_guard (j := 7) (d := 107) (b := true) rfl rfl rfl (fun _ => ?_) rfl (fun h => by cases h)
      refine o_y (v := .bool (true)) rfl rfl (y_move rfl) ?_
      refine o_y (v := .bool (true)) rfl rfl (y_pick (b := true) rfl rfl) ?_
      refine o_y (v := .bool (true)) rfl rfl (y_move rfl) ?_
      refine o_guard (j := 10) (d := 110) (b := true) rfl rfl rfl (fun _ => ?_) rfl (fun h => by cases h)
      refine o_y (v := .pointer (some ⟨g4, 0, none⟩)) rfl rfl (y_move rfl) ?_
      refine o_guard (j := 10) (d := 110) (b := true) rfl rfl rfl (fun _ => ?_) rfl (fun h => by cases h)
      refine o_callV (fun Hy => [(g4, .cells (LS.enc (lone ((mb) % 16) true true c (q))) 54 (0, 0)), (g8, .cells (bv (getV (lone ((mb) % 16) true true c (q)) ((mb) % 16))) 23 (0, 0)), (g3, .cells (bv (c)) 23 (0, 0)), (g2, .cells (bv (b)) 23 (0, 0)), (g1, .cells (bv (a)) 23 (0, 0))] ++ (Hy)) (fun Hy => by have h := List.perm_append_comm (l₁ := ([(g4, .cells (LS.enc (lone ((mb) % 16) true true c (q))) 54 (0, 0)), (g8, .cells (bv (getV (lone ((mb) % 16) true true c (q)) ((mb) % 16))) 23 (0, 0)), (g3, .cells (bv (c)) 23 (0, 0)), (g2, .cells (bv (b)) 23 (0, 0)), (g1, .cells (bv (a)) 23 (0, 0))] : Hp)) (l₂ := Hy); first | exact h | simpa [Value.cells] using h) (vs := [.pointer (some ⟨g4, 0, none⟩)]) b11 rfl rfl (fun w hw => f11_Dirty _ (lone ((mb) % 16) true true c (q)) w (by first | assumption | omega | exact lone_mem | (simp only [mem_learn, mem_set, mem_forget, mem_clean]; exact lone_mem) | (simp only [mem_learn, mem_set, mem_forget, mem_clean]; first | omega | decide | exact ⟨by decide, by decide⟩ | (constructor <;> (show _ ≤ _) <;> decide)) | exact ⟨by decide, by decide⟩) (hw.sat (((((List.Sublist.slnil.cons _).cons _).cons _).cons _).cons_cons _))) ?_
      rintro _ Hp16 ⟨ap16, gp16, capp16, rfl, hvp16⟩
      have hzp16 := hvp16.le
      have hyp16 := hvp16.mx
      simp only [maxLen] at hyp16
      refine o_guard (j := 10) (d := 110) (b := true) rfl rfl rfl (fun _ => ?_) rfl (fun h => by cases h)
      refine o_y (v := .int .i64 ((mb) % 16)) rfl rfl (y_move rfl) ?_
      refine o_guard (j := 10) (d := 110) (b := true) rfl rfl rfl (fun _ => ?_) rfl (fun h => by cases h)
      refine o_buildRow SL33 ([((mb) % 16)] : List Int) (fun x => .int .i64 x) (fun _ => rfl) rfl rfl (by rw [Array.toList_map]; rfl) (by simp) (by simp [eInt]) fun g17 cg17 hrg17 => ?_
      refine o_guard (j := 10) (d := 110) (b := true) rfl rfl rfl (fun _ => ?_) rfl (fun h => by cases h)
      refine o_y (v := .bool (true)) rfl rfl (y_bool (y_call (vs := [.slice (ap16) ((dirtyL (lone ((mb) % 16) true true c (q))).length) (capp16), .slice (some ⟨g17, 0, none⟩) (1) (1)]) b14 rfl (fun w hw => f14_Ints (dirtyL (lone ((mb) % 16) true true c (q))) ([((mb) % 16)]) _ _ _ _ _ _ _ _ _ _ w (by first | rfl | (simp; done) | (simp; omega)) ((SlG.own hvp16 (fun p hp => (List.mem_cons_of_mem _ (List.mem_cons_of_mem _ (List.mem_cons_of_mem _ (List.mem_cons_of_mem _ (List.mem_cons_of_mem _ (List.mem_cons_of_mem _ hp)))))))) w hw) (by first | rfl | (simp; done) | (simp; omega)) ((SlG.row (k := 0) rfl hrg17) w hw))) (decide_eq_true (dirty_1 hM))) ?_
      refine o_guard (j := 10) (d := 110) (b := true) rfl rfl rfl (fun _ => ?_) rfl (fun h => by cases h)
      refine o_y (v := .bool (cl)) rfl rfl (y_move rfl) ?_
      refine o_guard (j := 10) (d := 110) (b := true) rfl rfl rfl (fun _ => ?_) rfl (fun h => by cases h)
      refine o_y (v := .bool (!(cl))) rfl rfl (y_not rfl rfl) ?_
      refine o_guard (j := 10) (d := 110) (b := true) rfl rfl rfl (fun _ => ?_) rfl (fun h => by cases h)
      refine o_y (v := .bool (true)) rfl rfl (y_bool (y_eqlB rfl rfl Try.underlying4 rfl) (by simp [hc2])) ?_
      refine o_y (v := .bool (true)) rfl rfl (y_pick (b := true) rfl rfl) ?_
      refine o_y (v := .bool (true)) rfl rfl (y_move rfl) ?_
      refine o_guard (j := 20) (d := 120) (b := true) rfl rfl rfl (fun _ => ?_) rfl (fun h => by cases h)
      refine o_y (v := .bool (true)) rfl rfl (y_call (vs := []) b12 rfl (fun w hw => f12_lives w)) ?_
      refine o_y (v := .bool (true)) rfl rfl (y_pick (b := true) rfl rfl) ?_
      refine o_y (v := .bool (true)) rfl rfl (y_assign rfl) ?_
      refine o_nil ?_
      refine hK21 _ _ ?_
      refine c_ret ?_
      refine fun w hw => ⟨[.bool (true)], ⟨rfl, trivial⟩, ?_⟩
      exact rfl

end Go.Proofs.Ytediblifbfhahaa.Line
