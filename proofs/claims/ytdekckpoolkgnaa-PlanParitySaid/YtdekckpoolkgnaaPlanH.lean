/- Proved: what the trial plans and the folds come to; the conditions stand in the statements. -/
import Derived.Test.YtdekckpoolkgnaaPlanG
set_option linter.unusedVariables false
set_option linter.unusedSimpArgs false
namespace Go.Proofs.Ytdekckpoolkgnaa.Plan
open Go Go.RowKit Go.Proofs.Ytdekckpoolkgnaa.Eng

set_option maxRecDepth 100000 in
set_option maxHeartbeats 4000000 in
theorem f11_lives  (w : World)  :
    Calls Try.prog 11 [].toArray w fun e w' => e = .returned (.bool (true)) ∧ Below w.heap.size w w' := by
  refine (calls_of (P := Try.prog) (n := 86) (w0 := w) (S := fun _ => False) (H := []) (T := fun v _ => v = (.bool (true))) Try.func11 rfl Try.ntmps11 (Nat.le_of_ble_eq_true rfl) [.tmp 0] rfl (St.nil w _) ?_).mono fun e w' ⟨v, H', he, hs, hT⟩ => ⟨by rw [he, hT], hs.below⟩
  refine c_seq fun K1 hK1 => ?_
  refine c_region ?_
  refine o_y (v := .bool (false)) rfl rfl (y_assign rfl) ?_
  refine o_nil ?_
  refine hK1 _ _ ?_
  refine c_seq fun K2 hK2 => ?_
  refine c_region ?_
  refine o_make SL22 (false) 4 rfl zr22 rfl rfl (by first | (simp [maxLen]; done) | (simp [maxLen]; omega)) (by omega) fun g1 cg1 hrg1 => ?_
  refine o_y (v := .slice (some ⟨g1, 0, none⟩) (4) (4)) rfl rfl (y_assign rfl) ?_
  refine o_nil ?_
  refine hK2 _ _ ?_
  refine c_seq fun K3 hK3 => ?_
  refine c_region ?_
  refine o_buildRow SL22 ([(true), (false), (false)] : List Bool) (fun x => .bool x) (fun _ => rfl) rfl rfl (by rw [Array.toList_map]; rfl) (by simp) (by simp [eBool]) fun g2 cg2 hrg2 => ?_
  refine o_y (v := .slice (some ⟨g1, 0, none⟩) (4) (4)) rfl rfl (y_move rfl) ?_
  refine o_y (v := .slice (some ⟨g1, 0, none⟩) (3) (4)) rfl rfl (y_partL (sz := 1) 3 rfl Try.underlying22 s4 ⟨_, rfl⟩ (by first | omega | (simp; done) | (simp; omega))) ?_
  refine o_callV (fun Hy => [(g2, .cells (cg2) 4 (0, 0)), (g1, .cells (cg1) 4 (0, 0))] ++ (Hy)) (fun Hy => by have h := List.perm_append_comm (l₁ := ([(g2, .cells (cg2) 4 (0, 0)), (g1, .cells (cg1) 4 (0, 0))] : Hp)) (l₂ := Hy); first | exact h | simpa [Value.cells] using h) (vs := [.slice (some ⟨g2, 0, none⟩) (3) (3), .slice (some ⟨g1, 0, none⟩) (3) (4), .bool (false), .int .i64 (-1)]) b8 rfl rfl (fun w hw => f8_Of ([(true), (false), (false)]) ((List.replicate 4 (false)).take 3) _ _ _ _ _ _ _ _ _ _ (false) (-1) w (by omega) (by omega) (by first | rfl | (simp; done) | (simp; omega)) ((SlG.row (k := 0) rfl hrg2) w hw) (by first | rfl | (simp; done) | (simp; omega)) ((SlG.first (SlG.row (k := 1) rfl hrg1) 3) w hw)) ?_
  rintro _ Hp3 ⟨ap3, gp3, capp3, rfl, hvp3⟩
  have hzp3 := hvp3.le
  have hyp3 := hvp3.mx
  simp only [maxLen] at hyp3
  refine o_y (v := .tuple #[.agg (#[.int .u8 (planW ([(true), (false), (false)]) ((List.replicate 4 (false)).take 3) (false) (-1)), .slice (ap3) ((planR ([(true), (false), (false)]) ((List.replicate 4 (false)).take 3) (false) (-1)).length) (capp3)]), .int .i64 (planE ([(true), (false), (false)]) ((List.replicate 4 (false)).take 3) (false) (-1))]) rfl rfl (y_move rfl) ?_
  refine o_y (v := .agg (#[.int .u8 (planW ([(true), (false), (false)]) ((List.replicate 4 (false)).take 3) (false) (-1)), .slice (ap3) ((planR ([(true), (false), (false)]) ((List.replicate 4 (false)).take 3) (false) (-1)).length) (capp3)])) rfl rfl (y_extract (vs := #[.agg (#[.int .u8 (planW ([(true), (false), (false)]) ((List.replicate 4 (false)).take 3) (false) (-1)), .slice (ap3) ((planR ([(true), (false), (false)]) ((List.replicate 4 (false)).take 3) (false) (-1)).length) (capp3)]), .int .i64 (planE ([(true), (false), (false)]) ((List.replicate 4 (false)).take 3) (false) (-1))]) rfl rfl) ?_
  refine o_y (v := .int .i64 (planE ([(true), (false), (false)]) ((List.replicate 4 (false)).take 3) (false) (-1))) rfl rfl (y_extract (vs := #[.agg (#[.int .u8 (planW ([(true), (false), (false)]) ((List.replicate 4 (false)).take 3) (false) (-1)), .slice (ap3) ((planR ([(true), (false), (false)]) ((List.replicate 4 (false)).take 3) (false) (-1)).length) (capp3)]), .int .i64 (planE ([(true), (false), (false)]) ((List.replicate 4 (false)).take 3) (false) (-1))]) rfl rfl) ?_
  refine o_alloc (z := .agg (#[.int .u8 (0), .slice none 0 0])) rfl z25 fun g4 => ?_
  refine o_storeS (H' := [(g4, .cells (#[.int .u8 (planW ([(true), (false), (false)]) ((List.replicate 4 (false)).take 3) (false) (-1)), .slice (ap3) ((planR ([(true), (false), (false)]) ((List.replicate 4 (false)).take 3) (false) (-1)).length) (capp3)]) 25 (0, 0)), (g2, .cells (cg2) 4 (0, 0)), (g1, .cells (cg1) 4 (0, 0))] ++ (Hp3)) 0 rfl rfl rfl s25 rfl (by simp [Value.oneCell']) rfl ?_
  refine o_y (v := .int .i64 (planE ([(true), (false), (false)]) ((List.replicate 4 (false)).take 3) (false) (-1))) rfl rfl (y_assign rfl) ?_
  refine o_nil ?_
  refine hK3 _ _ ?_
  refine c_seq fun K4 hK4 => ?_
  refine c_region ?_
  refine o_buildRow SL22 ([(true), (false), (false), (false)] : List Bool) (fun x => .bool x) (fun _ => rfl) rfl rfl (by rw [Array.toList_map]; rfl) (by simp) (by simp [eBool]) fun g5 cg5 hrg5 => ?_
  refine o_y (v := .slice (some ⟨g1, 0, none⟩) (4) (4)) rfl rfl (y_move rfl) ?_
  refine o_callV (fun Hy => [(g5, .cells (cg5) 4 (0, 0)), (g4, .cells (#[.int .u8 (planW ([(true), (false), (false)]) ((List.replicate 4 (false)).take 3) (false) (-1)), .slice (ap3) ((planR ([(true), (false), (false)]) ((List.replicate 4 (false)).take 3) (false) (-1)).length) (capp3)]) 25 (0, 0)), (g2, .cells (cg2) 4 (0, 0)), (g1, .cells (cg1) 4 (0, 0))] ++ (Hp3 ++ Hy)) (fun Hy => by have h := List.perm_append_comm (l₁ := ([(g5, .cells (cg5) 4 (0, 0)), (g4, .cells (#[.int .u8 (planW ([(true), (false), (false)]) ((List.replicate 4 (false)).take 3) (false) (-1)), .slice (ap3) ((planR ([(true), (false), (false)]) ((List.replicate 4 (false)).take 3) (false) (-1)).length) (capp3)]) 25 (0, 0)), (g2, .cells (cg2) 4 (0, 0)), (g1, .cells (cg1) 4 (0, 0))] ++ (Hp3) : Hp)) (l₂ := Hy); first | exact h | simpa [Value.cells] using h) (vs := [.slice (some ⟨g5, 0, none⟩) (4) (4), .slice (some ⟨g1, 0, none⟩) (4) (4), .bool (false), .int .i64 (-1)]) b8 rfl rfl (fun w hw => f8_Of ([(true), (false), (false), (false)]) (List.replicate 4 (false)) _ _ _ _ _ _ _ _ _ _ (false) (-1) w (by omega) (by omega) (by first | rfl | (simp; done) | (simp; omega)) ((SlG.row (k := 0) rfl hrg5) w hw) (by first | rfl | (simp; done) | (simp; omega)) ((SlG.row (k := 3) rfl hrg1) w hw)) ?_
  rintro _ Hp6 ⟨ap6, gp6, capp6, rfl, hvp6⟩
  have hzp6 := hvp6.le
  have hyp6 := hvp6.mx
  simp only [maxLen] at hyp6
  refine o_y (v := .tuple #[.agg (#[.int .u8 (planW ([(true), (false), (false), (false)]) (List.replicate 4 (false)) (false) (-1)), .slice (ap6) ((planR ([(true), (false), (false), (false)]) (List.replicate 4 (false)) (false) (-1)).length) (capp6)]), .int .i64 (planE ([(true), (false), (false), (false)]) (List.replicate 4 (false)) (false) (-1))]) rfl rfl (y_move rfl) ?_
  refine o_y (v := .agg (#[.int .u8 (planW ([(true), (false), (false), (false)]) (List.replicate 4 (false)) (false) (-1)), .slice (ap6) ((planR ([(true), (false), (false), (false)]) (List.replicate 4 (false)) (false) (-1)).length) (capp6)])) rfl rfl (y_extract (vs := #[.agg (#[.int .u8 (planW ([(true), (false), (false), (false)]) (List.replicate 4 (false)) (false) (-1)), .slice (ap6) ((planR ([(true), (false), (false), (false)]) (List.replicate 4 (false)) (false) (-1)).length) (capp6)]), .int .i64 (planE ([(true), (false), (false), (false)]) (List.replicate 4 (false)) (false) (-1))]) rfl rfl) ?_
  refine o_y (v := .int .i64 (planE ([(true), (false), (false), (false)]) (List.replicate 4 (false)) (false) (-1))) rfl rfl (y_extract (vs := #[.agg (#[.int .u8 (planW ([(true), (false), (false), (false)]) (List.replicate 4 (false)) (false) (-1)), .slice (ap6) ((planR ([(true), (false), (false), (false)]) (List.replicate 4 (false)) (false) (-1)).length) (capp6)]), .int .i64 (planE ([(true), (false), (false), (false)]) (List.replicate 4 (false)) (false) (-1))]) rfl rfl) ?_
  refine o_alloc (z := .agg (#[.int .u8 (0), .slice none 0 0])) rfl z25 fun g7 => ?_
  refine o_storeS (H' := [(g7, .cells (#[.int .u8 (planW ([(true), (false), (false), (false)]) (List.replicate 4 (false)) (false) (-1)), .slice (ap6) ((planR ([(true), (false), (false), (false)]) (List.replicate 4 (false)) (false) (-1)).length) (capp6)]) 25 (0, 0)), (g5, .cells (cg5) 4 (0, 0)), (g4, .cells (#[.int .u8 (planW ([(true), (false), (false)]) ((List.replicate 4 (false)).take 3) (false) (-1)), .slice (ap3) ((planR ([(true), (false), (false)]) ((List.replicate 4 (false)).take 3) (false) (-1)).length) (capp3)]) 25 (0, 0)), (g2, .cells (cg2) 4 (0, 0)), (g1, .cells (cg1) 4 (0, 0))] ++ (Hp3 ++ Hp6)) 0 rfl rfl rfl s25 rfl (by simp [Value.oneCell']) rfl ?_
  refine o_y (v := .int .i64 (planE ([(true), (false), (false), (false)]) (List.replicate 4 (false)) (false) (-1))) rfl rfl (y_assign rfl) ?_
  refine o_nil ?_
  refine hK4 _ _ ?_
  refine c_seq fun K5 hK5 => ?_
  refine c_region ?_
  refine o_buildRow SL22 ([(true), (true)] : List Bool) (fun x => .bool x) (fun _ => rfl) rfl rfl (by rw [Array.toList_map]; rfl) (by simp) (by simp [eBool]) fun g8 cg8 hrg8 => ?_
  refine o_y (v := .slice (some ⟨g1, 0, none⟩) (4) (4)) rfl rfl (y_move rfl) ?_
  refine o_y (v := .slice (some ⟨g1, 0, none⟩) (2) (4)) rfl rfl (y_partL (sz := 1) 2 rfl Try.underlying22 s4 ⟨_, rfl⟩ (by first | omega | (simp; done) | (simp; omega))) ?_
  refine o_callV (fun Hy => [(g8, .cells (cg8) 4 (0, 0)), (g7, .cells (#[.int .u8 (planW ([(true), (false), (false), (false)]) (List.replicate 4 (false)) (false) (-1)), .slice (ap6) ((planR ([(true), (false), (false), (false)]) (List.replicate 4 (false)) (false) (-1)).length) (capp6)]) 25 (0, 0)), (g5, .cells (cg5) 4 (0, 0)), (g4, .cells (#[.int .u8 (planW ([(true), (false), (false)]) ((List.replicate 4 (false)).take 3) (false) (-1)), .slice (ap3) ((planR ([(true), (false), (false)]) ((List.replicate 4 (false)).take 3) (false) (-1)).length) (capp3)]) 25 (0, 0)), (g2, .cells (cg2) 4 (0, 0)), (g1, .cells (cg1) 4 (0, 0))] ++ (Hp3 ++ (Hp6 ++ Hy))) (fun Hy => by have h := List.perm_append_comm (l₁ := ([(g8, .cells (cg8) 4 (0, 0)), (g7, .cells (#[.int .u8 (planW ([(true), (false), (false), (false)]) (List.replicate 4 (false)) (false) (-1)), .slice (ap6) ((planR ([(true), (false), (false), (false)]) (List.replicate 4 (false)) (false) (-1)).length) (capp6)]) 25 (0, 0)), (g5, .cells (cg5) 4 (0, 0)), (g4, .cells (#[.int .u8 (planW ([(true), (false), (false)]) ((List.replicate 4 (false)).take 3) (false) (-1)), .slice (ap3) ((planR ([(true), (false), (false)]) ((List.replicate 4 (false)).take 3) (false) (-1)).length) (capp3)]) 25 (0, 0)), (g2, .cells (cg2) 4 (0, 0)), (g1, .cells (cg1) 4 (0, 0))] ++ (Hp3 ++ Hp6) : Hp)) (l₂ := Hy); first | exact h | simpa [Value.cells] using h) (vs := [.slice (some ⟨g8, 0, none⟩) (2) (2), .slice (some ⟨g1, 0, none⟩) (2) (4), .bool (false), .int .i64 (-1)]) b8 rfl rfl (fun w hw => f8_Of ([(true), (true)]) ((List.replicate 4 (false)).take 2) _ _ _ _ _ _ _ _ _ _ (false) (-1) w (by omega) (by omega) (by first | rfl | (simp; done) | (simp; omega)) ((SlG.row (k := 0) rfl hrg8) w hw) (by first | rfl | (simp; done) | (simp; omega)) ((SlG.first (SlG.row (k := 5) rfl hrg1) 2) w hw)) ?_
  rintro _ Hp9 ⟨ap9, gp9, capp9, rfl, hvp9⟩
  have hzp9 := hvp9.le
  have hyp9 := hvp9.mx
  simp only [maxLen] at hyp9
  refine o_y (v := .tuple #[.agg (#[.int .u8 (planW ([(true), (true)]) ((List.replicate 4 (false)).take 2) (false) (-1)), .slice (ap9) ((planR ([(true), (true)]) ((List.replicate 4 (false)).take 2) (false) (-1)).length) (capp9)]), .int .i64 (planE ([(true), (true)]) ((List.replicate 4 (false)).take 2) (false) (-1))]) rfl rfl (y_move rfl) ?_
  refine o_y (v := .agg (#[.int .u8 (planW ([(true), (true)]) ((List.replicate 4 (false)).take 2) (false) (-1)), .slice (ap9) ((planR ([(true), (true)]) ((List.replicate 4 (false)).take 2) (false) (-1)).length) (capp9)])) rfl rfl (y_extract (vs := #[.agg (#[.int .u8 (planW ([(true), (true)]) ((List.replicate 4 (false)).take 2) (false) (-1)), .slice (ap9) ((planR ([(true), (true)]) ((List.replicate 4 (false)).take 2) (false) (-1)).length) (capp9)]), .int .i64 (planE ([(true), (true)]) ((List.replicate 4 (false)).take 2) (false) (-1))]) rfl rfl) ?_
  refine o_y (v := .int .i64 (planE ([(true), (true)]) ((List.replicate 4 (false)).take 2) (false) (-1))) rfl rfl (y_extract (vs := #[.agg (#[.int .u8 (planW ([(true), (true)]) ((List.replicate 4 (false)).take 2) (false) (-1)), .slice (ap9) ((planR ([(true), (true)]) ((List.replicate 4 (false)).take 2) (false) (-1)).length) (capp9)]), .int .i64 (planE ([(true), (true)]) ((List.replicate 4 (false)).take 2) (false) (-1))]) rfl rfl) ?_
  refine o_alloc (z := .agg (#[.int .u8 (0), .slice none 0 0])) rfl z25 fun g10 => ?_
  refine o_storeS (H' := [(g10, .cells (#[.int .u8 (planW ([(true), (true)]) ((List.replicate 4 (false)).take 2) (false) (-1)), .slice (ap9) ((planR ([(true), (true)]) ((List.replicate 4 (false)).take 2) (false) (-1)).length) (capp9)]) 25 (0, 0)), (g8, .cells (cg8) 4 (0, 0)), (g7, .cells (#[.int .u8 (planW ([(true), (false), (false), (false)]) (List.replicate 4 (false)) (false) (-1)), .slice (ap6) ((planR ([(true), (false), (false), (false)]) (List.replicate 4 (false)) (false) (-1)).length) (capp6)]) 25 (0, 0)), (g5, .cells (cg5) 4 (0, 0)), (g4, .cells (#[.int .u8 (planW ([(true), (false), (false)]) ((List.replicate 4 (false)).take 3) (false) (-1)), .slice (ap3) ((planR ([(true), (false), (false)]) ((List.replicate 4 (false)).take 3) (false) (-1)).length) (capp3)]) 25 (0, 0)), (g2, .cells (cg2) 4 (0, 0)), (g1, .cells (cg1) 4 (0, 0))] ++ (Hp3 ++ (Hp6 ++ Hp9))) 0 rfl rfl rfl s25 rfl (by simp [Value.oneCell']) rfl ?_
  refine o_y (v := .int .i64 (planE ([(true), (true)]) ((List.replicate 4 (false)).take 2) (false) (-1))) rfl rfl (y_assign rfl) ?_
  refine o_nil ?_
  refine hK5 _ _ ?_
  refine c_seq fun K6 hK6 => ?_
  refine c_region ?_
  refine o_buildRow SL22 ([(true), (false)] : List Bool) (fun x => .bool x) (fun _ => rfl) rfl rfl (by rw [Array.toList_map]; rfl) (by simp) (by simp [eBool]) fun g11 cg11 hrg11 => ?_
  refine o_y (v := .slice (some ⟨g1, 0, none⟩) (4) (4)) rfl rfl (y_move rfl) ?_
  refine o_y (v := .slice (some ⟨g1, 0, none⟩) (2) (4)) rfl rfl (y_partL (sz := 1) 2 rfl Try.underlying22 s4 ⟨_, rfl⟩ (by first | omega | (simp; done) | (simp; omega))) ?_
  refine o_callV (fun Hy => [(g11, .cells (cg11) 4 (0, 0)), (g10, .cells (#[.int .u8 (planW ([(true), (true)]) ((List.replicate 4 (false)).take 2) (false) (-1)), .slice (ap9) ((planR ([(true), (true)]) ((List.replicate 4 (false)).take 2) (false) (-1)).length) (capp9)]) 25 (0, 0)), (g8, .cells (cg8) 4 (0, 0)), (g7, .cells (#[.int .u8 (planW ([(true), (false), (false), (false)]) (List.replicate 4 (false)) (false) (-1)), .slice (ap6) ((planR ([(true), (false), (false), (false)]) (List.replicate 4 (false)) (false) (-1)).length) (capp6)]) 25 (0, 0)), (g5, .cells (cg5) 4 (0, 0)), (g4, .cells (#[.int .u8 (planW ([(true), (false), (false)]) ((List.replicate 4 (false)).take 3) (false) (-1)), .slice (ap3) ((planR ([(true), (false), (false)]) ((List.replicate 4 (false)).take 3) (false) (-1)).length) (capp3)]) 25 (0, 0)), (g2, .cells (cg2) 4 (0, 0)), (g1, .cells (cg1) 4 (0, 0))] ++ (Hp3 ++ (Hp6 ++ (Hp9 ++ Hy)))) (fun Hy => by have h := List.perm_append_comm (l₁ := ([(g11, .cells (cg11) 4 (0, 0)), (g10, .cells (#[.int .u8 (planW ([(true), (true)]) ((List.replicate 4 (false)).take 2) (false) (-1)), .slice (ap9) ((planR ([(true), (true)]) ((List.replicate 4 (false)).take 2) (false) (-1)).length) (capp9)]) 25 (0, 0)), (g8, .cells (cg8) 4 (0, 0)), (g7, .cells (#[.int .u8 (planW ([(true), (false), (false), (false)]) (List.replicate 4 (false)) (false) (-1)), .slice (ap6) ((planR ([(true), (false), (false), (false)]) (List.replicate 4 (false)) (false) (-1)).length) (capp6)]) 25 (0, 0)), (g5, .cells (cg5) 4 (0, 0)), (g4, .cells (#[.int .u8 (planW ([(true), (false), (false)]) ((List.replicate 4 (false)).take 3) (false) (-1)), .slice (ap3) ((planR ([(true), (false), (false)]) ((List.replicate 4 (false)).take 3) (false) (-1)).length) (capp3)]) 25 (0, 0)), (g2, .cells (cg2) 4 (0, 0)), (g1, .cells (cg1) 4 (0, 0))] ++ (Hp3 ++ (Hp6 ++ Hp9)) : Hp)) (l₂ := Hy); first | exact h | simpa [Value.cells] using h) (vs := [.slice (some ⟨g11, 0, none⟩) (2) (2), .slice (some ⟨g1, 0, none⟩) (2) (4), .bool (false), .int .i64 (2)]) b8 rfl rfl (fun w hw => f8_Of ([(true), (false)]) ((List.replicate 4 (false)).take 2) _ _ _ _ _ _ _ _ _ _ (false) (2) w (by omega) (by omega) (by first | rfl | (simp; done) | (simp; omega)) ((SlG.row (k := 0) rfl hrg11) w hw) (by first | rfl | (simp; done) | (simp; omega)) ((SlG.first (SlG.row (k := 7) rfl hrg1) 2) w hw)) ?_
  rintro _ Hp12 ⟨ap12, gp12, capp12, rfl, hvp12⟩
  have hzp12 := hvp12.le
  have hyp12 := hvp12.mx
  simp only [maxLen] at hyp12
  refine o_y (v := .tuple #[.agg (#[.int .u8 (planW ([(true), (false)]) ((List.replicate 4 (false)).take 2) (false) (2)), .slice (ap12) ((planR ([(true), (false)]) ((List.replicate 4 (false)).take 2) (false) (2)).length) (capp12)]), .int .i64 (planE ([(true), (false)]) ((List.replicate 4 (false)).take 2) (false) (2))]) rfl rfl (y_move rfl) ?_
  refine o_y (v := .agg (#[.int .u8 (planW ([(true), (false)]) ((List.replicate 4 (false)).take 2) (false) (2)), .slice (ap12) ((planR ([(true), (false)]) ((List.replicate 4 (false)).take 2) (false) (2)).length) (capp12)])) rfl rfl (y_extract (vs := #[.agg (#[.int .u8 (planW ([(true), (false)]) ((List.replicate 4 (false)).take 2) (false) (2)), .slice (ap12) ((planR ([(true), (false)]) ((List.replicate 4 (false)).take 2) (false) (2)).length) (capp12)]), .int .i64 (planE ([(true), (false)]) ((List.replicate 4 (false)).take 2) (false) (2))]) rfl rfl) ?_
  refine o_y (v := .int .i64 (planE ([(true), (false)]) ((List.replicate 4 (false)).take 2) (false) (2))) rfl rfl (y_extract (vs := #[.agg (#[.int .u8 (planW ([(true), (false)]) ((List.replicate 4 (false)).take 2) (false) (2)), .slice (ap12) ((planR ([(true), (false)]) ((List.replicate 4 (false)).take 2) (false) (2)).length) (capp12)]), .int .i64 (planE ([(true), (false)]) ((List.replicate 4 (false)).take 2) (false) (2))]) rfl rfl) ?_
  refine o_alloc (z := .agg (#[.int .u8 (0), .slice none 0 0])) rfl z25 fun g13 => ?_
  refine o_storeS (H' := [(g13, .cells (#[.int .u8 (planW ([(true), (false)]) ((List.replicate 4 (false)).take 2) (false) (2)), .slice (ap12) ((planR ([(true), (false)]) ((List.replicate 4 (false)).take 2) (false) (2)).length) (capp12)]) 25 (0, 0)), (g11, .cells (cg11) 4 (0, 0)), (g10, .cells (#[.int .u8 (planW ([(true), (true)]) ((List.replicate 4 (false)).take 2) (false) (-1)), .slice (ap9) ((planR ([(true), (true)]) ((List.replicate 4 (false)).take 2) (false) (-1)).length) (capp9)]) 25 (0, 0)), (g8, .cells (cg8) 4 (0, 0)), (g7, .cells (#[.int .u8 (planW ([(true), (false), (false), (false)]) (List.replicate 4 (false)) (false) (-1)), .slice (ap6) ((planR ([(true), (false), (false), (false)]) (List.replicate 4 (false)) (false) (-1)).length) (capp6)]) 25 (0, 0)), (g5, .cells (cg5) 4 (0, 0)), (g4, .cells (#[.int .u8 (planW ([(true), (false), (false)]) ((List.replicate 4 (false)).take 3) (false) (-1)), .slice (ap3) ((planR ([(true), (false), (false)]) ((List.replicate 4 (false)).take 3) (false) (-1)).length) (capp3)]) 25 (0, 0)), (g2, .cells (cg2) 4 (0, 0)), (g1, .cells (cg1) 4 (0, 0))] ++ (Hp3 ++ (Hp6 ++ (Hp9 ++ Hp12)))) 0 rfl rfl rfl s25 rfl (by simp [Value.oneCell']) rfl ?_
  refine o_y (v := .int .i64 (planE ([(true), (false)]) ((List.replicate 4 (false)).take 2) (false) (2))) rfl rfl (y_assign rfl) ?_
  refine o_nil ?_
  refine hK6 _ _ ?_
  refine c_seq fun K7 hK7 => ?_
  refine c_region ?_
  refine o_y (v := .slice (some ⟨g1, 0, none⟩) (4) (4)) rfl rfl (y_move rfl) ?_
  refine o_y (v := .slice (some ⟨g1, 0, none⟩) (4) (4)) rfl rfl (y_move rfl) ?_
  refine o_callV (fun Hy => [(g13, .cells (#[.int .u8 (planW ([(true), (false)]) ((List.replicate 4 (false)).take 2) (false) (2)), .slice (ap12) ((planR ([(true), (false)]) ((List.replicate 4 (false)).take 2) (false) (2)).length) (capp12)]) 25 (0, 0)), (g11, .cells (cg11) 4 (0, 0)), (g10, .cells (#[.int .u8 (planW ([(true), (true)]) ((List.replicate 4 (false)).take 2) (false) (-1)), .slice (ap9) ((planR ([(true), (true)]) ((List.replicate 4 (false)).take 2) (false) (-1)).length) (capp9)]) 25 (0, 0)), (g8, .cells (cg8) 4 (0, 0)), (g7, .cells (#[.int .u8 (planW ([(true), (false), (false), (false)]) (List.replicate 4 (false)) (false) (-1)), .slice (ap6) ((planR ([(true), (false), (false), (false)]) (List.replicate 4 (false)) (false) (-1)).length) (capp6)]) 25 (0, 0)), (g5, .cells (cg5) 4 (0, 0)), (g4, .cells (#[.int .u8 (planW ([(true), (false), (false)]) ((List.replicate 4 (false)).take 3) (false) (-1)), .slice (ap3) ((planR ([(true), (false), (false)]) ((List.replicate 4 (false)).take 3) (false) (-1)).length) (capp3)]) 25 (0, 0)), (g2, .cells (cg2) 4 (0, 0)), (g1, .cells (cg1) 4 (0, 0))] ++ (Hp3 ++ (Hp6 ++ (Hp9 ++ (Hp12 ++ Hy))))) (fun Hy => by have h := List.perm_append_comm (l₁ := ([(g13, .cells (#[.int .u8 (planW ([(true), (false)]) ((List.replicate 4 (false)).take 2) (false) (2)), .slice (ap12) ((planR ([(true), (false)]) ((List.replicate 4 (false)).take 2) (false) (2)).length) (capp12)]) 25 (0, 0)), (g11, .cells (cg11) 4 (0, 0)), (g10, .cells (#[.int .u8 (planW ([(true), (true)]) ((List.replicate 4 (false)).take 2) (false) (-1)), .slice (ap9) ((planR ([(true), (true)]) ((List.replicate 4 (false)).take 2) (false) (-1)).length) (capp9)]) 25 (0, 0)), (g8, .cells (cg8) 4 (0, 0)), (g7, .cells (#[.int .u8 (planW ([(true), (false), (false), (false)]) (List.replicate 4 (false)) (false) (-1)), .slice (ap6) ((planR ([(true), (false), (false), (false)]) (List.replicate 4 (false)) (false) (-1)).length) (capp6)]) 25 (0, 0)), (g5, .cells (cg5) 4 (0, 0)), (g4, .cells (#[.int .u8 (planW ([(true), (false), (false)]) ((List.replicate 4 (false)).take 3) (false) (-1)), .slice (ap3) ((planR ([(true), (false), (false)]) ((List.replicate 4 (false)).take 3) (false) (-1)).length) (capp3)]) 25 (0, 0)), (g2, .cells (cg2) 4 (0, 0)), (g1, .cells (cg1) 4 (0, 0))] ++ (Hp3 ++ (Hp6 ++ (Hp9 ++ Hp12))) : Hp)) (l₂ := Hy); first | exact h | simpa [Value.cells] using h) (vs := [.slice (some ⟨g1, 0, none⟩) (4) (4), .slice (some ⟨g1, 0, none⟩) (4) (4), .bool (false), .int .i64 (-1)]) b8 rfl rfl (fun w hw => f8_Of (List.replicate 4 (false)) (List.replicate 4 (false)) _ _ _ _ _ _ _ _ _ _ (false) (-1) w (by omega) (by omega) (by first | rfl | (simp; done) | (simp; omega)) ((SlG.row (k := 8) rfl hrg1) w hw) (by first | rfl | (simp; done) | (simp; omega)) ((SlG.row (k := 8) rfl hrg1) w hw)) ?_
  rintro _ Hp14 ⟨ap14, gp14, capp14, rfl, hvp14⟩
  have hzp14 := hvp14.le
  have hyp14 := hvp14.mx
  simp only [maxLen] at hyp14
  refine o_y (v := .tuple #[.agg (#[.int .u8 (planW (List.replicate 4 (false)) (List.replicate 4 (false)) (false) (-1)), .slice (ap14) ((planR (List.replicate 4 (false)) (List.replicate 4 (false)) (false) (-1)).length) (capp14)]), .int .i64 (planE (List.replicate 4 (false)) (List.replicate 4 (false)) (false) (-1))]) rfl rfl (y_move rfl) ?_
  refine o_y (v := .agg (#[.int .u8 (planW (List.replicate 4 (false)) (List.replicate 4 (false)) (false) (-1)), .slice (ap14) ((planR (List.replicate 4 (false)) (List.replicate 4 (false)) (false) (-1)).length) (capp14)])) rfl rfl (y_extract (vs := #[.agg (#[.int .u8 (planW (List.replicate 4 (false)) (List.replicate 4 (false)) (false) (-1)), .slice (ap14) ((planR (List.replicate 4 (false)) (List.replicate 4 (false)) (false) (-1)).length) (capp14)]), .int .i64 (planE (List.replicate 4 (false)) (List.replicate 4 (false)) (false) (-1))]) rfl rfl) ?_
  refine o_y (v := .int .i64 (planE (List.replicate 4 (false)) (List.replicate 4 (false)) (false) (-1))) rfl rfl (y_extract (vs := #[.agg (#[.int .u8 (planW (List.replicate 4 (false)) (List.replicate 4 (false)) (false) (-1)), .slice (ap14) ((planR (List.replicate 4 (false)) (List.replicate 4 (false)) (false) (-1)).length) (capp14)]), .int .i64 (planE (List.replicate 4 (false)) (List.replicate 4 (false)) (false) (-1))]) rfl rfl) ?_
  refine o_alloc (z := .agg (#[.int .u8 (0), .slice none 0 0])) rfl z25 fun g15 => ?_
  refine o_storeS (H' := [(g15, .cells (#[.int .u8 (planW (List.replicate 4 (false)) (List.replicate 4 (false)) (false) (-1)), .slice (ap14) ((planR (List.replicate 4 (false)) (List.replicate 4 (false)) (false) (-1)).length) (capp14)]) 25 (0, 0)), (g13, .cells (#[.int .u8 (planW ([(true), (false)]) ((List.replicate 4 (false)).take 2) (false) (2)), .slice (ap12) ((planR ([(true), (false)]) ((List.replicate 4 (false)).take 2) (false) (2)).length) (capp12)]) 25 (0, 0)), (g11, .cells (cg11) 4 (0, 0)), (g10, .cells (#[.int .u8 (planW ([(true), (true)]) ((List.replicate 4 (false)).take 2) (false) (-1)), .slice (ap9) ((planR ([(true), (true)]) ((List.replicate 4 (false)).take 2) (false) (-1)).length) (capp9)]) 25 (0, 0)), (g8, .cells (cg8) 4 (0, 0)), (g7, .cells (#[.int .u8 (planW ([(true), (false), (false), (false)]) (List.replicate 4 (false)) (false) (-1)), .slice (ap6) ((planR ([(true), (false), (false), (false)]) (List.replicate 4 (false)) (false) (-1)).length) (capp6)]) 25 (0, 0)), (g5, .cells (cg5) 4 (0, 0)), (g4, .cells (#[.int .u8 (planW ([(true), (false), (false)]) ((List.replicate 4 (false)).take 3) (false) (-1)), .slice (ap3) ((planR ([(true), (false), (false)]) ((List.replicate 4 (false)).take 3) (false) (-1)).length) (capp3)]) 25 (0, 0)), (g2, .cells (cg2) 4 (0, 0)), (g1, .cells (cg1) 4 (0, 0))] ++ (Hp3 ++ (Hp6 ++ (Hp9 ++ (Hp12 ++ Hp14))))) 0 rfl rfl rfl s25 rfl (by simp [Value.oneCell']) rfl ?_
  refine o_y (v := .int .i64 (planE (List.replicate 4 (false)) (List.replicate 4 (false)) (false) (-1))) rfl rfl (y_assign rfl) ?_
  refine o_nil ?_
  refine hK7 _ _ ?_
  refine c_seq fun K8 hK8 => ?_
  refine c_region ?_
  refine o_y (v := .int .i64 (planE ([(true), (false), (false)]) ((List.replicate 4 (false)).take 3) (false) (-1))) rfl rfl (y_move rfl) ?_
  refine o_y (v := .bool (true)) rfl rfl (y_bool (y_eql rfl rfl rfl) (by decide +kernel)) ?_
  refine o_y (v := .bool (true)) rfl rfl (y_move rfl) ?_
  refine o_guard (j := 2) (d := 48) (b := true) rfl rfl rfl (fun _ => ?_) rfl (fun h => by cases h)
  refine o_y (v := .agg (#[.int .u8 (planW ([(true), (false), (false)]) ((List.replicate 4 (false)).take 3) (false) (-1)), .slice (ap3) ((planR ([(true), (false), (false)]) ((List.replicate 4 (false)).take 3) (false) (-1)).length) (capp3)])) rfl rfl (y_loadS rfl Try.underlying25 rfl s25 (Rd.whole (k := 7) rfl)) ?_
  refine o_guard (j := 2) (d := 48) (b := true) rfl rfl rfl (fun _ => ?_) rfl (fun h => by cases h)
  refine o_buildRow SL23 ([(1), (2)] : List Int) (fun x => .int .i64 x) (fun _ => rfl) rfl rfl (by rw [Array.toList_map]; rfl) (by simp) (by simp [eInt]) fun g16 cg16 hrg16 => ?_
  refine o_guard (j := 2) (d := 48) (b := true) rfl rfl rfl (fun _ => ?_) rfl (fun h => by cases h)
  refine o_y (v := .agg (#[.int .u8 (3), .slice (some ⟨g16, 0, none⟩) (2) (2)])) rfl rfl (y_build rfl (by first | kernel_rfl | simp [])) ?_
  refine o_guard (j := 2) (d := 48) (b := true) rfl rfl rfl (fun _ => ?_) rfl (fun h => by cases h)
  refine o_y (v := .bool (true)) rfl rfl (y_bool (y_call (vs := [.agg (#[.int .u8 (planW ([(true), (false), (false)]) ((List.replicate 4 (false)).take 3) (false) (-1)), .slice (ap3) ((planR ([(true), (false), (false)]) ((List.replicate 4 (false)).take 3) (false) (-1)).length) (capp3)]), .agg (#[.int .u8 (3), .slice (some ⟨g16, 0, none⟩) (2) (2)])]) b10 rfl (fun w hw => f10_Same (planW ([(true), (false), (false)]) ((List.replicate 4 (false)).take 3) (false) (-1)) (3) (planR ([(true), (false), (false)]) ((List.replicate 4 (false)).take 3) (false) (-1)) ([(1), (2)]) _ _ _ _ _ _ _ _ _ _ w (by first | rfl | (simp; done) | (simp; omega)) ((SlG.own hvp3 (fun p hp => (List.mem_cons_of_mem _ (List.mem_cons_of_mem _ (List.mem_cons_of_mem _ (List.mem_cons_of_mem _ (List.mem_cons_of_mem _ (List.mem_cons_of_mem _ (List.mem_cons_of_mem _ (List.mem_cons_of_mem _ (List.mem_cons_of_mem _ (List.mem_cons_of_mem _ (List.mem_cons_of_mem _ (List.mem_append_left _ hp)))))))))))))) w hw) (by first | rfl | (simp; done) | (simp; omega)) ((SlG.row (k := 0) rfl hrg16) w hw))) (by decide +kernel)) ?_
  refine o_y (v := .bool (true)) rfl rfl (y_pick (b := true) rfl rfl) ?_
  refine o_y (v := .bool (true)) rfl rfl (y_move rfl) ?_
  refine o_guard (j := 8) (d := 54) (b := true) rfl rfl rfl (fun _ => ?_) rfl (fun h => by cases h)
  refine o_y (v := .int .i64 (planE ([(true), (false), (false), (false)]) (List.replicate 4 (false)) (false) (-1))) rfl rfl (y_move rfl) ?_
  refine o_guard (j := 8) (d := 54) (b := true) rfl rfl rfl (fun _ => ?_) rfl (fun h => by cases h)
  refine o_y (v := .bool (true)) rfl rfl (y_bool (y_eql rfl rfl rfl) (by decide +kernel)) ?_
  refine o_y (v := .bool (true)) rfl rfl (y_pick (b := true) rfl rfl) ?_
  refine o_y (v := .bool (true)) rfl rfl (y_move rfl) ?_
  refine o_guard (j := 12) (d := 58) (b := true) rfl rfl rfl (fun _ => ?_) rfl (fun h => by cases h)
  refine o_y (v := .agg (#[.int .u8 (planW ([(true), (false), (false), (false)]) (List.replicate 4 (false)) (false) (-1)), .slice (ap6) ((planR ([(true), (false), (false), (false)]) (List.replicate 4 (false)) (false) (-1)).length) (capp6)])) rfl rfl (y_loadS rfl Try.underlying25 rfl s25 (Rd.whole (k := 6) rfl)) ?_
  refine o_guard (j := 12) (d := 58) (b := true) rfl rfl rfl (fun _ => ?_) rfl (fun h => by cases h)
  refine o_buildRow SL23 ([(0), (4)] : List Int) (fun x => .int .i64 x) (fun _ => rfl) rfl rfl (by rw [Array.toList_map]; rfl) (by simp) (by simp [eInt]) fun g17 cg17 hrg17 => ?_
  refine o_guard (j := 12) (d := 58) (b := true) rfl rfl rfl (fun _ => ?_) rfl (fun h => by cases h)
  refine o_y (v := .agg (#[.int .u8 (4), .slice (some ⟨g17, 0, none⟩) (2) (2)])) rfl rfl (y_build rfl (by first | kernel_rfl | simp [])) ?_
  refine o_guard (j := 12) (d := 58) (b := true) rfl rfl rfl (fun _ => ?_) rfl (fun h => by cases h)
  refine o_y (v := .bool (true)) rfl rfl (y_bool (y_call (vs := [.agg (#[.int .u8 (planW ([(true), (false), (false), (false)]) (List.replicate 4 (false)) (false) (-1)), .slice (ap6) ((planR ([(true), (false), (false), (false)]) (List.replicate 4 (false)) (false) (-1)).length) (capp6)]), .agg (#[.int .u8 (4), .slice (some ⟨g17, 0, none⟩) (2) (2)])]) b10 rfl (fun w hw => f10_Same (planW ([(true), (false), (false), (false)]) (List.replicate 4 (false)) (false) (-1)) (4) (planR ([(true), (false), (false), (false)]) (List.replicate 4 (false)) (false) (-1)) ([(0), (4)]) _ _ _ _ _ _ _ _ _ _ w (by first | rfl | (simp; done) | (simp; omega)) ((SlG.own hvp6 (fun p hp => (List.mem_cons_of_mem _ (List.mem_cons_of_mem _ (List.mem_cons_of_mem _ (List.mem_cons_of_mem _ (List.mem_cons_of_mem _ (List.mem_cons_of_mem _ (List.mem_cons_of_mem _ (List.mem_cons_of_mem _ (List.mem_cons_of_mem _ (List.mem_cons_of_mem _ (List.mem_cons_of_mem _ (List.mem_cons_of_mem _ (List.mem_append_right _ (List.mem_append_left _ hp)))))))))))))))) w hw) (by first | rfl | (simp; done) | (simp; omega)) ((SlG.row (k := 0) rfl hrg17) w hw))) (by decide +kernel)) ?_
  refine o_y (v := .bool (true)) rfl rfl (y_pick (b := true) rfl rfl) ?_
  refine o_y (v := .bool (true)) rfl rfl (y_move rfl) ?_
  refine o_guard (j := 18) (d := 64) (b := true) rfl rfl rfl (fun _ => ?_) rfl (fun h => by cases h)
  refine o_y (v := .int .i64 (planE ([(true), (true)]) ((List.replicate 4 (false)).take 2) (false) (-1))) rfl rfl (y_move rfl) ?_
  refine o_guard (j := 18) (d := 64) (b := true) rfl rfl rfl (fun _ => ?_) rfl (fun h => by cases h)
  refine o_y (v := .bool (true)) rfl rfl (y_bool (y_eql rfl rfl rfl) (by decide +kernel)) ?_
  refine o_y (v := .bool (true)) rfl rfl (y_pick (b := true) rfl rfl) ?_
  refine o_y (v := .bool (true)) rfl rfl (y_move rfl) ?_
  refine o_guard (j := 22) (d := 68) (b := true) rfl rfl rfl (fun _ => ?_) rfl (fun h => by cases h)
  refine o_y (v := .pointer (some ⟨g10, 0, none⟩)) rfl rfl (y_fieldAddr (k := 0) rfl Try.underlying25 rfl rfl ⟨_, s5⟩ (by first | rfl | omega)) ?_
  refine o_guard (j := 22) (d := 68) (b := true) rfl rfl rfl (fun _ => ?_) rfl (fun h => by cases h)
  refine o_y (v := .int .u8 (planW ([(true), (true)]) ((List.replicate 4 (false)).take 2) (false) (-1))) rfl rfl (y_load rfl Try.underlying5 rfl (Rd.one (k := 5) rfl rfl)) ?_
  refine o_guard (j := 22) (d := 68) (b := true) rfl rfl rfl (fun _ => ?_) rfl (fun h => by cases h)
  refine o_y (v := .bool (true)) rfl rfl (y_bool (y_eql rfl rfl rfl) (by decide +kernel)) ?_
  refine o_y (v := .bool (true)) rfl rfl (y_pick (b := true) rfl rfl) ?_
  refine o_y (v := .bool (true)) rfl rfl (y_move rfl) ?_
  refine o_guard (j := 27) (d := 73) (b := true) rfl rfl rfl (fun _ => ?_) rfl (fun h => by cases h)
  refine o_y (v := .int .i64 (planE ([(true), (false)]) ((List.replicate 4 (false)).take 2) (false) (2))) rfl rfl (y_move rfl) ?_
  refine o_guard (j := 27) (d := 73) (b := true) rfl rfl rfl (fun _ => ?_) rfl (fun h => by cases h)
  refine o_y (v := .bool (true)) rfl rfl (y_bool (y_eql rfl rfl rfl) (by decide +kernel)) ?_
  refine o_y (v := .bool (true)) rfl rfl (y_pick (b := true) rfl rfl) ?_
  refine o_y (v := .bool (true)) rfl rfl (y_move rfl) ?_
  refine o_guard (j := 31) (d := 77) (b := true) rfl rfl rfl (fun _ => ?_) rfl (fun h => by cases h)
  refine o_y (v := .pointer (some ⟨g13, 0, none⟩)) rfl rfl (y_fieldAddr (k := 0) rfl Try.underlying25 rfl rfl ⟨_, s5⟩ (by first | rfl | omega)) ?_
  refine o_guard (j := 31) (d := 77) (b := true) rfl rfl rfl (fun _ => ?_) rfl (fun h => by cases h)
  refine o_y (v := .int .u8 (planW ([(true), (false)]) ((List.replicate 4 (false)).take 2) (false) (2))) rfl rfl (y_load rfl Try.underlying5 rfl (Rd.one (k := 3) rfl rfl)) ?_
  refine o_guard (j := 31) (d := 77) (b := true) rfl rfl rfl (fun _ => ?_) rfl (fun h => by cases h)
  refine o_y (v := .bool (true)) rfl rfl (y_bool (y_eql rfl rfl rfl) (by decide +kernel)) ?_
  refine o_y (v := .bool (true)) rfl rfl (y_pick (b := true) rfl rfl) ?_
  refine o_y (v := .bool (true)) rfl rfl (y_move rfl) ?_
  refine o_guard (j := 36) (d := 82) (b := true) rfl rfl rfl (fun _ => ?_) rfl (fun h => by cases h)
  refine o_y (v := .int .i64 (planE (List.replicate 4 (false)) (List.replicate 4 (false)) (false) (-1))) rfl rfl (y_move rfl) ?_
  refine o_guard (j := 36) (d := 82) (b := true) rfl rfl rfl (fun _ => ?_) rfl (fun h => by cases h)
  refine o_y (v := .bool (true)) rfl rfl (y_bool (y_eql rfl rfl rfl) (by decide +kernel)) ?_
  refine o_y (v := .bool (true)) rfl rfl (y_pick (b := true) rfl rfl) ?_
  refine o_y (v := .bool (true)) rfl rfl (y_assign rfl) ?_
  refine o_nil ?_
  refine hK8 _ _ ?_
  refine c_ret ?_
  refine fun w hw => ⟨[.bool (true)], ⟨rfl, trivial⟩, ?_⟩
  exact rfl

set_option maxRecDepth 100000 in
set_option maxHeartbeats 4000000 in
theorem f24_xor (a b : Blk) (w : World)  :
    Calls Try.prog 24 [.agg (bv (a)), .agg (bv (b))].toArray w fun e w' => e = .returned (.agg (bv (xorB a b))) ∧ Below w.heap.size w w' := by
  refine (calls_of (P := Try.prog) (n := 20) (w0 := w) (S := fun _ => False) (H := []) (T := fun v _ => v = (.agg (bv (xorB a b)))) Try.func24 rfl Try.ntmps24 (Nat.le_of_ble_eq_true rfl) [.cell 4 35] rfl (St.nil w _) ?_).mono fun e w' ⟨v, H', he, hs, hT⟩ => ⟨by rw [he, hT], hs.below⟩
  refine c_seq fun K1 hK1 => ?_
  refine c_region ?_
  refine o_box (v := .agg (bv (a))) rfl rfl fun g1 => ?_
  refine o_box (v := .agg (bv (b))) rfl rfl fun g2 => ?_
  refine o_alloc (z := .agg (bv (zB))) rfl z35 fun g3 => ?_
  refine o_nil ?_
  refine hK1 _ _ ?_
  refine c_seq fun K2 hK2 => ?_
  refine c_seq fun K3 hK3 => ?_
  refine c_region ?_
  refine o_y (v := .agg (bv (b))) rfl rfl (y_loadB T35 rfl (Rd.whole (k := 1) rfl)) ?_
  refine o_y (v := .int .i64 (0)) rfl rfl (y_move rfl) ?_
  refine o_nil ?_
  refine hK3 _ _ ?_
  refine c_block ?_
  refine c_loop (fun d R H => ∃ (j : Nat), d = 64 - (j) ∧ (j ≤ 64) ∧ R 2 = .pointer (some ⟨g1, 0, none⟩) ∧ R 4 = .pointer (some ⟨g3, 0, none⟩) ∧ R 7 = .agg (bv (b)) ∧ R 8 = .int .i64 (((j : Nat) : Int)) ∧ H = ([(g3, .cells (bv (zB)) 35 (0, 0)), (g2, .cells (bv (b)) 35 (0, 0)), (g1, .cells (bv (mixB (j) (xorB a b) a)) 35 (0, 0))] : Hp)) (64 - (0)) ?_ ?_
  ·
    refine ⟨0, rfl, by omega, rfl, rfl, rfl, (ie (a := 0) (b := ((0 : Nat) : Int)) (by omega)), ?_⟩
    rw [mixB_zero]; first | done | rfl
  ·
    rintro d1 R1 _ ⟨j, hd1, hv1_0, h1_2, h1_4, h1_7, h1_8, rfl⟩
    refine c_seq fun K4 hK4 => ?_
    refine c_region ?_
    refine o_y (v := .bool (decide (((j : Nat) : Int) < 64))) rfl rfl (y_lss h1_8 rfl rfl) ?_
    refine o_nil ?_
    refine hK4 _ _ ?_
    refine c_seq fun K5 hK5 => ?_
    refine c_cond (t := decide (((j : Nat) : Int) < 64)) rfl (fun hc1 => ?_) (fun hc1 => ?_)
    ·
      replace hc1 := of_decide_eq_true hc1
      -- way LT
      refine c_skip ?_
      refine hK5 _ _ ?_
      refine c_seq fun K6 hK6 => ?_
      refine c_block ?_
      refine c_seq fun K7 hK7 => ?_
      refine c_region ?_
      refine o_y (v := .int .i64 (((j : Nat) : Int))) rfl rfl (y_move h1_8) ?_
      refine o_y (v := .int .u8 (((b)[j]).toNat : Int)) rfl rfl (y_ixVal h1_7 h1_8 Try.underlying35 s5 Try.underlying5 rfl (by omega) (by omega) (bv_get _ _ (by omega))) ?_
      refine o_y (v := .int .i64 (((j : Nat) : Int))) rfl rfl (y_assign rfl) ?_
      refine o_y (v := .int .u8 (((b)[j]).toNat : Int)) rfl rfl (y_assign rfl) ?_
      refine o_nil ?_
      refine hK7 _ _ ?_
      refine c_region ?_
      refine o_y (v := .int .i64 (((j : Nat) : Int))) rfl rfl (y_move rfl) ?_
      refine o_y (v := .pointer (some ⟨g1, j, none⟩)) rfl rfl (y_ixArr (sz := 1) h1_2 rfl Try.underlying35 s5 (by omega) (by omega) (by omega)) ?_
      refine o_y (v := .int .u8 (((mixB (j) (xorB a b) a)[j]).toNat : Int)) rfl rfl (y_load rfl Try.underlying5 rfl (Rd.one (k := 2) rfl (bv_get _ _ (by omega)))) ?_
      refine o_y (v := .int .u8 (((b)[j]).toNat : Int)) rfl rfl (y_move rfl) ?_
      refine o_y (v := .int .u8 ((((mixB (j) (xorB a b) a)[j]) ^^^ ((b)[j])).toNat : Int)) rfl rfl (y_xorB rfl rfl) ?_
      refine o_y (v := .pointer (some ⟨g1, j, none⟩)) rfl rfl (y_ixArr (sz := 1) h1_2 rfl Try.underlying35 s5 (by omega) (by omega) (by omega)) ?_
      refine o_storeB1 (H' := [(g3, .cells (bv (zB)) 35 (0, 0)), (g2, .cells (bv (b)) 35 (0, 0)), (g1, .cells (bv ((mixB (j) (xorB a b) a).set j (((mixB (j) (xorB a b) a)[j]) ^^^ ((b)[j])) (by omega))) 35 (0, 0))]) 2 (by omega) s5 rfl rfl rfl rfl ?_
      refine o_nil ?_
      refine hK6 _ _ ?_
      refine c_region ?_
      refine o_y (v := .int .i64 ((((j : Nat) : Int)) + 1)) rfl rfl (y_add h1_8 rfl (wi_i64 (by omega) (by omega))) ?_
      refine o_y (v := .int .i64 ((((j : Nat) : Int)) + 1)) rfl rfl (y_move rfl) ?_
      refine o_nil ?_
      refine ⟨_, by omega, j + 1, rfl, by omega, h1_2, h1_4, h1_7, (ie (a := (((j : Nat) : Int)) + 1) (b := ((j + 1 : Nat) : Int)) (by omega)), ?_⟩
      rw [mix_xor]; first | done | rfl
    ·
      replace hc1 := of_decide_eq_false hc1
      -- way LF
      refine c_exit ?_
      refine hK2 _ _ ?_
      refine c_seq fun K8 hK8 => ?_
      refine c_region ?_
      refine o_y (v := .agg (bv (mixB (j) (xorB a b) a))) rfl rfl (y_loadB T35 h1_2 (Rd.whole (k := 2) rfl)) ?_
      refine o_storeB (H' := [(g3, .cells (bv (mixB (j) (xorB a b) a)) 35 (0, 0)), (g2, .cells (bv (b)) 35 (0, 0)), (g1, .cells (bv (mixB (j) (xorB a b) a)) 35 (0, 0))]) T35 0 h1_4 rfl rfl rfl ?_
      refine o_nil ?_
      refine hK8 _ _ ?_
      refine c_ret ?_
      refine fun w hw => ⟨[.agg (bv (mixB (j) (xorB a b) a))], ⟨⟨_, h1_4, loadB T35 ((Rd.whole (k := 0) rfl) w hw)⟩, trivial⟩, ?_⟩
      obtain rfl : j = 64 := by omega
      rw [mixB_full]
      first | done | rfl

set_option maxRecDepth 100000 in
set_option maxHeartbeats 4000000 in
theorem f23_rxor (a b : Blk) (w : World)  :
    Calls Try.prog 23 [.agg (bv (a)), .agg (bv (b))].toArray w fun e w' => e = .returned (.agg (bv (xorB a b))) ∧ Below w.heap.size w w' := by
  refine (calls_of (P := Try.prog) (n := 21) (w0 := w) (S := fun _ => False) (H := []) (T := fun v _ => v = (.agg (bv (xorB a b)))) Try.func23 rfl Try.ntmps23 (Nat.le_of_ble_eq_true rfl) [.cell 4 35] rfl (St.nil w _) ?_).mono fun e w' ⟨v, H', he, hs, hT⟩ => ⟨by rw [he, hT], hs.below⟩
  refine c_seq fun K1 hK1 => ?_
  refine c_region ?_
  refine o_box (v := .agg (bv (a))) rfl rfl fun g1 => ?_
  refine o_box (v := .agg (bv (b))) rfl rfl fun g2 => ?_
  refine o_alloc (z := .agg (bv (zB))) rfl z35 fun g3 => ?_
  refine o_nil ?_
  refine hK1 _ _ ?_
  refine c_seq fun K2 hK2 => ?_
  refine c_region ?_
  refine o_alloc (z := .agg (bv (zB))) rfl z35 fun g4 => ?_
  refine o_nil ?_
  refine hK2 _ _ ?_
  refine c_seq fun K3 hK3 => ?_
  refine c_seq fun K4 hK4 => ?_
  refine c_region ?_
  refine o_y (v := .int .i64 (0)) rfl rfl (y_assign rfl) ?_
  refine o_nil ?_
  refine hK4 _ _ ?_
  refine c_block ?_
  refine c_loop (fun d R H => ∃ (j : Nat), d = 64 - (j) ∧ (j ≤ 64) ∧ R 2 = .pointer (some ⟨g1, 0, none⟩) ∧ R 3 = .pointer (some ⟨g2, 0, none⟩) ∧ R 4 = .pointer (some ⟨g3, 0, none⟩) ∧ R 5 = .pointer (some ⟨g4, 0, none⟩) ∧ R 6 = .int .i64 (((j : Nat) : Int)) ∧ H = ([(g4, .cells (bv (mixB (j) (xorB a b) zB)) 35 (0, 0)), (g3, .cells (bv (zB)) 35 (0, 0)), (g2, .cells (bv (b)) 35 (0, 0)), (g1, .cells (bv (a)) 35 (0, 0))] : Hp)) (64 - (0)) ?_ ?_
  ·
    refine ⟨0, rfl, by omega, rfl, rfl, rfl, rfl, (ie (a := 0) (b := ((0 : Nat) : Int)) (by omega)), ?_⟩
    rw [mixB_zero]; first | done | rfl
  ·
    rintro d1 R1 _ ⟨j, hd1, hv1_0, h1_2, h1_3, h1_4, h1_5, h1_6, rfl⟩
    refine c_seq fun K5 hK5 => ?_
    refine c_seq fun K6 hK6 => ?_
    refine c_region ?_
    refine o_y (v := .int .i64 (((j : Nat) : Int))) rfl rfl (y_move h1_6) ?_
    refine o_y (v := .bool (decide (((j : Nat) : Int) < 64))) rfl rfl (y_lss rfl rfl rfl) ?_
    refine o_nil ?_
    refine hK6 _ _ ?_
    refine c_cond (t := decide (((j : Nat) : Int) < 64)) rfl (fun hc1 => ?_) (fun hc1 => ?_)
    ·
      replace hc1 := of_decide_eq_true hc1
      -- way LT
      refine c_skip ?_
      refine hK5 _ _ ?_
      refine c_seq fun K7 hK7 => ?_
      refine c_block ?_
      refine c_draw 9 (by kernel_rfl) (by kernel_rfl) ?_
      refine q_y (v := .int .i64 (((j : Nat) : Int))) rfl (y_move h1_6) ?_
      refine q_y (v := .int .i64 (((j : Nat) : Int))) rfl (y_move h1_6) ?_
      refine q_y (v := .pointer (some ⟨g1, j, none⟩)) rfl (y_ixArr (sz := 1) h1_2 rfl Try.underlying35 s5 (by omega) (by omega) (by omega)) ?_
      refine q_y (v := .int .u8 (((a)[j]).toNat : Int)) rfl (y_load rfl Try.underlying5 rfl (Rd.one (k := 3) rfl (bv_get _ _ (by omega)))) ?_
      refine q_y (v := .int .i64 (((j : Nat) : Int))) rfl (y_move h1_6) ?_
      refine q_y (v := .pointer (some ⟨g2, j, none⟩)) rfl (y_ixArr (sz := 1) h1_3 rfl Try.underlying35 s5 (by omega) (by omega) (by omega)) ?_
      refine q_y (v := .int .u8 (((b)[j]).toNat : Int)) rfl (y_load rfl Try.underlying5 rfl (Rd.one (k := 2) rfl (bv_get _ _ (by omega)))) ?_
      refine q_y (v := .int .u8 ((((a)[j]) ^^^ ((b)[j])).toNat : Int)) rfl (y_xorB rfl rfl) ?_
      refine q_y (v := .pointer (some ⟨g4, j, none⟩)) rfl (y_ixArr (sz := 1) h1_5 rfl Try.underlying35 s5 (by omega) (by omega) (by omega)) ?_
      refine q_nil ?_
      refine o_storeB1 (H' := [(g4, .cells (bv ((mixB (j) (xorB a b) zB).set j (((a)[j]) ^^^ ((b)[j])) (by omega))) 35 (0, 0)), (g3, .cells (bv (zB)) 35 (0, 0)), (g2, .cells (bv (b)) 35 (0, 0)), (g1, .cells (bv (a)) 35 (0, 0))]) 0 (by omega) s5 rfl rfl rfl rfl ?_
      refine o_nil ?_
      refine hK7 _ _ ?_
      refine c_region ?_
      refine o_y (v := .int .i64 (((j : Nat) : Int))) rfl rfl (y_move h1_6) ?_
      refine o_y (v := .int .i64 ((((j : Nat) : Int)) + 1)) rfl rfl (y_add rfl rfl (wi_i64 (by omega) (by omega))) ?_
      refine o_y (v := .int .i64 ((((j : Nat) : Int)) + 1)) rfl rfl (y_assign rfl) ?_
      refine o_nil ?_
      refine ⟨_, by omega, j + 1, rfl, by omega, h1_2, h1_3, h1_4, h1_5, (ie (a := (((j : Nat) : Int)) + 1) (b := ((j + 1 : Nat) : Int)) (by omega)), ?_⟩
      rw [mix_xor']; first | done | rfl
    ·
      replace hc1 := of_decide_eq_false hc1
      -- way LF
      refine c_exit ?_
      refine hK3 _ _ ?_
      refine c_seq fun K8 hK8 => ?_
      refine c_region ?_
      refine o_y (v := .agg (bv (mixB (j) (xorB a b) zB))) rfl rfl (y_loadB T35 h1_5 (Rd.whole (k := 0) rfl)) ?_
      refine o_storeB (H' := [(g4, .cells (bv (mixB (j) (xorB a b) zB)) 35 (0, 0)), (g3, .cells (bv (mixB (j) (xorB a b) zB)) 35 (0, 0)), (g2, .cells (bv (b)) 35 (0, 0)), (g1, .cells (bv (a)) 35 (0, 0))]) T35 1 h1_4 rfl rfl rfl ?_
      refine o_nil ?_
      refine hK8 _ _ ?_
      refine c_ret ?_
      refine fun w hw => ⟨[.agg (bv (mixB (j) (xorB a b) zB))], ⟨⟨_, h1_4, loadB T35 ((Rd.whole (k := 1) rfl) w hw)⟩, trivial⟩, ?_⟩
      obtain rfl : j = 64 := by omega
      rw [mixB_full]
      first | done | rfl

set_option maxRecDepth 100000 in
set_option maxHeartbeats 4000000 in
theorem f22_fold (l : List Blk) (a1 : Option Addr) (b1 o1 cap1 m1 : Nat) (w : World) (hm1 : m1 = l.length) (hs : Sl eBlk w l a1 b1 o1 cap1) :
    Calls Try.prog 22 [.slice (a1) (m1) (cap1)].toArray w fun e w' => e = .returned (.agg (bv (foldB l))) ∧ Below w.heap.size w w' := by
  subst hm1
  have hle := hs.le
  have hmx := hs.mx
  simp only [maxLen] at hmx
  refine (calls_of (P := Try.prog) (n := 16) (w0 := w) (S := fun _ => False) (H := []) (T := fun v _ => v = (.agg (bv (foldB l)))) Try.func22 rfl Try.ntmps22 (Nat.le_of_ble_eq_true rfl) [.cell 2 35] rfl (St.nil w _) ?_).mono fun e w' ⟨v, H', he, hs, hT⟩ => ⟨by rw [he, hT], hs.below⟩
  refine c_seq fun K1 hK1 => ?_
  refine c_region ?_
  refine o_alloc (z := .agg (bv (zB))) rfl z35 fun g1 => ?_
  refine o_nil ?_
  refine hK1 _ _ ?_
  refine c_seq fun K2 hK2 => ?_
  refine c_seq fun K3 hK3 => ?_
  refine c_region ?_
  refine o_y (v := .slice (a1) ((l).length) (cap1)) rfl rfl (y_move rfl) ?_
  refine o_y (v := .int .i64 ((((l).length : Nat) : Int))) rfl rfl (y_len rfl Try.underlying33) ?_
  refine o_y (v := .int .i64 (0)) rfl rfl (y_move rfl) ?_
  refine o_nil ?_
  refine hK3 _ _ ?_
  refine c_block ?_
  refine c_loop (fun d R H => ∃ (j : Nat), d = l.length - (j) ∧ (j ≤ l.length) ∧ R 2 = .pointer (some ⟨g1, 0, none⟩) ∧ R 5 = .slice (a1) ((l).length) (cap1) ∧ R 6 = .int .i64 ((((l).length : Nat) : Int)) ∧ R 7 = .int .i64 (((j : Nat) : Int)) ∧ H = ([(g1, .cells (bv (foldB (l.take (j)))) 35 (0, 0))] : Hp)) (l.length - (0)) ?_ ?_
  ·
    refine ⟨0, rfl, by omega, rfl, rfl, rfl, (ie (a := 0) (b := ((0 : Nat) : Int)) (by omega)), ?_⟩
    rw [foldB_zero]; first | done | rfl
  ·
    rintro d1 R1 _ ⟨j, hd1, hv1_0, h1_2, h1_5, h1_6, h1_7, rfl⟩
    refine c_seq fun K4 hK4 => ?_
    refine c_region ?_
    refine o_y (v := .bool (decide (((j : Nat) : Int) < (((l).length : Nat) : Int)))) rfl rfl (y_lss h1_7 h1_6 rfl) ?_
    refine o_nil ?_
    refine hK4 _ _ ?_
    refine c_seq fun K5 hK5 => ?_
    refine c_cond (t := decide (((j : Nat) : Int) < (((l).length : Nat) : Int))) rfl (fun hc1 => ?_) (fun hc1 => ?_)
    ·
      replace hc1 := of_decide_eq_true hc1
      -- way LT
      refine c_skip ?_
      refine hK5 _ _ ?_
      refine c_seq fun K6 hK6 => ?_
      refine c_block ?_
      refine c_seq fun K7 hK7 => ?_
      refine c_region ?_
      refine o_y (v := .pointer (some ⟨b1, o1 + j * 64, none⟩)) rfl rfl (y_ixO j (hs.at_ (by omega)) h1_5 h1_7 Try.underlying33 s35 (by omega) (by first | omega | (simp; done) | (simp; omega))) ?_
      refine o_y (v := .agg (bv ((l)[j]))) rfl rfl (y_loadB T35 rfl (SlG.rd (SlG.old hs (fun _ h => h)) j (by first | omega | (simp; done) | (simp; omega)))) ?_
      refine o_alloc (z := .agg (bv (zB))) rfl z35 fun g2 => ?_
      refine o_storeB (H' := [(g2, .cells (bv ((l)[j])) 35 (0, 0)), (g1, .cells (bv (foldB (l.take (j)))) 35 (0, 0))]) T35 0 rfl rfl rfl rfl ?_
      refine o_nil ?_
      refine hK7 _ _ ?_
      refine c_region ?_
      refine o_y (v := .agg (bv (foldB (l.take (j))))) rfl rfl (y_loadB T35 h1_2 (Rd.whole (k := 1) rfl)) ?_
      refine o_y (v := .agg (bv ((l)[j]))) rfl rfl (y_loadB T35 rfl (Rd.whole (k := 0) rfl)) ?_
      refine o_y (v := .agg (bv (xorB (foldB (l.take (j))) ((l)[j])))) rfl rfl (y_call (vs := [.agg (bv (foldB (l.take (j)))), .agg (bv ((l)[j]))]) b24 rfl (fun w hw => f24_xor _ _ w)) ?_
      refine o_storeB (H' := [(g2, .cells (bv ((l)[j])) 35 (0, 0)), (g1, .cells (bv (xorB (foldB (l.take (j))) ((l)[j]))) 35 (0, 0))]) T35 1 h1_2 rfl rfl rfl ?_
      refine o_nil ?_
      refine hK6 _ _ ?_
      refine c_region ?_
      refine o_y (v := .int .i64 ((((j : Nat) : Int)) + 1)) rfl rfl (y_add h1_7 rfl (wi_i64 (by omega) (by omega))) ?_
      refine o_y (v := .int .i64 ((((j : Nat) : Int)) + 1)) rfl rfl (y_move rfl) ?_
      refine o_forget (H' := [(g1, .cells (bv (xorB (foldB (l.take (j))) ((l)[j]))) 35 (0, 0))]) ((List.Sublist.slnil.cons_cons _).cons _) ?_
      refine o_nil ?_
      refine ⟨_, by omega, j + 1, rfl, by omega, h1_2, h1_5, h1_6, (ie (a := (((j : Nat) : Int)) + 1) (b := ((j + 1 : Nat) : Int)) (by omega)), ?_⟩
      rw [foldB_succ _ _ (by omega)]; first | done | rfl
    ·
      replace hc1 := of_decide_eq_false hc1
      -- way LF
      refine c_exit ?_
      refine hK2 _ _ ?_
      refine c_seq fun K8 hK8 => ?_
      refine c_region ?_
      refine o_y (v := .agg (bv (foldB (l.take (j))))) rfl rfl (y_loadB T35 h1_2 (Rd.whole (k := 0) rfl)) ?_
      refine o_storeB (H' := [(g1, .cells (bv (foldB (l.take (j)))) 35 (0, 0))]) T35 0 h1_2 rfl rfl rfl ?_
      refine o_nil ?_
      refine hK8 _ _ ?_
      refine c_ret ?_
      refine fun w hw => ⟨[.agg (bv (foldB (l.take (j))))], ⟨⟨_, h1_2, loadB T35 ((Rd.whole (k := 0) rfl) w hw)⟩, trivial⟩, ?_⟩
      obtain rfl : j = l.length := by omega
      rw [List.take_length]
      first | done | rfl

set_option maxRecDepth 100000 in
set_option maxHeartbeats 4000000 in
theorem f15_rfold (l : List Blk) (a1 : Option Addr) (b1 o1 cap1 m1 : Nat) (w : World) (hm1 : m1 = l.length) (hs : Sl eBlk w l a1 b1 o1 cap1) :
    Calls Try.prog 15 [.slice (a1) (m1) (cap1)].toArray w fun e w' => e = .returned (.agg (bv (foldB l))) ∧ Below w.heap.size w w' := by
  subst hm1
  have hle := hs.le
  have hmx := hs.mx
  simp only [maxLen] at hmx
  refine (calls_of (P := Try.prog) (n := 18) (w0 := w) (S := fun _ => False) (H := []) (T := fun v _ => v = (.agg (bv (foldB l)))) Try.func15 rfl Try.ntmps15 (Nat.le_of_ble_eq_true rfl) [.cell 2 35] rfl (St.nil w _) ?_).mono fun e w' ⟨v, H', he, hs, hT⟩ => ⟨by rw [he, hT], hs.below⟩
  refine c_seq fun K1 hK1 => ?_
  refine c_region ?_
  refine o_alloc (z := .agg (bv (zB))) rfl z35 fun g1 => ?_
  refine o_nil ?_
  refine hK1 _ _ ?_
  refine c_seq fun K2 hK2 => ?_
  refine c_region ?_
  refine o_alloc (z := .agg (bv (zB))) rfl z35 fun g2 => ?_
  refine o_nil ?_
  refine hK2 _ _ ?_
  refine c_seq fun K3 hK3 => ?_
  refine c_seq fun K4 hK4 => ?_
  refine c_region ?_
  refine o_y (v := .int .i64 (0)) rfl rfl (y_assign rfl) ?_
  refine o_nil ?_
  refine hK4 _ _ ?_
  refine c_block ?_
  refine c_loop (fun d R H => ∃ (j : Nat), d = l.length - (j) ∧ (j ≤ l.length) ∧ R 0 = .slice (a1) ((l).length) (cap1) ∧ R 2 = .pointer (some ⟨g1, 0, none⟩) ∧ R 3 = .pointer (some ⟨g2, 0, none⟩) ∧ R 4 = .int .i64 (((j : Nat) : Int)) ∧ H = ([(g2, .cells (bv (foldB (l.take (j)))) 35 (0, 0)), (g1, .cells (bv (zB)) 35 (0, 0))] : Hp)) (l.length - (0)) ?_ ?_
  ·
    refine ⟨0, rfl, by omega, rfl, rfl, rfl, (ie (a := 0) (b := ((0 : Nat) : Int)) (by omega)), ?_⟩
    rw [foldB_zero]; first | done | rfl
  ·
    rintro d1 R1 _ ⟨j, hd1, hv1_0, h1_0, h1_2, h1_3, h1_4, rfl⟩
    refine c_seq fun K5 hK5 => ?_
    refine c_seq fun K6 hK6 => ?_
    refine c_region ?_
    refine o_y (v := .int .i64 (((j : Nat) : Int))) rfl rfl (y_move h1_4) ?_
    refine o_y (v := .slice (a1) ((l).length) (cap1)) rfl rfl (y_move h1_0) ?_
    refine o_y (v := .int .i64 ((((l).length : Nat) : Int))) rfl rfl (y_len rfl Try.underlying33) ?_
    refine o_y (v := .bool (decide (((j : Nat) : Int) < (((l).length : Nat) : Int)))) rfl rfl (y_lss rfl rfl rfl) ?_
    refine o_nil ?_
    refine hK6 _ _ ?_
    refine c_cond (t := decide (((j : Nat) : Int) < (((l).length : Nat) : Int))) rfl (fun hc1 => ?_) (fun hc1 => ?_)
    ·
      replace hc1 := of_decide_eq_true hc1
      -- way LT
      refine c_skip ?_
      refine hK5 _ _ ?_
      refine c_seq fun K7 hK7 => ?_
      refine c_block ?_
      refine c_draw 6 (by kernel_rfl) (by kernel_rfl) ?_
      refine q_y (v := .agg (bv (foldB (l.take (j))))) rfl (y_loadB T35 h1_3 (Rd.whole (k := 0) rfl)) ?_
      refine q_y (v := .slice (a1) ((l).length) (cap1)) rfl (y_move h1_0) ?_
      refine q_y (v := .int .i64 (((j : Nat) : Int))) rfl (y_move h1_4) ?_
      refine q_y (v := .pointer (some ⟨b1, o1 + j * 64, none⟩)) rfl (y_ixO j (hs.at_ (by omega)) rfl rfl Try.underlying33 s35 (by omega) (by first | omega | (simp; done) | (simp; omega))) ?_
      refine q_y (v := .agg (bv ((l)[j]))) rfl (y_loadB T35 rfl (SlG.rd (SlG.old hs (fun _ h => h)) j (by first | omega | (simp; done) | (simp; omega)))) ?_
      refine q_y (v := .agg (bv (xorB (foldB (l.take (j))) ((l)[j])))) rfl (y_call (vs := [.agg (bv (foldB (l.take (j)))), .agg (bv ((l)[j]))]) b23 rfl (fun w hw => f23_rxor _ _ w)) ?_
      refine q_nil ?_
      refine o_storeB (H' := [(g2, .cells (bv (xorB (foldB (l.take (j))) ((l)[j]))) 35 (0, 0)), (g1, .cells (bv (zB)) 35 (0, 0))]) T35 0 h1_3 rfl rfl rfl ?_
      refine o_nil ?_
      refine hK7 _ _ ?_
      refine c_region ?_
      refine o_y (v := .int .i64 (((j : Nat) : Int))) rfl rfl (y_move h1_4) ?_
      refine o_y (v := .int .i64 ((((j : Nat) : Int)) + 1)) rfl rfl (y_add rfl rfl (wi_i64 (by omega) (by omega))) ?_
      refine o_y (v := .int .i64 ((((j : Nat) : Int)) + 1)) rfl rfl (y_assign rfl) ?_
      refine o_nil ?_
      refine ⟨_, by omega, j + 1, rfl, by omega, h1_0, h1_2, h1_3, (ie (a := (((j : Nat) : Int)) + 1) (b := ((j + 1 : Nat) : Int)) (by omega)), ?_⟩
      rw [foldB_succ _ _ (by omega)]; first | done | rfl
    ·
      replace hc1 := of_decide_eq_false hc1
      -- way LF
      refine c_exit ?_
      refine hK3 _ _ ?_
      refine c_seq fun K8 hK8 => ?_
      refine c_region ?_
      refine o_y (v := .agg (bv (foldB (l.take (j))))) rfl rfl (y_loadB T35 h1_3 (Rd.whole (k := 0) rfl)) ?_
      refine o_storeB (H' := [(g2, .cells (bv (foldB (l.take (j)))) 35 (0, 0)), (g1, .cells (bv (foldB (l.take (j)))) 35 (0, 0))]) T35 1 h1_2 rfl rfl rfl ?_
      refine o_nil ?_
      refine hK8 _ _ ?_
      refine c_ret ?_
      refine fun w hw => ⟨[.agg (bv (foldB (l.take (j))))], ⟨⟨_, h1_2, loadB T35 ((Rd.whole (k := 1) rfl) w hw)⟩, trivial⟩, ?_⟩
      obtain rfl : j = l.length := by omega
      rw [List.take_length]
      first | done | rfl

end Go.Proofs.Ytdekckpoolkgnaa.Plan
