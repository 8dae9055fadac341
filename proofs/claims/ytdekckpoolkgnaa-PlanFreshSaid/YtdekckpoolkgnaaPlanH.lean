/- Proved: what the trial plans come to; the conditions stand in the statements. -/
import Derived.Test.YtdekckpoolkgnaaPlanG
set_option linter.unusedVariables false
set_option linter.unusedSimpArgs false
namespace Go.Proofs.Ytdekckpoolkgnaa.Plan
open Go Go.RowKit Go.Proofs.Ytdekckpoolkgnaa.Eng

set_option maxRecDepth 100000 in
set_option maxHeartbeats 4000000 in
theorem f11_lives  (w : World)  :
    Calls Try.prog 11 [].toArray w fun e w' => e = .returned (.bool (true)) ∧ Below w.heap.size w w' := by
  refine (calls_of (P := Try.prog) (n := 86) (w0 := w) (S := fun _ => False) (H := []) (T := fun v _ => v = (.bool (true))) Try.func11 rfl Try.ntmps11 (Nat.le_of_ble_eq_true rfl) [.tmp 0] rfl (St.nil w _) ?_).mono fun e w' ⟨v, H', he, hs, hT⟩ => ⟨by rw [he, hT], hs.below⟩
  refine c_seq fun K1 hK1 => ?_
  refine c_region ?_
  refine o_y (v := .bool (false)) rfl rfl (y_assign rfl) ?_
  refine o_nil ?_
  refine hK1 _ _ ?_
  refine c_seq fun K2 hK2 => ?_
  refine c_region ?_
  refine o_make SL22 (false) 4 rfl zr22 rfl rfl (by first | (simp [maxLen]; done) | (simp [maxLen]; omega)) (by omega) fun g1 cg1 hrg1 => ?_
  refine o_y (v := .slice (some ⟨g1, 0, none⟩) (4) (4)) rfl rfl (y_assign rfl) ?_
  refine o_nil ?_
  refine hK2 _ _ ?_
  refine c_seq fun K3 hK3 => ?_
  refine c_region ?_
  refine o_buildSlice SL22 ([(true), (false), (false)] : List Bool) (fun x => .bool x) (fun _ => rfl) rfl rfl (by rw [Array.toList_map]; rfl) (by simp) (by simp [eBool]) fun g2 => ?_
  have hrg2 := Row.lit (E := eBool) ([(true), (false), (false)]) (by simp [maxLen])
  refine o_y (v := .slice (some ⟨g1, 0, none⟩) (4) (4)) rfl rfl (y_move rfl) ?_
  refine o_y (v := .slice (some ⟨g1, 0, none⟩) (3) (4)) rfl rfl (y_partL (sz := 1) 3 rfl Try.underlying22 s4 ⟨_, rfl⟩ (by first | omega | (simp; done) | (simp; omega))) ?_
  refine o_callV (fun Hy => [(g2, .cells ((([(true), (false), (false)]).flatMap eBool.enc).toArray) 4 (0, 0)), (g1, .cells (cg1) 4 (0, 0))] ++ (Hy)) (fun Hy => by have h := List.perm_append_comm (l₁ := ([(g2, .cells ((([(true), (false), (false)]).flatMap eBool.enc).toArray) 4 (0, 0)), (g1, .cells (cg1) 4 (0, 0))] : Hp)) (l₂ := Hy); simpa [Value.cells] using h) (vs := [.slice (some ⟨g2, 0, none⟩) (3) (3), .slice (some ⟨g1, 0, none⟩) (3) (4), .bool (false), .int .i64 (-1)]) b8 rfl rfl (fun w hw => f8_Of ([(true), (false), (false)]) ((List.replicate 4 (false)).take 3) _ _ _ _ _ _ _ _ _ _ (false) (-1) w (by omega) (by omega) (by first | rfl | (simp; done) | (simp; omega)) ((SlG.row (k := 0) rfl hrg2) w hw) (by first | rfl | (simp; done) | (simp; omega)) ((SlG.first (SlG.row (k := 1) rfl hrg1) 3) w hw)) ?_
  rintro _ Hp3 ⟨ap3, gp3, capp3, rfl, hvp3⟩
  have hzp3 := hvp3.le
  have hyp3 := hvp3.mx
  simp only [maxLen] at hyp3
  refine o_y (v := .tuple #[.agg (#[.int .u8 (planW ([(true), (false), (false)]) ((List.replicate 4 (false)).take 3) (false) (-1)), .slice (ap3) ((planR ([(true), (false), (false)]) ((List.replicate 4 (false)).take 3) (false) (-1)).length) (capp3)]), .int .i64 (planE ([(true), (false), (false)]) ((List.replicate 4 (false)).take 3) (false) (-1))]) rfl rfl (y_move rfl) ?_
  refine o_y (v := .agg (#[.int .u8 (planW ([(true), (false), (false)]) ((List.replicate 4 (false)).take 3) (false) (-1)), .slice (ap3) ((planR ([(true), (false), (false)]) ((List.replicate 4 (false)).take 3) (false) (-1)).length) (capp3)])) rfl rfl (y_extract (vs := #[.agg (#[.int .u8 (planW ([(true), (false), (false)]) ((List.replicate 4 (false)).take 3) (false) (-1)), .slice (ap3) ((planR ([(true), (false), (false)]) ((List.replicate 4 (false)).take 3) (false) (-1)).length) (capp3)]), .int .i64 (planE ([(true), (false), (false)]) ((List.replicate 4 (false)).take 3) (false) (-1))]) rfl rfl) ?_
  refine o_y (v := .int .i64 (planE ([(true), (false), (false)]) ((List.replicate 4 (false)).take 3) (false) (-1))) rfl rfl (y_extract (vs := #[.agg (#[.int .u8 (planW ([(true), (false), (false)]) ((List.replicate 4 (false)).take 3) (false) (-1)), .slice (ap3) ((planR ([(true), (false), (false)]) ((List.replicate 4 (false)).take 3) (false) (-1)).length) (capp3)]), .int .i64 (planE ([(true), (false), (false)]) ((List.replicate 4 (false)).take 3) (false) (-1))]) rfl rfl) ?_
  refine o_alloc (z := .agg (#[.int .u8 (0), .slice none 0 0])) rfl z25 fun g4 => ?_
  refine o_storeS (H' := [(g4, .cells (#[.int .u8 (planW ([(true), (false), (false)]) ((List.replicate 4 (false)).take 3) (false) (-1)), .slice (ap3) ((planR ([(true), (false), (false)]) ((List.replicate 4 (false)).take 3) (false) (-1)).length) (capp3)]) 25 (0, 0)), (g2, .cells ((([(true), (false), (false)]).flatMap eBool.enc).toArray) 4 (0, 0)), (g1, .cells (cg1) 4 (0, 0))] ++ (Hp3)) 0 rfl rfl rfl s25 rfl (by simp [Value.oneCell']) rfl ?_
  refine o_y (v := .int .i64 (planE ([(true), (false), (false)]) ((List.replicate 4 (false)).take 3) (false) (-1))) rfl rfl (y_assign rfl) ?_
  refine o_nil ?_
  refine hK3 _ _ ?_
  refine c_seq fun K4 hK4 => ?_
  refine c_region ?_
  refine o_buildSlice SL22 ([(true), (false), (false), (false)] : List Bool) (fun x => .bool x) (fun _ => rfl) rfl rfl (by rw [Array.toList_map]; rfl) (by simp) (by simp [eBool]) fun g5 => ?_
  have hrg5 := Row.lit (E := eBool) ([(true), (false), (false), (false)]) (by simp [maxLen])
  refine o_y (v := .slice (some ⟨g1, 0, none⟩) (4) (4)) rfl rfl (y_move rfl) ?_
  refine o_callV (fun Hy => [(g5, .cells ((([(true), (false), (false), (false)]).flatMap eBool.enc).toArray) 4 (0, 0)), (g4, .cells (#[.int .u8 (planW ([(true), (false), (false)]) ((List.replicate 4 (false)).take 3) (false) (-1)), .slice (ap3) ((planR ([(true), (false), (false)]) ((List.replicate 4 (false)).take 3) (false) (-1)).length) (capp3)]) 25 (0, 0)), (g2, .cells ((([(true), (false), (false)]).flatMap eBool.enc).toArray) 4 (0, 0)), (g1, .cells (cg1) 4 (0, 0))] ++ (Hp3 ++ Hy)) (fun Hy => by have h := List.perm_append_comm (l₁ := ([(g5, .cells ((([(true), (false), (false), (false)]).flatMap eBool.enc).toArray) 4 (0, 0)), (g4, .cells (#[.int .u8 (planW ([(true), (false), (false)]) ((List.replicate 4 (false)).take 3) (false) (-1)), .slice (ap3) ((planR ([(true), (false), (false)]) ((List.replicate 4 (false)).take 3) (false) (-1)).length) (capp3)]) 25 (0, 0)), (g2, .cells ((([(true), (false), (false)]).flatMap eBool.enc).toArray) 4 (0, 0)), (g1, .cells (cg1) 4 (0, 0))] ++ (Hp3) : Hp)) (l₂ := Hy); simpa [Value.cells] using h) (vs := [.slice (some ⟨g5, 0, none⟩) (4) (4), .slice (some ⟨g1, 0, none⟩) (4) (4), .bool (false), .int .i64 (-1)]) b8 rfl rfl (fun w hw => f8_Of ([(true), (false), (false), (false)]) (List.replicate 4 (false)) _ _ _ _ _ _ _ _ _ _ (false) (-1) w (by omega) (by omega) (by first | rfl | (simp; done) | (simp; omega)) ((SlG.row (k := 0) rfl hrg5) w hw) (by first | rfl | (simp; done) | (simp; omega)) ((SlG.row (k := 3) rfl hrg1) w hw)) ?_
  rintro _ Hp6 ⟨ap6, gp6, capp6, rfl, hvp6⟩
  have hzp6 := hvp6.le
  have hyp6 := hvp6.mx
  simp only [maxLen] at hyp6
  refine o_y (v := .tuple #[.agg (#[.int .u8 (planW ([(true), (false), (false), (false)]) (List.replicate 4 (false)) (false) (-1)), .slice (ap6) ((planR ([(true), (false), (false), (false)]) (List.replicate 4 (false)) (false) (-1)).length) (capp6)]), .int .i64 (planE ([(true), (false), (false), (false)]) (List.replicate 4 (false)) (false) (-1))]) rfl rfl (y_move rfl) ?_
  refine o_y (v := .agg (#[.int .u8 (planW ([(true), (false), (false), (false)]) (List.replicate 4 (false)) (false) (-1)), .slice (ap6) ((planR ([(true), (false), (false), (false)]) (List.replicate 4 (false)) (false) (-1)).length) (capp6)])) rfl rfl (y_extract (vs := #[.agg (#[.int .u8 (planW ([(true), (false), (false), (false)]) (List.replicate 4 (false)) (false) (-1)), .slice (ap6) ((planR ([(true), (false), (false), (false)]) (List.replicate 4 (false)) (false) (-1)).length) (capp6)]), .int .i64 (planE ([(true), (false), (false), (false)]) (List.replicate 4 (false)) (false) (-1))]) rfl rfl) ?_
  refine o_y (v := .int .i64 (planE ([(true), (false), (false), (false)]) (List.replicate 4 (false)) (false) (-1))) rfl rfl (y_extract (vs := #[.agg (#[.int .u8 (planW ([(true), (false), (false), (false)]) (List.replicate 4 (false)) (false) (-1)), .slice (ap6) ((planR ([(true), (false), (false), (false)]) (List.replicate 4 (false)) (false) (-1)).length) (capp6)]), .int .i64 (planE ([(true), (false), (false), (false)]) (List.replicate 4 (false)) (false) (-1))]) rfl rfl) ?_
  refine o_alloc (z := .agg (#[.int .u8 (0), .slice none 0 0])) rfl z25 fun g7 => ?_
  refine o_storeS (H' := [(g7, .cells (#[.int .u8 (planW ([(true), (false), (false), (false)]) (List.replicate 4 (false)) (false) (-1)), .slice (ap6) ((planR ([(true), (false), (false), (false)]) (List.replicate 4 (false)) (false) (-1)).length) (capp6)]) 25 (0, 0)), (g5, .cells ((([(true), (false), (false), (false)]).flatMap eBool.enc).toArray) 4 (0, 0)), (g4, .cells (#[.int .u8 (planW ([(true), (false), (false)]) ((List.replicate 4 (false)).take 3) (false) (-1)), .slice (ap3) ((planR ([(true), (false), (false)]) ((List.replicate 4 (false)).take 3) (false) (-1)).length) (capp3)]) 25 (0, 0)), (g2, .cells ((([(true), (false), (false)]).flatMap eBool.enc).toArray) 4 (0, 0)), (g1, .cells (cg1) 4 (0, 0))] ++ (Hp3 ++ Hp6)) 0 rfl rfl rfl s25 rfl (by simp [Value.oneCell']) rfl ?_
  refine o_y (v := .int .i64 (planE ([(true), (false), (false), (false)]) (List.replicate 4 (false)) (false) (-1))) rfl rfl (y_assign rfl) ?_
  refine o_nil ?_
  refine hK4 _ _ ?_
  refine c_seq fun K5 hK5 => ?_
  refine c_region ?_
  refine o_buildSlice SL22 ([(true), (true)] : List Bool) (fun x => .bool x) (fun _ => rfl) rfl rfl (by rw [Array.toList_map]; rfl) (by simp) (by simp [eBool]) fun g8 => ?_
  have hrg8 := Row.lit (E := eBool) ([(true), (true)]) (by simp [maxLen])
  refine o_y (v := .slice (some ⟨g1, 0, none⟩) (4) (4)) rfl rfl (y_move rfl) ?_
  refine o_y (v := .slice (some ⟨g1, 0, none⟩) (2) (4)) rfl rfl (y_partL (sz := 1) 2 rfl Try.underlying22 s4 ⟨_, rfl⟩ (by first | omega | (simp; done) | (simp; omega))) ?_
  refine o_callV (fun Hy => [(g8, .cells ((([(true), (true)]).flatMap eBool.enc).toArray) 4 (0, 0)), (g7, .cells (#[.int .u8 (planW ([(true), (false), (false), (false)]) (List.replicate 4 (false)) (false) (-1)), .slice (ap6) ((planR ([(true), (false), (false), (false)]) (List.replicate 4 (false)) (false) (-1)).length) (capp6)]) 25 (0, 0)), (g5, .cells ((([(true), (false), (false), (false)]).flatMap eBool.enc).toArray) 4 (0, 0)), (g4, .cells (#[.int .u8 (planW ([(true), (false), (false)]) ((List.replicate 4 (false)).take 3) (false) (-1)), .slice (ap3) ((planR ([(true), (false), (false)]) ((List.replicate 4 (false)).take 3) (false) (-1)).length) (capp3)]) 25 (0, 0)), (g2, .cells ((([(true), (false), (false)]).flatMap eBool.enc).toArray) 4 (0, 0)), (g1, .cells (cg1) 4 (0, 0))] ++ (Hp3 ++ (Hp6 ++ Hy))) (fun Hy => by have h := List.perm_append_comm (l₁ := ([(g8, .cells ((([(true), (true)]).flatMap eBool.enc).toArray) 4 (0, 0)), (g7, .cells (#[.int .u8 (planW ([(true), (false), (false), (false)]) (List.replicate 4 (false)) (false) (-1)), .slice (ap6) ((planR ([(true), (false), (false), (false)]) (List.replicate 4 (false)) (false) (-1)).length) (capp6)]) 25 (0, 0)), (g5, .cells ((([(true), (false), (false), (false)]).flatMap eBool.enc).toArray) 4 (0, 0)), (g4, .cells (#[.int .u8 (planW ([(true), (false), (false)]) ((List.replicate 4 (false)).take 3) (false) (-1)), .slice (ap3) ((planR ([(true), (false), (false)]) ((List.replicate 4 (false)).take 3) (false) (-1)).length) (capp3)]) 25 (0, 0)), (g2, .cells ((([(true), (false), (false)]).flatMap eBool.enc).toArray) 4 (0, 0)), (g1, .cells (cg1) 4 (0, 0))] ++ (Hp3 ++ Hp6) : Hp)) (l₂ := Hy); simpa [Value.cells] using h) (vs := [.slice (some ⟨g8, 0, none⟩) (2) (2), .slice (some ⟨g1, 0, none⟩) (2) (4), .bool (false), .int .i64 (-1)]) b8 rfl rfl (fun w hw => f8_Of ([(true), (true)]) ((List.replicate 4 (false)).take 2) _ _ _ _ _ _ _ _ _ _ (false) (-1) w (by omega) (by omega) (by first | rfl | (simp; done) | (simp; omega)) ((SlG.row (k := 0) rfl hrg8) w hw) (by first | rfl | (simp; done) | (simp; omega)) ((SlG.first (SlG.row (k := 5) rfl hrg1) 2) w hw)) ?_
  rintro _ Hp9 ⟨ap9, gp9, capp9, rfl, hvp9⟩
  have hzp9 := hvp9.le
  have hyp9 := hvp9.mx
  simp only [maxLen] at hyp9
  refine o_y (v := .tuple #[.agg (#[.int .u8 (planW ([(true), (true)]) ((List.replicate 4 (false)).take 2) (false) (-1)), .slice (ap9) ((planR ([(true), (true)]) ((List.replicate 4 (false)).take 2) (false) (-1)).length) (capp9)]), .int .i64 (planE ([(true), (true)]) ((List.replicate 4 (false)).take 2) (false) (-1))]) rfl rfl (y_move rfl) ?_
  refine o_y (v := .agg (#[.int .u8 (planW ([(true), (true)]) ((List.replicate 4 (false)).take 2) (false) (-1)), .slice (ap9) ((planR ([(true), (true)]) ((List.replicate 4 (false)).take 2) (false) (-1)).length) (capp9)])) rfl rfl (y_extract (vs := #[.agg (#[.int .u8 (planW ([(true), (true)]) ((List.replicate 4 (false)).take 2) (false) (-1)), .slice (ap9) ((planR ([(true), (true)]) ((List.replicate 4 (false)).take 2) (false) (-1)).length) (capp9)]), .int .i64 (planE ([(true), (true)]) ((List.replicate 4 (false)).take 2) (false) (-1))]) rfl rfl) ?_
  refine o_y (v := .int .i64 (planE ([(true), (true)]) ((List.replicate 4 (false)).take 2) (false) (-1))) rfl rfl (y_extract (vs := #[.agg (#[.int .u8 (planW ([(true), (true)]) ((List.replicate 4 (false)).take 2) (false) (-1)), .slice (ap9) ((planR ([(true), (true)]) ((List.replicate 4 (false)).take 2) (false) (-1)).length) (capp9)]), .int .i64 (planE ([(true), (true)]) ((List.replicate 4 (false)).take 2) (false) (-1))]) rfl rfl) ?_
  refine o_alloc (z := .agg (#[.int .u8 (0), .slice none 0 0])) rfl z25 fun g10 => ?_
  refine o_storeS (H' := [(g10, .cells (#[.int .u8 (planW ([(true), (true)]) ((List.replicate 4 (false)).take 2) (false) (-1)), .slice (ap9) ((planR ([(true), (true)]) ((List.replicate 4 (false)).take 2) (false) (-1)).length) (capp9)]) 25 (0, 0)), (g8, .cells ((([(true), (true)]).flatMap eBool.enc).toArray) 4 (0, 0)), (g7, .cells (#[.int .u8 (planW ([(true), (false), (false), (false)]) (List.replicate 4 (false)) (false) (-1)), .slice (ap6) ((planR ([(true), (false), (false), (false)]) (List.replicate 4 (false)) (false) (-1)).length) (capp6)]) 25 (0, 0)), (g5, .cells ((([(true), (false), (false), (false)]).flatMap eBool.enc).toArray) 4 (0, 0)), (g4, .cells (#[.int .u8 (planW ([(true), (false), (false)]) ((List.replicate 4 (false)).take 3) (false) (-1)), .slice (ap3) ((planR ([(true), (false), (false)]) ((List.replicate 4 (false)).take 3) (false) (-1)).length) (capp3)]) 25 (0, 0)), (g2, .cells ((([(true), (false), (false)]).flatMap eBool.enc).toArray) 4 (0, 0)), (g1, .cells (cg1) 4 (0, 0))] ++ (Hp3 ++ (Hp6 ++ Hp9))) 0 rfl rfl rfl s25 rfl (by simp [Value.oneCell']) rfl ?_
  refine o_y (v := .int .i64 (planE ([(true), (true)]) ((List.replicate 4 (false)).take 2) (false) (-1))) rfl rfl (y_assign rfl) ?_
  refine o_nil ?_
  refine hK5 _ _ ?_
  refine c_seq fun K6 hK6 => ?_
  refine c_region ?_
  refine o_buildSlice SL22 ([(true), (false)] : List Bool) (fun x => .bool x) (fun _ => rfl) rfl rfl (by rw [Array.toList_map]; rfl) (by simp) (by simp [eBool]) fun g11 => ?_
  have hrg11 := Row.lit (E := eBool) ([(true), (false)]) (by simp [maxLen])
  refine o_y (v := .slice (some ⟨g1, 0, none⟩) (4) (4)) rfl rfl (y_move rfl) ?_
  refine o_y (v := .slice (some ⟨g1, 0, none⟩) (2) (4)) rfl rfl (y_partL (sz := 1) 2 rfl Try.underlying22 s4 ⟨_, rfl⟩ (by first | omega | (simp; done) | (simp; omega))) ?_
  refine o_callV (fun Hy => [(g11, .cells ((([(true), (false)]).flatMap eBool.enc).toArray) 4 (0, 0)), (g10, .cells (#[.int .u8 (planW ([(true), (true)]) ((List.replicate 4 (false)).take 2) (false) (-1)), .slice (ap9) ((planR ([(true), (true)]) ((List.replicate 4 (false)).take 2) (false) (-1)).length) (capp9)]) 25 (0, 0)), (g8, .cells ((([(true), (true)]).flatMap eBool.enc).toArray) 4 (0, 0)), (g7, .cells (#[.int .u8 (planW ([(true), (false), (false), (false)]) (List.replicate 4 (false)) (false) (-1)), .slice (ap6) ((planR ([(true), (false), (false), (false)]) (List.replicate 4 (false)) (false) (-1)).length) (capp6)]) 25 (0, 0)), (g5, .cells ((([(true), (false), (false), (false)]).flatMap eBool.enc).toArray) 4 (0, 0)), (g4, .cells (#[.int .u8 (planW ([(true), (false), (false)]) ((List.replicate 4 (false)).take 3) (false) (-1)), .slice (ap3) ((planR ([(true), (false), (false)]) ((List.replicate 4 (false)).take 3) (false) (-1)).length) (capp3)]) 25 (0, 0)), (g2, .cells ((([(true), (false), (false)]).flatMap eBool.enc).toArray) 4 (0, 0)), (g1, .cells (cg1) 4 (0, 0))] ++ (Hp3 ++ (Hp6 ++ (Hp9 ++ Hy)))) (fun Hy => by have h := List.perm_append_comm (l₁ := ([(g11, .cells ((([(true), (false)]).flatMap eBool.enc).toArray) 4 (0, 0)), (g10, .cells (#[.int .u8 (planW ([(true), (true)]) ((List.replicate 4 (false)).take 2) (false) (-1)), .slice (ap9) ((planR ([(true), (true)]) ((List.replicate 4 (false)).take 2) (false) (-1)).length) (capp9)]) 25 (0, 0)), (g8, .cells ((([(true), (true)]).flatMap eBool.enc).toArray) 4 (0, 0)), (g7, .cells (#[.int .u8 (planW ([(true), (false), (false), (false)]) (List.replicate 4 (false)) (false) (-1)), .slice (ap6) ((planR ([(true), (false), (false), (false)]) (List.replicate 4 (false)) (false) (-1)).length) (capp6)]) 25 (0, 0)), (g5, .cells ((([(true), (false), (false), (false)]).flatMap eBool.enc).toArray) 4 (0, 0)), (g4, .cells (#[.int .u8 (planW ([(true), (false), (false)]) ((List.replicate 4 (false)).take 3) (false) (-1)), .slice (ap3) ((planR ([(true), (false), (false)]) ((List.replicate 4 (false)).take 3) (false) (-1)).length) (capp3)]) 25 (0, 0)), (g2, .cells ((([(true), (false), (false)]).flatMap eBool.enc).toArray) 4 (0, 0)), (g1, .cells (cg1) 4 (0, 0))] ++ (Hp3 ++ (Hp6 ++ Hp9)) : Hp)) (l₂ := Hy); simpa [Value.cells] using h) (vs := [.slice (some ⟨g11, 0, none⟩) (2) (2), .slice (some ⟨g1, 0, none⟩) (2) (4), .bool (false), .int .i64 (2)]) b8 rfl rfl (fun w hw => f8_Of ([(true), (false)]) ((List.replicate 4 (false)).take 2) _ _ _ _ _ _ _ _ _ _ (false) (2) w (by omega) (by omega) (by first | rfl | (simp; done) | (simp; omega)) ((SlG.row (k := 0) rfl hrg11) w hw) (by first | rfl | (simp; done) | (simp; omega)) ((SlG.first (SlG.row (k := 7) rfl hrg1) 2) w hw)) ?_
  rintro _ Hp12 ⟨ap12, gp12, capp12, rfl, hvp12⟩
  have hzp12 := hvp12.le
  have hyp12 := hvp12.mx
  simp only [maxLen] at hyp12
  refine o_y (v := .tuple #[.agg (#[.int .u8 (planW ([(true), (false)]) ((List.replicate 4 (false)).take 2) (false) (2)), .slice (ap12) ((planR ([(true), (false)]) ((List.replicate 4 (false)).take 2) (false) (2)).length) (capp12)]), .int .i64 (planE ([(true), (false)]) ((List.replicate 4 (false)).take 2) (false) (2))]) rfl rfl (y_move rfl) ?_
  refine o_y (v := .agg (#[.int .u8 (planW ([(true), (false)]) ((List.replicate 4 (false)).take 2) (false) (2)), .slice (ap12) ((planR ([(true), (false)]) ((List.replicate 4 (false)).take 2) (false) (2)).length) (capp12)])) rfl rfl (y_extract (vs := #[.agg (#[.int .u8 (planW ([(true), (false)]) ((List.replicate 4 (false)).take 2) (false) (2)), .slice (ap12) ((planR ([(true), (false)]) ((List.replicate 4 (false)).take 2) (false) (2)).length) (capp12)]), .int .i64 (planE ([(true), (false)]) ((List.replicate 4 (false)).take 2) (false) (2))]) rfl rfl) ?_
  refine o_y (v := .int .i64 (planE ([(true), (false)]) ((List.replicate 4 (false)).take 2) (false) (2))) rfl rfl (y_extract (vs := #[.agg (#[.int .u8 (planW ([(true), (false)]) ((List.replicate 4 (false)).take 2) (false) (2)), .slice (ap12) ((planR ([(true), (false)]) ((List.replicate 4 (false)).take 2) (false) (2)).length) (capp12)]), .int .i64 (planE ([(true), (false)]) ((List.replicate 4 (false)).take 2) (false) (2))]) rfl rfl) ?_
  refine o_alloc (z := .agg (#[.int .u8 (0), .slice none 0 0])) rfl z25 fun g13 => ?_
  refine o_storeS (H' := [(g13, .cells (#[.int .u8 (planW ([(true), (false)]) ((List.replicate 4 (false)).take 2) (false) (2)), .slice (ap12) ((planR ([(true), (false)]) ((List.replicate 4 (false)).take 2) (false) (2)).length) (capp12)]) 25 (0, 0)), (g11, .cells ((([(true), (false)]).flatMap eBool.enc).toArray) 4 (0, 0)), (g10, .cells (#[.int .u8 (planW ([(true), (true)]) ((List.replicate 4 (false)).take 2) (false) (-1)), .slice (ap9) ((planR ([(true), (true)]) ((List.replicate 4 (false)).take 2) (false) (-1)).length) (capp9)]) 25 (0, 0)), (g8, .cells ((([(true), (true)]).flatMap eBool.enc).toArray) 4 (0, 0)), (g7, .cells (#[.int .u8 (planW ([(true), (false), (false), (false)]) (List.replicate 4 (false)) (false) (-1)), .slice (ap6) ((planR ([(true), (false), (false), (false)]) (List.replicate 4 (false)) (false) (-1)).length) (capp6)]) 25 (0, 0)), (g5, .cells ((([(true), (false), (false), (false)]).flatMap eBool.enc).toArray) 4 (0, 0)), (g4, .cells (#[.int .u8 (planW ([(true), (false), (false)]) ((List.replicate 4 (false)).take 3) (false) (-1)), .slice (ap3) ((planR ([(true), (false), (false)]) ((List.replicate 4 (false)).take 3) (false) (-1)).length) (capp3)]) 25 (0, 0)), (g2, .cells ((([(true), (false), (false)]).flatMap eBool.enc).toArray) 4 (0, 0)), (g1, .cells (cg1) 4 (0, 0))] ++ (Hp3 ++ (Hp6 ++ (Hp9 ++ Hp12)))) 0 rfl rfl rfl s25 rfl (by simp [Value.oneCell']) rfl ?_
  refine o_y (v := .int .i64 (planE ([(true), (false)]) ((List.replicate 4 (false)).take 2) (false) (2))) rfl rfl (y_assign rfl) ?_
  refine o_nil ?_
  refine hK6 _ _ ?_
  refine c_seq fun K7 hK7 => ?_
  refine c_region ?_
  refine o_y (v := .slice (some ⟨g1, 0, none⟩) (4) (4)) rfl rfl (y_move rfl) ?_
  refine o_y (v := .slice (some ⟨g1, 0, none⟩) (4) (4)) rfl rfl (y_move rfl) ?_
  refine o_callV (fun Hy => [(g13, .cells (#[.int .u8 (planW ([(true), (false)]) ((List.replicate 4 (false)).take 2) (false) (2)), .slice (ap12) ((planR ([(true), (false)]) ((List.replicate 4 (false)).take 2) (false) (2)).length) (capp12)]) 25 (0, 0)), (g11, .cells ((([(true), (false)]).flatMap eBool.enc).toArray) 4 (0, 0)), (g10, .cells (#[.int .u8 (planW ([(true), (true)]) ((List.replicate 4 (false)).take 2) (false) (-1)), .slice (ap9) ((planR ([(true), (true)]) ((List.replicate 4 (false)).take 2) (false) (-1)).length) (capp9)]) 25 (0, 0)), (g8, .cells ((([(true), (true)]).flatMap eBool.enc).toArray) 4 (0, 0)), (g7, .cells (#[.int .u8 (planW ([(true), (false), (false), (false)]) (List.replicate 4 (false)) (false) (-1)), .slice (ap6) ((planR ([(true), (false), (false), (false)]) (List.replicate 4 (false)) (false) (-1)).length) (capp6)]) 25 (0, 0)), (g5, .cells ((([(true), (false), (false), (false)]).flatMap eBool.enc).toArray) 4 (0, 0)), (g4, .cells (#[.int .u8 (planW ([(true), (false), (false)]) ((List.replicate 4 (false)).take 3) (false) (-1)), .slice (ap3) ((planR ([(true), (false), (false)]) ((List.replicate 4 (false)).take 3) (false) (-1)).length) (capp3)]) 25 (0, 0)), (g2, .cells ((([(true), (false), (false)]).flatMap eBool.enc).toArray) 4 (0, 0)), (g1, .cells (cg1) 4 (0, 0))] ++ (Hp3 ++ (Hp6 ++ (Hp9 ++ (Hp12 ++ Hy))))) (fun Hy => by have h := List.perm_append_comm (l₁ := ([(g13, .cells (#[.int .u8 (planW ([(true), (false)]) ((List.replicate 4 (false)).take 2) (false) (2)), .slice (ap12) ((planR ([(true), (false)]) ((List.replicate 4 (false)).take 2) (false) (2)).length) (capp12)]) 25 (0, 0)), (g11, .cells ((([(true), (false)]).flatMap eBool.enc).toArray) 4 (0, 0)), (g10, .cells (#[.int .u8 (planW ([(true), (true)]) ((List.replicate 4 (false)).take 2) (false) (-1)), .slice (ap9) ((planR ([(true), (true)]) ((List.replicate 4 (false)).take 2) (false) (-1)).length) (capp9)]) 25 (0, 0)), (g8, .cells ((([(true), (true)]).flatMap eBool.enc).toArray) 4 (0, 0)), (g7, .cells (#[.int .u8 (planW ([(true), (false), (false), (false)]) (List.replicate 4 (false)) (false) (-1)), .slice (ap6) ((planR ([(true), (false), (false), (false)]) (List.replicate 4 (false)) (false) (-1)).length) (capp6)]) 25 (0, 0)), (g5, .cells ((([(true), (false), (false), (false)]).flatMap eBool.enc).toArray) 4 (0, 0)), (g4, .cells (#[.int .u8 (planW ([(true), (false), (false)]) ((List.replicate 4 (false)).take 3) (false) (-1)), .slice (ap3) ((planR ([(true), (false), (false)]) ((List.replicate 4 (false)).take 3) (false) (-1)).length) (capp3)]) 25 (0, 0)), (g2, .cells ((([(true), (false), (false)]).flatMap eBool.enc).toArray) 4 (0, 0)), (g1, .cells (cg1) 4 (0, 0))] ++ (Hp3 ++ (Hp6 ++ (Hp9 ++ Hp12))) : Hp)) (l₂ := Hy); simpa [Value.cells] using h) (vs := [.slice (some ⟨g1, 0, none⟩) (4) (4), .slice (some ⟨g1, 0, none⟩) (4) (4), .bool (false), .int .i64 (-1)]) b8 rfl rfl (fun w hw => f8_Of (List.replicate 4 (false)) (List.replicate 4 (false)) _ _ _ _ _ _ _ _ _ _ (false) (-1) w (by omega) (by omega) (by first | rfl | (simp; done) | (simp; omega)) ((SlG.row (k := 8) rfl hrg1) w hw) (by first | rfl | (simp; done) | (simp; omega)) ((SlG.row (k := 8) rfl hrg1) w hw)) ?_
  rintro _ Hp14 ⟨ap14, gp14, capp14, rfl, hvp14⟩
  have hzp14 := hvp14.le
  have hyp14 := hvp14.mx
  simp only [maxLen] at hyp14
  refine o_y (v := .tuple #[.agg (#[.int .u8 (planW (List.replicate 4 (false)) (List.replicate 4 (false)) (false) (-1)), .slice (ap14) ((planR (List.replicate 4 (false)) (List.replicate 4 (false)) (false) (-1)).length) (capp14)]), .int .i64 (planE (List.replicate 4 (false)) (List.replicate 4 (false)) (false) (-1))]) rfl rfl (y_move rfl) ?_
  refine o_y (v := .agg (#[.int .u8 (planW (List.replicate 4 (false)) (List.replicate 4 (false)) (false) (-1)), .slice (ap14) ((planR (List.replicate 4 (false)) (List.replicate 4 (false)) (false) (-1)).length) (capp14)])) rfl rfl (y_extract (vs := #[.agg (#[.int .u8 (planW (List.replicate 4 (false)) (List.replicate 4 (false)) (false) (-1)), .slice (ap14) ((planR (List.replicate 4 (false)) (List.replicate 4 (false)) (false) (-1)).length) (capp14)]), .int .i64 (planE (List.replicate 4 (false)) (List.replicate 4 (false)) (false) (-1))]) rfl rfl) ?_
  refine o_y (v := .int .i64 (planE (List.replicate 4 (false)) (List.replicate 4 (false)) (false) (-1))) rfl rfl (y_extract (vs := #[.agg (#[.int .u8 (planW (List.replicate 4 (false)) (List.replicate 4 (false)) (false) (-1)), .slice (ap14) ((planR (List.replicate 4 (false)) (List.replicate 4 (false)) (false) (-1)).length) (capp14)]), .int .i64 (planE (List.replicate 4 (false)) (List.replicate 4 (false)) (false) (-1))]) rfl rfl) ?_
  refine o_alloc (z := .agg (#[.int .u8 (0), .slice none 0 0])) rfl z25 fun g15 => ?_
  refine o_storeS (H' := [(g15, .cells (#[.int .u8 (planW (List.replicate 4 (false)) (List.replicate 4 (false)) (false) (-1)), .slice (ap14) ((planR (List.replicate 4 (false)) (List.replicate 4 (false)) (false) (-1)).length) (capp14)]) 25 (0, 0)), (g13, .cells (#[.int .u8 (planW ([(true), (false)]) ((List.replicate 4 (false)).take 2) (false) (2)), .slice (ap12) ((planR ([(true), (false)]) ((List.replicate 4 (false)).take 2) (false) (2)).length) (capp12)]) 25 (0, 0)), (g11, .cells ((([(true), (false)]).flatMap eBool.enc).toArray) 4 (0, 0)), (g10, .cells (#[.int .u8 (planW ([(true), (true)]) ((List.replicate 4 (false)).take 2) (false) (-1)), .slice (ap9) ((planR ([(true), (true)]) ((List.replicate 4 (false)).take 2) (false) (-1)).length) (capp9)]) 25 (0, 0)), (g8, .cells ((([(true), (true)]).flatMap eBool.enc).toArray) 4 (0, 0)), (g7, .cells (#[.int .u8 (planW ([(true), (false), (false), (false)]) (List.replicate 4 (false)) (false) (-1)), .slice (ap6) ((planR ([(true), (false), (false), (false)]) (List.replicate 4 (false)) (false) (-1)).length) (capp6)]) 25 (0, 0)), (g5, .cells ((([(true), (false), (false), (false)]).flatMap eBool.enc).toArray) 4 (0, 0)), (g4, .cells (#[.int .u8 (planW ([(true), (false), (false)]) ((List.replicate 4 (false)).take 3) (false) (-1)), .slice (ap3) ((planR ([(true), (false), (false)]) ((List.replicate 4 (false)).take 3) (false) (-1)).length) (capp3)]) 25 (0, 0)), (g2, .cells ((([(true), (false), (false)]).flatMap eBool.enc).toArray) 4 (0, 0)), (g1, .cells (cg1) 4 (0, 0))] ++ (Hp3 ++ (Hp6 ++ (Hp9 ++ (Hp12 ++ Hp14))))) 0 rfl rfl rfl s25 rfl (by simp [Value.oneCell']) rfl ?_
  refine o_y (v := .int .i64 (planE (List.replicate 4 (false)) (List.replicate 4 (false)) (false) (-1))) rfl rfl (y_assign rfl) ?_
  refine o_nil ?_
  refine hK7 _ _ ?_
  refine c_seq fun K8 hK8 => ?_
  refine c_region ?_
  refine o_y (v := .int .i64 (planE ([(true), (false), (false)]) ((List.replicate 4 (false)).take 3) (false) (-1))) rfl rfl (y_move rfl) ?_
  refine o_y (v := .bool (true)) rfl rfl (y_bool (y_eql rfl rfl rfl) (by decide +kernel)) ?_
  refine o_y (v := .bool (true)) rfl rfl (y_move rfl) ?_
  refine o_guard (j := 2) (d := 48) (b := true) rfl rfl rfl (fun _ => ?_) rfl (fun h => by cases h)
  refine o_y (v := .agg (#[.int .u8 (planW ([(true), (false), (false)]) ((List.replicate 4 (false)).take 3) (false) (-1)), .slice (ap3) ((planR ([(true), (false), (false)]) ((List.replicate 4 (false)).take 3) (false) (-1)).length) (capp3)])) rfl rfl (y_loadS rfl Try.underlying25 rfl s25 (Rd.whole (k := 7) rfl)) ?_
  refine o_guard (j := 2) (d := 48) (b := true) rfl rfl rfl (fun _ => ?_) rfl (fun h => by cases h)
  refine o_buildSlice SL23 ([(1), (2)] : List Int) (fun x => .int .i64 x) (fun _ => rfl) rfl rfl (by rw [Array.toList_map]; rfl) (by simp) (by simp [eInt]) fun g16 => ?_
  have hrg16 := Row.lit (E := eInt) ([(1), (2)]) (by simp [maxLen])
  refine o_guard (j := 2) (d := 48) (b := true) rfl rfl rfl (fun _ => ?_) rfl (fun h => by cases h)
  refine o_y (v := .agg (#[.int .u8 (3), .slice (some ⟨g16, 0, none⟩) (2) (2)])) rfl rfl (y_build rfl (by first | kernel_rfl | simp [])) ?_
  refine o_guard (j := 2) (d := 48) (b := true) rfl rfl rfl (fun _ => ?_) rfl (fun h => by cases h)
  refine o_y (v := .bool (true)) rfl rfl (y_bool (y_call (vs := [.agg (#[.int .u8 (planW ([(true), (false), (false)]) ((List.replicate 4 (false)).take 3) (false) (-1)), .slice (ap3) ((planR ([(true), (false), (false)]) ((List.replicate 4 (false)).take 3) (false) (-1)).length) (capp3)]), .agg (#[.int .u8 (3), .slice (some ⟨g16, 0, none⟩) (2) (2)])]) b10 rfl (fun w hw => f10_Same (planW ([(true), (false), (false)]) ((List.replicate 4 (false)).take 3) (false) (-1)) (3) (planR ([(true), (false), (false)]) ((List.replicate 4 (false)).take 3) (false) (-1)) ([(1), (2)]) _ _ _ _ _ _ _ _ _ _ w (by first | rfl | (simp; done) | (simp; omega)) ((SlG.own hvp3 (fun p hp => (List.mem_cons_of_mem _ (List.mem_cons_of_mem _ (List.mem_cons_of_mem _ (List.mem_cons_of_mem _ (List.mem_cons_of_mem _ (List.mem_cons_of_mem _ (List.mem_cons_of_mem _ (List.mem_cons_of_mem _ (List.mem_cons_of_mem _ (List.mem_cons_of_mem _ (List.mem_cons_of_mem _ (List.mem_append_left _ hp)))))))))))))) w hw) (by first | rfl | (simp; done) | (simp; omega)) ((SlG.row (k := 0) rfl hrg16) w hw))) (by decide +kernel)) ?_
  refine o_y (v := .bool (true)) rfl rfl (y_pick (b := true) rfl rfl) ?_
  refine o_y (v := .bool (true)) rfl rfl (y_move rfl) ?_
  refine o_guard (j := 8) (d := 54) (b := true) rfl rfl rfl (fun _ => ?_) rfl (fun h => by cases h)
  refine o_y (v := .int .i64 (planE ([(true), (false), (false), (false)]) (List.replicate 4 (false)) (false) (-1))) rfl rfl (y_move rfl) ?_
  refine o_guard (j := 8) (d := 54) (b := true) rfl rfl rfl (fun _ => ?_) rfl (fun h => by cases h)
  refine o_y (v := .bool (true)) rfl rfl (y_bool (y_eql rfl rfl rfl) (by decide +kernel)) ?_
  refine o_y (v := .bool (true)) rfl rfl (y_pick (b := true) rfl rfl) ?_
  refine o_y (v := .bool (true)) rfl rfl (y_move rfl) ?_
  refine o_guard (j := 12) (d := 58) (b := true) rfl rfl rfl (fun _ => ?_) rfl (fun h => by cases h)
  refine o_y (v := .agg (#[.int .u8 (planW ([(true), (false), (false), (false)]) (List.replicate 4 (false)) (false) (-1)), .slice (ap6) ((planR ([(true), (false), (false), (false)]) (List.replicate 4 (false)) (false) (-1)).length) (capp6)])) rfl rfl (y_loadS rfl Try.underlying25 rfl s25 (Rd.whole (k := 6) rfl)) ?_
  refine o_guard (j := 12) (d := 58) (b := true) rfl rfl rfl (fun _ => ?_) rfl (fun h => by cases h)
  refine o_buildSlice SL23 ([(0), (4)] : List Int) (fun x => .int .i64 x) (fun _ => rfl) rfl rfl (by rw [Array.toList_map]; rfl) (by simp) (by simp [eInt]) fun g17 => ?_
  have hrg17 := Row.lit (E := eInt) ([(0), (4)]) (by simp [maxLen])
  refine o_guard (j := 12) (d := 58) (b := true) rfl rfl rfl (fun _ => ?_) rfl (fun h => by cases h)
  refine o_y (v := .agg (#[.int .u8 (4), .slice (some ⟨g17, 0, none⟩) (2) (2)])) rfl rfl (y_build rfl (by first | kernel_rfl | simp [])) ?_
  refine o_guard (j := 12) (d := 58) (b := true) rfl rfl rfl (fun _ => ?_) rfl (fun h => by cases h)
  refine o_y (v := .bool (true)) rfl rfl (y_bool (y_call (vs := [.agg (#[.int .u8 (planW ([(true), (false), (false), (false)]) (List.replicate 4 (false)) (false) (-1)), .slice (ap6) ((planR ([(true), (false), (false), (false)]) (List.replicate 4 (false)) (false) (-1)).length) (capp6)]), .agg (#[.int .u8 (4), .slice (some ⟨g17, 0, none⟩) (2) (2)])]) b10 rfl (fun w hw => f10_Same (planW ([(true), (false), (false), (false)]) (List.replicate 4 (false)) (false) (-1)) (4) (planR ([(true), (false), (false), (false)]) (List.replicate 4 (false)) (false) (-1)) ([(0), (4)]) _ _ _ _ _ _ _ _ _ _ w (by first | rfl | (simp; done) | (simp; omega)) ((SlG.own hvp6 (fun p hp => (List.mem_cons_of_mem _ (List.mem_cons_of_mem _ (List.mem_cons_of_mem _ (List.mem_cons_of_mem _ (List.mem_cons_of_mem _ (List.mem_cons_of_mem _ (List.mem_cons_of_mem _ (List.mem_cons_of_mem _ (List.mem_cons_of_mem _ (List.mem_cons_of_mem _ (List.mem_cons_of_mem _ (List.mem_cons_of_mem _ (List.mem_append_right _ (List.mem_append_left _ hp)))))))))))))))) w hw) (by first | rfl | (simp; done) | (simp; omega)) ((SlG.row (k := 0) rfl hrg17) w hw))) (by decide +kernel)) ?_
  refine o_y (v := .bool (true)) rfl rfl (y_pick (b := true) rfl rfl) ?_
  refine o_y (v := .bool (true)) rfl rfl (y_move rfl) ?_
  refine o_guard (j := 18) (d := 64) (b := true) rfl rfl rfl (fun _ => ?_) rfl (fun h => by cases h)
  refine o_y (v := .int .i64 (planE ([(true), (true)]) ((List.replicate 4 (false)).take 2) (false) (-1))) rfl rfl (y_move rfl) ?_
  refine o_guard (j := 18) (d := 64) (b := true) rfl rfl rfl (fun _ => ?_) rfl (fun h => by cases h)
  refine o_y (v := .bool (true)) rfl rfl (y_bool (y_eql rfl rfl rfl) (by decide +kernel)) ?_
  refine o_y (v := .bool (true)) rfl rfl (y_pick (b := true) rfl rfl) ?_
  refine o_y (v := .bool (true)) rfl rfl (y_move rfl) ?_
  refine o_guard (j := 22) (d := 68) (b := true) rfl rfl rfl (fun _ => ?_) rfl (fun h => by cases h)
  refine o_y (v := .pointer (some ⟨g10, 0, none⟩)) rfl rfl (y_fieldAddr (k := 0) rfl Try.underlying25 rfl rfl ⟨_, s5⟩ (by first | rfl | omega)) ?_
  refine o_guard (j := 22) (d := 68) (b := true) rfl rfl rfl (fun _ => ?_) rfl (fun h => by cases h)
  refine o_y (v := .int .u8 (planW ([(true), (true)]) ((List.replicate 4 (false)).take 2) (false) (-1))) rfl rfl (y_load rfl Try.underlying5 rfl (Rd.one (k := 5) rfl rfl)) ?_
  refine o_guard (j := 22) (d := 68) (b := true) rfl rfl rfl (fun _ => ?_) rfl (fun h => by cases h)
  refine o_y (v := .bool (true)) rfl rfl (y_bool (y_eql rfl rfl rfl) (by decide +kernel)) ?_
  refine o_y (v := .bool (true)) rfl rfl (y_pick (b := true) rfl rfl) ?_
  refine o_y (v := .bool (true)) rfl rfl (y_move rfl) ?_
  refine o_guard (j := 27) (d := 73) (b := true) rfl rfl rfl (fun _ => ?_) rfl (fun h => by cases h)
  refine o_y (v := .int .i64 (planE ([(true), (false)]) ((List.replicate 4 (false)).take 2) (false) (2))) rfl rfl (y_move rfl) ?_
  refine o_guard (j := 27) (d := 73) (b := true) rfl rfl rfl (fun _ => ?_) rfl (fun h => by cases h)
  refine o_y (v := .bool (true)) rfl rfl (y_bool (y_eql rfl rfl rfl) (by decide +kernel)) ?_
  refine o_y (v := .bool (true)) rfl rfl (y_pick (b := true) rfl rfl) ?_
  refine o_y (v := .bool (true)) rfl rfl (y_move rfl) ?_
  refine o_guard (j := 31) (d := 77) (b := true) rfl rfl rfl (fun _ => ?_) rfl (fun h => by cases h)
  refine o_y (v := .pointer (some ⟨g13, 0, none⟩)) rfl rfl (y_fieldAddr (k := 0) rfl Try.underlying25 rfl rfl ⟨_, s5⟩ (by first | rfl | omega)) ?_
  refine o_guard (j := 31) (d := 77) (b := true) rfl rfl rfl (fun _ => ?_) rfl (fun h => by cases h)
  refine o_y (v := .int .u8 (planW ([(true), (false)]) ((List.replicate 4 (false)).take 2) (false) (2))) rfl rfl (y_load rfl Try.underlying5 rfl (Rd.one (k := 3) rfl rfl)) ?_
  refine o_guard (j := 31) (d := 77) (b := true) rfl rfl rfl (fun _ => ?_) rfl (fun h => by cases h)
  refine o_y (v := .bool (true)) rfl rfl (y_bool (y_eql rfl rfl rfl) (by decide +kernel)) ?_
  refine o_y (v := .bool (true)) rfl rfl (y_pick (b := true) rfl rfl) ?_
  refine o_y (v := .bool (true)) rfl rfl (y_move rfl) ?_
  refine o_guard (j := 36) (d := 82) (b := true) rfl rfl rfl (fun _ => ?_) rfl (fun h => by cases h)
  refine o_y (v := .int .i64 (planE (List.replicate 4 (false)) (List.replicate 4 (false)) (false) (-1))) rfl rfl (y_move rfl) ?_
  refine o_guard (j := 36) (d := 82) (b := true) rfl rfl rfl (fun _ => ?_) rfl (fun h => by cases h)
  refine o_y (v := .bool (true)) rfl rfl (y_bool (y_eql rfl rfl rfl) (by decide +kernel)) ?_
  refine o_y (v := .bool (true)) rfl rfl (y_pick (b := true) rfl rfl) ?_
  refine o_y (v := .bool (true)) rfl rfl (y_assign rfl) ?_
  refine o_nil ?_
  refine hK8 _ _ ?_
  refine c_ret ?_
  refine fun w hw => ⟨[.bool (true)], ⟨rfl, trivial⟩, ?_⟩
  exact rfl

end Go.Proofs.Ytdekckpoolkgnaa.Plan
