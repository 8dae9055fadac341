/- Proved: what the laws of package plan come to; the conditions stand in the statements. -/
import Derived.Test.YtdekckpoolkgnaaPlanH
set_option linter.unusedVariables false
set_option linter.unusedSimpArgs false
namespace Go.Proofs.Ytdekckpoolkgnaa.Plan
open Go Go.RowKit Go.Proofs.Ytdekckpoolkgnaa.Eng

set_option maxRecDepth 100000 in
set_option maxHeartbeats 4000000 in
theorem f3_PlanOf (w1 w2 : List Bool) (a1 : Option Addr) (b1 o1 cap1 m1 : Nat) (a2 : Option Addr) (b2 o2 cap2 m2 : Nat) (p : Bool) (lost : Int) (w : World) (hl0 : -9223372036854775808 ≤ lost) (hl1 : lost ≤ 9223372036854775807) (hm1 : m1 = w1.length) (hs1 : Sl eBool w w1 a1 b1 o1 cap1) (hm2 : m2 = w2.length) (hs2 : Sl eBool w w2 a2 b2 o2 cap2) :
    Calls Try.prog 3 [.slice (a1) (m1) (cap1), .slice (a2) (m2) (cap2), .bool (p), .int .i64 (lost)].toArray w fun e w' => e = .returned (.bool (true)) ∧ Below w.heap.size w w' := by
  subst hm1
  subst hm2
  have hle1 := hs1.le
  have hmx1 := hs1.mx
  have hle2 := hs2.le
  have hmx2 := hs2.mx
  simp only [maxLen] at hmx1 hmx2
  refine (calls_of (P := Try.prog) (n := 40) (w0 := w) (S := fun _ => False) (H := []) (T := fun v _ => v = (.bool (true))) Try.func3 rfl Try.ntmps3 (Nat.le_of_ble_eq_true rfl) [.tmp 8] rfl (St.nil w _) ?_).mono fun e w' ⟨v, H', he, hs, hT⟩ => ⟨by rw [he, hT], hs.below⟩
  refine c_seq fun K1 hK1 => ?_
  refine c_region ?_
  refine o_y (v := .bool (false)) rfl rfl (y_assign rfl) ?_
  refine o_nil ?_
  refine hK1 _ _ ?_
  refine c_seq fun K2 hK2 => ?_
  refine c_region ?_
  refine o_y (v := .slice (a1) ((w1).length) (cap1)) rfl rfl (y_move rfl) ?_
  refine o_y (v := .slice (a2) ((w2).length) (cap2)) rfl rfl (y_move rfl) ?_
  refine o_y (v := .bool (p)) rfl rfl (y_move rfl) ?_
  refine o_y (v := .int .i64 (lost)) rfl rfl (y_move rfl) ?_
  refine o_callV (fun Hy => (Hy)) (fun Hy => by have h := List.perm_append_comm (l₁ := ([] : Hp)) (l₂ := Hy); first | exact h | simpa [Value.cells] using h) (vs := [.slice (a1) ((w1).length) (cap1), .slice (a2) ((w2).length) (cap2), .bool (p), .int .i64 (lost)]) b8 rfl rfl (fun w hw => f8_Of (w1) (w2) _ _ _ _ _ _ _ _ _ _ (p) (lost) w (by omega) (by omega) (by first | rfl | (simp; done) | (simp; omega)) ((SlG.old hs1 (fun _ h => h)) w hw) (by first | rfl | (simp; done) | (simp; omega)) ((SlG.old hs2 (fun _ h => h)) w hw)) ?_
  rintro _ Hp1 ⟨ap1, gp1, capp1, rfl, hvp1⟩
  have hzp1 := hvp1.le
  have hyp1 := hvp1.mx
  simp only [maxLen] at hyp1
  refine o_y (v := .tuple #[.agg (#[.int .u8 (planW (w1) (w2) (p) (lost)), .slice (ap1) ((planR (w1) (w2) (p) (lost)).length) (capp1)]), .int .i64 (planE (w1) (w2) (p) (lost))]) rfl rfl (y_move rfl) ?_
  refine o_y (v := .agg (#[.int .u8 (planW (w1) (w2) (p) (lost)), .slice (ap1) ((planR (w1) (w2) (p) (lost)).length) (capp1)])) rfl rfl (y_extract (vs := #[.agg (#[.int .u8 (planW (w1) (w2) (p) (lost)), .slice (ap1) ((planR (w1) (w2) (p) (lost)).length) (capp1)]), .int .i64 (planE (w1) (w2) (p) (lost))]) rfl rfl) ?_
  refine o_y (v := .int .i64 (planE (w1) (w2) (p) (lost))) rfl rfl (y_extract (vs := #[.agg (#[.int .u8 (planW (w1) (w2) (p) (lost)), .slice (ap1) ((planR (w1) (w2) (p) (lost)).length) (capp1)]), .int .i64 (planE (w1) (w2) (p) (lost))]) rfl rfl) ?_
  refine o_alloc (z := .agg (#[.int .u8 (0), .slice none 0 0])) rfl z25 fun g2 => ?_
  refine o_storeS (H' := [(g2, .cells (#[.int .u8 (planW (w1) (w2) (p) (lost)), .slice (ap1) ((planR (w1) (w2) (p) (lost)).length) (capp1)]) 25 (0, 0))] ++ (Hp1)) 0 rfl rfl rfl s25 rfl (by simp [Value.oneCell']) rfl ?_
  refine o_y (v := .int .i64 (planE (w1) (w2) (p) (lost))) rfl rfl (y_assign rfl) ?_
  refine o_nil ?_
  refine hK2 _ _ ?_
  refine c_seq fun K3 hK3 => ?_
  refine c_region ?_
  refine o_y (v := .slice (a1) ((w1).length) (cap1)) rfl rfl (y_move rfl) ?_
  refine o_y (v := .slice (a2) ((w2).length) (cap2)) rfl rfl (y_move rfl) ?_
  refine o_y (v := .bool (p)) rfl rfl (y_move rfl) ?_
  refine o_y (v := .int .i64 (lost)) rfl rfl (y_move rfl) ?_
  refine o_callV (fun Hy => [(g2, .cells (#[.int .u8 (planW (w1) (w2) (p) (lost)), .slice (ap1) ((planR (w1) (w2) (p) (lost)).length) (capp1)]) 25 (0, 0))] ++ (Hp1 ++ Hy)) (fun Hy => by have h := List.perm_append_comm (l₁ := ([(g2, .cells (#[.int .u8 (planW (w1) (w2) (p) (lost)), .slice (ap1) ((planR (w1) (w2) (p) (lost)).length) (capp1)]) 25 (0, 0))] ++ (Hp1) : Hp)) (l₂ := Hy); first | exact h | simpa [Value.cells] using h) (vs := [.slice (a1) ((w1).length) (cap1), .slice (a2) ((w2).length) (cap2), .bool (p), .int .i64 (lost)]) b9 rfl rfl (fun w hw => f9_rOf (w1) (w2) _ _ _ _ _ _ _ _ _ _ (p) (lost) w (by omega) (by omega) (by first | rfl | (simp; done) | (simp; omega)) ((SlG.old hs1 (fun _ h => h)) w hw) (by first | rfl | (simp; done) | (simp; omega)) ((SlG.old hs2 (fun _ h => h)) w hw)) ?_
  rintro _ Hp3 ⟨ap3, gp3, capp3, rfl, hvp3⟩
  have hzp3 := hvp3.le
  have hyp3 := hvp3.mx
  simp only [maxLen] at hyp3
  refine o_y (v := .tuple #[.agg (#[.int .u8 (planW (w1) (w2) (p) (lost)), .slice (ap3) ((planR (w1) (w2) (p) (lost)).length) (capp3)]), .int .i64 (planE (w1) (w2) (p) (lost))]) rfl rfl (y_move rfl) ?_
  refine o_y (v := .agg (#[.int .u8 (planW (w1) (w2) (p) (lost)), .slice (ap3) ((planR (w1) (w2) (p) (lost)).length) (capp3)])) rfl rfl (y_extract (vs := #[.agg (#[.int .u8 (planW (w1) (w2) (p) (lost)), .slice (ap3) ((planR (w1) (w2) (p) (lost)).length) (capp3)]), .int .i64 (planE (w1) (w2) (p) (lost))]) rfl rfl) ?_
  refine o_y (v := .int .i64 (planE (w1) (w2) (p) (lost))) rfl rfl (y_extract (vs := #[.agg (#[.int .u8 (planW (w1) (w2) (p) (lost)), .slice (ap3) ((planR (w1) (w2) (p) (lost)).length) (capp3)]), .int .i64 (planE (w1) (w2) (p) (lost))]) rfl rfl) ?_
  refine o_alloc (z := .agg (#[.int .u8 (0), .slice none 0 0])) rfl z25 fun g4 => ?_
  refine o_storeS (H' := [(g4, .cells (#[.int .u8 (planW (w1) (w2) (p) (lost)), .slice (ap3) ((planR (w1) (w2) (p) (lost)).length) (capp3)]) 25 (0, 0)), (g2, .cells (#[.int .u8 (planW (w1) (w2) (p) (lost)), .slice (ap1) ((planR (w1) (w2) (p) (lost)).length) (capp1)]) 25 (0, 0))] ++ (Hp1 ++ Hp3)) 0 rfl rfl rfl s25 rfl (by simp [Value.oneCell']) rfl ?_
  refine o_y (v := .int .i64 (planE (w1) (w2) (p) (lost))) rfl rfl (y_assign rfl) ?_
  refine o_nil ?_
  refine hK3 _ _ ?_
  refine c_seq fun K4 hK4 => ?_
  refine c_region ?_
  refine o_y (v := .agg (#[.int .u8 (planW (w1) (w2) (p) (lost)), .slice (ap1) ((planR (w1) (w2) (p) (lost)).length) (capp1)])) rfl rfl (y_loadS rfl Try.underlying25 rfl s25 (Rd.whole (k := 1) rfl)) ?_
  refine o_y (v := .agg (#[.int .u8 (planW (w1) (w2) (p) (lost)), .slice (ap3) ((planR (w1) (w2) (p) (lost)).length) (capp3)])) rfl rfl (y_loadS rfl Try.underlying25 rfl s25 (Rd.whole (k := 0) rfl)) ?_
  refine o_y (v := .bool (true)) rfl rfl (y_bool (y_call (vs := [.agg (#[.int .u8 (planW (w1) (w2) (p) (lost)), .slice (ap1) ((planR (w1) (w2) (p) (lost)).length) (capp1)]), .agg (#[.int .u8 (planW (w1) (w2) (p) (lost)), .slice (ap3) ((planR (w1) (w2) (p) (lost)).length) (capp3)])]) b10 rfl (fun w hw => f10_Same (planW (w1) (w2) (p) (lost)) (planW (w1) (w2) (p) (lost)) (planR (w1) (w2) (p) (lost)) (planR (w1) (w2) (p) (lost)) _ _ _ _ _ _ _ _ _ _ w (by first | rfl | (simp; done) | (simp; omega)) ((SlG.own hvp1 (fun p hp => (List.mem_cons_of_mem _ (List.mem_cons_of_mem _ (List.mem_append_left _ hp))))) w hw) (by first | rfl | (simp; done) | (simp; omega)) ((SlG.own hvp3 (fun p hp => (List.mem_cons_of_mem _ (List.mem_cons_of_mem _ (List.mem_append_right _ hp))))) w hw))) (by simp)) ?_
  refine o_y (v := .bool (true)) rfl rfl (y_move rfl) ?_
  refine o_guard (j := 3) (d := 32) (b := true) rfl rfl rfl (fun _ => ?_) rfl (fun h => by cases h)
  refine o_y (v := .int .i64 (planE (w1) (w2) (p) (lost))) rfl rfl (y_move rfl) ?_
  refine o_guard (j := 3) (d := 32) (b := true) rfl rfl rfl (fun _ => ?_) rfl (fun h => by cases h)
  refine o_y (v := .int .i64 (planE (w1) (w2) (p) (lost))) rfl rfl (y_move rfl) ?_
  refine o_guard (j := 3) (d := 32) (b := true) rfl rfl rfl (fun _ => ?_) rfl (fun h => by cases h)
  refine o_y (v := .bool (true)) rfl rfl (y_bool (y_eql rfl rfl rfl) (by simp)) ?_
  refine o_y (v := .bool (true)) rfl rfl (y_pick (b := true) rfl rfl) ?_
  refine o_y (v := .bool (true)) rfl rfl (y_move rfl) ?_
  refine o_guard (j := 8) (d := 37) (b := true) rfl rfl rfl (fun _ => ?_) rfl (fun h => by cases h)
  refine o_y (v := .bool (true)) rfl rfl (y_call (vs := []) b11 rfl (fun w hw => f11_lives w)) ?_
  refine o_y (v := .bool (true)) rfl rfl (y_pick (b := true) rfl rfl) ?_
  refine o_y (v := .bool (true)) rfl rfl (y_assign rfl) ?_
  refine o_nil ?_
  refine hK4 _ _ ?_
  refine c_ret ?_
  refine fun w hw => ⟨[.bool (true)], ⟨rfl, trivial⟩, ?_⟩
  exact rfl

set_option maxRecDepth 100000 in
set_option maxHeartbeats 4000000 in
theorem f4_PlanReadsA (w1 w2 : List Bool) (a1 : Option Addr) (b1 o1 cap1 m1 : Nat) (a2 : Option Addr) (b2 o2 cap2 m2 : Nat) (p : Bool) (lost : Int) (w : World) (hl0 : -9223372036854775808 ≤ lost) (hl1 : lost ≤ 9223372036854775807) (hm1 : m1 = w1.length) (hs1 : Sl eBool w w1 a1 b1 o1 cap1) (hm2 : m2 = w2.length) (hs2 : Sl eBool w w2 a2 b2 o2 cap2) (hq : planOf w1 w2 p lost = (0, [], 2)) :
    Calls Try.prog 4 [.slice (a1) (m1) (cap1), .slice (a2) (m2) (cap2), .bool (p), .int .i64 (lost)].toArray w fun e w' => e = .returned (.bool (true)) ∧ Below w.heap.size w w' := by
  subst hm1
  subst hm2
  have hle1 := hs1.le
  have hmx1 := hs1.mx
  have hle2 := hs2.le
  have hmx2 := hs2.mx
  simp only [maxLen] at hmx1 hmx2
  have hW : planW w1 w2 p lost = 0 := by simp only [planW, hq]
  have hE : planE w1 w2 p lost = 2 := by simp only [planE, hq]
  have hR : planR w1 w2 p lost = [] := by simp only [planR, hq]
  refine (calls_of (P := Try.prog) (n := 179) (w0 := w) (S := fun _ => False) (H := []) (T := fun v _ => v = (.bool (true))) Try.func4 rfl Try.ntmps4 (Nat.le_of_ble_eq_true rfl) [.tmp 8] rfl (St.nil w _) ?_).mono fun e w' ⟨v, H', he, hs, hT⟩ => ⟨by rw [he, hT], hs.below⟩
  refine c_seq fun K1 hK1 => ?_
  refine c_region ?_
  refine o_y (v := .bool (false)) rfl rfl (y_assign rfl) ?_
  refine o_nil ?_
  refine hK1 _ _ ?_
  refine c_seq fun K2 hK2 => ?_
  refine c_region ?_
  refine o_y (v := .slice (a1) ((w1).length) (cap1)) rfl rfl (y_move rfl) ?_
  refine o_y (v := .slice (a2) ((w2).length) (cap2)) rfl rfl (y_move rfl) ?_
  refine o_y (v := .bool (p)) rfl rfl (y_move rfl) ?_
  refine o_y (v := .int .i64 (lost)) rfl rfl (y_move rfl) ?_
  refine o_callV (fun Hy => (Hy)) (fun Hy => by have h := List.perm_append_comm (l₁ := ([] : Hp)) (l₂ := Hy); first | exact h | simpa [Value.cells] using h) (vs := [.slice (a1) ((w1).length) (cap1), .slice (a2) ((w2).length) (cap2), .bool (p), .int .i64 (lost)]) b8 rfl rfl (fun w hw => f8_Of (w1) (w2) _ _ _ _ _ _ _ _ _ _ (p) (lost) w (by omega) (by omega) (by first | rfl | (simp; done) | (simp; omega)) ((SlG.old hs1 (fun _ h => h)) w hw) (by first | rfl | (simp; done) | (simp; omega)) ((SlG.old hs2 (fun _ h => h)) w hw)) ?_
  rintro _ Hp1 ⟨ap1, gp1, capp1, rfl, hvp1⟩
  have hzp1 := hvp1.le
  have hyp1 := hvp1.mx
  simp only [maxLen] at hyp1
  refine o_y (v := .tuple #[.agg (#[.int .u8 (planW (w1) (w2) (p) (lost)), .slice (ap1) ((planR (w1) (w2) (p) (lost)).length) (capp1)]), .int .i64 (planE (w1) (w2) (p) (lost))]) rfl rfl (y_move rfl) ?_
  refine o_y (v := .agg (#[.int .u8 (planW (w1) (w2) (p) (lost)), .slice (ap1) ((planR (w1) (w2) (p) (lost)).length) (capp1)])) rfl rfl (y_extract (vs := #[.agg (#[.int .u8 (planW (w1) (w2) (p) (lost)), .slice (ap1) ((planR (w1) (w2) (p) (lost)).length) (capp1)]), .int .i64 (planE (w1) (w2) (p) (lost))]) rfl rfl) ?_
  refine o_y (v := .int .i64 (planE (w1) (w2) (p) (lost))) rfl rfl (y_extract (vs := #[.agg (#[.int .u8 (planW (w1) (w2) (p) (lost)), .slice (ap1) ((planR (w1) (w2) (p) (lost)).length) (capp1)]), .int .i64 (planE (w1) (w2) (p) (lost))]) rfl rfl) ?_
  refine o_alloc (z := .agg (#[.int .u8 (0), .slice none 0 0])) rfl z25 fun g2 => ?_
  refine o_storeS (H' := [(g2, .cells (#[.int .u8 (planW (w1) (w2) (p) (lost)), .slice (ap1) ((planR (w1) (w2) (p) (lost)).length) (capp1)]) 25 (0, 0))] ++ (Hp1)) 0 rfl rfl rfl s25 rfl (by simp [Value.oneCell']) rfl ?_
  refine o_y (v := .int .i64 (planE (w1) (w2) (p) (lost))) rfl rfl (y_assign rfl) ?_
  refine o_nil ?_
  refine hK2 _ _ ?_
  refine c_seq fun K3 hK3 => ?_
  refine c_region ?_
  refine o_y (v := .slice (a1) ((w1).length) (cap1)) rfl rfl (y_move rfl) ?_
  refine o_y (v := .int .i64 ((((w1).length : Nat) : Int))) rfl rfl (y_len rfl Try.underlying22) ?_
  refine o_y (v := .int .i64 ((((w1).length : Nat) : Int))) rfl rfl (y_assign rfl) ?_
  refine o_nil ?_
  refine hK3 _ _ ?_
  refine c_seq fun K4 hK4 => ?_
  refine c_seq fun K5 hK5 => ?_
  refine c_region ?_
  refine o_y (v := .int .i64 (planE (w1) (w2) (p) (lost))) rfl rfl (y_move rfl) ?_
  refine o_y (v := .bool (true)) rfl rfl (y_bool (y_neq rfl rfl rfl) (by rw [hE]; rfl)) ?_
  refine o_nil ?_
  refine hK5 _ _ ?_
  refine c_cond (t := true) rfl (fun _ => ?_) (fun h => by cases h)
  refine c_seq fun K6 hK6 => ?_
  refine c_region ?_
  refine o_y (v := .pointer (some ⟨g2, 0, none⟩)) rfl rfl (y_fieldAddr (k := 0) rfl Try.underlying25 rfl rfl ⟨_, s5⟩ (by first | rfl | omega)) ?_
  refine o_y (v := .int .u8 (planW (w1) (w2) (p) (lost))) rfl rfl (y_load rfl Try.underlying5 rfl (Rd.one (k := 0) rfl rfl)) ?_
  refine o_y (v := .bool (true)) rfl rfl (y_bool (y_eql rfl rfl rfl) (by rw [hW]; rfl)) ?_
  refine o_y (v := .bool (true)) rfl rfl (y_move rfl) ?_
  refine o_guard (j := 3) (d := 31) (b := true) rfl rfl rfl (fun _ => ?_) rfl (fun h => by cases h)
  refine o_y (v := .pointer (some ⟨g2, 1, none⟩)) rfl rfl (y_fieldAddr (k := 1) rfl Try.underlying25 rfl rfl ⟨_, s23⟩ (by first | rfl | omega)) ?_
  refine o_guard (j := 3) (d := 31) (b := true) rfl rfl rfl (fun _ => ?_) rfl (fun h => by cases h)
  refine o_y (v := .slice (ap1) ((planR (w1) (w2) (p) (lost)).length) (capp1)) rfl rfl (y_load rfl Try.underlying23 rfl (Rd.one (k := 0) rfl rfl)) ?_
  refine o_guard (j := 3) (d := 31) (b := true) rfl rfl rfl (fun _ => ?_) rfl (fun h => by cases h)
  refine o_y (v := .int .i64 ((((planR (w1) (w2) (p) (lost)).length : Nat) : Int))) rfl rfl (y_len rfl Try.underlying23) ?_
  refine o_guard (j := 3) (d := 31) (b := true) rfl rfl rfl (fun _ => ?_) rfl (fun h => by cases h)
  refine o_y (v := .bool (true)) rfl rfl (y_bool (y_eql rfl rfl rfl) (by rw [hR]; rfl)) ?_
  refine o_y (v := .bool (true)) rfl rfl (y_pick (b := true) rfl rfl) ?_
  refine o_y (v := .bool (true)) rfl rfl (y_move rfl) ?_
  refine o_guard (j := 9) (d := 37) (b := true) rfl rfl rfl (fun _ => ?_) rfl (fun h => by cases h)
  refine o_y (v := .bool (true)) rfl rfl (y_call (vs := []) b11 rfl (fun w hw => f11_lives w)) ?_
  refine o_y (v := .bool (true)) rfl rfl (y_pick (b := true) rfl rfl) ?_
  refine o_y (v := .bool (true)) rfl rfl (y_assign rfl) ?_
  refine o_nil ?_
  refine hK6 _ _ ?_
  refine c_ret ?_
  refine fun w hw => ⟨[.bool (true)], ⟨rfl, trivial⟩, ?_⟩
  exact rfl

set_option maxRecDepth 100000 in
set_option maxHeartbeats 4000000 in
theorem f4_PlanReadsB (w1 w2 : List Bool) (a1 : Option Addr) (b1 o1 cap1 m1 : Nat) (a2 : Option Addr) (b2 o2 cap2 m2 : Nat) (p : Bool) (lost : Int) (w : World) (hl0 : -9223372036854775808 ≤ lost) (hl1 : lost ≤ 9223372036854775807) (hm1 : m1 = w1.length) (hs1 : Sl eBool w w1 a1 b1 o1 cap1) (hm2 : m2 = w2.length) (hs2 : Sl eBool w w2 a2 b2 o2 cap2) (hg : Good w1 w2 p lost (planW w1 w2 p lost) (planR w1 w2 p lost)) :
    Calls Try.prog 4 [.slice (a1) (m1) (cap1), .slice (a2) (m2) (cap2), .bool (p), .int .i64 (lost)].toArray w fun e w' => e = .returned (.bool (true)) ∧ Below w.heap.size w w' := by
  subst hm1
  subst hm2
  have hle1 := hs1.le
  have hmx1 := hs1.mx
  have hle2 := hs2.le
  have hmx2 := hs2.mx
  simp only [maxLen] at hmx1 hmx2
  have hE : planE w1 w2 p lost = 0 := by simp only [planE, hg.e]
  have hlk := hg.len
  have hn2 := hg.n2
  have hn15 := hg.n15
  have hw1 := hg.w1
  have hw4 := hg.w4
  have hlo := hg.lo
  refine (calls_of (P := Try.prog) (n := 179) (w0 := w) (S := fun _ => False) (H := []) (T := fun v _ => v = (.bool (true))) Try.func4 rfl Try.ntmps4 (Nat.le_of_ble_eq_true rfl) [.tmp 8] rfl (St.nil w _) ?_).mono fun e w' ⟨v, H', he, hs, hT⟩ => ⟨by rw [he, hT], hs.below⟩
  refine c_seq fun K1 hK1 => ?_
  refine c_region ?_
  refine o_y (v := .bool (false)) rfl rfl (y_assign rfl) ?_
  refine o_nil ?_
  refine hK1 _ _ ?_
  refine c_seq fun K2 hK2 => ?_
  refine c_region ?_
  refine o_y (v := .slice (a1) ((w1).length) (cap1)) rfl rfl (y_move rfl) ?_
  refine o_y (v := .slice (a2) ((w2).length) (cap2)) rfl rfl (y_move rfl) ?_
  refine o_y (v := .bool (p)) rfl rfl (y_move rfl) ?_
  refine o_y (v := .int .i64 (lost)) rfl rfl (y_move rfl) ?_
  refine o_callV (fun Hy => (Hy)) (fun Hy => by have h := List.perm_append_comm (l₁ := ([] : Hp)) (l₂ := Hy); first | exact h | simpa [Value.cells] using h) (vs := [.slice (a1) ((w1).length) (cap1), .slice (a2) ((w2).length) (cap2), .bool (p), .int .i64 (lost)]) b8 rfl rfl (fun w hw => f8_Of (w1) (w2) _ _ _ _ _ _ _ _ _ _ (p) (lost) w (by omega) (by omega) (by first | rfl | (simp; done) | (simp; omega)) ((SlG.old hs1 (fun _ h => h)) w hw) (by first | rfl | (simp; done) | (simp; omega)) ((SlG.old hs2 (fun _ h => h)) w hw)) ?_
  rintro _ Hp1 ⟨ap1, gp1, capp1, rfl, hvp1⟩
  have hzp1 := hvp1.le
  have hyp1 := hvp1.mx
  simp only [maxLen] at hyp1
  refine o_y (v := .tuple #[.agg (#[.int .u8 (planW (w1) (w2) (p) (lost)), .slice (ap1) ((planR (w1) (w2) (p) (lost)).length) (capp1)]), .int .i64 (planE (w1) (w2) (p) (lost))]) rfl rfl (y_move rfl) ?_
  refine o_y (v := .agg (#[.int .u8 (planW (w1) (w2) (p) (lost)), .slice (ap1) ((planR (w1) (w2) (p) (lost)).length) (capp1)])) rfl rfl (y_extract (vs := #[.agg (#[.int .u8 (planW (w1) (w2) (p) (lost)), .slice (ap1) ((planR (w1) (w2) (p) (lost)).length) (capp1)]), .int .i64 (planE (w1) (w2) (p) (lost))]) rfl rfl) ?_
  refine o_y (v := .int .i64 (planE (w1) (w2) (p) (lost))) rfl rfl (y_extract (vs := #[.agg (#[.int .u8 (planW (w1) (w2) (p) (lost)), .slice (ap1) ((planR (w1) (w2) (p) (lost)).length) (capp1)]), .int .i64 (planE (w1) (w2) (p) (lost))]) rfl rfl) ?_
  refine o_alloc (z := .agg (#[.int .u8 (0), .slice none 0 0])) rfl z25 fun g2 => ?_
  refine o_storeS (H' := [(g2, .cells (#[.int .u8 (planW (w1) (w2) (p) (lost)), .slice (ap1) ((planR (w1) (w2) (p) (lost)).length) (capp1)]) 25 (0, 0))] ++ (Hp1)) 0 rfl rfl rfl s25 rfl (by simp [Value.oneCell']) rfl ?_
  refine o_y (v := .int .i64 (planE (w1) (w2) (p) (lost))) rfl rfl (y_assign rfl) ?_
  refine o_nil ?_
  refine hK2 _ _ ?_
  refine c_seq fun K3 hK3 => ?_
  refine c_region ?_
  refine o_y (v := .slice (a1) ((w1).length) (cap1)) rfl rfl (y_move rfl) ?_
  refine o_y (v := .int .i64 ((((w1).length : Nat) : Int))) rfl rfl (y_len rfl Try.underlying22) ?_
  refine o_y (v := .int .i64 ((((w1).length : Nat) : Int))) rfl rfl (y_assign rfl) ?_
  refine o_nil ?_
  refine hK3 _ _ ?_
  refine c_seq fun K4 hK4 => ?_
  refine c_seq fun K5 hK5 => ?_
  refine c_region ?_
  refine o_y (v := .int .i64 (planE (w1) (w2) (p) (lost))) rfl rfl (y_move rfl) ?_
  refine o_y (v := .bool (false)) rfl rfl (y_bool (y_neq rfl rfl rfl) (by rw [hE]; rfl)) ?_
  refine o_nil ?_
  refine hK5 _ _ ?_
  refine c_cond (t := false) rfl (fun h => by cases h) (fun _ => ?_)
  refine c_skip ?_
  refine hK4 _ _ ?_
  refine c_seq fun K6 hK6 => ?_
  refine c_seq fun K7 hK7 => ?_
  refine c_region ?_
  refine o_y (v := .pointer (some ⟨g2, 0, none⟩)) rfl rfl (y_fieldAddr (k := 0) rfl Try.underlying25 rfl rfl ⟨_, s5⟩ (by first | rfl | omega)) ?_
  refine o_y (v := .int .u8 (planW (w1) (w2) (p) (lost))) rfl rfl (y_load rfl Try.underlying5 rfl (Rd.one (k := 0) rfl rfl)) ?_
  refine o_y (v := .bool (false)) rfl rfl (y_bool (y_lss rfl rfl rfl) (decide_eq_false (by omega))) ?_
  refine o_y (v := .bool (false)) rfl rfl (y_move rfl) ?_
  refine o_guard (j := 3) (d := 43) (b := false) rfl rfl rfl (fun _ => ?_) rfl (fun h => by cases h)
  refine o_y (v := .pointer (some ⟨g2, 0, none⟩)) rfl rfl (y_fieldAddr (k := 0) rfl Try.underlying25 rfl rfl ⟨_, s5⟩ (by first | rfl | omega)) ?_
  refine o_guard (j := 3) (d := 43) (b := false) rfl rfl rfl (fun _ => ?_) rfl (fun h => by cases h)
  refine o_y (v := .int .u8 (planW (w1) (w2) (p) (lost))) rfl rfl (y_load rfl Try.underlying5 rfl (Rd.one (k := 0) rfl rfl)) ?_
  refine o_guard (j := 3) (d := 43) (b := false) rfl rfl rfl (fun _ => ?_) rfl (fun h => by cases h)
  refine o_y (v := .bool (false)) rfl rfl (y_bool (y_gtr rfl rfl rfl) (decide_eq_false (by omega))) ?_
  refine o_y (v := .bool (false)) rfl rfl (y_pick (b := false) rfl rfl) ?_
  refine o_y (v := .bool (false)) rfl rfl (y_move rfl) ?_
  refine o_guard (j := 8) (d := 48) (b := false) rfl rfl rfl (fun _ => ?_) rfl (fun h => by cases h)
  refine o_y (v := .pointer (some ⟨g2, 0, none⟩)) rfl rfl (y_fieldAddr (k := 0) rfl Try.underlying25 rfl rfl ⟨_, s5⟩ (by first | rfl | omega)) ?_
  refine o_guard (j := 8) (d := 48) (b := false) rfl rfl rfl (fun _ => ?_) rfl (fun h => by cases h)
  refine o_y (v := .int .u8 (planW (w1) (w2) (p) (lost))) rfl rfl (y_load rfl Try.underlying5 rfl (Rd.one (k := 0) rfl rfl)) ?_
  refine o_guard (j := 8) (d := 48) (b := false) rfl rfl rfl (fun _ => ?_) rfl (fun h => by cases h)
  refine o_y (v := .bool (decide (planW (w1) (w2) (p) (lost) = 1))) rfl rfl (y_eql rfl rfl rfl) ?_
  refine o_guard (j := 8) (d := 48) (b := false) rfl rfl rfl (fun _ => ?_) rfl (fun h => by cases h)
  refine o_y (v := .int .i64 (lost)) rfl rfl (y_move rfl) ?_
  refine o_guard (j := 8) (d := 48) (b := false) rfl rfl rfl (fun _ => ?_) rfl (fun h => by cases h)
  refine o_y (v := .int .i64 ((((w1).length : Nat) : Int))) rfl rfl (y_move rfl) ?_
  refine o_guard (j := 8) (d := 48) (b := false) rfl rfl rfl (fun _ => ?_) rfl (fun h => by cases h)
  refine o_y (v := .bool (decide (lost = (((w1).length : Nat) : Int)))) rfl rfl (y_eql rfl rfl rfl) ?_
  refine o_guard (j := 8) (d := 48) (b := false) rfl rfl rfl (fun _ => ?_) rfl (fun h => by cases h)
  refine o_y (v := .bool (false)) rfl rfl (y_bool (y_neqB rfl rfl Try.underlying4 rfl) (by first | (simp [hlo]; done) | (simp; omega))) ?_
  refine o_y (v := .bool (false)) rfl rfl (y_pick (b := false) rfl rfl) ?_
  refine o_nil ?_
  refine hK7 _ _ ?_
  refine c_cond (t := false) rfl (fun h => by cases h) (fun _ => ?_)
  refine c_skip ?_
  refine hK6 _ _ ?_
  refine c_seq fun K8 hK8 => ?_
  refine c_seq fun K9 hK9 => ?_
  refine c_region ?_
  refine o_y (v := .int .i64 (0)) rfl rfl (y_assign rfl) ?_
  refine o_nil ?_
  refine hK9 _ _ ?_
  refine c_block ?_
  refine c_loop (fun d R H => ∃ (j : Nat), d = (planR w1 w2 p lost).length - (j) ∧ (j ≤ (planR w1 w2 p lost).length) ∧ R 0 = .slice (a1) ((w1).length) (cap1) ∧ R 1 = .slice (a2) ((w2).length) (cap2) ∧ R 2 = .bool (p) ∧ R 3 = .int .i64 (lost) ∧ R 9 = .pointer (some ⟨g2, 0, none⟩) ∧ R 11 = .int .i64 ((((w1).length : Nat) : Int)) ∧ R 12 = .int .i64 (((j : Nat) : Int)) ∧ H = ([(g2, .cells (#[.int .u8 (planW (w1) (w2) (p) (lost)), .slice (ap1) ((planR (w1) (w2) (p) (lost)).length) (capp1)]) 25 (0, 0))] ++ (Hp1) : Hp)) ((planR w1 w2 p lost).length - (0)) ?_ ?_
  ·
    refine ⟨0, rfl, by omega, rfl, rfl, rfl, rfl, rfl, rfl, (ie (a := 0) (b := ((0 : Nat) : Int)) (by omega)), rfl⟩
  ·
    rintro d1 R1 _ ⟨j, hd1, hv1_0, h1_0, h1_1, h1_2, h1_3, h1_9, h1_11, h1_12, rfl⟩
    refine c_seq fun K10 hK10 => ?_
    refine c_seq fun K11 hK11 => ?_
    refine c_region ?_
    refine o_y (v := .int .i64 (((j : Nat) : Int))) rfl rfl (y_move h1_12) ?_
    refine o_y (v := .pointer (some ⟨g2, 1, none⟩)) rfl rfl (y_fieldAddr (k := 1) h1_9 Try.underlying25 rfl rfl ⟨_, s23⟩ (by first | rfl | omega)) ?_
    refine o_y (v := .slice (ap1) ((planR (w1) (w2) (p) (lost)).length) (capp1)) rfl rfl (y_load rfl Try.underlying23 rfl (Rd.one (k := 0) rfl rfl)) ?_
    refine o_y (v := .int .i64 ((((planR (w1) (w2) (p) (lost)).length : Nat) : Int))) rfl rfl (y_len rfl Try.underlying23) ?_
    refine o_y (v := .bool (decide (((j : Nat) : Int) < (((planR (w1) (w2) (p) (lost)).length : Nat) : Int)))) rfl rfl (y_lss rfl rfl rfl) ?_
    refine o_nil ?_
    refine hK11 _ _ ?_
    refine c_cond (t := decide (((j : Nat) : Int) < (((planR (w1) (w2) (p) (lost)).length : Nat) : Int))) rfl (fun hc1 => ?_) (fun hc1 => ?_)
    ·
      replace hc1 := of_decide_eq_true hc1
      -- way LT
      have hm := hg.mem _ (List.getElem_mem (show j < (planR w1 w2 p lost).length by omega))
      refine c_skip ?_
      refine hK10 _ _ ?_
      refine c_seq fun K12 hK12 => ?_
      refine c_block ?_
      refine c_seq fun K13 hK13 => ?_
      refine c_region ?_
      refine o_y (v := .pointer (some ⟨g2, 1, none⟩)) rfl rfl (y_fieldAddr (k := 1) h1_9 Try.underlying25 rfl rfl ⟨_, s23⟩ (by first | rfl | omega)) ?_
      refine o_y (v := .slice (ap1) ((planR (w1) (w2) (p) (lost)).length) (capp1)) rfl rfl (y_load rfl Try.underlying23 rfl (Rd.one (k := 0) rfl rfl)) ?_
      refine o_y (v := .int .i64 (((j : Nat) : Int))) rfl rfl (y_move h1_12) ?_
      refine o_y (v := .pointer (some ⟨gp1, 0 + j * 1, none⟩)) rfl rfl (y_ixO j (hvp1.at_ (by first | omega | (simp; done) | (simp; omega))) rfl rfl Try.underlying23 s3 (by omega) (by first | omega | (simp; done) | (simp; omega))) ?_
      refine o_y (v := .int .i64 ((planR (w1) (w2) (p) (lost))[j]'(by first | omega | (simp; done) | (simp; omega)))) rfl rfl (y_load rfl Try.underlying3 rfl (SlG.rd (SlG.own hvp1 (fun p hp => (List.mem_cons_of_mem _ hp))) j (by first | omega | (simp; done) | (simp; omega)))) ?_
      refine o_y (v := .int .i64 ((planR (w1) (w2) (p) (lost))[j]'(by first | omega | (simp; done) | (simp; omega)))) rfl rfl (y_assign rfl) ?_
      refine o_nil ?_
      refine hK13 _ _ ?_
      refine c_seq fun K14 hK14 => ?_
      refine c_seq fun K15 hK15 => ?_
      refine c_region ?_
      refine o_y (v := .int .i64 ((planR (w1) (w2) (p) (lost))[j]'(by first | omega | (simp; done) | (simp; omega)))) rfl rfl (y_move rfl) ?_
      refine o_y (v := .bool (false)) rfl rfl (y_bool (y_lss rfl rfl rfl) (decide_eq_false (by omega))) ?_
      refine o_y (v := .bool (false)) rfl rfl (y_move rfl) ?_
      refine o_guard (j := 2) (d := 71) (b := false) rfl rfl rfl (fun _ => ?_) rfl (fun h => by cases h)
      refine o_y (v := .int .i64 ((planR (w1) (w2) (p) (lost))[j]'(by first | omega | (simp; done) | (simp; omega)))) rfl rfl (y_move rfl) ?_
      refine o_guard (j := 2) (d := 71) (b := false) rfl rfl rfl (fun _ => ?_) rfl (fun h => by cases h)
      refine o_y (v := .int .i64 ((((w1).length : Nat) : Int))) rfl rfl (y_move h1_11) ?_
      refine o_guard (j := 2) (d := 71) (b := false) rfl rfl rfl (fun _ => ?_) rfl (fun h => by cases h)
      refine o_y (v := .bool (false)) rfl rfl (y_bool (y_gtr rfl rfl rfl) (decide_eq_false (by omega))) ?_
      refine o_y (v := .bool (false)) rfl rfl (y_pick (b := false) rfl rfl) ?_
      refine o_y (v := .bool (false)) rfl rfl (y_move rfl) ?_
      refine o_guard (j := 7) (d := 76) (b := false) rfl rfl rfl (fun _ => ?_) rfl (fun h => by cases h)
      refine o_y (v := .int .i64 ((planR (w1) (w2) (p) (lost))[j]'(by first | omega | (simp; done) | (simp; omega)))) rfl rfl (y_move rfl) ?_
      refine o_guard (j := 7) (d := 76) (b := false) rfl rfl rfl (fun _ => ?_) rfl (fun h => by cases h)
      refine o_y (v := .int .i64 (lost)) rfl rfl (y_move h1_3) ?_
      refine o_guard (j := 7) (d := 76) (b := false) rfl rfl rfl (fun _ => ?_) rfl (fun h => by cases h)
      refine o_y (v := .bool (false)) rfl rfl (y_bool (y_eql rfl rfl rfl) (decide_eq_false hm.2.2.1)) ?_
      refine o_y (v := .bool (false)) rfl rfl (y_pick (b := false) rfl rfl) ?_
      refine o_y (v := .bool (false)) rfl rfl (y_move rfl) ?_
      refine o_guard (j := 12) (d := 81) (b := false) rfl rfl rfl (fun _ => ?_) rfl (fun h => by cases h)
      refine o_y (v := .int .i64 (((j : Nat) : Int))) rfl rfl (y_move h1_12) ?_
      refine o_guard (j := 12) (d := 81) (b := false) rfl rfl rfl (fun _ => ?_) rfl (fun h => by cases h)
      refine o_y (v := .bool (decide (0 < ((j : Nat) : Int)))) rfl rfl (y_gtr rfl rfl rfl) ?_
      refine o_guard (j := 12) (d := 81) (b := false) rfl rfl rfl (fun _ => ?_) rfl (fun h => by cases h)
      refine o_y (v := .bool (decide (0 < ((j : Nat) : Int)))) rfl rfl (y_move rfl) ?_
      cases hc2 : (decide (0 < ((j : Nat) : Int)) : Bool)
      ·
        have hc2' := of_decide_eq_false hc2
        -- way LTF
        refine o_guard (j := 15) (d := 84) (b := false) rfl rfl rfl (fun h => by cases h) rfl (fun _ => ?_)
        refine o_guard (j := 15) (d := 84) (b := false) rfl rfl rfl (fun h => by cases h) rfl (fun _ => ?_)
        refine o_guard (j := 15) (d := 84) (b := false) rfl rfl rfl (fun h => by cases h) rfl (fun _ => ?_)
        refine o_guard (j := 15) (d := 84) (b := false) rfl rfl rfl (fun h => by cases h) rfl (fun _ => ?_)
        refine o_guard (j := 15) (d := 84) (b := false) rfl rfl rfl (fun h => by cases h) rfl (fun _ => ?_)
        refine o_guard (j := 15) (d := 84) (b := false) rfl rfl rfl (fun h => by cases h) rfl (fun _ => ?_)
        refine o_guard (j := 15) (d := 84) (b := false) rfl rfl rfl (fun h => by cases h) rfl (fun _ => ?_)
        refine o_guard (j := 15) (d := 84) (b := false) rfl rfl rfl (fun h => by cases h) rfl (fun _ => ?_)
        refine o_guard (j := 12) (d := 81) (b := false) rfl rfl rfl (fun _ => ?_) rfl (fun h => by cases h)
        refine o_y (v := .bool (false)) rfl rfl (y_pick (b := false) rfl rfl) ?_
        refine o_y (v := .bool (false)) rfl rfl (y_pick (b := false) rfl rfl) ?_
        refine o_nil ?_
        refine hK15 _ _ ?_
        refine c_cond (t := false) rfl (fun h => by cases h) (fun _ => ?_)
        refine c_skip ?_
        refine hK14 _ _ ?_
        refine c_seq fun K16 hK16 => ?_
        refine c_seq fun K17 hK17 => ?_
        refine c_region ?_
        refine o_y (v := .int .i64 ((planR (w1) (w2) (p) (lost))[j]'(by first | omega | (simp; done) | (simp; omega)))) rfl rfl (y_move rfl) ?_
        refine o_y (v := .int .i64 ((((w1).length : Nat) : Int))) rfl rfl (y_move h1_11) ?_
        refine o_y (v := .bool (decide ((planR (w1) (w2) (p) (lost))[j]'(by first | omega | (simp; done) | (simp; omega)) = (((w1).length : Nat) : Int)))) rfl rfl (y_eql rfl rfl rfl) ?_
        refine o_y (v := .bool (decide ((planR (w1) (w2) (p) (lost))[j]'(by first | omega | (simp; done) | (simp; omega)) = (((w1).length : Nat) : Int)))) rfl rfl (y_move rfl) ?_
        cases hc3 : (decide ((planR (w1) (w2) (p) (lost))[j]'(by first | omega | (simp; done) | (simp; omega)) = (((w1).length : Nat) : Int)) : Bool)
        ·
          have hc3' := of_decide_eq_false hc3
          -- way LTFF
          refine o_guard (j := 3) (d := 98) (b := false) rfl rfl rfl (fun h => by cases h) rfl (fun _ => ?_)
          refine o_guard (j := 3) (d := 98) (b := false) rfl rfl rfl (fun h => by cases h) rfl (fun _ => ?_)
          refine o_guardU (j := 5) (d := 100) rfl rfl rfl rfl ?_
          refine o_guardU (j := 5) (d := 100) rfl rfl rfl rfl ?_
          refine o_guardU (j := 5) (d := 100) rfl rfl rfl rfl ?_
          refine o_guard (j := 3) (d := 98) (b := false) rfl rfl rfl (fun h => by cases h) rfl (fun _ => ?_)
          refine o_y (v := .bool (false)) rfl rfl (y_pick (b := false) rfl rfl) ?_
          refine o_nil ?_
          refine hK17 _ _ ?_
          refine c_cond (t := false) rfl (fun h => by cases h) (fun _ => ?_)
          refine c_skip ?_
          refine hK16 _ _ ?_
          refine c_seq fun K18 hK18 => ?_
          refine c_draw 19 (by kernel_rfl) (by kernel_rfl) ?_
          refine q_y (v := .int .i64 ((planR (w1) (w2) (p) (lost))[j]'(by first | omega | (simp; done) | (simp; omega)))) rfl (y_move rfl) ?_
          refine q_y (v := .int .i64 ((((w1).length : Nat) : Int))) rfl (y_move h1_11) ?_
          refine q_y (v := .bool (decide ((planR (w1) (w2) (p) (lost))[j]'(by first | omega | (simp; done) | (simp; omega)) < (((w1).length : Nat) : Int)))) rfl (y_lss rfl rfl rfl) ?_
          refine q_y (v := .bool (decide ((planR (w1) (w2) (p) (lost))[j]'(by first | omega | (simp; done) | (simp; omega)) < (((w1).length : Nat) : Int)))) rfl (y_move rfl) ?_
          cases hc4 : (decide ((planR (w1) (w2) (p) (lost))[j]'(by first | omega | (simp; done) | (simp; omega)) < (((w1).length : Nat) : Int)) : Bool)
          ·
            have hc4' := of_decide_eq_false hc4
            -- way LTFFF
            refine q_guardF (j := 3) (d := 109) (b := false) rfl rfl rfl rfl ?_
            refine q_guardF (j := 3) (d := 109) (b := false) rfl rfl rfl rfl ?_
            refine q_guardF (j := 3) (d := 109) (b := false) rfl rfl rfl rfl ?_
            refine q_guardF (j := 3) (d := 109) (b := false) rfl rfl rfl rfl ?_
            refine q_guardF (j := 3) (d := 109) (b := false) rfl rfl rfl rfl ?_
            refine q_guardU (j := 8) (d := 114) rfl rfl rfl ?_
            refine q_guardU (j := 8) (d := 114) rfl rfl rfl ?_
            refine q_guardU (j := 8) (d := 114) rfl rfl rfl ?_
            refine q_guardU (j := 8) (d := 114) rfl rfl rfl ?_
            refine q_guardU (j := 8) (d := 114) rfl rfl rfl ?_
            refine q_guardU (j := 8) (d := 114) rfl rfl rfl ?_
            refine q_guardU (j := 8) (d := 114) rfl rfl rfl ?_
            refine q_guardU (j := 8) (d := 114) rfl rfl rfl ?_
            refine q_guardF (j := 3) (d := 109) (b := false) rfl rfl rfl rfl ?_
            refine q_y (v := .bool (false)) rfl (y_pick (b := false) rfl rfl) ?_
            refine q_nil ?_
            refine o_nil ?_
            refine hK18 _ _ ?_
            refine c_cond (t := false) rfl (fun h => by cases h) (fun _ => ?_)
            refine c_skip ?_
            refine hK12 _ _ ?_
            refine c_region ?_
            refine o_y (v := .int .i64 (((j : Nat) : Int))) rfl rfl (y_move h1_12) ?_
            refine o_y (v := .int .i64 ((((j : Nat) : Int)) + 1)) rfl rfl (y_add rfl rfl (wi_i64 (by omega) (by omega))) ?_
            refine o_y (v := .int .i64 ((((j : Nat) : Int)) + 1)) rfl rfl (y_assign rfl) ?_
            refine o_nil ?_
            refine ⟨_, by omega, j + 1, rfl, by omega, h1_0, h1_1, h1_2, h1_3, h1_9, h1_11, (ie (a := (((j : Nat) : Int)) + 1) (b := ((j + 1 : Nat) : Int)) (by omega)), rfl⟩
          ·
            have hc4' := of_decide_eq_true hc4
            -- way LTFFT
            refine q_guardT (j := 3) (d := 109) rfl rfl rfl ?_
            refine q_y (v := .slice (a2) ((w2).length) (cap2)) rfl (y_move h1_1) ?_
            refine q_guardT (j := 3) (d := 109) rfl rfl rfl ?_
            refine q_y (v := .int .i64 ((planR (w1) (w2) (p) (lost))[j]'(by first | omega | (simp; done) | (simp; omega)))) rfl (y_move rfl) ?_
            refine q_guardT (j := 3) (d := 109) rfl rfl rfl ?_
            refine q_y (v := .pointer (some ⟨b2, o2 + (((planR (w1) (w2) (p) (lost))[j]'(by first | omega | (simp; done) | (simp; omega))).toNat) * 1, none⟩)) rfl (y_ixO (((planR (w1) (w2) (p) (lost))[j]'(by first | omega | (simp; done) | (simp; omega))).toNat) (hs2.at_ (by omega)) rfl rfl Try.underlying22 s4 (by omega) (by first | omega | (simp; done) | (simp; omega))) ?_
            refine q_guardT (j := 3) (d := 109) rfl rfl rfl ?_
            refine q_y (v := .bool (false)) rfl (y_bool (y_load rfl Try.underlying4 rfl (SlG.rd (SlG.old hs2 (fun _ h => h)) (((planR (w1) (w2) (p) (lost))[j]'(by first | omega | (simp; done) | (simp; omega))).toNat) (by first | omega | (simp; done) | (simp; omega)))) ((getD_get _ _ _).symm.trans (hm.2.2.2.2 (by omega)).1)) ?_
            refine q_guardT (j := 3) (d := 109) rfl rfl rfl ?_
            refine q_y (v := .bool (false)) rfl (y_move rfl) ?_
            refine q_guardT (j := 8) (d := 114) rfl rfl rfl ?_
            refine q_y (v := .slice (a1) ((w1).length) (cap1)) rfl (y_move h1_0) ?_
            refine q_guardT (j := 8) (d := 114) rfl rfl rfl ?_
            refine q_y (v := .int .i64 ((planR (w1) (w2) (p) (lost))[j]'(by first | omega | (simp; done) | (simp; omega)))) rfl (y_move rfl) ?_
            refine q_guardT (j := 8) (d := 114) rfl rfl rfl ?_
            refine q_y (v := .pointer (some ⟨b1, o1 + (((planR (w1) (w2) (p) (lost))[j]'(by first | omega | (simp; done) | (simp; omega))).toNat) * 1, none⟩)) rfl (y_ixO (((planR (w1) (w2) (p) (lost))[j]'(by first | omega | (simp; done) | (simp; omega))).toNat) (hs1.at_ (by omega)) rfl rfl Try.underlying22 s4 (by omega) (by first | omega | (simp; done) | (simp; omega))) ?_
            refine q_guardT (j := 8) (d := 114) rfl rfl rfl ?_
            refine q_y (v := .bool ((w1)[((planR (w1) (w2) (p) (lost))[j]'(by first | omega | (simp; done) | (simp; omega))).toNat])) rfl (y_load rfl Try.underlying4 rfl (SlG.rd (SlG.old hs1 (fun _ h => h)) (((planR (w1) (w2) (p) (lost))[j]'(by first | omega | (simp; done) | (simp; omega))).toNat) (by first | omega | (simp; done) | (simp; omega)))) ?_
            refine q_guardT (j := 8) (d := 114) rfl rfl rfl ?_
            refine q_y (v := .pointer (some ⟨g2, 0, none⟩)) rfl (y_fieldAddr (k := 0) h1_9 Try.underlying25 rfl rfl ⟨_, s5⟩ (by first | rfl | omega)) ?_
            refine q_guardT (j := 8) (d := 114) rfl rfl rfl ?_
            refine q_y (v := .int .u8 (planW (w1) (w2) (p) (lost))) rfl (y_load rfl Try.underlying5 rfl (Rd.one (k := 0) rfl rfl)) ?_
            refine q_guardT (j := 8) (d := 114) rfl rfl rfl ?_
            refine q_y (v := .bool (decide (planW (w1) (w2) (p) (lost) = 4))) rfl (y_eql rfl rfl rfl) ?_
            refine q_guardT (j := 8) (d := 114) rfl rfl rfl ?_
            refine q_y (v := .bool (false)) rfl (y_bool (y_neqB rfl rfl Try.underlying4 rfl) (by rw [← getD_get, (hm.2.2.2.2 (by omega)).2]; simp)) ?_
            refine q_guardT (j := 3) (d := 109) rfl rfl rfl ?_
            refine q_y (v := .bool (false)) rfl (y_pick (b := false) rfl rfl) ?_
            refine q_y (v := .bool (false)) rfl (y_pick (b := true) rfl rfl) ?_
            refine q_nil ?_
            refine o_nil ?_
            refine hK18 _ _ ?_
            refine c_cond (t := false) rfl (fun h => by cases h) (fun _ => ?_)
            refine c_skip ?_
            refine hK12 _ _ ?_
            refine c_region ?_
            refine o_y (v := .int .i64 (((j : Nat) : Int))) rfl rfl (y_move h1_12) ?_
            refine o_y (v := .int .i64 ((((j : Nat) : Int)) + 1)) rfl rfl (y_add rfl rfl (wi_i64 (by omega) (by omega))) ?_
            refine o_y (v := .int .i64 ((((j : Nat) : Int)) + 1)) rfl rfl (y_assign rfl) ?_
            refine o_nil ?_
            refine ⟨_, by omega, j + 1, rfl, by omega, h1_0, h1_1, h1_2, h1_3, h1_9, h1_11, (ie (a := (((j : Nat) : Int)) + 1) (b := ((j + 1 : Nat) : Int)) (by omega)), rfl⟩
        ·
          have hc3' := of_decide_eq_true hc3
          -- way LTFT
          refine o_guard (j := 3) (d := 98) (b := true) rfl rfl rfl (fun _ => ?_) rfl (fun h => by cases h)
          refine o_y (v := .bool (false)) rfl rfl (y_bool (y_move h1_2) ((hm.2.2.2.1 (by omega)).1)) ?_
          refine o_guard (j := 3) (d := 98) (b := true) rfl rfl rfl (fun _ => ?_) rfl (fun h => by cases h)
          refine o_y (v := .bool (false)) rfl rfl (y_move rfl) ?_
          refine o_guard (j := 5) (d := 100) (b := false) rfl rfl rfl (fun _ => ?_) rfl (fun h => by cases h)
          refine o_y (v := .pointer (some ⟨g2, 0, none⟩)) rfl rfl (y_fieldAddr (k := 0) h1_9 Try.underlying25 rfl rfl ⟨_, s5⟩ (by first | rfl | omega)) ?_
          refine o_guard (j := 5) (d := 100) (b := false) rfl rfl rfl (fun _ => ?_) rfl (fun h => by cases h)
          refine o_y (v := .int .u8 (planW (w1) (w2) (p) (lost))) rfl rfl (y_load rfl Try.underlying5 rfl (Rd.one (k := 0) rfl rfl)) ?_
          refine o_guard (j := 5) (d := 100) (b := false) rfl rfl rfl (fun _ => ?_) rfl (fun h => by cases h)
          refine o_y (v := .bool (false)) rfl rfl (y_bool (y_neq rfl rfl rfl) (decide_eq_false (by omega))) ?_
          refine o_guard (j := 3) (d := 98) (b := true) rfl rfl rfl (fun _ => ?_) rfl (fun h => by cases h)
          refine o_y (v := .bool (false)) rfl rfl (y_pick (b := false) rfl rfl) ?_
          refine o_y (v := .bool (false)) rfl rfl (y_pick (b := true) rfl rfl) ?_
          refine o_nil ?_
          refine hK17 _ _ ?_
          refine c_cond (t := false) rfl (fun h => by cases h) (fun _ => ?_)
          refine c_skip ?_
          refine hK16 _ _ ?_
          refine c_seq fun K19 hK19 => ?_
          refine c_draw 19 (by kernel_rfl) (by kernel_rfl) ?_
          refine q_y (v := .int .i64 ((planR (w1) (w2) (p) (lost))[j]'(by first | omega | (simp; done) | (simp; omega)))) rfl (y_move rfl) ?_
          refine q_y (v := .int .i64 ((((w1).length : Nat) : Int))) rfl (y_move h1_11) ?_
          refine q_y (v := .bool (decide ((planR (w1) (w2) (p) (lost))[j]'(by first | omega | (simp; done) | (simp; omega)) < (((w1).length : Nat) : Int)))) rfl (y_lss rfl rfl rfl) ?_
          refine q_y (v := .bool (decide ((planR (w1) (w2) (p) (lost))[j]'(by first | omega | (simp; done) | (simp; omega)) < (((w1).length : Nat) : Int)))) rfl (y_move rfl) ?_
          cases hc5 : (decide ((planR (w1) (w2) (p) (lost))[j]'(by first | omega | (simp; done) | (simp; omega)) < (((w1).length : Nat) : Int)) : Bool)
          ·
            have hc5' := of_decide_eq_false hc5
            -- way LTFTF
            refine q_guardF (j := 3) (d := 109) (b := false) rfl rfl rfl rfl ?_
            refine q_guardF (j := 3) (d := 109) (b := false) rfl rfl rfl rfl ?_
            refine q_guardF (j := 3) (d := 109) (b := false) rfl rfl rfl rfl ?_
            refine q_guardF (j := 3) (d := 109) (b := false) rfl rfl rfl rfl ?_
            refine q_guardF (j := 3) (d := 109) (b := false) rfl rfl rfl rfl ?_
            refine q_guardU (j := 8) (d := 114) rfl rfl rfl ?_
            refine q_guardU (j := 8) (d := 114) rfl rfl rfl ?_
            refine q_guardU (j := 8) (d := 114) rfl rfl rfl ?_
            refine q_guardU (j := 8) (d := 114) rfl rfl rfl ?_
            refine q_guardU (j := 8) (d := 114) rfl rfl rfl ?_
            refine q_guardU (j := 8) (d := 114) rfl rfl rfl ?_
            refine q_guardU (j := 8) (d := 114) rfl rfl rfl ?_
            refine q_guardU (j := 8) (d := 114) rfl rfl rfl ?_
            refine q_guardF (j := 3) (d := 109) (b := false) rfl rfl rfl rfl ?_
            refine q_y (v := .bool (false)) rfl (y_pick (b := false) rfl rfl) ?_
            refine q_nil ?_
            refine o_nil ?_
            refine hK19 _ _ ?_
            refine c_cond (t := false) rfl (fun h => by cases h) (fun _ => ?_)
            refine c_skip ?_
            refine hK12 _ _ ?_
            refine c_region ?_
            refine o_y (v := .int .i64 (((j : Nat) : Int))) rfl rfl (y_move h1_12) ?_
            refine o_y (v := .int .i64 ((((j : Nat) : Int)) + 1)) rfl rfl (y_add rfl rfl (wi_i64 (by omega) (by omega))) ?_
            refine o_y (v := .int .i64 ((((j : Nat) : Int)) + 1)) rfl rfl (y_assign rfl) ?_
            refine o_nil ?_
            refine ⟨_, by omega, j + 1, rfl, by omega, h1_0, h1_1, h1_2, h1_3, h1_9, h1_11, (ie (a := (((j : Nat) : Int)) + 1) (b := ((j + 1 : Nat) : Int)) (by omega)), rfl⟩
          ·
            have hc5' := of_decide_eq_true hc5
            -- way LTFTT
            refine q_guardT (j := 3) (d := 109) rfl rfl rfl ?_
            refine q_y (v := .slice (a2) ((w2).length) (cap2)) rfl (y_move h1_1) ?_
            refine q_guardT (j := 3) (d := 109) rfl rfl rfl ?_
            refine q_y (v := .int .i64 ((planR (w1) (w2) (p) (lost))[j]'(by first | omega | (simp; done) | (simp; omega)))) rfl (y_move rfl) ?_
            refine q_guardT (j := 3) (d := 109) rfl rfl rfl ?_
            refine q_y (v := .pointer (some ⟨b2, o2 + (((planR (w1) (w2) (p) (lost))[j]'(by first | omega | (simp; done) | (simp; omega))).toNat) * 1, none⟩)) rfl (y_ixO (((planR (w1) (w2) (p) (lost))[j]'(by first | omega | (simp; done) | (simp; omega))).toNat) (hs2.at_ (by omega)) rfl rfl Try.underlying22 s4 (by omega) (by first | omega | (simp; done) | (simp; omega))) ?_
            refine q_guardT (j := 3) (d := 109) rfl rfl rfl ?_
            refine q_y (v := .bool (false)) rfl (y_bool (y_load rfl Try.underlying4 rfl (SlG.rd (SlG.old hs2 (fun _ h => h)) (((planR (w1) (w2) (p) (lost))[j]'(by first | omega | (simp; done) | (simp; omega))).toNat) (by first | omega | (simp; done) | (simp; omega)))) ((getD_get _ _ _).symm.trans (hm.2.2.2.2 (by omega)).1)) ?_
            refine q_guardT (j := 3) (d := 109) rfl rfl rfl ?_
            refine q_y (v := .bool (false)) rfl (y_move rfl) ?_
            refine q_guardT (j := 8) (d := 114) rfl rfl rfl ?_
            refine q_y (v := .slice (a1) ((w1).length) (cap1)) rfl (y_move h1_0) ?_
            refine q_guardT (j := 8) (d := 114) rfl rfl rfl ?_
            refine q_y (v := .int .i64 ((planR (w1) (w2) (p) (lost))[j]'(by first | omega | (simp; done) | (simp; omega)))) rfl (y_move rfl) ?_
            refine q_guardT (j := 8) (d := 114) rfl rfl rfl ?_
            refine q_y (v := .pointer (some ⟨b1, o1 + (((planR (w1) (w2) (p) (lost))[j]'(by first | omega | (simp; done) | (simp; omega))).toNat) * 1, none⟩)) rfl (y_ixO (((planR (w1) (w2) (p) (lost))[j]'(by first | omega | (simp; done) | (simp; omega))).toNat) (hs1.at_ (by omega)) rfl rfl Try.underlying22 s4 (by omega) (by first | omega | (simp; done) | (simp; omega))) ?_
            refine q_guardT (j := 8) (d := 114) rfl rfl rfl ?_
            refine q_y (v := .bool ((w1)[((planR (w1) (w2) (p) (lost))[j]'(by first | omega | (simp; done) | (simp; omega))).toNat])) rfl (y_load rfl Try.underlying4 rfl (SlG.rd (SlG.old hs1 (fun _ h => h)) (((planR (w1) (w2) (p) (lost))[j]'(by first | omega | (simp; done) | (simp; omega))).toNat) (by first | omega | (simp; done) | (simp; omega)))) ?_
            refine q_guardT (j := 8) (d := 114) rfl rfl rfl ?_
            refine q_y (v := .pointer (some ⟨g2, 0, none⟩)) rfl (y_fieldAddr (k := 0) h1_9 Try.underlying25 rfl rfl ⟨_, s5⟩ (by first | rfl | omega)) ?_
            refine q_guardT (j := 8) (d := 114) rfl rfl rfl ?_
            refine q_y (v := .int .u8 (planW (w1) (w2) (p) (lost))) rfl (y_load rfl Try.underlying5 rfl (Rd.one (k := 0) rfl rfl)) ?_
            refine q_guardT (j := 8) (d := 114) rfl rfl rfl ?_
            refine q_y (v := .bool (decide (planW (w1) (w2) (p) (lost) = 4))) rfl (y_eql rfl rfl rfl) ?_
            refine q_guardT (j := 8) (d := 114) rfl rfl rfl ?_
            refine q_y (v := .bool (false)) rfl (y_bool (y_neqB rfl rfl Try.underlying4 rfl) (by rw [← getD_get, (hm.2.2.2.2 (by omega)).2]; simp)) ?_
            refine q_guardT (j := 3) (d := 109) rfl rfl rfl ?_
            refine q_y (v := .bool (false)) rfl (y_pick (b := false) rfl rfl) ?_
            refine q_y (v := .bool (false)) rfl (y_pick (b := true) rfl rfl) ?_
            refine q_nil ?_
            refine o_nil ?_
            refine hK19 _ _ ?_
            refine c_cond (t := false) rfl (fun h => by cases h) (fun _ => ?_)
            refine c_skip ?_
            refine hK12 _ _ ?_
            refine c_region ?_
            refine o_y (v := .int .i64 (((j : Nat) : Int))) rfl rfl (y_move h1_12) ?_
            refine o_y (v := .int .i64 ((((j : Nat) : Int)) + 1)) rfl rfl (y_add rfl rfl (wi_i64 (by omega) (by omega))) ?_
            refine o_y (v := .int .i64 ((((j : Nat) : Int)) + 1)) rfl rfl (y_assign rfl) ?_
            refine o_nil ?_
            refine ⟨_, by omega, j + 1, rfl, by omega, h1_0, h1_1, h1_2, h1_3, h1_9, h1_11, (ie (a := (((j : Nat) : Int)) + 1) (b := ((j + 1 : Nat) : Int)) (by omega)), rfl⟩
      ·
        have hc2' := of_decide_eq_true hc2
        -- way LTT
        refine o_guard (j := 15) (d := 84) (b := true) rfl rfl rfl (fun _ => ?_) rfl (fun h => by cases h)
        refine o_y (v := .pointer (some ⟨g2, 1, none⟩)) rfl rfl (y_fieldAddr (k := 1) h1_9 Try.underlying25 rfl rfl ⟨_, s23⟩ (by first | rfl | omega)) ?_
        refine o_guard (j := 15) (d := 84) (b := true) rfl rfl rfl (fun _ => ?_) rfl (fun h => by cases h)
        refine o_y (v := .slice (ap1) ((planR (w1) (w2) (p) (lost)).length) (capp1)) rfl rfl (y_load rfl Try.underlying23 rfl (Rd.one (k := 0) rfl rfl)) ?_
        refine o_guard (j := 15) (d := 84) (b := true) rfl rfl rfl (fun _ => ?_) rfl (fun h => by cases h)
        refine o_y (v := .int .i64 (((j : Nat) : Int))) rfl rfl (y_move h1_12) ?_
        refine o_guard (j := 15) (d := 84) (b := true) rfl rfl rfl (fun _ => ?_) rfl (fun h => by cases h)
        refine o_y (v := .int .i64 ((((j : Nat) : Int)) - 1)) rfl rfl (y_sub rfl rfl (wi_i64 (by omega) (by omega))) ?_
        refine o_guard (j := 15) (d := 84) (b := true) rfl rfl rfl (fun _ => ?_) rfl (fun h => by cases h)
        refine o_y (v := .pointer (some ⟨gp1, 0 + (((((j : Nat) : Int)) - 1).toNat) * 1, none⟩)) rfl rfl (y_ixO (((((j : Nat) : Int)) - 1).toNat) (hvp1.at_ (by first | omega | (simp; done) | (simp; omega))) rfl rfl Try.underlying23 s3 (by omega) (by first | omega | (simp; done) | (simp; omega))) ?_
        refine o_guard (j := 15) (d := 84) (b := true) rfl rfl rfl (fun _ => ?_) rfl (fun h => by cases h)
        refine o_y (v := .int .i64 ((planR (w1) (w2) (p) (lost))[((((j : Nat) : Int)) - 1).toNat]'(by first | omega | (simp; done) | (simp; omega)))) rfl rfl (y_load rfl Try.underlying3 rfl (SlG.rd (SlG.own hvp1 (fun p hp => (List.mem_cons_of_mem _ hp))) (((((j : Nat) : Int)) - 1).toNat) (by first | omega | (simp; done) | (simp; omega)))) ?_
        refine o_guard (j := 15) (d := 84) (b := true) rfl rfl rfl (fun _ => ?_) rfl (fun h => by cases h)
        refine o_y (v := .int .i64 ((planR (w1) (w2) (p) (lost))[j]'(by first | omega | (simp; done) | (simp; omega)))) rfl rfl (y_move rfl) ?_
        refine o_guard (j := 15) (d := 84) (b := true) rfl rfl rfl (fun _ => ?_) rfl (fun h => by cases h)
        refine o_y (v := .bool (false)) rfl rfl (y_bool (y_geq rfl rfl rfl) (decide_eq_false (by have h := srt_at hg.srt j (by omega) (by omega); have e : (((j : Nat) : Int) - 1).toNat = j - 1 := (by omega); simp only [e]; omega))) ?_
        refine o_guard (j := 12) (d := 81) (b := false) rfl rfl rfl (fun _ => ?_) rfl (fun h => by cases h)
        refine o_y (v := .bool (false)) rfl rfl (y_pick (b := true) rfl rfl) ?_
        refine o_y (v := .bool (false)) rfl rfl (y_pick (b := false) rfl rfl) ?_
        refine o_nil ?_
        refine hK15 _ _ ?_
        refine c_cond (t := false) rfl (fun h => by cases h) (fun _ => ?_)
        refine c_skip ?_
        refine hK14 _ _ ?_
        refine c_seq fun K20 hK20 => ?_
        refine c_seq fun K21 hK21 => ?_
        refine c_region ?_
        refine o_y (v := .int .i64 ((planR (w1) (w2) (p) (lost))[j]'(by first | omega | (simp; done) | (simp; omega)))) rfl rfl (y_move rfl) ?_
        refine o_y (v := .int .i64 ((((w1).length : Nat) : Int))) rfl rfl (y_move h1_11) ?_
        refine o_y (v := .bool (decide ((planR (w1) (w2) (p) (lost))[j]'(by first | omega | (simp; done) | (simp; omega)) = (((w1).length : Nat) : Int)))) rfl rfl (y_eql rfl rfl rfl) ?_
        refine o_y (v := .bool (decide ((planR (w1) (w2) (p) (lost))[j]'(by first | omega | (simp; done) | (simp; omega)) = (((w1).length : Nat) : Int)))) rfl rfl (y_move rfl) ?_
        cases hc6 : (decide ((planR (w1) (w2) (p) (lost))[j]'(by first | omega | (simp; done) | (simp; omega)) = (((w1).length : Nat) : Int)) : Bool)
        ·
          have hc6' := of_decide_eq_false hc6
          -- way LTTF
          refine o_guard (j := 3) (d := 98) (b := false) rfl rfl rfl (fun h => by cases h) rfl (fun _ => ?_)
          refine o_guard (j := 3) (d := 98) (b := false) rfl rfl rfl (fun h => by cases h) rfl (fun _ => ?_)
          refine o_guardU (j := 5) (d := 100) rfl rfl rfl rfl ?_
          refine o_guardU (j := 5) (d := 100) rfl rfl rfl rfl ?_
          refine o_guardU (j := 5) (d := 100) rfl rfl rfl rfl ?_
          refine o_guard (j := 3) (d := 98) (b := false) rfl rfl rfl (fun h => by cases h) rfl (fun _ => ?_)
          refine o_y (v := .bool (false)) rfl rfl (y_pick (b := false) rfl rfl) ?_
          refine o_nil ?_
          refine hK21 _ _ ?_
          refine c_cond (t := false) rfl (fun h => by cases h) (fun _ => ?_)
          refine c_skip ?_
          refine hK20 _ _ ?_
          refine c_seq fun K22 hK22 => ?_
          refine c_draw 19 (by kernel_rfl) (by kernel_rfl) ?_
          refine q_y (v := .int .i64 ((planR (w1) (w2) (p) (lost))[j]'(by first | omega | (simp; done) | (simp; omega)))) rfl (y_move rfl) ?_
          refine q_y (v := .int .i64 ((((w1).length : Nat) : Int))) rfl (y_move h1_11) ?_
          refine q_y (v := .bool (decide ((planR (w1) (w2) (p) (lost))[j]'(by first | omega | (simp; done) | (simp; omega)) < (((w1).length : Nat) : Int)))) rfl (y_lss rfl rfl rfl) ?_
          refine q_y (v := .bool (decide ((planR (w1) (w2) (p) (lost))[j]'(by first | omega | (simp; done) | (simp; omega)) < (((w1).length : Nat) : Int)))) rfl (y_move rfl) ?_
          cases hc7 : (decide ((planR (w1) (w2) (p) (lost))[j]'(by first | omega | (simp; done) | (simp; omega)) < (((w1).length : Nat) : Int)) : Bool)
          ·
            have hc7' := of_decide_eq_false hc7
            -- way LTTFF
            refine q_guardF (j := 3) (d := 109) (b := false) rfl rfl rfl rfl ?_
            refine q_guardF (j := 3) (d := 109) (b := false) rfl rfl rfl rfl ?_
            refine q_guardF (j := 3) (d := 109) (b := false) rfl rfl rfl rfl ?_
            refine q_guardF (j := 3) (d := 109) (b := false) rfl rfl rfl rfl ?_
            refine q_guardF (j := 3) (d := 109) (b := false) rfl rfl rfl rfl ?_
            refine q_guardU (j := 8) (d := 114) rfl rfl rfl ?_
            refine q_guardU (j := 8) (d := 114) rfl rfl rfl ?_
            refine q_guardU (j := 8) (d := 114) rfl rfl rfl ?_
            refine q_guardU (j := 8) (d := 114) rfl rfl rfl ?_
            refine q_guardU (j := 8) (d := 114) rfl rfl rfl ?_
            refine q_guardU (j := 8) (d := 114) rfl rfl rfl ?_
            refine q_guardU (j := 8) (d := 114) rfl rfl rfl ?_
            refine q_guardU (j := 8) (d := 114) rfl rfl rfl ?_
            refine q_guardF (j := 3) (d := 109) (b := false) rfl rfl rfl rfl ?_
            refine q_y (v := .bool (false)) rfl (y_pick (b := false) rfl rfl) ?_
            refine q_nil ?_
            refine o_nil ?_
            refine hK22 _ _ ?_
            refine c_cond (t := false) rfl (fun h => by cases h) (fun _ => ?_)
            refine c_skip ?_
            refine hK12 _ _ ?_
            refine c_region ?_
            refine o_y (v := .int .i64 (((j : Nat) : Int))) rfl rfl (y_move h1_12) ?_
            refine o_y (v := .int .i64 ((((j : Nat) : Int)) + 1)) rfl rfl (y_add rfl rfl (wi_i64 (by omega) (by omega))) ?_
            refine o_y (v := .int .i64 ((((j : Nat) : Int)) + 1)) rfl rfl (y_assign rfl) ?_
            refine o_nil ?_
            refine ⟨_, by omega, j + 1, rfl, by omega, h1_0, h1_1, h1_2, h1_3, h1_9, h1_11, (ie (a := (((j : Nat) : Int)) + 1) (b := ((j + 1 : Nat) : Int)) (by omega)), rfl⟩
          ·
            have hc7' := of_decide_eq_true hc7
            -- way LTTFT
            refine q_guardT (j := 3) (d := 109) rfl rfl rfl ?_
            refine q_y (v := .slice (a2) ((w2).length) (cap2)) rfl (y_move h1_1) ?_
            refine q_guardT (j := 3) (d := 109) rfl rfl rfl ?_
            refine q_y (v := .int .i64 ((planR (w1) (w2) (p) (lost))[j]'(by first | omega | (simp; done) | (simp; omega)))) rfl (y_move rfl) ?_
            refine q_guardT (j := 3) (d := 109) rfl rfl rfl ?_
            refine q_y (v := .pointer (some ⟨b2, o2 + (((planR (w1) (w2) (p) (lost))[j]'(by first | omega | (simp; done) | (simp; omega))).toNat) * 1, none⟩)) rfl (y_ixO (((planR (w1) (w2) (p) (lost))[j]'(by first | omega | (simp; done) | (simp; omega))).toNat) (hs2.at_ (by omega)) rfl rfl Try.underlying22 s4 (by omega) (by first | omega | (simp; done) | (simp; omega))) ?_
            refine q_guardT (j := 3) (d := 109) rfl rfl rfl ?_
            refine q_y (v := .bool (false)) rfl (y_bool (y_load rfl Try.underlying4 rfl (SlG.rd (SlG.old hs2 (fun _ h => h)) (((planR (w1) (w2) (p) (lost))[j]'(by first | omega | (simp; done) | (simp; omega))).toNat) (by first | omega | (simp; done) | (simp; omega)))) ((getD_get _ _ _).symm.trans (hm.2.2.2.2 (by omega)).1)) ?_
            refine q_guardT (j := 3) (d := 109) rfl rfl rfl ?_
            refine q_y (v := .bool (false)) rfl (y_move rfl) ?_
            refine q_guardT (j := 8) (d := 114) rfl rfl rfl ?_
            refine q_y (v := .slice (a1) ((w1).length) (cap1)) rfl (y_move h1_0) ?_
            refine q_guardT (j := 8) (d := 114) rfl rfl rfl ?_
            refine q_y (v := .int .i64 ((planR (w1) (w2) (p) (lost))[j]'(by first | omega | (simp; done) | (simp; omega)))) rfl (y_move rfl) ?_
            refine q_guardT (j := 8) (d := 114) rfl rfl rfl ?_
            refine q_y (v := .pointer (some ⟨b1, o1 + (((planR (w1) (w2) (p) (lost))[j]'(by first | omega | (simp; done) | (simp; omega))).toNat) * 1, none⟩)) rfl (y_ixO (((planR (w1) (w2) (p) (lost))[j]'(by first | omega | (simp; done) | (simp; omega))).toNat) (hs1.at_ (by omega)) rfl rfl Try.underlying22 s4 (by omega) (by first | omega | (simp; done) | (simp; omega))) ?_
            refine q_guardT (j := 8) (d := 114) rfl rfl rfl ?_
            refine q_y (v := .bool ((w1)[((planR (w1) (w2) (p) (lost))[j]'(by first | omega | (simp; done) | (simp; omega))).toNat])) rfl (y_load rfl Try.underlying4 rfl (SlG.rd (SlG.old hs1 (fun _ h => h)) (((planR (w1) (w2) (p) (lost))[j]'(by first | omega | (simp; done) | (simp; omega))).toNat) (by first | omega | (simp; done) | (simp; omega)))) ?_
            refine q_guardT (j := 8) (d := 114) rfl rfl rfl ?_
            refine q_y (v := .pointer (some ⟨g2, 0, none⟩)) rfl (y_fieldAddr (k := 0) h1_9 Try.underlying25 rfl rfl ⟨_, s5⟩ (by first | rfl | omega)) ?_
            refine q_guardT (j := 8) (d := 114) rfl rfl rfl ?_
            refine q_y (v := .int .u8 (planW (w1) (w2) (p) (lost))) rfl (y_load rfl Try.underlying5 rfl (Rd.one (k := 0) rfl rfl)) ?_
            refine q_guardT (j := 8) (d := 114) rfl rfl rfl ?_
            refine q_y (v := .bool (decide (planW (w1) (w2) (p) (lost) = 4))) rfl (y_eql rfl rfl rfl) ?_
            refine q_guardT (j := 8) (d := 114) rfl rfl rfl ?_
            refine q_y (v := .bool (false)) rfl (y_bool (y_neqB rfl rfl Try.underlying4 rfl) (by rw [← getD_get, (hm.2.2.2.2 (by omega)).2]; simp)) ?_
            refine q_guardT (j := 3) (d := 109) rfl rfl rfl ?_
            refine q_y (v := .bool (false)) rfl (y_pick (b := false) rfl rfl) ?_
            refine q_y (v := .bool (false)) rfl (y_pick (b := true) rfl rfl) ?_
            refine q_nil ?_
            refine o_nil ?_
            refine hK22 _ _ ?_
            refine c_cond (t := false) rfl (fun h => by cases h) (fun _ => ?_)
            refine c_skip ?_
            refine hK12 _ _ ?_
            refine c_region ?_
            refine o_y (v := .int .i64 (((j : Nat) : Int))) rfl rfl (y_move h1_12) ?_
            refine o_y (v := .int .i64 ((((j : Nat) : Int)) + 1)) rfl rfl (y_add rfl rfl (wi_i64 (by omega) (by omega))) ?_
            refine o_y (v := .int .i64 ((((j : Nat) : Int)) + 1)) rfl rfl (y_assign rfl) ?_
            refine o_nil ?_
            refine ⟨_, by omega, j + 1, rfl, by omega, h1_0, h1_1, h1_2, h1_3, h1_9, h1_11, (ie (a := (((j : Nat) : Int)) + 1) (b := ((j + 1 : Nat) : Int)) (by omega)), rfl⟩
        ·
          have hc6' := of_decide_eq_true hc6
          -- way LTTT
          refine o_guard (j := 3) (d := 98) (b := true) rfl rfl rfl (fun _ => ?_) rfl (fun h => by cases h)
          refine o_y (v := .bool (false)) rfl rfl (y_bool (y_move h1_2) ((hm.2.2.2.1 (by omega)).1)) ?_
          refine o_guard (j := 3) (d := 98) (b := true) rfl rfl rfl (fun _ => ?_) rfl (fun h => by cases h)
          refine o_y (v := .bool (false)) rfl rfl (y_move rfl) ?_
          refine o_guard (j := 5) (d := 100) (b := false) rfl rfl rfl (fun _ => ?_) rfl (fun h => by cases h)
          refine o_y (v := .pointer (some ⟨g2, 0, none⟩)) rfl rfl (y_fieldAddr (k := 0) h1_9 Try.underlying25 rfl rfl ⟨_, s5⟩ (by first | rfl | omega)) ?_
          refine o_guard (j := 5) (d := 100) (b := false) rfl rfl rfl (fun _ => ?_) rfl (fun h => by cases h)
          refine o_y (v := .int .u8 (planW (w1) (w2) (p) (lost))) rfl rfl (y_load rfl Try.underlying5 rfl (Rd.one (k := 0) rfl rfl)) ?_
          refine o_guard (j := 5) (d := 100) (b := false) rfl rfl rfl (fun _ => ?_) rfl (fun h => by cases h)
          refine o_y (v := .bool (false)) rfl rfl (y_bool (y_neq rfl rfl rfl) (decide_eq_false (by omega))) ?_
          refine o_guard (j := 3) (d := 98) (b := true) rfl rfl rfl (fun _ => ?_) rfl (fun h => by cases h)
          refine o_y (v := .bool (false)) rfl rfl (y_pick (b := false) rfl rfl) ?_
          refine o_y (v := .bool (false)) rfl rfl (y_pick (b := true) rfl rfl) ?_
          refine o_nil ?_
          refine hK21 _ _ ?_
          refine c_cond (t := false) rfl (fun h => by cases h) (fun _ => ?_)
          refine c_skip ?_
          refine hK20 _ _ ?_
          refine c_seq fun K23 hK23 => ?_
          refine c_draw 19 (by kernel_rfl) (by kernel_rfl) ?_
          refine q_y (v := .int .i64 ((planR (w1) (w2) (p) (lost))[j]'(by first | omega | (simp; done) | (simp; omega)))) rfl (y_move rfl) ?_
          refine q_y (v := .int .i64 ((((w1).length : Nat) : Int))) rfl (y_move h1_11) ?_
          refine q_y (v := .bool (decide ((planR (w1) (w2) (p) (lost))[j]'(by first | omega | (simp; done) | (simp; omega)) < (((w1).length : Nat) : Int)))) rfl (y_lss rfl rfl rfl) ?_
          refine q_y (v := .bool (decide ((planR (w1) (w2) (p) (lost))[j]'(by first | omega | (simp; done) | (simp; omega)) < (((w1).length : Nat) : Int)))) rfl (y_move rfl) ?_
          cases hc8 : (decide ((planR (w1) (w2) (p) (lost))[j]'(by first | omega | (simp; done) | (simp; omega)) < (((w1).length : Nat) : Int)) : Bool)
          ·
            have hc8' := of_decide_eq_false hc8
            -- way LTTTF
            refine q_guardF (j := 3) (d := 109) (b := false) rfl rfl rfl rfl ?_
            refine q_guardF (j := 3) (d := 109) (b := false) rfl rfl rfl rfl ?_
            refine q_guardF (j := 3) (d := 109) (b := false) rfl rfl rfl rfl ?_
            refine q_guardF (j := 3) (d := 109) (b := false) rfl rfl rfl rfl ?_
            refine q_guardF (j := 3) (d := 109) (b := false) rfl rfl rfl rfl ?_
            refine q_guardU (j := 8) (d := 114) rfl rfl rfl ?_
            refine q_guardU (j := 8) (d := 114) rfl rfl rfl ?_
            refine q_guardU (j := 8) (d := 114) rfl rfl rfl ?_
            refine q_guardU (j := 8) (d := 114) rfl rfl rfl ?_
            refine q_guardU (j := 8) (d := 114) rfl rfl rfl ?_
            refine q_guardU (j := 8) (d := 114) rfl rfl rfl ?_
            refine q_guardU (j := 8) (d := 114) rfl rfl rfl ?_
            refine q_guardU (j := 8) (d := 114) rfl rfl rfl ?_
            refine q_guardF (j := 3) (d := 109) (b := false) rfl rfl rfl rfl ?_
            refine q_y (v := .bool (false)) rfl (y_pick (b := false) rfl rfl) ?_
            refine q_nil ?_
            refine o_nil ?_
            refine hK23 _ _ ?_
            refine c_cond (t := false) rfl (fun h => by cases h) (fun _ => ?_)
            refine c_skip ?_
            refine hK12 _ _ ?_
            refine c_region ?_
            refine o_y (v := .int .i64 (((j : Nat) : Int))) rfl rfl (y_move h1_12) ?_
            refine o_y (v := .int .i64 ((((j : Nat) : Int)) + 1)) rfl rfl (y_add rfl rfl (wi_i64 (by omega) (by omega))) ?_
            refine o_y (v := .int .i64 ((((j : Nat) : Int)) + 1)) rfl rfl (y_assign rfl) ?_
            refine o_nil ?_
            refine ⟨_, by omega, j + 1, rfl, by omega, h1_0, h1_1, h1_2, h1_3, h1_9, h1_11, (ie (a := (((j : Nat) : Int)) + 1) (b := ((j + 1 : Nat) : Int)) (by omega)), rfl⟩
          ·
            have hc8' := of_decide_eq_true hc8
            -- way LTTTT
            refine q_guardT (j := 3) (d := 109) rfl rfl rfl ?_
            refine q_y (v := .slice (a2) ((w2).length) (cap2)) rfl (y_move h1_1) ?_
            refine q_guardT (j := 3) (d := 109) rfl rfl rfl ?_
            refine q_y (v := .int .i64 ((planR (w1) (w2) (p) (lost))[j]'(by first | omega | (simp; done) | (simp; omega)))) rfl (y_move rfl) ?_
            refine q_guardT (j := 3) (d := 109) rfl rfl rfl ?_
            refine q_y (v := .pointer (some ⟨b2, o2 + (((planR (w1) (w2) (p) (lost))[j]'(by first | omega | (simp; done) | (simp; omega))).toNat) * 1, none⟩)) rfl (y_ixO (((planR (w1) (w2) (p) (lost))[j]'(by first | omega | (simp; done) | (simp; omega))).toNat) (hs2.at_ (by omega)) rfl rfl Try.underlying22 s4 (by omega) (by first | omega | (simp; done) | (simp; omega))) ?_
            refine q_guardT (j := 3) (d := 109) rfl rfl rfl ?_
            refine q_y (v := .bool (false)) rfl (y_bool (y_load rfl Try.underlying4 rfl (SlG.rd (SlG.old hs2 (fun _ h => h)) (((planR (w1) (w2) (p) (lost))[j]'(by first | omega | (simp; done) | (simp; omega))).toNat) (by first | omega | (simp; done) | (simp; omega)))) ((getD_get _ _ _).symm.trans (hm.2.2.2.2 (by omega)).1)) ?_
            refine q_guardT (j := 3) (d := 109) rfl rfl rfl ?_
            refine q_y (v := .bool (false)) rfl (y_move rfl) ?_
            refine q_guardT (j := 8) (d := 114) rfl rfl rfl ?_
            refine q_y (v := .slice (a1) ((w1).length) (cap1)) rfl (y_move h1_0) ?_
            refine q_guardT (j := 8) (d := 114) rfl rfl rfl ?_
            refine q_y (v := .int .i64 ((planR (w1) (w2) (p) (lost))[j]'(by first | omega | (simp; done) | (simp; omega)))) rfl (y_move rfl) ?_
            refine q_guardT (j := 8) (d := 114) rfl rfl rfl ?_
            refine q_y (v := .pointer (some ⟨b1, o1 + (((planR (w1) (w2) (p) (lost))[j]'(by first | omega | (simp; done) | (simp; omega))).toNat) * 1, none⟩)) rfl (y_ixO (((planR (w1) (w2) (p) (lost))[j]'(by first | omega | (simp; done) | (simp; omega))).toNat) (hs1.at_ (by omega)) rfl rfl Try.underlying22 s4 (by omega) (by first | omega | (simp; done) | (simp; omega))) ?_
            refine q_guardT (j := 8) (d := 114) rfl rfl rfl ?_
            refine q_y (v := .bool ((w1)[((planR (w1) (w2) (p) (lost))[j]'(by first | omega | (simp; done) | (simp; omega))).toNat])) rfl (y_load rfl Try.underlying4 rfl (SlG.rd (SlG.old hs1 (fun _ h => h)) (((planR (w1) (w2) (p) (lost))[j]'(by first | omega | (simp; done) | (simp; omega))).toNat) (by first | omega | (simp; done) | (simp; omega)))) ?_
            refine q_guardT (j := 8) (d := 114) rfl rfl rfl ?_
            refine q_y (v := .pointer (some ⟨g2, 0, none⟩)) rfl (y_fieldAddr (k := 0) h1_9 Try.underlying25 rfl rfl ⟨_, s5⟩ (by first | rfl | omega)) ?_
            refine q_guardT (j := 8) (d := 114) rfl rfl rfl ?_
            refine q_y (v := .int .u8 (planW (w1) (w2) (p) (lost))) rfl (y_load rfl Try.underlying5 rfl (Rd.one (k := 0) rfl rfl)) ?_
            refine q_guardT (j := 8) (d := 114) rfl rfl rfl ?_
            refine q_y (v := .bool (decide (planW (w1) (w2) (p) (lost) = 4))) rfl (y_eql rfl rfl rfl) ?_
            refine q_guardT (j := 8) (d := 114) rfl rfl rfl ?_
            refine q_y (v := .bool (false)) rfl (y_bool (y_neqB rfl rfl Try.underlying4 rfl) (by rw [← getD_get, (hm.2.2.2.2 (by omega)).2]; simp)) ?_
            refine q_guardT (j := 3) (d := 109) rfl rfl rfl ?_
            refine q_y (v := .bool (false)) rfl (y_pick (b := false) rfl rfl) ?_
            refine q_y (v := .bool (false)) rfl (y_pick (b := true) rfl rfl) ?_
            refine q_nil ?_
            refine o_nil ?_
            refine hK23 _ _ ?_
            refine c_cond (t := false) rfl (fun h => by cases h) (fun _ => ?_)
            refine c_skip ?_
            refine hK12 _ _ ?_
            refine c_region ?_
            refine o_y (v := .int .i64 (((j : Nat) : Int))) rfl rfl (y_move h1_12) ?_
            refine o_y (v := .int .i64 ((((j : Nat) : Int)) + 1)) rfl rfl (y_add rfl rfl (wi_i64 (by omega) (by omega))) ?_
            refine o_y (v := .int .i64 ((((j : Nat) : Int)) + 1)) rfl rfl (y_assign rfl) ?_
            refine o_nil ?_
            refine ⟨_, by omega, j + 1, rfl, by omega, h1_0, h1_1, h1_2, h1_3, h1_9, h1_11, (ie (a := (((j : Nat) : Int)) + 1) (b := ((j + 1 : Nat) : Int)) (by omega)), rfl⟩
    ·
      replace hc1 := of_decide_eq_false hc1
      -- way LF
      refine c_exit ?_
      refine hK8 _ _ ?_
      refine c_seq fun K24 hK24 => ?_
      refine c_seq fun K25 hK25 => ?_
      refine c_region ?_
      refine o_y (v := .pointer (some ⟨g2, 0, none⟩)) rfl rfl (y_fieldAddr (k := 0) h1_9 Try.underlying25 rfl rfl ⟨_, s5⟩ (by first | rfl | omega)) ?_
      refine o_y (v := .int .u8 (planW (w1) (w2) (p) (lost))) rfl rfl (y_load rfl Try.underlying5 rfl (Rd.one (k := 0) rfl rfl)) ?_
      refine o_y (v := .bool (decide (planW (w1) (w2) (p) (lost) = 1))) rfl rfl (y_eql rfl rfl rfl) ?_
      refine o_y (v := .bool (decide (planW (w1) (w2) (p) (lost) = 1))) rfl rfl (y_move rfl) ?_
      cases hc9 : (decide (planW (w1) (w2) (p) (lost) = 1) : Bool)
      ·
        have hc9' := of_decide_eq_false hc9
        -- way LFF
        refine o_guard (j := 3) (d := 128) (b := false) rfl rfl rfl (fun _ => ?_) rfl (fun h => by cases h)
        refine o_y (v := .pointer (some ⟨g2, 0, none⟩)) rfl rfl (y_fieldAddr (k := 0) h1_9 Try.underlying25 rfl rfl ⟨_, s5⟩ (by first | rfl | omega)) ?_
        refine o_guard (j := 3) (d := 128) (b := false) rfl rfl rfl (fun _ => ?_) rfl (fun h => by cases h)
        refine o_y (v := .int .u8 (planW (w1) (w2) (p) (lost))) rfl rfl (y_load rfl Try.underlying5 rfl (Rd.one (k := 0) rfl rfl)) ?_
        refine o_guard (j := 3) (d := 128) (b := false) rfl rfl rfl (fun _ => ?_) rfl (fun h => by cases h)
        refine o_y (v := .bool (decide (planW (w1) (w2) (p) (lost) = 2))) rfl rfl (y_eql rfl rfl rfl) ?_
        refine o_y (v := .bool (decide (planW (w1) (w2) (p) (lost) = 2))) rfl rfl (y_pick (b := false) rfl rfl) ?_
        refine o_nil ?_
        refine hK25 _ _ ?_
        refine c_cond (t := decide (planW (w1) (w2) (p) (lost) = 2)) rfl (fun hc10 => ?_) (fun hc10 => ?_)
        ·
          replace hc10 := of_decide_eq_true hc10
          -- way LFFT
          refine c_seq fun K26 hK26 => ?_
          refine c_region ?_
          refine o_y (v := .pointer (some ⟨g2, 1, none⟩)) rfl rfl (y_fieldAddr (k := 1) h1_9 Try.underlying25 rfl rfl ⟨_, s23⟩ (by first | rfl | omega)) ?_
          refine o_y (v := .slice (ap1) ((planR (w1) (w2) (p) (lost)).length) (capp1)) rfl rfl (y_load rfl Try.underlying23 rfl (Rd.one (k := 0) rfl rfl)) ?_
          refine o_y (v := .int .i64 ((((planR (w1) (w2) (p) (lost)).length : Nat) : Int))) rfl rfl (y_len rfl Try.underlying23) ?_
          refine o_y (v := .bool (true)) rfl rfl (y_bool (y_eql rfl rfl rfl) (decide_eq_true (by rw [hg.nil (by omega)]; rfl))) ?_
          refine o_y (v := .bool (true)) rfl rfl (y_move rfl) ?_
          refine o_guard (j := 4) (d := 137) (b := true) rfl rfl rfl (fun _ => ?_) rfl (fun h => by cases h)
          refine o_y (v := .bool (true)) rfl rfl (y_call (vs := []) b11 rfl (fun w hw => f11_lives w)) ?_
          refine o_y (v := .bool (true)) rfl rfl (y_pick (b := true) rfl rfl) ?_
          refine o_y (v := .bool (true)) rfl rfl (y_assign rfl) ?_
          refine o_nil ?_
          refine hK26 _ _ ?_
          refine c_ret ?_
          refine fun w hw => ⟨[.bool (true)], ⟨rfl, trivial⟩, ?_⟩
          exact rfl
        ·
          replace hc10 := of_decide_eq_false hc10
          -- way LFFF
          refine c_skip ?_
          refine hK24 _ _ ?_
          refine c_seq fun K27 hK27 => ?_
          refine c_region ?_
          refine o_y (v := .int .i64 (0)) rfl rfl (y_assign rfl) ?_
          refine o_nil ?_
          refine hK27 _ _ ?_
          refine c_seq fun K28 hK28 => ?_
          refine c_seq fun K29 hK29 => ?_
          refine c_region ?_
          refine o_y (v := .int .i64 (0)) rfl rfl (y_assign rfl) ?_
          refine o_nil ?_
          refine hK29 _ _ ?_
          refine c_block ?_
          refine c_loop (fun d R H => ∃ (i : Nat), d = w1.length - (i) ∧ (i ≤ w1.length) ∧ R 0 = .slice (a1) ((w1).length) (cap1) ∧ R 1 = .slice (a2) ((w2).length) (cap2) ∧ R 2 = .bool (p) ∧ R 3 = .int .i64 (lost) ∧ R 9 = .pointer (some ⟨g2, 0, none⟩) ∧ R 11 = .int .i64 ((((w1).length : Nat) : Int)) ∧ R 15 = .int .i64 (((i : Nat) : Int)) ∧ R 14 = .int .i64 (((sel w1 w2 (decide (planW w1 w2 p lost = 4)) (i)).length : Int)) ∧ H = ([(g2, .cells (#[.int .u8 (planW (w1) (w2) (p) (lost)), .slice (ap1) ((planR (w1) (w2) (p) (lost)).length) (capp1)]) 25 (0, 0))] ++ (Hp1) : Hp)) (w1.length - (0)) ?_ ?_
          ·
            refine ⟨0, rfl, by omega, h1_0, h1_1, h1_2, h1_3, h1_9, h1_11, (ie (a := 0) (b := ((0 : Nat) : Int)) (by omega)), rfl, rfl⟩
          ·
            rintro d2 R2 _ ⟨i, hd2, hv2_0, h2_0, h2_1, h2_2, h2_3, h2_9, h2_11, h2_15, h2_14, rfl⟩
            have hsl := sel_le w1 w2 (decide (planW w1 w2 p lost = 4)) i
            refine c_seq fun K30 hK30 => ?_
            refine c_seq fun K31 hK31 => ?_
            refine c_region ?_
            refine o_y (v := .int .i64 (((i : Nat) : Int))) rfl rfl (y_move h2_15) ?_
            refine o_y (v := .int .i64 ((((w1).length : Nat) : Int))) rfl rfl (y_move h2_11) ?_
            refine o_y (v := .bool (decide (((i : Nat) : Int) < (((w1).length : Nat) : Int)))) rfl rfl (y_lss rfl rfl rfl) ?_
            refine o_nil ?_
            refine hK31 _ _ ?_
            refine c_cond (t := decide (((i : Nat) : Int) < (((w1).length : Nat) : Int))) rfl (fun hc11 => ?_) (fun hc11 => ?_)
            ·
              replace hc11 := of_decide_eq_true hc11
              -- way LFFFLT
              refine c_skip ?_
              refine hK30 _ _ ?_
              refine c_seq fun K32 hK32 => ?_
              refine c_block ?_
              refine c_seq fun K33 hK33 => ?_
              refine c_draw 15 (by kernel_rfl) (by kernel_rfl) ?_
              refine q_y (v := .slice (a2) ((w2).length) (cap2)) rfl (y_move h2_1) ?_
              refine q_y (v := .int .i64 (((i : Nat) : Int))) rfl (y_move h2_15) ?_
              refine q_y (v := .pointer (some ⟨b2, o2 + i * 1, none⟩)) rfl (y_ixO i (hs2.at_ (by omega)) rfl rfl Try.underlying22 s4 (by omega) (by first | omega | (simp; done) | (simp; omega))) ?_
              refine q_y (v := .bool ((w2)[i])) rfl (y_load rfl Try.underlying4 rfl (SlG.rd (SlG.old hs2 (fun _ h => h)) i (by first | omega | (simp; done) | (simp; omega)))) ?_
              refine q_y (v := .bool (!((w2)[i]))) rfl (y_not rfl rfl) ?_
              refine q_y (v := .bool (!((w2)[i]))) rfl (y_move rfl) ?_
              cases hc12 : (!((w2)[i]) : Bool)
              ·
                try have hc12' : ((w2)[i]) = true := by simpa using hc12
                -- way LFFFLTF
                have hpk : pick w1 w2 (decide (planW w1 w2 p lost = 4)) i = false := pick_k _ _ _ _ (by omega) (by simpa using hc12)
                refine q_guardF (j := 5) (d := 150) (b := false) rfl rfl rfl rfl ?_
                refine q_guardF (j := 5) (d := 150) (b := false) rfl rfl rfl rfl ?_
                refine q_guardF (j := 5) (d := 150) (b := false) rfl rfl rfl rfl ?_
                refine q_guardF (j := 5) (d := 150) (b := false) rfl rfl rfl rfl ?_
                refine q_guardF (j := 5) (d := 150) (b := false) rfl rfl rfl rfl ?_
                refine q_guardF (j := 5) (d := 150) (b := false) rfl rfl rfl rfl ?_
                refine q_guardF (j := 5) (d := 150) (b := false) rfl rfl rfl rfl ?_
                refine q_guardF (j := 5) (d := 150) (b := false) rfl rfl rfl rfl ?_
                refine q_y (v := .bool (false)) rfl (y_pick (b := false) rfl rfl) ?_
                refine q_nil ?_
                refine o_nil ?_
                refine hK33 _ _ ?_
                refine c_cond (t := false) rfl (fun h => by cases h) (fun _ => ?_)
                refine c_skip ?_
                refine hK32 _ _ ?_
                refine c_region ?_
                refine o_y (v := .int .i64 (((i : Nat) : Int))) rfl rfl (y_move h2_15) ?_
                refine o_y (v := .int .i64 ((((i : Nat) : Int)) + 1)) rfl rfl (y_add rfl rfl (wi_i64 (by omega) (by omega))) ?_
                refine o_y (v := .int .i64 ((((i : Nat) : Int)) + 1)) rfl rfl (y_assign rfl) ?_
                refine o_nil ?_
                refine ⟨_, by omega, i + 1, rfl, by omega, h2_0, h2_1, h2_2, h2_3, h2_9, h2_11, (ie (a := (((i : Nat) : Int)) + 1) (b := ((i + 1 : Nat) : Int)) (by omega)), (by rw [sel_f hpk]; assumption), rfl⟩
              ·
                try have hc12' : ((w2)[i]) = false := by simpa using hc12
                -- way LFFFLTT
                refine q_guardT (j := 5) (d := 150) rfl rfl rfl ?_
                refine q_y (v := .slice (a1) ((w1).length) (cap1)) rfl (y_move h2_0) ?_
                refine q_guardT (j := 5) (d := 150) rfl rfl rfl ?_
                refine q_y (v := .int .i64 (((i : Nat) : Int))) rfl (y_move h2_15) ?_
                refine q_guardT (j := 5) (d := 150) rfl rfl rfl ?_
                refine q_y (v := .pointer (some ⟨b1, o1 + i * 1, none⟩)) rfl (y_ixO i (hs1.at_ (by omega)) rfl rfl Try.underlying22 s4 (by omega) (by first | omega | (simp; done) | (simp; omega))) ?_
                refine q_guardT (j := 5) (d := 150) rfl rfl rfl ?_
                refine q_y (v := .bool ((w1)[i])) rfl (y_load rfl Try.underlying4 rfl (SlG.rd (SlG.old hs1 (fun _ h => h)) i (by first | omega | (simp; done) | (simp; omega)))) ?_
                refine q_guardT (j := 5) (d := 150) rfl rfl rfl ?_
                refine q_y (v := .pointer (some ⟨g2, 0, none⟩)) rfl (y_fieldAddr (k := 0) h2_9 Try.underlying25 rfl rfl ⟨_, s5⟩ (by first | rfl | omega)) ?_
                refine q_guardT (j := 5) (d := 150) rfl rfl rfl ?_
                refine q_y (v := .int .u8 (planW (w1) (w2) (p) (lost))) rfl (y_load rfl Try.underlying5 rfl (Rd.one (k := 0) rfl rfl)) ?_
                refine q_guardT (j := 5) (d := 150) rfl rfl rfl ?_
                refine q_y (v := .bool (decide (planW (w1) (w2) (p) (lost) = 4))) rfl (y_eql rfl rfl rfl) ?_
                refine q_guardT (j := 5) (d := 150) rfl rfl rfl ?_
                refine q_y (v := .bool (((w1)[i]) == (decide (planW (w1) (w2) (p) (lost) = 4)))) rfl (y_eqlB rfl rfl Try.underlying4 rfl) ?_
                refine q_y (v := .bool (((w1)[i]) == (decide (planW (w1) (w2) (p) (lost) = 4)))) rfl (y_pick (b := true) rfl rfl) ?_
                refine q_nil ?_
                refine o_nil ?_
                refine hK33 _ _ ?_
                refine c_cond (t := ((w1)[i]) == (decide (planW (w1) (w2) (p) (lost) = 4))) rfl (fun hc13 => ?_) (fun hc13 => ?_)
                ·
                  -- way LFFFLTTT
                  have hpk := pick_t w1 w2 (decide (planW w1 w2 p lost = 4)) i (by omega) (by omega) (by simpa using hc13) (by simpa using hc12)
                  refine c_region ?_
                  refine o_y (v := .int .i64 (((sel w1 w2 (decide (planW w1 w2 p lost = 4)) (i)).length : Int))) rfl rfl (y_move h2_14) ?_
                  refine o_y (v := .int .i64 ((((sel w1 w2 (decide (planW w1 w2 p lost = 4)) (i)).length : Int)) + 1)) rfl rfl (y_add rfl rfl (wi_i64 (by omega) (by omega))) ?_
                  refine o_y (v := .int .i64 ((((sel w1 w2 (decide (planW w1 w2 p lost = 4)) (i)).length : Int)) + 1)) rfl rfl (y_assign rfl) ?_
                  refine o_nil ?_
                  refine hK32 _ _ ?_
                  refine c_region ?_
                  refine o_y (v := .int .i64 (((i : Nat) : Int))) rfl rfl (y_move h2_15) ?_
                  refine o_y (v := .int .i64 ((((i : Nat) : Int)) + 1)) rfl rfl (y_add rfl rfl (wi_i64 (by omega) (by omega))) ?_
                  refine o_y (v := .int .i64 ((((i : Nat) : Int)) + 1)) rfl rfl (y_assign rfl) ?_
                  refine o_nil ?_
                  refine ⟨_, by omega, i + 1, rfl, by omega, h2_0, h2_1, h2_2, h2_3, h2_9, h2_11, (ie (a := (((i : Nat) : Int)) + 1) (b := ((i + 1 : Nat) : Int)) (by omega)), (ie (by have h := congrArg List.length (sel_t hpk); rw [List.length_append, List.length_singleton] at h; omega)), rfl⟩
                ·
                  -- way LFFFLTTF
                  have hpk : pick w1 w2 (decide (planW w1 w2 p lost = 4)) i = false := pick_w _ _ _ _ (by omega) (by simpa using hc13)
                  refine c_skip ?_
                  refine hK32 _ _ ?_
                  refine c_region ?_
                  refine o_y (v := .int .i64 (((i : Nat) : Int))) rfl rfl (y_move h2_15) ?_
                  refine o_y (v := .int .i64 ((((i : Nat) : Int)) + 1)) rfl rfl (y_add rfl rfl (wi_i64 (by omega) (by omega))) ?_
                  refine o_y (v := .int .i64 ((((i : Nat) : Int)) + 1)) rfl rfl (y_assign rfl) ?_
                  refine o_nil ?_
                  refine ⟨_, by omega, i + 1, rfl, by omega, h2_0, h2_1, h2_2, h2_3, h2_9, h2_11, (ie (a := (((i : Nat) : Int)) + 1) (b := ((i + 1 : Nat) : Int)) (by omega)), (by rw [sel_f hpk]; assumption), rfl⟩
            ·
              replace hc11 := of_decide_eq_false hc11
              -- way LFFFLF
              refine c_exit ?_
              refine hK28 _ _ ?_
              refine c_seq fun K34 hK34 => ?_
              refine c_seq fun K35 hK35 => ?_
              refine c_region ?_
              refine o_y (v := .pointer (some ⟨g2, 0, none⟩)) rfl rfl (y_fieldAddr (k := 0) h2_9 Try.underlying25 rfl rfl ⟨_, s5⟩ (by first | rfl | omega)) ?_
              refine o_y (v := .int .u8 (planW (w1) (w2) (p) (lost))) rfl rfl (y_load rfl Try.underlying5 rfl (Rd.one (k := 0) rfl rfl)) ?_
              refine o_y (v := .bool (decide (planW (w1) (w2) (p) (lost) = 4))) rfl rfl (y_eql rfl rfl rfl) ?_
              refine o_y (v := .bool (decide (planW (w1) (w2) (p) (lost) = 4))) rfl rfl (y_move rfl) ?_
              cases hc14 : (decide (planW (w1) (w2) (p) (lost) = 4) : Bool)
              ·
                have hc14' := of_decide_eq_false hc14
                -- way LFFFLFF
                refine o_guard (j := 3) (d := 165) (b := false) rfl rfl rfl (fun h => by cases h) rfl (fun _ => ?_)
                refine o_guard (j := 3) (d := 165) (b := false) rfl rfl rfl (fun h => by cases h) rfl (fun _ => ?_)
                refine o_y (v := .bool (false)) rfl rfl (y_pick (b := false) rfl rfl) ?_
                refine o_nil ?_
                refine hK35 _ _ ?_
                refine c_cond (t := false) rfl (fun h => by cases h) (fun _ => ?_)
                refine c_skip ?_
                refine hK34 _ _ ?_
                refine c_seq fun K36 hK36 => ?_
                refine c_region ?_
                refine o_y (v := .int .i64 (((sel w1 w2 (decide (planW w1 w2 p lost = 4)) (i)).length : Int))) rfl rfl (y_move h2_14) ?_
                refine o_y (v := .pointer (some ⟨g2, 1, none⟩)) rfl rfl (y_fieldAddr (k := 1) h2_9 Try.underlying25 rfl rfl ⟨_, s23⟩ (by first | rfl | omega)) ?_
                refine o_y (v := .slice (ap1) ((planR (w1) (w2) (p) (lost)).length) (capp1)) rfl rfl (y_load rfl Try.underlying23 rfl (Rd.one (k := 0) rfl rfl)) ?_
                refine o_y (v := .int .i64 ((((planR (w1) (w2) (p) (lost)).length : Nat) : Int))) rfl rfl (y_len rfl Try.underlying23) ?_
                refine o_y (v := .bool (true)) rfl rfl (y_bool (y_eql rfl rfl rfl) (decide_eq_true (by have h := hg.many (by omega); have hi : i = w1.length := (by omega); subst hi; first | (rw [if_pos ⟨by omega, by assumption⟩] at h; omega) | (rw [if_neg (by rintro ⟨h1, h2⟩; first | omega | (exact tf (by first | assumption | (simpa using hc15)) h2))] at h; omega)))) ?_
                refine o_y (v := .bool (true)) rfl rfl (y_move rfl) ?_
                refine o_guard (j := 5) (d := 176) (b := true) rfl rfl rfl (fun _ => ?_) rfl (fun h => by cases h)
                refine o_y (v := .bool (true)) rfl rfl (y_call (vs := []) b11 rfl (fun w hw => f11_lives w)) ?_
                refine o_y (v := .bool (true)) rfl rfl (y_pick (b := true) rfl rfl) ?_
                refine o_y (v := .bool (true)) rfl rfl (y_assign rfl) ?_
                refine o_nil ?_
                refine hK36 _ _ ?_
                refine c_ret ?_
                refine fun w hw => ⟨[.bool (true)], ⟨rfl, trivial⟩, ?_⟩
                exact rfl
              ·
                have hc14' := of_decide_eq_true hc14
                -- way LFFFLFT
                refine o_guard (j := 3) (d := 165) (b := true) rfl rfl rfl (fun _ => ?_) rfl (fun h => by cases h)
                refine o_y (v := .bool (p)) rfl rfl (y_move h2_2) ?_
                refine o_guard (j := 3) (d := 165) (b := true) rfl rfl rfl (fun _ => ?_) rfl (fun h => by cases h)
                refine o_y (v := .bool (!(p))) rfl rfl (y_not rfl rfl) ?_
                refine o_y (v := .bool (!(p))) rfl rfl (y_pick (b := true) rfl rfl) ?_
                refine o_nil ?_
                refine hK35 _ _ ?_
                refine c_cond (t := !(p)) rfl (fun hc15 => ?_) (fun hc15 => ?_)
                ·
                  try have hc15' : (p) = false := by simpa using hc15
                  -- way LFFFLFTT
                  refine c_region ?_
                  refine o_y (v := .int .i64 (((sel w1 w2 (decide (planW w1 w2 p lost = 4)) (i)).length : Int))) rfl rfl (y_move h2_14) ?_
                  refine o_y (v := .int .i64 ((((sel w1 w2 (decide (planW w1 w2 p lost = 4)) (i)).length : Int)) + 1)) rfl rfl (y_add rfl rfl (wi_i64 (by omega) (by omega))) ?_
                  refine o_y (v := .int .i64 ((((sel w1 w2 (decide (planW w1 w2 p lost = 4)) (i)).length : Int)) + 1)) rfl rfl (y_assign rfl) ?_
                  refine o_nil ?_
                  refine hK34 _ _ ?_
                  refine c_seq fun K37 hK37 => ?_
                  refine c_region ?_
                  refine o_y (v := .int .i64 ((((sel w1 w2 (decide (planW w1 w2 p lost = 4)) (i)).length : Int)) + 1)) rfl rfl (y_move rfl) ?_
                  refine o_y (v := .pointer (some ⟨g2, 1, none⟩)) rfl rfl (y_fieldAddr (k := 1) h2_9 Try.underlying25 rfl rfl ⟨_, s23⟩ (by first | rfl | omega)) ?_
                  refine o_y (v := .slice (ap1) ((planR (w1) (w2) (p) (lost)).length) (capp1)) rfl rfl (y_load rfl Try.underlying23 rfl (Rd.one (k := 0) rfl rfl)) ?_
                  refine o_y (v := .int .i64 ((((planR (w1) (w2) (p) (lost)).length : Nat) : Int))) rfl rfl (y_len rfl Try.underlying23) ?_
                  refine o_y (v := .bool (true)) rfl rfl (y_bool (y_eql rfl rfl rfl) (decide_eq_true (by have h := hg.many (by omega); have hi : i = w1.length := (by omega); subst hi; first | (rw [if_pos ⟨by omega, by assumption⟩] at h; omega) | (rw [if_neg (by rintro ⟨h1, h2⟩; first | omega | (exact tf (by first | assumption | (simpa using hc15)) h2))] at h; omega)))) ?_
                  refine o_y (v := .bool (true)) rfl rfl (y_move rfl) ?_
                  refine o_guard (j := 5) (d := 176) (b := true) rfl rfl rfl (fun _ => ?_) rfl (fun h => by cases h)
                  refine o_y (v := .bool (true)) rfl rfl (y_call (vs := []) b11 rfl (fun w hw => f11_lives w)) ?_
                  refine o_y (v := .bool (true)) rfl rfl (y_pick (b := true) rfl rfl) ?_
                  refine o_y (v := .bool (true)) rfl rfl (y_assign rfl) ?_
                  refine o_nil ?_
                  refine hK37 _ _ ?_
                  refine c_ret ?_
                  refine fun w hw => ⟨[.bool (true)], ⟨rfl, trivial⟩, ?_⟩
                  exact rfl
                ·
                  try have hc15' : (p) = true := by simpa using hc15
                  -- way LFFFLFTF
                  refine c_skip ?_
                  refine hK34 _ _ ?_
                  refine c_seq fun K38 hK38 => ?_
                  refine c_region ?_
                  refine o_y (v := .int .i64 (((sel w1 w2 (decide (planW w1 w2 p lost = 4)) (i)).length : Int))) rfl rfl (y_move h2_14) ?_
                  refine o_y (v := .pointer (some ⟨g2, 1, none⟩)) rfl rfl (y_fieldAddr (k := 1) h2_9 Try.underlying25 rfl rfl ⟨_, s23⟩ (by first | rfl | omega)) ?_
                  refine o_y (v := .slice (ap1) ((planR (w1) (w2) (p) (lost)).length) (capp1)) rfl rfl (y_load rfl Try.underlying23 rfl (Rd.one (k := 0) rfl rfl)) ?_
                  refine o_y (v := .int .i64 ((((planR (w1) (w2) (p) (lost)).length : Nat) : Int))) rfl rfl (y_len rfl Try.underlying23) ?_
                  refine o_y (v := .bool (true)) rfl rfl (y_bool (y_eql rfl rfl rfl) (decide_eq_true (by have h := hg.many (by omega); have hi : i = w1.length := (by omega); subst hi; first | (rw [if_pos ⟨by omega, by assumption⟩] at h; omega) | (rw [if_neg (by rintro ⟨h1, h2⟩; first | omega | (exact tf (by first | assumption | (simpa using hc15)) h2))] at h; omega)))) ?_
                  refine o_y (v := .bool (true)) rfl rfl (y_move rfl) ?_
                  refine o_guard (j := 5) (d := 176) (b := true) rfl rfl rfl (fun _ => ?_) rfl (fun h => by cases h)
                  refine o_y (v := .bool (true)) rfl rfl (y_call (vs := []) b11 rfl (fun w hw => f11_lives w)) ?_
                  refine o_y (v := .bool (true)) rfl rfl (y_pick (b := true) rfl rfl) ?_
                  refine o_y (v := .bool (true)) rfl rfl (y_assign rfl) ?_
                  refine o_nil ?_
                  refine hK38 _ _ ?_
                  refine c_ret ?_
                  refine fun w hw => ⟨[.bool (true)], ⟨rfl, trivial⟩, ?_⟩
                  exact rfl
      ·
        have hc9' := of_decide_eq_true hc9
        -- way LFT
        refine o_guard (j := 3) (d := 128) (b := true) rfl rfl rfl (fun h => by cases h) rfl (fun _ => ?_)
        refine o_guard (j := 3) (d := 128) (b := true) rfl rfl rfl (fun h => by cases h) rfl (fun _ => ?_)
        refine o_guard (j := 3) (d := 128) (b := true) rfl rfl rfl (fun h => by cases h) rfl (fun _ => ?_)
        refine o_y (v := .bool (true)) rfl rfl (y_pick (b := true) rfl rfl) ?_
        refine o_nil ?_
        refine hK25 _ _ ?_
        refine c_cond (t := true) rfl (fun _ => ?_) (fun h => by cases h)
        refine c_seq fun K39 hK39 => ?_
        refine c_region ?_
        refine o_y (v := .pointer (some ⟨g2, 1, none⟩)) rfl rfl (y_fieldAddr (k := 1) h1_9 Try.underlying25 rfl rfl ⟨_, s23⟩ (by first | rfl | omega)) ?_
        refine o_y (v := .slice (ap1) ((planR (w1) (w2) (p) (lost)).length) (capp1)) rfl rfl (y_load rfl Try.underlying23 rfl (Rd.one (k := 0) rfl rfl)) ?_
        refine o_y (v := .int .i64 ((((planR (w1) (w2) (p) (lost)).length : Nat) : Int))) rfl rfl (y_len rfl Try.underlying23) ?_
        refine o_y (v := .bool (true)) rfl rfl (y_bool (y_eql rfl rfl rfl) (decide_eq_true (by rw [hg.nil (by omega)]; rfl))) ?_
        refine o_y (v := .bool (true)) rfl rfl (y_move rfl) ?_
        refine o_guard (j := 4) (d := 137) (b := true) rfl rfl rfl (fun _ => ?_) rfl (fun h => by cases h)
        refine o_y (v := .bool (true)) rfl rfl (y_call (vs := []) b11 rfl (fun w hw => f11_lives w)) ?_
        refine o_y (v := .bool (true)) rfl rfl (y_pick (b := true) rfl rfl) ?_
        refine o_y (v := .bool (true)) rfl rfl (y_assign rfl) ?_
        refine o_nil ?_
        refine hK39 _ _ ?_
        refine c_ret ?_
        refine fun w hw => ⟨[.bool (true)], ⟨rfl, trivial⟩, ?_⟩
        exact rfl

end Go.Proofs.Ytdekckpoolkgnaa.Plan
