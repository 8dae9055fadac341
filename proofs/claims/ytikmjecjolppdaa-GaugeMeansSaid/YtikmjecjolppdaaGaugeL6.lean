/- Proved: what a law of package gauge comes to; the conditions stand in the statements. -/
import Derived.Test.YtikmjecjolppdaaGaugeH
set_option linter.unusedVariables false
set_option linter.unusedSimpArgs false
namespace Go.Proofs.Ytikmjecjolppdaa.Gauge
open Go Go.RowKit Go.Proofs.Ytikmjecjolppdaa.Eng Go.Proofs.Ytikmjecjolppdaa.Fl

set_option maxRecDepth 100000 in
set_option maxHeartbeats 4000000 in
theorem f6_GaugeMeans (l : List Nat) (a1 : Option Addr) (b1 o1 cap1 m1 : Nat) (old now wt : Nat) (w : World) (hm1 : m1 = l.length) (hs : Sl eFl w l a1 b1 o1 cap1) (hB : ∀ x ∈ l, x < 18446744073709551616) (h1 : old < 18446744073709551616) (h2 : now < 18446744073709551616) (h3 : wt < 18446744073709551616) :
    Calls Try.prog 6 [.slice (a1) (m1) (cap1), .float .f64 (old), .float .f64 (now), .float .f64 (wt)].toArray w fun e w' => e = .returned (.bool (true)) ∧ Below w.heap.size w w' := by
  subst hm1
  have hle := hs.le
  have hmx := hs.mx
  simp only [maxLen] at hmx
  refine (calls_of (P := Try.prog) (n := 45) (w0 := w) (S := fun _ => False) (H := []) (T := fun v _ => v = (.bool (true))) Try.func6 rfl Try.ntmps6 (Nat.le_of_ble_eq_true rfl) [.tmp 8] rfl (St.nil w _) ?_).mono fun e w' ⟨v, H', he, hs, hT⟩ => ⟨by rw [he, hT], hs.below⟩
  refine c_seq fun K1 hK1 => ?_
  refine c_region ?_
  refine o_y (v := .bool (false)) rfl rfl (y_assign rfl) ?_
  refine o_nil ?_
  refine hK1 _ _ ?_
  refine c_seq fun K2 hK2 => ?_
  refine c_region ?_
  refine o_y (v := .float .f64 (old)) rfl rfl (y_move rfl) ?_
  refine o_y (v := .float .f64 (now)) rfl rfl (y_move rfl) ?_
  refine o_y (v := .float .f64 (wt)) rfl rfl (y_move rfl) ?_
  refine o_callF (vs := [.float .f64 (old), .float .f64 (now), .float .f64 (wt)]) b19 rfl rfl (fun w hw => f19_Smooth (old) (now) (wt) w (by first | assumption | omega | decide | exact FR.lt ‹_› | exact hB _ (List.getElem_mem _) | exact least_lt (fun x hx => hB x (List.mem_of_mem_take hx)) | exact lst_lt (least_lt (fun x hx => hB x (List.mem_of_mem_take hx)))) (by first | assumption | omega | decide | exact FR.lt ‹_› | exact hB _ (List.getElem_mem _) | exact least_lt (fun x hx => hB x (List.mem_of_mem_take hx)) | exact lst_lt (least_lt (fun x hx => hB x (List.mem_of_mem_take hx)))) (by first | assumption | omega | decide | exact FR.lt ‹_› | exact hB _ (List.getElem_mem _) | exact least_lt (fun x hx => hB x (List.mem_of_mem_take hx)) | exact lst_lt (least_lt (fun x hx => hB x (List.mem_of_mem_take hx))))) ?_
  rintro _ _ ⟨r17, rfl, hfr17⟩
  refine o_y (v := .tuple #[.float .f64 (r17), .int .i64 (smoothE (wt))]) rfl rfl (y_move rfl) ?_
  refine o_y (v := .float .f64 (r17)) rfl rfl (y_extract (vs := #[.float .f64 (r17), .int .i64 (smoothE (wt))]) rfl rfl) ?_
  refine o_y (v := .int .i64 (smoothE (wt))) rfl rfl (y_extract (vs := #[.float .f64 (r17), .int .i64 (smoothE (wt))]) rfl rfl) ?_
  refine o_y (v := .float .f64 (r17)) rfl rfl (y_assign rfl) ?_
  refine o_y (v := .int .i64 (smoothE (wt))) rfl rfl (y_assign rfl) ?_
  refine o_nil ?_
  refine hK2 _ _ ?_
  refine c_seq fun K3 hK3 => ?_
  refine c_region ?_
  refine o_y (v := .float .f64 (old)) rfl rfl (y_move rfl) ?_
  refine o_y (v := .float .f64 (now)) rfl rfl (y_move rfl) ?_
  refine o_y (v := .float .f64 (wt)) rfl rfl (y_move rfl) ?_
  refine o_callF (vs := [.float .f64 (old), .float .f64 (now), .float .f64 (wt)]) b20 rfl rfl (fun w hw => f20_Smooth (old) (now) (wt) w (by first | assumption | omega | decide | exact FR.lt ‹_› | exact hB _ (List.getElem_mem _) | exact least_lt (fun x hx => hB x (List.mem_of_mem_take hx)) | exact lst_lt (least_lt (fun x hx => hB x (List.mem_of_mem_take hx)))) (by first | assumption | omega | decide | exact FR.lt ‹_› | exact hB _ (List.getElem_mem _) | exact least_lt (fun x hx => hB x (List.mem_of_mem_take hx)) | exact lst_lt (least_lt (fun x hx => hB x (List.mem_of_mem_take hx)))) (by first | assumption | omega | decide | exact FR.lt ‹_› | exact hB _ (List.getElem_mem _) | exact least_lt (fun x hx => hB x (List.mem_of_mem_take hx)) | exact lst_lt (least_lt (fun x hx => hB x (List.mem_of_mem_take hx))))) ?_
  rintro _ _ ⟨r24, rfl, hfr24⟩
  refine o_y (v := .tuple #[.float .f64 (r24), .int .i64 (smoothE (wt))]) rfl rfl (y_move rfl) ?_
  refine o_y (v := .float .f64 (r24)) rfl rfl (y_extract (vs := #[.float .f64 (r24), .int .i64 (smoothE (wt))]) rfl rfl) ?_
  refine o_y (v := .int .i64 (smoothE (wt))) rfl rfl (y_extract (vs := #[.float .f64 (r24), .int .i64 (smoothE (wt))]) rfl rfl) ?_
  refine o_y (v := .float .f64 (r24)) rfl rfl (y_assign rfl) ?_
  refine o_y (v := .int .i64 (smoothE (wt))) rfl rfl (y_assign rfl) ?_
  refine o_nil ?_
  refine hK3 _ _ ?_
  refine c_seq fun K4 hK4 => ?_
  refine c_region ?_
  refine o_y (v := .slice (a1) ((l).length) (cap1)) rfl rfl (y_move rfl) ?_
  refine o_callF (vs := [.slice (a1) ((l).length) (cap1)]) b21 rfl rfl (fun w hw => f21_Mean (l) _ _ _ _ _ w (by first | rfl | (simp; done)) ((SlG.old hs (fun _ h => h)) w hw) (by first | assumption | decide)) ?_
  rintro _ _ ⟨r28, rfl, hfr28⟩
  refine o_y (v := .slice (a1) ((l).length) (cap1)) rfl rfl (y_move rfl) ?_
  refine o_callF (vs := [.slice (a1) ((l).length) (cap1)]) b22 rfl rfl (fun w hw => f22_rMean (l) _ _ _ _ _ w (by first | rfl | (simp; done)) ((SlG.old hs (fun _ h => h)) w hw) (by first | assumption | decide)) ?_
  rintro _ _ ⟨r30, rfl, hfr30⟩
  refine o_y (v := .bool (true)) rfl rfl (y_bool (y_call (vs := [.float .f64 (r28), .float .f64 (r30)]) b10 rfl (fun w hw => f10_same _ _ w)) (same_of hfr28 hfr30)) ?_
  refine o_y (v := .bool (true)) rfl rfl (y_move rfl) ?_
  refine o_guard (j := 5) (d := 32) (b := true) rfl rfl rfl (fun _ => ?_) rfl (fun h => by cases h)
  refine o_y (v := .float .f64 (r17)) rfl rfl (y_move rfl) ?_
  refine o_guard (j := 5) (d := 32) (b := true) rfl rfl rfl (fun _ => ?_) rfl (fun h => by cases h)
  refine o_y (v := .float .f64 (r24)) rfl rfl (y_move rfl) ?_
  refine o_guard (j := 5) (d := 32) (b := true) rfl rfl rfl (fun _ => ?_) rfl (fun h => by cases h)
  refine o_y (v := .bool (true)) rfl rfl (y_bool (y_call (vs := [.float .f64 (r17), .float .f64 (r24)]) b10 rfl (fun w hw => f10_same _ _ w)) (same_of hfr17 hfr24)) ?_
  refine o_y (v := .bool (true)) rfl rfl (y_pick (b := true) rfl rfl) ?_
  refine o_y (v := .bool (true)) rfl rfl (y_move rfl) ?_
  refine o_guard (j := 10) (d := 37) (b := true) rfl rfl rfl (fun _ => ?_) rfl (fun h => by cases h)
  refine o_y (v := .int .i64 (smoothE (wt))) rfl rfl (y_move rfl) ?_
  refine o_guard (j := 10) (d := 37) (b := true) rfl rfl rfl (fun _ => ?_) rfl (fun h => by cases h)
  refine o_y (v := .int .i64 (smoothE (wt))) rfl rfl (y_move rfl) ?_
  refine o_guard (j := 10) (d := 37) (b := true) rfl rfl rfl (fun _ => ?_) rfl (fun h => by cases h)
  refine o_y (v := .bool (true)) rfl rfl (y_bool (y_eql rfl rfl rfl) (decide_eq_true rfl)) ?_
  refine o_y (v := .bool (true)) rfl rfl (y_pick (b := true) rfl rfl) ?_
  refine o_y (v := .bool (true)) rfl rfl (y_move rfl) ?_
  refine o_guard (j := 15) (d := 42) (b := true) rfl rfl rfl (fun _ => ?_) rfl (fun h => by cases h)
  refine o_y (v := .bool (true)) rfl rfl (y_call (vs := []) b12 rfl (fun w hw => f12_lives w)) ?_
  refine o_y (v := .bool (true)) rfl rfl (y_pick (b := true) rfl rfl) ?_
  refine o_y (v := .bool (true)) rfl rfl (y_assign rfl) ?_
  refine o_nil ?_
  refine hK4 _ _ ?_
  refine c_ret ?_
  refine fun w hw => ⟨[.bool (true)], ⟨rfl, trivial⟩, ?_⟩
  exact rfl

end Go.Proofs.Ytikmjecjolppdaa.Gauge
