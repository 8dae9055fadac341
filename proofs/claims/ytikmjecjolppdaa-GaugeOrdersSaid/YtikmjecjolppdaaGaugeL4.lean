/- Proved: what a law of package gauge comes to; the conditions stand in the statements. -/
import Derived.Test.YtikmjecjolppdaaGaugeH
set_option linter.unusedVariables false
set_option linter.unusedSimpArgs false
namespace Go.Proofs.Ytikmjecjolppdaa.Gauge
open Go Go.RowKit Go.Proofs.Ytikmjecjolppdaa.Eng Go.Proofs.Ytikmjecjolppdaa.Fl

set_option maxRecDepth 100000 in
set_option maxHeartbeats 4000000 in
theorem f4_GaugeOrders (a b : Nat) (l : List Nat) (a1 : Option Addr) (b1 o1 cap1 m1 : Nat) (w : World) (ha : a < 18446744073709551616) (hb : b < 18446744073709551616) (hm1 : m1 = l.length) (hs : Sl eFl w l a1 b1 o1 cap1) (hB : ∀ x ∈ l, x < 18446744073709551616) :
    Calls Try.prog 4 [.float .f64 (a), .float .f64 (b), .slice (a1) (m1) (cap1)].toArray w fun e w' => e = .returned (.bool (true)) ∧ Below w.heap.size w w' := by
  subst hm1
  have hle := hs.le
  have hmx := hs.mx
  simp only [maxLen] at hmx
  refine (calls_of (P := Try.prog) (n := 41) (w0 := w) (S := fun _ => False) (H := []) (T := fun v _ => v = (.bool (true))) Try.func4 rfl Try.ntmps4 (Nat.le_of_ble_eq_true rfl) [.tmp 6] rfl (St.nil w _) ?_).mono fun e w' ⟨v, H', he, hs, hT⟩ => ⟨by rw [he, hT], hs.below⟩
  refine c_seq fun K1 hK1 => ?_
  refine c_region ?_
  refine o_y (v := .bool (false)) rfl rfl (y_assign rfl) ?_
  refine o_nil ?_
  refine hK1 _ _ ?_
  refine c_seq fun K2 hK2 => ?_
  refine c_region ?_
  refine o_y (v := .slice (a1) ((l).length) (cap1)) rfl rfl (y_move rfl) ?_
  refine o_y (v := .tuple #[.float .f64 (lstW (leastG (l))), .bool (!(nanB (leastG (l))))]) rfl rfl (y_call (vs := [.slice (a1) ((l).length) (cap1)]) b15 rfl (fun w hw => f15_Least (l) _ _ _ _ _ w (by first | rfl | (simp; done)) ((SlG.old hs (fun _ h => h)) w hw) (by first | assumption | decide))) ?_
  refine o_y (v := .tuple #[.float .f64 (lstW (leastG (l))), .bool (!(nanB (leastG (l))))]) rfl rfl (y_move rfl) ?_
  refine o_y (v := .float .f64 (lstW (leastG (l)))) rfl rfl (y_extract (vs := #[.float .f64 (lstW (leastG (l))), .bool (!(nanB (leastG (l))))]) rfl rfl) ?_
  refine o_y (v := .bool (!(nanB (leastG (l))))) rfl rfl (y_extract (vs := #[.float .f64 (lstW (leastG (l))), .bool (!(nanB (leastG (l))))]) rfl rfl) ?_
  refine o_y (v := .float .f64 (lstW (leastG (l)))) rfl rfl (y_assign rfl) ?_
  refine o_y (v := .bool (!(nanB (leastG (l))))) rfl rfl (y_assign rfl) ?_
  refine o_nil ?_
  refine hK2 _ _ ?_
  refine c_seq fun K3 hK3 => ?_
  refine c_region ?_
  refine o_y (v := .slice (a1) ((l).length) (cap1)) rfl rfl (y_move rfl) ?_
  refine o_y (v := .tuple #[.float .f64 (lstW (leastG (l))), .bool (!(nanB (leastG (l))))]) rfl rfl (y_call (vs := [.slice (a1) ((l).length) (cap1)]) b16 rfl (fun w hw => f16_rLeast (l) _ _ _ _ _ w (by first | rfl | (simp; done)) ((SlG.old hs (fun _ h => h)) w hw) (by first | assumption | decide))) ?_
  refine o_y (v := .tuple #[.float .f64 (lstW (leastG (l))), .bool (!(nanB (leastG (l))))]) rfl rfl (y_move rfl) ?_
  refine o_y (v := .float .f64 (lstW (leastG (l)))) rfl rfl (y_extract (vs := #[.float .f64 (lstW (leastG (l))), .bool (!(nanB (leastG (l))))]) rfl rfl) ?_
  refine o_y (v := .bool (!(nanB (leastG (l))))) rfl rfl (y_extract (vs := #[.float .f64 (lstW (leastG (l))), .bool (!(nanB (leastG (l))))]) rfl rfl) ?_
  refine o_y (v := .float .f64 (lstW (leastG (l)))) rfl rfl (y_assign rfl) ?_
  refine o_y (v := .bool (!(nanB (leastG (l))))) rfl rfl (y_assign rfl) ?_
  refine o_nil ?_
  refine hK3 _ _ ?_
  refine c_seq fun K4 hK4 => ?_
  refine c_region ?_
  refine o_y (v := .float .f64 (a)) rfl rfl (y_move rfl) ?_
  refine o_y (v := .float .f64 (b)) rfl rfl (y_move rfl) ?_
  refine o_y (v := .int .i64 (cmpF (a) (b))) rfl rfl (y_call (vs := [.float .f64 (a), .float .f64 (b)]) b17 rfl (fun w hw => f17_Compare _ _ w (by first | assumption | omega | decide | exact FR.lt ‹_› | exact hB _ (List.getElem_mem _) | exact least_lt (fun x hx => hB x (List.mem_of_mem_take hx)) | exact lst_lt (least_lt (fun x hx => hB x (List.mem_of_mem_take hx)))) (by first | assumption | omega | decide | exact FR.lt ‹_› | exact hB _ (List.getElem_mem _) | exact least_lt (fun x hx => hB x (List.mem_of_mem_take hx)) | exact lst_lt (least_lt (fun x hx => hB x (List.mem_of_mem_take hx)))))) ?_
  refine o_y (v := .float .f64 (a)) rfl rfl (y_move rfl) ?_
  refine o_y (v := .float .f64 (b)) rfl rfl (y_move rfl) ?_
  refine o_y (v := .int .i64 (cmpF (a) (b))) rfl rfl (y_call (vs := [.float .f64 (a), .float .f64 (b)]) b18 rfl (fun w hw => f18_Compare _ _ w (by first | assumption | omega | decide | exact FR.lt ‹_› | exact hB _ (List.getElem_mem _) | exact least_lt (fun x hx => hB x (List.mem_of_mem_take hx)) | exact lst_lt (least_lt (fun x hx => hB x (List.mem_of_mem_take hx)))) (by first | assumption | omega | decide | exact FR.lt ‹_› | exact hB _ (List.getElem_mem _) | exact least_lt (fun x hx => hB x (List.mem_of_mem_take hx)) | exact lst_lt (least_lt (fun x hx => hB x (List.mem_of_mem_take hx)))))) ?_
  refine o_y (v := .bool (true)) rfl rfl (y_bool (y_eql rfl rfl rfl) (decide_eq_true rfl)) ?_
  refine o_y (v := .bool (true)) rfl rfl (y_move rfl) ?_
  refine o_guard (j := 7) (d := 28) (b := true) rfl rfl rfl (fun _ => ?_) rfl (fun h => by cases h)
  refine o_y (v := .float .f64 (lstW (leastG (l)))) rfl rfl (y_move rfl) ?_
  refine o_guard (j := 7) (d := 28) (b := true) rfl rfl rfl (fun _ => ?_) rfl (fun h => by cases h)
  refine o_y (v := .float .f64 (lstW (leastG (l)))) rfl rfl (y_move rfl) ?_
  refine o_guard (j := 7) (d := 28) (b := true) rfl rfl rfl (fun _ => ?_) rfl (fun h => by cases h)
  refine o_y (v := .bool (true)) rfl rfl (y_bool (y_call (vs := [.float .f64 (lstW (leastG (l))), .float .f64 (lstW (leastG (l)))]) b10 rfl (fun w hw => f10_same _ _ w)) ((same_is _ _).2 rfl)) ?_
  refine o_y (v := .bool (true)) rfl rfl (y_pick (b := true) rfl rfl) ?_
  refine o_y (v := .bool (true)) rfl rfl (y_move rfl) ?_
  refine o_guard (j := 12) (d := 33) (b := true) rfl rfl rfl (fun _ => ?_) rfl (fun h => by cases h)
  refine o_y (v := .bool (!(nanB (leastG (l))))) rfl rfl (y_move rfl) ?_
  refine o_guard (j := 12) (d := 33) (b := true) rfl rfl rfl (fun _ => ?_) rfl (fun h => by cases h)
  refine o_y (v := .bool (!(nanB (leastG (l))))) rfl rfl (y_move rfl) ?_
  refine o_guard (j := 12) (d := 33) (b := true) rfl rfl rfl (fun _ => ?_) rfl (fun h => by cases h)
  refine o_y (v := .bool (true)) rfl rfl (y_bool (y_eqlB rfl rfl Try.underlying4 rfl) (by simp)) ?_
  refine o_y (v := .bool (true)) rfl rfl (y_pick (b := true) rfl rfl) ?_
  refine o_y (v := .bool (true)) rfl rfl (y_move rfl) ?_
  refine o_guard (j := 17) (d := 38) (b := true) rfl rfl rfl (fun _ => ?_) rfl (fun h => by cases h)
  refine o_y (v := .bool (true)) rfl rfl (y_call (vs := []) b12 rfl (fun w hw => f12_lives w)) ?_
  refine o_y (v := .bool (true)) rfl rfl (y_pick (b := true) rfl rfl) ?_
  refine o_y (v := .bool (true)) rfl rfl (y_assign rfl) ?_
  refine o_nil ?_
  refine hK4 _ _ ?_
  refine c_ret ?_
  refine fun w hw => ⟨[.bool (true)], ⟨rfl, trivial⟩, ?_⟩
  exact rfl

end Go.Proofs.Ytikmjecjolppdaa.Gauge
