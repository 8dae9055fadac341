/- Proved: what the small functions of a list come to; the conditions stand in the statements. -/
import Derived.Test.YtpbpenlceigddaaLruLaw
set_option linter.unusedVariables false
set_option linter.unusedSimpArgs false
set_option linter.unnecessarySimpa false
namespace Go.Proofs.Ytpbpenlceigddaa.Lru
open Go Go.RowKit Go.Proofs.Ytpbpenlceigddaa.Eng

set_option maxRecDepth 100000 in
set_option maxHeartbeats 4000000 in
theorem f21_some (gl gm en : Nat) (r : Int) (w : World)  (hat : At ([(gl, .cells (#[.int .i64 (r), .map (some gm), .pointer (some ⟨en, 0, none⟩)]) 49 (0, 0))]) w) :
    Calls Try.prog 21 [.pointer (some ⟨gl, 0, none⟩)].toArray w fun e w' => e = .returned (.bool (false)) ∧ Below w.heap.size w w' := by
  refine (calls_of (P := Try.prog) (n := 12) (w0 := w) (S := ids ([(gl, .cells (#[.int .i64 (r), .map (some gm), .pointer (some ⟨en, 0, none⟩)]) 49 (0, 0))])) (H := [(gl, .cells (#[.int .i64 (r), .map (some gm), .pointer (some ⟨en, 0, none⟩)]) 49 (0, 0))]) (T := fun v H => v = (.bool (false)) ∧ ([(gl, .cells (#[.int .i64 (r), .map (some gm), .pointer (some ⟨en, 0, none⟩)]) 49 (0, 0))] : Hp).Sublist H) Try.func21 rfl Try.ntmps21 (Nat.le_of_ble_eq_true rfl) [.tmp 2] rfl hat.st ?_).mono fun e w' ⟨v, H', he, hs, hT, hsub⟩ => ⟨by rw [he, hT], St.same hat hs hsub⟩
  refine c_seq fun K1 hK1 => ?_
  refine c_region ?_
  refine o_y (v := .bool (false)) rfl rfl (y_assign rfl) ?_
  refine o_nil ?_
  refine hK1 _ _ ?_
  refine c_seq fun K2 hK2 => ?_
  refine c_region ?_
  refine o_y (v := .pointer (some ⟨gl, 0, none⟩)) rfl rfl (y_move rfl) ?_
  refine o_y (v := .bool (false)) rfl rfl (y_eqlN rfl rfl Try.underlying23 rfl) ?_
  refine o_y (v := .bool (false)) rfl rfl (y_move rfl) ?_
  refine o_guard (j := 2) (d := 5) (b := false) rfl rfl rfl (fun _ => ?_) rfl (fun h => by cases h)
  refine o_y (v := .pointer (some ⟨gl, 0, none⟩)) rfl rfl (y_move rfl) ?_
  refine o_guard (j := 2) (d := 5) (b := false) rfl rfl rfl (fun _ => ?_) rfl (fun h => by cases h)
  refine o_y (v := .pointer (some ⟨gl, 0, none⟩)) rfl rfl (y_nilCheck rfl) ?_
  refine o_guard (j := 2) (d := 5) (b := false) rfl rfl rfl (fun _ => ?_) rfl (fun h => by cases h)
  refine o_y (v := .pointer (some ⟨gl, 1, none⟩)) rfl rfl (y_fieldAddr (k := 1) rfl Try.underlying49 rfl rfl ⟨_, s46⟩ (by first | rfl | omega)) ?_
  refine o_guard (j := 2) (d := 5) (b := false) rfl rfl rfl (fun _ => ?_) rfl (fun h => by cases h)
  refine o_y (v := .map (some gm)) rfl rfl (y_load rfl Try.underlying46 rfl (Rd.one (k := 0) rfl rfl)) ?_
  refine o_guard (j := 2) (d := 5) (b := false) rfl rfl rfl (fun _ => ?_) rfl (fun h => by cases h)
  refine o_y (v := .bool (false)) rfl rfl (y_eqlM rfl rfl Try.underlying46 rfl) ?_
  refine o_y (v := .bool (false)) rfl rfl (y_pick (b := false) rfl rfl) ?_
  refine o_y (v := .bool (false)) rfl rfl (y_assign rfl) ?_
  refine o_nil ?_
  refine hK2 _ _ ?_
  refine c_ret ?_
  refine fun w hw => ⟨[.bool (false)], ⟨rfl, trivial⟩, ?_⟩
  exact ⟨rfl, (List.Sublist.slnil.cons_cons _)⟩
  first | done | rfl

set_option maxRecDepth 100000 in
set_option maxHeartbeats 4000000 in
theorem f21_none  (w : World)  :
    Calls Try.prog 21 [.pointer none].toArray w fun e w' => e = .returned (.bool (true)) ∧ Below w.heap.size w w' := by
  refine (calls_of (P := Try.prog) (n := 12) (w0 := w) (S := fun _ => False) (H := []) (T := fun v _ => v = (.bool (true))) Try.func21 rfl Try.ntmps21 (Nat.le_of_ble_eq_true rfl) [.tmp 2] rfl (St.nil w _) ?_).mono fun e w' ⟨v, H', he, hs, hT⟩ => ⟨by rw [he, hT], hs.below⟩
  refine c_seq fun K1 hK1 => ?_
  refine c_region ?_
  refine o_y (v := .bool (false)) rfl rfl (y_assign rfl) ?_
  refine o_nil ?_
  refine hK1 _ _ ?_
  refine c_seq fun K2 hK2 => ?_
  refine c_region ?_
  refine o_y (v := .pointer none) rfl rfl (y_move rfl) ?_
  refine o_y (v := .bool (true)) rfl rfl (y_eqlN rfl rfl Try.underlying23 rfl) ?_
  refine o_y (v := .bool (true)) rfl rfl (y_move rfl) ?_
  refine o_guard (j := 2) (d := 5) (b := true) rfl rfl rfl (fun h => by cases h) rfl (fun _ => ?_)
  refine o_guard (j := 2) (d := 5) (b := true) rfl rfl rfl (fun h => by cases h) rfl (fun _ => ?_)
  refine o_guard (j := 2) (d := 5) (b := true) rfl rfl rfl (fun h => by cases h) rfl (fun _ => ?_)
  refine o_guard (j := 2) (d := 5) (b := true) rfl rfl rfl (fun h => by cases h) rfl (fun _ => ?_)
  refine o_guard (j := 2) (d := 5) (b := true) rfl rfl rfl (fun h => by cases h) rfl (fun _ => ?_)
  refine o_y (v := .bool (true)) rfl rfl (y_pick (b := true) rfl rfl) ?_
  refine o_y (v := .bool (true)) rfl rfl (y_assign rfl) ?_
  refine o_nil ?_
  refine hK2 _ _ ?_
  refine c_ret ?_
  refine fun w hw => ⟨[.bool (true)], ⟨rfl, trivial⟩, ?_⟩
  exact rfl

set_option maxRecDepth 100000 in
set_option maxHeartbeats 4000000 in
theorem f21_zero (gl : Nat) (w : World)  (hat : At ([(gl, .cells (#[.int .i64 (0), .map none, .pointer none]) 49 (0, 0))]) w) :
    Calls Try.prog 21 [.pointer (some ⟨gl, 0, none⟩)].toArray w fun e w' => e = .returned (.bool (true)) ∧ Below w.heap.size w w' := by
  refine (calls_of (P := Try.prog) (n := 12) (w0 := w) (S := ids ([(gl, .cells (#[.int .i64 (0), .map none, .pointer none]) 49 (0, 0))])) (H := [(gl, .cells (#[.int .i64 (0), .map none, .pointer none]) 49 (0, 0))]) (T := fun v H => v = (.bool (true)) ∧ ([(gl, .cells (#[.int .i64 (0), .map none, .pointer none]) 49 (0, 0))] : Hp).Sublist H) Try.func21 rfl Try.ntmps21 (Nat.le_of_ble_eq_true rfl) [.tmp 2] rfl hat.st ?_).mono fun e w' ⟨v, H', he, hs, hT, hsub⟩ => ⟨by rw [he, hT], St.same hat hs hsub⟩
  refine c_seq fun K1 hK1 => ?_
  refine c_region ?_
  refine o_y (v := .bool (false)) rfl rfl (y_assign rfl) ?_
  refine o_nil ?_
  refine hK1 _ _ ?_
  refine c_seq fun K2 hK2 => ?_
  refine c_region ?_
  refine o_y (v := .pointer (some ⟨gl, 0, none⟩)) rfl rfl (y_move rfl) ?_
  refine o_y (v := .bool (false)) rfl rfl (y_eqlN rfl rfl Try.underlying23 rfl) ?_
  refine o_y (v := .bool (false)) rfl rfl (y_move rfl) ?_
  refine o_guard (j := 2) (d := 5) (b := false) rfl rfl rfl (fun _ => ?_) rfl (fun h => by cases h)
  refine o_y (v := .pointer (some ⟨gl, 0, none⟩)) rfl rfl (y_move rfl) ?_
  refine o_guard (j := 2) (d := 5) (b := false) rfl rfl rfl (fun _ => ?_) rfl (fun h => by cases h)
  refine o_y (v := .pointer (some ⟨gl, 0, none⟩)) rfl rfl (y_nilCheck rfl) ?_
  refine o_guard (j := 2) (d := 5) (b := false) rfl rfl rfl (fun _ => ?_) rfl (fun h => by cases h)
  refine o_y (v := .pointer (some ⟨gl, 1, none⟩)) rfl rfl (y_fieldAddr (k := 1) rfl Try.underlying49 rfl rfl ⟨_, s46⟩ (by first | rfl | omega)) ?_
  refine o_guard (j := 2) (d := 5) (b := false) rfl rfl rfl (fun _ => ?_) rfl (fun h => by cases h)
  refine o_y (v := .map none) rfl rfl (y_load rfl Try.underlying46 rfl (Rd.one (k := 0) rfl rfl)) ?_
  refine o_guard (j := 2) (d := 5) (b := false) rfl rfl rfl (fun _ => ?_) rfl (fun h => by cases h)
  refine o_y (v := .bool (true)) rfl rfl (y_eqlM rfl rfl Try.underlying46 rfl) ?_
  refine o_y (v := .bool (true)) rfl rfl (y_pick (b := false) rfl rfl) ?_
  refine o_y (v := .bool (true)) rfl rfl (y_assign rfl) ?_
  refine o_nil ?_
  refine hK2 _ _ ?_
  refine c_ret ?_
  refine fun w hw => ⟨[.bool (true)], ⟨rfl, trivial⟩, ?_⟩
  exact ⟨rfl, (List.Sublist.slnil.cons_cons _)⟩
  first | done | rfl

set_option maxRecDepth 100000 in
set_option maxHeartbeats 4000000 in
theorem f22_unlink (il : List Nat) (f : Nat → Nd) (x p q : Nat) (w : World) (hx : x ∈ il) (hp : p ∈ il) (hq : q ∈ il) (ha : (f x).a = PP p) (hb : (f x).b = PP q) (hat : At (((Hn 52 (il) f))) w) :
    Calls Try.prog 22 [.pointer (some ⟨x, 0, none⟩)].toArray w fun e w' => ∃ v H', e = .returned v ∧ St w (ids (((Hn 52 (il) f)))) H' w' ∧ (fun v H => v = .tuple #[] ∧ H = Hn 52 il (unl f x p q)) v H' := by
  have hnd : il.Nodup := by have h := hat.2; simp only [List.map_append, List.map_cons, List.map_nil, Hn.fst, List.cons_append, List.nil_append, List.nodup_cons] at h; first | exact h | exact h.2 | exact h.2.2
  refine (calls_of (P := Try.prog) (n := 22) (w0 := w) (S := ids (((Hn 52 (il) f)))) (H := ((Hn 52 (il) f))) (T := fun v H => ∃ H1, (fun v H => v = .tuple #[] ∧ H = Hn 52 il (unl f x p q)) v H1 ∧ (H1 : Hp).Sublist H) Try.func22 rfl Try.ntmps22 (Nat.le_of_ble_eq_true rfl) [] rfl hat.st ?_).mono fun e w' ⟨v, H', he, hs, H1, hT, hsub⟩ => ⟨v, H1, he, hs.drop hsub, hT⟩
  refine c_draw 18 (by kernel_rfl) (by kernel_rfl) ?_
  refine q_y (v := .pointer (some ⟨x, 0, none⟩)) rfl (y_move rfl) ?_
  refine q_y (v := .pointer (some ⟨x, 0, none⟩)) rfl (y_nilCheck rfl) ?_
  refine q_y (v := .pointer (some ⟨x, 2, none⟩)) rfl (y_fieldAddr (k := 2) rfl Try.underlying52 rfl rfl ⟨_, s47⟩ (by first | rfl | omega)) ?_
  refine q_y (v := .pointer (some ⟨p, 0, none⟩)) rfl (y_load rfl Try.underlying47 rfl (Rd.nd (t := 52) (il := il) (f := f) (fun p hp => by first | exact List.mem_append_right _ hp | exact hp) (by first | assumption | exact W_mem _ _ _ | exact List.mem_cons_self .. | exact List.mem_cons_of_mem _ (by first | assumption | exact W_mem _ _ _ | exact List.mem_cons_self ..)) (nd2 (ha)))) ?_
  refine q_y (v := .pointer (some ⟨x, 0, none⟩)) rfl (y_move rfl) ?_
  refine q_y (v := .pointer (some ⟨x, 0, none⟩)) rfl (y_nilCheck rfl) ?_
  refine q_y (v := .pointer (some ⟨x, 3, none⟩)) rfl (y_fieldAddr (k := 3) rfl Try.underlying52 rfl rfl ⟨_, s47⟩ (by first | rfl | omega)) ?_
  refine q_y (v := .pointer (some ⟨q, 0, none⟩)) rfl (y_load rfl Try.underlying47 rfl (Rd.nd (t := 52) (il := il) (f := f) (fun p hp => by first | exact List.mem_append_right _ hp | exact hp) (by first | assumption | exact W_mem _ _ _ | exact List.mem_cons_self .. | exact List.mem_cons_of_mem _ (by first | assumption | exact W_mem _ _ _ | exact List.mem_cons_self ..)) (nd3 (hb)))) ?_
  refine q_y (v := .pointer (some ⟨x, 0, none⟩)) rfl (y_move rfl) ?_
  refine q_y (v := .pointer (some ⟨x, 0, none⟩)) rfl (y_nilCheck rfl) ?_
  refine q_y (v := .pointer (some ⟨x, 3, none⟩)) rfl (y_fieldAddr (k := 3) rfl Try.underlying52 rfl rfl ⟨_, s47⟩ (by first | rfl | omega)) ?_
  refine q_y (v := .pointer (some ⟨q, 0, none⟩)) rfl (y_load rfl Try.underlying47 rfl (Rd.nd (t := 52) (il := il) (f := f) (fun p hp => by first | exact List.mem_append_right _ hp | exact hp) (by first | assumption | exact W_mem _ _ _ | exact List.mem_cons_self .. | exact List.mem_cons_of_mem _ (by first | assumption | exact W_mem _ _ _ | exact List.mem_cons_self ..)) (nd3 (hb)))) ?_
  refine q_y (v := .pointer (some ⟨x, 0, none⟩)) rfl (y_move rfl) ?_
  refine q_y (v := .pointer (some ⟨x, 0, none⟩)) rfl (y_nilCheck rfl) ?_
  refine q_y (v := .pointer (some ⟨x, 2, none⟩)) rfl (y_fieldAddr (k := 2) rfl Try.underlying52 rfl rfl ⟨_, s47⟩ (by first | rfl | omega)) ?_
  refine q_y (v := .pointer (some ⟨p, 0, none⟩)) rfl (y_load rfl Try.underlying47 rfl (Rd.nd (t := 52) (il := il) (f := f) (fun p hp => by first | exact List.mem_append_right _ hp | exact hp) (by first | assumption | exact W_mem _ _ _ | exact List.mem_cons_self .. | exact List.mem_cons_of_mem _ (by first | assumption | exact W_mem _ _ _ | exact List.mem_cons_self ..)) (nd2 (ha)))) ?_
  refine q_y (v := .pointer (some ⟨p, 0, none⟩)) rfl (y_nilCheck rfl) ?_
  refine q_y (v := .pointer (some ⟨p, 3, none⟩)) rfl (y_fieldAddr (k := 3) rfl Try.underlying52 rfl rfl ⟨_, s47⟩ (by first | rfl | omega)) ?_
  refine q_nil ?_
  refine o_storeN (et := 52) (v := .pointer (some ⟨q, 0, none⟩)) (setB f (p) (PP q)) ([]) (fun Hy => (Hy)) (fun Hy => by have h := List.perm_append_comm (l₁ := ([] : Hp)) (l₂ := Hy); first | exact h | simpa [Value.cells] using h) (by have h := List.perm_append_comm_assoc ([] : Hp) (Hn 52 (il) f) ([] : Hp); first | exact h | simpa [Value.cells] using h) rfl hnd rfl rfl rfl rfl s47 (by first | assumption | exact W_mem _ _ _ | exact List.mem_cons_self .. | exact List.mem_cons_of_mem _ (by first | assumption | exact W_mem _ _ _ | exact List.mem_cons_self ..)) (by decide) (setB_c ..) (fun k hk => setB_ne _ _ _ _ hk) ?_
  refine o_y (v := .pointer (some ⟨q, 0, none⟩)) rfl rfl (y_nilCheck rfl) ?_
  refine o_y (v := .pointer (some ⟨q, 2, none⟩)) rfl rfl (y_fieldAddr (k := 2) rfl Try.underlying52 rfl rfl ⟨_, s47⟩ (by first | rfl | omega)) ?_
  refine o_storeN (et := 52) (v := .pointer (some ⟨p, 0, none⟩)) (setA (setB f (p) (PP q)) (q) (PP p)) ([]) (fun Hy => (Hy)) (fun Hy => by have h := List.perm_append_comm (l₁ := ([] : Hp)) (l₂ := Hy); first | exact h | simpa [Value.cells] using h) (by have h := List.perm_append_comm_assoc ([] : Hp) (Hn 52 (il) (setB f (p) (PP q))) ([] : Hp); first | exact h | simpa [Value.cells] using h) rfl hnd rfl rfl rfl rfl s47 (by first | assumption | exact W_mem _ _ _ | exact List.mem_cons_self .. | exact List.mem_cons_of_mem _ (by first | assumption | exact W_mem _ _ _ | exact List.mem_cons_self ..)) (by decide) (setA_c ..) (fun k hk => setA_ne _ _ _ _ hk) ?_
  refine o_nil ?_
  refine fun w hw => ⟨[], trivial, ?_⟩
  exact ⟨_, ⟨rfl, rfl⟩, ((List.Sublist.refl _) : (Hn 52 il (unl f x p q)).Sublist _)⟩
  first | done | rfl

set_option maxRecDepth 100000 in
set_option maxHeartbeats 4000000 in
theorem f23_first (gl gm en : Nat) (r : Int) (il : List Nat) (f : Nat → Nd) (x h : Nat) (w : World) (hx : x ∈ il) (he : en ∈ il) (hh : h ∈ il) (hb : (f en).b = PP h) (hat : At ([(gl, .cells (#[.int .i64 (r), .map (some gm), .pointer (some ⟨en, 0, none⟩)]) 49 (0, 0))] ++ ((Hn 52 (il) f))) w) :
    Calls Try.prog 23 [.pointer (some ⟨gl, 0, none⟩), .pointer (some ⟨x, 0, none⟩)].toArray w fun e w' => ∃ v H', e = .returned v ∧ St w (ids ([(gl, .cells (#[.int .i64 (r), .map (some gm), .pointer (some ⟨en, 0, none⟩)]) 49 (0, 0))] ++ ((Hn 52 (il) f)))) H' w' ∧ (fun v H => v = .tuple #[] ∧ H = ([(gl, .cells #[.int .i64 (r), .map (some gm), .pointer (some ⟨en, 0, none⟩)] 49 (0, 0))] ++ Hn 52 (il) (frs f x en h) : Hp)) v H' := by
  have hnd : il.Nodup := by have h := hat.2; simp only [List.map_append, List.map_cons, List.map_nil, Hn.fst, List.cons_append, List.nil_append, List.nodup_cons] at h; first | exact h | exact h.2 | exact h.2.2
  refine (calls_of (P := Try.prog) (n := 35) (w0 := w) (S := ids ([(gl, .cells (#[.int .i64 (r), .map (some gm), .pointer (some ⟨en, 0, none⟩)]) 49 (0, 0))] ++ ((Hn 52 (il) f)))) (H := [(gl, .cells (#[.int .i64 (r), .map (some gm), .pointer (some ⟨en, 0, none⟩)]) 49 (0, 0))] ++ ((Hn 52 (il) f))) (T := fun v H => ∃ H1, (fun v H => v = .tuple #[] ∧ H = ([(gl, .cells #[.int .i64 (r), .map (some gm), .pointer (some ⟨en, 0, none⟩)] 49 (0, 0))] ++ Hn 52 (il) (frs f x en h) : Hp)) v H1 ∧ (H1 : Hp).Sublist H) Try.func23 rfl Try.ntmps23 (Nat.le_of_ble_eq_true rfl) [] rfl hat.st ?_).mono fun e w' ⟨v, H', he, hs, H1, hT, hsub⟩ => ⟨v, H1, he, hs.drop hsub, hT⟩
  refine c_seq fun K1 hK1 => ?_
  refine c_drawF [0, 1, 2, 3, 4, 5, 6, 7, 8, 9, 10, 11, 12, 13, 14, 16, 17] [15, 18] [0, 2, 3, 4, 5, 6, 7, 8, 9, 10, 11, 12, 13, 14] (by kernel_rfl) (by kernel_rfl) ?_
  refine f_e (v := .pointer (some ⟨x, 0, none⟩)) rfl rfl (qn rfl (y_move rfl)) ?_
  refine f_l (v := .pointer (some ⟨x, 0, none⟩)) rfl rfl (qn rfl (y_move rfl)) ?_
  refine f_e (v := .pointer (some ⟨gl, 0, none⟩)) rfl rfl (qn rfl (y_move rfl)) ?_
  refine f_e (v := .pointer (some ⟨gl, 0, none⟩)) rfl rfl (qn rfl (y_nilCheck rfl)) ?_
  refine f_e (v := .pointer (some ⟨gl, 2, none⟩)) rfl rfl (qn rfl (y_fieldAddr (k := 2) rfl Try.underlying49 rfl rfl ⟨_, s47⟩ (by first | rfl | omega))) ?_
  refine f_e (v := .pointer (some ⟨en, 0, none⟩)) rfl rfl (qn rfl (y_load rfl Try.underlying47 rfl (Rd.one (k := 0) rfl rfl))) ?_
  refine f_e (v := .pointer (some ⟨gl, 0, none⟩)) rfl rfl (qn rfl (y_move rfl)) ?_
  refine f_e (v := .pointer (some ⟨gl, 0, none⟩)) rfl rfl (qn rfl (y_nilCheck rfl)) ?_
  refine f_e (v := .pointer (some ⟨gl, 2, none⟩)) rfl rfl (qn rfl (y_fieldAddr (k := 2) rfl Try.underlying49 rfl rfl ⟨_, s47⟩ (by first | rfl | omega))) ?_
  refine f_e (v := .pointer (some ⟨en, 0, none⟩)) rfl rfl (qn rfl (y_load rfl Try.underlying47 rfl (Rd.one (k := 0) rfl rfl))) ?_
  refine f_e (v := .pointer (some ⟨en, 0, none⟩)) rfl rfl (qn rfl (y_nilCheck rfl)) ?_
  refine f_e (v := .pointer (some ⟨en, 3, none⟩)) rfl rfl (qn rfl (y_fieldAddr (k := 3) rfl Try.underlying52 rfl rfl ⟨_, s47⟩ (by first | rfl | omega))) ?_
  refine f_e (v := .pointer (some ⟨h, 0, none⟩)) rfl rfl (qn rfl (y_load rfl Try.underlying47 rfl (Rd.nd (t := 52) (il := il) (f := f) (fun p hp => by first | exact List.mem_append_right _ hp | exact (List.mem_cons_of_mem _ hp)) (by first | assumption | exact W_mem _ _ _ | exact List.mem_cons_self .. | exact List.mem_cons_of_mem _ (by first | assumption | exact W_mem _ _ _ | exact List.mem_cons_self ..)) (nd3 (hb))))) ?_
  refine f_e (v := .pointer (some ⟨x, 0, none⟩)) rfl rfl (qn rfl (y_nilCheck rfl)) ?_
  refine f_e (v := .pointer (some ⟨x, 2, none⟩)) rfl rfl (qn rfl (y_fieldAddr (k := 2) rfl Try.underlying52 rfl rfl ⟨_, s47⟩ (by first | rfl | omega))) ?_
  refine f_l (v := .pointer (some ⟨x, 0, none⟩)) rfl rfl (qn rfl (y_nilCheck rfl)) ?_
  refine f_l (v := .pointer (some ⟨x, 3, none⟩)) rfl rfl (qn rfl (y_fieldAddr (k := 3) rfl Try.underlying52 rfl rfl ⟨_, s47⟩ (by first | rfl | omega))) ?_
  refine f_nil ?_
  refine t_step rfl ?_
  refine o_storeN (et := 52) (v := .pointer (some ⟨en, 0, none⟩)) (setA f (x) (PP en)) ([(gl, .cells (#[.int .i64 (r), .map (some gm), .pointer (some ⟨en, 0, none⟩)]) 49 (0, 0))]) (fun Hy => [(gl, .cells (#[.int .i64 (r), .map (some gm), .pointer (some ⟨en, 0, none⟩)]) 49 (0, 0))] ++ (Hy)) (fun Hy => by have h := List.perm_append_comm (l₁ := ([(gl, .cells (#[.int .i64 (r), .map (some gm), .pointer (some ⟨en, 0, none⟩)]) 49 (0, 0))] : Hp)) (l₂ := Hy); first | exact h | simpa [Value.cells] using h) (by have h := List.perm_append_comm_assoc ([(gl, .cells (#[.int .i64 (r), .map (some gm), .pointer (some ⟨en, 0, none⟩)]) 49 (0, 0))] : Hp) (Hn 52 (il) f) ([] : Hp); first | exact h | simpa [Value.cells] using h) rfl hnd rfl rfl rfl rfl s47 (by first | assumption | exact W_mem _ _ _ | exact List.mem_cons_self .. | exact List.mem_cons_of_mem _ (by first | assumption | exact W_mem _ _ _ | exact List.mem_cons_self ..)) (by decide) (setA_c ..) (fun k hk => setA_ne _ _ _ _ hk) ?_
  refine o_nil ⟨rfl, ⟨qn rfl (y_fieldAddr (k := 3) rfl Try.underlying52 rfl rfl ⟨_, s47⟩ (by first | rfl | omega)), ⟨qn rfl (y_nilCheck rfl), ⟨qn rfl (y_move rfl), trivial⟩⟩⟩, ?_⟩
  refine t_step rfl ?_
  refine o_storeN (et := 52) (v := .pointer (some ⟨h, 0, none⟩)) (setB (setA f (x) (PP en)) (x) (PP h)) ([(gl, .cells (#[.int .i64 (r), .map (some gm), .pointer (some ⟨en, 0, none⟩)]) 49 (0, 0))]) (fun Hy => [(gl, .cells (#[.int .i64 (r), .map (some gm), .pointer (some ⟨en, 0, none⟩)]) 49 (0, 0))] ++ (Hy)) (fun Hy => by have h := List.perm_append_comm (l₁ := ([(gl, .cells (#[.int .i64 (r), .map (some gm), .pointer (some ⟨en, 0, none⟩)]) 49 (0, 0))] : Hp)) (l₂ := Hy); first | exact h | simpa [Value.cells] using h) (by have h := List.perm_append_comm_assoc ([(gl, .cells (#[.int .i64 (r), .map (some gm), .pointer (some ⟨en, 0, none⟩)]) 49 (0, 0))] : Hp) (Hn 52 (il) (setA f (x) (PP en))) ([] : Hp); first | exact h | simpa [Value.cells] using h) rfl hnd rfl rfl rfl rfl s47 (by first | assumption | exact W_mem _ _ _ | exact List.mem_cons_self .. | exact List.mem_cons_of_mem _ (by first | assumption | exact W_mem _ _ _ | exact List.mem_cons_self ..)) (by decide) (setB_c ..) (fun k hk => setB_ne _ _ _ _ hk) ?_
  refine o_nil ⟨rfl, ⟨qn rfl (y_fieldAddr (k := 3) rfl Try.underlying52 rfl rfl ⟨_, s47⟩ (by first | rfl | omega)), ⟨qn rfl (y_nilCheck rfl), ⟨qn rfl (y_move rfl), trivial⟩⟩⟩, ?_⟩
  refine t_nil ?_
  refine hK1 _ _ ?_
  refine c_drawF [0, 1, 2, 3, 4, 5, 6, 7, 8, 9, 10, 11, 13, 14] [12, 15] [0, 1, 2, 3, 4, 5, 6, 7, 8, 10, 11] (by kernel_rfl) (by kernel_rfl) ?_
  refine f_e (v := .pointer (some ⟨x, 0, none⟩)) rfl rfl (qn rfl (y_move rfl)) ?_
  refine f_e (v := .pointer (some ⟨x, 0, none⟩)) rfl rfl (qn rfl (y_nilCheck rfl)) ?_
  refine f_e (v := .pointer (some ⟨x, 2, none⟩)) rfl rfl (qn rfl (y_fieldAddr (k := 2) rfl Try.underlying52 rfl rfl ⟨_, s47⟩ (by first | rfl | omega))) ?_
  refine f_e (v := .pointer (some ⟨en, 0, none⟩)) rfl rfl (qn rfl (y_load rfl Try.underlying47 rfl (Rd.nd (t := 52) (il := il) (f := (setB (setA f (x) (PP en)) (x) (PP h))) (fun p hp => by first | exact List.mem_append_right _ hp | exact (List.mem_cons_of_mem _ hp)) (by first | assumption | exact W_mem _ _ _ | exact List.mem_cons_self .. | exact List.mem_cons_of_mem _ (by first | assumption | exact W_mem _ _ _ | exact List.mem_cons_self ..)) (nd2 ((setB_a ..).trans (setA_a ..)))))) ?_
  refine f_e (v := .pointer (some ⟨x, 0, none⟩)) rfl rfl (qn rfl (y_move rfl)) ?_
  refine f_e (v := .pointer (some ⟨x, 0, none⟩)) rfl rfl (qn rfl (y_nilCheck rfl)) ?_
  refine f_e (v := .pointer (some ⟨x, 3, none⟩)) rfl rfl (qn rfl (y_fieldAddr (k := 3) rfl Try.underlying52 rfl rfl ⟨_, s47⟩ (by first | rfl | omega))) ?_
  refine f_e (v := .pointer (some ⟨h, 0, none⟩)) rfl rfl (qn rfl (y_load rfl Try.underlying47 rfl (Rd.nd (t := 52) (il := il) (f := (setB (setA f (x) (PP en)) (x) (PP h))) (fun p hp => by first | exact List.mem_append_right _ hp | exact (List.mem_cons_of_mem _ hp)) (by first | assumption | exact W_mem _ _ _ | exact List.mem_cons_self .. | exact List.mem_cons_of_mem _ (by first | assumption | exact W_mem _ _ _ | exact List.mem_cons_self ..)) (nd3 (setB_b ..))))) ?_
  refine f_e (v := .pointer (some ⟨x, 0, none⟩)) rfl rfl (qn rfl (y_move rfl)) ?_
  refine f_l (v := .pointer (some ⟨x, 0, none⟩)) rfl rfl (qn rfl (y_move rfl)) ?_
  refine f_e (v := .pointer (some ⟨en, 0, none⟩)) rfl rfl (qn rfl (y_nilCheck rfl)) ?_
  refine f_e (v := .pointer (some ⟨en, 3, none⟩)) rfl rfl (qn rfl (y_fieldAddr (k := 3) rfl Try.underlying52 rfl rfl ⟨_, s47⟩ (by first | rfl | omega))) ?_
  refine f_l (v := .pointer (some ⟨h, 0, none⟩)) rfl rfl (qn rfl (y_nilCheck rfl)) ?_
  refine f_l (v := .pointer (some ⟨h, 2, none⟩)) rfl rfl (qn rfl (y_fieldAddr (k := 2) rfl Try.underlying52 rfl rfl ⟨_, s47⟩ (by first | rfl | omega))) ?_
  refine f_nil ?_
  refine t_step rfl ?_
  refine o_storeN (et := 52) (v := .pointer (some ⟨x, 0, none⟩)) (setB (setB (setA f (x) (PP en)) (x) (PP h)) (en) (PP x)) ([(gl, .cells (#[.int .i64 (r), .map (some gm), .pointer (some ⟨en, 0, none⟩)]) 49 (0, 0))]) (fun Hy => [(gl, .cells (#[.int .i64 (r), .map (some gm), .pointer (some ⟨en, 0, none⟩)]) 49 (0, 0))] ++ (Hy)) (fun Hy => by have h := List.perm_append_comm (l₁ := ([(gl, .cells (#[.int .i64 (r), .map (some gm), .pointer (some ⟨en, 0, none⟩)]) 49 (0, 0))] : Hp)) (l₂ := Hy); first | exact h | simpa [Value.cells] using h) (by have h := List.perm_append_comm_assoc ([(gl, .cells (#[.int .i64 (r), .map (some gm), .pointer (some ⟨en, 0, none⟩)]) 49 (0, 0))] : Hp) (Hn 52 (il) (setB (setA f (x) (PP en)) (x) (PP h))) ([] : Hp); first | exact h | simpa [Value.cells] using h) rfl hnd rfl rfl rfl rfl s47 (by first | assumption | exact W_mem _ _ _ | exact List.mem_cons_self .. | exact List.mem_cons_of_mem _ (by first | assumption | exact W_mem _ _ _ | exact List.mem_cons_self ..)) (by decide) (setB_c ..) (fun k hk => setB_ne _ _ _ _ hk) ?_
  refine o_nil ⟨rfl, ⟨qn rfl (y_fieldAddr (k := 2) rfl Try.underlying52 rfl rfl ⟨_, s47⟩ (by first | rfl | omega)), ⟨qn rfl (y_nilCheck rfl), ⟨qn rfl (y_move rfl), trivial⟩⟩⟩, ?_⟩
  refine t_step rfl ?_
  refine o_storeN (et := 52) (v := .pointer (some ⟨x, 0, none⟩)) (setA (setB (setB (setA f (x) (PP en)) (x) (PP h)) (en) (PP x)) (h) (PP x)) ([(gl, .cells (#[.int .i64 (r), .map (some gm), .pointer (some ⟨en, 0, none⟩)]) 49 (0, 0))]) (fun Hy => [(gl, .cells (#[.int .i64 (r), .map (some gm), .pointer (some ⟨en, 0, none⟩)]) 49 (0, 0))] ++ (Hy)) (fun Hy => by have h := List.perm_append_comm (l₁ := ([(gl, .cells (#[.int .i64 (r), .map (some gm), .pointer (some ⟨en, 0, none⟩)]) 49 (0, 0))] : Hp)) (l₂ := Hy); first | exact h | simpa [Value.cells] using h) (by have h := List.perm_append_comm_assoc ([(gl, .cells (#[.int .i64 (r), .map (some gm), .pointer (some ⟨en, 0, none⟩)]) 49 (0, 0))] : Hp) (Hn 52 (il) (setB (setB (setA f (x) (PP en)) (x) (PP h)) (en) (PP x))) ([] : Hp); first | exact h | simpa [Value.cells] using h) rfl hnd rfl rfl rfl rfl s47 (by first | assumption | exact W_mem _ _ _ | exact List.mem_cons_self .. | exact List.mem_cons_of_mem _ (by first | assumption | exact W_mem _ _ _ | exact List.mem_cons_self ..)) (by decide) (setA_c ..) (fun k hk => setA_ne _ _ _ _ hk) ?_
  refine o_nil ⟨rfl, ⟨qn rfl (y_fieldAddr (k := 2) rfl Try.underlying52 rfl rfl ⟨_, s47⟩ (by first | rfl | omega)), ⟨qn rfl (y_nilCheck rfl), ⟨qn rfl (y_move rfl), trivial⟩⟩⟩, ?_⟩
  refine t_nil ?_
  refine fun w hw => ⟨[], trivial, ?_⟩
  exact ⟨_, ⟨rfl, rfl⟩, (((List.Sublist.refl _).cons_cons _) : (([(gl, .cells #[.int .i64 (r), .map (some gm), .pointer (some ⟨en, 0, none⟩)] 49 (0, 0))] ++ Hn 52 (il) (frs f x en h) : Hp)).Sublist _)⟩
  first | done | rfl

set_option maxRecDepth 100000 in
set_option maxHeartbeats 4000000 in
theorem f24_drop (gl gm en : Nat) (r : Int) (es : Array MapEntry) (cl : Nat) (mp : List (Int × Nat)) (il : List Nat) (f : Nat → Nd) (x p q : Nat) (w : World) (hM : MapC mp es) (hx : x ∈ il) (hp : p ∈ il) (hq : q ∈ il) (ha : (f x).a = PP p) (hb : (f x).b = PP q) (hl : lookM mp (f x).k = some x) (hat : At ([(gl, .cells (#[.int .i64 (r), .map (some gm), .pointer (some ⟨en, 0, none⟩)]) 49 (0, 0)), (gm, .map (es) (cl))] ++ ((Hn 52 (il) f))) w) :
    Calls Try.prog 24 [.pointer (some ⟨gl, 0, none⟩), .pointer (some ⟨x, 0, none⟩)].toArray w fun e w' => ∃ v H', e = .returned v ∧ St w (ids ([(gl, .cells (#[.int .i64 (r), .map (some gm), .pointer (some ⟨en, 0, none⟩)]) 49 (0, 0)), (gm, .map (es) (cl))] ++ ((Hn 52 (il) f)))) H' w' ∧ (fun v H => v = .tuple #[] ∧ ∃ es' cl' mp', H = ([(gl, .cells #[.int .i64 (r), .map (some gm), .pointer (some ⟨en, 0, none⟩)] 49 (0, 0)), (gm, .map es' cl')] ++ Hn 52 (il) (unl f x p q) : Hp) ∧ MapC mp' es' ∧ mp.Perm (((f x).k, x) :: mp')) v H' := by
  have hnd : il.Nodup := by have h := hat.2; simp only [List.map_append, List.map_cons, List.map_nil, Hn.fst, List.cons_append, List.nil_append, List.nodup_cons] at h; first | exact h | exact h.2 | exact h.2.2
  refine (calls_of (P := Try.prog) (n := 14) (w0 := w) (S := ids ([(gl, .cells (#[.int .i64 (r), .map (some gm), .pointer (some ⟨en, 0, none⟩)]) 49 (0, 0)), (gm, .map (es) (cl))] ++ ((Hn 52 (il) f)))) (H := [(gl, .cells (#[.int .i64 (r), .map (some gm), .pointer (some ⟨en, 0, none⟩)]) 49 (0, 0)), (gm, .map (es) (cl))] ++ ((Hn 52 (il) f))) (T := fun v H => ∃ H1, (fun v H => v = .tuple #[] ∧ ∃ es' cl' mp', H = ([(gl, .cells #[.int .i64 (r), .map (some gm), .pointer (some ⟨en, 0, none⟩)] 49 (0, 0)), (gm, .map es' cl')] ++ Hn 52 (il) (unl f x p q) : Hp) ∧ MapC mp' es' ∧ mp.Perm (((f x).k, x) :: mp')) v H1 ∧ (H1 : Hp).Sublist H) Try.func24 rfl Try.ntmps24 (Nat.le_of_ble_eq_true rfl) [] rfl hat.st ?_).mono fun e w' ⟨v, H', he, hs, H1, hT, hsub⟩ => ⟨v, H1, he, hs.drop hsub, hT⟩
  refine c_seq fun K1 hK1 => ?_
  refine c_region ?_
  refine o_y (v := .pointer (some ⟨x, 0, none⟩)) rfl rfl (y_move rfl) ?_
  refine o_callS (((Hn 52 (il) f))) ([(gl, .cells (#[.int .i64 (r), .map (some gm), .pointer (some ⟨en, 0, none⟩)]) 49 (0, 0)), (gm, .map (es) (cl))]) (by have h := List.perm_append_comm_assoc ([(gl, .cells (#[.int .i64 (r), .map (some gm), .pointer (some ⟨en, 0, none⟩)]) 49 (0, 0)), (gm, .map (es) (cl))] : Hp) (Hn 52 (il) f) ([] : Hp); first | exact h | simpa [List.append_assoc] using h) (vs := [.pointer (some ⟨x, 0, none⟩)]) b22 rfl rfl (fun w hat => f22_unlink (il) f (x) (p) (q) w (by first | assumption | exact W_mem _ _ _ | exact List.mem_cons_self .. | exact List.mem_cons_of_mem _ (by first | assumption | exact W_mem _ _ _ | exact List.mem_cons_self ..)) (by first | assumption | exact W_mem _ _ _ | exact List.mem_cons_self .. | exact List.mem_cons_of_mem _ (by first | assumption | exact W_mem _ _ _ | exact List.mem_cons_self ..)) (by first | assumption | exact W_mem _ _ _ | exact List.mem_cons_self .. | exact List.mem_cons_of_mem _ (by first | assumption | exact W_mem _ _ _ | exact List.mem_cons_self ..)) (ha) (hb) hat) ?_
  rintro _ _ ⟨rfl, rfl⟩
  refine o_perm (H' := [(gl, .cells (#[.int .i64 (r), .map (some gm), .pointer (some ⟨en, 0, none⟩)]) 49 (0, 0)), (gm, .map (es) (cl))] ++ ((Hn 52 (il) (unl f (x) (p) (q))))) (by have h := (List.perm_append_comm_assoc (((Hn 52 (il) (unl f (x) (p) (q))))) ([(gl, .cells (#[.int .i64 (r), .map (some gm), .pointer (some ⟨en, 0, none⟩)]) 49 (0, 0)), (gm, .map (es) (cl))] : Hp) ([] : Hp)).symm; first | exact h | exact List.Perm.append_left _ h | simpa [List.append_assoc] using h) ?_
  refine o_nil ?_
  refine hK1 _ _ ?_
  refine c_draw 8 (by kernel_rfl) (by kernel_rfl) ?_
  refine q_y (v := .pointer (some ⟨gl, 0, none⟩)) rfl (y_move rfl) ?_
  refine q_y (v := .pointer (some ⟨gl, 0, none⟩)) rfl (y_nilCheck rfl) ?_
  refine q_y (v := .pointer (some ⟨gl, 1, none⟩)) rfl (y_fieldAddr (k := 1) rfl Try.underlying49 rfl rfl ⟨_, s46⟩ (by first | rfl | omega)) ?_
  refine q_y (v := .map (some gm)) rfl (y_load rfl Try.underlying46 rfl (Rd.one (k := 0) rfl rfl)) ?_
  refine q_y (v := .pointer (some ⟨x, 0, none⟩)) rfl (y_move rfl) ?_
  refine q_y (v := .pointer (some ⟨x, 0, none⟩)) rfl (y_nilCheck rfl) ?_
  refine q_y (v := .pointer (some ⟨x, 0, none⟩)) rfl (y_fieldAddr (k := 0) rfl Try.underlying52 rfl rfl ⟨_, s3⟩ (by first | rfl | omega)) ?_
  refine q_y (v := .int .i64 ((f (x)).k)) rfl (y_load rfl Try.underlying3 rfl (Rd.nd (t := 52) (il := il) (f := (unl f (x) (p) (q))) (fun p hp => by first | exact List.mem_append_right _ hp | exact (List.mem_cons_of_mem _ (List.mem_cons_of_mem _ hp))) (by first | assumption | exact W_mem _ _ _ | exact List.mem_cons_self .. | exact List.mem_cons_of_mem _ (by first | assumption | exact W_mem _ _ _ | exact List.mem_cons_self ..)) (nd0 (unl_k ..)))) ?_
  refine q_nil ?_
  refine o_cutM (g := x) 1 rfl rfl Try.underlying46 Try.underlying3 rfl hM hl fun esm2 clm2 mpm2 hMm2 hpm2 => ?_
  refine o_nil ?_
  refine fun w hw => ⟨[], trivial, ?_⟩
  exact ⟨_, ⟨rfl, _, _, _, rfl, hMm2, hpm2⟩, (((List.Sublist.refl _).cons_cons _).cons_cons _)⟩
  first | done | rfl

set_option maxRecDepth 100000 in
set_option maxHeartbeats 4000000 in
theorem f25_findIs (gl gm en : Nat) (r : Int) (es : Array MapEntry) (cl : Nat) (mp : List (Int × Nat)) (k : Int) (x : Nat) (w : World) (hM : MapC mp es) (hl : lookM mp k = some x) (hat : At ([(gl, .cells (#[.int .i64 (r), .map (some gm), .pointer (some ⟨en, 0, none⟩)]) 49 (0, 0)), (gm, .map (es) (cl))]) w) :
    Calls Try.prog 25 [.pointer (some ⟨gl, 0, none⟩), .int .i64 (k)].toArray w fun e w' => e = .returned (.tuple #[.pointer (some ⟨x, 0, none⟩), .int .i64 (0)]) ∧ Below w.heap.size w w' := by
  refine (calls_of (P := Try.prog) (n := 22) (w0 := w) (S := ids ([(gl, .cells (#[.int .i64 (r), .map (some gm), .pointer (some ⟨en, 0, none⟩)]) 49 (0, 0)), (gm, .map (es) (cl))])) (H := [(gl, .cells (#[.int .i64 (r), .map (some gm), .pointer (some ⟨en, 0, none⟩)]) 49 (0, 0)), (gm, .map (es) (cl))]) (T := fun v H => v = (.tuple #[.pointer (some ⟨x, 0, none⟩), .int .i64 (0)]) ∧ ([(gl, .cells (#[.int .i64 (r), .map (some gm), .pointer (some ⟨en, 0, none⟩)]) 49 (0, 0)), (gm, .map (es) (cl))] : Hp).Sublist H) Try.func25 rfl Try.ntmps25 (Nat.le_of_ble_eq_true rfl) [.tmp 4, .tmp 5] rfl hat.st ?_).mono fun e w' ⟨v, H', he, hs, hT, hsub⟩ => ⟨by rw [he, hT], St.same hat hs hsub⟩
  refine c_seq fun K1 hK1 => ?_
  refine c_region ?_
  refine o_y (v := .pointer none) rfl rfl (y_assign rfl) ?_
  refine o_y (v := .int .i64 (0)) rfl rfl (y_assign rfl) ?_
  refine o_nil ?_
  refine hK1 _ _ ?_
  refine c_seq fun K2 hK2 => ?_
  refine c_seq fun K3 hK3 => ?_
  refine c_region ?_
  refine o_y (v := .pointer (some ⟨gl, 0, none⟩)) rfl rfl (y_move rfl) ?_
  refine o_y (v := .bool (false)) rfl rfl (y_call (vs := [.pointer (some ⟨gl, 0, none⟩)]) b21 rfl (fun w hw => f21_some gl gm en r w (hw.sat ((List.Sublist.slnil.cons _).cons_cons _)))) ?_
  refine o_nil ?_
  refine hK3 _ _ ?_
  refine c_cond (t := false) rfl (fun h => by cases h) (fun _ => ?_)
  refine c_skip ?_
  refine hK2 _ _ ?_
  refine c_seq fun K4 hK4 => ?_
  refine c_region ?_
  refine o_y (v := .pointer (some ⟨gl, 0, none⟩)) rfl rfl (y_move rfl) ?_
  refine o_y (v := .pointer (some ⟨gl, 0, none⟩)) rfl rfl (y_nilCheck rfl) ?_
  refine o_y (v := .pointer (some ⟨gl, 1, none⟩)) rfl rfl (y_fieldAddr (k := 1) rfl Try.underlying49 rfl rfl ⟨_, s46⟩ (by first | rfl | omega)) ?_
  refine o_y (v := .map (some gm)) rfl rfl (y_load rfl Try.underlying46 rfl (Rd.one (k := 0) rfl rfl)) ?_
  refine o_y (v := .int .i64 (k)) rfl rfl (y_move rfl) ?_
  refine o_y (v := .tuple #[.pointer (some ⟨x, 0, none⟩), .bool (true)]) rfl rfl (y_look (o := some (x)) rfl rfl Try.underlying46 Try.underlying3 zp47 (List.mem_of_getElem? (i := 1) rfl) hM hl rfl) ?_
  refine o_y (v := .tuple #[.pointer (some ⟨x, 0, none⟩), .bool (true)]) rfl rfl (y_move rfl) ?_
  refine o_y (v := .pointer (some ⟨x, 0, none⟩)) rfl rfl (y_extract (vs := #[.pointer (some ⟨x, 0, none⟩), .bool (true)]) rfl rfl) ?_
  refine o_y (v := .bool (true)) rfl rfl (y_extract (vs := #[.pointer (some ⟨x, 0, none⟩), .bool (true)]) rfl rfl) ?_
  refine o_y (v := .pointer (some ⟨x, 0, none⟩)) rfl rfl (y_assign rfl) ?_
  refine o_y (v := .bool (true)) rfl rfl (y_assign rfl) ?_
  refine o_nil ?_
  refine hK4 _ _ ?_
  refine c_seq fun K5 hK5 => ?_
  refine c_seq fun K6 hK6 => ?_
  refine c_region ?_
  refine o_y (v := .bool (true)) rfl rfl (y_move rfl) ?_
  refine o_y (v := .bool (false)) rfl rfl (y_not rfl rfl) ?_
  refine o_nil ?_
  refine hK6 _ _ ?_
  refine c_cond (t := false) rfl (fun h => by cases h) (fun _ => ?_)
  refine c_skip ?_
  refine hK5 _ _ ?_
  refine c_seq fun K7 hK7 => ?_
  refine c_region ?_
  refine o_y (v := .pointer (some ⟨x, 0, none⟩)) rfl rfl (y_move rfl) ?_
  refine o_y (v := .pointer (some ⟨x, 0, none⟩)) rfl rfl (y_assign rfl) ?_
  refine o_y (v := .int .i64 (0)) rfl rfl (y_assign rfl) ?_
  refine o_nil ?_
  refine hK7 _ _ ?_
  refine c_ret ?_
  refine fun w hw => ⟨[.pointer (some ⟨x, 0, none⟩), .int .i64 (0)], ⟨rfl, rfl, trivial⟩, ?_⟩
  exact ⟨rfl, ((List.Sublist.slnil.cons_cons _).cons_cons _)⟩
  first | done | rfl

set_option maxRecDepth 100000 in
set_option maxHeartbeats 4000000 in
theorem f25_findNo (gl gm en : Nat) (r : Int) (es : Array MapEntry) (cl : Nat) (mp : List (Int × Nat)) (k : Int) (w : World) (hM : MapC mp es) (hl : lookM mp k = none) (hat : At ([(gl, .cells (#[.int .i64 (r), .map (some gm), .pointer (some ⟨en, 0, none⟩)]) 49 (0, 0)), (gm, .map (es) (cl))]) w) :
    Calls Try.prog 25 [.pointer (some ⟨gl, 0, none⟩), .int .i64 (k)].toArray w fun e w' => e = .returned (.tuple #[.pointer none, .int .i64 (7)]) ∧ Below w.heap.size w w' := by
  refine (calls_of (P := Try.prog) (n := 22) (w0 := w) (S := ids ([(gl, .cells (#[.int .i64 (r), .map (some gm), .pointer (some ⟨en, 0, none⟩)]) 49 (0, 0)), (gm, .map (es) (cl))])) (H := [(gl, .cells (#[.int .i64 (r), .map (some gm), .pointer (some ⟨en, 0, none⟩)]) 49 (0, 0)), (gm, .map (es) (cl))]) (T := fun v H => v = (.tuple #[.pointer none, .int .i64 (7)]) ∧ ([(gl, .cells (#[.int .i64 (r), .map (some gm), .pointer (some ⟨en, 0, none⟩)]) 49 (0, 0)), (gm, .map (es) (cl))] : Hp).Sublist H) Try.func25 rfl Try.ntmps25 (Nat.le_of_ble_eq_true rfl) [.tmp 4, .tmp 5] rfl hat.st ?_).mono fun e w' ⟨v, H', he, hs, hT, hsub⟩ => ⟨by rw [he, hT], St.same hat hs hsub⟩
  refine c_seq fun K1 hK1 => ?_
  refine c_region ?_
  refine o_y (v := .pointer none) rfl rfl (y_assign rfl) ?_
  refine o_y (v := .int .i64 (0)) rfl rfl (y_assign rfl) ?_
  refine o_nil ?_
  refine hK1 _ _ ?_
  refine c_seq fun K2 hK2 => ?_
  refine c_seq fun K3 hK3 => ?_
  refine c_region ?_
  refine o_y (v := .pointer (some ⟨gl, 0, none⟩)) rfl rfl (y_move rfl) ?_
  refine o_y (v := .bool (false)) rfl rfl (y_call (vs := [.pointer (some ⟨gl, 0, none⟩)]) b21 rfl (fun w hw => f21_some gl gm en r w (hw.sat ((List.Sublist.slnil.cons _).cons_cons _)))) ?_
  refine o_nil ?_
  refine hK3 _ _ ?_
  refine c_cond (t := false) rfl (fun h => by cases h) (fun _ => ?_)
  refine c_skip ?_
  refine hK2 _ _ ?_
  refine c_seq fun K4 hK4 => ?_
  refine c_region ?_
  refine o_y (v := .pointer (some ⟨gl, 0, none⟩)) rfl rfl (y_move rfl) ?_
  refine o_y (v := .pointer (some ⟨gl, 0, none⟩)) rfl rfl (y_nilCheck rfl) ?_
  refine o_y (v := .pointer (some ⟨gl, 1, none⟩)) rfl rfl (y_fieldAddr (k := 1) rfl Try.underlying49 rfl rfl ⟨_, s46⟩ (by first | rfl | omega)) ?_
  refine o_y (v := .map (some gm)) rfl rfl (y_load rfl Try.underlying46 rfl (Rd.one (k := 0) rfl rfl)) ?_
  refine o_y (v := .int .i64 (k)) rfl rfl (y_move rfl) ?_
  refine o_y (v := .tuple #[.pointer none, .bool (false)]) rfl rfl (y_look (o := none) rfl rfl Try.underlying46 Try.underlying3 zp47 (List.mem_of_getElem? (i := 1) rfl) hM hl rfl) ?_
  refine o_y (v := .tuple #[.pointer none, .bool (false)]) rfl rfl (y_move rfl) ?_
  refine o_y (v := .pointer none) rfl rfl (y_extract (vs := #[.pointer none, .bool (false)]) rfl rfl) ?_
  refine o_y (v := .bool (false)) rfl rfl (y_extract (vs := #[.pointer none, .bool (false)]) rfl rfl) ?_
  refine o_y (v := .pointer none) rfl rfl (y_assign rfl) ?_
  refine o_y (v := .bool (false)) rfl rfl (y_assign rfl) ?_
  refine o_nil ?_
  refine hK4 _ _ ?_
  refine c_seq fun K5 hK5 => ?_
  refine c_seq fun K6 hK6 => ?_
  refine c_region ?_
  refine o_y (v := .bool (false)) rfl rfl (y_move rfl) ?_
  refine o_y (v := .bool (true)) rfl rfl (y_not rfl rfl) ?_
  refine o_nil ?_
  refine hK6 _ _ ?_
  refine c_cond (t := true) rfl (fun _ => ?_) (fun h => by cases h)
  refine c_seq fun K7 hK7 => ?_
  refine c_region ?_
  refine o_y (v := .pointer none) rfl rfl (y_assign rfl) ?_
  refine o_y (v := .int .i64 (7)) rfl rfl (y_assign rfl) ?_
  refine o_nil ?_
  refine hK7 _ _ ?_
  refine c_ret ?_
  refine fun w hw => ⟨[.pointer none, .int .i64 (7)], ⟨rfl, rfl, trivial⟩, ?_⟩
  exact ⟨rfl, ((List.Sublist.slnil.cons_cons _).cons_cons _)⟩
  first | done | rfl

set_option maxRecDepth 100000 in
set_option maxHeartbeats 4000000 in
theorem f25_findN (k : Int) (w : World)  :
    Calls Try.prog 25 [.pointer none, .int .i64 (k)].toArray w fun e w' => e = .returned (.tuple #[.pointer none, .int .i64 (1)]) ∧ Below w.heap.size w w' := by
  refine (calls_of (P := Try.prog) (n := 22) (w0 := w) (S := fun _ => False) (H := []) (T := fun v _ => v = (.tuple #[.pointer none, .int .i64 (1)])) Try.func25 rfl Try.ntmps25 (Nat.le_of_ble_eq_true rfl) [.tmp 4, .tmp 5] rfl (St.nil w _) ?_).mono fun e w' ⟨v, H', he, hs, hT⟩ => ⟨by rw [he, hT], hs.below⟩
  refine c_seq fun K1 hK1 => ?_
  refine c_region ?_
  refine o_y (v := .pointer none) rfl rfl (y_assign rfl) ?_
  refine o_y (v := .int .i64 (0)) rfl rfl (y_assign rfl) ?_
  refine o_nil ?_
  refine hK1 _ _ ?_
  refine c_seq fun K2 hK2 => ?_
  refine c_seq fun K3 hK3 => ?_
  refine c_region ?_
  refine o_y (v := .pointer none) rfl rfl (y_move rfl) ?_
  refine o_y (v := .bool (true)) rfl rfl (y_call (vs := [.pointer none]) b21 rfl (fun w hw => f21_none w)) ?_
  refine o_nil ?_
  refine hK3 _ _ ?_
  refine c_cond (t := true) rfl (fun _ => ?_) (fun h => by cases h)
  refine c_seq fun K4 hK4 => ?_
  refine c_region ?_
  refine o_y (v := .pointer none) rfl rfl (y_assign rfl) ?_
  refine o_y (v := .int .i64 (1)) rfl rfl (y_assign rfl) ?_
  refine o_nil ?_
  refine hK4 _ _ ?_
  refine c_ret ?_
  refine fun w hw => ⟨[.pointer none, .int .i64 (1)], ⟨rfl, rfl, trivial⟩, ?_⟩
  exact rfl

set_option maxRecDepth 100000 in
set_option maxHeartbeats 4000000 in
theorem f25_findZ (gl : Nat) (k : Int) (w : World)  (hat : At ([(gl, .cells (#[.int .i64 (0), .map none, .pointer none]) 49 (0, 0))]) w) :
    Calls Try.prog 25 [.pointer (some ⟨gl, 0, none⟩), .int .i64 (k)].toArray w fun e w' => e = .returned (.tuple #[.pointer none, .int .i64 (1)]) ∧ Below w.heap.size w w' := by
  refine (calls_of (P := Try.prog) (n := 22) (w0 := w) (S := ids ([(gl, .cells (#[.int .i64 (0), .map none, .pointer none]) 49 (0, 0))])) (H := [(gl, .cells (#[.int .i64 (0), .map none, .pointer none]) 49 (0, 0))]) (T := fun v H => v = (.tuple #[.pointer none, .int .i64 (1)]) ∧ ([(gl, .cells (#[.int .i64 (0), .map none, .pointer none]) 49 (0, 0))] : Hp).Sublist H) Try.func25 rfl Try.ntmps25 (Nat.le_of_ble_eq_true rfl) [.tmp 4, .tmp 5] rfl hat.st ?_).mono fun e w' ⟨v, H', he, hs, hT, hsub⟩ => ⟨by rw [he, hT], St.same hat hs hsub⟩
  refine c_seq fun K1 hK1 => ?_
  refine c_region ?_
  refine o_y (v := .pointer none) rfl rfl (y_assign rfl) ?_
  refine o_y (v := .int .i64 (0)) rfl rfl (y_assign rfl) ?_
  refine o_nil ?_
  refine hK1 _ _ ?_
  refine c_seq fun K2 hK2 => ?_
  refine c_seq fun K3 hK3 => ?_
  refine c_region ?_
  refine o_y (v := .pointer (some ⟨gl, 0, none⟩)) rfl rfl (y_move rfl) ?_
  refine o_y (v := .bool (true)) rfl rfl (y_call (vs := [.pointer (some ⟨gl, 0, none⟩)]) b21 rfl (fun w hw => f21_zero gl w (hw.sat (List.Sublist.slnil.cons_cons _)))) ?_
  refine o_nil ?_
  refine hK3 _ _ ?_
  refine c_cond (t := true) rfl (fun _ => ?_) (fun h => by cases h)
  refine c_seq fun K4 hK4 => ?_
  refine c_region ?_
  refine o_y (v := .pointer none) rfl rfl (y_assign rfl) ?_
  refine o_y (v := .int .i64 (1)) rfl rfl (y_assign rfl) ?_
  refine o_nil ?_
  refine hK4 _ _ ?_
  refine c_ret ?_
  refine fun w hw => ⟨[.pointer none, .int .i64 (1)], ⟨rfl, rfl, trivial⟩, ?_⟩
  exact ⟨rfl, (List.Sublist.slnil.cons_cons _)⟩
  first | done | rfl

set_option maxRecDepth 100000 in
set_option maxHeartbeats 4000000 in
theorem f9_TouchIs (gl gm en : Nat) (r : Int) (es : Array MapEntry) (cl : Nat) (mp : List (Int × Nat)) (il : List Nat) (f : Nat → Nd) (k : Int) (x p q h : Nat) (w : World) (hM : MapC mp es) (hx : x ∈ il) (hp : p ∈ il) (hq : q ∈ il) (ha : (f x).a = PP p) (hb : (f x).b = PP q) (he : en ∈ il) (hh : h ∈ il) (hb2 : (unl f x p q en).b = PP h) (hl : lookM mp k = some x) (hat : At ([(gl, .cells (#[.int .i64 (r), .map (some gm), .pointer (some ⟨en, 0, none⟩)]) 49 (0, 0)), (gm, .map (es) (cl))] ++ ((Hn 52 (il) f))) w) :
    Calls Try.prog 9 [.pointer (some ⟨gl, 0, none⟩), .int .i64 (k)].toArray w fun e w' => ∃ v H', e = .returned v ∧ St w (ids ([(gl, .cells (#[.int .i64 (r), .map (some gm), .pointer (some ⟨en, 0, none⟩)]) 49 (0, 0)), (gm, .map (es) (cl))] ++ ((Hn 52 (il) f)))) H' w' ∧ (fun v H => v = .tuple #[.int .i64 (0), .bool (false), .int .i64 (0)] ∧ H = ([(gl, .cells #[.int .i64 (r), .map (some gm), .pointer (some ⟨en, 0, none⟩)] 49 (0, 0)), (gm, .map es cl)] ++ Hn 52 (il) (frs (unl f x p q) x en h) : Hp)) v H' := by
  have hnd : il.Nodup := by have h := hat.2; simp only [List.map_append, List.map_cons, List.map_nil, Hn.fst, List.cons_append, List.nil_append, List.nodup_cons] at h; first | exact h | exact h.2 | exact h.2.2
  refine (calls_of (P := Try.prog) (n := 88) (w0 := w) (S := ids ([(gl, .cells (#[.int .i64 (r), .map (some gm), .pointer (some ⟨en, 0, none⟩)]) 49 (0, 0)), (gm, .map (es) (cl))] ++ ((Hn 52 (il) f)))) (H := [(gl, .cells (#[.int .i64 (r), .map (some gm), .pointer (some ⟨en, 0, none⟩)]) 49 (0, 0)), (gm, .map (es) (cl))] ++ ((Hn 52 (il) f))) (T := fun v H => ∃ H1, (fun v H => v = .tuple #[.int .i64 (0), .bool (false), .int .i64 (0)] ∧ H = ([(gl, .cells #[.int .i64 (r), .map (some gm), .pointer (some ⟨en, 0, none⟩)] 49 (0, 0)), (gm, .map es cl)] ++ Hn 52 (il) (frs (unl f x p q) x en h) : Hp)) v H1 ∧ (H1 : Hp).Sublist H) Try.func9 rfl Try.ntmps9 (Nat.le_of_ble_eq_true rfl) [.tmp 4, .tmp 5, .tmp 6] rfl hat.st ?_).mono fun e w' ⟨v, H', he, hs, H1, hT, hsub⟩ => ⟨v, H1, he, hs.drop hsub, hT⟩
  refine c_seq fun K1 hK1 => ?_
  refine c_region ?_
  refine o_y (v := .int .i64 (0)) rfl rfl (y_assign rfl) ?_
  refine o_y (v := .bool (false)) rfl rfl (y_assign rfl) ?_
  refine o_y (v := .int .i64 (0)) rfl rfl (y_assign rfl) ?_
  refine o_nil ?_
  refine hK1 _ _ ?_
  refine c_seq fun K2 hK2 => ?_
  refine c_seq fun K3 hK3 => ?_
  refine c_region ?_
  refine o_y (v := .pointer (some ⟨gl, 0, none⟩)) rfl rfl (y_move rfl) ?_
  refine o_y (v := .bool (false)) rfl rfl (y_call (vs := [.pointer (some ⟨gl, 0, none⟩)]) b21 rfl (fun w hw => f21_some gl gm en r w (hw.sat (((List.nil_sublist _).cons _).cons_cons _)))) ?_
  refine o_nil ?_
  refine hK3 _ _ ?_
  refine c_cond (t := false) rfl (fun h => by cases h) (fun _ => ?_)
  refine c_skip ?_
  refine hK2 _ _ ?_
  refine c_seq fun K4 hK4 => ?_
  refine c_seq fun K5 hK5 => ?_
  refine c_region ?_
  refine o_y (v := .pointer (some ⟨gl, 0, none⟩)) rfl rfl (y_move rfl) ?_
  refine o_y (v := .pointer (some ⟨gl, 0, none⟩)) rfl rfl (y_nilCheck rfl) ?_
  refine o_y (v := .pointer (some ⟨gl, 1, none⟩)) rfl rfl (y_fieldAddr (k := 1) rfl Try.underlying49 rfl rfl ⟨_, s46⟩ (by first | rfl | omega)) ?_
  refine o_y (v := .map (some gm)) rfl rfl (y_load rfl Try.underlying46 rfl (Rd.one (k := 0) rfl rfl)) ?_
  refine o_y (v := .int .i64 (k)) rfl rfl (y_move rfl) ?_
  refine o_y (v := .tuple #[.pointer (some ⟨x, 0, none⟩), .bool (true)]) rfl rfl (y_look (o := some (x)) rfl rfl Try.underlying46 Try.underlying3 zp47 (List.mem_of_getElem? (i := 1) rfl) hM hl rfl) ?_
  refine o_y (v := .tuple #[.pointer (some ⟨x, 0, none⟩), .bool (true)]) rfl rfl (y_move rfl) ?_
  refine o_y (v := .pointer (some ⟨x, 0, none⟩)) rfl rfl (y_extract (vs := #[.pointer (some ⟨x, 0, none⟩), .bool (true)]) rfl rfl) ?_
  refine o_y (v := .bool (true)) rfl rfl (y_extract (vs := #[.pointer (some ⟨x, 0, none⟩), .bool (true)]) rfl rfl) ?_
  refine o_y (v := .pointer (some ⟨x, 0, none⟩)) rfl rfl (y_assign rfl) ?_
  refine o_y (v := .bool (true)) rfl rfl (y_assign rfl) ?_
  refine o_nil ?_
  refine hK5 _ _ ?_
  refine c_seq fun K6 hK6 => ?_
  refine c_region ?_
  refine o_y (v := .bool (true)) rfl rfl (y_move rfl) ?_
  refine o_nil ?_
  refine hK6 _ _ ?_
  refine c_cond (t := true) rfl (fun _ => ?_) (fun h => by cases h)
  refine c_seq fun K7 hK7 => ?_
  refine c_region ?_
  refine o_y (v := .pointer (some ⟨x, 0, none⟩)) rfl rfl (y_move rfl) ?_
  refine o_callS (((Hn 52 (il) f))) ([(gl, .cells (#[.int .i64 (r), .map (some gm), .pointer (some ⟨en, 0, none⟩)]) 49 (0, 0)), (gm, .map (es) (cl))]) (by have h := List.perm_append_comm_assoc ([(gl, .cells (#[.int .i64 (r), .map (some gm), .pointer (some ⟨en, 0, none⟩)]) 49 (0, 0)), (gm, .map (es) (cl))] : Hp) (Hn 52 (il) f) ([] : Hp); first | exact h | simpa [List.append_assoc] using h) (vs := [.pointer (some ⟨x, 0, none⟩)]) b22 rfl rfl (fun w hat => f22_unlink (il) f (x) (p) (q) w (by first | assumption | exact W_mem _ _ _ | exact List.mem_cons_self .. | exact List.mem_cons_of_mem _ (by first | assumption | exact W_mem _ _ _ | exact List.mem_cons_self ..)) (by first | assumption | exact W_mem _ _ _ | exact List.mem_cons_self .. | exact List.mem_cons_of_mem _ (by first | assumption | exact W_mem _ _ _ | exact List.mem_cons_self ..)) (by first | assumption | exact W_mem _ _ _ | exact List.mem_cons_self .. | exact List.mem_cons_of_mem _ (by first | assumption | exact W_mem _ _ _ | exact List.mem_cons_self ..)) (ha) (hb) hat) ?_
  rintro _ _ ⟨rfl, rfl⟩
  refine o_perm (H' := [(gl, .cells (#[.int .i64 (r), .map (some gm), .pointer (some ⟨en, 0, none⟩)]) 49 (0, 0)), (gm, .map (es) (cl))] ++ ((Hn 52 (il) (unl f (x) (p) (q))))) (by have h := (List.perm_append_comm_assoc (((Hn 52 (il) (unl f (x) (p) (q))))) ([(gl, .cells (#[.int .i64 (r), .map (some gm), .pointer (some ⟨en, 0, none⟩)]) 49 (0, 0)), (gm, .map (es) (cl))] : Hp) ([] : Hp)).symm; first | exact h | exact List.Perm.append_left _ h | simpa [List.append_assoc] using h) ?_
  refine o_nil ?_
  refine hK7 _ _ ?_
  refine c_seq fun K8 hK8 => ?_
  refine c_region ?_
  refine o_y (v := .pointer (some ⟨gl, 0, none⟩)) rfl rfl (y_move rfl) ?_
  refine o_y (v := .pointer (some ⟨x, 0, none⟩)) rfl rfl (y_move rfl) ?_
  refine o_callS ([(gl, .cells (#[.int .i64 (r), .map (some gm), .pointer (some ⟨en, 0, none⟩)]) 49 (0, 0))] ++ ((Hn 52 (il) (unl f (x) (p) (q))))) ([(gm, .map (es) (cl))]) (by have hp0 : List.Perm ([(gl, .cells (#[.int .i64 (r), .map (some gm), .pointer (some ⟨en, 0, none⟩)]) 49 (0, 0)), (gm, .map (es) (cl))] ++ ((Hn 52 (il) (unl f (x) (p) (q)))) : Hp) ((gl, (.cells (#[.int .i64 (r), .map (some gm), .pointer (some ⟨en, 0, none⟩)]) 49 (0, 0) : Obj)) :: ([(gm, .map (es) (cl))] ++ ((Hn 52 (il) (unl f (x) (p) (q)))) : Hp)) := (List.Perm.refl _); have hp1 : List.Perm ([(gm, .map (es) (cl))] ++ ((Hn 52 (il) (unl f (x) (p) (q)))) : Hp) ((Hn 52 (il) (unl f (x) (p) (q))) ++ ([(gm, .map (es) (cl))] : Hp)) := (by have h := List.perm_append_comm_assoc ([(gm, .map (es) (cl))] : Hp) (Hn 52 (il) (unl f (x) (p) (q))) ([] : Hp); first | exact h | simpa [List.append_assoc] using h); have h := (hp0.trans (List.Perm.cons _ hp1)); first | exact h | simpa [List.append_assoc] using h) (vs := [.pointer (some ⟨gl, 0, none⟩), .pointer (some ⟨x, 0, none⟩)]) b23 rfl rfl (fun w hat => f23_first gl gm en r (il) (unl f (x) (p) (q)) (x) (h) w (by first | assumption | exact W_mem _ _ _ | exact List.mem_cons_self .. | exact List.mem_cons_of_mem _ (by first | assumption | exact W_mem _ _ _ | exact List.mem_cons_self ..)) (by first | assumption | exact W_mem _ _ _ | exact List.mem_cons_self .. | exact List.mem_cons_of_mem _ (by first | assumption | exact W_mem _ _ _ | exact List.mem_cons_self ..)) (by first | assumption | exact W_mem _ _ _ | exact List.mem_cons_self .. | exact List.mem_cons_of_mem _ (by first | assumption | exact W_mem _ _ _ | exact List.mem_cons_self ..)) (hb2) hat) ?_
  rintro _ _ ⟨rfl, rfl⟩
  refine o_perm (H' := [(gl, .cells (#[.int .i64 (r), .map (some gm), .pointer (some ⟨en, 0, none⟩)]) 49 (0, 0)), (gm, .map (es) (cl))] ++ ((Hn 52 (il) (frs (unl f (x) (p) (q)) (x) en (h))))) (by have h := (List.perm_append_comm_assoc (((Hn 52 (il) (frs (unl f (x) (p) (q)) (x) en (h))))) ([(gm, .map (es) (cl))] : Hp) ([] : Hp)).symm; first | exact h | exact List.Perm.append_left _ h | simpa [List.append_assoc] using h) ?_
  refine o_nil ?_
  refine hK8 _ _ ?_
  refine c_seq fun K9 hK9 => ?_
  refine c_region ?_
  refine o_y (v := .int .i64 (0)) rfl rfl (y_assign rfl) ?_
  refine o_y (v := .bool (false)) rfl rfl (y_assign rfl) ?_
  refine o_y (v := .int .i64 (0)) rfl rfl (y_assign rfl) ?_
  refine o_nil ?_
  refine hK9 _ _ ?_
  refine c_ret ?_
  refine fun w hw => ⟨[.int .i64 (0), .bool (false), .int .i64 (0)], ⟨rfl, rfl, rfl, trivial⟩, ?_⟩
  exact ⟨_, ⟨rfl, rfl⟩, ((((List.Sublist.refl _).cons_cons _).cons_cons _) : (([(gl, .cells #[.int .i64 (r), .map (some gm), .pointer (some ⟨en, 0, none⟩)] 49 (0, 0)), (gm, .map es cl)] ++ Hn 52 (il) (frs (unl f x p q) x en h) : Hp)).Sublist _)⟩
  first | done | rfl

set_option maxRecDepth 100000 in
set_option maxHeartbeats 4000000 in
theorem f9_TouchNew (gl gm en : Nat) (r : Int) (es : Array MapEntry) (cl : Nat) (mp : List (Int × Nat)) (il : List Nat) (f : Nat → Nd) (k : Int) (h : Nat) (w : World) (hM : MapC mp es) (he : en ∈ il) (hh : h ∈ il) (hb : (f en).b = PP h) (hl : lookM mp k = none) (hlen : (mp.length : Int) ≠ r) (hat : At ([(gl, .cells (#[.int .i64 (r), .map (some gm), .pointer (some ⟨en, 0, none⟩)]) 49 (0, 0)), (gm, .map (es) (cl))] ++ ((Hn 52 (il) f))) w) :
    Calls Try.prog 9 [.pointer (some ⟨gl, 0, none⟩), .int .i64 (k)].toArray w fun e w' => ∃ v H', e = .returned v ∧ St w (ids ([(gl, .cells (#[.int .i64 (r), .map (some gm), .pointer (some ⟨en, 0, none⟩)]) 49 (0, 0)), (gm, .map (es) (cl))] ++ ((Hn 52 (il) f)))) H' w' ∧ (fun v H => v = .tuple #[.int .i64 (0), .bool (false), .int .i64 (0)] ∧ ∃ g es' cl', H = ([(gl, .cells #[.int .i64 (r), .map (some gm), .pointer (some ⟨en, 0, none⟩)] 49 (0, 0)), (gm, .map es' cl')] ++ Hn 52 (g :: il) (frs (putN f g ⟨k, false, .pointer none, .pointer none⟩) g en h) : Hp) ∧ MapC (mp ++ [(k, g)]) es' ∧ g ∉ il) v H' := by
  have hnd : il.Nodup := by have h := hat.2; simp only [List.map_append, List.map_cons, List.map_nil, Hn.fst, List.cons_append, List.nil_append, List.nodup_cons] at h; first | exact h | exact h.2 | exact h.2.2
  refine (calls_of (P := Try.prog) (n := 88) (w0 := w) (S := ids ([(gl, .cells (#[.int .i64 (r), .map (some gm), .pointer (some ⟨en, 0, none⟩)]) 49 (0, 0)), (gm, .map (es) (cl))] ++ ((Hn 52 (il) f)))) (H := [(gl, .cells (#[.int .i64 (r), .map (some gm), .pointer (some ⟨en, 0, none⟩)]) 49 (0, 0)), (gm, .map (es) (cl))] ++ ((Hn 52 (il) f))) (T := fun v H => ∃ H1, (fun v H => v = .tuple #[.int .i64 (0), .bool (false), .int .i64 (0)] ∧ ∃ g es' cl', H = ([(gl, .cells #[.int .i64 (r), .map (some gm), .pointer (some ⟨en, 0, none⟩)] 49 (0, 0)), (gm, .map es' cl')] ++ Hn 52 (g :: il) (frs (putN f g ⟨k, false, .pointer none, .pointer none⟩) g en h) : Hp) ∧ MapC (mp ++ [(k, g)]) es' ∧ g ∉ il) v H1 ∧ (H1 : Hp).Sublist H) Try.func9 rfl Try.ntmps9 (Nat.le_of_ble_eq_true rfl) [.tmp 4, .tmp 5, .tmp 6] rfl hat.st ?_).mono fun e w' ⟨v, H', he, hs, H1, hT, hsub⟩ => ⟨v, H1, he, hs.drop hsub, hT⟩
  refine c_seq fun K1 hK1 => ?_
  refine c_region ?_
  refine o_y (v := .int .i64 (0)) rfl rfl (y_assign rfl) ?_
  refine o_y (v := .bool (false)) rfl rfl (y_assign rfl) ?_
  refine o_y (v := .int .i64 (0)) rfl rfl (y_assign rfl) ?_
  refine o_nil ?_
  refine hK1 _ _ ?_
  refine c_seq fun K2 hK2 => ?_
  refine c_seq fun K3 hK3 => ?_
  refine c_region ?_
  refine o_y (v := .pointer (some ⟨gl, 0, none⟩)) rfl rfl (y_move rfl) ?_
  refine o_y (v := .bool (false)) rfl rfl (y_call (vs := [.pointer (some ⟨gl, 0, none⟩)]) b21 rfl (fun w hw => f21_some gl gm en r w (hw.sat (((List.nil_sublist _).cons _).cons_cons _)))) ?_
  refine o_nil ?_
  refine hK3 _ _ ?_
  refine c_cond (t := false) rfl (fun h => by cases h) (fun _ => ?_)
  refine c_skip ?_
  refine hK2 _ _ ?_
  refine c_seq fun K4 hK4 => ?_
  refine c_seq fun K5 hK5 => ?_
  refine c_region ?_
  refine o_y (v := .pointer (some ⟨gl, 0, none⟩)) rfl rfl (y_move rfl) ?_
  refine o_y (v := .pointer (some ⟨gl, 0, none⟩)) rfl rfl (y_nilCheck rfl) ?_
  refine o_y (v := .pointer (some ⟨gl, 1, none⟩)) rfl rfl (y_fieldAddr (k := 1) rfl Try.underlying49 rfl rfl ⟨_, s46⟩ (by first | rfl | omega)) ?_
  refine o_y (v := .map (some gm)) rfl rfl (y_load rfl Try.underlying46 rfl (Rd.one (k := 0) rfl rfl)) ?_
  refine o_y (v := .int .i64 (k)) rfl rfl (y_move rfl) ?_
  refine o_y (v := .tuple #[.pointer none, .bool (false)]) rfl rfl (y_look (o := none) rfl rfl Try.underlying46 Try.underlying3 zp47 (List.mem_of_getElem? (i := 1) rfl) hM hl rfl) ?_
  refine o_y (v := .tuple #[.pointer none, .bool (false)]) rfl rfl (y_move rfl) ?_
  refine o_y (v := .pointer none) rfl rfl (y_extract (vs := #[.pointer none, .bool (false)]) rfl rfl) ?_
  refine o_y (v := .bool (false)) rfl rfl (y_extract (vs := #[.pointer none, .bool (false)]) rfl rfl) ?_
  refine o_y (v := .pointer none) rfl rfl (y_assign rfl) ?_
  refine o_y (v := .bool (false)) rfl rfl (y_assign rfl) ?_
  refine o_nil ?_
  refine hK5 _ _ ?_
  refine c_seq fun K6 hK6 => ?_
  refine c_region ?_
  refine o_y (v := .bool (false)) rfl rfl (y_move rfl) ?_
  refine o_nil ?_
  refine hK6 _ _ ?_
  refine c_cond (t := false) rfl (fun h => by cases h) (fun _ => ?_)
  refine c_skip ?_
  refine hK4 _ _ ?_
  refine c_seq fun K7 hK7 => ?_
  refine c_seq fun K8 hK8 => ?_
  refine c_draw 10 (by kernel_rfl) (by kernel_rfl) ?_
  refine q_y (v := .pointer (some ⟨gl, 0, none⟩)) rfl (y_move rfl) ?_
  refine q_y (v := .pointer (some ⟨gl, 0, none⟩)) rfl (y_nilCheck rfl) ?_
  refine q_y (v := .pointer (some ⟨gl, 1, none⟩)) rfl (y_fieldAddr (k := 1) rfl Try.underlying49 rfl rfl ⟨_, s46⟩ (by first | rfl | omega)) ?_
  refine q_y (v := .map (some gm)) rfl (y_load rfl Try.underlying46 rfl (Rd.one (k := 0) rfl rfl)) ?_
  refine q_y (v := .int .i64 (((mp.length : Nat) : Int))) rfl (y_lenM rfl um46 (List.mem_of_getElem? (i := 1) rfl) hM) ?_
  refine q_y (v := .pointer (some ⟨gl, 0, none⟩)) rfl (y_move rfl) ?_
  refine q_y (v := .pointer (some ⟨gl, 0, none⟩)) rfl (y_nilCheck rfl) ?_
  refine q_y (v := .pointer (some ⟨gl, 0, none⟩)) rfl (y_fieldAddr (k := 0) rfl Try.underlying49 rfl rfl ⟨_, s3⟩ (by first | rfl | omega)) ?_
  refine q_y (v := .int .i64 (r)) rfl (y_load rfl Try.underlying3 rfl (Rd.one (k := 0) rfl rfl)) ?_
  refine q_y (v := .bool (false)) rfl (y_bool (y_eql rfl rfl rfl) (decide_eq_false hlen)) ?_
  refine q_nil ?_
  refine o_nil ?_
  refine hK8 _ _ ?_
  refine c_cond (t := false) rfl (fun h => by cases h) (fun _ => ?_)
  refine c_skip ?_
  refine hK7 _ _ ?_
  refine c_seq fun K9 hK9 => ?_
  refine c_region ?_
  refine o_y (v := .int .i64 (k)) rfl rfl (y_move rfl) ?_
  refine o_y (v := .agg (#[.int .i64 (k), .bool (false), .pointer none, .pointer none])) rfl rfl (y_build rfl (by kernel_rfl)) ?_
  refine o_box (v := .agg (#[.int .i64 (k), .bool (false), .pointer none, .pointer none])) rfl rfl fun g1 => ?_
  refine o_y (v := .pointer (some ⟨g1, 0, none⟩)) rfl rfl (y_assign rfl) ?_
  refine o_nil ?_
  refine hK9 _ _ ?_
  refine c_seq fun K10 hK10 => ?_
  refine c_region ?_
  refine o_y (v := .pointer (some ⟨gl, 0, none⟩)) rfl rfl (y_move rfl) ?_
  refine o_y (v := .pointer (some ⟨gl, 0, none⟩)) rfl rfl (y_nilCheck rfl) ?_
  refine o_y (v := .pointer (some ⟨gl, 1, none⟩)) rfl rfl (y_fieldAddr (k := 1) rfl Try.underlying49 rfl rfl ⟨_, s46⟩ (by first | rfl | omega)) ?_
  refine o_y (v := .map (some gm)) rfl rfl (y_load rfl Try.underlying46 rfl (Rd.one (k := 1) rfl rfl)) ?_
  refine o_y (v := .int .i64 (k)) rfl rfl (y_move rfl) ?_
  refine o_y (v := .pointer (some ⟨g1, 0, none⟩)) rfl rfl (y_move rfl) ?_
  refine o_putM (g := g1) 2 rfl rfl rfl Try.underlying46 Try.underlying3 rfl hM hl fun esm2 clm2 hMm2 => ?_
  refine o_nil ?_
  refine hK10 _ _ ?_
  refine c_seq fun K11 hK11 => ?_
  refine c_region ?_
  refine o_y (v := .pointer (some ⟨gl, 0, none⟩)) rfl rfl (y_move rfl) ?_
  refine o_y (v := .pointer (some ⟨g1, 0, none⟩)) rfl rfl (y_move rfl) ?_
  refine o_nodup fun hg3 => ?_
  replace hg3 : g1 ∉ il := by intro hm; simp [Hn.fst] at hg3; simp_all
  refine o_perm (H' := [(gl, .cells (#[.int .i64 (r), .map (some gm), .pointer (some ⟨en, 0, none⟩)]) 49 (0, 0)), (gm, .map (esm2) (clm2))] ++ ((Hn 52 (g1 :: il) (putN f g1 ⟨k, false, .pointer none, .pointer none⟩)))) (by rw [← Hn.put hg3]; exact List.perm_middle (l₁ := ([(gl, .cells (#[.int .i64 (r), .map (some gm), .pointer (some ⟨en, 0, none⟩)]) 49 (0, 0)), (gm, .map (esm2) (clm2))] : Hp)) (l₂ := (Hn 52 (il) f))) ?_
  refine o_callS ([(gl, .cells (#[.int .i64 (r), .map (some gm), .pointer (some ⟨en, 0, none⟩)]) 49 (0, 0))] ++ ((Hn 52 (g1 :: il) (putN f g1 ⟨k, false, .pointer none, .pointer none⟩)))) ([(gm, .map (esm2) (clm2))]) (by have hp0 : List.Perm ([(gl, .cells (#[.int .i64 (r), .map (some gm), .pointer (some ⟨en, 0, none⟩)]) 49 (0, 0)), (gm, .map (esm2) (clm2))] ++ ((Hn 52 (g1 :: il) (putN f g1 ⟨k, false, .pointer none, .pointer none⟩))) : Hp) ((gl, (.cells (#[.int .i64 (r), .map (some gm), .pointer (some ⟨en, 0, none⟩)]) 49 (0, 0) : Obj)) :: ([(gm, .map (esm2) (clm2))] ++ ((Hn 52 (g1 :: il) (putN f g1 ⟨k, false, .pointer none, .pointer none⟩))) : Hp)) := (List.Perm.refl _); have hp1 : List.Perm ([(gm, .map (esm2) (clm2))] ++ ((Hn 52 (g1 :: il) (putN f g1 ⟨k, false, .pointer none, .pointer none⟩))) : Hp) ((Hn 52 (g1 :: il) (putN f g1 ⟨k, false, .pointer none, .pointer none⟩)) ++ ([(gm, .map (esm2) (clm2))] : Hp)) := (by have h := List.perm_append_comm_assoc ([(gm, .map (esm2) (clm2))] : Hp) (Hn 52 (g1 :: il) (putN f g1 ⟨k, false, .pointer none, .pointer none⟩)) ([] : Hp); first | exact h | simpa [List.append_assoc] using h); have h := (hp0.trans (List.Perm.cons _ hp1)); first | exact h | simpa [List.append_assoc] using h) (vs := [.pointer (some ⟨gl, 0, none⟩), .pointer (some ⟨g1, 0, none⟩)]) b23 rfl rfl (fun w hat => f23_first gl gm en r (g1 :: il) (putN f g1 ⟨k, false, .pointer none, .pointer none⟩) (g1) (h) w (by first | assumption | exact W_mem _ _ _ | exact List.mem_cons_self .. | exact List.mem_cons_of_mem _ (by first | assumption | exact W_mem _ _ _ | exact List.mem_cons_self ..)) (by first | assumption | exact W_mem _ _ _ | exact List.mem_cons_self .. | exact List.mem_cons_of_mem _ (by first | assumption | exact W_mem _ _ _ | exact List.mem_cons_self ..)) (by first | assumption | exact W_mem _ _ _ | exact List.mem_cons_self .. | exact List.mem_cons_of_mem _ (by first | assumption | exact W_mem _ _ _ | exact List.mem_cons_self ..)) ((by rw [putN_ne _ _ _ (ne_mem he hg3)]; exact hb)) hat) ?_
  rintro _ _ ⟨rfl, rfl⟩
  refine o_perm (H' := [(gl, .cells (#[.int .i64 (r), .map (some gm), .pointer (some ⟨en, 0, none⟩)]) 49 (0, 0)), (gm, .map (esm2) (clm2))] ++ ((Hn 52 (g1 :: il) (frs (putN f g1 ⟨k, false, .pointer none, .pointer none⟩) (g1) en (h))))) (by have h := (List.perm_append_comm_assoc (((Hn 52 (g1 :: il) (frs (putN f g1 ⟨k, false, .pointer none, .pointer none⟩) (g1) en (h))))) ([(gm, .map (esm2) (clm2))] : Hp) ([] : Hp)).symm; first | exact h | exact List.Perm.append_left _ h | simpa [List.append_assoc] using h) ?_
  refine o_nil ?_
  refine hK11 _ _ ?_
  refine c_seq fun K12 hK12 => ?_
  refine c_region ?_
  refine o_y (v := .int .i64 (0)) rfl rfl (y_move rfl) ?_
  refine o_y (v := .bool (false)) rfl rfl (y_move rfl) ?_
  refine o_y (v := .int .i64 (0)) rfl rfl (y_assign rfl) ?_
  refine o_y (v := .bool (false)) rfl rfl (y_assign rfl) ?_
  refine o_y (v := .int .i64 (0)) rfl rfl (y_assign rfl) ?_
  refine o_nil ?_
  refine hK12 _ _ ?_
  refine c_ret ?_
  refine fun w hw => ⟨[.int .i64 (0), .bool (false), .int .i64 (0)], ⟨rfl, rfl, rfl, trivial⟩, ?_⟩
  exact ⟨_, ⟨rfl, _, _, _, rfl, hMm2, hg3⟩, (((List.Sublist.refl _).cons_cons _).cons_cons _)⟩
  first | done | rfl

end Go.Proofs.Ytpbpenlceigddaa.Lru
