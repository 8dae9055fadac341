/- Proved: what the functions of a line come to; the conditions stand in the statements. -/
import Derived.Test.YtediblifbfhahaaLineBase
set_option linter.unusedVariables false
set_option linter.unusedSimpArgs false
namespace Go.Proofs.Ytediblifbfhahaa.Line
open Go Go.RowKit Go.Proofs.Ytediblifbfhahaa.Eng

set_option maxRecDepth 100000 in
set_option maxHeartbeats 4000000 in
theorem f21_asked (g : Nat) (s : LS) (m : Int) (w : World)  (hat : At ([(g, .cells (LS.enc (s)) 54 (0, 0))]) w) :
    Calls Try.prog 21 [.pointer (some ⟨g, 0, none⟩), .int .i64 (m)].toArray w fun e w' => e = .returned (.int .i64 (askE s.mem m)) ∧ Below w.heap.size w w' := by
  refine (calls_of (P := Try.prog) (n := 26) (w0 := w) (S := ids ([(g, .cells (LS.enc (s)) 54 (0, 0))])) (H := [(g, .cells (LS.enc (s)) 54 (0, 0))]) (T := fun v H => v = (.int .i64 (askE s.mem m)) ∧ ([(g, .cells (LS.enc (s)) 54 (0, 0))] : Hp).Sublist H) Try.func21 rfl Try.ntmps21 (Nat.le_of_ble_eq_true rfl) [.tmp 4] rfl hat.st ?_).mono fun e w' ⟨v, H', he, hs, hT, hsub⟩ => ⟨by rw [he, hT], St.same hat hs hsub⟩
  refine c_seq fun K1 hK1 => ?_
  refine c_region ?_
  refine o_y (v := .int .i64 (0)) rfl rfl (y_assign rfl) ?_
  refine o_nil ?_
  refine hK1 _ _ ?_
  refine c_seq fun K2 hK2 => ?_
  refine c_block ?_
  refine c_seq fun K3 hK3 => ?_
  refine c_region ?_
  refine o_y (v := .pointer (some ⟨g, 0, none⟩)) rfl rfl (y_move rfl) ?_
  refine o_y (v := .bool (false)) rfl rfl (y_eqlN rfl rfl Try.underlying25 rfl) ?_
  refine o_y (v := .bool (false)) rfl rfl (y_move rfl) ?_
  refine o_guard (j := 2) (d := 8) (b := false) rfl rfl rfl (fun _ => ?_) rfl (fun h => by cases h)
  refine o_y (v := .pointer (some ⟨g, 0, none⟩)) rfl rfl (y_move rfl) ?_
  refine o_guard (j := 2) (d := 8) (b := false) rfl rfl rfl (fun _ => ?_) rfl (fun h => by cases h)
  refine o_y (v := .pointer (some ⟨g, 0, none⟩)) rfl rfl (y_nilCheck rfl) ?_
  refine o_guard (j := 2) (d := 8) (b := false) rfl rfl rfl (fun _ => ?_) rfl (fun h => by cases h)
  refine o_y (v := .pointer (some ⟨g, 0, none⟩)) rfl rfl (y_fieldAddr (k := 0) rfl Try.underlying54 rfl rfl ⟨_, s3⟩ (by first | rfl | omega)) ?_
  refine o_guard (j := 2) (d := 8) (b := false) rfl rfl rfl (fun _ => ?_) rfl (fun h => by cases h)
  refine o_y (v := .int .i64 (s.mem)) rfl rfl (y_load rfl Try.underlying3 rfl (Rd.one (k := 0) rfl (LS.rd_mem s))) ?_
  refine o_guard (j := 2) (d := 8) (b := false) rfl rfl rfl (fun _ => ?_) rfl (fun h => by cases h)
  refine o_y (v := .bool (decide (s.mem = 0))) rfl rfl (y_eql rfl rfl rfl) ?_
  refine o_y (v := .bool (decide (s.mem = 0))) rfl rfl (y_pick (b := false) rfl rfl) ?_
  refine o_y (v := .bool (decide (s.mem = 0))) rfl rfl (y_assign rfl) ?_
  refine o_nil ?_
  refine hK3 _ _ ?_
  refine c_cond (t := decide (s.mem = 0)) rfl (fun hc1 => ?_) (fun hc1 => ?_)
  ·
    replace hc1 := of_decide_eq_true hc1
    -- way T
    refine c_seq fun K4 hK4 => ?_
    refine c_region ?_
    refine o_y (v := .int .i64 (1)) rfl rfl (y_assign rfl) ?_
    refine o_nil ?_
    refine hK4 _ _ ?_
    refine c_ret ?_
    refine fun w hw => ⟨[.int .i64 (1)], ⟨rfl, trivial⟩, ?_⟩
    exact ⟨ie (by unfold askE; split <;> first | omega | (split <;> omega)), (List.Sublist.slnil.cons_cons _)⟩
    first | done | rfl
  ·
    replace hc1 := of_decide_eq_false hc1
    -- way F
    refine c_seq fun K5 hK5 => ?_
    refine c_region ?_
    refine o_y (v := .int .i64 (m)) rfl rfl (y_move rfl) ?_
    refine o_y (v := .bool (decide (m < 0))) rfl rfl (y_lss rfl rfl rfl) ?_
    refine o_y (v := .bool (decide (m < 0))) rfl rfl (y_move rfl) ?_
    cases hc2 : (decide (m < 0) : Bool)
    ·
      have hc2' := of_decide_eq_false hc2
      -- way FF
      refine o_guard (j := 2) (d := 18) (b := false) rfl rfl rfl (fun _ => ?_) rfl (fun h => by cases h)
      refine o_y (v := .int .i64 (m)) rfl rfl (y_move rfl) ?_
      refine o_guard (j := 2) (d := 18) (b := false) rfl rfl rfl (fun _ => ?_) rfl (fun h => by cases h)
      refine o_y (v := .pointer (some ⟨g, 0, none⟩)) rfl rfl (y_move rfl) ?_
      refine o_guard (j := 2) (d := 18) (b := false) rfl rfl rfl (fun _ => ?_) rfl (fun h => by cases h)
      refine o_y (v := .pointer (some ⟨g, 0, none⟩)) rfl rfl (y_nilCheck rfl) ?_
      refine o_guard (j := 2) (d := 18) (b := false) rfl rfl rfl (fun _ => ?_) rfl (fun h => by cases h)
      refine o_y (v := .pointer (some ⟨g, 0, none⟩)) rfl rfl (y_fieldAddr (k := 0) rfl Try.underlying54 rfl rfl ⟨_, s3⟩ (by first | rfl | omega)) ?_
      refine o_guard (j := 2) (d := 18) (b := false) rfl rfl rfl (fun _ => ?_) rfl (fun h => by cases h)
      refine o_y (v := .int .i64 (s.mem)) rfl rfl (y_load rfl Try.underlying3 rfl (Rd.one (k := 0) rfl (LS.rd_mem s))) ?_
      refine o_guard (j := 2) (d := 18) (b := false) rfl rfl rfl (fun _ => ?_) rfl (fun h => by cases h)
      refine o_y (v := .bool (decide (s.mem ≤ m))) rfl rfl (y_geq rfl rfl rfl) ?_
      refine o_y (v := .bool (decide (s.mem ≤ m))) rfl rfl (y_pick (b := false) rfl rfl) ?_
      refine o_y (v := .bool (decide (s.mem ≤ m))) rfl rfl (y_assign rfl) ?_
      refine o_nil ?_
      refine hK5 _ _ ?_
      refine c_cond (t := decide (s.mem ≤ m)) rfl (fun hc3 => ?_) (fun hc3 => ?_)
      ·
        replace hc3 := of_decide_eq_true hc3
        -- way FFT
        refine c_seq fun K6 hK6 => ?_
        refine c_region ?_
        refine o_y (v := .int .i64 (2)) rfl rfl (y_assign rfl) ?_
        refine o_nil ?_
        refine hK6 _ _ ?_
        refine c_ret ?_
        refine fun w hw => ⟨[.int .i64 (2)], ⟨rfl, trivial⟩, ?_⟩
        exact ⟨ie (by unfold askE; split <;> first | omega | (split <;> omega)), (List.Sublist.slnil.cons_cons _)⟩
        first | done | rfl
      ·
        replace hc3 := of_decide_eq_false hc3
        -- way FFF
        refine c_skip ?_
        refine hK2 _ _ ?_
        refine c_seq fun K7 hK7 => ?_
        refine c_region ?_
        refine o_y (v := .int .i64 (0)) rfl rfl (y_assign rfl) ?_
        refine o_nil ?_
        refine hK7 _ _ ?_
        refine c_ret ?_
        refine fun w hw => ⟨[.int .i64 (0)], ⟨rfl, trivial⟩, ?_⟩
        exact ⟨ie (by unfold askE; split <;> first | omega | (split <;> omega)), (List.Sublist.slnil.cons_cons _)⟩
        first | done | rfl
    ·
      have hc2' := of_decide_eq_true hc2
      -- way FT
      refine o_guard (j := 2) (d := 18) (b := true) rfl rfl rfl (fun h => by cases h) rfl (fun _ => ?_)
      refine o_guard (j := 2) (d := 18) (b := true) rfl rfl rfl (fun h => by cases h) rfl (fun _ => ?_)
      refine o_guard (j := 2) (d := 18) (b := true) rfl rfl rfl (fun h => by cases h) rfl (fun _ => ?_)
      refine o_guard (j := 2) (d := 18) (b := true) rfl rfl rfl (fun h => by cases h) rfl (fun _ => ?_)
      refine o_guard (j := 2) (d := 18) (b := true) rfl rfl rfl (fun h => by cases h) rfl (fun _ => ?_)
      refine o_guard (j := 2) (d := 18) (b := true) rfl rfl rfl (fun h => by cases h) rfl (fun _ => ?_)
      refine o_y (v := .bool (true)) rfl rfl (y_pick (b := true) rfl rfl) ?_
      refine o_y (v := .bool (true)) rfl rfl (y_assign rfl) ?_
      refine o_nil ?_
      refine hK5 _ _ ?_
      refine c_cond (t := true) rfl (fun _ => ?_) (fun h => by cases h)
      refine c_seq fun K8 hK8 => ?_
      refine c_region ?_
      refine o_y (v := .int .i64 (2)) rfl rfl (y_assign rfl) ?_
      refine o_nil ?_
      refine hK8 _ _ ?_
      refine c_ret ?_
      refine fun w hw => ⟨[.int .i64 (2)], ⟨rfl, trivial⟩, ?_⟩
      exact ⟨ie (by unfold askE; split <;> first | omega | (split <;> omega)), (List.Sublist.slnil.cons_cons _)⟩
      first | done | rfl

set_option maxRecDepth 100000 in
set_option maxHeartbeats 4000000 in
theorem f21_askedN (m : Int) (w : World)  :
    Calls Try.prog 21 [.pointer none, .int .i64 (m)].toArray w fun e w' => e = .returned (.int .i64 (1)) ∧ Below w.heap.size w w' := by
  refine (calls_of (P := Try.prog) (n := 26) (w0 := w) (S := fun _ => False) (H := []) (T := fun v _ => v = (.int .i64 (1))) Try.func21 rfl Try.ntmps21 (Nat.le_of_ble_eq_true rfl) [.tmp 4] rfl (St.nil w _) ?_).mono fun e w' ⟨v, H', he, hs, hT⟩ => ⟨by rw [he, hT], hs.below⟩
  refine c_seq fun K1 hK1 => ?_
  refine c_region ?_
  refine o_y (v := .int .i64 (0)) rfl rfl (y_assign rfl) ?_
  refine o_nil ?_
  refine hK1 _ _ ?_
  refine c_seq fun K2 hK2 => ?_
  refine c_block ?_
  refine c_seq fun K3 hK3 => ?_
  refine c_region ?_
  refine o_y (v := .pointer none) rfl rfl (y_move rfl) ?_
  refine o_y (v := .bool (true)) rfl rfl (y_eqlN rfl rfl Try.underlying25 rfl) ?_
  refine o_y (v := .bool (true)) rfl rfl (y_move rfl) ?_
  refine o_guard (j := 2) (d := 8) (b := true) rfl rfl rfl (fun h => by cases h) rfl (fun _ => ?_)
  refine o_guard (j := 2) (d := 8) (b := true) rfl rfl rfl (fun h => by cases h) rfl (fun _ => ?_)
  refine o_guard (j := 2) (d := 8) (b := true) rfl rfl rfl (fun h => by cases h) rfl (fun _ => ?_)
  refine o_guard (j := 2) (d := 8) (b := true) rfl rfl rfl (fun h => by cases h) rfl (fun _ => ?_)
  refine o_guard (j := 2) (d := 8) (b := true) rfl rfl rfl (fun h => by cases h) rfl (fun _ => ?_)
  refine o_y (v := .bool (true)) rfl rfl (y_pick (b := true) rfl rfl) ?_
  refine o_y (v := .bool (true)) rfl rfl (y_assign rfl) ?_
  refine o_nil ?_
  refine hK3 _ _ ?_
  refine c_cond (t := true) rfl (fun _ => ?_) (fun h => by cases h)
  refine c_seq fun K4 hK4 => ?_
  refine c_region ?_
  refine o_y (v := .int .i64 (1)) rfl rfl (y_assign rfl) ?_
  refine o_nil ?_
  refine hK4 _ _ ?_
  refine c_ret ?_
  refine fun w hw => ⟨[.int .i64 (1)], ⟨rfl, trivial⟩, ?_⟩
  exact rfl

set_option maxRecDepth 100000 in
set_option maxHeartbeats 4000000 in
theorem f8_Learn (g : Nat) (s : LS) (m : Int) (b : Blk) (w : World) (hm : 0 ≤ s.mem ∧ s.mem ≤ 16) (hat : At ([(g, .cells (LS.enc (s)) 54 (0, 0))]) w) :
    Calls Try.prog 8 [.pointer (some ⟨g, 0, none⟩), .int .i64 (m), .agg (bv (b))].toArray w fun e w' => ∃ v H', e = .returned v ∧ St w (ids ([(g, .cells (LS.enc (s)) 54 (0, 0))])) H' w' ∧ (fun v H => v = .int .i64 (askE s.mem m) ∧ H = [(g, .cells (LS.enc (learnS s m b)) 54 (0, 0))]) v H' := by
  refine (calls_of (P := Try.prog) (n := 32) (w0 := w) (S := ids ([(g, .cells (LS.enc (s)) 54 (0, 0))])) (H := [(g, .cells (LS.enc (s)) 54 (0, 0))]) (T := fun v H => ∃ H1, (fun v H => v = .int .i64 (askE s.mem m) ∧ H = [(g, .cells (LS.enc (learnS s m b)) 54 (0, 0))]) v H1 ∧ (H1 : Hp).Sublist H) Try.func8 rfl Try.ntmps8 (Nat.le_of_ble_eq_true rfl) [.tmp 6] rfl hat.st ?_).mono fun e w' ⟨v, H', he, hs, H1, hT, hsub⟩ => ⟨v, H1, he, hs.drop hsub, hT⟩
  refine c_seq fun K1 hK1 => ?_
  refine c_region ?_
  refine o_box (v := .agg (bv (b))) rfl rfl fun g1 => ?_
  refine o_y (v := .int .i64 (0)) rfl rfl (y_assign rfl) ?_
  refine o_nil ?_
  refine hK1 _ _ ?_
  refine c_seq fun K2 hK2 => ?_
  refine c_seq fun K3 hK3 => ?_
  refine c_region ?_
  refine o_y (v := .pointer (some ⟨g, 0, none⟩)) rfl rfl (y_move rfl) ?_
  refine o_y (v := .int .i64 (m)) rfl rfl (y_move rfl) ?_
  refine o_y (v := .int .i64 (askE (s).mem (m))) rfl rfl (y_call (vs := [.pointer (some ⟨g, 0, none⟩), .int .i64 (m)]) b21 rfl (fun w hw => f21_asked _ (s) (m) w (hw.sat ((List.Sublist.slnil.cons_cons _).cons _)))) ?_
  refine o_y (v := .int .i64 (askE (s).mem (m))) rfl rfl (y_assign rfl) ?_
  refine o_nil ?_
  refine hK3 _ _ ?_
  refine c_seq fun K4 hK4 => ?_
  refine c_region ?_
  refine o_y (v := .int .i64 (askE (s).mem (m))) rfl rfl (y_move rfl) ?_
  refine o_y (v := .bool (decide (askE (s).mem (m) ≠ 0))) rfl rfl (y_neq rfl rfl rfl) ?_
  refine o_nil ?_
  refine hK4 _ _ ?_
  refine c_cond (t := decide (askE (s).mem (m) ≠ 0)) rfl (fun hc1 => ?_) (fun hc1 => ?_)
  ·
    replace hc1 := of_decide_eq_true hc1
    -- way T
    refine c_seq fun K5 hK5 => ?_
    refine c_region ?_
    refine o_y (v := .int .i64 (askE (s).mem (m))) rfl rfl (y_move rfl) ?_
    refine o_y (v := .int .i64 (askE (s).mem (m))) rfl rfl (y_assign rfl) ?_
    refine o_nil ?_
    refine hK5 _ _ ?_
    refine c_ret ?_
    refine fun w hw => ⟨[.int .i64 (askE (s).mem (m))], ⟨rfl, trivial⟩, ?_⟩
    exact ⟨_, ⟨ie (rfl), rfl⟩, (show ([(g, .cells (LS.enc (learnS s m b)) 54 (0, 0))] : Hp).Sublist _ from (by rw [show learnS s m b = s from (if_neg (fun h => by omega))]; exact ((List.Sublist.slnil.cons_cons _).cons _)))⟩
    first | done | rfl
  ·
    replace hc1 := of_decide_eq_false hc1
    -- way F
    have ha : askE s.mem m = 0 := by omega
    have hq := ask0 ha
    refine c_skip ?_
    refine hK2 _ _ ?_
    refine c_seq fun K6 hK6 => ?_
    refine c_seq fun K7 hK7 => ?_
    refine c_region ?_
    refine o_y (v := .pointer (some ⟨g, 0, none⟩)) rfl rfl (y_move rfl) ?_
    refine o_y (v := .int .i64 (m)) rfl rfl (y_move rfl) ?_
    refine o_y (v := .pointer (some ⟨g, 0, none⟩)) rfl rfl (y_nilCheck rfl) ?_
    refine o_y (v := .pointer (some ⟨g, 1, none⟩)) rfl rfl (y_fieldAddr (k := 1) rfl Try.underlying54 rfl rfl ⟨_, s51⟩ (by first | rfl | omega)) ?_
    refine o_y (v := .pointer (some ⟨g, 1 + ((m).toNat), none⟩)) rfl rfl (y_ixArr (sz := 1) rfl rfl Try.underlying51 s4 (by omega) (by omega) (by first | omega | (simp; done) | (simp; omega))) ?_
    refine o_y (v := .bool (s.kn.getD ((m).toNat) false)) rfl rfl (y_load rfl Try.underlying4 rfl (Rd.one (k := 1) rfl (LS.kn_at s ((m).toNat) (by omega)))) ?_
    refine o_y (v := .bool (!(s.kn.getD ((m).toNat) false))) rfl rfl (y_not rfl rfl) ?_
    refine o_nil ?_
    refine hK7 _ _ ?_
    refine c_cond (t := !(s.kn.getD ((m).toNat) false)) rfl (fun hc2 => ?_) (fun hc2 => ?_)
    ·
      try have hc2' : (s.kn.getD ((m).toNat) false) = false := by simpa using hc2
      -- way FT
      refine c_drawF [0, 1, 2, 3, 4, 5, 6, 7, 9, 10, 11] [8, 12] [0, 1, 5, 6, 7] (by kernel_rfl) (by kernel_rfl) ?_
      refine f_e (v := .pointer (some ⟨g, 0, none⟩)) rfl rfl (qn rfl (y_move rfl)) ?_
      refine f_e (v := .int .i64 (m)) rfl rfl (qn rfl (y_move rfl)) ?_
      refine f_l (v := .pointer (some ⟨g, 0, none⟩)) rfl rfl (qn rfl (y_move rfl)) ?_
      refine f_l (v := .int .i64 (m)) rfl rfl (qn rfl (y_move rfl)) ?_
      refine f_l (v := .agg (bv (b))) rfl rfl (qn rfl (y_loadB T23 rfl (Rd.whole (k := 0) rfl))) ?_
      refine f_e (v := .pointer (some ⟨g, 0, none⟩)) rfl rfl (qn rfl (y_nilCheck rfl)) ?_
      refine f_e (v := .pointer (some ⟨g, 1, none⟩)) rfl rfl (qn rfl (y_fieldAddr (k := 1) rfl Try.underlying54 rfl rfl ⟨_, s51⟩ (by first | rfl | omega))) ?_
      refine f_e (v := .pointer (some ⟨g, 1 + ((m).toNat), none⟩)) rfl rfl (qn rfl (y_ixArr (sz := 1) rfl rfl Try.underlying51 s4 (by omega) (by omega) (by first | omega | (simp; done) | (simp; omega)))) ?_
      refine f_l (v := .pointer (some ⟨g, 0, none⟩)) rfl rfl (qn rfl (y_nilCheck rfl)) ?_
      refine f_l (v := .pointer (some ⟨g, 33, none⟩)) rfl rfl (qn rfl (y_fieldAddr (k := 33) rfl Try.underlying54 rfl rfl ⟨_, s52⟩ (by first | rfl | omega))) ?_
      refine f_l (v := .pointer (some ⟨g, 33 + ((m).toNat) * 64, none⟩)) rfl rfl (qn rfl (y_ixArr (sz := 64) rfl rfl Try.underlying52 s23 (by omega) (by omega) (by first | omega | (simp; done) | (simp; omega)))) ?_
      refine f_nil ?_
      refine t_step rfl ?_
      refine o_store (v := .bool (true)) 1 (LS.enc (s.setKn ((m).toNat) (true))) rfl rfl rfl s4 (by rw [LS.size]; simp only [Value.cells]; first | omega | (simp [bv_size]; done) | (simp [bv_size]; omega) | decide) (by simp [Value.oneCell', Value.cells, LS.noD]) (LS.st_kn s ((m).toNat) (by omega) (true)) ?_
      refine o_nil ⟨rfl, ⟨qn rfl (y_ixArr (sz := 64) rfl rfl Try.underlying52 s23 (by omega) (by omega) (by first | omega | (simp; done) | (simp; omega))), ⟨qn rfl (y_fieldAddr (k := 33) rfl Try.underlying54 rfl rfl ⟨_, s52⟩ (by first | rfl | omega)), ⟨qn rfl (y_nilCheck rfl), ⟨qn rfl (y_loadB T23 rfl (Rd.whole (k := 0) rfl)), ⟨qn rfl (y_move rfl), ⟨qn rfl (y_move rfl), trivial⟩⟩⟩⟩⟩⟩, ?_⟩
      refine t_step rfl ?_
      refine o_store (v := .agg (bv (b))) 1 (LS.enc ((s.setKn ((m).toNat) (true)).setBl ((m).toNat) (b))) rfl rfl rfl (by rw [s23]; simp [Value.cells, bv_size]) (by rw [LS.size]; simp only [Value.cells]; first | omega | (simp [bv_size]; done) | (simp [bv_size]; omega) | decide) (bv_one _) (LS.st_bl (s.setKn ((m).toNat) (true)) ((m).toNat) (by omega) (b)) ?_
      refine o_nil ⟨rfl, ⟨qn rfl (y_ixArr (sz := 64) rfl rfl Try.underlying52 s23 (by omega) (by omega) (by first | omega | (simp; done) | (simp; omega))), ⟨qn rfl (y_fieldAddr (k := 33) rfl Try.underlying54 rfl rfl ⟨_, s52⟩ (by first | rfl | omega)), ⟨qn rfl (y_nilCheck rfl), ⟨qn rfl (y_loadB T23 rfl (Rd.whole (k := 0) rfl)), ⟨qn rfl (y_move rfl), ⟨qn rfl (y_move rfl), trivial⟩⟩⟩⟩⟩⟩, ?_⟩
      refine t_nil ?_
      refine hK6 _ _ ?_
      refine c_seq fun K8 hK8 => ?_
      refine c_region ?_
      refine o_y (v := .int .i64 (0)) rfl rfl (y_assign rfl) ?_
      refine o_nil ?_
      refine hK8 _ _ ?_
      refine c_ret ?_
      refine fun w hw => ⟨[.int .i64 (0)], ⟨rfl, trivial⟩, ?_⟩
      exact ⟨_, ⟨ie (by omega), rfl⟩, (show ([(g, .cells (LS.enc (learnS s m b)) 54 (0, 0))] : Hp).Sublist _ from (by rw [show learnS s m b = (s.setKn ((m).toNat) (true)).setBl ((m).toNat) (b) from (if_pos ⟨ha, by simpa using hc2⟩)]; exact ((List.Sublist.slnil.cons_cons _).cons _)))⟩
      first | done | rfl
    ·
      try have hc2' : (s.kn.getD ((m).toNat) false) = true := by simpa using hc2
      -- way FF
      refine c_skip ?_
      refine hK6 _ _ ?_
      refine c_seq fun K9 hK9 => ?_
      refine c_region ?_
      refine o_y (v := .int .i64 (0)) rfl rfl (y_assign rfl) ?_
      refine o_nil ?_
      refine hK9 _ _ ?_
      refine c_ret ?_
      refine fun w hw => ⟨[.int .i64 (0)], ⟨rfl, trivial⟩, ?_⟩
      exact ⟨_, ⟨ie (by omega), rfl⟩, (show ([(g, .cells (LS.enc (learnS s m b)) 54 (0, 0))] : Hp).Sublist _ from (by rw [show learnS s m b = s from (if_neg (fun h => by rw [h.2] at hc2; cases hc2))]; exact ((List.Sublist.slnil.cons_cons _).cons _)))⟩
      first | done | rfl

set_option maxRecDepth 100000 in
set_option maxHeartbeats 4000000 in
theorem f10_Set (g : Nat) (s : LS) (m : Int) (b : Blk) (q : Int) (w : World) (hm : 0 ≤ s.mem ∧ s.mem ≤ 16) (hq0 : 0 ≤ q) (hq1 : q ≤ 18446744073709551615) (hat : At ([(g, .cells (LS.enc (s)) 54 (0, 0))]) w) :
    Calls Try.prog 10 [.pointer (some ⟨g, 0, none⟩), .int .i64 (m), .agg (bv (b)), .int .u64 (q)].toArray w fun e w' => ∃ v H', e = .returned v ∧ St w (ids ([(g, .cells (LS.enc (s)) 54 (0, 0))])) H' w' ∧ (fun v H => v = .int .i64 (setE s m q) ∧ H = [(g, .cells (LS.enc (setS s m b q)) 54 (0, 0))]) v H' := by
  refine (calls_of (P := Try.prog) (n := 51) (w0 := w) (S := ids ([(g, .cells (LS.enc (s)) 54 (0, 0))])) (H := [(g, .cells (LS.enc (s)) 54 (0, 0))]) (T := fun v H => ∃ H1, (fun v H => v = .int .i64 (setE s m q) ∧ H = [(g, .cells (LS.enc (setS s m b q)) 54 (0, 0))]) v H1 ∧ (H1 : Hp).Sublist H) Try.func10 rfl Try.ntmps10 (Nat.le_of_ble_eq_true rfl) [.tmp 8] rfl hat.st ?_).mono fun e w' ⟨v, H', he, hs, H1, hT, hsub⟩ => ⟨v, H1, he, hs.drop hsub, hT⟩
  refine c_seq fun K1 hK1 => ?_
  refine c_region ?_
  refine o_box (v := .agg (bv (b))) rfl rfl fun g1 => ?_
  refine o_y (v := .int .i64 (0)) rfl rfl (y_assign rfl) ?_
  refine o_nil ?_
  refine hK1 _ _ ?_
  refine c_seq fun K2 hK2 => ?_
  refine c_seq fun K3 hK3 => ?_
  refine c_region ?_
  refine o_y (v := .pointer (some ⟨g, 0, none⟩)) rfl rfl (y_move rfl) ?_
  refine o_y (v := .int .i64 (m)) rfl rfl (y_move rfl) ?_
  refine o_y (v := .int .i64 (askE (s).mem (m))) rfl rfl (y_call (vs := [.pointer (some ⟨g, 0, none⟩), .int .i64 (m)]) b21 rfl (fun w hw => f21_asked _ (s) (m) w (hw.sat ((List.Sublist.slnil.cons_cons _).cons _)))) ?_
  refine o_y (v := .int .i64 (askE (s).mem (m))) rfl rfl (y_assign rfl) ?_
  refine o_nil ?_
  refine hK3 _ _ ?_
  refine c_seq fun K4 hK4 => ?_
  refine c_region ?_
  refine o_y (v := .int .i64 (askE (s).mem (m))) rfl rfl (y_move rfl) ?_
  refine o_y (v := .bool (decide (askE (s).mem (m) ≠ 0))) rfl rfl (y_neq rfl rfl rfl) ?_
  refine o_nil ?_
  refine hK4 _ _ ?_
  refine c_cond (t := decide (askE (s).mem (m) ≠ 0)) rfl (fun hc1 => ?_) (fun hc1 => ?_)
  ·
    replace hc1 := of_decide_eq_true hc1
    -- way T
    refine c_seq fun K5 hK5 => ?_
    refine c_region ?_
    refine o_y (v := .int .i64 (askE (s).mem (m))) rfl rfl (y_move rfl) ?_
    refine o_y (v := .int .i64 (askE (s).mem (m))) rfl rfl (y_assign rfl) ?_
    refine o_nil ?_
    refine hK5 _ _ ?_
    refine c_ret ?_
    refine fun w hw => ⟨[.int .i64 (askE (s).mem (m))], ⟨rfl, trivial⟩, ?_⟩
    exact ⟨_, ⟨ie (by unfold setE; rw [if_neg (by omega)]), rfl⟩, (show ([(g, .cells (LS.enc (setS s m b q)) 54 (0, 0))] : Hp).Sublist _ from (by rw [show setS s m b q = s from (if_neg (by unfold setE; rw [if_neg (by omega)]; omega))]; exact ((List.Sublist.slnil.cons_cons _).cons _)))⟩
    first | done | rfl
  ·
    replace hc1 := of_decide_eq_false hc1
    -- way F
    have ha : askE s.mem m = 0 := by omega
    have hq2 := ask0 ha
    refine c_skip ?_
    refine hK2 _ _ ?_
    refine c_seq fun K6 hK6 => ?_
    refine c_seq fun K7 hK7 => ?_
    refine c_region ?_
    refine o_y (v := .int .u64 (q)) rfl rfl (y_move rfl) ?_
    refine o_y (v := .bool (decide (q = 0))) rfl rfl (y_eql rfl rfl rfl) ?_
    refine o_nil ?_
    refine hK7 _ _ ?_
    refine c_cond (t := decide (q = 0)) rfl (fun hc2 => ?_) (fun hc2 => ?_)
    ·
      replace hc2 := of_decide_eq_true hc2
      -- way FT
      refine c_seq fun K8 hK8 => ?_
      refine c_region ?_
      refine o_y (v := .int .i64 (2)) rfl rfl (y_assign rfl) ?_
      refine o_nil ?_
      refine hK8 _ _ ?_
      refine c_ret ?_
      refine fun w hw => ⟨[.int .i64 (2)], ⟨rfl, trivial⟩, ?_⟩
      exact ⟨_, ⟨ie (by unfold setE; rw [if_pos ha, if_pos (by omega)]), rfl⟩, (show ([(g, .cells (LS.enc (setS s m b q)) 54 (0, 0))] : Hp).Sublist _ from (by rw [show setS s m b q = s from (if_neg (by unfold setE; rw [if_pos ha, if_pos (by omega)]; omega))]; exact ((List.Sublist.slnil.cons_cons _).cons _)))⟩
      first | done | rfl
    ·
      replace hc2 := of_decide_eq_false hc2
      -- way FF
      refine c_skip ?_
      refine hK6 _ _ ?_
      refine c_seq fun K9 hK9 => ?_
      refine c_drawF [0, 1, 2, 3, 4, 5, 6, 7, 8, 9, 11, 12, 13, 15, 16, 17] [10, 14, 18] [0, 1, 7, 8, 9] (by kernel_rfl) (by kernel_rfl) ?_
      refine f_e (v := .pointer (some ⟨g, 0, none⟩)) rfl rfl (qn rfl (y_move rfl)) ?_
      refine f_e (v := .int .i64 (m)) rfl rfl (qn rfl (y_move rfl)) ?_
      refine f_l (v := .pointer (some ⟨g, 0, none⟩)) rfl rfl (qn rfl (y_move rfl)) ?_
      refine f_l (v := .int .i64 (m)) rfl rfl (qn rfl (y_move rfl)) ?_
      refine f_l (v := .pointer (some ⟨g, 0, none⟩)) rfl rfl (qn rfl (y_move rfl)) ?_
      refine f_l (v := .int .i64 (m)) rfl rfl (qn rfl (y_move rfl)) ?_
      refine f_l (v := .agg (bv (b))) rfl rfl (qn rfl (y_loadB T23 rfl (Rd.whole (k := 0) rfl))) ?_
      refine f_e (v := .pointer (some ⟨g, 0, none⟩)) rfl rfl (qn rfl (y_nilCheck rfl)) ?_
      refine f_e (v := .pointer (some ⟨g, 1, none⟩)) rfl rfl (qn rfl (y_fieldAddr (k := 1) rfl Try.underlying54 rfl rfl ⟨_, s51⟩ (by first | rfl | omega))) ?_
      refine f_e (v := .pointer (some ⟨g, 1 + ((m).toNat), none⟩)) rfl rfl (qn rfl (y_ixArr (sz := 1) rfl rfl Try.underlying51 s4 (by omega) (by omega) (by first | omega | (simp; done) | (simp; omega)))) ?_
      refine f_l (v := .pointer (some ⟨g, 0, none⟩)) rfl rfl (qn rfl (y_nilCheck rfl)) ?_
      refine f_l (v := .pointer (some ⟨g, 17, none⟩)) rfl rfl (qn rfl (y_fieldAddr (k := 17) rfl Try.underlying54 rfl rfl ⟨_, s51⟩ (by first | rfl | omega))) ?_
      refine f_l (v := .pointer (some ⟨g, 17 + ((m).toNat), none⟩)) rfl rfl (qn rfl (y_ixArr (sz := 1) rfl rfl Try.underlying51 s4 (by omega) (by omega) (by first | omega | (simp; done) | (simp; omega)))) ?_
      refine f_l (v := .pointer (some ⟨g, 0, none⟩)) rfl rfl (qn rfl (y_nilCheck rfl)) ?_
      refine f_l (v := .pointer (some ⟨g, 33, none⟩)) rfl rfl (qn rfl (y_fieldAddr (k := 33) rfl Try.underlying54 rfl rfl ⟨_, s52⟩ (by first | rfl | omega))) ?_
      refine f_l (v := .pointer (some ⟨g, 33 + ((m).toNat) * 64, none⟩)) rfl rfl (qn rfl (y_ixArr (sz := 64) rfl rfl Try.underlying52 s23 (by omega) (by omega) (by first | omega | (simp; done) | (simp; omega)))) ?_
      refine f_nil ?_
      refine t_step rfl ?_
      refine o_store (v := .bool (true)) 1 (LS.enc (s.setKn ((m).toNat) (true))) rfl rfl rfl s4 (by rw [LS.size]; simp only [Value.cells]; first | omega | (simp [bv_size]; done) | (simp [bv_size]; omega) | decide) (by simp [Value.oneCell', Value.cells, LS.noD]) (LS.st_kn s ((m).toNat) (by omega) (true)) ?_
      refine o_nil ⟨rfl, ⟨qn rfl (y_ixArr (sz := 64) rfl rfl Try.underlying52 s23 (by omega) (by omega) (by first | omega | (simp; done) | (simp; omega))), ⟨qn rfl (y_fieldAddr (k := 33) rfl Try.underlying54 rfl rfl ⟨_, s52⟩ (by first | rfl | omega)), ⟨qn rfl (y_nilCheck rfl), ⟨qn rfl (y_ixArr (sz := 1) rfl rfl Try.underlying51 s4 (by omega) (by omega) (by first | omega | (simp; done) | (simp; omega))), ⟨qn rfl (y_fieldAddr (k := 17) rfl Try.underlying54 rfl rfl ⟨_, s51⟩ (by first | rfl | omega)), ⟨qn rfl (y_nilCheck rfl), ⟨qn rfl (y_loadB T23 rfl (Rd.whole (k := 0) rfl)), ⟨qn rfl (y_move rfl), ⟨qn rfl (y_move rfl), ⟨qn rfl (y_move rfl), ⟨qn rfl (y_move rfl), trivial⟩⟩⟩⟩⟩⟩⟩⟩⟩⟩⟩, ?_⟩
      refine t_step rfl ?_
      refine o_store (v := .bool (true)) 1 (LS.enc ((s.setKn ((m).toNat) (true)).setDt ((m).toNat) (true))) rfl rfl rfl s4 (by rw [LS.size]; simp only [Value.cells]; first | omega | (simp [bv_size]; done) | (simp [bv_size]; omega) | decide) (by simp [Value.oneCell', Value.cells, LS.noD]) (LS.st_dt (s.setKn ((m).toNat) (true)) ((m).toNat) (by omega) (true)) ?_
      refine o_nil ⟨rfl, ⟨qn rfl (y_ixArr (sz := 64) rfl rfl Try.underlying52 s23 (by omega) (by omega) (by first | omega | (simp; done) | (simp; omega))), ⟨qn rfl (y_fieldAddr (k := 33) rfl Try.underlying54 rfl rfl ⟨_, s52⟩ (by first | rfl | omega)), ⟨qn rfl (y_nilCheck rfl), ⟨qn rfl (y_ixArr (sz := 1) rfl rfl Try.underlying51 s4 (by omega) (by omega) (by first | omega | (simp; done) | (simp; omega))), ⟨qn rfl (y_fieldAddr (k := 17) rfl Try.underlying54 rfl rfl ⟨_, s51⟩ (by first | rfl | omega)), ⟨qn rfl (y_nilCheck rfl), ⟨qn rfl (y_loadB T23 rfl (Rd.whole (k := 0) rfl)), ⟨qn rfl (y_move rfl), ⟨qn rfl (y_move rfl), ⟨qn rfl (y_move rfl), ⟨qn rfl (y_move rfl), trivial⟩⟩⟩⟩⟩⟩⟩⟩⟩⟩⟩, ?_⟩
      refine t_step rfl ?_
      refine o_store (v := .agg (bv (b))) 1 (LS.enc (((s.setKn ((m).toNat) (true)).setDt ((m).toNat) (true)).setBl ((m).toNat) (b))) rfl rfl rfl (by rw [s23]; simp [Value.cells, bv_size]) (by rw [LS.size]; simp only [Value.cells]; first | omega | (simp [bv_size]; done) | (simp [bv_size]; omega) | decide) (bv_one _) (LS.st_bl ((s.setKn ((m).toNat) (true)).setDt ((m).toNat) (true)) ((m).toNat) (by omega) (b)) ?_
      refine o_nil ⟨rfl, ⟨qn rfl (y_ixArr (sz := 64) rfl rfl Try.underlying52 s23 (by omega) (by omega) (by first | omega | (simp; done) | (simp; omega))), ⟨qn rfl (y_fieldAddr (k := 33) rfl Try.underlying54 rfl rfl ⟨_, s52⟩ (by first | rfl | omega)), ⟨qn rfl (y_nilCheck rfl), ⟨qn rfl (y_ixArr (sz := 1) rfl rfl Try.underlying51 s4 (by omega) (by omega) (by first | omega | (simp; done) | (simp; omega))), ⟨qn rfl (y_fieldAddr (k := 17) rfl Try.underlying54 rfl rfl ⟨_, s51⟩ (by first | rfl | omega)), ⟨qn rfl (y_nilCheck rfl), ⟨qn rfl (y_loadB T23 rfl (Rd.whole (k := 0) rfl)), ⟨qn rfl (y_move rfl), ⟨qn rfl (y_move rfl), ⟨qn rfl (y_move rfl), ⟨qn rfl (y_move rfl), trivial⟩⟩⟩⟩⟩⟩⟩⟩⟩⟩⟩, ?_⟩
      refine t_nil ?_
      refine hK9 _ _ ?_
      refine c_seq fun K10 hK10 => ?_
      refine c_seq fun K11 hK11 => ?_
      refine c_region ?_
      refine o_y (v := .pointer (some ⟨g, 0, none⟩)) rfl rfl (y_move rfl) ?_
      refine o_y (v := .pointer (some ⟨g, 0, none⟩)) rfl rfl (y_nilCheck rfl) ?_
      refine o_y (v := .pointer (some ⟨g, 1057, none⟩)) rfl rfl (y_fieldAddr (k := 1057) rfl Try.underlying54 rfl rfl ⟨_, s24⟩ (by first | rfl | omega)) ?_
      refine o_y (v := .int .u64 ((((s.setKn ((m).toNat) (true)).setDt ((m).toNat) (true)).setBl ((m).toNat) (b)).fs)) rfl rfl (y_load rfl Try.underlying24 rfl (Rd.one (k := 1) rfl (LS.fs_at (((s.setKn ((m).toNat) (true)).setDt ((m).toNat) (true)).setBl ((m).toNat) (b))))) ?_
      refine o_y (v := .bool (decide ((((s.setKn ((m).toNat) (true)).setDt ((m).toNat) (true)).setBl ((m).toNat) (b)).fs = 0))) rfl rfl (y_eql rfl rfl rfl) ?_
      refine o_y (v := .bool (decide ((((s.setKn ((m).toNat) (true)).setDt ((m).toNat) (true)).setBl ((m).toNat) (b)).fs = 0))) rfl rfl (y_move rfl) ?_
      cases hc3 : (decide ((((s.setKn ((m).toNat) (true)).setDt ((m).toNat) (true)).setBl ((m).toNat) (b)).fs = 0) : Bool)
      ·
        have hc3' := of_decide_eq_false hc3
        -- way FFF
        refine o_guard (j := 5) (d := 39) (b := false) rfl rfl rfl (fun _ => ?_) rfl (fun h => by cases h)
        refine o_y (v := .int .u64 (q)) rfl rfl (y_move rfl) ?_
        refine o_guard (j := 5) (d := 39) (b := false) rfl rfl rfl (fun _ => ?_) rfl (fun h => by cases h)
        refine o_y (v := .pointer (some ⟨g, 0, none⟩)) rfl rfl (y_move rfl) ?_
        refine o_guard (j := 5) (d := 39) (b := false) rfl rfl rfl (fun _ => ?_) rfl (fun h => by cases h)
        refine o_y (v := .pointer (some ⟨g, 0, none⟩)) rfl rfl (y_nilCheck rfl) ?_
        refine o_guard (j := 5) (d := 39) (b := false) rfl rfl rfl (fun _ => ?_) rfl (fun h => by cases h)
        refine o_y (v := .pointer (some ⟨g, 1057, none⟩)) rfl rfl (y_fieldAddr (k := 1057) rfl Try.underlying54 rfl rfl ⟨_, s24⟩ (by first | rfl | omega)) ?_
        refine o_guard (j := 5) (d := 39) (b := false) rfl rfl rfl (fun _ => ?_) rfl (fun h => by cases h)
        refine o_y (v := .int .u64 ((((s.setKn ((m).toNat) (true)).setDt ((m).toNat) (true)).setBl ((m).toNat) (b)).fs)) rfl rfl (y_load rfl Try.underlying24 rfl (Rd.one (k := 1) rfl (LS.fs_at (((s.setKn ((m).toNat) (true)).setDt ((m).toNat) (true)).setBl ((m).toNat) (b))))) ?_
        refine o_guard (j := 5) (d := 39) (b := false) rfl rfl rfl (fun _ => ?_) rfl (fun h => by cases h)
        refine o_y (v := .bool (decide (q < (((s.setKn ((m).toNat) (true)).setDt ((m).toNat) (true)).setBl ((m).toNat) (b)).fs))) rfl rfl (y_lss rfl rfl rfl) ?_
        refine o_y (v := .bool (decide (q < (((s.setKn ((m).toNat) (true)).setDt ((m).toNat) (true)).setBl ((m).toNat) (b)).fs))) rfl rfl (y_pick (b := false) rfl rfl) ?_
        refine o_nil ?_
        refine hK11 _ _ ?_
        refine c_cond (t := decide (q < (((s.setKn ((m).toNat) (true)).setDt ((m).toNat) (true)).setBl ((m).toNat) (b)).fs)) rfl (fun hc4 => ?_) (fun hc4 => ?_)
        ·
          replace hc4 := of_decide_eq_true hc4
          -- way FFFT
          refine c_region ?_
          refine o_y (v := .pointer (some ⟨g, 0, none⟩)) rfl rfl (y_move rfl) ?_
          refine o_y (v := .int .u64 (q)) rfl rfl (y_move rfl) ?_
          refine o_y (v := .pointer (some ⟨g, 0, none⟩)) rfl rfl (y_nilCheck rfl) ?_
          refine o_y (v := .pointer (some ⟨g, 1057, none⟩)) rfl rfl (y_fieldAddr (k := 1057) rfl Try.underlying54 rfl rfl ⟨_, s24⟩ (by first | rfl | omega)) ?_
          refine o_store (v := .int .u64 (q)) 1 (LS.enc ((((s.setKn ((m).toNat) (true)).setDt ((m).toNat) (true)).setBl ((m).toNat) (b)).setFs (q))) rfl rfl rfl s24 (by rw [LS.size]; simp only [Value.cells]; first | omega | (simp [bv_size]; done) | (simp [bv_size]; omega) | decide) (by simp [Value.oneCell', Value.cells, LS.noD]) (LS.st_fs (((s.setKn ((m).toNat) (true)).setDt ((m).toNat) (true)).setBl ((m).toNat) (b)) (q)) ?_
          refine o_nil ?_
          refine hK10 _ _ ?_
          refine c_seq fun K12 hK12 => ?_
          refine c_region ?_
          refine o_y (v := .int .i64 (0)) rfl rfl (y_assign rfl) ?_
          refine o_nil ?_
          refine hK12 _ _ ?_
          refine c_ret ?_
          refine fun w hw => ⟨[.int .i64 (0)], ⟨rfl, trivial⟩, ?_⟩
          exact ⟨_, ⟨ie (by unfold setE; rw [if_pos ha, if_neg (by omega)]), rfl⟩, (show ([(g, .cells (LS.enc (setS s m b q)) 54 (0, 0))] : Hp).Sublist _ from (by rw [show setS s m b q = (((s.setKn ((m).toNat) (true)).setDt ((m).toNat) (true)).setBl ((m).toNat) (b)).setFs (q) from ((if_pos (by unfold setE; rw [if_pos ha, if_neg (by omega)])).trans (if_pos (by simp only [LS.setKn, LS.setDt, LS.setBl] at *; omega)))]; exact ((List.Sublist.slnil.cons_cons _).cons _)))⟩
          first | done | rfl
        ·
          replace hc4 := of_decide_eq_false hc4
          -- way FFFF
          refine c_skip ?_
          refine hK10 _ _ ?_
          refine c_seq fun K13 hK13 => ?_
          refine c_region ?_
          refine o_y (v := .int .i64 (0)) rfl rfl (y_assign rfl) ?_
          refine o_nil ?_
          refine hK13 _ _ ?_
          refine c_ret ?_
          refine fun w hw => ⟨[.int .i64 (0)], ⟨rfl, trivial⟩, ?_⟩
          exact ⟨_, ⟨ie (by unfold setE; rw [if_pos ha, if_neg (by omega)]), rfl⟩, (show ([(g, .cells (LS.enc (setS s m b q)) 54 (0, 0))] : Hp).Sublist _ from (by rw [show setS s m b q = ((s.setKn ((m).toNat) (true)).setDt ((m).toNat) (true)).setBl ((m).toNat) (b) from ((if_pos (by unfold setE; rw [if_pos ha, if_neg (by omega)])).trans (if_neg (by simp only [LS.setKn, LS.setDt, LS.setBl] at *; omega)))]; exact ((List.Sublist.slnil.cons_cons _).cons _)))⟩
          first | done | rfl
      ·
        have hc3' := of_decide_eq_true hc3
        -- way FFT
        refine o_guard (j := 5) (d := 39) (b := true) rfl rfl rfl (fun h => by cases h) rfl (fun _ => ?_)
        refine o_guard (j := 5) (d := 39) (b := true) rfl rfl rfl (fun h => by cases h) rfl (fun _ => ?_)
        refine o_guard (j := 5) (d := 39) (b := true) rfl rfl rfl (fun h => by cases h) rfl (fun _ => ?_)
        refine o_guard (j := 5) (d := 39) (b := true) rfl rfl rfl (fun h => by cases h) rfl (fun _ => ?_)
        refine o_guard (j := 5) (d := 39) (b := true) rfl rfl rfl (fun h => by cases h) rfl (fun _ => ?_)
        refine o_guard (j := 5) (d := 39) (b := true) rfl rfl rfl (fun h => by cases h) rfl (fun _ => ?_)
        refine o_y (v := .bool (true)) rfl rfl (y_pick (b := true) rfl rfl) ?_
        refine o_nil ?_
        refine hK11 _ _ ?_
        refine c_cond (t := true) rfl (fun _ => ?_) (fun h => by cases h)
        refine c_region ?_
        refine o_y (v := .pointer (some ⟨g, 0, none⟩)) rfl rfl (y_move rfl) ?_
        refine o_y (v := .int .u64 (q)) rfl rfl (y_move rfl) ?_
        refine o_y (v := .pointer (some ⟨g, 0, none⟩)) rfl rfl (y_nilCheck rfl) ?_
        refine o_y (v := .pointer (some ⟨g, 1057, none⟩)) rfl rfl (y_fieldAddr (k := 1057) rfl Try.underlying54 rfl rfl ⟨_, s24⟩ (by first | rfl | omega)) ?_
        refine o_store (v := .int .u64 (q)) 1 (LS.enc ((((s.setKn ((m).toNat) (true)).setDt ((m).toNat) (true)).setBl ((m).toNat) (b)).setFs (q))) rfl rfl rfl s24 (by rw [LS.size]; simp only [Value.cells]; first | omega | (simp [bv_size]; done) | (simp [bv_size]; omega) | decide) (by simp [Value.oneCell', Value.cells, LS.noD]) (LS.st_fs (((s.setKn ((m).toNat) (true)).setDt ((m).toNat) (true)).setBl ((m).toNat) (b)) (q)) ?_
        refine o_nil ?_
        refine hK10 _ _ ?_
        refine c_seq fun K14 hK14 => ?_
        refine c_region ?_
        refine o_y (v := .int .i64 (0)) rfl rfl (y_assign rfl) ?_
        refine o_nil ?_
        refine hK14 _ _ ?_
        refine c_ret ?_
        refine fun w hw => ⟨[.int .i64 (0)], ⟨rfl, trivial⟩, ?_⟩
        exact ⟨_, ⟨ie (by unfold setE; rw [if_pos ha, if_neg (by omega)]), rfl⟩, (show ([(g, .cells (LS.enc (setS s m b q)) 54 (0, 0))] : Hp).Sublist _ from (by rw [show setS s m b q = (((s.setKn ((m).toNat) (true)).setDt ((m).toNat) (true)).setBl ((m).toNat) (b)).setFs (q) from ((if_pos (by unfold setE; rw [if_pos ha, if_neg (by omega)])).trans (if_pos (by simp only [LS.setKn, LS.setDt, LS.setBl] at *; omega)))]; exact ((List.Sublist.slnil.cons_cons _).cons _)))⟩
        first | done | rfl

set_option maxRecDepth 100000 in
set_option maxHeartbeats 4000000 in
theorem f15_Forget (g : Nat) (s : LS) (m : Int) (w : World) (hm : 0 ≤ s.mem ∧ s.mem ≤ 16) (hat : At ([(g, .cells (LS.enc (s)) 54 (0, 0))]) w) :
    Calls Try.prog 15 [.pointer (some ⟨g, 0, none⟩), .int .i64 (m)].toArray w fun e w' => ∃ v H', e = .returned v ∧ St w (ids ([(g, .cells (LS.enc (s)) 54 (0, 0))])) H' w' ∧ (fun v H => v = .int .i64 (askE s.mem m) ∧ H = [(g, .cells (LS.enc (forgetS s m)) 54 (0, 0))]) v H' := by
  refine (calls_of (P := Try.prog) (n := 28) (w0 := w) (S := ids ([(g, .cells (LS.enc (s)) 54 (0, 0))])) (H := [(g, .cells (LS.enc (s)) 54 (0, 0))]) (T := fun v H => ∃ H1, (fun v H => v = .int .i64 (askE s.mem m) ∧ H = [(g, .cells (LS.enc (forgetS s m)) 54 (0, 0))]) v H1 ∧ (H1 : Hp).Sublist H) Try.func15 rfl Try.ntmps15 (Nat.le_of_ble_eq_true rfl) [.tmp 4] rfl hat.st ?_).mono fun e w' ⟨v, H', he, hs, H1, hT, hsub⟩ => ⟨v, H1, he, hs.drop hsub, hT⟩
  refine c_seq fun K1 hK1 => ?_
  refine c_region ?_
  refine o_y (v := .int .i64 (0)) rfl rfl (y_assign rfl) ?_
  refine o_nil ?_
  refine hK1 _ _ ?_
  refine c_seq fun K2 hK2 => ?_
  refine c_seq fun K3 hK3 => ?_
  refine c_region ?_
  refine o_y (v := .pointer (some ⟨g, 0, none⟩)) rfl rfl (y_move rfl) ?_
  refine o_y (v := .int .i64 (m)) rfl rfl (y_move rfl) ?_
  refine o_y (v := .int .i64 (askE (s).mem (m))) rfl rfl (y_call (vs := [.pointer (some ⟨g, 0, none⟩), .int .i64 (m)]) b21 rfl (fun w hw => f21_asked _ (s) (m) w (hw.sat (List.Sublist.slnil.cons_cons _)))) ?_
  refine o_y (v := .int .i64 (askE (s).mem (m))) rfl rfl (y_assign rfl) ?_
  refine o_nil ?_
  refine hK3 _ _ ?_
  refine c_seq fun K4 hK4 => ?_
  refine c_region ?_
  refine o_y (v := .int .i64 (askE (s).mem (m))) rfl rfl (y_move rfl) ?_
  refine o_y (v := .bool (decide (askE (s).mem (m) ≠ 0))) rfl rfl (y_neq rfl rfl rfl) ?_
  refine o_nil ?_
  refine hK4 _ _ ?_
  refine c_cond (t := decide (askE (s).mem (m) ≠ 0)) rfl (fun hc1 => ?_) (fun hc1 => ?_)
  ·
    replace hc1 := of_decide_eq_true hc1
    -- way T
    refine c_seq fun K5 hK5 => ?_
    refine c_region ?_
    refine o_y (v := .int .i64 (askE (s).mem (m))) rfl rfl (y_move rfl) ?_
    refine o_y (v := .int .i64 (askE (s).mem (m))) rfl rfl (y_assign rfl) ?_
    refine o_nil ?_
    refine hK5 _ _ ?_
    refine c_ret ?_
    refine fun w hw => ⟨[.int .i64 (askE (s).mem (m))], ⟨rfl, trivial⟩, ?_⟩
    exact ⟨_, ⟨ie (rfl), rfl⟩, (show ([(g, .cells (LS.enc (forgetS s m)) 54 (0, 0))] : Hp).Sublist _ from (by rw [show forgetS s m = s from (if_neg (by omega))]; exact (List.Sublist.slnil.cons_cons _)))⟩
    first | done | rfl
  ·
    replace hc1 := of_decide_eq_false hc1
    -- way F
    have ha : askE s.mem m = 0 := by omega
    have hq := ask0 ha
    refine c_skip ?_
    refine hK2 _ _ ?_
    refine c_seq fun K6 hK6 => ?_
    refine c_drawF [0, 1, 2, 3, 4, 5, 6, 7, 8, 9, 11, 12, 13, 15, 16, 17] [10, 14, 18] [0, 1, 7, 8, 9] (by kernel_rfl) (by kernel_rfl) ?_
    refine f_e (v := .pointer (some ⟨g, 0, none⟩)) rfl rfl (qn rfl (y_move rfl)) ?_
    refine f_e (v := .int .i64 (m)) rfl rfl (qn rfl (y_move rfl)) ?_
    refine f_l (v := .pointer (some ⟨g, 0, none⟩)) rfl rfl (qn rfl (y_move rfl)) ?_
    refine f_l (v := .int .i64 (m)) rfl rfl (qn rfl (y_move rfl)) ?_
    refine f_l (v := .pointer (some ⟨g, 0, none⟩)) rfl rfl (qn rfl (y_move rfl)) ?_
    refine f_l (v := .int .i64 (m)) rfl rfl (qn rfl (y_move rfl)) ?_
    refine f_l (v := .agg (bv (zB))) rfl rfl (qn rfl (y_build rfl (by kernel_rfl))) ?_
    refine f_e (v := .pointer (some ⟨g, 0, none⟩)) rfl rfl (qn rfl (y_nilCheck rfl)) ?_
    refine f_e (v := .pointer (some ⟨g, 1, none⟩)) rfl rfl (qn rfl (y_fieldAddr (k := 1) rfl Try.underlying54 rfl rfl ⟨_, s51⟩ (by first | rfl | omega))) ?_
    refine f_e (v := .pointer (some ⟨g, 1 + ((m).toNat), none⟩)) rfl rfl (qn rfl (y_ixArr (sz := 1) rfl rfl Try.underlying51 s4 (by omega) (by omega) (by first | omega | (simp; done) | (simp; omega)))) ?_
    refine f_l (v := .pointer (some ⟨g, 0, none⟩)) rfl rfl (qn rfl (y_nilCheck rfl)) ?_
    refine f_l (v := .pointer (some ⟨g, 17, none⟩)) rfl rfl (qn rfl (y_fieldAddr (k := 17) rfl Try.underlying54 rfl rfl ⟨_, s51⟩ (by first | rfl | omega))) ?_
    refine f_l (v := .pointer (some ⟨g, 17 + ((m).toNat), none⟩)) rfl rfl (qn rfl (y_ixArr (sz := 1) rfl rfl Try.underlying51 s4 (by omega) (by omega) (by first | omega | (simp; done) | (simp; omega)))) ?_
    refine f_l (v := .pointer (some ⟨g, 0, none⟩)) rfl rfl (qn rfl (y_nilCheck rfl)) ?_
    refine f_l (v := .pointer (some ⟨g, 33, none⟩)) rfl rfl (qn rfl (y_fieldAddr (k := 33) rfl Try.underlying54 rfl rfl ⟨_, s52⟩ (by first | rfl | omega))) ?_
    refine f_l (v := .pointer (some ⟨g, 33 + ((m).toNat) * 64, none⟩)) rfl rfl (qn rfl (y_ixArr (sz := 64) rfl rfl Try.underlying52 s23 (by omega) (by omega) (by first | omega | (simp; done) | (simp; omega)))) ?_
    refine f_nil ?_
    refine t_step rfl ?_
    refine o_store (v := .bool (false)) 0 (LS.enc (s.setKn ((m).toNat) (false))) rfl rfl rfl s4 (by rw [LS.size]; simp only [Value.cells]; first | omega | (simp [bv_size]; done) | (simp [bv_size]; omega) | decide) (by simp [Value.oneCell', Value.cells, LS.noD]) (LS.st_kn s ((m).toNat) (by omega) (false)) ?_
    refine o_nil ⟨rfl, ⟨qn rfl (y_ixArr (sz := 64) rfl rfl Try.underlying52 s23 (by omega) (by omega) (by first | omega | (simp; done) | (simp; omega))), ⟨qn rfl (y_fieldAddr (k := 33) rfl Try.underlying54 rfl rfl ⟨_, s52⟩ (by first | rfl | omega)), ⟨qn rfl (y_nilCheck rfl), ⟨qn rfl (y_ixArr (sz := 1) rfl rfl Try.underlying51 s4 (by omega) (by omega) (by first | omega | (simp; done) | (simp; omega))), ⟨qn rfl (y_fieldAddr (k := 17) rfl Try.underlying54 rfl rfl ⟨_, s51⟩ (by first | rfl | omega)), ⟨qn rfl (y_nilCheck rfl), ⟨qn rfl (y_build rfl (by kernel_rfl)), ⟨qn rfl (y_move rfl), ⟨qn rfl (y_move rfl), ⟨qn rfl (y_move rfl), ⟨qn rfl (y_move rfl), trivial⟩⟩⟩⟩⟩⟩⟩⟩⟩⟩⟩, ?_⟩
    refine t_step rfl ?_
    refine o_store (v := .bool (false)) 0 (LS.enc ((s.setKn ((m).toNat) (false)).setDt ((m).toNat) (false))) rfl rfl rfl s4 (by rw [LS.size]; simp only [Value.cells]; first | omega | (simp [bv_size]; done) | (simp [bv_size]; omega) | decide) (by simp [Value.oneCell', Value.cells, LS.noD]) (LS.st_dt (s.setKn ((m).toNat) (false)) ((m).toNat) (by omega) (false)) ?_
    refine o_nil ⟨rfl, ⟨qn rfl (y_ixArr (sz := 64) rfl rfl Try.underlying52 s23 (by omega) (by omega) (by first | omega | (simp; done) | (simp; omega))), ⟨qn rfl (y_fieldAddr (k := 33) rfl Try.underlying54 rfl rfl ⟨_, s52⟩ (by first | rfl | omega)), ⟨qn rfl (y_nilCheck rfl), ⟨qn rfl (y_ixArr (sz := 1) rfl rfl Try.underlying51 s4 (by omega) (by omega) (by first | omega | (simp; done) | (simp; omega))), ⟨qn rfl (y_fieldAddr (k := 17) rfl Try.underlying54 rfl rfl ⟨_, s51⟩ (by first | rfl | omega)), ⟨qn rfl (y_nilCheck rfl), ⟨qn rfl (y_build rfl (by kernel_rfl)), ⟨qn rfl (y_move rfl), ⟨qn rfl (y_move rfl), ⟨qn rfl (y_move rfl), ⟨qn rfl (y_move rfl), trivial⟩⟩⟩⟩⟩⟩⟩⟩⟩⟩⟩, ?_⟩
    refine t_step rfl ?_
    refine o_store (v := .agg (bv (zB))) 0 (LS.enc (((s.setKn ((m).toNat) (false)).setDt ((m).toNat) (false)).setBl ((m).toNat) (zB))) rfl rfl rfl (by rw [s23]; simp [Value.cells, bv_size]) (by rw [LS.size]; simp only [Value.cells]; first | omega | (simp [bv_size]; done) | (simp [bv_size]; omega) | decide) (bv_one _) (LS.st_bl ((s.setKn ((m).toNat) (false)).setDt ((m).toNat) (false)) ((m).toNat) (by omega) (zB)) ?_
    refine o_nil ⟨rfl, ⟨qn rfl (y_ixArr (sz := 64) rfl rfl Try.underlying52 s23 (by omega) (by omega) (by first | omega | (simp; done) | (simp; omega))), ⟨qn rfl (y_fieldAddr (k := 33) rfl Try.underlying54 rfl rfl ⟨_, s52⟩ (by first | rfl | omega)), ⟨qn rfl (y_nilCheck rfl), ⟨qn rfl (y_ixArr (sz := 1) rfl rfl Try.underlying51 s4 (by omega) (by omega) (by first | omega | (simp; done) | (simp; omega))), ⟨qn rfl (y_fieldAddr (k := 17) rfl Try.underlying54 rfl rfl ⟨_, s51⟩ (by first | rfl | omega)), ⟨qn rfl (y_nilCheck rfl), ⟨qn rfl (y_build rfl (by kernel_rfl)), ⟨qn rfl (y_move rfl), ⟨qn rfl (y_move rfl), ⟨qn rfl (y_move rfl), ⟨qn rfl (y_move rfl), trivial⟩⟩⟩⟩⟩⟩⟩⟩⟩⟩⟩, ?_⟩
    refine t_nil ?_
    refine hK6 _ _ ?_
    refine c_seq fun K7 hK7 => ?_
    refine c_region ?_
    refine o_y (v := .int .i64 (0)) rfl rfl (y_assign rfl) ?_
    refine o_nil ?_
    refine hK7 _ _ ?_
    refine c_ret ?_
    refine fun w hw => ⟨[.int .i64 (0)], ⟨rfl, trivial⟩, ?_⟩
    exact ⟨_, ⟨ie (by omega), rfl⟩, (show ([(g, .cells (LS.enc (forgetS s m)) 54 (0, 0))] : Hp).Sublist _ from (by rw [show forgetS s m = ((s.setKn ((m).toNat) (false)).setDt ((m).toNat) (false)).setBl ((m).toNat) (zB) from (if_pos ha)]; exact (List.Sublist.slnil.cons_cons _)))⟩
    first | done | rfl

set_option maxRecDepth 100000 in
set_option maxHeartbeats 4000000 in
theorem f13_Clean (g : Nat) (s : LS) (w : World)  (hat : At ([(g, .cells (LS.enc (s)) 54 (0, 0))]) w) :
    Calls Try.prog 13 [.pointer (some ⟨g, 0, none⟩)].toArray w fun e w' => ∃ v H', e = .returned v ∧ St w (ids ([(g, .cells (LS.enc (s)) 54 (0, 0))])) H' w' ∧ (fun v H => v = .int .i64 (cleanE s) ∧ H = [(g, .cells (LS.enc (cleanS s)) 54 (0, 0))]) v H' := by
  refine (calls_of (P := Try.prog) (n := 19) (w0 := w) (S := ids ([(g, .cells (LS.enc (s)) 54 (0, 0))])) (H := [(g, .cells (LS.enc (s)) 54 (0, 0))]) (T := fun v H => ∃ H1, (fun v H => v = .int .i64 (cleanE s) ∧ H = [(g, .cells (LS.enc (cleanS s)) 54 (0, 0))]) v H1 ∧ (H1 : Hp).Sublist H) Try.func13 rfl Try.ntmps13 (Nat.le_of_ble_eq_true rfl) [.tmp 2] rfl hat.st ?_).mono fun e w' ⟨v, H', he, hs, H1, hT, hsub⟩ => ⟨v, H1, he, hs.drop hsub, hT⟩
  refine c_seq fun K1 hK1 => ?_
  refine c_region ?_
  refine o_y (v := .int .i64 (0)) rfl rfl (y_assign rfl) ?_
  refine o_nil ?_
  refine hK1 _ _ ?_
  refine c_seq fun K2 hK2 => ?_
  refine c_seq fun K3 hK3 => ?_
  refine c_region ?_
  refine o_y (v := .pointer (some ⟨g, 0, none⟩)) rfl rfl (y_move rfl) ?_
  refine o_y (v := .bool (false)) rfl rfl (y_eqlN rfl rfl Try.underlying25 rfl) ?_
  refine o_y (v := .bool (false)) rfl rfl (y_move rfl) ?_
  refine o_guard (j := 2) (d := 5) (b := false) rfl rfl rfl (fun _ => ?_) rfl (fun h => by cases h)
  refine o_y (v := .pointer (some ⟨g, 0, none⟩)) rfl rfl (y_move rfl) ?_
  refine o_guard (j := 2) (d := 5) (b := false) rfl rfl rfl (fun _ => ?_) rfl (fun h => by cases h)
  refine o_y (v := .pointer (some ⟨g, 0, none⟩)) rfl rfl (y_nilCheck rfl) ?_
  refine o_guard (j := 2) (d := 5) (b := false) rfl rfl rfl (fun _ => ?_) rfl (fun h => by cases h)
  refine o_y (v := .pointer (some ⟨g, 0, none⟩)) rfl rfl (y_fieldAddr (k := 0) rfl Try.underlying54 rfl rfl ⟨_, s3⟩ (by first | rfl | omega)) ?_
  refine o_guard (j := 2) (d := 5) (b := false) rfl rfl rfl (fun _ => ?_) rfl (fun h => by cases h)
  refine o_y (v := .int .i64 (s.mem)) rfl rfl (y_load rfl Try.underlying3 rfl (Rd.one (k := 0) rfl (LS.rd_mem s))) ?_
  refine o_guard (j := 2) (d := 5) (b := false) rfl rfl rfl (fun _ => ?_) rfl (fun h => by cases h)
  refine o_y (v := .bool (decide (s.mem = 0))) rfl rfl (y_eql rfl rfl rfl) ?_
  refine o_y (v := .bool (decide (s.mem = 0))) rfl rfl (y_pick (b := false) rfl rfl) ?_
  refine o_nil ?_
  refine hK3 _ _ ?_
  refine c_cond (t := decide (s.mem = 0)) rfl (fun hc1 => ?_) (fun hc1 => ?_)
  ·
    replace hc1 := of_decide_eq_true hc1
    -- way T
    refine c_seq fun K4 hK4 => ?_
    refine c_region ?_
    refine o_y (v := .int .i64 (1)) rfl rfl (y_assign rfl) ?_
    refine o_nil ?_
    refine hK4 _ _ ?_
    refine c_ret ?_
    refine fun w hw => ⟨[.int .i64 (1)], ⟨rfl, trivial⟩, ?_⟩
    exact ⟨_, ⟨ie (by unfold cleanE; split <;> omega), rfl⟩, (show ([(g, .cells (LS.enc (cleanS s)) 54 (0, 0))] : Hp).Sublist _ from (by rw [show cleanS s = s from (if_pos (by omega))]; exact (List.Sublist.slnil.cons_cons _)))⟩
    first | done | rfl
  ·
    replace hc1 := of_decide_eq_false hc1
    -- way F
    refine c_skip ?_
    refine hK2 _ _ ?_
    refine c_seq fun K5 hK5 => ?_
    refine c_region ?_
    refine o_y (v := .pointer (some ⟨g, 0, none⟩)) rfl rfl (y_move rfl) ?_
    refine o_y (v := .pointer (some ⟨g, 0, none⟩)) rfl rfl (y_move rfl) ?_
    refine o_y (v := .agg (LS.noD)) rfl rfl (y_build rfl (by kernel_rfl)) ?_
    refine o_y (v := .pointer (some ⟨g, 0, none⟩)) rfl rfl (y_nilCheck rfl) ?_
    refine o_y (v := .pointer (some ⟨g, 17, none⟩)) rfl rfl (y_fieldAddr (k := 17) rfl Try.underlying54 rfl rfl ⟨_, s51⟩ (by first | rfl | omega)) ?_
    refine o_store (v := .agg (LS.noD)) 0 (LS.enc (s.clrDt)) rfl rfl rfl s51 (by rw [LS.size]; simp only [Value.cells]; first | omega | (simp [bv_size]; done) | (simp [bv_size]; omega) | decide) (by simp [Value.oneCell', Value.cells, LS.noD]) (LS.st_clr s) ?_
    refine o_y (v := .pointer (some ⟨g, 0, none⟩)) rfl rfl (y_nilCheck rfl) ?_
    refine o_y (v := .pointer (some ⟨g, 1057, none⟩)) rfl rfl (y_fieldAddr (k := 1057) rfl Try.underlying54 rfl rfl ⟨_, s24⟩ (by first | rfl | omega)) ?_
    refine o_store (v := .int .u64 (0)) 0 (LS.enc ((s.clrDt).setFs (0))) rfl rfl rfl s24 (by rw [LS.size]; simp only [Value.cells]; first | omega | (simp [bv_size]; done) | (simp [bv_size]; omega) | decide) (by simp [Value.oneCell', Value.cells, LS.noD]) (LS.st_fs (s.clrDt) (0)) ?_
    refine o_nil ?_
    refine hK5 _ _ ?_
    refine c_seq fun K6 hK6 => ?_
    refine c_region ?_
    refine o_y (v := .int .i64 (0)) rfl rfl (y_assign rfl) ?_
    refine o_nil ?_
    refine hK6 _ _ ?_
    refine c_ret ?_
    refine fun w hw => ⟨[.int .i64 (0)], ⟨rfl, trivial⟩, ?_⟩
    exact ⟨_, ⟨ie (by unfold cleanE; split <;> omega), rfl⟩, (show ([(g, .cells (LS.enc (cleanS s)) 54 (0, 0))] : Hp).Sublist _ from (by rw [show cleanS s = (s.clrDt).setFs (0) from (if_neg (by omega))]; exact (List.Sublist.slnil.cons_cons _)))⟩
    first | done | rfl

set_option maxRecDepth 100000 in
set_option maxHeartbeats 4000000 in
theorem f9_Get (g : Nat) (s : LS) (m : Int) (w : World) (hm : 0 ≤ s.mem ∧ s.mem ≤ 16) (hat : At ([(g, .cells (LS.enc (s)) 54 (0, 0))]) w) :
    Calls Try.prog 9 [.pointer (some ⟨g, 0, none⟩), .int .i64 (m)].toArray w fun e w' => e = .returned (.tuple #[.agg (bv (getV s m)), .bool (getK s m)]) ∧ Below w.heap.size w w' := by
  refine (calls_of (P := Try.prog) (n := 26) (w0 := w) (S := ids ([(g, .cells (LS.enc (s)) 54 (0, 0))])) (H := [(g, .cells (LS.enc (s)) 54 (0, 0))]) (T := fun v H => v = (.tuple #[.agg (bv (getV s m)), .bool (getK s m)]) ∧ ([(g, .cells (LS.enc (s)) 54 (0, 0))] : Hp).Sublist H) Try.func9 rfl Try.ntmps9 (Nat.le_of_ble_eq_true rfl) [.cell 4 23, .tmp 5] rfl hat.st ?_).mono fun e w' ⟨v, H', he, hs, hT, hsub⟩ => ⟨by rw [he, hT], St.same hat hs hsub⟩
  refine c_seq fun K1 hK1 => ?_
  refine c_region ?_
  refine o_alloc (z := .agg (bv (zB))) rfl z23 fun g1 => ?_
  refine o_y (v := .bool (false)) rfl rfl (y_assign rfl) ?_
  refine o_nil ?_
  refine hK1 _ _ ?_
  refine c_seq fun K2 hK2 => ?_
  refine c_seq fun K3 hK3 => ?_
  refine c_region ?_
  refine o_y (v := .pointer (some ⟨g, 0, none⟩)) rfl rfl (y_move rfl) ?_
  refine o_y (v := .int .i64 (m)) rfl rfl (y_move rfl) ?_
  refine o_y (v := .int .i64 (askE (s).mem (m))) rfl rfl (y_call (vs := [.pointer (some ⟨g, 0, none⟩), .int .i64 (m)]) b21 rfl (fun w hw => f21_asked _ (s) (m) w (hw.sat ((List.Sublist.slnil.cons_cons _).cons _)))) ?_
  refine o_y (v := .bool (decide (askE (s).mem (m) ≠ 0))) rfl rfl (y_neq rfl rfl rfl) ?_
  refine o_y (v := .bool (decide (askE (s).mem (m) ≠ 0))) rfl rfl (y_move rfl) ?_
  cases hc1 : (decide (askE (s).mem (m) ≠ 0) : Bool)
  ·
    have hc1' := of_decide_eq_false hc1
    -- way F
    have ha : askE s.mem m = 0 := by omega
    have hq := ask0 ha
    refine o_guard (j := 4) (d := 10) (b := false) rfl rfl rfl (fun _ => ?_) rfl (fun h => by cases h)
    refine o_y (v := .pointer (some ⟨g, 0, none⟩)) rfl rfl (y_move rfl) ?_
    refine o_guard (j := 4) (d := 10) (b := false) rfl rfl rfl (fun _ => ?_) rfl (fun h => by cases h)
    refine o_y (v := .int .i64 (m)) rfl rfl (y_move rfl) ?_
    refine o_guard (j := 4) (d := 10) (b := false) rfl rfl rfl (fun _ => ?_) rfl (fun h => by cases h)
    refine o_y (v := .pointer (some ⟨g, 0, none⟩)) rfl rfl (y_nilCheck rfl) ?_
    refine o_guard (j := 4) (d := 10) (b := false) rfl rfl rfl (fun _ => ?_) rfl (fun h => by cases h)
    refine o_y (v := .pointer (some ⟨g, 1, none⟩)) rfl rfl (y_fieldAddr (k := 1) rfl Try.underlying54 rfl rfl ⟨_, s51⟩ (by first | rfl | omega)) ?_
    refine o_guard (j := 4) (d := 10) (b := false) rfl rfl rfl (fun _ => ?_) rfl (fun h => by cases h)
    refine o_y (v := .pointer (some ⟨g, 1 + ((m).toNat), none⟩)) rfl rfl (y_ixArr (sz := 1) rfl rfl Try.underlying51 s4 (by omega) (by omega) (by first | omega | (simp; done) | (simp; omega))) ?_
    refine o_guard (j := 4) (d := 10) (b := false) rfl rfl rfl (fun _ => ?_) rfl (fun h => by cases h)
    refine o_y (v := .bool (s.kn.getD ((m).toNat) false)) rfl rfl (y_load rfl Try.underlying4 rfl (Rd.one (k := 1) rfl (LS.kn_at s ((m).toNat) (by omega)))) ?_
    refine o_guard (j := 4) (d := 10) (b := false) rfl rfl rfl (fun _ => ?_) rfl (fun h => by cases h)
    refine o_y (v := .bool (!(s.kn.getD ((m).toNat) false))) rfl rfl (y_not rfl rfl) ?_
    refine o_y (v := .bool (!(s.kn.getD ((m).toNat) false))) rfl rfl (y_pick (b := false) rfl rfl) ?_
    refine o_nil ?_
    refine hK3 _ _ ?_
    refine c_cond (t := !(s.kn.getD ((m).toNat) false)) rfl (fun hc2 => ?_) (fun hc2 => ?_)
    ·
      try have hc2' : (s.kn.getD ((m).toNat) false) = false := by simpa using hc2
      -- way FT
      refine c_seq fun K4 hK4 => ?_
      refine c_region ?_
      refine o_y (v := .agg (bv (zB))) rfl rfl (y_build rfl (by kernel_rfl)) ?_
      refine o_storeB (H' := [(g1, .cells (bv (zB)) 23 (0, 0)), (g, .cells (LS.enc (s)) 54 (0, 0))]) T23 0 rfl rfl rfl rfl ?_
      refine o_y (v := .bool (false)) rfl rfl (y_assign rfl) ?_
      refine o_nil ?_
      refine hK4 _ _ ?_
      refine c_ret ?_
      refine fun w hw => ⟨[.agg (bv (zB)), .bool (false)], ⟨⟨_, rfl, loadB T23 ((Rd.whole (k := 0) rfl) w hw)⟩, rfl, trivial⟩, ?_⟩
      exact ⟨by rw [getV_no (.inr (by simpa using hc2)), getK_no (.inr (by simpa using hc2))]; rfl, ((List.Sublist.slnil.cons_cons _).cons _)⟩
      first | done | rfl
    ·
      try have hc2' : (s.kn.getD ((m).toNat) false) = true := by simpa using hc2
      -- way FF
      refine c_skip ?_
      refine hK2 _ _ ?_
      refine c_seq fun K5 hK5 => ?_
      refine c_region ?_
      refine o_y (v := .pointer (some ⟨g, 0, none⟩)) rfl rfl (y_move rfl) ?_
      refine o_y (v := .int .i64 (m)) rfl rfl (y_move rfl) ?_
      refine o_y (v := .pointer (some ⟨g, 0, none⟩)) rfl rfl (y_nilCheck rfl) ?_
      refine o_y (v := .pointer (some ⟨g, 33, none⟩)) rfl rfl (y_fieldAddr (k := 33) rfl Try.underlying54 rfl rfl ⟨_, s52⟩ (by first | rfl | omega)) ?_
      refine o_y (v := .pointer (some ⟨g, 33 + ((m).toNat) * 64, none⟩)) rfl rfl (y_ixArr (sz := 64) rfl rfl Try.underlying52 s23 (by omega) (by omega) (by first | omega | (simp; done) | (simp; omega))) ?_
      refine o_y (v := .agg (bv (s.bl.getD ((m).toNat) zB))) rfl rfl (y_loadB T23 rfl (Rd.blk (List.mem_of_getElem? (i := 1) rfl) (fun jj vv hjj => by simpa using LS.bl_at s ((m).toNat) (by omega) jj vv hjj))) ?_
      refine o_storeB (H' := [(g1, .cells (bv (s.bl.getD ((m).toNat) zB)) 23 (0, 0)), (g, .cells (LS.enc (s)) 54 (0, 0))]) T23 0 rfl rfl rfl rfl ?_
      refine o_y (v := .bool (true)) rfl rfl (y_assign rfl) ?_
      refine o_nil ?_
      refine hK5 _ _ ?_
      refine c_ret ?_
      refine fun w hw => ⟨[.agg (bv (s.bl.getD ((m).toNat) zB)), .bool (true)], ⟨⟨_, rfl, loadB T23 ((Rd.whole (k := 0) rfl) w hw)⟩, rfl, trivial⟩, ?_⟩
      exact ⟨by rw [getV_is ha (by simpa using hc2), getK_is ha (by simpa using hc2)]; rfl, ((List.Sublist.slnil.cons_cons _).cons _)⟩
      first | done | rfl
  ·
    have hc1' := of_decide_eq_true hc1
    -- way T
    refine o_guard (j := 4) (d := 10) (b := true) rfl rfl rfl (fun h => by cases h) rfl (fun _ => ?_)
    refine o_guard (j := 4) (d := 10) (b := true) rfl rfl rfl (fun h => by cases h) rfl (fun _ => ?_)
    refine o_guard (j := 4) (d := 10) (b := true) rfl rfl rfl (fun h => by cases h) rfl (fun _ => ?_)
    refine o_guard (j := 4) (d := 10) (b := true) rfl rfl rfl (fun h => by cases h) rfl (fun _ => ?_)
    refine o_guard (j := 4) (d := 10) (b := true) rfl rfl rfl (fun h => by cases h) rfl (fun _ => ?_)
    refine o_guard (j := 4) (d := 10) (b := true) rfl rfl rfl (fun h => by cases h) rfl (fun _ => ?_)
    refine o_guard (j := 4) (d := 10) (b := true) rfl rfl rfl (fun h => by cases h) rfl (fun _ => ?_)
    refine o_y (v := .bool (true)) rfl rfl (y_pick (b := true) rfl rfl) ?_
    refine o_nil ?_
    refine hK3 _ _ ?_
    refine c_cond (t := true) rfl (fun _ => ?_) (fun h => by cases h)
    refine c_seq fun K6 hK6 => ?_
    refine c_region ?_
    refine o_y (v := .agg (bv (zB))) rfl rfl (y_build rfl (by kernel_rfl)) ?_
    refine o_storeB (H' := [(g1, .cells (bv (zB)) 23 (0, 0)), (g, .cells (LS.enc (s)) 54 (0, 0))]) T23 0 rfl rfl rfl rfl ?_
    refine o_y (v := .bool (false)) rfl rfl (y_assign rfl) ?_
    refine o_nil ?_
    refine hK6 _ _ ?_
    refine c_ret ?_
    refine fun w hw => ⟨[.agg (bv (zB)), .bool (false)], ⟨⟨_, rfl, loadB T23 ((Rd.whole (k := 0) rfl) w hw)⟩, rfl, trivial⟩, ?_⟩
    exact ⟨by rw [getV_no (.inl (by omega)), getK_no (.inl (by omega))]; rfl, ((List.Sublist.slnil.cons_cons _).cons _)⟩
    first | done | rfl

set_option maxRecDepth 100000 in
set_option maxHeartbeats 4000000 in
theorem f16_First (g : Nat) (s : LS) (w : World)  (hat : At ([(g, .cells (LS.enc (s)) 54 (0, 0))]) w) :
    Calls Try.prog 16 [.pointer (some ⟨g, 0, none⟩)].toArray w fun e w' => e = .returned (.int .u64 (s.fs)) ∧ Below w.heap.size w w' := by
  refine (calls_of (P := Try.prog) (n := 9) (w0 := w) (S := ids ([(g, .cells (LS.enc (s)) 54 (0, 0))])) (H := [(g, .cells (LS.enc (s)) 54 (0, 0))]) (T := fun v H => v = (.int .u64 (s.fs)) ∧ ([(g, .cells (LS.enc (s)) 54 (0, 0))] : Hp).Sublist H) Try.func16 rfl Try.ntmps16 (Nat.le_of_ble_eq_true rfl) [.tmp 2] rfl hat.st ?_).mono fun e w' ⟨v, H', he, hs, hT, hsub⟩ => ⟨by rw [he, hT], St.same hat hs hsub⟩
  refine c_seq fun K1 hK1 => ?_
  refine c_region ?_
  refine o_y (v := .int .u64 (0)) rfl rfl (y_assign rfl) ?_
  refine o_nil ?_
  refine hK1 _ _ ?_
  refine c_seq fun K2 hK2 => ?_
  refine c_seq fun K3 hK3 => ?_
  refine c_region ?_
  refine o_y (v := .pointer (some ⟨g, 0, none⟩)) rfl rfl (y_move rfl) ?_
  refine o_y (v := .bool (false)) rfl rfl (y_eqlN rfl rfl Try.underlying25 rfl) ?_
  refine o_nil ?_
  refine hK3 _ _ ?_
  refine c_cond (t := false) rfl (fun h => by cases h) (fun _ => ?_)
  refine c_skip ?_
  refine hK2 _ _ ?_
  refine c_seq fun K4 hK4 => ?_
  refine c_region ?_
  refine o_y (v := .pointer (some ⟨g, 0, none⟩)) rfl rfl (y_move rfl) ?_
  refine o_y (v := .pointer (some ⟨g, 0, none⟩)) rfl rfl (y_nilCheck rfl) ?_
  refine o_y (v := .pointer (some ⟨g, 1057, none⟩)) rfl rfl (y_fieldAddr (k := 1057) rfl Try.underlying54 rfl rfl ⟨_, s24⟩ (by first | rfl | omega)) ?_
  refine o_y (v := .int .u64 (s.fs)) rfl rfl (y_load rfl Try.underlying24 rfl (Rd.one (k := 0) rfl (LS.fs_at s))) ?_
  refine o_y (v := .int .u64 (s.fs)) rfl rfl (y_assign rfl) ?_
  refine o_nil ?_
  refine hK4 _ _ ?_
  refine c_ret ?_
  refine fun w hw => ⟨[.int .u64 (s.fs)], ⟨rfl, trivial⟩, ?_⟩
  exact ⟨rfl, (List.Sublist.slnil.cons_cons _)⟩
  first | done | rfl

set_option maxRecDepth 100000 in
set_option maxHeartbeats 4000000 in
theorem f20_Members (g : Nat) (s : LS) (w : World)  (hat : At ([(g, .cells (LS.enc (s)) 54 (0, 0))]) w) :
    Calls Try.prog 20 [.pointer (some ⟨g, 0, none⟩)].toArray w fun e w' => e = .returned (.int .i64 (s.mem)) ∧ Below w.heap.size w w' := by
  refine (calls_of (P := Try.prog) (n := 9) (w0 := w) (S := ids ([(g, .cells (LS.enc (s)) 54 (0, 0))])) (H := [(g, .cells (LS.enc (s)) 54 (0, 0))]) (T := fun v H => v = (.int .i64 (s.mem)) ∧ ([(g, .cells (LS.enc (s)) 54 (0, 0))] : Hp).Sublist H) Try.func20 rfl Try.ntmps20 (Nat.le_of_ble_eq_true rfl) [.tmp 2] rfl hat.st ?_).mono fun e w' ⟨v, H', he, hs, hT, hsub⟩ => ⟨by rw [he, hT], St.same hat hs hsub⟩
  refine c_seq fun K1 hK1 => ?_
  refine c_region ?_
  refine o_y (v := .int .i64 (0)) rfl rfl (y_assign rfl) ?_
  refine o_nil ?_
  refine hK1 _ _ ?_
  refine c_seq fun K2 hK2 => ?_
  refine c_seq fun K3 hK3 => ?_
  refine c_region ?_
  refine o_y (v := .pointer (some ⟨g, 0, none⟩)) rfl rfl (y_move rfl) ?_
  refine o_y (v := .bool (false)) rfl rfl (y_eqlN rfl rfl Try.underlying25 rfl) ?_
  refine o_nil ?_
  refine hK3 _ _ ?_
  refine c_cond (t := false) rfl (fun h => by cases h) (fun _ => ?_)
  refine c_skip ?_
  refine hK2 _ _ ?_
  refine c_seq fun K4 hK4 => ?_
  refine c_region ?_
  refine o_y (v := .pointer (some ⟨g, 0, none⟩)) rfl rfl (y_move rfl) ?_
  refine o_y (v := .pointer (some ⟨g, 0, none⟩)) rfl rfl (y_nilCheck rfl) ?_
  refine o_y (v := .pointer (some ⟨g, 0, none⟩)) rfl rfl (y_fieldAddr (k := 0) rfl Try.underlying54 rfl rfl ⟨_, s3⟩ (by first | rfl | omega)) ?_
  refine o_y (v := .int .i64 (s.mem)) rfl rfl (y_load rfl Try.underlying3 rfl (Rd.one (k := 0) rfl (LS.rd_mem s))) ?_
  refine o_y (v := .int .i64 (s.mem)) rfl rfl (y_assign rfl) ?_
  refine o_nil ?_
  refine hK4 _ _ ?_
  refine c_ret ?_
  refine fun w hw => ⟨[.int .i64 (s.mem)], ⟨rfl, trivial⟩, ?_⟩
  exact ⟨rfl, (List.Sublist.slnil.cons_cons _)⟩
  first | done | rfl

set_option maxRecDepth 100000 in
set_option maxHeartbeats 4000000 in
theorem f11_Dirty (g : Nat) (s : LS) (w : World) (hm : 0 ≤ s.mem ∧ s.mem ≤ 16) (hat : At ([(g, .cells (LS.enc (s)) 54 (0, 0))]) w) :
    Calls Try.prog 11 [.pointer (some ⟨g, 0, none⟩)].toArray w fun e w' => ∃ v H', e = .returned v ∧ St w (fun _ => False) H' w' ∧ (fun v H => ∃ a g2 cap, v = .slice a (dirtyL s).length cap ∧ OwnV eInt 3 (dirtyL s) a g2 cap H) v H' := by
  refine (calls_of (P := Try.prog) (n := 26) (w0 := w) (S := ids ([(g, .cells (LS.enc (s)) 54 (0, 0))])) (H := [(g, .cells (LS.enc (s)) 54 (0, 0))]) (T := fun v H => ∃ H1, (fun v H => ∃ a g2 cap, v = .slice a (dirtyL s).length cap ∧ OwnV eInt 3 (dirtyL s) a g2 cap H) v H1 ∧ (([(g, .cells (LS.enc (s)) 54 (0, 0))] : Hp) ++ H1).Sublist H) Try.func11 rfl Try.ntmps11 (Nat.le_of_ble_eq_true rfl) [.tmp 2] rfl hat.st ?_).mono fun e w' ⟨v, H', he, hs, H1, hT, hsub⟩ => ⟨v, H1, he, St.pure hat hs hsub, hT⟩
  refine c_seq fun K1 hK1 => ?_
  refine c_region ?_
  refine o_y (v := .slice none 0 0) rfl rfl (y_assign rfl) ?_
  refine o_nil ?_
  refine hK1 _ _ ?_
  refine c_seq fun K2 hK2 => ?_
  refine c_seq fun K3 hK3 => ?_
  refine c_region ?_
  refine o_y (v := .pointer (some ⟨g, 0, none⟩)) rfl rfl (y_move rfl) ?_
  refine o_y (v := .bool (false)) rfl rfl (y_eqlN rfl rfl Try.underlying25 rfl) ?_
  refine o_nil ?_
  refine hK3 _ _ ?_
  refine c_cond (t := false) rfl (fun h => by cases h) (fun _ => ?_)
  refine c_skip ?_
  refine hK2 _ _ ?_
  refine c_seq fun K4 hK4 => ?_
  refine c_region ?_
  refine o_y (v := .slice none 0 0) rfl rfl (y_assign rfl) ?_
  refine o_nil ?_
  refine hK4 _ _ ?_
  refine c_seq fun K5 hK5 => ?_
  refine c_seq fun K6 hK6 => ?_
  refine c_region ?_
  refine o_y (v := .pointer (some ⟨g, 0, none⟩)) rfl rfl (y_move rfl) ?_
  refine o_y (v := .pointer (some ⟨g, 0, none⟩)) rfl rfl (y_nilCheck rfl) ?_
  refine o_y (v := .pointer (some ⟨g, 0, none⟩)) rfl rfl (y_fieldAddr (k := 0) rfl Try.underlying54 rfl rfl ⟨_, s3⟩ (by first | rfl | omega)) ?_
  refine o_y (v := .int .i64 (s.mem)) rfl rfl (y_load rfl Try.underlying3 rfl (Rd.one (k := 0) rfl (LS.rd_mem s))) ?_
  refine o_y (v := .int .i64 (0)) rfl rfl (y_move rfl) ?_
  refine o_nil ?_
  refine hK6 _ _ ?_
  refine c_block ?_
  refine c_loop (fun d R H => ∃ (j : Nat) (a : Option Addr) (g2 : Nat) (cap : Nat) (Hx : Hp), d = s.mem.toNat - (j) ∧ (j ≤ s.mem.toNat) ∧ (OwnV eInt 3 (dsel s.dt (j)) a g2 cap Hx) ∧ R 0 = .pointer (some ⟨g, 0, none⟩) ∧ R 10 = .int .i64 (s.mem) ∧ R 11 = .int .i64 (((j : Nat) : Int)) ∧ R 3 = .slice (a) ((dsel s.dt (j)).length) (cap) ∧ H = ([(g, .cells (LS.enc (s)) 54 (0, 0))] ++ (Hx) : Hp)) (s.mem.toNat - (0)) ?_ ?_
  ·
    refine ⟨0, none, 0, 0, [], rfl, by omega, OwnV.none', rfl, rfl, (ie (a := 0) (b := ((0 : Nat) : Int)) (by omega)), rfl, ?_⟩
    simp; first | done | rfl
  ·
    rintro d1 R1 _ ⟨j, a, g2, cap, Hx, hd1, hv1_0, hv1_1, h1_0, h1_10, h1_11, h1_3, rfl⟩
    have hsl := dsel_le s.dt j
    have hol := hv1_1.le
    have hom := hv1_1.mx
    simp only [maxLen] at hom
    refine c_seq fun K7 hK7 => ?_
    refine c_region ?_
    refine o_y (v := .bool (decide (((j : Nat) : Int) < s.mem))) rfl rfl (y_lss h1_11 h1_10 rfl) ?_
    refine o_nil ?_
    refine hK7 _ _ ?_
    refine c_seq fun K8 hK8 => ?_
    refine c_cond (t := decide (((j : Nat) : Int) < s.mem)) rfl (fun hc1 => ?_) (fun hc1 => ?_)
    ·
      replace hc1 := of_decide_eq_true hc1
      -- way LT
      refine c_skip ?_
      refine hK8 _ _ ?_
      refine c_seq fun K9 hK9 => ?_
      refine c_block ?_
      refine c_seq fun K10 hK10 => ?_
      refine c_region ?_
      refine o_y (v := .int .i64 (((j : Nat) : Int))) rfl rfl (y_move h1_11) ?_
      refine o_y (v := .int .i64 (((j : Nat) : Int))) rfl rfl (y_assign rfl) ?_
      refine o_nil ?_
      refine hK10 _ _ ?_
      refine c_seq fun K11 hK11 => ?_
      refine c_region ?_
      refine o_y (v := .pointer (some ⟨g, 0, none⟩)) rfl rfl (y_move h1_0) ?_
      refine o_y (v := .int .i64 (((j : Nat) : Int))) rfl rfl (y_move rfl) ?_
      refine o_y (v := .pointer (some ⟨g, 0, none⟩)) rfl rfl (y_nilCheck rfl) ?_
      refine o_y (v := .pointer (some ⟨g, 17, none⟩)) rfl rfl (y_fieldAddr (k := 17) rfl Try.underlying54 rfl rfl ⟨_, s51⟩ (by first | rfl | omega)) ?_
      refine o_y (v := .pointer (some ⟨g, 17 + j, none⟩)) rfl rfl (y_ixArr (sz := 1) rfl rfl Try.underlying51 s4 (by omega) (by omega) (by first | omega | (simp; done) | (simp; omega))) ?_
      refine o_y (v := .bool (s.dt.getD (j) false)) rfl rfl (y_load rfl Try.underlying4 rfl (Rd.one (k := 0) rfl (LS.dt_at s (j) (by omega)))) ?_
      refine o_nil ?_
      refine hK11 _ _ ?_
      refine c_cond (t := s.dt.getD (j) false) rfl (fun hc2 => ?_) (fun hc2 => ?_)
      ·
        -- way LTT
        have hpk : s.dt.getD j false = true := by simpa using hc2
        refine c_region ?_
        refine o_y (v := .slice (a) ((dsel s.dt (j)).length) (cap)) rfl rfl (y_move h1_3) ?_
        refine o_y (v := .int .i64 (((j : Nat) : Int))) rfl rfl (y_move rfl) ?_
        refine o_buildRow SL33 ([(((j : Nat) : Int))] : List Int) (fun x => .int .i64 x) (fun _ => rfl) rfl rfl (by rw [Array.toList_map]; rfl) (by simp) (by simp [eInt]) fun g1 cg1 hrg1 => ?_
        refine o_appendV SL33 ([(g1, .cells (cg1) 3 (0, 0)), (g, .cells (LS.enc (s)) 54 (0, 0))]) (fun Hy => [(g1, .cells (cg1) 3 (0, 0)), (g, .cells (LS.enc (s)) 54 (0, 0))] ++ (Hy)) rfl (fun Hy => by have h := List.perm_append_comm (l₁ := ([(g1, .cells (cg1) 3 (0, 0)), (g, .cells (LS.enc (s)) 54 (0, 0))] : Hp)) (l₂ := Hy); first | exact h | simpa [Value.cells] using h) (by have h := List.perm_append_comm_assoc ([(g1, .cells (cg1) 3 (0, 0)), (g, .cells (LS.enc (s)) 54 (0, 0))] : Hp) Hx ([] : Hp); first | exact h | simpa [Value.cells] using h) hv1_1 rfl (by first | omega | (simp; done) | (simp; omega)) rfl (by first | omega | (simp; done) | (simp; omega)) (SlG.row (k := 0) rfl hrg1) (by simp only [maxLen] <;> first | omega | (simp; done) | (simp; omega)) (by first | omega | (simp; done) | (simp; omega)) fun ap3 gp3 capp3 Hp3 hvp3 => ?_
        have hwp3 := hvp3
        rw [show (dsel s.dt (j)) ++ ([(((j : Nat) : Int))]) = dsel s.dt (j + 1) from dsel_t hpk] at hwp3
        refine o_y (v := .slice (ap3) (((dsel s.dt (j)).length) + 1) (capp3)) rfl rfl (y_assign rfl) ?_
        refine o_nil ?_
        refine hK9 _ _ ?_
        refine c_region ?_
        refine o_y (v := .int .i64 ((((j : Nat) : Int)) + 1)) rfl rfl (y_add h1_11 rfl (wi_i64 (by omega) (by omega))) ?_
        refine o_y (v := .int .i64 ((((j : Nat) : Int)) + 1)) rfl rfl (y_move rfl) ?_
        refine o_forget (H' := [(g, .cells (LS.enc (s)) 54 (0, 0))] ++ (Hp3)) (((List.Sublist.refl _).cons_cons _).cons _) ?_
        refine o_nil ?_
        refine ⟨_, by omega, j + 1, ap3, gp3, capp3, Hp3, rfl, by omega, hwp3, h1_0, h1_10, (ie (a := (((j : Nat) : Int)) + 1) (b := ((j + 1 : Nat) : Int)) (by omega)), (len_eq (by rw [← dsel_t hpk, List.length_append]; rfl)), rfl⟩
      ·
        -- way LTF
        have hpk : s.dt.getD j false = false := by simpa using hc2
        refine c_skip ?_
        refine hK9 _ _ ?_
        refine c_region ?_
        refine o_y (v := .int .i64 ((((j : Nat) : Int)) + 1)) rfl rfl (y_add h1_11 rfl (wi_i64 (by omega) (by omega))) ?_
        refine o_y (v := .int .i64 ((((j : Nat) : Int)) + 1)) rfl rfl (y_move rfl) ?_
        refine o_nil ?_
        refine ⟨_, by omega, j + 1, a, g2, cap, Hx, rfl, by omega, (by rw [dsel_f hpk]; exact hv1_1), h1_0, h1_10, (ie (a := (((j : Nat) : Int)) + 1) (b := ((j + 1 : Nat) : Int)) (by omega)), (by rw [dsel_f hpk]; assumption), rfl⟩
    ·
      replace hc1 := of_decide_eq_false hc1
      -- way LF
      refine c_exit ?_
      refine hK5 _ _ ?_
      refine c_seq fun K12 hK12 => ?_
      refine c_region ?_
      refine o_y (v := .slice (a) ((dsel s.dt (j)).length) (cap)) rfl rfl (y_move h1_3) ?_
      refine o_y (v := .slice (a) ((dsel s.dt (j)).length) (cap)) rfl rfl (y_assign rfl) ?_
      refine o_nil ?_
      refine hK12 _ _ ?_
      refine c_ret ?_
      refine fun w hw => ⟨[.slice (a) ((dsel s.dt (j)).length) (cap)], ⟨rfl, trivial⟩, ?_⟩
      have hjj : j = s.mem.toNat := by omega
      subst hjj
      exact ⟨Hx, ⟨_, _, _, rfl, hv1_1⟩, (((List.Sublist.refl _).cons_cons _) : (([(g, .cells (LS.enc s) 54 (0, 0))] : Hp) ++ Hx).Sublist _)⟩
      first | done | rfl

set_option maxRecDepth 100000 in
set_option maxHeartbeats 4000000 in
theorem f8_LearnN (m : Int) (b : Blk) (w : World)  :
    Calls Try.prog 8 [.pointer none, .int .i64 (m), .agg (bv (b))].toArray w fun e w' => e = .returned (.int .i64 (1)) ∧ Below w.heap.size w w' := by
  refine (calls_of (P := Try.prog) (n := 32) (w0 := w) (S := fun _ => False) (H := []) (T := fun v _ => v = (.int .i64 (1))) Try.func8 rfl Try.ntmps8 (Nat.le_of_ble_eq_true rfl) [.tmp 6] rfl (St.nil w _) ?_).mono fun e w' ⟨v, H', he, hs, hT⟩ => ⟨by rw [he, hT], hs.below⟩
  refine c_seq fun K1 hK1 => ?_
  refine c_region ?_
  refine o_box (v := .agg (bv (b))) rfl rfl fun g1 => ?_
  refine o_y (v := .int .i64 (0)) rfl rfl (y_assign rfl) ?_
  refine o_nil ?_
  refine hK1 _ _ ?_
  refine c_seq fun K2 hK2 => ?_
  refine c_seq fun K3 hK3 => ?_
  refine c_region ?_
  refine o_y (v := .pointer none) rfl rfl (y_move rfl) ?_
  refine o_y (v := .int .i64 (m)) rfl rfl (y_move rfl) ?_
  refine o_y (v := .int .i64 (1)) rfl rfl (y_call (vs := [.pointer none, .int .i64 (m)]) b21 rfl (fun w hw => f21_askedN (m) w)) ?_
  refine o_y (v := .int .i64 (1)) rfl rfl (y_assign rfl) ?_
  refine o_nil ?_
  refine hK3 _ _ ?_
  refine c_seq fun K4 hK4 => ?_
  refine c_region ?_
  refine o_y (v := .int .i64 (1)) rfl rfl (y_move rfl) ?_
  refine o_y (v := .bool (true)) rfl rfl (y_neq rfl rfl (by decide)) ?_
  refine o_nil ?_
  refine hK4 _ _ ?_
  refine c_cond (t := true) rfl (fun _ => ?_) (fun h => by cases h)
  refine c_seq fun K5 hK5 => ?_
  refine c_region ?_
  refine o_y (v := .int .i64 (1)) rfl rfl (y_move rfl) ?_
  refine o_y (v := .int .i64 (1)) rfl rfl (y_assign rfl) ?_
  refine o_nil ?_
  refine hK5 _ _ ?_
  refine c_ret ?_
  refine fun w hw => ⟨[.int .i64 (1)], ⟨rfl, trivial⟩, ?_⟩
  exact rfl

set_option maxRecDepth 100000 in
set_option maxHeartbeats 4000000 in
theorem f10_SetN (m : Int) (b : Blk) (q : Int) (w : World)  :
    Calls Try.prog 10 [.pointer none, .int .i64 (m), .agg (bv (b)), .int .u64 (q)].toArray w fun e w' => e = .returned (.int .i64 (1)) ∧ Below w.heap.size w w' := by
  refine (calls_of (P := Try.prog) (n := 51) (w0 := w) (S := fun _ => False) (H := []) (T := fun v _ => v = (.int .i64 (1))) Try.func10 rfl Try.ntmps10 (Nat.le_of_ble_eq_true rfl) [.tmp 8] rfl (St.nil w _) ?_).mono fun e w' ⟨v, H', he, hs, hT⟩ => ⟨by rw [he, hT], hs.below⟩
  refine c_seq fun K1 hK1 => ?_
  refine c_region ?_
  refine o_box (v := .agg (bv (b))) rfl rfl fun g1 => ?_
  refine o_y (v := .int .i64 (0)) rfl rfl (y_assign rfl) ?_
  refine o_nil ?_
  refine hK1 _ _ ?_
  refine c_seq fun K2 hK2 => ?_
  refine c_seq fun K3 hK3 => ?_
  refine c_region ?_
  refine o_y (v := .pointer none) rfl rfl (y_move rfl) ?_
  refine o_y (v := .int .i64 (m)) rfl rfl (y_move rfl) ?_
  refine o_y (v := .int .i64 (1)) rfl rfl (y_call (vs := [.pointer none, .int .i64 (m)]) b21 rfl (fun w hw => f21_askedN (m) w)) ?_
  refine o_y (v := .int .i64 (1)) rfl rfl (y_assign rfl) ?_
  refine o_nil ?_
  refine hK3 _ _ ?_
  refine c_seq fun K4 hK4 => ?_
  refine c_region ?_
  refine o_y (v := .int .i64 (1)) rfl rfl (y_move rfl) ?_
  refine o_y (v := .bool (true)) rfl rfl (y_neq rfl rfl (by decide)) ?_
  refine o_nil ?_
  refine hK4 _ _ ?_
  refine c_cond (t := true) rfl (fun _ => ?_) (fun h => by cases h)
  refine c_seq fun K5 hK5 => ?_
  refine c_region ?_
  refine o_y (v := .int .i64 (1)) rfl rfl (y_move rfl) ?_
  refine o_y (v := .int .i64 (1)) rfl rfl (y_assign rfl) ?_
  refine o_nil ?_
  refine hK5 _ _ ?_
  refine c_ret ?_
  refine fun w hw => ⟨[.int .i64 (1)], ⟨rfl, trivial⟩, ?_⟩
  exact rfl

set_option maxRecDepth 100000 in
set_option maxHeartbeats 4000000 in
theorem f15_ForgetN (m : Int) (w : World)  :
    Calls Try.prog 15 [.pointer none, .int .i64 (m)].toArray w fun e w' => e = .returned (.int .i64 (1)) ∧ Below w.heap.size w w' := by
  refine (calls_of (P := Try.prog) (n := 28) (w0 := w) (S := fun _ => False) (H := []) (T := fun v _ => v = (.int .i64 (1))) Try.func15 rfl Try.ntmps15 (Nat.le_of_ble_eq_true rfl) [.tmp 4] rfl (St.nil w _) ?_).mono fun e w' ⟨v, H', he, hs, hT⟩ => ⟨by rw [he, hT], hs.below⟩
  refine c_seq fun K1 hK1 => ?_
  refine c_region ?_
  refine o_y (v := .int .i64 (0)) rfl rfl (y_assign rfl) ?_
  refine o_nil ?_
  refine hK1 _ _ ?_
  refine c_seq fun K2 hK2 => ?_
  refine c_seq fun K3 hK3 => ?_
  refine c_region ?_
  refine o_y (v := .pointer none) rfl rfl (y_move rfl) ?_
  refine o_y (v := .int .i64 (m)) rfl rfl (y_move rfl) ?_
  refine o_y (v := .int .i64 (1)) rfl rfl (y_call (vs := [.pointer none, .int .i64 (m)]) b21 rfl (fun w hw => f21_askedN (m) w)) ?_
  refine o_y (v := .int .i64 (1)) rfl rfl (y_assign rfl) ?_
  refine o_nil ?_
  refine hK3 _ _ ?_
  refine c_seq fun K4 hK4 => ?_
  refine c_region ?_
  refine o_y (v := .int .i64 (1)) rfl rfl (y_move rfl) ?_
  refine o_y (v := .bool (true)) rfl rfl (y_neq rfl rfl (by decide)) ?_
  refine o_nil ?_
  refine hK4 _ _ ?_
  refine c_cond (t := true) rfl (fun _ => ?_) (fun h => by cases h)
  refine c_seq fun K5 hK5 => ?_
  refine c_region ?_
  refine o_y (v := .int .i64 (1)) rfl rfl (y_move rfl) ?_
  refine o_y (v := .int .i64 (1)) rfl rfl (y_assign rfl) ?_
  refine o_nil ?_
  refine hK5 _ _ ?_
  refine c_ret ?_
  refine fun w hw => ⟨[.int .i64 (1)], ⟨rfl, trivial⟩, ?_⟩
  exact rfl

set_option maxRecDepth 100000 in
set_option maxHeartbeats 4000000 in
theorem f13_CleanN  (w : World)  :
    Calls Try.prog 13 [.pointer none].toArray w fun e w' => e = .returned (.int .i64 (1)) ∧ Below w.heap.size w w' := by
  refine (calls_of (P := Try.prog) (n := 19) (w0 := w) (S := fun _ => False) (H := []) (T := fun v _ => v = (.int .i64 (1))) Try.func13 rfl Try.ntmps13 (Nat.le_of_ble_eq_true rfl) [.tmp 2] rfl (St.nil w _) ?_).mono fun e w' ⟨v, H', he, hs, hT⟩ => ⟨by rw [he, hT], hs.below⟩
  refine c_seq fun K1 hK1 => ?_
  refine c_region ?_
  refine o_y (v := .int .i64 (0)) rfl rfl (y_assign rfl) ?_
  refine o_nil ?_
  refine hK1 _ _ ?_
  refine c_seq fun K2 hK2 => ?_
  refine c_seq fun K3 hK3 => ?_
  refine c_region ?_
  refine o_y (v := .pointer none) rfl rfl (y_move rfl) ?_
  refine o_y (v := .bool (true)) rfl rfl (y_eqlN rfl rfl Try.underlying25 rfl) ?_
  refine o_y (v := .bool (true)) rfl rfl (y_move rfl) ?_
  refine o_guard (j := 2) (d := 5) (b := true) rfl rfl rfl (fun h => by cases h) rfl (fun _ => ?_)
  refine o_guard (j := 2) (d := 5) (b := true) rfl rfl rfl (fun h => by cases h) rfl (fun _ => ?_)
  refine o_guard (j := 2) (d := 5) (b := true) rfl rfl rfl (fun h => by cases h) rfl (fun _ => ?_)
  refine o_guard (j := 2) (d := 5) (b := true) rfl rfl rfl (fun h => by cases h) rfl (fun _ => ?_)
  refine o_guard (j := 2) (d := 5) (b := true) rfl rfl rfl (fun h => by cases h) rfl (fun _ => ?_)
  refine o_y (v := .bool (true)) rfl rfl (y_pick (b := true) rfl rfl) ?_
  refine o_nil ?_
  refine hK3 _ _ ?_
  refine c_cond (t := true) rfl (fun _ => ?_) (fun h => by cases h)
  refine c_seq fun K4 hK4 => ?_
  refine c_region ?_
  refine o_y (v := .int .i64 (1)) rfl rfl (y_assign rfl) ?_
  refine o_nil ?_
  refine hK4 _ _ ?_
  refine c_ret ?_
  refine fun w hw => ⟨[.int .i64 (1)], ⟨rfl, trivial⟩, ?_⟩
  exact rfl

set_option maxRecDepth 100000 in
set_option maxHeartbeats 4000000 in
theorem f9_GetN (m : Int) (w : World)  :
    Calls Try.prog 9 [.pointer none, .int .i64 (m)].toArray w fun e w' => e = .returned (.tuple #[.agg (bv (zB)), .bool (false)]) ∧ Below w.heap.size w w' := by
  refine (calls_of (P := Try.prog) (n := 26) (w0 := w) (S := fun _ => False) (H := []) (T := fun v _ => v = (.tuple #[.agg (bv (zB)), .bool (false)])) Try.func9 rfl Try.ntmps9 (Nat.le_of_ble_eq_true rfl) [.cell 4 23, .tmp 5] rfl (St.nil w _) ?_).mono fun e w' ⟨v, H', he, hs, hT⟩ => ⟨by rw [he, hT], hs.below⟩
  refine c_seq fun K1 hK1 => ?_
  refine c_region ?_
  refine o_alloc (z := .agg (bv (zB))) rfl z23 fun g1 => ?_
  refine o_y (v := .bool (false)) rfl rfl (y_assign rfl) ?_
  refine o_nil ?_
  refine hK1 _ _ ?_
  refine c_seq fun K2 hK2 => ?_
  refine c_seq fun K3 hK3 => ?_
  refine c_region ?_
  refine o_y (v := .pointer none) rfl rfl (y_move rfl) ?_
  refine o_y (v := .int .i64 (m)) rfl rfl (y_move rfl) ?_
  refine o_y (v := .int .i64 (1)) rfl rfl (y_call (vs := [.pointer none, .int .i64 (m)]) b21 rfl (fun w hw => f21_askedN (m) w)) ?_
  refine o_y (v := .bool (true)) rfl rfl (y_neq rfl rfl (by decide)) ?_
  refine o_y (v := .bool (true)) rfl rfl (y_move rfl) ?_
  refine o_guard (j := 4) (d := 10) (b := true) rfl rfl rfl (fun h => by cases h) rfl (fun _ => ?_)
  refine o_guard (j := 4) (d := 10) (b := true) rfl rfl rfl (fun h => by cases h) rfl (fun _ => ?_)
  refine o_guard (j := 4) (d := 10) (b := true) rfl rfl rfl (fun h => by cases h) rfl (fun _ => ?_)
  refine o_guard (j := 4) (d := 10) (b := true) rfl rfl rfl (fun h => by cases h) rfl (fun _ => ?_)
  refine o_guard (j := 4) (d := 10) (b := true) rfl rfl rfl (fun h => by cases h) rfl (fun _ => ?_)
  refine o_guard (j := 4) (d := 10) (b := true) rfl rfl rfl (fun h => by cases h) rfl (fun _ => ?_)
  refine o_guard (j := 4) (d := 10) (b := true) rfl rfl rfl (fun h => by cases h) rfl (fun _ => ?_)
  refine o_y (v := .bool (true)) rfl rfl (y_pick (b := true) rfl rfl) ?_
  refine o_nil ?_
  refine hK3 _ _ ?_
  refine c_cond (t := true) rfl (fun _ => ?_) (fun h => by cases h)
  refine c_seq fun K4 hK4 => ?_
  refine c_region ?_
  refine o_y (v := .agg (bv (zB))) rfl rfl (y_build rfl (by kernel_rfl)) ?_
  refine o_storeB (H' := [(g1, .cells (bv (zB)) 23 (0, 0))]) T23 0 rfl rfl rfl rfl ?_
  refine o_y (v := .bool (false)) rfl rfl (y_assign rfl) ?_
  refine o_nil ?_
  refine hK4 _ _ ?_
  refine c_ret ?_
  refine fun w hw => ⟨[.agg (bv (zB)), .bool (false)], ⟨⟨_, rfl, loadB T23 ((Rd.whole (k := 0) rfl) w hw)⟩, rfl, trivial⟩, ?_⟩
  exact rfl

set_option maxRecDepth 100000 in
set_option maxHeartbeats 4000000 in
theorem f16_FirstN  (w : World)  :
    Calls Try.prog 16 [.pointer none].toArray w fun e w' => e = .returned (.int .u64 (0)) ∧ Below w.heap.size w w' := by
  refine (calls_of (P := Try.prog) (n := 9) (w0 := w) (S := fun _ => False) (H := []) (T := fun v _ => v = (.int .u64 (0))) Try.func16 rfl Try.ntmps16 (Nat.le_of_ble_eq_true rfl) [.tmp 2] rfl (St.nil w _) ?_).mono fun e w' ⟨v, H', he, hs, hT⟩ => ⟨by rw [he, hT], hs.below⟩
  refine c_seq fun K1 hK1 => ?_
  refine c_region ?_
  refine o_y (v := .int .u64 (0)) rfl rfl (y_assign rfl) ?_
  refine o_nil ?_
  refine hK1 _ _ ?_
  refine c_seq fun K2 hK2 => ?_
  refine c_seq fun K3 hK3 => ?_
  refine c_region ?_
  refine o_y (v := .pointer none) rfl rfl (y_move rfl) ?_
  refine o_y (v := .bool (true)) rfl rfl (y_eqlN rfl rfl Try.underlying25 rfl) ?_
  refine o_nil ?_
  refine hK3 _ _ ?_
  refine c_cond (t := true) rfl (fun _ => ?_) (fun h => by cases h)
  refine c_seq fun K4 hK4 => ?_
  refine c_region ?_
  refine o_y (v := .int .u64 (0)) rfl rfl (y_assign rfl) ?_
  refine o_nil ?_
  refine hK4 _ _ ?_
  refine c_ret ?_
  refine fun w hw => ⟨[.int .u64 (0)], ⟨rfl, trivial⟩, ?_⟩
  exact rfl

set_option maxRecDepth 100000 in
set_option maxHeartbeats 4000000 in
theorem f20_MembersN  (w : World)  :
    Calls Try.prog 20 [.pointer none].toArray w fun e w' => e = .returned (.int .i64 (0)) ∧ Below w.heap.size w w' := by
  refine (calls_of (P := Try.prog) (n := 9) (w0 := w) (S := fun _ => False) (H := []) (T := fun v _ => v = (.int .i64 (0))) Try.func20 rfl Try.ntmps20 (Nat.le_of_ble_eq_true rfl) [.tmp 2] rfl (St.nil w _) ?_).mono fun e w' ⟨v, H', he, hs, hT⟩ => ⟨by rw [he, hT], hs.below⟩
  refine c_seq fun K1 hK1 => ?_
  refine c_region ?_
  refine o_y (v := .int .i64 (0)) rfl rfl (y_assign rfl) ?_
  refine o_nil ?_
  refine hK1 _ _ ?_
  refine c_seq fun K2 hK2 => ?_
  refine c_seq fun K3 hK3 => ?_
  refine c_region ?_
  refine o_y (v := .pointer none) rfl rfl (y_move rfl) ?_
  refine o_y (v := .bool (true)) rfl rfl (y_eqlN rfl rfl Try.underlying25 rfl) ?_
  refine o_nil ?_
  refine hK3 _ _ ?_
  refine c_cond (t := true) rfl (fun _ => ?_) (fun h => by cases h)
  refine c_seq fun K4 hK4 => ?_
  refine c_region ?_
  refine o_y (v := .int .i64 (0)) rfl rfl (y_assign rfl) ?_
  refine o_nil ?_
  refine hK4 _ _ ?_
  refine c_ret ?_
  refine fun w hw => ⟨[.int .i64 (0)], ⟨rfl, trivial⟩, ?_⟩
  exact rfl

set_option maxRecDepth 100000 in
set_option maxHeartbeats 4000000 in
theorem f11_DirtyN  (w : World)  :
    Calls Try.prog 11 [.pointer none].toArray w fun e w' => e = .returned (.slice none 0 0) ∧ Below w.heap.size w w' := by
  refine (calls_of (P := Try.prog) (n := 26) (w0 := w) (S := fun _ => False) (H := []) (T := fun v _ => v = (.slice none 0 0)) Try.func11 rfl Try.ntmps11 (Nat.le_of_ble_eq_true rfl) [.tmp 2] rfl (St.nil w _) ?_).mono fun e w' ⟨v, H', he, hs, hT⟩ => ⟨by rw [he, hT], hs.below⟩
  refine c_seq fun K1 hK1 => ?_
  refine c_region ?_
  refine o_y (v := .slice none 0 0) rfl rfl (y_assign rfl) ?_
  refine o_nil ?_
  refine hK1 _ _ ?_
  refine c_seq fun K2 hK2 => ?_
  refine c_seq fun K3 hK3 => ?_
  refine c_region ?_
  refine o_y (v := .pointer none) rfl rfl (y_move rfl) ?_
  refine o_y (v := .bool (true)) rfl rfl (y_eqlN rfl rfl Try.underlying25 rfl) ?_
  refine o_nil ?_
  refine hK3 _ _ ?_
  refine c_cond (t := true) rfl (fun _ => ?_) (fun h => by cases h)
  refine c_seq fun K4 hK4 => ?_
  refine c_region ?_
  refine o_y (v := .slice none 0 0) rfl rfl (y_assign rfl) ?_
  refine o_nil ?_
  refine hK4 _ _ ?_
  refine c_ret ?_
  refine fun w hw => ⟨[.slice none 0 0], ⟨rfl, trivial⟩, ?_⟩
  exact rfl

set_option maxRecDepth 100000 in
set_option maxHeartbeats 4000000 in
theorem f7_New (n : Int) (w : World) (h1 : 1 ≤ n) (h16 : n ≤ 16) :
    Calls Try.prog 7 [.int .i64 (n)].toArray w fun e w' => ∃ v H', e = .returned v ∧ St w (fun _ => False) H' w' ∧ (fun v H => ∃ g, v = .tuple #[.pointer (some ⟨g, 0, none⟩), .int .i64 0] ∧ H = [(g, .cells (LS.enc (newL n)) 54 (0, 0))]) v H' := by
  refine (calls_of (P := Try.prog) (n := 13) (w0 := w) (S := fun _ => False) (H := []) (T := fun v H => ∃ H', H'.Sublist H ∧ (fun v H => ∃ g, v = .tuple #[.pointer (some ⟨g, 0, none⟩), .int .i64 0] ∧ H = [(g, .cells (LS.enc (newL n)) 54 (0, 0))]) v H') Try.func7 rfl Try.ntmps7 (Nat.le_of_ble_eq_true rfl) [.tmp 2, .tmp 3] rfl (St.nil w _) ?_).mono fun e w' ⟨v, H', he, hs, H2, hsub, hT⟩ => ⟨v, H2, he, hs.drop hsub, hT⟩
  refine c_seq fun K1 hK1 => ?_
  refine c_region ?_
  refine o_y (v := .pointer none) rfl rfl (y_assign rfl) ?_
  refine o_y (v := .int .i64 (0)) rfl rfl (y_assign rfl) ?_
  refine o_nil ?_
  refine hK1 _ _ ?_
  refine c_seq fun K2 hK2 => ?_
  refine c_seq fun K3 hK3 => ?_
  refine c_region ?_
  refine o_y (v := .int .i64 (n)) rfl rfl (y_move rfl) ?_
  refine o_y (v := .bool (false)) rfl rfl (y_bool (y_lss rfl rfl rfl) (decide_eq_false (by omega))) ?_
  refine o_y (v := .bool (false)) rfl rfl (y_move rfl) ?_
  refine o_guard (j := 2) (d := 6) (b := false) rfl rfl rfl (fun _ => ?_) rfl (fun h => by cases h)
  refine o_y (v := .int .i64 (n)) rfl rfl (y_move rfl) ?_
  refine o_guard (j := 2) (d := 6) (b := false) rfl rfl rfl (fun _ => ?_) rfl (fun h => by cases h)
  refine o_y (v := .bool (false)) rfl rfl (y_bool (y_gtr rfl rfl rfl) (decide_eq_false (by omega))) ?_
  refine o_y (v := .bool (false)) rfl rfl (y_pick (b := false) rfl rfl) ?_
  refine o_nil ?_
  refine hK3 _ _ ?_
  refine c_cond (t := false) rfl (fun h => by cases h) (fun _ => ?_)
  refine c_skip ?_
  refine hK2 _ _ ?_
  refine c_seq fun K4 hK4 => ?_
  refine c_region ?_
  refine o_y (v := .int .i64 (n)) rfl rfl (y_move rfl) ?_
  refine o_y (v := .agg (LS.enc (newL (n)))) rfl rfl (y_build rfl (by first | kernel_rfl | rfl)) ?_
  refine o_box (v := .agg (LS.enc (newL (n)))) rfl rfl fun g1 => ?_
  refine o_y (v := .pointer (some ⟨g1, 0, none⟩)) rfl rfl (y_assign rfl) ?_
  refine o_y (v := .int .i64 (0)) rfl rfl (y_assign rfl) ?_
  refine o_nil ?_
  refine hK4 _ _ ?_
  refine c_ret ?_
  refine fun w hw => ⟨[.pointer (some ⟨g1, 0, none⟩), .int .i64 (0)], ⟨rfl, rfl, trivial⟩, ?_⟩
  exact ⟨_, (List.Sublist.slnil.cons_cons _), _, rfl, rfl⟩
  first | done | rfl

set_option maxRecDepth 100000 in
set_option maxHeartbeats 4000000 in
theorem f7_NewBad (n : Int) (w : World) (hn : n < 1 ∨ 16 < n) :
    Calls Try.prog 7 [.int .i64 (n)].toArray w fun e w' => e = .returned (.tuple #[.pointer none, .int .i64 (2)]) ∧ Below w.heap.size w w' := by
  refine (calls_of (P := Try.prog) (n := 13) (w0 := w) (S := fun _ => False) (H := []) (T := fun v _ => v = (.tuple #[.pointer none, .int .i64 (2)])) Try.func7 rfl Try.ntmps7 (Nat.le_of_ble_eq_true rfl) [.tmp 2, .tmp 3] rfl (St.nil w _) ?_).mono fun e w' ⟨v, H', he, hs, hT⟩ => ⟨by rw [he, hT], hs.below⟩
  refine c_seq fun K1 hK1 => ?_
  refine c_region ?_
  refine o_y (v := .pointer none) rfl rfl (y_assign rfl) ?_
  refine o_y (v := .int .i64 (0)) rfl rfl (y_assign rfl) ?_
  refine o_nil ?_
  refine hK1 _ _ ?_
  refine c_seq fun K2 hK2 => ?_
  refine c_seq fun K3 hK3 => ?_
  refine c_region ?_
  refine o_y (v := .int .i64 (n)) rfl rfl (y_move rfl) ?_
  refine o_y (v := .bool (decide (n < 1))) rfl rfl (y_lss rfl rfl rfl) ?_
  refine o_y (v := .bool (decide (n < 1))) rfl rfl (y_move rfl) ?_
  cases hc1 : (decide (n < 1) : Bool)
  ·
    have hc1' := of_decide_eq_false hc1
    -- way F
    refine o_guard (j := 2) (d := 6) (b := false) rfl rfl rfl (fun _ => ?_) rfl (fun h => by cases h)
    refine o_y (v := .int .i64 (n)) rfl rfl (y_move rfl) ?_
    refine o_guard (j := 2) (d := 6) (b := false) rfl rfl rfl (fun _ => ?_) rfl (fun h => by cases h)
    refine o_y (v := .bool (decide (16 < n))) rfl rfl (y_gtr rfl rfl rfl) ?_
    refine o_y (v := .bool (decide (16 < n))) rfl rfl (y_pick (b := false) rfl rfl) ?_
    refine o_nil ?_
    refine hK3 _ _ ?_
    refine c_cond (t := decide (16 < n)) rfl (fun hc2 => ?_) (fun hc2 => ?_)
    ·
      replace hc2 := of_decide_eq_true hc2
      -- way FT
      refine c_seq fun K4 hK4 => ?_
      refine c_region ?_
      refine o_y (v := .pointer none) rfl rfl (y_assign rfl) ?_
      refine o_y (v := .int .i64 (2)) rfl rfl (y_assign rfl) ?_
      refine o_nil ?_
      refine hK4 _ _ ?_
      refine c_ret ?_
      refine fun w hw => ⟨[.pointer none, .int .i64 (2)], ⟨rfl, rfl, trivial⟩, ?_⟩
      exact rfl
    ·
      replace hc2 := of_decide_eq_false hc2
      -- way FF
      exfalso; omega
  ·
    have hc1' := of_decide_eq_true hc1
    -- way T
    refine o_guard (j := 2) (d := 6) (b := true) rfl rfl rfl (fun h => by cases h) rfl (fun _ => ?_)
    refine o_guard (j := 2) (d := 6) (b := true) rfl rfl rfl (fun h => by cases h) rfl (fun _ => ?_)
    refine o_y (v := .bool (true)) rfl rfl (y_pick (b := true) rfl rfl) ?_
    refine o_nil ?_
    refine hK3 _ _ ?_
    refine c_cond (t := true) rfl (fun _ => ?_) (fun h => by cases h)
    refine c_seq fun K5 hK5 => ?_
    refine c_region ?_
    refine o_y (v := .pointer none) rfl rfl (y_assign rfl) ?_
    refine o_y (v := .int .i64 (2)) rfl rfl (y_assign rfl) ?_
    refine o_nil ?_
    refine hK5 _ _ ?_
    refine c_ret ?_
    refine fun w hw => ⟨[.pointer none, .int .i64 (2)], ⟨rfl, rfl, trivial⟩, ?_⟩
    exact rfl

set_option maxRecDepth 100000 in
set_option maxHeartbeats 4000000 in
theorem f14_Ints (l1 l2 : List Int) (a1 : Option Addr) (b1 o1 cap1 m1 : Nat) (a2 : Option Addr) (b2 o2 cap2 m2 : Nat) (w : World) (hm1 : m1 = l1.length) (hs1 : Sl eInt w l1 a1 b1 o1 cap1) (hm2 : m2 = l2.length) (hs2 : Sl eInt w l2 a2 b2 o2 cap2) :
    Calls Try.prog 14 [.slice (a1) (m1) (cap1), .slice (a2) (m2) (cap2)].toArray w fun e w' => e = .returned (.bool (decide (l1 = l2))) ∧ Below w.heap.size w w' := by
  subst hm1
  subst hm2
  have hle1 := hs1.le
  have hmx1 := hs1.mx
  have hle2 := hs2.le
  have hmx2 := hs2.mx
  simp only [maxLen] at hmx1 hmx2
  refine (calls_of (P := Try.prog) (n := 26) (w0 := w) (S := fun _ => False) (H := []) (T := fun v _ => v = (.bool (decide (l1 = l2)))) Try.func14 rfl Try.ntmps14 (Nat.le_of_ble_eq_true rfl) [.tmp 4] rfl (St.nil w _) ?_).mono fun e w' ⟨v, H', he, hs, hT⟩ => ⟨by rw [he, hT], hs.below⟩
  refine c_seq fun K1 hK1 => ?_
  refine c_region ?_
  refine o_y (v := .bool (false)) rfl rfl (y_assign rfl) ?_
  refine o_nil ?_
  refine hK1 _ _ ?_
  refine c_seq fun K2 hK2 => ?_
  refine c_seq fun K3 hK3 => ?_
  refine c_region ?_
  refine o_y (v := .slice (a1) ((l1).length) (cap1)) rfl rfl (y_move rfl) ?_
  refine o_y (v := .int .i64 ((((l1).length : Nat) : Int))) rfl rfl (y_len rfl Try.underlying33) ?_
  refine o_y (v := .slice (a2) ((l2).length) (cap2)) rfl rfl (y_move rfl) ?_
  refine o_y (v := .int .i64 ((((l2).length : Nat) : Int))) rfl rfl (y_len rfl Try.underlying33) ?_
  refine o_y (v := .bool (decide ((((l1).length : Nat) : Int) ≠ (((l2).length : Nat) : Int)))) rfl rfl (y_neq rfl rfl rfl) ?_
  refine o_nil ?_
  refine hK3 _ _ ?_
  refine c_cond (t := decide ((((l1).length : Nat) : Int) ≠ (((l2).length : Nat) : Int))) rfl (fun hc1 => ?_) (fun hc1 => ?_)
  ·
    replace hc1 := of_decide_eq_true hc1
    -- way T
    refine c_seq fun K4 hK4 => ?_
    refine c_region ?_
    refine o_y (v := .bool (false)) rfl rfl (y_assign rfl) ?_
    refine o_nil ?_
    refine hK4 _ _ ?_
    refine c_ret ?_
    refine fun w hw => ⟨[.bool (false)], ⟨rfl, trivial⟩, ?_⟩
    exact congrArg Value.bool (Eq.symm (decide_eq_false (by rintro h2; subst h2; first | omega | (simp_all only [not_true_eq_false, ne_eq]; done))))
    first | done | rfl
  ·
    replace hc1 := of_decide_eq_false hc1
    -- way F
    refine c_skip ?_
    refine hK2 _ _ ?_
    refine c_seq fun K5 hK5 => ?_
    refine c_seq fun K6 hK6 => ?_
    refine c_region ?_
    refine o_y (v := .int .i64 (0)) rfl rfl (y_assign rfl) ?_
    refine o_nil ?_
    refine hK6 _ _ ?_
    refine c_block ?_
    refine c_loop (fun d R H => ∃ (j : Nat), d = l1.length - (j) ∧ (j ≤ l1.length) ∧ (l1.length = l2.length) ∧ (l1.take (j) = l2.take (j)) ∧ R 0 = .slice (a1) ((l1).length) (cap1) ∧ R 1 = .slice (a2) ((l2).length) (cap2) ∧ R 5 = .int .i64 (((j : Nat) : Int)) ∧ H = ([] : Hp)) (l1.length - (0)) ?_ ?_
    ·
      refine ⟨0, rfl, by omega, by omega, rfl, rfl, rfl, (ie (a := 0) (b := ((0 : Nat) : Int)) (by omega)), rfl⟩
    ·
      rintro d1 R1 _ ⟨j, hd1, hv1_0, hv1_1, hv1_2, h1_0, h1_1, h1_5, rfl⟩
      refine c_seq fun K7 hK7 => ?_
      refine c_seq fun K8 hK8 => ?_
      refine c_region ?_
      refine o_y (v := .int .i64 (((j : Nat) : Int))) rfl rfl (y_move h1_5) ?_
      refine o_y (v := .slice (a1) ((l1).length) (cap1)) rfl rfl (y_move h1_0) ?_
      refine o_y (v := .int .i64 ((((l1).length : Nat) : Int))) rfl rfl (y_len rfl Try.underlying33) ?_
      refine o_y (v := .bool (decide (((j : Nat) : Int) < (((l1).length : Nat) : Int)))) rfl rfl (y_lss rfl rfl rfl) ?_
      refine o_nil ?_
      refine hK8 _ _ ?_
      refine c_cond (t := decide (((j : Nat) : Int) < (((l1).length : Nat) : Int))) rfl (fun hc2 => ?_) (fun hc2 => ?_)
      ·
        replace hc2 := of_decide_eq_true hc2
        -- way FLT
        refine c_skip ?_
        refine hK7 _ _ ?_
        refine c_seq fun K9 hK9 => ?_
        refine c_block ?_
        refine c_seq fun K10 hK10 => ?_
        refine c_draw 9 (by kernel_rfl) (by kernel_rfl) ?_
        refine q_y (v := .slice (a1) ((l1).length) (cap1)) rfl (y_move h1_0) ?_
        refine q_y (v := .int .i64 (((j : Nat) : Int))) rfl (y_move h1_5) ?_
        refine q_y (v := .pointer (some ⟨b1, o1 + j * 1, none⟩)) rfl (y_ixO j (hs1.at_ (by omega)) rfl rfl Try.underlying33 s3 (by omega) (by first | omega | (simp; done) | (simp; omega))) ?_
        refine q_y (v := .int .i64 ((l1)[j])) rfl (y_load rfl Try.underlying3 rfl (SlG.rd (SlG.old hs1 (fun _ h => h)) j (by first | omega | (simp; done) | (simp; omega)))) ?_
        refine q_y (v := .slice (a2) ((l2).length) (cap2)) rfl (y_move h1_1) ?_
        refine q_y (v := .int .i64 (((j : Nat) : Int))) rfl (y_move h1_5) ?_
        refine q_y (v := .pointer (some ⟨b2, o2 + j * 1, none⟩)) rfl (y_ixO j (hs2.at_ (by omega)) rfl rfl Try.underlying33 s3 (by omega) (by first | omega | (simp; done) | (simp; omega))) ?_
        refine q_y (v := .int .i64 ((l2)[j])) rfl (y_load rfl Try.underlying3 rfl (SlG.rd (SlG.old hs2 (fun _ h => h)) j (by first | omega | (simp; done) | (simp; omega)))) ?_
        refine q_y (v := .bool (decide ((l1)[j] ≠ (l2)[j]))) rfl (y_neq rfl rfl rfl) ?_
        refine q_nil ?_
        refine o_nil ?_
        refine hK10 _ _ ?_
        refine c_cond (t := decide ((l1)[j] ≠ (l2)[j])) rfl (fun hc3 => ?_) (fun hc3 => ?_)
        ·
          replace hc3 := of_decide_eq_true hc3
          -- way FLTT
          refine c_seq fun K11 hK11 => ?_
          refine c_region ?_
          refine o_y (v := .bool (false)) rfl rfl (y_assign rfl) ?_
          refine o_nil ?_
          refine hK11 _ _ ?_
          refine c_ret ?_
          refine fun w hw => ⟨[.bool (false)], ⟨rfl, trivial⟩, ?_⟩
          exact congrArg Value.bool (Eq.symm (decide_eq_false (by rintro h2; subst h2; first | omega | (simp_all only [not_true_eq_false, ne_eq]; done))))
          first | done | rfl
        ·
          replace hc3 := of_decide_eq_false hc3
          -- way FLTF
          refine c_skip ?_
          refine hK9 _ _ ?_
          refine c_region ?_
          refine o_y (v := .int .i64 (((j : Nat) : Int))) rfl rfl (y_move h1_5) ?_
          refine o_y (v := .int .i64 ((((j : Nat) : Int)) + 1)) rfl rfl (y_add rfl rfl (wi_i64 (by omega) (by omega))) ?_
          refine o_y (v := .int .i64 ((((j : Nat) : Int)) + 1)) rfl rfl (y_assign rfl) ?_
          refine o_nil ?_
          refine ⟨_, by omega, j + 1, rfl, by omega, hv1_1, take_next hv1_2 (by omega) (by omega) (by first | assumption | omega), h1_0, h1_1, (ie (a := (((j : Nat) : Int)) + 1) (b := ((j + 1 : Nat) : Int)) (by omega)), rfl⟩
      ·
        replace hc2 := of_decide_eq_false hc2
        -- way FLF
        refine c_exit ?_
        refine hK5 _ _ ?_
        refine c_seq fun K12 hK12 => ?_
        refine c_region ?_
        refine o_y (v := .bool (true)) rfl rfl (y_assign rfl) ?_
        refine o_nil ?_
        refine hK12 _ _ ?_
        refine c_ret ?_
        refine fun w hw => ⟨[.bool (true)], ⟨rfl, trivial⟩, ?_⟩
        exact congrArg Value.bool (Eq.symm (decide_eq_true (take_all hv1_2 (by omega) (by omega))))
        first | done | rfl

end Go.Proofs.Ytediblifbfhahaa.Line
